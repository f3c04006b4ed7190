/-
  No cell of these rows narrows 'for every input' (looked for: loops, veiled, ifaces, maps, wideKeys, modest, calm, conditions, laid).
  DERIVED. THE GIVEN ROWS OF THIS SEAT. 10 by the template 'for every input the law returns true; each argument reads behind the call as it read before'; 0 by the template 'total and deterministic' (their statements: YtecfcamlnfmebaaTotals.lean).
  GIVEN WITH THE SEED: the statements are not yours to turn. If you find one false, say at which input.
  Laid BY PROGRAM, IN A SANDBOX (cutbox-rows.mjs): the forced cells as the released guide's own fill.sh prints them over the translation 0f7d01323007b8b3… (all of the seat's roots in one cut). By AI agents, Wed Nov 11 2026. No macro, syntax, notation, axiom, sorry.
-/
import Derived.Test.YtecfcamlnfmebaaChecked
import GoSem.Claim
import GoSem.ClaimJoined
import GoSem.ClaimMapViews
import Derived.JoinedTies
import Derived.KernelRfl
namespace Go.Proofs.Ytecfcamlnfmebaa
/- THE CELL 'sum', in the pinned program and in every row, IS THE sha256 OF THE DUMP (.gsa) THAT YtecfcamlnfmebaaProg.lean LOADS. Nothing in Lean hashes anything: it is a label: what it is worth is what the hold of that sum in a sandbox is worth. -/
noncomputable def Try.pinned : Pinned := { name := "ytecfcamlnfmebaa", sum := "0f7d01323007b8b3a8bb454433b8dfdaf7ea8c5e8797afa12f8cacf4ab5178ce", checked := Try.checked }
namespace Rows
def none {H : Type} : Left H := { results := [], args := [] }

/-- 'bothylaw14.ThreeTells': WHATEVER THE INPUT: true; the input reads as it did. -/
def threeTellsSpec : ChangeSpec := { name := "threeTells", fn := fun _ => fun
  | [d] => { results := [.lit (.bool true)], args := [d] }
  | _ => none }
def threeTellsRow : OpenClaim := { program := "ytecfcamlnfmebaa", sum := "0f7d01323007b8b3a8bb454433b8dfdaf7ea8c5e8797afa12f8cacf4ab5178ce", func := "bothy/bothylaw14.ThreeTells", spec := "threeTells", apart := false }
def ThreeTellsSaid : Prop := threeTellsRow.holds Try.pinned (OpenSpec.ofChange threeTellsSpec)

/-- ITS FALSE NEIGHBOUR: 'it returns false'. Refute it at one input. -/
def threeTellsWrong : ChangeSpec := { name := "threeTells", fn := fun _ => fun
  | [d] => { results := [.lit (.bool false)], args := [d] }
  | _ => none }
def ThreeTellsWrongFalsely : Prop := threeTellsRow.holds Try.pinned (OpenSpec.ofChange threeTellsWrong)

/-- 'bothylaw14.ThreeTurned': WHATEVER THE INPUT: true; the input reads as it did. -/
def threeTurnedSpec : ChangeSpec := { name := "threeTurned", fn := fun _ => fun
  | [d1, d2] => { results := [.lit (.bool true)], args := [d1, d2] }
  | _ => none }
def threeTurnedRow : OpenClaim := { program := "ytecfcamlnfmebaa", sum := "0f7d01323007b8b3a8bb454433b8dfdaf7ea8c5e8797afa12f8cacf4ab5178ce", func := "bothy/bothylaw14.ThreeTurned", spec := "threeTurned", apart := false }
def ThreeTurnedSaid : Prop := threeTurnedRow.holds Try.pinned (OpenSpec.ofChange threeTurnedSpec)

/-- ITS FALSE NEIGHBOUR: 'it returns false'. Refute it at one input. -/
def threeTurnedWrong : ChangeSpec := { name := "threeTurned", fn := fun _ => fun
  | [d1, d2] => { results := [.lit (.bool false)], args := [d1, d2] }
  | _ => none }
def ThreeTurnedWrongFalsely : Prop := threeTurnedRow.holds Try.pinned (OpenSpec.ofChange threeTurnedWrong)

/-- 'bothylaw49.LimitsPlay': WHATEVER THE INPUT: true; the input reads as it did. -/
def limitsPlaySpec : ChangeSpec := { name := "limitsPlay", fn := fun _ => fun
  | [d1, d2, d3] => { results := [.lit (.bool true)], args := [d1, d2, d3] }
  | _ => none }
def limitsPlayRow : OpenClaim := { program := "ytecfcamlnfmebaa", sum := "0f7d01323007b8b3a8bb454433b8dfdaf7ea8c5e8797afa12f8cacf4ab5178ce", func := "bothy/bothylaw49.LimitsPlay", spec := "limitsPlay", apart := false }
def LimitsPlaySaid : Prop := limitsPlayRow.holds Try.pinned (OpenSpec.ofChange limitsPlaySpec)

/-- ITS FALSE NEIGHBOUR: 'it returns false'. Refute it at one input. -/
def limitsPlayWrong : ChangeSpec := { name := "limitsPlay", fn := fun _ => fun
  | [d1, d2, d3] => { results := [.lit (.bool false)], args := [d1, d2, d3] }
  | _ => none }
def LimitsPlayWrongFalsely : Prop := limitsPlayRow.holds Try.pinned (OpenSpec.ofChange limitsPlayWrong)

/-- 'bothylaw49.LimitsHold': WHATEVER THE INPUT: true; the input reads as it did. -/
def limitsHoldSpec : ChangeSpec := { name := "limitsHold", fn := fun _ => fun
  | [d1, d2, d3] => { results := [.lit (.bool true)], args := [d1, d2, d3] }
  | _ => none }
def limitsHoldRow : OpenClaim := { program := "ytecfcamlnfmebaa", sum := "0f7d01323007b8b3a8bb454433b8dfdaf7ea8c5e8797afa12f8cacf4ab5178ce", func := "bothy/bothylaw49.LimitsHold", spec := "limitsHold", apart := false }
def LimitsHoldSaid : Prop := limitsHoldRow.holds Try.pinned (OpenSpec.ofChange limitsHoldSpec)

/-- ITS FALSE NEIGHBOUR: 'it returns false'. Refute it at one input. -/
def limitsHoldWrong : ChangeSpec := { name := "limitsHold", fn := fun _ => fun
  | [d1, d2, d3] => { results := [.lit (.bool false)], args := [d1, d2, d3] }
  | _ => none }
def LimitsHoldWrongFalsely : Prop := limitsHoldRow.holds Try.pinned (OpenSpec.ofChange limitsHoldWrong)

/-- 'bothylaw02.NumTells': WHATEVER THE INPUT: true; the input reads as it did. -/
def numTellsSpec : ChangeSpec := { name := "numTells", fn := fun _ => fun
  | [d1, d2] => { results := [.lit (.bool true)], args := [d1, d2] }
  | _ => none }
def numTellsRow : OpenClaim := { program := "ytecfcamlnfmebaa", sum := "0f7d01323007b8b3a8bb454433b8dfdaf7ea8c5e8797afa12f8cacf4ab5178ce", func := "bothy/bothylaw02.NumTells", spec := "numTells", apart := false }
def NumTellsSaid : Prop := numTellsRow.holds Try.pinned (OpenSpec.ofChange numTellsSpec)

/-- ITS FALSE NEIGHBOUR: 'it returns false'. Refute it at one input. -/
def numTellsWrong : ChangeSpec := { name := "numTells", fn := fun _ => fun
  | [d1, d2] => { results := [.lit (.bool false)], args := [d1, d2] }
  | _ => none }
def NumTellsWrongFalsely : Prop := numTellsRow.holds Try.pinned (OpenSpec.ofChange numTellsWrong)

/-- 'bothylaw02.NumBack': WHATEVER THE INPUT: true; the input reads as it did. -/
def numBackSpec : ChangeSpec := { name := "numBack", fn := fun _ => fun
  | [d1, d2] => { results := [.lit (.bool true)], args := [d1, d2] }
  | _ => none }
def numBackRow : OpenClaim := { program := "ytecfcamlnfmebaa", sum := "0f7d01323007b8b3a8bb454433b8dfdaf7ea8c5e8797afa12f8cacf4ab5178ce", func := "bothy/bothylaw02.NumBack", spec := "numBack", apart := false }
def NumBackSaid : Prop := numBackRow.holds Try.pinned (OpenSpec.ofChange numBackSpec)

/-- ITS FALSE NEIGHBOUR: 'it returns false'. Refute it at one input. -/
def numBackWrong : ChangeSpec := { name := "numBack", fn := fun _ => fun
  | [d1, d2] => { results := [.lit (.bool false)], args := [d1, d2] }
  | _ => none }
def NumBackWrongFalsely : Prop := numBackRow.holds Try.pinned (OpenSpec.ofChange numBackWrong)

/-- 'bothylaw02.NumOrder': WHATEVER THE INPUT: true; the input reads as it did. -/
def numOrderSpec : ChangeSpec := { name := "numOrder", fn := fun _ => fun
  | [d1, d2] => { results := [.lit (.bool true)], args := [d1, d2] }
  | _ => none }
def numOrderRow : OpenClaim := { program := "ytecfcamlnfmebaa", sum := "0f7d01323007b8b3a8bb454433b8dfdaf7ea8c5e8797afa12f8cacf4ab5178ce", func := "bothy/bothylaw02.NumOrder", spec := "numOrder", apart := false }
def NumOrderSaid : Prop := numOrderRow.holds Try.pinned (OpenSpec.ofChange numOrderSpec)

/-- ITS FALSE NEIGHBOUR: 'it returns false'. Refute it at one input. -/
def numOrderWrong : ChangeSpec := { name := "numOrder", fn := fun _ => fun
  | [d1, d2] => { results := [.lit (.bool false)], args := [d1, d2] }
  | _ => none }
def NumOrderWrongFalsely : Prop := numOrderRow.holds Try.pinned (OpenSpec.ofChange numOrderWrong)

/-- 'bothylaw46.SyncPlays': WHATEVER THE INPUT: true; the input reads as it did. -/
def syncPlaysSpec : ChangeSpec := { name := "syncPlays", fn := fun _ => fun
  | [d1, d2, d3] => { results := [.lit (.bool true)], args := [d1, d2, d3] }
  | _ => none }
def syncPlaysRow : OpenClaim := { program := "ytecfcamlnfmebaa", sum := "0f7d01323007b8b3a8bb454433b8dfdaf7ea8c5e8797afa12f8cacf4ab5178ce", func := "bothy/bothylaw46.SyncPlays", spec := "syncPlays", apart := false }
def SyncPlaysSaid : Prop := syncPlaysRow.holds Try.pinned (OpenSpec.ofChange syncPlaysSpec)

/-- ITS FALSE NEIGHBOUR: 'it returns false'. Refute it at one input. -/
def syncPlaysWrong : ChangeSpec := { name := "syncPlays", fn := fun _ => fun
  | [d1, d2, d3] => { results := [.lit (.bool false)], args := [d1, d2, d3] }
  | _ => none }
def SyncPlaysWrongFalsely : Prop := syncPlaysRow.holds Try.pinned (OpenSpec.ofChange syncPlaysWrong)

/-- 'bothylaw46.SyncFollows': WHATEVER THE INPUT: true; the input reads as it did. -/
def syncFollowsSpec : ChangeSpec := { name := "syncFollows", fn := fun _ => fun
  | [d1, d2] => { results := [.lit (.bool true)], args := [d1, d2] }
  | _ => none }
def syncFollowsRow : OpenClaim := { program := "ytecfcamlnfmebaa", sum := "0f7d01323007b8b3a8bb454433b8dfdaf7ea8c5e8797afa12f8cacf4ab5178ce", func := "bothy/bothylaw46.SyncFollows", spec := "syncFollows", apart := false }
def SyncFollowsSaid : Prop := syncFollowsRow.holds Try.pinned (OpenSpec.ofChange syncFollowsSpec)

/-- ITS FALSE NEIGHBOUR: 'it returns false'. Refute it at one input. -/
def syncFollowsWrong : ChangeSpec := { name := "syncFollows", fn := fun _ => fun
  | [d1, d2] => { results := [.lit (.bool false)], args := [d1, d2] }
  | _ => none }
def SyncFollowsWrongFalsely : Prop := syncFollowsRow.holds Try.pinned (OpenSpec.ofChange syncFollowsWrong)

/-- 'bothylaw46.SyncNone': WHATEVER THE INPUT: true; the input reads as it did. -/
def syncNoneSpec : ChangeSpec := { name := "syncNone", fn := fun _ => fun
  | [d] => { results := [.lit (.bool true)], args := [d] }
  | _ => none }
def syncNoneRow : OpenClaim := { program := "ytecfcamlnfmebaa", sum := "0f7d01323007b8b3a8bb454433b8dfdaf7ea8c5e8797afa12f8cacf4ab5178ce", func := "bothy/bothylaw46.SyncNone", spec := "syncNone", apart := false }
def SyncNoneSaid : Prop := syncNoneRow.holds Try.pinned (OpenSpec.ofChange syncNoneSpec)

/-- ITS FALSE NEIGHBOUR: 'it returns false'. Refute it at one input. -/
def syncNoneWrong : ChangeSpec := { name := "syncNone", fn := fun _ => fun
  | [d] => { results := [.lit (.bool false)], args := [d] }
  | _ => none }
def SyncNoneWrongFalsely : Prop := syncNoneRow.holds Try.pinned (OpenSpec.ofChange syncNoneWrong)

/- THE SECOND FORM. 'bulk': how many values and letters a reading holds, each counted each time it is reached (what is shared counts as often as it is met; a slice's spare places count too). A statement '..UptoSaid' is the law's where the arguments, and the package variables that the reading takes, are together of bulk at most 1048576: NARROWER than '..Said'. Prove '..Said' where nothing that the law and all that it calls make is longer than what came in: it says more and counts as full. Else prove '..UptoSaid'. A law counts once. -/
mutual
def uptoBulk {H : Type} : DataW H → Nat
  | .lit (.string bytes) => bytes.length + 1
  | .lit _ => 1
  | .nil => 1
  | .ptr d => uptoBulk d + 1
  | .slice elems spare => uptoBulkAll elems + uptoBulkAll spare + 1
  | .agg parts => uptoBulkAll parts + 1
  | .iface _ d => uptoBulk d + 1
  | .map entries => uptoBulkEntries entries + 1
  | .held _ => 1
def uptoBulkAll {H : Type} : List (DataW H) → Nat
  | [] => 0
  | d :: r => uptoBulk d + uptoBulkAll r
def uptoBulkEntries {H : Type} : List (Lit × DataW H) → Nat
  | [] => 0
  | x :: r => uptoBulkEntry x + uptoBulkEntries r
def uptoBulkEntry {H : Type} : Lit × DataW H → Nat
  | (.string bytes, d) => bytes.length + uptoBulk d + 1
  | (_, d) => uptoBulk d + 1
 end
def uptoSmall : (H : Type) → List (DataW H) → Bool := fun _ ds => decide (uptoBulkAll ds ≤ 1048576)
def OpenSpec.upto (s : _root_.Go.ChangeSpec) : _root_.Go.OpenSpec := { _root_.Go.OpenSpec.ofChange s with cond := some uptoSmall }

/-- 'bothylaw14.ThreeTells', WHERE WHAT IT READS IS OF BULK AT MOST 1048576: true; the input reads as it did. -/
def threeTellsUptoRow : OpenClaim := { program := "ytecfcamlnfmebaa", sum := "0f7d01323007b8b3a8bb454433b8dfdaf7ea8c5e8797afa12f8cacf4ab5178ce", func := "bothy/bothylaw14.ThreeTells", spec := "threeTells", apart := false, narrowed := true }
def ThreeTellsUptoSaid : Prop := threeTellsUptoRow.holds Try.pinned (OpenSpec.upto threeTellsSpec)

/-- 'bothylaw14.ThreeTurned', WHERE WHAT IT READS IS OF BULK AT MOST 1048576: true; the input reads as it did. -/
def threeTurnedUptoRow : OpenClaim := { program := "ytecfcamlnfmebaa", sum := "0f7d01323007b8b3a8bb454433b8dfdaf7ea8c5e8797afa12f8cacf4ab5178ce", func := "bothy/bothylaw14.ThreeTurned", spec := "threeTurned", apart := false, narrowed := true }
def ThreeTurnedUptoSaid : Prop := threeTurnedUptoRow.holds Try.pinned (OpenSpec.upto threeTurnedSpec)

/-- 'bothylaw49.LimitsPlay', WHERE WHAT IT READS IS OF BULK AT MOST 1048576: true; the input reads as it did. -/
def limitsPlayUptoRow : OpenClaim := { program := "ytecfcamlnfmebaa", sum := "0f7d01323007b8b3a8bb454433b8dfdaf7ea8c5e8797afa12f8cacf4ab5178ce", func := "bothy/bothylaw49.LimitsPlay", spec := "limitsPlay", apart := false, narrowed := true }
def LimitsPlayUptoSaid : Prop := limitsPlayUptoRow.holds Try.pinned (OpenSpec.upto limitsPlaySpec)

/-- 'bothylaw49.LimitsHold', WHERE WHAT IT READS IS OF BULK AT MOST 1048576: true; the input reads as it did. -/
def limitsHoldUptoRow : OpenClaim := { program := "ytecfcamlnfmebaa", sum := "0f7d01323007b8b3a8bb454433b8dfdaf7ea8c5e8797afa12f8cacf4ab5178ce", func := "bothy/bothylaw49.LimitsHold", spec := "limitsHold", apart := false, narrowed := true }
def LimitsHoldUptoSaid : Prop := limitsHoldUptoRow.holds Try.pinned (OpenSpec.upto limitsHoldSpec)

/-- 'bothylaw02.NumTells', WHERE WHAT IT READS IS OF BULK AT MOST 1048576: true; the input reads as it did. -/
def numTellsUptoRow : OpenClaim := { program := "ytecfcamlnfmebaa", sum := "0f7d01323007b8b3a8bb454433b8dfdaf7ea8c5e8797afa12f8cacf4ab5178ce", func := "bothy/bothylaw02.NumTells", spec := "numTells", apart := false, narrowed := true }
def NumTellsUptoSaid : Prop := numTellsUptoRow.holds Try.pinned (OpenSpec.upto numTellsSpec)

/-- 'bothylaw02.NumBack', WHERE WHAT IT READS IS OF BULK AT MOST 1048576: true; the input reads as it did. -/
def numBackUptoRow : OpenClaim := { program := "ytecfcamlnfmebaa", sum := "0f7d01323007b8b3a8bb454433b8dfdaf7ea8c5e8797afa12f8cacf4ab5178ce", func := "bothy/bothylaw02.NumBack", spec := "numBack", apart := false, narrowed := true }
def NumBackUptoSaid : Prop := numBackUptoRow.holds Try.pinned (OpenSpec.upto numBackSpec)

/-- 'bothylaw02.NumOrder', WHERE WHAT IT READS IS OF BULK AT MOST 1048576: true; the input reads as it did. -/
def numOrderUptoRow : OpenClaim := { program := "ytecfcamlnfmebaa", sum := "0f7d01323007b8b3a8bb454433b8dfdaf7ea8c5e8797afa12f8cacf4ab5178ce", func := "bothy/bothylaw02.NumOrder", spec := "numOrder", apart := false, narrowed := true }
def NumOrderUptoSaid : Prop := numOrderUptoRow.holds Try.pinned (OpenSpec.upto numOrderSpec)

/-- 'bothylaw46.SyncPlays', WHERE WHAT IT READS IS OF BULK AT MOST 1048576: true; the input reads as it did. -/
def syncPlaysUptoRow : OpenClaim := { program := "ytecfcamlnfmebaa", sum := "0f7d01323007b8b3a8bb454433b8dfdaf7ea8c5e8797afa12f8cacf4ab5178ce", func := "bothy/bothylaw46.SyncPlays", spec := "syncPlays", apart := false, narrowed := true }
def SyncPlaysUptoSaid : Prop := syncPlaysUptoRow.holds Try.pinned (OpenSpec.upto syncPlaysSpec)

/-- 'bothylaw46.SyncFollows', WHERE WHAT IT READS IS OF BULK AT MOST 1048576: true; the input reads as it did. -/
def syncFollowsUptoRow : OpenClaim := { program := "ytecfcamlnfmebaa", sum := "0f7d01323007b8b3a8bb454433b8dfdaf7ea8c5e8797afa12f8cacf4ab5178ce", func := "bothy/bothylaw46.SyncFollows", spec := "syncFollows", apart := false, narrowed := true }
def SyncFollowsUptoSaid : Prop := syncFollowsUptoRow.holds Try.pinned (OpenSpec.upto syncFollowsSpec)

/-- 'bothylaw46.SyncNone', WHERE WHAT IT READS IS OF BULK AT MOST 1048576: true; the input reads as it did. -/
def syncNoneUptoRow : OpenClaim := { program := "ytecfcamlnfmebaa", sum := "0f7d01323007b8b3a8bb454433b8dfdaf7ea8c5e8797afa12f8cacf4ab5178ce", func := "bothy/bothylaw46.SyncNone", spec := "syncNone", apart := false, narrowed := true }
def SyncNoneUptoSaid : Prop := syncNoneUptoRow.holds Try.pinned (OpenSpec.upto syncNoneSpec)

end Rows
end Go.Proofs.Ytecfcamlnfmebaa
