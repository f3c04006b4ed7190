/-
  No cell of these rows narrows 'for every input' (looked for: loops, veiled, ifaces, maps, wideKeys, modest, calm, conditions, laid).
  DERIVED. THE GIVEN ROWS OF THIS SEAT. 10 by the template 'for every input the law returns true; each argument reads behind the call as it read before'; 0 by the template 'total and deterministic' (their statements: YtogmbfaijmhamaaTotals.lean).
  GIVEN WITH THE SEED: the statements are not yours to turn. If you find one false, say at which input.
  Laid BY PROGRAM, IN A SANDBOX (cutbox-rows.mjs): the forced cells as the released guide's own fill.sh prints them over the translation ef322a37da432557… (all of the seat's roots in one cut). By AI agents, Wed Nov 11 2026. No macro, syntax, notation, axiom, sorry.
-/
import Derived.Test.YtogmbfaijmhamaaChecked
import GoSem.Claim
import GoSem.ClaimJoined
import GoSem.ClaimMapViews
import Derived.JoinedTies
import Derived.KernelRfl
namespace Go.Proofs.Ytogmbfaijmhamaa
/- THE CELL 'sum', in the pinned program and in every row, IS THE sha256 OF THE DUMP (.gsa) THAT YtogmbfaijmhamaaProg.lean LOADS. Nothing in Lean hashes anything: it is a label: what it is worth is what the hold of that sum in a sandbox is worth. -/
noncomputable def Try.pinned : Pinned := { name := "ytogmbfaijmhamaa", sum := "ef322a37da43255722f585d3710f96846828a59e12e12f0ab4167e4a5f346aed", checked := Try.checked }
namespace Rows
def none {H : Type} : Left H := { results := [], args := [] }

/-- 'bothylaw01.BerPuts': WHATEVER THE INPUT: true; the input reads as it did. -/
def berPutsSpec : ChangeSpec := { name := "berPuts", fn := fun _ => fun
  | [d1, d2] => { results := [.lit (.bool true)], args := [d1, d2] }
  | _ => none }
def berPutsRow : OpenClaim := { program := "ytogmbfaijmhamaa", sum := "ef322a37da43255722f585d3710f96846828a59e12e12f0ab4167e4a5f346aed", func := "bothy/bothylaw01.BerPuts", spec := "berPuts", apart := false }
def BerPutsSaid : Prop := berPutsRow.holds Try.pinned (OpenSpec.ofChange berPutsSpec)

/-- ITS FALSE NEIGHBOUR: 'it returns false'. Refute it at one input. -/
def berPutsWrong : ChangeSpec := { name := "berPuts", fn := fun _ => fun
  | [d1, d2] => { results := [.lit (.bool false)], args := [d1, d2] }
  | _ => none }
def BerPutsWrongFalsely : Prop := berPutsRow.holds Try.pinned (OpenSpec.ofChange berPutsWrong)

/-- 'bothylaw01.BerReads': WHATEVER THE INPUT: true; the input reads as it did. -/
def berReadsSpec : ChangeSpec := { name := "berReads", fn := fun _ => fun
  | [d] => { results := [.lit (.bool true)], args := [d] }
  | _ => none }
def berReadsRow : OpenClaim := { program := "ytogmbfaijmhamaa", sum := "ef322a37da43255722f585d3710f96846828a59e12e12f0ab4167e4a5f346aed", func := "bothy/bothylaw01.BerReads", spec := "berReads", apart := false }
def BerReadsSaid : Prop := berReadsRow.holds Try.pinned (OpenSpec.ofChange berReadsSpec)

/-- ITS FALSE NEIGHBOUR: 'it returns false'. Refute it at one input. -/
def berReadsWrong : ChangeSpec := { name := "berReads", fn := fun _ => fun
  | [d] => { results := [.lit (.bool false)], args := [d] }
  | _ => none }
def BerReadsWrongFalsely : Prop := berReadsRow.holds Try.pinned (OpenSpec.ofChange berReadsWrong)

/-- 'bothylaw01.BerBack': WHATEVER THE INPUT: true; the input reads as it did. -/
def berBackSpec : ChangeSpec := { name := "berBack", fn := fun _ => fun
  | [d1, d2, d3] => { results := [.lit (.bool true)], args := [d1, d2, d3] }
  | _ => none }
def berBackRow : OpenClaim := { program := "ytogmbfaijmhamaa", sum := "ef322a37da43255722f585d3710f96846828a59e12e12f0ab4167e4a5f346aed", func := "bothy/bothylaw01.BerBack", spec := "berBack", apart := false }
def BerBackSaid : Prop := berBackRow.holds Try.pinned (OpenSpec.ofChange berBackSpec)

/-- ITS FALSE NEIGHBOUR: 'it returns false'. Refute it at one input. -/
def berBackWrong : ChangeSpec := { name := "berBack", fn := fun _ => fun
  | [d1, d2, d3] => { results := [.lit (.bool false)], args := [d1, d2, d3] }
  | _ => none }
def BerBackWrongFalsely : Prop := berBackRow.holds Try.pinned (OpenSpec.ofChange berBackWrong)

/-- 'bothylaw01.BerLength': WHATEVER THE INPUT: true; the input reads as it did. -/
def berLengthSpec : ChangeSpec := { name := "berLength", fn := fun _ => fun
  | [d1, d2, d3] => { results := [.lit (.bool true)], args := [d1, d2, d3] }
  | _ => none }
def berLengthRow : OpenClaim := { program := "ytogmbfaijmhamaa", sum := "ef322a37da43255722f585d3710f96846828a59e12e12f0ab4167e4a5f346aed", func := "bothy/bothylaw01.BerLength", spec := "berLength", apart := false }
def BerLengthSaid : Prop := berLengthRow.holds Try.pinned (OpenSpec.ofChange berLengthSpec)

/-- ITS FALSE NEIGHBOUR: 'it returns false'. Refute it at one input. -/
def berLengthWrong : ChangeSpec := { name := "berLength", fn := fun _ => fun
  | [d1, d2, d3] => { results := [.lit (.bool false)], args := [d1, d2, d3] }
  | _ => none }
def BerLengthWrongFalsely : Prop := berLengthRow.holds Try.pinned (OpenSpec.ofChange berLengthWrong)

/-- 'bothylaw04.FramePlays': WHATEVER THE INPUT: true; the input reads as it did. -/
def framePlaysSpec : ChangeSpec := { name := "framePlays", fn := fun _ => fun
  | [d1, d2] => { results := [.lit (.bool true)], args := [d1, d2] }
  | _ => none }
def framePlaysRow : OpenClaim := { program := "ytogmbfaijmhamaa", sum := "ef322a37da43255722f585d3710f96846828a59e12e12f0ab4167e4a5f346aed", func := "bothy/bothylaw04.FramePlays", spec := "framePlays", apart := false }
def FramePlaysSaid : Prop := framePlaysRow.holds Try.pinned (OpenSpec.ofChange framePlaysSpec)

/-- ITS FALSE NEIGHBOUR: 'it returns false'. Refute it at one input. -/
def framePlaysWrong : ChangeSpec := { name := "framePlays", fn := fun _ => fun
  | [d1, d2] => { results := [.lit (.bool false)], args := [d1, d2] }
  | _ => none }
def FramePlaysWrongFalsely : Prop := framePlaysRow.holds Try.pinned (OpenSpec.ofChange framePlaysWrong)

/-- 'bothylaw04.FramePieces': WHATEVER THE INPUT: true; the input reads as it did. -/
def framePiecesSpec : ChangeSpec := { name := "framePieces", fn := fun _ => fun
  | [d1, d2] => { results := [.lit (.bool true)], args := [d1, d2] }
  | _ => none }
def framePiecesRow : OpenClaim := { program := "ytogmbfaijmhamaa", sum := "ef322a37da43255722f585d3710f96846828a59e12e12f0ab4167e4a5f346aed", func := "bothy/bothylaw04.FramePieces", spec := "framePieces", apart := false }
def FramePiecesSaid : Prop := framePiecesRow.holds Try.pinned (OpenSpec.ofChange framePiecesSpec)

/-- ITS FALSE NEIGHBOUR: 'it returns false'. Refute it at one input. -/
def framePiecesWrong : ChangeSpec := { name := "framePieces", fn := fun _ => fun
  | [d1, d2] => { results := [.lit (.bool false)], args := [d1, d2] }
  | _ => none }
def FramePiecesWrongFalsely : Prop := framePiecesRow.holds Try.pinned (OpenSpec.ofChange framePiecesWrong)

/-- 'bothylaw04.FrameNone': WHATEVER THE INPUT: true; the input reads as it did. -/
def frameNoneSpec : ChangeSpec := { name := "frameNone", fn := fun _ => fun
  | [d] => { results := [.lit (.bool true)], args := [d] }
  | _ => none }
def frameNoneRow : OpenClaim := { program := "ytogmbfaijmhamaa", sum := "ef322a37da43255722f585d3710f96846828a59e12e12f0ab4167e4a5f346aed", func := "bothy/bothylaw04.FrameNone", spec := "frameNone", apart := false }
def FrameNoneSaid : Prop := frameNoneRow.holds Try.pinned (OpenSpec.ofChange frameNoneSpec)

/-- ITS FALSE NEIGHBOUR: 'it returns false'. Refute it at one input. -/
def frameNoneWrong : ChangeSpec := { name := "frameNone", fn := fun _ => fun
  | [d] => { results := [.lit (.bool false)], args := [d] }
  | _ => none }
def FrameNoneWrongFalsely : Prop := frameNoneRow.holds Try.pinned (OpenSpec.ofChange frameNoneWrong)

/-- 'bothylaw03.TreeChecks': WHATEVER THE INPUT: true; the input reads as it did. -/
def treeChecksSpec : ChangeSpec := { name := "treeChecks", fn := fun _ => fun
  | [d1, d2] => { results := [.lit (.bool true)], args := [d1, d2] }
  | _ => none }
def treeChecksRow : OpenClaim := { program := "ytogmbfaijmhamaa", sum := "ef322a37da43255722f585d3710f96846828a59e12e12f0ab4167e4a5f346aed", func := "bothy/bothylaw03.TreeChecks", spec := "treeChecks", inPlace := ["internal/abi.NoEscape", "internal/bytealg.MakeNoZero"], recurses := true, apart := false }
def TreeChecksSaid : Prop := treeChecksRow.holds Try.pinned (OpenSpec.ofChange treeChecksSpec)

/-- ITS FALSE NEIGHBOUR: 'it returns false'. Refute it at one input. -/
def treeChecksWrong : ChangeSpec := { name := "treeChecks", fn := fun _ => fun
  | [d1, d2] => { results := [.lit (.bool false)], args := [d1, d2] }
  | _ => none }
def TreeChecksWrongFalsely : Prop := treeChecksRow.holds Try.pinned (OpenSpec.ofChange treeChecksWrong)

/-- 'bothylaw03.TreeParts': WHATEVER THE INPUT: true; the input reads as it did. -/
def treePartsSpec : ChangeSpec := { name := "treeParts", fn := fun _ => fun
  | [d1, d2, d3] => { results := [.lit (.bool true)], args := [d1, d2, d3] }
  | _ => none }
def treePartsRow : OpenClaim := { program := "ytogmbfaijmhamaa", sum := "ef322a37da43255722f585d3710f96846828a59e12e12f0ab4167e4a5f346aed", func := "bothy/bothylaw03.TreeParts", spec := "treeParts", inPlace := ["internal/abi.NoEscape", "internal/bytealg.MakeNoZero"], recurses := true, apart := false }
def TreePartsSaid : Prop := treePartsRow.holds Try.pinned (OpenSpec.ofChange treePartsSpec)

/-- ITS FALSE NEIGHBOUR: 'it returns false'. Refute it at one input. -/
def treePartsWrong : ChangeSpec := { name := "treeParts", fn := fun _ => fun
  | [d1, d2, d3] => { results := [.lit (.bool false)], args := [d1, d2, d3] }
  | _ => none }
def TreePartsWrongFalsely : Prop := treePartsRow.holds Try.pinned (OpenSpec.ofChange treePartsWrong)

/-- 'bothylaw03.TreeNests': WHATEVER THE INPUT: true; the input reads as it did. -/
def treeNestsSpec : ChangeSpec := { name := "treeNests", fn := fun _ => fun
  | [d] => { results := [.lit (.bool true)], args := [d] }
  | _ => none }
def treeNestsRow : OpenClaim := { program := "ytogmbfaijmhamaa", sum := "ef322a37da43255722f585d3710f96846828a59e12e12f0ab4167e4a5f346aed", func := "bothy/bothylaw03.TreeNests", spec := "treeNests", inPlace := ["internal/abi.NoEscape", "internal/bytealg.MakeNoZero"], recurses := true, apart := false }
def TreeNestsSaid : Prop := treeNestsRow.holds Try.pinned (OpenSpec.ofChange treeNestsSpec)

/-- ITS FALSE NEIGHBOUR: 'it returns false'. Refute it at one input. -/
def treeNestsWrong : ChangeSpec := { name := "treeNests", fn := fun _ => fun
  | [d] => { results := [.lit (.bool false)], args := [d] }
  | _ => none }
def TreeNestsWrongFalsely : Prop := treeNestsRow.holds Try.pinned (OpenSpec.ofChange treeNestsWrong)

/- THE SECOND FORM. 'bulk': how many values and letters a reading holds, each counted each time it is reached (what is shared counts as often as it is met; a slice's spare places count too). A statement '..UptoSaid' is the law's where the arguments, and the package variables that the reading takes, are together of bulk at most 1048576: NARROWER than '..Said'. Prove '..Said' where nothing that the law and all that it calls make is longer than what came in: it says more and counts as full. Else prove '..UptoSaid'. A law counts once. -/
mutual
def uptoBulk {H : Type} : DataW H → Nat
  | .lit (.string bytes) => bytes.length + 1
  | .lit _ => 1
  | .nil => 1
  | .ptr d => uptoBulk d + 1
  | .slice elems spare => uptoBulkAll elems + uptoBulkAll spare + 1
  | .agg parts => uptoBulkAll parts + 1
  | .iface _ d => uptoBulk d + 1
  | .map entries => uptoBulkEntries entries + 1
  | .held _ => 1
def uptoBulkAll {H : Type} : List (DataW H) → Nat
  | [] => 0
  | d :: r => uptoBulk d + uptoBulkAll r
def uptoBulkEntries {H : Type} : List (Lit × DataW H) → Nat
  | [] => 0
  | x :: r => uptoBulkEntry x + uptoBulkEntries r
def uptoBulkEntry {H : Type} : Lit × DataW H → Nat
  | (.string bytes, d) => bytes.length + uptoBulk d + 1
  | (_, d) => uptoBulk d + 1
 end
def uptoSmall : (H : Type) → List (DataW H) → Bool := fun _ ds => decide (uptoBulkAll ds ≤ 1048576)
def OpenSpec.upto (s : _root_.Go.ChangeSpec) : _root_.Go.OpenSpec := { _root_.Go.OpenSpec.ofChange s with cond := some uptoSmall }

/-- 'bothylaw01.BerPuts', WHERE WHAT IT READS IS OF BULK AT MOST 1048576: true; the input reads as it did. -/
def berPutsUptoRow : OpenClaim := { program := "ytogmbfaijmhamaa", sum := "ef322a37da43255722f585d3710f96846828a59e12e12f0ab4167e4a5f346aed", func := "bothy/bothylaw01.BerPuts", spec := "berPuts", apart := false, narrowed := true }
def BerPutsUptoSaid : Prop := berPutsUptoRow.holds Try.pinned (OpenSpec.upto berPutsSpec)

/-- 'bothylaw01.BerReads', WHERE WHAT IT READS IS OF BULK AT MOST 1048576: true; the input reads as it did. -/
def berReadsUptoRow : OpenClaim := { program := "ytogmbfaijmhamaa", sum := "ef322a37da43255722f585d3710f96846828a59e12e12f0ab4167e4a5f346aed", func := "bothy/bothylaw01.BerReads", spec := "berReads", apart := false, narrowed := true }
def BerReadsUptoSaid : Prop := berReadsUptoRow.holds Try.pinned (OpenSpec.upto berReadsSpec)

/-- 'bothylaw01.BerBack', WHERE WHAT IT READS IS OF BULK AT MOST 1048576: true; the input reads as it did. -/
def berBackUptoRow : OpenClaim := { program := "ytogmbfaijmhamaa", sum := "ef322a37da43255722f585d3710f96846828a59e12e12f0ab4167e4a5f346aed", func := "bothy/bothylaw01.BerBack", spec := "berBack", apart := false, narrowed := true }
def BerBackUptoSaid : Prop := berBackUptoRow.holds Try.pinned (OpenSpec.upto berBackSpec)

/-- 'bothylaw01.BerLength', WHERE WHAT IT READS IS OF BULK AT MOST 1048576: true; the input reads as it did. -/
def berLengthUptoRow : OpenClaim := { program := "ytogmbfaijmhamaa", sum := "ef322a37da43255722f585d3710f96846828a59e12e12f0ab4167e4a5f346aed", func := "bothy/bothylaw01.BerLength", spec := "berLength", apart := false, narrowed := true }
def BerLengthUptoSaid : Prop := berLengthUptoRow.holds Try.pinned (OpenSpec.upto berLengthSpec)

/-- 'bothylaw04.FramePlays', WHERE WHAT IT READS IS OF BULK AT MOST 1048576: true; the input reads as it did. -/
def framePlaysUptoRow : OpenClaim := { program := "ytogmbfaijmhamaa", sum := "ef322a37da43255722f585d3710f96846828a59e12e12f0ab4167e4a5f346aed", func := "bothy/bothylaw04.FramePlays", spec := "framePlays", apart := false, narrowed := true }
def FramePlaysUptoSaid : Prop := framePlaysUptoRow.holds Try.pinned (OpenSpec.upto framePlaysSpec)

/-- 'bothylaw04.FramePieces', WHERE WHAT IT READS IS OF BULK AT MOST 1048576: true; the input reads as it did. -/
def framePiecesUptoRow : OpenClaim := { program := "ytogmbfaijmhamaa", sum := "ef322a37da43255722f585d3710f96846828a59e12e12f0ab4167e4a5f346aed", func := "bothy/bothylaw04.FramePieces", spec := "framePieces", apart := false, narrowed := true }
def FramePiecesUptoSaid : Prop := framePiecesUptoRow.holds Try.pinned (OpenSpec.upto framePiecesSpec)

/-- 'bothylaw04.FrameNone', WHERE WHAT IT READS IS OF BULK AT MOST 1048576: true; the input reads as it did. -/
def frameNoneUptoRow : OpenClaim := { program := "ytogmbfaijmhamaa", sum := "ef322a37da43255722f585d3710f96846828a59e12e12f0ab4167e4a5f346aed", func := "bothy/bothylaw04.FrameNone", spec := "frameNone", apart := false, narrowed := true }
def FrameNoneUptoSaid : Prop := frameNoneUptoRow.holds Try.pinned (OpenSpec.upto frameNoneSpec)

/-- 'bothylaw03.TreeChecks', WHERE WHAT IT READS IS OF BULK AT MOST 1048576: true; the input reads as it did. -/
def treeChecksUptoRow : OpenClaim := { program := "ytogmbfaijmhamaa", sum := "ef322a37da43255722f585d3710f96846828a59e12e12f0ab4167e4a5f346aed", func := "bothy/bothylaw03.TreeChecks", spec := "treeChecks", inPlace := ["internal/abi.NoEscape", "internal/bytealg.MakeNoZero"], recurses := true, apart := false, narrowed := true }
def TreeChecksUptoSaid : Prop := treeChecksUptoRow.holds Try.pinned (OpenSpec.upto treeChecksSpec)

/-- 'bothylaw03.TreeParts', WHERE WHAT IT READS IS OF BULK AT MOST 1048576: true; the input reads as it did. -/
def treePartsUptoRow : OpenClaim := { program := "ytogmbfaijmhamaa", sum := "ef322a37da43255722f585d3710f96846828a59e12e12f0ab4167e4a5f346aed", func := "bothy/bothylaw03.TreeParts", spec := "treeParts", inPlace := ["internal/abi.NoEscape", "internal/bytealg.MakeNoZero"], recurses := true, apart := false, narrowed := true }
def TreePartsUptoSaid : Prop := treePartsUptoRow.holds Try.pinned (OpenSpec.upto treePartsSpec)

/-- 'bothylaw03.TreeNests', WHERE WHAT IT READS IS OF BULK AT MOST 1048576: true; the input reads as it did. -/
def treeNestsUptoRow : OpenClaim := { program := "ytogmbfaijmhamaa", sum := "ef322a37da43255722f585d3710f96846828a59e12e12f0ab4167e4a5f346aed", func := "bothy/bothylaw03.TreeNests", spec := "treeNests", inPlace := ["internal/abi.NoEscape", "internal/bytealg.MakeNoZero"], recurses := true, apart := false, narrowed := true }
def TreeNestsUptoSaid : Prop := treeNestsUptoRow.holds Try.pinned (OpenSpec.upto treeNestsSpec)

end Rows
end Go.Proofs.Ytogmbfaijmhamaa
