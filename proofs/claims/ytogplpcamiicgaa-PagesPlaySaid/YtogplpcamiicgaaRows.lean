/-
  No cell of these rows narrows 'for every input' (looked for: loops, veiled, ifaces, maps, wideKeys, modest, calm, conditions, laid).
  DERIVED. THE GIVEN ROWS OF THIS SEAT. 9 by the template 'for every input the law returns true; each argument reads behind the call as it read before'; 0 by the template 'total and deterministic' (their statements: YtogplpcamiicgaaTotals.lean).
  GIVEN WITH THE SEED: the statements are not yours to turn. If you find one false, say at which input.
  Laid BY PROGRAM, IN A SANDBOX (cutbox-rows.mjs): the forced cells as the released guide's own fill.sh prints them over the translation a718c9b022002256… (all of the seat's roots in one cut). By AI agents, Wed Nov 11 2026. No macro, syntax, notation, axiom, sorry.
-/
import Derived.Test.YtogplpcamiicgaaChecked
import GoSem.Claim
import GoSem.ClaimJoined
import GoSem.ClaimMapViews
import Derived.JoinedTies
import Derived.KernelRfl
namespace Go.Proofs.Ytogplpcamiicgaa
/- THE CELL 'sum', in the pinned program and in every row, IS THE sha256 OF THE DUMP (.gsa) THAT YtogplpcamiicgaaProg.lean LOADS. Nothing in Lean hashes anything: it is a label: what it is worth is what the hold of that sum in a sandbox is worth. -/
noncomputable def Try.pinned : Pinned := { name := "ytogplpcamiicgaa", sum := "a718c9b022002256e929e24a8a294e0f22ec5640fc9b886b43c73ddb537cd402", checked := Try.checked }
namespace Rows
def none {H : Type} : Left H := { results := [], args := [] }

/-- 'bothylaw38.PagesPlay': WHATEVER THE INPUT: true; the input reads as it did. -/
def pagesPlaySpec : ChangeSpec := { name := "pagesPlay", fn := fun _ => fun
  | [d1, d2] => { results := [.lit (.bool true)], args := [d1, d2] }
  | _ => none }
def pagesPlayRow : OpenClaim := { program := "ytogplpcamiicgaa", sum := "a718c9b022002256e929e24a8a294e0f22ec5640fc9b886b43c73ddb537cd402", func := "bothy/bothylaw38.PagesPlay", spec := "pagesPlay", apart := false }
def PagesPlaySaid : Prop := pagesPlayRow.holds Try.pinned (OpenSpec.ofChange pagesPlaySpec)

/-- ITS FALSE NEIGHBOUR: 'it returns false'. Refute it at one input. -/
def pagesPlayWrong : ChangeSpec := { name := "pagesPlay", fn := fun _ => fun
  | [d1, d2] => { results := [.lit (.bool false)], args := [d1, d2] }
  | _ => none }
def PagesPlayWrongFalsely : Prop := pagesPlayRow.holds Try.pinned (OpenSpec.ofChange pagesPlayWrong)

/-- 'bothylaw38.PagesNone': WHATEVER THE INPUT: true; the input reads as it did. -/
def pagesNoneSpec : ChangeSpec := { name := "pagesNone", fn := fun _ => fun
  | [d] => { results := [.lit (.bool true)], args := [d] }
  | _ => none }
def pagesNoneRow : OpenClaim := { program := "ytogplpcamiicgaa", sum := "a718c9b022002256e929e24a8a294e0f22ec5640fc9b886b43c73ddb537cd402", func := "bothy/bothylaw38.PagesNone", spec := "pagesNone", apart := false }
def PagesNoneSaid : Prop := pagesNoneRow.holds Try.pinned (OpenSpec.ofChange pagesNoneSpec)

/-- ITS FALSE NEIGHBOUR: 'it returns false'. Refute it at one input. -/
def pagesNoneWrong : ChangeSpec := { name := "pagesNone", fn := fun _ => fun
  | [d] => { results := [.lit (.bool false)], args := [d] }
  | _ => none }
def PagesNoneWrongFalsely : Prop := pagesNoneRow.holds Try.pinned (OpenSpec.ofChange pagesNoneWrong)

/-- 'bothylaw38.PagesAll': WHATEVER THE INPUT: true; the input reads as it did. -/
def pagesAllSpec : ChangeSpec := { name := "pagesAll", fn := fun _ => fun
  | [d1, d2] => { results := [.lit (.bool true)], args := [d1, d2] }
  | _ => none }
def pagesAllRow : OpenClaim := { program := "ytogplpcamiicgaa", sum := "a718c9b022002256e929e24a8a294e0f22ec5640fc9b886b43c73ddb537cd402", func := "bothy/bothylaw38.PagesAll", spec := "pagesAll", apart := false }
def PagesAllSaid : Prop := pagesAllRow.holds Try.pinned (OpenSpec.ofChange pagesAllSpec)

/-- ITS FALSE NEIGHBOUR: 'it returns false'. Refute it at one input. -/
def pagesAllWrong : ChangeSpec := { name := "pagesAll", fn := fun _ => fun
  | [d1, d2] => { results := [.lit (.bool false)], args := [d1, d2] }
  | _ => none }
def PagesAllWrongFalsely : Prop := pagesAllRow.holds Try.pinned (OpenSpec.ofChange pagesAllWrong)

/-- 'bothylaw48.PolicyGood': WHATEVER THE INPUT: true; the input reads as it did. -/
def policyGoodSpec : ChangeSpec := { name := "policyGood", fn := fun _ => fun
  | [d1, d2, d3] => { results := [.lit (.bool true)], args := [d1, d2, d3] }
  | _ => none }
def policyGoodRow : OpenClaim := { program := "ytogplpcamiicgaa", sum := "a718c9b022002256e929e24a8a294e0f22ec5640fc9b886b43c73ddb537cd402", func := "bothy/bothylaw48.PolicyGood", spec := "policyGood", apart := false }
def PolicyGoodSaid : Prop := policyGoodRow.holds Try.pinned (OpenSpec.ofChange policyGoodSpec)

/-- ITS FALSE NEIGHBOUR: 'it returns false'. Refute it at one input. -/
def policyGoodWrong : ChangeSpec := { name := "policyGood", fn := fun _ => fun
  | [d1, d2, d3] => { results := [.lit (.bool false)], args := [d1, d2, d3] }
  | _ => none }
def PolicyGoodWrongFalsely : Prop := policyGoodRow.holds Try.pinned (OpenSpec.ofChange policyGoodWrong)

/-- 'bothylaw48.PolicyAgain': WHATEVER THE INPUT: true; the input reads as it did. -/
def policyAgainSpec : ChangeSpec := { name := "policyAgain", fn := fun _ => fun
  | [d1, d2, d3] => { results := [.lit (.bool true)], args := [d1, d2, d3] }
  | _ => none }
def policyAgainRow : OpenClaim := { program := "ytogplpcamiicgaa", sum := "a718c9b022002256e929e24a8a294e0f22ec5640fc9b886b43c73ddb537cd402", func := "bothy/bothylaw48.PolicyAgain", spec := "policyAgain", apart := false }
def PolicyAgainSaid : Prop := policyAgainRow.holds Try.pinned (OpenSpec.ofChange policyAgainSpec)

/-- ITS FALSE NEIGHBOUR: 'it returns false'. Refute it at one input. -/
def policyAgainWrong : ChangeSpec := { name := "policyAgain", fn := fun _ => fun
  | [d1, d2, d3] => { results := [.lit (.bool false)], args := [d1, d2, d3] }
  | _ => none }
def PolicyAgainWrongFalsely : Prop := policyAgainRow.holds Try.pinned (OpenSpec.ofChange policyAgainWrong)

/-- 'bothylaw48.PolicyLess': WHATEVER THE INPUT: true; the input reads as it did. -/
def policyLessSpec : ChangeSpec := { name := "policyLess", fn := fun _ => fun
  | [d1, d2, d3] => { results := [.lit (.bool true)], args := [d1, d2, d3] }
  | _ => none }
def policyLessRow : OpenClaim := { program := "ytogplpcamiicgaa", sum := "a718c9b022002256e929e24a8a294e0f22ec5640fc9b886b43c73ddb537cd402", func := "bothy/bothylaw48.PolicyLess", spec := "policyLess", apart := false }
def PolicyLessSaid : Prop := policyLessRow.holds Try.pinned (OpenSpec.ofChange policyLessSpec)

/-- ITS FALSE NEIGHBOUR: 'it returns false'. Refute it at one input. -/
def policyLessWrong : ChangeSpec := { name := "policyLess", fn := fun _ => fun
  | [d1, d2, d3] => { results := [.lit (.bool false)], args := [d1, d2, d3] }
  | _ => none }
def PolicyLessWrongFalsely : Prop := policyLessRow.holds Try.pinned (OpenSpec.ofChange policyLessWrong)

/-- 'bothylaw36.StampPuts': WHATEVER THE INPUT: true; the input reads as it did. -/
def stampPutsSpec : ChangeSpec := { name := "stampPuts", fn := fun _ => fun
  | [d] => { results := [.lit (.bool true)], args := [d] }
  | _ => none }
def stampPutsRow : OpenClaim := { program := "ytogplpcamiicgaa", sum := "a718c9b022002256e929e24a8a294e0f22ec5640fc9b886b43c73ddb537cd402", func := "bothy/bothylaw36.StampPuts", spec := "stampPuts", unfollowed := true, recurses := true, apart := false }
def StampPutsSaid : Prop := stampPutsRow.holds Try.pinned (OpenSpec.ofChange stampPutsSpec)

/-- ITS FALSE NEIGHBOUR: 'it returns false'. Refute it at one input. -/
def stampPutsWrong : ChangeSpec := { name := "stampPuts", fn := fun _ => fun
  | [d] => { results := [.lit (.bool false)], args := [d] }
  | _ => none }
def StampPutsWrongFalsely : Prop := stampPutsRow.holds Try.pinned (OpenSpec.ofChange stampPutsWrong)

/-- 'bothylaw36.StampBack': WHATEVER THE INPUT: true; the input reads as it did. -/
def stampBackSpec : ChangeSpec := { name := "stampBack", fn := fun _ => fun
  | [d1, d2] => { results := [.lit (.bool true)], args := [d1, d2] }
  | _ => none }
def stampBackRow : OpenClaim := { program := "ytogplpcamiicgaa", sum := "a718c9b022002256e929e24a8a294e0f22ec5640fc9b886b43c73ddb537cd402", func := "bothy/bothylaw36.StampBack", spec := "stampBack", unfollowed := true, recurses := true, apart := false }
def StampBackSaid : Prop := stampBackRow.holds Try.pinned (OpenSpec.ofChange stampBackSpec)

/-- ITS FALSE NEIGHBOUR: 'it returns false'. Refute it at one input. -/
def stampBackWrong : ChangeSpec := { name := "stampBack", fn := fun _ => fun
  | [d1, d2] => { results := [.lit (.bool false)], args := [d1, d2] }
  | _ => none }
def StampBackWrongFalsely : Prop := stampBackRow.holds Try.pinned (OpenSpec.ofChange stampBackWrong)

/-- 'bothylaw36.StampOrder': WHATEVER THE INPUT: true; the input reads as it did. -/
def stampOrderSpec : ChangeSpec := { name := "stampOrder", fn := fun _ => fun
  | [d1, d2] => { results := [.lit (.bool true)], args := [d1, d2] }
  | _ => none }
def stampOrderRow : OpenClaim := { program := "ytogplpcamiicgaa", sum := "a718c9b022002256e929e24a8a294e0f22ec5640fc9b886b43c73ddb537cd402", func := "bothy/bothylaw36.StampOrder", spec := "stampOrder", unfollowed := true, recurses := true, apart := false }
def StampOrderSaid : Prop := stampOrderRow.holds Try.pinned (OpenSpec.ofChange stampOrderSpec)

/-- ITS FALSE NEIGHBOUR: 'it returns false'. Refute it at one input. -/
def stampOrderWrong : ChangeSpec := { name := "stampOrder", fn := fun _ => fun
  | [d1, d2] => { results := [.lit (.bool false)], args := [d1, d2] }
  | _ => none }
def StampOrderWrongFalsely : Prop := stampOrderRow.holds Try.pinned (OpenSpec.ofChange stampOrderWrong)

/- THE SECOND FORM. 'bulk': how many values and letters a reading holds, each counted each time it is reached (what is shared counts as often as it is met; a slice's spare places count too). A statement '..UptoSaid' is the law's where the arguments, and the package variables that the reading takes, are together of bulk at most 1048576: NARROWER than '..Said'. Prove '..Said' where nothing that the law and all that it calls make is longer than what came in: it says more and counts as full. Else prove '..UptoSaid'. A law counts once. -/
mutual
def uptoBulk {H : Type} : DataW H → Nat
  | .lit (.string bytes) => bytes.length + 1
  | .lit _ => 1
  | .nil => 1
  | .ptr d => uptoBulk d + 1
  | .slice elems spare => uptoBulkAll elems + uptoBulkAll spare + 1
  | .agg parts => uptoBulkAll parts + 1
  | .iface _ d => uptoBulk d + 1
  | .map entries => uptoBulkEntries entries + 1
  | .held _ => 1
def uptoBulkAll {H : Type} : List (DataW H) → Nat
  | [] => 0
  | d :: r => uptoBulk d + uptoBulkAll r
def uptoBulkEntries {H : Type} : List (Lit × DataW H) → Nat
  | [] => 0
  | x :: r => uptoBulkEntry x + uptoBulkEntries r
def uptoBulkEntry {H : Type} : Lit × DataW H → Nat
  | (.string bytes, d) => bytes.length + uptoBulk d + 1
  | (_, d) => uptoBulk d + 1
 end
def uptoSmall : (H : Type) → List (DataW H) → Bool := fun _ ds => decide (uptoBulkAll ds ≤ 1048576)
def OpenSpec.upto (s : _root_.Go.ChangeSpec) : _root_.Go.OpenSpec := { _root_.Go.OpenSpec.ofChange s with cond := some uptoSmall }

/-- 'bothylaw38.PagesPlay', WHERE WHAT IT READS IS OF BULK AT MOST 1048576: true; the input reads as it did. -/
def pagesPlayUptoRow : OpenClaim := { program := "ytogplpcamiicgaa", sum := "a718c9b022002256e929e24a8a294e0f22ec5640fc9b886b43c73ddb537cd402", func := "bothy/bothylaw38.PagesPlay", spec := "pagesPlay", apart := false, narrowed := true }
def PagesPlayUptoSaid : Prop := pagesPlayUptoRow.holds Try.pinned (OpenSpec.upto pagesPlaySpec)

/-- 'bothylaw38.PagesNone', WHERE WHAT IT READS IS OF BULK AT MOST 1048576: true; the input reads as it did. -/
def pagesNoneUptoRow : OpenClaim := { program := "ytogplpcamiicgaa", sum := "a718c9b022002256e929e24a8a294e0f22ec5640fc9b886b43c73ddb537cd402", func := "bothy/bothylaw38.PagesNone", spec := "pagesNone", apart := false, narrowed := true }
def PagesNoneUptoSaid : Prop := pagesNoneUptoRow.holds Try.pinned (OpenSpec.upto pagesNoneSpec)

/-- 'bothylaw38.PagesAll', WHERE WHAT IT READS IS OF BULK AT MOST 1048576: true; the input reads as it did. -/
def pagesAllUptoRow : OpenClaim := { program := "ytogplpcamiicgaa", sum := "a718c9b022002256e929e24a8a294e0f22ec5640fc9b886b43c73ddb537cd402", func := "bothy/bothylaw38.PagesAll", spec := "pagesAll", apart := false, narrowed := true }
def PagesAllUptoSaid : Prop := pagesAllUptoRow.holds Try.pinned (OpenSpec.upto pagesAllSpec)

/-- 'bothylaw48.PolicyGood', WHERE WHAT IT READS IS OF BULK AT MOST 1048576: true; the input reads as it did. -/
def policyGoodUptoRow : OpenClaim := { program := "ytogplpcamiicgaa", sum := "a718c9b022002256e929e24a8a294e0f22ec5640fc9b886b43c73ddb537cd402", func := "bothy/bothylaw48.PolicyGood", spec := "policyGood", apart := false, narrowed := true }
def PolicyGoodUptoSaid : Prop := policyGoodUptoRow.holds Try.pinned (OpenSpec.upto policyGoodSpec)

/-- 'bothylaw48.PolicyAgain', WHERE WHAT IT READS IS OF BULK AT MOST 1048576: true; the input reads as it did. -/
def policyAgainUptoRow : OpenClaim := { program := "ytogplpcamiicgaa", sum := "a718c9b022002256e929e24a8a294e0f22ec5640fc9b886b43c73ddb537cd402", func := "bothy/bothylaw48.PolicyAgain", spec := "policyAgain", apart := false, narrowed := true }
def PolicyAgainUptoSaid : Prop := policyAgainUptoRow.holds Try.pinned (OpenSpec.upto policyAgainSpec)

/-- 'bothylaw48.PolicyLess', WHERE WHAT IT READS IS OF BULK AT MOST 1048576: true; the input reads as it did. -/
def policyLessUptoRow : OpenClaim := { program := "ytogplpcamiicgaa", sum := "a718c9b022002256e929e24a8a294e0f22ec5640fc9b886b43c73ddb537cd402", func := "bothy/bothylaw48.PolicyLess", spec := "policyLess", apart := false, narrowed := true }
def PolicyLessUptoSaid : Prop := policyLessUptoRow.holds Try.pinned (OpenSpec.upto policyLessSpec)

/-- 'bothylaw36.StampPuts', WHERE WHAT IT READS IS OF BULK AT MOST 1048576: true; the input reads as it did. -/
def stampPutsUptoRow : OpenClaim := { program := "ytogplpcamiicgaa", sum := "a718c9b022002256e929e24a8a294e0f22ec5640fc9b886b43c73ddb537cd402", func := "bothy/bothylaw36.StampPuts", spec := "stampPuts", unfollowed := true, recurses := true, apart := false, narrowed := true }
def StampPutsUptoSaid : Prop := stampPutsUptoRow.holds Try.pinned (OpenSpec.upto stampPutsSpec)

/-- 'bothylaw36.StampBack', WHERE WHAT IT READS IS OF BULK AT MOST 1048576: true; the input reads as it did. -/
def stampBackUptoRow : OpenClaim := { program := "ytogplpcamiicgaa", sum := "a718c9b022002256e929e24a8a294e0f22ec5640fc9b886b43c73ddb537cd402", func := "bothy/bothylaw36.StampBack", spec := "stampBack", unfollowed := true, recurses := true, apart := false, narrowed := true }
def StampBackUptoSaid : Prop := stampBackUptoRow.holds Try.pinned (OpenSpec.upto stampBackSpec)

/-- 'bothylaw36.StampOrder', WHERE WHAT IT READS IS OF BULK AT MOST 1048576: true; the input reads as it did. -/
def stampOrderUptoRow : OpenClaim := { program := "ytogplpcamiicgaa", sum := "a718c9b022002256e929e24a8a294e0f22ec5640fc9b886b43c73ddb537cd402", func := "bothy/bothylaw36.StampOrder", spec := "stampOrder", unfollowed := true, recurses := true, apart := false, narrowed := true }
def StampOrderUptoSaid : Prop := stampOrderUptoRow.holds Try.pinned (OpenSpec.upto stampOrderSpec)

end Rows
end Go.Proofs.Ytogplpcamiicgaa
