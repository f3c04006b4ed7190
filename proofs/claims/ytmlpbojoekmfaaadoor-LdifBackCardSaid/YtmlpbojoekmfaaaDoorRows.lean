/-
  NARROWER THAN 'FOR EVERY INPUT', by the rows' own cells (each row's printed sentence says how): FtextReads: laid · LdifPuts: laid · LdifBack: laid · LdifLines: laid.
  DERIVED. THE GIVEN ROWS OF THIS SEAT. 4 by the template 'for every input the law returns true; each argument reads behind the call as it read before'; 0 by the template 'total and deterministic' (their statements: YtmlpbojoekmfaaaDoorTotals.lean).
  GIVEN WITH THE SEED: the statements are not yours to turn. If you find one false, say at which input.
  Laid BY PROGRAM, IN A SANDBOX (cutbox-rows.mjs): the forced cells as the released guide's own fill.sh prints them over the translation 85ab274e5a303831… (all of the seat's roots in one cut). By AI agents, Wed Nov 11 2026. No macro, syntax, notation, axiom, sorry.
-/
import Derived.Test.YtmlpbojoekmfaaaDoorChecked
import GoSem.PinnedTables
import GoSem.Claim
import GoSem.ClaimJoined
import GoSem.ClaimMapViews
import Derived.JoinedTies
import Derived.KernelRfl
namespace Go.Proofs.YtmlpbojoekmfaaaDoor
/- THE CELL 'sum', in the pinned program and in every row, IS THE sha256 OF THE DUMP (.gsa) THAT YtmlpbojoekmfaaaDoorProg.lean LOADS. Nothing in Lean hashes anything: it is a label: what it is worth is what the hold of that sum in a sandbox is worth. -/
noncomputable def Tryd.pinned : Pinned := { name := "ytmlpbojoekmfaaadoor", sum := "85ab274e5a303831b9c686cdf63ed259ec40adfa2ae957d1a7145008813dbeaf", checked := Tryd.checked }
namespace Rows
def none {H : Type} : Left H := { results := [], args := [] }

/- WHAT THE LISTED PACKAGE-LEVEL VARIABLES READ AS WHEN THE CALL BEGINS. Each datum BY PROGRAM (the guide's laid-datum.mjs) off the statement by which the dump's own 'gosem.cut.vars' lays the variable. In a bare row this is a premise. The card (YtmlpbojoekmfaaaDoorCards.lean) ties it to the program's text. -/
def laid_unicode_utf8_acceptRanges {H : Type} : DataW H := .agg [.agg [.lit (.int .u8 128), .lit (.int .u8 191)], .agg [.lit (.int .u8 160), .lit (.int .u8 191)], .agg [.lit (.int .u8 128), .lit (.int .u8 159)], .agg [.lit (.int .u8 144), .lit (.int .u8 191)], .agg [.lit (.int .u8 128), .lit (.int .u8 143)], .agg [.lit (.int .u8 0), .lit (.int .u8 0)], .agg [.lit (.int .u8 0), .lit (.int .u8 0)], .agg [.lit (.int .u8 0), .lit (.int .u8 0)], .agg [.lit (.int .u8 0), .lit (.int .u8 0)], .agg [.lit (.int .u8 0), .lit (.int .u8 0)], .agg [.lit (.int .u8 0), .lit (.int .u8 0)], .agg [.lit (.int .u8 0), .lit (.int .u8 0)], .agg [.lit (.int .u8 0), .lit (.int .u8 0)], .agg [.lit (.int .u8 0), .lit (.int .u8 0)], .agg [.lit (.int .u8 0), .lit (.int .u8 0)], .agg [.lit (.int .u8 0), .lit (.int .u8 0)]]
/-- One of Go's own tables, pinned by name: the form's constant. -/
def laid_unicode_utf8_first : DataW Unit := Go.Pinned.utf8First

/-- 'bothylaw13.FtextReads': WHATEVER THE INPUT: true; the input reads as it did. -/
def ftextReadsSpec : ChangeSpec := { name := "ftextReads", fn := fun _ => fun
  | [d] => { results := [.lit (.bool true)], args := [d] }
  | _ => none }
def ftextReadsRow : OpenClaim := { program := "ytmlpbojoekmfaaadoor", sum := "85ab274e5a303831b9c686cdf63ed259ec40adfa2ae957d1a7145008813dbeaf", func := "bothy/bothylaw13.FtextReads", spec := "ftextReads", inPlace := ["internal/bytealg.IndexByteString", "internal/bytealg.IndexString", "internal/bytealg.CountString", "internal/abi.NoEscape", "internal/bytealg.MakeNoZero"], recurses := true, named := ["internal/bytealg.MaxLen", "unicode/utf8.first", "unicode/utf8.acceptRanges"], apart := false, laid := [("unicode/utf8.acceptRanges", laid_unicode_utf8_acceptRanges), ("unicode/utf8.first", laid_unicode_utf8_first)] }
def FtextReadsSaid : Prop := ftextReadsRow.holds Tryd.pinned (OpenSpec.ofChange ftextReadsSpec)

/-- ITS FALSE NEIGHBOUR: 'it returns false'. Refute it at one input. -/
def ftextReadsWrong : ChangeSpec := { name := "ftextReads", fn := fun _ => fun
  | [d] => { results := [.lit (.bool false)], args := [d] }
  | _ => none }
def FtextReadsWrongFalsely : Prop := ftextReadsRow.holds Tryd.pinned (OpenSpec.ofChange ftextReadsWrong)

/-- 'bothylaw34.LdifPuts': WHATEVER THE INPUT: true; the input reads as it did. -/
def ldifPutsSpec : ChangeSpec := { name := "ldifPuts", fn := fun _ => fun
  | [d1, d2, d3] => { results := [.lit (.bool true)], args := [d1, d2, d3] }
  | _ => none }
def ldifPutsRow : OpenClaim := { program := "ytmlpbojoekmfaaadoor", sum := "85ab274e5a303831b9c686cdf63ed259ec40adfa2ae957d1a7145008813dbeaf", func := "bothy/bothylaw34.LdifPuts", spec := "ldifPuts", inPlace := ["internal/bytealg.IndexByteString", "internal/bytealg.IndexString", "internal/abi.NoEscape", "internal/bytealg.MakeNoZero"], named := ["unicode/utf8.first", "unicode/utf8.acceptRanges", "internal/bytealg.MaxLen"], apart := false, laid := [("unicode/utf8.acceptRanges", laid_unicode_utf8_acceptRanges), ("unicode/utf8.first", laid_unicode_utf8_first)] }
def LdifPutsSaid : Prop := ldifPutsRow.holds Tryd.pinned (OpenSpec.ofChange ldifPutsSpec)

/-- ITS FALSE NEIGHBOUR: 'it returns false'. Refute it at one input. -/
def ldifPutsWrong : ChangeSpec := { name := "ldifPuts", fn := fun _ => fun
  | [d1, d2, d3] => { results := [.lit (.bool false)], args := [d1, d2, d3] }
  | _ => none }
def LdifPutsWrongFalsely : Prop := ldifPutsRow.holds Tryd.pinned (OpenSpec.ofChange ldifPutsWrong)

/-- 'bothylaw34.LdifBack': WHATEVER THE INPUT: true; the input reads as it did. -/
def ldifBackSpec : ChangeSpec := { name := "ldifBack", fn := fun _ => fun
  | [d1, d2] => { results := [.lit (.bool true)], args := [d1, d2] }
  | _ => none }
def ldifBackRow : OpenClaim := { program := "ytmlpbojoekmfaaadoor", sum := "85ab274e5a303831b9c686cdf63ed259ec40adfa2ae957d1a7145008813dbeaf", func := "bothy/bothylaw34.LdifBack", spec := "ldifBack", inPlace := ["internal/bytealg.IndexByteString", "internal/bytealg.IndexString", "internal/abi.NoEscape", "internal/bytealg.MakeNoZero"], named := ["unicode/utf8.first", "unicode/utf8.acceptRanges", "internal/bytealg.MaxLen"], apart := false, laid := [("unicode/utf8.acceptRanges", laid_unicode_utf8_acceptRanges), ("unicode/utf8.first", laid_unicode_utf8_first)] }
def LdifBackSaid : Prop := ldifBackRow.holds Tryd.pinned (OpenSpec.ofChange ldifBackSpec)

/-- ITS FALSE NEIGHBOUR: 'it returns false'. Refute it at one input. -/
def ldifBackWrong : ChangeSpec := { name := "ldifBack", fn := fun _ => fun
  | [d1, d2] => { results := [.lit (.bool false)], args := [d1, d2] }
  | _ => none }
def LdifBackWrongFalsely : Prop := ldifBackRow.holds Tryd.pinned (OpenSpec.ofChange ldifBackWrong)

/-- 'bothylaw34.LdifLines': WHATEVER THE INPUT: true; the input reads as it did. -/
def ldifLinesSpec : ChangeSpec := { name := "ldifLines", fn := fun _ => fun
  | [d] => { results := [.lit (.bool true)], args := [d] }
  | _ => none }
def ldifLinesRow : OpenClaim := { program := "ytmlpbojoekmfaaadoor", sum := "85ab274e5a303831b9c686cdf63ed259ec40adfa2ae957d1a7145008813dbeaf", func := "bothy/bothylaw34.LdifLines", spec := "ldifLines", inPlace := ["internal/bytealg.IndexByteString", "internal/bytealg.IndexString", "internal/abi.NoEscape", "internal/bytealg.MakeNoZero"], named := ["unicode/utf8.first", "unicode/utf8.acceptRanges", "internal/bytealg.MaxLen"], apart := false, laid := [("unicode/utf8.acceptRanges", laid_unicode_utf8_acceptRanges), ("unicode/utf8.first", laid_unicode_utf8_first)] }
def LdifLinesSaid : Prop := ldifLinesRow.holds Tryd.pinned (OpenSpec.ofChange ldifLinesSpec)

/-- ITS FALSE NEIGHBOUR: 'it returns false'. Refute it at one input. -/
def ldifLinesWrong : ChangeSpec := { name := "ldifLines", fn := fun _ => fun
  | [d] => { results := [.lit (.bool false)], args := [d] }
  | _ => none }
def LdifLinesWrongFalsely : Prop := ldifLinesRow.holds Tryd.pinned (OpenSpec.ofChange ldifLinesWrong)

/- THE SECOND FORM. 'bulk': how many values and letters a reading holds, each counted each time it is reached (what is shared counts as often as it is met; a slice's spare places count too). A statement '..UptoSaid' is the law's where the arguments, and the package variables that the reading takes, are together of bulk at most 1048576: NARROWER than '..Said'. Prove '..Said' where nothing that the law and all that it calls make is longer than what came in: it says more and counts as full. Else prove '..UptoSaid'. A law counts once. -/
mutual
def uptoBulk {H : Type} : DataW H → Nat
  | .lit (.string bytes) => bytes.length + 1
  | .lit _ => 1
  | .nil => 1
  | .ptr d => uptoBulk d + 1
  | .slice elems spare => uptoBulkAll elems + uptoBulkAll spare + 1
  | .agg parts => uptoBulkAll parts + 1
  | .iface _ d => uptoBulk d + 1
  | .map entries => uptoBulkEntries entries + 1
  | .held _ => 1
def uptoBulkAll {H : Type} : List (DataW H) → Nat
  | [] => 0
  | d :: r => uptoBulk d + uptoBulkAll r
def uptoBulkEntries {H : Type} : List (Lit × DataW H) → Nat
  | [] => 0
  | x :: r => uptoBulkEntry x + uptoBulkEntries r
def uptoBulkEntry {H : Type} : Lit × DataW H → Nat
  | (.string bytes, d) => bytes.length + uptoBulk d + 1
  | (_, d) => uptoBulk d + 1
 end
def uptoSmall : (H : Type) → List (DataW H) → Bool := fun _ ds => decide (uptoBulkAll ds ≤ 1048576)
def OpenSpec.upto (s : _root_.Go.ChangeSpec) : _root_.Go.OpenSpec := { _root_.Go.OpenSpec.ofChange s with cond := some uptoSmall }

/-- 'bothylaw13.FtextReads', WHERE WHAT IT READS IS OF BULK AT MOST 1048576: true; the input reads as it did. -/
def ftextReadsUptoRow : OpenClaim := { program := "ytmlpbojoekmfaaadoor", sum := "85ab274e5a303831b9c686cdf63ed259ec40adfa2ae957d1a7145008813dbeaf", func := "bothy/bothylaw13.FtextReads", spec := "ftextReads", inPlace := ["internal/bytealg.IndexByteString", "internal/bytealg.IndexString", "internal/bytealg.CountString", "internal/abi.NoEscape", "internal/bytealg.MakeNoZero"], recurses := true, named := ["internal/bytealg.MaxLen", "unicode/utf8.first", "unicode/utf8.acceptRanges"], apart := false, laid := [("unicode/utf8.acceptRanges", laid_unicode_utf8_acceptRanges), ("unicode/utf8.first", laid_unicode_utf8_first)], narrowed := true }
def FtextReadsUptoSaid : Prop := ftextReadsUptoRow.holds Tryd.pinned (OpenSpec.upto ftextReadsSpec)

/-- 'bothylaw34.LdifPuts', WHERE WHAT IT READS IS OF BULK AT MOST 1048576: true; the input reads as it did. -/
def ldifPutsUptoRow : OpenClaim := { program := "ytmlpbojoekmfaaadoor", sum := "85ab274e5a303831b9c686cdf63ed259ec40adfa2ae957d1a7145008813dbeaf", func := "bothy/bothylaw34.LdifPuts", spec := "ldifPuts", inPlace := ["internal/bytealg.IndexByteString", "internal/bytealg.IndexString", "internal/abi.NoEscape", "internal/bytealg.MakeNoZero"], named := ["unicode/utf8.first", "unicode/utf8.acceptRanges", "internal/bytealg.MaxLen"], apart := false, laid := [("unicode/utf8.acceptRanges", laid_unicode_utf8_acceptRanges), ("unicode/utf8.first", laid_unicode_utf8_first)], narrowed := true }
def LdifPutsUptoSaid : Prop := ldifPutsUptoRow.holds Tryd.pinned (OpenSpec.upto ldifPutsSpec)

/-- 'bothylaw34.LdifBack', WHERE WHAT IT READS IS OF BULK AT MOST 1048576: true; the input reads as it did. -/
def ldifBackUptoRow : OpenClaim := { program := "ytmlpbojoekmfaaadoor", sum := "85ab274e5a303831b9c686cdf63ed259ec40adfa2ae957d1a7145008813dbeaf", func := "bothy/bothylaw34.LdifBack", spec := "ldifBack", inPlace := ["internal/bytealg.IndexByteString", "internal/bytealg.IndexString", "internal/abi.NoEscape", "internal/bytealg.MakeNoZero"], named := ["unicode/utf8.first", "unicode/utf8.acceptRanges", "internal/bytealg.MaxLen"], apart := false, laid := [("unicode/utf8.acceptRanges", laid_unicode_utf8_acceptRanges), ("unicode/utf8.first", laid_unicode_utf8_first)], narrowed := true }
def LdifBackUptoSaid : Prop := ldifBackUptoRow.holds Tryd.pinned (OpenSpec.upto ldifBackSpec)

/-- 'bothylaw34.LdifLines', WHERE WHAT IT READS IS OF BULK AT MOST 1048576: true; the input reads as it did. -/
def ldifLinesUptoRow : OpenClaim := { program := "ytmlpbojoekmfaaadoor", sum := "85ab274e5a303831b9c686cdf63ed259ec40adfa2ae957d1a7145008813dbeaf", func := "bothy/bothylaw34.LdifLines", spec := "ldifLines", inPlace := ["internal/bytealg.IndexByteString", "internal/bytealg.IndexString", "internal/abi.NoEscape", "internal/bytealg.MakeNoZero"], named := ["unicode/utf8.first", "unicode/utf8.acceptRanges", "internal/bytealg.MaxLen"], apart := false, laid := [("unicode/utf8.acceptRanges", laid_unicode_utf8_acceptRanges), ("unicode/utf8.first", laid_unicode_utf8_first)], narrowed := true }
def LdifLinesUptoSaid : Prop := ldifLinesUptoRow.holds Tryd.pinned (OpenSpec.upto ldifLinesSpec)

end Rows
end Go.Proofs.YtmlpbojoekmfaaaDoor
