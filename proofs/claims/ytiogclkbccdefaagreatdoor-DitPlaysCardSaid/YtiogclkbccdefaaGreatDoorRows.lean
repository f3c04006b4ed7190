/-
  NARROWER THAN 'FOR EVERY INPUT', by the rows' own cells (each row's printed sentence says how): DitFull: laid · DitPlays: laid · DitTree: laid · DitNone: laid · DitBack: laid · RefintPlans: laid · RefintNone: laid.
  DERIVED. THE GIVEN ROWS OF THIS SEAT. 7 by the template 'for every input the law returns true; each argument reads behind the call as it read before'; 0 by the template 'total and deterministic' (their statements: YtiogclkbccdefaaGreatDoorTotals.lean).
  GIVEN WITH THE SEED: the statements are not yours to turn. If you find one false, say at which input.
  Laid BY PROGRAM, IN A SANDBOX (cutbox-rows.mjs): the forced cells as the released guide's own fill.sh prints them over the translation 484a65a1517a92ea… (all of the seat's roots in one cut). By AI agents, Wed Nov 11 2026. No macro, syntax, notation, axiom, sorry.
-/
import Derived.Test.YtiogclkbccdefaaGreatDoorChecked
import GoSem.PinnedTables
import GoSem.Claim
import GoSem.ClaimJoined
import GoSem.ClaimMapViews
import Derived.JoinedTies
import Derived.KernelRfl
namespace Go.Proofs.YtiogclkbccdefaaGreatDoor
/- THE CELL 'sum', in the pinned program and in every row, IS THE sha256 OF THE DUMP (.gsa) THAT YtiogclkbccdefaaGreatDoorProg.lean LOADS. Nothing in Lean hashes anything: it is a label: what it is worth is what the hold of that sum in a sandbox is worth. -/
noncomputable def Tryz.pinned : Pinned := { name := "ytiogclkbccdefaagreatdoor", sum := "484a65a1517a92ea2cb69ed629300eb3a4ce764cd02beee7656ea32314e537e1", checked := Tryz.checked }
namespace Rows
def none {H : Type} : Left H := { results := [], args := [] }

/- WHAT THE LISTED PACKAGE-LEVEL VARIABLES READ AS WHEN THE CALL BEGINS. Each datum BY PROGRAM (the guide's laid-datum.mjs) off the statement by which the dump's own 'gosem.cut.vars' lays the variable. In a bare row this is a premise. The card (YtiogclkbccdefaaGreatDoorCards.lean) ties it to the program's text. -/
def laid_unicode_utf8_acceptRanges {H : Type} : DataW H := .agg [.agg [.lit (.int .u8 128), .lit (.int .u8 191)], .agg [.lit (.int .u8 160), .lit (.int .u8 191)], .agg [.lit (.int .u8 128), .lit (.int .u8 159)], .agg [.lit (.int .u8 144), .lit (.int .u8 191)], .agg [.lit (.int .u8 128), .lit (.int .u8 143)], .agg [.lit (.int .u8 0), .lit (.int .u8 0)], .agg [.lit (.int .u8 0), .lit (.int .u8 0)], .agg [.lit (.int .u8 0), .lit (.int .u8 0)], .agg [.lit (.int .u8 0), .lit (.int .u8 0)], .agg [.lit (.int .u8 0), .lit (.int .u8 0)], .agg [.lit (.int .u8 0), .lit (.int .u8 0)], .agg [.lit (.int .u8 0), .lit (.int .u8 0)], .agg [.lit (.int .u8 0), .lit (.int .u8 0)], .agg [.lit (.int .u8 0), .lit (.int .u8 0)], .agg [.lit (.int .u8 0), .lit (.int .u8 0)], .agg [.lit (.int .u8 0), .lit (.int .u8 0)]]
/-- One of Go's own tables, pinned by name: the form's constant. -/
def laid_unicode_utf8_first : DataW Unit := Go.Pinned.utf8First

/-- 'bothylaw20.DitFull': WHATEVER THE INPUT: true; the input reads as it did. -/
def ditFullSpec : ChangeSpec := { name := "ditFull", fn := fun _ => fun
  | [d] => { results := [.lit (.bool true)], args := [d] }
  | _ => none }
def ditFullRow : OpenClaim := { program := "ytiogclkbccdefaagreatdoor", sum := "484a65a1517a92ea2cb69ed629300eb3a4ce764cd02beee7656ea32314e537e1", func := "bothy/bothylaw20.DitFull", spec := "ditFull", inPlace := ["internal/bytealg.IndexByteString", "internal/bytealg.IndexString", "internal/bytealg.CountString", "internal/abi.NoEscape", "internal/bytealg.MakeNoZero", "slices.overlaps[bothy/api.Attr]", "slices.overlaps[string]", "maps.clone"], unfollowed := true, recurses := true, named := ["internal/bytealg.MaxLen", "unicode/utf8.first", "unicode/utf8.acceptRanges"], apart := false, laid := [("unicode/utf8.acceptRanges", laid_unicode_utf8_acceptRanges), ("unicode/utf8.first", laid_unicode_utf8_first)] }
def DitFullSaid : Prop := ditFullRow.holds Tryz.pinned (OpenSpec.ofChange ditFullSpec)

/-- ITS FALSE NEIGHBOUR: 'it returns false'. Refute it at one input. -/
def ditFullWrong : ChangeSpec := { name := "ditFull", fn := fun _ => fun
  | [d] => { results := [.lit (.bool false)], args := [d] }
  | _ => none }
def DitFullWrongFalsely : Prop := ditFullRow.holds Tryz.pinned (OpenSpec.ofChange ditFullWrong)

/-- 'bothylaw20.DitPlays': WHATEVER THE INPUT: true; the input reads as it did. -/
def ditPlaysSpec : ChangeSpec := { name := "ditPlays", fn := fun _ => fun
  | [d] => { results := [.lit (.bool true)], args := [d] }
  | _ => none }
def ditPlaysRow : OpenClaim := { program := "ytiogclkbccdefaagreatdoor", sum := "484a65a1517a92ea2cb69ed629300eb3a4ce764cd02beee7656ea32314e537e1", func := "bothy/bothylaw20.DitPlays", spec := "ditPlays", inPlace := ["internal/bytealg.IndexByteString", "internal/bytealg.IndexString", "internal/bytealg.CountString", "internal/abi.NoEscape", "internal/bytealg.MakeNoZero", "slices.overlaps[bothy/api.Attr]", "slices.overlaps[string]", "maps.clone"], unfollowed := true, recurses := true, named := ["internal/bytealg.MaxLen", "unicode/utf8.first", "unicode/utf8.acceptRanges"], apart := false, laid := [("unicode/utf8.acceptRanges", laid_unicode_utf8_acceptRanges), ("unicode/utf8.first", laid_unicode_utf8_first)] }
def DitPlaysSaid : Prop := ditPlaysRow.holds Tryz.pinned (OpenSpec.ofChange ditPlaysSpec)

/-- ITS FALSE NEIGHBOUR: 'it returns false'. Refute it at one input. -/
def ditPlaysWrong : ChangeSpec := { name := "ditPlays", fn := fun _ => fun
  | [d] => { results := [.lit (.bool false)], args := [d] }
  | _ => none }
def DitPlaysWrongFalsely : Prop := ditPlaysRow.holds Tryz.pinned (OpenSpec.ofChange ditPlaysWrong)

/-- 'bothylaw20.DitTree': WHATEVER THE INPUT: true; the input reads as it did. -/
def ditTreeSpec : ChangeSpec := { name := "ditTree", fn := fun _ => fun
  | [d] => { results := [.lit (.bool true)], args := [d] }
  | _ => none }
def ditTreeRow : OpenClaim := { program := "ytiogclkbccdefaagreatdoor", sum := "484a65a1517a92ea2cb69ed629300eb3a4ce764cd02beee7656ea32314e537e1", func := "bothy/bothylaw20.DitTree", spec := "ditTree", inPlace := ["internal/bytealg.IndexByteString", "internal/bytealg.IndexString", "internal/bytealg.CountString", "internal/abi.NoEscape", "internal/bytealg.MakeNoZero", "slices.overlaps[bothy/api.Attr]", "slices.overlaps[string]", "maps.clone"], unfollowed := true, recurses := true, named := ["internal/bytealg.MaxLen", "unicode/utf8.first", "unicode/utf8.acceptRanges"], apart := false, laid := [("unicode/utf8.acceptRanges", laid_unicode_utf8_acceptRanges), ("unicode/utf8.first", laid_unicode_utf8_first)] }
def DitTreeSaid : Prop := ditTreeRow.holds Tryz.pinned (OpenSpec.ofChange ditTreeSpec)

/-- ITS FALSE NEIGHBOUR: 'it returns false'. Refute it at one input. -/
def ditTreeWrong : ChangeSpec := { name := "ditTree", fn := fun _ => fun
  | [d] => { results := [.lit (.bool false)], args := [d] }
  | _ => none }
def DitTreeWrongFalsely : Prop := ditTreeRow.holds Tryz.pinned (OpenSpec.ofChange ditTreeWrong)

/-- 'bothylaw20.DitNone': WHATEVER THE INPUT: true; the input reads as it did. -/
def ditNoneSpec : ChangeSpec := { name := "ditNone", fn := fun _ => fun
  | [d] => { results := [.lit (.bool true)], args := [d] }
  | _ => none }
def ditNoneRow : OpenClaim := { program := "ytiogclkbccdefaagreatdoor", sum := "484a65a1517a92ea2cb69ed629300eb3a4ce764cd02beee7656ea32314e537e1", func := "bothy/bothylaw20.DitNone", spec := "ditNone", inPlace := ["slices.overlaps[bothy/api.Attr]", "internal/bytealg.IndexByteString", "internal/bytealg.IndexString", "internal/bytealg.CountString", "internal/abi.NoEscape", "internal/bytealg.MakeNoZero", "slices.overlaps[string]", "maps.clone"], unfollowed := true, recurses := true, named := ["internal/bytealg.MaxLen", "unicode/utf8.first", "unicode/utf8.acceptRanges"], apart := false, laid := [("unicode/utf8.acceptRanges", laid_unicode_utf8_acceptRanges), ("unicode/utf8.first", laid_unicode_utf8_first)] }
def DitNoneSaid : Prop := ditNoneRow.holds Tryz.pinned (OpenSpec.ofChange ditNoneSpec)

/-- ITS FALSE NEIGHBOUR: 'it returns false'. Refute it at one input. -/
def ditNoneWrong : ChangeSpec := { name := "ditNone", fn := fun _ => fun
  | [d] => { results := [.lit (.bool false)], args := [d] }
  | _ => none }
def DitNoneWrongFalsely : Prop := ditNoneRow.holds Tryz.pinned (OpenSpec.ofChange ditNoneWrong)

/-- 'bothylaw20.DitBack': WHATEVER THE INPUT: true; the input reads as it did. -/
def ditBackSpec : ChangeSpec := { name := "ditBack", fn := fun _ => fun
  | [d1, d2] => { results := [.lit (.bool true)], args := [d1, d2] }
  | _ => none }
def ditBackRow : OpenClaim := { program := "ytiogclkbccdefaagreatdoor", sum := "484a65a1517a92ea2cb69ed629300eb3a4ce764cd02beee7656ea32314e537e1", func := "bothy/bothylaw20.DitBack", spec := "ditBack", inPlace := ["internal/bytealg.IndexByteString", "internal/bytealg.IndexString", "internal/bytealg.CountString", "internal/abi.NoEscape", "internal/bytealg.MakeNoZero", "slices.overlaps[bothy/api.Attr]", "slices.overlaps[string]", "maps.clone"], unfollowed := true, recurses := true, named := ["internal/bytealg.MaxLen", "unicode/utf8.first", "unicode/utf8.acceptRanges"], apart := false, laid := [("unicode/utf8.acceptRanges", laid_unicode_utf8_acceptRanges), ("unicode/utf8.first", laid_unicode_utf8_first)] }
def DitBackSaid : Prop := ditBackRow.holds Tryz.pinned (OpenSpec.ofChange ditBackSpec)

/-- ITS FALSE NEIGHBOUR: 'it returns false'. Refute it at one input. -/
def ditBackWrong : ChangeSpec := { name := "ditBack", fn := fun _ => fun
  | [d1, d2] => { results := [.lit (.bool false)], args := [d1, d2] }
  | _ => none }
def DitBackWrongFalsely : Prop := ditBackRow.holds Tryz.pinned (OpenSpec.ofChange ditBackWrong)

/-- 'bothylaw41.RefintPlans': WHATEVER THE INPUT: true; the input reads as it did. -/
def refintPlansSpec : ChangeSpec := { name := "refintPlans", fn := fun _ => fun
  | [d1, d2, d3] => { results := [.lit (.bool true)], args := [d1, d2, d3] }
  | _ => none }
def refintPlansRow : OpenClaim := { program := "ytiogclkbccdefaagreatdoor", sum := "484a65a1517a92ea2cb69ed629300eb3a4ce764cd02beee7656ea32314e537e1", func := "bothy/bothylaw41.RefintPlans", spec := "refintPlans", inPlace := ["internal/bytealg.IndexByteString", "internal/bytealg.IndexString", "internal/bytealg.CountString", "internal/abi.NoEscape", "internal/bytealg.MakeNoZero", "slices.overlaps[bothy/api.Attr]", "slices.overlaps[string]"], unfollowed := true, recurses := true, named := ["internal/bytealg.MaxLen", "unicode/utf8.first", "unicode/utf8.acceptRanges"], apart := false, laid := [("unicode/utf8.acceptRanges", laid_unicode_utf8_acceptRanges), ("unicode/utf8.first", laid_unicode_utf8_first)] }
def RefintPlansSaid : Prop := refintPlansRow.holds Tryz.pinned (OpenSpec.ofChange refintPlansSpec)

/-- ITS FALSE NEIGHBOUR: 'it returns false'. Refute it at one input. -/
def refintPlansWrong : ChangeSpec := { name := "refintPlans", fn := fun _ => fun
  | [d1, d2, d3] => { results := [.lit (.bool false)], args := [d1, d2, d3] }
  | _ => none }
def RefintPlansWrongFalsely : Prop := refintPlansRow.holds Tryz.pinned (OpenSpec.ofChange refintPlansWrong)

/-- 'bothylaw41.RefintNone': WHATEVER THE INPUT: true; the input reads as it did. -/
def refintNoneSpec : ChangeSpec := { name := "refintNone", fn := fun _ => fun
  | [d1, d2] => { results := [.lit (.bool true)], args := [d1, d2] }
  | _ => none }
def refintNoneRow : OpenClaim := { program := "ytiogclkbccdefaagreatdoor", sum := "484a65a1517a92ea2cb69ed629300eb3a4ce764cd02beee7656ea32314e537e1", func := "bothy/bothylaw41.RefintNone", spec := "refintNone", inPlace := ["internal/bytealg.IndexByteString", "internal/bytealg.IndexString", "internal/bytealg.CountString", "internal/abi.NoEscape", "internal/bytealg.MakeNoZero", "slices.overlaps[bothy/api.Attr]", "slices.overlaps[string]"], unfollowed := true, recurses := true, named := ["internal/bytealg.MaxLen", "unicode/utf8.first", "unicode/utf8.acceptRanges"], apart := false, laid := [("unicode/utf8.acceptRanges", laid_unicode_utf8_acceptRanges), ("unicode/utf8.first", laid_unicode_utf8_first)] }
def RefintNoneSaid : Prop := refintNoneRow.holds Tryz.pinned (OpenSpec.ofChange refintNoneSpec)

/-- ITS FALSE NEIGHBOUR: 'it returns false'. Refute it at one input. -/
def refintNoneWrong : ChangeSpec := { name := "refintNone", fn := fun _ => fun
  | [d1, d2] => { results := [.lit (.bool false)], args := [d1, d2] }
  | _ => none }
def RefintNoneWrongFalsely : Prop := refintNoneRow.holds Tryz.pinned (OpenSpec.ofChange refintNoneWrong)

/- THE SECOND FORM. 'bulk': how many values and letters a reading holds, each counted each time it is reached (what is shared counts as often as it is met; a slice's spare places count too). A statement '..UptoSaid' is the law's where the arguments, and the package variables that the reading takes, are together of bulk at most 1048576: NARROWER than '..Said'. Prove '..Said' where nothing that the law and all that it calls make is longer than what came in: it says more and counts as full. Else prove '..UptoSaid'. A law counts once. -/
mutual
def uptoBulk {H : Type} : DataW H → Nat
  | .lit (.string bytes) => bytes.length + 1
  | .lit _ => 1
  | .nil => 1
  | .ptr d => uptoBulk d + 1
  | .slice elems spare => uptoBulkAll elems + uptoBulkAll spare + 1
  | .agg parts => uptoBulkAll parts + 1
  | .iface _ d => uptoBulk d + 1
  | .map entries => uptoBulkEntries entries + 1
  | .held _ => 1
def uptoBulkAll {H : Type} : List (DataW H) → Nat
  | [] => 0
  | d :: r => uptoBulk d + uptoBulkAll r
def uptoBulkEntries {H : Type} : List (Lit × DataW H) → Nat
  | [] => 0
  | x :: r => uptoBulkEntry x + uptoBulkEntries r
def uptoBulkEntry {H : Type} : Lit × DataW H → Nat
  | (.string bytes, d) => bytes.length + uptoBulk d + 1
  | (_, d) => uptoBulk d + 1
 end
def uptoSmall : (H : Type) → List (DataW H) → Bool := fun _ ds => decide (uptoBulkAll ds ≤ 1048576)
def OpenSpec.upto (s : _root_.Go.ChangeSpec) : _root_.Go.OpenSpec := { _root_.Go.OpenSpec.ofChange s with cond := some uptoSmall }

/-- 'bothylaw20.DitFull', WHERE WHAT IT READS IS OF BULK AT MOST 1048576: true; the input reads as it did. -/
def ditFullUptoRow : OpenClaim := { program := "ytiogclkbccdefaagreatdoor", sum := "484a65a1517a92ea2cb69ed629300eb3a4ce764cd02beee7656ea32314e537e1", func := "bothy/bothylaw20.DitFull", spec := "ditFull", inPlace := ["internal/bytealg.IndexByteString", "internal/bytealg.IndexString", "internal/bytealg.CountString", "internal/abi.NoEscape", "internal/bytealg.MakeNoZero", "slices.overlaps[bothy/api.Attr]", "slices.overlaps[string]", "maps.clone"], unfollowed := true, recurses := true, named := ["internal/bytealg.MaxLen", "unicode/utf8.first", "unicode/utf8.acceptRanges"], apart := false, laid := [("unicode/utf8.acceptRanges", laid_unicode_utf8_acceptRanges), ("unicode/utf8.first", laid_unicode_utf8_first)], narrowed := true }
def DitFullUptoSaid : Prop := ditFullUptoRow.holds Tryz.pinned (OpenSpec.upto ditFullSpec)

/-- 'bothylaw20.DitPlays', WHERE WHAT IT READS IS OF BULK AT MOST 1048576: true; the input reads as it did. -/
def ditPlaysUptoRow : OpenClaim := { program := "ytiogclkbccdefaagreatdoor", sum := "484a65a1517a92ea2cb69ed629300eb3a4ce764cd02beee7656ea32314e537e1", func := "bothy/bothylaw20.DitPlays", spec := "ditPlays", inPlace := ["internal/bytealg.IndexByteString", "internal/bytealg.IndexString", "internal/bytealg.CountString", "internal/abi.NoEscape", "internal/bytealg.MakeNoZero", "slices.overlaps[bothy/api.Attr]", "slices.overlaps[string]", "maps.clone"], unfollowed := true, recurses := true, named := ["internal/bytealg.MaxLen", "unicode/utf8.first", "unicode/utf8.acceptRanges"], apart := false, laid := [("unicode/utf8.acceptRanges", laid_unicode_utf8_acceptRanges), ("unicode/utf8.first", laid_unicode_utf8_first)], narrowed := true }
def DitPlaysUptoSaid : Prop := ditPlaysUptoRow.holds Tryz.pinned (OpenSpec.upto ditPlaysSpec)

/-- 'bothylaw20.DitTree', WHERE WHAT IT READS IS OF BULK AT MOST 1048576: true; the input reads as it did. -/
def ditTreeUptoRow : OpenClaim := { program := "ytiogclkbccdefaagreatdoor", sum := "484a65a1517a92ea2cb69ed629300eb3a4ce764cd02beee7656ea32314e537e1", func := "bothy/bothylaw20.DitTree", spec := "ditTree", inPlace := ["internal/bytealg.IndexByteString", "internal/bytealg.IndexString", "internal/bytealg.CountString", "internal/abi.NoEscape", "internal/bytealg.MakeNoZero", "slices.overlaps[bothy/api.Attr]", "slices.overlaps[string]", "maps.clone"], unfollowed := true, recurses := true, named := ["internal/bytealg.MaxLen", "unicode/utf8.first", "unicode/utf8.acceptRanges"], apart := false, laid := [("unicode/utf8.acceptRanges", laid_unicode_utf8_acceptRanges), ("unicode/utf8.first", laid_unicode_utf8_first)], narrowed := true }
def DitTreeUptoSaid : Prop := ditTreeUptoRow.holds Tryz.pinned (OpenSpec.upto ditTreeSpec)

/-- 'bothylaw20.DitNone', WHERE WHAT IT READS IS OF BULK AT MOST 1048576: true; the input reads as it did. -/
def ditNoneUptoRow : OpenClaim := { program := "ytiogclkbccdefaagreatdoor", sum := "484a65a1517a92ea2cb69ed629300eb3a4ce764cd02beee7656ea32314e537e1", func := "bothy/bothylaw20.DitNone", spec := "ditNone", inPlace := ["slices.overlaps[bothy/api.Attr]", "internal/bytealg.IndexByteString", "internal/bytealg.IndexString", "internal/bytealg.CountString", "internal/abi.NoEscape", "internal/bytealg.MakeNoZero", "slices.overlaps[string]", "maps.clone"], unfollowed := true, recurses := true, named := ["internal/bytealg.MaxLen", "unicode/utf8.first", "unicode/utf8.acceptRanges"], apart := false, laid := [("unicode/utf8.acceptRanges", laid_unicode_utf8_acceptRanges), ("unicode/utf8.first", laid_unicode_utf8_first)], narrowed := true }
def DitNoneUptoSaid : Prop := ditNoneUptoRow.holds Tryz.pinned (OpenSpec.upto ditNoneSpec)

/-- 'bothylaw20.DitBack', WHERE WHAT IT READS IS OF BULK AT MOST 1048576: true; the input reads as it did. -/
def ditBackUptoRow : OpenClaim := { program := "ytiogclkbccdefaagreatdoor", sum := "484a65a1517a92ea2cb69ed629300eb3a4ce764cd02beee7656ea32314e537e1", func := "bothy/bothylaw20.DitBack", spec := "ditBack", inPlace := ["internal/bytealg.IndexByteString", "internal/bytealg.IndexString", "internal/bytealg.CountString", "internal/abi.NoEscape", "internal/bytealg.MakeNoZero", "slices.overlaps[bothy/api.Attr]", "slices.overlaps[string]", "maps.clone"], unfollowed := true, recurses := true, named := ["internal/bytealg.MaxLen", "unicode/utf8.first", "unicode/utf8.acceptRanges"], apart := false, laid := [("unicode/utf8.acceptRanges", laid_unicode_utf8_acceptRanges), ("unicode/utf8.first", laid_unicode_utf8_first)], narrowed := true }
def DitBackUptoSaid : Prop := ditBackUptoRow.holds Tryz.pinned (OpenSpec.upto ditBackSpec)

/-- 'bothylaw41.RefintPlans', WHERE WHAT IT READS IS OF BULK AT MOST 1048576: true; the input reads as it did. -/
def refintPlansUptoRow : OpenClaim := { program := "ytiogclkbccdefaagreatdoor", sum := "484a65a1517a92ea2cb69ed629300eb3a4ce764cd02beee7656ea32314e537e1", func := "bothy/bothylaw41.RefintPlans", spec := "refintPlans", inPlace := ["internal/bytealg.IndexByteString", "internal/bytealg.IndexString", "internal/bytealg.CountString", "internal/abi.NoEscape", "internal/bytealg.MakeNoZero", "slices.overlaps[bothy/api.Attr]", "slices.overlaps[string]"], unfollowed := true, recurses := true, named := ["internal/bytealg.MaxLen", "unicode/utf8.first", "unicode/utf8.acceptRanges"], apart := false, laid := [("unicode/utf8.acceptRanges", laid_unicode_utf8_acceptRanges), ("unicode/utf8.first", laid_unicode_utf8_first)], narrowed := true }
def RefintPlansUptoSaid : Prop := refintPlansUptoRow.holds Tryz.pinned (OpenSpec.upto refintPlansSpec)

/-- 'bothylaw41.RefintNone', WHERE WHAT IT READS IS OF BULK AT MOST 1048576: true; the input reads as it did. -/
def refintNoneUptoRow : OpenClaim := { program := "ytiogclkbccdefaagreatdoor", sum := "484a65a1517a92ea2cb69ed629300eb3a4ce764cd02beee7656ea32314e537e1", func := "bothy/bothylaw41.RefintNone", spec := "refintNone", inPlace := ["internal/bytealg.IndexByteString", "internal/bytealg.IndexString", "internal/bytealg.CountString", "internal/abi.NoEscape", "internal/bytealg.MakeNoZero", "slices.overlaps[bothy/api.Attr]", "slices.overlaps[string]"], unfollowed := true, recurses := true, named := ["internal/bytealg.MaxLen", "unicode/utf8.first", "unicode/utf8.acceptRanges"], apart := false, laid := [("unicode/utf8.acceptRanges", laid_unicode_utf8_acceptRanges), ("unicode/utf8.first", laid_unicode_utf8_first)], narrowed := true }
def RefintNoneUptoSaid : Prop := refintNoneUptoRow.holds Tryz.pinned (OpenSpec.upto refintNoneSpec)

end Rows
end Go.Proofs.YtiogclkbccdefaaGreatDoor
