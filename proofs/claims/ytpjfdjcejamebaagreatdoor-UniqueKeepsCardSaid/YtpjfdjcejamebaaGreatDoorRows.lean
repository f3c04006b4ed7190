/-
  NARROWER THAN 'FOR EVERY INPUT', by the rows' own cells (each row's printed sentence says how): SchemaPlain: laid · SchemaNew: laid · SchemaNone: laid · UniqueTells: laid · UniqueKeeps: laid.
  DERIVED. THE GIVEN ROWS OF THIS SEAT. 5 by the template 'for every input the law returns true; each argument reads behind the call as it read before'; 0 by the template 'total and deterministic' (their statements: YtpjfdjcejamebaaGreatDoorTotals.lean).
  GIVEN WITH THE SEED: the statements are not yours to turn. If you find one false, say at which input.
  Laid BY PROGRAM, IN A SANDBOX (cutbox-rows.mjs): the forced cells as the released guide's own fill.sh prints them over the translation 8e6e170351c4cb9a… (all of the seat's roots in one cut). By AI agents, Wed Nov 11 2026. No macro, syntax, notation, axiom, sorry.
-/
import Derived.Test.YtpjfdjcejamebaaGreatDoorChecked
import GoSem.PinnedTables
import GoSem.Claim
import GoSem.ClaimJoined
import GoSem.ClaimMapViews
import Derived.JoinedTies
import Derived.KernelRfl
namespace Go.Proofs.YtpjfdjcejamebaaGreatDoor
/- THE CELL 'sum', in the pinned program and in every row, IS THE sha256 OF THE DUMP (.gsa) THAT YtpjfdjcejamebaaGreatDoorProg.lean LOADS. Nothing in Lean hashes anything: it is a label: what it is worth is what the hold of that sum in a sandbox is worth. -/
noncomputable def Tryz.pinned : Pinned := { name := "ytpjfdjcejamebaagreatdoor", sum := "8e6e170351c4cb9a5f6f044054c7be261c7ea4c0571b9fe4dbf8abe4753957ae", checked := Tryz.checked }
namespace Rows
def none {H : Type} : Left H := { results := [], args := [] }

/- WHAT THE LISTED PACKAGE-LEVEL VARIABLES READ AS WHEN THE CALL BEGINS. Each datum BY PROGRAM (the guide's laid-datum.mjs) off the statement by which the dump's own 'gosem.cut.vars' lays the variable. In a bare row this is a premise. The card (YtpjfdjcejamebaaGreatDoorCards.lean) ties it to the program's text. -/
def laid_unicode_utf8_acceptRanges {H : Type} : DataW H := .agg [.agg [.lit (.int .u8 128), .lit (.int .u8 191)], .agg [.lit (.int .u8 160), .lit (.int .u8 191)], .agg [.lit (.int .u8 128), .lit (.int .u8 159)], .agg [.lit (.int .u8 144), .lit (.int .u8 191)], .agg [.lit (.int .u8 128), .lit (.int .u8 143)], .agg [.lit (.int .u8 0), .lit (.int .u8 0)], .agg [.lit (.int .u8 0), .lit (.int .u8 0)], .agg [.lit (.int .u8 0), .lit (.int .u8 0)], .agg [.lit (.int .u8 0), .lit (.int .u8 0)], .agg [.lit (.int .u8 0), .lit (.int .u8 0)], .agg [.lit (.int .u8 0), .lit (.int .u8 0)], .agg [.lit (.int .u8 0), .lit (.int .u8 0)], .agg [.lit (.int .u8 0), .lit (.int .u8 0)], .agg [.lit (.int .u8 0), .lit (.int .u8 0)], .agg [.lit (.int .u8 0), .lit (.int .u8 0)], .agg [.lit (.int .u8 0), .lit (.int .u8 0)]]
/-- One of Go's own tables, pinned by name: the form's constant. -/
def laid_unicode_utf8_first : DataW Unit := Go.Pinned.utf8First

/-- 'bothylaw09.SchemaPlain': WHATEVER THE INPUT: true; the input reads as it did. -/
def schemaPlainSpec : ChangeSpec := { name := "schemaPlain", fn := fun _ => fun
  | [d1, d2] => { results := [.lit (.bool true)], args := [d1, d2] }
  | _ => none }
def schemaPlainRow : OpenClaim := { program := "ytpjfdjcejamebaagreatdoor", sum := "8e6e170351c4cb9a5f6f044054c7be261c7ea4c0571b9fe4dbf8abe4753957ae", func := "bothy/bothylaw09.SchemaPlain", spec := "schemaPlain", inPlace := ["internal/bytealg.CountString", "internal/bytealg.IndexByteString", "internal/bytealg.IndexString", "internal/abi.NoEscape", "internal/bytealg.MakeNoZero"], unfollowed := true, recurses := true, named := ["unicode/utf8.first", "unicode/utf8.acceptRanges", "internal/bytealg.MaxLen"], apart := false, laid := [("unicode/utf8.acceptRanges", laid_unicode_utf8_acceptRanges), ("unicode/utf8.first", laid_unicode_utf8_first)] }
def SchemaPlainSaid : Prop := schemaPlainRow.holds Tryz.pinned (OpenSpec.ofChange schemaPlainSpec)

/-- ITS FALSE NEIGHBOUR: 'it returns false'. Refute it at one input. -/
def schemaPlainWrong : ChangeSpec := { name := "schemaPlain", fn := fun _ => fun
  | [d1, d2] => { results := [.lit (.bool false)], args := [d1, d2] }
  | _ => none }
def SchemaPlainWrongFalsely : Prop := schemaPlainRow.holds Tryz.pinned (OpenSpec.ofChange schemaPlainWrong)

/-- 'bothylaw09.SchemaNew': WHATEVER THE INPUT: true; the input reads as it did. -/
def schemaNewSpec : ChangeSpec := { name := "schemaNew", fn := fun _ => fun
  | [d1, d2, d3] => { results := [.lit (.bool true)], args := [d1, d2, d3] }
  | _ => none }
def schemaNewRow : OpenClaim := { program := "ytpjfdjcejamebaagreatdoor", sum := "8e6e170351c4cb9a5f6f044054c7be261c7ea4c0571b9fe4dbf8abe4753957ae", func := "bothy/bothylaw09.SchemaNew", spec := "schemaNew", inPlace := ["internal/bytealg.CountString", "internal/bytealg.IndexByteString", "internal/bytealg.IndexString", "internal/abi.NoEscape", "internal/bytealg.MakeNoZero"], unfollowed := true, recurses := true, named := ["unicode/utf8.first", "unicode/utf8.acceptRanges", "internal/bytealg.MaxLen"], apart := false, laid := [("unicode/utf8.acceptRanges", laid_unicode_utf8_acceptRanges), ("unicode/utf8.first", laid_unicode_utf8_first)] }
def SchemaNewSaid : Prop := schemaNewRow.holds Tryz.pinned (OpenSpec.ofChange schemaNewSpec)

/-- ITS FALSE NEIGHBOUR: 'it returns false'. Refute it at one input. -/
def schemaNewWrong : ChangeSpec := { name := "schemaNew", fn := fun _ => fun
  | [d1, d2, d3] => { results := [.lit (.bool false)], args := [d1, d2, d3] }
  | _ => none }
def SchemaNewWrongFalsely : Prop := schemaNewRow.holds Tryz.pinned (OpenSpec.ofChange schemaNewWrong)

/-- 'bothylaw09.SchemaNone': WHATEVER THE INPUT: true; the input reads as it did. -/
def schemaNoneSpec : ChangeSpec := { name := "schemaNone", fn := fun _ => fun
  | [d1, d2] => { results := [.lit (.bool true)], args := [d1, d2] }
  | _ => none }
def schemaNoneRow : OpenClaim := { program := "ytpjfdjcejamebaagreatdoor", sum := "8e6e170351c4cb9a5f6f044054c7be261c7ea4c0571b9fe4dbf8abe4753957ae", func := "bothy/bothylaw09.SchemaNone", spec := "schemaNone", inPlace := ["internal/bytealg.CountString", "internal/bytealg.IndexByteString", "internal/bytealg.IndexString", "internal/abi.NoEscape", "internal/bytealg.MakeNoZero"], unfollowed := true, recurses := true, named := ["unicode/utf8.first", "unicode/utf8.acceptRanges", "internal/bytealg.MaxLen"], apart := false, laid := [("unicode/utf8.acceptRanges", laid_unicode_utf8_acceptRanges), ("unicode/utf8.first", laid_unicode_utf8_first)] }
def SchemaNoneSaid : Prop := schemaNoneRow.holds Tryz.pinned (OpenSpec.ofChange schemaNoneSpec)

/-- ITS FALSE NEIGHBOUR: 'it returns false'. Refute it at one input. -/
def schemaNoneWrong : ChangeSpec := { name := "schemaNone", fn := fun _ => fun
  | [d1, d2] => { results := [.lit (.bool false)], args := [d1, d2] }
  | _ => none }
def SchemaNoneWrongFalsely : Prop := schemaNoneRow.holds Tryz.pinned (OpenSpec.ofChange schemaNoneWrong)

/-- 'bothylaw40.UniqueTells': WHATEVER THE INPUT: true; the input reads as it did. -/
def uniqueTellsSpec : ChangeSpec := { name := "uniqueTells", fn := fun _ => fun
  | [d1, d2, d3] => { results := [.lit (.bool true)], args := [d1, d2, d3] }
  | _ => none }
def uniqueTellsRow : OpenClaim := { program := "ytpjfdjcejamebaagreatdoor", sum := "8e6e170351c4cb9a5f6f044054c7be261c7ea4c0571b9fe4dbf8abe4753957ae", func := "bothy/bothylaw40.UniqueTells", spec := "uniqueTells", inPlace := ["internal/bytealg.IndexByteString", "internal/bytealg.IndexString", "internal/bytealg.CountString", "internal/abi.NoEscape", "internal/bytealg.MakeNoZero", "slices.overlaps[bothy/api.Attr]", "slices.overlaps[string]"], unfollowed := true, recurses := true, named := ["internal/bytealg.MaxLen", "unicode/utf8.first", "unicode/utf8.acceptRanges"], apart := false, laid := [("unicode/utf8.acceptRanges", laid_unicode_utf8_acceptRanges), ("unicode/utf8.first", laid_unicode_utf8_first)] }
def UniqueTellsSaid : Prop := uniqueTellsRow.holds Tryz.pinned (OpenSpec.ofChange uniqueTellsSpec)

/-- ITS FALSE NEIGHBOUR: 'it returns false'. Refute it at one input. -/
def uniqueTellsWrong : ChangeSpec := { name := "uniqueTells", fn := fun _ => fun
  | [d1, d2, d3] => { results := [.lit (.bool false)], args := [d1, d2, d3] }
  | _ => none }
def UniqueTellsWrongFalsely : Prop := uniqueTellsRow.holds Tryz.pinned (OpenSpec.ofChange uniqueTellsWrong)

/-- 'bothylaw40.UniqueKeeps': WHATEVER THE INPUT: true; the input reads as it did. -/
def uniqueKeepsSpec : ChangeSpec := { name := "uniqueKeeps", fn := fun _ => fun
  | [d1, d2] => { results := [.lit (.bool true)], args := [d1, d2] }
  | _ => none }
def uniqueKeepsRow : OpenClaim := { program := "ytpjfdjcejamebaagreatdoor", sum := "8e6e170351c4cb9a5f6f044054c7be261c7ea4c0571b9fe4dbf8abe4753957ae", func := "bothy/bothylaw40.UniqueKeeps", spec := "uniqueKeeps", inPlace := ["internal/bytealg.IndexByteString", "internal/bytealg.IndexString", "internal/bytealg.CountString", "internal/abi.NoEscape", "internal/bytealg.MakeNoZero", "slices.overlaps[bothy/api.Attr]", "slices.overlaps[string]"], unfollowed := true, recurses := true, named := ["internal/bytealg.MaxLen", "unicode/utf8.first", "unicode/utf8.acceptRanges"], apart := false, laid := [("unicode/utf8.acceptRanges", laid_unicode_utf8_acceptRanges), ("unicode/utf8.first", laid_unicode_utf8_first)] }
def UniqueKeepsSaid : Prop := uniqueKeepsRow.holds Tryz.pinned (OpenSpec.ofChange uniqueKeepsSpec)

/-- ITS FALSE NEIGHBOUR: 'it returns false'. Refute it at one input. -/
def uniqueKeepsWrong : ChangeSpec := { name := "uniqueKeeps", fn := fun _ => fun
  | [d1, d2] => { results := [.lit (.bool false)], args := [d1, d2] }
  | _ => none }
def UniqueKeepsWrongFalsely : Prop := uniqueKeepsRow.holds Tryz.pinned (OpenSpec.ofChange uniqueKeepsWrong)

/- THE SECOND FORM. 'bulk': how many values and letters a reading holds, each counted each time it is reached (what is shared counts as often as it is met; a slice's spare places count too). A statement '..UptoSaid' is the law's where the arguments, and the package variables that the reading takes, are together of bulk at most 1048576: NARROWER than '..Said'. Prove '..Said' where nothing that the law and all that it calls make is longer than what came in: it says more and counts as full. Else prove '..UptoSaid'. A law counts once. -/
mutual
def uptoBulk {H : Type} : DataW H → Nat
  | .lit (.string bytes) => bytes.length + 1
  | .lit _ => 1
  | .nil => 1
  | .ptr d => uptoBulk d + 1
  | .slice elems spare => uptoBulkAll elems + uptoBulkAll spare + 1
  | .agg parts => uptoBulkAll parts + 1
  | .iface _ d => uptoBulk d + 1
  | .map entries => uptoBulkEntries entries + 1
  | .held _ => 1
def uptoBulkAll {H : Type} : List (DataW H) → Nat
  | [] => 0
  | d :: r => uptoBulk d + uptoBulkAll r
def uptoBulkEntries {H : Type} : List (Lit × DataW H) → Nat
  | [] => 0
  | x :: r => uptoBulkEntry x + uptoBulkEntries r
def uptoBulkEntry {H : Type} : Lit × DataW H → Nat
  | (.string bytes, d) => bytes.length + uptoBulk d + 1
  | (_, d) => uptoBulk d + 1
 end
def uptoSmall : (H : Type) → List (DataW H) → Bool := fun _ ds => decide (uptoBulkAll ds ≤ 1048576)
def OpenSpec.upto (s : _root_.Go.ChangeSpec) : _root_.Go.OpenSpec := { _root_.Go.OpenSpec.ofChange s with cond := some uptoSmall }

/-- 'bothylaw09.SchemaPlain', WHERE WHAT IT READS IS OF BULK AT MOST 1048576: true; the input reads as it did. -/
def schemaPlainUptoRow : OpenClaim := { program := "ytpjfdjcejamebaagreatdoor", sum := "8e6e170351c4cb9a5f6f044054c7be261c7ea4c0571b9fe4dbf8abe4753957ae", func := "bothy/bothylaw09.SchemaPlain", spec := "schemaPlain", inPlace := ["internal/bytealg.CountString", "internal/bytealg.IndexByteString", "internal/bytealg.IndexString", "internal/abi.NoEscape", "internal/bytealg.MakeNoZero"], unfollowed := true, recurses := true, named := ["unicode/utf8.first", "unicode/utf8.acceptRanges", "internal/bytealg.MaxLen"], apart := false, laid := [("unicode/utf8.acceptRanges", laid_unicode_utf8_acceptRanges), ("unicode/utf8.first", laid_unicode_utf8_first)], narrowed := true }
def SchemaPlainUptoSaid : Prop := schemaPlainUptoRow.holds Tryz.pinned (OpenSpec.upto schemaPlainSpec)

/-- 'bothylaw09.SchemaNew', WHERE WHAT IT READS IS OF BULK AT MOST 1048576: true; the input reads as it did. -/
def schemaNewUptoRow : OpenClaim := { program := "ytpjfdjcejamebaagreatdoor", sum := "8e6e170351c4cb9a5f6f044054c7be261c7ea4c0571b9fe4dbf8abe4753957ae", func := "bothy/bothylaw09.SchemaNew", spec := "schemaNew", inPlace := ["internal/bytealg.CountString", "internal/bytealg.IndexByteString", "internal/bytealg.IndexString", "internal/abi.NoEscape", "internal/bytealg.MakeNoZero"], unfollowed := true, recurses := true, named := ["unicode/utf8.first", "unicode/utf8.acceptRanges", "internal/bytealg.MaxLen"], apart := false, laid := [("unicode/utf8.acceptRanges", laid_unicode_utf8_acceptRanges), ("unicode/utf8.first", laid_unicode_utf8_first)], narrowed := true }
def SchemaNewUptoSaid : Prop := schemaNewUptoRow.holds Tryz.pinned (OpenSpec.upto schemaNewSpec)

/-- 'bothylaw09.SchemaNone', WHERE WHAT IT READS IS OF BULK AT MOST 1048576: true; the input reads as it did. -/
def schemaNoneUptoRow : OpenClaim := { program := "ytpjfdjcejamebaagreatdoor", sum := "8e6e170351c4cb9a5f6f044054c7be261c7ea4c0571b9fe4dbf8abe4753957ae", func := "bothy/bothylaw09.SchemaNone", spec := "schemaNone", inPlace := ["internal/bytealg.CountString", "internal/bytealg.IndexByteString", "internal/bytealg.IndexString", "internal/abi.NoEscape", "internal/bytealg.MakeNoZero"], unfollowed := true, recurses := true, named := ["unicode/utf8.first", "unicode/utf8.acceptRanges", "internal/bytealg.MaxLen"], apart := false, laid := [("unicode/utf8.acceptRanges", laid_unicode_utf8_acceptRanges), ("unicode/utf8.first", laid_unicode_utf8_first)], narrowed := true }
def SchemaNoneUptoSaid : Prop := schemaNoneUptoRow.holds Tryz.pinned (OpenSpec.upto schemaNoneSpec)

/-- 'bothylaw40.UniqueTells', WHERE WHAT IT READS IS OF BULK AT MOST 1048576: true; the input reads as it did. -/
def uniqueTellsUptoRow : OpenClaim := { program := "ytpjfdjcejamebaagreatdoor", sum := "8e6e170351c4cb9a5f6f044054c7be261c7ea4c0571b9fe4dbf8abe4753957ae", func := "bothy/bothylaw40.UniqueTells", spec := "uniqueTells", inPlace := ["internal/bytealg.IndexByteString", "internal/bytealg.IndexString", "internal/bytealg.CountString", "internal/abi.NoEscape", "internal/bytealg.MakeNoZero", "slices.overlaps[bothy/api.Attr]", "slices.overlaps[string]"], unfollowed := true, recurses := true, named := ["internal/bytealg.MaxLen", "unicode/utf8.first", "unicode/utf8.acceptRanges"], apart := false, laid := [("unicode/utf8.acceptRanges", laid_unicode_utf8_acceptRanges), ("unicode/utf8.first", laid_unicode_utf8_first)], narrowed := true }
def UniqueTellsUptoSaid : Prop := uniqueTellsUptoRow.holds Tryz.pinned (OpenSpec.upto uniqueTellsSpec)

/-- 'bothylaw40.UniqueKeeps', WHERE WHAT IT READS IS OF BULK AT MOST 1048576: true; the input reads as it did. -/
def uniqueKeepsUptoRow : OpenClaim := { program := "ytpjfdjcejamebaagreatdoor", sum := "8e6e170351c4cb9a5f6f044054c7be261c7ea4c0571b9fe4dbf8abe4753957ae", func := "bothy/bothylaw40.UniqueKeeps", spec := "uniqueKeeps", inPlace := ["internal/bytealg.IndexByteString", "internal/bytealg.IndexString", "internal/bytealg.CountString", "internal/abi.NoEscape", "internal/bytealg.MakeNoZero", "slices.overlaps[bothy/api.Attr]", "slices.overlaps[string]"], unfollowed := true, recurses := true, named := ["internal/bytealg.MaxLen", "unicode/utf8.first", "unicode/utf8.acceptRanges"], apart := false, laid := [("unicode/utf8.acceptRanges", laid_unicode_utf8_acceptRanges), ("unicode/utf8.first", laid_unicode_utf8_first)], narrowed := true }
def UniqueKeepsUptoSaid : Prop := uniqueKeepsUptoRow.holds Tryz.pinned (OpenSpec.upto uniqueKeepsSpec)

end Rows
end Go.Proofs.YtpjfdjcejamebaaGreatDoor
