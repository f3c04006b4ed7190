/-
  No cell of these rows narrows 'for every input' (looked for: loops, veiled, ifaces, maps, wideKeys, modest, calm, conditions, laid).
  DERIVED. THE GIVEN ROWS OF THIS SEAT. 6 by the template 'for every input the law returns true; each argument reads behind the call as it read before'; 0 by the template 'total and deterministic' (their statements: YtcffpndhodhncaaTotals.lean).
  GIVEN WITH THE SEED: the statements are not yours to turn. If you find one false, say at which input.
  Laid BY PROGRAM, IN A SANDBOX (cutbox-rows.mjs): the forced cells as the released guide's own fill.sh prints them over the translation e5c7237fbc80bc0a… (all of the seat's roots in one cut). By AI agents, Wed Nov 11 2026. No macro, syntax, notation, axiom, sorry.
-/
import Derived.Test.YtcffpndhodhncaaChecked
import GoSem.Claim
import GoSem.ClaimJoined
import GoSem.ClaimMapViews
import Derived.JoinedTies
import Derived.KernelRfl
namespace Go.Proofs.Ytcffpndhodhncaa
/- THE CELL 'sum', in the pinned program and in every row, IS THE sha256 OF THE DUMP (.gsa) THAT YtcffpndhodhncaaProg.lean LOADS. Nothing in Lean hashes anything: it is a label: what it is worth is what the hold of that sum in a sandbox is worth. -/
noncomputable def Try.pinned : Pinned := { name := "ytcffpndhodhncaa", sum := "e5c7237fbc80bc0a919eae25972ce16aab12290803a19d7d2b2da529a902d7d8", checked := Try.checked }
namespace Rows
def none {H : Type} : Left H := { results := [], args := [] }

/-- 'bothylaw31.ScriptBytes': WHATEVER THE INPUT: true; the input reads as it did. -/
def scriptBytesSpec : ChangeSpec := { name := "scriptBytes", fn := fun _ => fun
  | [d1, d2] => { results := [.lit (.bool true)], args := [d1, d2] }
  | _ => none }
def scriptBytesRow : OpenClaim := { program := "ytcffpndhodhncaa", sum := "e5c7237fbc80bc0a919eae25972ce16aab12290803a19d7d2b2da529a902d7d8", func := "bothy/bothylaw31.ScriptBytes", spec := "scriptBytes", inPlace := ["internal/abi.NoEscape", "internal/bytealg.MakeNoZero"], apart := false }
def ScriptBytesSaid : Prop := scriptBytesRow.holds Try.pinned (OpenSpec.ofChange scriptBytesSpec)

/-- ITS FALSE NEIGHBOUR: 'it returns false'. Refute it at one input. -/
def scriptBytesWrong : ChangeSpec := { name := "scriptBytes", fn := fun _ => fun
  | [d1, d2] => { results := [.lit (.bool false)], args := [d1, d2] }
  | _ => none }
def ScriptBytesWrongFalsely : Prop := scriptBytesRow.holds Try.pinned (OpenSpec.ofChange scriptBytesWrong)

/-- 'bothylaw31.ScriptBack': WHATEVER THE INPUT: true; the input reads as it did. -/
def scriptBackSpec : ChangeSpec := { name := "scriptBack", fn := fun _ => fun
  | [d1, d2] => { results := [.lit (.bool true)], args := [d1, d2] }
  | _ => none }
def scriptBackRow : OpenClaim := { program := "ytcffpndhodhncaa", sum := "e5c7237fbc80bc0a919eae25972ce16aab12290803a19d7d2b2da529a902d7d8", func := "bothy/bothylaw31.ScriptBack", spec := "scriptBack", inPlace := ["internal/abi.NoEscape", "internal/bytealg.MakeNoZero"], apart := false }
def ScriptBackSaid : Prop := scriptBackRow.holds Try.pinned (OpenSpec.ofChange scriptBackSpec)

/-- ITS FALSE NEIGHBOUR: 'it returns false'. Refute it at one input. -/
def scriptBackWrong : ChangeSpec := { name := "scriptBack", fn := fun _ => fun
  | [d1, d2] => { results := [.lit (.bool false)], args := [d1, d2] }
  | _ => none }
def ScriptBackWrongFalsely : Prop := scriptBackRow.holds Try.pinned (OpenSpec.ofChange scriptBackWrong)

/-- 'bothylaw51.CountNotes': WHATEVER THE INPUT: true; the input reads as it did. -/
def countNotesSpec : ChangeSpec := { name := "countNotes", fn := fun _ => fun
  | [d] => { results := [.lit (.bool true)], args := [d] }
  | _ => none }
def countNotesRow : OpenClaim := { program := "ytcffpndhodhncaa", sum := "e5c7237fbc80bc0a919eae25972ce16aab12290803a19d7d2b2da529a902d7d8", func := "bothy/bothylaw51.CountNotes", spec := "countNotes", inPlace := ["slices.overlaps[bothy/api.Attr]"], unfollowed := true, recurses := true, apart := false }
def CountNotesSaid : Prop := countNotesRow.holds Try.pinned (OpenSpec.ofChange countNotesSpec)

/-- ITS FALSE NEIGHBOUR: 'it returns false'. Refute it at one input. -/
def countNotesWrong : ChangeSpec := { name := "countNotes", fn := fun _ => fun
  | [d] => { results := [.lit (.bool false)], args := [d] }
  | _ => none }
def CountNotesWrongFalsely : Prop := countNotesRow.holds Try.pinned (OpenSpec.ofChange countNotesWrong)

/-- 'bothylaw18.ControlPuts': WHATEVER THE INPUT: true; the input reads as it did. -/
def controlPutsSpec : ChangeSpec := { name := "controlPuts", fn := fun _ => fun
  | [d1, d2, d3] => { results := [.lit (.bool true)], args := [d1, d2, d3] }
  | _ => none }
def controlPutsRow : OpenClaim := { program := "ytcffpndhodhncaa", sum := "e5c7237fbc80bc0a919eae25972ce16aab12290803a19d7d2b2da529a902d7d8", func := "bothy/bothylaw18.ControlPuts", spec := "controlPuts", inPlace := ["internal/abi.NoEscape", "internal/bytealg.MakeNoZero"], apart := false }
def ControlPutsSaid : Prop := controlPutsRow.holds Try.pinned (OpenSpec.ofChange controlPutsSpec)

/-- ITS FALSE NEIGHBOUR: 'it returns false'. Refute it at one input. -/
def controlPutsWrong : ChangeSpec := { name := "controlPuts", fn := fun _ => fun
  | [d1, d2, d3] => { results := [.lit (.bool false)], args := [d1, d2, d3] }
  | _ => none }
def ControlPutsWrongFalsely : Prop := controlPutsRow.holds Try.pinned (OpenSpec.ofChange controlPutsWrong)

/-- 'bothylaw18.ControlReads': WHATEVER THE INPUT: true; the input reads as it did. -/
def controlReadsSpec : ChangeSpec := { name := "controlReads", fn := fun _ => fun
  | [d1, d2] => { results := [.lit (.bool true)], args := [d1, d2] }
  | _ => none }
def controlReadsRow : OpenClaim := { program := "ytcffpndhodhncaa", sum := "e5c7237fbc80bc0a919eae25972ce16aab12290803a19d7d2b2da529a902d7d8", func := "bothy/bothylaw18.ControlReads", spec := "controlReads", inPlace := ["internal/abi.NoEscape", "internal/bytealg.MakeNoZero"], apart := false }
def ControlReadsSaid : Prop := controlReadsRow.holds Try.pinned (OpenSpec.ofChange controlReadsSpec)

/-- ITS FALSE NEIGHBOUR: 'it returns false'. Refute it at one input. -/
def controlReadsWrong : ChangeSpec := { name := "controlReads", fn := fun _ => fun
  | [d1, d2] => { results := [.lit (.bool false)], args := [d1, d2] }
  | _ => none }
def ControlReadsWrongFalsely : Prop := controlReadsRow.holds Try.pinned (OpenSpec.ofChange controlReadsWrong)

/-- 'bothylaw18.ControlFinds': WHATEVER THE INPUT: true; the input reads as it did. -/
def controlFindsSpec : ChangeSpec := { name := "controlFinds", fn := fun _ => fun
  | [d] => { results := [.lit (.bool true)], args := [d] }
  | _ => none }
def controlFindsRow : OpenClaim := { program := "ytcffpndhodhncaa", sum := "e5c7237fbc80bc0a919eae25972ce16aab12290803a19d7d2b2da529a902d7d8", func := "bothy/bothylaw18.ControlFinds", spec := "controlFinds", inPlace := ["internal/abi.NoEscape", "internal/bytealg.MakeNoZero"], apart := false }
def ControlFindsSaid : Prop := controlFindsRow.holds Try.pinned (OpenSpec.ofChange controlFindsSpec)

/-- ITS FALSE NEIGHBOUR: 'it returns false'. Refute it at one input. -/
def controlFindsWrong : ChangeSpec := { name := "controlFinds", fn := fun _ => fun
  | [d] => { results := [.lit (.bool false)], args := [d] }
  | _ => none }
def ControlFindsWrongFalsely : Prop := controlFindsRow.holds Try.pinned (OpenSpec.ofChange controlFindsWrong)

/- THE SECOND FORM. 'bulk': how many values and letters a reading holds, each counted each time it is reached (what is shared counts as often as it is met; a slice's spare places count too). A statement '..UptoSaid' is the law's where the arguments, and the package variables that the reading takes, are together of bulk at most 1048576: NARROWER than '..Said'. Prove '..Said' where nothing that the law and all that it calls make is longer than what came in: it says more and counts as full. Else prove '..UptoSaid'. A law counts once. -/
mutual
def uptoBulk {H : Type} : DataW H → Nat
  | .lit (.string bytes) => bytes.length + 1
  | .lit _ => 1
  | .nil => 1
  | .ptr d => uptoBulk d + 1
  | .slice elems spare => uptoBulkAll elems + uptoBulkAll spare + 1
  | .agg parts => uptoBulkAll parts + 1
  | .iface _ d => uptoBulk d + 1
  | .map entries => uptoBulkEntries entries + 1
  | .held _ => 1
def uptoBulkAll {H : Type} : List (DataW H) → Nat
  | [] => 0
  | d :: r => uptoBulk d + uptoBulkAll r
def uptoBulkEntries {H : Type} : List (Lit × DataW H) → Nat
  | [] => 0
  | x :: r => uptoBulkEntry x + uptoBulkEntries r
def uptoBulkEntry {H : Type} : Lit × DataW H → Nat
  | (.string bytes, d) => bytes.length + uptoBulk d + 1
  | (_, d) => uptoBulk d + 1
 end
def uptoSmall : (H : Type) → List (DataW H) → Bool := fun _ ds => decide (uptoBulkAll ds ≤ 1048576)
def OpenSpec.upto (s : _root_.Go.ChangeSpec) : _root_.Go.OpenSpec := { _root_.Go.OpenSpec.ofChange s with cond := some uptoSmall }

/-- 'bothylaw31.ScriptBytes', WHERE WHAT IT READS IS OF BULK AT MOST 1048576: true; the input reads as it did. -/
def scriptBytesUptoRow : OpenClaim := { program := "ytcffpndhodhncaa", sum := "e5c7237fbc80bc0a919eae25972ce16aab12290803a19d7d2b2da529a902d7d8", func := "bothy/bothylaw31.ScriptBytes", spec := "scriptBytes", inPlace := ["internal/abi.NoEscape", "internal/bytealg.MakeNoZero"], apart := false, narrowed := true }
def ScriptBytesUptoSaid : Prop := scriptBytesUptoRow.holds Try.pinned (OpenSpec.upto scriptBytesSpec)

/-- 'bothylaw31.ScriptBack', WHERE WHAT IT READS IS OF BULK AT MOST 1048576: true; the input reads as it did. -/
def scriptBackUptoRow : OpenClaim := { program := "ytcffpndhodhncaa", sum := "e5c7237fbc80bc0a919eae25972ce16aab12290803a19d7d2b2da529a902d7d8", func := "bothy/bothylaw31.ScriptBack", spec := "scriptBack", inPlace := ["internal/abi.NoEscape", "internal/bytealg.MakeNoZero"], apart := false, narrowed := true }
def ScriptBackUptoSaid : Prop := scriptBackUptoRow.holds Try.pinned (OpenSpec.upto scriptBackSpec)

/-- 'bothylaw51.CountNotes', WHERE WHAT IT READS IS OF BULK AT MOST 1048576: true; the input reads as it did. -/
def countNotesUptoRow : OpenClaim := { program := "ytcffpndhodhncaa", sum := "e5c7237fbc80bc0a919eae25972ce16aab12290803a19d7d2b2da529a902d7d8", func := "bothy/bothylaw51.CountNotes", spec := "countNotes", inPlace := ["slices.overlaps[bothy/api.Attr]"], unfollowed := true, recurses := true, apart := false, narrowed := true }
def CountNotesUptoSaid : Prop := countNotesUptoRow.holds Try.pinned (OpenSpec.upto countNotesSpec)

/-- 'bothylaw18.ControlPuts', WHERE WHAT IT READS IS OF BULK AT MOST 1048576: true; the input reads as it did. -/
def controlPutsUptoRow : OpenClaim := { program := "ytcffpndhodhncaa", sum := "e5c7237fbc80bc0a919eae25972ce16aab12290803a19d7d2b2da529a902d7d8", func := "bothy/bothylaw18.ControlPuts", spec := "controlPuts", inPlace := ["internal/abi.NoEscape", "internal/bytealg.MakeNoZero"], apart := false, narrowed := true }
def ControlPutsUptoSaid : Prop := controlPutsUptoRow.holds Try.pinned (OpenSpec.upto controlPutsSpec)

/-- 'bothylaw18.ControlReads', WHERE WHAT IT READS IS OF BULK AT MOST 1048576: true; the input reads as it did. -/
def controlReadsUptoRow : OpenClaim := { program := "ytcffpndhodhncaa", sum := "e5c7237fbc80bc0a919eae25972ce16aab12290803a19d7d2b2da529a902d7d8", func := "bothy/bothylaw18.ControlReads", spec := "controlReads", inPlace := ["internal/abi.NoEscape", "internal/bytealg.MakeNoZero"], apart := false, narrowed := true }
def ControlReadsUptoSaid : Prop := controlReadsUptoRow.holds Try.pinned (OpenSpec.upto controlReadsSpec)

/-- 'bothylaw18.ControlFinds', WHERE WHAT IT READS IS OF BULK AT MOST 1048576: true; the input reads as it did. -/
def controlFindsUptoRow : OpenClaim := { program := "ytcffpndhodhncaa", sum := "e5c7237fbc80bc0a919eae25972ce16aab12290803a19d7d2b2da529a902d7d8", func := "bothy/bothylaw18.ControlFinds", spec := "controlFinds", inPlace := ["internal/abi.NoEscape", "internal/bytealg.MakeNoZero"], apart := false, narrowed := true }
def ControlFindsUptoSaid : Prop := controlFindsUptoRow.holds Try.pinned (OpenSpec.upto controlFindsSpec)

end Rows
end Go.Proofs.Ytcffpndhodhncaa
