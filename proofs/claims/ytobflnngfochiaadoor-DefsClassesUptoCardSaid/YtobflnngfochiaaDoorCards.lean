/-
  DERIVED. GIVEN WITH THE SEED: THE CARDS: each row of YtobflnngfochiaaDoorRows.lean that lists a variable, with what it lists TIED to the program's text (the seventh form; the later family's looks); each row that meets fmt, with fmt's text TOLD by the authors' own Lean function (tested against real Go, not proved from fmt's source: count such statements apart). THE CARD IS WHAT COUNTS. Prove the row's statement (the work); the ties are given (YtobflnngfochiaaDoorTie.lean); close each card by the builder's one call (the guide's Derived/Test/ToyasCard.lean, 'card_holds'). Laid BY PROGRAM, IN A SANDBOX (cutbox-door.mjs). By AI agents, Wed Nov 11 2026. No macro, syntax, notation, axiom, sorry.
-/
import Derived.Test.YtobflnngfochiaaDoorRows
import GoSem.ClaimSeven
namespace Go.Proofs.YtobflnngfochiaaDoor
namespace Rows

/-- THE TIED CARD OF 'bothylaw05.FoldOnce'. -/
def foldOnceCard : Claim7 := { stood := { row := foldOnceRow, standIns := [], harness := (true, "43487451792ddd27e1e253b5d563f968f7d29481dcc10e55c90eee62d1ba6dd5"), looks := false }, kinds := [], alts := [], laidByText := true, laidKinds := [.data, .pinned], laidTests := true, laidLooks := .later }
def FoldOnceCardSaid : Prop := Claim7.holds Tryd.pinned (.plain (OpenSpec.ofChange foldOnceSpec)) foldOnceCard

/-- THE TIED CARD OF 'bothylaw05.FoldOrder'. -/
def foldOrderCard : Claim7 := { stood := { row := foldOrderRow, standIns := [], harness := (true, "43487451792ddd27e1e253b5d563f968f7d29481dcc10e55c90eee62d1ba6dd5"), looks := false }, kinds := [], alts := [], laidByText := true, laidKinds := [.data, .pinned], laidTests := true, laidLooks := .later }
def FoldOrderCardSaid : Prop := Claim7.holds Tryd.pinned (.plain (OpenSpec.ofChange foldOrderSpec)) foldOrderCard

/-- THE TIED CARD OF 'bothylaw43.DefsTypes'. -/
def defsTypesCard : Claim7 := { stood := { row := defsTypesRow, standIns := [], harness := (true, "43487451792ddd27e1e253b5d563f968f7d29481dcc10e55c90eee62d1ba6dd5"), looks := false }, kinds := [], alts := [], laidByText := true, laidKinds := [.data, .pinned], laidTests := true, laidLooks := .later }
def DefsTypesCardSaid : Prop := Claim7.holds Tryd.pinned (.plain (OpenSpec.ofChange defsTypesSpec)) defsTypesCard

/-- THE TIED CARD OF 'bothylaw43.DefsClasses'. -/
def defsClassesCard : Claim7 := { stood := { row := defsClassesRow, standIns := [], harness := (true, "43487451792ddd27e1e253b5d563f968f7d29481dcc10e55c90eee62d1ba6dd5"), looks := false }, kinds := [], alts := [], laidByText := true, laidKinds := [.data, .pinned], laidTests := true, laidLooks := .later }
def DefsClassesCardSaid : Prop := Claim7.holds Tryd.pinned (.plain (OpenSpec.ofChange defsClassesSpec)) defsClassesCard

/-- THE SECOND FORM's CARD OF 'bothylaw05.FoldOnce'. -/
def foldOnceUptoCard : Claim7 := { stood := { row := foldOnceUptoRow, standIns := [], harness := (true, "43487451792ddd27e1e253b5d563f968f7d29481dcc10e55c90eee62d1ba6dd5"), looks := false }, kinds := [], alts := [], laidByText := true, laidKinds := [.data, .pinned], laidTests := true, laidLooks := .later }
def FoldOnceUptoCardSaid : Prop := Claim7.holds Tryd.pinned (.plain (OpenSpec.upto foldOnceSpec)) foldOnceUptoCard

/-- THE SECOND FORM's CARD OF 'bothylaw05.FoldOrder'. -/
def foldOrderUptoCard : Claim7 := { stood := { row := foldOrderUptoRow, standIns := [], harness := (true, "43487451792ddd27e1e253b5d563f968f7d29481dcc10e55c90eee62d1ba6dd5"), looks := false }, kinds := [], alts := [], laidByText := true, laidKinds := [.data, .pinned], laidTests := true, laidLooks := .later }
def FoldOrderUptoCardSaid : Prop := Claim7.holds Tryd.pinned (.plain (OpenSpec.upto foldOrderSpec)) foldOrderUptoCard

/-- THE SECOND FORM's CARD OF 'bothylaw43.DefsTypes'. -/
def defsTypesUptoCard : Claim7 := { stood := { row := defsTypesUptoRow, standIns := [], harness := (true, "43487451792ddd27e1e253b5d563f968f7d29481dcc10e55c90eee62d1ba6dd5"), looks := false }, kinds := [], alts := [], laidByText := true, laidKinds := [.data, .pinned], laidTests := true, laidLooks := .later }
def DefsTypesUptoCardSaid : Prop := Claim7.holds Tryd.pinned (.plain (OpenSpec.upto defsTypesSpec)) defsTypesUptoCard

/-- THE SECOND FORM's CARD OF 'bothylaw43.DefsClasses'. -/
def defsClassesUptoCard : Claim7 := { stood := { row := defsClassesUptoRow, standIns := [], harness := (true, "43487451792ddd27e1e253b5d563f968f7d29481dcc10e55c90eee62d1ba6dd5"), looks := false }, kinds := [], alts := [], laidByText := true, laidKinds := [.data, .pinned], laidTests := true, laidLooks := .later }
def DefsClassesUptoCardSaid : Prop := Claim7.holds Tryd.pinned (.plain (OpenSpec.upto defsClassesSpec)) defsClassesUptoCard
end Rows
end Go.Proofs.YtobflnngfochiaaDoor
