/-
  DERIVED. GIVEN WITH THE SEED: THE CARDS: each row of YtmlpbojoekmfaaaGreatDoorRows.lean that lists a variable, with what it lists TIED to the program's text (the seventh form; the later family's looks); each row that meets fmt, with fmt's text TOLD by the authors' own Lean function (tested against real Go, not proved from fmt's source: count such statements apart). THE CARD IS WHAT COUNTS. Prove the row's statement (the work); the ties are given (YtmlpbojoekmfaaaGreatDoorTie.lean); close each card by the builder's one call (the guide's Derived/Test/ToyasCard.lean, 'card_holds'). Laid BY PROGRAM, IN A SANDBOX (cutbox-door.mjs). By AI agents, Wed Nov 11 2026. No macro, syntax, notation, axiom, sorry.
-/
import Derived.Test.YtmlpbojoekmfaaaGreatDoorRows
import GoSem.ClaimSeven
namespace Go.Proofs.YtmlpbojoekmfaaaGreatDoor
namespace Rows

/-- THE TIED CARD OF 'bothylaw35.UrlPuts'. -/
def urlPutsCard : Claim7 := { stood := { row := urlPutsRow, standIns := [], harness := (true, "711e888e691fbc105615c06efe20df07811b3778dc525734a936ee3a4e587323"), looks := false }, kinds := [], alts := [], laidByText := true, laidKinds := [.data, .pinned], laidTests := true, laidLooks := .later }
def UrlPutsCardSaid : Prop := Claim7.holds Tryz.pinned (.plain (OpenSpec.ofChange urlPutsSpec)) urlPutsCard

/-- THE TIED CARD OF 'bothylaw35.UrlBack'. -/
def urlBackCard : Claim7 := { stood := { row := urlBackRow, standIns := [], harness := (true, "711e888e691fbc105615c06efe20df07811b3778dc525734a936ee3a4e587323"), looks := false }, kinds := [], alts := [], laidByText := true, laidKinds := [.data, .pinned], laidTests := true, laidLooks := .later }
def UrlBackCardSaid : Prop := Claim7.holds Tryz.pinned (.plain (OpenSpec.ofChange urlBackSpec)) urlBackCard

/-- THE SECOND FORM's CARD OF 'bothylaw35.UrlPuts'. -/
def urlPutsUptoCard : Claim7 := { stood := { row := urlPutsUptoRow, standIns := [], harness := (true, "711e888e691fbc105615c06efe20df07811b3778dc525734a936ee3a4e587323"), looks := false }, kinds := [], alts := [], laidByText := true, laidKinds := [.data, .pinned], laidTests := true, laidLooks := .later }
def UrlPutsUptoCardSaid : Prop := Claim7.holds Tryz.pinned (.plain (OpenSpec.upto urlPutsSpec)) urlPutsUptoCard

/-- THE SECOND FORM's CARD OF 'bothylaw35.UrlBack'. -/
def urlBackUptoCard : Claim7 := { stood := { row := urlBackUptoRow, standIns := [], harness := (true, "711e888e691fbc105615c06efe20df07811b3778dc525734a936ee3a4e587323"), looks := false }, kinds := [], alts := [], laidByText := true, laidKinds := [.data, .pinned], laidTests := true, laidLooks := .later }
def UrlBackUptoCardSaid : Prop := Claim7.holds Tryz.pinned (.plain (OpenSpec.upto urlBackSpec)) urlBackUptoCard
end Rows
end Go.Proofs.YtmlpbojoekmfaaaGreatDoor
