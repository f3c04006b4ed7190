/-
  DERIVED. GIVEN WITH THE SEED: THE CARDS: each row of YtmlpbojoekmfaaaDoorRows.lean that lists a variable, with what it lists TIED to the program's text (the seventh form; the later family's looks); each row that meets fmt, with fmt's text TOLD by the authors' own Lean function (tested against real Go, not proved from fmt's source: count such statements apart). THE CARD IS WHAT COUNTS. Prove the row's statement (the work); the ties are given (YtmlpbojoekmfaaaDoorTie.lean); close each card by the builder's one call (the guide's Derived/Test/ToyasCard.lean, 'card_holds'). Laid BY PROGRAM, IN A SANDBOX (cutbox-door.mjs). By AI agents, Wed Nov 11 2026. No macro, syntax, notation, axiom, sorry.
-/
import Derived.Test.YtmlpbojoekmfaaaDoorRows
import GoSem.ClaimSeven
namespace Go.Proofs.YtmlpbojoekmfaaaDoor
namespace Rows

/-- THE TIED CARD OF 'bothylaw13.FtextReads'. -/
def ftextReadsCard : Claim7 := { stood := { row := ftextReadsRow, standIns := [], harness := (true, "f2f1adc8b4d21f921317cbf5313d9a3baba2eb43fb455469393138d02bbb25ab"), looks := false }, kinds := [], alts := [], laidByText := true, laidKinds := [.data, .pinned], laidTests := true, laidLooks := .later }
def FtextReadsCardSaid : Prop := Claim7.holds Tryd.pinned (.plain (OpenSpec.ofChange ftextReadsSpec)) ftextReadsCard

/-- THE TIED CARD OF 'bothylaw34.LdifPuts'. -/
def ldifPutsCard : Claim7 := { stood := { row := ldifPutsRow, standIns := [], harness := (true, "f2f1adc8b4d21f921317cbf5313d9a3baba2eb43fb455469393138d02bbb25ab"), looks := false }, kinds := [], alts := [], laidByText := true, laidKinds := [.data, .pinned], laidTests := true, laidLooks := .later }
def LdifPutsCardSaid : Prop := Claim7.holds Tryd.pinned (.plain (OpenSpec.ofChange ldifPutsSpec)) ldifPutsCard

/-- THE TIED CARD OF 'bothylaw34.LdifBack'. -/
def ldifBackCard : Claim7 := { stood := { row := ldifBackRow, standIns := [], harness := (true, "f2f1adc8b4d21f921317cbf5313d9a3baba2eb43fb455469393138d02bbb25ab"), looks := false }, kinds := [], alts := [], laidByText := true, laidKinds := [.data, .pinned], laidTests := true, laidLooks := .later }
def LdifBackCardSaid : Prop := Claim7.holds Tryd.pinned (.plain (OpenSpec.ofChange ldifBackSpec)) ldifBackCard

/-- THE TIED CARD OF 'bothylaw34.LdifLines'. -/
def ldifLinesCard : Claim7 := { stood := { row := ldifLinesRow, standIns := [], harness := (true, "f2f1adc8b4d21f921317cbf5313d9a3baba2eb43fb455469393138d02bbb25ab"), looks := false }, kinds := [], alts := [], laidByText := true, laidKinds := [.data, .pinned], laidTests := true, laidLooks := .later }
def LdifLinesCardSaid : Prop := Claim7.holds Tryd.pinned (.plain (OpenSpec.ofChange ldifLinesSpec)) ldifLinesCard

/-- THE SECOND FORM's CARD OF 'bothylaw13.FtextReads'. -/
def ftextReadsUptoCard : Claim7 := { stood := { row := ftextReadsUptoRow, standIns := [], harness := (true, "f2f1adc8b4d21f921317cbf5313d9a3baba2eb43fb455469393138d02bbb25ab"), looks := false }, kinds := [], alts := [], laidByText := true, laidKinds := [.data, .pinned], laidTests := true, laidLooks := .later }
def FtextReadsUptoCardSaid : Prop := Claim7.holds Tryd.pinned (.plain (OpenSpec.upto ftextReadsSpec)) ftextReadsUptoCard

/-- THE SECOND FORM's CARD OF 'bothylaw34.LdifPuts'. -/
def ldifPutsUptoCard : Claim7 := { stood := { row := ldifPutsUptoRow, standIns := [], harness := (true, "f2f1adc8b4d21f921317cbf5313d9a3baba2eb43fb455469393138d02bbb25ab"), looks := false }, kinds := [], alts := [], laidByText := true, laidKinds := [.data, .pinned], laidTests := true, laidLooks := .later }
def LdifPutsUptoCardSaid : Prop := Claim7.holds Tryd.pinned (.plain (OpenSpec.upto ldifPutsSpec)) ldifPutsUptoCard

/-- THE SECOND FORM's CARD OF 'bothylaw34.LdifBack'. -/
def ldifBackUptoCard : Claim7 := { stood := { row := ldifBackUptoRow, standIns := [], harness := (true, "f2f1adc8b4d21f921317cbf5313d9a3baba2eb43fb455469393138d02bbb25ab"), looks := false }, kinds := [], alts := [], laidByText := true, laidKinds := [.data, .pinned], laidTests := true, laidLooks := .later }
def LdifBackUptoCardSaid : Prop := Claim7.holds Tryd.pinned (.plain (OpenSpec.upto ldifBackSpec)) ldifBackUptoCard

/-- THE SECOND FORM's CARD OF 'bothylaw34.LdifLines'. -/
def ldifLinesUptoCard : Claim7 := { stood := { row := ldifLinesUptoRow, standIns := [], harness := (true, "f2f1adc8b4d21f921317cbf5313d9a3baba2eb43fb455469393138d02bbb25ab"), looks := false }, kinds := [], alts := [], laidByText := true, laidKinds := [.data, .pinned], laidTests := true, laidLooks := .later }
def LdifLinesUptoCardSaid : Prop := Claim7.holds Tryd.pinned (.plain (OpenSpec.upto ldifLinesSpec)) ldifLinesUptoCard
end Rows
end Go.Proofs.YtmlpbojoekmfaaaDoor
