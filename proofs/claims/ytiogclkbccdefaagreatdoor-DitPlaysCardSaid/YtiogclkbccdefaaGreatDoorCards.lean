/-
  DERIVED. GIVEN WITH THE SEED: THE CARDS: each row of YtiogclkbccdefaaGreatDoorRows.lean that lists a variable, with what it lists TIED to the program's text (the seventh form; the later family's looks); each row that meets fmt, with fmt's text TOLD by the authors' own Lean function (tested against real Go, not proved from fmt's source: count such statements apart). THE CARD IS WHAT COUNTS. Prove the row's statement (the work); the ties are given (YtiogclkbccdefaaGreatDoorTie.lean); close each card by the builder's one call (the guide's Derived/Test/ToyasCard.lean, 'card_holds'). Laid BY PROGRAM, IN A SANDBOX (cutbox-door.mjs). By AI agents, Wed Nov 11 2026. No macro, syntax, notation, axiom, sorry.
-/
import Derived.Test.YtiogclkbccdefaaGreatDoorRows
import GoSem.ClaimSeven
namespace Go.Proofs.YtiogclkbccdefaaGreatDoor
namespace Rows

/-- THE TIED CARD OF 'bothylaw20.DitFull'. -/
def ditFullCard : Claim7 := { stood := { row := ditFullRow, standIns := [], harness := (true, "d191f711df07f3da8f9af9a4d9740874cf7f8a5b7b0089922436a6eff48d082c"), looks := true }, kinds := [], alts := [], laidByText := true, laidKinds := [.data, .pinned], laidTests := true, laidLooks := .later }
def DitFullCardSaid : Prop := Claim7.holds Tryz.pinned (.plain (OpenSpec.ofChange ditFullSpec)) ditFullCard

/-- THE TIED CARD OF 'bothylaw20.DitPlays'. -/
def ditPlaysCard : Claim7 := { stood := { row := ditPlaysRow, standIns := [], harness := (true, "d191f711df07f3da8f9af9a4d9740874cf7f8a5b7b0089922436a6eff48d082c"), looks := true }, kinds := [], alts := [], laidByText := true, laidKinds := [.data, .pinned], laidTests := true, laidLooks := .later }
def DitPlaysCardSaid : Prop := Claim7.holds Tryz.pinned (.plain (OpenSpec.ofChange ditPlaysSpec)) ditPlaysCard

/-- THE TIED CARD OF 'bothylaw20.DitTree'. -/
def ditTreeCard : Claim7 := { stood := { row := ditTreeRow, standIns := [], harness := (true, "d191f711df07f3da8f9af9a4d9740874cf7f8a5b7b0089922436a6eff48d082c"), looks := true }, kinds := [], alts := [], laidByText := true, laidKinds := [.data, .pinned], laidTests := true, laidLooks := .later }
def DitTreeCardSaid : Prop := Claim7.holds Tryz.pinned (.plain (OpenSpec.ofChange ditTreeSpec)) ditTreeCard

/-- THE TIED CARD OF 'bothylaw20.DitNone'. -/
def ditNoneCard : Claim7 := { stood := { row := ditNoneRow, standIns := [], harness := (true, "d191f711df07f3da8f9af9a4d9740874cf7f8a5b7b0089922436a6eff48d082c"), looks := true }, kinds := [], alts := [], laidByText := true, laidKinds := [.data, .pinned], laidTests := true, laidLooks := .later }
def DitNoneCardSaid : Prop := Claim7.holds Tryz.pinned (.plain (OpenSpec.ofChange ditNoneSpec)) ditNoneCard

/-- THE TIED CARD OF 'bothylaw20.DitBack'. -/
def ditBackCard : Claim7 := { stood := { row := ditBackRow, standIns := [], harness := (true, "d191f711df07f3da8f9af9a4d9740874cf7f8a5b7b0089922436a6eff48d082c"), looks := true }, kinds := [], alts := [], laidByText := true, laidKinds := [.data, .pinned], laidTests := true, laidLooks := .later }
def DitBackCardSaid : Prop := Claim7.holds Tryz.pinned (.plain (OpenSpec.ofChange ditBackSpec)) ditBackCard

/-- THE TIED CARD OF 'bothylaw41.RefintPlans'. -/
def refintPlansCard : Claim7 := { stood := { row := refintPlansRow, standIns := [], harness := (true, "d191f711df07f3da8f9af9a4d9740874cf7f8a5b7b0089922436a6eff48d082c"), looks := true }, kinds := [], alts := [], laidByText := true, laidKinds := [.data, .pinned], laidTests := true, laidLooks := .later }
def RefintPlansCardSaid : Prop := Claim7.holds Tryz.pinned (.plain (OpenSpec.ofChange refintPlansSpec)) refintPlansCard

/-- THE TIED CARD OF 'bothylaw41.RefintNone'. -/
def refintNoneCard : Claim7 := { stood := { row := refintNoneRow, standIns := [], harness := (true, "d191f711df07f3da8f9af9a4d9740874cf7f8a5b7b0089922436a6eff48d082c"), looks := true }, kinds := [], alts := [], laidByText := true, laidKinds := [.data, .pinned], laidTests := true, laidLooks := .later }
def RefintNoneCardSaid : Prop := Claim7.holds Tryz.pinned (.plain (OpenSpec.ofChange refintNoneSpec)) refintNoneCard

/-- THE SECOND FORM's CARD OF 'bothylaw20.DitFull'. -/
def ditFullUptoCard : Claim7 := { stood := { row := ditFullUptoRow, standIns := [], harness := (true, "d191f711df07f3da8f9af9a4d9740874cf7f8a5b7b0089922436a6eff48d082c"), looks := true }, kinds := [], alts := [], laidByText := true, laidKinds := [.data, .pinned], laidTests := true, laidLooks := .later }
def DitFullUptoCardSaid : Prop := Claim7.holds Tryz.pinned (.plain (OpenSpec.upto ditFullSpec)) ditFullUptoCard

/-- THE SECOND FORM's CARD OF 'bothylaw20.DitPlays'. -/
def ditPlaysUptoCard : Claim7 := { stood := { row := ditPlaysUptoRow, standIns := [], harness := (true, "d191f711df07f3da8f9af9a4d9740874cf7f8a5b7b0089922436a6eff48d082c"), looks := true }, kinds := [], alts := [], laidByText := true, laidKinds := [.data, .pinned], laidTests := true, laidLooks := .later }
def DitPlaysUptoCardSaid : Prop := Claim7.holds Tryz.pinned (.plain (OpenSpec.upto ditPlaysSpec)) ditPlaysUptoCard

/-- THE SECOND FORM's CARD OF 'bothylaw20.DitTree'. -/
def ditTreeUptoCard : Claim7 := { stood := { row := ditTreeUptoRow, standIns := [], harness := (true, "d191f711df07f3da8f9af9a4d9740874cf7f8a5b7b0089922436a6eff48d082c"), looks := true }, kinds := [], alts := [], laidByText := true, laidKinds := [.data, .pinned], laidTests := true, laidLooks := .later }
def DitTreeUptoCardSaid : Prop := Claim7.holds Tryz.pinned (.plain (OpenSpec.upto ditTreeSpec)) ditTreeUptoCard

/-- THE SECOND FORM's CARD OF 'bothylaw20.DitNone'. -/
def ditNoneUptoCard : Claim7 := { stood := { row := ditNoneUptoRow, standIns := [], harness := (true, "d191f711df07f3da8f9af9a4d9740874cf7f8a5b7b0089922436a6eff48d082c"), looks := true }, kinds := [], alts := [], laidByText := true, laidKinds := [.data, .pinned], laidTests := true, laidLooks := .later }
def DitNoneUptoCardSaid : Prop := Claim7.holds Tryz.pinned (.plain (OpenSpec.upto ditNoneSpec)) ditNoneUptoCard

/-- THE SECOND FORM's CARD OF 'bothylaw20.DitBack'. -/
def ditBackUptoCard : Claim7 := { stood := { row := ditBackUptoRow, standIns := [], harness := (true, "d191f711df07f3da8f9af9a4d9740874cf7f8a5b7b0089922436a6eff48d082c"), looks := true }, kinds := [], alts := [], laidByText := true, laidKinds := [.data, .pinned], laidTests := true, laidLooks := .later }
def DitBackUptoCardSaid : Prop := Claim7.holds Tryz.pinned (.plain (OpenSpec.upto ditBackSpec)) ditBackUptoCard

/-- THE SECOND FORM's CARD OF 'bothylaw41.RefintPlans'. -/
def refintPlansUptoCard : Claim7 := { stood := { row := refintPlansUptoRow, standIns := [], harness := (true, "d191f711df07f3da8f9af9a4d9740874cf7f8a5b7b0089922436a6eff48d082c"), looks := true }, kinds := [], alts := [], laidByText := true, laidKinds := [.data, .pinned], laidTests := true, laidLooks := .later }
def RefintPlansUptoCardSaid : Prop := Claim7.holds Tryz.pinned (.plain (OpenSpec.upto refintPlansSpec)) refintPlansUptoCard

/-- THE SECOND FORM's CARD OF 'bothylaw41.RefintNone'. -/
def refintNoneUptoCard : Claim7 := { stood := { row := refintNoneUptoRow, standIns := [], harness := (true, "d191f711df07f3da8f9af9a4d9740874cf7f8a5b7b0089922436a6eff48d082c"), looks := true }, kinds := [], alts := [], laidByText := true, laidKinds := [.data, .pinned], laidTests := true, laidLooks := .later }
def RefintNoneUptoCardSaid : Prop := Claim7.holds Tryz.pinned (.plain (OpenSpec.upto refintNoneSpec)) refintNoneUptoCard
end Rows
end Go.Proofs.YtiogclkbccdefaaGreatDoor
