/-
  DERIVED. GIVEN WITH THE SEED: THE CARDS: each row of YtcffpndhodhncaaDoorRows.lean that lists a variable, with what it lists TIED to the program's text (the seventh form; the later family's looks); each row that meets fmt, with fmt's text TOLD by the authors' own Lean function (tested against real Go, not proved from fmt's source: count such statements apart). THE CARD IS WHAT COUNTS. Prove the row's statement (the work); the ties are given (YtcffpndhodhncaaDoorTie.lean); close each card by the builder's one call (the guide's Derived/Test/ToyasCard.lean, 'card_holds'). Laid BY PROGRAM, IN A SANDBOX (cutbox-door.mjs). By AI agents, Wed Nov 11 2026. No macro, syntax, notation, axiom, sorry.
-/
import Derived.Test.YtcffpndhodhncaaDoorRows
import GoSem.ClaimSeven
namespace Go.Proofs.YtcffpndhodhncaaDoor
namespace Rows

/-- THE TIED CARD OF 'bothylaw33.BasePuts'. -/
def basePutsCard : Claim7 := { stood := { row := basePutsRow, standIns := [], harness := (true, "ca42d4557be8bcdb191f64438743092b830a430d0c65b77dc5a841e9d873552c"), looks := false }, kinds := [], alts := [], laidByText := true, laidKinds := [.data, .pinned], laidTests := true, laidLooks := .later }
def BasePutsCardSaid : Prop := Claim7.holds Tryd.pinned (.plain (OpenSpec.ofChange basePutsSpec)) basePutsCard

/-- THE TIED CARD OF 'bothylaw33.BaseBack'. -/
def baseBackCard : Claim7 := { stood := { row := baseBackRow, standIns := [], harness := (true, "ca42d4557be8bcdb191f64438743092b830a430d0c65b77dc5a841e9d873552c"), looks := false }, kinds := [], alts := [], laidByText := true, laidKinds := [.data, .pinned], laidTests := true, laidLooks := .later }
def BaseBackCardSaid : Prop := Claim7.holds Tryd.pinned (.plain (OpenSpec.ofChange baseBackSpec)) baseBackCard

/-- THE SECOND FORM's CARD OF 'bothylaw33.BasePuts'. -/
def basePutsUptoCard : Claim7 := { stood := { row := basePutsUptoRow, standIns := [], harness := (true, "ca42d4557be8bcdb191f64438743092b830a430d0c65b77dc5a841e9d873552c"), looks := false }, kinds := [], alts := [], laidByText := true, laidKinds := [.data, .pinned], laidTests := true, laidLooks := .later }
def BasePutsUptoCardSaid : Prop := Claim7.holds Tryd.pinned (.plain (OpenSpec.upto basePutsSpec)) basePutsUptoCard

/-- THE SECOND FORM's CARD OF 'bothylaw33.BaseBack'. -/
def baseBackUptoCard : Claim7 := { stood := { row := baseBackUptoRow, standIns := [], harness := (true, "ca42d4557be8bcdb191f64438743092b830a430d0c65b77dc5a841e9d873552c"), looks := false }, kinds := [], alts := [], laidByText := true, laidKinds := [.data, .pinned], laidTests := true, laidLooks := .later }
def BaseBackUptoCardSaid : Prop := Claim7.holds Tryd.pinned (.plain (OpenSpec.upto baseBackSpec)) baseBackUptoCard
end Rows
end Go.Proofs.YtcffpndhodhncaaDoor
