/-
  DERIVED. GIVEN WITH THE SEED: THE CARDS: each row of YtpjfdjcejamebaaGreatDoorRows.lean that lists a variable, with what it lists TIED to the program's text (the seventh form; the later family's looks); each row that meets fmt, with fmt's text TOLD by the authors' own Lean function (tested against real Go, not proved from fmt's source: count such statements apart). THE CARD IS WHAT COUNTS. Prove the row's statement (the work); the ties are given (YtpjfdjcejamebaaGreatDoorTie.lean); close each card by the builder's one call (the guide's Derived/Test/ToyasCard.lean, 'card_holds'). Laid BY PROGRAM, IN A SANDBOX (cutbox-door.mjs). By AI agents, Wed Nov 11 2026. No macro, syntax, notation, axiom, sorry.
-/
import Derived.Test.YtpjfdjcejamebaaGreatDoorRows
import GoSem.ClaimSeven
namespace Go.Proofs.YtpjfdjcejamebaaGreatDoor
namespace Rows

/-- THE TIED CARD OF 'bothylaw09.SchemaPlain'. -/
def schemaPlainCard : Claim7 := { stood := { row := schemaPlainRow, standIns := [], harness := (true, "6eee245b952f9fb3322325b98831e7072b7cd2459586a6fc86a13b0568fb7d9d"), looks := false }, kinds := [], alts := [], laidByText := true, laidKinds := [.data, .pinned], laidTests := true, laidLooks := .later }
def SchemaPlainCardSaid : Prop := Claim7.holds Tryz.pinned (.plain (OpenSpec.ofChange schemaPlainSpec)) schemaPlainCard

/-- THE TIED CARD OF 'bothylaw09.SchemaNew'. -/
def schemaNewCard : Claim7 := { stood := { row := schemaNewRow, standIns := [], harness := (true, "6eee245b952f9fb3322325b98831e7072b7cd2459586a6fc86a13b0568fb7d9d"), looks := false }, kinds := [], alts := [], laidByText := true, laidKinds := [.data, .pinned], laidTests := true, laidLooks := .later }
def SchemaNewCardSaid : Prop := Claim7.holds Tryz.pinned (.plain (OpenSpec.ofChange schemaNewSpec)) schemaNewCard

/-- THE TIED CARD OF 'bothylaw09.SchemaNone'. -/
def schemaNoneCard : Claim7 := { stood := { row := schemaNoneRow, standIns := [], harness := (true, "6eee245b952f9fb3322325b98831e7072b7cd2459586a6fc86a13b0568fb7d9d"), looks := false }, kinds := [], alts := [], laidByText := true, laidKinds := [.data, .pinned], laidTests := true, laidLooks := .later }
def SchemaNoneCardSaid : Prop := Claim7.holds Tryz.pinned (.plain (OpenSpec.ofChange schemaNoneSpec)) schemaNoneCard

/-- THE TIED CARD OF 'bothylaw40.UniqueTells'. -/
def uniqueTellsCard : Claim7 := { stood := { row := uniqueTellsRow, standIns := [], harness := (true, "6eee245b952f9fb3322325b98831e7072b7cd2459586a6fc86a13b0568fb7d9d"), looks := false }, kinds := [], alts := [], laidByText := true, laidKinds := [.data, .pinned], laidTests := true, laidLooks := .later }
def UniqueTellsCardSaid : Prop := Claim7.holds Tryz.pinned (.plain (OpenSpec.ofChange uniqueTellsSpec)) uniqueTellsCard

/-- THE TIED CARD OF 'bothylaw40.UniqueKeeps'. -/
def uniqueKeepsCard : Claim7 := { stood := { row := uniqueKeepsRow, standIns := [], harness := (true, "6eee245b952f9fb3322325b98831e7072b7cd2459586a6fc86a13b0568fb7d9d"), looks := false }, kinds := [], alts := [], laidByText := true, laidKinds := [.data, .pinned], laidTests := true, laidLooks := .later }
def UniqueKeepsCardSaid : Prop := Claim7.holds Tryz.pinned (.plain (OpenSpec.ofChange uniqueKeepsSpec)) uniqueKeepsCard

/-- THE SECOND FORM's CARD OF 'bothylaw09.SchemaPlain'. -/
def schemaPlainUptoCard : Claim7 := { stood := { row := schemaPlainUptoRow, standIns := [], harness := (true, "6eee245b952f9fb3322325b98831e7072b7cd2459586a6fc86a13b0568fb7d9d"), looks := false }, kinds := [], alts := [], laidByText := true, laidKinds := [.data, .pinned], laidTests := true, laidLooks := .later }
def SchemaPlainUptoCardSaid : Prop := Claim7.holds Tryz.pinned (.plain (OpenSpec.upto schemaPlainSpec)) schemaPlainUptoCard

/-- THE SECOND FORM's CARD OF 'bothylaw09.SchemaNew'. -/
def schemaNewUptoCard : Claim7 := { stood := { row := schemaNewUptoRow, standIns := [], harness := (true, "6eee245b952f9fb3322325b98831e7072b7cd2459586a6fc86a13b0568fb7d9d"), looks := false }, kinds := [], alts := [], laidByText := true, laidKinds := [.data, .pinned], laidTests := true, laidLooks := .later }
def SchemaNewUptoCardSaid : Prop := Claim7.holds Tryz.pinned (.plain (OpenSpec.upto schemaNewSpec)) schemaNewUptoCard

/-- THE SECOND FORM's CARD OF 'bothylaw09.SchemaNone'. -/
def schemaNoneUptoCard : Claim7 := { stood := { row := schemaNoneUptoRow, standIns := [], harness := (true, "6eee245b952f9fb3322325b98831e7072b7cd2459586a6fc86a13b0568fb7d9d"), looks := false }, kinds := [], alts := [], laidByText := true, laidKinds := [.data, .pinned], laidTests := true, laidLooks := .later }
def SchemaNoneUptoCardSaid : Prop := Claim7.holds Tryz.pinned (.plain (OpenSpec.upto schemaNoneSpec)) schemaNoneUptoCard

/-- THE SECOND FORM's CARD OF 'bothylaw40.UniqueTells'. -/
def uniqueTellsUptoCard : Claim7 := { stood := { row := uniqueTellsUptoRow, standIns := [], harness := (true, "6eee245b952f9fb3322325b98831e7072b7cd2459586a6fc86a13b0568fb7d9d"), looks := false }, kinds := [], alts := [], laidByText := true, laidKinds := [.data, .pinned], laidTests := true, laidLooks := .later }
def UniqueTellsUptoCardSaid : Prop := Claim7.holds Tryz.pinned (.plain (OpenSpec.upto uniqueTellsSpec)) uniqueTellsUptoCard

/-- THE SECOND FORM's CARD OF 'bothylaw40.UniqueKeeps'. -/
def uniqueKeepsUptoCard : Claim7 := { stood := { row := uniqueKeepsUptoRow, standIns := [], harness := (true, "6eee245b952f9fb3322325b98831e7072b7cd2459586a6fc86a13b0568fb7d9d"), looks := false }, kinds := [], alts := [], laidByText := true, laidKinds := [.data, .pinned], laidTests := true, laidLooks := .later }
def UniqueKeepsUptoCardSaid : Prop := Claim7.holds Tryz.pinned (.plain (OpenSpec.upto uniqueKeepsSpec)) uniqueKeepsUptoCard
end Rows
end Go.Proofs.YtpjfdjcejamebaaGreatDoor
