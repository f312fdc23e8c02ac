/-
  DERIVED. GIVEN WITH THE SEED: THE CARDS: each row of YtnfaoofddokjgaaDoorRows.lean that lists a variable, with what it lists TIED to the program's text (the seventh form; the later family's looks); each row that meets fmt, with fmt's text TOLD by the authors' own Lean function (tested against real Go, not proved from fmt's source: count such statements apart). THE CARD IS WHAT COUNTS. Prove the row's statement (the work); the ties are given (YtnfaoofddokjgaaDoorTie.lean); close each card by the builder's one call (the guide's Derived/Test/ToyasCard.lean, 'card_holds'). Laid BY PROGRAM, IN A SANDBOX (cutbox-door.mjs). By AI agents, Wed Nov 11 2026. No macro, syntax, notation, axiom, sorry.
-/
import Derived.Test.YtnfaoofddokjgaaDoorRows
import GoSem.ClaimSeven
namespace Go.Proofs.YtnfaoofddokjgaaDoor
namespace Rows

/-- THE TIED CARD OF 'marqueelaw03.SchemaChecks'. -/
def schemaChecksCard : Claim7 := { stood := { row := schemaChecksRow, standIns := [], harness := (true, "00f26988600739fab753740e8727592833de55d4688091dea6581b8f6c7d5e5f"), looks := false }, kinds := [], alts := [], laidByText := true, laidKinds := [.data, .pinned], laidTests := true, laidLooks := .later }
def SchemaChecksCardSaid : Prop := Claim7.holds Tryd.pinned (.plain (OpenSpec.ofChange schemaChecksSpec)) schemaChecksCard

/-- THE TIED CARD OF 'marqueelaw03.SchemaFits'. -/
def schemaFitsCard : Claim7 := { stood := { row := schemaFitsRow, standIns := [], harness := (true, "00f26988600739fab753740e8727592833de55d4688091dea6581b8f6c7d5e5f"), looks := false }, kinds := [], alts := [], laidByText := true, laidKinds := [.data, .pinned], laidTests := true, laidLooks := .later }
def SchemaFitsCardSaid : Prop := Claim7.holds Tryd.pinned (.plain (OpenSpec.ofChange schemaFitsSpec)) schemaFitsCard

/-- THE TIED CARD OF 'marqueelaw03.SchemaNulls'. -/
def schemaNullsCard : Claim7 := { stood := { row := schemaNullsRow, standIns := [], harness := (true, "00f26988600739fab753740e8727592833de55d4688091dea6581b8f6c7d5e5f"), looks := false }, kinds := [], alts := [], laidByText := true, laidKinds := [.data, .pinned], laidTests := true, laidLooks := .later }
def SchemaNullsCardSaid : Prop := Claim7.holds Tryd.pinned (.plain (OpenSpec.ofChange schemaNullsSpec)) schemaNullsCard

/-- THE TIED CARD OF 'marqueelaw03.SchemaSames'. -/
def schemaSamesCard : Claim7 := { stood := { row := schemaSamesRow, standIns := [], harness := (true, "00f26988600739fab753740e8727592833de55d4688091dea6581b8f6c7d5e5f"), looks := false }, kinds := [], alts := [], laidByText := true, laidKinds := [.data, .pinned], laidTests := true, laidLooks := .later }
def SchemaSamesCardSaid : Prop := Claim7.holds Tryd.pinned (.plain (OpenSpec.ofChange schemaSamesSpec)) schemaSamesCard

/-- THE TIED CARD OF 'marqueelaw03.SchemaEvents'. -/
def schemaEventsCard : Claim7 := { stood := { row := schemaEventsRow, standIns := [], harness := (true, "00f26988600739fab753740e8727592833de55d4688091dea6581b8f6c7d5e5f"), looks := false }, kinds := [], alts := [], laidByText := true, laidKinds := [.data, .pinned], laidTests := true, laidLooks := .later }
def SchemaEventsCardSaid : Prop := Claim7.holds Tryd.pinned (.plain (OpenSpec.ofChange schemaEventsSpec)) schemaEventsCard

/-- THE SECOND FORM's CARD OF 'marqueelaw03.SchemaChecks'. -/
def schemaChecksUptoCard : Claim7 := { stood := { row := schemaChecksUptoRow, standIns := [], harness := (true, "00f26988600739fab753740e8727592833de55d4688091dea6581b8f6c7d5e5f"), looks := false }, kinds := [], alts := [], laidByText := true, laidKinds := [.data, .pinned], laidTests := true, laidLooks := .later }
def SchemaChecksUptoCardSaid : Prop := Claim7.holds Tryd.pinned (.plain (OpenSpec.upto schemaChecksSpec)) schemaChecksUptoCard

/-- THE SECOND FORM's CARD OF 'marqueelaw03.SchemaFits'. -/
def schemaFitsUptoCard : Claim7 := { stood := { row := schemaFitsUptoRow, standIns := [], harness := (true, "00f26988600739fab753740e8727592833de55d4688091dea6581b8f6c7d5e5f"), looks := false }, kinds := [], alts := [], laidByText := true, laidKinds := [.data, .pinned], laidTests := true, laidLooks := .later }
def SchemaFitsUptoCardSaid : Prop := Claim7.holds Tryd.pinned (.plain (OpenSpec.upto schemaFitsSpec)) schemaFitsUptoCard

/-- THE SECOND FORM's CARD OF 'marqueelaw03.SchemaNulls'. -/
def schemaNullsUptoCard : Claim7 := { stood := { row := schemaNullsUptoRow, standIns := [], harness := (true, "00f26988600739fab753740e8727592833de55d4688091dea6581b8f6c7d5e5f"), looks := false }, kinds := [], alts := [], laidByText := true, laidKinds := [.data, .pinned], laidTests := true, laidLooks := .later }
def SchemaNullsUptoCardSaid : Prop := Claim7.holds Tryd.pinned (.plain (OpenSpec.upto schemaNullsSpec)) schemaNullsUptoCard

/-- THE SECOND FORM's CARD OF 'marqueelaw03.SchemaSames'. -/
def schemaSamesUptoCard : Claim7 := { stood := { row := schemaSamesUptoRow, standIns := [], harness := (true, "00f26988600739fab753740e8727592833de55d4688091dea6581b8f6c7d5e5f"), looks := false }, kinds := [], alts := [], laidByText := true, laidKinds := [.data, .pinned], laidTests := true, laidLooks := .later }
def SchemaSamesUptoCardSaid : Prop := Claim7.holds Tryd.pinned (.plain (OpenSpec.upto schemaSamesSpec)) schemaSamesUptoCard

/-- THE SECOND FORM's CARD OF 'marqueelaw03.SchemaEvents'. -/
def schemaEventsUptoCard : Claim7 := { stood := { row := schemaEventsUptoRow, standIns := [], harness := (true, "00f26988600739fab753740e8727592833de55d4688091dea6581b8f6c7d5e5f"), looks := false }, kinds := [], alts := [], laidByText := true, laidKinds := [.data, .pinned], laidTests := true, laidLooks := .later }
def SchemaEventsUptoCardSaid : Prop := Claim7.holds Tryd.pinned (.plain (OpenSpec.upto schemaEventsSpec)) schemaEventsUptoCard
end Rows
end Go.Proofs.YtnfaoofddokjgaaDoor
