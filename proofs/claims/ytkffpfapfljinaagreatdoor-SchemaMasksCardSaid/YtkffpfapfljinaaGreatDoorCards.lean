/-
  DERIVED. GIVEN WITH THE SEED: THE CARDS: each row of YtkffpfapfljinaaGreatDoorRows.lean that lists a variable, with what it lists TIED to the program's text (the seventh form; the later family's looks); each row that meets fmt, with fmt's text TOLD by the authors' own Lean function (tested against real Go, not proved from fmt's source: count such statements apart). THE CARD IS WHAT COUNTS. Prove the row's statement (the work); the ties are given (YtkffpfapfljinaaGreatDoorTie.lean); close each card by the builder's one call (the guide's Derived/Test/ToyasCard.lean, 'card_holds'). Laid BY PROGRAM, IN A SANDBOX (cutbox-door.mjs). By AI agents, Wed Nov 11 2026. No macro, syntax, notation, axiom, sorry.
-/
import Derived.Test.YtkffpfapfljinaaGreatDoorRows
import GoSem.ClaimSeven
namespace Go.Proofs.YtkffpfapfljinaaGreatDoor
namespace Rows

/-- THE TIED CARD OF 'provisionlaw12.SchemaChecks'. -/
def schemaChecksCard : Claim7 := { stood := { row := schemaChecksRow, standIns := [], harness := (true, "8e4716b94e30a30b8a26af4c65b5726b709059047e28829408d6946dc657be32"), looks := true }, kinds := [], alts := [], laidByText := true, laidKinds := [.data, .data, .data, .data, .sentinel, .sentinel, .pinned], laidTests := true, laidLooks := .later }
def SchemaChecksCardSaid : Prop := Claim7.holds Tryz.pinned (.plain (OpenSpec.ofChange schemaChecksSpec)) schemaChecksCard

/-- THE TIED CARD OF 'provisionlaw12.SchemaCoerces'. -/
def schemaCoercesCard : Claim7 := { stood := { row := schemaCoercesRow, standIns := [], harness := (true, "8e4716b94e30a30b8a26af4c65b5726b709059047e28829408d6946dc657be32"), looks := true }, kinds := [], alts := [], laidByText := true, laidKinds := [.data, .data, .data, .data, .sentinel, .sentinel, .pinned], laidTests := true, laidLooks := .later }
def SchemaCoercesCardSaid : Prop := Claim7.holds Tryz.pinned (.plain (OpenSpec.ofChange schemaCoercesSpec)) schemaCoercesCard

/-- THE TIED CARD OF 'provisionlaw12.SchemaAgain'. -/
def schemaAgainCard : Claim7 := { stood := { row := schemaAgainRow, standIns := [], harness := (true, "8e4716b94e30a30b8a26af4c65b5726b709059047e28829408d6946dc657be32"), looks := true }, kinds := [], alts := [], laidByText := true, laidKinds := [.data, .data, .data, .data, .sentinel, .sentinel, .pinned], laidTests := true, laidLooks := .later }
def SchemaAgainCardSaid : Prop := Claim7.holds Tryz.pinned (.plain (OpenSpec.ofChange schemaAgainSpec)) schemaAgainCard

/-- THE TIED CARD OF 'provisionlaw12.SchemaProposes'. -/
def schemaProposesCard : Claim7 := { stood := { row := schemaProposesRow, standIns := [], harness := (true, "8e4716b94e30a30b8a26af4c65b5726b709059047e28829408d6946dc657be32"), looks := true }, kinds := [], alts := [], laidByText := true, laidKinds := [.data, .data, .data, .data, .sentinel, .sentinel, .pinned], laidTests := true, laidLooks := .later }
def SchemaProposesCardSaid : Prop := Claim7.holds Tryz.pinned (.plain (OpenSpec.ofChange schemaProposesSpec)) schemaProposesCard

/-- THE TIED CARD OF 'provisionlaw12.SchemaPlans'. -/
def schemaPlansCard : Claim7 := { stood := { row := schemaPlansRow, standIns := [], harness := (true, "8e4716b94e30a30b8a26af4c65b5726b709059047e28829408d6946dc657be32"), looks := true }, kinds := [], alts := [], laidByText := true, laidKinds := [.data, .data, .data, .data, .sentinel, .sentinel, .pinned], laidTests := true, laidLooks := .later }
def SchemaPlansCardSaid : Prop := Claim7.holds Tryz.pinned (.plain (OpenSpec.ofChange schemaPlansSpec)) schemaPlansCard

/-- THE TIED CARD OF 'provisionlaw12.SchemaChanges'. -/
def schemaChangesCard : Claim7 := { stood := { row := schemaChangesRow, standIns := [], harness := (true, "8e4716b94e30a30b8a26af4c65b5726b709059047e28829408d6946dc657be32"), looks := true }, kinds := [], alts := [], laidByText := true, laidKinds := [.data, .data, .data, .data, .sentinel, .sentinel, .pinned], laidTests := true, laidLooks := .later }
def SchemaChangesCardSaid : Prop := Claim7.holds Tryz.pinned (.plain (OpenSpec.ofChange schemaChangesSpec)) schemaChangesCard

/-- THE TIED CARD OF 'provisionlaw12.SchemaFinds'. -/
def schemaFindsCard : Claim7 := { stood := { row := schemaFindsRow, standIns := [], harness := (true, "8e4716b94e30a30b8a26af4c65b5726b709059047e28829408d6946dc657be32"), looks := true }, kinds := [], alts := [], laidByText := true, laidKinds := [.data, .data, .data, .data, .sentinel, .sentinel, .pinned], laidTests := true, laidLooks := .later }
def SchemaFindsCardSaid : Prop := Claim7.holds Tryz.pinned (.plain (OpenSpec.ofChange schemaFindsSpec)) schemaFindsCard

/-- THE TIED CARD OF 'provisionlaw12.SchemaMasks'. -/
def schemaMasksCard : Claim7 := { stood := { row := schemaMasksRow, standIns := [], harness := (true, "8e4716b94e30a30b8a26af4c65b5726b709059047e28829408d6946dc657be32"), looks := true }, kinds := [], alts := [], laidByText := true, laidKinds := [.data, .data, .data, .data, .sentinel, .sentinel, .pinned], laidTests := true, laidLooks := .later }
def SchemaMasksCardSaid : Prop := Claim7.holds Tryz.pinned (.plain (OpenSpec.ofChange schemaMasksSpec)) schemaMasksCard

/-- THE SECOND FORM's CARD OF 'provisionlaw12.SchemaChecks'. -/
def schemaChecksUptoCard : Claim7 := { stood := { row := schemaChecksUptoRow, standIns := [], harness := (true, "8e4716b94e30a30b8a26af4c65b5726b709059047e28829408d6946dc657be32"), looks := true }, kinds := [], alts := [], laidByText := true, laidKinds := [.data, .data, .data, .data, .sentinel, .sentinel, .pinned], laidTests := true, laidLooks := .later }
def SchemaChecksUptoCardSaid : Prop := Claim7.holds Tryz.pinned (.plain (OpenSpec.upto schemaChecksSpec)) schemaChecksUptoCard

/-- THE SECOND FORM's CARD OF 'provisionlaw12.SchemaCoerces'. -/
def schemaCoercesUptoCard : Claim7 := { stood := { row := schemaCoercesUptoRow, standIns := [], harness := (true, "8e4716b94e30a30b8a26af4c65b5726b709059047e28829408d6946dc657be32"), looks := true }, kinds := [], alts := [], laidByText := true, laidKinds := [.data, .data, .data, .data, .sentinel, .sentinel, .pinned], laidTests := true, laidLooks := .later }
def SchemaCoercesUptoCardSaid : Prop := Claim7.holds Tryz.pinned (.plain (OpenSpec.upto schemaCoercesSpec)) schemaCoercesUptoCard

/-- THE SECOND FORM's CARD OF 'provisionlaw12.SchemaAgain'. -/
def schemaAgainUptoCard : Claim7 := { stood := { row := schemaAgainUptoRow, standIns := [], harness := (true, "8e4716b94e30a30b8a26af4c65b5726b709059047e28829408d6946dc657be32"), looks := true }, kinds := [], alts := [], laidByText := true, laidKinds := [.data, .data, .data, .data, .sentinel, .sentinel, .pinned], laidTests := true, laidLooks := .later }
def SchemaAgainUptoCardSaid : Prop := Claim7.holds Tryz.pinned (.plain (OpenSpec.upto schemaAgainSpec)) schemaAgainUptoCard

/-- THE SECOND FORM's CARD OF 'provisionlaw12.SchemaProposes'. -/
def schemaProposesUptoCard : Claim7 := { stood := { row := schemaProposesUptoRow, standIns := [], harness := (true, "8e4716b94e30a30b8a26af4c65b5726b709059047e28829408d6946dc657be32"), looks := true }, kinds := [], alts := [], laidByText := true, laidKinds := [.data, .data, .data, .data, .sentinel, .sentinel, .pinned], laidTests := true, laidLooks := .later }
def SchemaProposesUptoCardSaid : Prop := Claim7.holds Tryz.pinned (.plain (OpenSpec.upto schemaProposesSpec)) schemaProposesUptoCard

/-- THE SECOND FORM's CARD OF 'provisionlaw12.SchemaPlans'. -/
def schemaPlansUptoCard : Claim7 := { stood := { row := schemaPlansUptoRow, standIns := [], harness := (true, "8e4716b94e30a30b8a26af4c65b5726b709059047e28829408d6946dc657be32"), looks := true }, kinds := [], alts := [], laidByText := true, laidKinds := [.data, .data, .data, .data, .sentinel, .sentinel, .pinned], laidTests := true, laidLooks := .later }
def SchemaPlansUptoCardSaid : Prop := Claim7.holds Tryz.pinned (.plain (OpenSpec.upto schemaPlansSpec)) schemaPlansUptoCard

/-- THE SECOND FORM's CARD OF 'provisionlaw12.SchemaChanges'. -/
def schemaChangesUptoCard : Claim7 := { stood := { row := schemaChangesUptoRow, standIns := [], harness := (true, "8e4716b94e30a30b8a26af4c65b5726b709059047e28829408d6946dc657be32"), looks := true }, kinds := [], alts := [], laidByText := true, laidKinds := [.data, .data, .data, .data, .sentinel, .sentinel, .pinned], laidTests := true, laidLooks := .later }
def SchemaChangesUptoCardSaid : Prop := Claim7.holds Tryz.pinned (.plain (OpenSpec.upto schemaChangesSpec)) schemaChangesUptoCard

/-- THE SECOND FORM's CARD OF 'provisionlaw12.SchemaFinds'. -/
def schemaFindsUptoCard : Claim7 := { stood := { row := schemaFindsUptoRow, standIns := [], harness := (true, "8e4716b94e30a30b8a26af4c65b5726b709059047e28829408d6946dc657be32"), looks := true }, kinds := [], alts := [], laidByText := true, laidKinds := [.data, .data, .data, .data, .sentinel, .sentinel, .pinned], laidTests := true, laidLooks := .later }
def SchemaFindsUptoCardSaid : Prop := Claim7.holds Tryz.pinned (.plain (OpenSpec.upto schemaFindsSpec)) schemaFindsUptoCard

/-- THE SECOND FORM's CARD OF 'provisionlaw12.SchemaMasks'. -/
def schemaMasksUptoCard : Claim7 := { stood := { row := schemaMasksUptoRow, standIns := [], harness := (true, "8e4716b94e30a30b8a26af4c65b5726b709059047e28829408d6946dc657be32"), looks := true }, kinds := [], alts := [], laidByText := true, laidKinds := [.data, .data, .data, .data, .sentinel, .sentinel, .pinned], laidTests := true, laidLooks := .later }
def SchemaMasksUptoCardSaid : Prop := Claim7.holds Tryz.pinned (.plain (OpenSpec.upto schemaMasksSpec)) schemaMasksUptoCard
end Rows
end Go.Proofs.YtkffpfapfljinaaGreatDoor
