/-
  DERIVED. GIVEN WITH THE SEED: THE CARDS: each row of YtodgepbihbcdbaaGreatDoorRows.lean that lists a variable, with what it lists TIED to the program's text (the seventh form; the later family's looks); each row that meets fmt, with fmt's text TOLD by the authors' own Lean function (tested against real Go, not proved from fmt's source: count such statements apart). THE CARD IS WHAT COUNTS. Prove the row's statement (the work); the ties are given (YtodgepbihbcdbaaGreatDoorTie.lean); close each card by the builder's one call (the guide's Derived/Test/ToyasCard.lean, 'card_holds'). Laid BY PROGRAM, IN A SANDBOX (cutbox-door.mjs). By AI agents, Wed Nov 11 2026. No macro, syntax, notation, axiom, sorry.
-/
import Derived.Test.YtodgepbihbcdbaaGreatDoorRows
import GoSem.ClaimSeven
namespace Go.Proofs.YtodgepbihbcdbaaGreatDoor
namespace Rows

/-- THE TIED CARD OF 'provisionlaw21.InstancesKinds'. -/
def instancesKindsCard : Claim7 := { stood := { row := instancesKindsRow, standIns := [], harness := (true, "9213b4cc2f5820d583c434e52908a19d0c4920c1a8e8fed9f276ff1b7642780f"), looks := true }, kinds := [], alts := [], laidByText := true, laidKinds := [.data, .data, .data, .data, .sentinel, .sentinel, .pinned], laidTests := true, laidLooks := .later }
def InstancesKindsCardSaid : Prop := Claim7.holds Tryz.pinned (.plain (OpenSpec.ofChange instancesKindsSpec)) instancesKindsCard

/-- THE TIED CARD OF 'provisionlaw21.InstancesScopes'. -/
def instancesScopesCard : Claim7 := { stood := { row := instancesScopesRow, standIns := [], harness := (true, "9213b4cc2f5820d583c434e52908a19d0c4920c1a8e8fed9f276ff1b7642780f"), looks := true }, kinds := [], alts := [], laidByText := true, laidKinds := [.data, .data, .data, .data, .sentinel, .sentinel, .pinned], laidTests := true, laidLooks := .later }
def InstancesScopesCardSaid : Prop := Claim7.holds Tryz.pinned (.plain (OpenSpec.ofChange instancesScopesSpec)) instancesScopesCard

/-- THE TIED CARD OF 'provisionlaw21.InstancesCollects'. -/
def instancesCollectsCard : Claim7 := { stood := { row := instancesCollectsRow, standIns := [], harness := (true, "9213b4cc2f5820d583c434e52908a19d0c4920c1a8e8fed9f276ff1b7642780f"), looks := true }, kinds := [], alts := [], laidByText := true, laidKinds := [.data, .data, .data, .data, .sentinel, .sentinel, .pinned], laidTests := true, laidLooks := .later }
def InstancesCollectsCardSaid : Prop := Claim7.holds Tryz.pinned (.plain (OpenSpec.ofChange instancesCollectsSpec)) instancesCollectsCard

/-- THE TIED CARD OF 'provisionlaw21.InstancesRefines'. -/
def instancesRefinesCard : Claim7 := { stood := { row := instancesRefinesRow, standIns := [], harness := (true, "9213b4cc2f5820d583c434e52908a19d0c4920c1a8e8fed9f276ff1b7642780f"), looks := true }, kinds := [], alts := [], laidByText := true, laidKinds := [.data, .data, .data, .data, .sentinel, .sentinel, .pinned], laidTests := true, laidLooks := .later }
def InstancesRefinesCardSaid : Prop := Claim7.holds Tryz.pinned (.plain (OpenSpec.ofChange instancesRefinesSpec)) instancesRefinesCard

/-- THE TIED CARD OF 'provisionlaw21.InstancesOnly'. -/
def instancesOnlyCard : Claim7 := { stood := { row := instancesOnlyRow, standIns := [], harness := (true, "9213b4cc2f5820d583c434e52908a19d0c4920c1a8e8fed9f276ff1b7642780f"), looks := true }, kinds := [], alts := [], laidByText := true, laidKinds := [.data, .data, .data, .data, .sentinel, .sentinel, .pinned], laidTests := true, laidLooks := .later }
def InstancesOnlyCardSaid : Prop := Claim7.holds Tryz.pinned (.plain (OpenSpec.ofChange instancesOnlySpec)) instancesOnlyCard

/-- THE TIED CARD OF 'provisionlaw21.InstancesKeys'. -/
def instancesKeysCard : Claim7 := { stood := { row := instancesKeysRow, standIns := [], harness := (true, "9213b4cc2f5820d583c434e52908a19d0c4920c1a8e8fed9f276ff1b7642780f"), looks := true }, kinds := [], alts := [], laidByText := true, laidKinds := [.data, .data, .data, .data, .sentinel, .sentinel, .pinned], laidTests := true, laidLooks := .later }
def InstancesKeysCardSaid : Prop := Claim7.holds Tryz.pinned (.plain (OpenSpec.ofChange instancesKeysSpec)) instancesKeysCard

/-- THE SECOND FORM's CARD OF 'provisionlaw21.InstancesKinds'. -/
def instancesKindsUptoCard : Claim7 := { stood := { row := instancesKindsUptoRow, standIns := [], harness := (true, "9213b4cc2f5820d583c434e52908a19d0c4920c1a8e8fed9f276ff1b7642780f"), looks := true }, kinds := [], alts := [], laidByText := true, laidKinds := [.data, .data, .data, .data, .sentinel, .sentinel, .pinned], laidTests := true, laidLooks := .later }
def InstancesKindsUptoCardSaid : Prop := Claim7.holds Tryz.pinned (.plain (OpenSpec.upto instancesKindsSpec)) instancesKindsUptoCard

/-- THE SECOND FORM's CARD OF 'provisionlaw21.InstancesScopes'. -/
def instancesScopesUptoCard : Claim7 := { stood := { row := instancesScopesUptoRow, standIns := [], harness := (true, "9213b4cc2f5820d583c434e52908a19d0c4920c1a8e8fed9f276ff1b7642780f"), looks := true }, kinds := [], alts := [], laidByText := true, laidKinds := [.data, .data, .data, .data, .sentinel, .sentinel, .pinned], laidTests := true, laidLooks := .later }
def InstancesScopesUptoCardSaid : Prop := Claim7.holds Tryz.pinned (.plain (OpenSpec.upto instancesScopesSpec)) instancesScopesUptoCard

/-- THE SECOND FORM's CARD OF 'provisionlaw21.InstancesCollects'. -/
def instancesCollectsUptoCard : Claim7 := { stood := { row := instancesCollectsUptoRow, standIns := [], harness := (true, "9213b4cc2f5820d583c434e52908a19d0c4920c1a8e8fed9f276ff1b7642780f"), looks := true }, kinds := [], alts := [], laidByText := true, laidKinds := [.data, .data, .data, .data, .sentinel, .sentinel, .pinned], laidTests := true, laidLooks := .later }
def InstancesCollectsUptoCardSaid : Prop := Claim7.holds Tryz.pinned (.plain (OpenSpec.upto instancesCollectsSpec)) instancesCollectsUptoCard

/-- THE SECOND FORM's CARD OF 'provisionlaw21.InstancesRefines'. -/
def instancesRefinesUptoCard : Claim7 := { stood := { row := instancesRefinesUptoRow, standIns := [], harness := (true, "9213b4cc2f5820d583c434e52908a19d0c4920c1a8e8fed9f276ff1b7642780f"), looks := true }, kinds := [], alts := [], laidByText := true, laidKinds := [.data, .data, .data, .data, .sentinel, .sentinel, .pinned], laidTests := true, laidLooks := .later }
def InstancesRefinesUptoCardSaid : Prop := Claim7.holds Tryz.pinned (.plain (OpenSpec.upto instancesRefinesSpec)) instancesRefinesUptoCard

/-- THE SECOND FORM's CARD OF 'provisionlaw21.InstancesOnly'. -/
def instancesOnlyUptoCard : Claim7 := { stood := { row := instancesOnlyUptoRow, standIns := [], harness := (true, "9213b4cc2f5820d583c434e52908a19d0c4920c1a8e8fed9f276ff1b7642780f"), looks := true }, kinds := [], alts := [], laidByText := true, laidKinds := [.data, .data, .data, .data, .sentinel, .sentinel, .pinned], laidTests := true, laidLooks := .later }
def InstancesOnlyUptoCardSaid : Prop := Claim7.holds Tryz.pinned (.plain (OpenSpec.upto instancesOnlySpec)) instancesOnlyUptoCard

/-- THE SECOND FORM's CARD OF 'provisionlaw21.InstancesKeys'. -/
def instancesKeysUptoCard : Claim7 := { stood := { row := instancesKeysUptoRow, standIns := [], harness := (true, "9213b4cc2f5820d583c434e52908a19d0c4920c1a8e8fed9f276ff1b7642780f"), looks := true }, kinds := [], alts := [], laidByText := true, laidKinds := [.data, .data, .data, .data, .sentinel, .sentinel, .pinned], laidTests := true, laidLooks := .later }
def InstancesKeysUptoCardSaid : Prop := Claim7.holds Tryz.pinned (.plain (OpenSpec.upto instancesKeysSpec)) instancesKeysUptoCard
end Rows
end Go.Proofs.YtodgepbihbcdbaaGreatDoor
