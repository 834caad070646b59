/-
  DERIVED. GIVEN WITH THE SEED: THE CARDS: each row of YtjfcgdablmjmnaaGreatDoorRows.lean that lists a variable, with what it lists TIED to the program's text (the seventh form; the later family's looks); each row that meets fmt, with fmt's text TOLD by the authors' own Lean function (tested against real Go, not proved from fmt's source: count such statements apart). THE CARD IS WHAT COUNTS. Prove the row's statement (the work); the ties are given (YtjfcgdablmjmnaaGreatDoorTie.lean); close each card by the builder's one call (the guide's Derived/Test/ToyasCard.lean, 'card_holds'). Laid BY PROGRAM, IN A SANDBOX (cutbox-door.mjs). By AI agents, Wed Nov 11 2026. No macro, syntax, notation, axiom, sorry.
-/
import Derived.Test.YtjfcgdablmjmnaaGreatDoorRows
import GoSem.ClaimSeven
namespace Go.Proofs.YtjfcgdablmjmnaaGreatDoor
namespace Rows

/-- THE TIED CARD OF 'provisionlaw19.OpsCalls'. -/
def opsCallsCard : Claim7 := { stood := { row := opsCallsRow, standIns := [], harness := (true, "cceb1bc4c31c3e430ac025067b6c5189291b890a2dff4dc1a15abc1d600501dd"), looks := true }, kinds := [], alts := [], laidByText := true, laidKinds := [.data, .data, .data, .data, .sentinel, .sentinel, .pinned], laidTests := true, laidLooks := .later }
def OpsCallsCardSaid : Prop := Claim7.holds Tryz.pinned (.plain (OpenSpec.ofChange opsCallsSpec)) opsCallsCard

/-- THE TIED CARD OF 'provisionlaw19.OpsMonotone'. -/
def opsMonotoneCard : Claim7 := { stood := { row := opsMonotoneRow, standIns := [], harness := (true, "cceb1bc4c31c3e430ac025067b6c5189291b890a2dff4dc1a15abc1d600501dd"), looks := true }, kinds := [], alts := [], laidByText := true, laidKinds := [.data, .data, .data, .data, .sentinel, .sentinel, .pinned], laidTests := true, laidLooks := .later }
def OpsMonotoneCardSaid : Prop := Claim7.holds Tryz.pinned (.plain (OpenSpec.ofChange opsMonotoneSpec)) opsMonotoneCard

/-- THE TIED CARD OF 'provisionlaw19.OpsKnown'. -/
def opsKnownCard : Claim7 := { stood := { row := opsKnownRow, standIns := [], harness := (true, "cceb1bc4c31c3e430ac025067b6c5189291b890a2dff4dc1a15abc1d600501dd"), looks := true }, kinds := [], alts := [], laidByText := true, laidKinds := [.data, .data, .data, .data, .sentinel, .sentinel, .pinned], laidTests := true, laidLooks := .later }
def OpsKnownCardSaid : Prop := Claim7.holds Tryz.pinned (.plain (OpenSpec.ofChange opsKnownSpec)) opsKnownCard

/-- THE TIED CARD OF 'provisionlaw19.OpsLogic'. -/
def opsLogicCard : Claim7 := { stood := { row := opsLogicRow, standIns := [], harness := (true, "cceb1bc4c31c3e430ac025067b6c5189291b890a2dff4dc1a15abc1d600501dd"), looks := true }, kinds := [], alts := [], laidByText := true, laidKinds := [.data, .data, .data, .data, .sentinel, .sentinel, .pinned], laidTests := true, laidLooks := .later }
def OpsLogicCardSaid : Prop := Claim7.holds Tryz.pinned (.plain (OpenSpec.ofChange opsLogicSpec)) opsLogicCard

/-- THE TIED CARD OF 'provisionlaw19.OpsCompares'. -/
def opsComparesCard : Claim7 := { stood := { row := opsComparesRow, standIns := [], harness := (true, "cceb1bc4c31c3e430ac025067b6c5189291b890a2dff4dc1a15abc1d600501dd"), looks := true }, kinds := [], alts := [], laidByText := true, laidKinds := [.data, .data, .data, .data, .sentinel, .sentinel, .pinned], laidTests := true, laidLooks := .later }
def OpsComparesCardSaid : Prop := Claim7.holds Tryz.pinned (.plain (OpenSpec.ofChange opsComparesSpec)) opsComparesCard

/-- THE TIED CARD OF 'provisionlaw19.OpsEntries'. -/
def opsEntriesCard : Claim7 := { stood := { row := opsEntriesRow, standIns := [], harness := (true, "cceb1bc4c31c3e430ac025067b6c5189291b890a2dff4dc1a15abc1d600501dd"), looks := true }, kinds := [], alts := [], laidByText := true, laidKinds := [.data, .data, .data, .data, .sentinel, .sentinel, .pinned], laidTests := true, laidLooks := .later }
def OpsEntriesCardSaid : Prop := Claim7.holds Tryz.pinned (.plain (OpenSpec.ofChange opsEntriesSpec)) opsEntriesCard

/-- THE SECOND FORM's CARD OF 'provisionlaw19.OpsCalls'. -/
def opsCallsUptoCard : Claim7 := { stood := { row := opsCallsUptoRow, standIns := [], harness := (true, "cceb1bc4c31c3e430ac025067b6c5189291b890a2dff4dc1a15abc1d600501dd"), looks := true }, kinds := [], alts := [], laidByText := true, laidKinds := [.data, .data, .data, .data, .sentinel, .sentinel, .pinned], laidTests := true, laidLooks := .later }
def OpsCallsUptoCardSaid : Prop := Claim7.holds Tryz.pinned (.plain (OpenSpec.upto opsCallsSpec)) opsCallsUptoCard

/-- THE SECOND FORM's CARD OF 'provisionlaw19.OpsMonotone'. -/
def opsMonotoneUptoCard : Claim7 := { stood := { row := opsMonotoneUptoRow, standIns := [], harness := (true, "cceb1bc4c31c3e430ac025067b6c5189291b890a2dff4dc1a15abc1d600501dd"), looks := true }, kinds := [], alts := [], laidByText := true, laidKinds := [.data, .data, .data, .data, .sentinel, .sentinel, .pinned], laidTests := true, laidLooks := .later }
def OpsMonotoneUptoCardSaid : Prop := Claim7.holds Tryz.pinned (.plain (OpenSpec.upto opsMonotoneSpec)) opsMonotoneUptoCard

/-- THE SECOND FORM's CARD OF 'provisionlaw19.OpsKnown'. -/
def opsKnownUptoCard : Claim7 := { stood := { row := opsKnownUptoRow, standIns := [], harness := (true, "cceb1bc4c31c3e430ac025067b6c5189291b890a2dff4dc1a15abc1d600501dd"), looks := true }, kinds := [], alts := [], laidByText := true, laidKinds := [.data, .data, .data, .data, .sentinel, .sentinel, .pinned], laidTests := true, laidLooks := .later }
def OpsKnownUptoCardSaid : Prop := Claim7.holds Tryz.pinned (.plain (OpenSpec.upto opsKnownSpec)) opsKnownUptoCard

/-- THE SECOND FORM's CARD OF 'provisionlaw19.OpsLogic'. -/
def opsLogicUptoCard : Claim7 := { stood := { row := opsLogicUptoRow, standIns := [], harness := (true, "cceb1bc4c31c3e430ac025067b6c5189291b890a2dff4dc1a15abc1d600501dd"), looks := true }, kinds := [], alts := [], laidByText := true, laidKinds := [.data, .data, .data, .data, .sentinel, .sentinel, .pinned], laidTests := true, laidLooks := .later }
def OpsLogicUptoCardSaid : Prop := Claim7.holds Tryz.pinned (.plain (OpenSpec.upto opsLogicSpec)) opsLogicUptoCard

/-- THE SECOND FORM's CARD OF 'provisionlaw19.OpsCompares'. -/
def opsComparesUptoCard : Claim7 := { stood := { row := opsComparesUptoRow, standIns := [], harness := (true, "cceb1bc4c31c3e430ac025067b6c5189291b890a2dff4dc1a15abc1d600501dd"), looks := true }, kinds := [], alts := [], laidByText := true, laidKinds := [.data, .data, .data, .data, .sentinel, .sentinel, .pinned], laidTests := true, laidLooks := .later }
def OpsComparesUptoCardSaid : Prop := Claim7.holds Tryz.pinned (.plain (OpenSpec.upto opsComparesSpec)) opsComparesUptoCard

/-- THE SECOND FORM's CARD OF 'provisionlaw19.OpsEntries'. -/
def opsEntriesUptoCard : Claim7 := { stood := { row := opsEntriesUptoRow, standIns := [], harness := (true, "cceb1bc4c31c3e430ac025067b6c5189291b890a2dff4dc1a15abc1d600501dd"), looks := true }, kinds := [], alts := [], laidByText := true, laidKinds := [.data, .data, .data, .data, .sentinel, .sentinel, .pinned], laidTests := true, laidLooks := .later }
def OpsEntriesUptoCardSaid : Prop := Claim7.holds Tryz.pinned (.plain (OpenSpec.upto opsEntriesSpec)) opsEntriesUptoCard
end Rows
end Go.Proofs.YtjfcgdablmjmnaaGreatDoor
