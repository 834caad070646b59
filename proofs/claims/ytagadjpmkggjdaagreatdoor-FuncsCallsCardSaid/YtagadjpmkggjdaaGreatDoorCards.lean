/-
  DERIVED. GIVEN WITH THE SEED: THE CARDS: each row of YtagadjpmkggjdaaGreatDoorRows.lean that lists a variable, with what it lists TIED to the program's text (the seventh form; the later family's looks); each row that meets fmt, with fmt's text TOLD by the authors' own Lean function (tested against real Go, not proved from fmt's source: count such statements apart). THE CARD IS WHAT COUNTS. Prove the row's statement (the work); the ties are given (YtagadjpmkggjdaaGreatDoorTie.lean); close each card by the builder's one call (the guide's Derived/Test/ToyasCard.lean, 'card_holds'). Laid BY PROGRAM, IN A SANDBOX (cutbox-door.mjs). By AI agents, Wed Nov 11 2026. No macro, syntax, notation, axiom, sorry.
-/
import Derived.Test.YtagadjpmkggjdaaGreatDoorRows
import GoSem.ClaimSeven
namespace Go.Proofs.YtagadjpmkggjdaaGreatDoor
namespace Rows

/-- THE TIED CARD OF 'provisionlaw18.FuncsCalls'. -/
def funcsCallsCard : Claim7 := { stood := { row := funcsCallsRow, standIns := [], harness := (true, "2dac05b264c6d0a99a8e092ac0912e6b3a785a2e19fb8e68a6a8ab94a900710f"), looks := true }, kinds := [], alts := [], laidByText := true, laidKinds := [.data, .data, .data, .data, .sentinel, .sentinel, .pinned], laidTests := true, laidLooks := .later }
def FuncsCallsCardSaid : Prop := Claim7.holds Tryz.pinned (.plain (OpenSpec.ofChange funcsCallsSpec)) funcsCallsCard

/-- THE TIED CARD OF 'provisionlaw18.FuncsCallable'. -/
def funcsCallableCard : Claim7 := { stood := { row := funcsCallableRow, standIns := [], harness := (true, "2dac05b264c6d0a99a8e092ac0912e6b3a785a2e19fb8e68a6a8ab94a900710f"), looks := true }, kinds := [], alts := [], laidByText := true, laidKinds := [.data, .data, .data, .data, .sentinel, .sentinel, .pinned], laidTests := true, laidLooks := .later }
def FuncsCallableCardSaid : Prop := Claim7.holds Tryz.pinned (.plain (OpenSpec.ofChange funcsCallableSpec)) funcsCallableCard

/-- THE TIED CARD OF 'provisionlaw18.FuncsKnown'. -/
def funcsKnownCard : Claim7 := { stood := { row := funcsKnownRow, standIns := [], harness := (true, "2dac05b264c6d0a99a8e092ac0912e6b3a785a2e19fb8e68a6a8ab94a900710f"), looks := true }, kinds := [], alts := [], laidByText := true, laidKinds := [.data, .data, .data, .data, .sentinel, .sentinel, .pinned], laidTests := true, laidLooks := .later }
def FuncsKnownCardSaid : Prop := Claim7.holds Tryz.pinned (.plain (OpenSpec.ofChange funcsKnownSpec)) funcsKnownCard

/-- THE TIED CARD OF 'provisionlaw18.FuncsInverse'. -/
def funcsInverseCard : Claim7 := { stood := { row := funcsInverseRow, standIns := [], harness := (true, "2dac05b264c6d0a99a8e092ac0912e6b3a785a2e19fb8e68a6a8ab94a900710f"), looks := true }, kinds := [], alts := [], laidByText := true, laidKinds := [.data, .data, .data, .data, .sentinel, .sentinel, .pinned], laidTests := true, laidLooks := .later }
def FuncsInverseCardSaid : Prop := Claim7.holds Tryz.pinned (.plain (OpenSpec.ofChange funcsInverseSpec)) funcsInverseCard

/-- THE TIED CARD OF 'provisionlaw18.FuncsMonotone'. -/
def funcsMonotoneCard : Claim7 := { stood := { row := funcsMonotoneRow, standIns := [], harness := (true, "2dac05b264c6d0a99a8e092ac0912e6b3a785a2e19fb8e68a6a8ab94a900710f"), looks := true }, kinds := [], alts := [], laidByText := true, laidKinds := [.data, .data, .data, .data, .sentinel, .sentinel, .pinned], laidTests := true, laidLooks := .later }
def FuncsMonotoneCardSaid : Prop := Claim7.holds Tryz.pinned (.plain (OpenSpec.ofChange funcsMonotoneSpec)) funcsMonotoneCard

/-- THE SECOND FORM's CARD OF 'provisionlaw18.FuncsCalls'. -/
def funcsCallsUptoCard : Claim7 := { stood := { row := funcsCallsUptoRow, standIns := [], harness := (true, "2dac05b264c6d0a99a8e092ac0912e6b3a785a2e19fb8e68a6a8ab94a900710f"), looks := true }, kinds := [], alts := [], laidByText := true, laidKinds := [.data, .data, .data, .data, .sentinel, .sentinel, .pinned], laidTests := true, laidLooks := .later }
def FuncsCallsUptoCardSaid : Prop := Claim7.holds Tryz.pinned (.plain (OpenSpec.upto funcsCallsSpec)) funcsCallsUptoCard

/-- THE SECOND FORM's CARD OF 'provisionlaw18.FuncsCallable'. -/
def funcsCallableUptoCard : Claim7 := { stood := { row := funcsCallableUptoRow, standIns := [], harness := (true, "2dac05b264c6d0a99a8e092ac0912e6b3a785a2e19fb8e68a6a8ab94a900710f"), looks := true }, kinds := [], alts := [], laidByText := true, laidKinds := [.data, .data, .data, .data, .sentinel, .sentinel, .pinned], laidTests := true, laidLooks := .later }
def FuncsCallableUptoCardSaid : Prop := Claim7.holds Tryz.pinned (.plain (OpenSpec.upto funcsCallableSpec)) funcsCallableUptoCard

/-- THE SECOND FORM's CARD OF 'provisionlaw18.FuncsKnown'. -/
def funcsKnownUptoCard : Claim7 := { stood := { row := funcsKnownUptoRow, standIns := [], harness := (true, "2dac05b264c6d0a99a8e092ac0912e6b3a785a2e19fb8e68a6a8ab94a900710f"), looks := true }, kinds := [], alts := [], laidByText := true, laidKinds := [.data, .data, .data, .data, .sentinel, .sentinel, .pinned], laidTests := true, laidLooks := .later }
def FuncsKnownUptoCardSaid : Prop := Claim7.holds Tryz.pinned (.plain (OpenSpec.upto funcsKnownSpec)) funcsKnownUptoCard

/-- THE SECOND FORM's CARD OF 'provisionlaw18.FuncsInverse'. -/
def funcsInverseUptoCard : Claim7 := { stood := { row := funcsInverseUptoRow, standIns := [], harness := (true, "2dac05b264c6d0a99a8e092ac0912e6b3a785a2e19fb8e68a6a8ab94a900710f"), looks := true }, kinds := [], alts := [], laidByText := true, laidKinds := [.data, .data, .data, .data, .sentinel, .sentinel, .pinned], laidTests := true, laidLooks := .later }
def FuncsInverseUptoCardSaid : Prop := Claim7.holds Tryz.pinned (.plain (OpenSpec.upto funcsInverseSpec)) funcsInverseUptoCard

/-- THE SECOND FORM's CARD OF 'provisionlaw18.FuncsMonotone'. -/
def funcsMonotoneUptoCard : Claim7 := { stood := { row := funcsMonotoneUptoRow, standIns := [], harness := (true, "2dac05b264c6d0a99a8e092ac0912e6b3a785a2e19fb8e68a6a8ab94a900710f"), looks := true }, kinds := [], alts := [], laidByText := true, laidKinds := [.data, .data, .data, .data, .sentinel, .sentinel, .pinned], laidTests := true, laidLooks := .later }
def FuncsMonotoneUptoCardSaid : Prop := Claim7.holds Tryz.pinned (.plain (OpenSpec.upto funcsMonotoneSpec)) funcsMonotoneUptoCard
end Rows
end Go.Proofs.YtagadjpmkggjdaaGreatDoor
