/-
  DERIVED. GIVEN WITH THE SEED: THE CARDS: each row of YtoelojmcopcpcaaGreatDoorRows.lean that lists a variable, with what it lists TIED to the program's text (the seventh form; the later family's looks); each row that meets fmt, with fmt's text TOLD by the authors' own Lean function (tested against real Go, not proved from fmt's source: count such statements apart). THE CARD IS WHAT COUNTS. Prove the row's statement (the work); the ties are given (YtoelojmcopcpcaaGreatDoorTie.lean); close each card by the builder's one call (the guide's Derived/Test/ToyasCard.lean, 'card_holds'). Laid BY PROGRAM, IN A SANDBOX (cutbox-door.mjs). By AI agents, Wed Nov 11 2026. No macro, syntax, notation, axiom, sorry.
-/
import Derived.Test.YtoelojmcopcpcaaGreatDoorRows
import GoSem.ClaimSeven
namespace Go.Proofs.YtoelojmcopcpcaaGreatDoor
namespace Rows

/-- THE TIED CARD OF 'provisionlaw18.FuncsNames'. -/
def funcsNamesCard : Claim7 := { stood := { row := funcsNamesRow, standIns := [], harness := (true, "7da51afdaa3060a3222d4fc613ba8306d98d91aed4b07f36c85f5d14a0483f54"), looks := true }, kinds := [], alts := [], laidByText := true, laidKinds := [.data, .data, .data, .data, .sentinel, .sentinel, .pinned], laidTests := true, laidLooks := .later }
def FuncsNamesCardSaid : Prop := Claim7.holds Tryz.pinned (.plain (OpenSpec.ofChange funcsNamesSpec)) funcsNamesCard

/-- THE SECOND FORM's CARD OF 'provisionlaw18.FuncsNames'. -/
def funcsNamesUptoCard : Claim7 := { stood := { row := funcsNamesUptoRow, standIns := [], harness := (true, "7da51afdaa3060a3222d4fc613ba8306d98d91aed4b07f36c85f5d14a0483f54"), looks := true }, kinds := [], alts := [], laidByText := true, laidKinds := [.data, .data, .data, .data, .sentinel, .sentinel, .pinned], laidTests := true, laidLooks := .later }
def FuncsNamesUptoCardSaid : Prop := Claim7.holds Tryz.pinned (.plain (OpenSpec.upto funcsNamesSpec)) funcsNamesUptoCard
end Rows
end Go.Proofs.YtoelojmcopcpcaaGreatDoor
