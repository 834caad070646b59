/-
  DERIVED. GIVEN WITH THE SEED: THE CARDS: each row of YtkmhhboihgckcaaGreatDoorRows.lean that lists a variable, with what it lists TIED to the program's text (the seventh form; the later family's looks); each row that meets fmt, with fmt's text TOLD by the authors' own Lean function (tested against real Go, not proved from fmt's source: count such statements apart). THE CARD IS WHAT COUNTS. Prove the row's statement (the work); the ties are given (YtkmhhboihgckcaaGreatDoorTie.lean); close each card by the builder's one call (the guide's Derived/Test/ToyasCard.lean, 'card_holds'). Laid BY PROGRAM, IN A SANDBOX (cutbox-door.mjs). By AI agents, Wed Nov 11 2026. No macro, syntax, notation, axiom, sorry.
-/
import Derived.Test.YtkmhhboihgckcaaGreatDoorRows
import GoSem.ClaimSeven
namespace Go.Proofs.YtkmhhboihgckcaaGreatDoor
namespace Rows

/-- THE TIED CARD OF 'provisionlaw11.ConvertWords'. -/
def convertWordsCard : Claim7 := { stood := { row := convertWordsRow, standIns := [], harness := (true, "6babc9ae166556cd713acd84eb403e3081bd7782f32903505ad74e6329768273"), looks := true }, kinds := [], alts := [], laidByText := true, laidKinds := [.data, .data, .data, .data, .sentinel, .sentinel, .pinned], laidTests := true, laidLooks := .later }
def ConvertWordsCardSaid : Prop := Claim7.holds Tryz.pinned (.plain (OpenSpec.ofChange convertWordsSpec)) convertWordsCard

/-- THE TIED CARD OF 'provisionlaw11.ConvertValues'. -/
def convertValuesCard : Claim7 := { stood := { row := convertValuesRow, standIns := [], harness := (true, "6babc9ae166556cd713acd84eb403e3081bd7782f32903505ad74e6329768273"), looks := true }, kinds := [], alts := [], laidByText := true, laidKinds := [.data, .data, .data, .data, .sentinel, .sentinel, .pinned], laidTests := true, laidLooks := .later }
def ConvertValuesCardSaid : Prop := Claim7.holds Tryz.pinned (.plain (OpenSpec.ofChange convertValuesSpec)) convertValuesCard

/-- THE SECOND FORM's CARD OF 'provisionlaw11.ConvertWords'. -/
def convertWordsUptoCard : Claim7 := { stood := { row := convertWordsUptoRow, standIns := [], harness := (true, "6babc9ae166556cd713acd84eb403e3081bd7782f32903505ad74e6329768273"), looks := true }, kinds := [], alts := [], laidByText := true, laidKinds := [.data, .data, .data, .data, .sentinel, .sentinel, .pinned], laidTests := true, laidLooks := .later }
def ConvertWordsUptoCardSaid : Prop := Claim7.holds Tryz.pinned (.plain (OpenSpec.upto convertWordsSpec)) convertWordsUptoCard

/-- THE SECOND FORM's CARD OF 'provisionlaw11.ConvertValues'. -/
def convertValuesUptoCard : Claim7 := { stood := { row := convertValuesUptoRow, standIns := [], harness := (true, "6babc9ae166556cd713acd84eb403e3081bd7782f32903505ad74e6329768273"), looks := true }, kinds := [], alts := [], laidByText := true, laidKinds := [.data, .data, .data, .data, .sentinel, .sentinel, .pinned], laidTests := true, laidLooks := .later }
def ConvertValuesUptoCardSaid : Prop := Claim7.holds Tryz.pinned (.plain (OpenSpec.upto convertValuesSpec)) convertValuesUptoCard
end Rows
end Go.Proofs.YtkmhhboihgckcaaGreatDoor
