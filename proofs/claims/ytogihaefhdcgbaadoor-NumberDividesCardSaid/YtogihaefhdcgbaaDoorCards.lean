/-
  DERIVED. GIVEN WITH THE SEED: THE CARDS: each row of YtogihaefhdcgbaaDoorRows.lean that lists a variable, with what it lists TIED to the program's text (the seventh form; the later family's looks); each row that meets fmt, with fmt's text TOLD by the authors' own Lean function (tested against real Go, not proved from fmt's source: count such statements apart). THE CARD IS WHAT COUNTS. Prove the row's statement (the work); the ties are given (YtogihaefhdcgbaaDoorTie.lean); close each card by the builder's one call (the guide's Derived/Test/ToyasCard.lean, 'card_holds'). Laid BY PROGRAM, IN A SANDBOX (cutbox-door.mjs). By AI agents, Wed Nov 11 2026. No macro, syntax, notation, axiom, sorry.
-/
import Derived.Test.YtogihaefhdcgbaaDoorRows
import GoSem.ClaimSeven
namespace Go.Proofs.YtogihaefhdcgbaaDoor
namespace Rows

/-- THE TIED CARD OF 'provisionlaw01.NumberTexts'. -/
def numberTextsCard : Claim7 := { stood := { row := numberTextsRow, standIns := [], harness := (true, "58e9f982769f0d81134863462d5b1d543ab1436de8ac04a214a55416da2b4da0"), looks := true }, kinds := [], alts := [], laidByText := true, laidKinds := [.data, .data, .data, .sentinel, .sentinel], laidTests := true, laidLooks := .later }
def NumberTextsCardSaid : Prop := Claim7.holds Tryd.pinned (.plain (OpenSpec.ofChange numberTextsSpec)) numberTextsCard

/-- THE TIED CARD OF 'provisionlaw01.NumberBack'. -/
def numberBackCard : Claim7 := { stood := { row := numberBackRow, standIns := [], harness := (true, "58e9f982769f0d81134863462d5b1d543ab1436de8ac04a214a55416da2b4da0"), looks := true }, kinds := [], alts := [], laidByText := true, laidKinds := [.data, .data, .data, .sentinel, .sentinel], laidTests := true, laidLooks := .later }
def NumberBackCardSaid : Prop := Claim7.holds Tryd.pinned (.plain (OpenSpec.ofChange numberBackSpec)) numberBackCard

/-- THE TIED CARD OF 'provisionlaw01.NumberCanonical'. -/
def numberCanonicalCard : Claim7 := { stood := { row := numberCanonicalRow, standIns := [], harness := (true, "58e9f982769f0d81134863462d5b1d543ab1436de8ac04a214a55416da2b4da0"), looks := true }, kinds := [], alts := [], laidByText := true, laidKinds := [.data, .data, .data, .sentinel, .sentinel], laidTests := true, laidLooks := .later }
def NumberCanonicalCardSaid : Prop := Claim7.holds Tryd.pinned (.plain (OpenSpec.ofChange numberCanonicalSpec)) numberCanonicalCard

/-- THE TIED CARD OF 'provisionlaw01.NumberDivides'. -/
def numberDividesCard : Claim7 := { stood := { row := numberDividesRow, standIns := [], harness := (true, "58e9f982769f0d81134863462d5b1d543ab1436de8ac04a214a55416da2b4da0"), looks := true }, kinds := [], alts := [], laidByText := true, laidKinds := [.data, .data, .data, .sentinel, .sentinel], laidTests := true, laidLooks := .later }
def NumberDividesCardSaid : Prop := Claim7.holds Tryd.pinned (.plain (OpenSpec.ofChange numberDividesSpec)) numberDividesCard

/-- THE TIED CARD OF 'provisionlaw01.NumberArith'. -/
def numberArithCard : Claim7 := { stood := { row := numberArithRow, standIns := [], harness := (true, "58e9f982769f0d81134863462d5b1d543ab1436de8ac04a214a55416da2b4da0"), looks := true }, kinds := [], alts := [], laidByText := true, laidKinds := [.data, .data, .data, .sentinel, .sentinel], laidTests := true, laidLooks := .later }
def NumberArithCardSaid : Prop := Claim7.holds Tryd.pinned (.plain (OpenSpec.ofChange numberArithSpec)) numberArithCard

/-- THE TIED CARD OF 'provisionlaw01.NumberInverse'. -/
def numberInverseCard : Claim7 := { stood := { row := numberInverseRow, standIns := [], harness := (true, "58e9f982769f0d81134863462d5b1d543ab1436de8ac04a214a55416da2b4da0"), looks := true }, kinds := [], alts := [], laidByText := true, laidKinds := [.data, .data, .data, .sentinel, .sentinel], laidTests := true, laidLooks := .later }
def NumberInverseCardSaid : Prop := Claim7.holds Tryd.pinned (.plain (OpenSpec.ofChange numberInverseSpec)) numberInverseCard

/-- THE TIED CARD OF 'provisionlaw01.NumberErrors'. -/
def numberErrorsCard : Claim7 := { stood := { row := numberErrorsRow, standIns := [], harness := (true, "58e9f982769f0d81134863462d5b1d543ab1436de8ac04a214a55416da2b4da0"), looks := true }, kinds := [], alts := [], laidByText := true, laidKinds := [.data, .data, .data, .sentinel, .sentinel], laidTests := true, laidLooks := .later }
def NumberErrorsCardSaid : Prop := Claim7.holds Tryd.pinned (.plain (OpenSpec.ofChange numberErrorsSpec)) numberErrorsCard

/-- THE SECOND FORM's CARD OF 'provisionlaw01.NumberTexts'. -/
def numberTextsUptoCard : Claim7 := { stood := { row := numberTextsUptoRow, standIns := [], harness := (true, "58e9f982769f0d81134863462d5b1d543ab1436de8ac04a214a55416da2b4da0"), looks := true }, kinds := [], alts := [], laidByText := true, laidKinds := [.data, .data, .data, .sentinel, .sentinel], laidTests := true, laidLooks := .later }
def NumberTextsUptoCardSaid : Prop := Claim7.holds Tryd.pinned (.plain (OpenSpec.upto numberTextsSpec)) numberTextsUptoCard

/-- THE SECOND FORM's CARD OF 'provisionlaw01.NumberBack'. -/
def numberBackUptoCard : Claim7 := { stood := { row := numberBackUptoRow, standIns := [], harness := (true, "58e9f982769f0d81134863462d5b1d543ab1436de8ac04a214a55416da2b4da0"), looks := true }, kinds := [], alts := [], laidByText := true, laidKinds := [.data, .data, .data, .sentinel, .sentinel], laidTests := true, laidLooks := .later }
def NumberBackUptoCardSaid : Prop := Claim7.holds Tryd.pinned (.plain (OpenSpec.upto numberBackSpec)) numberBackUptoCard

/-- THE SECOND FORM's CARD OF 'provisionlaw01.NumberCanonical'. -/
def numberCanonicalUptoCard : Claim7 := { stood := { row := numberCanonicalUptoRow, standIns := [], harness := (true, "58e9f982769f0d81134863462d5b1d543ab1436de8ac04a214a55416da2b4da0"), looks := true }, kinds := [], alts := [], laidByText := true, laidKinds := [.data, .data, .data, .sentinel, .sentinel], laidTests := true, laidLooks := .later }
def NumberCanonicalUptoCardSaid : Prop := Claim7.holds Tryd.pinned (.plain (OpenSpec.upto numberCanonicalSpec)) numberCanonicalUptoCard

/-- THE SECOND FORM's CARD OF 'provisionlaw01.NumberDivides'. -/
def numberDividesUptoCard : Claim7 := { stood := { row := numberDividesUptoRow, standIns := [], harness := (true, "58e9f982769f0d81134863462d5b1d543ab1436de8ac04a214a55416da2b4da0"), looks := true }, kinds := [], alts := [], laidByText := true, laidKinds := [.data, .data, .data, .sentinel, .sentinel], laidTests := true, laidLooks := .later }
def NumberDividesUptoCardSaid : Prop := Claim7.holds Tryd.pinned (.plain (OpenSpec.upto numberDividesSpec)) numberDividesUptoCard

/-- THE SECOND FORM's CARD OF 'provisionlaw01.NumberArith'. -/
def numberArithUptoCard : Claim7 := { stood := { row := numberArithUptoRow, standIns := [], harness := (true, "58e9f982769f0d81134863462d5b1d543ab1436de8ac04a214a55416da2b4da0"), looks := true }, kinds := [], alts := [], laidByText := true, laidKinds := [.data, .data, .data, .sentinel, .sentinel], laidTests := true, laidLooks := .later }
def NumberArithUptoCardSaid : Prop := Claim7.holds Tryd.pinned (.plain (OpenSpec.upto numberArithSpec)) numberArithUptoCard

/-- THE SECOND FORM's CARD OF 'provisionlaw01.NumberInverse'. -/
def numberInverseUptoCard : Claim7 := { stood := { row := numberInverseUptoRow, standIns := [], harness := (true, "58e9f982769f0d81134863462d5b1d543ab1436de8ac04a214a55416da2b4da0"), looks := true }, kinds := [], alts := [], laidByText := true, laidKinds := [.data, .data, .data, .sentinel, .sentinel], laidTests := true, laidLooks := .later }
def NumberInverseUptoCardSaid : Prop := Claim7.holds Tryd.pinned (.plain (OpenSpec.upto numberInverseSpec)) numberInverseUptoCard

/-- THE SECOND FORM's CARD OF 'provisionlaw01.NumberErrors'. -/
def numberErrorsUptoCard : Claim7 := { stood := { row := numberErrorsUptoRow, standIns := [], harness := (true, "58e9f982769f0d81134863462d5b1d543ab1436de8ac04a214a55416da2b4da0"), looks := true }, kinds := [], alts := [], laidByText := true, laidKinds := [.data, .data, .data, .sentinel, .sentinel], laidTests := true, laidLooks := .later }
def NumberErrorsUptoCardSaid : Prop := Claim7.holds Tryd.pinned (.plain (OpenSpec.upto numberErrorsSpec)) numberErrorsUptoCard
end Rows
end Go.Proofs.YtogihaefhdcgbaaDoor
