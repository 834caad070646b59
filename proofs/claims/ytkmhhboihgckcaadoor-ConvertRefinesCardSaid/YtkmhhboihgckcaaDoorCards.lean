/-
  DERIVED. GIVEN WITH THE SEED: THE CARDS: each row of YtkmhhboihgckcaaDoorRows.lean that lists a variable, with what it lists TIED to the program's text (the seventh form; the later family's looks); each row that meets fmt, with fmt's text TOLD by the authors' own Lean function (tested against real Go, not proved from fmt's source: count such statements apart). THE CARD IS WHAT COUNTS. Prove the row's statement (the work); the ties are given (YtkmhhboihgckcaaDoorTie.lean); close each card by the builder's one call (the guide's Derived/Test/ToyasCard.lean, 'card_holds'). Laid BY PROGRAM, IN A SANDBOX (cutbox-door.mjs). By AI agents, Wed Nov 11 2026. No macro, syntax, notation, axiom, sorry.
-/
import Derived.Test.YtkmhhboihgckcaaDoorRows
import GoSem.ClaimSeven
namespace Go.Proofs.YtkmhhboihgckcaaDoor
namespace Rows

/-- THE TIED CARD OF 'provisionlaw11.ConvertRefines'. -/
def convertRefinesCard : Claim7 := { stood := { row := convertRefinesRow, standIns := [], harness := (true, "ad9d14ccccdaa87cdc7c3432ef99f60d80fdfdece3e867db0d2cf4c0743efaec"), looks := true }, kinds := [], alts := [], laidByText := true, laidKinds := [.data, .data, .data, .data, .sentinel, .sentinel, .pinned], laidTests := true, laidLooks := .later }
def ConvertRefinesCardSaid : Prop := Claim7.holds Tryd.pinned (.plain (OpenSpec.ofChange convertRefinesSpec)) convertRefinesCard

/-- THE TIED CARD OF 'provisionlaw11.ConvertFits'. -/
def convertFitsCard : Claim7 := { stood := { row := convertFitsRow, standIns := [], harness := (true, "ad9d14ccccdaa87cdc7c3432ef99f60d80fdfdece3e867db0d2cf4c0743efaec"), looks := true }, kinds := [], alts := [], laidByText := true, laidKinds := [.data, .data, .data, .data, .sentinel, .sentinel, .pinned], laidTests := true, laidLooks := .later }
def ConvertFitsCardSaid : Prop := Claim7.holds Tryd.pinned (.plain (OpenSpec.ofChange convertFitsSpec)) convertFitsCard

/-- THE TIED CARD OF 'provisionlaw11.ConvertKeeps'. -/
def convertKeepsCard : Claim7 := { stood := { row := convertKeepsRow, standIns := [], harness := (true, "ad9d14ccccdaa87cdc7c3432ef99f60d80fdfdece3e867db0d2cf4c0743efaec"), looks := true }, kinds := [], alts := [], laidByText := true, laidKinds := [.data, .data, .data, .data, .sentinel, .sentinel, .pinned], laidTests := true, laidLooks := .later }
def ConvertKeepsCardSaid : Prop := Claim7.holds Tryd.pinned (.plain (OpenSpec.ofChange convertKeepsSpec)) convertKeepsCard

/-- THE SECOND FORM's CARD OF 'provisionlaw11.ConvertRefines'. -/
def convertRefinesUptoCard : Claim7 := { stood := { row := convertRefinesUptoRow, standIns := [], harness := (true, "ad9d14ccccdaa87cdc7c3432ef99f60d80fdfdece3e867db0d2cf4c0743efaec"), looks := true }, kinds := [], alts := [], laidByText := true, laidKinds := [.data, .data, .data, .data, .sentinel, .sentinel, .pinned], laidTests := true, laidLooks := .later }
def ConvertRefinesUptoCardSaid : Prop := Claim7.holds Tryd.pinned (.plain (OpenSpec.upto convertRefinesSpec)) convertRefinesUptoCard

/-- THE SECOND FORM's CARD OF 'provisionlaw11.ConvertFits'. -/
def convertFitsUptoCard : Claim7 := { stood := { row := convertFitsUptoRow, standIns := [], harness := (true, "ad9d14ccccdaa87cdc7c3432ef99f60d80fdfdece3e867db0d2cf4c0743efaec"), looks := true }, kinds := [], alts := [], laidByText := true, laidKinds := [.data, .data, .data, .data, .sentinel, .sentinel, .pinned], laidTests := true, laidLooks := .later }
def ConvertFitsUptoCardSaid : Prop := Claim7.holds Tryd.pinned (.plain (OpenSpec.upto convertFitsSpec)) convertFitsUptoCard

/-- THE SECOND FORM's CARD OF 'provisionlaw11.ConvertKeeps'. -/
def convertKeepsUptoCard : Claim7 := { stood := { row := convertKeepsUptoRow, standIns := [], harness := (true, "ad9d14ccccdaa87cdc7c3432ef99f60d80fdfdece3e867db0d2cf4c0743efaec"), looks := true }, kinds := [], alts := [], laidByText := true, laidKinds := [.data, .data, .data, .data, .sentinel, .sentinel, .pinned], laidTests := true, laidLooks := .later }
def ConvertKeepsUptoCardSaid : Prop := Claim7.holds Tryd.pinned (.plain (OpenSpec.upto convertKeepsSpec)) convertKeepsUptoCard
end Rows
end Go.Proofs.YtkmhhboihgckcaaDoor
