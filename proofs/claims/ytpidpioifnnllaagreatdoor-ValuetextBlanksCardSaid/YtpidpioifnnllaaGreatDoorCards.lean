/-
  DERIVED. GIVEN WITH THE SEED: THE CARDS: each row of YtpidpioifnnllaaGreatDoorRows.lean that lists a variable, with what it lists TIED to the program's text (the seventh form; the later family's looks); each row that meets fmt, with fmt's text TOLD by the authors' own Lean function (tested against real Go, not proved from fmt's source: count such statements apart). THE CARD IS WHAT COUNTS. Prove the row's statement (the work); the ties are given (YtpidpioifnnllaaGreatDoorTie.lean); close each card by the builder's one call (the guide's Derived/Test/ToyasCard.lean, 'card_holds'). Laid BY PROGRAM, IN A SANDBOX (cutbox-door.mjs). By AI agents, Wed Nov 11 2026. No macro, syntax, notation, axiom, sorry.
-/
import Derived.Test.YtpidpioifnnllaaGreatDoorRows
import GoSem.ClaimSeven
namespace Go.Proofs.YtpidpioifnnllaaGreatDoor
namespace Rows

/-- THE TIED CARD OF 'provisionlaw09.ValuetextFormats'. -/
def valuetextFormatsCard : Claim7 := { stood := { row := valuetextFormatsRow, standIns := [], harness := (true, "0196099bbdaf55998f5962750a70ba757d5620e19c85683fbdd2ecb47a384e5a"), looks := true }, kinds := [], alts := [], laidByText := true, laidKinds := [.data, .data, .data, .data, .sentinel, .sentinel, .pinned], laidTests := true, laidLooks := .later }
def ValuetextFormatsCardSaid : Prop := Claim7.holds Tryz.pinned (.plain (OpenSpec.ofChange valuetextFormatsSpec)) valuetextFormatsCard

/-- THE TIED CARD OF 'provisionlaw09.ValuetextParses'. -/
def valuetextParsesCard : Claim7 := { stood := { row := valuetextParsesRow, standIns := [], harness := (true, "0196099bbdaf55998f5962750a70ba757d5620e19c85683fbdd2ecb47a384e5a"), looks := true }, kinds := [], alts := [], laidByText := true, laidKinds := [.data, .data, .data, .data, .sentinel, .sentinel, .pinned], laidTests := true, laidLooks := .later }
def ValuetextParsesCardSaid : Prop := Claim7.holds Tryz.pinned (.plain (OpenSpec.ofChange valuetextParsesSpec)) valuetextParsesCard

/-- THE TIED CARD OF 'provisionlaw09.ValuetextBack'. -/
def valuetextBackCard : Claim7 := { stood := { row := valuetextBackRow, standIns := [], harness := (true, "0196099bbdaf55998f5962750a70ba757d5620e19c85683fbdd2ecb47a384e5a"), looks := true }, kinds := [], alts := [], laidByText := true, laidKinds := [.data, .data, .data, .data, .sentinel, .sentinel, .pinned], laidTests := true, laidLooks := .later }
def ValuetextBackCardSaid : Prop := Claim7.holds Tryz.pinned (.plain (OpenSpec.ofChange valuetextBackSpec)) valuetextBackCard

/-- THE TIED CARD OF 'provisionlaw09.ValuetextLines'. -/
def valuetextLinesCard : Claim7 := { stood := { row := valuetextLinesRow, standIns := [], harness := (true, "0196099bbdaf55998f5962750a70ba757d5620e19c85683fbdd2ecb47a384e5a"), looks := true }, kinds := [], alts := [], laidByText := true, laidKinds := [.data, .data, .data, .data, .sentinel, .sentinel, .pinned], laidTests := true, laidLooks := .later }
def ValuetextLinesCardSaid : Prop := Claim7.holds Tryz.pinned (.plain (OpenSpec.ofChange valuetextLinesSpec)) valuetextLinesCard

/-- THE TIED CARD OF 'provisionlaw09.ValuetextBlanks'. -/
def valuetextBlanksCard : Claim7 := { stood := { row := valuetextBlanksRow, standIns := [], harness := (true, "0196099bbdaf55998f5962750a70ba757d5620e19c85683fbdd2ecb47a384e5a"), looks := true }, kinds := [], alts := [], laidByText := true, laidKinds := [.data, .data, .data, .data, .sentinel, .sentinel, .pinned], laidTests := true, laidLooks := .later }
def ValuetextBlanksCardSaid : Prop := Claim7.holds Tryz.pinned (.plain (OpenSpec.ofChange valuetextBlanksSpec)) valuetextBlanksCard

/-- THE SECOND FORM's CARD OF 'provisionlaw09.ValuetextFormats'. -/
def valuetextFormatsUptoCard : Claim7 := { stood := { row := valuetextFormatsUptoRow, standIns := [], harness := (true, "0196099bbdaf55998f5962750a70ba757d5620e19c85683fbdd2ecb47a384e5a"), looks := true }, kinds := [], alts := [], laidByText := true, laidKinds := [.data, .data, .data, .data, .sentinel, .sentinel, .pinned], laidTests := true, laidLooks := .later }
def ValuetextFormatsUptoCardSaid : Prop := Claim7.holds Tryz.pinned (.plain (OpenSpec.upto valuetextFormatsSpec)) valuetextFormatsUptoCard

/-- THE SECOND FORM's CARD OF 'provisionlaw09.ValuetextParses'. -/
def valuetextParsesUptoCard : Claim7 := { stood := { row := valuetextParsesUptoRow, standIns := [], harness := (true, "0196099bbdaf55998f5962750a70ba757d5620e19c85683fbdd2ecb47a384e5a"), looks := true }, kinds := [], alts := [], laidByText := true, laidKinds := [.data, .data, .data, .data, .sentinel, .sentinel, .pinned], laidTests := true, laidLooks := .later }
def ValuetextParsesUptoCardSaid : Prop := Claim7.holds Tryz.pinned (.plain (OpenSpec.upto valuetextParsesSpec)) valuetextParsesUptoCard

/-- THE SECOND FORM's CARD OF 'provisionlaw09.ValuetextBack'. -/
def valuetextBackUptoCard : Claim7 := { stood := { row := valuetextBackUptoRow, standIns := [], harness := (true, "0196099bbdaf55998f5962750a70ba757d5620e19c85683fbdd2ecb47a384e5a"), looks := true }, kinds := [], alts := [], laidByText := true, laidKinds := [.data, .data, .data, .data, .sentinel, .sentinel, .pinned], laidTests := true, laidLooks := .later }
def ValuetextBackUptoCardSaid : Prop := Claim7.holds Tryz.pinned (.plain (OpenSpec.upto valuetextBackSpec)) valuetextBackUptoCard

/-- THE SECOND FORM's CARD OF 'provisionlaw09.ValuetextLines'. -/
def valuetextLinesUptoCard : Claim7 := { stood := { row := valuetextLinesUptoRow, standIns := [], harness := (true, "0196099bbdaf55998f5962750a70ba757d5620e19c85683fbdd2ecb47a384e5a"), looks := true }, kinds := [], alts := [], laidByText := true, laidKinds := [.data, .data, .data, .data, .sentinel, .sentinel, .pinned], laidTests := true, laidLooks := .later }
def ValuetextLinesUptoCardSaid : Prop := Claim7.holds Tryz.pinned (.plain (OpenSpec.upto valuetextLinesSpec)) valuetextLinesUptoCard

/-- THE SECOND FORM's CARD OF 'provisionlaw09.ValuetextBlanks'. -/
def valuetextBlanksUptoCard : Claim7 := { stood := { row := valuetextBlanksUptoRow, standIns := [], harness := (true, "0196099bbdaf55998f5962750a70ba757d5620e19c85683fbdd2ecb47a384e5a"), looks := true }, kinds := [], alts := [], laidByText := true, laidKinds := [.data, .data, .data, .data, .sentinel, .sentinel, .pinned], laidTests := true, laidLooks := .later }
def ValuetextBlanksUptoCardSaid : Prop := Claim7.holds Tryz.pinned (.plain (OpenSpec.upto valuetextBlanksSpec)) valuetextBlanksUptoCard
end Rows
end Go.Proofs.YtpidpioifnnllaaGreatDoor
