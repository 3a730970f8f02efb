/-
  DERIVED. GIVEN WITH THE SEED: THE CARDS: each row of YtnppilaabobgiaaGreatDoorRows.lean that lists a variable, with what it lists TIED to the program's text (the seventh form; the later family's looks); each row that meets fmt, with fmt's text TOLD by the authors' own Lean function (tested against real Go, not proved from fmt's source: count such statements apart). THE CARD IS WHAT COUNTS. Prove the row's statement (the work); the ties are given (YtnppilaabobgiaaGreatDoorTie.lean); close each card by the builder's one call (the guide's Derived/Test/ToyasCard.lean, 'card_holds'). Laid BY PROGRAM, IN A SANDBOX (cutbox-door.mjs). By AI agents, Wed Nov 11 2026. No macro, syntax, notation, axiom, sorry.
-/
import Derived.Test.YtnppilaabobgiaaGreatDoorRows
import GoSem.ClaimSeven
namespace Go.Proofs.YtnppilaabobgiaaGreatDoor
namespace Rows

/-- THE TIED CARD OF 'tellurionlaw06.DialKept'. -/
def dialKeptCard : Claim7 := { stood := { row := dialKeptRow, standIns := [], harness := (true, "31984c9dd2dcbb542b5e961a852c054643441c7257bbc629bdb24c89f6d66ab6"), looks := true }, kinds := [], alts := [], laidByText := true, laidKinds := [.data, .data, .data], laidTests := true, laidLooks := .later }
def DialKeptCardSaid : Prop := Claim7.holds Tryz.pinned (.plain (OpenSpec.ofChange dialKeptSpec)) dialKeptCard

/-- THE TIED CARD OF 'tellurionlaw06.DialRound'. -/
def dialRoundCard : Claim7 := { stood := { row := dialRoundRow, standIns := [], harness := (true, "31984c9dd2dcbb542b5e961a852c054643441c7257bbc629bdb24c89f6d66ab6"), looks := true }, kinds := [], alts := [], laidByText := true, laidKinds := [.data, .data, .data], laidTests := true, laidLooks := .later }
def DialRoundCardSaid : Prop := Claim7.holds Tryz.pinned (.plain (OpenSpec.ofChange dialRoundSpec)) dialRoundCard

/-- THE TIED CARD OF 'tellurionlaw06.DialChanged'. -/
def dialChangedCard : Claim7 := { stood := { row := dialChangedRow, standIns := [], harness := (true, "31984c9dd2dcbb542b5e961a852c054643441c7257bbc629bdb24c89f6d66ab6"), looks := true }, kinds := [], alts := [], laidByText := true, laidKinds := [.data, .data, .data], laidTests := true, laidLooks := .later }
def DialChangedCardSaid : Prop := Claim7.holds Tryz.pinned (.plain (OpenSpec.ofChange dialChangedSpec)) dialChangedCard

/-- THE TIED CARD OF 'tellurionlaw06.DialDates'. -/
def dialDatesCard : Claim7 := { stood := { row := dialDatesRow, standIns := [], harness := (true, "31984c9dd2dcbb542b5e961a852c054643441c7257bbc629bdb24c89f6d66ab6"), looks := true }, kinds := [], alts := [], laidByText := true, laidKinds := [.data, .data, .data], laidTests := true, laidLooks := .later }
def DialDatesCardSaid : Prop := Claim7.holds Tryz.pinned (.plain (OpenSpec.ofChange dialDatesSpec)) dialDatesCard

/-- THE TIED CARD OF 'tellurionlaw06.DialEasters'. -/
def dialEastersCard : Claim7 := { stood := { row := dialEastersRow, standIns := [], harness := (true, "31984c9dd2dcbb542b5e961a852c054643441c7257bbc629bdb24c89f6d66ab6"), looks := true }, kinds := [], alts := [], laidByText := true, laidKinds := [.data, .data, .data], laidTests := true, laidLooks := .later }
def DialEastersCardSaid : Prop := Claim7.holds Tryz.pinned (.plain (OpenSpec.ofChange dialEastersSpec)) dialEastersCard

/-- THE TIED CARD OF 'tellurionlaw06.DialMeets'. -/
def dialMeetsCard : Claim7 := { stood := { row := dialMeetsRow, standIns := [], harness := (true, "31984c9dd2dcbb542b5e961a852c054643441c7257bbc629bdb24c89f6d66ab6"), looks := true }, kinds := [], alts := [], laidByText := true, laidKinds := [.data, .data, .data], laidTests := true, laidLooks := .later }
def DialMeetsCardSaid : Prop := Claim7.holds Tryz.pinned (.plain (OpenSpec.ofChange dialMeetsSpec)) dialMeetsCard

/-- THE TIED CARD OF 'tellurionlaw06.DialMeeting'. -/
def dialMeetingCard : Claim7 := { stood := { row := dialMeetingRow, standIns := [], harness := (true, "31984c9dd2dcbb542b5e961a852c054643441c7257bbc629bdb24c89f6d66ab6"), looks := true }, kinds := [], alts := [], laidByText := true, laidKinds := [.data, .data, .data], laidTests := true, laidLooks := .later }
def DialMeetingCardSaid : Prop := Claim7.holds Tryz.pinned (.plain (OpenSpec.ofChange dialMeetingSpec)) dialMeetingCard

/-- THE TIED CARD OF 'tellurionlaw06.DialPrints'. -/
def dialPrintsCard : Claim7 := { stood := { row := dialPrintsRow, standIns := [], harness := (true, "31984c9dd2dcbb542b5e961a852c054643441c7257bbc629bdb24c89f6d66ab6"), looks := true }, kinds := [], alts := [], laidByText := true, laidKinds := [.data, .data, .data, .data, .pinned], laidTests := true, laidLooks := .later }
def DialPrintsCardSaid : Prop := Claim7.holds Tryz.pinned (.plain (OpenSpec.ofChange dialPrintsSpec)) dialPrintsCard

/-- THE TIED CARD OF 'tellurionlaw06.DialReads'. -/
def dialReadsCard : Claim7 := { stood := { row := dialReadsRow, standIns := [], harness := (true, "31984c9dd2dcbb542b5e961a852c054643441c7257bbc629bdb24c89f6d66ab6"), looks := true }, kinds := [], alts := [], laidByText := true, laidKinds := [.data, .data, .data, .data, .pinned], laidTests := true, laidLooks := .later }
def DialReadsCardSaid : Prop := Claim7.holds Tryz.pinned (.plain (OpenSpec.ofChange dialReadsSpec)) dialReadsCard

/-- THE TIED CARD OF 'tellurionlaw06.DialSpoilt'. -/
def dialSpoiltCard : Claim7 := { stood := { row := dialSpoiltRow, standIns := [], harness := (true, "31984c9dd2dcbb542b5e961a852c054643441c7257bbc629bdb24c89f6d66ab6"), looks := true }, kinds := [], alts := [], laidByText := true, laidKinds := [.data, .data, .data, .data, .pinned], laidTests := true, laidLooks := .later }
def DialSpoiltCardSaid : Prop := Claim7.holds Tryz.pinned (.plain (OpenSpec.ofChange dialSpoiltSpec)) dialSpoiltCard

/-- THE SECOND FORM's CARD OF 'tellurionlaw06.DialKept'. -/
def dialKeptUptoCard : Claim7 := { stood := { row := dialKeptUptoRow, standIns := [], harness := (true, "31984c9dd2dcbb542b5e961a852c054643441c7257bbc629bdb24c89f6d66ab6"), looks := true }, kinds := [], alts := [], laidByText := true, laidKinds := [.data, .data, .data], laidTests := true, laidLooks := .later }
def DialKeptUptoCardSaid : Prop := Claim7.holds Tryz.pinned (.plain (OpenSpec.upto dialKeptSpec)) dialKeptUptoCard

/-- THE SECOND FORM's CARD OF 'tellurionlaw06.DialRound'. -/
def dialRoundUptoCard : Claim7 := { stood := { row := dialRoundUptoRow, standIns := [], harness := (true, "31984c9dd2dcbb542b5e961a852c054643441c7257bbc629bdb24c89f6d66ab6"), looks := true }, kinds := [], alts := [], laidByText := true, laidKinds := [.data, .data, .data], laidTests := true, laidLooks := .later }
def DialRoundUptoCardSaid : Prop := Claim7.holds Tryz.pinned (.plain (OpenSpec.upto dialRoundSpec)) dialRoundUptoCard

/-- THE SECOND FORM's CARD OF 'tellurionlaw06.DialChanged'. -/
def dialChangedUptoCard : Claim7 := { stood := { row := dialChangedUptoRow, standIns := [], harness := (true, "31984c9dd2dcbb542b5e961a852c054643441c7257bbc629bdb24c89f6d66ab6"), looks := true }, kinds := [], alts := [], laidByText := true, laidKinds := [.data, .data, .data], laidTests := true, laidLooks := .later }
def DialChangedUptoCardSaid : Prop := Claim7.holds Tryz.pinned (.plain (OpenSpec.upto dialChangedSpec)) dialChangedUptoCard

/-- THE SECOND FORM's CARD OF 'tellurionlaw06.DialDates'. -/
def dialDatesUptoCard : Claim7 := { stood := { row := dialDatesUptoRow, standIns := [], harness := (true, "31984c9dd2dcbb542b5e961a852c054643441c7257bbc629bdb24c89f6d66ab6"), looks := true }, kinds := [], alts := [], laidByText := true, laidKinds := [.data, .data, .data], laidTests := true, laidLooks := .later }
def DialDatesUptoCardSaid : Prop := Claim7.holds Tryz.pinned (.plain (OpenSpec.upto dialDatesSpec)) dialDatesUptoCard

/-- THE SECOND FORM's CARD OF 'tellurionlaw06.DialEasters'. -/
def dialEastersUptoCard : Claim7 := { stood := { row := dialEastersUptoRow, standIns := [], harness := (true, "31984c9dd2dcbb542b5e961a852c054643441c7257bbc629bdb24c89f6d66ab6"), looks := true }, kinds := [], alts := [], laidByText := true, laidKinds := [.data, .data, .data], laidTests := true, laidLooks := .later }
def DialEastersUptoCardSaid : Prop := Claim7.holds Tryz.pinned (.plain (OpenSpec.upto dialEastersSpec)) dialEastersUptoCard

/-- THE SECOND FORM's CARD OF 'tellurionlaw06.DialMeets'. -/
def dialMeetsUptoCard : Claim7 := { stood := { row := dialMeetsUptoRow, standIns := [], harness := (true, "31984c9dd2dcbb542b5e961a852c054643441c7257bbc629bdb24c89f6d66ab6"), looks := true }, kinds := [], alts := [], laidByText := true, laidKinds := [.data, .data, .data], laidTests := true, laidLooks := .later }
def DialMeetsUptoCardSaid : Prop := Claim7.holds Tryz.pinned (.plain (OpenSpec.upto dialMeetsSpec)) dialMeetsUptoCard

/-- THE SECOND FORM's CARD OF 'tellurionlaw06.DialMeeting'. -/
def dialMeetingUptoCard : Claim7 := { stood := { row := dialMeetingUptoRow, standIns := [], harness := (true, "31984c9dd2dcbb542b5e961a852c054643441c7257bbc629bdb24c89f6d66ab6"), looks := true }, kinds := [], alts := [], laidByText := true, laidKinds := [.data, .data, .data], laidTests := true, laidLooks := .later }
def DialMeetingUptoCardSaid : Prop := Claim7.holds Tryz.pinned (.plain (OpenSpec.upto dialMeetingSpec)) dialMeetingUptoCard

/-- THE SECOND FORM's CARD OF 'tellurionlaw06.DialPrints'. -/
def dialPrintsUptoCard : Claim7 := { stood := { row := dialPrintsUptoRow, standIns := [], harness := (true, "31984c9dd2dcbb542b5e961a852c054643441c7257bbc629bdb24c89f6d66ab6"), looks := true }, kinds := [], alts := [], laidByText := true, laidKinds := [.data, .data, .data, .data, .pinned], laidTests := true, laidLooks := .later }
def DialPrintsUptoCardSaid : Prop := Claim7.holds Tryz.pinned (.plain (OpenSpec.upto dialPrintsSpec)) dialPrintsUptoCard

/-- THE SECOND FORM's CARD OF 'tellurionlaw06.DialReads'. -/
def dialReadsUptoCard : Claim7 := { stood := { row := dialReadsUptoRow, standIns := [], harness := (true, "31984c9dd2dcbb542b5e961a852c054643441c7257bbc629bdb24c89f6d66ab6"), looks := true }, kinds := [], alts := [], laidByText := true, laidKinds := [.data, .data, .data, .data, .pinned], laidTests := true, laidLooks := .later }
def DialReadsUptoCardSaid : Prop := Claim7.holds Tryz.pinned (.plain (OpenSpec.upto dialReadsSpec)) dialReadsUptoCard

/-- THE SECOND FORM's CARD OF 'tellurionlaw06.DialSpoilt'. -/
def dialSpoiltUptoCard : Claim7 := { stood := { row := dialSpoiltUptoRow, standIns := [], harness := (true, "31984c9dd2dcbb542b5e961a852c054643441c7257bbc629bdb24c89f6d66ab6"), looks := true }, kinds := [], alts := [], laidByText := true, laidKinds := [.data, .data, .data, .data, .pinned], laidTests := true, laidLooks := .later }
def DialSpoiltUptoCardSaid : Prop := Claim7.holds Tryz.pinned (.plain (OpenSpec.upto dialSpoiltSpec)) dialSpoiltUptoCard
end Rows
end Go.Proofs.YtnppilaabobgiaaGreatDoor
