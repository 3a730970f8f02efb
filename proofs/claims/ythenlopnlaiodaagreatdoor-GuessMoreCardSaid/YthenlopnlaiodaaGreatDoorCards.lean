/-
  DERIVED. GIVEN WITH THE SEED: THE CARDS: each row of YthenlopnlaiodaaGreatDoorRows.lean that lists a variable, with what it lists TIED to the program's text (the seventh form; the later family's looks); each row that meets fmt, with fmt's text TOLD by the authors' own Lean function (tested against real Go, not proved from fmt's source: count such statements apart). THE CARD IS WHAT COUNTS. Prove the row's statement (the work); the ties are given (YthenlopnlaiodaaGreatDoorTie.lean); close each card by the builder's one call (the guide's Derived/Test/ToyasCard.lean, 'card_holds'). Laid BY PROGRAM, IN A SANDBOX (cutbox-door.mjs). By AI agents, Wed Nov 11 2026. No macro, syntax, notation, axiom, sorry.
-/
import Derived.Test.YthenlopnlaiodaaGreatDoorRows
import GoSem.ClaimSeven
namespace Go.Proofs.YthenlopnlaiodaaGreatDoor
namespace Rows

/-- THE TIED CARD OF 'tellurionlaw08.GuessTrue'. -/
def guessTrueCard : Claim7 := { stood := { row := guessTrueRow, standIns := [], harness := (true, "899c0a334eef072c33c1759a388afdd49a990e76af8b2f97eee0b47a105298b4"), looks := true }, kinds := [], alts := [], laidByText := true, laidKinds := [.data, .data, .data, .data, .pinned], laidTests := true, laidLooks := .later }
def GuessTrueCardSaid : Prop := Claim7.holds Tryz.pinned (.plain (OpenSpec.ofChange guessTrueSpec)) guessTrueCard

/-- THE TIED CARD OF 'tellurionlaw08.GuessCommon'. -/
def guessCommonCard : Claim7 := { stood := { row := guessCommonRow, standIns := [], harness := (true, "899c0a334eef072c33c1759a388afdd49a990e76af8b2f97eee0b47a105298b4"), looks := true }, kinds := [], alts := [], laidByText := true, laidKinds := [.data, .data, .data, .data, .pinned], laidTests := true, laidLooks := .later }
def GuessCommonCardSaid : Prop := Claim7.holds Tryz.pinned (.plain (OpenSpec.ofChange guessCommonSpec)) guessCommonCard

/-- THE TIED CARD OF 'tellurionlaw08.GuessAll'. -/
def guessAllCard : Claim7 := { stood := { row := guessAllRow, standIns := [], harness := (true, "899c0a334eef072c33c1759a388afdd49a990e76af8b2f97eee0b47a105298b4"), looks := true }, kinds := [], alts := [], laidByText := true, laidKinds := [.data, .data, .data, .data, .pinned], laidTests := true, laidLooks := .later }
def GuessAllCardSaid : Prop := Claim7.holds Tryz.pinned (.plain (OpenSpec.ofChange guessAllSpec)) guessAllCard

/-- THE TIED CARD OF 'tellurionlaw08.GuessFewest'. -/
def guessFewestCard : Claim7 := { stood := { row := guessFewestRow, standIns := [], harness := (true, "899c0a334eef072c33c1759a388afdd49a990e76af8b2f97eee0b47a105298b4"), looks := true }, kinds := [], alts := [], laidByText := true, laidKinds := [.data, .data, .data, .data, .pinned], laidTests := true, laidLooks := .later }
def GuessFewestCardSaid : Prop := Claim7.holds Tryz.pinned (.plain (OpenSpec.ofChange guessFewestSpec)) guessFewestCard

/-- THE TIED CARD OF 'tellurionlaw08.GuessCounted'. -/
def guessCountedCard : Claim7 := { stood := { row := guessCountedRow, standIns := [], harness := (true, "899c0a334eef072c33c1759a388afdd49a990e76af8b2f97eee0b47a105298b4"), looks := true }, kinds := [], alts := [], laidByText := true, laidKinds := [.data, .data, .data, .data, .pinned], laidTests := true, laidLooks := .later }
def GuessCountedCardSaid : Prop := Claim7.holds Tryz.pinned (.plain (OpenSpec.ofChange guessCountedSpec)) guessCountedCard

/-- THE TIED CARD OF 'tellurionlaw08.GuessMore'. -/
def guessMoreCard : Claim7 := { stood := { row := guessMoreRow, standIns := [], harness := (true, "899c0a334eef072c33c1759a388afdd49a990e76af8b2f97eee0b47a105298b4"), looks := true }, kinds := [], alts := [], laidByText := true, laidKinds := [.data, .data, .data, .data, .pinned], laidTests := true, laidLooks := .later }
def GuessMoreCardSaid : Prop := Claim7.holds Tryz.pinned (.plain (OpenSpec.ofChange guessMoreSpec)) guessMoreCard

/-- THE TIED CARD OF 'tellurionlaw08.GuessReads'. -/
def guessReadsCard : Claim7 := { stood := { row := guessReadsRow, standIns := [], harness := (true, "899c0a334eef072c33c1759a388afdd49a990e76af8b2f97eee0b47a105298b4"), looks := true }, kinds := [], alts := [], laidByText := true, laidKinds := [.data, .data, .data, .data, .pinned], laidTests := true, laidLooks := .later }
def GuessReadsCardSaid : Prop := Claim7.holds Tryz.pinned (.plain (OpenSpec.ofChange guessReadsSpec)) guessReadsCard

/-- THE TIED CARD OF 'tellurionlaw08.GuessSpoilt'. -/
def guessSpoiltCard : Claim7 := { stood := { row := guessSpoiltRow, standIns := [], harness := (true, "899c0a334eef072c33c1759a388afdd49a990e76af8b2f97eee0b47a105298b4"), looks := true }, kinds := [], alts := [], laidByText := true, laidKinds := [.data, .data, .data, .data, .pinned], laidTests := true, laidLooks := .later }
def GuessSpoiltCardSaid : Prop := Claim7.holds Tryz.pinned (.plain (OpenSpec.ofChange guessSpoiltSpec)) guessSpoiltCard

/-- THE TIED CARD OF 'tellurionlaw08.GuessNearer'. -/
def guessNearerCard : Claim7 := { stood := { row := guessNearerRow, standIns := [], harness := (true, "899c0a334eef072c33c1759a388afdd49a990e76af8b2f97eee0b47a105298b4"), looks := true }, kinds := [], alts := [], laidByText := true, laidKinds := [.data, .data, .data, .data, .pinned], laidTests := true, laidLooks := .later }
def GuessNearerCardSaid : Prop := Claim7.holds Tryz.pinned (.plain (OpenSpec.ofChange guessNearerSpec)) guessNearerCard

/-- THE SECOND FORM's CARD OF 'tellurionlaw08.GuessTrue'. -/
def guessTrueUptoCard : Claim7 := { stood := { row := guessTrueUptoRow, standIns := [], harness := (true, "899c0a334eef072c33c1759a388afdd49a990e76af8b2f97eee0b47a105298b4"), looks := true }, kinds := [], alts := [], laidByText := true, laidKinds := [.data, .data, .data, .data, .pinned], laidTests := true, laidLooks := .later }
def GuessTrueUptoCardSaid : Prop := Claim7.holds Tryz.pinned (.plain (OpenSpec.upto guessTrueSpec)) guessTrueUptoCard

/-- THE SECOND FORM's CARD OF 'tellurionlaw08.GuessCommon'. -/
def guessCommonUptoCard : Claim7 := { stood := { row := guessCommonUptoRow, standIns := [], harness := (true, "899c0a334eef072c33c1759a388afdd49a990e76af8b2f97eee0b47a105298b4"), looks := true }, kinds := [], alts := [], laidByText := true, laidKinds := [.data, .data, .data, .data, .pinned], laidTests := true, laidLooks := .later }
def GuessCommonUptoCardSaid : Prop := Claim7.holds Tryz.pinned (.plain (OpenSpec.upto guessCommonSpec)) guessCommonUptoCard

/-- THE SECOND FORM's CARD OF 'tellurionlaw08.GuessAll'. -/
def guessAllUptoCard : Claim7 := { stood := { row := guessAllUptoRow, standIns := [], harness := (true, "899c0a334eef072c33c1759a388afdd49a990e76af8b2f97eee0b47a105298b4"), looks := true }, kinds := [], alts := [], laidByText := true, laidKinds := [.data, .data, .data, .data, .pinned], laidTests := true, laidLooks := .later }
def GuessAllUptoCardSaid : Prop := Claim7.holds Tryz.pinned (.plain (OpenSpec.upto guessAllSpec)) guessAllUptoCard

/-- THE SECOND FORM's CARD OF 'tellurionlaw08.GuessFewest'. -/
def guessFewestUptoCard : Claim7 := { stood := { row := guessFewestUptoRow, standIns := [], harness := (true, "899c0a334eef072c33c1759a388afdd49a990e76af8b2f97eee0b47a105298b4"), looks := true }, kinds := [], alts := [], laidByText := true, laidKinds := [.data, .data, .data, .data, .pinned], laidTests := true, laidLooks := .later }
def GuessFewestUptoCardSaid : Prop := Claim7.holds Tryz.pinned (.plain (OpenSpec.upto guessFewestSpec)) guessFewestUptoCard

/-- THE SECOND FORM's CARD OF 'tellurionlaw08.GuessCounted'. -/
def guessCountedUptoCard : Claim7 := { stood := { row := guessCountedUptoRow, standIns := [], harness := (true, "899c0a334eef072c33c1759a388afdd49a990e76af8b2f97eee0b47a105298b4"), looks := true }, kinds := [], alts := [], laidByText := true, laidKinds := [.data, .data, .data, .data, .pinned], laidTests := true, laidLooks := .later }
def GuessCountedUptoCardSaid : Prop := Claim7.holds Tryz.pinned (.plain (OpenSpec.upto guessCountedSpec)) guessCountedUptoCard

/-- THE SECOND FORM's CARD OF 'tellurionlaw08.GuessMore'. -/
def guessMoreUptoCard : Claim7 := { stood := { row := guessMoreUptoRow, standIns := [], harness := (true, "899c0a334eef072c33c1759a388afdd49a990e76af8b2f97eee0b47a105298b4"), looks := true }, kinds := [], alts := [], laidByText := true, laidKinds := [.data, .data, .data, .data, .pinned], laidTests := true, laidLooks := .later }
def GuessMoreUptoCardSaid : Prop := Claim7.holds Tryz.pinned (.plain (OpenSpec.upto guessMoreSpec)) guessMoreUptoCard

/-- THE SECOND FORM's CARD OF 'tellurionlaw08.GuessReads'. -/
def guessReadsUptoCard : Claim7 := { stood := { row := guessReadsUptoRow, standIns := [], harness := (true, "899c0a334eef072c33c1759a388afdd49a990e76af8b2f97eee0b47a105298b4"), looks := true }, kinds := [], alts := [], laidByText := true, laidKinds := [.data, .data, .data, .data, .pinned], laidTests := true, laidLooks := .later }
def GuessReadsUptoCardSaid : Prop := Claim7.holds Tryz.pinned (.plain (OpenSpec.upto guessReadsSpec)) guessReadsUptoCard

/-- THE SECOND FORM's CARD OF 'tellurionlaw08.GuessSpoilt'. -/
def guessSpoiltUptoCard : Claim7 := { stood := { row := guessSpoiltUptoRow, standIns := [], harness := (true, "899c0a334eef072c33c1759a388afdd49a990e76af8b2f97eee0b47a105298b4"), looks := true }, kinds := [], alts := [], laidByText := true, laidKinds := [.data, .data, .data, .data, .pinned], laidTests := true, laidLooks := .later }
def GuessSpoiltUptoCardSaid : Prop := Claim7.holds Tryz.pinned (.plain (OpenSpec.upto guessSpoiltSpec)) guessSpoiltUptoCard

/-- THE SECOND FORM's CARD OF 'tellurionlaw08.GuessNearer'. -/
def guessNearerUptoCard : Claim7 := { stood := { row := guessNearerUptoRow, standIns := [], harness := (true, "899c0a334eef072c33c1759a388afdd49a990e76af8b2f97eee0b47a105298b4"), looks := true }, kinds := [], alts := [], laidByText := true, laidKinds := [.data, .data, .data, .data, .pinned], laidTests := true, laidLooks := .later }
def GuessNearerUptoCardSaid : Prop := Claim7.holds Tryz.pinned (.plain (OpenSpec.upto guessNearerSpec)) guessNearerUptoCard
end Rows
end Go.Proofs.YthenlopnlaiodaaGreatDoor
