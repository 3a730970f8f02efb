/-
  DERIVED. GIVEN WITH THE SEED: THE CARDS: each row of YtfgghicdkcjdgaaGreatDoorRows.lean that lists a variable, with what it lists TIED to the program's text (the seventh form; the later family's looks); each row that meets fmt, with fmt's text TOLD by the authors' own Lean function (tested against real Go, not proved from fmt's source: count such statements apart). THE CARD IS WHAT COUNTS. Prove the row's statement (the work); the ties are given (YtfgghicdkcjdgaaGreatDoorTie.lean); close each card by the builder's one call (the guide's Derived/Test/ToyasCard.lean, 'card_holds'). Laid BY PROGRAM, IN A SANDBOX (cutbox-door.mjs). By AI agents, Wed Nov 11 2026. No macro, syntax, notation, axiom, sorry.
-/
import Derived.Test.YtfgghicdkcjdgaaGreatDoorRows
import GoSem.ClaimSeven
namespace Go.Proofs.YtfgghicdkcjdgaaGreatDoor
namespace Rows

/-- THE TIED CARD OF 'tellurionlaw08.GuessTrue'. -/
def guessTrueCard : Claim7 := { stood := { row := guessTrueRow, standIns := [], harness := (true, "8df1edef8f1587a7573ef38a86ca7a49bc1c8407a24ec0a89d13e4587c5cc837"), looks := true }, kinds := [], alts := [], laidByText := true, laidKinds := [.data, .data, .data, .data, .pinned], laidTests := true, laidLooks := .later }
def GuessTrueCardSaid : Prop := Claim7.holds Tryz.pinned (.plain (OpenSpec.ofChange guessTrueSpec)) guessTrueCard

/-- THE TIED CARD OF 'tellurionlaw08.GuessNearer'. -/
def guessNearerCard : Claim7 := { stood := { row := guessNearerRow, standIns := [], harness := (true, "8df1edef8f1587a7573ef38a86ca7a49bc1c8407a24ec0a89d13e4587c5cc837"), looks := true }, kinds := [], alts := [], laidByText := true, laidKinds := [.data, .data, .data, .data, .pinned], laidTests := true, laidLooks := .later }
def GuessNearerCardSaid : Prop := Claim7.holds Tryz.pinned (.plain (OpenSpec.ofChange guessNearerSpec)) guessNearerCard

/-- THE SECOND FORM's CARD OF 'tellurionlaw08.GuessTrue'. -/
def guessTrueUptoCard : Claim7 := { stood := { row := guessTrueUptoRow, standIns := [], harness := (true, "8df1edef8f1587a7573ef38a86ca7a49bc1c8407a24ec0a89d13e4587c5cc837"), looks := true }, kinds := [], alts := [], laidByText := true, laidKinds := [.data, .data, .data, .data, .pinned], laidTests := true, laidLooks := .later }
def GuessTrueUptoCardSaid : Prop := Claim7.holds Tryz.pinned (.plain (OpenSpec.upto guessTrueSpec)) guessTrueUptoCard

/-- THE SECOND FORM's CARD OF 'tellurionlaw08.GuessNearer'. -/
def guessNearerUptoCard : Claim7 := { stood := { row := guessNearerUptoRow, standIns := [], harness := (true, "8df1edef8f1587a7573ef38a86ca7a49bc1c8407a24ec0a89d13e4587c5cc837"), looks := true }, kinds := [], alts := [], laidByText := true, laidKinds := [.data, .data, .data, .data, .pinned], laidTests := true, laidLooks := .later }
def GuessNearerUptoCardSaid : Prop := Claim7.holds Tryz.pinned (.plain (OpenSpec.upto guessNearerSpec)) guessNearerUptoCard
end Rows
end Go.Proofs.YtfgghicdkcjdgaaGreatDoor
