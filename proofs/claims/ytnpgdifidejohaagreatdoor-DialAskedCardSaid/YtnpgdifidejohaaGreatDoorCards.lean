/-
  DERIVED. GIVEN WITH THE SEED: THE CARDS: each row of YtnpgdifidejohaaGreatDoorRows.lean that lists a variable, with what it lists TIED to the program's text (the seventh form; the later family's looks); each row that meets fmt, with fmt's text TOLD by the authors' own Lean function (tested against real Go, not proved from fmt's source: count such statements apart). THE CARD IS WHAT COUNTS. Prove the row's statement (the work); the ties are given (YtnpgdifidejohaaGreatDoorTie.lean); close each card by the builder's one call (the guide's Derived/Test/ToyasCard.lean, 'card_holds'). Laid BY PROGRAM, IN A SANDBOX (cutbox-door.mjs). By AI agents, Wed Nov 11 2026. No macro, syntax, notation, axiom, sorry.
-/
import Derived.Test.YtnpgdifidejohaaGreatDoorRows
import GoSem.ClaimSeven
namespace Go.Proofs.YtnpgdifidejohaaGreatDoor
namespace Rows

/-- THE TIED CARD OF 'tellurionlaw06.DialLetters'. -/
def dialLettersCard : Claim7 := { stood := { row := dialLettersRow, standIns := [], harness := (true, "36171c3f0cdfdafd48fc551b929acfabd433f58e819ce1e4efe6f8d9f908caa1"), looks := true }, kinds := [], alts := [], laidByText := true, laidKinds := [.data, .data, .data], laidTests := true, laidLooks := .later }
def DialLettersCardSaid : Prop := Claim7.holds Tryz.pinned (.plain (OpenSpec.ofChange dialLettersSpec)) dialLettersCard

/-- THE TIED CARD OF 'tellurionlaw06.DialSundays'. -/
def dialSundaysCard : Claim7 := { stood := { row := dialSundaysRow, standIns := [], harness := (true, "36171c3f0cdfdafd48fc551b929acfabd433f58e819ce1e4efe6f8d9f908caa1"), looks := true }, kinds := [], alts := [], laidByText := true, laidKinds := [.data, .data, .data], laidTests := true, laidLooks := .later }
def DialSundaysCardSaid : Prop := Claim7.holds Tryz.pinned (.plain (OpenSpec.ofChange dialSundaysSpec)) dialSundaysCard

/-- THE TIED CARD OF 'tellurionlaw06.DialLiked'. -/
def dialLikedCard : Claim7 := { stood := { row := dialLikedRow, standIns := [], harness := (true, "36171c3f0cdfdafd48fc551b929acfabd433f58e819ce1e4efe6f8d9f908caa1"), looks := true }, kinds := [], alts := [], laidByText := true, laidKinds := [.data, .data, .data], laidTests := true, laidLooks := .later }
def DialLikedCardSaid : Prop := Claim7.holds Tryz.pinned (.plain (OpenSpec.ofChange dialLikedSpec)) dialLikedCard

/-- THE TIED CARD OF 'tellurionlaw06.DialDoubles'. -/
def dialDoublesCard : Claim7 := { stood := { row := dialDoublesRow, standIns := [], harness := (true, "36171c3f0cdfdafd48fc551b929acfabd433f58e819ce1e4efe6f8d9f908caa1"), looks := true }, kinds := [], alts := [], laidByText := true, laidKinds := [.data, .data, .data], laidTests := true, laidLooks := .later }
def DialDoublesCardSaid : Prop := Claim7.holds Tryz.pinned (.plain (OpenSpec.ofChange dialDoublesSpec)) dialDoublesCard

/-- THE TIED CARD OF 'tellurionlaw06.DialKept'. -/
def dialKeptCard : Claim7 := { stood := { row := dialKeptRow, standIns := [], harness := (true, "36171c3f0cdfdafd48fc551b929acfabd433f58e819ce1e4efe6f8d9f908caa1"), looks := true }, kinds := [], alts := [], laidByText := true, laidKinds := [.data, .data, .data], laidTests := true, laidLooks := .later }
def DialKeptCardSaid : Prop := Claim7.holds Tryz.pinned (.plain (OpenSpec.ofChange dialKeptSpec)) dialKeptCard

/-- THE TIED CARD OF 'tellurionlaw06.DialFound'. -/
def dialFoundCard : Claim7 := { stood := { row := dialFoundRow, standIns := [], harness := (true, "36171c3f0cdfdafd48fc551b929acfabd433f58e819ce1e4efe6f8d9f908caa1"), looks := true }, kinds := [], alts := [], laidByText := true, laidKinds := [.data, .data, .data], laidTests := true, laidLooks := .later }
def DialFoundCardSaid : Prop := Claim7.holds Tryz.pinned (.plain (OpenSpec.ofChange dialFoundSpec)) dialFoundCard

/-- THE TIED CARD OF 'tellurionlaw06.DialAsks'. -/
def dialAsksCard : Claim7 := { stood := { row := dialAsksRow, standIns := [], harness := (true, "36171c3f0cdfdafd48fc551b929acfabd433f58e819ce1e4efe6f8d9f908caa1"), looks := true }, kinds := [], alts := [], laidByText := true, laidKinds := [.data, .data, .data], laidTests := true, laidLooks := .later }
def DialAsksCardSaid : Prop := Claim7.holds Tryz.pinned (.plain (OpenSpec.ofChange dialAsksSpec)) dialAsksCard

/-- THE TIED CARD OF 'tellurionlaw06.DialAsked'. -/
def dialAskedCard : Claim7 := { stood := { row := dialAskedRow, standIns := [], harness := (true, "36171c3f0cdfdafd48fc551b929acfabd433f58e819ce1e4efe6f8d9f908caa1"), looks := true }, kinds := [], alts := [], laidByText := true, laidKinds := [.data, .data, .data], laidTests := true, laidLooks := .later }
def DialAskedCardSaid : Prop := Claim7.holds Tryz.pinned (.plain (OpenSpec.ofChange dialAskedSpec)) dialAskedCard

/-- THE TIED CARD OF 'tellurionlaw06.DialAges'. -/
def dialAgesCard : Claim7 := { stood := { row := dialAgesRow, standIns := [], harness := (true, "36171c3f0cdfdafd48fc551b929acfabd433f58e819ce1e4efe6f8d9f908caa1"), looks := true }, kinds := [], alts := [], laidByText := true, laidKinds := [.data, .data, .data], laidTests := true, laidLooks := .later }
def DialAgesCardSaid : Prop := Claim7.holds Tryz.pinned (.plain (OpenSpec.ofChange dialAgesSpec)) dialAgesCard

/-- THE TIED CARD OF 'tellurionlaw06.DialMonths'. -/
def dialMonthsCard : Claim7 := { stood := { row := dialMonthsRow, standIns := [], harness := (true, "36171c3f0cdfdafd48fc551b929acfabd433f58e819ce1e4efe6f8d9f908caa1"), looks := true }, kinds := [], alts := [], laidByText := true, laidKinds := [.data, .data, .data], laidTests := true, laidLooks := .later }
def DialMonthsCardSaid : Prop := Claim7.holds Tryz.pinned (.plain (OpenSpec.ofChange dialMonthsSpec)) dialMonthsCard

/-- THE TIED CARD OF 'tellurionlaw06.DialPaschal'. -/
def dialPaschalCard : Claim7 := { stood := { row := dialPaschalRow, standIns := [], harness := (true, "36171c3f0cdfdafd48fc551b929acfabd433f58e819ce1e4efe6f8d9f908caa1"), looks := true }, kinds := [], alts := [], laidByText := true, laidKinds := [.data, .data, .data], laidTests := true, laidLooks := .later }
def DialPaschalCardSaid : Prop := Claim7.holds Tryz.pinned (.plain (OpenSpec.ofChange dialPaschalSpec)) dialPaschalCard

/-- THE TIED CARD OF 'tellurionlaw06.DialProven'. -/
def dialProvenCard : Claim7 := { stood := { row := dialProvenRow, standIns := [], harness := (true, "36171c3f0cdfdafd48fc551b929acfabd433f58e819ce1e4efe6f8d9f908caa1"), looks := true }, kinds := [], alts := [], laidByText := true, laidKinds := [.data, .data, .data], laidTests := true, laidLooks := .later }
def DialProvenCardSaid : Prop := Claim7.holds Tryz.pinned (.plain (OpenSpec.ofChange dialProvenSpec)) dialProvenCard

/-- THE SECOND FORM's CARD OF 'tellurionlaw06.DialLetters'. -/
def dialLettersUptoCard : Claim7 := { stood := { row := dialLettersUptoRow, standIns := [], harness := (true, "36171c3f0cdfdafd48fc551b929acfabd433f58e819ce1e4efe6f8d9f908caa1"), looks := true }, kinds := [], alts := [], laidByText := true, laidKinds := [.data, .data, .data], laidTests := true, laidLooks := .later }
def DialLettersUptoCardSaid : Prop := Claim7.holds Tryz.pinned (.plain (OpenSpec.upto dialLettersSpec)) dialLettersUptoCard

/-- THE SECOND FORM's CARD OF 'tellurionlaw06.DialSundays'. -/
def dialSundaysUptoCard : Claim7 := { stood := { row := dialSundaysUptoRow, standIns := [], harness := (true, "36171c3f0cdfdafd48fc551b929acfabd433f58e819ce1e4efe6f8d9f908caa1"), looks := true }, kinds := [], alts := [], laidByText := true, laidKinds := [.data, .data, .data], laidTests := true, laidLooks := .later }
def DialSundaysUptoCardSaid : Prop := Claim7.holds Tryz.pinned (.plain (OpenSpec.upto dialSundaysSpec)) dialSundaysUptoCard

/-- THE SECOND FORM's CARD OF 'tellurionlaw06.DialLiked'. -/
def dialLikedUptoCard : Claim7 := { stood := { row := dialLikedUptoRow, standIns := [], harness := (true, "36171c3f0cdfdafd48fc551b929acfabd433f58e819ce1e4efe6f8d9f908caa1"), looks := true }, kinds := [], alts := [], laidByText := true, laidKinds := [.data, .data, .data], laidTests := true, laidLooks := .later }
def DialLikedUptoCardSaid : Prop := Claim7.holds Tryz.pinned (.plain (OpenSpec.upto dialLikedSpec)) dialLikedUptoCard

/-- THE SECOND FORM's CARD OF 'tellurionlaw06.DialDoubles'. -/
def dialDoublesUptoCard : Claim7 := { stood := { row := dialDoublesUptoRow, standIns := [], harness := (true, "36171c3f0cdfdafd48fc551b929acfabd433f58e819ce1e4efe6f8d9f908caa1"), looks := true }, kinds := [], alts := [], laidByText := true, laidKinds := [.data, .data, .data], laidTests := true, laidLooks := .later }
def DialDoublesUptoCardSaid : Prop := Claim7.holds Tryz.pinned (.plain (OpenSpec.upto dialDoublesSpec)) dialDoublesUptoCard

/-- THE SECOND FORM's CARD OF 'tellurionlaw06.DialKept'. -/
def dialKeptUptoCard : Claim7 := { stood := { row := dialKeptUptoRow, standIns := [], harness := (true, "36171c3f0cdfdafd48fc551b929acfabd433f58e819ce1e4efe6f8d9f908caa1"), looks := true }, kinds := [], alts := [], laidByText := true, laidKinds := [.data, .data, .data], laidTests := true, laidLooks := .later }
def DialKeptUptoCardSaid : Prop := Claim7.holds Tryz.pinned (.plain (OpenSpec.upto dialKeptSpec)) dialKeptUptoCard

/-- THE SECOND FORM's CARD OF 'tellurionlaw06.DialFound'. -/
def dialFoundUptoCard : Claim7 := { stood := { row := dialFoundUptoRow, standIns := [], harness := (true, "36171c3f0cdfdafd48fc551b929acfabd433f58e819ce1e4efe6f8d9f908caa1"), looks := true }, kinds := [], alts := [], laidByText := true, laidKinds := [.data, .data, .data], laidTests := true, laidLooks := .later }
def DialFoundUptoCardSaid : Prop := Claim7.holds Tryz.pinned (.plain (OpenSpec.upto dialFoundSpec)) dialFoundUptoCard

/-- THE SECOND FORM's CARD OF 'tellurionlaw06.DialAsks'. -/
def dialAsksUptoCard : Claim7 := { stood := { row := dialAsksUptoRow, standIns := [], harness := (true, "36171c3f0cdfdafd48fc551b929acfabd433f58e819ce1e4efe6f8d9f908caa1"), looks := true }, kinds := [], alts := [], laidByText := true, laidKinds := [.data, .data, .data], laidTests := true, laidLooks := .later }
def DialAsksUptoCardSaid : Prop := Claim7.holds Tryz.pinned (.plain (OpenSpec.upto dialAsksSpec)) dialAsksUptoCard

/-- THE SECOND FORM's CARD OF 'tellurionlaw06.DialAsked'. -/
def dialAskedUptoCard : Claim7 := { stood := { row := dialAskedUptoRow, standIns := [], harness := (true, "36171c3f0cdfdafd48fc551b929acfabd433f58e819ce1e4efe6f8d9f908caa1"), looks := true }, kinds := [], alts := [], laidByText := true, laidKinds := [.data, .data, .data], laidTests := true, laidLooks := .later }
def DialAskedUptoCardSaid : Prop := Claim7.holds Tryz.pinned (.plain (OpenSpec.upto dialAskedSpec)) dialAskedUptoCard

/-- THE SECOND FORM's CARD OF 'tellurionlaw06.DialAges'. -/
def dialAgesUptoCard : Claim7 := { stood := { row := dialAgesUptoRow, standIns := [], harness := (true, "36171c3f0cdfdafd48fc551b929acfabd433f58e819ce1e4efe6f8d9f908caa1"), looks := true }, kinds := [], alts := [], laidByText := true, laidKinds := [.data, .data, .data], laidTests := true, laidLooks := .later }
def DialAgesUptoCardSaid : Prop := Claim7.holds Tryz.pinned (.plain (OpenSpec.upto dialAgesSpec)) dialAgesUptoCard

/-- THE SECOND FORM's CARD OF 'tellurionlaw06.DialMonths'. -/
def dialMonthsUptoCard : Claim7 := { stood := { row := dialMonthsUptoRow, standIns := [], harness := (true, "36171c3f0cdfdafd48fc551b929acfabd433f58e819ce1e4efe6f8d9f908caa1"), looks := true }, kinds := [], alts := [], laidByText := true, laidKinds := [.data, .data, .data], laidTests := true, laidLooks := .later }
def DialMonthsUptoCardSaid : Prop := Claim7.holds Tryz.pinned (.plain (OpenSpec.upto dialMonthsSpec)) dialMonthsUptoCard

/-- THE SECOND FORM's CARD OF 'tellurionlaw06.DialPaschal'. -/
def dialPaschalUptoCard : Claim7 := { stood := { row := dialPaschalUptoRow, standIns := [], harness := (true, "36171c3f0cdfdafd48fc551b929acfabd433f58e819ce1e4efe6f8d9f908caa1"), looks := true }, kinds := [], alts := [], laidByText := true, laidKinds := [.data, .data, .data], laidTests := true, laidLooks := .later }
def DialPaschalUptoCardSaid : Prop := Claim7.holds Tryz.pinned (.plain (OpenSpec.upto dialPaschalSpec)) dialPaschalUptoCard

/-- THE SECOND FORM's CARD OF 'tellurionlaw06.DialProven'. -/
def dialProvenUptoCard : Claim7 := { stood := { row := dialProvenUptoRow, standIns := [], harness := (true, "36171c3f0cdfdafd48fc551b929acfabd433f58e819ce1e4efe6f8d9f908caa1"), looks := true }, kinds := [], alts := [], laidByText := true, laidKinds := [.data, .data, .data], laidTests := true, laidLooks := .later }
def DialProvenUptoCardSaid : Prop := Claim7.holds Tryz.pinned (.plain (OpenSpec.upto dialProvenSpec)) dialProvenUptoCard
end Rows
end Go.Proofs.YtnpgdifidejohaaGreatDoor
