/-
  DERIVED. GIVEN WITH THE SEED: THE CARDS: each row of YthjblcboainknaaGreatDoorRows.lean that lists a variable, with what it lists TIED to the program's text (the seventh form; the later family's looks); each row that meets fmt, with fmt's text TOLD by the authors' own Lean function (tested against real Go, not proved from fmt's source: count such statements apart). THE CARD IS WHAT COUNTS. Prove the row's statement (the work); the ties are given (YthjblcboainknaaGreatDoorTie.lean); close each card by the builder's one call (the guide's Derived/Test/ToyasCard.lean, 'card_holds'). Laid BY PROGRAM, IN A SANDBOX (cutbox-door.mjs). By AI agents, Wed Nov 11 2026. No macro, syntax, notation, axiom, sorry.
-/
import Derived.Test.YthjblcboainknaaGreatDoorRows
import GoSem.ClaimSeven
namespace Go.Proofs.YthjblcboainknaaGreatDoor
namespace Rows

/-- THE TIED CARD OF 'tellurionlaw06.DialPrints'. -/
def dialPrintsCard : Claim7 := { stood := { row := dialPrintsRow, standIns := [], harness := (true, "ca4652f6f64d4c1bc6e73ab55919ac0eec03e5e703895f2a5b340e477d08bbda"), looks := true }, kinds := [], alts := [], laidByText := true, laidKinds := [.data, .data, .data, .data, .pinned], laidTests := true, laidLooks := .later }
def DialPrintsCardSaid : Prop := Claim7.holds Tryz.pinned (.plain (OpenSpec.ofChange dialPrintsSpec)) dialPrintsCard

/-- THE TIED CARD OF 'tellurionlaw06.DialReads'. -/
def dialReadsCard : Claim7 := { stood := { row := dialReadsRow, standIns := [], harness := (true, "ca4652f6f64d4c1bc6e73ab55919ac0eec03e5e703895f2a5b340e477d08bbda"), looks := true }, kinds := [], alts := [], laidByText := true, laidKinds := [.data, .data, .data, .data, .pinned], laidTests := true, laidLooks := .later }
def DialReadsCardSaid : Prop := Claim7.holds Tryz.pinned (.plain (OpenSpec.ofChange dialReadsSpec)) dialReadsCard

/-- THE TIED CARD OF 'tellurionlaw06.DialSpoilt'. -/
def dialSpoiltCard : Claim7 := { stood := { row := dialSpoiltRow, standIns := [], harness := (true, "ca4652f6f64d4c1bc6e73ab55919ac0eec03e5e703895f2a5b340e477d08bbda"), looks := true }, kinds := [], alts := [], laidByText := true, laidKinds := [.data, .data, .data, .data, .pinned], laidTests := true, laidLooks := .later }
def DialSpoiltCardSaid : Prop := Claim7.holds Tryz.pinned (.plain (OpenSpec.ofChange dialSpoiltSpec)) dialSpoiltCard

/-- THE SECOND FORM's CARD OF 'tellurionlaw06.DialPrints'. -/
def dialPrintsUptoCard : Claim7 := { stood := { row := dialPrintsUptoRow, standIns := [], harness := (true, "ca4652f6f64d4c1bc6e73ab55919ac0eec03e5e703895f2a5b340e477d08bbda"), looks := true }, kinds := [], alts := [], laidByText := true, laidKinds := [.data, .data, .data, .data, .pinned], laidTests := true, laidLooks := .later }
def DialPrintsUptoCardSaid : Prop := Claim7.holds Tryz.pinned (.plain (OpenSpec.upto dialPrintsSpec)) dialPrintsUptoCard

/-- THE SECOND FORM's CARD OF 'tellurionlaw06.DialReads'. -/
def dialReadsUptoCard : Claim7 := { stood := { row := dialReadsUptoRow, standIns := [], harness := (true, "ca4652f6f64d4c1bc6e73ab55919ac0eec03e5e703895f2a5b340e477d08bbda"), looks := true }, kinds := [], alts := [], laidByText := true, laidKinds := [.data, .data, .data, .data, .pinned], laidTests := true, laidLooks := .later }
def DialReadsUptoCardSaid : Prop := Claim7.holds Tryz.pinned (.plain (OpenSpec.upto dialReadsSpec)) dialReadsUptoCard

/-- THE SECOND FORM's CARD OF 'tellurionlaw06.DialSpoilt'. -/
def dialSpoiltUptoCard : Claim7 := { stood := { row := dialSpoiltUptoRow, standIns := [], harness := (true, "ca4652f6f64d4c1bc6e73ab55919ac0eec03e5e703895f2a5b340e477d08bbda"), looks := true }, kinds := [], alts := [], laidByText := true, laidKinds := [.data, .data, .data, .data, .pinned], laidTests := true, laidLooks := .later }
def DialSpoiltUptoCardSaid : Prop := Claim7.holds Tryz.pinned (.plain (OpenSpec.upto dialSpoiltSpec)) dialSpoiltUptoCard
end Rows
end Go.Proofs.YthjblcboainknaaGreatDoor
