/-
  DERIVED. GIVEN WITH THE SEED: THE CARDS: each row of YtkmiphabagoifaaGreatDoorRows.lean that lists a variable, with what it lists TIED to the program's text (the seventh form; the later family's looks); each row that meets fmt, with fmt's text TOLD by the authors' own Lean function (tested against real Go, not proved from fmt's source: count such statements apart). THE CARD IS WHAT COUNTS. Prove the row's statement (the work); the ties are given (YtkmiphabagoifaaGreatDoorTie.lean); close each card by the builder's one call (the guide's Derived/Test/ToyasCard.lean, 'card_holds'). Laid BY PROGRAM, IN A SANDBOX (cutbox-door.mjs). By AI agents, Wed Nov 11 2026. No macro, syntax, notation, axiom, sorry.
-/
import Derived.Test.YtkmiphabagoifaaGreatDoorRows
import GoSem.ClaimSeven
namespace Go.Proofs.YtkmiphabagoifaaGreatDoor
namespace Rows

/-- THE TIED CARD OF 'telluriontop.TopKept'. -/
def topKeptCard : Claim7 := { stood := { row := topKeptRow, standIns := [], harness := (true, "8f29f2df03aec53c9604e23dc742c636dab964e724074716ca0ec17a0ba8dc4b"), looks := true }, kinds := [], alts := [], laidByText := true, laidKinds := [.data, .data, .data, .data, .pinned], laidTests := true, laidLooks := .later }
def TopKeptCardSaid : Prop := Claim7.holds Tryz.pinned (.plain (OpenSpec.ofChange topKeptSpec)) topKeptCard

/-- THE TIED CARD OF 'telluriontop.TopMarked'. -/
def topMarkedCard : Claim7 := { stood := { row := topMarkedRow, standIns := [], harness := (true, "8f29f2df03aec53c9604e23dc742c636dab964e724074716ca0ec17a0ba8dc4b"), looks := true }, kinds := [], alts := [], laidByText := true, laidKinds := [.data, .data, .data, .data, .pinned], laidTests := true, laidLooks := .later }
def TopMarkedCardSaid : Prop := Claim7.holds Tryz.pinned (.plain (OpenSpec.ofChange topMarkedSpec)) topMarkedCard

/-- THE SECOND FORM's CARD OF 'telluriontop.TopKept'. -/
def topKeptUptoCard : Claim7 := { stood := { row := topKeptUptoRow, standIns := [], harness := (true, "8f29f2df03aec53c9604e23dc742c636dab964e724074716ca0ec17a0ba8dc4b"), looks := true }, kinds := [], alts := [], laidByText := true, laidKinds := [.data, .data, .data, .data, .pinned], laidTests := true, laidLooks := .later }
def TopKeptUptoCardSaid : Prop := Claim7.holds Tryz.pinned (.plain (OpenSpec.upto topKeptSpec)) topKeptUptoCard

/-- THE SECOND FORM's CARD OF 'telluriontop.TopMarked'. -/
def topMarkedUptoCard : Claim7 := { stood := { row := topMarkedUptoRow, standIns := [], harness := (true, "8f29f2df03aec53c9604e23dc742c636dab964e724074716ca0ec17a0ba8dc4b"), looks := true }, kinds := [], alts := [], laidByText := true, laidKinds := [.data, .data, .data, .data, .pinned], laidTests := true, laidLooks := .later }
def TopMarkedUptoCardSaid : Prop := Claim7.holds Tryz.pinned (.plain (OpenSpec.upto topMarkedSpec)) topMarkedUptoCard
end Rows
end Go.Proofs.YtkmiphabagoifaaGreatDoor
