/- Reference: all days of a date. -/
import Derived.Test.YtnppilaabobgiaaGreatDoorMBL
import Derived.Test.YtnppilaabobgiaaGreatDoorMD1
import Derived.Test.YtnppilaabobgiaaGreatDoorProg
import Derived.WalkKit
import Derived.WalkSpells
import Derived.WalkLawsBesides
import Derived.LoopTactic
import Derived.Deep.LoopGhost
import Derived.Lib.Hide
import Derived.Deep.Draws
import Derived.Deep.QuietTactic
import Derived.BigQuiet
import Derived.Deep.RegionHeld3
import Derived.OwnWalk
import Derived.Laws.Rows
import Derived.Deep.DeepMust
import Derived.Defers
import Derived.Recover
import Derived.Laws.Pointers
import Derived.Laws.EntriesVeiled
import Derived.Outline
import Derived.Deep.MidRow
import Derived.RangeFuncNested
import Derived.RangeFuncBound
import Derived.OwnWalkIn
import Derived.TacticsInMore
import Derived.LoopIn
import Derived.Shelf.RegionOpen
import Derived.Sort.CutIn
import Derived.Deep.Cut
import Derived.Maps.OwnOps
import Derived.Maps.OwnSet
import Derived.IntWalk
import Derived.Lib.LaidTab
import Derived.Lib.ItoaNum
import Derived.Sort.Grow
namespace Go.Proofs.YtnppilaabobgiaaGreatDoor
open Go.RowKit Dl

def selL (b : Bool) (x : List Int) : List Int := if b = true then x else []
def db1 (c : List Int) (e last y m d : Int) : Bool := realB c y m d && decide (dayOf e c ⟨y, m, d⟩ ≤ last)
def db2 (c : List Int) (e last y m d : Int) : Bool := realB c y m d && decide (last < dayOf e c ⟨y, m, d⟩)
theorem db1_yes {c : List Int} {e last y m d : Int} (h : db1 c e last y m d = true) : realB c y m d = true ∧ dayOf e c ⟨y, m, d⟩ ≤ last := by
  unfold db1 at h; simpa using h
theorem db2_yes {c : List Int} {e last y m d : Int} (h : db2 c e last y m d = true) : realB c y m d = true ∧ last < dayOf e c ⟨y, m, d⟩ := by
  unfold db2 at h; simpa using h

end Go.Proofs.YtnppilaabobgiaaGreatDoor
