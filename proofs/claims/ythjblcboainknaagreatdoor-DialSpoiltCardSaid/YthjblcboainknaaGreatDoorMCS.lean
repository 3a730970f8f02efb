/- Walks: Print. -/
import Derived.Test.YthjblcboainknaaGreatDoorMCR
import Derived.Test.YthjblcboainknaaGreatDoorProg
import Derived.WalkKit
import Derived.WalkSpells
import Derived.WalkLawsBesides
import Derived.LoopTactic
import Derived.Deep.LoopGhost
import Derived.Lib.Hide
import Derived.Deep.Draws
import Derived.Deep.QuietTactic
import Derived.BigQuiet
import Derived.Deep.RegionHeld3
import Derived.OwnWalk
import Derived.Laws.Rows
import Derived.Deep.DeepMust
import Derived.Defers
import Derived.Recover
import Derived.Laws.Pointers
import Derived.Laws.EntriesVeiled
import Derived.Outline
import Derived.Deep.MidRow
import Derived.RangeFuncNested
import Derived.RangeFuncBound
import Derived.OwnWalkIn
import Derived.TacticsInMore
import Derived.LoopIn
import Derived.Shelf.RegionOpen
import Derived.Sort.CutIn
import Derived.Deep.Cut
import Derived.Maps.OwnOps
import Derived.Maps.OwnSet
import Derived.IntWalk
import Derived.Lib.LaidTab
import Derived.Lib.ItoaNum
import Derived.Sort.Grow
namespace Go.Proofs.YthjblcboainknaaGreatDoor
open Go.RowKit Dl

set_option maxRecDepth 100000 in
set_option maxHeartbeats 4000000 in
theorem Print_ok (A L : Option Addr) (n c lc : Nat) (cs : List Int) (e num den add : Int) (l : List Fact) (w : World) (hr : Rd w A n cs) (hn : n ≤ 9223372036854775807) (hL : RdS w L 4 (l.map Fact.row)) (hln : l.length ≤ 9223372036854775807) (hok : calOk e cs = true) (hmb : moonB num den add = true) (hl : factsB l = true) (hT : TabP w) :
  Calls Tryz.prog 9 #[.agg #[.int .i64 e, .slice A n c], .agg #[.int .i64 num, .int .i64 den, .int .i64 add], .slice L l.length lc] w fun e' w' =>
   e' = .returned (.tuple #[.string ⟨(almText e cs num den add l).toArray⟩, .int .i64 0]) ∧ Below w.heap.size w w' := by
 have g1 := fr_alloc (fr_alloc (fr_refl w) (.cells #[.int .i64 e, .slice A n c] 24)) (.cells #[.int .i64 num, .int .i64 den, .int .i64 add] 26)
 go_enter Tryz.func9, Tryz.ntmps9
 go_wp2_with fail
 refine (isCalendar_is A n c cs e _ (hr.keep g1) hn _ hok).mono ?_
 rintro e' w1 ⟨rfl, hb1⟩
 obtain ⟨hc_w1, hf_w1⟩ := bcell hb1
 have hz0_w1 : w.heap.size < w1.heap.size := Nat.lt_of_lt_of_le (by first | omega | (simp; done) | (simp; omega)) hb1.size
 have hz1_w1 : w.heap.size + 1 < w1.heap.size := Nat.lt_of_lt_of_le (by first | omega | (simp; done) | (simp; omega)) hb1.size
 go_wp2_with fail
 refine (isMoon_is _ _ _ _ _ hmb).mono ?_
 rintro e' w2 ⟨rfl, hb2⟩
 obtain ⟨hc_w2, hf_w2⟩ := bcell hb2
 have hz0_w2 : w.heap.size < w2.heap.size := Nat.lt_of_lt_of_le (by first | omega | (simp; done) | (simp; omega)) hb2.size
 have hz1_w2 : w.heap.size + 1 < w2.heap.size := Nat.lt_of_lt_of_le (by first | omega | (simp; done) | (simp; omega)) hb2.size
 go_wp2_with fail
 refine (areFacts_is L lc l _ (((hL.keep g1).keep hb1).keep hb2) hln).mono ?_
 rintro e' w3 ⟨rfl, hb3⟩
 rw [hl]
 obtain ⟨hc_w3, hf_w3⟩ := bcell hb3
 have hz0_w3 : w.heap.size < w3.heap.size := Nat.lt_of_lt_of_le (by first | omega | (simp; done) | (simp; omega)) hb3.size
 have hz1_w3 : w.heap.size + 1 < w3.heap.size := Nat.lt_of_lt_of_le (by first | omega | (simp; done) | (simp; omega)) hb3.size
 go_wp2_with fail
 have hb := fr_call (fr_call (fr_call g1 hb1) hb2) hb3
 refine (text_any A L n c lc cs e num den add l _ (hr.keep hb) hok hmb (hL.keep hb) hl (hT.keep hb)).mono ?_
 rintro e' w4 ⟨rfl, hb4⟩
 go_wp2_with fail
 go_ret2
 exact ⟨rfl, fr_call hb hb4⟩

set_option maxRecDepth 100000 in
set_option maxHeartbeats 4000000 in
theorem Print_bad (A L : Option Addr) (n c lc : Nat) (cs : List Int) (e num den add : Int) (l : List Fact) (w : World) (hr : Rd w A n cs) (hn : n ≤ 9223372036854775807) (hL : RdS w L 4 (l.map Fact.row)) (hln : l.length ≤ 9223372036854775807) (hbad : calOk e cs = false ∨ moonB num den add = false ∨ factsB l = false) :
  Calls Tryz.prog 9 #[.agg #[.int .i64 e, .slice A n c], .agg #[.int .i64 num, .int .i64 den, .int .i64 add], .slice L l.length lc] w fun e' w' =>
   e' = .returned (.tuple #[.string ⟨#[]⟩, .int .i64 2]) ∧ Below w.heap.size w w' := by
 have g1 := fr_alloc (fr_alloc (fr_refl w) (.cells #[.int .i64 e, .slice A n c] 24)) (.cells #[.int .i64 num, .int .i64 den, .int .i64 add] 26)
 cases hok : calOk e cs
 ·go_enter Tryz.func9, Tryz.ntmps9
  go_wp2_with fail
  refine (isCalendar_is A n c cs e _ (hr.keep g1) hn _ hok).mono ?_
  rintro e' w1 ⟨rfl, hb1⟩
  go_wp2_with fail
  go_ret2
  exact ⟨rfl, fr_call g1 hb1⟩
 ·cases hmb : moonB num den add
  ·go_enter Tryz.func9, Tryz.ntmps9
   go_wp2_with fail
   refine (isCalendar_is A n c cs e _ (hr.keep g1) hn _ hok).mono ?_
   rintro e' w1 ⟨rfl, hb1⟩
   obtain ⟨hc_w1, hf_w1⟩ := bcell hb1
   have hz0_w1 : w.heap.size < w1.heap.size := Nat.lt_of_lt_of_le (by first | omega | (simp; done) | (simp; omega)) hb1.size
   have hz1_w1 : w.heap.size + 1 < w1.heap.size := Nat.lt_of_lt_of_le (by first | omega | (simp; done) | (simp; omega)) hb1.size
   go_wp2_with fail
   refine (isMoon_is _ _ _ _ _ hmb).mono ?_
   rintro e' w2 ⟨rfl, hb2⟩
   go_wp2_with fail
   go_ret2
   exact ⟨rfl, fr_call (fr_call g1 hb1) hb2⟩
  ·have hl : factsB l = false := by
    rcases hbad with h | h | h
    ·rw [hok] at h; cases h
    ·rw [hmb] at h; cases h
    ·exact h
   go_enter Tryz.func9, Tryz.ntmps9
   go_wp2_with fail
   refine (isCalendar_is A n c cs e _ (hr.keep g1) hn _ hok).mono ?_
   rintro e' w1 ⟨rfl, hb1⟩
   obtain ⟨hc_w1, hf_w1⟩ := bcell hb1
   have hz0_w1 : w.heap.size < w1.heap.size := Nat.lt_of_lt_of_le (by first | omega | (simp; done) | (simp; omega)) hb1.size
   have hz1_w1 : w.heap.size + 1 < w1.heap.size := Nat.lt_of_lt_of_le (by first | omega | (simp; done) | (simp; omega)) hb1.size
   go_wp2_with fail
   refine (isMoon_is _ _ _ _ _ hmb).mono ?_
   rintro e' w2 ⟨rfl, hb2⟩
   obtain ⟨hc_w2, hf_w2⟩ := bcell hb2
   have hz0_w2 : w.heap.size < w2.heap.size := Nat.lt_of_lt_of_le (by first | omega | (simp; done) | (simp; omega)) hb2.size
   have hz1_w2 : w.heap.size + 1 < w2.heap.size := Nat.lt_of_lt_of_le (by first | omega | (simp; done) | (simp; omega)) hb2.size
   go_wp2_with fail
   refine (areFacts_is L lc l _ (((hL.keep g1).keep hb1).keep hb2) hln).mono ?_
   rintro e' w3 ⟨rfl, hb3⟩
   rw [hl]
   go_wp2_with fail
   go_ret2
   exact ⟨rfl, fr_call (fr_call (fr_call g1 hb1) hb2) hb3⟩
end Go.Proofs.YthjblcboainknaaGreatDoor
