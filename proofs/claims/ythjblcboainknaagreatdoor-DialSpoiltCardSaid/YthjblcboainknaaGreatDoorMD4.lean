/- Reference: facts and questions as defined. Reference: lists of facts and of questions. -/
import Derived.Test.YthjblcboainknaaGreatDoorMC3
import Derived.Test.YthjblcboainknaaGreatDoorMD1
import Derived.Test.YthjblcboainknaaGreatDoorProg
import Derived.WalkKit
import Derived.WalkSpells
import Derived.WalkLawsBesides
import Derived.LoopTactic
import Derived.Deep.LoopGhost
import Derived.Lib.Hide
import Derived.Deep.Draws
import Derived.Deep.QuietTactic
import Derived.BigQuiet
import Derived.Deep.RegionHeld3
import Derived.OwnWalk
import Derived.Laws.Rows
import Derived.Deep.DeepMust
import Derived.Defers
import Derived.Recover
import Derived.Laws.Pointers
import Derived.Laws.EntriesVeiled
import Derived.Outline
import Derived.Deep.MidRow
import Derived.RangeFuncNested
import Derived.RangeFuncBound
import Derived.OwnWalkIn
import Derived.TacticsInMore
import Derived.LoopIn
import Derived.Shelf.RegionOpen
import Derived.Sort.CutIn
import Derived.Deep.Cut
section
namespace Go.Proofs.YthjblcboainknaaGreatDoor
open Go.RowKit Dl

def kind0 (f : Fact) : Bool := kindB f (fun _ _ => true)

set_option maxRecDepth 100000 in
set_option maxHeartbeats 4000000 in
theorem rKind_is (k m d v : Int) (w : World) (b : Bool) (hb : kind0 ⟨k, m, d, v⟩ = b) :
  Calls Tryz.prog 82 #[.agg #[.int .i64 k, .int .i64 m, .int .i64 d, .int .i64 v]] w fun e w' => e = .returned (.bool b) ∧ Below w.heap.size w w' := by
 subst hb
 by_cases h123 : k = 1 ∨ k = 2 ∨ k = 3
 ·have hv : kind0 ⟨k, m, d, v⟩ = (inB m 1 12 && inB d 1 31) := by
   rcases h123 with rfl | rfl | rfl <;> simp [kind0, kindB, datedB]
  rw [hv]
  clear hv
  cases hm : inB m 1 12
  ·rcases h123 with rfl | rfl | rfl
   all_goals
    go_enter Tryz.func82, Tryz.ntmps82
    go_wp2_with fail
    refine (rin_is _ _ _ _ _ hm).mono ?_
    rintro e w' ⟨rfl, rfl⟩
    go_wp2_with fail
    go_ret
    exact ⟨rfl, fr_alloc (fr_refl _) _⟩
  ·rcases h123 with rfl | rfl | rfl
   all_goals
    go_enter Tryz.func82, Tryz.ntmps82
    go_wp2_with fail
    refine (rin_is _ _ _ _ _ hm).mono ?_
    rintro e w' ⟨rfl, rfl⟩
    go_wp2_with fail
    refine (rin_is _ _ _ _ _ rfl).mono ?_
    rintro e w' ⟨rfl, rfl⟩
    go_wp2_with fail
    go_ret
    exact ⟨rfl, fr_alloc (fr_refl _) _⟩
 ·by_cases h45 : k = 4 ∨ k = 5
  ·have hv : kind0 ⟨k, m, d, v⟩ = (m == 0 && d == 0) := by
    rcases h45 with rfl | rfl <;> simp [kind0, kindB, bareB]
   rw [hv]
   clear hv
   cases hm : (m == 0)
   ·rcases h45 with rfl | rfl
    all_goals
     go_enter Tryz.func82, Tryz.ntmps82
     go_wp2_with fail
     go_ret
     exact ⟨rfl, fr_alloc (fr_refl _) _⟩
   ·rcases h45 with rfl | rfl
    all_goals
     go_enter Tryz.func82, Tryz.ntmps82
     go_wp2_with fail
     go_ret
     exact ⟨rfl, fr_alloc (fr_refl _) _⟩
  ·have hv : kind0 ⟨k, m, d, v⟩ = false := by
    simp only [not_or] at h123 h45
    simp [kind0, kindB, h123, h45]
   rw [hv]
   have h1 : ¬ k = 1 := fun h => h123 (Or.inl h)
   have h2 : ¬ k = 2 := fun h => h123 (Or.inr (Or.inl h))
   have h3 : ¬ k = 3 := fun h => h123 (Or.inr (Or.inr h))
   have h4 : ¬ k = 4 := fun h => h45 (Or.inl h)
   have h5 : ¬ k = 5 := fun h => h45 (Or.inr h)
   clear h123 h45
   go_enter Tryz.func82, Tryz.ntmps82
   go_wp2_with fail
   go_ret
   exact ⟨rfl, fr_alloc (fr_refl _) _⟩

theorem fact_parts (f : Fact) : kindB f (val_areFacts f) = (kind0 f && inB f.v (if f.k = 3 then 0 else if f.k = 4 then 1 else if f.k = 5 then 365 else 0) (if f.k = 1 then 6 else if f.k = 2 then 29 else if f.k = 3 then 0 else if f.k = 4 then 19 else 366)) := by
 unfold kind0 kindB val_areFacts
 by_cases h1 : f.k = 1
 ·simp [h1]
 by_cases h2 : f.k = 2
 ·simp [h2]
 by_cases h3 : f.k = 3
 ·simp [h3]
 by_cases h4 : f.k = 4
 ·simp [h4]
 by_cases h5 : f.k = 5
 ·simp [h5]
 simp [h1, h2, h3, h4, h5]

set_option maxRecDepth 100000 in
set_option maxHeartbeats 4000000 in
theorem rFact_is (k m d v : Int) (w : World) (b : Bool) (hb : kindB ⟨k, m, d, v⟩ (val_areFacts ⟨k, m, d, v⟩) = b) :
  Calls Tryz.prog 40 #[.agg #[.int .i64 k, .int .i64 m, .int .i64 d, .int .i64 v]] w fun e w' => e = .returned (.bool b) ∧ Below w.heap.size w w' := by
 subst hb
 rw [fact_parts]
 have g1 := fr_alloc (fr_refl w) (.cells #[.int .i64 k, .int .i64 m, .int .i64 d, .int .i64 v] 69)
 by_cases h1 : k = 1
 ·subst h1
  have hv : inB v (if (1 : Int) = 3 then 0 else if (1 : Int) = 4 then 1 else if (1 : Int) = 5 then 365 else 0) (if (1 : Int) = 1 then 6 else if (1 : Int) = 2 then 29 else if (1 : Int) = 3 then 0 else if (1 : Int) = 4 then 19 else 366) = inB v 0 6 := rfl
  rw [hv]
  clear hv
  cases hk : kind0 ⟨1, m, d, v⟩
  ·go_enter Tryz.func40, Tryz.ntmps40
   go_wp2_with fail
   refine (rKind_is _ _ _ _ _ _ hk).mono ?_
   rintro e w1 ⟨rfl, hb1⟩
   go_wp2_with fail
   go_ret
   exact ⟨rfl, fr_call g1 hb1⟩
  ·go_enter Tryz.func40, Tryz.ntmps40
   go_wp2_with fail
   refine (rKind_is _ _ _ _ _ _ hk).mono ?_
   rintro e w1 ⟨rfl, hb1⟩
   go_wp2_with fail
   refine (rin_is _ _ _ _ _ rfl).mono ?_
   rintro e w2 ⟨rfl, rfl⟩
   go_wp2_with fail
   go_ret
   exact ⟨rfl, fr_call g1 hb1⟩
 by_cases h2 : k = 2
 ·subst h2
  have hv : inB v (if (2 : Int) = 3 then 0 else if (2 : Int) = 4 then 1 else if (2 : Int) = 5 then 365 else 0) (if (2 : Int) = 1 then 6 else if (2 : Int) = 2 then 29 else if (2 : Int) = 3 then 0 else if (2 : Int) = 4 then 19 else 366) = inB v 0 29 := rfl
  rw [hv]
  clear hv
  cases hk : kind0 ⟨2, m, d, v⟩
  ·go_enter Tryz.func40, Tryz.ntmps40
   go_wp2_with fail
   refine (rKind_is _ _ _ _ _ _ hk).mono ?_
   rintro e w1 ⟨rfl, hb1⟩
   go_wp2_with fail
   go_ret
   exact ⟨rfl, fr_call g1 hb1⟩
  ·go_enter Tryz.func40, Tryz.ntmps40
   go_wp2_with fail
   refine (rKind_is _ _ _ _ _ _ hk).mono ?_
   rintro e w1 ⟨rfl, hb1⟩
   go_wp2_with fail
   refine (rin_is _ _ _ _ _ rfl).mono ?_
   rintro e w2 ⟨rfl, rfl⟩
   go_wp2_with fail
   go_ret
   exact ⟨rfl, fr_call g1 hb1⟩
 by_cases h3 : k = 3
 ·subst h3
  have hv : inB v (if (3 : Int) = 3 then 0 else if (3 : Int) = 4 then 1 else if (3 : Int) = 5 then 365 else 0) (if (3 : Int) = 1 then 6 else if (3 : Int) = 2 then 29 else if (3 : Int) = 3 then 0 else if (3 : Int) = 4 then 19 else 366) = inB v 0 0 := rfl
  rw [hv]
  clear hv
  cases hk : kind0 ⟨3, m, d, v⟩
  ·go_enter Tryz.func40, Tryz.ntmps40
   go_wp2_with fail
   refine (rKind_is _ _ _ _ _ _ hk).mono ?_
   rintro e w1 ⟨rfl, hb1⟩
   go_wp2_with fail
   go_ret
   exact ⟨rfl, fr_call g1 hb1⟩
  ·have hz : inB v 0 0 = (v == 0) := by unfold inB; rw [Bool.eq_iff_iff]; simp; omega
   rw [hz]
   go_enter Tryz.func40, Tryz.ntmps40
   go_wp2_with fail
   refine (rKind_is _ _ _ _ _ _ hk).mono ?_
   rintro e w1 ⟨rfl, hb1⟩
   go_wp2_with fail
   go_ret
   exact ⟨rfl, fr_call g1 hb1⟩
 by_cases h4 : k = 4
 ·subst h4
  have hv : inB v (if (4 : Int) = 3 then 0 else if (4 : Int) = 4 then 1 else if (4 : Int) = 5 then 365 else 0) (if (4 : Int) = 1 then 6 else if (4 : Int) = 2 then 29 else if (4 : Int) = 3 then 0 else if (4 : Int) = 4 then 19 else 366) = inB v 1 19 := rfl
  rw [hv]
  clear hv
  cases hk : kind0 ⟨4, m, d, v⟩
  ·go_enter Tryz.func40, Tryz.ntmps40
   go_wp2_with fail
   refine (rKind_is _ _ _ _ _ _ hk).mono ?_
   rintro e w1 ⟨rfl, hb1⟩
   go_wp2_with fail
   go_ret
   exact ⟨rfl, fr_call g1 hb1⟩
  ·go_enter Tryz.func40, Tryz.ntmps40
   go_wp2_with fail
   refine (rKind_is _ _ _ _ _ _ hk).mono ?_
   rintro e w1 ⟨rfl, hb1⟩
   go_wp2_with fail
   refine (rin_is _ _ _ _ _ rfl).mono ?_
   rintro e w2 ⟨rfl, rfl⟩
   go_wp2_with fail
   go_ret
   exact ⟨rfl, fr_call g1 hb1⟩
 by_cases h5 : k = 5
 ·subst h5
  have hv : inB v (if (5 : Int) = 3 then 0 else if (5 : Int) = 4 then 1 else if (5 : Int) = 5 then 365 else 0) (if (5 : Int) = 1 then 6 else if (5 : Int) = 2 then 29 else if (5 : Int) = 3 then 0 else if (5 : Int) = 4 then 19 else 366) = inB v 365 366 := rfl
  rw [hv]
  clear hv
  cases hk : kind0 ⟨5, m, d, v⟩
  ·go_enter Tryz.func40, Tryz.ntmps40
   go_wp2_with fail
   refine (rKind_is _ _ _ _ _ _ hk).mono ?_
   rintro e w1 ⟨rfl, hb1⟩
   go_wp2_with fail
   go_ret
   exact ⟨rfl, fr_call g1 hb1⟩
  ·go_enter Tryz.func40, Tryz.ntmps40
   go_wp2_with fail
   refine (rKind_is _ _ _ _ _ _ hk).mono ?_
   rintro e w1 ⟨rfl, hb1⟩
   go_wp2_with fail
   refine (rin_is _ _ _ _ _ rfl).mono ?_
   rintro e w2 ⟨rfl, rfl⟩
   go_wp2_with fail
   go_ret
   exact ⟨rfl, fr_call g1 hb1⟩
 have hk : kind0 ⟨k, m, d, v⟩ = false := by simp [kind0, kindB, h1, h2, h3, h4, h5]
 rw [hk, Bool.false_and]
 go_enter Tryz.func40, Tryz.ntmps40
 go_wp2_with fail
 refine (rKind_is _ _ _ _ _ _ hk).mono ?_
 rintro e w1 ⟨rfl, hb1⟩
 go_wp2_with fail
 go_ret
 exact ⟨rfl, fr_call g1 hb1⟩
end Go.Proofs.YthjblcboainknaaGreatDoor
end

section
namespace Go.Proofs.YthjblcboainknaaGreatDoor
open Go.RowKit Dl

set_option maxRecDepth 100000 in
set_option maxHeartbeats 2000000 in
theorem rFacts_is (A : Option Addr) (c : Nat) (l : List Fact) (w : World) (hr : RdS w A 4 (l.map Fact.row)) (hn : l.length ≤ 9223372036854775807) (b : Bool) (hb : factsB l = b) :
  Calls Tryz.prog 12 #[.slice A l.length c] w fun e' w' => e' = .returned (.bool b) ∧ Below w.heap.size w w' := by
 subst hb
 go_enter Tryz.func12, Tryz.ntmps12
 go_wp2
 generalize hlen : l.length = n at *
 have HL := Lib.hid hlen
 have HF := Lib.hid (show factsB l = (decide (l.length ≤ 6) && l.all (fun f => kindB f (val_areFacts f))) from rfl)
 clear hlen
 go_loopw [3] (fun i wr => ∃ k : Nat, k ≤ n ∧ i = .int .i64 k ∧ (l.take k).all (fun f => kindB f (val_areFacts f)) = true ∧ Below w.heap.size w wr) (fun i _ => n - (intOf i).toNat)
 case atStart => exact ⟨0, Nat.zero_le _, rfl, by simp, fr_refl _⟩
 case round =>
  obtain ⟨k, hk, rfl, hall, hbel⟩ := hrel
  by_cases hlt : k < n
  ·have hkl : k < l.length := by have := HL.out; omega
   have hrow : (l.map Fact.row)[k]? = some (l[k].row) := by simp [hkl]
   obtain ⟨ad, rfl, hab, _, hc⟩ := (hr.keep hbel).at_ hrow
   have hq : ∀ j, ad.add (k * 4 + (j + 1)) = (ad.add (k * 4)).add (j + 1) := fun j => by
    unfold Addr.add; by_cases h0 : k * 4 = 0 <;> simp [h0, Nat.add_assoc]
   have hc0 : wr.cell? (ad.add (k * 4)) = some (.int .i64 l[k].k) := hc 0 _ rfl
   have hc1 : wr.cell? ⟨(ad.add (k * 4)).block, (ad.add (k * 4)).off + 1, none⟩ = _ := (congrArg wr.cell? (hq 0)).symm.trans (hc 1 _ rfl)
   have hc2 : wr.cell? ⟨(ad.add (k * 4)).block, (ad.add (k * 4)).off + 2, none⟩ = _ := (congrArg wr.cell? (hq 1)).symm.trans (hc 2 _ rfl)
   have hc3 : wr.cell? ⟨(ad.add (k * 4)).block, (ad.add (k * 4)).off + 3, none⟩ = _ := (congrArg wr.cell? (hq 2)).symm.trans (hc 3 _ rfl)
   clear hc hrow hr hq
   cases hf : kindB l[k] (val_areFacts l[k])
   ·have hno := Lib.hid (show factsB l = false by rw [HF.out]; rw [show l.all (fun f => kindB f (val_areFacts f)) = false from all_no hkl hf]; simp)
    go_wp2_with fail
    refine (rFact_is _ _ _ _ _ false hf).mono ?_
    rintro e w1 ⟨rfl, hb1⟩
    go_wp2_with fail
    go_ret
    exact ⟨ret_bool (by rw [hno.out]), fr_call hbel hb1⟩
   ·have hst := Lib.hid (all_step hkl hall hf)
    go_wp2_with fail
    refine (rFact_is _ _ _ _ _ true hf).mono ?_
    rintro e w1 ⟨rfl, hb1⟩
    go_wp2_with fail
    go_roundw
    case rel => exact ⟨k + 1, hlt, by go_num, hst.out, fr_call hbel hb1⟩
    case measure => simp [intOf]; omega
  ·have hfin := Lib.hid (show factsB l = decide (n ≤ 6) by
    rw [HF.out, HL.out]
    rw [List.take_of_length_le (by have := HL.out; omega)] at hall
    rw [hall, Bool.and_true])
   go_wp2_with fail
   go_ret
   exact ⟨ret_bool (by rw [hfin.out]; simp; omega), hbel⟩
theorem ask_parts (f : Fact) : kindB f (val_areQuestions f) = (kind0 f && (f.v == 0)) := by
 unfold kind0 kindB val_areQuestions
 by_cases h1 : f.k = 1
 ·simp [h1]
 by_cases h2 : f.k = 2
 ·simp [h2]
 by_cases h3 : f.k = 3
 ·simp [h3]
 by_cases h4 : f.k = 4
 ·simp [h4]
 by_cases h5 : f.k = 5
 ·simp [h5]
 simp [h1, h2, h3, h4, h5]

end Go.Proofs.YthjblcboainknaaGreatDoor
end
