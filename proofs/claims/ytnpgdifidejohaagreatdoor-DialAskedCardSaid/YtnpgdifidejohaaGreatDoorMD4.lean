/- Reference: facts and questions as defined. Reference: lists of facts and of questions. Reference: answers. Reference: answers, weekdays and ages. Reference: whether a fact is so. Reference: the years for which facts are so. -/
import Derived.Test.YtnpgdifidejohaaGreatDoorMC3
import Derived.Test.YtnpgdifidejohaaGreatDoorMD1
import Derived.Test.YtnpgdifidejohaaGreatDoorProg
import Derived.WalkKit
import Derived.WalkSpells
import Derived.WalkLawsBesides
import Derived.LoopTactic
import Derived.Deep.LoopGhost
import Derived.Lib.Hide
import Derived.Deep.Draws
import Derived.Deep.QuietTactic
import Derived.BigQuiet
import Derived.Deep.RegionHeld3
import Derived.OwnWalk
import Derived.Laws.Rows
import Derived.Deep.DeepMust
import Derived.Defers
import Derived.Recover
import Derived.Laws.Pointers
import Derived.Laws.EntriesVeiled
import Derived.Outline
import Derived.Deep.MidRow
import Derived.RangeFuncNested
import Derived.RangeFuncBound
import Derived.OwnWalkIn
import Derived.TacticsInMore
import Derived.LoopIn
import Derived.Shelf.RegionOpen
import Derived.Sort.CutIn
import Derived.Deep.Cut
import Derived.Test.YtnpgdifidejohaaGreatDoorMD2
import Derived.Test.YtnpgdifidejohaaGreatDoorMC5
section
namespace Go.Proofs.YtnpgdifidejohaaGreatDoor
open Go.RowKit Dl

def kind0 (f : Fact) : Bool := kindB f (fun _ _ => true)

set_option maxRecDepth 100000 in
set_option maxHeartbeats 4000000 in
theorem rKind_is (k m d v : Int) (w : World) (b : Bool) (hb : kind0 ⟨k, m, d, v⟩ = b) :
    Calls Tryz.prog 99 #[.agg #[.int .i64 k, .int .i64 m, .int .i64 d, .int .i64 v]] w fun e w' => e = .returned (.bool b) ∧ Below w.heap.size w w' := by
  subst hb
  by_cases h123 : k = 1 ∨ k = 2 ∨ k = 3
  · have hv : kind0 ⟨k, m, d, v⟩ = (inB m 1 12 && inB d 1 31) := by
      rcases h123 with rfl | rfl | rfl <;> simp [kind0, kindB, datedB]
    rw [hv]
    clear hv
    cases hm : inB m 1 12
    · rcases h123 with rfl | rfl | rfl
      all_goals
        go_enter Tryz.func99, Tryz.ntmps99
        go_wp2_with fail
        refine (rin_is _ _ _ _ _ hm).mono ?_
        rintro e w' ⟨rfl, rfl⟩
        go_wp2_with fail
        go_ret
        exact ⟨rfl, fr_alloc (fr_refl _) _⟩
    · rcases h123 with rfl | rfl | rfl
      all_goals
        go_enter Tryz.func99, Tryz.ntmps99
        go_wp2_with fail
        refine (rin_is _ _ _ _ _ hm).mono ?_
        rintro e w' ⟨rfl, rfl⟩
        go_wp2_with fail
        refine (rin_is _ _ _ _ _ rfl).mono ?_
        rintro e w' ⟨rfl, rfl⟩
        go_wp2_with fail
        go_ret
        exact ⟨rfl, fr_alloc (fr_refl _) _⟩
  · by_cases h45 : k = 4 ∨ k = 5
    · have hv : kind0 ⟨k, m, d, v⟩ = (m == 0 && d == 0) := by
        rcases h45 with rfl | rfl <;> simp [kind0, kindB, bareB]
      rw [hv]
      clear hv
      cases hm : (m == 0)
      · rcases h45 with rfl | rfl
        all_goals
          go_enter Tryz.func99, Tryz.ntmps99
          go_wp2_with fail
          go_ret
          exact ⟨rfl, fr_alloc (fr_refl _) _⟩
      · rcases h45 with rfl | rfl
        all_goals
          go_enter Tryz.func99, Tryz.ntmps99
          go_wp2_with fail
          go_ret
          exact ⟨rfl, fr_alloc (fr_refl _) _⟩
    · have hv : kind0 ⟨k, m, d, v⟩ = false := by
        simp only [not_or] at h123 h45
        simp [kind0, kindB, h123, h45]
      rw [hv]
      have h1 : ¬ k = 1 := fun h => h123 (Or.inl h)
      have h2 : ¬ k = 2 := fun h => h123 (Or.inr (Or.inl h))
      have h3 : ¬ k = 3 := fun h => h123 (Or.inr (Or.inr h))
      have h4 : ¬ k = 4 := fun h => h45 (Or.inl h)
      have h5 : ¬ k = 5 := fun h => h45 (Or.inr h)
      clear h123 h45
      go_enter Tryz.func99, Tryz.ntmps99
      go_wp2_with fail
      go_ret
      exact ⟨rfl, fr_alloc (fr_refl _) _⟩

theorem fact_parts (f : Fact) : kindB f (val_areFacts f) = (kind0 f && inB f.v (if f.k = 3 then 0 else if f.k = 4 then 1 else if f.k = 5 then 365 else 0) (if f.k = 1 then 6 else if f.k = 2 then 29 else if f.k = 3 then 0 else if f.k = 4 then 19 else 366)) := by
  unfold kind0 kindB val_areFacts
  by_cases h1 : f.k = 1
  · simp [h1]
  by_cases h2 : f.k = 2
  · simp [h2]
  by_cases h3 : f.k = 3
  · simp [h3]
  by_cases h4 : f.k = 4
  · simp [h4]
  by_cases h5 : f.k = 5
  · simp [h5]
  simp [h1, h2, h3, h4, h5]

set_option maxRecDepth 100000 in
set_option maxHeartbeats 4000000 in
theorem rFact_is (k m d v : Int) (w : World) (b : Bool) (hb : kindB ⟨k, m, d, v⟩ (val_areFacts ⟨k, m, d, v⟩) = b) :
    Calls Tryz.prog 93 #[.agg #[.int .i64 k, .int .i64 m, .int .i64 d, .int .i64 v]] w fun e w' => e = .returned (.bool b) ∧ Below w.heap.size w w' := by
  subst hb
  rw [fact_parts]
  have g1 := fr_alloc (fr_refl w) (.cells #[.int .i64 k, .int .i64 m, .int .i64 d, .int .i64 v] 77)
  by_cases h1 : k = 1
  · subst h1
    have hv : inB v (if (1 : Int) = 3 then 0 else if (1 : Int) = 4 then 1 else if (1 : Int) = 5 then 365 else 0) (if (1 : Int) = 1 then 6 else if (1 : Int) = 2 then 29 else if (1 : Int) = 3 then 0 else if (1 : Int) = 4 then 19 else 366) = inB v 0 6 := rfl
    rw [hv]
    clear hv
    cases hk : kind0 ⟨1, m, d, v⟩
    · go_enter Tryz.func93, Tryz.ntmps93
      go_wp2_with fail
      refine (rKind_is _ _ _ _ _ _ hk).mono ?_
      rintro e w1 ⟨rfl, hb1⟩
      go_wp2_with fail
      go_ret
      exact ⟨rfl, fr_call g1 hb1⟩
    · go_enter Tryz.func93, Tryz.ntmps93
      go_wp2_with fail
      refine (rKind_is _ _ _ _ _ _ hk).mono ?_
      rintro e w1 ⟨rfl, hb1⟩
      go_wp2_with fail
      refine (rin_is _ _ _ _ _ rfl).mono ?_
      rintro e w2 ⟨rfl, rfl⟩
      go_wp2_with fail
      go_ret
      exact ⟨rfl, fr_call g1 hb1⟩
  by_cases h2 : k = 2
  · subst h2
    have hv : inB v (if (2 : Int) = 3 then 0 else if (2 : Int) = 4 then 1 else if (2 : Int) = 5 then 365 else 0) (if (2 : Int) = 1 then 6 else if (2 : Int) = 2 then 29 else if (2 : Int) = 3 then 0 else if (2 : Int) = 4 then 19 else 366) = inB v 0 29 := rfl
    rw [hv]
    clear hv
    cases hk : kind0 ⟨2, m, d, v⟩
    · go_enter Tryz.func93, Tryz.ntmps93
      go_wp2_with fail
      refine (rKind_is _ _ _ _ _ _ hk).mono ?_
      rintro e w1 ⟨rfl, hb1⟩
      go_wp2_with fail
      go_ret
      exact ⟨rfl, fr_call g1 hb1⟩
    · go_enter Tryz.func93, Tryz.ntmps93
      go_wp2_with fail
      refine (rKind_is _ _ _ _ _ _ hk).mono ?_
      rintro e w1 ⟨rfl, hb1⟩
      go_wp2_with fail
      refine (rin_is _ _ _ _ _ rfl).mono ?_
      rintro e w2 ⟨rfl, rfl⟩
      go_wp2_with fail
      go_ret
      exact ⟨rfl, fr_call g1 hb1⟩
  by_cases h3 : k = 3
  · subst h3
    have hv : inB v (if (3 : Int) = 3 then 0 else if (3 : Int) = 4 then 1 else if (3 : Int) = 5 then 365 else 0) (if (3 : Int) = 1 then 6 else if (3 : Int) = 2 then 29 else if (3 : Int) = 3 then 0 else if (3 : Int) = 4 then 19 else 366) = inB v 0 0 := rfl
    rw [hv]
    clear hv
    cases hk : kind0 ⟨3, m, d, v⟩
    · go_enter Tryz.func93, Tryz.ntmps93
      go_wp2_with fail
      refine (rKind_is _ _ _ _ _ _ hk).mono ?_
      rintro e w1 ⟨rfl, hb1⟩
      go_wp2_with fail
      go_ret
      exact ⟨rfl, fr_call g1 hb1⟩
    · have hz : inB v 0 0 = (v == 0) := by unfold inB; rw [Bool.eq_iff_iff]; simp; omega
      rw [hz]
      go_enter Tryz.func93, Tryz.ntmps93
      go_wp2_with fail
      refine (rKind_is _ _ _ _ _ _ hk).mono ?_
      rintro e w1 ⟨rfl, hb1⟩
      go_wp2_with fail
      go_ret
      exact ⟨rfl, fr_call g1 hb1⟩
  by_cases h4 : k = 4
  · subst h4
    have hv : inB v (if (4 : Int) = 3 then 0 else if (4 : Int) = 4 then 1 else if (4 : Int) = 5 then 365 else 0) (if (4 : Int) = 1 then 6 else if (4 : Int) = 2 then 29 else if (4 : Int) = 3 then 0 else if (4 : Int) = 4 then 19 else 366) = inB v 1 19 := rfl
    rw [hv]
    clear hv
    cases hk : kind0 ⟨4, m, d, v⟩
    · go_enter Tryz.func93, Tryz.ntmps93
      go_wp2_with fail
      refine (rKind_is _ _ _ _ _ _ hk).mono ?_
      rintro e w1 ⟨rfl, hb1⟩
      go_wp2_with fail
      go_ret
      exact ⟨rfl, fr_call g1 hb1⟩
    · go_enter Tryz.func93, Tryz.ntmps93
      go_wp2_with fail
      refine (rKind_is _ _ _ _ _ _ hk).mono ?_
      rintro e w1 ⟨rfl, hb1⟩
      go_wp2_with fail
      refine (rin_is _ _ _ _ _ rfl).mono ?_
      rintro e w2 ⟨rfl, rfl⟩
      go_wp2_with fail
      go_ret
      exact ⟨rfl, fr_call g1 hb1⟩
  by_cases h5 : k = 5
  · subst h5
    have hv : inB v (if (5 : Int) = 3 then 0 else if (5 : Int) = 4 then 1 else if (5 : Int) = 5 then 365 else 0) (if (5 : Int) = 1 then 6 else if (5 : Int) = 2 then 29 else if (5 : Int) = 3 then 0 else if (5 : Int) = 4 then 19 else 366) = inB v 365 366 := rfl
    rw [hv]
    clear hv
    cases hk : kind0 ⟨5, m, d, v⟩
    · go_enter Tryz.func93, Tryz.ntmps93
      go_wp2_with fail
      refine (rKind_is _ _ _ _ _ _ hk).mono ?_
      rintro e w1 ⟨rfl, hb1⟩
      go_wp2_with fail
      go_ret
      exact ⟨rfl, fr_call g1 hb1⟩
    · go_enter Tryz.func93, Tryz.ntmps93
      go_wp2_with fail
      refine (rKind_is _ _ _ _ _ _ hk).mono ?_
      rintro e w1 ⟨rfl, hb1⟩
      go_wp2_with fail
      refine (rin_is _ _ _ _ _ rfl).mono ?_
      rintro e w2 ⟨rfl, rfl⟩
      go_wp2_with fail
      go_ret
      exact ⟨rfl, fr_call g1 hb1⟩
  have hk : kind0 ⟨k, m, d, v⟩ = false := by simp [kind0, kindB, h1, h2, h3, h4, h5]
  rw [hk, Bool.false_and]
  go_enter Tryz.func93, Tryz.ntmps93
  go_wp2_with fail
  refine (rKind_is _ _ _ _ _ _ hk).mono ?_
  rintro e w1 ⟨rfl, hb1⟩
  go_wp2_with fail
  go_ret
  exact ⟨rfl, fr_call g1 hb1⟩
end Go.Proofs.YtnpgdifidejohaaGreatDoor
end

section
namespace Go.Proofs.YtnpgdifidejohaaGreatDoor
open Go.RowKit Dl

set_option maxRecDepth 100000 in
set_option maxHeartbeats 2000000 in
theorem rFacts_is (A : Option Addr) (c : Nat) (l : List Fact) (w : World) (hr : RdS w A 4 (l.map Fact.row)) (hn : l.length ≤ 9223372036854775807) (b : Bool) (hb : factsB l = b) :
    Calls Tryz.prog 45 #[.slice A l.length c] w fun e' w' => e' = .returned (.bool b) ∧ Below w.heap.size w w' := by
  subst hb
  go_enter Tryz.func45, Tryz.ntmps45
  go_wp2
  generalize hlen : l.length = n at *
  have HL := Lib.hid hlen
  have HF := Lib.hid (show factsB l = (decide (l.length ≤ 6) && l.all (fun f => kindB f (val_areFacts f))) from rfl)
  clear hlen
  go_loopw [3] (fun i wr => ∃ k : Nat, k ≤ n ∧ i = .int .i64 k ∧ (l.take k).all (fun f => kindB f (val_areFacts f)) = true ∧ Below w.heap.size w wr) (fun i _ => n - (intOf i).toNat)
  case atStart => exact ⟨0, Nat.zero_le _, rfl, by simp, fr_refl _⟩
  case round =>
    obtain ⟨k, hk, rfl, hall, hbel⟩ := hrel
    by_cases hlt : k < n
    · have hkl : k < l.length := by have := HL.out; omega
      have hrow : (l.map Fact.row)[k]? = some (l[k].row) := by simp [hkl]
      obtain ⟨ad, rfl, hab, _, hc⟩ := (hr.keep hbel).at_ hrow
      have hq : ∀ j, ad.add (k * 4 + (j + 1)) = (ad.add (k * 4)).add (j + 1) := fun j => by
        unfold Addr.add; by_cases h0 : k * 4 = 0 <;> simp [h0, Nat.add_assoc]
      have hc0 : wr.cell? (ad.add (k * 4)) = some (.int .i64 l[k].k) := hc 0 _ rfl
      have hc1 : wr.cell? ⟨(ad.add (k * 4)).block, (ad.add (k * 4)).off + 1, none⟩ = _ := (congrArg wr.cell? (hq 0)).symm.trans (hc 1 _ rfl)
      have hc2 : wr.cell? ⟨(ad.add (k * 4)).block, (ad.add (k * 4)).off + 2, none⟩ = _ := (congrArg wr.cell? (hq 1)).symm.trans (hc 2 _ rfl)
      have hc3 : wr.cell? ⟨(ad.add (k * 4)).block, (ad.add (k * 4)).off + 3, none⟩ = _ := (congrArg wr.cell? (hq 2)).symm.trans (hc 3 _ rfl)
      clear hc hrow hr hq
      cases hf : kindB l[k] (val_areFacts l[k])
      · have hno := Lib.hid (show factsB l = false by rw [HF.out]; rw [show l.all (fun f => kindB f (val_areFacts f)) = false from all_no hkl hf]; simp)
        go_wp2_with fail
        refine (rFact_is _ _ _ _ _ false hf).mono ?_
        rintro e w1 ⟨rfl, hb1⟩
        go_wp2_with fail
        go_ret
        exact ⟨ret_bool (by rw [hno.out]), fr_call hbel hb1⟩
      · have hst := Lib.hid (all_step hkl hall hf)
        go_wp2_with fail
        refine (rFact_is _ _ _ _ _ true hf).mono ?_
        rintro e w1 ⟨rfl, hb1⟩
        go_wp2_with fail
        go_roundw
        case rel => exact ⟨k + 1, hlt, by go_num, hst.out, fr_call hbel hb1⟩
        case measure => simp [intOf]; omega
    · have hfin := Lib.hid (show factsB l = decide (n ≤ 6) by
        rw [HF.out, HL.out]
        rw [List.take_of_length_le (by have := HL.out; omega)] at hall
        rw [hall, Bool.and_true])
      go_wp2_with fail
      go_ret
      exact ⟨ret_bool (by rw [hfin.out]; simp; omega), hbel⟩
theorem ask_parts (f : Fact) : kindB f (val_areQuestions f) = (kind0 f && (f.v == 0)) := by
  unfold kind0 kindB val_areQuestions
  by_cases h1 : f.k = 1
  · simp [h1]
  by_cases h2 : f.k = 2
  · simp [h2]
  by_cases h3 : f.k = 3
  · simp [h3]
  by_cases h4 : f.k = 4
  · simp [h4]
  by_cases h5 : f.k = 5
  · simp [h5]
  simp [h1, h2, h3, h4, h5]

set_option maxRecDepth 100000 in
set_option maxHeartbeats 2000000 in
theorem rAsks_is (A : Option Addr) (c : Nat) (l : List Fact) (w : World) (hr : RdS w A 4 (l.map Fact.row)) (hn : l.length ≤ 9223372036854775807) (b : Bool) (hb : asksB l = b) :
    Calls Tryz.prog 48 #[.slice A l.length c] w fun e' w' => e' = .returned (.bool b) ∧ Below w.heap.size w w' := by
  subst hb
  go_enter Tryz.func48, Tryz.ntmps48
  go_wp2
  generalize hlen : l.length = n at *
  have HL := Lib.hid hlen
  have HF := Lib.hid (show asksB l = (inB (l.length : Int) 1 6 && l.all (fun f => kindB f (val_areQuestions f))) from rfl)
  clear hlen
  go_loopw [3] (fun i wr => ∃ k : Nat, k ≤ n ∧ i = .int .i64 k ∧ (l.take k).all (fun f => kindB f (val_areQuestions f)) = true ∧ Below w.heap.size w wr) (fun i _ => n - (intOf i).toNat)
  case atStart => exact ⟨0, Nat.zero_le _, rfl, by simp, fr_refl _⟩
  case round =>
    obtain ⟨k, hk, rfl, hall, hbel⟩ := hrel
    by_cases hlt : k < n
    · have hkl : k < l.length := by have := HL.out; omega
      have hrow : (l.map Fact.row)[k]? = some (l[k].row) := by simp [hkl]
      obtain ⟨ad, rfl, hab, _, hc⟩ := (hr.keep hbel).at_ hrow
      have hq : ∀ j, ad.add (k * 4 + (j + 1)) = (ad.add (k * 4)).add (j + 1) := fun j => by
        unfold Addr.add; by_cases h0 : k * 4 = 0 <;> simp [h0, Nat.add_assoc]
      have hc0 : wr.cell? (ad.add (k * 4)) = some (.int .i64 l[k].k) := hc 0 _ rfl
      have hc1 : wr.cell? ⟨(ad.add (k * 4)).block, (ad.add (k * 4)).off + 1, none⟩ = _ := (congrArg wr.cell? (hq 0)).symm.trans (hc 1 _ rfl)
      have hc2 : wr.cell? ⟨(ad.add (k * 4)).block, (ad.add (k * 4)).off + 2, none⟩ = _ := (congrArg wr.cell? (hq 1)).symm.trans (hc 2 _ rfl)
      have hc3 : wr.cell? ⟨(ad.add (k * 4)).block, (ad.add (k * 4)).off + 3, none⟩ = _ := (congrArg wr.cell? (hq 2)).symm.trans (hc 3 _ rfl)
      clear hc hrow hr hq
      cases hk0 : kind0 l[k]
      · have hf : kindB l[k] (val_areQuestions l[k]) = false := by rw [ask_parts, hk0]; rfl
        have hno := Lib.hid (show asksB l = false by rw [HF.out]; rw [show l.all (fun f => kindB f (val_areQuestions f)) = false from all_no hkl hf]; simp)
        go_wp2_with fail
        refine (rKind_is _ _ _ _ _ false hk0).mono ?_
        rintro e w1 ⟨rfl, hb1⟩
        go_wp2_with fail
        go_ret
        exact ⟨ret_bool (by rw [hno.out]), fr_call hbel hb1⟩
      · have hf : kindB l[k] (val_areQuestions l[k]) = (l[k].v == 0) := by rw [ask_parts, hk0]; rfl
        have hc3b : ∀ w1 : World, Below wr.heap.size wr w1 → w1.cell? ⟨(ad.add (k * 4)).block, (ad.add (k * 4)).off + 3, none⟩ = some (.int .i64 l[k].v) := fun w1 hb1 => (hb1.cell (p := ⟨(ad.add (k * 4)).block, (ad.add (k * 4)).off + 3, none⟩) (by show (ad.add (k * 4)).block < _; rw [block_of_add]; exact hab)).trans hc3
        cases hv : (l[k].v == 0)
        · have hno := Lib.hid (show asksB l = false by rw [HF.out]; rw [show l.all (fun f => kindB f (val_areQuestions f)) = false from all_no hkl (hf.trans hv)]; simp)
          have hvd : decide (l[k].v = 0) = false := by simpa using hv
          go_wp2_with fail
          refine (rKind_is _ _ _ _ _ true hk0).mono ?_
          rintro e w1 ⟨rfl, hb1⟩
          have hc4 := hc3b w1 hb1
          clear hc3b
          go_wp2_with fail
          go_ret
          exact ⟨ret_bool (by rw [hno.out]), fr_call hbel hb1⟩
        · have hst := Lib.hid (all_step hkl hall (hf.trans hv))
          have hvd : decide (l[k].v = 0) = true := by simpa using hv
          go_wp2_with fail
          refine (rKind_is _ _ _ _ _ true hk0).mono ?_
          rintro e w1 ⟨rfl, hb1⟩
          have hc4 := hc3b w1 hb1
          clear hc3b
          go_wp2_with fail
          go_roundw
          case rel => exact ⟨k + 1, hlt, by go_num, hst.out, fr_call hbel hb1⟩
          case measure => simp [intOf]; omega
    · have hfin := Lib.hid (show asksB l = inB (n : Int) 1 6 by
        rw [HF.out, HL.out]
        rw [List.take_of_length_le (by have := HL.out; omega)] at hall
        rw [hall, Bool.and_true])
      go_wp2_with fail
      refine (rin_is _ _ _ _ _ rfl).mono ?_
      rintro e w1 ⟨rfl, rfl⟩
      go_wp2_with fail
      go_ret
      exact ⟨ret_bool (by rw [hfin.out]), hbel⟩
end Go.Proofs.YtnpgdifidejohaaGreatDoor
end

section
namespace Go.Proofs.YtnpgdifidejohaaGreatDoor
open Go.RowKit Dl
theorem beq_eq_decide' (a b : Int) : (a == b) = decide (a = b) := rfl

set_option maxRecDepth 100000 in
set_option maxHeartbeats 4000000 in
theorem rAnswer4 (A : Option Addr) (n c : Nat) (cs : List Int) (e num den add y m d v : Int) (w : World) (hr : Rd w A n cs) (hok : calOk e cs = true) (hm : MoonOk num den add) (hy1 : 0 ≤ y) (hy2 : y ≤ 4000) :
    Calls Tryz.prog 119 #[.agg #[.int .i64 e, .slice A n c], .agg #[.int .i64 num, .int .i64 den, .int .i64 add], .agg #[.int .i64 4, .int .i64 m, .int .i64 d, .int .i64 v], .int .i64 y] w fun e' w' => e' = .returned (.int .i64 (y % 19 + 1)) ∧ Below w.heap.size w w' := by
  have _used : True := (fun _ _ _ _ _ => trivial) hr hok hm hy1 hy2
  obtain ⟨he, ⟨hn1, hn2⟩, hpos⟩ := calOk_parts hok
  rw [hr.len] at hn1 hn2
  have g1 := fr_alloc (fr_alloc (fr_alloc (fr_alloc (fr_refl w) (.cells #[.int .i64 e, .slice A n c] 24)) (.cells #[.int .i64 num, .int .i64 den, .int .i64 add] 65)) (.cells #[.int .i64 4, .int .i64 m, .int .i64 d, .int .i64 v] 77)) (.cells #[.int .i64 y, .int .i64 m, .int .i64 d] 38)
  go_enter Tryz.func119, Tryz.ntmps119
  go_wp2
  go_ret
  exact ⟨rfl, g1⟩

set_option maxRecDepth 100000 in
set_option maxHeartbeats 4000000 in
theorem rAnswer5 (A : Option Addr) (n c : Nat) (cs : List Int) (e num den add y m d v : Int) (w : World) (hr : Rd w A n cs) (hok : calOk e cs = true) (hm : MoonOk num den add) (hy1 : 0 ≤ y) (hy2 : y ≤ 4000) :
    Calls Tryz.prog 119 #[.agg #[.int .i64 e, .slice A n c], .agg #[.int .i64 num, .int .i64 den, .int .i64 add], .agg #[.int .i64 5, .int .i64 m, .int .i64 d, .int .i64 v], .int .i64 y] w fun e' w' => e' = .returned (.int .i64 (yearLen cs y)) ∧ Below w.heap.size w w' := by
  have _used : True := (fun _ _ _ _ _ => trivial) hr hok hm hy1 hy2
  obtain ⟨he, ⟨hn1, hn2⟩, hpos⟩ := calOk_parts hok
  rw [hr.len] at hn1 hn2
  have g1 := fr_alloc (fr_alloc (fr_alloc (fr_alloc (fr_refl w) (.cells #[.int .i64 e, .slice A n c] 24)) (.cells #[.int .i64 num, .int .i64 den, .int .i64 add] 65)) (.cells #[.int .i64 5, .int .i64 m, .int .i64 d, .int .i64 v] 77)) (.cells #[.int .i64 y, .int .i64 m, .int .i64 d] 38)
  go_enter Tryz.func119, Tryz.ntmps119
  go_wp2_with fail
  refine (rLong_any A n c cs e y _ (hr.keep g1) hn2 hpos hy1 (by omega)).mono ?_
  rintro e' w1 ⟨rfl, hb1⟩
  go_wp2_with fail
  go_ret
  exact ⟨rfl, fr_call g1 hb1⟩

set_option maxRecDepth 100000 in
set_option maxHeartbeats 4000000 in
theorem rAnswer3 (A : Option Addr) (n c : Nat) (cs : List Int) (e num den add y m d v : Int) (w : World) (hr : Rd w A n cs) (hok : calOk e cs = true) (hm : MoonOk num den add) (hy1 : 0 ≤ y) (hy2 : y ≤ 4000) :
    Calls Tryz.prog 119 #[.agg #[.int .i64 e, .slice A n c], .agg #[.int .i64 num, .int .i64 den, .int .i64 add], .agg #[.int .i64 3, .int .i64 m, .int .i64 d, .int .i64 v], .int .i64 y] w fun e' w' => e' = .returned (.int .i64 (ans3 e cs num den add y m d)) ∧ Below w.heap.size w w' := by
  obtain ⟨he, ⟨hn1, hn2⟩, hpos⟩ := calOk_parts hok
  rw [hr.len] at hn1 hn2
  have g1 := fr_alloc (fr_alloc (fr_alloc (fr_alloc (fr_refl w) (.cells #[.int .i64 e, .slice A n c] 24)) (.cells #[.int .i64 num, .int .i64 den, .int .i64 add] 65)) (.cells #[.int .i64 3, .int .i64 m, .int .i64 d, .int .i64 v] 77)) (.cells #[.int .i64 y, .int .i64 m, .int .i64 d] 38)
  have hr0 := hr.keep g1
  cases hq : realB cs y m d
  · have hv : ans3 e cs num den add y m d = 0 := by unfold ans3; rw [hq]; rfl
    rw [hv]
    go_enter Tryz.func119, Tryz.ntmps119
    go_wp2_with fail
    refine wp_region_noPanic ?_
    refine wp_region_held_drew (S := fun W => (∀ p : Addr, p.block < (((((w.alloc (.cells #[.int .i64 e, .slice A n c] 24)).alloc (.cells #[.int .i64 num, .int .i64 den, .int .i64 add] 65)).alloc (.cells #[.int .i64 3, .int .i64 m, .int .i64 d, .int .i64 v] 77)).alloc (.cells #[.int .i64 y, .int .i64 m, .int .i64 d] 38))).heap.size → W.cell? p = (((((w.alloc (.cells #[.int .i64 e, .slice A n c] 24)).alloc (.cells #[.int .i64 num, .int .i64 den, .int .i64 add] 65)).alloc (.cells #[.int .i64 3, .int .i64 m, .int .i64 d, .int .i64 v] 77)).alloc (.cells #[.int .i64 y, .int .i64 m, .int .i64 d] 38))).cell? p) ∧ Below (((((w.alloc (.cells #[.int .i64 e, .slice A n c] 24)).alloc (.cells #[.int .i64 num, .int .i64 den, .int .i64 add] 65)).alloc (.cells #[.int .i64 3, .int .i64 m, .int .i64 d, .int .i64 v] 77)).alloc (.cells #[.int .i64 y, .int .i64 m, .int .i64 d] 38))).heap.size (((((w.alloc (.cells #[.int .i64 e, .slice A n c] 24)).alloc (.cells #[.int .i64 num, .int .i64 den, .int .i64 add] 65)).alloc (.cells #[.int .i64 3, .int .i64 m, .int .i64 d, .int .i64 v] 77)).alloc (.cells #[.int .i64 y, .int .i64 m, .int .i64 d] 38))) W) (by kernel_rfl) ⟨fun _ _ => rfl, fr_drew (fr_refl _)⟩ (fun hHeld => ?_)
    -- the region, step by step
    refine wpAnyH_take (i := 0) (oi := ⟨some 30, .load 24 (.tmp 4), 24, "ref.go:418", #[], none⟩) (v := ?_) rfl (by kernel_rfl) (by kernel_rfl) (by kernel_rfl) (fun _ _ _ h => h) (Or.inl ⟨by rfl, fun W hSw => ?_⟩) hHeld ?_
    rotate_left
    · (try dsimp only at hSw); go_simp; (try with_reducible rfl)
    (try simp only [Act.put, List.setIfInBounds_toArray, List.set_cons_zero, List.set_cons_succ])
    refine wpAnyH_take (i := 1) (oi := ⟨some 31, .load 38 (.tmp 9), 38, "ref.go:418", #[], none⟩) (v := ?_) rfl (by kernel_rfl) (by kernel_rfl) (by kernel_rfl) (fun _ _ _ h => h) (Or.inl ⟨by rfl, fun W hSw => ?_⟩) hHeld ?_
    rotate_left
    · (try dsimp only at hSw); go_simp; (try with_reducible rfl)
    (try simp only [Act.put, List.setIfInBounds_toArray, List.set_cons_zero, List.set_cons_succ])
    refine wpAnyH_ready (rs := [2]) (by kernel_rfl) (by simp) ?_
    refine AllReadyH.cons (o := ⟨some 32, .call { callee := .value (.func 23), args := #[.tmp 30, .tmp 31], argTypes := #[24, 38] }, 4, "ref.go:418", #[⟨0, .data⟩, ⟨1, .data⟩], none⟩) rfl (fun K hK => ?_) AllReadyH.nil
    go_simp
    refine (rReal_is A n c cs e y m d _ (hr0.keep hHeld.2) hok _ hq).mono ?_
    rintro e' wA ⟨rfl, hb⟩
    refine hK.out _ _ (kp_step hb hHeld) (fun hHeld => ?_)
    clear hK K
    (try simp only [Act.put, List.setIfInBounds_toArray, List.set_cons_zero, List.set_cons_succ])
    refine wpAnyH_take (i := 3) (oi := ⟨some 33, .move (.tmp 32), 4, "ref.go:418", #[⟨2, .data⟩, ⟨2, .chain⟩], none⟩) (v := ?_) rfl (by kernel_rfl) (by kernel_rfl) (by kernel_rfl) (fun _ _ _ h => h) (Or.inl ⟨by rfl, fun W hSw => ?_⟩) hHeld ?_
    rotate_left
    · (try dsimp only at hSw); go_simp; (try with_reducible rfl)
    (try simp only [Act.put, List.setIfInBounds_toArray, List.set_cons_zero, List.set_cons_succ])
    refine wpAnyH_take (i := 4) (oi := ⟨some 34, .load 24 (.tmp 4), 24, "ref.go:418", #[⟨3, .guard⟩], some (3, true)⟩) (v := undef) rfl (by kernel_rfl) (by kernel_rfl) (by kernel_rfl) (fun _ _ _ h => h) (Or.inr ⟨by rfl, rfl⟩) hHeld ?_
    (try simp only [Act.put, List.setIfInBounds_toArray, List.set_cons_zero, List.set_cons_succ])
    refine wpAnyH_take (i := 5) (oi := ⟨some 35, .load 38 (.tmp 9), 38, "ref.go:418", #[⟨3, .guard⟩], some (3, true)⟩) (v := undef) rfl (by kernel_rfl) (by kernel_rfl) (by kernel_rfl) (fun _ _ _ h => h) (Or.inr ⟨by rfl, rfl⟩) hHeld ?_
    (try simp only [Act.put, List.setIfInBounds_toArray, List.set_cons_zero, List.set_cons_succ])
    refine wpAnyH_take (i := 6) (oi := ⟨some 36, .call { callee := .value (.func 82), args := #[.tmp 34, .tmp 35], argTypes := #[24, 38] }, 3, "ref.go:418", #[⟨4, .data⟩, ⟨5, .data⟩, ⟨3, .chain⟩, ⟨3, .guard⟩], some (3, true)⟩) (v := undef) rfl (by kernel_rfl) (by kernel_rfl) (by kernel_rfl) (fun _ _ _ h => h) (Or.inr ⟨by rfl, rfl⟩) hHeld ?_
    (try simp only [Act.put, List.setIfInBounds_toArray, List.set_cons_zero, List.set_cons_succ])
    refine wpAnyH_take (i := 7) (oi := ⟨some 37, .load 24 (.tmp 4), 24, "ref.go:418", #[⟨3, .guard⟩], some (3, true)⟩) (v := undef) rfl (by kernel_rfl) (by kernel_rfl) (by kernel_rfl) (fun _ _ _ h => h) (Or.inr ⟨by rfl, rfl⟩) hHeld ?_
    (try simp only [Act.put, List.setIfInBounds_toArray, List.set_cons_zero, List.set_cons_succ])
    refine wpAnyH_take (i := 8) (oi := ⟨some 38, .load 65 (.tmp 5), 65, "ref.go:418", #[⟨3, .guard⟩], some (3, true)⟩) (v := undef) rfl (by kernel_rfl) (by kernel_rfl) (by kernel_rfl) (fun _ _ _ h => h) (Or.inr ⟨by rfl, rfl⟩) hHeld ?_
    (try simp only [Act.put, List.setIfInBounds_toArray, List.set_cons_zero, List.set_cons_succ])
    refine wpAnyH_take (i := 9) (oi := ⟨some 39, .move (.tmp 3), 3, "ref.go:418", #[⟨3, .guard⟩], some (3, true)⟩) (v := undef) rfl (by kernel_rfl) (by kernel_rfl) (by kernel_rfl) (fun _ _ _ h => h) (Or.inr ⟨by rfl, rfl⟩) hHeld ?_
    (try simp only [Act.put, List.setIfInBounds_toArray, List.set_cons_zero, List.set_cons_succ])
    refine wpAnyH_take (i := 10) (oi := ⟨some 40, .call { callee := .value (.func 135), args := #[.tmp 37, .tmp 38, .tmp 39], argTypes := #[24, 65, 3] }, 3, "ref.go:418", #[⟨7, .data⟩, ⟨8, .data⟩, ⟨9, .data⟩, ⟨6, .chain⟩, ⟨3, .guard⟩], some (3, true)⟩) (v := undef) rfl (by kernel_rfl) (by kernel_rfl) (by kernel_rfl) (fun _ _ _ h => h) (Or.inr ⟨by rfl, rfl⟩) hHeld ?_
    (try simp only [Act.put, List.setIfInBounds_toArray, List.set_cons_zero, List.set_cons_succ])
    refine wpAnyH_take (i := 11) (oi := ⟨some 41, .binOp .eql 3 (.tmp 36) (.tmp 40) 3, 4, "ref.go:418", #[⟨6, .data⟩, ⟨10, .data⟩, ⟨3, .guard⟩], some (3, true)⟩) (v := undef) rfl (by kernel_rfl) (by kernel_rfl) (by kernel_rfl) (fun _ _ _ h => h) (Or.inr ⟨by rfl, rfl⟩) hHeld ?_
    (try simp only [Act.put, List.setIfInBounds_toArray, List.set_cons_zero, List.set_cons_succ])
    refine wpAnyH_take (i := 12) (oi := ⟨some 42, .pick (.tmp 33) (.tmp 41) (.const (.bool false)), 4, "ref.go:418", #[⟨3, .data⟩, ⟨11, .data⟩], none⟩) (v := ?_) rfl (by kernel_rfl) (by kernel_rfl) (by kernel_rfl) (fun _ _ _ h => h) (Or.inl ⟨by rfl, fun W hSw => ?_⟩) hHeld ?_
    rotate_left
    · (try dsimp only at hSw); go_simp; (try with_reducible rfl)
    (try simp only [Act.put, List.setIfInBounds_toArray, List.set_cons_zero, List.set_cons_succ])
    refine wpAnyH_done (by kernel_rfl) ?_ _
    refine NoPanic.normal ?_
    go_wp2
    go_ret
    exact ⟨rfl, fr_call g1 hHeld.2⟩
  · obtain ⟨hy, hmm, hd⟩ := real_range hq
    have hcase : (dayOf e cs ⟨y, m, d⟩ == easterDay e cs num den add y) = true ∨ (dayOf e cs ⟨y, m, d⟩ == easterDay e cs num den add y) = false := by cases (dayOf e cs ⟨y, m, d⟩ == easterDay e cs num den add y) <;> simp
    obtain ⟨dq, gd⟩ : ∃ q, dayOf e cs ⟨y, m, d⟩ = q := ⟨_, rfl⟩
    obtain ⟨eq, ge⟩ : ∃ q, easterDay e cs num den add y = q := ⟨_, rfl⟩
    rw [gd, ge] at hcase
    rcases hcase with hc | hc
    all_goals
      have hv : ans3 e cs num den add y m d = if (dq == eq) = true then 1 else 0 := by unfold ans3; rw [hq, gd, ge]; simp
      rw [hc] at hv
      simp only [if_true, Bool.false_eq_true, if_false] at hv
      rw [hv]
      have GD := Lib.hid gd
      have GE := Lib.hid ge
      have hcd : decide (dq = eq) = (dq == eq) := (beq_eq_decide' dq eq).symm
      rw [hc] at hcd
    · clear hv gd ge
      go_enter Tryz.func119, Tryz.ntmps119
      go_wp2_with fail
      refine wp_region_noPanic ?_
      refine wp_region_held_drew (S := fun W => (∀ p : Addr, p.block < (((((w.alloc (.cells #[.int .i64 e, .slice A n c] 24)).alloc (.cells #[.int .i64 num, .int .i64 den, .int .i64 add] 65)).alloc (.cells #[.int .i64 3, .int .i64 m, .int .i64 d, .int .i64 v] 77)).alloc (.cells #[.int .i64 y, .int .i64 m, .int .i64 d] 38))).heap.size → W.cell? p = (((((w.alloc (.cells #[.int .i64 e, .slice A n c] 24)).alloc (.cells #[.int .i64 num, .int .i64 den, .int .i64 add] 65)).alloc (.cells #[.int .i64 3, .int .i64 m, .int .i64 d, .int .i64 v] 77)).alloc (.cells #[.int .i64 y, .int .i64 m, .int .i64 d] 38))).cell? p) ∧ Below (((((w.alloc (.cells #[.int .i64 e, .slice A n c] 24)).alloc (.cells #[.int .i64 num, .int .i64 den, .int .i64 add] 65)).alloc (.cells #[.int .i64 3, .int .i64 m, .int .i64 d, .int .i64 v] 77)).alloc (.cells #[.int .i64 y, .int .i64 m, .int .i64 d] 38))).heap.size (((((w.alloc (.cells #[.int .i64 e, .slice A n c] 24)).alloc (.cells #[.int .i64 num, .int .i64 den, .int .i64 add] 65)).alloc (.cells #[.int .i64 3, .int .i64 m, .int .i64 d, .int .i64 v] 77)).alloc (.cells #[.int .i64 y, .int .i64 m, .int .i64 d] 38))) W) (by kernel_rfl) ⟨fun _ _ => rfl, fr_drew (fr_refl _)⟩ (fun hHeld => ?_)
      -- the region, step by step
      refine wpAnyH_take (i := 0) (oi := ⟨some 30, .load 24 (.tmp 4), 24, "ref.go:418", #[], none⟩) (v := ?_) rfl (by kernel_rfl) (by kernel_rfl) (by kernel_rfl) (fun _ _ _ h => h) (Or.inl ⟨by rfl, fun W hSw => ?_⟩) hHeld ?_
      rotate_left
      · (try dsimp only at hSw); go_simp; (try with_reducible rfl)
      (try simp only [Act.put, List.setIfInBounds_toArray, List.set_cons_zero, List.set_cons_succ])
      refine wpAnyH_take (i := 1) (oi := ⟨some 31, .load 38 (.tmp 9), 38, "ref.go:418", #[], none⟩) (v := ?_) rfl (by kernel_rfl) (by kernel_rfl) (by kernel_rfl) (fun _ _ _ h => h) (Or.inl ⟨by rfl, fun W hSw => ?_⟩) hHeld ?_
      rotate_left
      · (try dsimp only at hSw); go_simp; (try with_reducible rfl)
      (try simp only [Act.put, List.setIfInBounds_toArray, List.set_cons_zero, List.set_cons_succ])
      refine wpAnyH_ready (rs := [2]) (by kernel_rfl) (by simp) ?_
      refine AllReadyH.cons (o := ⟨some 32, .call { callee := .value (.func 23), args := #[.tmp 30, .tmp 31], argTypes := #[24, 38] }, 4, "ref.go:418", #[⟨0, .data⟩, ⟨1, .data⟩], none⟩) rfl (fun K hK => ?_) AllReadyH.nil
      go_simp
      refine (rReal_is A n c cs e y m d _ (hr0.keep hHeld.2) hok _ hq).mono ?_
      rintro e' wA ⟨rfl, hb⟩
      refine hK.out _ _ (kp_step hb hHeld) (fun hHeld => ?_)
      clear hK K
      (try simp only [Act.put, List.setIfInBounds_toArray, List.set_cons_zero, List.set_cons_succ])
      refine wpAnyH_take (i := 3) (oi := ⟨some 33, .move (.tmp 32), 4, "ref.go:418", #[⟨2, .data⟩, ⟨2, .chain⟩], none⟩) (v := ?_) rfl (by kernel_rfl) (by kernel_rfl) (by kernel_rfl) (fun _ _ _ h => h) (Or.inl ⟨by rfl, fun W hSw => ?_⟩) hHeld ?_
      rotate_left
      · (try dsimp only at hSw); go_simp; (try with_reducible rfl)
      (try simp only [Act.put, List.setIfInBounds_toArray, List.set_cons_zero, List.set_cons_succ])
      refine wpAnyH_take (i := 4) (oi := ⟨some 34, .load 24 (.tmp 4), 24, "ref.go:418", #[⟨3, .guard⟩], some (3, true)⟩) (v := ?_) rfl (by kernel_rfl) (by kernel_rfl) (by kernel_rfl) (fun _ _ _ h => h) (Or.inl ⟨by rfl, fun W hSw => ?_⟩) hHeld ?_
      rotate_left
      · (try dsimp only at hSw); go_simp; (try with_reducible rfl)
      (try simp only [Act.put, List.setIfInBounds_toArray, List.set_cons_zero, List.set_cons_succ])
      refine wpAnyH_take (i := 5) (oi := ⟨some 35, .load 38 (.tmp 9), 38, "ref.go:418", #[⟨3, .guard⟩], some (3, true)⟩) (v := ?_) rfl (by kernel_rfl) (by kernel_rfl) (by kernel_rfl) (fun _ _ _ h => h) (Or.inl ⟨by rfl, fun W hSw => ?_⟩) hHeld ?_
      rotate_left
      · (try dsimp only at hSw); go_simp; (try with_reducible rfl)
      (try simp only [Act.put, List.setIfInBounds_toArray, List.set_cons_zero, List.set_cons_succ])
      refine wpAnyH_take (i := 7) (oi := ⟨some 37, .load 24 (.tmp 4), 24, "ref.go:418", #[⟨3, .guard⟩], some (3, true)⟩) (v := ?_) rfl (by kernel_rfl) (by kernel_rfl) (by kernel_rfl) (fun _ _ _ h => h) (Or.inl ⟨by rfl, fun W hSw => ?_⟩) hHeld ?_
      rotate_left
      · (try dsimp only at hSw); go_simp; (try with_reducible rfl)
      (try simp only [Act.put, List.setIfInBounds_toArray, List.set_cons_zero, List.set_cons_succ])
      refine wpAnyH_take (i := 8) (oi := ⟨some 38, .load 65 (.tmp 5), 65, "ref.go:418", #[⟨3, .guard⟩], some (3, true)⟩) (v := ?_) rfl (by kernel_rfl) (by kernel_rfl) (by kernel_rfl) (fun _ _ _ h => h) (Or.inl ⟨by rfl, fun W hSw => ?_⟩) hHeld ?_
      rotate_left
      · (try dsimp only at hSw); go_simp; (try with_reducible rfl)
      (try simp only [Act.put, List.setIfInBounds_toArray, List.set_cons_zero, List.set_cons_succ])
      refine wpAnyH_take (i := 9) (oi := ⟨some 39, .move (.tmp 3), 3, "ref.go:418", #[⟨3, .guard⟩], some (3, true)⟩) (v := ?_) rfl (by kernel_rfl) (by kernel_rfl) (by kernel_rfl) (fun _ _ _ h => h) (Or.inl ⟨by rfl, fun W hSw => ?_⟩) hHeld ?_
      rotate_left
      · (try dsimp only at hSw); go_simp; (try with_reducible rfl)
      (try simp only [Act.put, List.setIfInBounds_toArray, List.set_cons_zero, List.set_cons_succ])
      refine wpAnyH_ready (rs := [6]) (by kernel_rfl) (by simp) ?_
      refine AllReadyH.cons (o := ⟨some 36, .call { callee := .value (.func 82), args := #[.tmp 34, .tmp 35], argTypes := #[24, 38] }, 3, "ref.go:418", #[⟨4, .data⟩, ⟨5, .data⟩, ⟨3, .chain⟩, ⟨3, .guard⟩], some (3, true)⟩) rfl (fun K hK => ?_) AllReadyH.nil
      go_simp
      refine (rDay_any A n c cs e y m d _ (hr0.keep hHeld.2) hok hy1 hy2 hmm.1 hmm.2 hd.1 hd.2).mono ?_
      rw [GD.out]
      rintro e' wA ⟨rfl, hb⟩
      refine hK.out _ _ (kp_step hb hHeld) (fun hHeld => ?_)
      clear hK K
      (try simp only [Act.put, List.setIfInBounds_toArray, List.set_cons_zero, List.set_cons_succ])
      refine wpAnyH_ready (rs := [10]) (by kernel_rfl) (by simp) ?_
      refine AllReadyH.cons (o := ⟨some 40, .call { callee := .value (.func 135), args := #[.tmp 37, .tmp 38, .tmp 39], argTypes := #[24, 65, 3] }, 3, "ref.go:418", #[⟨7, .data⟩, ⟨8, .data⟩, ⟨9, .data⟩, ⟨6, .chain⟩, ⟨3, .guard⟩], some (3, true)⟩) rfl (fun K hK => ?_) AllReadyH.nil
      go_simp
      refine (rEasterDay_any A n c cs e num den add y _ (hr0.keep hHeld.2) hok hm hy1 hy2).mono ?_
      rw [GE.out]
      rintro e' wA ⟨rfl, hb⟩
      refine hK.out _ _ (kp_step hb hHeld) (fun hHeld => ?_)
      clear hK K
      (try simp only [Act.put, List.setIfInBounds_toArray, List.set_cons_zero, List.set_cons_succ])
      refine wpAnyH_take (i := 11) (oi := ⟨some 41, .binOp .eql 3 (.tmp 36) (.tmp 40) 3, 4, "ref.go:418", #[⟨6, .data⟩, ⟨10, .data⟩, ⟨3, .guard⟩], some (3, true)⟩) (v := ?_) rfl (by kernel_rfl) (by kernel_rfl) (by kernel_rfl) (fun _ _ _ h => h) (Or.inl ⟨by rfl, fun W hSw => ?_⟩) hHeld ?_
      rotate_left
      · (try dsimp only at hSw); go_simp; (try with_reducible rfl)
      (try simp only [Act.put, List.setIfInBounds_toArray, List.set_cons_zero, List.set_cons_succ])
      refine wpAnyH_take (i := 12) (oi := ⟨some 42, .pick (.tmp 33) (.tmp 41) (.const (.bool false)), 4, "ref.go:418", #[⟨3, .data⟩, ⟨11, .data⟩], none⟩) (v := ?_) rfl (by kernel_rfl) (by kernel_rfl) (by kernel_rfl) (fun _ _ _ h => h) (Or.inl ⟨by rfl, fun W hSw => ?_⟩) hHeld ?_
      rotate_left
      · (try dsimp only at hSw); go_simp; (try with_reducible rfl)
      (try simp only [Act.put, List.setIfInBounds_toArray, List.set_cons_zero, List.set_cons_succ])
      refine wpAnyH_done (by kernel_rfl) ?_ _
      refine NoPanic.normal ?_
      go_wp2
      go_ret
      exact ⟨rfl, fr_call g1 hHeld.2⟩
    · clear hv gd ge
      go_enter Tryz.func119, Tryz.ntmps119
      go_wp2_with fail
      refine wp_region_noPanic ?_
      refine wp_region_held_drew (S := fun W => (∀ p : Addr, p.block < (((((w.alloc (.cells #[.int .i64 e, .slice A n c] 24)).alloc (.cells #[.int .i64 num, .int .i64 den, .int .i64 add] 65)).alloc (.cells #[.int .i64 3, .int .i64 m, .int .i64 d, .int .i64 v] 77)).alloc (.cells #[.int .i64 y, .int .i64 m, .int .i64 d] 38))).heap.size → W.cell? p = (((((w.alloc (.cells #[.int .i64 e, .slice A n c] 24)).alloc (.cells #[.int .i64 num, .int .i64 den, .int .i64 add] 65)).alloc (.cells #[.int .i64 3, .int .i64 m, .int .i64 d, .int .i64 v] 77)).alloc (.cells #[.int .i64 y, .int .i64 m, .int .i64 d] 38))).cell? p) ∧ Below (((((w.alloc (.cells #[.int .i64 e, .slice A n c] 24)).alloc (.cells #[.int .i64 num, .int .i64 den, .int .i64 add] 65)).alloc (.cells #[.int .i64 3, .int .i64 m, .int .i64 d, .int .i64 v] 77)).alloc (.cells #[.int .i64 y, .int .i64 m, .int .i64 d] 38))).heap.size (((((w.alloc (.cells #[.int .i64 e, .slice A n c] 24)).alloc (.cells #[.int .i64 num, .int .i64 den, .int .i64 add] 65)).alloc (.cells #[.int .i64 3, .int .i64 m, .int .i64 d, .int .i64 v] 77)).alloc (.cells #[.int .i64 y, .int .i64 m, .int .i64 d] 38))) W) (by kernel_rfl) ⟨fun _ _ => rfl, fr_drew (fr_refl _)⟩ (fun hHeld => ?_)
      -- the region, step by step
      refine wpAnyH_take (i := 0) (oi := ⟨some 30, .load 24 (.tmp 4), 24, "ref.go:418", #[], none⟩) (v := ?_) rfl (by kernel_rfl) (by kernel_rfl) (by kernel_rfl) (fun _ _ _ h => h) (Or.inl ⟨by rfl, fun W hSw => ?_⟩) hHeld ?_
      rotate_left
      · (try dsimp only at hSw); go_simp; (try with_reducible rfl)
      (try simp only [Act.put, List.setIfInBounds_toArray, List.set_cons_zero, List.set_cons_succ])
      refine wpAnyH_take (i := 1) (oi := ⟨some 31, .load 38 (.tmp 9), 38, "ref.go:418", #[], none⟩) (v := ?_) rfl (by kernel_rfl) (by kernel_rfl) (by kernel_rfl) (fun _ _ _ h => h) (Or.inl ⟨by rfl, fun W hSw => ?_⟩) hHeld ?_
      rotate_left
      · (try dsimp only at hSw); go_simp; (try with_reducible rfl)
      (try simp only [Act.put, List.setIfInBounds_toArray, List.set_cons_zero, List.set_cons_succ])
      refine wpAnyH_ready (rs := [2]) (by kernel_rfl) (by simp) ?_
      refine AllReadyH.cons (o := ⟨some 32, .call { callee := .value (.func 23), args := #[.tmp 30, .tmp 31], argTypes := #[24, 38] }, 4, "ref.go:418", #[⟨0, .data⟩, ⟨1, .data⟩], none⟩) rfl (fun K hK => ?_) AllReadyH.nil
      go_simp
      refine (rReal_is A n c cs e y m d _ (hr0.keep hHeld.2) hok _ hq).mono ?_
      rintro e' wA ⟨rfl, hb⟩
      refine hK.out _ _ (kp_step hb hHeld) (fun hHeld => ?_)
      clear hK K
      (try simp only [Act.put, List.setIfInBounds_toArray, List.set_cons_zero, List.set_cons_succ])
      refine wpAnyH_take (i := 3) (oi := ⟨some 33, .move (.tmp 32), 4, "ref.go:418", #[⟨2, .data⟩, ⟨2, .chain⟩], none⟩) (v := ?_) rfl (by kernel_rfl) (by kernel_rfl) (by kernel_rfl) (fun _ _ _ h => h) (Or.inl ⟨by rfl, fun W hSw => ?_⟩) hHeld ?_
      rotate_left
      · (try dsimp only at hSw); go_simp; (try with_reducible rfl)
      (try simp only [Act.put, List.setIfInBounds_toArray, List.set_cons_zero, List.set_cons_succ])
      refine wpAnyH_take (i := 4) (oi := ⟨some 34, .load 24 (.tmp 4), 24, "ref.go:418", #[⟨3, .guard⟩], some (3, true)⟩) (v := ?_) rfl (by kernel_rfl) (by kernel_rfl) (by kernel_rfl) (fun _ _ _ h => h) (Or.inl ⟨by rfl, fun W hSw => ?_⟩) hHeld ?_
      rotate_left
      · (try dsimp only at hSw); go_simp; (try with_reducible rfl)
      (try simp only [Act.put, List.setIfInBounds_toArray, List.set_cons_zero, List.set_cons_succ])
      refine wpAnyH_take (i := 5) (oi := ⟨some 35, .load 38 (.tmp 9), 38, "ref.go:418", #[⟨3, .guard⟩], some (3, true)⟩) (v := ?_) rfl (by kernel_rfl) (by kernel_rfl) (by kernel_rfl) (fun _ _ _ h => h) (Or.inl ⟨by rfl, fun W hSw => ?_⟩) hHeld ?_
      rotate_left
      · (try dsimp only at hSw); go_simp; (try with_reducible rfl)
      (try simp only [Act.put, List.setIfInBounds_toArray, List.set_cons_zero, List.set_cons_succ])
      refine wpAnyH_take (i := 7) (oi := ⟨some 37, .load 24 (.tmp 4), 24, "ref.go:418", #[⟨3, .guard⟩], some (3, true)⟩) (v := ?_) rfl (by kernel_rfl) (by kernel_rfl) (by kernel_rfl) (fun _ _ _ h => h) (Or.inl ⟨by rfl, fun W hSw => ?_⟩) hHeld ?_
      rotate_left
      · (try dsimp only at hSw); go_simp; (try with_reducible rfl)
      (try simp only [Act.put, List.setIfInBounds_toArray, List.set_cons_zero, List.set_cons_succ])
      refine wpAnyH_take (i := 8) (oi := ⟨some 38, .load 65 (.tmp 5), 65, "ref.go:418", #[⟨3, .guard⟩], some (3, true)⟩) (v := ?_) rfl (by kernel_rfl) (by kernel_rfl) (by kernel_rfl) (fun _ _ _ h => h) (Or.inl ⟨by rfl, fun W hSw => ?_⟩) hHeld ?_
      rotate_left
      · (try dsimp only at hSw); go_simp; (try with_reducible rfl)
      (try simp only [Act.put, List.setIfInBounds_toArray, List.set_cons_zero, List.set_cons_succ])
      refine wpAnyH_take (i := 9) (oi := ⟨some 39, .move (.tmp 3), 3, "ref.go:418", #[⟨3, .guard⟩], some (3, true)⟩) (v := ?_) rfl (by kernel_rfl) (by kernel_rfl) (by kernel_rfl) (fun _ _ _ h => h) (Or.inl ⟨by rfl, fun W hSw => ?_⟩) hHeld ?_
      rotate_left
      · (try dsimp only at hSw); go_simp; (try with_reducible rfl)
      (try simp only [Act.put, List.setIfInBounds_toArray, List.set_cons_zero, List.set_cons_succ])
      refine wpAnyH_ready (rs := [6]) (by kernel_rfl) (by simp) ?_
      refine AllReadyH.cons (o := ⟨some 36, .call { callee := .value (.func 82), args := #[.tmp 34, .tmp 35], argTypes := #[24, 38] }, 3, "ref.go:418", #[⟨4, .data⟩, ⟨5, .data⟩, ⟨3, .chain⟩, ⟨3, .guard⟩], some (3, true)⟩) rfl (fun K hK => ?_) AllReadyH.nil
      go_simp
      refine (rDay_any A n c cs e y m d _ (hr0.keep hHeld.2) hok hy1 hy2 hmm.1 hmm.2 hd.1 hd.2).mono ?_
      rw [GD.out]
      rintro e' wA ⟨rfl, hb⟩
      refine hK.out _ _ (kp_step hb hHeld) (fun hHeld => ?_)
      clear hK K
      (try simp only [Act.put, List.setIfInBounds_toArray, List.set_cons_zero, List.set_cons_succ])
      refine wpAnyH_ready (rs := [10]) (by kernel_rfl) (by simp) ?_
      refine AllReadyH.cons (o := ⟨some 40, .call { callee := .value (.func 135), args := #[.tmp 37, .tmp 38, .tmp 39], argTypes := #[24, 65, 3] }, 3, "ref.go:418", #[⟨7, .data⟩, ⟨8, .data⟩, ⟨9, .data⟩, ⟨6, .chain⟩, ⟨3, .guard⟩], some (3, true)⟩) rfl (fun K hK => ?_) AllReadyH.nil
      go_simp
      refine (rEasterDay_any A n c cs e num den add y _ (hr0.keep hHeld.2) hok hm hy1 hy2).mono ?_
      rw [GE.out]
      rintro e' wA ⟨rfl, hb⟩
      refine hK.out _ _ (kp_step hb hHeld) (fun hHeld => ?_)
      clear hK K
      (try simp only [Act.put, List.setIfInBounds_toArray, List.set_cons_zero, List.set_cons_succ])
      refine wpAnyH_take (i := 11) (oi := ⟨some 41, .binOp .eql 3 (.tmp 36) (.tmp 40) 3, 4, "ref.go:418", #[⟨6, .data⟩, ⟨10, .data⟩, ⟨3, .guard⟩], some (3, true)⟩) (v := ?_) rfl (by kernel_rfl) (by kernel_rfl) (by kernel_rfl) (fun _ _ _ h => h) (Or.inl ⟨by rfl, fun W hSw => ?_⟩) hHeld ?_
      rotate_left
      · (try dsimp only at hSw); go_simp; (try with_reducible rfl)
      (try simp only [Act.put, List.setIfInBounds_toArray, List.set_cons_zero, List.set_cons_succ])
      refine wpAnyH_take (i := 12) (oi := ⟨some 42, .pick (.tmp 33) (.tmp 41) (.const (.bool false)), 4, "ref.go:418", #[⟨3, .data⟩, ⟨11, .data⟩], none⟩) (v := ?_) rfl (by kernel_rfl) (by kernel_rfl) (by kernel_rfl) (fun _ _ _ h => h) (Or.inl ⟨by rfl, fun W hSw => ?_⟩) hHeld ?_
      rotate_left
      · (try dsimp only at hSw); go_simp; (try with_reducible rfl)
      (try simp only [Act.put, List.setIfInBounds_toArray, List.set_cons_zero, List.set_cons_succ])
      refine wpAnyH_done (by kernel_rfl) ?_ _
      refine NoPanic.normal ?_
      go_wp2
      go_ret
      exact ⟨rfl, fr_call g1 hHeld.2⟩
end Go.Proofs.YtnpgdifidejohaaGreatDoor
end

section
namespace Go.Proofs.YtnpgdifidejohaaGreatDoor
open Go.RowKit Dl

set_option maxRecDepth 100000 in
set_option maxHeartbeats 4000000 in
theorem rAnswer1 (A : Option Addr) (n c : Nat) (cs : List Int) (e num den add y m d v : Int) (w : World) (hr : Rd w A n cs) (hok : calOk e cs = true) (hm : MoonOk num den add) (hy1 : 0 ≤ y) (hy2 : y ≤ 4000) :
    Calls Tryz.prog 119 #[.agg #[.int .i64 e, .slice A n c], .agg #[.int .i64 num, .int .i64 den, .int .i64 add], .agg #[.int .i64 1, .int .i64 m, .int .i64 d, .int .i64 v], .int .i64 y] w fun e' w' => e' = .returned (.int .i64 (ans1 e cs y m d)) ∧ Below w.heap.size w w' := by
  have _used : True := (fun _ _ _ _ _ => trivial) hr hok hm hy1 hy2
  obtain ⟨he, ⟨hn1, hn2⟩, hpos⟩ := calOk_parts hok
  rw [hr.len] at hn1 hn2
  have g1 := fr_alloc (fr_alloc (fr_alloc (fr_alloc (fr_refl w) (.cells #[.int .i64 e, .slice A n c] 24)) (.cells #[.int .i64 num, .int .i64 den, .int .i64 add] 65)) (.cells #[.int .i64 1, .int .i64 m, .int .i64 d, .int .i64 v] 77)) (.cells #[.int .i64 y, .int .i64 m, .int .i64 d] 38)
  have hr0 := hr.keep g1
  cases hq : realB cs y m d
  · have hv : ans1 e cs y m d = -1 := by unfold ans1; rw [hq]; rfl
    rw [hv]
    go_enter Tryz.func119, Tryz.ntmps119
    go_wp2_with fail
    refine (rReal_is A n c cs e y m d _ hr0 hok _ hq).mono ?_
    rintro e' w1 ⟨rfl, hb1⟩
    go_wp2_with fail
    go_ret
    exact ⟨rfl, fr_call g1 hb1⟩
  · obtain ⟨hy, hmm, hd⟩ := real_range hq
    have hdr := day_range he hq
    go_enter Tryz.func119, Tryz.ntmps119
    go_wp2_with fail
    refine (rReal_is A n c cs e y m d _ hr0 hok _ hq).mono ?_
    rintro e' w1 ⟨rfl, hb1⟩
    obtain ⟨hc_w1, hf_w1⟩ := bcell hb1
    have hz0_w1 : w.heap.size < w1.heap.size := Nat.lt_of_lt_of_le (by first | omega | (simp; done) | (simp; omega)) hb1.size
    have hz1_w1 : w.heap.size + 1 < w1.heap.size := Nat.lt_of_lt_of_le (by first | omega | (simp; done) | (simp; omega)) hb1.size
    have hz2_w1 : w.heap.size + 1 + 1 < w1.heap.size := Nat.lt_of_lt_of_le (by first | omega | (simp; done) | (simp; omega)) hb1.size
    have hz3_w1 : w.heap.size + 1 + 1 + 1 < w1.heap.size := Nat.lt_of_lt_of_le (by first | omega | (simp; done) | (simp; omega)) hb1.size
    go_wp2_with fail
    refine (rDay_any A n c cs e y m d _ (hr0.keep hb1) hok hy1 hy2 hmm.1 hmm.2 hd.1 hd.2).mono ?_
    rintro e' w2 ⟨rfl, hb2⟩
    go_wp2_with fail
    refine (rWeekday_any _ _ (by omega) (by omega)).mono ?_
    rintro e' w3 ⟨rfl, rfl⟩
    go_wp2_with fail
    go_ret
    exact ⟨ret_int (by unfold ans1; rw [hq]; rfl), fr_call (fr_call g1 hb1) hb2⟩

set_option maxRecDepth 100000 in
set_option maxHeartbeats 4000000 in
theorem rAnswer2 (A : Option Addr) (n c : Nat) (cs : List Int) (e num den add y m d v : Int) (w : World) (hr : Rd w A n cs) (hok : calOk e cs = true) (hm : MoonOk num den add) (hy1 : 0 ≤ y) (hy2 : y ≤ 4000) :
    Calls Tryz.prog 119 #[.agg #[.int .i64 e, .slice A n c], .agg #[.int .i64 num, .int .i64 den, .int .i64 add], .agg #[.int .i64 2, .int .i64 m, .int .i64 d, .int .i64 v], .int .i64 y] w fun e' w' => e' = .returned (.int .i64 (ans2 e cs num den add y m d)) ∧ Below w.heap.size w w' := by
  obtain ⟨he, ⟨hn1, hn2⟩, hpos⟩ := calOk_parts hok
  rw [hr.len] at hn1 hn2
  have g1 := fr_alloc (fr_alloc (fr_alloc (fr_alloc (fr_refl w) (.cells #[.int .i64 e, .slice A n c] 24)) (.cells #[.int .i64 num, .int .i64 den, .int .i64 add] 65)) (.cells #[.int .i64 2, .int .i64 m, .int .i64 d, .int .i64 v] 77)) (.cells #[.int .i64 y, .int .i64 m, .int .i64 d] 38)
  have hr0 := hr.keep g1
  cases hq : realB cs y m d
  · have hv : ans2 e cs num den add y m d = -1 := by unfold ans2; rw [hq]; rfl
    rw [hv]
    go_enter Tryz.func119, Tryz.ntmps119
    go_wp2_with fail
    refine (rReal_is A n c cs e y m d _ hr0 hok _ hq).mono ?_
    rintro e' w1 ⟨rfl, hb1⟩
    go_wp2_with fail
    go_ret
    exact ⟨rfl, fr_call g1 hb1⟩
  · obtain ⟨hy, hmm, hd⟩ := real_range hq
    have hdr := day_range he hq
    go_enter Tryz.func119, Tryz.ntmps119
    go_wp2_with fail
    refine (rReal_is A n c cs e y m d _ hr0 hok _ hq).mono ?_
    rintro e' w1 ⟨rfl, hb1⟩
    obtain ⟨hc_w1, hf_w1⟩ := bcell hb1
    have hz0_w1 : w.heap.size < w1.heap.size := Nat.lt_of_lt_of_le (by first | omega | (simp; done) | (simp; omega)) hb1.size
    have hz1_w1 : w.heap.size + 1 < w1.heap.size := Nat.lt_of_lt_of_le (by first | omega | (simp; done) | (simp; omega)) hb1.size
    have hz2_w1 : w.heap.size + 1 + 1 < w1.heap.size := Nat.lt_of_lt_of_le (by first | omega | (simp; done) | (simp; omega)) hb1.size
    have hz3_w1 : w.heap.size + 1 + 1 + 1 < w1.heap.size := Nat.lt_of_lt_of_le (by first | omega | (simp; done) | (simp; omega)) hb1.size
    go_wp2_with fail
    refine wp_region_noPanic ?_
    refine wp_region_held_drew (S := fun W => (∀ p : Addr, p.block < (w1).heap.size → W.cell? p = (w1).cell? p) ∧ Below (w1).heap.size (w1) W) (by kernel_rfl) ⟨fun _ _ => rfl, fr_drew (fr_refl _)⟩ (fun hHeld => ?_)
    -- the region, step by step
    refine wpAnyH_take (i := 0) (oi := ⟨some 50, .load 65 (.tmp 5), 65, "ref.go:427", #[], none⟩) (v := ?_) rfl (by kernel_rfl) (by kernel_rfl) (by kernel_rfl) (fun _ _ _ h => h) (Or.inl ⟨by rfl, fun W hSw => ?_⟩) hHeld ?_
    rotate_left
    · (try dsimp only at hSw); go_simp; (try with_reducible rfl)
    (try simp only [Act.put, List.setIfInBounds_toArray, List.set_cons_zero, List.set_cons_succ])
    refine wpAnyH_take (i := 1) (oi := ⟨some 51, .load 24 (.tmp 4), 24, "ref.go:427", #[], none⟩) (v := ?_) rfl (by kernel_rfl) (by kernel_rfl) (by kernel_rfl) (fun _ _ _ h => h) (Or.inl ⟨by rfl, fun W hSw => ?_⟩) hHeld ?_
    rotate_left
    · (try dsimp only at hSw); go_simp; (try with_reducible rfl)
    (try simp only [Act.put, List.setIfInBounds_toArray, List.set_cons_zero, List.set_cons_succ])
    refine wpAnyH_take (i := 2) (oi := ⟨some 52, .load 38 (.tmp 9), 38, "ref.go:427", #[], none⟩) (v := ?_) rfl (by kernel_rfl) (by kernel_rfl) (by kernel_rfl) (fun _ _ _ h => h) (Or.inl ⟨by rfl, fun W hSw => ?_⟩) hHeld ?_
    rotate_left
    · (try dsimp only at hSw); go_simp; (try with_reducible rfl)
    (try simp only [Act.put, List.setIfInBounds_toArray, List.set_cons_zero, List.set_cons_succ])
    refine wpAnyH_ready (rs := [3]) (by kernel_rfl) (by simp) ?_
    refine AllReadyH.cons (o := ⟨some 53, .call { callee := .value (.func 82), args := #[.tmp 51, .tmp 52], argTypes := #[24, 38] }, 3, "ref.go:427", #[⟨1, .data⟩, ⟨2, .data⟩], none⟩) rfl (fun K hK => ?_) AllReadyH.nil
    go_simp
    refine (rDay_any A n c cs e y m d _ ((hr0.keep hb1).keep hHeld.2) hok hy1 hy2 hmm.1 hmm.2 hd.1 hd.2).mono ?_
    rintro e' wA ⟨rfl, hb⟩
    refine hK.out _ _ (kp_step hb hHeld) (fun hHeld => ?_)
    clear hK K
    (try simp only [Act.put, List.setIfInBounds_toArray, List.set_cons_zero, List.set_cons_succ])
    refine wpAnyH_ready (rs := [4]) (by kernel_rfl) (by simp) ?_
    refine AllReadyH.cons (o := ⟨some 54, .call { callee := .value (.func 52), args := #[.tmp 50, .tmp 53], argTypes := #[65, 3] }, 3, "ref.go:427", #[⟨0, .data⟩, ⟨3, .data⟩, ⟨3, .chain⟩], none⟩) rfl (fun K hK => ?_) AllReadyH.nil
    go_simp
    refine (rAge_any num den add _ _ hm (by omega) (by omega)).mono ?_
    rintro e' wA ⟨rfl, hb⟩
    refine hK.out _ _ (kp_step hb hHeld) (fun hHeld => ?_)
    clear hK K
    (try simp only [Act.put, List.setIfInBounds_toArray, List.set_cons_zero, List.set_cons_succ])
    refine wpAnyH_take (i := 5) (oi := ⟨some 8, .assign (.tmp 54), 3, "ref.go:427", #[⟨4, .data⟩, ⟨4, .chain⟩, ⟨0, .phase⟩, ⟨1, .phase⟩, ⟨2, .phase⟩, ⟨3, .phase⟩, ⟨4, .phase⟩], none⟩) (v := ?_) rfl (by kernel_rfl) (by kernel_rfl) (by kernel_rfl) (fun _ _ _ h => h) (Or.inl ⟨by rfl, fun W hSw => ?_⟩) hHeld ?_
    rotate_left
    · (try dsimp only at hSw); go_simp; (try with_reducible rfl)
    (try simp only [Act.put, List.setIfInBounds_toArray, List.set_cons_zero, List.set_cons_succ])
    refine wpAnyH_done (by kernel_rfl) ?_ _
    refine NoPanic.normal ?_
    go_wp2
    go_ret
    exact ⟨ret_int (by unfold ans2; rw [hq]; rfl), fr_call (fr_call g1 hb1) hHeld.2⟩
end Go.Proofs.YtnpgdifidejohaaGreatDoor
end

section
namespace Go.Proofs.YtnpgdifidejohaaGreatDoor
open Go.RowKit Dl

theorem rAnswer_any (A : Option Addr) (n c : Nat) (cs : List Int) (e num den add y k m d v : Int) (w : World) (hr : Rd w A n cs) (hok : calOk e cs = true) (hm : MoonOk num den add) (hy1 : 0 ≤ y) (hy2 : y ≤ 4000) (hk : k = 1 ∨ k = 2 ∨ k = 3 ∨ k = 4 ∨ k = 5) :
    Calls Tryz.prog 119 #[.agg #[.int .i64 e, .slice A n c], .agg #[.int .i64 num, .int .i64 den, .int .i64 add], .agg #[.int .i64 k, .int .i64 m, .int .i64 d, .int .i64 v], .int .i64 y] w fun e' w' => e' = .returned (.int .i64 (ansOf e cs num den add y ⟨k, m, d, v⟩)) ∧ Below w.heap.size w w' := by
  rcases hk with rfl | rfl | rfl | rfl | rfl
  · rw [ansOf_1]; exact rAnswer1 A n c cs e num den add y m d v w hr hok hm hy1 hy2
  · rw [ansOf_2]; exact rAnswer2 A n c cs e num den add y m d v w hr hok hm hy1 hy2
  · rw [ansOf_3]; exact rAnswer3 A n c cs e num den add y m d v w hr hok hm hy1 hy2
  · rw [ansOf_4]; exact rAnswer4 A n c cs e num den add y m d v w hr hok hm hy1 hy2
  · rw [ansOf_5]; exact rAnswer5 A n c cs e num den add y m d v w hr hok hm hy1 hy2

set_option maxRecDepth 100000 in
set_option maxHeartbeats 2000000 in
theorem rSo_any (A : Option Addr) (n c : Nat) (cs : List Int) (e num den add y k m d v : Int) (w : World) (hr : Rd w A n cs) (hok : calOk e cs = true) (hm : MoonOk num den add) (hy1 : 0 ≤ y) (hy2 : y ≤ 4000) (hk : k = 1 ∨ k = 2 ∨ k = 3 ∨ k = 4 ∨ k = 5) :
    Calls Tryz.prog 94 #[.agg #[.int .i64 e, .slice A n c], .agg #[.int .i64 num, .int .i64 den, .int .i64 add], .agg #[.int .i64 k, .int .i64 m, .int .i64 d, .int .i64 v], .int .i64 y] w fun e' w' => e' = .returned (.bool (soB e cs num den add y ⟨k, m, d, v⟩)) ∧ Below w.heap.size w w' := by
  have g1 := fr_alloc (fr_alloc (fr_alloc (fr_refl w) (.cells #[.int .i64 e, .slice A n c] 24)) (.cells #[.int .i64 num, .int .i64 den, .int .i64 add] 65)) (.cells #[.int .i64 k, .int .i64 m, .int .i64 d, .int .i64 v] 77)
  obtain ⟨an, ga⟩ : ∃ q, ansOf e cs num den add y ⟨k, m, d, v⟩ = q := ⟨_, rfl⟩
  have GA := Lib.hid ga
  clear ga
  have HK := Lib.hid hk
  clear hk
  by_cases h3 : k = 3
  · have hs : soB e cs num den add y ⟨k, m, d, v⟩ = (an == 1) := by unfold soB; rw [GA.out]; simp [h3]
    rw [hs]
    clear hs
    subst h3
    go_enter Tryz.func94, Tryz.ntmps94
    go_wp2_with fail
    refine (rAnswer_any A n c cs e num den add y 3 m d v _ (hr.keep g1) hok hm hy1 hy2 (by omega)).mono ?_
    rw [GA.out]
    rintro e' w1 ⟨rfl, hb1⟩
    obtain ⟨hc_w1, hf_w1⟩ := bcell hb1
    have hz0_w1 : w.heap.size < w1.heap.size := Nat.lt_of_lt_of_le (by first | omega | (simp; done) | (simp; omega)) hb1.size
    have hz1_w1 : w.heap.size + 1 < w1.heap.size := Nat.lt_of_lt_of_le (by first | omega | (simp; done) | (simp; omega)) hb1.size
    have hz2_w1 : w.heap.size + 1 + 1 < w1.heap.size := Nat.lt_of_lt_of_le (by first | omega | (simp; done) | (simp; omega)) hb1.size
    go_wp2_with fail
    go_ret
    exact ⟨rfl, fr_call g1 hb1⟩
  · have hs : soB e cs num den add y ⟨k, m, d, v⟩ = (an == v) := by unfold soB; rw [GA.out]; simp [h3]
    rw [hs]
    clear hs
    go_enter Tryz.func94, Tryz.ntmps94
    go_wp2_with fail
    refine (rAnswer_any A n c cs e num den add y k m d v _ (hr.keep g1) hok hm hy1 hy2 HK.out).mono ?_
    rw [GA.out]
    rintro e' w1 ⟨rfl, hb1⟩
    obtain ⟨hc_w1, hf_w1⟩ := bcell hb1
    have hz0_w1 : w.heap.size < w1.heap.size := Nat.lt_of_lt_of_le (by first | omega | (simp; done) | (simp; omega)) hb1.size
    have hz1_w1 : w.heap.size + 1 < w1.heap.size := Nat.lt_of_lt_of_le (by first | omega | (simp; done) | (simp; omega)) hb1.size
    have hz2_w1 : w.heap.size + 1 + 1 < w1.heap.size := Nat.lt_of_lt_of_le (by first | omega | (simp; done) | (simp; omega)) hb1.size
    go_wp2_with fail
    go_ret
    exact ⟨rfl, fr_call g1 hb1⟩
end Go.Proofs.YtnpgdifidejohaaGreatDoor
end

section
namespace Go.Proofs.YtnpgdifidejohaaGreatDoor
open Go.RowKit Dl

theorem all_take_false {α : Type} {p : α → Bool} {l : List α} {j : Nat} (h : (l.take j).all p = false) : l.all p = false := by
  cases hq : l.all p
  · rfl
  · rw [List.all_eq_true] at hq
    have : (l.take j).all p = true := List.all_eq_true.2 fun x hx => hq x (List.mem_of_mem_take hx)
    rw [this] at h
    exact h

set_option maxRecDepth 100000 in
set_option maxHeartbeats 8000000 in
theorem rYears_any (A L : Option Addr) (n c lc : Nat) (cs : List Int) (e num den add y z : Int) (l : List Fact) (w : World) (hr : Rd w A n cs) (hL : RdS w L 4 (l.map Fact.row)) (hln : l.length ≤ 9223372036854775807) (hok : calOk e cs = true) (hmb : moonB num den add = true) (hl : factsB l = true) (hyb : rangeB y z = true) :
    Calls Tryz.prog 46 #[.agg #[.int .i64 e, .slice A n c], .agg #[.int .i64 num, .int .i64 den, .int .i64 add], .slice L l.length lc, .int .i64 y, .int .i64 z] w fun e' w' =>
      ∃ B b, e' = .returned (.slice B (yearsOf e cs num den add l y (z - y + 1).toNat).length b) ∧ Rd w' B (yearsOf e cs num den add l y (z - y + 1).toNat).length (yearsOf e cs num den add l y (z - y + 1).toNat) ∧ Below w.heap.size w w' := by
  have hm := moonB_ok hmb
  have hkinds := facts_kinds hl
  obtain ⟨⟨hy1, hy2⟩, ⟨hz1, hz2⟩, hyz1, hyz2⟩ := range_parts hyb
  have g1 := fr_alloc (fr_alloc (fr_refl w) (.cells #[.int .i64 e, .slice A n c] 24)) (.cells #[.int .i64 num, .int .i64 den, .int .i64 add] 65)
  have hC0 : Blk ((w.alloc (.cells #[.int .i64 e, .slice A n c] 24)).alloc (.cells #[.int .i64 num, .int .i64 den, .int .i64 add] 65)) w.heap.size 24 #[.int .i64 e, .slice A n c] := (Blk.new_at _ _ (by simp)).alloc _
  have hM0 : Blk ((w.alloc (.cells #[.int .i64 e, .slice A n c] 24)).alloc (.cells #[.int .i64 num, .int .i64 den, .int .i64 add] 65)) (w.heap.size + 1) 65 #[.int .i64 num, .int .i64 den, .int .i64 add] := Blk.new_at _ _ (by simp)
  obtain ⟨nY, hnY⟩ : ∃ nY : Nat, (z - y + 1).toNat = nY := ⟨_, rfl⟩
  have HN := Lib.hid hnY
  have hYz : y + nY = z + 1 := by omega
  clear hnY
  go_enter Tryz.func46, Tryz.ntmps46
  go_wp2_with fail
  generalize hlen : l.length = nl at *
  have HL := Lib.hid hlen
  clear hlen
  go_loopw [11, 12] (fun v i wx => ∃ k : Nat, k ≤ nY ∧ i = .int .i64 (y + k) ∧ Own wx w.heap.size v (yearsOf e cs num den add l y k) ∧ Blk wx w.heap.size 24 #[.int .i64 e, .slice A n c] ∧ Blk wx (w.heap.size + 1) 65 #[.int .i64 num, .int .i64 den, .int .i64 add] ∧ Below w.heap.size w wx) (fun _ i _ => (z + 1 - intOf i).toNat)
  case atStart => exact ⟨0, Nat.zero_le _, by simp, Own.nil _ _, hC0, hM0, g1⟩
  case round =>
    clear hC0 hM0 g1
    obtain ⟨k, hk, rfl, hown, hC, hMo, hbel⟩ := hrel
    obtain ⟨B0, b0, rfl⟩ := hown.form
    by_cases hlt : k < nY
    · have hkz : y + (k : Int) ≤ z := by omega
      have hwk : IntKind.i64.wrap (y + (k : Int) + 1) = y + (k : Int) + 1 := IntWalk.i64_in _ (by omega)
      have hlen := yearsOf_len e num den add y cs l k
      go_wp2_with fail
      obtain ⟨wo, rfl⟩ : ∃ wo : World, wo = wr := ⟨_, rfl⟩
      go_loopw [13, 14] (fun s i wx => ∃ (j : Nat) (b : Bool), j ≤ nl ∧ i = .int .i64 j ∧ s = .bool b ∧ (l.take j).all (soB e cs num den add (y + k)) = b ∧ Own wx w.heap.size (.slice B0 (yearsOf e cs num den add l y k).length b0) (yearsOf e cs num den add l y k) ∧ Blk wx w.heap.size 24 #[.int .i64 e, .slice A n c] ∧ Blk wx (w.heap.size + 1) 65 #[.int .i64 num, .int .i64 den, .int .i64 add] ∧ Below w.heap.size w wx) (fun _ i _ => nl - (intOf i).toNat)
      case atStart => exact ⟨0, true, Nat.zero_le _, rfl, rfl, by simp, hown, hC, hMo, hbel⟩
      case round =>
        clear hown hC hMo hbel
        obtain ⟨j, b, hj, rfl, rfl, hall, hown, hC, hMo, hbel⟩ := hrel
        have hCc := fun i => hC.cell i
        have hMc := fun i => hMo.cell i
        have hclt := hC.lt
        have hmlt := hMo.lt
        by_cases hltj : j < nl
        · have hjl : j < l.length := by have := HL.out; omega
          cases b
          · have HQ := Lib.hid (yearsOf_no (all_take_false hall))
            clear hall
            go_wp2_with fail
            refine ⟨⟨k + 1, hlt, by first | rfl | (congr 1; push_cast; omega), by rw [HQ.out]; exact hown, hC, hMo, hbel⟩, ?_⟩
            simp [intOf]; omega
          · have hrow : (l.map Fact.row)[j]? = some (l[j].row) := by simp [hjl]
            obtain ⟨ad, rfl, hab, _, hc⟩ := (hL.keep hbel).at_ hrow
            have hq : ∀ i, ad.add (j * 4 + (i + 1)) = (ad.add (j * 4)).add (i + 1) := fun i => by
              unfold Addr.add; by_cases h0 : j * 4 = 0 <;> simp [h0, Nat.add_assoc]
            have hab2 : (ad.add (j * 4)).block < wr.heap.size := by rw [block_of_add]; exact hab
            have hc0 : wr.cell? (ad.add (j * 4)) = some (.int .i64 l[j].k) := hc 0 _ rfl
            have hc1 : wr.cell? ⟨(ad.add (j * 4)).block, (ad.add (j * 4)).off + 1, none⟩ = some (.int .i64 l[j].m) := (congrArg wr.cell? (hq 0)).symm.trans (hc 1 _ rfl)
            have hc2 : wr.cell? ⟨(ad.add (j * 4)).block, (ad.add (j * 4)).off + 2, none⟩ = some (.int .i64 l[j].d) := (congrArg wr.cell? (hq 1)).symm.trans (hc 2 _ rfl)
            have hc3 : wr.cell? ⟨(ad.add (j * 4)).block, (ad.add (j * 4)).off + 3, none⟩ = some (.int .i64 l[j].v) := (congrArg wr.cell? (hq 2)).symm.trans (hc 3 _ rfl)
            have hkk := hkinds l[j] (List.getElem_mem hjl)
            have hstep : ∀ b, soB e cs num den add (y + k) l[j] = b → (l.take (j + 1)).all (soB e cs num den add (y + k)) = b := fun b hb => by
              rw [List.take_succ_eq_append_getElem hjl, List.all_append, hall]; simp [hb]
            have HST := Lib.hid hstep
            clear hc hrow hq hstep hall
            generalize l[j] = fj at *
            obtain ⟨fk, fm, fd, fv⟩ := fj
            simp only at hc0 hc1 hc2 hc3 hkk
            have HK := Lib.hid (show fk = 1 ∨ fk = 2 ∨ fk = 3 ∨ fk = 4 ∨ fk = 5 by omega)
            have hrr := hr.keep hbel
            have hj0 : (0 : Int) ≤ (j : Int) := Int.natCast_nonneg j
            have hji : (j : Int) < (nl : Int) := by omega
            clear hkk
            go_wp2_with fail
            refine wp_region_noPanic ?_
            refine wp_region_held_drew (S := fun W => (∀ p : Addr, p.block < (wr).heap.size → W.cell? p = (wr).cell? p) ∧ Below (wr).heap.size (wr) W) (by kernel_rfl) ⟨fun _ _ => rfl, fr_drew (fr_refl _)⟩ (fun hHeld => ?_)
            -- the region, step by step
            refine wpAnyH_take (i := 0) (oi := ⟨some 30, .load 24 (.tmp 5), 24, "ref.go:447", #[], none⟩) (v := ?_) rfl (by kernel_rfl) (by kernel_rfl) (by kernel_rfl) (fun _ _ _ h => h) (Or.inl ⟨by rfl, fun W hSw => ?_⟩) hHeld ?_
            rotate_left
            · (try dsimp only at hSw); go_simp; (try with_reducible rfl)
            (try simp only [Act.put, List.setIfInBounds_toArray, List.set_cons_zero, List.set_cons_succ])
            refine wpAnyH_take (i := 1) (oi := ⟨some 31, .load 65 (.tmp 6), 65, "ref.go:447", #[], none⟩) (v := ?_) rfl (by kernel_rfl) (by kernel_rfl) (by kernel_rfl) (fun _ _ _ h => h) (Or.inl ⟨by rfl, fun W hSw => ?_⟩) hHeld ?_
            rotate_left
            · (try dsimp only at hSw); go_simp; (try with_reducible rfl)
            (try simp only [Act.put, List.setIfInBounds_toArray, List.set_cons_zero, List.set_cons_succ])
            refine wpAnyH_take (i := 2) (oi := ⟨some 32, .move (.tmp 2), 66, "ref.go:447", #[], none⟩) (v := ?_) rfl (by kernel_rfl) (by kernel_rfl) (by kernel_rfl) (fun _ _ _ h => h) (Or.inl ⟨by rfl, fun W hSw => ?_⟩) hHeld ?_
            rotate_left
            · (try dsimp only at hSw); go_simp; (try with_reducible rfl)
            (try simp only [Act.put, List.setIfInBounds_toArray, List.set_cons_zero, List.set_cons_succ])
            refine wpAnyH_take (i := 3) (oi := ⟨some 33, .move (.tmp 14), 3, "ref.go:447", #[], none⟩) (v := ?_) rfl (by kernel_rfl) (by kernel_rfl) (by kernel_rfl) (fun _ _ _ h => h) (Or.inl ⟨by rfl, fun W hSw => ?_⟩) hHeld ?_
            rotate_left
            · (try dsimp only at hSw); go_simp; (try with_reducible rfl)
            (try simp only [Act.put, List.setIfInBounds_toArray, List.set_cons_zero, List.set_cons_succ])
            refine wpAnyH_take (i := 4) (oi := ⟨some 34, .indexAddr 66 (.tmp 32) (.tmp 33), 0, "ref.go:447", #[⟨2, .data⟩, ⟨3, .data⟩], none⟩) (v := ?_) rfl (by kernel_rfl) (by kernel_rfl) (by kernel_rfl) (fun _ _ _ h => h) (Or.inl ⟨by rfl, fun W hSw => ?_⟩) hHeld ?_
            rotate_left
            · (try dsimp only at hSw); go_simp; (try with_reducible rfl)
            (try simp only [Act.put, List.setIfInBounds_toArray, List.set_cons_zero, List.set_cons_succ])
            refine wpAnyH_take (i := 5) (oi := ⟨some 35, .load 77 (.tmp 34), 77, "ref.go:447", #[⟨4, .data⟩], none⟩) (v := ?_) rfl (by kernel_rfl) (by kernel_rfl) (by kernel_rfl) (fun _ _ _ h => h) (Or.inl ⟨by rfl, fun W hSw => ?_⟩) hHeld ?_
            rotate_left
            · (try dsimp only at hSw); go_simp; (try with_reducible rfl)
            (try simp only [Act.put, List.setIfInBounds_toArray, List.set_cons_zero, List.set_cons_succ])
            refine wpAnyH_take (i := 6) (oi := ⟨some 36, .move (.tmp 12), 3, "ref.go:447", #[], none⟩) (v := ?_) rfl (by kernel_rfl) (by kernel_rfl) (by kernel_rfl) (fun _ _ _ h => h) (Or.inl ⟨by rfl, fun W hSw => ?_⟩) hHeld ?_
            rotate_left
            · (try dsimp only at hSw); go_simp; (try with_reducible rfl)
            (try simp only [Act.put, List.setIfInBounds_toArray, List.set_cons_zero, List.set_cons_succ])
            refine wpAnyH_ready (rs := [7]) (by kernel_rfl) (by simp) ?_
            refine AllReadyH.cons (o := ⟨some 37, .call { callee := .value (.func 94), args := #[.tmp 30, .tmp 31, .tmp 35, .tmp 36], argTypes := #[24, 65, 77, 3] }, 4, "ref.go:447", #[⟨0, .data⟩, ⟨1, .data⟩, ⟨5, .data⟩, ⟨6, .data⟩], none⟩) rfl (fun K hK => ?_) AllReadyH.nil
            go_simp
            refine (rSo_any A n c cs e num den add (y + k) fk fm fd fv _ (hrr.keep hHeld.2) hok hm (by omega) (by omega) HK.out).mono ?_
            rintro e' wA ⟨rfl, hb⟩
            refine hK.out _ _ (kp_step hb hHeld) (fun hHeld => ?_)
            clear hK K
            (try simp only [Act.put, List.setIfInBounds_toArray, List.set_cons_zero, List.set_cons_succ])
            refine wpAnyH_take (i := 8) (oi := ⟨some 13, .assign (.tmp 37), 4, "ref.go:447", #[⟨7, .data⟩, ⟨7, .chain⟩, ⟨0, .phase⟩, ⟨1, .phase⟩, ⟨2, .phase⟩, ⟨3, .phase⟩, ⟨4, .phase⟩, ⟨5, .phase⟩, ⟨6, .phase⟩, ⟨7, .phase⟩], none⟩) (v := ?_) rfl (by kernel_rfl) (by kernel_rfl) (by kernel_rfl) (fun _ _ _ h => h) (Or.inl ⟨by rfl, fun W hSw => ?_⟩) hHeld ?_
            rotate_left
            · (try dsimp only at hSw); go_simp; (try with_reducible rfl)
            (try simp only [Act.put, List.setIfInBounds_toArray, List.set_cons_zero, List.set_cons_succ])
            refine wpAnyH_done (by kernel_rfl) ?_ _
            refine NoPanic.normal ?_
            go_wp2_with fail
            refine ⟨⟨j + 1, _, hltj, by go_num, rfl, HST.out _ rfl, hown.keep hHeld.2, hC.keep hHeld.2, hMo.keep hHeld.2, fr_call hbel hHeld.2⟩, ?_⟩
            simp [intOf]; omega
        · have hall2 : l.all (soB e cs num den add (y + k)) = b := by rw [← hall, List.take_of_length_le (by have := HL.out; omega)]
          clear hall
          cases b
          · have HQ := Lib.hid (yearsOf_no hall2)
            clear hall2
            go_wp2_with fail
            refine ⟨⟨k + 1, hlt, by first | rfl | (congr 1; push_cast; omega), by rw [HQ.out]; exact hown, hC, hMo, hbel⟩, ?_⟩
            simp [intOf]; omega
          · have HQ := Lib.hid (yearsOf_yes hall2)
            clear hall2
            go_wp2_with (at_builtin; refine app_int rfl (.tmp 39) (.tmp 41) rfl w.heap.size _ (yearsOf e cs num den add l y k) rfl rfl hown (by omega) hbel.size ?_; intro B2 cap2 wC hown' hg)
            have ha := fr_alloc (fr_refl wr) (.cells #[.int .i64 (y + k)] 3)
            have hge := own_ge hown
            have hC' := (hC.keep ha).grown hg (Ne.symm (own_blk_ne hown hC (by decide)))
            have hM' := (hMo.keep ha).grown hg (Ne.symm (own_blk_ne hown hMo (by decide)))
            have hfr := (fr_call hbel ha).grown hg (fr_call hbel ha).size hge
            refine ⟨⟨k + 1, hlt, by first | rfl | (congr 1; push_cast; omega), by rw [HQ.out]; exact hown', hC', hM', hfr⟩, ?_⟩
            simp [intOf]; omega
    · obtain rfl : k = nY := by omega
      have hkz : ¬ (y + (k : Int) ≤ z) := by omega
      go_wp2_with fail
      go_ret
      rw [HN.out]
      exact ⟨B0, ⟨b0, rfl⟩, hown.rd, hbel⟩
end Go.Proofs.YtnpgdifidejohaaGreatDoor
end
