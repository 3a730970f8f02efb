/- The laws' helpers values and most; the largest group of answers, counted value by value. The laws' helper most. -/
import Derived.Test.YtnpgdifidejohaaGreatDoorME2
import Derived.Test.YtnpgdifidejohaaGreatDoorMD5
import Derived.Test.YtnpgdifidejohaaGreatDoorMC5
section
namespace Go.Proofs.YtnpgdifidejohaaGreatDoor
open Go.RowKit Dl

/-- how many of xs are none of the first j values -/
def rm (xs : List Int) (t : Nat → Int) (j : Nat) : Nat := xs.countP fun x => !(List.range j).any fun i => x == t i
def gm (xs : List Int) (t : Nat → Int) : Nat → Int
  | 0 => 0
  | j + 1 => max (gm xs t j) ((xs.count (t j) : Nat) : Int)
theorem rm_zero (xs : List Int) (t : Nat → Int) : rm xs t 0 = xs.length := by
  unfold rm
  rw [List.countP_eq_length]
  intro x _
  rfl
theorem rm_step (xs : List Int) (t : Nat → Int) (j : Nat) (h : ∀ i, i < j → t i ≠ t j) : rm xs t j = rm xs t (j + 1) + xs.count (t j) := by
  unfold rm
  induction xs with
  | nil => rfl
  | cons x xs ih =>
    rw [List.countP_cons, List.countP_cons, List.count_cons, ih]
    have hr : ((List.range (j + 1)).any fun i => x == t i) = (((List.range j).any fun i => x == t i) || (x == t j)) := by
      rw [List.range_succ, List.any_append]
      simp
    rw [hr]
    by_cases hx : x = t j
    · have h0 : ((List.range j).any fun i => x == t i) = false := by
        rw [List.any_eq_false]
        intro i hi
        have := h i (List.mem_range.1 hi)
        simp only [beq_iff_eq]
        intro h1
        exact this (h1.symm.trans hx)
      rw [h0]
      simp [hx]
      omega
    · have h1 : (x == t j) = false := beq_eq_false_iff_ne.2 hx
      rw [h1, Bool.or_false]
      simp
      omega
theorem gm_mem (xs : List Int) (t : Nat → Int) : ∀ N i, i < N → ((xs.count (t i) : Nat) : Int) ≤ gm xs t N := by
  intro N
  induction N with
  | zero => intro i h; omega
  | succ N ih =>
    intro i h
    unfold gm
    by_cases hi : i < N
    · have := ih i hi; omega
    · obtain rfl : i = N := by omega
      omega
theorem count_most (xs : List Int) (x : Int) : ((xs.count x : Nat) : Int) ≤ mostPre xs xs.length := by
  have := mostPre_count xs xs.length (Nat.le_refl _) x
  rwa [List.take_of_length_le (Nat.le_refl _)] at this
theorem gm_le (xs : List Int) (t : Nat → Int) : ∀ N, 0 ≤ gm xs t N ∧ gm xs t N ≤ mostPre xs xs.length := by
  intro N
  induction N with
  | zero => exact ⟨Int.le_refl _, (mostPre_bounds xs xs.length).1⟩
  | succ N ih =>
    have := count_most xs (t N)
    unfold gm
    omega
theorem mostPre_le {xs : List Int} {C : Int} (h0 : 0 ≤ C) (h : ∀ x ∈ xs, ((xs.count x : Nat) : Int) ≤ C) : ∀ k, k ≤ xs.length → mostPre xs k ≤ C := by
  intro k
  induction k with
  | zero => intro _; exact h0
  | succ k ih =>
    intro hk
    have h1 := ih (by omega)
    have hkl : k < xs.length := by omega
    have hm : xs[k]?.getD 0 ∈ xs := by simp [hkl]
    have h2 := h _ hm
    have hc : (xs.take (k + 1)).count (xs[k]?.getD 0) ≤ xs.count (xs[k]?.getD 0) := (List.take_sublist (k + 1) xs).count_le _
    unfold mostPre
    omega
theorem most_final {xs : List Int} {t : Nat → Int} {N : Nat} {s : Int} (h : ∀ x ∈ xs, (∃ i, i < N ∧ x = t i) ∨ x = s) (hs : ∀ i, i < N → t i ≠ s) :
    max (gm xs t N) ((rm xs t N : Nat) : Int) = mostPre xs xs.length := by
  have h1 := gm_le xs t N
  have h2 : rm xs t N ≤ xs.count s := by
    refine List.countP_mono_left fun x hx hp => ?_
    rw [beq_iff_eq]
    rcases h x hx with ⟨i, hi, rfl⟩ | h
    · exfalso
      rw [Bool.not_eq_true', List.any_eq_false] at hp
      exact hp i (List.mem_range.2 hi) (by simp)
    · exact h
  have h3 : xs.count s ≤ rm xs t N := by
    refine List.countP_mono_left fun x _ hp => ?_
    rw [beq_iff_eq] at hp
    subst hp
    rw [Bool.not_eq_true', List.any_eq_false]
    intro i hi
    simp only [beq_iff_eq]
    exact fun e => hs i (List.mem_range.1 hi) e.symm
  have h4 := count_most xs s
  have h5 : mostPre xs xs.length ≤ max (gm xs t N) ((rm xs t N : Nat) : Int) := by
    refine mostPre_le (by omega) (fun x hx => ?_) _ (Nat.le_refl _)
    rcases h x hx with ⟨i, hi, rfl⟩ | rfl
    · have := gm_mem xs t N i hi
      omega
    · omega
  omega

/-- the least value that an answer of a kind can have, and how many there are -/
def loK (k : Int) : Int := if k = 4 then 1 else if k = 5 then 365 else 0
def numK (k : Int) : Nat := if k = 1 then 7 else if k = 2 then 30 else if k = 3 then 1 else if k = 4 then 19 else 2
def tgK (k : Int) (i : Nat) : Int := if k = 3 then 1 else loK k + i
def spK (k : Int) : Int := if k = 3 then 0 else -1
theorem tgK_ne {k : Int} {i j : Nat} (hj : j < numK k) (h : i < j) : tgK k i ≠ tgK k j := by
  unfold tgK
  by_cases h3 : k = 3
  · subst h3
    have : numK 3 = 1 := rfl
    omega
  · rw [if_neg h3, if_neg h3]
    omega
theorem tgK_sp {k : Int} {i : Nat} : tgK k i ≠ spK k := by
  unfold tgK spK loK
  by_cases h3 : k = 3
  · rw [if_pos h3, if_pos h3]; decide
  · rw [if_neg h3, if_neg h3]
    split
    · omega
    · split <;> omega
theorem ans_in {e num den add y k m d v : Int} {cs : List Int} (hm : MoonOk num den add) (hk : 1 ≤ k ∧ k ≤ 5) : (∃ i, i < numK k ∧ ansOf e cs num den add y ⟨k, m, d, v⟩ = tgK k i) ∨ ansOf e cs num den add y ⟨k, m, d, v⟩ = spK k := by
  have : k = 1 ∨ k = 2 ∨ k = 3 ∨ k = 4 ∨ k = 5 := by omega
  rcases this with rfl | rfl | rfl | rfl | rfl
  · rw [ansOf_1]
    unfold ans1
    by_cases h : realB cs y m d = true
    · rw [if_pos h]
      have hb : 0 ≤ wkd (dayOf e cs ⟨y, m, d⟩) ∧ wkd (dayOf e cs ⟨y, m, d⟩) ≤ 6 := by unfold wkd; omega
      exact Or.inl ⟨(wkd (dayOf e cs ⟨y, m, d⟩)).toNat, by show _ < 7; omega, by show _ = (0 : Int) + _; omega⟩
    · rw [if_neg h]; exact Or.inr rfl
  · rw [ansOf_2]
    unfold ans2
    by_cases h : realB cs y m d = true
    · rw [if_pos h]
      have hb := age_range hm (dayOf e cs ⟨y, m, d⟩)
      exact Or.inl ⟨(ageOf num den add (dayOf e cs ⟨y, m, d⟩)).toNat, by show _ < 30; omega, by show _ = (0 : Int) + _; omega⟩
    · rw [if_neg h]; exact Or.inr rfl
  · rw [ansOf_3]
    unfold ans3
    split
    · exact Or.inl ⟨0, by decide, rfl⟩
    · exact Or.inr rfl
  · rw [ansOf_4]
    exact Or.inl ⟨(y % 19).toNat, by show _ < 19; omega, by show _ = (1 : Int) + _; omega⟩
  · rw [ansOf_5]
    unfold yearLen
    split
    · exact Or.inl ⟨1, by decide, rfl⟩
    · exact Or.inl ⟨0, by decide, rfl⟩
theorem more_len (e num den add y : Int) (cs : List Int) (l : List Fact) (k m d v : Int) (n : Nat) :
    (yearsOf e cs num den add (l ++ [⟨k, m, d, v⟩]) y n).length = ((yearsOf e cs num den add l y n).map (fun u => ansOf e cs num den add u ⟨k, m, d, 0⟩)).count (if k = 3 then 1 else v) := by
  have h : yearsOf e cs num den add (l ++ [⟨k, m, d, v⟩]) y n = (yearsOf e cs num den add l y n).filter (soB e cs num den add · ⟨k, m, d, v⟩) := by
    unfold yearsOf
    rw [List.filter_filter]
    refine List.filter_congr fun x _ => ?_
    rw [List.all_append, Bool.and_comm]
    simp
  rw [h, ← List.countP_eq_length_filter, List.count, List.countP_map]
  rfl

set_option maxHeartbeats 2000000 in
theorem values_is (k : Int) (hk : 1 ≤ k ∧ k ≤ 5) (w : World) : Calls Tryz.prog 101 #[.int .i64 k] w fun e' w' => e' = .returned (.tuple #[.int .i64 (loK k), .int .i64 (loK k + numK k - 1)]) ∧ w = w' := by
  have : k = 1 ∨ k = 2 ∨ k = 3 ∨ k = 4 ∨ k = 5 := by omega
  rcases this with rfl | rfl | rfl | rfl | rfl
  all_goals
    go_enter Tryz.func101, Tryz.ntmps101
    go_wp2_with fail
    go_ret2
    exact ⟨rfl, rfl⟩
end Go.Proofs.YtnpgdifidejohaaGreatDoor
end

section
namespace Go.Proofs.YtnpgdifidejohaaGreatDoor
open Go.RowKit Dl

theorem facts_more {l : List Fact} {f : Fact} (h : factsB l = true) (hl : l.length ≤ 5) (hf : kindB f (val_areFacts f) = true) : factsB (l ++ [f]) = true := by
  unfold factsB all_areFacts at h ⊢
  rw [Bool.and_eq_true] at h ⊢
  refine ⟨by simpa using hl, ?_⟩
  rw [List.all_append, h.2]
  simpa using hf
theorem fact_of_ask {k m d v u : Int} (h : kindB ⟨k, m, d, v⟩ (val_areQuestions ⟨k, m, d, v⟩) = true) (hu : loK k ≤ u ∧ u ≤ loK k + numK k - 1) : kindB ⟨k, m, d, u⟩ (val_areFacts ⟨k, m, d, u⟩) = true := by
  have hk := kind_range h
  simp only at hk
  have : k = 1 ∨ k = 2 ∨ k = 3 ∨ k = 4 ∨ k = 5 := by omega
  rcases this with rfl | rfl | rfl | rfl | rfl
  all_goals
    unfold kindB val_areQuestions at h
    unfold kindB val_areFacts
    simp [datedB, bareB] at h ⊢
    simp [loK, numK] at hu
    refine ⟨h.1, inB_yes (by omega)⟩

set_option maxRecDepth 100000 in
set_option maxHeartbeats 8000000 in
theorem most_is (A L : Option Addr) (n c lc : Nat) (cs : List Int) (e num den add y z k m d v : Int) (l : List Fact) (w : World) (hr : Rd w A n cs) (hn : n ≤ 9223372036854775807) (hL : RdS w L 4 (l.map Fact.row)) (hln : l.length ≤ 9223372036854775807) (hl5 : l.length ≤ 5) (hok : calOk e cs = true) (hm : moonB num den add = true) (hf : factsB l = true) (hg : rangeB y z = true) (hq : kindB ⟨k, m, d, v⟩ (val_areQuestions ⟨k, m, d, v⟩) = true) :
    Calls Tryz.prog 50 #[.agg #[.int .i64 e, .slice A n c], .agg #[.int .i64 num, .int .i64 den, .int .i64 add], .slice L l.length lc, .agg #[.int .i64 k, .int .i64 m, .int .i64 d, .int .i64 v], .int .i64 y, .int .i64 z, .int .i64 ((yearsOf e cs num den add l y (z - y + 1).toNat).length : Int)] w fun e' w' =>
      e' = .returned (.int .i64 (leftOf e cs num den add (yearsOf e cs num den add l y (z - y + 1).toNat) ⟨k, m, d, v⟩)) ∧ Below w.heap.size w w' := by
  have g1 := fr_alloc (fr_alloc (fr_alloc (fr_refl w) (.cells #[.int .i64 e, .slice A n c] 24)) (.cells #[.int .i64 num, .int .i64 den, .int .i64 add] 65)) (.cells #[.int .i64 k, .int .i64 m, .int .i64 d, .int .i64 v] 77)
  have hX0 : Blk (((w.alloc (.cells #[.int .i64 e, .slice A n c] 24)).alloc (.cells #[.int .i64 num, .int .i64 den, .int .i64 add] 65)).alloc (.cells #[.int .i64 k, .int .i64 m, .int .i64 d, .int .i64 v] 77)) (w.heap.size) 24 #[.int .i64 e, .slice A n c] := (((Blk.new_at _ _ (by simp)).alloc _).alloc _)
  have hX1 : Blk (((w.alloc (.cells #[.int .i64 e, .slice A n c] 24)).alloc (.cells #[.int .i64 num, .int .i64 den, .int .i64 add] 65)).alloc (.cells #[.int .i64 k, .int .i64 m, .int .i64 d, .int .i64 v] 77)) (w.heap.size + 1) 65 #[.int .i64 num, .int .i64 den, .int .i64 add] := ((Blk.new_at _ _ (by simp)).alloc _)
  have hX2 : Blk (((w.alloc (.cells #[.int .i64 e, .slice A n c] 24)).alloc (.cells #[.int .i64 num, .int .i64 den, .int .i64 add] 65)).alloc (.cells #[.int .i64 k, .int .i64 m, .int .i64 d, .int .i64 v] 77)) (w.heap.size + 1 + 1) 77 #[.int .i64 k, .int .i64 m, .int .i64 d, .int .i64 v] := (Blk.new_at _ _ (by simp))
  obtain ⟨⟨hy1, hy2⟩, ⟨hz1, hz2⟩, hyz1, hyz2⟩ := range_parts hg
  have hk5 := kind_range hq
  simp only at hk5
  have hmo := moonB_ok hm
  have hlo : 0 ≤ loK k ∧ loK k ≤ 365 := by unfold loK; split <;> (try split) <;> omega
  have hnu : numK k ≤ 30 := by unfold numK; split <;> (try split) <;> (try split) <;> (try split) <;> omega
  obtain ⟨lo, hlo1⟩ : ∃ q, loK k = q := ⟨_, rfl⟩
  obtain ⟨N, hN⟩ : ∃ q, numK k = q := ⟨_, rfl⟩
  obtain ⟨t, ht⟩ : ∃ q, tgK k = q := ⟨_, rfl⟩
  rw [hlo1] at hlo
  rw [hN] at hnu
  have htn : ∀ j, j < N → ∀ i, i < j → t i ≠ t j := fun j hj i hi => by rw [← ht]; exact tgK_ne (by rw [hN]; exact hj) hi
  have hyl : (yearsOf e cs num den add l y (z - y + 1).toNat).length ≤ 500 := Nat.le_trans (yearsOf_len e num den add y cs l _) (by omega)
  have hmore : ∀ j, j < N → (yearsOf e cs num den add (l ++ [⟨k, m, d, lo + (j : Int)⟩]) y (z - y + 1).toNat).length = ((yearsOf e cs num den add l y (z - y + 1).toNat).map (fun u => ansOf e cs num den add u ⟨k, m, d, 0⟩)).count (t j) := fun j hj => by
    rw [more_len, ← ht]
    unfold tgK
    rw [hlo1]
  have hfin : max (gm ((yearsOf e cs num den add l y (z - y + 1).toNat).map (fun u => ansOf e cs num den add u ⟨k, m, d, 0⟩)) t N) ((rm ((yearsOf e cs num den add l y (z - y + 1).toNat).map (fun u => ansOf e cs num den add u ⟨k, m, d, 0⟩)) t N : Nat) : Int) = leftOf e cs num den add (yearsOf e cs num den add l y (z - y + 1).toNat) ⟨k, m, d, v⟩ := by
    have h1 := most_final (xs := (yearsOf e cs num den add l y (z - y + 1).toNat).map (fun u => ansOf e cs num den add u ⟨k, m, d, 0⟩)) (t := tgK k) (N := numK k) (s := spK k) (fun x hx => by
      obtain ⟨u, _, rfl⟩ := List.mem_map.1 hx
      exact ans_in hmo hk5) (fun i _ => tgK_sp)
    rw [← ht, ← hN, h1, List.length_map]
    rfl
  have hfacts : ∀ j : Nat, j < N → factsB (l ++ [⟨k, m, d, lo + (j : Int)⟩]) = true := fun j hj => facts_more hf hl5 (fact_of_ask hq (by rw [hlo1, hN]; omega))
  have hvw := values_is k hk5
  rw [hlo1, hN] at hvw
  obtain ⟨xs, gxs⟩ : ∃ q, (yearsOf e cs num den add l y (z - y + 1).toNat).map (fun u => ansOf e cs num den add u ⟨k, m, d, 0⟩) = q := ⟨_, rfl⟩
  have hxl : (yearsOf e cs num den add l y (z - y + 1).toNat).length = xs.length := by rw [← gxs, List.length_map]
  rw [gxs] at hfin
  simp only [gxs] at hmore
  rw [hxl] at hyl ⊢
  obtain ⟨R, gR⟩ : ∃ q, leftOf e cs num den add (yearsOf e cs num den add l y (z - y + 1).toNat) ⟨k, m, d, v⟩ = q := ⟨_, rfl⟩
  rw [gR] at hfin ⊢
  have HFIN := Lib.hid hfin
  have HMORE := Lib.hid hmore
  have HTN := Lib.hid htn
  have HFACTS := Lib.hid hfacts
  have hr0 := rm_zero xs t
  clear hfin hmore htn hfacts gR gxs hxl ht hN hlo1
  have hrs : ∀ j, j < N → rm xs t j = rm xs t (j + 1) + xs.count (t j) := fun j hj => rm_step xs t j (HTN.out j hj)
  have hrl : ∀ j, rm xs t j ≤ 500 := fun j => Nat.le_trans List.countP_le_length hyl
  have hgl : ∀ j, 0 ≤ gm xs t j ∧ gm xs t j ≤ 500 := fun j => by
    have h1 := gm_le xs t j
    have h2 := mostPre_bounds xs xs.length
    omega
  have HRS := Lib.hid hrs
  have HRL := Lib.hid hrl
  have HGL := Lib.hid hgl
  clear hrs hrl hgl
  go_enter Tryz.func50, Tryz.ntmps50
  go_wp2_with fail
  have hfr := g1
  replace hr := hr.keep g1
  replace hL := hL.keep g1
  have hc0 := fun j => hX0.cell j
  have hc1 := fun j => hX1.cell j
  have hc2 := fun j => hX2.cell j
  have hl0 := hX0.lt
  have hl1 := hX1.lt
  have hl2 := hX2.lt
  refine (hvw _).mono ?_
  rintro e' w1 ⟨rfl, rfl⟩
  go_wp2_with fail
  generalize gW0 : ((w.alloc (.cells #[.int .i64 e, .slice A n c] 24)).alloc (.cells #[.int .i64 num, .int .i64 den, .int .i64 add] 65)).alloc (.cells #[.int .i64 k, .int .i64 m, .int .i64 d, .int .i64 v] 77) = W0 at *
  go_loopw [17, 18, 19] (fun a b i wx => ∃ j : Nat, j ≤ N ∧ a = .int .i64 (gm xs t j) ∧ b = .int .i64 ((rm xs t j : Nat) : Int) ∧ i = .int .i64 (lo + (j : Int)) ∧ Below W0.heap.size W0 wx) (fun _ _ i _ => (lo + N - intOf i).toNat)
  case atStart => exact ⟨0, Nat.zero_le _, rfl, by rw [hr0], by simp, fr_refl W0⟩
  case round =>
    obtain ⟨j, hj, rfl, rfl, rfl, hbel⟩ := hrel
    replace hr := hr.keep hbel
    replace hL := hL.keep hbel
    replace hfr := fr_call hfr hbel
    replace hX0 := hX0.keep hbel
    replace hc0 := fun j => hX0.cell j
    replace hl0 := hX0.lt
    replace hX1 := hX1.keep hbel
    replace hc1 := fun j => hX1.cell j
    replace hl1 := hX1.lt
    replace hX2 := hX2.keep hbel
    replace hc2 := fun j => hX2.cell j
    replace hl2 := hX2.lt
    have hgj := HGL.out j
    have hrj := HRL.out j
    by_cases hlt : j < N
    · have hfj := HFACTS.out j hlt
      have hmj := HMORE.out j hlt
      have hsj := HRS.out j hlt
      obtain ⟨u, gu⟩ : ∃ q : Int, lo + (j : Int) = q := ⟨_, rfl⟩
      have hu : 0 ≤ u ∧ u ≤ 400 := by omega
      have huz : u ≤ lo + N - 1 := by omega
      rw [gu] at hfj hmj
      have GU := Lib.hid gu
      obtain ⟨l2, gl2⟩ : ∃ q, l ++ [⟨k, m, d, u⟩] = q := ⟨_, rfl⟩
      rw [gl2] at hfj hmj
      have HL2 := Lib.hid gl2
      obtain ⟨cj, gcj⟩ : ∃ q, xs.count (t j) = q := ⟨_, rfl⟩
      rw [gcj] at hmj hsj
      have hcr : ¬ ((rm xs t j : Int) < (cj : Int)) := by omega
      have hgm1 : gm xs t (j + 1) = max (gm xs t j) (cj : Int) := by rw [← gcj]; rfl
      have hrm1 : ((rm xs t j : Int) - (cj : Int)) = ((rm xs t (j + 1) : Nat) : Int) := by omega
      have HMJ := Lib.hid hmj
      obtain ⟨g0, gg0⟩ : ∃ q, gm xs t j = q := ⟨_, rfl⟩
      rw [gg0] at hgj hgm1
      obtain ⟨r0, gr0⟩ : ∃ q, rm xs t j = q := ⟨_, rfl⟩
      rw [gr0] at hrj hcr hrm1
      have HG1 := Lib.hid hgm1
      have HR1 := Lib.hid hrm1
      have hcj : cj ≤ 500 := by omega
      have HX := Lib.hid (And.intro gg0 gr0)
      simp only [gg0, gr0, gu]
      clear gcj gl2 gu hmj hgm1 hrm1 hsj gg0 gr0
      go_wp2_with fail
      have ga := fr_alloc (fr_refl wr) (.cells #[.int .i64 k, .int .i64 m, .int .i64 d, .int .i64 u] 77)
      replace hr := hr.keep ga
      replace hL := hL.keep ga
      replace hbel := fr_call hbel ga
      replace hX0 := hX0.keep ga
      replace hX1 := hX1.keep ga
      have hX3 := Blk.new wr 77 #[.int .i64 k, .int .i64 m, .int .i64 d, .int .i64 u]
      clear hc0 hc1 hc2 hl0 hl1 hl2 hX2 hfr ga
      generalize wr.heap.size = gF at *
      generalize wr.alloc (.cells #[.int .i64 k, .int .i64 m, .int .i64 d, .int .i64 u] 77) = wz at *
      have hc0 := fun j => hX0.cell j
      have hc1 := fun j => hX1.cell j
      have hc3 := fun j => hX3.cell j
      have hl0 := hX0.lt
      have hl1 := hX1.lt
      have hl3 := hX3.lt
      have hlq : l.length ≤ 1000000 := by omega
      have hl2n : l2.length ≤ 9223372036854775807 := by rw [← HL2.out, List.length_append]; simp; omega
      refine wp_region_noPanic ?_
      refine wp_region_held_drew (S := fun W => (∀ p : Addr, p.block < (wz).heap.size → W.cell? p = (wz).cell? p) ∧ Below (wz).heap.size (wz) W) (by kernel_rfl) ⟨fun _ _ => rfl, fr_drew (fr_refl _)⟩ (fun hHeld => ?_)
      -- the region, step by step, in whatever order
      refine wpAnyH_take (i := 0) (oi := ⟨some 40, .load 24 (.tmp 7), 24, "law.go:524", #[], none⟩) (v := ?_) rfl (by kernel_rfl) (by kernel_rfl) (by kernel_rfl) (fun _ _ _ h => h) (Or.inl ⟨by rfl, fun W hSw => ?_⟩) hHeld ?_
      rotate_left
      · (try dsimp only at hSw); go_simp; (try with_reducible rfl)
      (try simp only [Act.put, List.setIfInBounds_toArray, List.set_cons_zero, List.set_cons_succ])
      refine wpAnyH_take (i := 1) (oi := ⟨some 41, .load 65 (.tmp 8), 65, "law.go:524", #[], none⟩) (v := ?_) rfl (by kernel_rfl) (by kernel_rfl) (by kernel_rfl) (fun _ _ _ h => h) (Or.inl ⟨by rfl, fun W hSw => ?_⟩) hHeld ?_
      rotate_left
      · (try dsimp only at hSw); go_simp; (try with_reducible rfl)
      (try simp only [Act.put, List.setIfInBounds_toArray, List.set_cons_zero, List.set_cons_succ])
      refine wpAnyH_take (i := 2) (oi := ⟨some 42, .move (.tmp 2), 66, "law.go:524", #[], none⟩) (v := ?_) rfl (by kernel_rfl) (by kernel_rfl) (by kernel_rfl) (fun _ _ _ h => h) (Or.inl ⟨by rfl, fun W hSw => ?_⟩) hHeld ?_
      rotate_left
      · (try dsimp only at hSw); go_simp; (try with_reducible rfl)
      (try simp only [Act.put, List.setIfInBounds_toArray, List.set_cons_zero, List.set_cons_succ])
      refine wpAnyH_take (i := 4) (oi := ⟨some 44, .load 77 (.tmp 20), 77, "law.go:524", #[], none⟩) (v := ?_) rfl (by kernel_rfl) (by kernel_rfl) (by kernel_rfl) (fun _ _ _ h => h) (Or.inl ⟨by rfl, fun W hSw => ?_⟩) hHeld ?_
      rotate_left
      · (try dsimp only at hSw); go_simp; (try with_reducible rfl)
      (try simp only [Act.put, List.setIfInBounds_toArray, List.set_cons_zero, List.set_cons_succ])
      refine wpAnyH_take (i := 7) (oi := ⟨some 47, .move (.tmp 4), 3, "law.go:524", #[], none⟩) (v := ?_) rfl (by kernel_rfl) (by kernel_rfl) (by kernel_rfl) (fun _ _ _ h => h) (Or.inl ⟨by rfl, fun W hSw => ?_⟩) hHeld ?_
      rotate_left
      · (try dsimp only at hSw); go_simp; (try with_reducible rfl)
      (try simp only [Act.put, List.setIfInBounds_toArray, List.set_cons_zero, List.set_cons_succ])
      refine wpAnyH_take (i := 8) (oi := ⟨some 48, .move (.tmp 5), 3, "law.go:524", #[], none⟩) (v := ?_) rfl (by kernel_rfl) (by kernel_rfl) (by kernel_rfl) (fun _ _ _ h => h) (Or.inl ⟨by rfl, fun W hSw => ?_⟩) hHeld ?_
      rotate_left
      · (try dsimp only at hSw); go_simp; (try with_reducible rfl)
      (try simp only [Act.put, List.setIfInBounds_toArray, List.set_cons_zero, List.set_cons_succ])
      refine wpAnyH_ready (rs := [3, 5]) (by kernel_rfl) (by simp) ?_
      refine (AllReadyH.cons (o := ⟨some 43, .call { callee := .builtin .append, args := #[.const (.slice none 0 0), .tmp 42], argTypes := #[66, 66] }, 66, "law.go:524", #[⟨2, .data⟩], none⟩) rfl (fun K hK => ?_) (AllReadyH.cons (o := ⟨some 45, .buildSlice 66 1 #[(0, .tmp 44)], 66, "law.go:524", #[⟨4, .data⟩], none⟩) rfl (fun K hK => ?_) AllReadyH.nil))
      · rw [if_pos (by rfl)]
        refine wp_app_facts _ _ rfl wz.heap.size _ [] rfl (OwnS.nil _ _ _ _) L l.length lc l rfl rfl (hL.keep hHeld.2) (by simp) hlq hHeld.2.size ?_
        intro A1 c1 W1 hO1 hg1
        rw [show ([] : List Fact).length + l.length = l.length by simp] at hO1 ⊢
        rw [List.nil_append] at hO1
        have hb1 : Below _ _ W1 := (fr_refl _).grown hg1 (Nat.le_refl _) (fun i hi => by cases hi)
        (try replace hRF := hRF.keep hb1)
        refine hK.out _ _ (kp_step hb1 hHeld) (fun hHeld => ?_)
        clear hK K
        (try simp only [Act.put, List.setIfInBounds_toArray, List.set_cons_zero, List.set_cons_succ])
        refine wpAnyH_ready (rs := [5]) (by kernel_rfl) (by simp) ?_
        refine (AllReadyH.cons (o := ⟨some 45, .buildSlice 66 1 #[(0, .tmp 44)], 66, "law.go:524", #[⟨4, .data⟩], none⟩) rfl (fun K hK => ?_) AllReadyH.nil)
        rw [if_pos (by rfl)]
        refine wp_build1f (f := ⟨k, m, d, u⟩) rfl rfl ?_
        intro gB WF hRF hbF hgF
        (try replace hO1 := hO1.keep hbF)
        refine hK.out _ _ (kp_step hbF hHeld) (fun hHeld => ?_)
        clear hK K
        (try simp only [Act.put, List.setIfInBounds_toArray, List.set_cons_zero, List.set_cons_succ])
        refine wpAnyH_ready (rs := [6]) (by kernel_rfl) (by simp) ?_
        refine (AllReadyH.cons (o := ⟨some 46, .call { callee := .builtin .append, args := #[.tmp 43, .tmp 45], argTypes := #[66, 66] }, 66, "law.go:524", #[⟨3, .data⟩, ⟨5, .data⟩, ⟨3, .chain⟩], none⟩) rfl (fun K hK => ?_) AllReadyH.nil)
        rw [if_pos (by rfl)]
        refine wp_app_facts _ _ rfl wz.heap.size _ l rfl hO1 (some ⟨gB, 0, none⟩) 1 1 [⟨k, m, d, u⟩] rfl rfl hRF hlq (by simp) hHeld.2.size ?_
        intro A2 c2 W2 hO2 hg2
        rw [HL2.out] at hO2
        have hl2e : l.length + 1 = l2.length := by rw [← HL2.out, List.length_append]; rfl
        rw [hl2e] at hO2 ⊢
        refine hK.out _ _ (kp_of (hHeld.2.grown hg2 hHeld.2.size hO1.ge)) (fun hHeld => ?_)
        clear hK K
        (try simp only [Act.put, List.setIfInBounds_toArray, List.set_cons_zero, List.set_cons_succ])
        refine wpAnyH_ready (rs := [9]) (by kernel_rfl) (by simp) ?_
        refine (AllReadyH.cons (o := ⟨some 49, .call { callee := .value (.func 43), args := #[.tmp 40, .tmp 41, .tmp 46, .tmp 47, .tmp 48], argTypes := #[24, 65, 66, 3, 3] }, 49, "law.go:524", #[⟨0, .data⟩, ⟨1, .data⟩, ⟨6, .data⟩, ⟨7, .data⟩, ⟨8, .data⟩, ⟨6, .chain⟩], none⟩) rfl (fun K hK => ?_) AllReadyH.nil)
        rw [if_pos (by rfl)]
        go_simp
        refine (Years_ok A A2 n c c2 cs e num den add y z l2 _ (hr.keep hHeld.2) hn hO2.rd hl2n hok hm hfj hg).mono ?_
        rw [HMJ.out]
        rintro e' W3 ⟨AY, cY, rfl, hrY, hb3⟩
        refine hK.out _ _ (kp_step hb3 hHeld) (fun hHeld => ?_)
        clear hK K
        (try simp only [Act.put, List.setIfInBounds_toArray, List.set_cons_zero, List.set_cons_succ])
        refine wpAnyH_take (i := 10) (oi := ⟨some 39, .move (.tmp 49), 49, "law.go:524", #[⟨9, .data⟩], none⟩) (v := ?_) rfl (by kernel_rfl) (by kernel_rfl) (by kernel_rfl) (fun _ _ _ h => h) (Or.inl ⟨by rfl, fun W hSw => ?_⟩) hHeld ?_
        rotate_left
        · (try dsimp only at hSw); go_simp; (try with_reducible rfl)
        (try simp only [Act.put, List.setIfInBounds_toArray, List.set_cons_zero, List.set_cons_succ])
        refine wpAnyH_take (i := 11) (oi := ⟨some 50, .extract (.tmp 39) 0, 22, "law.go:524", #[⟨10, .data⟩], none⟩) (v := ?_) rfl (by kernel_rfl) (by kernel_rfl) (by kernel_rfl) (fun _ _ _ h => h) (Or.inl ⟨by rfl, fun W hSw => ?_⟩) hHeld ?_
        rotate_left
        · (try dsimp only at hSw); go_simp; (try with_reducible rfl)
        (try simp only [Act.put, List.setIfInBounds_toArray, List.set_cons_zero, List.set_cons_succ])
        refine wpAnyH_take (i := 12) (oi := ⟨some 51, .extract (.tmp 39) 1, 27, "law.go:524", #[⟨10, .data⟩, ⟨13, .gcOnly .lateStores⟩], none⟩) (v := ?_) rfl (by kernel_rfl) (by kernel_rfl) (by kernel_rfl) (fun _ _ _ h => h) (Or.inl ⟨by rfl, fun W hSw => ?_⟩) hHeld ?_
        rotate_left
        · (try dsimp only at hSw); go_simp; (try with_reducible rfl)
        (try simp only [Act.put, List.setIfInBounds_toArray, List.set_cons_zero, List.set_cons_succ])
        refine wpAnyH_take (i := 13) (oi := ⟨some 21, .assign (.tmp 50), 22, "law.go:524", #[⟨11, .data⟩, ⟨9, .chain⟩, ⟨0, .phase⟩, ⟨1, .phase⟩, ⟨2, .phase⟩, ⟨3, .phase⟩, ⟨4, .phase⟩, ⟨5, .phase⟩, ⟨6, .phase⟩, ⟨7, .phase⟩, ⟨8, .phase⟩, ⟨9, .phase⟩, ⟨10, .phase⟩, ⟨11, .phase⟩, ⟨12, .textOnly .lateStores⟩], none⟩) (v := ?_) rfl (by kernel_rfl) (by kernel_rfl) (by kernel_rfl) (fun _ _ _ h => h) (Or.inl ⟨by rfl, fun W hSw => ?_⟩) hHeld ?_
        rotate_left
        · (try dsimp only at hSw); go_simp; (try with_reducible rfl)
        (try simp only [Act.put, List.setIfInBounds_toArray, List.set_cons_zero, List.set_cons_succ])
        refine wpAnyH_take (i := 14) (oi := ⟨some 22, .assign (.tmp 51), 27, "law.go:524", #[⟨12, .data⟩, ⟨13, .chain⟩, ⟨0, .phase⟩, ⟨1, .phase⟩, ⟨2, .phase⟩, ⟨3, .phase⟩, ⟨4, .phase⟩, ⟨5, .phase⟩, ⟨6, .phase⟩, ⟨7, .phase⟩, ⟨8, .phase⟩, ⟨9, .phase⟩, ⟨10, .phase⟩, ⟨11, .phase⟩, ⟨12, .phase⟩, ⟨13, .phase⟩], none⟩) (v := ?_) rfl (by kernel_rfl) (by kernel_rfl) (by kernel_rfl) (fun _ _ _ h => h) (Or.inl ⟨by rfl, fun W hSw => ?_⟩) hHeld ?_
        rotate_left
        · (try dsimp only at hSw); go_simp; (try with_reducible rfl)
        (try simp only [Act.put, List.setIfInBounds_toArray, List.set_cons_zero, List.set_cons_succ])
        refine wpAnyH_done (by kernel_rfl) ?_ _
        refine NoPanic.normal ?_
        go_wp2_with fail
        refine ⟨⟨j + 1, hlt, ?_, ?_, ?_, fr_call hbel hHeld.2⟩, ?_⟩
        · rw [HG1.out]
        · rw [HR1.out]
        · rw [← GU.out]; push_cast; congr 1; omega
        · simp [intOf]; have := GU.out; omega
      · rw [if_pos (by rfl)]
        refine wp_build1f (f := ⟨k, m, d, u⟩) rfl rfl ?_
        intro gB WF hRF hbF hgF
        (try replace hO1 := hO1.keep hbF)
        refine hK.out _ _ (kp_step hbF hHeld) (fun hHeld => ?_)
        clear hK K
        (try simp only [Act.put, List.setIfInBounds_toArray, List.set_cons_zero, List.set_cons_succ])
        refine wpAnyH_ready (rs := [3]) (by kernel_rfl) (by simp) ?_
        refine (AllReadyH.cons (o := ⟨some 43, .call { callee := .builtin .append, args := #[.const (.slice none 0 0), .tmp 42], argTypes := #[66, 66] }, 66, "law.go:524", #[⟨2, .data⟩], none⟩) rfl (fun K hK => ?_) AllReadyH.nil)
        rw [if_pos (by rfl)]
        refine wp_app_facts _ _ rfl wz.heap.size _ [] rfl (OwnS.nil _ _ _ _) L l.length lc l rfl rfl (hL.keep hHeld.2) (by simp) hlq hHeld.2.size ?_
        intro A1 c1 W1 hO1 hg1
        rw [show ([] : List Fact).length + l.length = l.length by simp] at hO1 ⊢
        rw [List.nil_append] at hO1
        have hb1 : Below _ _ W1 := (fr_refl _).grown hg1 (Nat.le_refl _) (fun i hi => by cases hi)
        (try replace hRF := hRF.keep hb1)
        refine hK.out _ _ (kp_step hb1 hHeld) (fun hHeld => ?_)
        clear hK K
        (try simp only [Act.put, List.setIfInBounds_toArray, List.set_cons_zero, List.set_cons_succ])
        refine wpAnyH_ready (rs := [6]) (by kernel_rfl) (by simp) ?_
        refine (AllReadyH.cons (o := ⟨some 46, .call { callee := .builtin .append, args := #[.tmp 43, .tmp 45], argTypes := #[66, 66] }, 66, "law.go:524", #[⟨3, .data⟩, ⟨5, .data⟩, ⟨3, .chain⟩], none⟩) rfl (fun K hK => ?_) AllReadyH.nil)
        rw [if_pos (by rfl)]
        refine wp_app_facts _ _ rfl wz.heap.size _ l rfl hO1 (some ⟨gB, 0, none⟩) 1 1 [⟨k, m, d, u⟩] rfl rfl hRF hlq (by simp) hHeld.2.size ?_
        intro A2 c2 W2 hO2 hg2
        rw [HL2.out] at hO2
        have hl2e : l.length + 1 = l2.length := by rw [← HL2.out, List.length_append]; rfl
        rw [hl2e] at hO2 ⊢
        refine hK.out _ _ (kp_of (hHeld.2.grown hg2 hHeld.2.size hO1.ge)) (fun hHeld => ?_)
        clear hK K
        (try simp only [Act.put, List.setIfInBounds_toArray, List.set_cons_zero, List.set_cons_succ])
        refine wpAnyH_ready (rs := [9]) (by kernel_rfl) (by simp) ?_
        refine (AllReadyH.cons (o := ⟨some 49, .call { callee := .value (.func 43), args := #[.tmp 40, .tmp 41, .tmp 46, .tmp 47, .tmp 48], argTypes := #[24, 65, 66, 3, 3] }, 49, "law.go:524", #[⟨0, .data⟩, ⟨1, .data⟩, ⟨6, .data⟩, ⟨7, .data⟩, ⟨8, .data⟩, ⟨6, .chain⟩], none⟩) rfl (fun K hK => ?_) AllReadyH.nil)
        rw [if_pos (by rfl)]
        go_simp
        refine (Years_ok A A2 n c c2 cs e num den add y z l2 _ (hr.keep hHeld.2) hn hO2.rd hl2n hok hm hfj hg).mono ?_
        rw [HMJ.out]
        rintro e' W3 ⟨AY, cY, rfl, hrY, hb3⟩
        refine hK.out _ _ (kp_step hb3 hHeld) (fun hHeld => ?_)
        clear hK K
        (try simp only [Act.put, List.setIfInBounds_toArray, List.set_cons_zero, List.set_cons_succ])
        refine wpAnyH_take (i := 10) (oi := ⟨some 39, .move (.tmp 49), 49, "law.go:524", #[⟨9, .data⟩], none⟩) (v := ?_) rfl (by kernel_rfl) (by kernel_rfl) (by kernel_rfl) (fun _ _ _ h => h) (Or.inl ⟨by rfl, fun W hSw => ?_⟩) hHeld ?_
        rotate_left
        · (try dsimp only at hSw); go_simp; (try with_reducible rfl)
        (try simp only [Act.put, List.setIfInBounds_toArray, List.set_cons_zero, List.set_cons_succ])
        refine wpAnyH_take (i := 11) (oi := ⟨some 50, .extract (.tmp 39) 0, 22, "law.go:524", #[⟨10, .data⟩], none⟩) (v := ?_) rfl (by kernel_rfl) (by kernel_rfl) (by kernel_rfl) (fun _ _ _ h => h) (Or.inl ⟨by rfl, fun W hSw => ?_⟩) hHeld ?_
        rotate_left
        · (try dsimp only at hSw); go_simp; (try with_reducible rfl)
        (try simp only [Act.put, List.setIfInBounds_toArray, List.set_cons_zero, List.set_cons_succ])
        refine wpAnyH_take (i := 12) (oi := ⟨some 51, .extract (.tmp 39) 1, 27, "law.go:524", #[⟨10, .data⟩, ⟨13, .gcOnly .lateStores⟩], none⟩) (v := ?_) rfl (by kernel_rfl) (by kernel_rfl) (by kernel_rfl) (fun _ _ _ h => h) (Or.inl ⟨by rfl, fun W hSw => ?_⟩) hHeld ?_
        rotate_left
        · (try dsimp only at hSw); go_simp; (try with_reducible rfl)
        (try simp only [Act.put, List.setIfInBounds_toArray, List.set_cons_zero, List.set_cons_succ])
        refine wpAnyH_take (i := 13) (oi := ⟨some 21, .assign (.tmp 50), 22, "law.go:524", #[⟨11, .data⟩, ⟨9, .chain⟩, ⟨0, .phase⟩, ⟨1, .phase⟩, ⟨2, .phase⟩, ⟨3, .phase⟩, ⟨4, .phase⟩, ⟨5, .phase⟩, ⟨6, .phase⟩, ⟨7, .phase⟩, ⟨8, .phase⟩, ⟨9, .phase⟩, ⟨10, .phase⟩, ⟨11, .phase⟩, ⟨12, .textOnly .lateStores⟩], none⟩) (v := ?_) rfl (by kernel_rfl) (by kernel_rfl) (by kernel_rfl) (fun _ _ _ h => h) (Or.inl ⟨by rfl, fun W hSw => ?_⟩) hHeld ?_
        rotate_left
        · (try dsimp only at hSw); go_simp; (try with_reducible rfl)
        (try simp only [Act.put, List.setIfInBounds_toArray, List.set_cons_zero, List.set_cons_succ])
        refine wpAnyH_take (i := 14) (oi := ⟨some 22, .assign (.tmp 51), 27, "law.go:524", #[⟨12, .data⟩, ⟨13, .chain⟩, ⟨0, .phase⟩, ⟨1, .phase⟩, ⟨2, .phase⟩, ⟨3, .phase⟩, ⟨4, .phase⟩, ⟨5, .phase⟩, ⟨6, .phase⟩, ⟨7, .phase⟩, ⟨8, .phase⟩, ⟨9, .phase⟩, ⟨10, .phase⟩, ⟨11, .phase⟩, ⟨12, .phase⟩, ⟨13, .phase⟩], none⟩) (v := ?_) rfl (by kernel_rfl) (by kernel_rfl) (by kernel_rfl) (fun _ _ _ h => h) (Or.inl ⟨by rfl, fun W hSw => ?_⟩) hHeld ?_
        rotate_left
        · (try dsimp only at hSw); go_simp; (try with_reducible rfl)
        (try simp only [Act.put, List.setIfInBounds_toArray, List.set_cons_zero, List.set_cons_succ])
        refine wpAnyH_done (by kernel_rfl) ?_ _
        refine NoPanic.normal ?_
        go_wp2_with fail
        refine ⟨⟨j + 1, hlt, ?_, ?_, ?_, fr_call hbel hHeld.2⟩, ?_⟩
        · rw [HG1.out]
        · rw [HR1.out]
        · rw [← GU.out]; push_cast; congr 1; omega
        · simp [intOf]; have := GU.out; omega
    · obtain rfl : j = N := by omega
      go_wp2_with fail
      have hfin := HFIN.out
      subst hfin
      go_ret
      exact ⟨rfl, hfr⟩
end Go.Proofs.YtnpgdifidejohaaGreatDoor
end
