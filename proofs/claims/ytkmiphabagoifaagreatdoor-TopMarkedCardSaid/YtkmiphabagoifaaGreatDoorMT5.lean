/- Plain: even marks as the high steps of a cam; for TopMarked. Walks, package cam: cams, their changes, cams that are turned. Reference: marks as they are defined; a list that is turned. Walks, package plate: Even. Walks, package plate: what two wheels of a piece that is laid have to do with each other. -/
import Derived.Lib.Hide
import Derived.Test.YtkmiphabagoifaaGreatDoorMT1
import Derived.Test.YtkmiphabagoifaaGreatDoorMT2
import Derived.Test.YtkmiphabagoifaaGreatDoorMT3
import Derived.BigRegion
import Derived.Test.YtkmiphabagoifaaGreatDoorShelf
import Derived.Test.YtkmiphabagoifaaGreatDoorMT4
section
namespace Go.Proofs.YtkmiphabagoifaaGreatDoor

/-- the greatest common divisor of a number and of how far some numbers are from one -/
def gcdM (m0 : Int) (g : Nat) (l : List Int) : Nat := l.foldl (fun g n => Nat.gcd g (n - m0).natAbs) g
theorem gcdM_dvd (m0 : Int) : ∀ (l : List Int) (g : Nat), gcdM m0 g l ∣ g ∧ ∀ n ∈ l, gcdM m0 g l ∣ (n - m0).natAbs
 | [], g => ⟨Nat.dvd_refl g, fun n hn => by cases hn⟩
 | x :: l, g => by
  obtain ⟨h1, h2⟩ := gcdM_dvd m0 l (Nat.gcd g (x - m0).natAbs)
  have e : gcdM m0 g (x :: l) = gcdM m0 (Nat.gcd g (x - m0).natAbs) l := rfl
  rw [e]
  refine ⟨Nat.dvd_trans h1 (Nat.gcd_dvd_left _ _), fun n hn => ?_⟩
  rcases List.mem_cons.1 hn with rfl | hn
  ·exact Nat.dvd_trans h1 (Nat.gcd_dvd_right _ _)
  ·exact h2 n hn
theorem gcdM_pos (m0 : Int) (l : List Int) {g : Nat} (hg : 0 < g) : 0 < gcdM m0 g l := Nat.pos_of_dvd_of_pos (gcdM_dvd m0 l g).1 hg
/-- marks as they are defined -/
structure MarkOk (h : Nat) (ms : List Int) : Prop where
 some : 0 < ms.length
 fit : ∀ n ∈ ms, 0 ≤ n ∧ n < (h : Int)
/-- how far even marks are apart, and where the first one is -/
def gapM (h : Nat) (ms : List Int) : Nat := gcdM (ms.headD 0) h ms
def remM (h : Nat) (ms : List Int) : Nat := (ms.headD 0).toNat % gapM h ms
/-- the first k of the even marks that are not marked yet -/
def freshM (ms : List Int) (r b k : Nat) : List Int := ((List.range k).map (fun (i : Nat) => ((r + i * b : Nat) : Int))).filter (fun n => !ms.contains n)
theorem freshM_succ (ms : List Int) (r b k : Nat) : freshM ms r b (k + 1) = if ms.contains ((r + k * b : Nat) : Int) = true then freshM ms r b k else freshM ms r b k ++ [((r + k * b : Nat) : Int)] := by
 unfold freshM
 rw [List.range_succ, List.map_append, List.filter_append]
 cases h : ms.contains ((r + k * b : Nat) : Int) <;> simp at h <;> simp [h]
theorem freshM_len (ms : List Int) (r b k : Nat) : (freshM ms r b k).length ≤ k := by
 unfold freshM
 exact Nat.le_trans (List.length_filter_le _ _) (by simp)
theorem mark_mod {h : Nat} {ms : List Int} (hm : MarkOk h ms) : ∀ i : Nat, (i : Int) ∈ ms → i % gapM h ms = remM h ms := fun i hi => by
 obtain ⟨m0, l, rfl⟩ : ∃ m0 l, ms = m0 :: l := by
  cases ms with
  | nil => have := hm.some; simp at this
  | cons a l => exact ⟨a, l, rfl⟩
 have h0 := hm.fit m0 (by simp)
 have hd := (gcdM_dvd m0 (m0 :: l) h).2 _ hi
 unfold remM
 have e : gapM h (m0 :: l) = gcdM m0 h (m0 :: l) := rfl
 rw [e]
 generalize gcdM m0 h (m0 :: l) = b at hd ⊢
 show i % b = m0.toNat % b
 obtain ⟨q, hq⟩ := hd
 rcases Nat.le_total i m0.toNat with hle | hle
 ·have : m0.toNat = i + b * q := by omega
  rw [this, Nat.add_mul_mod_self_left]
 ·have : i = m0.toNat + b * q := by omega
  rw [this, Nat.add_mul_mod_self_left]
theorem gap_dvd (h : Nat) (ms : List Int) : gapM h ms ∣ h := (gcdM_dvd _ _ _).1
theorem gap_pos {h : Nat} (ms : List Int) (hh : 0 < h) : 0 < gapM h ms := gcdM_pos _ _ hh
theorem rem_lt {h : Nat} (ms : List Int) (hh : 0 < h) : remM h ms < gapM h ms := Nat.mod_lt _ (gap_pos ms hh)
/-- old and new marks are the even ones -/
theorem even_iff {h : Nat} {ms : List Int} (hm : MarkOk h ms) (hh : 0 < h) {i : Nat} (hi : i < h) : ((i : Int) ∈ ms ∨ (i : Int) ∈ freshM ms (remM h ms) (gapM h ms) (h / gapM h ms)) ↔ i % gapM h ms = remM h ms := by
 have hb := gap_pos ms hh
 have hr := rem_lt ms hh
 obtain ⟨q, hq⟩ := gap_dvd h ms
 constructor
 ·rintro (h1 | h1)
  ·exact mark_mod hm i h1
  ·unfold freshM at h1
   obtain ⟨h2, _⟩ := List.mem_filter.1 h1
   obtain ⟨k, _, hk⟩ := List.mem_map.1 h2
   have e : i = remM h ms + k * gapM h ms := by omega
   rw [e, Nat.add_mul_mod_self_right, Nat.mod_eq_of_lt hr]
 ·intro h1
  by_cases h2 : (i : Int) ∈ ms
  ·exact Or.inl h2
  ·refine Or.inr (List.mem_filter.2 ⟨List.mem_map.2 ⟨i / gapM h ms, List.mem_range.2 ?_, ?_⟩, by simpa using h2⟩)
   ·rw [Nat.div_lt_iff_lt_mul hb, Nat.div_mul_cancel (gap_dvd h ms)]
    exact hi
   ·have := Nat.mod_add_div i (gapM h ms)
    rw [h1, Nat.mul_comm] at this
    rw [this]
/-- a cam with high steps at even marks -/
def evenL (h b r : Nat) : List Int := (List.range h).map (fun i => if i % b = r then 30 else 0)
theorem evenL_len (h b r : Nat) : (evenL h b r).length = h := by simp [evenL]
theorem evenL_at {h b r i : Nat} (hi : i < h) : (evenL h b r)[i]?.getD 0 = if i % b = r then 30 else 0 := by simp [evenL, hi]
/-- a list, turned by some steps -/
def turnL (l : List Int) (s : Nat) : List Int := (List.range l.length).map (fun i => l[(i + s) % l.length]?.getD 0)
theorem turnL_len (l : List Int) (s : Nat) : (turnL l s).length = l.length := by simp [turnL]
theorem turnL_at {l : List Int} {s i : Nat} (hi : i < l.length) : (turnL l s)[i]?.getD 0 = l[(i + s) % l.length]?.getD 0 := by simp [turnL, hi]
/-- turned by some steps a list is another one -/
def SameAt (a b : List Int) (k : Nat) : Prop := ∀ i, i < a.length → a[i]?.getD 0 = b[(i + k) % b.length]?.getD 0
theorem same_iff {h b r s k : Nat} (hd : b ∣ h) (hh : 0 < h) : SameAt (turnL (evenL h b r) s) (evenL h b r) k ↔ ∀ i, i < h → ((i + s) % b = r ↔ (i + k) % b = r) := by
 unfold SameAt
 rw [turnL_len, evenL_len]
 refine forall_congr' (fun i => forall_congr' (fun hi => ?_))
 rw [turnL_at (by rw [evenL_len]; exact hi), evenL_len, evenL_at (Nat.mod_lt _ hh), evenL_at (Nat.mod_lt _ hh), Nat.mod_mod_of_dvd _ hd, Nat.mod_mod_of_dvd _ hd]
 by_cases h1 : (i + s) % b = r <;> by_cases h2 : (i + k) % b = r <;> simp [h1, h2]
theorem turn_gap {h b r : Nat} (hd : b ∣ h) (hh : 0 < h) : SameAt (turnL (evenL h b r) b) (evenL h b r) 0 :=
 (same_iff hd hh).2 (fun i _ => by rw [Nat.add_mod_right, Nat.add_zero])
theorem turn_same {h b r s : Nat} (hd : b ∣ h) (hh : 0 < h) : SameAt (turnL (evenL h b r) s) (evenL h b r) s :=
 (same_iff hd hh).2 (fun _ _ => Iff.rfl)
theorem turn_less {h b r s k : Nat} (hd : b ∣ h) (hh : 0 < h) (hr : r < b) (hs : s < b) (hk : k < s) : ¬ SameAt (turnL (evenL h b r) s) (evenL h b r) k := by
 rw [same_iff hd hh]
 intro hall
 have hbh : b ≤ h := Nat.le_of_dvd hh hd
 -- the step that is turned to the first mark
 obtain ⟨i, hi, hm⟩ : ∃ i, i < b ∧ (i + s) % b = r := by
  by_cases h1 : s ≤ r
  ·exact ⟨r - s, by omega, by rw [show r - s + s = r by omega]; exact Nat.mod_eq_of_lt hr⟩
  ·exact ⟨r + b - s, by omega, by rw [show r + b - s + s = r + b by omega, Nat.add_mod_right]; exact Nat.mod_eq_of_lt hr⟩
 have h2 := (hall i (by omega)).1 hm
 -- both sums lie less than b apart
 have e1 := Nat.mod_add_div (i + s) b
 have e2 := Nat.mod_add_div (i + k) b
 rw [hm] at e1
 rw [h2] at e2
 generalize (i + s) / b = p at e1
 generalize (i + k) / b = q at e2
 have hpq : b * q < b * p := by omega
 have hlt : q < p := Nat.lt_of_mul_lt_mul_left hpq
 have hle : b * (q + 1) ≤ b * p := Nat.mul_le_mul_left b hlt
 rw [Nat.mul_add, Nat.mul_one] at hle
 omega
/-- the changes of the first k steps -/
def chgN (l : List Int) (k : Nat) : Nat := (List.range k).countP (fun i => l[i]?.getD 0 != l[(i + 1) % l.length]?.getD 0)
theorem chgN_succ (l : List Int) (k : Nat) : chgN l (k + 1) = if l[k]?.getD 0 != l[(k + 1) % l.length]?.getD 0 then chgN l k + 1 else chgN l k := by
 unfold chgN
 rw [List.range_succ, List.countP_append, List.countP_singleton]
 split <;> rfl
theorem chgN_le (l : List Int) (k : Nat) : chgN l k ≤ k := by
 unfold chgN
 exact Nat.le_trans List.countP_le_length (by simp)
theorem countP_mul (p : Nat → Bool) (b : Nat) : ∀ n, (List.range (b * n)).countP (fun i => p (i % b)) = n * (List.range b).countP p
 | 0 => by simp
 | n + 1 => by
  have e : List.range (b * (n + 1)) = List.range (b * n) ++ (List.range b).map (fun i => b * n + i) := by rw [Nat.mul_add, Nat.mul_one, List.range_add]
  rw [e, List.countP_append, countP_mul p b n, List.countP_map, Nat.add_mul, Nat.one_mul]
  congr 1
  refine List.countP_congr (fun i hi => ?_)
  have hi' := List.mem_range.1 hi
  simp only [Function.comp]
  rw [Nat.mul_add_mod, Nat.mod_eq_of_lt hi']
theorem count_one {b : Nat} (x : Nat) (hx : x < b) : (List.range b).countP (fun i => decide (i = x)) = 1 := by
 induction b with
 | zero => omega
 | succ b ih =>
  rw [List.range_succ, List.countP_append, List.countP_singleton]
  by_cases h : x = b
  ·subst h
   rw [List.countP_eq_zero.2 (fun i hi => by have := List.mem_range.1 hi; simp; omega)]
   simp
  ·rw [ih (by omega)]
   simp [Ne.symm h]
theorem chg_even {h b r : Nat} (hb : 0 < b) (hd : b ∣ h) (hh : 0 < h) (hr : r < b) : chgN (evenL h b r) h = if b = 1 then 0 else 2 * (h / b) := by
 have e : chgN (evenL h b r) h = (List.range h).countP (fun i => (fun j => decide (j = r) != decide ((j + 1) % b = r)) (i % b)) := by
  unfold chgN
  refine List.countP_congr (fun i hi => ?_)
  have hi' := List.mem_range.1 hi
  rw [evenL_len, evenL_at hi', evenL_at (Nat.mod_lt _ hh), Nat.mod_mod_of_dvd _ hd, ← Nat.mod_add_mod i b 1]
  by_cases h1 : i % b = r <;> by_cases h2 : (i % b + 1) % b = r <;> simp [h1, h2]
 obtain ⟨n, rfl⟩ := hd
 rw [e, countP_mul (fun j => decide (j = r) != decide ((j + 1) % b = r)) b n, Nat.mul_div_cancel_left _ hb]
 by_cases h1 : b = 1
 ·subst h1
  rw [if_pos rfl]
  obtain rfl : r = 0 := by omega
  simp [Nat.mod_one]
 ·rw [if_neg h1]
  -- the step before the mark, and the mark
  obtain ⟨z, hz, hz2⟩ : ∃ z, z < b ∧ ∀ j, j < b → ((j + 1) % b = r ↔ j = z) := by
   by_cases h0 : r = 0
   ·refine ⟨b - 1, by omega, fun j hj => ?_⟩
    by_cases hj2 : j + 1 = b
    ·rw [hj2, Nat.mod_self]; omega
    ·rw [Nat.mod_eq_of_lt (by omega)]; omega
   ·refine ⟨r - 1, by omega, fun j hj => ?_⟩
    by_cases hj2 : j + 1 = b
    ·rw [hj2, Nat.mod_self]; omega
    ·rw [Nat.mod_eq_of_lt (by omega)]; omega
  have hzr : z ≠ r := fun e => by
   have h3 := (hz2 z hz).2 rfl
   rw [e] at h3
   by_cases hj2 : r + 1 = b
   ·rw [hj2, Nat.mod_self] at h3; omega
   ·rw [Nat.mod_eq_of_lt (by omega)] at h3; omega
  have hs : (List.range b).countP (fun j => decide (j = r) != decide ((j + 1) % b = r)) = 2 := by
   have h4 : (List.range b).countP (fun j => decide (j = r) != decide ((j + 1) % b = r)) = (List.range b).countP (fun j => decide (j = r)) + (List.range b).countP (fun j => decide (j = z)) := by
    clear e
    have : ∀ l : List Nat, (∀ j ∈ l, j < b) → l.countP (fun j => decide (j = r) != decide ((j + 1) % b = r)) = l.countP (fun j => decide (j = r)) + l.countP (fun j => decide (j = z)) := fun l => by
     induction l with
     | nil => intro _; rfl
     | cons j l ih =>
      intro hl
      rw [List.countP_cons, List.countP_cons, List.countP_cons, ih (fun x hx => hl x (by simp [hx]))]
      have hj : decide ((j + 1) % b = r) = decide (j = z) := decide_eq_decide.2 (hz2 j (hl j (by simp)))
      rw [hj]
      by_cases h5 : j = r
      ·have h6 : ¬ j = z := fun e => hzr (e.symm.trans h5)
       simp [h5, Ne.symm hzr]
       omega
      ·by_cases h6 : j = z
       ·simp [h6, hzr]
        omega
       ·simp [h5, h6]
    exact this _ (fun j hj => List.mem_range.1 hj)
   rw [h4, count_one r hr, count_one z hz]
  rw [hs]
  omega
end Go.Proofs.YtkmiphabagoifaaGreatDoor
end

section
namespace Go.Proofs.YtkmiphabagoifaaGreatDoor
open Go.RowKit

set_option maxHeartbeats 400000 in
theorem cin_is (x lo hi : Int) (w : World) (b : Bool) (hb : inB x lo hi = b) :
  Calls Tryz.prog 146 #[.int .i64 x, .int .i64 lo, .int .i64 hi] w fun e w' => e = .returned (.bool b) ∧ w = w' := by
 subst hb
 by_cases h : lo ≤ x
 ·go_enter Tryz.func146, Tryz.ntmps146
  go_wp2
  go_ret
  exact ⟨ret_bool (by simp [inB, h]), rfl⟩
 ·go_enter Tryz.func146, Tryz.ntmps146
  go_wp2
  go_ret
  exact ⟨ret_bool (by simp only [inB]; rw [eq_comm, decide_eq_false_iff_not]; omega), rfl⟩
set_option maxHeartbeats 2000000 in
theorem isHeight_is (x : Int) (w : World) (b : Bool) (hb : inB x 0 30 = b) :
  Calls Tryz.prog 148 #[.int .i64 x] w fun e w' => e = .returned (.bool b) ∧ w = w' := by
 go_enter Tryz.func148, Tryz.ntmps148
 go_wp2_with fail
 refine (cin_is _ _ _ _ _ hb).mono ?_
 rintro e w' ⟨rfl, rfl⟩
 go_wp2_with fail
 go_ret
 exact ⟨rfl, rfl⟩
set_option maxHeartbeats 2000000 in
theorem isCam1_yes (x : Int) (w : World) (h1 : inB x 0 30 = true) :
  Calls Tryz.prog 147 #[.int .i64 x] w fun e w' => e = .returned (.bool false) ∧ w = w' := by
 go_enter Tryz.func147, Tryz.ntmps147
 go_wp2_with fail
 refine (isHeight_is _ _ _ h1).mono ?_
 rintro e w' ⟨rfl, rfl⟩
 go_wp2_with fail
 go_ret
 exact ⟨rfl, rfl⟩
/-- heights of a cam -/
def HeightsOk (l : List Int) : Prop := ∀ x ∈ l, 0 ≤ x ∧ x ≤ 30
set_option maxRecDepth 100000 in
set_option maxHeartbeats 4000000 in
theorem index_cam (A : Option Addr) (n c : Nat) (l : List Int) (w : World) (hr : Rd w A n l) (hn : n ≤ 1000) (ht : HeightsOk l) :
  Calls Tryz.prog 184 #[.slice A n c, .func (.func 147) #[] #[]] w fun e' w' => e' = .returned (.int .i64 (-1)) ∧ w = w' := by
 have HL := Lib.hid hr.len
 go_enter Tryz.func184, Tryz.ntmps184
 go_wp2
 go_loopw [8] (fun i wr => ∃ k : Nat, k ≤ n ∧ i = .int .i64 k ∧ wr = w) (fun i _ => n - (intOf i).toNat)
 case atStart => exact ⟨0, Nat.zero_le _, rfl, rfl⟩
 case round =>
  obtain ⟨k, hk, rfl, rfl⟩ := hrel
  by_cases hlt : k < n
  ·have hkl : k < l.length := by have := HL.out; omega
   obtain ⟨ad, rfl, hab, hc0⟩ := hr.at_ hlt
   have htk : inB (l[k]?.getD 0) 0 30 = true := by
    rw [show l[k]?.getD 0 = l[k] by simp [hkl]]
    exact inB_yes (ht _ (List.getElem_mem hkl))
   generalize l[k]?.getD 0 = y at *
   clear hr
   go_wp2_with fail
   refine (isCam1_yes _ _ htk).mono ?_
   rintro e w1 ⟨rfl, rfl⟩
   go_wp2_with fail
   refine ⟨⟨k + 1, hlt, rfl, trivial⟩, ?_⟩
   simp [intOf]; omega
  ·go_wp2_with fail
   go_ret
   exact ⟨rfl, rfl⟩
set_option maxHeartbeats 2000000 in
theorem contains_cam (A : Option Addr) (n c : Nat) (l : List Int) (w : World) (hr : Rd w A n l) (hn : n ≤ 1000) (ht : HeightsOk l) :
  Calls Tryz.prog 113 #[.slice A n c, .func (.func 147) #[] #[]] w fun e' w' => e' = .returned (.bool false) ∧ w = w' := by
 go_enter Tryz.func113, Tryz.ntmps113
 go_wp2_with fail
 refine (index_cam A n c l w hr hn ht).mono ?_
 rintro e w1 ⟨rfl, rfl⟩
 go_wp2_with fail
 go_ret
 exact ⟨rfl, rfl⟩
set_option maxHeartbeats 2000000 in
theorem isCam_yes (A : Option Addr) (n c : Nat) (l : List Int) (w : World) (hr : Rd w A n l) (hn : 3 ≤ n ∧ n ≤ 24) (ht : HeightsOk l) :
  Calls Tryz.prog 77 #[.slice A n c] w fun e' w' => e' = .returned (.bool true) ∧ w = w' := by
 have hi : inB (n : Int) 3 24 = true := inB_yes (by omega)
 have hc := contains_cam A n c l w hr (by omega) ht
 clear hr ht
 go_enter Tryz.func77, Tryz.ntmps77
 go_wp2_with fail
 refine (cin_is _ _ _ _ _ hi).mono ?_
 rintro e w' ⟨rfl, rfl⟩
 go_wp2_with fail
 refine hc.mono ?_
 rintro e w1 ⟨rfl, rfl⟩
 go_wp2_with fail
 go_ret
 exact ⟨rfl, rfl⟩
set_option maxHeartbeats 2000000 in
theorem areCams_yes (A B : Option Addr) (n c d : Nat) (a b : List Int) (w : World) (ha : Rd w A n a) (hb : Rd w B n b) (hn : 3 ≤ n ∧ n ≤ 24) (h1 : HeightsOk a) (h2 : HeightsOk b) :
  Calls Tryz.prog 76 #[.slice A n c, .slice B n d] w fun e' w' => e' = .returned (.bool true) ∧ w = w' := by
 have q1 := isCam_yes A n c a w ha hn h1
 have q2 := isCam_yes B n d b w hb hn h2
 have q3 : ((n : Int) == (n : Int)) = true := beq_self_eq_true _
 clear ha hb hn h1 h2
 go_enter Tryz.func76, Tryz.ntmps76
 go_wp2_with fail
 refine q1.mono ?_
 rintro e w' ⟨rfl, rfl⟩
 go_wp2_with fail
 refine q2.mono ?_
 rintro e w' ⟨rfl, rfl⟩
 go_wp2_with fail
 go_ret
 exact ⟨rfl, rfl⟩
set_option maxRecDepth 100000 in
set_option maxHeartbeats 8000000 in
theorem turned_any (A B : Option Addr) (n c d k : Nat) (a b : List Int) (w : World) (ha : Rd w A n a) (hb : Rd w B n b) (hn : 3 ≤ n ∧ n ≤ 24) (h1 : HeightsOk a) (h2 : HeightsOk b) (hk : k < n) (hs : SameAt a b k) (hno : ∀ j, j < k → ¬ SameAt a b j) :
  Calls Tryz.prog 16 #[.slice A n c, .slice B n d] w fun e' w' => e' = .returned (.tuple #[.int .i64 k, .int .i64 0]) ∧ w = w' := by
 have hac := areCams_yes A B n c d a b w ha hb hn h1 h2
 have HA := Lib.hid ha.len
 have HB := Lib.hid hb.len
 have HS := Lib.hid hs
 have HNO := Lib.hid hno
 clear h1 h2 hs hno
 go_enter Tryz.func16, Tryz.ntmps16
 go_wp2_with fail
 go_step3
 go_wp2_with fail
 refine hac.mono ?_
 rintro e w' ⟨rfl, rfl⟩
 clear hac
 go_wp2_with fail
 go_step3
 go_wp2_with fail
 go_loopg [15] n (fun gh t wr => ∃ j : Nat, j + gh = n ∧ j ≤ k ∧ t = .int .i64 j ∧ wr = w)
 case atStart => exact ⟨0, Nat.zero_add _, Nat.zero_le _, rfl, rfl⟩
 case round =>
  obtain ⟨j, hjg, hj, rfl, rfl⟩ := hrel
  cases gk with
  | zero => omega
  | succ gn =>
   have j1 : (j : Int) < (n : Int) := by omega
   go_wp2_with fail
   go_loopg [20] n (fun gi t w' => ∃ i : Nat, i + gi = n ∧ t = .int .i64 i ∧ Hid (∀ z, z < i → a[z]?.getD 0 = b[(z + j) % b.length]?.getD 0) ∧ w' = wr)
   case atStart => exact ⟨0, Nat.zero_add _, rfl, Lib.hid (fun _ h => absurd h (by omega)), rfl⟩
   case round =>
    obtain ⟨i, hig, rfl, hall, rfl⟩ := hrel
    cases gk with
    | zero =>
     obtain rfl : i = n := by omega
     have hsj : SameAt a b j := fun z hz => hall.out z (by rw [← HA.out]; exact hz)
     obtain rfl : j = k := by
      rcases Nat.lt_or_ge j k with h | h
      ·exact absurd hsj (HNO.out j h)
      ·omega
     clear hsj ha hb
     have q0 : ¬ (i : Int) < (i : Int) := by omega
     go_wp2_with fail
     go_ret2
     exact ⟨rfl, rfl⟩
    | succ gj =>
     have hlt : i < n := by omega
     obtain ⟨ad, rfl, hab, ca⟩ := ha.at_ hlt
     obtain ⟨m, hm⟩ : ∃ m, (i + j) % n = m := ⟨_, rfl⟩
     have hmn : m < n := by rw [← hm]; exact Nat.mod_lt _ (by omega)
     obtain ⟨ae, rfl, hae, cb⟩ := hb.at_ hmn
     have i1 : 0 ≤ (i : Int) := by omega
     have i2 : (i : Int) < (n : Int) := by omega
     have m1 : 0 ≤ (m : Int) := by omega
     have m2 : (m : Int) < (n : Int) := by omega
     have z1 : IntKind.i64.wrap ((i : Int) + (j : Int)) = (i : Int) + (j : Int) := IntWalk.i64_in _ (by omega)
     have z2 : ((i : Int) + (j : Int)).tmod (n : Int) = (m : Int) := by
      rw [← hm, ← Int.natCast_add]
      rfl
     have z3 : IntKind.i64.wrap (m : Int) = (m : Int) := IntWalk.i64_in _ (by omega)
     have z4 : ((n : Int) == 0) = false := beq_eq_false_iff_ne.2 (by omega)
     have HM := Lib.hid (show b[(i + j) % b.length]?.getD 0 = b[m]?.getD 0 by rw [HB.out, hm])
     obtain ⟨x, hx⟩ : ∃ x, a[i]?.getD 0 = x := ⟨_, rfl⟩
     obtain ⟨y, hy⟩ : ∃ y, b[m]?.getD 0 = y := ⟨_, rfl⟩
     rw [hx] at ca
     rw [hy] at cb HM
     have HX := Lib.hid hx
     have hxl : i < a.length := by rw [HA.out]; exact hlt
     clear hm hx hy ha hb
     by_cases hxy : x = y
     ·subst hxy
      have d0 : (x != x) = false := by simp
      have HN := Lib.hid (show ∀ z, z < i + 1 → a[z]?.getD 0 = b[(z + j) % b.length]?.getD 0 from fun z hz => by
       by_cases e : z = i
       ·subst e; rw [HX.out, HM.out]
       ·exact hall.out z (by omega))
      go_wp2_with fail
      go_roundg gj
      case measure => omega
      case rel => exact ⟨i + 1, by omega, by go_num, HN, rfl⟩
     ·have d0 : (x != y) = true := bne_iff_ne.2 hxy
      have hjk : j < k := by
       rcases Nat.lt_or_ge j k with h | h
       ·exact h
       ·obtain rfl : j = k := by omega
        exact absurd (by have := HS.out i hxl; rw [HX.out, HM.out] at this; exact this) hxy
      clear hxy
      go_wp2_with fail
      go_roundg gn
      case measure => omega
      case rel => exact ⟨j + 1, by omega, by omega, by go_num, rfl⟩
set_option maxRecDepth 100000 in
set_option maxHeartbeats 8000000 in
theorem changes_any (A : Option Addr) (n c : Nat) (l : List Int) (w : World) (hr : Rd w A n l) (hn : 3 ≤ n ∧ n ≤ 24) :
  Calls Tryz.prog 78 #[.slice A n c] w fun e' w' => e' = .returned (.int .i64 (chgN l n : Nat)) ∧ Below w.heap.size w w' := by
 have HL := Lib.hid hr.len
 have HC := Lib.hid (fun k => chgN_le l k)
 have HS := Lib.hid (fun k => chgN_succ l k)
 go_enter Tryz.func78, Tryz.ntmps78
 go_wp2_with fail
 go_loopw [3, 7] (fun m t wr => ∃ k : Nat, k ≤ n ∧ t = .int .i64 k ∧ m = .int .i64 (chgN l k : Nat) ∧ Below w.heap.size w wr) (fun _ t _ => n - (intOf t).toNat)
 case atStart => exact ⟨0, Nat.zero_le _, rfl, rfl, fr_refl _⟩
 case round =>
  obtain ⟨k, hk, rfl, rfl, hb⟩ := hrel
  by_cases hlt : k < n
  ·have hrk := hr.keep hb
   obtain ⟨ad, rfl, hab, ca⟩ := hrk.at_ hlt
   obtain ⟨m, hm⟩ : ∃ m, (k + 1) % n = m := ⟨_, rfl⟩
   have hmn : m < n := by rw [← hm]; exact Nat.mod_lt _ (by omega)
   obtain ⟨ae, e, hae, cb⟩ := hrk.at_ hmn
   cases e
   have i1 : 0 ≤ (k : Int) := by omega
   have i2 : (k : Int) < (n : Int) := by omega
   have m1 : 0 ≤ (m : Int) := by omega
   have m2 : (m : Int) < (n : Int) := by omega
   have z1 : IntKind.i64.wrap ((k : Int) + 1) = (k : Int) + 1 := IntWalk.i64_in _ (by omega)
   have z2 : ((k : Int) + 1).tmod (n : Int) = (m : Int) := by
    rw [← hm, show (k : Int) + 1 = ((k + 1 : Nat) : Int) by omega]
    rfl
   have z3 : IntKind.i64.wrap (m : Int) = (m : Int) := IntWalk.i64_in _ (by omega)
   have z4 : ((n : Int) == 0) = false := beq_eq_false_iff_ne.2 (by omega)
   have hst := HS.out k
   rw [HL.out, hm] at hst
   have hle := HC.out k
   obtain ⟨q, hq⟩ : ∃ q, chgN l k = q := ⟨_, rfl⟩
   rw [hq] at hst hle ⊢
   have z5 : IntKind.i64.wrap ((q : Int) + 1) = (q : Int) + 1 := IntWalk.i64_in _ (by omega)
   obtain ⟨x, hx⟩ : ∃ x, l[k]?.getD 0 = x := ⟨_, rfl⟩
   obtain ⟨y, hy⟩ : ∃ y, l[m]?.getD 0 = y := ⟨_, rfl⟩
   rw [hx] at ca hst
   rw [hy] at cb hst
   have HST := Lib.hid hst
   obtain ⟨wo, rfl⟩ : ∃ wo : World, wo = wr := ⟨_, rfl⟩
   clear hm hx hy hq hst hrk hle hab hae
   by_cases hxy : x = y
   ·subst hxy
    have d0 : (x != x) = false := by simp
    have HE := Lib.hid (show chgN l (k + 1) = q by rw [HST.out, d0]; rfl)
    clear hr
    go_wp2_with fail
    go_quiet (fail)
    go_wp2_with fail
    refine ⟨⟨k + 1, hlt, by go_num, by rw [HE.out], fr_drewN hb nq⟩, ?_⟩
    simp [intOf]; omega
   ·have d0 : (x != y) = true := bne_iff_ne.2 hxy
    have HE := Lib.hid (show chgN l (k + 1) = q + 1 by rw [HST.out, d0]; rfl)
    clear hr hxy
    go_wp2_with fail
    go_quiet (fail)
    go_wp2_with fail
    refine ⟨⟨k + 1, hlt, by go_num, by rw [HE.out]; go_num, fr_drewN hb nq⟩, ?_⟩
    simp [intOf]; omega
  ·obtain rfl : k = n := by omega
   go_wp2_with fail
   go_ret
   exact ⟨rfl, hb⟩
set_option maxHeartbeats 2000000 in
theorem tChanges_ok (A : Option Addr) (n c : Nat) (l : List Int) (w : World) (hr : Rd w A n l) (hn : 3 ≤ n ∧ n ≤ 24) (ht : HeightsOk l) :
  Calls Tryz.prog 18 #[.slice A n c] w fun e' w' => e' = .returned (.tuple #[.int .i64 (chgN l n : Nat), .int .i64 0]) ∧ Below w.heap.size w w' := by
 have h1 := isCam_yes A n c l w hr hn ht
 have h2 := changes_any A n c l w hr hn
 clear hr ht
 go_enter Tryz.func18, Tryz.ntmps18
 go_wp2_with fail
 refine h1.mono ?_
 rintro e w' ⟨rfl, rfl⟩
 go_wp2_with fail
 refine h2.mono ?_
 rintro e w' ⟨rfl, hb⟩
 go_wp2_with fail
 go_ret2
 exact ⟨rfl, hb⟩
end Go.Proofs.YtkmiphabagoifaaGreatDoor
end

section
namespace Go.Proofs.YtkmiphabagoifaaGreatDoor
open Go.RowKit

set_option maxHeartbeats 400000 in
theorem rin2_is (x lo hi : Int) (w : World) (b : Bool) (hb : inB x lo hi = b) :
  Calls Tryz.prog 72 #[.int .i64 x, .int .i64 lo, .int .i64 hi] w fun e w' => e = .returned (.bool b) ∧ w' = w := by
 subst hb
 by_cases h : lo ≤ x
 ·go_enter Tryz.func72, Tryz.ntmps72
  go_wp2
  go_ret
  exact ⟨ret_bool (by simp [inB, h]), rfl⟩
 ·go_enter Tryz.func72, Tryz.ntmps72
  go_wp2
  go_ret
  exact ⟨ret_bool (by simp only [inB]; rw [eq_comm, decide_eq_false_iff_not]; omega), rfl⟩
/-- one mark is as defined -/
def stepB (h : Int) (l : List Int) (i : Nat) : Bool := inB (l[i]?.getD 0) 0 (h - 1) && (i == 0 || decide (l[i - 1]?.getD 0 < l[i]?.getD 0))
def markB (h : Int) (l : List Int) : Bool := (List.range l.length).all (stepB h l) && decide (0 < l.length)
theorem mark_ok {h : Nat} {l : List Int} (hm : markB h l = true) : MarkOk h l := by
 unfold markB at hm
 rw [Bool.and_eq_true, decide_eq_true_eq, List.all_eq_true] at hm
 refine ⟨hm.2, fun n hn => ?_⟩
 obtain ⟨i, hi, rfl⟩ := List.getElem_of_mem hn
 have hs := hm.1 i (List.mem_range.2 hi)
 unfold stepB at hs
 rw [Bool.and_eq_true] at hs
 have h1 := inB_iff.1 hs.1
 rw [show l[i]?.getD 0 = l[i] by simp [hi]] at h1
 omega
set_option maxRecDepth 100000 in
set_option maxHeartbeats 8000000 in
theorem marked_any (A : Option Addr) (n c : Nat) (h : Int) (l : List Int) (w : World) (hr : Rd w A n l) (hn : n ≤ 1000) (hh : 3 ≤ h ∧ h ≤ 24) (b : Bool) (hb : markB h l = b) :
  Calls Tryz.prog 14 #[.int .i64 h, .slice A n c] w fun e' w' => e' = .returned (.bool b) ∧ Below w.heap.size w w' := by
 have HL := Lib.hid hr.len
 have HB := Lib.hid hb
 have zh : IntKind.i64.wrap (h - 1) = h - 1 := IntWalk.i64_in _ (by omega)
 have HNO := Lib.hid (show ∀ i, i < n → stepB h l i = false → b = false from fun i hi hs => by
  rw [← hb]
  unfold markB
  rw [Bool.and_eq_false_iff]
  refine Or.inl ?_
  rw [← Bool.not_eq_true, List.all_eq_true]
  intro ha
  rw [ha i (List.mem_range.2 (by rw [hr.len]; exact hi))] at hs
  cases hs)
 clear hb
 go_enter Tryz.func14, Tryz.ntmps14
 go_wp2_with fail
 go_loopw [5] (fun t wr => ∃ i : Nat, i ≤ n ∧ t = .int .i64 i ∧ Hid (∀ j, j < i → stepB h l j = true) ∧ Below w.heap.size w wr) (fun t _ => n - (intOf t).toNat)
 case atStart => exact ⟨0, Nat.zero_le _, rfl, Lib.hid (fun _ h => absurd h (by omega)), fr_refl _⟩
 case round =>
  obtain ⟨i, hi, rfl, hall, hbw⟩ := hrel
  by_cases hlt : i < n
  ·have hrk := hr.keep hbw
   obtain ⟨ad, rfl, hab, ca⟩ := hrk.at_ hlt
   have i1 : 0 ≤ (i : Int) := by omega
   have i2 : (i : Int) < (n : Int) := by omega
   have HST := Lib.hid (show stepB h l i = true → ∀ j, j < i + 1 → stepB h l j = true from fun hs j hj => by
    by_cases e : j = i
    ·subst e; exact hs
    ·exact hall.out j (by omega))
   have HSN := Lib.hid (HNO.out i hlt)
   obtain ⟨x, hx⟩ : ∃ x, l[i]?.getD 0 = x := ⟨_, rfl⟩
   rw [hx] at ca
   have HSB := Lib.hid (show stepB h l i = (inB x 0 (h - 1) && (i == 0 || decide (l[i - 1]?.getD 0 < x))) from by unfold stepB; rw [hx])
   obtain ⟨wo, rfl⟩ : ∃ wo : World, wo = wr := ⟨_, rfl⟩
   clear hx hab
   cases hin : inB x 0 (h - 1)
   ·have hbf : b = false := HSN.out (by rw [HSB.out, hin]; rfl)
    subst hbf
    clear hr hrk
    go_wp2_with fail
    go_quiet (first | (go_at_call 72; refine Calls.quiet_of_same (rin2_is _ _ _ _ _ hin)))
    go_wp2_with fail
    go_ret
    exact ⟨rfl, fr_drewN hbw nq⟩
   ·by_cases h0 : i = 0
    ·have HS1 := Lib.hid (HST.out (by rw [HSB.out, hin, h0]; rfl))
     have q0 : decide ((0 : Int) < (i : Int)) = false := decide_eq_false (by omega)
     have q2 : decide (0 < i) = false := decide_eq_false (by omega)
     clear hr hrk h0
     go_wp2_with fail
     go_quiet (first | (go_at_call 72; refine Calls.quiet_of_same (rin2_is _ _ _ _ _ hin)))
     go_wp2_with fail
     refine ⟨⟨i + 1, hlt, by go_num, HS1, fr_drewN hbw nq⟩, ?_⟩
     simp [intOf]; omega
    ·obtain ⟨k, hk⟩ : ∃ k, i = k + 1 := ⟨i - 1, by omega⟩
     obtain ⟨ad', e, _, cb⟩ := hrk.at_ (show k < n by omega)
     cases e
     obtain ⟨y, hy⟩ : ∃ y, l[k]?.getD 0 = y := ⟨_, rfl⟩
     rw [hy] at cb
     have HSC := Lib.hid (show stepB h l i = (inB x 0 (h - 1) && decide (y < x)) from by rw [HSB.out, show i - 1 = k by omega, hy, show (i == 0) = false from beq_eq_false_iff_ne.2 h0]; rfl)
     have q0 : decide ((0 : Int) < (i : Int)) = true := decide_eq_true (by omega)
     have q2 : decide (0 < i) = true := decide_eq_true (by omega)
     have z1 : IntKind.i64.wrap ((i : Int) - 1) = (k : Int) := by rw [IntWalk.i64_in _ (by omega)]; omega
     have k1 : 0 ≤ (k : Int) := by omega
     have k2 : (k : Int) < (n : Int) := by omega
     clear hr hrk hy hk h0
     cases hxy : decide (y < x)
     ·have q1 : decide (x ≤ y) = true := by have := of_decide_eq_false hxy; exact decide_eq_true (by omega)
      have hbf : b = false := HSN.out (by rw [HSC.out, hin, hxy]; rfl)
      subst hbf
      clear hxy
      go_wp2_with fail
      go_quiet (first | (go_at_call 72; refine Calls.quiet_of_same (rin2_is _ _ _ _ _ hin)))
      go_wp2_with fail
      go_ret
      exact ⟨rfl, fr_drewN hbw nq⟩
     ·have q1 : decide (x ≤ y) = false := by have := of_decide_eq_true hxy; exact decide_eq_false (by omega)
      have HS1 := Lib.hid (HST.out (by rw [HSC.out, hin, hxy]; rfl))
      clear hxy
      go_wp2_with fail
      go_quiet (first | (go_at_call 72; refine Calls.quiet_of_same (rin2_is _ _ _ _ _ hin)))
      go_wp2_with fail
      refine ⟨⟨i + 1, hlt, by go_num, HS1, fr_drewN hbw nq⟩, ?_⟩
      simp [intOf]; omega
  ·obtain rfl : i = n := by omega
   have hbt : b = decide (0 < i) := by
    rw [← HB.out]
    unfold markB
    rw [List.all_eq_true.2 (fun j hj => hall.out j (by rw [← HL.out]; exact List.mem_range.1 hj)), HL.out, Bool.true_and]
   have HBT := Lib.hid hbt
   clear hr hbt
   go_wp2_with fail
   go_ret
   exact ⟨ret_bool (by rw [HBT.out]), hbw⟩
set_option maxRecDepth 100000 in
set_option maxHeartbeats 8000000 in
theorem turn_any (A : Option Addr) (n c s : Nat) (l : List Int) (w : World) (hr : Rd w A n l) (hn : 3 ≤ n ∧ n ≤ 24) (hs : s ≤ 24) :
  Calls Tryz.prog 17 #[.slice A n c, .int .i64 s] w fun e' w' => ∃ T d, e' = .returned (.slice T n d) ∧ Rd w' T n (turnL l s) ∧ Below w.heap.size w w' := by
 have HL := Lib.hid hr.len
 go_enter Tryz.func17, Tryz.ntmps17
 go_wp2_with fail
 go_loopw [5, 6] (fun v t wr => ∃ k : Nat, k ≤ n ∧ t = .int .i64 k ∧ Own wr w.heap.size v ((turnL l s).take k) ∧ Below w.heap.size w wr) (fun _ t _ => n - (intOf t).toNat)
 case atStart => exact ⟨0, Nat.zero_le _, rfl, Own.nil _ _, fr_refl _⟩
 case round =>
  obtain ⟨k, hk, rfl, hown, hbel⟩ := hrel
  have hsz := hbel.size
  have htl : ((turnL l s).take k).length = k := by rw [List.length_take, turnL_len, HL.out]; omega
  have HTL := Lib.hid htl
  by_cases hlt : k < n
  ·obtain ⟨m, hm⟩ : ∃ m, (k + s) % n = m := ⟨_, rfl⟩
   have hmn : m < n := by rw [← hm]; exact Nat.mod_lt _ (by omega)
   obtain ⟨ad, rfl, hab, ca⟩ := (hr.keep hbel).at_ hmn
   have i2 : (k : Int) < (n : Int) := by omega
   have m1 : 0 ≤ (m : Int) := by omega
   have m2 : (m : Int) < (n : Int) := by omega
   have z1 : IntKind.i64.wrap ((k : Int) + (s : Int)) = (k : Int) + (s : Int) := IntWalk.i64_in _ (by omega)
   have z2 : ((k : Int) + (s : Int)).tmod (n : Int) = (m : Int) := by
    rw [← hm, ← Int.natCast_add]
    rfl
   have z3 : IntKind.i64.wrap (m : Int) = (m : Int) := IntWalk.i64_in _ (by omega)
   have z4 : ((n : Int) == 0) = false := beq_eq_false_iff_ne.2 (by omega)
   have HT := Lib.hid (show (turnL l s).take (k + 1) = (turnL l s).take k ++ [l[m]?.getD 0] from by
    have hkl : k < (turnL l s).length := by rw [turnL_len, HL.out]; exact hlt
    rw [List.take_succ_eq_append_getElem hkl]
    congr 2
    have h1 := turnL_at (l := l) (s := s) (i := k) (by rw [HL.out]; exact hlt)
    rw [List.getElem?_eq_getElem hkl, HL.out, hm] at h1
    exact h1)
   obtain ⟨x, hx⟩ : ∃ x, l[m]?.getD 0 = x := ⟨_, rfl⟩
   rw [hx] at ca HT
   clear hm hx hr hab htl
   go_wp2_with (at_builtin; go_must (refine app_int rfl (.tmp 13) (.tmp 23) rfl w.heap.size _ ((turnL l s).take k) rfl rfl hown (by have := HTL.out; omega) hsz ?_); intro A1 c1 w1 hown1 hg1)
   have hbel1 : Below w.heap.size w w1 := (fr_alloc hbel _).grown hg1 (by simp; omega) (own_ge hown)
   rw [← HT.out] at hown1
   have hmin : min k (turnL l s).length = k := by rw [turnL_len, HL.out]; omega
   rw [HTL.out] at hown1
   refine ⟨⟨k + 1, hlt, by go_num, by rw [hmin]; exact hown1, hbel1⟩, ?_⟩
   simp [intOf]; omega
  ·obtain rfl : k = n := by omega
   obtain ⟨A1, c1, rfl⟩ := hown.form
   rw [List.take_of_length_le (by rw [turnL_len, HL.out]; exact Nat.le_refl _)] at hown ⊢
   have hl2 : (turnL l s).length = k := by rw [turnL_len, HL.out]
   rw [hl2] at hown ⊢
   have hrd := hown.rd
   clear htl hl2 HTL
   go_wp2_with fail
   go_ret
   exact ⟨A1, c1, rfl, hrd, hbel⟩
end Go.Proofs.YtkmiphabagoifaaGreatDoor
end

section
namespace Go.Proofs.YtkmiphabagoifaaGreatDoor
open Go.RowKit

set_option maxHeartbeats 400000 in
theorem pin_is (x lo hi : Int) (w : World) (b : Bool) (hb : inB x lo hi = b) :
  Calls Tryz.prog 73 #[.int .i64 x, .int .i64 lo, .int .i64 hi] w fun e w' => e = .returned (.bool b) ∧ w = w' := by
 subst hb
 by_cases h : lo ≤ x
 ·go_enter Tryz.func73, Tryz.ntmps73
  go_wp2
  go_ret
  exact ⟨ret_bool (by simp [inB, h]), rfl⟩
 ·go_enter Tryz.func73, Tryz.ntmps73
  go_wp2
  go_ret
  exact ⟨ret_bool (by simp only [inB]; rw [eq_comm, decide_eq_false_iff_not]; omega), rfl⟩
set_option maxRecDepth 100000 in
set_option maxHeartbeats 8000000 in
theorem divisor_is (g x y : Nat) (w : World) (hB : Blk w g 3 #[.int .i64 x, .int .i64 y]) (hx : x ≤ 1000) (hy : y ≤ 1000) :
  Calls Tryz.prog 74 #[.slice (some ⟨g, 0, none⟩) 2 2] w fun e' w' => e' = .returned (.int .i64 (Nat.gcd x y : Nat)) ∧ Below w.heap.size w w' := by
 obtain ⟨o, ho0, ho1, ho2⟩ : ∃ o : Nat → Nat, o 0 = 0 ∧ o 1 = x ∧ o 2 = Nat.gcd x y := ⟨fun k => if k = 0 then 0 else if k = 1 then x else Nat.gcd x y, rfl, rfl, rfl⟩
 have hgx : Nat.gcd x y ≤ 1000 := by
  rcases Nat.eq_zero_or_pos x with h | h
  ·rw [h, Nat.gcd_zero_left]; exact hy
  ·exact Nat.le_trans (Nat.gcd_le_left _ h) hx
 have HO2 := Lib.hid ho2
 have HST := Lib.hid (show ∀ k, k < 2 → ∃ v : Nat, v ≤ 1000 ∧ (#[.int .i64 x, .int .i64 y] : Array Value)[k]? = some (.int .i64 v) ∧ Nat.gcd (o k) v = o (k + 1) ∧ o k ≤ 1000 from fun k hk => by
  have h2 : k = 0 ∨ k = 1 := by omega
  rcases h2 with rfl | rfl
  ·exact ⟨x, hx, rfl, by rw [ho0, ho1, Nat.gcd_zero_left], by omega⟩
  ·exact ⟨y, hy, rfl, by rw [ho1, ho2], by omega⟩)
 have HO0 := Lib.hid ho0
 clear ho0 ho1 ho2 hx hy
 go_enter Tryz.func74, Tryz.ntmps74
 go_wp2_with fail
 go_loopw [3, 10] (fun v t wr => ∃ k : Nat, k ≤ 2 ∧ t = .int .i64 k ∧ v = .int .i64 (o k) ∧ Below w.heap.size w wr) (fun _ t _ => 2 - (intOf t).toNat)
 case atStart => exact ⟨0, Nat.zero_le _, rfl, by rw [HO0.out]; rfl, fr_refl _⟩
 case round =>
  obtain ⟨k, hk, rfl, rfl, hbw⟩ := hrel
  by_cases hlt : k < 2
  ·obtain ⟨v, hv, hcv, hq, hok⟩ := HST.out k hlt
   have hc := (hB.keep hbw).cell k
   rw [hcv] at hc
   have i1 : 0 ≤ (k : Int) := by omega
   have i2 : (k : Int) < 2 := by omega
   have z1 : IntKind.i64.wrap (-(v : Int)) = -(v : Int) := IntWalk.i64_in _ (by omega)
   have z2 : max (v : Int) (-(v : Int)) = (v : Int) := by omega
   have z3 : ¬ (v : Int) < -(v : Int) := by omega
   obtain ⟨p, hp⟩ : ∃ p, o k = p := ⟨_, rfl⟩
   rw [hp] at hq hok ⊢
   have HQ := Lib.hid hq
   clear hp hcv hq
   go_wp2_with fail
   go_loopw [6, 7] (fun u t wq => ∃ a b : Nat, u = .int .i64 a ∧ t = .int .i64 b ∧ a ≤ 1000 ∧ b ≤ 1000 ∧ Hid (Nat.gcd a b = Nat.gcd p v) ∧ Below w.heap.size w wq) (fun _ t _ => (intOf t).toNat)
   case atStart => exact ⟨p, v, rfl, rfl, hok, hv, Lib.hid rfl, hbw⟩
   case round =>
    clear hbw hc
    obtain ⟨a, b, rfl, rfl, ha, hb, HG, hbq⟩ := hrel
    by_cases h0 : b = 0
    ·subst h0
     have HE := Lib.hid (show o (k + 1) = a by rw [← HQ.out, ← HG.out, Nat.gcd_zero_right])
     go_wp2_with fail
     refine ⟨⟨k + 1, hlt, by go_num, by rw [HE.out], hbq⟩, ?_⟩
     simp [intOf]; omega
    ·have hp : (0 : Int) < (b : Int) := by omega
     have hp2 : decide ((0 : Int) < (b : Int)) = true := decide_eq_true hp
     have hne : ¬ (b : Int) = 0 := by omega
     have hm : (a : Int).tmod (b : Int) = ((a % b : Nat) : Int) := by rw [Int.tmod_eq_emod_of_nonneg (by omega)]; rfl
     have hl2 : a % b < b := Nat.mod_lt _ (by omega)
     have hg2 : Nat.gcd b (a % b) = Nat.gcd a b := by rw [Nat.gcd_comm b, ← Nat.gcd_rec, Nat.gcd_comm]
     have HG2 := Lib.hid hg2
     obtain ⟨z, hz⟩ : ∃ z, a % b = z := ⟨_, rfl⟩
     rw [hz] at hm hl2
     have hw1 : IntKind.i64.wrap (z : Int) = (z : Int) := IntWalk.i64_in _ (by omega)
     have HZ := Lib.hid hz
     clear hg2 h0 hz
     go_wp2_with fail
     go_quiet (fail)
     go_wp2_with fail
     go_roundw
     case rel => exact ⟨b, z, rfl, rfl, hb, by omega, Lib.hid (by rw [← HZ.out, HG2.out, HG.out]), fr_drewN hbq _⟩
     case measure => simp [intOf]; omega
  ·obtain rfl : k = 2 := by omega
   rw [HO2.out]
   go_wp2_with fail
   go_ret
   exact ⟨rfl, hbw⟩
theorem rdA {w : World} {A : Option Addr} {n : Nat} {xs : List Int} (h : Rd w A n xs) (hn : 0 < n) :
  ∃ b off, A = some ⟨b, off, none⟩ ∧ b < w.heap.size ∧ ∀ j, j < n → w.cell? ⟨b, off + j, none⟩ = some (.int .i64 (xs[j]?.getD 0)) := by
 obtain ⟨ad, e, hb, hc⟩ := h.2 hn
 obtain ⟨b, off, spot⟩ := ad
 have h0 := hc 0 hn
 cases spot with
 | none => exact ⟨b, off, e, hb, fun j hj => by have := hc j hj; rw [add_lit] at this; exact this⟩
 | some s =>
  exfalso
  simp only [Addr.add, if_true] at h0
  unfold World.cell? at h0
  split at h0 <;> simp at h0
theorem hasI_any (A : Option Addr) (n c : Nat) (xs : List Int) (x : Int) (w : World) (hr : Rd w A n xs) (hn : n ≤ 9223372036854775807) (b : Bool) (hb : xs.contains x = b) :
  Calls Tryz.prog 75 #[.slice A n c, .int .i64 x] w fun e' w' => e' = .returned (.bool b) ∧ w = w' := by
 subst hb
 by_cases h0 : n = 0
 ·subst h0
  have := hr.len
  obtain rfl : xs = [] := List.length_eq_zero_iff.1 this
  exact (Tryz.slices_Contains_int_empty A c x w).mono fun _ _ h => ⟨h.1, h.2.symm⟩
 ·obtain ⟨b0, off, rfl, hlt, hc⟩ := rdA hr (by omega)
  have hlen := hr.len
  have htake : xs.take n = xs := List.take_of_length_le (by omega)
  refine (Tryz.slices_Contains_int b0 off n c xs x w (by omega) hn (fun j hj => ?_)).mono ?_
  ·rw [hc j (by omega)]; simp
  ·rw [htake]; exact fun _ _ h => ⟨h.1, h.2.symm⟩
theorem gcdM_snoc (m0 : Int) (g : Nat) (l : List Int) (n : Int) : gcdM m0 g (l ++ [n]) = Nat.gcd (gcdM m0 g l) (n - m0).natAbs := by unfold gcdM; rw [List.foldl_append]; rfl
theorem step_lt {b K r k : Nat} (hr : r < b) : r + k * b < b * K ↔ k < K := by
 constructor
 ·intro h
  rcases Nat.lt_or_ge k K with h1 | h1
  ·exact h1
  ·have := Nat.mul_le_mul_left b h1
   rw [Nat.mul_comm k b] at h
   omega
 ·intro h
  have := Nat.mul_le_mul_left b (show k + 1 ≤ K from h)
  rw [Nat.mul_add, Nat.mul_one] at this
  rw [Nat.mul_comm k b]
  omega
set_option maxRecDepth 100000 in
set_option maxHeartbeats 16000000 in
theorem even_ok (A : Option Addr) (n c h : Nat) (ms : List Int) (w : World) (hr : Rd w A n ms) (hn : n ≤ 1000) (hh : 3 ≤ h ∧ h ≤ 24) (hm : markB h ms = true) :
  Calls Tryz.prog 15 #[.int .i64 h, .slice A n c] w fun e' w' => ∃ T d, e' = .returned (.tuple #[.int .i64 (h / gapM h ms : Nat), .slice T (freshM ms (remM h ms) (gapM h ms) (h / gapM h ms)).length d, .int .i64 0]) ∧ Rd w' T (freshM ms (remM h ms) (gapM h ms) (h / gapM h ms)).length (freshM ms (remM h ms) (gapM h ms) (h / gapM h ms)) ∧ Below w.heap.size w w' := by
 have hok := mark_ok hm
 have hlen := hr.len
 have hn1 : 0 < n := by have := hok.some; omega
 have hall : ∀ i, i < n → stepB h ms i = true := fun i hi => by
  unfold markB at hm
  rw [Bool.and_eq_true, List.all_eq_true] at hm
  exact hm.1 i (List.mem_range.2 (by omega))
 have hfit : ∀ i, i < n → 0 ≤ ms[i]?.getD 0 ∧ ms[i]?.getD 0 < (h : Int) := fun i hi => by
  have := hok.fit (ms[i]'(by omega)) (List.getElem_mem _)
  rw [show ms[i]?.getD 0 = ms[i]'(by omega) by simp [show i < ms.length by omega]]
  exact this
 obtain ⟨bA, off, rfl, hbl, hcA⟩ := rdA hr hn1
 obtain ⟨m0, hm0⟩ : ∃ m0, ms[0]?.getD 0 = m0 := ⟨_, rfl⟩
 have hge : ∀ i, i < n → m0 ≤ ms[i]?.getD 0 := fun i => by
  induction i with
  | zero => intro _; omega
  | succ i ih =>
   intro hi
   have hs := hall (i + 1) hi
   unfold stepB at hs
   rw [Bool.and_eq_true, show ((i + 1 : Nat) == 0) = false from rfl, Bool.false_or, decide_eq_true_eq, Nat.add_sub_cancel] at hs
   have := ih (by omega)
   omega
 have hhd : ms.headD 0 = m0 := by rw [← hm0]; cases ms <;> rfl
 have hgap : gapM h ms = gcdM m0 h ms := by unfold gapM; rw [hhd]
 have hm0f := hfit 0 hn1
 rw [hm0] at hm0f
 have hin0 : inB (h : Int) 1 120 = true := inB_yes (by omega)
 have hne0 : ((n : Int) == 0) = false := beq_eq_false_iff_ne.2 (by omega)
 have zh : IntKind.i64.wrap ((h : Int) - 1) = (h : Int) - 1 := IntWalk.i64_in _ (by omega)
 have hrem : remM h ms = m0.toNat % gapM h ms := by unfold remM; rw [hhd]
 have hdv := gap_dvd h ms
 have hrl := rem_lt ms (h := h) (by omega)
 have hbp := gap_pos ms (h := h) (by omega)
 obtain ⟨b, hbe⟩ : ∃ b, gapM h ms = b := ⟨_, rfl⟩
 obtain ⟨r, hre⟩ : ∃ r, remM h ms = r := ⟨_, rfl⟩
 rw [hbe] at hgap hrem hdv hrl hbp ⊢
 rw [hre] at hrem hrl ⊢
 obtain ⟨K, hK⟩ := hdv
 have hKe : h / b = K := by rw [hK, Nat.mul_div_cancel_left _ hbp]
 rw [hKe]
 have hK24 : K ≤ 24 := by
  have := Nat.mul_le_mul_right K hbp
  rw [Nat.one_mul, ← hK] at this
  omega
 have HSL := Lib.hid (fun k => show r + k * b < h ↔ k < K from by rw [hK]; exact step_lt hrl)
 have HFS := Lib.hid (fun k => freshM_succ ms r b k)
 have HFL := Lib.hid (fun k => freshM_len ms r b k)
 have z1 : m0.tmod (b : Int) = (r : Int) := by
  obtain ⟨q, hq⟩ : ∃ q : Nat, m0 = (q : Int) := ⟨m0.toNat, by omega⟩
  rw [hrem, hq]
  rfl
 have zq : (h : Int).tdiv (b : Int) = (K : Int) := by rw [← hKe]; rfl
 have hbh : b ≤ h := Nat.le_of_dvd (by omega) (hbe ▸ gap_dvd h ms)
 have HBE := Lib.hid hbe
 have HRE := Lib.hid hre
 clear hbe hre hKe hK
 have HL := Lib.hid hlen
 have HALL := Lib.hid hall
 have HFIT := Lib.hid hfit
 have HGE := Lib.hid hge
 have HGAP := Lib.hid hgap
 have HBD := Lib.hid (show ∀ k, 0 < gcdM m0 h (ms.take k) ∧ gcdM m0 h (ms.take k) ≤ 24 from fun k => ⟨gcdM_pos _ _ (by omega), Nat.le_trans (Nat.le_of_dvd (by omega) (gcdM_dvd m0 (ms.take k) h).1) hh.2⟩)
 have hca0 : w.cell? ⟨bA, off, none⟩ = some (.int .i64 m0) := by have := hcA 0 hn1; rw [hm0] at this; exact this
 have HM0 := Lib.hid hm0
 have HCA := Lib.hid (show ∀ j, j < n → ∀ W, Below w.heap.size w W → W.cell? ⟨bA, off + j, none⟩ = some (.int .i64 (ms[j]?.getD 0)) from fun j hj W hb => (hb.cell (p := ⟨bA, off + j, none⟩) hbl).trans (hcA j hj))
 have HR := Lib.hid hr
 clear hok hlen hall hfit hge hhd hgap hm hm0 hrem
 go_enter Tryz.func15, Tryz.ntmps15
 go_wp2_with fail
 refine (pin_is _ _ _ _ _ hin0).mono ?_
 rintro e w' ⟨rfl, rfl⟩
 go_wp2_with fail
 go_loopw [7, 23] (fun v t wr => ∃ k : Nat, k ≤ n ∧ t = .int .i64 k ∧ v = .int .i64 (gcdM m0 h (ms.take k) : Nat) ∧ Below w.heap.size w wr) (fun _ t _ => n - (intOf t).toNat)
 case atStart => exact ⟨0, Nat.zero_le _, rfl, rfl, fr_refl _⟩
 case round =>
  obtain ⟨k, hk, rfl, rfl, hbw⟩ := hrel
  by_cases hlt : k < n
  ·have hck := (hbw.cell (p := ⟨bA, off + k, none⟩) hbl).trans (hcA k hlt)
   have hc0 := (hbw.cell (p := ⟨bA, off, none⟩) hbl).trans hca0
   have hsz := hbw.size
   obtain ⟨q1, q2⟩ := HFIT.out k hlt
   have q3 := HGE.out k hlt
   have hstp := HALL.out k hlt
   have HTK := Lib.hid (show gcdM m0 h (ms.take (k + 1)) = Nat.gcd (gcdM m0 h (ms.take k)) (ms[k]?.getD 0 - m0).natAbs from by
    have hkl : k < ms.length := by rw [HL.out]; exact hlt
    rw [List.take_succ_eq_append_getElem hkl, gcdM_snoc, show ms[k]?.getD 0 = ms[k] by simp [hkl]])
   have hpos := HBD.out k
   obtain ⟨p, hp⟩ : ∃ p, gcdM m0 h (ms.take k) = p := ⟨_, rfl⟩
   rw [hp] at hpos HTK ⊢
   obtain ⟨x, hx⟩ : ∃ x, ms[k]?.getD 0 = x := ⟨_, rfl⟩
   have hpr : 0 < k → decide (x ≤ ms[k - 1]?.getD 0) = false := fun h0 => by
    unfold stepB at hstp
    rw [Bool.and_eq_true, show (k == 0) = false from beq_eq_false_iff_ne.2 (by omega), Bool.false_or, decide_eq_true_eq, hx] at hstp
    exact decide_eq_false (by omega)
   rw [hx] at hck q1 q2 q3 HTK
   obtain ⟨dd, hdd⟩ : ∃ dd : Nat, x - m0 = (dd : Int) := ⟨(x - m0).toNat, by omega⟩
   have hdn : (x - m0).natAbs = dd := by omega
   rw [hdn] at HTK
   have hin1 : inB x 0 ((h : Int) - 1) = true := inB_yes (by omega)
   have i1 : 0 ≤ (k : Int) := by omega
   have i2 : (k : Int) < (n : Int) := by omega
   have i3 : (0 : Int) < (n : Int) := by omega
   have z1 : IntKind.i64.wrap (x - m0) = (dd : Int) := by rw [hdd]; exact IntWalk.i64_in _ (by omega)
   have hd24 : dd ≤ 1000 := by omega
   have HPR := Lib.hid hpr
   clear hp hx hstp hdd hdn hr hpr hcA
   by_cases h0 : k = 0
   ·have d0 : decide ((0 : Int) < (k : Int)) = false := decide_eq_false (by omega)
    have d1 : decide (0 < k) = false := decide_eq_false (by omega)
    clear h0
    go_wp2_with fail
    refine (pin_is _ _ _ _ _ hin1).mono ?_
    rintro e w' ⟨rfl, rfl⟩
    go_wp2_with fail
    refine (divisor_is _ p dd _ (Blk.new _ _ _) (by omega) hd24).mono ?_
    rintro e w2 ⟨rfl, hb2⟩
    go_wp2_with fail
    refine ⟨⟨k + 1, hlt, by go_num, by rw [HTK.out], fr_call (fr_alloc hbw _) hb2⟩, ?_⟩
    simp [intOf]; omega
   ·obtain ⟨j, hj⟩ : ∃ j, k = j + 1 := ⟨k - 1, by omega⟩
    have hcj := HCA.out j (by omega) _ hbw
    have hpj := HPR.out (by omega)
    rw [show k - 1 = j by omega] at hpj
    have d0 : decide ((0 : Int) < (k : Int)) = true := decide_eq_true (by omega)
    have d1 : decide (0 < k) = true := decide_eq_true (by omega)
    have z2 : IntKind.i64.wrap ((k : Int) - 1) = (j : Int) := by rw [IntWalk.i64_in _ (by omega)]; omega
    have j1 : 0 ≤ (j : Int) := by omega
    have j2 : (j : Int) < (n : Int) := by omega
    generalize ms[j]?.getD 0 = y at hcj hpj
    clear h0 hj
    go_wp2_with fail
    refine (pin_is _ _ _ _ _ hin1).mono ?_
    rintro e w' ⟨rfl, rfl⟩
    go_wp2_with fail
    refine (divisor_is _ p dd _ (Blk.new _ _ _) (by omega) hd24).mono ?_
    rintro e w2 ⟨rfl, hb2⟩
    go_wp2_with fail
    refine ⟨⟨k + 1, hlt, by go_num, by rw [HTK.out], fr_call (fr_alloc hbw _) hb2⟩, ?_⟩
    simp [intOf]; omega
  ·obtain rfl : k = n := by omega
   have hc0 := (hbw.cell (p := ⟨bA, off, none⟩) hbl).trans hca0
   have hpos := HBD.out k
   have hge : gcdM m0 h (ms.take k) = b := by rw [List.take_of_length_le (by rw [HL.out]; exact Nat.le_refl _), HGAP.out]
   rw [hge]
   have z2 : ((b : Int) == 0) = false := beq_eq_false_iff_ne.2 (by omega)
   have z3 : IntKind.i64.wrap (r : Int) = (r : Int) := IntWalk.i64_in _ (by omega)
   have i3 : (0 : Int) < (k : Int) := by omega
   have zk : IntKind.i64.wrap (K : Int) = (K : Int) := IntWalk.i64_in _ (by omega)
   clear hge hcA hr
   go_wp2_with fail
   go_loopw [10, 11] (fun v t wq => ∃ j y : Nat, j ≤ K ∧ t = .int .i64 y ∧ Hid (y = r + j * b) ∧ (y < h ↔ j < K) ∧ y ≤ 48 ∧ Own wq w.heap.size v (freshM ms r b j) ∧ Below w.heap.size w wq) (fun _ t _ => h + b - (intOf t).toNat)
   case atStart => exact ⟨0, r, Nat.zero_le _, rfl, Lib.hid (by simp), by have := HSL.out 0; simpa using this, by omega, Own.nil _ _, hbw⟩
   case round =>
    clear hbw hc0
    obtain ⟨j, y, hj, rfl, HY, hyl, hy48, hown, hbq⟩ := hrel
    have hsz := hbq.size
    have hfs := HFS.out j
    rw [← HY.out] at hfs
    have hfl := HFL.out j
    by_cases hlt : j < K
    ·have hyh : (y : Int) < (h : Int) := by have := hyl.2 hlt; omega
     have hyn := hyl.2 hlt
     have z4 : IntKind.i64.wrap ((y : Int) + (b : Int)) = ((y + b : Nat) : Int) := by rw [IntWalk.i64_in _ (by omega)]; omega
     have HY2 := Lib.hid (show y + b = r + (j + 1) * b from by rw [HY.out, Nat.add_mul, Nat.one_mul]; omega)
     have hyl2 : y + b < h ↔ j + 1 < K := by rw [HY2.out]; exact HSL.out (j + 1)
     have hcon := fun bb (hbb : ms.contains (y : Int) = bb) => hasI_any (some ⟨bA, off, none⟩) k c ms (y : Int) wr (HR.out.keep hbq) (by omega) bb hbb
     clear hyl
     cases hc : ms.contains (y : Int)
     ·rw [hc, if_neg (by simp)] at hfs
      have hco := hcon _ hc
      have HF := Lib.hid hfs
      clear hcon hc hfs
      go_wp2_with fail
      refine hco.mono ?_
      rintro e w' ⟨rfl, rfl⟩
      go_wp2_with (at_builtin; go_must (refine app_int rfl (.tmp 70) (.tmp 72) rfl w.heap.size _ (freshM ms r b j) rfl rfl hown (by omega) hsz ?_); intro A1 c1 w3 hown3 hg3)
      have hbq3 : Below w.heap.size w w3 := (fr_alloc hbq _).grown hg3 (by simp; omega) (own_ge hown)
      rw [← HF.out] at hown3
      refine ⟨⟨j + 1, y + b, hlt, rfl, HY2, hyl2, by omega, hown3, hbq3⟩, ?_⟩
      simp [intOf]; omega
     ·rw [hc, if_pos rfl] at hfs
      have hco := hcon _ hc
      have HF := Lib.hid hfs
      clear hcon hc hfs
      go_wp2_with fail
      refine hco.mono ?_
      rintro e w' ⟨rfl, rfl⟩
      go_wp2_with fail
      refine ⟨⟨j + 1, y + b, hlt, rfl, HY2, hyl2, by omega, by rw [HF.out]; exact hown, hbq⟩, ?_⟩
      simp [intOf]; omega
    ·obtain rfl : j = K := by omega
     have hyh : ¬ (y : Int) < (h : Int) := by omega
     obtain ⟨T, d, rfl⟩ := hown.form
     clear hfs hfl
     go_wp2_with fail
     go_ret3
     exact ⟨T, ⟨d, rfl⟩, hown.rd, hbq⟩
end Go.Proofs.YtkmiphabagoifaaGreatDoor
end

section
namespace Go.Proofs.YtkmiphabagoifaaGreatDoor
open Go.RowKit

/-- a wheel of a plate -/
structure PWh where
 centre : Int
 sleeve : Int
 layer : Int
 teeth : Int
def PWh.cells (p : PWh) : List Value := [.int .i64 p.centre, .int .i64 p.sleeve, .int .i64 p.layer, .int .i64 p.teeth]
theorem pwh_at {w : World} {A : Option Addr} {ws : List PWh} (h : RdS w A 4 (ws.map PWh.cells)) {k : Nat} (hk : k < ws.length) :
  ∃ ad, A = some ad ∧ ad.block < w.heap.size ∧ (w.cell? (ad.add (k * 4)) = some (.int .i64 ws[k].centre) ∧ w.cell? ⟨(ad.add (k * 4)).block, (ad.add (k * 4)).off + 1, none⟩ = some (.int .i64 ws[k].sleeve)) ∧ w.cell? ⟨(ad.add (k * 4)).block, (ad.add (k * 4)).off + 2, none⟩ = some (.int .i64 ws[k].layer) ∧ w.cell? ⟨(ad.add (k * 4)).block, (ad.add (k * 4)).off + 3, none⟩ = some (.int .i64 ws[k].teeth) := by
 obtain ⟨ad, e, hb, h0, h1⟩ := h.nth (i := k) (r := ws[k].cells) (by simp [hk])
 exact ⟨ad, e, hb, ⟨h0 _ rfl, h1 0 _ rfl⟩, h1 1 _ rfl, h1 2 _ rfl⟩
theorem square_is (x : Int) (w : World) (hx : -1000 ≤ x ∧ x ≤ 1000) :
  Calls Tryz.prog 217 #[.int .i64 x] w fun e w' => e = .returned (.int .i64 (x * x)) ∧ w' = w := by
 have z1 : IntKind.i64.wrap (x * x) = x * x := IntWalk.i64_in _ (by
  have h1 : (x * x).natAbs ≤ 1000 * 1000 := by rw [Int.natAbs_mul]; exact Nat.mul_le_mul (by omega) (by omega)
  omega)
 go_enter Tryz.func217, Tryz.ntmps217
 go_wp2_with fail
 go_ret
 exact ⟨rfl, rfl⟩
set_option maxRecDepth 100000 in
set_option maxHeartbeats 4000000 in
theorem level_is (pw ph pp pg po : Int) (A B M : Option Addr) (n nc m mc k kc a b : Nat) (mp gn : Value) (ws : List PWh) (w : World) (hB : RdS w B 4 (ws.map PWh.cells)) (_hm : ws.length = m) (ha : a < m) (hb : b < m) (x y : PWh) (hx : ws[a]? = some x) (hy : ws[b]? = some y) :
  Calls Tryz.prog 214 #[.agg #[.int .i64 pw, .int .i64 ph, .int .i64 pp, .int .i64 pg, .int .i64 po, .slice A n nc, .slice B m mc, .slice M k kc, mp, gn], .int .i64 a, .int .i64 b] w fun e w' => e = .returned (.bool (x.layer == y.layer)) ∧ Below w.heap.size w w' := by
 have hb0 := fr_alloc (fr_refl w) (.cells #[.int .i64 pw, .int .i64 ph, .int .i64 pp, .int .i64 pg, .int .i64 po, .slice A n nc, .slice B m mc, .slice M k kc, mp, gn] 151)
 have hX := Blk.new w 151 #[.int .i64 pw, .int .i64 ph, .int .i64 pp, .int .i64 pg, .int .i64 po, .slice A n nc, .slice B m mc, .slice M k kc, mp, gn]
 obtain ⟨w1, hw1⟩ : ∃ w1, w.alloc (.cells #[.int .i64 pw, .int .i64 ph, .int .i64 pp, .int .i64 pg, .int .i64 po, .slice A n nc, .slice B m mc, .slice M k kc, mp, gn] 151) = w1 := ⟨_, rfl⟩
 rw [hw1] at hb0 hX
 replace hB := hB.keep hb0
 obtain ⟨hal, hxe⟩ := List.getElem?_eq_some_iff.1 hx
 obtain ⟨hbl, hye⟩ := List.getElem?_eq_some_iff.1 hy
 obtain ⟨ad, rfl, hab, ⟨ca0, ca1⟩, ca2, ca3⟩ := pwh_at hB hal
 obtain ⟨ae, e, hae, ⟨cb0, cb1⟩, cb2, cb3⟩ := pwh_at hB hbl
 cases e
 rw [hxe] at ca0 ca1 ca2 ca3
 rw [hye] at cb0 cb1 cb2 cb3
 have i1 : 0 ≤ (a : Int) := by omega
 have i2 : (a : Int) < (m : Int) := by omega
 have i3 : 0 ≤ (b : Int) := by omega
 have i4 : (b : Int) < (m : Int) := by omega
 clear hx hy hxe hye hB _hm
 go_enter Tryz.func214, Tryz.ntmps214
 go_upto_region 1 with (fail)
 (try rw [hw1])
 have hcX := fun j => hX.cell j
 have hlX := hX.lt
 clear hw1
 go_quiet (fail)
 go_wp2_with fail
 go_ret
 exact ⟨rfl, fr_drewN hb0 nq⟩
set_option maxRecDepth 100000 in
set_option maxHeartbeats 4000000 in
theorem centred_is (pw ph pp pg po : Int) (A B M : Option Addr) (n nc m mc k kc a b : Nat) (mp gn : Value) (ws : List PWh) (w : World) (hB : RdS w B 4 (ws.map PWh.cells)) (_hm : ws.length = m) (ha : a < m) (hb : b < m) (x y : PWh) (hx : ws[a]? = some x) (hy : ws[b]? = some y) :
  Calls Tryz.prog 215 #[.agg #[.int .i64 pw, .int .i64 ph, .int .i64 pp, .int .i64 pg, .int .i64 po, .slice A n nc, .slice B m mc, .slice M k kc, mp, gn], .int .i64 a, .int .i64 b] w fun e w' => e = .returned (.bool (x.centre == y.centre)) ∧ Below w.heap.size w w' := by
 have hb0 := fr_alloc (fr_refl w) (.cells #[.int .i64 pw, .int .i64 ph, .int .i64 pp, .int .i64 pg, .int .i64 po, .slice A n nc, .slice B m mc, .slice M k kc, mp, gn] 151)
 have hX := Blk.new w 151 #[.int .i64 pw, .int .i64 ph, .int .i64 pp, .int .i64 pg, .int .i64 po, .slice A n nc, .slice B m mc, .slice M k kc, mp, gn]
 obtain ⟨w1, hw1⟩ : ∃ w1, w.alloc (.cells #[.int .i64 pw, .int .i64 ph, .int .i64 pp, .int .i64 pg, .int .i64 po, .slice A n nc, .slice B m mc, .slice M k kc, mp, gn] 151) = w1 := ⟨_, rfl⟩
 rw [hw1] at hb0 hX
 replace hB := hB.keep hb0
 obtain ⟨hal, hxe⟩ := List.getElem?_eq_some_iff.1 hx
 obtain ⟨hbl, hye⟩ := List.getElem?_eq_some_iff.1 hy
 obtain ⟨ad, rfl, hab, ⟨ca0, ca1⟩, ca2, ca3⟩ := pwh_at hB hal
 obtain ⟨ae, e, hae, ⟨cb0, cb1⟩, cb2, cb3⟩ := pwh_at hB hbl
 cases e
 rw [hxe] at ca0 ca1 ca2 ca3
 rw [hye] at cb0 cb1 cb2 cb3
 have i1 : 0 ≤ (a : Int) := by omega
 have i2 : (a : Int) < (m : Int) := by omega
 have i3 : 0 ≤ (b : Int) := by omega
 have i4 : (b : Int) < (m : Int) := by omega
 clear hx hy hxe hye hB _hm
 go_enter Tryz.func215, Tryz.ntmps215
 go_upto_region 1 with (fail)
 (try rw [hw1])
 have hcX := fun j => hX.cell j
 have hlX := hX.lt
 clear hw1
 go_quiet (fail)
 go_wp2_with fail
 go_ret
 exact ⟨rfl, fr_drewN hb0 nq⟩
set_option maxRecDepth 100000 in
set_option maxHeartbeats 4000000 in
theorem lsum_is (pw ph pp pg po : Int) (A B M : Option Addr) (n nc m mc k kc a b : Nat) (mp gn : Value) (ws : List PWh) (w : World) (hB : RdS w B 4 (ws.map PWh.cells)) (_hm : ws.length = m) (ha : a < m) (hb : b < m) (x y : PWh) (hx : ws[a]? = some x) (hy : ws[b]? = some y) (hs : (0 ≤ x.teeth ∧ x.teeth ≤ 50) ∧ 0 ≤ y.teeth ∧ y.teeth ≤ 50) :
  Calls Tryz.prog 212 #[.agg #[.int .i64 pw, .int .i64 ph, .int .i64 pp, .int .i64 pg, .int .i64 po, .slice A n nc, .slice B m mc, .slice M k kc, mp, gn], .int .i64 a, .int .i64 b] w fun e w' => e = .returned (.int .i64 (x.teeth + y.teeth)) ∧ Below w.heap.size w w' := by
 have hb0 := fr_alloc (fr_refl w) (.cells #[.int .i64 pw, .int .i64 ph, .int .i64 pp, .int .i64 pg, .int .i64 po, .slice A n nc, .slice B m mc, .slice M k kc, mp, gn] 151)
 have hX := Blk.new w 151 #[.int .i64 pw, .int .i64 ph, .int .i64 pp, .int .i64 pg, .int .i64 po, .slice A n nc, .slice B m mc, .slice M k kc, mp, gn]
 obtain ⟨w1, hw1⟩ : ∃ w1, w.alloc (.cells #[.int .i64 pw, .int .i64 ph, .int .i64 pp, .int .i64 pg, .int .i64 po, .slice A n nc, .slice B m mc, .slice M k kc, mp, gn] 151) = w1 := ⟨_, rfl⟩
 rw [hw1] at hb0 hX
 replace hB := hB.keep hb0
 obtain ⟨hal, hxe⟩ := List.getElem?_eq_some_iff.1 hx
 obtain ⟨hbl, hye⟩ := List.getElem?_eq_some_iff.1 hy
 obtain ⟨ad, rfl, hab, ⟨ca0, ca1⟩, ca2, ca3⟩ := pwh_at hB hal
 obtain ⟨ae, e, hae, ⟨cb0, cb1⟩, cb2, cb3⟩ := pwh_at hB hbl
 cases e
 rw [hxe] at ca0 ca1 ca2 ca3
 rw [hye] at cb0 cb1 cb2 cb3
 have i1 : 0 ≤ (a : Int) := by omega
 have i2 : (a : Int) < (m : Int) := by omega
 have i3 : 0 ≤ (b : Int) := by omega
 have i4 : (b : Int) < (m : Int) := by omega
 have z1 : IntKind.i64.wrap (x.teeth + y.teeth) = x.teeth + y.teeth := IntWalk.i64_in _ (by omega)
 clear hx hy hxe hye hB _hm
 go_enter Tryz.func212, Tryz.ntmps212
 go_upto_region 1 with (fail)
 (try rw [hw1])
 have hcX := fun j => hX.cell j
 have hlX := hX.lt
 clear hw1
 go_quiet (fail)
 go_wp2_with fail
 go_ret
 exact ⟨rfl, fr_drewN hb0 nq⟩
end Go.Proofs.YtkmiphabagoifaaGreatDoor
end
