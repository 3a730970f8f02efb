/- The moon of the chapter: new moons and ages, in plain numbers. Walks: what is as defined (calendars, realms, moons); weekdays; the moon's age. Rows of numbers that the call itself makes by append; blocks that are known whole. Walk: a calendar with its moon is opened. Walks: whether any date is one of a calendar; Day. How many first days are less than a day. Walk: the date of a day. -/
import Derived.Test.YtkmiphabagoifaaGreatDoorMT1
import Derived.OwnWalk
import Derived.Laws.Rows
import Derived.Deep.DeepMust
import Derived.Test.YtkmiphabagoifaaGreatDoorShelf
section
namespace Go.Proofs.YtkmiphabagoifaaGreatDoor.Dl
/-- the k-th new moon -/
def newDay (num den add k : Int) : Int := (k * num + add) / den
/-- the number of the last new moon up to a day -/
def lastK (num den add d : Int) : Int := ((d + 1) * den - 1 - add) / num
/-- the moon's age -/
def ageOf (num den add d : Int) : Int := d - newDay num den add (lastK num den add d)

structure MoonOk (num den add : Int) : Prop where
 d1 : 1 ≤ den
 d2 : den ≤ 1000
 n1 : 29 * den ≤ num
 n2 : num ≤ 30 * den
 a1 : 0 ≤ add
 a2 : add ≤ num - 1

section
variable {num den add : Int} (h : MoonOk num den add)
include h

theorem MoonOk.npos : 0 < num := by have := h.d1; have := h.n1; omega

theorem new_le_iff (k d : Int) : newDay num den add k ≤ d ↔ k ≤ lastK num den add d := by
 have hd : 0 < den := by have := h.d1; omega
 unfold newDay lastK
 rw [Int.le_ediv_iff_mul_le h.npos, ← Int.lt_add_one_iff, Int.ediv_lt_iff_lt_mul hd]
 omega

theorem new_last (d : Int) : newDay num den add (lastK num den add d) ≤ d := (new_le_iff h _ _).2 (Int.le_refl _)
theorem new_next (d : Int) : d < newDay num den add (lastK num den add d + 1) := by
 have := (new_le_iff h (lastK num den add d + 1) d)
 omega

theorem new_gap (k : Int) : newDay num den add k + 29 ≤ newDay num den add (k + 1) ∧ newDay num den add (k + 1) ≤ newDay num den add k + 30 := by
 have hd : 0 < den := by have := h.d1; omega
 have h1 := h.n1
 have h2 := h.n2
 unfold newDay
 have e : (k + 1) * num = k * num + num := by rw [Int.add_mul]; omega
 rw [e]
 have a1 : (k * num + add + den * 29) / den = (k * num + add) / den + 29 := Int.add_mul_ediv_left _ _ (by omega)
 have a2 : (k * num + add + den * 30) / den = (k * num + add) / den + 30 := Int.add_mul_ediv_left _ _ (by omega)
 rw [← a1, ← a2]
 constructor <;> apply Int.ediv_le_ediv hd <;> omega

theorem last_unique {k d : Int} (h1 : newDay num den add k ≤ d) (h2 : d < newDay num den add (k + 1)) : lastK num den add d = k := by
 have a := (new_le_iff h k d).1 h1
 have b : ¬ (k + 1 ≤ lastK num den add d) := fun hh => by have := (new_le_iff h (k+1) d).2 hh; omega
 omega

theorem age_range (d : Int) : 0 ≤ ageOf num den add d ∧ ageOf num den add d ≤ 29 := by
 have a := new_last h d
 have b := new_next h d
 have c := new_gap h (lastK num den add d)
 unfold ageOf
 omega

theorem age_next (d : Int) : ageOf num den add (d + 1) = ageOf num den add d + 1 ∨ (ageOf num den add (d + 1) = 0 ∧ 28 ≤ ageOf num den add d) := by
 have a := new_last h d
 have b := new_next h d
 have c := new_gap h (lastK num den add d)
 have c' := new_gap h (lastK num den add d + 1)
 by_cases e : newDay num den add (lastK num den add d + 1) = d + 1
 ·right
  have := last_unique h (k := lastK num den add d + 1) (d := d + 1) (by omega) (by omega)
  unfold ageOf
  rw [this]
  omega
 ·left
  have := last_unique h (k := lastK num den add d) (d := d + 1) (by omega) (by omega)
  unfold ageOf
  rw [this]
  omega

theorem new_period (k : Int) : newDay num den add (k + den) = newDay num den add k + num := by
 have hd : den ≠ 0 := by have := h.d1; omega
 unfold newDay
 have e : (k + den) * num + add = k * num + add + den * num := by rw [Int.add_mul]; omega
 rw [e, Int.add_mul_ediv_left _ _ hd]

theorem age_period (d : Int) : ageOf num den add (d + num) = ageOf num den add d := by
 have a := new_last h d
 have b := new_next h d
 have p := new_period h (lastK num den add d)
 have p' := new_period h (lastK num den add d + 1)
 have := last_unique h (k := lastK num den add d + den) (d := d + num) (by omega) (by
  have e : lastK num den add d + den + 1 = lastK num den add d + 1 + den := by omega
  rw [e]; omega)
 unfold ageOf
 rw [this]
 omega

theorem age_at (k i : Int) (h0 : 0 ≤ i) (h1 : i < 29) : ageOf num den add (newDay num den add k + i) = i := by
 have g := new_gap h k
 have := last_unique h (k := k) (d := newDay num den add k + i) (by omega) (by omega)
 unfold ageOf
 rw [this]
 omega
end

/-- the first day from n on, on which the moon's age is 13 -/
def fullOf (num den add n : Int) : Int :=
 if n ≤ newDay num den add (lastK num den add n) + 13 then newDay num den add (lastK num den add n) + 13 else newDay num den add (lastK num den add n + 1) + 13
section
variable {num den add : Int} (h : MoonOk num den add)
include h
theorem full_bounds (n : Int) : n ≤ fullOf num den add n ∧ fullOf num den add n ≤ n + 29 := by
 have a := new_last h n
 have b := new_next h n
 have c := new_gap h (lastK num den add n)
 unfold fullOf
 split <;> omega
theorem age_full (n : Int) : ageOf num den add (fullOf num den add n) = 13 := by
 unfold fullOf
 split
 ·exact age_at h _ 13 (by omega) (by omega)
 ·exact age_at h _ 13 (by omega) (by omega)
theorem not_full (n j : Int) (h1 : n ≤ j) (h2 : j < fullOf num den add n) : ageOf num den add j ≠ 13 := by
 have a := new_last h n
 have b := new_next h n
 have c := new_gap h (lastK num den add n)
 have c' := new_gap h (lastK num den add n + 1)
 unfold fullOf at h2
 split at h2
 ·have := last_unique h (k := lastK num den add n) (d := j) (by omega) (by omega)
  unfold ageOf
  rw [this]
  omega
 ·by_cases hj : j < newDay num den add (lastK num den add n + 1)
  ·have := last_unique h (k := lastK num den add n) (d := j) (by omega) (by omega)
   unfold ageOf
   rw [this]
   omega
  ·have := last_unique h (k := lastK num den add n + 1) (d := j) (by omega) (by omega)
   unfold ageOf
   rw [this]
   omega
end
end Go.Proofs.YtkmiphabagoifaaGreatDoor.Dl
end

section
namespace Go.Proofs.YtkmiphabagoifaaGreatDoor
open Go.RowKit Dl

def okCyc : Int → List Int → Bool
 | _, [] => true
 | last, x :: xs => inB x (last + 1) 1000 && okCyc x xs
def calOk (e : Int) (cs : List Int) : Bool := inB e 0 1000 && inB (cs.length : Int) 1 3 && okCyc 1 cs

theorem okCyc_pos : ∀ (cs : List Int) (last : Int), 1 ≤ last → okCyc last cs = true → ∀ k, k < cs.length → last < cs[k]?.getD 0 ∧ cs[k]?.getD 0 ≤ 1000
 | [], _, _, _ => fun k hk => absurd hk (by simp)
 | x :: xs, last, hl, h => by
  simp only [okCyc, Bool.and_eq_true] at h
  obtain ⟨h1, h2⟩ := h
  have h1' := inB_iff.1 h1
  intro k hk
  cases k with
  | zero => simp; omega
  | succ k =>
   have := okCyc_pos xs x (by omega) h2 k (by simpa using hk)
   simp only [List.getElem?_cons_succ]
   omega
theorem calOk_parts {e : Int} {cs : List Int} (h : calOk e cs = true) : (0 ≤ e ∧ e ≤ 1000) ∧ (1 ≤ cs.length ∧ cs.length ≤ 3) ∧ Cyc cs := by
 unfold calOk at h
 simp only [Bool.and_eq_true] at h
 obtain ⟨⟨h1, h2⟩, h3⟩ := h
 have h1' := inB_iff.1 h1
 have h2' := inB_iff.1 h2
 refine ⟨h1', by omega, fun k hk => ?_⟩
 have := okCyc_pos cs 1 (by omega) h3 k hk
 omega

theorem okCyc_drop (cs : List Int) (last : Int) (k : Nat) (hk : k < cs.length) (hb : inB (cs[k]?.getD 0) (last + 1) 1000 = true) : okCyc last (cs.drop k) = okCyc (cs[k]?.getD 0) (cs.drop (k + 1)) := by
 rw [List.drop_eq_getElem_cons hk]
 have e : cs[k]?.getD 0 = cs[k] := by simp [hk]
 rw [e] at hb
 simp only [okCyc, hb, Bool.true_and, e]
theorem okCyc_drop_no (cs : List Int) (last : Int) (k : Nat) (hk : k < cs.length) (hb : inB (cs[k]?.getD 0) (last + 1) 1000 = false) : okCyc last (cs.drop k) = false := by
 rw [List.drop_eq_getElem_cons hk]
 have e : cs[k]?.getD 0 = cs[k] := by simp [hk]
 rw [e] at hb
 simp only [okCyc, hb, Bool.false_and]

set_option maxHeartbeats 1000000 in
theorem isCalendar_is (A : Option Addr) (n c : Nat) (cs : List Int) (e : Int) (w : World) (hr : Rd w A n cs) (hn : n ≤ 9223372036854775807) (b : Bool) (hb : calOk e cs = b) :
  Calls Tryz.prog 172 #[.agg #[.int .i64 e, .slice A n c]] w fun e' w' => e' = .returned (.bool b) ∧ Below w.heap.size w w' := by
 subst hb
 have hlen := hr.len
 by_cases he : inB e 0 1000 = true
 ·by_cases hl : inB (n : Int) 1 3 = true
  ·have hl2 := inB_iff.1 hl
   have hc : calOk e cs = okCyc 1 cs := by unfold calOk; rw [hlen, he, hl]; rfl
   rw [hc]
   clear hc
   have hw' := hr.alloc (Obj.cells #[.int .i64 e, .slice A n c] 30)
   go_enter Tryz.func172, Tryz.ntmps172
   go_wp2_with (first | (go_at_call 227; (with_reducible refine (in_is _ _ _ _ _ he).mono ?_); rintro e w' ⟨rfl, rfl⟩) | (go_at_call 227; (with_reducible refine (in_is _ _ _ _ _ hl).mono ?_); rintro e w' ⟨rfl, rfl⟩))
   go_loop [3, 20] (fun b i => ∃ (k : Nat) (last : Int), k ≤ n ∧ i = .int .i64 k ∧ b = .int .i64 last ∧ 1 ≤ last ∧ last ≤ 1000 ∧ okCyc 1 cs = okCyc last (cs.drop k)) (fun _ i => n - (intOf i).toNat)
   case atStart => exact ⟨0, 1, Nat.zero_le _, rfl, rfl, by omega, by omega, rfl⟩
   case round =>
    obtain ⟨k, last, hk, rfl, rfl, hl1, hl3, hq⟩ := hrel
    have HQ := Lib.hid hq
    clear hq
    by_cases hlt : k < n
    ·obtain ⟨ad, rfl, hb, hc⟩ := hw'.at_ hlt
     have H1 := Lib.hid (okCyc_drop cs last k (by omega))
     have H2 := Lib.hid (okCyc_drop_no cs last k (by omega))
     generalize hx : cs[k]?.getD 0 = x at *
     clear hx
     by_cases hi : inB x (last + 1) 1000 = true
     ·have hi2 := inB_iff.1 hi
      go_wp2_with (go_at_call 227; refine (in_is _ _ _ _ _ hi).mono ?_; rintro e w' ⟨rfl, rfl⟩)
      go_round
      case rel => exact ⟨k + 1, x, by omega, by go_num, rfl, by omega, by omega, by rw [HQ.out, H1.out hi]⟩
      case measure => simp [intOf]; omega
     ·have hi3 : inB x (last + 1) 1000 = false := by simpa using hi
      go_wp2_with (go_at_call 227; refine (in_is _ _ _ _ _ hi3).mono ?_; rintro e w' ⟨rfl, rfl⟩)
      go_ret
      exact ⟨ret_bool (by rw [HQ.out, H2.out hi3]), fr_alloc (fr_refl _) _⟩
    ·go_wp2
     go_ret
     obtain rfl : k = n := by omega
     refine ⟨ret_bool ?_, fr_alloc (fr_refl _) _⟩
     rw [HQ.out, List.drop_of_length_le (by omega)]
     rfl
  ·have hl3 : inB (n : Int) 1 3 = false := by simpa using hl
   have hc : calOk e cs = false := by unfold calOk; rw [hlen, hl3]; simp
   rw [hc]
   go_enter Tryz.func172, Tryz.ntmps172
   go_wp2_with (first | (go_at_call 227; (with_reducible refine (in_is _ _ _ _ _ he).mono ?_); rintro e w' ⟨rfl, rfl⟩) | (go_at_call 227; (with_reducible refine (in_is _ _ _ _ _ hl3).mono ?_); rintro e w' ⟨rfl, rfl⟩))
   go_ret
   exact ⟨rfl, fr_alloc (fr_refl _) _⟩
 ·have he3 : inB e 0 1000 = false := by simpa using he
  have hc : calOk e cs = false := by unfold calOk; rw [he3]; simp
  rw [hc]
  go_enter Tryz.func172, Tryz.ntmps172
  go_wp2_with (go_at_call 227; refine (in_is _ _ _ _ _ he3).mono ?_; rintro e w' ⟨rfl, rfl⟩)
  go_ret
  exact ⟨rfl, fr_alloc (fr_refl _) _⟩


def wkd (d : Int) : Int := (d + 4) % 7
set_option maxHeartbeats 400000 in
theorem weekday_any (d : Int) (w : World) (h0 : -4 ≤ d) (h1 : d ≤ 100000000) :
  Calls Tryz.prog 253 #[.int .i64 d] w fun e' w' => e' = .returned (.int .i64 (wkd d)) ∧ w = w' := by
 go_enter Tryz.func253, Tryz.ntmps253
 go_wp2
 go_ret
 exact ⟨rfl, rfl⟩

def moonB (num den add : Int) : Bool := inB den 1 1000 && inB num (29 * den) (30 * den) && inB add 0 (num - 1)
theorem moonB_ok {num den add : Int} (h : moonB num den add = true) : MoonOk num den add := by
 unfold moonB at h
 simp only [Bool.and_eq_true] at h
 obtain ⟨⟨h1, h2⟩, h3⟩ := h
 have h1 := inB_iff.1 h1
 have h2 := inB_iff.1 h2
 have h3 := inB_iff.1 h3
 exact ⟨h1.1, h1.2, h2.1, h2.2, h3.1, h3.2⟩

set_option maxHeartbeats 1000000 in
theorem isMoon_is (num den add : Int) (w : World) (b : Bool) (hb : moonB num den add = b) :
  Calls Tryz.prog 173 #[.agg #[.int .i64 num, .int .i64 den, .int .i64 add]] w fun e' w' => e' = .returned (.bool b) ∧ Below w.heap.size w w' := by
 subst hb
 by_cases h1 : inB den 1 1000 = true
 ·have h1' := inB_iff.1 h1
  by_cases h2 : inB num (29 * den) (30 * den) = true
  ·have h2' := inB_iff.1 h2
   have hc : moonB num den add = inB add 0 (num - 1) := by unfold moonB; rw [h1, h2]; rfl
   rw [hc]
   go_enter Tryz.func173, Tryz.ntmps173
   go_wp2_with fail
   refine (in_is _ _ _ _ _ h1).mono ?_
   rintro e w' ⟨rfl, rfl⟩
   go_wp2_with fail
   refine (in_is _ _ _ _ _ h2).mono ?_
   rintro e w' ⟨rfl, rfl⟩
   go_wp2_with fail
   refine (in_is _ _ _ _ _ rfl).mono ?_
   rintro e w' ⟨rfl, rfl⟩
   go_wp2_with fail
   go_ret
   exact ⟨rfl, fr_alloc (fr_refl _) _⟩
  ·have h2' : inB num (29 * den) (30 * den) = false := by simpa using h2
   have hc : moonB num den add = false := by unfold moonB; rw [h2']; simp
   rw [hc]
   go_enter Tryz.func173, Tryz.ntmps173
   go_wp2_with fail
   refine (in_is _ _ _ _ _ h1).mono ?_
   rintro e w' ⟨rfl, rfl⟩
   go_wp2_with fail
   refine (in_is _ _ _ _ _ h2').mono ?_
   rintro e w' ⟨rfl, rfl⟩
   go_wp2_with fail
   go_ret
   exact ⟨rfl, fr_alloc (fr_refl _) _⟩
 ·have h1' : inB den 1 1000 = false := by simpa using h1
  have hc : moonB num den add = false := by unfold moonB; rw [h1']; simp
  rw [hc]
  go_enter Tryz.func173, Tryz.ntmps173
  go_wp2_with fail
  refine (in_is _ _ _ _ _ h1').mono ?_
  rintro e w' ⟨rfl, rfl⟩
  go_wp2_with fail
  go_ret
  exact ⟨rfl, fr_alloc (fr_refl _) _⟩

theorem tdiv_floor (n b : Int) (hb : 0 < b) : (n < n.tdiv b * b → n.tdiv b - 1 = n / b) ∧ (¬ n < n.tdiv b * b → n.tdiv b = n / b) := by
 have h1 := Int.mul_tdiv_add_tmod n b
 have h2 := Int.mul_ediv_add_emod n b
 have h3 := Int.emod_nonneg n (show b ≠ 0 by omega)
 have h4 := Int.emod_lt_of_pos n hb
 have h5 : (n.tmod b).natAbs < b.natAbs := by
  rw [Int.natAbs_tmod]
  exact Nat.mod_lt _ (by omega)
 rw [Int.mul_comm] at h1 h2
 generalize n.tdiv b = q at *
 generalize n.tmod b = r at *
 generalize n / b = q' at *
 generalize n % b = r' at *
 have key : (q' - q) * b = r - r' := by rw [Int.sub_mul]; omega
 constructor
 ·intro h
  have a1 : (q' - q) * b < 0 * b := by omega
  have a2 : (-2) * b < (q' - q) * b := by omega
  have := Int.lt_of_mul_lt_mul_right a1 (by omega)
  have := Int.lt_of_mul_lt_mul_right a2 (by omega)
  omega
 ·intro h
  have a1 : (q' - q) * b < 1 * b := by omega
  have a2 : (-1) * b < (q' - q) * b := by omega
  have := Int.lt_of_mul_lt_mul_right a1 (by omega)
  have := Int.lt_of_mul_lt_mul_right a2 (by omega)
  omega

set_option maxHeartbeats 1000000 in
theorem down_any (n b : Int) (w : World) (hb : 0 < b) (hb2 : b ≤ 100000) (h0 : -1000000000000 ≤ n) (h1 : n ≤ 1000000000000) :
  Calls Tryz.prog 273 #[.int .i64 n, .int .i64 b] w fun e' w' => e' = .returned (.int .i64 (n / b)) ∧ w = w' := by
 obtain ⟨T1, T2⟩ := tdiv_floor n b hb
 have q1 : -1000000000000 ≤ n.tdiv b ∧ n.tdiv b ≤ 1000000000000 := by
  have : (n.tdiv b).natAbs ≤ n.natAbs := by rw [Int.natAbs_tdiv]; exact Nat.div_le_self _ _
  omega
 have q2 : -1000000000000 ≤ n.tdiv b * b ∧ n.tdiv b * b ≤ 1000000000000 := by
  have : (n.tdiv b * b).natAbs ≤ n.natAbs := by rw [Int.natAbs_mul, Int.natAbs_tdiv]; exact Nat.div_mul_le_self _ _
  omega
 obtain ⟨q3, q4⟩ := q1
 obtain ⟨q5, q6⟩ := q2
 have hne : ¬ b = 0 := by omega
 have hw1 : IntKind.i64.wrap (n.tdiv b) = n.tdiv b := IntWalk.i64_in _ (by omega)
 have hw2 : IntKind.i64.wrap (n.tdiv b * b) = n.tdiv b * b := IntWalk.i64_in _ (by omega)
 have HT1 := Lib.hid T1
 have HT2 := Lib.hid T2
 clear T1 T2
 by_cases hlt : n < n.tdiv b * b
 ·go_enter Tryz.func273, Tryz.ntmps273
  go_wp2
  go_ret
  exact ⟨ret_int (HT1.out hlt), rfl⟩
 ·go_enter Tryz.func273, Tryz.ntmps273
  go_wp2
  go_ret
  exact ⟨ret_int (HT2.out hlt), rfl⟩

set_option maxHeartbeats 1000000 in
theorem age_any (num den add d : Int) (w : World) (h : MoonOk num den add) (h0 : -1000 ≤ d) (h1 : d ≤ 10000000) :
  Calls Tryz.prog 252 #[.agg #[.int .i64 num, .int .i64 den, .int .i64 add], .int .i64 d] w fun e' w' => e' = .returned (.int .i64 (ageOf num den add d)) ∧ Below w.heap.size w w' := by
 have hp := h.npos
 have hd1 := h.d1
 have hd2 := h.d2
 have hn1 := h.n1
 have hn2 := h.n2
 have ha1 := h.a1
 have ha2 := h.a2
 have m1 : -1000000 ≤ (d + 1) * den ∧ (d + 1) * den ≤ 10001000000 := by
  constructor
  ·have : (-1000) * 1000 ≤ (d + 1) * den := by
    by_cases hz : 0 ≤ d + 1
    ·have := Int.mul_nonneg hz (by omega : (0:Int) ≤ den); omega
    ·have a : (-1000) * den ≤ (d + 1) * den := Int.mul_le_mul_of_nonneg_right (by omega) (by omega)
     omega
   omega
  ·have a : (d + 1) * den ≤ 10000001 * den := Int.mul_le_mul_of_nonneg_right (by omega) (by omega)
   omega
 obtain ⟨m1a, m1b⟩ := m1
 have hL := new_last h d
 have hN := new_next h d
 have hk : -40000000 ≤ lastK num den add d * num ∧ lastK num den add d * num ≤ 10001000000 := by
  have a := Int.mul_ediv_add_emod ((d + 1) * den - 1 - add) num
  have b := Int.emod_nonneg ((d + 1) * den - 1 - add) (show num ≠ 0 by omega)
  have c := Int.emod_lt_of_pos ((d + 1) * den - 1 - add) hp
  rw [Int.mul_comm] at a
  unfold lastK
  omega
 obtain ⟨k1, k2⟩ := hk
 have hage := age_range h d
 unfold ageOf at hage ⊢
 unfold newDay at hage hL hN ⊢
 have HK := Lib.hid (show lastK num den add d = ((d + 1) * den - 1 - add) / num from rfl)
 generalize hkk : lastK num den add d = kk at *
 clear hkk hN hL
 have hw1 : IntKind.i64.wrap (d + 1) = d + 1 := IntWalk.i64_in _ (by omega)
 have hw2 : IntKind.i64.wrap ((d + 1) * den) = (d + 1) * den := IntWalk.i64_in _ (by omega)
 have hw3 : IntKind.i64.wrap ((d + 1) * den - 1) = (d + 1) * den - 1 := IntWalk.i64_in _ (by omega)
 have hw4 : IntKind.i64.wrap ((d + 1) * den - 1 - add) = (d + 1) * den - 1 - add := IntWalk.i64_in _ (by omega)
 have hw5 : IntKind.i64.wrap (kk * num) = kk * num := IntWalk.i64_in _ (by omega)
 have hw6 : IntKind.i64.wrap (kk * num + add) = kk * num + add := IntWalk.i64_in _ (by omega)
 have hw7 : IntKind.i64.wrap (d - (kk * num + add) / den) = d - (kk * num + add) / den := IntWalk.i64_in _ (by omega)
 clear hage
 go_enter Tryz.func252, Tryz.ntmps252
 go_wp2_with fail
 refine (down_any _ _ _ hp (by omega) (by omega) (by omega)).mono ?_
 rw [← HK.out]
 rintro e' w' ⟨rfl, rfl⟩
 go_wp2_with fail
 refine (down_any _ _ _ (by omega) (by omega) (by omega) (by omega)).mono ?_
 rintro e' w' ⟨rfl, rfl⟩
 go_wp2_with fail
 go_ret
 exact ⟨rfl, fr_alloc (fr_refl _) _⟩
end Go.Proofs.YtkmiphabagoifaaGreatDoor
end

section
namespace Go.Proofs.YtkmiphabagoifaaGreatDoor
open Go.RowKit

/-- block g is just the cells cs -/
def Blk (w : World) (g : Nat) (t : TypeId) (cs : Array Value) : Prop := w.heap[g]? = some (.cells cs t (0, 0))
section
variable {w w' : World} {g : Nat} {t : TypeId} {cs : Array Value}
theorem Blk.lt (h : Blk w g t cs) : g < w.heap.size := by
 rcases Nat.lt_or_ge g w.heap.size with hlt | hge
 ·exact hlt
 ·unfold Blk at h; rw [Array.getElem?_eq_none hge] at h; cases h
theorem Blk.cell (h : Blk w g t cs) (i : Nat) : w.cell? ⟨g, i, none⟩ = cs[i]? := by unfold Blk at h; unfold World.cell?; rw [h]; rfl
theorem Blk.frozen (h : Blk w g t cs) (i : Nat) : w.frozen? ⟨g, i, none⟩ = false := by
 unfold Blk at h
 simp [World.frozen?, h]
theorem Blk.new (w : World) (t : TypeId) (cs : Array Value) : Blk (w.alloc (.cells cs t)) w.heap.size t cs := heap_alloc_new w _
theorem Blk.new_at {w : World} {g : Nat} (t : TypeId) (cs : Array Value) (h : w.heap.size = g) : Blk (w.alloc (.cells cs t)) g t cs := h ▸ Blk.new w t cs
theorem heap_new_at {w : World} {g : Nat} (o : Obj) (h : w.heap.size = g) : (w.alloc o).heap[g]? = some o := h ▸ heap_alloc_new w o
theorem Blk.drew (h : Blk w g t cs) : Blk w.drew g t cs := h
theorem Blk.alloc (h : Blk w g t cs) (o : Obj) : Blk (w.alloc o) g t cs := (Below.heap_alloc w o g h.lt).trans h
theorem Blk.set_ (h : Blk w g t cs) (i : Nat) (u : Value) : Blk (w.setCell ⟨g, i, none⟩ u) g t (cs.setIfInBounds i u) := by
 unfold Blk at h ⊢
 simp [World.setCell, Array.getElem?_modify, h]
theorem Blk.far (h : Blk w g t cs) {p : Addr} (hp : g ≠ p.block) (u : Value) : Blk (w.setCell p u) g t cs := (Below.heap_setCell w p u g hp).trans h
theorem Blk.keep (h : Blk w g t cs) (hb : Below w.heap.size w w') : Blk w' g t cs := (hb.block g h.lt).trans h
theorem Blk.grown {row : Option Nat} (h : Blk w g t cs) (hb : w.grownBy w' row) (hg : some g ≠ row) : Blk w' g t cs := (hb.block g h.lt hg).trans h
theorem Blk.ne_ {g' : Nat} {t' : TypeId} {cs' : Array Value} (h : Blk w g t cs) (h' : Blk w g' t' cs') (hne : t ≠ t') : g ≠ g' := by
 rintro rfl
 unfold Blk at h h'
 rw [h] at h'
 injection h' with h'
 injection h' with _ ht
 exact hne ht
theorem grown_below {a b c : World} {r : Option Nat} (h : a.grownBy b r) (k : Below b.heap.size b c) : a.grownBy c r :=
 ⟨k.os.trans h.os, k.tape.trans h.tape, k.output.trans h.output, Nat.le_trans h.size k.size, fun i hi hn => (k.block i (Nat.lt_of_lt_of_le hi h.size)).trans (h.block i hi hn)⟩
theorem below_grown {a b c : World} {r : Option Nat} (h : Below a.heap.size a b) (k : b.grownBy c r) : a.grownBy c r :=
 ⟨k.os.trans h.os, k.tape.trans h.tape, k.output.trans h.output, Nat.le_trans h.size k.size, fun i hi hn => (k.block i (Nat.lt_of_lt_of_le hi h.size) hn).trans (h.block i hi)⟩
theorem grown_trans {a b c : World} {r : Option Nat} (h : a.grownBy b r) (k : b.grownBy c r) : a.grownBy c r :=
 ⟨k.os.trans h.os, k.tape.trans h.tape, k.output.trans h.output, Nat.le_trans h.size k.size, fun i hi hn => (k.block i (Nat.lt_of_lt_of_le hi h.size) hn).trans (h.block i hi hn)⟩
theorem own_blk_ne {base : Nat} {e : TypeId} {size n : Nat} {v : Value} {xs : List Value} (h : w.ownsRow base e size v n xs) (hg : Blk w g t cs) (hne : e ≠ t) : v.ownBlock ≠ some g := by
 rcases h.2 with ⟨rfl, _⟩ | ⟨g', cap, cur, rfl, _, hh, _⟩
 ·simp [Value.ownBlock]
 ·intro he
  have : g' = g := by simpa [Value.ownBlock] using he
  subst this
  unfold Blk at hg
  rw [hg] at hh
  injection hh with hh
  injection hh with _ ht
  exact hne ht.symm
/-- no row of cells is a map -/
theorem own_map_ne {base : Nat} {e : TypeId} {size n : Nat} {v : Value} {xs : List Value} (h : w.ownsRow base e size v n xs) {es : Array MapEntry} {k : Nat} (hg : w.heap[g]? = some (.map es k)) : v.ownBlock ≠ some g := by
 rcases h.2 with ⟨rfl, _⟩ | ⟨g', cap, cur, rfl, _, hh, _⟩
 ·simp [Value.ownBlock]
 ·intro he
  have : g' = g := by simpa [Value.ownBlock] using he
  subst this
  rw [hg] at hh
  cases hh
end

/-- the slice value v is nil, or a row of the call's own, and reads as xs -/
def Own (w : World) (base : Nat) (v : Value) (xs : List Int) : Prop := w.ownsRow base 3 1 v xs.length (xs.map (Value.int .i64))
theorem Own.nil (w : World) (base : Nat) : Own w base (.slice none 0 0) [] := World.ownsRow_nil w base _ 1
theorem grown_of_below {w w' : World} (hb : Below w.heap.size w w') : w.grownBy w' none := ⟨hb.os, hb.tape, hb.output, hb.size, fun k hk _ => hb.block k hk⟩
theorem owns_keep {w w' : World} {base : Nat} {e : TypeId} {size n : Nat} {v : Value} {xs : List Value} (h : w.ownsRow base e size v n xs) (hb : Below w.heap.size w w') : w'.ownsRow base e size v n xs := by
 refine h.kept (grown_of_below hb) ?_
 cases hv : v.ownBlock
 ·exact .inl rfl
 ·exact .inr (by simp)
theorem Own.keep {w w' : World} {base : Nat} {v : Value} {xs : List Int} (h : Own w base v xs) (hb : Below w.heap.size w w') : Own w' base v xs := owns_keep h hb
theorem owns_set {w : World} {base : Nat} {e t : TypeId} {size n g i : Nat} {v u : Value} {xs : List Value} {cs : Array Value} (h : w.ownsRow base e size v n xs) (hg : Blk w g t cs) (hne : e ≠ t) : (w.setCell ⟨g, i, none⟩ u).ownsRow base e size v n xs := by
 obtain ⟨h1, h2⟩ := h
 refine ⟨h1, ?_⟩
 rcases h2 with h2 | ⟨g', cap, cur, hv, hg', hh, r⟩
 ·exact Or.inl h2
 ·refine Or.inr ⟨g', cap, cur, hv, hg', ?_, r⟩
  rw [Below.heap_setCell]
  ·exact hh
  ·rintro rfl
   unfold Blk at hg
   rw [hg] at hh
   injection hh with hh
   injection hh with _ ht
   exact hne ht.symm
theorem Own.set {w : World} {base g i : Nat} {t : TypeId} {v u : Value} {xs : List Int} {cs : Array Value} (h : Own w base v xs) (hg : Blk w g t cs) (hne : (3 : TypeId) ≠ t) : Own (w.setCell ⟨g, i, none⟩ u) base v xs := owns_set h hg hne
/-- a row of the call's own, beside a block that is written -/
def OwnB (w : World) (base : Nat) (v : Value) (xs : List Int) (g : Nat) (t : TypeId) : Prop := Own w base v xs ∧ ∃ cs, Blk w g t cs
theorem OwnB.set {w : World} {base g i : Nat} {t : TypeId} {v u : Value} {xs : List Int} (h : OwnB w base v xs g t) (hne : (3 : TypeId) ≠ t) : OwnB (w.setCell ⟨g, i, none⟩ u) base v xs g t := by
 obtain ⟨h1, cs, h2⟩ := h
 exact ⟨h1.set h2 hne, _, h2.set_ i u⟩
theorem Own.form {w : World} {base : Nat} {v : Value} {xs : List Int} (h : Own w base v xs) : ∃ A c, v = .slice A xs.length c := by
 rcases h.2 with ⟨rfl, h0⟩ | ⟨g, cap, cur, rfl, _⟩
 ·exact ⟨none, 0, by rw [h0]⟩
 ·exact ⟨_, _, rfl⟩
theorem Own.rd {w : World} {base : Nat} {A : Option Addr} {n c : Nat} {xs : List Int} (h : Own w base (.slice A n c) xs) : Rd w A n xs := by
 have hn : n = xs.length := by
  rcases h.2 with ⟨h0, h1⟩ | ⟨g, cap, cur, hv, _⟩
  ·injection h0 with _ h2; rw [h1]; exact h2
  ·injection hv
 refine ⟨hn.symm, fun hpos => ?_⟩
 rcases h.2 with ⟨h0, h1⟩ | ⟨g, cap, cur, hv, hb, hh, _⟩
 ·omega
 ·injection hv with hA _ hc
  subst hA
  have hlt : g < w.heap.size := by
   rcases Nat.lt_or_ge g w.heap.size with hlt | hge
   ·exact hlt
   ·rw [Array.getElem?_eq_none hge] at hh; cases hh
  refine ⟨_, rfl, hlt, fun j hj => ?_⟩
  refine World.ownsRow.cells h (g := g) (by simp [Value.ownBlock]) j _ ?_
  rw [List.getElem?_map, List.getElem?_eq_getElem (by omega)]
  simp

theorem Own.fresh {w : World} {base : Nat} {A : Option Addr} {n c : Nat} {xs : List Int} (h : Own w base (.slice A n c) xs) : Fresh base A := by
 intro ad e
 subst e
 rcases h.2 with ⟨h0, _⟩ | ⟨g, cap, cur, hv, hb, _⟩
 ·cases h0
 ·injection hv with hA _ _
  cases hA
  exact hb
theorem info_int : (Tryz.prog.info? 3).map (fun i => (i.zero, i.size, i.bytes)) = some (some (.int .i64 0), 1, 8) := by kernel_rfl

/-- 'append(out, y)', the row being the call's own -/
theorem app_int {ops : Array Oper} {rest : List Oper} {o : Oper} {a : Act} {Q : Exit → Act → World → Prop} {W : World} {y : Int} (hgd : o.guard = none) (s x : Operand)
  (ho : o.op = .call { callee := .builtin .append, args := #[s, x], argTypes := #[23, 23] })
  (base : Nat) (v : Value) (xs : List Int) (hs : a.eval s = v) (hx : a.eval x = .slice (some ⟨W.heap.size, 0, none⟩) 1 1) (hown : Own W base v xs) (hn : xs.length < 1000000) (hbase : base ≤ W.heap.size)
  (h : ∀ A c w', Own w' base (.slice A (xs.length + 1) c) (xs ++ [y]) → (W.alloc (.cells #[.int .i64 y] 3)).grownBy w' v.ownBlock → wpList Tryz.prog ops Q rest (a.put o.dst (.slice A (xs.length + 1) c)) w') :
  wpList Tryz.prog ops Q (o :: rest) a (W.alloc (.cells #[.int .i64 y] 3)) := by
 obtain ⟨i0, hi, hz0, hz1, hz2⟩ := info_parts info_int
 refine wpList_append_own _ hgd s x _ ho base _ i0 _ 1 8 Tryz.underlying23 hi hz0 hz1 hz2 rfl (by omega) v _ _ hs (World.ownsRow.alloc hown _) ⟨W.heap.size, 0, none⟩ 1 1 [.int .i64 y] hx rfl ?_ (by simp [Value.oneCell'])
  (by unfold maxLen; omega) (by omega) (by simp; omega) ?_
 ·intro j u hj
  match j, hj with
  | 0, hj => simp at hj; subst hj; rw [add_lit, cell_new]; rfl
 ·intro v' w' hown' hg _
  have hown2 : Own w' base v' (xs ++ [y]) := by
   unfold Own
   rw [List.length_append, List.map_append]
   exact hown'
  obtain ⟨A, c, rfl⟩ := hown2.form
  rw [List.length_append] at hown2 ⊢
  exact h A c w' hown2 hg
theorem own_ge {w : World} {base : Nat} {v : Value} {xs : List Int} (h : Own w base v xs) : ∀ k, v.ownBlock = some k → base ≤ k := fun k hk => (World.ownsRow.lt h k hk).1
end Go.Proofs.YtkmiphabagoifaaGreatDoor
end

section
namespace Go.Proofs.YtkmiphabagoifaaGreatDoor
open Go.RowKit Dl

def firstsK (e : Int) (cs : List Int) (k : Nat) : List Int := (List.range k).map (firstN e cs)
theorem firstsK_len (e : Int) (cs : List Int) (k : Nat) : (firstsK e cs k).length = k := by unfold firstsK; rw [List.length_map, List.length_range]
theorem firstsK_succ (e : Int) (cs : List Int) (k : Nat) : firstsK e cs (k + 1) = firstsK e cs k ++ [firstN e cs k] := by unfold firstsK; rw [List.range_succ, List.map_append]; rfl

set_option maxRecDepth 100000 in
set_option maxHeartbeats 2000000 in
theorem open_any (A : Option Addr) (n c : Nat) (cs : List Int) (e m1 m2 m3 : Int) (w : World) (hr : Rd w A n cs) (hok : calOk e cs = true) :
  Calls Tryz.prog 176 #[.agg #[.int .i64 e, .slice A n c], .agg #[.int .i64 m1, .int .i64 m2, .int .i64 m3]] w fun e' w' =>
   ∃ F fc M, e' = .returned (.agg #[.int .i64 e, .slice A n c, .int .i64 m1, .int .i64 m2, .int .i64 m3, .slice F 4002 fc, .map (some M)]) ∧ Rd w' F 4002 (firsts e cs) ∧ w.heap.size ≤ M ∧ w'.heap[M]? = some (.map #[] 0) ∧ Below w.heap.size w w' ∧ Fresh w.heap.size F := by
 obtain ⟨⟨he1, he2⟩, ⟨hn1, hn2⟩, hpos⟩ := calOk_parts hok
 rw [hr.len] at hn1 hn2
 have hmm := @run_makeMap Tryz.prog
 go_enter Tryz.func176, Tryz.ntmps176
 go_wp2
 go_loopw [6, 14] (fun a i wr => ∃ (k : Nat) (v : Value), k ≤ 4002 ∧ i = .int .i64 k ∧ a = .int .i64 (firstN e cs k) ∧ Own wr w.heap.size v (firstsK e cs k) ∧
   Blk wr (w.heap.size + 1 + 1 + 1 + 1) 253 #[.int .i64 e, .slice A n c, .int .i64 m1, .int .i64 m2, .int .i64 m3, v, .map (some (w.heap.size + 1 + 1 + 1))] ∧
   wr.heap[w.heap.size + 1 + 1 + 1]? = some (.map #[] 0) ∧
   Blk wr (w.heap.size + 1 + 1) 253 #[.int .i64 0, .slice none 0 0, .int .i64 0, .int .i64 0, .int .i64 0, .slice none 0 0, .map none] ∧ Below w.heap.size w wr ∧ w.heap.size + 1 + 1 + 1 + 1 < wr.heap.size)
  (fun _ i _ => 4002 - (intOf i).toNat)
 case atStart =>
  refine ⟨0, .slice none 0 0, by omega, rfl, rfl, Own.nil _ _, ?_, ?_, ?_, fr_alloc (fr_alloc (fr_alloc (fr_alloc (fr_alloc (fr_refl _) _) _) _) _) _, by simp⟩
  ·exact Blk.new_at _ _ (by simp)
  ·rw [Below.heap_alloc _ _ _ (by simp)]; exact heap_new_at _ (by simp)
  ·exact ((Blk.new_at _ _ (by simp)).alloc _).alloc _
 case round =>
  obtain ⟨k, v, hk, rfl, rfl, hown, hB, hM, hR, hbel, hsz⟩ := hrel
  have hcB := fun j => hB.cell j
  have hfB := fun j => hB.frozen j
  have hne1 := own_blk_ne hown hB (by decide)
  have hne2 := own_blk_ne hown hR (by decide)
  have hne3 := own_map_ne hown hM
  have hfn := firstN_bounds e cs k
  have hyl := yearLen_pos cs k
  have hsucc : firstN e cs (k + 1) = firstN e cs k + yearLen cs k := rfl
  generalize hfk : firstN e cs k = fk at *
  have HFK := Lib.hid hfk
  have HS := Lib.hid hsucc
  clear hfk hsucc
  by_cases hlt : k < 4002
  ·go_wp2_with (at_builtin; go_must (refine app_int rfl (.tmp 18) (.tmp 20) rfl w.heap.size v (firstsK e cs k) rfl rfl hown (by rw [firstsK_len]; omega) hbel.size ?_); intro A1 c1 w1 hown1 hg1; have hB1 := (hB.alloc _).grown hg1 (Ne.symm hne1); have hcB1 := fun j => hB1.cell j; have hfB1 := fun j => hB1.frozen j)
   have hR1 := (hR.alloc _).grown hg1 (Ne.symm hne2)
   have hM1 := (hg1.block _ (by simp; omega) (Ne.symm hne3)).trans ((Below.heap_alloc wr (.cells #[.int .i64 fk] 3) _ (by omega)).trans hM)
   have hbel1 : Below w.heap.size w w1 := (fr_alloc hbel _).grown hg1 (by have := hbel.size; simp; omega) (own_ge hown)
   have hsz1 := hg1.size
   rw [firstsK_len, ← HFK.out, ← firstsK_succ] at hown1
   clear hcB hfB hne1 hne2 hne3 hg1 hB hM hR hbel hown
   refine (days_any A n c cs _ _ _ _ _ _ k _ (hr.keep (fr_set hbel1 (by simp; omega) _)) hn2 hpos (by omega) (by omega)).mono ?_
   rintro e' w2 ⟨rfl, hb2⟩
   have hB2 := (hB1.set_ 5 (.slice A1 ((firstsK e cs k).length + 1) c1)).keep hb2
   have hR2 := (hR1.far (p := ⟨w.heap.size + 1 + 1 + 1 + 1, 5, none⟩) (by simp) (.slice A1 ((firstsK e cs k).length + 1) c1)).keep hb2
   have hM2 := (hb2.block (w.heap.size + 1 + 1 + 1) (by simp [World.setCell] at *; omega)).trans ((Below.heap_setCell _ _ _ _ (by simp)).trans hM1)
   have hown2 := (hown1.set (i := 5) (u := .slice A1 ((firstsK e cs k).length + 1) c1) hB1 (by decide)).keep hb2
   go_wp2
   go_roundw
   case rel =>
    rw [firstsK_len] at hB2
    refine ⟨k + 1, .slice A1 (k + 1) c1, by omega, by go_num, by rw [HS.out], hown2, hB2, hM2, hR2, fr_call (fr_set hbel1 (by simp; omega) _) hb2, ?_⟩
    have := hb2.size
    simp [World.setCell] at *
    omega
   case measure => simp [intOf]; omega
  ·obtain rfl : k = 4002 := by omega
   obtain ⟨A1, c1, rfl⟩ := hown.form
   rw [firstsK_len] at hown hB hcB
   have hcR := fun j => hR.cell j
   have hfR := fun j => hR.frozen j
   go_wp2
   refine bodyPost_ret (v := .agg #[.int .i64 e, .slice A n c, .int .i64 m1, .int .i64 m2, .int .i64 m3, .slice A1 4002 c1, .map (some (w.heap.size + 1 + 1 + 1))]) (by simp [results, Tryz.results176, go_sem, hcR]) rfl ⟨A1, c1, _, rfl, ?_, ?_, ?_, ?_, hown.fresh⟩
   ·have h : OwnB wr w.heap.size (.slice A1 4002 c1) (firstsK e cs 4002) (w.heap.size + 1 + 1) 253 := ⟨hown, _, hR⟩
    exact (show OwnB _ w.heap.size (.slice A1 4002 c1) (firstsK e cs 4002) (w.heap.size + 1 + 1) 253 by (repeat (refine OwnB.set ?_ (by decide))); exact h).1.rd
   ·omega
   ·(repeat (rw [Below.heap_setCell _ _ _ _ (by simp)])); exact hM
   ·(repeat (refine fr_set ?_ (by simp; omega) _)); exact hbel
end Go.Proofs.YtkmiphabagoifaaGreatDoor
end

section
namespace Go.Proofs.YtkmiphabagoifaaGreatDoor
open Go.RowKit Dl

def realB (cs : List Int) (y m d : Int) : Bool := inB y 0 4000 && inB m 1 12 && inB d 1 (mlen (leapB cs y) m)
theorem realB_iff {cs : List Int} {y m d : Int} : realB cs y m d = true ↔ real cs ⟨y, m, d⟩ := by
 unfold realB real
 simp only [Bool.and_eq_true, inB_iff]
 constructor
 ·rintro ⟨⟨h1, h2⟩, h3⟩; exact ⟨h1.1, h1.2, h2.1, h2.2, h3.1, h3.2⟩
 ·rintro ⟨h1, h2, h3, h4, h5, h6⟩; exact ⟨⟨⟨h1, h2⟩, h3, h4⟩, h5, h6⟩

set_option maxRecDepth 100000 in
set_option maxHeartbeats 2000000 in
theorem isDate_noyear (A : Option Addr) (n c : Nat) (e m1 m2 m3 f g : Value) (y m d : Int) (w : World) (hy : inB y 0 4000 = false) :
  Calls Tryz.prog 182 #[.agg #[e, .slice A n c, m1, m2, m3, f, g], .agg #[.int .i64 y, .int .i64 m, .int .i64 d]] w fun e w' =>
   e = .returned (.bool false) ∧ Below w.heap.size w w' := by
 go_enter Tryz.func182, Tryz.ntmps182
 go_wp2_with fail
 go_quiet ((go_at_call 175; exact quiet_left (isYear_is _ _ _ hy)))
 go_wp2
 go_ret
 exact ⟨rfl, fr_drewN (fr_alloc (fr_alloc (fr_refl _) _) _) _⟩

set_option maxRecDepth 100000 in
set_option maxHeartbeats 2000000 in
theorem isDate_nomonth (A : Option Addr) (n c : Nat) (e m1 m2 m3 f g : Value) (y m d : Int) (w : World) (hy : inB y 0 4000 = true) (hm : inB m 1 12 = false) :
  Calls Tryz.prog 182 #[.agg #[e, .slice A n c, m1, m2, m3, f, g], .agg #[.int .i64 y, .int .i64 m, .int .i64 d]] w fun e w' =>
   e = .returned (.bool false) ∧ Below w.heap.size w w' := by
 go_enter Tryz.func182, Tryz.ntmps182
 go_wp2_with fail
 go_quiet ((first | (go_at_call 175; exact quiet_left (isYear_is _ _ _ hy)) | (go_at_call 227; exact quiet_left (in_is _ _ _ _ _ hm))))
 go_wp2
 go_ret
 exact ⟨rfl, fr_drewN (fr_alloc (fr_alloc (fr_refl _) _) _) _⟩

theorem isDate_is (A : Option Addr) (n c : Nat) (cs : List Int) (e m1 m2 m3 f g : Value) (y m d : Int) (w : World) (hr : Rd w A n cs) (hn : n ≤ 3) (hpos : Cyc cs) (b : Bool) (hb : realB cs y m d = b) :
  Calls Tryz.prog 182 #[.agg #[e, .slice A n c, m1, m2, m3, f, g], .agg #[.int .i64 y, .int .i64 m, .int .i64 d]] w fun e w' =>
   e = .returned (.bool b) ∧ Below w.heap.size w w' := by
 subst hb
 unfold realB
 cases hy : inB y 0 4000
 ·exact isDate_noyear A n c e m1 m2 m3 f g y m d w hy
 ·cases hm : inB m 1 12
  ·exact isDate_nomonth A n c e m1 m2 m3 f g y m d w hy hm
  ·exact isDate_ok A n c cs e m1 m2 m3 f g y m d w hr hn hpos (inB_iff.1 hy) (inB_iff.1 hm)

set_option maxRecDepth 100000 in
set_option maxHeartbeats 2000000 in
theorem Day_bad (A : Option Addr) (n c : Nat) (cs : List Int) (e y m d : Int) (w : World) (hr : Rd w A n cs) (hn : n ≤ 9223372036854775807) (hok : calOk e cs = false) :
  Calls Tryz.prog 111 #[.agg #[.int .i64 e, .slice A n c], .agg #[.int .i64 y, .int .i64 m, .int .i64 d]] w fun e' w' =>
   e' = .returned (.tuple #[.int .i64 0, .int .i64 2]) ∧ Below w.heap.size w w' := by
 go_enter Tryz.func111, Tryz.ntmps111
 go_wp2_with fail
 refine (isCalendar_is A n c cs e _ ((hr.alloc _).alloc _) hn _ hok).mono ?_
 rintro e' w1 ⟨rfl, hb1⟩
 go_wp2_with fail
 go_ret2
 exact ⟨rfl, fr_call (fr_alloc (fr_alloc (fr_refl _) _) _) hb1⟩

set_option maxRecDepth 100000 in
set_option maxHeartbeats 2000000 in
theorem Day_no (A : Option Addr) (n c : Nat) (cs : List Int) (e y m d : Int) (w : World) (hr : Rd w A n cs) (hn : n ≤ 9223372036854775807) (hok : calOk e cs = true) (hreal : realB cs y m d = false) :
  Calls Tryz.prog 111 #[.agg #[.int .i64 e, .slice A n c], .agg #[.int .i64 y, .int .i64 m, .int .i64 d]] w fun e' w' =>
   e' = .returned (.tuple #[.int .i64 0, .int .i64 2]) ∧ Below w.heap.size w w' := by
 obtain ⟨he, ⟨hn1, hn2⟩, hpos⟩ := calOk_parts hok
 rw [hr.len] at hn1 hn2
 have hr0 := (hr.alloc (.cells #[.int .i64 e, .slice A n c] 30)).alloc (.cells #[.int .i64 y, .int .i64 m, .int .i64 d] 181)
 go_enter Tryz.func111, Tryz.ntmps111
 go_wp2_with fail
 refine (isCalendar_is A n c cs e _ hr0 hn _ hok).mono ?_
 rintro e' w1 ⟨rfl, hb1⟩
 obtain ⟨hc_w1, hf_w1⟩ := bcell hb1
 have hz0_w1 : w.heap.size < w1.heap.size := Nat.lt_of_lt_of_le (by first | omega | (simp; done) | (simp; omega)) hb1.size
 have hz1_w1 : w.heap.size + 1 < w1.heap.size := Nat.lt_of_lt_of_le (by first | omega | (simp; done) | (simp; omega)) hb1.size
 go_wp2_with fail
 refine (open_any A n c cs e 0 0 0 _ (hr0.keep hb1) hok).mono ?_
 rintro e' w2 ⟨F, fc, M, rfl, hF, hM1, hM2, hb2, _⟩
 obtain ⟨hc_w2, hf_w2⟩ := bcell hb2
 have hz0_w2 : w.heap.size < w2.heap.size := Nat.lt_of_lt_of_le (by first | omega | (simp; done) | (simp; omega)) hb2.size
 have hz1_w2 : w.heap.size + 1 < w2.heap.size := Nat.lt_of_lt_of_le (by first | omega | (simp; done) | (simp; omega)) hb2.size
 have hr2 := (hr0.keep hb1).keep hb2
 have hfr := fr_call (fr_call (fr_alloc (fr_alloc (fr_refl w) (.cells #[.int .i64 e, .slice A n c] 30)) (.cells #[.int .i64 y, .int .i64 m, .int .i64 d] 181)) hb1) hb2
 go_wp2_with fail
 refine (isDate_is A n c cs _ _ _ _ _ _ y m d _ (hr2.alloc _) hn2 hpos _ hreal).mono ?_
 rintro e' w3 ⟨rfl, hb3⟩
 go_wp2_with fail
 go_ret2
 exact ⟨rfl, fr_call (fr_alloc hfr _) hb3⟩

set_option maxRecDepth 100000 in
set_option maxHeartbeats 2000000 in
theorem Day_yes (A : Option Addr) (n c : Nat) (cs : List Int) (e y m d : Int) (w : World) (hr : Rd w A n cs) (hn : n ≤ 9223372036854775807) (hok : calOk e cs = true) (hreal : realB cs y m d = true) :
  Calls Tryz.prog 111 #[.agg #[.int .i64 e, .slice A n c], .agg #[.int .i64 y, .int .i64 m, .int .i64 d]] w fun e' w' =>
   e' = .returned (.tuple #[.int .i64 (dayOf e cs ⟨y, m, d⟩), .int .i64 0]) ∧ Below w.heap.size w w' := by
 obtain ⟨he, ⟨hn1, hn2⟩, hpos⟩ := calOk_parts hok
 rw [hr.len] at hn1 hn2
 have hr0 := (hr.alloc (.cells #[.int .i64 e, .slice A n c] 30)).alloc (.cells #[.int .i64 y, .int .i64 m, .int .i64 d] 181)
 go_enter Tryz.func111, Tryz.ntmps111
 go_wp2_with fail
 refine (isCalendar_is A n c cs e _ hr0 hn _ hok).mono ?_
 rintro e' w1 ⟨rfl, hb1⟩
 obtain ⟨hc_w1, hf_w1⟩ := bcell hb1
 have hz0_w1 : w.heap.size < w1.heap.size := Nat.lt_of_lt_of_le (by first | omega | (simp; done) | (simp; omega)) hb1.size
 have hz1_w1 : w.heap.size + 1 < w1.heap.size := Nat.lt_of_lt_of_le (by first | omega | (simp; done) | (simp; omega)) hb1.size
 go_wp2_with fail
 refine (open_any A n c cs e 0 0 0 _ (hr0.keep hb1) hok).mono ?_
 rintro e' w2 ⟨F, fc, M, rfl, hF, hM1, hM2, hb2, _⟩
 obtain ⟨hc_w2, hf_w2⟩ := bcell hb2
 have hz0_w2 : w.heap.size < w2.heap.size := Nat.lt_of_lt_of_le (by first | omega | (simp; done) | (simp; omega)) hb2.size
 have hz1_w2 : w.heap.size + 1 < w2.heap.size := Nat.lt_of_lt_of_le (by first | omega | (simp; done) | (simp; omega)) hb2.size
 have hr2 := (hr0.keep hb1).keep hb2
 have hfr := fr_call (fr_call (fr_alloc (fr_alloc (fr_refl w) (.cells #[.int .i64 e, .slice A n c] 30)) (.cells #[.int .i64 y, .int .i64 m, .int .i64 d] 181)) hb1) hb2
 go_wp2_with fail
 obtain ⟨ry, rm, rd⟩ : (0 ≤ y ∧ y ≤ 4000) ∧ (1 ≤ m ∧ m ≤ 12) ∧ (1 ≤ d ∧ d ≤ 31) := by
  obtain ⟨a1, a2, a3, a4, a5, a6⟩ := realB_iff.1 hreal
  have := mlen_pos (leapB cs y) m
  simp only at a1 a2 a3 a4 a5 a6
  omega
 refine (isDate_is A n c cs _ _ _ _ _ _ y m d _ (hr2.alloc _) hn2 hpos _ hreal).mono ?_
 rintro e' w3 ⟨rfl, hb3⟩
 obtain ⟨hc_w3, hf_w3⟩ := bcell hb3
 have hz0_w3 : w.heap.size < w3.heap.size := Nat.lt_of_lt_of_le (by first | omega | (simp; done) | (simp; omega)) hb3.size
 have hz1_w3 : w.heap.size + 1 < w3.heap.size := Nat.lt_of_lt_of_le (by first | omega | (simp; done) | (simp; omega)) hb3.size
 have hz4 : w2.heap.size < w3.heap.size := Nat.lt_of_lt_of_le (by simp) hb3.size
 go_wp2_with fail
 refine (day_any A F n c fc cs e _ _ _ _ y m d _ ((hr2.alloc _).keep hb3) hn2 hpos ((hF.alloc _).keep hb3) he ry rm rd).mono ?_
 rintro e' w4 ⟨rfl, hb4⟩
 go_wp2_with fail
 go_ret2
 exact ⟨rfl, fr_call (fr_call (fr_alloc hfr _) hb3) hb4⟩

end Go.Proofs.YtkmiphabagoifaaGreatDoor
end

section
namespace Go.Proofs.YtkmiphabagoifaaGreatDoor.Dl

theorem countP_range (f : Nat → Int) (x : Int) (k : Nat) : ∀ n, k ≤ n → (∀ i, i < n → (f i < x ↔ i < k)) → ((List.range n).map f).countP (· < x) = k := by
 intro n
 induction n generalizing k with
 | zero => intro h _; simp; omega
 | succ n ih =>
  intro hk h
  rw [List.range_succ, List.map_append, List.countP_append]
  by_cases hkn : k ≤ n
  ·rw [ih k hkn (fun i hi => h i (by omega))]
   have := h n (by omega)
   have hn : ¬ f n < x := by rw [this]; omega
   simp [hn]
  ·have hk' : k = n + 1 := by omega
   rw [ih n (Nat.le_refl _) (fun i hi => by rw [h i (by omega)]; omega)]
   have := h n (by omega)
   have hn : f n < x := by rw [this]; omega
   simp [hn]
   omega

theorem firstN_lt (e : Int) (cs : List Int) {a b : Nat} (h : a < b) : firstN e cs a < firstN e cs b := by have := firstN_mono e cs h; omega
theorem firstN_le (e : Int) (cs : List Int) {a b : Nat} (h : a ≤ b) : firstN e cs a ≤ firstN e cs b := by
 rcases Nat.lt_or_eq_of_le h with h | h
 ·exact Int.le_of_lt (firstN_lt e cs h)
 ·rw [h]; exact Int.le_refl _

theorem firsts_sorted (e : Int) (cs : List Int) (n : Nat) : ((List.range n).map (firstN e cs)).Pairwise (· ≤ ·) := by
 rw [List.pairwise_map]
 have := List.pairwise_lt_range (n := n)
 exact this.imp fun h => firstN_le e cs (Nat.le_of_lt h)

/-- the first day of a year is found -/
theorem firsts_found (e : Int) (cs : List Int) (n y : Nat) (hy : y < n) : ((List.range n).map (firstN e cs)).countP (· < firstN e cs y) = y ∧ ((List.range n).map (firstN e cs)).contains (firstN e cs y) = true := by
 constructor
 ·refine countP_range _ _ y n (by omega) fun i _ => ⟨fun h => ?_, fun h => firstN_lt e cs h⟩
  rcases Nat.lt_or_ge i y with h' | h'
  ·exact h'
  ·have := firstN_le e cs h'; omega
 ·rw [List.contains_iff_mem, List.mem_map]
  exact ⟨y, List.mem_range.2 hy, rfl⟩
/-- another day of a year is not -/
theorem firsts_between (e : Int) (cs : List Int) (n y : Nat) (x : Int) (hy : y < n) (h1 : firstN e cs y < x) (h2 : y + 1 < n → x < firstN e cs (y + 1)) :
  ((List.range n).map (firstN e cs)).countP (· < x) = y + 1 ∧ ((List.range n).map (firstN e cs)).contains x = false := by
 constructor
 ·refine countP_range _ _ (y + 1) n (by omega) fun i hi => ⟨fun h => ?_, fun h => ?_⟩
  ·rcases Nat.lt_or_ge i (y + 1) with h' | h'
   ·exact h'
   ·have := firstN_le e cs h'; have := h2 (by omega); omega
  ·have := firstN_le e cs (show i ≤ y by omega); omega
 ·rw [Bool.eq_false_iff]
  intro hc
  rw [List.contains_iff_mem, List.mem_map] at hc
  obtain ⟨i, hi, he⟩ := hc
  have hi := List.mem_range.1 hi
  rcases Nat.lt_or_ge i (y + 1) with h' | h'
  ·have := firstN_le e cs (show i ≤ y by omega); omega
  ·have := firstN_le e cs h'; have := h2 (by omega); omega
theorem firsts_before (e : Int) (cs : List Int) (n : Nat) (x : Int) (h1 : x < e) :
  ((List.range n).map (firstN e cs)).countP (· < x) = 0 ∧ ((List.range n).map (firstN e cs)).contains x = false := by
 have hb : ∀ i, e ≤ firstN e cs i := fun i => firstN_le e cs (Nat.zero_le i)
 constructor
 ·refine countP_range _ _ 0 n (by omega) fun i hi => ⟨fun h => ?_, fun h => by omega⟩
  have := hb i; omega
 ·rw [Bool.eq_false_iff]
  intro hc
  rw [List.contains_iff_mem, List.mem_map] at hc
  obtain ⟨i, _, he⟩ := hc
  have := hb i; omega
end Go.Proofs.YtkmiphabagoifaaGreatDoor.Dl
end

section
namespace Go.Proofs.YtkmiphabagoifaaGreatDoor
open Go.RowKit Dl

theorem Rd.addr {w : World} {A : Option Addr} {n : Nat} {xs : List Int} (h : Rd w A n xs) (hn : 0 < n) :
  ∃ b off, A = some ⟨b, off, none⟩ ∧ b < w.heap.size ∧ ∀ j, j < n → w.cell? ⟨b, off + j, none⟩ = some (.int .i64 (xs[j]?.getD 0)) := by
 obtain ⟨ad, e, hb, hc⟩ := h.2 hn
 obtain ⟨b, off, spot⟩ := ad
 have h0 := hc 0 hn
 cases spot with
 | none => exact ⟨b, off, e, hb, fun j hj => by have := hc j hj; rw [add_lit] at this; exact this⟩
 | some s =>
  exfalso
  simp only [Addr.add, if_true] at h0
  unfold World.cell? at h0
  split at h0 <;> simp at h0

theorem mtab_nat (b : Bool) (k : Nat) (h : k < 12) : (mtab b)[k]?.getD 0 = mlen b (k + 1) := by
 have := mtab_at b (k + 1) (by omega) (by omega)
 rw [show ((k : Int) + 1).toNat - 1 = k by omega] at this
 exact this
theorem firsts_eq (e : Int) (cs : List Int) : firsts e cs = (List.range 4002).map (firstN e cs) := rfl

/-- BinarySearch over the first days -/
theorem search_any (F : Option Addr) (fc : Nat) (cs : List Int) (e x : Int) (w : World) (hF : Rd w F 4002 (firsts e cs)) (k : Nat) (b : Bool)
  (hk : ((List.range 4002).map (firstN e cs)).countP (· < x) = k) (hb : ((List.range 4002).map (firstN e cs)).contains x = b) :
  Calls Tryz.prog 242 #[.slice F 4002 fc, .int .i64 x] w fun e' w' => e' = .returned (.tuple #[.int .i64 k, .bool b]) ∧ Below w.heap.size w w' := by
 obtain ⟨b0, off, rfl, hlt, hc⟩ := hF.addr (by omega)
 have hlen : (firsts e cs).length = 4002 := hF.len
 have htake : (firsts e cs).take 4002 = (List.range 4002).map (firstN e cs) := by rw [List.take_of_length_le (by omega), firsts_eq]
 refine (Tryz.slices_BinarySearch_int b0 off 4002 fc (firsts e cs) x w (by omega) (by omega) (fun j hj => ?_) (by rw [htake]; exact firsts_sorted _ _ _)).mono ?_
 ·rw [hc j (by omega)]; simp
 ·rintro e' w' ⟨rfl, q, rfl⟩
  rw [htake, hk, hb]
  exact ⟨rfl, fr_drewN (fr_refl _) _⟩

set_option maxRecDepth 100000 in
set_option maxHeartbeats 2000000 in
theorem date_some (A F : Option Addr) (n c fc : Nat) (cs : List Int) (e m1 m2 m3 : Int) (g : Value) (day : Int) (x : Date) (w : World) (hr : Rd w A n cs) (hn : n ≤ 3) (hpos : Cyc cs) (hF : Rd w F 4002 (firsts e cs))
  (he : 0 ≤ e ∧ e ≤ 1000) (hx : dateOf e cs day = some x) :
  Calls Tryz.prog 209 #[.agg #[.int .i64 e, .slice A n c, .int .i64 m1, .int .i64 m2, .int .i64 m3, .slice F 4002 fc, g], .int .i64 day] w fun e' w' =>
   e' = .returned (.agg #[.int .i64 x.y, .int .i64 x.m, .int .i64 x.d]) ∧ Below w.heap.size w w' := by
 obtain ⟨hreal, hday⟩ := dateOf_some.1 hx
 obtain ⟨y, m, d⟩ := x
 have hdb := dayOf_bounds (e := e) hreal
 obtain ⟨r1, r2, r3, r4, r5, r6⟩ := hreal
 simp only at r1 r2 r3 r4 r5 r6 hdb
 rw [hday] at hdb
 unfold dayOf at hday
 simp only at hday
 have hfb := firstDay_bounds e cs y r1
 have hcb := cum_bounds (leapB cs y) m r3 r4
 have hr0 := hr.alloc (.cells #[.int .i64 e, .slice A n c, .int .i64 m1, .int .i64 m2, .int .i64 m3, .slice F 4002 fc, g] 253)
 have hF0 := hF.alloc (.cells #[.int .i64 e, .slice A n c, .int .i64 m1, .int .i64 m2, .int .i64 m3, .slice F 4002 fc, g] 253)
 have hyear : inB y 0 4000 = true := inB_yes ⟨r1, r2⟩
 have hkb : ∃ (k : Nat) (b : Bool), ((List.range 4002).map (firstN e cs)).countP (· < day) = k ∧ ((List.range 4002).map (firstN e cs)).contains day = b ∧ ((b = true ∧ (k : Int) = y) ∨ (b = false ∧ (k : Int) = y + 1)) := by
  rw [firstDay_succ _ _ _ r1] at hdb
  by_cases h0 : firstDay e cs y = day
  ·have := firsts_found e cs 4002 y.toNat (by omega)
   unfold firstDay at h0
   rw [h0] at this
   exact ⟨_, _, this.1, this.2, .inl ⟨rfl, by omega⟩⟩
  ·have hs := firstDay_succ e cs y r1
   have e1 : (y + 1).toNat = y.toNat + 1 := by omega
   have := firsts_between e cs 4002 y.toNat day (by omega) (by unfold firstDay at h0 hdb; omega) (fun _ => by unfold firstDay at hs hdb; rw [e1] at hs; omega)
   exact ⟨_, _, this.1, this.2, .inr ⟨rfl, by omega⟩⟩
 obtain ⟨k, b, hk, hb, hkb⟩ := hkb
 obtain ⟨lp, hlp⟩ : ∃ lp, leapB cs y = lp := ⟨_, rfl⟩
 have hml := mlen_pos (leapB cs y) m
 have hday2 : day ≤ 10000000 := by omega
 have hday0 : 0 ≤ day := by omega
 rw [hlp] at hday r6 hcb hml
 have HLP := Lib.hid hlp
 clear hlp
 generalize hfd : firstDay e cs y = fy at *
 have HFD := Lib.hid hfd
 clear hfd
 have hcm := cum_succ lp m r3 r4
 have hlow : ∀ j : Nat, (j : Int) + 1 < m → cum lp (j + 2) ≤ cum lp m := fun j hj => by
  have := month_lt lp (m := j + 1) (m' := m) (by omega) (by omega) (by omega)
  rw [show ((j : Int) + 1 + 1) = j + 2 by omega] at this
  exact this
 have hy3 : y < 4002 := by omega
 rcases hkb with ⟨rfl, hky⟩ | ⟨rfl, hky⟩
 all_goals
  go_enter Tryz.func209, Tryz.ntmps209
  go_wp2_with fail
  refine (search_any F fc cs e day _ (hF0.alloc _) k _ hk hb).mono ?_
  rintro e' w1 ⟨rfl, hb1⟩
  obtain ⟨hc_w1, hf_w1⟩ := bcell hb1
  have hz0_w1 : w.heap.size < w1.heap.size := Nat.lt_of_lt_of_le (by first | omega | (simp; done) | (simp; omega)) hb1.size
  have hz1_w1 : w.heap.size + 1 < w1.heap.size := Nat.lt_of_lt_of_le (by first | omega | (simp; done) | (simp; omega)) hb1.size
  have hky0 : (0 : Int) ≤ (k : Int) := Int.natCast_nonneg k
  go_wp2_with fail
  refine (isYear_is _ _ _ hyear).mono ?_
  rintro e' w1' ⟨rfl, rfl⟩
  have hr1 := hr0.keep (fr_call (fr_alloc (fr_refl _) (.cells #[.int .i64 0, .int .i64 0, .int .i64 0] 181)) hb1)
  have hF1 := hF0.keep (fr_call (fr_alloc (fr_refl _) (.cells #[.int .i64 0, .int .i64 0, .int .i64 0] 181)) hb1)
  obtain ⟨ad, rfl, hab, hfc⟩ := fst_at hF1 (y := y) r1 (by omega)
  rw [HFD.out] at hfc
  clear hF1
  go_wp2_with fail
  refine (leap_any A n c cs _ _ _ _ _ _ y _ hr1 hn hpos r1 (by omega)).mono ?_
  rw [HLP.out]
  rintro e' w2 ⟨rfl, hb2⟩
  go_wp2_with fail
  refine (months_any _ _).mono ?_
  rintro e' w3 ⟨gm, rfl, hrm, hb3⟩
  have hb23 := fr_call hb2 hb3
  obtain ⟨hc_w3, hf_w3⟩ := bcell hb23
  have hz0_w3 : w.heap.size < w3.heap.size := Nat.lt_of_lt_of_le (by first | omega | (simp; done) | (simp; omega)) hb23.size
  have hz1_w3 : w.heap.size + 1 < w3.heap.size := Nat.lt_of_lt_of_le (by first | omega | (simp; done) | (simp; omega)) hb23.size
  have hfr3 := fr_call (fr_call (fr_alloc (fr_alloc (fr_refl w) (.cells #[.int .i64 e, .slice A n c, .int .i64 m1, .int .i64 m2, .int .i64 m3, .slice (some ad) 4002 fc, g] 253)) (.cells #[.int .i64 0, .int .i64 0, .int .i64 0] 181)) hb1) hb23
  have hcR : ∀ j, w3.cell? ⟨w.heap.size + 1, j, none⟩ = (#[.int .i64 0, .int .i64 0, .int .i64 0] : Array Value)[j]? := fun j => by
   rw [hc_w3 _ _ hz1_w1, hc_w1 _ _ (by simp)]
   have := cell_new (w.alloc (.cells #[.int .i64 e, .slice A n c, .int .i64 m1, .int .i64 m2, .int .i64 m3, .slice (some ad) 4002 fc, g] 253)) #[.int .i64 0, .int .i64 0, .int .i64 0] 181 j
   rw [World.size_alloc] at this
   exact this
  have hfR : ∀ j, w3.frozen? ⟨w.heap.size + 1, j, none⟩ = false := fun j => by
   rw [hf_w3 _ _ hz1_w1, hf_w1 _ _ (by simp)]
   exact (Blk.new_at (w := w.alloc (.cells #[.int .i64 e, .slice A n c, .int .i64 m1, .int .i64 m2, .int .i64 m3, .slice (some ad) 4002 fc, g] 253)) 181 #[.int .i64 0, .int .i64 0, .int .i64 0] (by simp)).frozen j
  have hrow := hrm.row
  clear hc_w1 hf_w1 hc_w3 hf_w3 hb1 hb2 hb3 hb23 hr0 hr1 hF hF0 hr
  go_wp2_with fail
  clear hz0_w1 hz1_w1 hz0_w3 hfc hab
  have hfy1 : 0 ≤ fy := by omega
  have hfy2 : fy ≤ 10000000 := by omega
  have HDAY := Lib.hid hday
  have HCM := Lib.hid hcm
  clear hday hcm hfb hdb
  go_loop [7, 39] (fun l i => ∃ k : Nat, (k : Int) + 1 ≤ m ∧ i = .int .i64 k ∧ l = .int .i64 (day - fy - cum lp (k + 1))) (fun _ i => 12 - (intOf i).toNat)
  case atStart => exact ⟨0, by omega, rfl, by rw [show cum lp ((0 : Nat) + 1) = 0 from rfl, Int.sub_zero]⟩
  case round =>
   obtain ⟨k', hk', rfl, rfl⟩ := hrel
   have hcell := hrow k' (by omega)
   rw [mtab_nat _ _ (by omega)] at hcell
   have hcb' := cum_bounds lp (k' + 1) (by omega) (by omega)
   have hml' := mlen_pos lp (k' + 1)
   have hlow' := hlow k'
   have HS := Lib.hid (cum_succ lp (k' + 1) (by omega) (by omega))
   clear hrow hlow hk hb
   have hk12 : (k' : Int) < 12 := by omega
   by_cases hkm : (k' : Int) + 1 = m
   ·obtain rfl := hkm
    have hlt : day - fy - cum lp (k' + 1) < mlen lp (k' + 1) := by have := HDAY.out; omega
    have hge : 0 ≤ day - fy - cum lp (k' + 1) := by have := HDAY.out; omega
    generalize hq : cum lp (k' + 1) = q at *
    generalize hq2 : mlen lp (k' + 1) = q2 at *
    clear hq hq2
    go_wp2
    refine bodyPost_ret (v := .agg #[.int .i64 y, .int .i64 (k' + 1), .int .i64 (day - fy - q + 1)]) (by simp [results, Tryz.results209, go_sem, hcR]) rfl ⟨?_, ?_⟩
    ·have e1 : d = day - fy - q + 1 := by have := HDAY.out; omega
     rw [e1]
    ·(repeat (refine fr_set ?_ (by simp) _)); exact hfr3
   ·have hl2 := hlow' (by omega)
    have hlt : ¬ day - fy - cum lp (k' + 1) < mlen lp (k' + 1) := by have := HDAY.out; have := HS.out; rw [show (k' : Int) + 1 + 1 = k' + 2 by omega] at this; omega
    clear hlow' hl2
    generalize hq : cum lp (k' + 1) = q at *
    generalize hq2 : mlen lp (k' + 1) = q2 at *
    have HQ := Lib.hid hq
    have HQ2 := Lib.hid hq2
    clear hq hq2
    go_wp2
    go_round
    case rel => exact ⟨k' + 1, by omega, by go_num, by rw [show (((k' + 1 : Nat) : Int) + 1) = k' + 1 + 1 by omega, HS.out]; go_num⟩
    case measure => simp [intOf]; omega

/-- what date gives up with -/
def awayV (day : Int) : List PanicEntry := [{ v := .iface 298 (.agg #[.int .i64 day]), recovered := false }]

set_option maxRecDepth 100000 in
set_option maxHeartbeats 2000000 in
theorem date_none (A F : Option Addr) (n c fc : Nat) (cs : List Int) (e m1 m2 m3 : Int) (g : Value) (day : Int) (w : World) (hF : Rd w F 4002 (firsts e cs)) (hx : dateOf e cs day = none) :
  Calls Tryz.prog 209 #[.agg #[.int .i64 e, .slice A n c, .int .i64 m1, .int .i64 m2, .int .i64 m3, .slice F 4002 fc, g], .int .i64 day] w fun e' w' =>
   e' = .panicked (awayV day) ∧ Below w.heap.size w w' := by
 have hF0 := hF.alloc (.cells #[.int .i64 e, .slice A n c, .int .i64 m1, .int .i64 m2, .int .i64 m3, .slice F 4002 fc, g] 253)
 have hkb : ∃ (k : Nat) (b : Bool), ((List.range 4002).map (firstN e cs)).countP (· < day) = k ∧ ((List.range 4002).map (firstN e cs)).contains day = b ∧ ((b = true ∧ k = 4001) ∨ (b = false ∧ k = 4002) ∨ (b = false ∧ k = 0)) := by
  rcases dateOf_none.1 hx with h | h
  ·have := firsts_before e cs 4002 day h
   exact ⟨_, _, this.1, this.2, .inr (.inr ⟨rfl, rfl⟩)⟩
  ·have h' : firstN e cs 4001 ≤ day := h
   by_cases h0 : firstN e cs 4001 = day
   ·have := firsts_found e cs 4002 4001 (by omega)
    rw [h0] at this
    exact ⟨_, _, this.1, this.2, .inl ⟨rfl, rfl⟩⟩
   ·have := firsts_between e cs 4002 4001 day (by omega) (by omega) (fun h => by omega)
    exact ⟨_, _, this.1, this.2, .inr (.inl ⟨rfl, rfl⟩)⟩
 obtain ⟨k, b, hk, hb, hkb⟩ := hkb
 have hy1 : inB 4001 0 4000 = false := by decide
 have hy2 : inB (-1) 0 4000 = false := by decide
 unfold awayV
 rcases hkb with ⟨rfl, rfl⟩ | ⟨rfl, rfl⟩ | ⟨rfl, rfl⟩
 all_goals
  go_enter Tryz.func209, Tryz.ntmps209
  go_wp2_with fail
  refine (search_any F fc cs e day _ (hF0.alloc _) _ _ hk hb).mono ?_
  rintro e' w1 ⟨rfl, hb1⟩
  obtain ⟨hc_w1, hf_w1⟩ := bcell hb1
  have hz0_w1 : w.heap.size < w1.heap.size := Nat.lt_of_lt_of_le (by first | omega | (simp; done) | (simp; omega)) hb1.size
  have hz1_w1 : w.heap.size + 1 < w1.heap.size := Nat.lt_of_lt_of_le (by first | omega | (simp; done) | (simp; omega)) hb1.size
  clear hk hb
  go_wp2_with fail
  first | refine (isYear_is _ _ _ hy1).mono ?_ | refine (isYear_is _ _ _ hy2).mono ?_
  rintro e' w1' ⟨rfl, rfl⟩
  clear hy1 hy2
  go_wp2_with fail
  exact ⟨rfl, rfl, fr_call (fr_alloc (fr_alloc (fr_refl w) _) _) hb1⟩
end Go.Proofs.YtkmiphabagoifaaGreatDoor
end
