/- Walks: what is as defined (calendars, realms, moons); weekdays; the moon's age. Rows of numbers that the call itself makes by append; blocks that are known whole. Walk: a calendar with its moon is opened. Walks: whether any date is one of a calendar; Day. How many first days are less than a day. Walk: the date of a day. Walks: 'try': something is done, and a panic of this package is given back as an error. A struct stored into a block that is known whole; the world behind it keeps one name. Walks: realms; the date of a day in a realm. Walks: Date and On. Walks: On. Walk: all days of a date in a realm (by gen_days.py: nine ways). Walks: Days at what is not as defined; Age. The map of the days of Easter that were found: keyed by a date. Walk: the day of Easter of a year. Walk: Easter. -/
import Derived.Test.YtdocgmafbacjcaaGreatDoorMT1
import Derived.OwnWalk
import Derived.Laws.Rows
import Derived.Deep.DeepMust
import Derived.Test.YtdocgmafbacjcaaGreatDoorShelf
import Derived.Defers
import Derived.Recover
import Derived.Laws.Pointers
import Derived.Laws.EntriesVeiled
import Derived.Outline
import Derived.Deep.MidRow
section
namespace Go.Proofs.YtdocgmafbacjcaaGreatDoor
open Go.RowKit Dl

def okCyc : Int → List Int → Bool
 | _, [] => true
 | last, x :: xs => inB x (last + 1) 1000 && okCyc x xs
def calOk (e : Int) (cs : List Int) : Bool := inB e 0 1000 && inB (cs.length : Int) 1 3 && okCyc 1 cs

theorem okCyc_pos : ∀ (cs : List Int) (last : Int), 1 ≤ last → okCyc last cs = true → ∀ k, k < cs.length → last < cs[k]?.getD 0 ∧ cs[k]?.getD 0 ≤ 1000
 | [], _, _, _ => fun k hk => absurd hk (by simp)
 | x :: xs, last, hl, h => by
  simp only [okCyc, Bool.and_eq_true] at h
  obtain ⟨h1, h2⟩ := h
  have h1' := inB_iff.1 h1
  intro k hk
  cases k with
  | zero => simp; omega
  | succ k =>
   have := okCyc_pos xs x (by omega) h2 k (by simpa using hk)
   simp only [List.getElem?_cons_succ]
   omega
theorem calOk_parts {e : Int} {cs : List Int} (h : calOk e cs = true) : (0 ≤ e ∧ e ≤ 1000) ∧ (1 ≤ cs.length ∧ cs.length ≤ 3) ∧ Cyc cs := by
 unfold calOk at h
 simp only [Bool.and_eq_true] at h
 obtain ⟨⟨h1, h2⟩, h3⟩ := h
 have h1' := inB_iff.1 h1
 have h2' := inB_iff.1 h2
 refine ⟨h1', by omega, fun k hk => ?_⟩
 have := okCyc_pos cs 1 (by omega) h3 k hk
 omega

theorem okCyc_drop (cs : List Int) (last : Int) (k : Nat) (hk : k < cs.length) (hb : inB (cs[k]?.getD 0) (last + 1) 1000 = true) : okCyc last (cs.drop k) = okCyc (cs[k]?.getD 0) (cs.drop (k + 1)) := by
 rw [List.drop_eq_getElem_cons hk]
 have e : cs[k]?.getD 0 = cs[k] := by simp [hk]
 rw [e] at hb
 simp only [okCyc, hb, Bool.true_and, e]
theorem okCyc_drop_no (cs : List Int) (last : Int) (k : Nat) (hk : k < cs.length) (hb : inB (cs[k]?.getD 0) (last + 1) 1000 = false) : okCyc last (cs.drop k) = false := by
 rw [List.drop_eq_getElem_cons hk]
 have e : cs[k]?.getD 0 = cs[k] := by simp [hk]
 rw [e] at hb
 simp only [okCyc, hb, Bool.false_and]

set_option maxHeartbeats 1000000 in
theorem isCalendar_is (A : Option Addr) (n c : Nat) (cs : List Int) (e : Int) (w : World) (hr : Rd w A n cs) (hn : n ≤ 9223372036854775807) (b : Bool) (hb : calOk e cs = b) :
  Calls Tryz.prog 161 #[.agg #[.int .i64 e, .slice A n c]] w fun e' w' => e' = .returned (.bool b) ∧ Below w.heap.size w w' := by
 subst hb
 have hlen := hr.len
 by_cases he : inB e 0 1000 = true
 ·by_cases hl : inB (n : Int) 1 3 = true
  ·have hl2 := inB_iff.1 hl
   have hc : calOk e cs = okCyc 1 cs := by unfold calOk; rw [hlen, he, hl]; rfl
   rw [hc]
   clear hc
   have hw' := hr.alloc (Obj.cells #[.int .i64 e, .slice A n c] 30)
   go_enter Tryz.func161, Tryz.ntmps161
   go_wp2_with (first | (go_at_call 220; (with_reducible refine (in_is _ _ _ _ _ he).mono ?_); rintro e w' ⟨rfl, rfl⟩) | (go_at_call 220; (with_reducible refine (in_is _ _ _ _ _ hl).mono ?_); rintro e w' ⟨rfl, rfl⟩))
   go_loop [3, 20] (fun b i => ∃ (k : Nat) (last : Int), k ≤ n ∧ i = .int .i64 k ∧ b = .int .i64 last ∧ 1 ≤ last ∧ last ≤ 1000 ∧ okCyc 1 cs = okCyc last (cs.drop k)) (fun _ i => n - (intOf i).toNat)
   case atStart => exact ⟨0, 1, Nat.zero_le _, rfl, rfl, by omega, by omega, rfl⟩
   case round =>
    obtain ⟨k, last, hk, rfl, rfl, hl1, hl3, hq⟩ := hrel
    have HQ := Lib.hid hq
    clear hq
    by_cases hlt : k < n
    ·obtain ⟨ad, rfl, hb, hc⟩ := hw'.at_ hlt
     have H1 := Lib.hid (okCyc_drop cs last k (by omega))
     have H2 := Lib.hid (okCyc_drop_no cs last k (by omega))
     generalize hx : cs[k]?.getD 0 = x at *
     clear hx
     by_cases hi : inB x (last + 1) 1000 = true
     ·have hi2 := inB_iff.1 hi
      go_wp2_with (go_at_call 220; refine (in_is _ _ _ _ _ hi).mono ?_; rintro e w' ⟨rfl, rfl⟩)
      go_round
      case rel => exact ⟨k + 1, x, by omega, by go_num, rfl, by omega, by omega, by rw [HQ.out, H1.out hi]⟩
      case measure => simp [intOf]; omega
     ·have hi3 : inB x (last + 1) 1000 = false := by simpa using hi
      go_wp2_with (go_at_call 220; refine (in_is _ _ _ _ _ hi3).mono ?_; rintro e w' ⟨rfl, rfl⟩)
      go_ret
      exact ⟨ret_bool (by rw [HQ.out, H2.out hi3]), fr_alloc (fr_refl _) _⟩
    ·go_wp2
     go_ret
     obtain rfl : k = n := by omega
     refine ⟨ret_bool ?_, fr_alloc (fr_refl _) _⟩
     rw [HQ.out, List.drop_of_length_le (by omega)]
     rfl
  ·have hl3 : inB (n : Int) 1 3 = false := by simpa using hl
   have hc : calOk e cs = false := by unfold calOk; rw [hlen, hl3]; simp
   rw [hc]
   go_enter Tryz.func161, Tryz.ntmps161
   go_wp2_with (first | (go_at_call 220; (with_reducible refine (in_is _ _ _ _ _ he).mono ?_); rintro e w' ⟨rfl, rfl⟩) | (go_at_call 220; (with_reducible refine (in_is _ _ _ _ _ hl3).mono ?_); rintro e w' ⟨rfl, rfl⟩))
   go_ret
   exact ⟨rfl, fr_alloc (fr_refl _) _⟩
 ·have he3 : inB e 0 1000 = false := by simpa using he
  have hc : calOk e cs = false := by unfold calOk; rw [he3]; simp
  rw [hc]
  go_enter Tryz.func161, Tryz.ntmps161
  go_wp2_with (go_at_call 220; refine (in_is _ _ _ _ _ he3).mono ?_; rintro e w' ⟨rfl, rfl⟩)
  go_ret
  exact ⟨rfl, fr_alloc (fr_refl _) _⟩


def wkd (d : Int) : Int := (d + 4) % 7
set_option maxHeartbeats 400000 in
theorem weekday_any (d : Int) (w : World) (h0 : -4 ≤ d) (h1 : d ≤ 100000000) :
  Calls Tryz.prog 246 #[.int .i64 d] w fun e' w' => e' = .returned (.int .i64 (wkd d)) ∧ w = w' := by
 go_enter Tryz.func246, Tryz.ntmps246
 go_wp2
 go_ret
 exact ⟨rfl, rfl⟩

def moonB (num den add : Int) : Bool := inB den 1 1000 && inB num (29 * den) (30 * den) && inB add 0 (num - 1)
theorem moonB_ok {num den add : Int} (h : moonB num den add = true) : MoonOk num den add := by
 unfold moonB at h
 simp only [Bool.and_eq_true] at h
 obtain ⟨⟨h1, h2⟩, h3⟩ := h
 have h1 := inB_iff.1 h1
 have h2 := inB_iff.1 h2
 have h3 := inB_iff.1 h3
 exact ⟨h1.1, h1.2, h2.1, h2.2, h3.1, h3.2⟩

set_option maxHeartbeats 1000000 in
theorem isMoon_is (num den add : Int) (w : World) (b : Bool) (hb : moonB num den add = b) :
  Calls Tryz.prog 162 #[.agg #[.int .i64 num, .int .i64 den, .int .i64 add]] w fun e' w' => e' = .returned (.bool b) ∧ Below w.heap.size w w' := by
 subst hb
 by_cases h1 : inB den 1 1000 = true
 ·have h1' := inB_iff.1 h1
  by_cases h2 : inB num (29 * den) (30 * den) = true
  ·have h2' := inB_iff.1 h2
   have hc : moonB num den add = inB add 0 (num - 1) := by unfold moonB; rw [h1, h2]; rfl
   rw [hc]
   go_enter Tryz.func162, Tryz.ntmps162
   go_wp2_with fail
   refine (in_is _ _ _ _ _ h1).mono ?_
   rintro e w' ⟨rfl, rfl⟩
   go_wp2_with fail
   refine (in_is _ _ _ _ _ h2).mono ?_
   rintro e w' ⟨rfl, rfl⟩
   go_wp2_with fail
   refine (in_is _ _ _ _ _ rfl).mono ?_
   rintro e w' ⟨rfl, rfl⟩
   go_wp2_with fail
   go_ret
   exact ⟨rfl, fr_alloc (fr_refl _) _⟩
  ·have h2' : inB num (29 * den) (30 * den) = false := by simpa using h2
   have hc : moonB num den add = false := by unfold moonB; rw [h2']; simp
   rw [hc]
   go_enter Tryz.func162, Tryz.ntmps162
   go_wp2_with fail
   refine (in_is _ _ _ _ _ h1).mono ?_
   rintro e w' ⟨rfl, rfl⟩
   go_wp2_with fail
   refine (in_is _ _ _ _ _ h2').mono ?_
   rintro e w' ⟨rfl, rfl⟩
   go_wp2_with fail
   go_ret
   exact ⟨rfl, fr_alloc (fr_refl _) _⟩
 ·have h1' : inB den 1 1000 = false := by simpa using h1
  have hc : moonB num den add = false := by unfold moonB; rw [h1']; simp
  rw [hc]
  go_enter Tryz.func162, Tryz.ntmps162
  go_wp2_with fail
  refine (in_is _ _ _ _ _ h1').mono ?_
  rintro e w' ⟨rfl, rfl⟩
  go_wp2_with fail
  go_ret
  exact ⟨rfl, fr_alloc (fr_refl _) _⟩

theorem tdiv_floor (n b : Int) (hb : 0 < b) : (n < n.tdiv b * b → n.tdiv b - 1 = n / b) ∧ (¬ n < n.tdiv b * b → n.tdiv b = n / b) := by
 have h1 := Int.mul_tdiv_add_tmod n b
 have h2 := Int.mul_ediv_add_emod n b
 have h3 := Int.emod_nonneg n (show b ≠ 0 by omega)
 have h4 := Int.emod_lt_of_pos n hb
 have h5 : (n.tmod b).natAbs < b.natAbs := by
  rw [Int.natAbs_tmod]
  exact Nat.mod_lt _ (by omega)
 rw [Int.mul_comm] at h1 h2
 generalize n.tdiv b = q at *
 generalize n.tmod b = r at *
 generalize n / b = q' at *
 generalize n % b = r' at *
 have key : (q' - q) * b = r - r' := by rw [Int.sub_mul]; omega
 constructor
 ·intro h
  have a1 : (q' - q) * b < 0 * b := by omega
  have a2 : (-2) * b < (q' - q) * b := by omega
  have := Int.lt_of_mul_lt_mul_right a1 (by omega)
  have := Int.lt_of_mul_lt_mul_right a2 (by omega)
  omega
 ·intro h
  have a1 : (q' - q) * b < 1 * b := by omega
  have a2 : (-1) * b < (q' - q) * b := by omega
  have := Int.lt_of_mul_lt_mul_right a1 (by omega)
  have := Int.lt_of_mul_lt_mul_right a2 (by omega)
  omega

set_option maxHeartbeats 1000000 in
theorem down_any (n b : Int) (w : World) (hb : 0 < b) (hb2 : b ≤ 100000) (h0 : -1000000000000 ≤ n) (h1 : n ≤ 1000000000000) :
  Calls Tryz.prog 266 #[.int .i64 n, .int .i64 b] w fun e' w' => e' = .returned (.int .i64 (n / b)) ∧ w = w' := by
 obtain ⟨T1, T2⟩ := tdiv_floor n b hb
 have q1 : -1000000000000 ≤ n.tdiv b ∧ n.tdiv b ≤ 1000000000000 := by
  have : (n.tdiv b).natAbs ≤ n.natAbs := by rw [Int.natAbs_tdiv]; exact Nat.div_le_self _ _
  omega
 have q2 : -1000000000000 ≤ n.tdiv b * b ∧ n.tdiv b * b ≤ 1000000000000 := by
  have : (n.tdiv b * b).natAbs ≤ n.natAbs := by rw [Int.natAbs_mul, Int.natAbs_tdiv]; exact Nat.div_mul_le_self _ _
  omega
 obtain ⟨q3, q4⟩ := q1
 obtain ⟨q5, q6⟩ := q2
 have hne : ¬ b = 0 := by omega
 have hw1 : IntKind.i64.wrap (n.tdiv b) = n.tdiv b := IntWalk.i64_in _ (by omega)
 have hw2 : IntKind.i64.wrap (n.tdiv b * b) = n.tdiv b * b := IntWalk.i64_in _ (by omega)
 have HT1 := Lib.hid T1
 have HT2 := Lib.hid T2
 clear T1 T2
 by_cases hlt : n < n.tdiv b * b
 ·go_enter Tryz.func266, Tryz.ntmps266
  go_wp2
  go_ret
  exact ⟨ret_int (HT1.out hlt), rfl⟩
 ·go_enter Tryz.func266, Tryz.ntmps266
  go_wp2
  go_ret
  exact ⟨ret_int (HT2.out hlt), rfl⟩

set_option maxHeartbeats 1000000 in
theorem age_any (num den add d : Int) (w : World) (h : MoonOk num den add) (h0 : -1000 ≤ d) (h1 : d ≤ 10000000) :
  Calls Tryz.prog 245 #[.agg #[.int .i64 num, .int .i64 den, .int .i64 add], .int .i64 d] w fun e' w' => e' = .returned (.int .i64 (ageOf num den add d)) ∧ Below w.heap.size w w' := by
 have hp := h.npos
 have hd1 := h.d1
 have hd2 := h.d2
 have hn1 := h.n1
 have hn2 := h.n2
 have ha1 := h.a1
 have ha2 := h.a2
 have m1 : -1000000 ≤ (d + 1) * den ∧ (d + 1) * den ≤ 10001000000 := by
  constructor
  ·have : (-1000) * 1000 ≤ (d + 1) * den := by
    by_cases hz : 0 ≤ d + 1
    ·have := Int.mul_nonneg hz (by omega : (0:Int) ≤ den); omega
    ·have a : (-1000) * den ≤ (d + 1) * den := Int.mul_le_mul_of_nonneg_right (by omega) (by omega)
     omega
   omega
  ·have a : (d + 1) * den ≤ 10000001 * den := Int.mul_le_mul_of_nonneg_right (by omega) (by omega)
   omega
 obtain ⟨m1a, m1b⟩ := m1
 have hL := new_last h d
 have hN := new_next h d
 have hk : -40000000 ≤ lastK num den add d * num ∧ lastK num den add d * num ≤ 10001000000 := by
  have a := Int.mul_ediv_add_emod ((d + 1) * den - 1 - add) num
  have b := Int.emod_nonneg ((d + 1) * den - 1 - add) (show num ≠ 0 by omega)
  have c := Int.emod_lt_of_pos ((d + 1) * den - 1 - add) hp
  rw [Int.mul_comm] at a
  unfold lastK
  omega
 obtain ⟨k1, k2⟩ := hk
 have hage := age_range h d
 unfold ageOf at hage ⊢
 unfold newDay at hage hL hN ⊢
 have HK := Lib.hid (show lastK num den add d = ((d + 1) * den - 1 - add) / num from rfl)
 generalize hkk : lastK num den add d = kk at *
 clear hkk hN hL
 have hw1 : IntKind.i64.wrap (d + 1) = d + 1 := IntWalk.i64_in _ (by omega)
 have hw2 : IntKind.i64.wrap ((d + 1) * den) = (d + 1) * den := IntWalk.i64_in _ (by omega)
 have hw3 : IntKind.i64.wrap ((d + 1) * den - 1) = (d + 1) * den - 1 := IntWalk.i64_in _ (by omega)
 have hw4 : IntKind.i64.wrap ((d + 1) * den - 1 - add) = (d + 1) * den - 1 - add := IntWalk.i64_in _ (by omega)
 have hw5 : IntKind.i64.wrap (kk * num) = kk * num := IntWalk.i64_in _ (by omega)
 have hw6 : IntKind.i64.wrap (kk * num + add) = kk * num + add := IntWalk.i64_in _ (by omega)
 have hw7 : IntKind.i64.wrap (d - (kk * num + add) / den) = d - (kk * num + add) / den := IntWalk.i64_in _ (by omega)
 clear hage
 go_enter Tryz.func245, Tryz.ntmps245
 go_wp2_with fail
 refine (down_any _ _ _ hp (by omega) (by omega) (by omega)).mono ?_
 rw [← HK.out]
 rintro e' w' ⟨rfl, rfl⟩
 go_wp2_with fail
 refine (down_any _ _ _ (by omega) (by omega) (by omega) (by omega)).mono ?_
 rintro e' w' ⟨rfl, rfl⟩
 go_wp2_with fail
 go_ret
 exact ⟨rfl, fr_alloc (fr_refl _) _⟩
end Go.Proofs.YtdocgmafbacjcaaGreatDoor
end

section
namespace Go.Proofs.YtdocgmafbacjcaaGreatDoor
open Go.RowKit

/-- block g is just the cells cs -/
def Blk (w : World) (g : Nat) (t : TypeId) (cs : Array Value) : Prop := w.heap[g]? = some (.cells cs t (0, 0))
section
variable {w w' : World} {g : Nat} {t : TypeId} {cs : Array Value}
theorem Blk.lt (h : Blk w g t cs) : g < w.heap.size := by
 rcases Nat.lt_or_ge g w.heap.size with hlt | hge
 ·exact hlt
 ·unfold Blk at h; rw [Array.getElem?_eq_none hge] at h; cases h
theorem Blk.cell (h : Blk w g t cs) (i : Nat) : w.cell? ⟨g, i, none⟩ = cs[i]? := by unfold Blk at h; unfold World.cell?; rw [h]; rfl
theorem Blk.frozen (h : Blk w g t cs) (i : Nat) : w.frozen? ⟨g, i, none⟩ = false := by
 unfold Blk at h
 simp [World.frozen?, h]
theorem Blk.new (w : World) (t : TypeId) (cs : Array Value) : Blk (w.alloc (.cells cs t)) w.heap.size t cs := heap_alloc_new w _
theorem Blk.new_at {w : World} {g : Nat} (t : TypeId) (cs : Array Value) (h : w.heap.size = g) : Blk (w.alloc (.cells cs t)) g t cs := h ▸ Blk.new w t cs
theorem heap_new_at {w : World} {g : Nat} (o : Obj) (h : w.heap.size = g) : (w.alloc o).heap[g]? = some o := h ▸ heap_alloc_new w o
theorem Blk.drew (h : Blk w g t cs) : Blk w.drew g t cs := h
theorem Blk.alloc (h : Blk w g t cs) (o : Obj) : Blk (w.alloc o) g t cs := (Below.heap_alloc w o g h.lt).trans h
theorem Blk.set_ (h : Blk w g t cs) (i : Nat) (u : Value) : Blk (w.setCell ⟨g, i, none⟩ u) g t (cs.setIfInBounds i u) := by
 unfold Blk at h ⊢
 simp [World.setCell, Array.getElem?_modify, h]
theorem Blk.far (h : Blk w g t cs) {p : Addr} (hp : g ≠ p.block) (u : Value) : Blk (w.setCell p u) g t cs := (Below.heap_setCell w p u g hp).trans h
theorem Blk.keep (h : Blk w g t cs) (hb : Below w.heap.size w w') : Blk w' g t cs := (hb.block g h.lt).trans h
theorem Blk.grown {row : Option Nat} (h : Blk w g t cs) (hb : w.grownBy w' row) (hg : some g ≠ row) : Blk w' g t cs := (hb.block g h.lt hg).trans h
theorem Blk.ne_ {g' : Nat} {t' : TypeId} {cs' : Array Value} (h : Blk w g t cs) (h' : Blk w g' t' cs') (hne : t ≠ t') : g ≠ g' := by
 rintro rfl
 unfold Blk at h h'
 rw [h] at h'
 injection h' with h'
 injection h' with _ ht
 exact hne ht
theorem grown_below {a b c : World} {r : Option Nat} (h : a.grownBy b r) (k : Below b.heap.size b c) : a.grownBy c r :=
 ⟨k.os.trans h.os, k.tape.trans h.tape, k.output.trans h.output, Nat.le_trans h.size k.size, fun i hi hn => (k.block i (Nat.lt_of_lt_of_le hi h.size)).trans (h.block i hi hn)⟩
theorem below_grown {a b c : World} {r : Option Nat} (h : Below a.heap.size a b) (k : b.grownBy c r) : a.grownBy c r :=
 ⟨k.os.trans h.os, k.tape.trans h.tape, k.output.trans h.output, Nat.le_trans h.size k.size, fun i hi hn => (k.block i (Nat.lt_of_lt_of_le hi h.size) hn).trans (h.block i hi)⟩
theorem grown_trans {a b c : World} {r : Option Nat} (h : a.grownBy b r) (k : b.grownBy c r) : a.grownBy c r :=
 ⟨k.os.trans h.os, k.tape.trans h.tape, k.output.trans h.output, Nat.le_trans h.size k.size, fun i hi hn => (k.block i (Nat.lt_of_lt_of_le hi h.size) hn).trans (h.block i hi hn)⟩
theorem own_blk_ne {base : Nat} {e : TypeId} {size n : Nat} {v : Value} {xs : List Value} (h : w.ownsRow base e size v n xs) (hg : Blk w g t cs) (hne : e ≠ t) : v.ownBlock ≠ some g := by
 rcases h.2 with ⟨rfl, _⟩ | ⟨g', cap, cur, rfl, _, hh, _⟩
 ·simp [Value.ownBlock]
 ·intro he
  have : g' = g := by simpa [Value.ownBlock] using he
  subst this
  unfold Blk at hg
  rw [hg] at hh
  injection hh with hh
  injection hh with _ ht
  exact hne ht.symm
/-- no row of cells is a map -/
theorem own_map_ne {base : Nat} {e : TypeId} {size n : Nat} {v : Value} {xs : List Value} (h : w.ownsRow base e size v n xs) {es : Array MapEntry} {k : Nat} (hg : w.heap[g]? = some (.map es k)) : v.ownBlock ≠ some g := by
 rcases h.2 with ⟨rfl, _⟩ | ⟨g', cap, cur, rfl, _, hh, _⟩
 ·simp [Value.ownBlock]
 ·intro he
  have : g' = g := by simpa [Value.ownBlock] using he
  subst this
  rw [hg] at hh
  cases hh
end

/-- the slice value v is nil, or a row of the call's own, and reads as xs -/
def Own (w : World) (base : Nat) (v : Value) (xs : List Int) : Prop := w.ownsRow base 3 1 v xs.length (xs.map (Value.int .i64))
theorem Own.nil (w : World) (base : Nat) : Own w base (.slice none 0 0) [] := World.ownsRow_nil w base _ 1
theorem grown_of_below {w w' : World} (hb : Below w.heap.size w w') : w.grownBy w' none := ⟨hb.os, hb.tape, hb.output, hb.size, fun k hk _ => hb.block k hk⟩
theorem owns_keep {w w' : World} {base : Nat} {e : TypeId} {size n : Nat} {v : Value} {xs : List Value} (h : w.ownsRow base e size v n xs) (hb : Below w.heap.size w w') : w'.ownsRow base e size v n xs := by
 refine h.kept (grown_of_below hb) ?_
 cases hv : v.ownBlock
 ·exact .inl rfl
 ·exact .inr (by simp)
theorem Own.keep {w w' : World} {base : Nat} {v : Value} {xs : List Int} (h : Own w base v xs) (hb : Below w.heap.size w w') : Own w' base v xs := owns_keep h hb
theorem owns_set {w : World} {base : Nat} {e t : TypeId} {size n g i : Nat} {v u : Value} {xs : List Value} {cs : Array Value} (h : w.ownsRow base e size v n xs) (hg : Blk w g t cs) (hne : e ≠ t) : (w.setCell ⟨g, i, none⟩ u).ownsRow base e size v n xs := by
 obtain ⟨h1, h2⟩ := h
 refine ⟨h1, ?_⟩
 rcases h2 with h2 | ⟨g', cap, cur, hv, hg', hh, r⟩
 ·exact Or.inl h2
 ·refine Or.inr ⟨g', cap, cur, hv, hg', ?_, r⟩
  rw [Below.heap_setCell]
  ·exact hh
  ·rintro rfl
   unfold Blk at hg
   rw [hg] at hh
   injection hh with hh
   injection hh with _ ht
   exact hne ht.symm
theorem Own.set {w : World} {base g i : Nat} {t : TypeId} {v u : Value} {xs : List Int} {cs : Array Value} (h : Own w base v xs) (hg : Blk w g t cs) (hne : (3 : TypeId) ≠ t) : Own (w.setCell ⟨g, i, none⟩ u) base v xs := owns_set h hg hne
/-- a row of the call's own, beside a block that is written -/
def OwnB (w : World) (base : Nat) (v : Value) (xs : List Int) (g : Nat) (t : TypeId) : Prop := Own w base v xs ∧ ∃ cs, Blk w g t cs
theorem OwnB.set {w : World} {base g i : Nat} {t : TypeId} {v u : Value} {xs : List Int} (h : OwnB w base v xs g t) (hne : (3 : TypeId) ≠ t) : OwnB (w.setCell ⟨g, i, none⟩ u) base v xs g t := by
 obtain ⟨h1, cs, h2⟩ := h
 exact ⟨h1.set h2 hne, _, h2.set_ i u⟩
theorem Own.form {w : World} {base : Nat} {v : Value} {xs : List Int} (h : Own w base v xs) : ∃ A c, v = .slice A xs.length c := by
 rcases h.2 with ⟨rfl, h0⟩ | ⟨g, cap, cur, rfl, _⟩
 ·exact ⟨none, 0, by rw [h0]⟩
 ·exact ⟨_, _, rfl⟩
theorem Own.rd {w : World} {base : Nat} {A : Option Addr} {n c : Nat} {xs : List Int} (h : Own w base (.slice A n c) xs) : Rd w A n xs := by
 have hn : n = xs.length := by
  rcases h.2 with ⟨h0, h1⟩ | ⟨g, cap, cur, hv, _⟩
  ·injection h0 with _ h2; rw [h1]; exact h2
  ·injection hv
 refine ⟨hn.symm, fun hpos => ?_⟩
 rcases h.2 with ⟨h0, h1⟩ | ⟨g, cap, cur, hv, hb, hh, _⟩
 ·omega
 ·injection hv with hA _ hc
  subst hA
  have hlt : g < w.heap.size := by
   rcases Nat.lt_or_ge g w.heap.size with hlt | hge
   ·exact hlt
   ·rw [Array.getElem?_eq_none hge] at hh; cases hh
  refine ⟨_, rfl, hlt, fun j hj => ?_⟩
  refine World.ownsRow.cells h (g := g) (by simp [Value.ownBlock]) j _ ?_
  rw [List.getElem?_map, List.getElem?_eq_getElem (by omega)]
  simp

theorem Own.fresh {w : World} {base : Nat} {A : Option Addr} {n c : Nat} {xs : List Int} (h : Own w base (.slice A n c) xs) : Fresh base A := by
 intro ad e
 subst e
 rcases h.2 with ⟨h0, _⟩ | ⟨g, cap, cur, hv, hb, _⟩
 ·cases h0
 ·injection hv with hA _ _
  cases hA
  exact hb
theorem info_int : (Tryz.prog.info? 3).map (fun i => (i.zero, i.size, i.bytes)) = some (some (.int .i64 0), 1, 8) := by kernel_rfl

/-- 'append(out, y)', the row being the call's own -/
theorem app_int {ops : Array Oper} {rest : List Oper} {o : Oper} {a : Act} {Q : Exit → Act → World → Prop} {W : World} {y : Int} (hgd : o.guard = none) (s x : Operand)
  (ho : o.op = .call { callee := .builtin .append, args := #[s, x], argTypes := #[23, 23] })
  (base : Nat) (v : Value) (xs : List Int) (hs : a.eval s = v) (hx : a.eval x = .slice (some ⟨W.heap.size, 0, none⟩) 1 1) (hown : Own W base v xs) (hn : xs.length < 1000000) (hbase : base ≤ W.heap.size)
  (h : ∀ A c w', Own w' base (.slice A (xs.length + 1) c) (xs ++ [y]) → (W.alloc (.cells #[.int .i64 y] 3)).grownBy w' v.ownBlock → wpList Tryz.prog ops Q rest (a.put o.dst (.slice A (xs.length + 1) c)) w') :
  wpList Tryz.prog ops Q (o :: rest) a (W.alloc (.cells #[.int .i64 y] 3)) := by
 obtain ⟨i0, hi, hz0, hz1, hz2⟩ := info_parts info_int
 refine wpList_append_own _ hgd s x _ ho base _ i0 _ 1 8 Tryz.underlying23 hi hz0 hz1 hz2 rfl (by omega) v _ _ hs (World.ownsRow.alloc hown _) ⟨W.heap.size, 0, none⟩ 1 1 [.int .i64 y] hx rfl ?_ (by simp [Value.oneCell'])
  (by unfold maxLen; omega) (by omega) (by simp; omega) ?_
 ·intro j u hj
  match j, hj with
  | 0, hj => simp at hj; subst hj; rw [add_lit, cell_new]; rfl
 ·intro v' w' hown' hg _
  have hown2 : Own w' base v' (xs ++ [y]) := by
   unfold Own
   rw [List.length_append, List.map_append]
   exact hown'
  obtain ⟨A, c, rfl⟩ := hown2.form
  rw [List.length_append] at hown2 ⊢
  exact h A c w' hown2 hg
theorem own_ge {w : World} {base : Nat} {v : Value} {xs : List Int} (h : Own w base v xs) : ∀ k, v.ownBlock = some k → base ≤ k := fun k hk => (World.ownsRow.lt h k hk).1
end Go.Proofs.YtdocgmafbacjcaaGreatDoor
end

section
namespace Go.Proofs.YtdocgmafbacjcaaGreatDoor
open Go.RowKit Dl

def firstsK (e : Int) (cs : List Int) (k : Nat) : List Int := (List.range k).map (firstN e cs)
theorem firstsK_len (e : Int) (cs : List Int) (k : Nat) : (firstsK e cs k).length = k := by unfold firstsK; rw [List.length_map, List.length_range]
theorem firstsK_succ (e : Int) (cs : List Int) (k : Nat) : firstsK e cs (k + 1) = firstsK e cs k ++ [firstN e cs k] := by unfold firstsK; rw [List.range_succ, List.map_append]; rfl

set_option maxRecDepth 100000 in
set_option maxHeartbeats 2000000 in
theorem open_any (A : Option Addr) (n c : Nat) (cs : List Int) (e m1 m2 m3 : Int) (w : World) (hr : Rd w A n cs) (hok : calOk e cs = true) :
  Calls Tryz.prog 165 #[.agg #[.int .i64 e, .slice A n c], .agg #[.int .i64 m1, .int .i64 m2, .int .i64 m3]] w fun e' w' =>
   ∃ F fc M, e' = .returned (.agg #[.int .i64 e, .slice A n c, .int .i64 m1, .int .i64 m2, .int .i64 m3, .slice F 4002 fc, .map (some M)]) ∧ Rd w' F 4002 (firsts e cs) ∧ w.heap.size ≤ M ∧ w'.heap[M]? = some (.map #[] 0) ∧ Below w.heap.size w w' ∧ Fresh w.heap.size F := by
 obtain ⟨⟨he1, he2⟩, ⟨hn1, hn2⟩, hpos⟩ := calOk_parts hok
 rw [hr.len] at hn1 hn2
 have hmm := @run_makeMap Tryz.prog
 go_enter Tryz.func165, Tryz.ntmps165
 go_wp2
 go_loopw [6, 14] (fun a i wr => ∃ (k : Nat) (v : Value), k ≤ 4002 ∧ i = .int .i64 k ∧ a = .int .i64 (firstN e cs k) ∧ Own wr w.heap.size v (firstsK e cs k) ∧
   Blk wr (w.heap.size + 1 + 1 + 1 + 1) 245 #[.int .i64 e, .slice A n c, .int .i64 m1, .int .i64 m2, .int .i64 m3, v, .map (some (w.heap.size + 1 + 1 + 1))] ∧
   wr.heap[w.heap.size + 1 + 1 + 1]? = some (.map #[] 0) ∧
   Blk wr (w.heap.size + 1 + 1) 245 #[.int .i64 0, .slice none 0 0, .int .i64 0, .int .i64 0, .int .i64 0, .slice none 0 0, .map none] ∧ Below w.heap.size w wr ∧ w.heap.size + 1 + 1 + 1 + 1 < wr.heap.size)
  (fun _ i _ => 4002 - (intOf i).toNat)
 case atStart =>
  refine ⟨0, .slice none 0 0, by omega, rfl, rfl, Own.nil _ _, ?_, ?_, ?_, fr_alloc (fr_alloc (fr_alloc (fr_alloc (fr_alloc (fr_refl _) _) _) _) _) _, by simp⟩
  ·exact Blk.new_at _ _ (by simp)
  ·rw [Below.heap_alloc _ _ _ (by simp)]; exact heap_new_at _ (by simp)
  ·exact ((Blk.new_at _ _ (by simp)).alloc _).alloc _
 case round =>
  obtain ⟨k, v, hk, rfl, rfl, hown, hB, hM, hR, hbel, hsz⟩ := hrel
  have hcB := fun j => hB.cell j
  have hfB := fun j => hB.frozen j
  have hne1 := own_blk_ne hown hB (by decide)
  have hne2 := own_blk_ne hown hR (by decide)
  have hne3 := own_map_ne hown hM
  have hfn := firstN_bounds e cs k
  have hyl := yearLen_pos cs k
  have hsucc : firstN e cs (k + 1) = firstN e cs k + yearLen cs k := rfl
  generalize hfk : firstN e cs k = fk at *
  have HFK := Lib.hid hfk
  have HS := Lib.hid hsucc
  clear hfk hsucc
  by_cases hlt : k < 4002
  ·go_wp2_with (at_builtin; go_must (refine app_int rfl (.tmp 18) (.tmp 20) rfl w.heap.size v (firstsK e cs k) rfl rfl hown (by rw [firstsK_len]; omega) hbel.size ?_); intro A1 c1 w1 hown1 hg1; have hB1 := (hB.alloc _).grown hg1 (Ne.symm hne1); have hcB1 := fun j => hB1.cell j; have hfB1 := fun j => hB1.frozen j)
   have hR1 := (hR.alloc _).grown hg1 (Ne.symm hne2)
   have hM1 := (hg1.block _ (by simp; omega) (Ne.symm hne3)).trans ((Below.heap_alloc wr (.cells #[.int .i64 fk] 3) _ (by omega)).trans hM)
   have hbel1 : Below w.heap.size w w1 := (fr_alloc hbel _).grown hg1 (by have := hbel.size; simp; omega) (own_ge hown)
   have hsz1 := hg1.size
   rw [firstsK_len, ← HFK.out, ← firstsK_succ] at hown1
   clear hcB hfB hne1 hne2 hne3 hg1 hB hM hR hbel hown
   refine (days_any A n c cs _ _ _ _ _ _ k _ (hr.keep (fr_set hbel1 (by simp; omega) _)) hn2 hpos (by omega) (by omega)).mono ?_
   rintro e' w2 ⟨rfl, hb2⟩
   have hB2 := (hB1.set_ 5 (.slice A1 ((firstsK e cs k).length + 1) c1)).keep hb2
   have hR2 := (hR1.far (p := ⟨w.heap.size + 1 + 1 + 1 + 1, 5, none⟩) (by simp) (.slice A1 ((firstsK e cs k).length + 1) c1)).keep hb2
   have hM2 := (hb2.block (w.heap.size + 1 + 1 + 1) (by simp [World.setCell] at *; omega)).trans ((Below.heap_setCell _ _ _ _ (by simp)).trans hM1)
   have hown2 := (hown1.set (i := 5) (u := .slice A1 ((firstsK e cs k).length + 1) c1) hB1 (by decide)).keep hb2
   go_wp2
   go_roundw
   case rel =>
    rw [firstsK_len] at hB2
    refine ⟨k + 1, .slice A1 (k + 1) c1, by omega, by go_num, by rw [HS.out], hown2, hB2, hM2, hR2, fr_call (fr_set hbel1 (by simp; omega) _) hb2, ?_⟩
    have := hb2.size
    simp [World.setCell] at *
    omega
   case measure => simp [intOf]; omega
  ·obtain rfl : k = 4002 := by omega
   obtain ⟨A1, c1, rfl⟩ := hown.form
   rw [firstsK_len] at hown hB hcB
   have hcR := fun j => hR.cell j
   have hfR := fun j => hR.frozen j
   go_wp2
   refine bodyPost_ret (v := .agg #[.int .i64 e, .slice A n c, .int .i64 m1, .int .i64 m2, .int .i64 m3, .slice A1 4002 c1, .map (some (w.heap.size + 1 + 1 + 1))]) (by simp [results, Tryz.results165, go_sem, hcR]) rfl ⟨A1, c1, _, rfl, ?_, ?_, ?_, ?_, hown.fresh⟩
   ·have h : OwnB wr w.heap.size (.slice A1 4002 c1) (firstsK e cs 4002) (w.heap.size + 1 + 1) 245 := ⟨hown, _, hR⟩
    exact (show OwnB _ w.heap.size (.slice A1 4002 c1) (firstsK e cs 4002) (w.heap.size + 1 + 1) 245 by (repeat (refine OwnB.set ?_ (by decide))); exact h).1.rd
   ·omega
   ·(repeat (rw [Below.heap_setCell _ _ _ _ (by simp)])); exact hM
   ·(repeat (refine fr_set ?_ (by simp; omega) _)); exact hbel
end Go.Proofs.YtdocgmafbacjcaaGreatDoor
end

section
namespace Go.Proofs.YtdocgmafbacjcaaGreatDoor
open Go.RowKit Dl

def realB (cs : List Int) (y m d : Int) : Bool := inB y 0 4000 && inB m 1 12 && inB d 1 (mlen (leapB cs y) m)
theorem realB_iff {cs : List Int} {y m d : Int} : realB cs y m d = true ↔ real cs ⟨y, m, d⟩ := by
 unfold realB real
 simp only [Bool.and_eq_true, inB_iff]
 constructor
 ·rintro ⟨⟨h1, h2⟩, h3⟩; exact ⟨h1.1, h1.2, h2.1, h2.2, h3.1, h3.2⟩
 ·rintro ⟨h1, h2, h3, h4, h5, h6⟩; exact ⟨⟨⟨h1, h2⟩, h3, h4⟩, h5, h6⟩

set_option maxRecDepth 100000 in
set_option maxHeartbeats 2000000 in
theorem isDate_noyear (A : Option Addr) (n c : Nat) (e m1 m2 m3 f g : Value) (y m d : Int) (w : World) (hy : inB y 0 4000 = false) :
  Calls Tryz.prog 171 #[.agg #[e, .slice A n c, m1, m2, m3, f, g], .agg #[.int .i64 y, .int .i64 m, .int .i64 d]] w fun e w' =>
   e = .returned (.bool false) ∧ Below w.heap.size w w' := by
 go_enter Tryz.func171, Tryz.ntmps171
 go_wp2_with fail
 go_quiet ((go_at_call 164; exact quiet_left (isYear_is _ _ _ hy)))
 go_wp2
 go_ret
 exact ⟨rfl, fr_drewN (fr_alloc (fr_alloc (fr_refl _) _) _) _⟩

set_option maxRecDepth 100000 in
set_option maxHeartbeats 2000000 in
theorem isDate_nomonth (A : Option Addr) (n c : Nat) (e m1 m2 m3 f g : Value) (y m d : Int) (w : World) (hy : inB y 0 4000 = true) (hm : inB m 1 12 = false) :
  Calls Tryz.prog 171 #[.agg #[e, .slice A n c, m1, m2, m3, f, g], .agg #[.int .i64 y, .int .i64 m, .int .i64 d]] w fun e w' =>
   e = .returned (.bool false) ∧ Below w.heap.size w w' := by
 go_enter Tryz.func171, Tryz.ntmps171
 go_wp2_with fail
 go_quiet ((first | (go_at_call 164; exact quiet_left (isYear_is _ _ _ hy)) | (go_at_call 220; exact quiet_left (in_is _ _ _ _ _ hm))))
 go_wp2
 go_ret
 exact ⟨rfl, fr_drewN (fr_alloc (fr_alloc (fr_refl _) _) _) _⟩

theorem isDate_is (A : Option Addr) (n c : Nat) (cs : List Int) (e m1 m2 m3 f g : Value) (y m d : Int) (w : World) (hr : Rd w A n cs) (hn : n ≤ 3) (hpos : Cyc cs) (b : Bool) (hb : realB cs y m d = b) :
  Calls Tryz.prog 171 #[.agg #[e, .slice A n c, m1, m2, m3, f, g], .agg #[.int .i64 y, .int .i64 m, .int .i64 d]] w fun e w' =>
   e = .returned (.bool b) ∧ Below w.heap.size w w' := by
 subst hb
 unfold realB
 cases hy : inB y 0 4000
 ·exact isDate_noyear A n c e m1 m2 m3 f g y m d w hy
 ·cases hm : inB m 1 12
  ·exact isDate_nomonth A n c e m1 m2 m3 f g y m d w hy hm
  ·exact isDate_ok A n c cs e m1 m2 m3 f g y m d w hr hn hpos (inB_iff.1 hy) (inB_iff.1 hm)

set_option maxRecDepth 100000 in
set_option maxHeartbeats 2000000 in
theorem Day_yes (A : Option Addr) (n c : Nat) (cs : List Int) (e y m d : Int) (w : World) (hr : Rd w A n cs) (hn : n ≤ 9223372036854775807) (hok : calOk e cs = true) (hreal : realB cs y m d = true) :
  Calls Tryz.prog 102 #[.agg #[.int .i64 e, .slice A n c], .agg #[.int .i64 y, .int .i64 m, .int .i64 d]] w fun e' w' =>
   e' = .returned (.tuple #[.int .i64 (dayOf e cs ⟨y, m, d⟩), .int .i64 0]) ∧ Below w.heap.size w w' := by
 obtain ⟨he, ⟨hn1, hn2⟩, hpos⟩ := calOk_parts hok
 rw [hr.len] at hn1 hn2
 have hr0 := (hr.alloc (.cells #[.int .i64 e, .slice A n c] 30)).alloc (.cells #[.int .i64 y, .int .i64 m, .int .i64 d] 173)
 go_enter Tryz.func102, Tryz.ntmps102
 go_wp2_with fail
 refine (isCalendar_is A n c cs e _ hr0 hn _ hok).mono ?_
 rintro e' w1 ⟨rfl, hb1⟩
 obtain ⟨hc_w1, hf_w1⟩ := bcell hb1
 have hz0_w1 : w.heap.size < w1.heap.size := Nat.lt_of_lt_of_le (by first | omega | (simp; done) | (simp; omega)) hb1.size
 have hz1_w1 : w.heap.size + 1 < w1.heap.size := Nat.lt_of_lt_of_le (by first | omega | (simp; done) | (simp; omega)) hb1.size
 go_wp2_with fail
 refine (open_any A n c cs e 0 0 0 _ (hr0.keep hb1) hok).mono ?_
 rintro e' w2 ⟨F, fc, M, rfl, hF, hM1, hM2, hb2, _⟩
 obtain ⟨hc_w2, hf_w2⟩ := bcell hb2
 have hz0_w2 : w.heap.size < w2.heap.size := Nat.lt_of_lt_of_le (by first | omega | (simp; done) | (simp; omega)) hb2.size
 have hz1_w2 : w.heap.size + 1 < w2.heap.size := Nat.lt_of_lt_of_le (by first | omega | (simp; done) | (simp; omega)) hb2.size
 have hr2 := (hr0.keep hb1).keep hb2
 have hfr := fr_call (fr_call (fr_alloc (fr_alloc (fr_refl w) (.cells #[.int .i64 e, .slice A n c] 30)) (.cells #[.int .i64 y, .int .i64 m, .int .i64 d] 173)) hb1) hb2
 go_wp2_with fail
 obtain ⟨ry, rm, rd⟩ : (0 ≤ y ∧ y ≤ 4000) ∧ (1 ≤ m ∧ m ≤ 12) ∧ (1 ≤ d ∧ d ≤ 31) := by
  obtain ⟨a1, a2, a3, a4, a5, a6⟩ := realB_iff.1 hreal
  have := mlen_pos (leapB cs y) m
  simp only at a1 a2 a3 a4 a5 a6
  omega
 refine (isDate_is A n c cs _ _ _ _ _ _ y m d _ (hr2.alloc _) hn2 hpos _ hreal).mono ?_
 rintro e' w3 ⟨rfl, hb3⟩
 obtain ⟨hc_w3, hf_w3⟩ := bcell hb3
 have hz0_w3 : w.heap.size < w3.heap.size := Nat.lt_of_lt_of_le (by first | omega | (simp; done) | (simp; omega)) hb3.size
 have hz1_w3 : w.heap.size + 1 < w3.heap.size := Nat.lt_of_lt_of_le (by first | omega | (simp; done) | (simp; omega)) hb3.size
 have hz4 : w2.heap.size < w3.heap.size := Nat.lt_of_lt_of_le (by simp) hb3.size
 go_wp2_with fail
 refine (day_any A F n c fc cs e _ _ _ _ y m d _ ((hr2.alloc _).keep hb3) hn2 hpos ((hF.alloc _).keep hb3) he ry rm rd).mono ?_
 rintro e' w4 ⟨rfl, hb4⟩
 go_wp2_with fail
 go_ret2
 exact ⟨rfl, fr_call (fr_call (fr_alloc hfr _) hb3) hb4⟩

end Go.Proofs.YtdocgmafbacjcaaGreatDoor
end

section
namespace Go.Proofs.YtdocgmafbacjcaaGreatDoor.Dl

end Go.Proofs.YtdocgmafbacjcaaGreatDoor.Dl
end

section
namespace Go.Proofs.YtdocgmafbacjcaaGreatDoor
open Go.RowKit Dl

theorem Rd.addr {w : World} {A : Option Addr} {n : Nat} {xs : List Int} (h : Rd w A n xs) (hn : 0 < n) :
  ∃ b off, A = some ⟨b, off, none⟩ ∧ b < w.heap.size ∧ ∀ j, j < n → w.cell? ⟨b, off + j, none⟩ = some (.int .i64 (xs[j]?.getD 0)) := by
 obtain ⟨ad, e, hb, hc⟩ := h.2 hn
 obtain ⟨b, off, spot⟩ := ad
 have h0 := hc 0 hn
 cases spot with
 | none => exact ⟨b, off, e, hb, fun j hj => by have := hc j hj; rw [add_lit] at this; exact this⟩
 | some s =>
  exfalso
  simp only [Addr.add, if_true] at h0
  unfold World.cell? at h0
  split at h0 <;> simp at h0

end Go.Proofs.YtdocgmafbacjcaaGreatDoor
end

section
namespace Go.Proofs.YtdocgmafbacjcaaGreatDoor
open Go.RowKit Dl

end Go.Proofs.YtdocgmafbacjcaaGreatDoor
end

section
namespace Go.Proofs.YtdocgmafbacjcaaGreatDoor
open Go.RowKit

theorem setCells_some {g : Nat} {t : TypeId} : ∀ (vs : List Value) (o : Nat) (w : World) (cs : Array Value), Blk w g t cs → ∃ cs', cs'.size = cs.size ∧ Blk (w.setCells g o vs) g t cs'
 | [], _, _, cs, h => ⟨cs, rfl, h⟩
 | v :: r, o, w, cs, h => by
  obtain ⟨cs', h1, h2⟩ := setCells_some r (o + 1) (w.setCell ⟨g, o, none⟩ v) _ (h.set_ o v)
  exact ⟨cs', by rw [h1]; simp, h2⟩
theorem setCells_blk {w : World} {g : Nat} {t : TypeId} {cs : Array Value} (h : Blk w g t cs) (vs : List Value) (hl : vs.length = cs.size) : Blk (w.setCells g 0 vs) g t vs.toArray := by
 obtain ⟨cs', h1, h2⟩ := setCells_some vs 0 w cs h
 have : cs' = vs.toArray := by
  apply Array.ext
  ·simp; omega
  ·intro j hj1 hj2
   have hj : j < vs.length := by simpa using hj2
   have hc := World.cell?_setCells_in g vs 0 w (fun i hi => by rw [Nat.zero_add, h.cell]; simp; omega) j hj
   rw [Nat.zero_add, h2.cell, Array.getElem?_eq_getElem hj1] at hc
   simpa using hc
 rw [this] at h2
 exact h2
theorem setCells_grown {g : Nat} : ∀ (vs : List Value) (o : Nat) (w : World), w.grownBy (w.setCells g o vs) (some g)
 | [], _, w => World.grownBy.refl w _
 | v :: r, o, w => by
  have h := setCells_grown r (o + 1) (w.setCell ⟨g, o, none⟩ v) (g := g)
  have hs : (w.setCell ⟨g, o, none⟩ v).heap.size = w.heap.size := by simp
  refine ⟨h.os, h.tape, h.output, by rw [← hs]; exact h.size, fun k hk hne => ?_⟩
  rw [World.setCells]
  rw [h.block k (by rw [hs]; exact hk) hne]
  exact Below.heap_setCell _ _ _ _ (fun e => hne (by rw [e]))

section
variable {P : Program} {op : Oper} {a : Act} {w : World} {Q : Exit → Act → World → Prop}
/-- a store of a whole struct -/
theorem wp_store_blk {K : Act → World → Prop} (ty : TypeId) (x y : Operand) (ho : op.op = .store ty x y) (g : Nat) (t : TypeId) (cs vs : Array Value)
  (hx : a.eval x = .pointer (some ⟨g, 0, none⟩)) (hy : a.eval y = .agg vs) (hB : Blk w g t cs) (hsz : vs.size = cs.size) (hi : (P.info? ty).map (·.size) = some vs.size) (h1 : vs.all (·.oneCell') = true)
  (h : ∀ W, Blk W g t vs → w.grownBy W (some g) → K (a.put op.dst undef) W) : op.wp P a w K Q := by
 refine wp_store_mid ty x y ho g 0 vs hx hy (fun j hj => ?_) hi h1 (h _ ?_ (setCells_grown _ _ _))
 ·rw [Nat.zero_add, hB.cell, hB.frozen]
  exact ⟨by simp; omega, rfl⟩
 ·exact setCells_blk hB vs.toList (by simpa using hsz)
theorem wpList_store_blk {ops : Array Oper} {rest : List Oper} (hgd : op.guard = none) (ty : TypeId) (x y : Operand) (ho : op.op = .store ty x y) (g : Nat) (t : TypeId) (cs vs : Array Value)
  (hx : a.eval x = .pointer (some ⟨g, 0, none⟩)) (hy : a.eval y = .agg vs) (hB : Blk w g t cs) (hsz : vs.size = cs.size) (hi : (P.info? ty).map (·.size) = some vs.size) (h1 : vs.all (·.oneCell') = true)
  (h : ∀ W, Blk W g t vs → w.grownBy W (some g) → wpList P ops Q rest (a.put op.dst undef) W) : wpList P ops Q (op :: rest) a w :=
 wpList_plain hgd fun _ hK => wp_store_blk ty x y ho g t cs vs hx hy hB hsz hi h1 fun W hW hg => hK _ _ (h W hW hg)
/-- a result that lies in a block that is known whole -/
theorem results_blk1 {fn : Func} {t : Tmp} {ty : TypeId} (h : fn.results = #[.cell t ty]) (tmps : Array Value) (g : Nat) (bt : TypeId) (cs : Array Value) (hp : tmps.getD t undef = .pointer (some ⟨g, 0, none⟩)) (hB : Blk w g bt cs)
  {d : TypeDesc} (hu : P.underlying ty = some d) (hd : d.isRow = true) (hi : (P.info? ty).map (·.size) = some cs.size) : (results fn tmps).run P w = .ok (.agg cs) w := by
 have hr : w.rangeAt g 0 cs.toList := fun j v hv => by
  rw [Nat.zero_add, hB.cell]
  simpa using hv
 have := run_loadVar_mid w g 0 ty cs.toList d hr hu hd (by simpa using hi)
 have hp' : (tmps[t]?).getD undef = .pointer (some ⟨g, 0, none⟩) := by simpa using hp
 rw [Array.toArray_toList] at this
 simp [results, h, hp', asAddr, this]
theorem results_blk_tmp {fn : Func} {t u : Tmp} {ty : TypeId} (h : fn.results = #[.cell t ty, .tmp u]) (tmps : Array Value) (g : Nat) (bt : TypeId) (cs : Array Value) (hp : tmps.getD t undef = .pointer (some ⟨g, 0, none⟩)) (hB : Blk w g bt cs)
  {d : TypeDesc} (hu : P.underlying ty = some d) (hd : d.isRow = true) (hi : (P.info? ty).map (·.size) = some cs.size) : (results fn tmps).run P w = .ok (.tuple #[.agg cs, tmps.getD u undef]) w := by
 have hr : w.rangeAt g 0 cs.toList := fun j v hv => by
  rw [Nat.zero_add, hB.cell]
  simpa using hv
 have := run_loadVar_mid w g 0 ty cs.toList d hr hu hd (by simpa using hi)
 have hp' : (tmps[t]?).getD undef = .pointer (some ⟨g, 0, none⟩) := by simpa using hp
 rw [Array.toArray_toList] at this
 simp [results, h, hp', asAddr, this]
end
end Go.Proofs.YtdocgmafbacjcaaGreatDoor
end

section
namespace Go.Proofs.YtdocgmafbacjcaaGreatDoor
open Go.RowKit Dl

end Go.Proofs.YtdocgmafbacjcaaGreatDoor
end

section
namespace Go.Proofs.YtdocgmafbacjcaaGreatDoor
open Go.RowKit Dl

end Go.Proofs.YtdocgmafbacjcaaGreatDoor
end

section
namespace Go.Proofs.YtdocgmafbacjcaaGreatDoor
open Go.RowKit Dl

end Go.Proofs.YtdocgmafbacjcaaGreatDoor
end

section
namespace Go.Proofs.YtdocgmafbacjcaaGreatDoor
open Go.RowKit Dl

end Go.Proofs.YtdocgmafbacjcaaGreatDoor
end

section
namespace Go.Proofs.YtdocgmafbacjcaaGreatDoor
open Go.RowKit Dl

end Go.Proofs.YtdocgmafbacjcaaGreatDoor
end

section
namespace Go.Proofs.YtdocgmafbacjcaaGreatDoor
open Go.RowKit Dl

/-- the key of a year -/
def ekey (y : Int) : Value := .agg #[.int .i64 y, .int .i64 3, .int .i64 21]
theorem check_key (y : Int) (b : Bool) (w : World) : (Instr.checkKey b 10000 173 (ekey y)).run Tryz.prog w = .ok () w := by kernel_rfl
theorem fields_date : (Tryz.prog.fieldsOf 173).toList.map (fun f => (f.name, f.type, f.offset)) = [("Year", 3, 0), ("Month", 3, 1), ("Day", 3, 2)] := by kernel_rfl
theorem und_date : Tryz.prog.underlying 173 = some (.struct (Tryz.prog.fieldsOf 173)) := by kernel_rfl
theorem stood_date : Tryz.prog.stoodInHeld 173 = false := by kernel_rfl
theorem part_key0 (y : Int) (w : World) : (part 3 #[.int .i64 y, .int .i64 3, .int .i64 21] 0).run Tryz.prog w = .ok (.int .i64 y) w := by kernel_rfl
theorem part_key1 (y : Int) (w : World) : (part 3 #[.int .i64 y, .int .i64 3, .int .i64 21] 1).run Tryz.prog w = .ok (.int .i64 3) w := by kernel_rfl
theorem part_key2 (y : Int) (w : World) : (part 3 #[.int .i64 y, .int .i64 3, .int .i64 21] 2).run Tryz.prog w = .ok (.int .i64 21) w := by kernel_rfl
theorem eq_key (y z : Int) (w : World) : (Op.equal 173 (ekey y) (ekey z)).run Tryz.prog w = .ok (y == z) w := by
 have hf := fields_date
 unfold ekey Op.equal Op.maxDepth
 rw [run_equalIn_agg w 9999 _ _ _ und_date stood_date]
 generalize (Tryz.prog.fieldsOf 173).toList = fs at hf
 have hl : fs.length = 3 := by have := congrArg List.length hf; simpa using this
 match fs, hl, hf with
 | [f0, f1, f2], _, hf =>
  simp only [List.map_cons, List.map_nil, List.cons.injEq, Prod.mk.injEq] at hf
  obtain ⟨⟨n0, t0, o0⟩, ⟨n1, t1, o1⟩, ⟨n2, t2, o2⟩, _⟩ := hf
  have ei : ∀ (a b : Int) (w : World), (Op.equalIn 9999 3 (.int .i64 a) (.int .i64 b)).run Tryz.prog w = .ok (a == b) w := fun a b w => run_equalIn_int w 9998 _ _ _ a b Tryz.underlying3
  simp only [Op.eqFields, n0, n1, n2, t0, t1, t2, o0, o1, o2, Sem.run_bind, Sem.run_ite, part_key0, part_key1, part_key2, Result.andThen_ok, ei, Sem.run_pure]
  cases hyz : (y == z) <;> simp

/-- the map at block M holds days of years, as f says -/
def EMap (w : World) (M : Nat) (f : Int → Int) : Prop := ∃ es clock, w.heap[M]? = some (.map es clock) ∧ ∀ x ∈ es.toList, ∃ y, x.key = ekey y ∧ x.val = .int .i64 (f y)
/-- .. and none of year y -/
def EMapNo (w : World) (M : Nat) (f : Int → Int) (y : Int) : Prop := ∃ es clock, w.heap[M]? = some (.map es clock) ∧ ∀ x ∈ es.toList, ∃ z, z ≠ y ∧ x.key = ekey z ∧ x.val = .int .i64 (f z)
theorem heap_lt {w : World} {M : Nat} {o : Obj} (h : w.heap[M]? = some o) : M < w.heap.size := by
 rcases Nat.lt_or_ge M w.heap.size with hlt | hge
 ·exact hlt
 ·rw [Array.getElem?_eq_none hge] at h; cases h
theorem EMap.lt {w : World} {M : Nat} {f : Int → Int} (h : EMap w M f) : M < w.heap.size := by obtain ⟨es, clock, hb, _⟩ := h; exact heap_lt hb
theorem EMap.keep {w w' : World} {M : Nat} {f : Int → Int} (h : EMap w M f) (hb : Below w.heap.size w w') : EMap w' M f := by
 obtain ⟨es, clock, hm, hx⟩ := h
 exact ⟨es, clock, (hb.block M (heap_lt hm)).trans hm, hx⟩
theorem EMapNo.keep {w w' : World} {M : Nat} {f : Int → Int} {y : Int} (h : EMapNo w M f y) (hb : Below w.heap.size w w') : EMapNo w' M f y := by
 obtain ⟨es, clock, hm, hx⟩ := h
 exact ⟨es, clock, (hb.block M (heap_lt hm)).trans hm, hx⟩
theorem EMap.empty {w : World} {M : Nat} (f : Int → Int) (h : w.heap[M]? = some (.map #[] 0)) : EMap w M f := ⟨#[], 0, h, fun x hx => by simp at hx⟩

theorem findAsking_run (f : Int → Int) (y : Int) (w : World) : ∀ (es : List MapEntry) (i : Nat), (∀ x ∈ es, ∃ z, x.key = ekey z ∧ x.val = .int .i64 (f z)) →
  ((Instr.findAsking 173 (ekey y) es i).run Tryz.prog w = .ok none w ∧ ∀ x ∈ es, ∃ z, z ≠ y ∧ x.key = ekey z ∧ x.val = .int .i64 (f z)) ∨
  ∃ j, (Instr.findAsking 173 (ekey y) es i).run Tryz.prog w = .ok (some (j, .int .i64 (f y))) w := by
 intro es
 induction es with
 | nil => intro i _; exact .inl ⟨rfl, fun x hx => by cases hx⟩
 | cons x es ih =>
  intro i h
  obtain ⟨z, hk, hv⟩ := h x (by simp)
  by_cases hyz : y = z
  ·subst hyz
   right
   refine ⟨i, ?_⟩
   simp only [Instr.findAsking, Sem.run_bind, hk, eq_key, Result.andThen_ok, hv]
   simp
  ·rcases ih (i + 1) (fun x' hx' => h x' (by simp [hx'])) with ⟨h1, h2⟩ | ⟨j, h1⟩
   ·left
    refine ⟨?_, fun x' hx' => ?_⟩
    ·simp only [Instr.findAsking, Sem.run_bind, hk, eq_key, Result.andThen_ok]
     simp [hyz, h1]
    ·rcases List.mem_cons.1 hx' with rfl | hx'
     ·exact ⟨z, fun e => hyz e.symm, hk, hv⟩
     ·exact h2 x' hx'
   ·right
    refine ⟨j, ?_⟩
    simp only [Instr.findAsking, Sem.run_bind, hk, eq_key, Result.andThen_ok]
    simp [hyz, h1]

theorem findKey_run (f : Int → Int) (y : Int) (w : World) (es : List MapEntry) (h : ∀ x ∈ es, ∃ z, x.key = ekey z ∧ x.val = .int .i64 (f z)) :
  ((Instr.findKey 173 (ekey y) es).run Tryz.prog w = .ok none w ∧ ∀ x ∈ es, ∃ z, z ≠ y ∧ x.key = ekey z ∧ x.val = .int .i64 (f z)) ∨
  ∃ j, (Instr.findKey 173 (ekey y) es).run Tryz.prog w = .ok (some (j, .int .i64 (f y))) w := by
 have hfk : (Instr.findKey 173 (ekey y) es).run Tryz.prog w = (Instr.findAsking 173 (ekey y) es).run Tryz.prog w := by
  unfold Instr.findKey
  rw [Sem.run_bind, run_underlying und_date w, Result.andThen_ok]
  cases es with
  | nil => rfl
  | cons x es => simp [Instr.findNow, Instr.sameNow]
 rw [hfk]
 exact findAsking_run f y w es 0 h

theorem zero_int (w : World) : (zeroValue 3).run Tryz.prog w = .ok (.int .i64 0) w := by kernel_rfl
theorem lookup_run {f : Int → Int} {y : Int} {w : World} {M : Nat} (h : EMap w M f) :
  (Instr.lookup 243 (.map (some M)) (ekey y) true).run Tryz.prog w = .ok (.tuple #[.int .i64 (f y), .bool true]) w ∨
  ((Instr.lookup 243 (.map (some M)) (ekey y) true).run Tryz.prog w = .ok (.tuple #[.int .i64 0, .bool false]) w ∧ EMapNo w M f y) := by
 obtain ⟨es, clock, hb, hx⟩ := h
 have hget : (getObj M).run Tryz.prog w = .ok (.map es clock) w := by simp [getObj, Sem.run, hb]
 rcases findKey_run f y w es.toList hx with ⟨h1, h2⟩ | ⟨j, h1⟩
 ·right
  refine ⟨?_, es, clock, hb, h2⟩
  unfold Instr.lookup
  simp only [Sem.run_bind, run_underlying Tryz.underlying243 w, Result.andThen_ok, hget, Sem.run_pure, check_key, h1, zero_int, if_true]
 ·left
  unfold Instr.lookup
  simp only [Sem.run_bind, run_underlying Tryz.underlying243 w, Result.andThen_ok, hget, Sem.run_pure, check_key, h1, if_true]

theorem update_run {f : Int → Int} {y : Int} {w : World} {M : Nat} (h : EMapNo w M f y) :
  ∃ w', (Instr.mapUpdate 243 (.map (some M)) (ekey y) (.int .i64 (f y))).run Tryz.prog w = .ok () w' ∧ EMap w' M f ∧ w.grownBy w' (some M) := by
 obtain ⟨es, clock, hb, hx⟩ := h
 have hget : (getObj M).run Tryz.prog w = .ok (.map es clock) w := by simp [getObj, Sem.run, hb]
 have hlt := heap_lt hb
 have hset : ∀ o, (setObj M o).run Tryz.prog w = .ok () { w with heap := w.heap.setIfInBounds M o } := fun o => by simp [setObj, Sem.run, hb]
 have hfk : (Instr.findKey 173 (ekey y) es.toList).run Tryz.prog w = .ok none w := by
  rcases findKey_run f y w es.toList (fun x hm => by obtain ⟨z, _, a, b⟩ := hx x hm; exact ⟨z, a, b⟩) with ⟨h1, _⟩ | ⟨j, h1⟩
  ·exact h1
  ·exfalso
   have key : ∀ (l : List MapEntry) (i : Nat), (∀ x ∈ l, ∃ z, z ≠ y ∧ x.key = ekey z ∧ x.val = .int .i64 (f z)) → (Instr.findAsking 173 (ekey y) l i).run Tryz.prog w = .ok none w := by
    intro l
    induction l with
    | nil => intro i _; rfl
    | cons x l ih =>
     intro i hl
     obtain ⟨z, hz, hk, hv⟩ := hl x (by simp)
     simp only [Instr.findAsking, Sem.run_bind, hk, eq_key, Result.andThen_ok]
     simp [Ne.symm hz, ih (i + 1) (fun x' hx' => hl x' (by simp [hx']))]
   have h2 := key es.toList 0 hx
   have hfk2 : (Instr.findKey 173 (ekey y) es.toList).run Tryz.prog w = (Instr.findAsking 173 (ekey y) es.toList 0).run Tryz.prog w := by
    unfold Instr.findKey
    rw [Sem.run_bind, run_underlying und_date w, Result.andThen_ok]
    cases es.toList with
    | nil => rfl
    | cons x es => simp [Instr.findNow, Instr.sameNow, ekey]
   rw [hfk2, h2] at h1
   cases h1
 refine ⟨{ w with heap := w.heap.setIfInBounds M (.map (es.push { key := ekey y, val := .int .i64 (f y), born := clock }) (clock + 1)) }, ?_, ⟨es.push { key := ekey y, val := .int .i64 (f y), born := clock }, clock + 1, ?_, ?_⟩, ?_⟩
 rotate_left
 ·show (w.heap.setIfInBounds M (.map (es.push { key := ekey y, val := .int .i64 (f y), born := clock }) (clock + 1)))[M]? = _
  rw [Array.getElem?_setIfInBounds_self_of_lt hlt]
 ·intro x hm
  rw [Array.toList_push, List.mem_append] at hm
  rcases hm with hm | hm
  ·obtain ⟨z, _, a, b⟩ := hx x hm
   exact ⟨z, a, b⟩
  ·simp at hm
   subst hm
   exact ⟨y, rfl, rfl⟩
 ·refine ⟨rfl, rfl, rfl, by simp, fun k hk hne => ?_⟩
  show (w.heap.setIfInBounds M _)[k]? = _
  rw [Array.getElem?_setIfInBounds_ne (fun e => hne (by rw [e]))]
 ·unfold Instr.mapUpdate
  simp only [Sem.run_bind, run_underlying Tryz.underlying243 w, Result.andThen_ok, hget, check_key, hfk, hset]
end Go.Proofs.YtdocgmafbacjcaaGreatDoor
end

section
namespace Go.Proofs.YtdocgmafbacjcaaGreatDoor
open Go.RowKit Dl

/-- the day of Easter of a year -/
def easterDay (e : Int) (cs : List Int) (num den add y : Int) : Int :=
 fullOf num den add (dayOf e cs ⟨y, 3, 21⟩) + 7 - wkd (fullOf num den add (dayOf e cs ⟨y, 3, 21⟩))

theorem march_bounds (e : Int) (cs : List Int) (y : Int) (he : 0 ≤ e ∧ e ≤ 1000) (hy : 0 ≤ y ∧ y ≤ 4000) : 0 ≤ dayOf e cs ⟨y, 3, 21⟩ ∧ dayOf e cs ⟨y, 3, 21⟩ ≤ 2000000 := by
 have := firstDay_bounds e cs y hy.1
 have := cum_bounds (leapB cs y) 3 (by omega) (by omega)
 unfold dayOf
 simp only
 omega

set_option maxRecDepth 100000 in
set_option maxHeartbeats 4000000 in
theorem sunday_any (A F : Option Addr) (n c fc M : Nat) (cs : List Int) (e num den add y : Int) (w : World) (hr : Rd w A n cs) (hn : n ≤ 3) (hpos : Cyc cs) (hF : Rd w F 4002 (firsts e cs))
  (he : 0 ≤ e ∧ e ≤ 1000) (hm : MoonOk num den add) (hy : 0 ≤ y ∧ y ≤ 4000) (hE : EMap w M (easterDay e cs num den add)) :
  Calls Tryz.prog 224 #[.agg #[.int .i64 e, .slice A n c, .int .i64 num, .int .i64 den, .int .i64 add, .slice F 4002 fc, .map (some M)], .int .i64 y] w fun e' w' =>
   e' = .returned (.int .i64 (easterDay e cs num den add y)) ∧ EMap w' M (easterDay e cs num den add) ∧ w.grownBy w' (some M) := by
 have g1 := fr_alloc (fr_alloc (fr_refl w) (.cells #[.int .i64 e, .slice A n c, .int .i64 num, .int .i64 den, .int .i64 add, .slice F 4002 fc, .map (some M)] 245)) (.cells #[.int .i64 y, .int .i64 3, .int .i64 21] 173)
 have hB : Blk ((w.alloc (.cells #[.int .i64 e, .slice A n c, .int .i64 num, .int .i64 den, .int .i64 add, .slice F 4002 fc, .map (some M)] 245)).alloc (.cells #[.int .i64 y, .int .i64 3, .int .i64 21] 173)) w.heap.size 245 #[.int .i64 e, .slice A n c, .int .i64 num, .int .i64 den, .int .i64 add, .slice F 4002 fc, .map (some M)] := (Blk.new w _ _).alloc _
 have hD : Blk ((w.alloc (.cells #[.int .i64 e, .slice A n c, .int .i64 num, .int .i64 den, .int .i64 add, .slice F 4002 fc, .map (some M)] 245)).alloc (.cells #[.int .i64 y, .int .i64 3, .int .i64 21] 173)) (w.heap.size + 1) 173 #[.int .i64 y, .int .i64 3, .int .i64 21] := Blk.new_at _ _ (by simp)
 rcases lookup_run (y := y) (hE.keep g1) with hl | ⟨hl, hno⟩
 ·unfold ekey at hl
  have hfin : EMap ((w.alloc (.cells #[.int .i64 e, .slice A n c, .int .i64 num, .int .i64 den, .int .i64 add, .slice F 4002 fc, .map (some M)] 245)).alloc (.cells #[.int .i64 y, .int .i64 3, .int .i64 21] 173)) M (easterDay e cs num den add) ∧ w.grownBy ((w.alloc (.cells #[.int .i64 e, .slice A n c, .int .i64 num, .int .i64 den, .int .i64 add, .slice F 4002 fc, .map (some M)] 245)).alloc (.cells #[.int .i64 y, .int .i64 3, .int .i64 21] 173)) (some M) := ⟨hE.keep g1, grown_below (World.grownBy.refl w _) g1⟩
  have HF := Lib.hid hfin
  clear hfin hB hD
  generalize easterDay e cs num den add y = ed at *
  go_enter Tryz.func224, Tryz.ntmps224
  go_wp2
  go_ret
  exact ⟨rfl, HF.out⟩
 ·unfold ekey at hl
  have hmb := march_bounds e cs y he hy
  have hfb := full_bounds hm (dayOf e cs ⟨y, 3, 21⟩)
  have hag := age_full hm (dayOf e cs ⟨y, 3, 21⟩)
  have hnf := not_full hm (dayOf e cs ⟨y, 3, 21⟩)
  have hed : easterDay e cs num den add y = fullOf num den add (dayOf e cs ⟨y, 3, 21⟩) + 7 - wkd (fullOf num den add (dayOf e cs ⟨y, 3, 21⟩)) := rfl
  have HED := Lib.hid hed
  clear hed
  have hd21 : (1 : Int) ≤ 21 ∧ (21 : Int) ≤ 31 := by omega
  have hm3 : (1 : Int) ≤ 3 ∧ (3 : Int) ≤ 12 := by omega
  go_enter Tryz.func224, Tryz.ntmps224
  go_wp2_with fail
  refine (day_any A F n c fc cs e _ _ _ _ y 3 21 _ (hr.keep g1) hn hpos (hF.keep g1) he hy hm3 hd21).mono ?_
  generalize dayOf e cs ⟨y, 3, 21⟩ = mar at *
  generalize hfu : fullOf num den add mar = fu at *
  clear hfu
  rintro e' w1 ⟨rfl, hb1⟩
  have g2 := fr_call g1 hb1
  have hB1 := hB.keep hb1
  have hD1 := hD.keep hb1
  have hno1 := hno.keep hb1
  clear hl hB hD hno
  go_wp2_with fail
  generalize hf : easterDay e cs num den add = f at *
  have HFF := Lib.hid hf
  clear hf
  go_loopw [8] (fun v wr => ∃ j : Int, mar ≤ j ∧ j ≤ fu ∧ v = .int .i64 j ∧ Blk wr w.heap.size 245 #[.int .i64 e, .slice A n c, .int .i64 num, .int .i64 den, .int .i64 add, .slice F 4002 fc, .map (some M)] ∧ Blk wr (w.heap.size + 1) 173 #[.int .i64 y, .int .i64 3, .int .i64 21] ∧
    EMapNo wr M f y ∧ Below w.heap.size w wr) (fun v _ => (fu - intOf v).toNat)
  case atStart => exact ⟨mar, by omega, by omega, rfl, hB1, hD1, hno1, g2⟩
  case round =>
   clear hB1 hD1 hno1 g2 hb1
   obtain ⟨j, hj1, hj2, rfl, hB1, hD1, hno1, g2⟩ := hrel
   have hcB := fun i => hB1.cell i
   by_cases hlt : j < fu
   ·have hne := hnf j hj1 hlt
    have hag' : (ageOf num den add j != 13) = true := by simpa using hne
    clear hne hnf hag
    go_wp2_with fail
    refine (age_any num den add j _ hm (by omega) (by omega)).mono ?_
    generalize ageOf num den add j = ag at *
    rintro e' w2 ⟨rfl, hb2⟩
    have g3 := fr_call g2 hb2
    have hB2 := hB1.keep hb2
    have hD2 := hD1.keep hb2
    have hno2 := hno1.keep hb2
    clear hcB hB1 hD1 hno1 g2 hb2
    go_wp2
    go_roundw
    case rel => exact ⟨j + 1, by omega, by omega, rfl, hB2, hD2, hno2, g3⟩
    case measure => simp [intOf]; omega
   ·obtain rfl : j = fu := by omega
    clear hnf
    go_wp2_with fail
    refine (age_any num den add j _ hm (by omega) (by omega)).mono ?_
    rw [hag]
    clear hag
    rintro e' w2 ⟨rfl, hb2⟩
    have g3 := fr_call g2 hb2
    have hB2 := hB1.keep hb2
    have hD2 := hD1.keep hb2
    have hno2 := hno1.keep hb2
    clear hcB hB1 hD1 hno1 g2 hb2
    have hcB := fun i => hB2.cell i
    have hcD := fun i => hD2.cell i
    go_wp2_with fail
    refine (weekday_any _ _ (by omega) (by omega)).mono ?_
    have hwk : 0 ≤ wkd j ∧ wkd j ≤ 6 := by unfold wkd; omega
    generalize hq : wkd j = wk at *
    clear hq
    rintro e' w2' ⟨rfl, rfl⟩
    have hw1 : IntKind.i64.wrap (7 - wk) = 7 - wk := IntWalk.i64_in _ (by omega)
    have hw2 : IntKind.i64.wrap (j + (7 - wk)) = j + (7 - wk) := IntWalk.i64_in _ (by omega)
    have hed : j + (7 - wk) = f y := by rw [HED.out]; omega
    obtain ⟨w3, hup, hE3, hg3⟩ := update_run hno2
    rw [← hed] at hup
    unfold ekey at hup
    have HE := Lib.hid hed
    clear hed hw1
    go_wp2
    go_ret
    obtain rfl := HFF.out
    exact ⟨ret_int HE.out, hE3, below_grown g3 hg3⟩
end Go.Proofs.YtdocgmafbacjcaaGreatDoor
end

section
namespace Go.Proofs.YtdocgmafbacjcaaGreatDoor
open Go.RowKit Dl

theorem EMap.ne_blk {w : World} {M g : Nat} {f : Int → Int} {t : TypeId} {cs : Array Value} (h : EMap w M f) (hB : Blk w g t cs) : g ≠ M := by
 obtain ⟨es, clock, hm, _⟩ := h
 rintro rfl
 unfold Blk at hB
 rw [hm] at hB
 cases hB
theorem Rd.farM {w w' : World} {A : Option Addr} {n M : Nat} {xs : List Int} {f : Int → Int} (h : Rd w A n xs) (hE : EMap w M f) (hg : w.grownBy w' (some M)) : Rd w' A n xs :=
 ⟨h.1, fun hn => by
  obtain ⟨ad, e, hlt, hc⟩ := h.2 hn
  have hne : ad.block ≠ M := by
   obtain ⟨es, clock, hm, _⟩ := hE
   intro e'
   have h0 := hc 0 hn
   unfold World.cell? at h0
   rw [block_of_add, e', hm] at h0
   cases h0
  exact ⟨ad, e, Nat.lt_of_lt_of_le hlt hg.size, fun j hj => (World.cell?_of_block (hg.block _ (by rw [block_of_add]; exact hlt) (by rw [block_of_add]; intro e'; cases e'; exact hne rfl))).trans (hc j hj)⟩⟩

theorem wkd_range (d : Int) : 0 ≤ wkd d ∧ wkd d ≤ 6 := by unfold wkd; omega
theorem easter_bounds {e : Int} {cs : List Int} {num den add y : Int} (hm : MoonOk num den add) :
  dayOf e cs ⟨y, 3, 21⟩ + 1 ≤ easterDay e cs num den add y ∧ easterDay e cs num den add y ≤ dayOf e cs ⟨y, 3, 21⟩ + 36 := by
 have := full_bounds hm (dayOf e cs ⟨y, 3, 21⟩)
 have := wkd_range (fullOf num den add (dayOf e cs ⟨y, 3, 21⟩))
 unfold easterDay
 omega
end Go.Proofs.YtdocgmafbacjcaaGreatDoor
end
