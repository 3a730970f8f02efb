/- Reference: new moons, ages, Easter. -/
import Derived.Test.YtnpgdifidejohaaGreatDoorMB2
import Derived.Test.YtnpgdifidejohaaGreatDoorMB1
import Derived.Test.YtnpgdifidejohaaGreatDoorProg
import Derived.WalkKit
import Derived.WalkSpells
import Derived.WalkLawsBesides
import Derived.LoopTactic
import Derived.Deep.LoopGhost
import Derived.Lib.Hide
import Derived.Deep.Draws
import Derived.Deep.QuietTactic
import Derived.BigQuiet
import Derived.Deep.RegionHeld3
import Derived.OwnWalk
import Derived.Laws.Rows
import Derived.Deep.DeepMust
import Derived.Defers
import Derived.Recover
import Derived.Laws.Pointers
import Derived.Laws.EntriesVeiled
import Derived.Outline
import Derived.Deep.MidRow
namespace Go.Proofs.YtnpgdifidejohaaGreatDoor
open Go.RowKit Dl

set_option maxHeartbeats 1000000 in
theorem rfloor_any (n b : Int) (w : World) (hb : 0 < b) (hb2 : b ≤ 100000) (h0 : -1000000000000 ≤ n) (h1 : n ≤ 1000000000000) :
    Calls Tryz.prog 128 #[.int .i64 n, .int .i64 b] w fun e' w' => e' = .returned (.int .i64 (n / b)) ∧ w = w' := by
  obtain ⟨T1, T2⟩ := tdiv_floor n b hb
  have q1 : -1000000000000 ≤ n.tdiv b ∧ n.tdiv b ≤ 1000000000000 := by
    have : (n.tdiv b).natAbs ≤ n.natAbs := by rw [Int.natAbs_tdiv]; exact Nat.div_le_self _ _
    omega
  have q2 : -1000000000000 ≤ n.tdiv b * b ∧ n.tdiv b * b ≤ 1000000000000 := by
    have : (n.tdiv b * b).natAbs ≤ n.natAbs := by rw [Int.natAbs_mul, Int.natAbs_tdiv]; exact Nat.div_mul_le_self _ _
    omega
  obtain ⟨q3, q4⟩ := q1
  obtain ⟨q5, q6⟩ := q2
  have hne : ¬ b = 0 := by omega
  have hw1 : IntKind.i64.wrap (n.tdiv b) = n.tdiv b := IntWalk.i64_in _ (by omega)
  have hw2 : IntKind.i64.wrap (n.tdiv b * b) = n.tdiv b * b := IntWalk.i64_in _ (by omega)
  have HT1 := Lib.hid T1
  have HT2 := Lib.hid T2
  clear T1 T2
  by_cases hlt : n < n.tdiv b * b
  · go_enter Tryz.func128, Tryz.ntmps128
    go_wp2
    go_ret
    exact ⟨ret_int (HT1.out hlt), rfl⟩
  · go_enter Tryz.func128, Tryz.ntmps128
    go_wp2
    go_ret
    exact ⟨ret_int (HT2.out hlt), rfl⟩

def k0Of (num den add d : Int) : Int := (d * den - add) / num
theorem new_k0 {num den add : Int} (h : MoonOk num den add) (d : Int) : newDay num den add (k0Of num den add d) ≤ d ∧ d ≤ newDay num den add (k0Of num den add d + 1) := by
  have hd : 0 < den := by have := h.d1; omega
  have hp := h.npos
  have a := Int.mul_ediv_add_emod (d * den - add) num
  have b := Int.emod_nonneg (d * den - add) (show num ≠ 0 by omega)
  have c := Int.emod_lt_of_pos (d * den - add) hp
  rw [Int.mul_comm] at a
  unfold newDay k0Of
  generalize (d * den - add) / num = k at *
  constructor
  · rw [← Int.lt_add_one_iff, Int.ediv_lt_iff_lt_mul hd, Int.add_mul]
    omega
  · rw [Int.le_ediv_iff_mul_le hd, Int.add_mul]
    omega
theorem new_at {num den add : Int} (h : MoonOk num den add) (d : Int) (hge : d ≤ newDay num den add (k0Of num den add d)) : (newDay num den add (k0Of num den add d) = d) = (ageOf num den add d = 0) := by
  have a := (new_k0 h d).1
  have g := new_gap h (k0Of num den add d)
  have := last_unique h (k := k0Of num den add d) (d := d) (by omega) (by omega)
  unfold ageOf
  rw [this]
  exact propext ⟨fun _ => by omega, fun _ => by omega⟩
theorem new_at1 {num den add : Int} (h : MoonOk num den add) (d : Int) (hlt : newDay num den add (k0Of num den add d) < d) : (newDay num den add (k0Of num den add d + 1) = d) = (ageOf num den add d = 0) := by
  have a := (new_k0 h d).2
  have g := new_gap h (k0Of num den add d + 1)
  by_cases e : newDay num den add (k0Of num den add d + 1) = d
  · have := last_unique h (k := k0Of num den add d + 1) (d := d) (by omega) (by omega)
    unfold ageOf
    rw [this]
    exact propext ⟨fun _ => by omega, fun _ => by omega⟩
  · have := last_unique h (k := k0Of num den add d) (d := d) (by omega) (by omega)
    unfold ageOf
    rw [this]
    exact propext ⟨fun _ => by omega, fun _ => by omega⟩
theorem age_back {num den add : Int} (h : MoonOk num den add) (d n : Int) (h0 : 0 ≤ n) (h1 : n ≤ ageOf num den add d) : ageOf num den add (d - n) = ageOf num den add d - n := by
  have a := new_last h d
  have b := new_next h d
  unfold ageOf at h1
  have := last_unique h (k := lastK num den add d) (d := d - n) (by omega) (by omega)
  unfold ageOf
  rw [this]
  omega

theorem k_bounds {num den add : Int} (h : MoonOk num den add) (d : Int) (h0 : -3000 ≤ d) (h1 : d ≤ 10000000) :
    (-3000000 ≤ d * den ∧ d * den ≤ 10000000000) ∧ (-40000000 ≤ k0Of num den add d * num ∧ k0Of num den add d * num ≤ 10000000000) ∧ (-40000000 ≤ (k0Of num den add d + 1) * num ∧ (k0Of num den add d + 1) * num ≤ 10000040000) ∧ -100000000000 ≤ k0Of num den add d ∧ k0Of num den add d ≤ 100000000000 := by
  have hp := h.npos
  have hd1 := h.d1
  have hd2 := h.d2
  have hn1 := h.n1
  have hn2 := h.n2
  have ha1 := h.a1
  have ha2 := h.a2
  have m1 : -3000000 ≤ d * den ∧ d * den ≤ 10000000000 := by
    constructor
    · by_cases hz : 0 ≤ d
      · have := Int.mul_nonneg hz (by omega : (0:Int) ≤ den); omega
      · have a : (-3000) * den ≤ d * den := Int.mul_le_mul_of_nonneg_right (by omega) (by omega)
        omega
    · have a : d * den ≤ 10000000 * den := Int.mul_le_mul_of_nonneg_right (by omega) (by omega)
      omega
  have a := Int.mul_ediv_add_emod (d * den - add) num
  have b := Int.emod_nonneg (d * den - add) (show num ≠ 0 by omega)
  have c := Int.emod_lt_of_pos (d * den - add) hp
  rw [Int.mul_comm] at a
  unfold k0Of
  have e : ((d * den - add) / num + 1) * num = (d * den - add) / num * num + num := by rw [Int.add_mul, Int.one_mul]
  have f : ((d * den - add) / num).natAbs ≤ (d * den - add).natAbs + 1 := by
    by_cases hz : 0 ≤ d * den - add
    · have := Int.ediv_nonneg hz (by omega : (0:Int) ≤ num)
      have := Int.ediv_le_self num hz
      omega
    · have h2 : (d * den - add) / num < 0 := Int.ediv_neg_of_neg_of_pos (by omega) hp
      have h3 : (d * den - add) ≤ (d * den - add) / num := by
        rw [Int.le_ediv_iff_mul_le hp]
        have : (d * den - add) * num ≤ (d * den - add) * 1 := Int.mul_le_mul_of_nonpos_left (by omega) (by omega)
        omega
      omega
  omega

set_option maxRecDepth 100000 in
set_option maxHeartbeats 2000000 in
theorem rNew_any (num den add d : Int) (w : World) (h : MoonOk num den add) (h0 : -3000 ≤ d) (h1 : d ≤ 10000000) :
    Calls Tryz.prog 103 #[.agg #[.int .i64 num, .int .i64 den, .int .i64 add], .int .i64 d] w fun e' w' => e' = .returned (.bool (decide (ageOf num den add d = 0))) ∧ Below w.heap.size w w' := by
  have hp := h.npos
  have hd1 := h.d1
  have hd2 := h.d2
  have hn1 := h.n1
  have hn2 := h.n2
  have ha1 := h.a1
  have ha2 := h.a2
  obtain ⟨⟨p1, p2⟩, ⟨p3, p4⟩, ⟨p5, p6⟩, p7, p8⟩ := k_bounds h d h0 h1
  have H1 := Lib.hid (new_k0 h d)
  have H2 := Lib.hid (new_at h d)
  have H3 := Lib.hid (new_at1 h d)
  have HK := Lib.hid (show k0Of num den add d = (d * den - add) / num from rfl)
  have hN0 : newDay num den add (k0Of num den add d) = (k0Of num den add d * num + add) / den := rfl
  have hN1 : newDay num den add (k0Of num den add d + 1) = ((k0Of num den add d + 1) * num + add) / den := rfl
  rw [hN0, hN1] at H1
  rw [hN0] at H2
  rw [hN0, hN1] at H3
  clear hN0 hN1
  generalize hk : k0Of num den add d = k at *
  clear hk
  have hw1 : IntKind.i64.wrap (d * den) = d * den := IntWalk.i64_in _ (by omega)
  have hw2 : IntKind.i64.wrap (d * den - add) = d * den - add := IntWalk.i64_in _ (by omega)
  have hw3 : IntKind.i64.wrap (k * num) = k * num := IntWalk.i64_in _ (by omega)
  have hw4 : IntKind.i64.wrap (k * num + add) = k * num + add := IntWalk.i64_in _ (by omega)
  have hw5 : IntKind.i64.wrap ((k + 1) * num) = (k + 1) * num := IntWalk.i64_in _ (by omega)
  have hw6 : IntKind.i64.wrap ((k + 1) * num + add) = (k + 1) * num + add := IntWalk.i64_in _ (by omega)
  have hw7 : IntKind.i64.wrap (k + 1) = k + 1 := IntWalk.i64_in _ (by omega)
  have b1 : -1000000000000 ≤ d * den - add ∧ d * den - add ≤ 1000000000000 := by omega
  have b2 : -1000000000000 ≤ k * num + add ∧ k * num + add ≤ 1000000000000 := by omega
  have b3 : -1000000000000 ≤ (k + 1) * num + add ∧ (k + 1) * num + add ≤ 1000000000000 := by omega
  have hn3 : num ≤ 100000 := by omega
  have hd3 : 0 < den ∧ den ≤ 100000 := by omega
  obtain ⟨b1, b1'⟩ := b1
  obtain ⟨b2, b2'⟩ := b2
  obtain ⟨b3, b3'⟩ := b3
  obtain ⟨hd3, hd3'⟩ := hd3
  clear p1 p2 p3 p4 p5 p6
  go_enter Tryz.func103, Tryz.ntmps103
  go_wp2_with fail
  refine (rfloor_any _ _ _ hp hn3 b1 b1').mono ?_
  rw [← HK.out]
  rintro e' w' ⟨rfl, rfl⟩
  go_wp2_with fail
  go_loop [5] (fun i => i = .int .i64 k ∨ (i = .int .i64 (k + 1) ∧ (k * num + add) / den < d)) (fun i => (k + 1 - intOf i).toNat)
  case atStart => exact Or.inl rfl
  case round =>
    rcases hrel with rfl | ⟨rfl, hlt⟩
    · by_cases hlt : (k * num + add) / den < d
      · go_wp2_with fail
        refine (rfloor_any _ _ _ hd3 hd3' b2 b2').mono ?_
        rintro e' w' ⟨rfl, rfl⟩
        go_wp2_with fail
        go_round
        case rel => exact Or.inr ⟨by go_num, hlt⟩
        case measure => simp [intOf]; omega
      · have hge : d ≤ (k * num + add) / den := by omega
        go_wp2_with fail
        refine (rfloor_any _ _ _ hd3 hd3' b2 b2').mono ?_
        rintro e' w' ⟨rfl, rfl⟩
        go_wp2_with fail
        refine (rfloor_any _ _ _ hd3 hd3' b2 b2').mono ?_
        rintro e' w' ⟨rfl, rfl⟩
        go_wp2_with fail
        go_ret
        exact ⟨ret_bool (by rw [Bool.eq_iff_iff]; simpa using Iff.of_eq (H2.out hge)), fr_alloc (fr_refl _) _⟩
    · have hge : ¬ ((k + 1) * num + add) / den < d := by have := H1.out.2; omega
      go_wp2_with fail
      refine (rfloor_any _ _ _ hd3 hd3' b3 b3').mono ?_
      rintro e' w' ⟨rfl, rfl⟩
      go_wp2_with fail
      refine (rfloor_any _ _ _ hd3 hd3' b3 b3').mono ?_
      rintro e' w' ⟨rfl, rfl⟩
      go_wp2_with fail
      go_ret
      exact ⟨ret_bool (by rw [Bool.eq_iff_iff]; simpa using Iff.of_eq (H3.out hlt)), fr_alloc (fr_refl _) _⟩

set_option maxRecDepth 100000 in
set_option maxHeartbeats 2000000 in
theorem rAge_any (num den add d : Int) (w : World) (h : MoonOk num den add) (h0 : -1000 ≤ d) (h1 : d ≤ 10000000) :
    Calls Tryz.prog 52 #[.agg #[.int .i64 num, .int .i64 den, .int .i64 add], .int .i64 d] w fun e' w' => e' = .returned (.int .i64 (ageOf num den add d)) ∧ Below w.heap.size w w' := by
  obtain ⟨hr1, hr2⟩ := age_range h d
  have HB := Lib.hid (age_back h d)
  generalize hag : ageOf num den add d = ag at *
  clear hag
  go_enter Tryz.func52, Tryz.ntmps52
  go_wp2
  go_loopw [5] (fun i wr => ∃ n : Int, 0 ≤ n ∧ n ≤ ag ∧ i = .int .i64 n ∧ Blk wr w.heap.size 65 #[.int .i64 num, .int .i64 den, .int .i64 add] ∧ Below w.heap.size w wr) (fun i _ => (ag - intOf i).toNat)
  case atStart => exact ⟨0, by omega, by omega, rfl, Blk.new_at _ _ (by simp), fr_alloc (fr_refl _) _⟩
  case round =>
    obtain ⟨n, hn0, hn1, rfl, hB, hbel⟩ := hrel
    have hBc := fun j => hB.cell j
    have hBf := fun j => hB.frozen j
    have hN := HB.out n hn0 hn1
    have hx1 : -3000 ≤ d - n := by omega
    have hx2 : d - n ≤ 10000000 := by omega
    have hw : IntKind.i64.wrap (d - n) = d - n := IntWalk.i64_in _ (by omega)
    by_cases hlt : n < ag
    · have hd : decide (ageOf num den add (d - n) = 0) = false := decide_eq_false (by omega)
      clear hN
      go_wp2_with fail
      refine (rNew_any num den add (d - n) _ h hx1 hx2).mono ?_
      rw [hd]
      rintro e' w1 ⟨rfl, hb1⟩
      go_wp2_with fail
      go_roundw
      case rel => exact ⟨n + 1, by omega, by omega, by go_num, hB.keep hb1, fr_call hbel hb1⟩
      case measure => simp [intOf]; omega
    · have hd : decide (ageOf num den add (d - n) = 0) = true := decide_eq_true (by omega)
      have hna := Lib.hid (show n = ag by omega)
      clear hN hlt hn1
      go_wp2_with fail
      refine (rNew_any num den add (d - n) _ h hx1 hx2).mono ?_
      rw [hd]
      rintro e' w1 ⟨rfl, hb1⟩
      go_wp2_with fail
      go_ret
      exact ⟨ret_int hna.out, fr_call hbel hb1⟩
end Go.Proofs.YtnpgdifidejohaaGreatDoor
