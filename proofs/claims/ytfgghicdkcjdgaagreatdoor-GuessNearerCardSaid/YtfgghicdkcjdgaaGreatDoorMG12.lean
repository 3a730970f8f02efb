/- Reference: in, wheel, pair, Fraction, Teeth, Below, Note (by gen_rnote.py). Reference: Note of other kinds, and all kinds together (by gen_oe.py). -/
import Derived.Test.YtfgghicdkcjdgaaGreatDoorMG1
import Derived.Test.YtfgghicdkcjdgaaGreatDoorMG2
section
namespace Go.Proofs.YtfgghicdkcjdgaaGreatDoor
open Go.RowKit Go.Shelf

set_option maxHeartbeats 400000 in
theorem rin_is (x lo hi : Int) (w : World) (b : Bool) (hb : inB x lo hi = b) :
  Calls Tryz.prog 29 #[.int .i64 x, .int .i64 lo, .int .i64 hi] w fun e w' => e = .returned (.bool b) ∧ w = w' := by
 subst hb
 by_cases h : lo ≤ x
 ·go_enter Tryz.func29, Tryz.ntmps29
  go_wp2
  go_ret
  exact ⟨ret_bool (by simp [inB, h]), rfl⟩
 ·go_enter Tryz.func29, Tryz.ntmps29
  go_wp2
  go_ret
  exact ⟨ret_bool (by simp only [inB]; rw [eq_comm, decide_eq_false_iff_not]; omega), rfl⟩
set_option maxHeartbeats 400000 in
theorem rin1_is (x lo hi : Int) (w : World) (b : Bool) (hb : inB x lo hi = b) :
  Calls Tryz.prog 60 #[.int .i64 x, .int .i64 lo, .int .i64 hi] w fun e w' => e = .returned (.bool b) ∧ w = w' := by
 subst hb
 by_cases h : lo ≤ x
 ·go_enter Tryz.func60, Tryz.ntmps60
  go_wp2
  go_ret
  exact ⟨ret_bool (by simp [inB, h]), rfl⟩
 ·go_enter Tryz.func60, Tryz.ntmps60
  go_wp2
  go_ret
  exact ⟨ret_bool (by simp only [inB]; rw [eq_comm, decide_eq_false_iff_not]; omega), rfl⟩
set_option maxHeartbeats 400000 in
theorem rteeth_is (x : Int) (w : World) (b : Bool) (hb : teethB x = b) :
  Calls Tryz.prog 27 #[.int .i64 x] w fun e w' => e = .returned (.bool b) ∧ w = w' := by
 go_enter Tryz.func27, Tryz.ntmps27
 go_wp2_with (go_at_call 60; refine (rin1_is _ _ _ _ _ hb).mono ?_; rintro e w' ⟨rfl, rfl⟩)
 go_ret
 exact ⟨rfl, rfl⟩
set_option maxHeartbeats 1000000 in
theorem rfraction_is (n d : Int) (w : World) (b : Bool) (hb : fracB n d = b) :
  Calls Tryz.prog 18 #[.agg #[.int .i64 n, .int .i64 d]] w fun e w' => e = .returned (.bool b) ∧ Below w.heap.size w w' := by
 subst hb
 unfold fracB
 go_enter Tryz.func18, Tryz.ntmps18
 cases h1 : inB n 0 50000
 ·go_wp2_with fail
  refine (rin1_is _ _ _ _ _ h1).mono ?_
  rintro e w' ⟨rfl, rfl⟩
  go_wp2_with fail
  go_ret
  exact ⟨rfl, fr_alloc (fr_refl _) _⟩
 ·go_wp2_with fail
  refine (rin1_is _ _ _ _ _ h1).mono ?_
  rintro e w' ⟨rfl, rfl⟩
  go_wp2_with fail
  refine (rin1_is _ _ _ _ _ rfl).mono ?_
  rintro e w' ⟨rfl, rfl⟩
  go_wp2_with fail
  go_ret
  exact ⟨rfl, fr_alloc (fr_refl _) _⟩
set_option maxHeartbeats 1000000 in
theorem rbelow_is (an ad bn bd : Int) (w : World) (h1 : Mo an) (h2 : Mo ad) (h3 : Mo bn) (h4 : Mo bd) (b : Bool) (hb : aboveB bn bd an ad = b) :
  Calls Tryz.prog 16 #[.agg #[.int .i64 an, .int .i64 ad], .agg #[.int .i64 bn, .int .i64 bd]] w fun e w' => e = .returned (.bool b) ∧ Below w.heap.size w w' := by
 have q1 := mul_wrap h1 h4
 have q2 := mul_wrap h3 h2
 have q3 := mul_wrap64 h1 h4
 have q4 := mul_wrap64 h3 h2
 unfold aboveB at hb
 have HB := Lib.hid hb
 clear hb h1 h2 h3 h4
 go_enter Tryz.func16, Tryz.ntmps16
 go_wp2_with fail
 go_ret
 exact ⟨ret_bool HB.out, fr_alloc (fr_alloc (fr_refl _) _) _⟩
theorem frac_mo {n d : Int} (h : fracB n d = true) : Mo n ∧ Mo d := by
 unfold fracB at h
 simp only [Bool.and_eq_true, inB_iff] at h
 unfold Mo
 omega
set_option maxHeartbeats 1000000 in
theorem rwheel_is (A N : Option Addr) (n m c d : Nat) (x : Int) (hn : n ≤ 1000) (w : World) (b : Bool) (hb : inB x 0 ((n : Int) - 1) = b) :
  Calls Tryz.prog 82 #[.agg #[.slice A n c, .slice N m d], .int .i64 x] w fun e w' => e = .returned (.bool b) ∧ Below w.heap.size w w' := by
 go_enter Tryz.func82, Tryz.ntmps82
 go_wp2_with (go_at_call 29; refine (rin_is _ _ _ _ _ hb).mono ?_; rintro e w' ⟨rfl, rfl⟩)
 go_ret
 exact ⟨rfl, fr_alloc (fr_refl _) _⟩
set_option maxHeartbeats 1000000 in
theorem rpair_is (A N : Option Addr) (n m c d : Nat) (x : Int) (hn : n ≤ 1000) (w : World) (b : Bool) (hb : inB x 0 ((n : Int) / 2 - 1) = b) :
  Calls Tryz.prog 83 #[.agg #[.slice A n c, .slice N m d], .int .i64 x] w fun e w' => e = .returned (.bool b) ∧ Below w.heap.size w w' := by
 go_enter Tryz.func83, Tryz.ntmps83
 go_wp2_with (go_at_call 29; refine (rin_is _ _ _ _ _ hb).mono ?_; rintro e w' ⟨rfl, rfl⟩)
 go_ret
 exact ⟨rfl, fr_alloc (fr_refl _) _⟩
set_option maxRecDepth 100000 in
set_option maxHeartbeats 16000000 in
theorem Note_1a (A N : Option Addr) (n m c d : Nat) (a b : Int) (hn : n ≤ 1000) (w : World) :
  Calls Tryz.prog 28 #[.agg #[.slice A n c, .slice N m d], .agg #[.int .i64 1, .int .i64 a, .int .i64 b, .int .i64 0, .int .i64 0, .int .i64 0, .int .i64 0, .int .i64 0, .int .i64 0]] w fun e w' => e = .returned (.bool (noteB ⟨1, a, b, 0, 0, 0, 0, 0, 0⟩ n)) ∧ Below w.heap.size w w' := by
 rw [show noteB ⟨1, a, b, 0, 0, 0, 0, 0, 0⟩ n = (inB a 0 ((n : Int) - 1) && (inB b 1 60 && (inB (0 : Int) 1 (0 : Int) && decide ((0 : Int) ≤ 360)))) from by simp [noteB, noneB]]
 generalize hz : (inB a 0 ((n : Int) - 1) && (inB b 1 60 && (inB (0 : Int) 1 (0 : Int) && decide ((0 : Int) ≤ 360)))) = z
 have HN := Lib.hid hz.symm
 clear hz
 have hf : Below w.heap.size w (((w.alloc (.cells #[.slice A n c, .slice N m d] 25)).alloc (.cells #[.int .i64 1, .int .i64 a, .int .i64 b, .int .i64 0, .int .i64 0, .int .i64 0, .int .i64 0, .int .i64 0, .int .i64 0] 70)).alloc (.cells #[.int .i64 0, .int .i64 0] 40)) := fr_alloc (fr_alloc (fr_alloc (fr_refl w) _) _) _
 have hX : Blk (((w.alloc (.cells #[.slice A n c, .slice N m d] 25)).alloc (.cells #[.int .i64 1, .int .i64 a, .int .i64 b, .int .i64 0, .int .i64 0, .int .i64 0, .int .i64 0, .int .i64 0, .int .i64 0] 70)).alloc (.cells #[.int .i64 0, .int .i64 0] 40)) w.heap.size 25 #[.slice A n c, .slice N m d] := ((Blk.new w _ _).alloc _).alloc _
 have hY : Blk (((w.alloc (.cells #[.slice A n c, .slice N m d] 25)).alloc (.cells #[.int .i64 1, .int .i64 a, .int .i64 b, .int .i64 0, .int .i64 0, .int .i64 0, .int .i64 0, .int .i64 0, .int .i64 0] 70)).alloc (.cells #[.int .i64 0, .int .i64 0] 40)) (w.heap.size + 1) 70 #[.int .i64 1, .int .i64 a, .int .i64 b, .int .i64 0, .int .i64 0, .int .i64 0, .int .i64 0, .int .i64 0, .int .i64 0] := (Blk.new_at _ _ (by simp)).alloc _
 have hcX := fun j => hX.cell j
 have hcY := fun j => hY.cell j
 go_enter Tryz.func28, Tryz.ntmps28
 cases c1 : inB a 0 ((n : Int) - 1)
 ·go_wp2_with fail
  refine (rwheel_is A N n m c d a hn _ _ c1).mono ?_
  rintro e w1 ⟨rfl, hb1⟩
  replace hf := fr_call hf hb1
  replace hX := hX.keep hb1
  replace hY := hY.keep hb1
  clear hb1 hcX hcY
  have hcX := fun j => hX.cell j
  have hcY := fun j => hY.cell j
  clear hcX hcY hX hY
  go_wp2_with fail
  go_ret
  exact ⟨ret_bool (by rw [HN.out, c1]; rfl), hf⟩
 ·go_wp2_with fail
  refine (rwheel_is A N n m c d a hn _ _ c1).mono ?_
  rintro e w1 ⟨rfl, hb1⟩
  replace hf := fr_call hf hb1
  replace hX := hX.keep hb1
  replace hY := hY.keep hb1
  clear hb1 hcX hcY
  have hcX := fun j => hX.cell j
  have hcY := fun j => hY.cell j
  go_wp2_with (first | (go_at_call 29; refine (rin_is _ _ _ _ _ rfl).mono ?_; rintro e w' ⟨rfl, rfl⟩))
  all_goals
   go_ret
   exact ⟨ret_bool (by rw [HN.out, c1]; clear hcX hcY hX hY hf HN; first | (simp [inB, *]; done) | (simp [inB, -not_and] at *; omega) | (simp [inB, -not_and] at *; simp [*]; done) | (simp [inB] at *; simp [*]; omega)), hf⟩
set_option maxRecDepth 100000 in
set_option maxHeartbeats 16000000 in
theorem Note_1b (A N : Option Addr) (n m c d : Nat) (a b hi : Int) (hn : n ≤ 1000) (w : World) (hq : (hi == 0) = false) :
  Calls Tryz.prog 28 #[.agg #[.slice A n c, .slice N m d], .agg #[.int .i64 1, .int .i64 a, .int .i64 b, .int .i64 0, .int .i64 hi, .int .i64 0, .int .i64 0, .int .i64 0, .int .i64 0]] w fun e w' => e = .returned (.bool (noteB ⟨1, a, b, 0, hi, 0, 0, 0, 0⟩ n)) ∧ Below w.heap.size w w' := by
 rw [show noteB ⟨1, a, b, 0, hi, 0, 0, 0, 0⟩ n = (inB a 0 ((n : Int) - 1) && (inB b 1 60 && (inB (0 : Int) 1 (hi : Int) && decide ((hi : Int) ≤ 360)))) from by simp [noteB, noneB]]
 generalize hz : (inB a 0 ((n : Int) - 1) && (inB b 1 60 && (inB (0 : Int) 1 (hi : Int) && decide ((hi : Int) ≤ 360)))) = z
 have HN := Lib.hid hz.symm
 clear hz
 have hf : Below w.heap.size w (((w.alloc (.cells #[.slice A n c, .slice N m d] 25)).alloc (.cells #[.int .i64 1, .int .i64 a, .int .i64 b, .int .i64 0, .int .i64 hi, .int .i64 0, .int .i64 0, .int .i64 0, .int .i64 0] 70)).alloc (.cells #[.int .i64 0, .int .i64 0] 40)) := fr_alloc (fr_alloc (fr_alloc (fr_refl w) _) _) _
 have hX : Blk (((w.alloc (.cells #[.slice A n c, .slice N m d] 25)).alloc (.cells #[.int .i64 1, .int .i64 a, .int .i64 b, .int .i64 0, .int .i64 hi, .int .i64 0, .int .i64 0, .int .i64 0, .int .i64 0] 70)).alloc (.cells #[.int .i64 0, .int .i64 0] 40)) w.heap.size 25 #[.slice A n c, .slice N m d] := ((Blk.new w _ _).alloc _).alloc _
 have hY : Blk (((w.alloc (.cells #[.slice A n c, .slice N m d] 25)).alloc (.cells #[.int .i64 1, .int .i64 a, .int .i64 b, .int .i64 0, .int .i64 hi, .int .i64 0, .int .i64 0, .int .i64 0, .int .i64 0] 70)).alloc (.cells #[.int .i64 0, .int .i64 0] 40)) (w.heap.size + 1) 70 #[.int .i64 1, .int .i64 a, .int .i64 b, .int .i64 0, .int .i64 hi, .int .i64 0, .int .i64 0, .int .i64 0, .int .i64 0] := (Blk.new_at _ _ (by simp)).alloc _
 have hcX := fun j => hX.cell j
 have hcY := fun j => hY.cell j
 go_enter Tryz.func28, Tryz.ntmps28
 cases c1 : inB a 0 ((n : Int) - 1)
 ·go_wp2_with fail
  refine (rwheel_is A N n m c d a hn _ _ c1).mono ?_
  rintro e w1 ⟨rfl, hb1⟩
  replace hf := fr_call hf hb1
  replace hX := hX.keep hb1
  replace hY := hY.keep hb1
  clear hb1 hcX hcY
  have hcX := fun j => hX.cell j
  have hcY := fun j => hY.cell j
  clear hcX hcY hX hY
  go_wp2_with fail
  go_ret
  exact ⟨ret_bool (by rw [HN.out, c1]; rfl), hf⟩
 ·go_wp2_with fail
  refine (rwheel_is A N n m c d a hn _ _ c1).mono ?_
  rintro e w1 ⟨rfl, hb1⟩
  replace hf := fr_call hf hb1
  replace hX := hX.keep hb1
  replace hY := hY.keep hb1
  clear hb1 hcX hcY
  have hcX := fun j => hX.cell j
  have hcY := fun j => hY.cell j
  go_wp2_with (first | (go_at_call 29; refine (rin_is _ _ _ _ _ rfl).mono ?_; rintro e w' ⟨rfl, rfl⟩))
  all_goals
   go_ret
   exact ⟨ret_bool (by rw [HN.out, c1]; clear hcX hcY hX hY hf HN; first | (simp [inB, *]; done) | (simp [inB, -not_and] at *; omega) | (simp [inB, -not_and] at *; simp [*]; done) | (simp [inB] at *; simp [*]; omega)), hf⟩
set_option maxRecDepth 100000 in
set_option maxHeartbeats 16000000 in
theorem Note_1c (A N : Option Addr) (n m c d : Nat) (a b lo hi : Int) (hn : n ≤ 1000) (w : World) (hq : (lo == 0) = false) :
  Calls Tryz.prog 28 #[.agg #[.slice A n c, .slice N m d], .agg #[.int .i64 1, .int .i64 a, .int .i64 b, .int .i64 lo, .int .i64 hi, .int .i64 0, .int .i64 0, .int .i64 0, .int .i64 0]] w fun e w' => e = .returned (.bool (noteB ⟨1, a, b, lo, hi, 0, 0, 0, 0⟩ n)) ∧ Below w.heap.size w w' := by
 rw [show noteB ⟨1, a, b, lo, hi, 0, 0, 0, 0⟩ n = (inB a 0 ((n : Int) - 1) && (inB b 1 60 && (inB (lo : Int) 1 (hi : Int) && decide ((hi : Int) ≤ 360)))) from by simp [noteB, noneB]]
 generalize hz : (inB a 0 ((n : Int) - 1) && (inB b 1 60 && (inB (lo : Int) 1 (hi : Int) && decide ((hi : Int) ≤ 360)))) = z
 have HN := Lib.hid hz.symm
 clear hz
 have hf : Below w.heap.size w (((w.alloc (.cells #[.slice A n c, .slice N m d] 25)).alloc (.cells #[.int .i64 1, .int .i64 a, .int .i64 b, .int .i64 lo, .int .i64 hi, .int .i64 0, .int .i64 0, .int .i64 0, .int .i64 0] 70)).alloc (.cells #[.int .i64 0, .int .i64 0] 40)) := fr_alloc (fr_alloc (fr_alloc (fr_refl w) _) _) _
 have hX : Blk (((w.alloc (.cells #[.slice A n c, .slice N m d] 25)).alloc (.cells #[.int .i64 1, .int .i64 a, .int .i64 b, .int .i64 lo, .int .i64 hi, .int .i64 0, .int .i64 0, .int .i64 0, .int .i64 0] 70)).alloc (.cells #[.int .i64 0, .int .i64 0] 40)) w.heap.size 25 #[.slice A n c, .slice N m d] := ((Blk.new w _ _).alloc _).alloc _
 have hY : Blk (((w.alloc (.cells #[.slice A n c, .slice N m d] 25)).alloc (.cells #[.int .i64 1, .int .i64 a, .int .i64 b, .int .i64 lo, .int .i64 hi, .int .i64 0, .int .i64 0, .int .i64 0, .int .i64 0] 70)).alloc (.cells #[.int .i64 0, .int .i64 0] 40)) (w.heap.size + 1) 70 #[.int .i64 1, .int .i64 a, .int .i64 b, .int .i64 lo, .int .i64 hi, .int .i64 0, .int .i64 0, .int .i64 0, .int .i64 0] := (Blk.new_at _ _ (by simp)).alloc _
 have hcX := fun j => hX.cell j
 have hcY := fun j => hY.cell j
 go_enter Tryz.func28, Tryz.ntmps28
 cases c1 : inB a 0 ((n : Int) - 1)
 ·go_wp2_with fail
  refine (rwheel_is A N n m c d a hn _ _ c1).mono ?_
  rintro e w1 ⟨rfl, hb1⟩
  replace hf := fr_call hf hb1
  replace hX := hX.keep hb1
  replace hY := hY.keep hb1
  clear hb1 hcX hcY
  have hcX := fun j => hX.cell j
  have hcY := fun j => hY.cell j
  clear hcX hcY hX hY
  go_wp2_with fail
  go_ret
  exact ⟨ret_bool (by rw [HN.out, c1]; rfl), hf⟩
 ·go_wp2_with fail
  refine (rwheel_is A N n m c d a hn _ _ c1).mono ?_
  rintro e w1 ⟨rfl, hb1⟩
  replace hf := fr_call hf hb1
  replace hX := hX.keep hb1
  replace hY := hY.keep hb1
  clear hb1 hcX hcY
  have hcX := fun j => hX.cell j
  have hcY := fun j => hY.cell j
  go_wp2_with (first | (go_at_call 29; refine (rin_is _ _ _ _ _ rfl).mono ?_; rintro e w' ⟨rfl, rfl⟩))
  all_goals
   go_ret
   exact ⟨ret_bool (by rw [HN.out, c1]; clear hcX hcY hX hY hf HN; first | (simp [inB, *]; done) | (simp [inB, -not_and] at *; omega) | (simp [inB, -not_and] at *; simp [*]; done) | (simp [inB] at *; simp [*]; omega)), hf⟩
set_option maxRecDepth 100000 in
set_option maxHeartbeats 16000000 in
theorem Note_2a (A N : Option Addr) (n m c d : Nat) (a b : Int) (hn : n ≤ 1000) (w : World) :
  Calls Tryz.prog 28 #[.agg #[.slice A n c, .slice N m d], .agg #[.int .i64 2, .int .i64 a, .int .i64 b, .int .i64 0, .int .i64 0, .int .i64 0, .int .i64 0, .int .i64 0, .int .i64 0]] w fun e w' => e = .returned (.bool (noteB ⟨2, a, b, 0, 0, 0, 0, 0, 0⟩ n)) ∧ Below w.heap.size w w' := by
 rw [show noteB ⟨2, a, b, 0, 0, 0, 0, 0, 0⟩ n = (inB a 0 ((n : Int) / 2 - 1) && (b == 0 && (inB (0 : Int) 1 (0 : Int) && decide ((0 : Int) ≤ 120)))) from by simp [noteB, noneB]]
 generalize hz : (inB a 0 ((n : Int) / 2 - 1) && (b == 0 && (inB (0 : Int) 1 (0 : Int) && decide ((0 : Int) ≤ 120)))) = z
 have HN := Lib.hid hz.symm
 clear hz
 have hf : Below w.heap.size w (((w.alloc (.cells #[.slice A n c, .slice N m d] 25)).alloc (.cells #[.int .i64 2, .int .i64 a, .int .i64 b, .int .i64 0, .int .i64 0, .int .i64 0, .int .i64 0, .int .i64 0, .int .i64 0] 70)).alloc (.cells #[.int .i64 0, .int .i64 0] 40)) := fr_alloc (fr_alloc (fr_alloc (fr_refl w) _) _) _
 have hX : Blk (((w.alloc (.cells #[.slice A n c, .slice N m d] 25)).alloc (.cells #[.int .i64 2, .int .i64 a, .int .i64 b, .int .i64 0, .int .i64 0, .int .i64 0, .int .i64 0, .int .i64 0, .int .i64 0] 70)).alloc (.cells #[.int .i64 0, .int .i64 0] 40)) w.heap.size 25 #[.slice A n c, .slice N m d] := ((Blk.new w _ _).alloc _).alloc _
 have hY : Blk (((w.alloc (.cells #[.slice A n c, .slice N m d] 25)).alloc (.cells #[.int .i64 2, .int .i64 a, .int .i64 b, .int .i64 0, .int .i64 0, .int .i64 0, .int .i64 0, .int .i64 0, .int .i64 0] 70)).alloc (.cells #[.int .i64 0, .int .i64 0] 40)) (w.heap.size + 1) 70 #[.int .i64 2, .int .i64 a, .int .i64 b, .int .i64 0, .int .i64 0, .int .i64 0, .int .i64 0, .int .i64 0, .int .i64 0] := (Blk.new_at _ _ (by simp)).alloc _
 have hcX := fun j => hX.cell j
 have hcY := fun j => hY.cell j
 go_enter Tryz.func28, Tryz.ntmps28
 cases c1 : inB a 0 ((n : Int) / 2 - 1)
 ·go_wp2_with fail
  refine (rpair_is A N n m c d a hn _ _ c1).mono ?_
  rintro e w1 ⟨rfl, hb1⟩
  replace hf := fr_call hf hb1
  replace hX := hX.keep hb1
  replace hY := hY.keep hb1
  clear hb1 hcX hcY
  have hcX := fun j => hX.cell j
  have hcY := fun j => hY.cell j
  clear hcX hcY hX hY
  go_wp2_with fail
  go_ret
  exact ⟨ret_bool (by rw [HN.out, c1]; rfl), hf⟩
 ·go_wp2_with fail
  refine (rpair_is A N n m c d a hn _ _ c1).mono ?_
  rintro e w1 ⟨rfl, hb1⟩
  replace hf := fr_call hf hb1
  replace hX := hX.keep hb1
  replace hY := hY.keep hb1
  clear hb1 hcX hcY
  have hcX := fun j => hX.cell j
  have hcY := fun j => hY.cell j
  go_wp2_with (first | (go_at_call 29; refine (rin_is _ _ _ _ _ rfl).mono ?_; rintro e w' ⟨rfl, rfl⟩))
  all_goals
   go_ret
   exact ⟨ret_bool (by rw [HN.out, c1]; clear hcX hcY hX hY hf HN; first | (simp [inB, *]; done) | (simp [inB, -not_and] at *; omega) | (simp [inB, -not_and] at *; simp [*]; done) | (simp [inB] at *; simp [*]; omega)), hf⟩
set_option maxRecDepth 100000 in
set_option maxHeartbeats 16000000 in
theorem Note_2b (A N : Option Addr) (n m c d : Nat) (a b hi : Int) (hn : n ≤ 1000) (w : World) (hq : (hi == 0) = false) :
  Calls Tryz.prog 28 #[.agg #[.slice A n c, .slice N m d], .agg #[.int .i64 2, .int .i64 a, .int .i64 b, .int .i64 0, .int .i64 hi, .int .i64 0, .int .i64 0, .int .i64 0, .int .i64 0]] w fun e w' => e = .returned (.bool (noteB ⟨2, a, b, 0, hi, 0, 0, 0, 0⟩ n)) ∧ Below w.heap.size w w' := by
 rw [show noteB ⟨2, a, b, 0, hi, 0, 0, 0, 0⟩ n = (inB a 0 ((n : Int) / 2 - 1) && (b == 0 && (inB (0 : Int) 1 (hi : Int) && decide ((hi : Int) ≤ 120)))) from by simp [noteB, noneB]]
 generalize hz : (inB a 0 ((n : Int) / 2 - 1) && (b == 0 && (inB (0 : Int) 1 (hi : Int) && decide ((hi : Int) ≤ 120)))) = z
 have HN := Lib.hid hz.symm
 clear hz
 have hf : Below w.heap.size w (((w.alloc (.cells #[.slice A n c, .slice N m d] 25)).alloc (.cells #[.int .i64 2, .int .i64 a, .int .i64 b, .int .i64 0, .int .i64 hi, .int .i64 0, .int .i64 0, .int .i64 0, .int .i64 0] 70)).alloc (.cells #[.int .i64 0, .int .i64 0] 40)) := fr_alloc (fr_alloc (fr_alloc (fr_refl w) _) _) _
 have hX : Blk (((w.alloc (.cells #[.slice A n c, .slice N m d] 25)).alloc (.cells #[.int .i64 2, .int .i64 a, .int .i64 b, .int .i64 0, .int .i64 hi, .int .i64 0, .int .i64 0, .int .i64 0, .int .i64 0] 70)).alloc (.cells #[.int .i64 0, .int .i64 0] 40)) w.heap.size 25 #[.slice A n c, .slice N m d] := ((Blk.new w _ _).alloc _).alloc _
 have hY : Blk (((w.alloc (.cells #[.slice A n c, .slice N m d] 25)).alloc (.cells #[.int .i64 2, .int .i64 a, .int .i64 b, .int .i64 0, .int .i64 hi, .int .i64 0, .int .i64 0, .int .i64 0, .int .i64 0] 70)).alloc (.cells #[.int .i64 0, .int .i64 0] 40)) (w.heap.size + 1) 70 #[.int .i64 2, .int .i64 a, .int .i64 b, .int .i64 0, .int .i64 hi, .int .i64 0, .int .i64 0, .int .i64 0, .int .i64 0] := (Blk.new_at _ _ (by simp)).alloc _
 have hcX := fun j => hX.cell j
 have hcY := fun j => hY.cell j
 go_enter Tryz.func28, Tryz.ntmps28
 cases c1 : inB a 0 ((n : Int) / 2 - 1)
 ·go_wp2_with fail
  refine (rpair_is A N n m c d a hn _ _ c1).mono ?_
  rintro e w1 ⟨rfl, hb1⟩
  replace hf := fr_call hf hb1
  replace hX := hX.keep hb1
  replace hY := hY.keep hb1
  clear hb1 hcX hcY
  have hcX := fun j => hX.cell j
  have hcY := fun j => hY.cell j
  clear hcX hcY hX hY
  go_wp2_with fail
  go_ret
  exact ⟨ret_bool (by rw [HN.out, c1]; rfl), hf⟩
 ·go_wp2_with fail
  refine (rpair_is A N n m c d a hn _ _ c1).mono ?_
  rintro e w1 ⟨rfl, hb1⟩
  replace hf := fr_call hf hb1
  replace hX := hX.keep hb1
  replace hY := hY.keep hb1
  clear hb1 hcX hcY
  have hcX := fun j => hX.cell j
  have hcY := fun j => hY.cell j
  go_wp2_with (first | (go_at_call 29; refine (rin_is _ _ _ _ _ rfl).mono ?_; rintro e w' ⟨rfl, rfl⟩))
  all_goals
   go_ret
   exact ⟨ret_bool (by rw [HN.out, c1]; clear hcX hcY hX hY hf HN; first | (simp [inB, *]; done) | (simp [inB, -not_and] at *; omega) | (simp [inB, -not_and] at *; simp [*]; done) | (simp [inB] at *; simp [*]; omega)), hf⟩
set_option maxRecDepth 100000 in
set_option maxHeartbeats 16000000 in
theorem Note_2c (A N : Option Addr) (n m c d : Nat) (a b lo hi : Int) (hn : n ≤ 1000) (w : World) (hq : (lo == 0) = false) :
  Calls Tryz.prog 28 #[.agg #[.slice A n c, .slice N m d], .agg #[.int .i64 2, .int .i64 a, .int .i64 b, .int .i64 lo, .int .i64 hi, .int .i64 0, .int .i64 0, .int .i64 0, .int .i64 0]] w fun e w' => e = .returned (.bool (noteB ⟨2, a, b, lo, hi, 0, 0, 0, 0⟩ n)) ∧ Below w.heap.size w w' := by
 rw [show noteB ⟨2, a, b, lo, hi, 0, 0, 0, 0⟩ n = (inB a 0 ((n : Int) / 2 - 1) && (b == 0 && (inB (lo : Int) 1 (hi : Int) && decide ((hi : Int) ≤ 120)))) from by simp [noteB, noneB]]
 generalize hz : (inB a 0 ((n : Int) / 2 - 1) && (b == 0 && (inB (lo : Int) 1 (hi : Int) && decide ((hi : Int) ≤ 120)))) = z
 have HN := Lib.hid hz.symm
 clear hz
 have hf : Below w.heap.size w (((w.alloc (.cells #[.slice A n c, .slice N m d] 25)).alloc (.cells #[.int .i64 2, .int .i64 a, .int .i64 b, .int .i64 lo, .int .i64 hi, .int .i64 0, .int .i64 0, .int .i64 0, .int .i64 0] 70)).alloc (.cells #[.int .i64 0, .int .i64 0] 40)) := fr_alloc (fr_alloc (fr_alloc (fr_refl w) _) _) _
 have hX : Blk (((w.alloc (.cells #[.slice A n c, .slice N m d] 25)).alloc (.cells #[.int .i64 2, .int .i64 a, .int .i64 b, .int .i64 lo, .int .i64 hi, .int .i64 0, .int .i64 0, .int .i64 0, .int .i64 0] 70)).alloc (.cells #[.int .i64 0, .int .i64 0] 40)) w.heap.size 25 #[.slice A n c, .slice N m d] := ((Blk.new w _ _).alloc _).alloc _
 have hY : Blk (((w.alloc (.cells #[.slice A n c, .slice N m d] 25)).alloc (.cells #[.int .i64 2, .int .i64 a, .int .i64 b, .int .i64 lo, .int .i64 hi, .int .i64 0, .int .i64 0, .int .i64 0, .int .i64 0] 70)).alloc (.cells #[.int .i64 0, .int .i64 0] 40)) (w.heap.size + 1) 70 #[.int .i64 2, .int .i64 a, .int .i64 b, .int .i64 lo, .int .i64 hi, .int .i64 0, .int .i64 0, .int .i64 0, .int .i64 0] := (Blk.new_at _ _ (by simp)).alloc _
 have hcX := fun j => hX.cell j
 have hcY := fun j => hY.cell j
 go_enter Tryz.func28, Tryz.ntmps28
 cases c1 : inB a 0 ((n : Int) / 2 - 1)
 ·go_wp2_with fail
  refine (rpair_is A N n m c d a hn _ _ c1).mono ?_
  rintro e w1 ⟨rfl, hb1⟩
  replace hf := fr_call hf hb1
  replace hX := hX.keep hb1
  replace hY := hY.keep hb1
  clear hb1 hcX hcY
  have hcX := fun j => hX.cell j
  have hcY := fun j => hY.cell j
  clear hcX hcY hX hY
  go_wp2_with fail
  go_ret
  exact ⟨ret_bool (by rw [HN.out, c1]; rfl), hf⟩
 ·go_wp2_with fail
  refine (rpair_is A N n m c d a hn _ _ c1).mono ?_
  rintro e w1 ⟨rfl, hb1⟩
  replace hf := fr_call hf hb1
  replace hX := hX.keep hb1
  replace hY := hY.keep hb1
  clear hb1 hcX hcY
  have hcX := fun j => hX.cell j
  have hcY := fun j => hY.cell j
  go_wp2_with (first | (go_at_call 29; refine (rin_is _ _ _ _ _ rfl).mono ?_; rintro e w' ⟨rfl, rfl⟩))
  all_goals
   go_ret
   exact ⟨ret_bool (by rw [HN.out, c1]; clear hcX hcY hX hY hf HN; first | (simp [inB, *]; done) | (simp [inB, -not_and] at *; omega) | (simp [inB, -not_and] at *; simp [*]; done) | (simp [inB] at *; simp [*]; omega)), hf⟩
set_option maxRecDepth 100000 in
set_option maxHeartbeats 16000000 in
theorem Note_4a (A N : Option Addr) (n m c d : Nat) (a b : Int) (hn : n ≤ 1000) (w : World) :
  Calls Tryz.prog 28 #[.agg #[.slice A n c, .slice N m d], .agg #[.int .i64 4, .int .i64 a, .int .i64 b, .int .i64 0, .int .i64 0, .int .i64 0, .int .i64 0, .int .i64 0, .int .i64 0]] w fun e w' => e = .returned (.bool (noteB ⟨4, a, b, 0, 0, 0, 0, 0, 0⟩ n)) ∧ Below w.heap.size w w' := by
 rw [show noteB ⟨4, a, b, 0, 0, 0, 0, 0, 0⟩ n = (inB a 0 ((n : Int) - 1) && (inB b 0 ((n : Int) - 1) && (decide (a < b) && ((0 : Int) == 0 && (0 : Int) == 0)))) from by rw [Bool.eq_iff_iff]; simp [noteB, noneB, bareB, inB]; try omega]
 generalize hz : (inB a 0 ((n : Int) - 1) && (inB b 0 ((n : Int) - 1) && (decide (a < b) && ((0 : Int) == 0 && (0 : Int) == 0)))) = z
 have HN := Lib.hid hz.symm
 clear hz
 have hf : Below w.heap.size w (((w.alloc (.cells #[.slice A n c, .slice N m d] 25)).alloc (.cells #[.int .i64 4, .int .i64 a, .int .i64 b, .int .i64 0, .int .i64 0, .int .i64 0, .int .i64 0, .int .i64 0, .int .i64 0] 70)).alloc (.cells #[.int .i64 0, .int .i64 0] 40)) := fr_alloc (fr_alloc (fr_alloc (fr_refl w) _) _) _
 have hX : Blk (((w.alloc (.cells #[.slice A n c, .slice N m d] 25)).alloc (.cells #[.int .i64 4, .int .i64 a, .int .i64 b, .int .i64 0, .int .i64 0, .int .i64 0, .int .i64 0, .int .i64 0, .int .i64 0] 70)).alloc (.cells #[.int .i64 0, .int .i64 0] 40)) w.heap.size 25 #[.slice A n c, .slice N m d] := ((Blk.new w _ _).alloc _).alloc _
 have hY : Blk (((w.alloc (.cells #[.slice A n c, .slice N m d] 25)).alloc (.cells #[.int .i64 4, .int .i64 a, .int .i64 b, .int .i64 0, .int .i64 0, .int .i64 0, .int .i64 0, .int .i64 0, .int .i64 0] 70)).alloc (.cells #[.int .i64 0, .int .i64 0] 40)) (w.heap.size + 1) 70 #[.int .i64 4, .int .i64 a, .int .i64 b, .int .i64 0, .int .i64 0, .int .i64 0, .int .i64 0, .int .i64 0, .int .i64 0] := (Blk.new_at _ _ (by simp)).alloc _
 have hcX := fun j => hX.cell j
 have hcY := fun j => hY.cell j
 go_enter Tryz.func28, Tryz.ntmps28
 cases c1 : inB a 0 ((n : Int) - 1)
 ·go_wp2_with fail
  refine (rwheel_is A N n m c d a hn _ _ c1).mono ?_
  rintro e w1 ⟨rfl, hb1⟩
  replace hf := fr_call hf hb1
  replace hX := hX.keep hb1
  replace hY := hY.keep hb1
  clear hb1 hcX hcY
  have hcX := fun j => hX.cell j
  have hcY := fun j => hY.cell j
  clear hcX hcY hX hY
  go_wp2_with fail
  go_ret
  exact ⟨ret_bool (by rw [HN.out, c1]; rfl), hf⟩
 ·go_wp2_with fail
  refine (rwheel_is A N n m c d a hn _ _ c1).mono ?_
  rintro e w1 ⟨rfl, hb1⟩
  replace hf := fr_call hf hb1
  replace hX := hX.keep hb1
  replace hY := hY.keep hb1
  clear hb1 hcX hcY
  have hcX := fun j => hX.cell j
  have hcY := fun j => hY.cell j
  cases c2 : inB b 0 ((n : Int) - 1)
  ·go_wp2_with fail
   refine (rwheel_is A N n m c d b hn _ _ c2).mono ?_
   rintro e w1 ⟨rfl, hb1⟩
   replace hf := fr_call hf hb1
   replace hX := hX.keep hb1
   replace hY := hY.keep hb1
   clear hb1 hcX hcY
   have hcX := fun j => hX.cell j
   have hcY := fun j => hY.cell j
   clear hcX hcY hX hY
   go_wp2_with fail
   go_ret
   exact ⟨ret_bool (by rw [HN.out, c1, c2]; rfl), hf⟩
  ·go_wp2_with fail
   refine (rwheel_is A N n m c d b hn _ _ c2).mono ?_
   rintro e w1 ⟨rfl, hb1⟩
   replace hf := fr_call hf hb1
   replace hX := hX.keep hb1
   replace hY := hY.keep hb1
   clear hb1 hcX hcY
   have hcX := fun j => hX.cell j
   have hcY := fun j => hY.cell j
   go_wp2_with (first | (go_at_call 29; refine (rin_is _ _ _ _ _ rfl).mono ?_; rintro e w' ⟨rfl, rfl⟩))
   all_goals
    go_ret
    exact ⟨ret_bool (by rw [HN.out, c1, c2]; clear hcX hcY hX hY hf HN; first | (simp [*]; done) | (simp [inB, -not_and] at *; omega) | (simp [inB, -not_and] at *; simp [*]; done) | (simp [inB] at *; simp [*]; omega)), hf⟩
set_option maxRecDepth 100000 in
set_option maxHeartbeats 16000000 in
theorem Note_4b (A N : Option Addr) (n m c d : Nat) (a b hi : Int) (hn : n ≤ 1000) (w : World) (hq : (hi == 0) = false) :
  Calls Tryz.prog 28 #[.agg #[.slice A n c, .slice N m d], .agg #[.int .i64 4, .int .i64 a, .int .i64 b, .int .i64 0, .int .i64 hi, .int .i64 0, .int .i64 0, .int .i64 0, .int .i64 0]] w fun e w' => e = .returned (.bool (noteB ⟨4, a, b, 0, hi, 0, 0, 0, 0⟩ n)) ∧ Below w.heap.size w w' := by
 rw [show noteB ⟨4, a, b, 0, hi, 0, 0, 0, 0⟩ n = (inB a 0 ((n : Int) - 1) && (inB b 0 ((n : Int) - 1) && (decide (a < b) && ((0 : Int) == 0 && (hi : Int) == 0)))) from by rw [Bool.eq_iff_iff]; simp [noteB, noneB, bareB, inB]; try omega]
 generalize hz : (inB a 0 ((n : Int) - 1) && (inB b 0 ((n : Int) - 1) && (decide (a < b) && ((0 : Int) == 0 && (hi : Int) == 0)))) = z
 have HN := Lib.hid hz.symm
 clear hz
 have hf : Below w.heap.size w (((w.alloc (.cells #[.slice A n c, .slice N m d] 25)).alloc (.cells #[.int .i64 4, .int .i64 a, .int .i64 b, .int .i64 0, .int .i64 hi, .int .i64 0, .int .i64 0, .int .i64 0, .int .i64 0] 70)).alloc (.cells #[.int .i64 0, .int .i64 0] 40)) := fr_alloc (fr_alloc (fr_alloc (fr_refl w) _) _) _
 have hX : Blk (((w.alloc (.cells #[.slice A n c, .slice N m d] 25)).alloc (.cells #[.int .i64 4, .int .i64 a, .int .i64 b, .int .i64 0, .int .i64 hi, .int .i64 0, .int .i64 0, .int .i64 0, .int .i64 0] 70)).alloc (.cells #[.int .i64 0, .int .i64 0] 40)) w.heap.size 25 #[.slice A n c, .slice N m d] := ((Blk.new w _ _).alloc _).alloc _
 have hY : Blk (((w.alloc (.cells #[.slice A n c, .slice N m d] 25)).alloc (.cells #[.int .i64 4, .int .i64 a, .int .i64 b, .int .i64 0, .int .i64 hi, .int .i64 0, .int .i64 0, .int .i64 0, .int .i64 0] 70)).alloc (.cells #[.int .i64 0, .int .i64 0] 40)) (w.heap.size + 1) 70 #[.int .i64 4, .int .i64 a, .int .i64 b, .int .i64 0, .int .i64 hi, .int .i64 0, .int .i64 0, .int .i64 0, .int .i64 0] := (Blk.new_at _ _ (by simp)).alloc _
 have hcX := fun j => hX.cell j
 have hcY := fun j => hY.cell j
 go_enter Tryz.func28, Tryz.ntmps28
 cases c1 : inB a 0 ((n : Int) - 1)
 ·go_wp2_with fail
  refine (rwheel_is A N n m c d a hn _ _ c1).mono ?_
  rintro e w1 ⟨rfl, hb1⟩
  replace hf := fr_call hf hb1
  replace hX := hX.keep hb1
  replace hY := hY.keep hb1
  clear hb1 hcX hcY
  have hcX := fun j => hX.cell j
  have hcY := fun j => hY.cell j
  clear hcX hcY hX hY
  go_wp2_with fail
  go_ret
  exact ⟨ret_bool (by rw [HN.out, c1]; rfl), hf⟩
 ·go_wp2_with fail
  refine (rwheel_is A N n m c d a hn _ _ c1).mono ?_
  rintro e w1 ⟨rfl, hb1⟩
  replace hf := fr_call hf hb1
  replace hX := hX.keep hb1
  replace hY := hY.keep hb1
  clear hb1 hcX hcY
  have hcX := fun j => hX.cell j
  have hcY := fun j => hY.cell j
  cases c2 : inB b 0 ((n : Int) - 1)
  ·go_wp2_with fail
   refine (rwheel_is A N n m c d b hn _ _ c2).mono ?_
   rintro e w1 ⟨rfl, hb1⟩
   replace hf := fr_call hf hb1
   replace hX := hX.keep hb1
   replace hY := hY.keep hb1
   clear hb1 hcX hcY
   have hcX := fun j => hX.cell j
   have hcY := fun j => hY.cell j
   clear hcX hcY hX hY
   go_wp2_with fail
   go_ret
   exact ⟨ret_bool (by rw [HN.out, c1, c2]; rfl), hf⟩
  ·go_wp2_with fail
   refine (rwheel_is A N n m c d b hn _ _ c2).mono ?_
   rintro e w1 ⟨rfl, hb1⟩
   replace hf := fr_call hf hb1
   replace hX := hX.keep hb1
   replace hY := hY.keep hb1
   clear hb1 hcX hcY
   have hcX := fun j => hX.cell j
   have hcY := fun j => hY.cell j
   go_wp2_with (first | (go_at_call 29; refine (rin_is _ _ _ _ _ rfl).mono ?_; rintro e w' ⟨rfl, rfl⟩))
   all_goals
    go_ret
    exact ⟨ret_bool (by rw [HN.out, c1, c2]; clear hcX hcY hX hY hf HN; first | (simp [*]; done) | (simp [inB, -not_and] at *; omega) | (simp [inB, -not_and] at *; simp [*]; done) | (simp [inB] at *; simp [*]; omega)), hf⟩
set_option maxRecDepth 100000 in
set_option maxHeartbeats 16000000 in
theorem Note_4c (A N : Option Addr) (n m c d : Nat) (a b lo hi : Int) (hn : n ≤ 1000) (w : World) (hq : (lo == 0) = false) :
  Calls Tryz.prog 28 #[.agg #[.slice A n c, .slice N m d], .agg #[.int .i64 4, .int .i64 a, .int .i64 b, .int .i64 lo, .int .i64 hi, .int .i64 0, .int .i64 0, .int .i64 0, .int .i64 0]] w fun e w' => e = .returned (.bool (noteB ⟨4, a, b, lo, hi, 0, 0, 0, 0⟩ n)) ∧ Below w.heap.size w w' := by
 rw [show noteB ⟨4, a, b, lo, hi, 0, 0, 0, 0⟩ n = (inB a 0 ((n : Int) - 1) && (inB b 0 ((n : Int) - 1) && (decide (a < b) && ((lo : Int) == 0 && (hi : Int) == 0)))) from by rw [Bool.eq_iff_iff]; simp [noteB, noneB, bareB, inB]; try omega]
 generalize hz : (inB a 0 ((n : Int) - 1) && (inB b 0 ((n : Int) - 1) && (decide (a < b) && ((lo : Int) == 0 && (hi : Int) == 0)))) = z
 have HN := Lib.hid hz.symm
 clear hz
 have hf : Below w.heap.size w (((w.alloc (.cells #[.slice A n c, .slice N m d] 25)).alloc (.cells #[.int .i64 4, .int .i64 a, .int .i64 b, .int .i64 lo, .int .i64 hi, .int .i64 0, .int .i64 0, .int .i64 0, .int .i64 0] 70)).alloc (.cells #[.int .i64 0, .int .i64 0] 40)) := fr_alloc (fr_alloc (fr_alloc (fr_refl w) _) _) _
 have hX : Blk (((w.alloc (.cells #[.slice A n c, .slice N m d] 25)).alloc (.cells #[.int .i64 4, .int .i64 a, .int .i64 b, .int .i64 lo, .int .i64 hi, .int .i64 0, .int .i64 0, .int .i64 0, .int .i64 0] 70)).alloc (.cells #[.int .i64 0, .int .i64 0] 40)) w.heap.size 25 #[.slice A n c, .slice N m d] := ((Blk.new w _ _).alloc _).alloc _
 have hY : Blk (((w.alloc (.cells #[.slice A n c, .slice N m d] 25)).alloc (.cells #[.int .i64 4, .int .i64 a, .int .i64 b, .int .i64 lo, .int .i64 hi, .int .i64 0, .int .i64 0, .int .i64 0, .int .i64 0] 70)).alloc (.cells #[.int .i64 0, .int .i64 0] 40)) (w.heap.size + 1) 70 #[.int .i64 4, .int .i64 a, .int .i64 b, .int .i64 lo, .int .i64 hi, .int .i64 0, .int .i64 0, .int .i64 0, .int .i64 0] := (Blk.new_at _ _ (by simp)).alloc _
 have hcX := fun j => hX.cell j
 have hcY := fun j => hY.cell j
 go_enter Tryz.func28, Tryz.ntmps28
 cases c1 : inB a 0 ((n : Int) - 1)
 ·go_wp2_with fail
  refine (rwheel_is A N n m c d a hn _ _ c1).mono ?_
  rintro e w1 ⟨rfl, hb1⟩
  replace hf := fr_call hf hb1
  replace hX := hX.keep hb1
  replace hY := hY.keep hb1
  clear hb1 hcX hcY
  have hcX := fun j => hX.cell j
  have hcY := fun j => hY.cell j
  clear hcX hcY hX hY
  go_wp2_with fail
  go_ret
  exact ⟨ret_bool (by rw [HN.out, c1]; rfl), hf⟩
 ·go_wp2_with fail
  refine (rwheel_is A N n m c d a hn _ _ c1).mono ?_
  rintro e w1 ⟨rfl, hb1⟩
  replace hf := fr_call hf hb1
  replace hX := hX.keep hb1
  replace hY := hY.keep hb1
  clear hb1 hcX hcY
  have hcX := fun j => hX.cell j
  have hcY := fun j => hY.cell j
  cases c2 : inB b 0 ((n : Int) - 1)
  ·go_wp2_with fail
   refine (rwheel_is A N n m c d b hn _ _ c2).mono ?_
   rintro e w1 ⟨rfl, hb1⟩
   replace hf := fr_call hf hb1
   replace hX := hX.keep hb1
   replace hY := hY.keep hb1
   clear hb1 hcX hcY
   have hcX := fun j => hX.cell j
   have hcY := fun j => hY.cell j
   clear hcX hcY hX hY
   go_wp2_with fail
   go_ret
   exact ⟨ret_bool (by rw [HN.out, c1, c2]; rfl), hf⟩
  ·go_wp2_with fail
   refine (rwheel_is A N n m c d b hn _ _ c2).mono ?_
   rintro e w1 ⟨rfl, hb1⟩
   replace hf := fr_call hf hb1
   replace hX := hX.keep hb1
   replace hY := hY.keep hb1
   clear hb1 hcX hcY
   have hcX := fun j => hX.cell j
   have hcY := fun j => hY.cell j
   go_wp2_with (first | (go_at_call 29; refine (rin_is _ _ _ _ _ rfl).mono ?_; rintro e w' ⟨rfl, rfl⟩))
   all_goals
    go_ret
    exact ⟨ret_bool (by rw [HN.out, c1, c2]; clear hcX hcY hX hY hf HN; first | (simp [*]; done) | (simp [inB, -not_and] at *; omega) | (simp [inB, -not_and] at *; simp [*]; done) | (simp [inB] at *; simp [*]; omega)), hf⟩
set_option maxRecDepth 100000 in
set_option maxHeartbeats 16000000 in
theorem Note_5a (A N : Option Addr) (n m c d : Nat) (a b : Int) (hn : n ≤ 1000) (w : World) :
  Calls Tryz.prog 28 #[.agg #[.slice A n c, .slice N m d], .agg #[.int .i64 5, .int .i64 a, .int .i64 b, .int .i64 0, .int .i64 0, .int .i64 0, .int .i64 0, .int .i64 0, .int .i64 0]] w fun e w' => e = .returned (.bool (noteB ⟨5, a, b, 0, 0, 0, 0, 0, 0⟩ n)) ∧ Below w.heap.size w w' := by
 rw [show noteB ⟨5, a, b, 0, 0, 0, 0, 0, 0⟩ n = (inB a 0 ((n : Int) - 1) && (inB b 2 12 && ((0 : Int) == 0 && (0 : Int) == 0))) from by rw [Bool.eq_iff_iff]; simp [noteB, noneB, bareB, inB]; try omega]
 generalize hz : (inB a 0 ((n : Int) - 1) && (inB b 2 12 && ((0 : Int) == 0 && (0 : Int) == 0))) = z
 have HN := Lib.hid hz.symm
 clear hz
 have hf : Below w.heap.size w (((w.alloc (.cells #[.slice A n c, .slice N m d] 25)).alloc (.cells #[.int .i64 5, .int .i64 a, .int .i64 b, .int .i64 0, .int .i64 0, .int .i64 0, .int .i64 0, .int .i64 0, .int .i64 0] 70)).alloc (.cells #[.int .i64 0, .int .i64 0] 40)) := fr_alloc (fr_alloc (fr_alloc (fr_refl w) _) _) _
 have hX : Blk (((w.alloc (.cells #[.slice A n c, .slice N m d] 25)).alloc (.cells #[.int .i64 5, .int .i64 a, .int .i64 b, .int .i64 0, .int .i64 0, .int .i64 0, .int .i64 0, .int .i64 0, .int .i64 0] 70)).alloc (.cells #[.int .i64 0, .int .i64 0] 40)) w.heap.size 25 #[.slice A n c, .slice N m d] := ((Blk.new w _ _).alloc _).alloc _
 have hY : Blk (((w.alloc (.cells #[.slice A n c, .slice N m d] 25)).alloc (.cells #[.int .i64 5, .int .i64 a, .int .i64 b, .int .i64 0, .int .i64 0, .int .i64 0, .int .i64 0, .int .i64 0, .int .i64 0] 70)).alloc (.cells #[.int .i64 0, .int .i64 0] 40)) (w.heap.size + 1) 70 #[.int .i64 5, .int .i64 a, .int .i64 b, .int .i64 0, .int .i64 0, .int .i64 0, .int .i64 0, .int .i64 0, .int .i64 0] := (Blk.new_at _ _ (by simp)).alloc _
 have hcX := fun j => hX.cell j
 have hcY := fun j => hY.cell j
 go_enter Tryz.func28, Tryz.ntmps28
 cases c1 : inB a 0 ((n : Int) - 1)
 ·go_wp2_with fail
  refine (rwheel_is A N n m c d a hn _ _ c1).mono ?_
  rintro e w1 ⟨rfl, hb1⟩
  replace hf := fr_call hf hb1
  replace hX := hX.keep hb1
  replace hY := hY.keep hb1
  clear hb1 hcX hcY
  have hcX := fun j => hX.cell j
  have hcY := fun j => hY.cell j
  clear hcX hcY hX hY
  go_wp2_with fail
  go_ret
  exact ⟨ret_bool (by rw [HN.out, c1]; rfl), hf⟩
 ·go_wp2_with fail
  refine (rwheel_is A N n m c d a hn _ _ c1).mono ?_
  rintro e w1 ⟨rfl, hb1⟩
  replace hf := fr_call hf hb1
  replace hX := hX.keep hb1
  replace hY := hY.keep hb1
  clear hb1 hcX hcY
  have hcX := fun j => hX.cell j
  have hcY := fun j => hY.cell j
  go_wp2_with (first | (go_at_call 29; refine (rin_is _ _ _ _ _ rfl).mono ?_; rintro e w' ⟨rfl, rfl⟩))
  all_goals
   go_ret
   exact ⟨ret_bool (by rw [HN.out, c1]; clear hcX hcY hX hY hf HN; first | (simp [*]; done) | (simp [inB, -not_and] at *; omega) | (simp [inB, -not_and] at *; simp [*]; done) | (simp [inB] at *; simp [*]; omega)), hf⟩
set_option maxRecDepth 100000 in
set_option maxHeartbeats 16000000 in
theorem Note_5b (A N : Option Addr) (n m c d : Nat) (a b hi : Int) (hn : n ≤ 1000) (w : World) (hq : (hi == 0) = false) :
  Calls Tryz.prog 28 #[.agg #[.slice A n c, .slice N m d], .agg #[.int .i64 5, .int .i64 a, .int .i64 b, .int .i64 0, .int .i64 hi, .int .i64 0, .int .i64 0, .int .i64 0, .int .i64 0]] w fun e w' => e = .returned (.bool (noteB ⟨5, a, b, 0, hi, 0, 0, 0, 0⟩ n)) ∧ Below w.heap.size w w' := by
 rw [show noteB ⟨5, a, b, 0, hi, 0, 0, 0, 0⟩ n = (inB a 0 ((n : Int) - 1) && (inB b 2 12 && ((0 : Int) == 0 && (hi : Int) == 0))) from by rw [Bool.eq_iff_iff]; simp [noteB, noneB, bareB, inB]; try omega]
 generalize hz : (inB a 0 ((n : Int) - 1) && (inB b 2 12 && ((0 : Int) == 0 && (hi : Int) == 0))) = z
 have HN := Lib.hid hz.symm
 clear hz
 have hf : Below w.heap.size w (((w.alloc (.cells #[.slice A n c, .slice N m d] 25)).alloc (.cells #[.int .i64 5, .int .i64 a, .int .i64 b, .int .i64 0, .int .i64 hi, .int .i64 0, .int .i64 0, .int .i64 0, .int .i64 0] 70)).alloc (.cells #[.int .i64 0, .int .i64 0] 40)) := fr_alloc (fr_alloc (fr_alloc (fr_refl w) _) _) _
 have hX : Blk (((w.alloc (.cells #[.slice A n c, .slice N m d] 25)).alloc (.cells #[.int .i64 5, .int .i64 a, .int .i64 b, .int .i64 0, .int .i64 hi, .int .i64 0, .int .i64 0, .int .i64 0, .int .i64 0] 70)).alloc (.cells #[.int .i64 0, .int .i64 0] 40)) w.heap.size 25 #[.slice A n c, .slice N m d] := ((Blk.new w _ _).alloc _).alloc _
 have hY : Blk (((w.alloc (.cells #[.slice A n c, .slice N m d] 25)).alloc (.cells #[.int .i64 5, .int .i64 a, .int .i64 b, .int .i64 0, .int .i64 hi, .int .i64 0, .int .i64 0, .int .i64 0, .int .i64 0] 70)).alloc (.cells #[.int .i64 0, .int .i64 0] 40)) (w.heap.size + 1) 70 #[.int .i64 5, .int .i64 a, .int .i64 b, .int .i64 0, .int .i64 hi, .int .i64 0, .int .i64 0, .int .i64 0, .int .i64 0] := (Blk.new_at _ _ (by simp)).alloc _
 have hcX := fun j => hX.cell j
 have hcY := fun j => hY.cell j
 go_enter Tryz.func28, Tryz.ntmps28
 cases c1 : inB a 0 ((n : Int) - 1)
 ·go_wp2_with fail
  refine (rwheel_is A N n m c d a hn _ _ c1).mono ?_
  rintro e w1 ⟨rfl, hb1⟩
  replace hf := fr_call hf hb1
  replace hX := hX.keep hb1
  replace hY := hY.keep hb1
  clear hb1 hcX hcY
  have hcX := fun j => hX.cell j
  have hcY := fun j => hY.cell j
  clear hcX hcY hX hY
  go_wp2_with fail
  go_ret
  exact ⟨ret_bool (by rw [HN.out, c1]; rfl), hf⟩
 ·go_wp2_with fail
  refine (rwheel_is A N n m c d a hn _ _ c1).mono ?_
  rintro e w1 ⟨rfl, hb1⟩
  replace hf := fr_call hf hb1
  replace hX := hX.keep hb1
  replace hY := hY.keep hb1
  clear hb1 hcX hcY
  have hcX := fun j => hX.cell j
  have hcY := fun j => hY.cell j
  go_wp2_with (first | (go_at_call 29; refine (rin_is _ _ _ _ _ rfl).mono ?_; rintro e w' ⟨rfl, rfl⟩))
  all_goals
   go_ret
   exact ⟨ret_bool (by rw [HN.out, c1]; clear hcX hcY hX hY hf HN; first | (simp [*]; done) | (simp [inB, -not_and] at *; omega) | (simp [inB, -not_and] at *; simp [*]; done) | (simp [inB] at *; simp [*]; omega)), hf⟩
set_option maxRecDepth 100000 in
set_option maxHeartbeats 16000000 in
theorem Note_5c (A N : Option Addr) (n m c d : Nat) (a b lo hi : Int) (hn : n ≤ 1000) (w : World) (hq : (lo == 0) = false) :
  Calls Tryz.prog 28 #[.agg #[.slice A n c, .slice N m d], .agg #[.int .i64 5, .int .i64 a, .int .i64 b, .int .i64 lo, .int .i64 hi, .int .i64 0, .int .i64 0, .int .i64 0, .int .i64 0]] w fun e w' => e = .returned (.bool (noteB ⟨5, a, b, lo, hi, 0, 0, 0, 0⟩ n)) ∧ Below w.heap.size w w' := by
 rw [show noteB ⟨5, a, b, lo, hi, 0, 0, 0, 0⟩ n = (inB a 0 ((n : Int) - 1) && (inB b 2 12 && ((lo : Int) == 0 && (hi : Int) == 0))) from by rw [Bool.eq_iff_iff]; simp [noteB, noneB, bareB, inB]; try omega]
 generalize hz : (inB a 0 ((n : Int) - 1) && (inB b 2 12 && ((lo : Int) == 0 && (hi : Int) == 0))) = z
 have HN := Lib.hid hz.symm
 clear hz
 have hf : Below w.heap.size w (((w.alloc (.cells #[.slice A n c, .slice N m d] 25)).alloc (.cells #[.int .i64 5, .int .i64 a, .int .i64 b, .int .i64 lo, .int .i64 hi, .int .i64 0, .int .i64 0, .int .i64 0, .int .i64 0] 70)).alloc (.cells #[.int .i64 0, .int .i64 0] 40)) := fr_alloc (fr_alloc (fr_alloc (fr_refl w) _) _) _
 have hX : Blk (((w.alloc (.cells #[.slice A n c, .slice N m d] 25)).alloc (.cells #[.int .i64 5, .int .i64 a, .int .i64 b, .int .i64 lo, .int .i64 hi, .int .i64 0, .int .i64 0, .int .i64 0, .int .i64 0] 70)).alloc (.cells #[.int .i64 0, .int .i64 0] 40)) w.heap.size 25 #[.slice A n c, .slice N m d] := ((Blk.new w _ _).alloc _).alloc _
 have hY : Blk (((w.alloc (.cells #[.slice A n c, .slice N m d] 25)).alloc (.cells #[.int .i64 5, .int .i64 a, .int .i64 b, .int .i64 lo, .int .i64 hi, .int .i64 0, .int .i64 0, .int .i64 0, .int .i64 0] 70)).alloc (.cells #[.int .i64 0, .int .i64 0] 40)) (w.heap.size + 1) 70 #[.int .i64 5, .int .i64 a, .int .i64 b, .int .i64 lo, .int .i64 hi, .int .i64 0, .int .i64 0, .int .i64 0, .int .i64 0] := (Blk.new_at _ _ (by simp)).alloc _
 have hcX := fun j => hX.cell j
 have hcY := fun j => hY.cell j
 go_enter Tryz.func28, Tryz.ntmps28
 cases c1 : inB a 0 ((n : Int) - 1)
 ·go_wp2_with fail
  refine (rwheel_is A N n m c d a hn _ _ c1).mono ?_
  rintro e w1 ⟨rfl, hb1⟩
  replace hf := fr_call hf hb1
  replace hX := hX.keep hb1
  replace hY := hY.keep hb1
  clear hb1 hcX hcY
  have hcX := fun j => hX.cell j
  have hcY := fun j => hY.cell j
  clear hcX hcY hX hY
  go_wp2_with fail
  go_ret
  exact ⟨ret_bool (by rw [HN.out, c1]; rfl), hf⟩
 ·go_wp2_with fail
  refine (rwheel_is A N n m c d a hn _ _ c1).mono ?_
  rintro e w1 ⟨rfl, hb1⟩
  replace hf := fr_call hf hb1
  replace hX := hX.keep hb1
  replace hY := hY.keep hb1
  clear hb1 hcX hcY
  have hcX := fun j => hX.cell j
  have hcY := fun j => hY.cell j
  go_wp2_with (first | (go_at_call 29; refine (rin_is _ _ _ _ _ rfl).mono ?_; rintro e w' ⟨rfl, rfl⟩))
  all_goals
   go_ret
   exact ⟨ret_bool (by rw [HN.out, c1]; clear hcX hcY hX hY hf HN; first | (simp [*]; done) | (simp [inB, -not_and] at *; omega) | (simp [inB, -not_and] at *; simp [*]; done) | (simp [inB] at *; simp [*]; omega)), hf⟩
set_option maxRecDepth 100000 in
set_option maxHeartbeats 16000000 in
theorem Note_3a (A N : Option Addr) (n m c d : Nat) (a b ln ld mn md : Int) (hn : n ≤ 1000) (w : World) :
  Calls Tryz.prog 28 #[.agg #[.slice A n c, .slice N m d], .agg #[.int .i64 3, .int .i64 a, .int .i64 b, .int .i64 0, .int .i64 0, .int .i64 ln, .int .i64 ld, .int .i64 mn, .int .i64 md]] w fun e w' => e = .returned (.bool (noteB ⟨3, a, b, 0, 0, ln, ld, mn, md⟩ n)) ∧ Below w.heap.size w w' := by
 rw [show noteB ⟨3, a, b, 0, 0, ln, ld, mn, md⟩ n = (inB a 0 ((n : Int) / 2 - 1) && (inB b 0 ((n : Int) / 2 - 1) && (decide (a ≤ b) && (((0 : Int) == 0 && (0 : Int) == 0) && (fracB ln ld && (fracB mn md && !aboveB ln ld mn md)))))) from by unfold noteB; simp only; generalize fracB ln ld = p; generalize fracB mn md = q; generalize aboveB ln ld mn md = r; rw [Bool.eq_iff_iff]; cases p <;> cases q <;> cases r <;> simp [bareB, inB] <;> omega]
 generalize hz : (inB a 0 ((n : Int) / 2 - 1) && (inB b 0 ((n : Int) / 2 - 1) && (decide (a ≤ b) && (((0 : Int) == 0 && (0 : Int) == 0) && (fracB ln ld && (fracB mn md && !aboveB ln ld mn md)))))) = z
 have HN := Lib.hid hz.symm
 clear hz
 have hf : Below w.heap.size w (((w.alloc (.cells #[.slice A n c, .slice N m d] 25)).alloc (.cells #[.int .i64 3, .int .i64 a, .int .i64 b, .int .i64 0, .int .i64 0, .int .i64 ln, .int .i64 ld, .int .i64 mn, .int .i64 md] 70)).alloc (.cells #[.int .i64 0, .int .i64 0] 40)) := fr_alloc (fr_alloc (fr_alloc (fr_refl w) _) _) _
 have hX : Blk (((w.alloc (.cells #[.slice A n c, .slice N m d] 25)).alloc (.cells #[.int .i64 3, .int .i64 a, .int .i64 b, .int .i64 0, .int .i64 0, .int .i64 ln, .int .i64 ld, .int .i64 mn, .int .i64 md] 70)).alloc (.cells #[.int .i64 0, .int .i64 0] 40)) w.heap.size 25 #[.slice A n c, .slice N m d] := ((Blk.new w _ _).alloc _).alloc _
 have hY : Blk (((w.alloc (.cells #[.slice A n c, .slice N m d] 25)).alloc (.cells #[.int .i64 3, .int .i64 a, .int .i64 b, .int .i64 0, .int .i64 0, .int .i64 ln, .int .i64 ld, .int .i64 mn, .int .i64 md] 70)).alloc (.cells #[.int .i64 0, .int .i64 0] 40)) (w.heap.size + 1) 70 #[.int .i64 3, .int .i64 a, .int .i64 b, .int .i64 0, .int .i64 0, .int .i64 ln, .int .i64 ld, .int .i64 mn, .int .i64 md] := (Blk.new_at _ _ (by simp)).alloc _
 have hcX := fun j => hX.cell j
 have hcY := fun j => hY.cell j
 go_enter Tryz.func28, Tryz.ntmps28
 cases c1 : inB a 0 ((n : Int) / 2 - 1)
 ·go_wp2_with fail
  refine (rpair_is A N n m c d a hn _ _ c1).mono ?_
  rintro e w1 ⟨rfl, hb1⟩
  replace hf := fr_call hf hb1
  replace hX := hX.keep hb1
  replace hY := hY.keep hb1
  clear hb1 hcX hcY
  have hcX := fun j => hX.cell j
  have hcY := fun j => hY.cell j
  clear hcX hcY hX hY
  go_wp2_with fail
  go_ret
  exact ⟨ret_bool (by rw [HN.out, c1]; rfl), hf⟩
 ·go_wp2_with fail
  refine (rpair_is A N n m c d a hn _ _ c1).mono ?_
  rintro e w1 ⟨rfl, hb1⟩
  replace hf := fr_call hf hb1
  replace hX := hX.keep hb1
  replace hY := hY.keep hb1
  clear hb1 hcX hcY
  have hcX := fun j => hX.cell j
  have hcY := fun j => hY.cell j
  cases c2 : inB b 0 ((n : Int) / 2 - 1)
  ·go_wp2_with fail
   refine (rpair_is A N n m c d b hn _ _ c2).mono ?_
   rintro e w1 ⟨rfl, hb1⟩
   replace hf := fr_call hf hb1
   replace hX := hX.keep hb1
   replace hY := hY.keep hb1
   clear hb1 hcX hcY
   have hcX := fun j => hX.cell j
   have hcY := fun j => hY.cell j
   clear hcX hcY hX hY
   go_wp2_with fail
   go_ret
   exact ⟨ret_bool (by rw [HN.out, c1, c2]; rfl), hf⟩
  ·go_wp2_with fail
   refine (rpair_is A N n m c d b hn _ _ c2).mono ?_
   rintro e w1 ⟨rfl, hb1⟩
   replace hf := fr_call hf hb1
   replace hX := hX.keep hb1
   replace hY := hY.keep hb1
   clear hb1 hcX hcY
   have hcX := fun j => hX.cell j
   have hcY := fun j => hY.cell j
   by_cases c3 : a ≤ b
   ·have HC := Lib.hid (decide_eq_true c3)
    cases d1 : fracB ln ld
    ·go_wp2_with fail
     refine (rfraction_is _ _ _ _ d1).mono ?_
     rintro e w1 ⟨rfl, hb1⟩
     replace hf := fr_call hf hb1
     replace hX := hX.keep hb1
     replace hY := hY.keep hb1
     clear hb1 hcX hcY
     have hcX := fun j => hX.cell j
     have hcY := fun j => hY.cell j
     clear hcX hcY hX hY
     go_wp2_with fail
     go_ret
     exact ⟨ret_bool (by rw [HN.out, c1, c2, HC.out, d1]; simp), hf⟩
    ·go_wp2_with fail
     refine (rfraction_is _ _ _ _ d1).mono ?_
     rintro e w1 ⟨rfl, hb1⟩
     replace hf := fr_call hf hb1
     replace hX := hX.keep hb1
     replace hY := hY.keep hb1
     clear hb1 hcX hcY
     have hcX := fun j => hX.cell j
     have hcY := fun j => hY.cell j
     cases d2 : fracB mn md
     ·go_wp2_with fail
      refine (rfraction_is _ _ _ _ d2).mono ?_
      rintro e w1 ⟨rfl, hb1⟩
      replace hf := fr_call hf hb1
      replace hX := hX.keep hb1
      replace hY := hY.keep hb1
      clear hb1 hcX hcY
      have hcX := fun j => hX.cell j
      have hcY := fun j => hY.cell j
      clear hcX hcY hX hY
      go_wp2_with fail
      go_ret
      exact ⟨ret_bool (by rw [HN.out, c1, c2, HC.out, d1, d2]; simp), hf⟩
     ·go_wp2_with fail
      refine (rfraction_is _ _ _ _ d2).mono ?_
      rintro e w1 ⟨rfl, hb1⟩
      replace hf := fr_call hf hb1
      replace hX := hX.keep hb1
      replace hY := hY.keep hb1
      clear hb1 hcX hcY
      have hcX := fun j => hX.cell j
      have hcY := fun j => hY.cell j
      go_wp2_with fail
      refine (rbelow_is _ _ _ _ _ (frac_mo d2).1 (frac_mo d2).2 (frac_mo d1).1 (frac_mo d1).2 _ rfl).mono ?_
      rintro e w1 ⟨rfl, hb1⟩
      replace hf := fr_call hf hb1
      replace hX := hX.keep hb1
      replace hY := hY.keep hb1
      clear hb1 hcX hcY
      have hcX := fun j => hX.cell j
      have hcY := fun j => hY.cell j
      clear hcX hcY hX hY
      go_wp2_with fail
      go_ret
      exact ⟨ret_bool (by rw [HN.out, c1, c2, HC.out, d1, d2]; simp), hf⟩
   ·have HC := Lib.hid (decide_eq_false c3)
    clear hcX
    go_wp2_with fail
    go_ret
    exact ⟨ret_bool (by rw [HN.out, c1, c2, HC.out]; simp), hf⟩
set_option maxRecDepth 100000 in
set_option maxHeartbeats 16000000 in
theorem Note_3b (A N : Option Addr) (n m c d : Nat) (a b hi ln ld mn md : Int) (hn : n ≤ 1000) (w : World) (hq : (hi == 0) = false) :
  Calls Tryz.prog 28 #[.agg #[.slice A n c, .slice N m d], .agg #[.int .i64 3, .int .i64 a, .int .i64 b, .int .i64 0, .int .i64 hi, .int .i64 ln, .int .i64 ld, .int .i64 mn, .int .i64 md]] w fun e w' => e = .returned (.bool (noteB ⟨3, a, b, 0, hi, ln, ld, mn, md⟩ n)) ∧ Below w.heap.size w w' := by
 rw [show noteB ⟨3, a, b, 0, hi, ln, ld, mn, md⟩ n = (inB a 0 ((n : Int) / 2 - 1) && (inB b 0 ((n : Int) / 2 - 1) && (decide (a ≤ b) && (((0 : Int) == 0 && (hi : Int) == 0) && (fracB ln ld && (fracB mn md && !aboveB ln ld mn md)))))) from by unfold noteB; simp only; generalize fracB ln ld = p; generalize fracB mn md = q; generalize aboveB ln ld mn md = r; rw [Bool.eq_iff_iff]; cases p <;> cases q <;> cases r <;> simp [bareB, inB] <;> omega]
 generalize hz : (inB a 0 ((n : Int) / 2 - 1) && (inB b 0 ((n : Int) / 2 - 1) && (decide (a ≤ b) && (((0 : Int) == 0 && (hi : Int) == 0) && (fracB ln ld && (fracB mn md && !aboveB ln ld mn md)))))) = z
 have HN := Lib.hid hz.symm
 clear hz
 have hf : Below w.heap.size w (((w.alloc (.cells #[.slice A n c, .slice N m d] 25)).alloc (.cells #[.int .i64 3, .int .i64 a, .int .i64 b, .int .i64 0, .int .i64 hi, .int .i64 ln, .int .i64 ld, .int .i64 mn, .int .i64 md] 70)).alloc (.cells #[.int .i64 0, .int .i64 0] 40)) := fr_alloc (fr_alloc (fr_alloc (fr_refl w) _) _) _
 have hX : Blk (((w.alloc (.cells #[.slice A n c, .slice N m d] 25)).alloc (.cells #[.int .i64 3, .int .i64 a, .int .i64 b, .int .i64 0, .int .i64 hi, .int .i64 ln, .int .i64 ld, .int .i64 mn, .int .i64 md] 70)).alloc (.cells #[.int .i64 0, .int .i64 0] 40)) w.heap.size 25 #[.slice A n c, .slice N m d] := ((Blk.new w _ _).alloc _).alloc _
 have hY : Blk (((w.alloc (.cells #[.slice A n c, .slice N m d] 25)).alloc (.cells #[.int .i64 3, .int .i64 a, .int .i64 b, .int .i64 0, .int .i64 hi, .int .i64 ln, .int .i64 ld, .int .i64 mn, .int .i64 md] 70)).alloc (.cells #[.int .i64 0, .int .i64 0] 40)) (w.heap.size + 1) 70 #[.int .i64 3, .int .i64 a, .int .i64 b, .int .i64 0, .int .i64 hi, .int .i64 ln, .int .i64 ld, .int .i64 mn, .int .i64 md] := (Blk.new_at _ _ (by simp)).alloc _
 have hcX := fun j => hX.cell j
 have hcY := fun j => hY.cell j
 go_enter Tryz.func28, Tryz.ntmps28
 cases c1 : inB a 0 ((n : Int) / 2 - 1)
 ·go_wp2_with fail
  refine (rpair_is A N n m c d a hn _ _ c1).mono ?_
  rintro e w1 ⟨rfl, hb1⟩
  replace hf := fr_call hf hb1
  replace hX := hX.keep hb1
  replace hY := hY.keep hb1
  clear hb1 hcX hcY
  have hcX := fun j => hX.cell j
  have hcY := fun j => hY.cell j
  clear hcX hcY hX hY
  go_wp2_with fail
  go_ret
  exact ⟨ret_bool (by rw [HN.out, c1]; rfl), hf⟩
 ·go_wp2_with fail
  refine (rpair_is A N n m c d a hn _ _ c1).mono ?_
  rintro e w1 ⟨rfl, hb1⟩
  replace hf := fr_call hf hb1
  replace hX := hX.keep hb1
  replace hY := hY.keep hb1
  clear hb1 hcX hcY
  have hcX := fun j => hX.cell j
  have hcY := fun j => hY.cell j
  cases c2 : inB b 0 ((n : Int) / 2 - 1)
  ·go_wp2_with fail
   refine (rpair_is A N n m c d b hn _ _ c2).mono ?_
   rintro e w1 ⟨rfl, hb1⟩
   replace hf := fr_call hf hb1
   replace hX := hX.keep hb1
   replace hY := hY.keep hb1
   clear hb1 hcX hcY
   have hcX := fun j => hX.cell j
   have hcY := fun j => hY.cell j
   clear hcX hcY hX hY
   go_wp2_with fail
   go_ret
   exact ⟨ret_bool (by rw [HN.out, c1, c2]; rfl), hf⟩
  ·go_wp2_with fail
   refine (rpair_is A N n m c d b hn _ _ c2).mono ?_
   rintro e w1 ⟨rfl, hb1⟩
   replace hf := fr_call hf hb1
   replace hX := hX.keep hb1
   replace hY := hY.keep hb1
   clear hb1 hcX hcY
   have hcX := fun j => hX.cell j
   have hcY := fun j => hY.cell j
   by_cases c3 : a ≤ b
   ·have HC := Lib.hid (decide_eq_true c3)
    clear hcX
    go_wp2_with fail
    go_ret
    exact ⟨ret_bool (by rw [HN.out, c1, c2, HC.out, hq]; simp), hf⟩
   ·have HC := Lib.hid (decide_eq_false c3)
    clear hcX
    go_wp2_with fail
    go_ret
    exact ⟨ret_bool (by rw [HN.out, c1, c2, HC.out]; simp), hf⟩
set_option maxRecDepth 100000 in
set_option maxHeartbeats 16000000 in
theorem Note_3c (A N : Option Addr) (n m c d : Nat) (a b lo hi ln ld mn md : Int) (hn : n ≤ 1000) (w : World) (hq : (lo == 0) = false) :
  Calls Tryz.prog 28 #[.agg #[.slice A n c, .slice N m d], .agg #[.int .i64 3, .int .i64 a, .int .i64 b, .int .i64 lo, .int .i64 hi, .int .i64 ln, .int .i64 ld, .int .i64 mn, .int .i64 md]] w fun e w' => e = .returned (.bool (noteB ⟨3, a, b, lo, hi, ln, ld, mn, md⟩ n)) ∧ Below w.heap.size w w' := by
 rw [show noteB ⟨3, a, b, lo, hi, ln, ld, mn, md⟩ n = (inB a 0 ((n : Int) / 2 - 1) && (inB b 0 ((n : Int) / 2 - 1) && (decide (a ≤ b) && (((lo : Int) == 0 && (hi : Int) == 0) && (fracB ln ld && (fracB mn md && !aboveB ln ld mn md)))))) from by unfold noteB; simp only; generalize fracB ln ld = p; generalize fracB mn md = q; generalize aboveB ln ld mn md = r; rw [Bool.eq_iff_iff]; cases p <;> cases q <;> cases r <;> simp [bareB, inB] <;> omega]
 generalize hz : (inB a 0 ((n : Int) / 2 - 1) && (inB b 0 ((n : Int) / 2 - 1) && (decide (a ≤ b) && (((lo : Int) == 0 && (hi : Int) == 0) && (fracB ln ld && (fracB mn md && !aboveB ln ld mn md)))))) = z
 have HN := Lib.hid hz.symm
 clear hz
 have hf : Below w.heap.size w (((w.alloc (.cells #[.slice A n c, .slice N m d] 25)).alloc (.cells #[.int .i64 3, .int .i64 a, .int .i64 b, .int .i64 lo, .int .i64 hi, .int .i64 ln, .int .i64 ld, .int .i64 mn, .int .i64 md] 70)).alloc (.cells #[.int .i64 0, .int .i64 0] 40)) := fr_alloc (fr_alloc (fr_alloc (fr_refl w) _) _) _
 have hX : Blk (((w.alloc (.cells #[.slice A n c, .slice N m d] 25)).alloc (.cells #[.int .i64 3, .int .i64 a, .int .i64 b, .int .i64 lo, .int .i64 hi, .int .i64 ln, .int .i64 ld, .int .i64 mn, .int .i64 md] 70)).alloc (.cells #[.int .i64 0, .int .i64 0] 40)) w.heap.size 25 #[.slice A n c, .slice N m d] := ((Blk.new w _ _).alloc _).alloc _
 have hY : Blk (((w.alloc (.cells #[.slice A n c, .slice N m d] 25)).alloc (.cells #[.int .i64 3, .int .i64 a, .int .i64 b, .int .i64 lo, .int .i64 hi, .int .i64 ln, .int .i64 ld, .int .i64 mn, .int .i64 md] 70)).alloc (.cells #[.int .i64 0, .int .i64 0] 40)) (w.heap.size + 1) 70 #[.int .i64 3, .int .i64 a, .int .i64 b, .int .i64 lo, .int .i64 hi, .int .i64 ln, .int .i64 ld, .int .i64 mn, .int .i64 md] := (Blk.new_at _ _ (by simp)).alloc _
 have hcX := fun j => hX.cell j
 have hcY := fun j => hY.cell j
 go_enter Tryz.func28, Tryz.ntmps28
 cases c1 : inB a 0 ((n : Int) / 2 - 1)
 ·go_wp2_with fail
  refine (rpair_is A N n m c d a hn _ _ c1).mono ?_
  rintro e w1 ⟨rfl, hb1⟩
  replace hf := fr_call hf hb1
  replace hX := hX.keep hb1
  replace hY := hY.keep hb1
  clear hb1 hcX hcY
  have hcX := fun j => hX.cell j
  have hcY := fun j => hY.cell j
  clear hcX hcY hX hY
  go_wp2_with fail
  go_ret
  exact ⟨ret_bool (by rw [HN.out, c1]; rfl), hf⟩
 ·go_wp2_with fail
  refine (rpair_is A N n m c d a hn _ _ c1).mono ?_
  rintro e w1 ⟨rfl, hb1⟩
  replace hf := fr_call hf hb1
  replace hX := hX.keep hb1
  replace hY := hY.keep hb1
  clear hb1 hcX hcY
  have hcX := fun j => hX.cell j
  have hcY := fun j => hY.cell j
  cases c2 : inB b 0 ((n : Int) / 2 - 1)
  ·go_wp2_with fail
   refine (rpair_is A N n m c d b hn _ _ c2).mono ?_
   rintro e w1 ⟨rfl, hb1⟩
   replace hf := fr_call hf hb1
   replace hX := hX.keep hb1
   replace hY := hY.keep hb1
   clear hb1 hcX hcY
   have hcX := fun j => hX.cell j
   have hcY := fun j => hY.cell j
   clear hcX hcY hX hY
   go_wp2_with fail
   go_ret
   exact ⟨ret_bool (by rw [HN.out, c1, c2]; rfl), hf⟩
  ·go_wp2_with fail
   refine (rpair_is A N n m c d b hn _ _ c2).mono ?_
   rintro e w1 ⟨rfl, hb1⟩
   replace hf := fr_call hf hb1
   replace hX := hX.keep hb1
   replace hY := hY.keep hb1
   clear hb1 hcX hcY
   have hcX := fun j => hX.cell j
   have hcY := fun j => hY.cell j
   by_cases c3 : a ≤ b
   ·have HC := Lib.hid (decide_eq_true c3)
    clear hcX
    go_wp2_with fail
    go_ret
    exact ⟨ret_bool (by rw [HN.out, c1, c2, HC.out, hq]; simp), hf⟩
   ·have HC := Lib.hid (decide_eq_false c3)
    clear hcX
    go_wp2_with fail
    go_ret
    exact ⟨ret_bool (by rw [HN.out, c1, c2, HC.out]; simp), hf⟩
end Go.Proofs.YtfgghicdkcjdgaaGreatDoor
end

section
namespace Go.Proofs.YtfgghicdkcjdgaaGreatDoor
open Go.RowKit Go.Shelf

set_option maxRecDepth 100000 in
set_option maxHeartbeats 16000000 in
theorem Note_some0 (A N : Option Addr) (n m c d : Nat) (k a b lo hi ln ld mn md : Int) (w : World) (r3 : (k != 3) = true) (hq : (ln == 0) = false) :
  Calls Tryz.prog 28 #[.agg #[.slice A n c, .slice N m d], .agg #[.int .i64 k, .int .i64 a, .int .i64 b, .int .i64 lo, .int .i64 hi, .int .i64 ln, .int .i64 ld, .int .i64 mn, .int .i64 md]] w fun e w' => e = .returned (.bool false) ∧ Below w.heap.size w w' := by
 go_enter Tryz.func28, Tryz.ntmps28
 go_wp2_with fail
 all_goals
  go_ret
  exact ⟨rfl, fr_alloc (fr_alloc (fr_alloc (fr_refl _) _) _) _⟩
set_option maxRecDepth 100000 in
set_option maxHeartbeats 16000000 in
theorem Note_some1 (A N : Option Addr) (n m c d : Nat) (k a b lo hi ld mn md : Int) (w : World) (r3 : (k != 3) = true) (hq : (ld == 0) = false) :
  Calls Tryz.prog 28 #[.agg #[.slice A n c, .slice N m d], .agg #[.int .i64 k, .int .i64 a, .int .i64 b, .int .i64 lo, .int .i64 hi, .int .i64 0, .int .i64 ld, .int .i64 mn, .int .i64 md]] w fun e w' => e = .returned (.bool false) ∧ Below w.heap.size w w' := by
 go_enter Tryz.func28, Tryz.ntmps28
 go_wp2_with fail
 all_goals
  go_ret
  exact ⟨rfl, fr_alloc (fr_alloc (fr_alloc (fr_refl _) _) _) _⟩
set_option maxRecDepth 100000 in
set_option maxHeartbeats 16000000 in
theorem Note_some2 (A N : Option Addr) (n m c d : Nat) (k a b lo hi mn md : Int) (w : World) (r3 : (k != 3) = true) (hq : (mn == 0) = false) :
  Calls Tryz.prog 28 #[.agg #[.slice A n c, .slice N m d], .agg #[.int .i64 k, .int .i64 a, .int .i64 b, .int .i64 lo, .int .i64 hi, .int .i64 0, .int .i64 0, .int .i64 mn, .int .i64 md]] w fun e w' => e = .returned (.bool false) ∧ Below w.heap.size w w' := by
 go_enter Tryz.func28, Tryz.ntmps28
 go_wp2_with fail
 all_goals
  go_ret
  exact ⟨rfl, fr_alloc (fr_alloc (fr_alloc (fr_refl _) _) _) _⟩
set_option maxRecDepth 100000 in
set_option maxHeartbeats 16000000 in
theorem Note_some3 (A N : Option Addr) (n m c d : Nat) (k a b lo hi md : Int) (w : World) (r3 : (k != 3) = true) (hq : (md == 0) = false) :
  Calls Tryz.prog 28 #[.agg #[.slice A n c, .slice N m d], .agg #[.int .i64 k, .int .i64 a, .int .i64 b, .int .i64 lo, .int .i64 hi, .int .i64 0, .int .i64 0, .int .i64 0, .int .i64 md]] w fun e w' => e = .returned (.bool false) ∧ Below w.heap.size w w' := by
 go_enter Tryz.func28, Tryz.ntmps28
 go_wp2_with fail
 all_goals
  go_ret
  exact ⟨rfl, fr_alloc (fr_alloc (fr_alloc (fr_refl _) _) _) _⟩
set_option maxRecDepth 100000 in
set_option maxHeartbeats 16000000 in
theorem Note_0 (A N : Option Addr) (n m c d : Nat) (k a b lo hi : Int) (w : World) (h1 : k ≠ 1) (h2 : k ≠ 2) (h3 : k ≠ 3) (h4 : k ≠ 4) (h5 : k ≠ 5) :
  Calls Tryz.prog 28 #[.agg #[.slice A n c, .slice N m d], .agg #[.int .i64 k, .int .i64 a, .int .i64 b, .int .i64 lo, .int .i64 hi, .int .i64 0, .int .i64 0, .int .i64 0, .int .i64 0]] w fun e w' => e = .returned (.bool false) ∧ Below w.heap.size w w' := by
 have q1 : (k == 1) = false := beq_eq_false_iff_ne.2 h1
 have q2 : (k == 2) = false := beq_eq_false_iff_ne.2 h2
 have q3 : (k == 3) = false := beq_eq_false_iff_ne.2 h3
 have r3 : (k != 3) = true := bne_iff_ne.2 h3
 have q4 : (k == 4) = false := beq_eq_false_iff_ne.2 h4
 have q5 : (k == 5) = false := beq_eq_false_iff_ne.2 h5
 clear h1 h2 h3 h4 h5
 go_enter Tryz.func28, Tryz.ntmps28
 go_wp2_with fail
 all_goals
  go_ret
  exact ⟨rfl, fr_alloc (fr_alloc (fr_alloc (fr_refl _) _) _) _⟩
theorem rNote_is (A N : Option Addr) (n m c d : Nat) (x : Note) (hn : n ≤ 1000) (w : World) (b : Bool) (hb : noteB x n = b) :
  Calls Tryz.prog 28 #[.agg #[.slice A n c, .slice N m d], .agg x.cells.toArray] w fun e w' => e = .returned (.bool b) ∧ Below w.heap.size w w' := by
 subst hb
 obtain ⟨k, a, b, lo, hi, ln, ld, mn, md⟩ := x
 by_cases e3 : k = 3
 ·subst e3
  by_cases el : lo = 0
  ·subst el
   by_cases eh : hi = 0
   ·subst eh; exact Note_3a A N n m c d a b ln ld mn md hn w
   ·exact Note_3b A N n m c d a b hi ln ld mn md hn w (beq_eq_false_iff_ne.2 eh)
  ·exact Note_3c A N n m c d a b lo hi ln ld mn md hn w (beq_eq_false_iff_ne.2 el)
 have r3 : (k != 3) = true := bne_iff_ne.2 e3
 by_cases hq : ln = 0 ∧ ld = 0 ∧ mn = 0 ∧ md = 0
 ·obtain ⟨rfl, rfl, rfl, rfl⟩ := hq
  by_cases el : lo = 0
  ·subst el
   by_cases eh : hi = 0
   ·subst eh
    by_cases e1 : k = 1
    ·subst e1; exact Note_1a A N n m c d a b hn w
    by_cases e2 : k = 2
    ·subst e2; exact Note_2a A N n m c d a b hn w
    by_cases e4 : k = 4
    ·subst e4; exact Note_4a A N n m c d a b hn w
    by_cases e5 : k = 5
    ·subst e5; exact Note_5a A N n m c d a b hn w
    have hn : noteB ⟨k, a, b, 0, 0, 0, 0, 0, 0⟩ n = false := by unfold noteB; simp only; rw [if_neg e1, if_neg e2, if_neg e3, if_neg e4, if_neg e5]
    rw [hn]
    exact Note_0 A N n m c d k a b 0 0 w e1 e2 e3 e4 e5
   ·have eh' : (hi == 0) = false := beq_eq_false_iff_ne.2 eh
    by_cases e1 : k = 1
    ·subst e1; exact Note_1b A N n m c d a b hi hn w eh'
    by_cases e2 : k = 2
    ·subst e2; exact Note_2b A N n m c d a b hi hn w eh'
    by_cases e4 : k = 4
    ·subst e4; exact Note_4b A N n m c d a b hi hn w eh'
    by_cases e5 : k = 5
    ·subst e5; exact Note_5b A N n m c d a b hi hn w eh'
    have hn : noteB ⟨k, a, b, 0, hi, 0, 0, 0, 0⟩ n = false := by unfold noteB; simp only; rw [if_neg e1, if_neg e2, if_neg e3, if_neg e4, if_neg e5]
    rw [hn]
    exact Note_0 A N n m c d k a b 0 hi w e1 e2 e3 e4 e5
  ·have el' : (lo == 0) = false := beq_eq_false_iff_ne.2 el
   by_cases e1 : k = 1
   ·subst e1; exact Note_1c A N n m c d a b lo hi hn w el'
   by_cases e2 : k = 2
   ·subst e2; exact Note_2c A N n m c d a b lo hi hn w el'
   by_cases e4 : k = 4
   ·subst e4; exact Note_4c A N n m c d a b lo hi hn w el'
   by_cases e5 : k = 5
   ·subst e5; exact Note_5c A N n m c d a b lo hi hn w el'
   have hn : noteB ⟨k, a, b, lo, hi, 0, 0, 0, 0⟩ n = false := by unfold noteB; simp only; rw [if_neg e1, if_neg e2, if_neg e3, if_neg e4, if_neg e5]
   rw [hn]
   exact Note_0 A N n m c d k a b lo hi w e1 e2 e3 e4 e5
 ·have hB : noneB ⟨k, a, b, lo, hi, ln, ld, mn, md⟩ = false := by
   unfold noneB
   simp only
   exact Bool.eq_false_iff.2 (fun hc => hq (by simpa [and_assoc] using hc))
  have hN : noteB ⟨k, a, b, lo, hi, ln, ld, mn, md⟩ n = false := by
   unfold noteB
   rw [hB]
   simp only [Bool.false_and, if_neg e3, ite_self]
  rw [hN]
  by_cases f1 : ln = 0
  ·subst f1
   by_cases f2 : ld = 0
   ·subst f2
    by_cases f3 : mn = 0
    ·subst f3
     exact Note_some3 A N n m c d k a b lo hi md w r3 (beq_eq_false_iff_ne.2 (fun e => hq ⟨rfl, rfl, rfl, e⟩))
    ·exact Note_some2 A N n m c d k a b lo hi mn md w r3 (beq_eq_false_iff_ne.2 f3)
   ·exact Note_some1 A N n m c d k a b lo hi ld mn md w r3 (beq_eq_false_iff_ne.2 f2)
  ·exact Note_some0 A N n m c d k a b lo hi ln ld mn md w r3 (beq_eq_false_iff_ne.2 f1)
end Go.Proofs.YtfgghicdkcjdgaaGreatDoor
end
