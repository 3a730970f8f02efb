/- Walks: Letters, Like. -/
import Derived.Test.YthjblcboainknaaGreatDoorMB2
namespace Go.Proofs.YthjblcboainknaaGreatDoor
open Go.RowKit Dl

def let1 (e : Int) (cs : List Int) (y : Int) : Int := 7 - (wkd (firstDay e cs y) + 6) % 7
def let2 (e : Int) (cs : List Int) (y : Int) : Int := if leapB cs y = true then (let1 e cs y + 5) % 7 + 1 else let1 e cs y

set_option maxRecDepth 100000 in
set_option maxHeartbeats 2000000 in
theorem Letters_bad (A : Option Addr) (n c : Nat) (cs : List Int) (e y : Int) (w : World) (hr : Rd w A n cs) (hn : n ≤ 9223372036854775807) (hok : calOk e cs = false ∨ inB y 0 4000 = false) :
  Calls Tryz.prog 23 #[.agg #[.int .i64 e, .slice A n c], .int .i64 y] w fun e' w' =>
   e' = .returned (.tuple #[.int .i64 0, .int .i64 0, .int .i64 2]) ∧ Below w.heap.size w w' := by
 cases hc : calOk e cs
 ·go_enter Tryz.func23, Tryz.ntmps23
  go_wp2_with fail
  refine (isCalendar_is A n c cs e _ (hr.alloc _) hn _ hc).mono ?_
  rintro e' w1 ⟨rfl, hb1⟩
  go_wp2_with fail
  go_ret3
  exact ⟨rfl, fr_call (fr_alloc (fr_refl _) _) hb1⟩
 ·have hy : inB y 0 4000 = false := by
   rcases hok with h | h
   ·rw [hc] at h; cases h
   ·exact h
  go_enter Tryz.func23, Tryz.ntmps23
  go_wp2_with fail
  refine (isCalendar_is A n c cs e _ (hr.alloc _) hn _ hc).mono ?_
  rintro e' w1 ⟨rfl, hb1⟩
  go_wp2_with fail
  refine (isYear_is _ _ _ hy).mono ?_
  rintro e' w2 ⟨rfl, rfl⟩
  go_wp2_with fail
  go_ret3
  exact ⟨rfl, fr_call (fr_alloc (fr_refl _) _) hb1⟩

set_option maxRecDepth 100000 in
set_option maxHeartbeats 2000000 in
theorem Letters_ok (A : Option Addr) (n c : Nat) (cs : List Int) (e y : Int) (w : World) (hr : Rd w A n cs) (hn : n ≤ 9223372036854775807) (hok : calOk e cs = true) (hy : inB y 0 4000 = true) :
  Calls Tryz.prog 23 #[.agg #[.int .i64 e, .slice A n c], .int .i64 y] w fun e' w' =>
   e' = .returned (.tuple #[.int .i64 (let1 e cs y), .int .i64 (let2 e cs y), .int .i64 0]) ∧ Below w.heap.size w w' := by
 obtain ⟨he, ⟨hn1, hn2⟩, hpos⟩ := calOk_parts hok
 rw [hr.len] at hn1 hn2
 obtain ⟨hy1, hy2⟩ := inB_iff.1 hy
 have hy3 : y < 4002 := by omega
 have hr0 := hr.alloc (.cells #[.int .i64 e, .slice A n c] 24)
 have hfb := firstDay_bounds e cs y hy1
 unfold let2
 unfold let1
 cases hlp : leapB cs y
 all_goals
  simp only [Bool.false_eq_true, if_false, if_true]
  have HLP := Lib.hid hlp
  clear hlp
  generalize hfd : firstDay e cs y = fy at *
  have hwk : 0 ≤ wkd fy ∧ wkd fy ≤ 6 := by unfold wkd; omega
  generalize hwkd : wkd fy = wk at *
  have HFD := Lib.hid hfd
  have HWK := Lib.hid hwkd
  clear hfd hwkd
  go_enter Tryz.func23, Tryz.ntmps23
  go_wp2_with fail
  refine (isCalendar_is A n c cs e _ hr0 hn _ hok).mono ?_
  rintro e' w1 ⟨rfl, hb1⟩
  obtain ⟨hc_w1, hf_w1⟩ := bcell hb1
  have hz0_w1 : w.heap.size < w1.heap.size := Nat.lt_of_lt_of_le (by first | omega | (simp; done) | (simp; omega)) hb1.size
  go_wp2_with fail
  refine (isYear_is _ _ _ hy).mono ?_
  rintro e' w1' ⟨rfl, rfl⟩
  go_wp2_with fail
  refine (open_any A n c cs e 0 0 0 _ (hr0.keep hb1) hok).mono ?_
  rintro e' w2 ⟨F, fc, M, rfl, hF, hM1, hM2, hb2, _⟩
  obtain ⟨hc_w2, hf_w2⟩ := bcell hb2
  have hz0_w2 : w.heap.size < w2.heap.size := Nat.lt_of_lt_of_le (by first | omega | (simp; done) | (simp; omega)) hb2.size
  have hr2 := (hr0.keep hb1).keep hb2
  have hfr := fr_call (fr_call (fr_alloc (fr_refl w) (.cells #[.int .i64 e, .slice A n c] 24)) hb1) hb2
  obtain ⟨ad, rfl, hab, hfc⟩ := fst_at (hF.alloc (.cells #[.int .i64 e, .slice A n c, .int .i64 0, .int .i64 0, .int .i64 0, .slice F 4002 fc, .map (some M)] 89)) hy1 (by omega)
  rw [HFD.out] at hfc
  clear hF
  go_wp2_with fail
  refine (weekday_any _ _ (by omega) (by omega)).mono ?_
  rw [HWK.out]
  rintro e' w2' ⟨rfl, rfl⟩
  go_wp2_with fail
  refine (leap_any A n c cs _ _ _ _ _ _ y _ (hr2.alloc _) hn2 hpos hy1 (by omega)).mono ?_
  rw [HLP.out]
  rintro e' w3 ⟨rfl, hb3⟩
  go_wp2_with fail
  go_ret3
  exact ⟨rfl, fr_call (fr_alloc hfr _) hb3⟩

def likeB (e : Int) (cs : List Int) (y z : Int) : Bool := (leapB cs z == leapB cs y) && (wkd (firstDay e cs z) == wkd (firstDay e cs y))
/-- the first year after y that is like y -/
def likeGo (e : Int) (cs : List Int) (y : Int) : Nat → Int → Option Int
 | 0, _ => none
 | f + 1, z => if likeB e cs y z = true then some z else likeGo e cs y f (z + 1)
def likeOf (e : Int) (cs : List Int) (y : Int) : Option Int := likeGo e cs y (4000 - y).toNat (y + 1)
/-- what Like returns -/
def likeV (o : Option Int) : Value := match o with | some z => .tuple #[.int .i64 z, .int .i64 0] | none => .tuple #[.int .i64 0, .int .i64 5]

set_option maxRecDepth 100000 in
set_option maxHeartbeats 2000000 in
theorem Like_bad (A : Option Addr) (n c : Nat) (cs : List Int) (e y : Int) (w : World) (hr : Rd w A n cs) (hn : n ≤ 9223372036854775807) (hok : calOk e cs = false ∨ inB y 0 4000 = false) :
  Calls Tryz.prog 24 #[.agg #[.int .i64 e, .slice A n c], .int .i64 y] w fun e' w' =>
   e' = .returned (.tuple #[.int .i64 0, .int .i64 2]) ∧ Below w.heap.size w w' := by
 cases hc : calOk e cs
 ·go_enter Tryz.func24, Tryz.ntmps24
  go_wp2_with fail
  refine (isCalendar_is A n c cs e _ (hr.alloc _) hn _ hc).mono ?_
  rintro e' w1 ⟨rfl, hb1⟩
  go_wp2_with fail
  go_ret2
  exact ⟨rfl, fr_call (fr_alloc (fr_refl _) _) hb1⟩
 ·have hy : inB y 0 4000 = false := by
   rcases hok with h | h
   ·rw [hc] at h; cases h
   ·exact h
  go_enter Tryz.func24, Tryz.ntmps24
  go_wp2_with fail
  refine (isCalendar_is A n c cs e _ (hr.alloc _) hn _ hc).mono ?_
  rintro e' w1 ⟨rfl, hb1⟩
  go_wp2_with fail
  refine (isYear_is _ _ _ hy).mono ?_
  rintro e' w2 ⟨rfl, rfl⟩
  go_wp2_with fail
  go_ret2
  exact ⟨rfl, fr_call (fr_alloc (fr_refl _) _) hb1⟩

set_option maxRecDepth 100000 in
set_option maxHeartbeats 4000000 in
theorem Like_ok (A : Option Addr) (n c : Nat) (cs : List Int) (e y : Int) (w : World) (hr : Rd w A n cs) (hn : n ≤ 9223372036854775807) (hok : calOk e cs = true) (hy : inB y 0 4000 = true) :
  Calls Tryz.prog 24 #[.agg #[.int .i64 e, .slice A n c], .int .i64 y] w fun e' w' =>
   e' = .returned (likeV (likeOf e cs y)) ∧ Below w.heap.size w w' := by
 obtain ⟨he, ⟨hn1, hn2⟩, hpos⟩ := calOk_parts hok
 rw [hr.len] at hn1 hn2
 obtain ⟨hy1, hy2⟩ := inB_iff.1 hy
 have hy3 : y < 4002 := by omega
 have hr0 := hr.alloc (.cells #[.int .i64 e, .slice A n c] 24)
 have hfb := firstDay_bounds e cs y hy1
 go_enter Tryz.func24, Tryz.ntmps24
 go_wp2_with fail
 refine (isCalendar_is A n c cs e _ hr0 hn _ hok).mono ?_
 rintro e' w1 ⟨rfl, hb1⟩
 obtain ⟨hc_w1, hf_w1⟩ := bcell hb1
 have hz0_w1 : w.heap.size < w1.heap.size := Nat.lt_of_lt_of_le (by first | omega | (simp; done) | (simp; omega)) hb1.size
 go_wp2_with fail
 refine (isYear_is _ _ _ hy).mono ?_
 rintro e' w1' ⟨rfl, rfl⟩
 go_wp2_with fail
 refine (open_any A n c cs e 0 0 0 _ (hr0.keep hb1) hok).mono ?_
 rintro e' w2 ⟨F, fc, M, rfl, hF, hM1, hM2, hb2, _⟩
 obtain ⟨hc_w2, hf_w2⟩ := bcell hb2
 have hz0_w2 : w.heap.size < w2.heap.size := Nat.lt_of_lt_of_le (by first | omega | (simp; done) | (simp; omega)) hb2.size
 have hr2 := (hr0.keep hb1).keep hb2
 have hfr := fr_call (fr_call (fr_alloc (fr_refl w) (.cells #[.int .i64 e, .slice A n c] 24)) hb1) hb2
 go_wp2_with fail
 clear hc_w1 hf_w1 hc_w2 hf_w2 hb1 hM2
 have hfr3 := fr_alloc hfr (.cells #[.int .i64 e, .slice A n c, .int .i64 0, .int .i64 0, .int .i64 0, .slice F 4002 fc, .map (some M)] 89)
 have hr3 := hr2.alloc (.cells #[.int .i64 e, .slice A n c, .int .i64 0, .int .i64 0, .int .i64 0, .slice F 4002 fc, .map (some M)] 89)
 have hF3 := hF.alloc (.cells #[.int .i64 e, .slice A n c, .int .i64 0, .int .i64 0, .int .i64 0, .slice F 4002 fc, .map (some M)] 89)
 have hB3 := Blk.new w2 89 #[.int .i64 e, .slice A n c, .int .i64 0, .int .i64 0, .int .i64 0, .slice F 4002 fc, .map (some M)]
 generalize w2.alloc (.cells #[.int .i64 e, .slice A n c, .int .i64 0, .int .i64 0, .int .i64 0, .slice F 4002 fc, .map (some M)] 89) = w3 at *
 generalize hg : w2.heap.size = g at *
 go_loopw [7] (fun i wr => ∃ z : Int, y + 1 ≤ z ∧ z ≤ 4001 ∧ i = .int .i64 z ∧ likeOf e cs y = likeGo e cs y (4001 - z).toNat z ∧
   Blk wr g 89 #[.int .i64 e, .slice A n c, .int .i64 0, .int .i64 0, .int .i64 0, .slice F 4002 fc, .map (some M)] ∧ Rd wr A n cs ∧ Rd wr F 4002 (firsts e cs) ∧ Below w.heap.size w wr)
  (fun i _ => (4001 - intOf i).toNat)
 case atStart => exact ⟨y + 1, by omega, by omega, rfl, by unfold likeOf; rw [show (4000 - y).toNat = (4001 - (y + 1)).toNat by omega], hB3, hr3, hF3, hfr3⟩
 case round =>
  clear hB3 hr3 hF3 hfr3 hr0 hr2 hF hfr
  obtain ⟨z, hz1, hz2, rfl, hgo, hBr, hrr, hFr, hbel⟩ := hrel
  have HG := Lib.hid hgo
  clear hgo
  by_cases hlt : z ≤ 4000
  ·obtain ⟨ad, rfl, hab, hfz⟩ := fst_at hFr (y := z) (by omega) (by omega)
   obtain ⟨ad', e1, _, hfy⟩ := fst_at hFr (y := y) (by omega) (by omega)
   cases e1
   have hcB := fun j => hBr.cell j
   have hgl := hBr.lt
   have hzN : (ad.add z.toNat).block < wr.heap.size := by rw [block_of_add]; exact hab
   have hyN : (ad.add y.toNat).block < wr.heap.size := by rw [block_of_add]; exact hab
   have hfbz := firstDay_bounds e cs z (by omega)
   have hz3 : z < 4002 := by omega
   have hz0 : 0 ≤ z := by omega
   generalize gz : firstDay e cs z = fz at *
   generalize gy : firstDay e cs y = fy at *
   have FZ := Lib.hid gz
   have FY := Lib.hid gy
   clear gz gy
   obtain ⟨wz, gwz⟩ : ∃ q, wkd fz = q := ⟨_, rfl⟩
   obtain ⟨wy, gwy⟩ : ∃ q, wkd fy = q := ⟨_, rfl⟩
   have W1 := Lib.hid gwz
   have W2 := Lib.hid gwy
   clear gwz gwy
   have hcase : (∃ b, leapB cs z = b ∧ leapB cs y = b) ∨ (∃ b, leapB cs z = b ∧ leapB cs y = !b) := by
    cases leapB cs z <;> cases leapB cs y <;> simp
   rcases hcase with ⟨b, l1, l2⟩ | ⟨b, l1, l2⟩
   ·have L1 := Lib.hid l1
    have L2 := Lib.hid l2
    clear l1 l2
    by_cases hw : (wz == wy) = true
    ·cases b
     all_goals
      go_wp2_with fail
      refine wp_region_noPanic ?_
      refine wp_region_held_drew (S := fun W => (∀ p : Addr, p.block < (wr).heap.size → W.cell? p = (wr).cell? p) ∧ Below (wr).heap.size (wr) W) (by kernel_rfl) ⟨fun _ _ => rfl, fr_drew (fr_refl _)⟩ (fun hHeld => ?_)
      -- the region, step by step
      refine wpAnyH_take (i := 0) (oi := ⟨some 25, .load 89 (.tmp 6), 89, "dial.go:192", #[], none⟩) (v := ?_) rfl (by kernel_rfl) (by kernel_rfl) (by kernel_rfl) (fun _ _ _ h => h) (Or.inl ⟨by rfl, fun W hSw => ?_⟩) hHeld ?_
      rotate_left
      ·(try dsimp only at hSw); go_simp; (try with_reducible rfl)
      (try simp only [Act.put, List.setIfInBounds_toArray, List.set_cons_zero, List.set_cons_succ])
      refine wpAnyH_take (i := 1) (oi := ⟨some 26, .move (.tmp 7), 3, "dial.go:192", #[], none⟩) (v := ?_) rfl (by kernel_rfl) (by kernel_rfl) (by kernel_rfl) (fun _ _ _ h => h) (Or.inl ⟨by rfl, fun W hSw => ?_⟩) hHeld ?_
      rotate_left
      ·(try dsimp only at hSw); go_simp; (try with_reducible rfl)
      (try simp only [Act.put, List.setIfInBounds_toArray, List.set_cons_zero, List.set_cons_succ])
      refine wpAnyH_take (i := 3) (oi := ⟨some 28, .load 89 (.tmp 6), 89, "dial.go:192", #[], none⟩) (v := ?_) rfl (by kernel_rfl) (by kernel_rfl) (by kernel_rfl) (fun _ _ _ h => h) (Or.inl ⟨by rfl, fun W hSw => ?_⟩) hHeld ?_
      rotate_left
      ·(try dsimp only at hSw); go_simp; (try with_reducible rfl)
      (try simp only [Act.put, List.setIfInBounds_toArray, List.set_cons_zero, List.set_cons_succ])
      refine wpAnyH_take (i := 4) (oi := ⟨some 29, .move (.tmp 1), 3, "dial.go:192", #[], none⟩) (v := ?_) rfl (by kernel_rfl) (by kernel_rfl) (by kernel_rfl) (fun _ _ _ h => h) (Or.inl ⟨by rfl, fun W hSw => ?_⟩) hHeld ?_
      rotate_left
      ·(try dsimp only at hSw); go_simp; (try with_reducible rfl)
      (try simp only [Act.put, List.setIfInBounds_toArray, List.set_cons_zero, List.set_cons_succ])
      refine wpAnyH_ready (rs := [2]) (by kernel_rfl) (by simp) ?_
      refine AllReadyH.cons (o := ⟨some 27, .call { callee := .value (.func 60), args := #[.tmp 25, .tmp 26], argTypes := #[89, 3] }, 4, "dial.go:192", #[⟨0, .data⟩, ⟨1, .data⟩], none⟩) rfl (fun K hK => ?_) AllReadyH.nil
      go_simp
      refine (leap_any A n c cs _ _ _ _ _ _ z _ (hrr.keep hHeld.2) hn2 hpos (by omega) (by omega)).mono ?_
      rw [L1.out]
      rintro e' w4 ⟨rfl, hb4⟩
      refine hK.out _ _ (kp_step hb4 hHeld) (fun hHeld => ?_)
      clear hK K
      (try simp only [Act.put, List.setIfInBounds_toArray, List.set_cons_zero, List.set_cons_succ])
      refine wpAnyH_ready (rs := [5]) (by kernel_rfl) (by simp) ?_
      refine AllReadyH.cons (o := ⟨some 30, .call { callee := .value (.func 60), args := #[.tmp 28, .tmp 29], argTypes := #[89, 3] }, 4, "dial.go:192", #[⟨3, .data⟩, ⟨4, .data⟩, ⟨2, .chain⟩], none⟩) rfl (fun K hK => ?_) AllReadyH.nil
      go_simp
      refine (leap_any A n c cs _ _ _ _ _ _ y _ (hrr.keep hHeld.2) hn2 hpos (by omega) (by omega)).mono ?_
      rw [L2.out]
      rintro e' w5 ⟨rfl, hb5⟩
      refine hK.out _ _ (kp_step hb5 hHeld) (fun hHeld => ?_)
      clear hK K
      (try simp only [Act.put, List.setIfInBounds_toArray, List.set_cons_zero, List.set_cons_succ])
      refine wpAnyH_take (i := 6) (oi := ⟨some 31, .binOp .eql 4 (.tmp 27) (.tmp 30) 4, 4, "dial.go:192", #[⟨2, .data⟩, ⟨5, .data⟩], none⟩) (v := ?_) rfl (by kernel_rfl) (by kernel_rfl) (by kernel_rfl) (fun _ _ _ h => h) (Or.inl ⟨by rfl, fun W hSw => ?_⟩) hHeld ?_
      rotate_left
      ·(try dsimp only at hSw); go_simp; (try with_reducible rfl)
      (try simp only [Act.put, List.setIfInBounds_toArray, List.set_cons_zero, List.set_cons_succ])
      refine wpAnyH_take (i := 7) (oi := ⟨some 32, .move (.tmp 31), 4, "dial.go:192", #[⟨6, .data⟩, ⟨5, .chain⟩], none⟩) (v := ?_) rfl (by kernel_rfl) (by kernel_rfl) (by kernel_rfl) (fun _ _ _ h => h) (Or.inl ⟨by rfl, fun W hSw => ?_⟩) hHeld ?_
      rotate_left
      ·(try dsimp only at hSw); go_simp; (try with_reducible rfl)
      (try simp only [Act.put, List.setIfInBounds_toArray, List.set_cons_zero, List.set_cons_succ])
      refine wpAnyH_take (i := 8) (oi := ⟨some 33, .fieldAddr 89 (.tmp 6) 2, 0, "dial.go:192", #[⟨7, .guard⟩], some (7, true)⟩) (v := ?_) rfl (by kernel_rfl) (by kernel_rfl) (by kernel_rfl) (fun _ _ _ h => h) (Or.inl ⟨by rfl, fun W hSw => ?_⟩) hHeld ?_
      rotate_left
      ·(try dsimp only at hSw); go_simp; (try with_reducible rfl)
      (try simp only [Act.put, List.setIfInBounds_toArray, List.set_cons_zero, List.set_cons_succ])
      refine wpAnyH_take (i := 9) (oi := ⟨some 34, .load 22 (.tmp 33), 22, "dial.go:192", #[⟨8, .data⟩, ⟨7, .guard⟩], some (7, true)⟩) (v := ?_) rfl (by kernel_rfl) (by kernel_rfl) (by kernel_rfl) (fun _ _ _ h => h) (Or.inl ⟨by rfl, fun W hSw => ?_⟩) hHeld ?_
      rotate_left
      ·(try dsimp only at hSw); go_simp; (try with_reducible rfl)
      (try simp only [Act.put, List.setIfInBounds_toArray, List.set_cons_zero, List.set_cons_succ])
      refine wpAnyH_take (i := 10) (oi := ⟨some 35, .move (.tmp 7), 3, "dial.go:192", #[⟨7, .guard⟩], some (7, true)⟩) (v := ?_) rfl (by kernel_rfl) (by kernel_rfl) (by kernel_rfl) (fun _ _ _ h => h) (Or.inl ⟨by rfl, fun W hSw => ?_⟩) hHeld ?_
      rotate_left
      ·(try dsimp only at hSw); go_simp; (try with_reducible rfl)
      (try simp only [Act.put, List.setIfInBounds_toArray, List.set_cons_zero, List.set_cons_succ])
      refine wpAnyH_take (i := 11) (oi := ⟨some 36, .indexAddr 22 (.tmp 34) (.tmp 35), 0, "dial.go:192", #[⟨9, .data⟩, ⟨10, .data⟩, ⟨7, .guard⟩], some (7, true)⟩) (v := ?_) rfl (by kernel_rfl) (by kernel_rfl) (by kernel_rfl) (fun _ _ _ h => h) (Or.inl ⟨by rfl, fun W hSw => ?_⟩) hHeld ?_
      rotate_left
      ·(try dsimp only at hSw); go_simp; (try with_reducible rfl)
      (try simp only [Act.put, List.setIfInBounds_toArray, List.set_cons_zero, List.set_cons_succ])
      refine wpAnyH_take (i := 12) (oi := ⟨some 37, .load 3 (.tmp 36), 3, "dial.go:192", #[⟨11, .data⟩, ⟨7, .guard⟩], some (7, true)⟩) (v := ?_) rfl (by kernel_rfl) (by kernel_rfl) (by kernel_rfl) (fun _ _ _ h => h) (Or.inl ⟨by rfl, fun W hSw => ?_⟩) hHeld ?_
      rotate_left
      ·(try dsimp only at hSw); go_simp; (try with_reducible rfl)
      (try simp only [Act.put, List.setIfInBounds_toArray, List.set_cons_zero, List.set_cons_succ])
      refine wpAnyH_take (i := 14) (oi := ⟨some 39, .fieldAddr 89 (.tmp 6) 2, 0, "dial.go:192", #[⟨7, .guard⟩], some (7, true)⟩) (v := ?_) rfl (by kernel_rfl) (by kernel_rfl) (by kernel_rfl) (fun _ _ _ h => h) (Or.inl ⟨by rfl, fun W hSw => ?_⟩) hHeld ?_
      rotate_left
      ·(try dsimp only at hSw); go_simp; (try with_reducible rfl)
      (try simp only [Act.put, List.setIfInBounds_toArray, List.set_cons_zero, List.set_cons_succ])
      refine wpAnyH_take (i := 15) (oi := ⟨some 40, .load 22 (.tmp 39), 22, "dial.go:192", #[⟨14, .data⟩, ⟨7, .guard⟩], some (7, true)⟩) (v := ?_) rfl (by kernel_rfl) (by kernel_rfl) (by kernel_rfl) (fun _ _ _ h => h) (Or.inl ⟨by rfl, fun W hSw => ?_⟩) hHeld ?_
      rotate_left
      ·(try dsimp only at hSw); go_simp; (try with_reducible rfl)
      (try simp only [Act.put, List.setIfInBounds_toArray, List.set_cons_zero, List.set_cons_succ])
      refine wpAnyH_take (i := 16) (oi := ⟨some 41, .move (.tmp 1), 3, "dial.go:192", #[⟨7, .guard⟩], some (7, true)⟩) (v := ?_) rfl (by kernel_rfl) (by kernel_rfl) (by kernel_rfl) (fun _ _ _ h => h) (Or.inl ⟨by rfl, fun W hSw => ?_⟩) hHeld ?_
      rotate_left
      ·(try dsimp only at hSw); go_simp; (try with_reducible rfl)
      (try simp only [Act.put, List.setIfInBounds_toArray, List.set_cons_zero, List.set_cons_succ])
      refine wpAnyH_take (i := 17) (oi := ⟨some 42, .indexAddr 22 (.tmp 40) (.tmp 41), 0, "dial.go:192", #[⟨15, .data⟩, ⟨16, .data⟩, ⟨7, .guard⟩], some (7, true)⟩) (v := ?_) rfl (by kernel_rfl) (by kernel_rfl) (by kernel_rfl) (fun _ _ _ h => h) (Or.inl ⟨by rfl, fun W hSw => ?_⟩) hHeld ?_
      rotate_left
      ·(try dsimp only at hSw); go_simp; (try with_reducible rfl)
      (try simp only [Act.put, List.setIfInBounds_toArray, List.set_cons_zero, List.set_cons_succ])
      refine wpAnyH_take (i := 18) (oi := ⟨some 43, .load 3 (.tmp 42), 3, "dial.go:192", #[⟨17, .data⟩, ⟨7, .guard⟩], some (7, true)⟩) (v := ?_) rfl (by kernel_rfl) (by kernel_rfl) (by kernel_rfl) (fun _ _ _ h => h) (Or.inl ⟨by rfl, fun W hSw => ?_⟩) hHeld ?_
      rotate_left
      ·(try dsimp only at hSw); go_simp; (try with_reducible rfl)
      (try simp only [Act.put, List.setIfInBounds_toArray, List.set_cons_zero, List.set_cons_succ])
      refine wpAnyH_ready (rs := [13]) (by kernel_rfl) (by simp) ?_
      refine AllReadyH.cons (o := ⟨some 38, .call { callee := .value (.func 59), args := #[.tmp 37], argTypes := #[3] }, 3, "dial.go:192", #[⟨12, .data⟩, ⟨7, .chain⟩, ⟨7, .guard⟩], some (7, true)⟩) rfl (fun K hK => ?_) AllReadyH.nil
      go_simp
      refine (weekday_any _ _ (by omega) (by omega)).mono ?_
      rw [W1.out]
      rintro e' w6 ⟨rfl, rfl⟩
      refine hK.out _ _ (hHeld) (fun hHeld => ?_)
      clear hK K
      (try simp only [Act.put, List.setIfInBounds_toArray, List.set_cons_zero, List.set_cons_succ])
      refine wpAnyH_ready (rs := [19]) (by kernel_rfl) (by simp) ?_
      refine AllReadyH.cons (o := ⟨some 44, .call { callee := .value (.func 59), args := #[.tmp 43], argTypes := #[3] }, 3, "dial.go:192", #[⟨18, .data⟩, ⟨13, .chain⟩, ⟨7, .guard⟩], some (7, true)⟩) rfl (fun K hK => ?_) AllReadyH.nil
      go_simp
      refine (weekday_any _ _ (by omega) (by omega)).mono ?_
      rw [W2.out]
      rintro e' w6 ⟨rfl, rfl⟩
      refine hK.out _ _ (hHeld) (fun hHeld => ?_)
      clear hK K
      (try simp only [Act.put, List.setIfInBounds_toArray, List.set_cons_zero, List.set_cons_succ])
      refine wpAnyH_take (i := 20) (oi := ⟨some 45, .binOp .eql 3 (.tmp 38) (.tmp 44) 3, 4, "dial.go:192", #[⟨13, .data⟩, ⟨19, .data⟩, ⟨7, .guard⟩], some (7, true)⟩) (v := ?_) rfl (by kernel_rfl) (by kernel_rfl) (by kernel_rfl) (fun _ _ _ h => h) (Or.inl ⟨by rfl, fun W hSw => ?_⟩) hHeld ?_
      rotate_left
      ·(try dsimp only at hSw); go_simp; (try with_reducible rfl)
      (try simp only [Act.put, List.setIfInBounds_toArray, List.set_cons_zero, List.set_cons_succ])
      refine wpAnyH_take (i := 21) (oi := ⟨some 46, .pick (.tmp 32) (.tmp 45) (.const (.bool false)), 4, "dial.go:192", #[⟨7, .data⟩, ⟨20, .data⟩], none⟩) (v := ?_) rfl (by kernel_rfl) (by kernel_rfl) (by kernel_rfl) (fun _ _ _ h => h) (Or.inl ⟨by rfl, fun W hSw => ?_⟩) hHeld ?_
      rotate_left
      ·(try dsimp only at hSw); go_simp; (try with_reducible rfl)
      (try simp only [Act.put, List.setIfInBounds_toArray, List.set_cons_zero, List.set_cons_succ])
      refine wpAnyH_done (by kernel_rfl) ?_ _
      refine NoPanic.normal ?_
      have hbel5 := fr_call hbel hHeld.2
      have hrr5 := hrr.keep hHeld.2
      have hFr5 := hFr.keep hHeld.2
      have hBr5 := hBr.keep hHeld.2
      clear hHeld
      go_wp2
      go_ret2
      refine ⟨?_, hbel5⟩
      rw [HG.out, show (4001 - z).toNat = (4001 - (z + 1)).toNat + 1 by omega, likeGo, if_pos (by unfold likeB; rw [L1.out, L2.out, FZ.out, FY.out, W1.out, W2.out]; simp [hw])]
      rfl
    ·have hw2 : (wz == wy) = false := by simpa using hw
     clear hw
     cases b
     all_goals
      go_wp2_with fail
      refine wp_region_noPanic ?_
      refine wp_region_held_drew (S := fun W => (∀ p : Addr, p.block < (wr).heap.size → W.cell? p = (wr).cell? p) ∧ Below (wr).heap.size (wr) W) (by kernel_rfl) ⟨fun _ _ => rfl, fr_drew (fr_refl _)⟩ (fun hHeld => ?_)
      -- the region, step by step
      refine wpAnyH_take (i := 0) (oi := ⟨some 25, .load 89 (.tmp 6), 89, "dial.go:192", #[], none⟩) (v := ?_) rfl (by kernel_rfl) (by kernel_rfl) (by kernel_rfl) (fun _ _ _ h => h) (Or.inl ⟨by rfl, fun W hSw => ?_⟩) hHeld ?_
      rotate_left
      ·(try dsimp only at hSw); go_simp; (try with_reducible rfl)
      (try simp only [Act.put, List.setIfInBounds_toArray, List.set_cons_zero, List.set_cons_succ])
      refine wpAnyH_take (i := 1) (oi := ⟨some 26, .move (.tmp 7), 3, "dial.go:192", #[], none⟩) (v := ?_) rfl (by kernel_rfl) (by kernel_rfl) (by kernel_rfl) (fun _ _ _ h => h) (Or.inl ⟨by rfl, fun W hSw => ?_⟩) hHeld ?_
      rotate_left
      ·(try dsimp only at hSw); go_simp; (try with_reducible rfl)
      (try simp only [Act.put, List.setIfInBounds_toArray, List.set_cons_zero, List.set_cons_succ])
      refine wpAnyH_take (i := 3) (oi := ⟨some 28, .load 89 (.tmp 6), 89, "dial.go:192", #[], none⟩) (v := ?_) rfl (by kernel_rfl) (by kernel_rfl) (by kernel_rfl) (fun _ _ _ h => h) (Or.inl ⟨by rfl, fun W hSw => ?_⟩) hHeld ?_
      rotate_left
      ·(try dsimp only at hSw); go_simp; (try with_reducible rfl)
      (try simp only [Act.put, List.setIfInBounds_toArray, List.set_cons_zero, List.set_cons_succ])
      refine wpAnyH_take (i := 4) (oi := ⟨some 29, .move (.tmp 1), 3, "dial.go:192", #[], none⟩) (v := ?_) rfl (by kernel_rfl) (by kernel_rfl) (by kernel_rfl) (fun _ _ _ h => h) (Or.inl ⟨by rfl, fun W hSw => ?_⟩) hHeld ?_
      rotate_left
      ·(try dsimp only at hSw); go_simp; (try with_reducible rfl)
      (try simp only [Act.put, List.setIfInBounds_toArray, List.set_cons_zero, List.set_cons_succ])
      refine wpAnyH_ready (rs := [2]) (by kernel_rfl) (by simp) ?_
      refine AllReadyH.cons (o := ⟨some 27, .call { callee := .value (.func 60), args := #[.tmp 25, .tmp 26], argTypes := #[89, 3] }, 4, "dial.go:192", #[⟨0, .data⟩, ⟨1, .data⟩], none⟩) rfl (fun K hK => ?_) AllReadyH.nil
      go_simp
      refine (leap_any A n c cs _ _ _ _ _ _ z _ (hrr.keep hHeld.2) hn2 hpos (by omega) (by omega)).mono ?_
      rw [L1.out]
      rintro e' w4 ⟨rfl, hb4⟩
      refine hK.out _ _ (kp_step hb4 hHeld) (fun hHeld => ?_)
      clear hK K
      (try simp only [Act.put, List.setIfInBounds_toArray, List.set_cons_zero, List.set_cons_succ])
      refine wpAnyH_ready (rs := [5]) (by kernel_rfl) (by simp) ?_
      refine AllReadyH.cons (o := ⟨some 30, .call { callee := .value (.func 60), args := #[.tmp 28, .tmp 29], argTypes := #[89, 3] }, 4, "dial.go:192", #[⟨3, .data⟩, ⟨4, .data⟩, ⟨2, .chain⟩], none⟩) rfl (fun K hK => ?_) AllReadyH.nil
      go_simp
      refine (leap_any A n c cs _ _ _ _ _ _ y _ (hrr.keep hHeld.2) hn2 hpos (by omega) (by omega)).mono ?_
      rw [L2.out]
      rintro e' w5 ⟨rfl, hb5⟩
      refine hK.out _ _ (kp_step hb5 hHeld) (fun hHeld => ?_)
      clear hK K
      (try simp only [Act.put, List.setIfInBounds_toArray, List.set_cons_zero, List.set_cons_succ])
      refine wpAnyH_take (i := 6) (oi := ⟨some 31, .binOp .eql 4 (.tmp 27) (.tmp 30) 4, 4, "dial.go:192", #[⟨2, .data⟩, ⟨5, .data⟩], none⟩) (v := ?_) rfl (by kernel_rfl) (by kernel_rfl) (by kernel_rfl) (fun _ _ _ h => h) (Or.inl ⟨by rfl, fun W hSw => ?_⟩) hHeld ?_
      rotate_left
      ·(try dsimp only at hSw); go_simp; (try with_reducible rfl)
      (try simp only [Act.put, List.setIfInBounds_toArray, List.set_cons_zero, List.set_cons_succ])
      refine wpAnyH_take (i := 7) (oi := ⟨some 32, .move (.tmp 31), 4, "dial.go:192", #[⟨6, .data⟩, ⟨5, .chain⟩], none⟩) (v := ?_) rfl (by kernel_rfl) (by kernel_rfl) (by kernel_rfl) (fun _ _ _ h => h) (Or.inl ⟨by rfl, fun W hSw => ?_⟩) hHeld ?_
      rotate_left
      ·(try dsimp only at hSw); go_simp; (try with_reducible rfl)
      (try simp only [Act.put, List.setIfInBounds_toArray, List.set_cons_zero, List.set_cons_succ])
      refine wpAnyH_take (i := 8) (oi := ⟨some 33, .fieldAddr 89 (.tmp 6) 2, 0, "dial.go:192", #[⟨7, .guard⟩], some (7, true)⟩) (v := ?_) rfl (by kernel_rfl) (by kernel_rfl) (by kernel_rfl) (fun _ _ _ h => h) (Or.inl ⟨by rfl, fun W hSw => ?_⟩) hHeld ?_
      rotate_left
      ·(try dsimp only at hSw); go_simp; (try with_reducible rfl)
      (try simp only [Act.put, List.setIfInBounds_toArray, List.set_cons_zero, List.set_cons_succ])
      refine wpAnyH_take (i := 9) (oi := ⟨some 34, .load 22 (.tmp 33), 22, "dial.go:192", #[⟨8, .data⟩, ⟨7, .guard⟩], some (7, true)⟩) (v := ?_) rfl (by kernel_rfl) (by kernel_rfl) (by kernel_rfl) (fun _ _ _ h => h) (Or.inl ⟨by rfl, fun W hSw => ?_⟩) hHeld ?_
      rotate_left
      ·(try dsimp only at hSw); go_simp; (try with_reducible rfl)
      (try simp only [Act.put, List.setIfInBounds_toArray, List.set_cons_zero, List.set_cons_succ])
      refine wpAnyH_take (i := 10) (oi := ⟨some 35, .move (.tmp 7), 3, "dial.go:192", #[⟨7, .guard⟩], some (7, true)⟩) (v := ?_) rfl (by kernel_rfl) (by kernel_rfl) (by kernel_rfl) (fun _ _ _ h => h) (Or.inl ⟨by rfl, fun W hSw => ?_⟩) hHeld ?_
      rotate_left
      ·(try dsimp only at hSw); go_simp; (try with_reducible rfl)
      (try simp only [Act.put, List.setIfInBounds_toArray, List.set_cons_zero, List.set_cons_succ])
      refine wpAnyH_take (i := 11) (oi := ⟨some 36, .indexAddr 22 (.tmp 34) (.tmp 35), 0, "dial.go:192", #[⟨9, .data⟩, ⟨10, .data⟩, ⟨7, .guard⟩], some (7, true)⟩) (v := ?_) rfl (by kernel_rfl) (by kernel_rfl) (by kernel_rfl) (fun _ _ _ h => h) (Or.inl ⟨by rfl, fun W hSw => ?_⟩) hHeld ?_
      rotate_left
      ·(try dsimp only at hSw); go_simp; (try with_reducible rfl)
      (try simp only [Act.put, List.setIfInBounds_toArray, List.set_cons_zero, List.set_cons_succ])
      refine wpAnyH_take (i := 12) (oi := ⟨some 37, .load 3 (.tmp 36), 3, "dial.go:192", #[⟨11, .data⟩, ⟨7, .guard⟩], some (7, true)⟩) (v := ?_) rfl (by kernel_rfl) (by kernel_rfl) (by kernel_rfl) (fun _ _ _ h => h) (Or.inl ⟨by rfl, fun W hSw => ?_⟩) hHeld ?_
      rotate_left
      ·(try dsimp only at hSw); go_simp; (try with_reducible rfl)
      (try simp only [Act.put, List.setIfInBounds_toArray, List.set_cons_zero, List.set_cons_succ])
      refine wpAnyH_take (i := 14) (oi := ⟨some 39, .fieldAddr 89 (.tmp 6) 2, 0, "dial.go:192", #[⟨7, .guard⟩], some (7, true)⟩) (v := ?_) rfl (by kernel_rfl) (by kernel_rfl) (by kernel_rfl) (fun _ _ _ h => h) (Or.inl ⟨by rfl, fun W hSw => ?_⟩) hHeld ?_
      rotate_left
      ·(try dsimp only at hSw); go_simp; (try with_reducible rfl)
      (try simp only [Act.put, List.setIfInBounds_toArray, List.set_cons_zero, List.set_cons_succ])
      refine wpAnyH_take (i := 15) (oi := ⟨some 40, .load 22 (.tmp 39), 22, "dial.go:192", #[⟨14, .data⟩, ⟨7, .guard⟩], some (7, true)⟩) (v := ?_) rfl (by kernel_rfl) (by kernel_rfl) (by kernel_rfl) (fun _ _ _ h => h) (Or.inl ⟨by rfl, fun W hSw => ?_⟩) hHeld ?_
      rotate_left
      ·(try dsimp only at hSw); go_simp; (try with_reducible rfl)
      (try simp only [Act.put, List.setIfInBounds_toArray, List.set_cons_zero, List.set_cons_succ])
      refine wpAnyH_take (i := 16) (oi := ⟨some 41, .move (.tmp 1), 3, "dial.go:192", #[⟨7, .guard⟩], some (7, true)⟩) (v := ?_) rfl (by kernel_rfl) (by kernel_rfl) (by kernel_rfl) (fun _ _ _ h => h) (Or.inl ⟨by rfl, fun W hSw => ?_⟩) hHeld ?_
      rotate_left
      ·(try dsimp only at hSw); go_simp; (try with_reducible rfl)
      (try simp only [Act.put, List.setIfInBounds_toArray, List.set_cons_zero, List.set_cons_succ])
      refine wpAnyH_take (i := 17) (oi := ⟨some 42, .indexAddr 22 (.tmp 40) (.tmp 41), 0, "dial.go:192", #[⟨15, .data⟩, ⟨16, .data⟩, ⟨7, .guard⟩], some (7, true)⟩) (v := ?_) rfl (by kernel_rfl) (by kernel_rfl) (by kernel_rfl) (fun _ _ _ h => h) (Or.inl ⟨by rfl, fun W hSw => ?_⟩) hHeld ?_
      rotate_left
      ·(try dsimp only at hSw); go_simp; (try with_reducible rfl)
      (try simp only [Act.put, List.setIfInBounds_toArray, List.set_cons_zero, List.set_cons_succ])
      refine wpAnyH_take (i := 18) (oi := ⟨some 43, .load 3 (.tmp 42), 3, "dial.go:192", #[⟨17, .data⟩, ⟨7, .guard⟩], some (7, true)⟩) (v := ?_) rfl (by kernel_rfl) (by kernel_rfl) (by kernel_rfl) (fun _ _ _ h => h) (Or.inl ⟨by rfl, fun W hSw => ?_⟩) hHeld ?_
      rotate_left
      ·(try dsimp only at hSw); go_simp; (try with_reducible rfl)
      (try simp only [Act.put, List.setIfInBounds_toArray, List.set_cons_zero, List.set_cons_succ])
      refine wpAnyH_ready (rs := [13]) (by kernel_rfl) (by simp) ?_
      refine AllReadyH.cons (o := ⟨some 38, .call { callee := .value (.func 59), args := #[.tmp 37], argTypes := #[3] }, 3, "dial.go:192", #[⟨12, .data⟩, ⟨7, .chain⟩, ⟨7, .guard⟩], some (7, true)⟩) rfl (fun K hK => ?_) AllReadyH.nil
      go_simp
      refine (weekday_any _ _ (by omega) (by omega)).mono ?_
      rw [W1.out]
      rintro e' w6 ⟨rfl, rfl⟩
      refine hK.out _ _ (hHeld) (fun hHeld => ?_)
      clear hK K
      (try simp only [Act.put, List.setIfInBounds_toArray, List.set_cons_zero, List.set_cons_succ])
      refine wpAnyH_ready (rs := [19]) (by kernel_rfl) (by simp) ?_
      refine AllReadyH.cons (o := ⟨some 44, .call { callee := .value (.func 59), args := #[.tmp 43], argTypes := #[3] }, 3, "dial.go:192", #[⟨18, .data⟩, ⟨13, .chain⟩, ⟨7, .guard⟩], some (7, true)⟩) rfl (fun K hK => ?_) AllReadyH.nil
      go_simp
      refine (weekday_any _ _ (by omega) (by omega)).mono ?_
      rw [W2.out]
      rintro e' w6 ⟨rfl, rfl⟩
      refine hK.out _ _ (hHeld) (fun hHeld => ?_)
      clear hK K
      (try simp only [Act.put, List.setIfInBounds_toArray, List.set_cons_zero, List.set_cons_succ])
      refine wpAnyH_take (i := 20) (oi := ⟨some 45, .binOp .eql 3 (.tmp 38) (.tmp 44) 3, 4, "dial.go:192", #[⟨13, .data⟩, ⟨19, .data⟩, ⟨7, .guard⟩], some (7, true)⟩) (v := ?_) rfl (by kernel_rfl) (by kernel_rfl) (by kernel_rfl) (fun _ _ _ h => h) (Or.inl ⟨by rfl, fun W hSw => ?_⟩) hHeld ?_
      rotate_left
      ·(try dsimp only at hSw); go_simp; (try with_reducible rfl)
      (try simp only [Act.put, List.setIfInBounds_toArray, List.set_cons_zero, List.set_cons_succ])
      refine wpAnyH_take (i := 21) (oi := ⟨some 46, .pick (.tmp 32) (.tmp 45) (.const (.bool false)), 4, "dial.go:192", #[⟨7, .data⟩, ⟨20, .data⟩], none⟩) (v := ?_) rfl (by kernel_rfl) (by kernel_rfl) (by kernel_rfl) (fun _ _ _ h => h) (Or.inl ⟨by rfl, fun W hSw => ?_⟩) hHeld ?_
      rotate_left
      ·(try dsimp only at hSw); go_simp; (try with_reducible rfl)
      (try simp only [Act.put, List.setIfInBounds_toArray, List.set_cons_zero, List.set_cons_succ])
      refine wpAnyH_done (by kernel_rfl) ?_ _
      refine NoPanic.normal ?_
      have hbel5 := fr_call hbel hHeld.2
      have hrr5 := hrr.keep hHeld.2
      have hFr5 := hFr.keep hHeld.2
      have hBr5 := hBr.keep hHeld.2
      clear hHeld
      go_wp2
      go_roundw
      case rel => exact ⟨z + 1, by omega, by omega, rfl, by rw [HG.out]; rw [show (4001 - z).toNat = (4001 - (z + 1)).toNat + 1 by omega, likeGo, if_neg (by unfold likeB; rw [L1.out, L2.out, FZ.out, FY.out, W1.out, W2.out]; simp [hw2])], hBr5, hrr5, hFr5, hbel5⟩
      case measure => simp [intOf]; omega
   ·have L1 := Lib.hid l1
    have L2 := Lib.hid l2
    clear l1 l2
    cases b
    all_goals
     go_wp2_with fail
     refine wp_region_noPanic ?_
     refine wp_region_held_drew (S := fun W => (∀ p : Addr, p.block < (wr).heap.size → W.cell? p = (wr).cell? p) ∧ Below (wr).heap.size (wr) W) (by kernel_rfl) ⟨fun _ _ => rfl, fr_drew (fr_refl _)⟩ (fun hHeld => ?_)
     -- the region, step by step
     refine wpAnyH_take (i := 0) (oi := ⟨some 25, .load 89 (.tmp 6), 89, "dial.go:192", #[], none⟩) (v := ?_) rfl (by kernel_rfl) (by kernel_rfl) (by kernel_rfl) (fun _ _ _ h => h) (Or.inl ⟨by rfl, fun W hSw => ?_⟩) hHeld ?_
     rotate_left
     ·(try dsimp only at hSw); go_simp; (try with_reducible rfl)
     (try simp only [Act.put, List.setIfInBounds_toArray, List.set_cons_zero, List.set_cons_succ])
     refine wpAnyH_take (i := 1) (oi := ⟨some 26, .move (.tmp 7), 3, "dial.go:192", #[], none⟩) (v := ?_) rfl (by kernel_rfl) (by kernel_rfl) (by kernel_rfl) (fun _ _ _ h => h) (Or.inl ⟨by rfl, fun W hSw => ?_⟩) hHeld ?_
     rotate_left
     ·(try dsimp only at hSw); go_simp; (try with_reducible rfl)
     (try simp only [Act.put, List.setIfInBounds_toArray, List.set_cons_zero, List.set_cons_succ])
     refine wpAnyH_take (i := 3) (oi := ⟨some 28, .load 89 (.tmp 6), 89, "dial.go:192", #[], none⟩) (v := ?_) rfl (by kernel_rfl) (by kernel_rfl) (by kernel_rfl) (fun _ _ _ h => h) (Or.inl ⟨by rfl, fun W hSw => ?_⟩) hHeld ?_
     rotate_left
     ·(try dsimp only at hSw); go_simp; (try with_reducible rfl)
     (try simp only [Act.put, List.setIfInBounds_toArray, List.set_cons_zero, List.set_cons_succ])
     refine wpAnyH_take (i := 4) (oi := ⟨some 29, .move (.tmp 1), 3, "dial.go:192", #[], none⟩) (v := ?_) rfl (by kernel_rfl) (by kernel_rfl) (by kernel_rfl) (fun _ _ _ h => h) (Or.inl ⟨by rfl, fun W hSw => ?_⟩) hHeld ?_
     rotate_left
     ·(try dsimp only at hSw); go_simp; (try with_reducible rfl)
     (try simp only [Act.put, List.setIfInBounds_toArray, List.set_cons_zero, List.set_cons_succ])
     refine wpAnyH_ready (rs := [2]) (by kernel_rfl) (by simp) ?_
     refine AllReadyH.cons (o := ⟨some 27, .call { callee := .value (.func 60), args := #[.tmp 25, .tmp 26], argTypes := #[89, 3] }, 4, "dial.go:192", #[⟨0, .data⟩, ⟨1, .data⟩], none⟩) rfl (fun K hK => ?_) AllReadyH.nil
     go_simp
     refine (leap_any A n c cs _ _ _ _ _ _ z _ (hrr.keep hHeld.2) hn2 hpos (by omega) (by omega)).mono ?_
     rw [L1.out]
     rintro e' w4 ⟨rfl, hb4⟩
     refine hK.out _ _ (kp_step hb4 hHeld) (fun hHeld => ?_)
     clear hK K
     (try simp only [Act.put, List.setIfInBounds_toArray, List.set_cons_zero, List.set_cons_succ])
     refine wpAnyH_ready (rs := [5]) (by kernel_rfl) (by simp) ?_
     refine AllReadyH.cons (o := ⟨some 30, .call { callee := .value (.func 60), args := #[.tmp 28, .tmp 29], argTypes := #[89, 3] }, 4, "dial.go:192", #[⟨3, .data⟩, ⟨4, .data⟩, ⟨2, .chain⟩], none⟩) rfl (fun K hK => ?_) AllReadyH.nil
     go_simp
     refine (leap_any A n c cs _ _ _ _ _ _ y _ (hrr.keep hHeld.2) hn2 hpos (by omega) (by omega)).mono ?_
     rw [L2.out]
     rintro e' w5 ⟨rfl, hb5⟩
     refine hK.out _ _ (kp_step hb5 hHeld) (fun hHeld => ?_)
     clear hK K
     (try simp only [Act.put, List.setIfInBounds_toArray, List.set_cons_zero, List.set_cons_succ])
     refine wpAnyH_take (i := 6) (oi := ⟨some 31, .binOp .eql 4 (.tmp 27) (.tmp 30) 4, 4, "dial.go:192", #[⟨2, .data⟩, ⟨5, .data⟩], none⟩) (v := ?_) rfl (by kernel_rfl) (by kernel_rfl) (by kernel_rfl) (fun _ _ _ h => h) (Or.inl ⟨by rfl, fun W hSw => ?_⟩) hHeld ?_
     rotate_left
     ·(try dsimp only at hSw); go_simp; (try with_reducible rfl)
     (try simp only [Act.put, List.setIfInBounds_toArray, List.set_cons_zero, List.set_cons_succ])
     refine wpAnyH_take (i := 7) (oi := ⟨some 32, .move (.tmp 31), 4, "dial.go:192", #[⟨6, .data⟩, ⟨5, .chain⟩], none⟩) (v := ?_) rfl (by kernel_rfl) (by kernel_rfl) (by kernel_rfl) (fun _ _ _ h => h) (Or.inl ⟨by rfl, fun W hSw => ?_⟩) hHeld ?_
     rotate_left
     ·(try dsimp only at hSw); go_simp; (try with_reducible rfl)
     (try simp only [Act.put, List.setIfInBounds_toArray, List.set_cons_zero, List.set_cons_succ])
     refine wpAnyH_take (i := 8) (oi := ⟨some 33, .fieldAddr 89 (.tmp 6) 2, 0, "dial.go:192", #[⟨7, .guard⟩], some (7, true)⟩) (v := undef) rfl (by kernel_rfl) (by kernel_rfl) (by kernel_rfl) (fun _ _ _ h => h) (Or.inr ⟨by rfl, rfl⟩) hHeld ?_
     (try simp only [Act.put, List.setIfInBounds_toArray, List.set_cons_zero, List.set_cons_succ])
     refine wpAnyH_take (i := 9) (oi := ⟨some 34, .load 22 (.tmp 33), 22, "dial.go:192", #[⟨8, .data⟩, ⟨7, .guard⟩], some (7, true)⟩) (v := undef) rfl (by kernel_rfl) (by kernel_rfl) (by kernel_rfl) (fun _ _ _ h => h) (Or.inr ⟨by rfl, rfl⟩) hHeld ?_
     (try simp only [Act.put, List.setIfInBounds_toArray, List.set_cons_zero, List.set_cons_succ])
     refine wpAnyH_take (i := 10) (oi := ⟨some 35, .move (.tmp 7), 3, "dial.go:192", #[⟨7, .guard⟩], some (7, true)⟩) (v := undef) rfl (by kernel_rfl) (by kernel_rfl) (by kernel_rfl) (fun _ _ _ h => h) (Or.inr ⟨by rfl, rfl⟩) hHeld ?_
     (try simp only [Act.put, List.setIfInBounds_toArray, List.set_cons_zero, List.set_cons_succ])
     refine wpAnyH_take (i := 11) (oi := ⟨some 36, .indexAddr 22 (.tmp 34) (.tmp 35), 0, "dial.go:192", #[⟨9, .data⟩, ⟨10, .data⟩, ⟨7, .guard⟩], some (7, true)⟩) (v := undef) rfl (by kernel_rfl) (by kernel_rfl) (by kernel_rfl) (fun _ _ _ h => h) (Or.inr ⟨by rfl, rfl⟩) hHeld ?_
     (try simp only [Act.put, List.setIfInBounds_toArray, List.set_cons_zero, List.set_cons_succ])
     refine wpAnyH_take (i := 12) (oi := ⟨some 37, .load 3 (.tmp 36), 3, "dial.go:192", #[⟨11, .data⟩, ⟨7, .guard⟩], some (7, true)⟩) (v := undef) rfl (by kernel_rfl) (by kernel_rfl) (by kernel_rfl) (fun _ _ _ h => h) (Or.inr ⟨by rfl, rfl⟩) hHeld ?_
     (try simp only [Act.put, List.setIfInBounds_toArray, List.set_cons_zero, List.set_cons_succ])
     refine wpAnyH_take (i := 13) (oi := ⟨some 38, .call { callee := .value (.func 59), args := #[.tmp 37], argTypes := #[3] }, 3, "dial.go:192", #[⟨12, .data⟩, ⟨7, .chain⟩, ⟨7, .guard⟩], some (7, true)⟩) (v := undef) rfl (by kernel_rfl) (by kernel_rfl) (by kernel_rfl) (fun _ _ _ h => h) (Or.inr ⟨by rfl, rfl⟩) hHeld ?_
     (try simp only [Act.put, List.setIfInBounds_toArray, List.set_cons_zero, List.set_cons_succ])
     refine wpAnyH_take (i := 14) (oi := ⟨some 39, .fieldAddr 89 (.tmp 6) 2, 0, "dial.go:192", #[⟨7, .guard⟩], some (7, true)⟩) (v := undef) rfl (by kernel_rfl) (by kernel_rfl) (by kernel_rfl) (fun _ _ _ h => h) (Or.inr ⟨by rfl, rfl⟩) hHeld ?_
     (try simp only [Act.put, List.setIfInBounds_toArray, List.set_cons_zero, List.set_cons_succ])
     refine wpAnyH_take (i := 15) (oi := ⟨some 40, .load 22 (.tmp 39), 22, "dial.go:192", #[⟨14, .data⟩, ⟨7, .guard⟩], some (7, true)⟩) (v := undef) rfl (by kernel_rfl) (by kernel_rfl) (by kernel_rfl) (fun _ _ _ h => h) (Or.inr ⟨by rfl, rfl⟩) hHeld ?_
     (try simp only [Act.put, List.setIfInBounds_toArray, List.set_cons_zero, List.set_cons_succ])
     refine wpAnyH_take (i := 16) (oi := ⟨some 41, .move (.tmp 1), 3, "dial.go:192", #[⟨7, .guard⟩], some (7, true)⟩) (v := undef) rfl (by kernel_rfl) (by kernel_rfl) (by kernel_rfl) (fun _ _ _ h => h) (Or.inr ⟨by rfl, rfl⟩) hHeld ?_
     (try simp only [Act.put, List.setIfInBounds_toArray, List.set_cons_zero, List.set_cons_succ])
     refine wpAnyH_take (i := 17) (oi := ⟨some 42, .indexAddr 22 (.tmp 40) (.tmp 41), 0, "dial.go:192", #[⟨15, .data⟩, ⟨16, .data⟩, ⟨7, .guard⟩], some (7, true)⟩) (v := undef) rfl (by kernel_rfl) (by kernel_rfl) (by kernel_rfl) (fun _ _ _ h => h) (Or.inr ⟨by rfl, rfl⟩) hHeld ?_
     (try simp only [Act.put, List.setIfInBounds_toArray, List.set_cons_zero, List.set_cons_succ])
     refine wpAnyH_take (i := 18) (oi := ⟨some 43, .load 3 (.tmp 42), 3, "dial.go:192", #[⟨17, .data⟩, ⟨7, .guard⟩], some (7, true)⟩) (v := undef) rfl (by kernel_rfl) (by kernel_rfl) (by kernel_rfl) (fun _ _ _ h => h) (Or.inr ⟨by rfl, rfl⟩) hHeld ?_
     (try simp only [Act.put, List.setIfInBounds_toArray, List.set_cons_zero, List.set_cons_succ])
     refine wpAnyH_take (i := 19) (oi := ⟨some 44, .call { callee := .value (.func 59), args := #[.tmp 43], argTypes := #[3] }, 3, "dial.go:192", #[⟨18, .data⟩, ⟨13, .chain⟩, ⟨7, .guard⟩], some (7, true)⟩) (v := undef) rfl (by kernel_rfl) (by kernel_rfl) (by kernel_rfl) (fun _ _ _ h => h) (Or.inr ⟨by rfl, rfl⟩) hHeld ?_
     (try simp only [Act.put, List.setIfInBounds_toArray, List.set_cons_zero, List.set_cons_succ])
     refine wpAnyH_take (i := 20) (oi := ⟨some 45, .binOp .eql 3 (.tmp 38) (.tmp 44) 3, 4, "dial.go:192", #[⟨13, .data⟩, ⟨19, .data⟩, ⟨7, .guard⟩], some (7, true)⟩) (v := undef) rfl (by kernel_rfl) (by kernel_rfl) (by kernel_rfl) (fun _ _ _ h => h) (Or.inr ⟨by rfl, rfl⟩) hHeld ?_
     (try simp only [Act.put, List.setIfInBounds_toArray, List.set_cons_zero, List.set_cons_succ])
     refine wpAnyH_take (i := 21) (oi := ⟨some 46, .pick (.tmp 32) (.tmp 45) (.const (.bool false)), 4, "dial.go:192", #[⟨7, .data⟩, ⟨20, .data⟩], none⟩) (v := ?_) rfl (by kernel_rfl) (by kernel_rfl) (by kernel_rfl) (fun _ _ _ h => h) (Or.inl ⟨by rfl, fun W hSw => ?_⟩) hHeld ?_
     rotate_left
     ·(try dsimp only at hSw); go_simp; (try with_reducible rfl)
     (try simp only [Act.put, List.setIfInBounds_toArray, List.set_cons_zero, List.set_cons_succ])
     refine wpAnyH_done (by kernel_rfl) ?_ _
     refine NoPanic.normal ?_
     have hbel5 := fr_call hbel hHeld.2
     have hrr5 := hrr.keep hHeld.2
     have hFr5 := hFr.keep hHeld.2
     have hBr5 := hBr.keep hHeld.2
     clear hHeld
     go_wp2
     go_roundw
     case rel => exact ⟨z + 1, by omega, by omega, rfl, by rw [HG.out]; rw [show (4001 - z).toNat = (4001 - (z + 1)).toNat + 1 by omega, likeGo, if_neg (by unfold likeB; rw [L1.out, L2.out, FZ.out, FY.out, W1.out, W2.out]; simp)], hBr5, hrr5, hFr5, hbel5⟩
     case measure => simp [intOf]; omega
  ·obtain rfl : z = 4001 := by omega
   go_wp2
   go_ret2
   exact ⟨by rw [HG.out]; rfl, hbel⟩
end Go.Proofs.YthjblcboainknaaGreatDoor
