/- Walk: all days of a date in a realm (by gen_days.py: nine ways). -/
import Derived.Test.YthjblcboainknaaGreatDoorMB4
namespace Go.Proofs.YthjblcboainknaaGreatDoor
open Go.RowKit Dl

def daysOf (e1 : Int) (c1 : List Int) (e2 : Int) (c2 : List Int) (last y m d : Int) : List Int :=
 (if (realB c1 y m d && decide (dayOf e1 c1 ⟨y, m, d⟩ ≤ last)) = true then [dayOf e1 c1 ⟨y, m, d⟩] else []) ++ (if (realB c2 y m d && decide (last < dayOf e2 c2 ⟨y, m, d⟩)) = true then [dayOf e2 c2 ⟨y, m, d⟩] else [])
def writtenB (y m d : Int) : Bool := inB y 0 4000 && inB m 1 12 && inB d 1 31
theorem real_parts {cs : List Int} {y m d : Int} (h : realB cs y m d = true) : (0 ≤ y ∧ y ≤ 4000) ∧ (1 ≤ m ∧ m ≤ 12) ∧ (1 ≤ d ∧ d ≤ 31) := by
 obtain ⟨a1, a2, a3, a4, a5, a6⟩ := realB_iff.1 h
 have := mlen_pos (leapB cs y) m
 simp only at a1 a2 a3 a4 a5 a6
 omega

set_option maxRecDepth 100000 in
set_option maxHeartbeats 4000000 in
theorem Days_00 (A1 A2 : Option Addr) (n1 k1 n2 k2 : Nat) (c1 c2 : List Int) (e1 e2 last y m d : Int) (w : World) (hr1 : Rd w A1 n1 c1) (hr2 : Rd w A2 n2 c2) (hn1 : n1 ≤ 9223372036854775807) (hn2 : n2 ≤ 9223372036854775807) (hok : realmOk e1 c1 e2 c2 last = true) (hwr : writtenB y m d = true) (hq1 : realB c1 y m d = false) (hq2 : realB c2 y m d = false) :
  Calls Tryz.prog 25 #[.agg #[.int .i64 e1, .slice A1 n1 k1, .int .i64 e2, .slice A2 n2 k2, .int .i64 last], .agg #[.int .i64 y, .int .i64 m, .int .i64 d]] w fun e' w' =>
   ∃ A c, e' = .returned (.tuple #[.slice A (daysOf e1 c1 e2 c2 last y m d).length c, .int .i64 0]) ∧ Rd w' A (daysOf e1 c1 e2 c2 last y m d).length (daysOf e1 c1 e2 c2 last y m d) ∧ Below w.heap.size w w' := by
 have hL : daysOf e1 c1 e2 c2 last y m d = [] ++ [] := by
  unfold daysOf
  rw [hq1, hq2]
  rw [if_neg (by simp)]
  rw [if_neg (by simp)]
 rw [hL]
 simp only [List.append_nil]
 clear hL
 obtain ⟨hk1, hk2⟩ : calOk e1 c1 = true ∧ calOk e2 c2 = true := by
  unfold realmOk at hok
  simp only [Bool.and_eq_true] at hok
  exact hok.1
 obtain ⟨he1, hs1⟩ := calOk_parts hk1
 obtain ⟨he2, hs2⟩ := calOk_parts hk2
 rw [hr1.len] at hs1
 rw [hr2.len] at hs2
 obtain ⟨w1, w2, w3⟩ : inB y 0 4000 = true ∧ inB m 1 12 = true ∧ inB d 1 31 = true := by
  unfold writtenB at hwr
  simp only [Bool.and_eq_true] at hwr
  exact ⟨hwr.1.1, hwr.1.2, hwr.2⟩
 have hy := inB_iff.1 w1
 have hm := inB_iff.1 w2
 have hd := inB_iff.1 w3
 have g1 := fr_alloc (fr_alloc (fr_refl w) (.cells #[.int .i64 e1, .slice A1 n1 k1, .int .i64 e2, .slice A2 n2 k2, .int .i64 last] 55)) (.cells #[.int .i64 y, .int .i64 m, .int .i64 d] 50)
 have hR : Blk ((w.alloc (.cells #[.int .i64 e1, .slice A1 n1 k1, .int .i64 e2, .slice A2 n2 k2, .int .i64 last] 55)).alloc (.cells #[.int .i64 y, .int .i64 m, .int .i64 d] 50)) w.heap.size 55 #[.int .i64 e1, .slice A1 n1 k1, .int .i64 e2, .slice A2 n2 k2, .int .i64 last] := (Blk.new w _ _).alloc _
 have hD : Blk ((w.alloc (.cells #[.int .i64 e1, .slice A1 n1 k1, .int .i64 e2, .slice A2 n2 k2, .int .i64 last] 55)).alloc (.cells #[.int .i64 y, .int .i64 m, .int .i64 d] 50)) (w.heap.size + 1) 50 #[.int .i64 y, .int .i64 m, .int .i64 d] := Blk.new_at _ _ (by simp)
 go_enter Tryz.func25, Tryz.ntmps25
 go_wp2_with fail
 refine (isRealm_is A1 A2 n1 k1 n2 k2 c1 c2 e1 e2 last _ (hr1.keep g1) (hr2.keep g1) hn1 hn2 _ hok).mono ?_
 rintro e' wa ⟨rfl, hb1⟩
 obtain ⟨hc_wa, hf_wa⟩ := bcell hb1
 have hz0_wa : w.heap.size < wa.heap.size := Nat.lt_of_lt_of_le (by first | omega | (simp; done) | (simp; omega)) hb1.size
 have hz1_wa : w.heap.size + 1 < wa.heap.size := Nat.lt_of_lt_of_le (by first | omega | (simp; done) | (simp; omega)) hb1.size
 go_wp2_with fail
 refine (isYear_is _ _ _ w1).mono ?_
 rintro e' wa' ⟨rfl, rfl⟩
 go_wp2_with fail
 refine (in_is _ _ _ _ _ w2).mono ?_
 rintro e' wa' ⟨rfl, rfl⟩
 go_wp2_with fail
 refine (in_is _ _ _ _ _ w3).mono ?_
 rintro e' wa' ⟨rfl, rfl⟩
 go_wp2_with fail
 refine (opens_any A1 A2 n1 k1 n2 k2 c1 c2 e1 e2 last _ ((hr1.keep g1).keep hb1) ((hr2.keep g1).keep hb1) hk1 hk2).mono ?_
 rintro e' wb ⟨F1, f1, M1, F2, f2, M2, rfl, hF1, hF2, hb2⟩
 have hZ := Blk.new wb 96 #[.int .i64 0, .slice none 0 0, .int .i64 0, .slice none 0 0, .int .i64 0, .int .i64 0, .slice none 0 0, .int .i64 0, .int .i64 0, .int .i64 0, .slice none 0 0, .map none, .int .i64 0, .slice none 0 0, .int .i64 0, .int .i64 0, .int .i64 0, .slice none 0 0, .map none]
 go_wp2_with (refine wpList_store_blk rfl _ _ _ rfl wb.heap.size 96 _ _ rfl rfl hZ rfl (by kernel_rfl) (by simp [Value.oneCell']) ?_; intro wc hX hgc)
 have hgb : Below wb.heap.size wb wc := (fr_alloc (fr_refl wb) _).grown hgc (by simp) (by intro k hk; cases hk; exact Nat.le_refl _)
 have hbb := fr_call hb2 hgb
 have hfr := fr_call (fr_call g1 hb1) hbb
 replace hR := (hR.keep hb1).keep hbb
 replace hD := (hD.keep hb1).keep hbb
 replace hr1 := ((hr1.keep g1).keep hb1).keep hbb
 replace hr2 := ((hr2.keep g1).keep hb1).keep hbb
 replace hF1 := hF1.keep hgb
 replace hF2 := hF2.keep hgb
 have hown := Own.nil wc w.heap.size
 clear hZ hgc hgb hbb hb1 hb2 hc_wa hf_wa hz0_wa hz1_wa g1
 generalize wb.heap.size = bx at *
 have hcX := fun j => hX.cell j
 have hcR := fun j => hR.cell j
 have hcD := fun j => hD.cell j
 have hxl := hX.lt
 have hrl := hR.lt
 have hdl := hD.lt
 go_wp2_with fail
 refine wp_region_noPanic ?_
 refine wp_region_held_drew (S := fun W => (∀ p : Addr, p.block < (wc).heap.size → W.cell? p = (wc).cell? p) ∧ Below (wc).heap.size (wc) W) (by kernel_rfl) ⟨fun _ _ => rfl, fr_drew (fr_refl _)⟩ (fun hHeld => ?_)
 -- the region, step by step
 refine wpAnyH_take (i := 0) (oi := ⟨some 31, .fieldAddr 96 (.tmp 6) 1, 0, "dial.go:240", #[], none⟩) (v := ?_) rfl (by kernel_rfl) (by kernel_rfl) (by kernel_rfl) (fun _ _ _ h => h) (Or.inl ⟨by rfl, fun W hSw => ?_⟩) hHeld ?_
 rotate_left
 ·(try dsimp only at hSw); go_simp; (try with_reducible rfl)
 (try simp only [Act.put, List.setIfInBounds_toArray, List.set_cons_zero, List.set_cons_succ])
 refine wpAnyH_take (i := 1) (oi := ⟨some 32, .load 89 (.tmp 31), 89, "dial.go:240", #[⟨0, .data⟩], none⟩) (v := ?_) rfl (by kernel_rfl) (by kernel_rfl) (by kernel_rfl) (fun _ _ _ h => h) (Or.inl ⟨by rfl, fun W hSw => ?_⟩) hHeld ?_
 rotate_left
 ·(try dsimp only at hSw); go_simp; (try with_reducible rfl)
 (try simp only [Act.put, List.setIfInBounds_toArray, List.set_cons_zero, List.set_cons_succ])
 refine wpAnyH_take (i := 2) (oi := ⟨some 33, .load 50 (.tmp 3), 50, "dial.go:240", #[], none⟩) (v := ?_) rfl (by kernel_rfl) (by kernel_rfl) (by kernel_rfl) (fun _ _ _ h => h) (Or.inl ⟨by rfl, fun W hSw => ?_⟩) hHeld ?_
 rotate_left
 ·(try dsimp only at hSw); go_simp; (try with_reducible rfl)
 (try simp only [Act.put, List.setIfInBounds_toArray, List.set_cons_zero, List.set_cons_succ])
 refine wpAnyH_ready (rs := [3]) (by kernel_rfl) (by simp) ?_
 refine AllReadyH.cons (o := ⟨some 34, .call { callee := .value (.func 51), args := #[.tmp 32, .tmp 33], argTypes := #[89, 50] }, 4, "dial.go:240", #[⟨1, .data⟩, ⟨2, .data⟩], none⟩) rfl (fun K hK => ?_) AllReadyH.nil
 go_simp
 refine (isDate_is A1 n1 k1 c1 _ _ _ _ _ _ y m d _ (hr1.keep hHeld.2) hs1.1.2 hs1.2 _ hq1).mono ?_
 rintro e' wcb ⟨rfl, hb⟩
 refine hK.out _ _ (kp_step hb hHeld) (fun hHeld => ?_)
 clear hK K
 (try simp only [Act.put, List.setIfInBounds_toArray, List.set_cons_zero, List.set_cons_succ])
 refine wpAnyH_take (i := 4) (oi := ⟨some 35, .move (.tmp 34), 4, "dial.go:240", #[⟨3, .data⟩, ⟨3, .chain⟩], none⟩) (v := ?_) rfl (by kernel_rfl) (by kernel_rfl) (by kernel_rfl) (fun _ _ _ h => h) (Or.inl ⟨by rfl, fun W hSw => ?_⟩) hHeld ?_
 rotate_left
 ·(try dsimp only at hSw); go_simp; (try with_reducible rfl)
 (try simp only [Act.put, List.setIfInBounds_toArray, List.set_cons_zero, List.set_cons_succ])
 refine wpAnyH_take (i := 5) (oi := ⟨some 36, .fieldAddr 96 (.tmp 6) 1, 0, "dial.go:240", #[⟨4, .guard⟩], some (4, true)⟩) (v := undef) rfl (by kernel_rfl) (by kernel_rfl) (by kernel_rfl) (fun _ _ _ h => h) (Or.inr ⟨by rfl, rfl⟩) hHeld ?_
 (try simp only [Act.put, List.setIfInBounds_toArray, List.set_cons_zero, List.set_cons_succ])
 refine wpAnyH_take (i := 6) (oi := ⟨some 37, .load 89 (.tmp 36), 89, "dial.go:240", #[⟨5, .data⟩, ⟨4, .guard⟩], some (4, true)⟩) (v := undef) rfl (by kernel_rfl) (by kernel_rfl) (by kernel_rfl) (fun _ _ _ h => h) (Or.inr ⟨by rfl, rfl⟩) hHeld ?_
 (try simp only [Act.put, List.setIfInBounds_toArray, List.set_cons_zero, List.set_cons_succ])
 refine wpAnyH_take (i := 7) (oi := ⟨some 38, .load 50 (.tmp 3), 50, "dial.go:240", #[⟨4, .guard⟩], some (4, true)⟩) (v := undef) rfl (by kernel_rfl) (by kernel_rfl) (by kernel_rfl) (fun _ _ _ h => h) (Or.inr ⟨by rfl, rfl⟩) hHeld ?_
 (try simp only [Act.put, List.setIfInBounds_toArray, List.set_cons_zero, List.set_cons_succ])
 refine wpAnyH_take (i := 8) (oi := ⟨some 39, .call { callee := .value (.func 52), args := #[.tmp 37, .tmp 38], argTypes := #[89, 50] }, 3, "dial.go:240", #[⟨6, .data⟩, ⟨7, .data⟩, ⟨4, .chain⟩, ⟨4, .guard⟩], some (4, true)⟩) (v := undef) rfl (by kernel_rfl) (by kernel_rfl) (by kernel_rfl) (fun _ _ _ h => h) (Or.inr ⟨by rfl, rfl⟩) hHeld ?_
 (try simp only [Act.put, List.setIfInBounds_toArray, List.set_cons_zero, List.set_cons_succ])
 refine wpAnyH_take (i := 9) (oi := ⟨some 40, .fieldAddr 55 (.tmp 2) 2, 0, "dial.go:240", #[⟨4, .guard⟩], some (4, true)⟩) (v := undef) rfl (by kernel_rfl) (by kernel_rfl) (by kernel_rfl) (fun _ _ _ h => h) (Or.inr ⟨by rfl, rfl⟩) hHeld ?_
 (try simp only [Act.put, List.setIfInBounds_toArray, List.set_cons_zero, List.set_cons_succ])
 refine wpAnyH_take (i := 10) (oi := ⟨some 41, .load 3 (.tmp 40), 3, "dial.go:240", #[⟨9, .data⟩, ⟨4, .guard⟩], some (4, true)⟩) (v := undef) rfl (by kernel_rfl) (by kernel_rfl) (by kernel_rfl) (fun _ _ _ h => h) (Or.inr ⟨by rfl, rfl⟩) hHeld ?_
 (try simp only [Act.put, List.setIfInBounds_toArray, List.set_cons_zero, List.set_cons_succ])
 refine wpAnyH_take (i := 11) (oi := ⟨some 42, .binOp .leq 3 (.tmp 39) (.tmp 41) 3, 4, "dial.go:240", #[⟨8, .data⟩, ⟨10, .data⟩, ⟨4, .guard⟩], some (4, true)⟩) (v := undef) rfl (by kernel_rfl) (by kernel_rfl) (by kernel_rfl) (fun _ _ _ h => h) (Or.inr ⟨by rfl, rfl⟩) hHeld ?_
 (try simp only [Act.put, List.setIfInBounds_toArray, List.set_cons_zero, List.set_cons_succ])
 refine wpAnyH_take (i := 12) (oi := ⟨some 43, .pick (.tmp 35) (.tmp 42) (.const (.bool false)), 4, "dial.go:240", #[⟨4, .data⟩, ⟨11, .data⟩], none⟩) (v := ?_) rfl (by kernel_rfl) (by kernel_rfl) (by kernel_rfl) (fun _ _ _ h => h) (Or.inl ⟨by rfl, fun W hSw => ?_⟩) hHeld ?_
 rotate_left
 ·(try dsimp only at hSw); go_simp; (try with_reducible rfl)
 (try simp only [Act.put, List.setIfInBounds_toArray, List.set_cons_zero, List.set_cons_succ])
 refine wpAnyH_done (by kernel_rfl) ?_ _
 refine NoPanic.normal ?_
 replace hX := hX.keep hHeld.2
 replace hR := hR.keep hHeld.2
 replace hD := hD.keep hHeld.2
 replace hr1 := hr1.keep hHeld.2
 replace hr2 := hr2.keep hHeld.2
 replace hF1 := hF1.keep hHeld.2
 replace hF2 := hF2.keep hHeld.2
 replace hfr := fr_call hfr hHeld.2
 replace hown := hown.keep hHeld.2
 clear hHeld hcX hcR hcD hxl hrl hdl
 have hcX := fun j => hX.cell j
 have hcR := fun j => hR.cell j
 have hcD := fun j => hD.cell j
 have hxl := hX.lt
 have hrl := hR.lt
 have hdl := hD.lt
 go_wp2_with fail
 refine wp_region_noPanic ?_
 refine wp_region_held_drew (S := fun W => (∀ p : Addr, p.block < (wcb).heap.size → W.cell? p = (wcb).cell? p) ∧ Below (wcb).heap.size (wcb) W) (by kernel_rfl) ⟨fun _ _ => rfl, fr_drew (fr_refl _)⟩ (fun hHeld => ?_)
 -- the region, step by step
 refine wpAnyH_take (i := 0) (oi := ⟨some 51, .fieldAddr 96 (.tmp 6) 2, 0, "dial.go:243", #[], none⟩) (v := ?_) rfl (by kernel_rfl) (by kernel_rfl) (by kernel_rfl) (fun _ _ _ h => h) (Or.inl ⟨by rfl, fun W hSw => ?_⟩) hHeld ?_
 rotate_left
 ·(try dsimp only at hSw); go_simp; (try with_reducible rfl)
 (try simp only [Act.put, List.setIfInBounds_toArray, List.set_cons_zero, List.set_cons_succ])
 refine wpAnyH_take (i := 1) (oi := ⟨some 52, .load 89 (.tmp 51), 89, "dial.go:243", #[⟨0, .data⟩], none⟩) (v := ?_) rfl (by kernel_rfl) (by kernel_rfl) (by kernel_rfl) (fun _ _ _ h => h) (Or.inl ⟨by rfl, fun W hSw => ?_⟩) hHeld ?_
 rotate_left
 ·(try dsimp only at hSw); go_simp; (try with_reducible rfl)
 (try simp only [Act.put, List.setIfInBounds_toArray, List.set_cons_zero, List.set_cons_succ])
 refine wpAnyH_take (i := 2) (oi := ⟨some 53, .load 50 (.tmp 3), 50, "dial.go:243", #[], none⟩) (v := ?_) rfl (by kernel_rfl) (by kernel_rfl) (by kernel_rfl) (fun _ _ _ h => h) (Or.inl ⟨by rfl, fun W hSw => ?_⟩) hHeld ?_
 rotate_left
 ·(try dsimp only at hSw); go_simp; (try with_reducible rfl)
 (try simp only [Act.put, List.setIfInBounds_toArray, List.set_cons_zero, List.set_cons_succ])
 refine wpAnyH_ready (rs := [3]) (by kernel_rfl) (by simp) ?_
 refine AllReadyH.cons (o := ⟨some 54, .call { callee := .value (.func 51), args := #[.tmp 52, .tmp 53], argTypes := #[89, 50] }, 4, "dial.go:243", #[⟨1, .data⟩, ⟨2, .data⟩], none⟩) rfl (fun K hK => ?_) AllReadyH.nil
 go_simp
 refine (isDate_is A2 n2 k2 c2 _ _ _ _ _ _ y m d _ (hr2.keep hHeld.2) hs2.1.2 hs2.2 _ hq2).mono ?_
 rintro e' wcbb ⟨rfl, hb⟩
 refine hK.out _ _ (kp_step hb hHeld) (fun hHeld => ?_)
 clear hK K
 (try simp only [Act.put, List.setIfInBounds_toArray, List.set_cons_zero, List.set_cons_succ])
 refine wpAnyH_take (i := 4) (oi := ⟨some 55, .move (.tmp 54), 4, "dial.go:243", #[⟨3, .data⟩, ⟨3, .chain⟩], none⟩) (v := ?_) rfl (by kernel_rfl) (by kernel_rfl) (by kernel_rfl) (fun _ _ _ h => h) (Or.inl ⟨by rfl, fun W hSw => ?_⟩) hHeld ?_
 rotate_left
 ·(try dsimp only at hSw); go_simp; (try with_reducible rfl)
 (try simp only [Act.put, List.setIfInBounds_toArray, List.set_cons_zero, List.set_cons_succ])
 refine wpAnyH_take (i := 5) (oi := ⟨some 56, .fieldAddr 96 (.tmp 6) 2, 0, "dial.go:243", #[⟨4, .guard⟩], some (4, true)⟩) (v := undef) rfl (by kernel_rfl) (by kernel_rfl) (by kernel_rfl) (fun _ _ _ h => h) (Or.inr ⟨by rfl, rfl⟩) hHeld ?_
 (try simp only [Act.put, List.setIfInBounds_toArray, List.set_cons_zero, List.set_cons_succ])
 refine wpAnyH_take (i := 6) (oi := ⟨some 57, .load 89 (.tmp 56), 89, "dial.go:243", #[⟨5, .data⟩, ⟨4, .guard⟩], some (4, true)⟩) (v := undef) rfl (by kernel_rfl) (by kernel_rfl) (by kernel_rfl) (fun _ _ _ h => h) (Or.inr ⟨by rfl, rfl⟩) hHeld ?_
 (try simp only [Act.put, List.setIfInBounds_toArray, List.set_cons_zero, List.set_cons_succ])
 refine wpAnyH_take (i := 7) (oi := ⟨some 58, .load 50 (.tmp 3), 50, "dial.go:243", #[⟨4, .guard⟩], some (4, true)⟩) (v := undef) rfl (by kernel_rfl) (by kernel_rfl) (by kernel_rfl) (fun _ _ _ h => h) (Or.inr ⟨by rfl, rfl⟩) hHeld ?_
 (try simp only [Act.put, List.setIfInBounds_toArray, List.set_cons_zero, List.set_cons_succ])
 refine wpAnyH_take (i := 8) (oi := ⟨some 59, .call { callee := .value (.func 52), args := #[.tmp 57, .tmp 58], argTypes := #[89, 50] }, 3, "dial.go:243", #[⟨6, .data⟩, ⟨7, .data⟩, ⟨4, .chain⟩, ⟨4, .guard⟩], some (4, true)⟩) (v := undef) rfl (by kernel_rfl) (by kernel_rfl) (by kernel_rfl) (fun _ _ _ h => h) (Or.inr ⟨by rfl, rfl⟩) hHeld ?_
 (try simp only [Act.put, List.setIfInBounds_toArray, List.set_cons_zero, List.set_cons_succ])
 refine wpAnyH_take (i := 9) (oi := ⟨some 60, .fieldAddr 55 (.tmp 2) 2, 0, "dial.go:243", #[⟨4, .guard⟩], some (4, true)⟩) (v := undef) rfl (by kernel_rfl) (by kernel_rfl) (by kernel_rfl) (fun _ _ _ h => h) (Or.inr ⟨by rfl, rfl⟩) hHeld ?_
 (try simp only [Act.put, List.setIfInBounds_toArray, List.set_cons_zero, List.set_cons_succ])
 refine wpAnyH_take (i := 10) (oi := ⟨some 61, .load 3 (.tmp 60), 3, "dial.go:243", #[⟨9, .data⟩, ⟨4, .guard⟩], some (4, true)⟩) (v := undef) rfl (by kernel_rfl) (by kernel_rfl) (by kernel_rfl) (fun _ _ _ h => h) (Or.inr ⟨by rfl, rfl⟩) hHeld ?_
 (try simp only [Act.put, List.setIfInBounds_toArray, List.set_cons_zero, List.set_cons_succ])
 refine wpAnyH_take (i := 11) (oi := ⟨some 62, .binOp .gtr 3 (.tmp 59) (.tmp 61) 3, 4, "dial.go:243", #[⟨8, .data⟩, ⟨10, .data⟩, ⟨4, .guard⟩], some (4, true)⟩) (v := undef) rfl (by kernel_rfl) (by kernel_rfl) (by kernel_rfl) (fun _ _ _ h => h) (Or.inr ⟨by rfl, rfl⟩) hHeld ?_
 (try simp only [Act.put, List.setIfInBounds_toArray, List.set_cons_zero, List.set_cons_succ])
 refine wpAnyH_take (i := 12) (oi := ⟨some 63, .pick (.tmp 55) (.tmp 62) (.const (.bool false)), 4, "dial.go:243", #[⟨4, .data⟩, ⟨11, .data⟩], none⟩) (v := ?_) rfl (by kernel_rfl) (by kernel_rfl) (by kernel_rfl) (fun _ _ _ h => h) (Or.inl ⟨by rfl, fun W hSw => ?_⟩) hHeld ?_
 rotate_left
 ·(try dsimp only at hSw); go_simp; (try with_reducible rfl)
 (try simp only [Act.put, List.setIfInBounds_toArray, List.set_cons_zero, List.set_cons_succ])
 refine wpAnyH_done (by kernel_rfl) ?_ _
 refine NoPanic.normal ?_
 replace hX := hX.keep hHeld.2
 replace hR := hR.keep hHeld.2
 replace hD := hD.keep hHeld.2
 replace hr1 := hr1.keep hHeld.2
 replace hr2 := hr2.keep hHeld.2
 replace hF1 := hF1.keep hHeld.2
 replace hF2 := hF2.keep hHeld.2
 replace hfr := fr_call hfr hHeld.2
 replace hown := hown.keep hHeld.2
 clear hHeld hcX hcR hcD hxl hrl hdl
 go_wp2
 go_ret2
 exact ⟨_, _, rfl, hown.rd, hfr⟩

set_option maxRecDepth 100000 in
set_option maxHeartbeats 4000000 in
theorem Days_01 (A1 A2 : Option Addr) (n1 k1 n2 k2 : Nat) (c1 c2 : List Int) (e1 e2 last y m d : Int) (w : World) (hr1 : Rd w A1 n1 c1) (hr2 : Rd w A2 n2 c2) (hn1 : n1 ≤ 9223372036854775807) (hn2 : n2 ≤ 9223372036854775807) (hok : realmOk e1 c1 e2 c2 last = true) (hwr : writtenB y m d = true) (hq1 : realB c1 y m d = false) (hq2 : realB c2 y m d = true) (q2 : Int) (hQ2 : dayOf e2 c2 ⟨y, m, d⟩ = q2) (hl2 : ¬ last < q2) :
  Calls Tryz.prog 25 #[.agg #[.int .i64 e1, .slice A1 n1 k1, .int .i64 e2, .slice A2 n2 k2, .int .i64 last], .agg #[.int .i64 y, .int .i64 m, .int .i64 d]] w fun e' w' =>
   ∃ A c, e' = .returned (.tuple #[.slice A (daysOf e1 c1 e2 c2 last y m d).length c, .int .i64 0]) ∧ Rd w' A (daysOf e1 c1 e2 c2 last y m d).length (daysOf e1 c1 e2 c2 last y m d) ∧ Below w.heap.size w w' := by
 have hL : daysOf e1 c1 e2 c2 last y m d = [] ++ [] := by
  unfold daysOf
  rw [hq1, hq2, hQ2]
  rw [if_neg (by simp)]
  rw [if_neg (by simpa using hl2)]
 rw [hL]
 simp only [List.append_nil]
 have Q2 := Lib.hid hQ2
 clear hQ2
 clear hL
 obtain ⟨hk1, hk2⟩ : calOk e1 c1 = true ∧ calOk e2 c2 = true := by
  unfold realmOk at hok
  simp only [Bool.and_eq_true] at hok
  exact hok.1
 obtain ⟨he1, hs1⟩ := calOk_parts hk1
 obtain ⟨he2, hs2⟩ := calOk_parts hk2
 rw [hr1.len] at hs1
 rw [hr2.len] at hs2
 obtain ⟨w1, w2, w3⟩ : inB y 0 4000 = true ∧ inB m 1 12 = true ∧ inB d 1 31 = true := by
  unfold writtenB at hwr
  simp only [Bool.and_eq_true] at hwr
  exact ⟨hwr.1.1, hwr.1.2, hwr.2⟩
 have hy := inB_iff.1 w1
 have hm := inB_iff.1 w2
 have hd := inB_iff.1 w3
 have g1 := fr_alloc (fr_alloc (fr_refl w) (.cells #[.int .i64 e1, .slice A1 n1 k1, .int .i64 e2, .slice A2 n2 k2, .int .i64 last] 55)) (.cells #[.int .i64 y, .int .i64 m, .int .i64 d] 50)
 have hR : Blk ((w.alloc (.cells #[.int .i64 e1, .slice A1 n1 k1, .int .i64 e2, .slice A2 n2 k2, .int .i64 last] 55)).alloc (.cells #[.int .i64 y, .int .i64 m, .int .i64 d] 50)) w.heap.size 55 #[.int .i64 e1, .slice A1 n1 k1, .int .i64 e2, .slice A2 n2 k2, .int .i64 last] := (Blk.new w _ _).alloc _
 have hD : Blk ((w.alloc (.cells #[.int .i64 e1, .slice A1 n1 k1, .int .i64 e2, .slice A2 n2 k2, .int .i64 last] 55)).alloc (.cells #[.int .i64 y, .int .i64 m, .int .i64 d] 50)) (w.heap.size + 1) 50 #[.int .i64 y, .int .i64 m, .int .i64 d] := Blk.new_at _ _ (by simp)
 go_enter Tryz.func25, Tryz.ntmps25
 go_wp2_with fail
 refine (isRealm_is A1 A2 n1 k1 n2 k2 c1 c2 e1 e2 last _ (hr1.keep g1) (hr2.keep g1) hn1 hn2 _ hok).mono ?_
 rintro e' wa ⟨rfl, hb1⟩
 obtain ⟨hc_wa, hf_wa⟩ := bcell hb1
 have hz0_wa : w.heap.size < wa.heap.size := Nat.lt_of_lt_of_le (by first | omega | (simp; done) | (simp; omega)) hb1.size
 have hz1_wa : w.heap.size + 1 < wa.heap.size := Nat.lt_of_lt_of_le (by first | omega | (simp; done) | (simp; omega)) hb1.size
 go_wp2_with fail
 refine (isYear_is _ _ _ w1).mono ?_
 rintro e' wa' ⟨rfl, rfl⟩
 go_wp2_with fail
 refine (in_is _ _ _ _ _ w2).mono ?_
 rintro e' wa' ⟨rfl, rfl⟩
 go_wp2_with fail
 refine (in_is _ _ _ _ _ w3).mono ?_
 rintro e' wa' ⟨rfl, rfl⟩
 go_wp2_with fail
 refine (opens_any A1 A2 n1 k1 n2 k2 c1 c2 e1 e2 last _ ((hr1.keep g1).keep hb1) ((hr2.keep g1).keep hb1) hk1 hk2).mono ?_
 rintro e' wb ⟨F1, f1, M1, F2, f2, M2, rfl, hF1, hF2, hb2⟩
 have hZ := Blk.new wb 96 #[.int .i64 0, .slice none 0 0, .int .i64 0, .slice none 0 0, .int .i64 0, .int .i64 0, .slice none 0 0, .int .i64 0, .int .i64 0, .int .i64 0, .slice none 0 0, .map none, .int .i64 0, .slice none 0 0, .int .i64 0, .int .i64 0, .int .i64 0, .slice none 0 0, .map none]
 go_wp2_with (refine wpList_store_blk rfl _ _ _ rfl wb.heap.size 96 _ _ rfl rfl hZ rfl (by kernel_rfl) (by simp [Value.oneCell']) ?_; intro wc hX hgc)
 have hgb : Below wb.heap.size wb wc := (fr_alloc (fr_refl wb) _).grown hgc (by simp) (by intro k hk; cases hk; exact Nat.le_refl _)
 have hbb := fr_call hb2 hgb
 have hfr := fr_call (fr_call g1 hb1) hbb
 replace hR := (hR.keep hb1).keep hbb
 replace hD := (hD.keep hb1).keep hbb
 replace hr1 := ((hr1.keep g1).keep hb1).keep hbb
 replace hr2 := ((hr2.keep g1).keep hb1).keep hbb
 replace hF1 := hF1.keep hgb
 replace hF2 := hF2.keep hgb
 have hown := Own.nil wc w.heap.size
 clear hZ hgc hgb hbb hb1 hb2 hc_wa hf_wa hz0_wa hz1_wa g1
 generalize wb.heap.size = bx at *
 have hcX := fun j => hX.cell j
 have hcR := fun j => hR.cell j
 have hcD := fun j => hD.cell j
 have hxl := hX.lt
 have hrl := hR.lt
 have hdl := hD.lt
 go_wp2_with fail
 refine wp_region_noPanic ?_
 refine wp_region_held_drew (S := fun W => (∀ p : Addr, p.block < (wc).heap.size → W.cell? p = (wc).cell? p) ∧ Below (wc).heap.size (wc) W) (by kernel_rfl) ⟨fun _ _ => rfl, fr_drew (fr_refl _)⟩ (fun hHeld => ?_)
 -- the region, step by step
 refine wpAnyH_take (i := 0) (oi := ⟨some 31, .fieldAddr 96 (.tmp 6) 1, 0, "dial.go:240", #[], none⟩) (v := ?_) rfl (by kernel_rfl) (by kernel_rfl) (by kernel_rfl) (fun _ _ _ h => h) (Or.inl ⟨by rfl, fun W hSw => ?_⟩) hHeld ?_
 rotate_left
 ·(try dsimp only at hSw); go_simp; (try with_reducible rfl)
 (try simp only [Act.put, List.setIfInBounds_toArray, List.set_cons_zero, List.set_cons_succ])
 refine wpAnyH_take (i := 1) (oi := ⟨some 32, .load 89 (.tmp 31), 89, "dial.go:240", #[⟨0, .data⟩], none⟩) (v := ?_) rfl (by kernel_rfl) (by kernel_rfl) (by kernel_rfl) (fun _ _ _ h => h) (Or.inl ⟨by rfl, fun W hSw => ?_⟩) hHeld ?_
 rotate_left
 ·(try dsimp only at hSw); go_simp; (try with_reducible rfl)
 (try simp only [Act.put, List.setIfInBounds_toArray, List.set_cons_zero, List.set_cons_succ])
 refine wpAnyH_take (i := 2) (oi := ⟨some 33, .load 50 (.tmp 3), 50, "dial.go:240", #[], none⟩) (v := ?_) rfl (by kernel_rfl) (by kernel_rfl) (by kernel_rfl) (fun _ _ _ h => h) (Or.inl ⟨by rfl, fun W hSw => ?_⟩) hHeld ?_
 rotate_left
 ·(try dsimp only at hSw); go_simp; (try with_reducible rfl)
 (try simp only [Act.put, List.setIfInBounds_toArray, List.set_cons_zero, List.set_cons_succ])
 refine wpAnyH_ready (rs := [3]) (by kernel_rfl) (by simp) ?_
 refine AllReadyH.cons (o := ⟨some 34, .call { callee := .value (.func 51), args := #[.tmp 32, .tmp 33], argTypes := #[89, 50] }, 4, "dial.go:240", #[⟨1, .data⟩, ⟨2, .data⟩], none⟩) rfl (fun K hK => ?_) AllReadyH.nil
 go_simp
 refine (isDate_is A1 n1 k1 c1 _ _ _ _ _ _ y m d _ (hr1.keep hHeld.2) hs1.1.2 hs1.2 _ hq1).mono ?_
 rintro e' wcb ⟨rfl, hb⟩
 refine hK.out _ _ (kp_step hb hHeld) (fun hHeld => ?_)
 clear hK K
 (try simp only [Act.put, List.setIfInBounds_toArray, List.set_cons_zero, List.set_cons_succ])
 refine wpAnyH_take (i := 4) (oi := ⟨some 35, .move (.tmp 34), 4, "dial.go:240", #[⟨3, .data⟩, ⟨3, .chain⟩], none⟩) (v := ?_) rfl (by kernel_rfl) (by kernel_rfl) (by kernel_rfl) (fun _ _ _ h => h) (Or.inl ⟨by rfl, fun W hSw => ?_⟩) hHeld ?_
 rotate_left
 ·(try dsimp only at hSw); go_simp; (try with_reducible rfl)
 (try simp only [Act.put, List.setIfInBounds_toArray, List.set_cons_zero, List.set_cons_succ])
 refine wpAnyH_take (i := 5) (oi := ⟨some 36, .fieldAddr 96 (.tmp 6) 1, 0, "dial.go:240", #[⟨4, .guard⟩], some (4, true)⟩) (v := undef) rfl (by kernel_rfl) (by kernel_rfl) (by kernel_rfl) (fun _ _ _ h => h) (Or.inr ⟨by rfl, rfl⟩) hHeld ?_
 (try simp only [Act.put, List.setIfInBounds_toArray, List.set_cons_zero, List.set_cons_succ])
 refine wpAnyH_take (i := 6) (oi := ⟨some 37, .load 89 (.tmp 36), 89, "dial.go:240", #[⟨5, .data⟩, ⟨4, .guard⟩], some (4, true)⟩) (v := undef) rfl (by kernel_rfl) (by kernel_rfl) (by kernel_rfl) (fun _ _ _ h => h) (Or.inr ⟨by rfl, rfl⟩) hHeld ?_
 (try simp only [Act.put, List.setIfInBounds_toArray, List.set_cons_zero, List.set_cons_succ])
 refine wpAnyH_take (i := 7) (oi := ⟨some 38, .load 50 (.tmp 3), 50, "dial.go:240", #[⟨4, .guard⟩], some (4, true)⟩) (v := undef) rfl (by kernel_rfl) (by kernel_rfl) (by kernel_rfl) (fun _ _ _ h => h) (Or.inr ⟨by rfl, rfl⟩) hHeld ?_
 (try simp only [Act.put, List.setIfInBounds_toArray, List.set_cons_zero, List.set_cons_succ])
 refine wpAnyH_take (i := 8) (oi := ⟨some 39, .call { callee := .value (.func 52), args := #[.tmp 37, .tmp 38], argTypes := #[89, 50] }, 3, "dial.go:240", #[⟨6, .data⟩, ⟨7, .data⟩, ⟨4, .chain⟩, ⟨4, .guard⟩], some (4, true)⟩) (v := undef) rfl (by kernel_rfl) (by kernel_rfl) (by kernel_rfl) (fun _ _ _ h => h) (Or.inr ⟨by rfl, rfl⟩) hHeld ?_
 (try simp only [Act.put, List.setIfInBounds_toArray, List.set_cons_zero, List.set_cons_succ])
 refine wpAnyH_take (i := 9) (oi := ⟨some 40, .fieldAddr 55 (.tmp 2) 2, 0, "dial.go:240", #[⟨4, .guard⟩], some (4, true)⟩) (v := undef) rfl (by kernel_rfl) (by kernel_rfl) (by kernel_rfl) (fun _ _ _ h => h) (Or.inr ⟨by rfl, rfl⟩) hHeld ?_
 (try simp only [Act.put, List.setIfInBounds_toArray, List.set_cons_zero, List.set_cons_succ])
 refine wpAnyH_take (i := 10) (oi := ⟨some 41, .load 3 (.tmp 40), 3, "dial.go:240", #[⟨9, .data⟩, ⟨4, .guard⟩], some (4, true)⟩) (v := undef) rfl (by kernel_rfl) (by kernel_rfl) (by kernel_rfl) (fun _ _ _ h => h) (Or.inr ⟨by rfl, rfl⟩) hHeld ?_
 (try simp only [Act.put, List.setIfInBounds_toArray, List.set_cons_zero, List.set_cons_succ])
 refine wpAnyH_take (i := 11) (oi := ⟨some 42, .binOp .leq 3 (.tmp 39) (.tmp 41) 3, 4, "dial.go:240", #[⟨8, .data⟩, ⟨10, .data⟩, ⟨4, .guard⟩], some (4, true)⟩) (v := undef) rfl (by kernel_rfl) (by kernel_rfl) (by kernel_rfl) (fun _ _ _ h => h) (Or.inr ⟨by rfl, rfl⟩) hHeld ?_
 (try simp only [Act.put, List.setIfInBounds_toArray, List.set_cons_zero, List.set_cons_succ])
 refine wpAnyH_take (i := 12) (oi := ⟨some 43, .pick (.tmp 35) (.tmp 42) (.const (.bool false)), 4, "dial.go:240", #[⟨4, .data⟩, ⟨11, .data⟩], none⟩) (v := ?_) rfl (by kernel_rfl) (by kernel_rfl) (by kernel_rfl) (fun _ _ _ h => h) (Or.inl ⟨by rfl, fun W hSw => ?_⟩) hHeld ?_
 rotate_left
 ·(try dsimp only at hSw); go_simp; (try with_reducible rfl)
 (try simp only [Act.put, List.setIfInBounds_toArray, List.set_cons_zero, List.set_cons_succ])
 refine wpAnyH_done (by kernel_rfl) ?_ _
 refine NoPanic.normal ?_
 replace hX := hX.keep hHeld.2
 replace hR := hR.keep hHeld.2
 replace hD := hD.keep hHeld.2
 replace hr1 := hr1.keep hHeld.2
 replace hr2 := hr2.keep hHeld.2
 replace hF1 := hF1.keep hHeld.2
 replace hF2 := hF2.keep hHeld.2
 replace hfr := fr_call hfr hHeld.2
 replace hown := hown.keep hHeld.2
 clear hHeld hcX hcR hcD hxl hrl hdl
 have hcX := fun j => hX.cell j
 have hcR := fun j => hR.cell j
 have hcD := fun j => hD.cell j
 have hxl := hX.lt
 have hrl := hR.lt
 have hdl := hD.lt
 go_wp2_with fail
 refine wp_region_noPanic ?_
 refine wp_region_held_drew (S := fun W => (∀ p : Addr, p.block < (wcb).heap.size → W.cell? p = (wcb).cell? p) ∧ Below (wcb).heap.size (wcb) W) (by kernel_rfl) ⟨fun _ _ => rfl, fr_drew (fr_refl _)⟩ (fun hHeld => ?_)
 -- the region, step by step
 refine wpAnyH_take (i := 0) (oi := ⟨some 51, .fieldAddr 96 (.tmp 6) 2, 0, "dial.go:243", #[], none⟩) (v := ?_) rfl (by kernel_rfl) (by kernel_rfl) (by kernel_rfl) (fun _ _ _ h => h) (Or.inl ⟨by rfl, fun W hSw => ?_⟩) hHeld ?_
 rotate_left
 ·(try dsimp only at hSw); go_simp; (try with_reducible rfl)
 (try simp only [Act.put, List.setIfInBounds_toArray, List.set_cons_zero, List.set_cons_succ])
 refine wpAnyH_take (i := 1) (oi := ⟨some 52, .load 89 (.tmp 51), 89, "dial.go:243", #[⟨0, .data⟩], none⟩) (v := ?_) rfl (by kernel_rfl) (by kernel_rfl) (by kernel_rfl) (fun _ _ _ h => h) (Or.inl ⟨by rfl, fun W hSw => ?_⟩) hHeld ?_
 rotate_left
 ·(try dsimp only at hSw); go_simp; (try with_reducible rfl)
 (try simp only [Act.put, List.setIfInBounds_toArray, List.set_cons_zero, List.set_cons_succ])
 refine wpAnyH_take (i := 2) (oi := ⟨some 53, .load 50 (.tmp 3), 50, "dial.go:243", #[], none⟩) (v := ?_) rfl (by kernel_rfl) (by kernel_rfl) (by kernel_rfl) (fun _ _ _ h => h) (Or.inl ⟨by rfl, fun W hSw => ?_⟩) hHeld ?_
 rotate_left
 ·(try dsimp only at hSw); go_simp; (try with_reducible rfl)
 (try simp only [Act.put, List.setIfInBounds_toArray, List.set_cons_zero, List.set_cons_succ])
 refine wpAnyH_ready (rs := [3]) (by kernel_rfl) (by simp) ?_
 refine AllReadyH.cons (o := ⟨some 54, .call { callee := .value (.func 51), args := #[.tmp 52, .tmp 53], argTypes := #[89, 50] }, 4, "dial.go:243", #[⟨1, .data⟩, ⟨2, .data⟩], none⟩) rfl (fun K hK => ?_) AllReadyH.nil
 go_simp
 refine (isDate_is A2 n2 k2 c2 _ _ _ _ _ _ y m d _ (hr2.keep hHeld.2) hs2.1.2 hs2.2 _ hq2).mono ?_
 rintro e' wcbb ⟨rfl, hb⟩
 refine hK.out _ _ (kp_step hb hHeld) (fun hHeld => ?_)
 clear hK K
 (try simp only [Act.put, List.setIfInBounds_toArray, List.set_cons_zero, List.set_cons_succ])
 refine wpAnyH_take (i := 4) (oi := ⟨some 55, .move (.tmp 54), 4, "dial.go:243", #[⟨3, .data⟩, ⟨3, .chain⟩], none⟩) (v := ?_) rfl (by kernel_rfl) (by kernel_rfl) (by kernel_rfl) (fun _ _ _ h => h) (Or.inl ⟨by rfl, fun W hSw => ?_⟩) hHeld ?_
 rotate_left
 ·(try dsimp only at hSw); go_simp; (try with_reducible rfl)
 (try simp only [Act.put, List.setIfInBounds_toArray, List.set_cons_zero, List.set_cons_succ])
 refine wpAnyH_take (i := 5) (oi := ⟨some 56, .fieldAddr 96 (.tmp 6) 2, 0, "dial.go:243", #[⟨4, .guard⟩], some (4, true)⟩) (v := ?_) rfl (by kernel_rfl) (by kernel_rfl) (by kernel_rfl) (fun _ _ _ h => h) (Or.inl ⟨by rfl, fun W hSw => ?_⟩) hHeld ?_
 rotate_left
 ·(try dsimp only at hSw); go_simp; (try with_reducible rfl)
 (try simp only [Act.put, List.setIfInBounds_toArray, List.set_cons_zero, List.set_cons_succ])
 refine wpAnyH_take (i := 6) (oi := ⟨some 57, .load 89 (.tmp 56), 89, "dial.go:243", #[⟨5, .data⟩, ⟨4, .guard⟩], some (4, true)⟩) (v := ?_) rfl (by kernel_rfl) (by kernel_rfl) (by kernel_rfl) (fun _ _ _ h => h) (Or.inl ⟨by rfl, fun W hSw => ?_⟩) hHeld ?_
 rotate_left
 ·(try dsimp only at hSw); go_simp; (try with_reducible rfl)
 (try simp only [Act.put, List.setIfInBounds_toArray, List.set_cons_zero, List.set_cons_succ])
 refine wpAnyH_take (i := 7) (oi := ⟨some 58, .load 50 (.tmp 3), 50, "dial.go:243", #[⟨4, .guard⟩], some (4, true)⟩) (v := ?_) rfl (by kernel_rfl) (by kernel_rfl) (by kernel_rfl) (fun _ _ _ h => h) (Or.inl ⟨by rfl, fun W hSw => ?_⟩) hHeld ?_
 rotate_left
 ·(try dsimp only at hSw); go_simp; (try with_reducible rfl)
 (try simp only [Act.put, List.setIfInBounds_toArray, List.set_cons_zero, List.set_cons_succ])
 refine wpAnyH_take (i := 9) (oi := ⟨some 60, .fieldAddr 55 (.tmp 2) 2, 0, "dial.go:243", #[⟨4, .guard⟩], some (4, true)⟩) (v := ?_) rfl (by kernel_rfl) (by kernel_rfl) (by kernel_rfl) (fun _ _ _ h => h) (Or.inl ⟨by rfl, fun W hSw => ?_⟩) hHeld ?_
 rotate_left
 ·(try dsimp only at hSw); go_simp; (try with_reducible rfl)
 (try simp only [Act.put, List.setIfInBounds_toArray, List.set_cons_zero, List.set_cons_succ])
 refine wpAnyH_take (i := 10) (oi := ⟨some 61, .load 3 (.tmp 60), 3, "dial.go:243", #[⟨9, .data⟩, ⟨4, .guard⟩], some (4, true)⟩) (v := ?_) rfl (by kernel_rfl) (by kernel_rfl) (by kernel_rfl) (fun _ _ _ h => h) (Or.inl ⟨by rfl, fun W hSw => ?_⟩) hHeld ?_
 rotate_left
 ·(try dsimp only at hSw); go_simp; (try with_reducible rfl)
 (try simp only [Act.put, List.setIfInBounds_toArray, List.set_cons_zero, List.set_cons_succ])
 refine wpAnyH_ready (rs := [8]) (by kernel_rfl) (by simp) ?_
 refine AllReadyH.cons (o := ⟨some 59, .call { callee := .value (.func 52), args := #[.tmp 57, .tmp 58], argTypes := #[89, 50] }, 3, "dial.go:243", #[⟨6, .data⟩, ⟨7, .data⟩, ⟨4, .chain⟩, ⟨4, .guard⟩], some (4, true)⟩) rfl (fun K hK => ?_) AllReadyH.nil
 go_simp
 refine (day_any A2 F2 n2 k2 f2 c2 e2 _ _ _ _ y m d _ (hr2.keep hHeld.2) hs2.1.2 hs2.2 (hF2.keep hHeld.2) he2 hy hm hd).mono ?_
 rw [Q2.out]
 rintro e' wcbc ⟨rfl, hb⟩
 refine hK.out _ _ (kp_step hb hHeld) (fun hHeld => ?_)
 clear hK K
 (try simp only [Act.put, List.setIfInBounds_toArray, List.set_cons_zero, List.set_cons_succ])
 refine wpAnyH_take (i := 11) (oi := ⟨some 62, .binOp .gtr 3 (.tmp 59) (.tmp 61) 3, 4, "dial.go:243", #[⟨8, .data⟩, ⟨10, .data⟩, ⟨4, .guard⟩], some (4, true)⟩) (v := ?_) rfl (by kernel_rfl) (by kernel_rfl) (by kernel_rfl) (fun _ _ _ h => h) (Or.inl ⟨by rfl, fun W hSw => ?_⟩) hHeld ?_
 rotate_left
 ·(try dsimp only at hSw); go_simp; (try with_reducible rfl)
 (try simp only [Act.put, List.setIfInBounds_toArray, List.set_cons_zero, List.set_cons_succ])
 refine wpAnyH_take (i := 12) (oi := ⟨some 63, .pick (.tmp 55) (.tmp 62) (.const (.bool false)), 4, "dial.go:243", #[⟨4, .data⟩, ⟨11, .data⟩], none⟩) (v := ?_) rfl (by kernel_rfl) (by kernel_rfl) (by kernel_rfl) (fun _ _ _ h => h) (Or.inl ⟨by rfl, fun W hSw => ?_⟩) hHeld ?_
 rotate_left
 ·(try dsimp only at hSw); go_simp; (try with_reducible rfl)
 (try simp only [Act.put, List.setIfInBounds_toArray, List.set_cons_zero, List.set_cons_succ])
 refine wpAnyH_done (by kernel_rfl) ?_ _
 refine NoPanic.normal ?_
 replace hX := hX.keep hHeld.2
 replace hR := hR.keep hHeld.2
 replace hD := hD.keep hHeld.2
 replace hr1 := hr1.keep hHeld.2
 replace hr2 := hr2.keep hHeld.2
 replace hF1 := hF1.keep hHeld.2
 replace hF2 := hF2.keep hHeld.2
 replace hfr := fr_call hfr hHeld.2
 replace hown := hown.keep hHeld.2
 clear hHeld hcX hcR hcD hxl hrl hdl
 go_wp2
 go_ret2
 exact ⟨_, _, rfl, hown.rd, hfr⟩

set_option maxRecDepth 100000 in
set_option maxHeartbeats 4000000 in
theorem Days_02 (A1 A2 : Option Addr) (n1 k1 n2 k2 : Nat) (c1 c2 : List Int) (e1 e2 last y m d : Int) (w : World) (hr1 : Rd w A1 n1 c1) (hr2 : Rd w A2 n2 c2) (hn1 : n1 ≤ 9223372036854775807) (hn2 : n2 ≤ 9223372036854775807) (hok : realmOk e1 c1 e2 c2 last = true) (hwr : writtenB y m d = true) (hq1 : realB c1 y m d = false) (hq2 : realB c2 y m d = true) (q2 : Int) (hQ2 : dayOf e2 c2 ⟨y, m, d⟩ = q2) (hl2 : last < q2) :
  Calls Tryz.prog 25 #[.agg #[.int .i64 e1, .slice A1 n1 k1, .int .i64 e2, .slice A2 n2 k2, .int .i64 last], .agg #[.int .i64 y, .int .i64 m, .int .i64 d]] w fun e' w' =>
   ∃ A c, e' = .returned (.tuple #[.slice A (daysOf e1 c1 e2 c2 last y m d).length c, .int .i64 0]) ∧ Rd w' A (daysOf e1 c1 e2 c2 last y m d).length (daysOf e1 c1 e2 c2 last y m d) ∧ Below w.heap.size w w' := by
 have hL : daysOf e1 c1 e2 c2 last y m d = [] ++ [q2] := by
  unfold daysOf
  rw [hq1, hq2, hQ2]
  rw [if_neg (by simp)]
  rw [if_pos (by simpa using hl2)]
 rw [hL]
 simp only [List.nil_append]
 have Q2 := Lib.hid hQ2
 clear hQ2
 clear hL
 obtain ⟨hk1, hk2⟩ : calOk e1 c1 = true ∧ calOk e2 c2 = true := by
  unfold realmOk at hok
  simp only [Bool.and_eq_true] at hok
  exact hok.1
 obtain ⟨he1, hs1⟩ := calOk_parts hk1
 obtain ⟨he2, hs2⟩ := calOk_parts hk2
 rw [hr1.len] at hs1
 rw [hr2.len] at hs2
 obtain ⟨w1, w2, w3⟩ : inB y 0 4000 = true ∧ inB m 1 12 = true ∧ inB d 1 31 = true := by
  unfold writtenB at hwr
  simp only [Bool.and_eq_true] at hwr
  exact ⟨hwr.1.1, hwr.1.2, hwr.2⟩
 have hy := inB_iff.1 w1
 have hm := inB_iff.1 w2
 have hd := inB_iff.1 w3
 have g1 := fr_alloc (fr_alloc (fr_refl w) (.cells #[.int .i64 e1, .slice A1 n1 k1, .int .i64 e2, .slice A2 n2 k2, .int .i64 last] 55)) (.cells #[.int .i64 y, .int .i64 m, .int .i64 d] 50)
 have hR : Blk ((w.alloc (.cells #[.int .i64 e1, .slice A1 n1 k1, .int .i64 e2, .slice A2 n2 k2, .int .i64 last] 55)).alloc (.cells #[.int .i64 y, .int .i64 m, .int .i64 d] 50)) w.heap.size 55 #[.int .i64 e1, .slice A1 n1 k1, .int .i64 e2, .slice A2 n2 k2, .int .i64 last] := (Blk.new w _ _).alloc _
 have hD : Blk ((w.alloc (.cells #[.int .i64 e1, .slice A1 n1 k1, .int .i64 e2, .slice A2 n2 k2, .int .i64 last] 55)).alloc (.cells #[.int .i64 y, .int .i64 m, .int .i64 d] 50)) (w.heap.size + 1) 50 #[.int .i64 y, .int .i64 m, .int .i64 d] := Blk.new_at _ _ (by simp)
 go_enter Tryz.func25, Tryz.ntmps25
 go_wp2_with fail
 refine (isRealm_is A1 A2 n1 k1 n2 k2 c1 c2 e1 e2 last _ (hr1.keep g1) (hr2.keep g1) hn1 hn2 _ hok).mono ?_
 rintro e' wa ⟨rfl, hb1⟩
 obtain ⟨hc_wa, hf_wa⟩ := bcell hb1
 have hz0_wa : w.heap.size < wa.heap.size := Nat.lt_of_lt_of_le (by first | omega | (simp; done) | (simp; omega)) hb1.size
 have hz1_wa : w.heap.size + 1 < wa.heap.size := Nat.lt_of_lt_of_le (by first | omega | (simp; done) | (simp; omega)) hb1.size
 go_wp2_with fail
 refine (isYear_is _ _ _ w1).mono ?_
 rintro e' wa' ⟨rfl, rfl⟩
 go_wp2_with fail
 refine (in_is _ _ _ _ _ w2).mono ?_
 rintro e' wa' ⟨rfl, rfl⟩
 go_wp2_with fail
 refine (in_is _ _ _ _ _ w3).mono ?_
 rintro e' wa' ⟨rfl, rfl⟩
 go_wp2_with fail
 refine (opens_any A1 A2 n1 k1 n2 k2 c1 c2 e1 e2 last _ ((hr1.keep g1).keep hb1) ((hr2.keep g1).keep hb1) hk1 hk2).mono ?_
 rintro e' wb ⟨F1, f1, M1, F2, f2, M2, rfl, hF1, hF2, hb2⟩
 have hZ := Blk.new wb 96 #[.int .i64 0, .slice none 0 0, .int .i64 0, .slice none 0 0, .int .i64 0, .int .i64 0, .slice none 0 0, .int .i64 0, .int .i64 0, .int .i64 0, .slice none 0 0, .map none, .int .i64 0, .slice none 0 0, .int .i64 0, .int .i64 0, .int .i64 0, .slice none 0 0, .map none]
 go_wp2_with (refine wpList_store_blk rfl _ _ _ rfl wb.heap.size 96 _ _ rfl rfl hZ rfl (by kernel_rfl) (by simp [Value.oneCell']) ?_; intro wc hX hgc)
 have hgb : Below wb.heap.size wb wc := (fr_alloc (fr_refl wb) _).grown hgc (by simp) (by intro k hk; cases hk; exact Nat.le_refl _)
 have hbb := fr_call hb2 hgb
 have hfr := fr_call (fr_call g1 hb1) hbb
 replace hR := (hR.keep hb1).keep hbb
 replace hD := (hD.keep hb1).keep hbb
 replace hr1 := ((hr1.keep g1).keep hb1).keep hbb
 replace hr2 := ((hr2.keep g1).keep hb1).keep hbb
 replace hF1 := hF1.keep hgb
 replace hF2 := hF2.keep hgb
 have hown := Own.nil wc w.heap.size
 clear hZ hgc hgb hbb hb1 hb2 hc_wa hf_wa hz0_wa hz1_wa g1
 generalize wb.heap.size = bx at *
 have hcX := fun j => hX.cell j
 have hcR := fun j => hR.cell j
 have hcD := fun j => hD.cell j
 have hxl := hX.lt
 have hrl := hR.lt
 have hdl := hD.lt
 go_wp2_with fail
 refine wp_region_noPanic ?_
 refine wp_region_held_drew (S := fun W => (∀ p : Addr, p.block < (wc).heap.size → W.cell? p = (wc).cell? p) ∧ Below (wc).heap.size (wc) W) (by kernel_rfl) ⟨fun _ _ => rfl, fr_drew (fr_refl _)⟩ (fun hHeld => ?_)
 -- the region, step by step
 refine wpAnyH_take (i := 0) (oi := ⟨some 31, .fieldAddr 96 (.tmp 6) 1, 0, "dial.go:240", #[], none⟩) (v := ?_) rfl (by kernel_rfl) (by kernel_rfl) (by kernel_rfl) (fun _ _ _ h => h) (Or.inl ⟨by rfl, fun W hSw => ?_⟩) hHeld ?_
 rotate_left
 ·(try dsimp only at hSw); go_simp; (try with_reducible rfl)
 (try simp only [Act.put, List.setIfInBounds_toArray, List.set_cons_zero, List.set_cons_succ])
 refine wpAnyH_take (i := 1) (oi := ⟨some 32, .load 89 (.tmp 31), 89, "dial.go:240", #[⟨0, .data⟩], none⟩) (v := ?_) rfl (by kernel_rfl) (by kernel_rfl) (by kernel_rfl) (fun _ _ _ h => h) (Or.inl ⟨by rfl, fun W hSw => ?_⟩) hHeld ?_
 rotate_left
 ·(try dsimp only at hSw); go_simp; (try with_reducible rfl)
 (try simp only [Act.put, List.setIfInBounds_toArray, List.set_cons_zero, List.set_cons_succ])
 refine wpAnyH_take (i := 2) (oi := ⟨some 33, .load 50 (.tmp 3), 50, "dial.go:240", #[], none⟩) (v := ?_) rfl (by kernel_rfl) (by kernel_rfl) (by kernel_rfl) (fun _ _ _ h => h) (Or.inl ⟨by rfl, fun W hSw => ?_⟩) hHeld ?_
 rotate_left
 ·(try dsimp only at hSw); go_simp; (try with_reducible rfl)
 (try simp only [Act.put, List.setIfInBounds_toArray, List.set_cons_zero, List.set_cons_succ])
 refine wpAnyH_ready (rs := [3]) (by kernel_rfl) (by simp) ?_
 refine AllReadyH.cons (o := ⟨some 34, .call { callee := .value (.func 51), args := #[.tmp 32, .tmp 33], argTypes := #[89, 50] }, 4, "dial.go:240", #[⟨1, .data⟩, ⟨2, .data⟩], none⟩) rfl (fun K hK => ?_) AllReadyH.nil
 go_simp
 refine (isDate_is A1 n1 k1 c1 _ _ _ _ _ _ y m d _ (hr1.keep hHeld.2) hs1.1.2 hs1.2 _ hq1).mono ?_
 rintro e' wcb ⟨rfl, hb⟩
 refine hK.out _ _ (kp_step hb hHeld) (fun hHeld => ?_)
 clear hK K
 (try simp only [Act.put, List.setIfInBounds_toArray, List.set_cons_zero, List.set_cons_succ])
 refine wpAnyH_take (i := 4) (oi := ⟨some 35, .move (.tmp 34), 4, "dial.go:240", #[⟨3, .data⟩, ⟨3, .chain⟩], none⟩) (v := ?_) rfl (by kernel_rfl) (by kernel_rfl) (by kernel_rfl) (fun _ _ _ h => h) (Or.inl ⟨by rfl, fun W hSw => ?_⟩) hHeld ?_
 rotate_left
 ·(try dsimp only at hSw); go_simp; (try with_reducible rfl)
 (try simp only [Act.put, List.setIfInBounds_toArray, List.set_cons_zero, List.set_cons_succ])
 refine wpAnyH_take (i := 5) (oi := ⟨some 36, .fieldAddr 96 (.tmp 6) 1, 0, "dial.go:240", #[⟨4, .guard⟩], some (4, true)⟩) (v := undef) rfl (by kernel_rfl) (by kernel_rfl) (by kernel_rfl) (fun _ _ _ h => h) (Or.inr ⟨by rfl, rfl⟩) hHeld ?_
 (try simp only [Act.put, List.setIfInBounds_toArray, List.set_cons_zero, List.set_cons_succ])
 refine wpAnyH_take (i := 6) (oi := ⟨some 37, .load 89 (.tmp 36), 89, "dial.go:240", #[⟨5, .data⟩, ⟨4, .guard⟩], some (4, true)⟩) (v := undef) rfl (by kernel_rfl) (by kernel_rfl) (by kernel_rfl) (fun _ _ _ h => h) (Or.inr ⟨by rfl, rfl⟩) hHeld ?_
 (try simp only [Act.put, List.setIfInBounds_toArray, List.set_cons_zero, List.set_cons_succ])
 refine wpAnyH_take (i := 7) (oi := ⟨some 38, .load 50 (.tmp 3), 50, "dial.go:240", #[⟨4, .guard⟩], some (4, true)⟩) (v := undef) rfl (by kernel_rfl) (by kernel_rfl) (by kernel_rfl) (fun _ _ _ h => h) (Or.inr ⟨by rfl, rfl⟩) hHeld ?_
 (try simp only [Act.put, List.setIfInBounds_toArray, List.set_cons_zero, List.set_cons_succ])
 refine wpAnyH_take (i := 8) (oi := ⟨some 39, .call { callee := .value (.func 52), args := #[.tmp 37, .tmp 38], argTypes := #[89, 50] }, 3, "dial.go:240", #[⟨6, .data⟩, ⟨7, .data⟩, ⟨4, .chain⟩, ⟨4, .guard⟩], some (4, true)⟩) (v := undef) rfl (by kernel_rfl) (by kernel_rfl) (by kernel_rfl) (fun _ _ _ h => h) (Or.inr ⟨by rfl, rfl⟩) hHeld ?_
 (try simp only [Act.put, List.setIfInBounds_toArray, List.set_cons_zero, List.set_cons_succ])
 refine wpAnyH_take (i := 9) (oi := ⟨some 40, .fieldAddr 55 (.tmp 2) 2, 0, "dial.go:240", #[⟨4, .guard⟩], some (4, true)⟩) (v := undef) rfl (by kernel_rfl) (by kernel_rfl) (by kernel_rfl) (fun _ _ _ h => h) (Or.inr ⟨by rfl, rfl⟩) hHeld ?_
 (try simp only [Act.put, List.setIfInBounds_toArray, List.set_cons_zero, List.set_cons_succ])
 refine wpAnyH_take (i := 10) (oi := ⟨some 41, .load 3 (.tmp 40), 3, "dial.go:240", #[⟨9, .data⟩, ⟨4, .guard⟩], some (4, true)⟩) (v := undef) rfl (by kernel_rfl) (by kernel_rfl) (by kernel_rfl) (fun _ _ _ h => h) (Or.inr ⟨by rfl, rfl⟩) hHeld ?_
 (try simp only [Act.put, List.setIfInBounds_toArray, List.set_cons_zero, List.set_cons_succ])
 refine wpAnyH_take (i := 11) (oi := ⟨some 42, .binOp .leq 3 (.tmp 39) (.tmp 41) 3, 4, "dial.go:240", #[⟨8, .data⟩, ⟨10, .data⟩, ⟨4, .guard⟩], some (4, true)⟩) (v := undef) rfl (by kernel_rfl) (by kernel_rfl) (by kernel_rfl) (fun _ _ _ h => h) (Or.inr ⟨by rfl, rfl⟩) hHeld ?_
 (try simp only [Act.put, List.setIfInBounds_toArray, List.set_cons_zero, List.set_cons_succ])
 refine wpAnyH_take (i := 12) (oi := ⟨some 43, .pick (.tmp 35) (.tmp 42) (.const (.bool false)), 4, "dial.go:240", #[⟨4, .data⟩, ⟨11, .data⟩], none⟩) (v := ?_) rfl (by kernel_rfl) (by kernel_rfl) (by kernel_rfl) (fun _ _ _ h => h) (Or.inl ⟨by rfl, fun W hSw => ?_⟩) hHeld ?_
 rotate_left
 ·(try dsimp only at hSw); go_simp; (try with_reducible rfl)
 (try simp only [Act.put, List.setIfInBounds_toArray, List.set_cons_zero, List.set_cons_succ])
 refine wpAnyH_done (by kernel_rfl) ?_ _
 refine NoPanic.normal ?_
 replace hX := hX.keep hHeld.2
 replace hR := hR.keep hHeld.2
 replace hD := hD.keep hHeld.2
 replace hr1 := hr1.keep hHeld.2
 replace hr2 := hr2.keep hHeld.2
 replace hF1 := hF1.keep hHeld.2
 replace hF2 := hF2.keep hHeld.2
 replace hfr := fr_call hfr hHeld.2
 replace hown := hown.keep hHeld.2
 clear hHeld hcX hcR hcD hxl hrl hdl
 have hcX := fun j => hX.cell j
 have hcR := fun j => hR.cell j
 have hcD := fun j => hD.cell j
 have hxl := hX.lt
 have hrl := hR.lt
 have hdl := hD.lt
 go_wp2_with fail
 refine wp_region_noPanic ?_
 refine wp_region_held_drew (S := fun W => (∀ p : Addr, p.block < (wcb).heap.size → W.cell? p = (wcb).cell? p) ∧ Below (wcb).heap.size (wcb) W) (by kernel_rfl) ⟨fun _ _ => rfl, fr_drew (fr_refl _)⟩ (fun hHeld => ?_)
 -- the region, step by step
 refine wpAnyH_take (i := 0) (oi := ⟨some 51, .fieldAddr 96 (.tmp 6) 2, 0, "dial.go:243", #[], none⟩) (v := ?_) rfl (by kernel_rfl) (by kernel_rfl) (by kernel_rfl) (fun _ _ _ h => h) (Or.inl ⟨by rfl, fun W hSw => ?_⟩) hHeld ?_
 rotate_left
 ·(try dsimp only at hSw); go_simp; (try with_reducible rfl)
 (try simp only [Act.put, List.setIfInBounds_toArray, List.set_cons_zero, List.set_cons_succ])
 refine wpAnyH_take (i := 1) (oi := ⟨some 52, .load 89 (.tmp 51), 89, "dial.go:243", #[⟨0, .data⟩], none⟩) (v := ?_) rfl (by kernel_rfl) (by kernel_rfl) (by kernel_rfl) (fun _ _ _ h => h) (Or.inl ⟨by rfl, fun W hSw => ?_⟩) hHeld ?_
 rotate_left
 ·(try dsimp only at hSw); go_simp; (try with_reducible rfl)
 (try simp only [Act.put, List.setIfInBounds_toArray, List.set_cons_zero, List.set_cons_succ])
 refine wpAnyH_take (i := 2) (oi := ⟨some 53, .load 50 (.tmp 3), 50, "dial.go:243", #[], none⟩) (v := ?_) rfl (by kernel_rfl) (by kernel_rfl) (by kernel_rfl) (fun _ _ _ h => h) (Or.inl ⟨by rfl, fun W hSw => ?_⟩) hHeld ?_
 rotate_left
 ·(try dsimp only at hSw); go_simp; (try with_reducible rfl)
 (try simp only [Act.put, List.setIfInBounds_toArray, List.set_cons_zero, List.set_cons_succ])
 refine wpAnyH_ready (rs := [3]) (by kernel_rfl) (by simp) ?_
 refine AllReadyH.cons (o := ⟨some 54, .call { callee := .value (.func 51), args := #[.tmp 52, .tmp 53], argTypes := #[89, 50] }, 4, "dial.go:243", #[⟨1, .data⟩, ⟨2, .data⟩], none⟩) rfl (fun K hK => ?_) AllReadyH.nil
 go_simp
 refine (isDate_is A2 n2 k2 c2 _ _ _ _ _ _ y m d _ (hr2.keep hHeld.2) hs2.1.2 hs2.2 _ hq2).mono ?_
 rintro e' wcbb ⟨rfl, hb⟩
 refine hK.out _ _ (kp_step hb hHeld) (fun hHeld => ?_)
 clear hK K
 (try simp only [Act.put, List.setIfInBounds_toArray, List.set_cons_zero, List.set_cons_succ])
 refine wpAnyH_take (i := 4) (oi := ⟨some 55, .move (.tmp 54), 4, "dial.go:243", #[⟨3, .data⟩, ⟨3, .chain⟩], none⟩) (v := ?_) rfl (by kernel_rfl) (by kernel_rfl) (by kernel_rfl) (fun _ _ _ h => h) (Or.inl ⟨by rfl, fun W hSw => ?_⟩) hHeld ?_
 rotate_left
 ·(try dsimp only at hSw); go_simp; (try with_reducible rfl)
 (try simp only [Act.put, List.setIfInBounds_toArray, List.set_cons_zero, List.set_cons_succ])
 refine wpAnyH_take (i := 5) (oi := ⟨some 56, .fieldAddr 96 (.tmp 6) 2, 0, "dial.go:243", #[⟨4, .guard⟩], some (4, true)⟩) (v := ?_) rfl (by kernel_rfl) (by kernel_rfl) (by kernel_rfl) (fun _ _ _ h => h) (Or.inl ⟨by rfl, fun W hSw => ?_⟩) hHeld ?_
 rotate_left
 ·(try dsimp only at hSw); go_simp; (try with_reducible rfl)
 (try simp only [Act.put, List.setIfInBounds_toArray, List.set_cons_zero, List.set_cons_succ])
 refine wpAnyH_take (i := 6) (oi := ⟨some 57, .load 89 (.tmp 56), 89, "dial.go:243", #[⟨5, .data⟩, ⟨4, .guard⟩], some (4, true)⟩) (v := ?_) rfl (by kernel_rfl) (by kernel_rfl) (by kernel_rfl) (fun _ _ _ h => h) (Or.inl ⟨by rfl, fun W hSw => ?_⟩) hHeld ?_
 rotate_left
 ·(try dsimp only at hSw); go_simp; (try with_reducible rfl)
 (try simp only [Act.put, List.setIfInBounds_toArray, List.set_cons_zero, List.set_cons_succ])
 refine wpAnyH_take (i := 7) (oi := ⟨some 58, .load 50 (.tmp 3), 50, "dial.go:243", #[⟨4, .guard⟩], some (4, true)⟩) (v := ?_) rfl (by kernel_rfl) (by kernel_rfl) (by kernel_rfl) (fun _ _ _ h => h) (Or.inl ⟨by rfl, fun W hSw => ?_⟩) hHeld ?_
 rotate_left
 ·(try dsimp only at hSw); go_simp; (try with_reducible rfl)
 (try simp only [Act.put, List.setIfInBounds_toArray, List.set_cons_zero, List.set_cons_succ])
 refine wpAnyH_take (i := 9) (oi := ⟨some 60, .fieldAddr 55 (.tmp 2) 2, 0, "dial.go:243", #[⟨4, .guard⟩], some (4, true)⟩) (v := ?_) rfl (by kernel_rfl) (by kernel_rfl) (by kernel_rfl) (fun _ _ _ h => h) (Or.inl ⟨by rfl, fun W hSw => ?_⟩) hHeld ?_
 rotate_left
 ·(try dsimp only at hSw); go_simp; (try with_reducible rfl)
 (try simp only [Act.put, List.setIfInBounds_toArray, List.set_cons_zero, List.set_cons_succ])
 refine wpAnyH_take (i := 10) (oi := ⟨some 61, .load 3 (.tmp 60), 3, "dial.go:243", #[⟨9, .data⟩, ⟨4, .guard⟩], some (4, true)⟩) (v := ?_) rfl (by kernel_rfl) (by kernel_rfl) (by kernel_rfl) (fun _ _ _ h => h) (Or.inl ⟨by rfl, fun W hSw => ?_⟩) hHeld ?_
 rotate_left
 ·(try dsimp only at hSw); go_simp; (try with_reducible rfl)
 (try simp only [Act.put, List.setIfInBounds_toArray, List.set_cons_zero, List.set_cons_succ])
 refine wpAnyH_ready (rs := [8]) (by kernel_rfl) (by simp) ?_
 refine AllReadyH.cons (o := ⟨some 59, .call { callee := .value (.func 52), args := #[.tmp 57, .tmp 58], argTypes := #[89, 50] }, 3, "dial.go:243", #[⟨6, .data⟩, ⟨7, .data⟩, ⟨4, .chain⟩, ⟨4, .guard⟩], some (4, true)⟩) rfl (fun K hK => ?_) AllReadyH.nil
 go_simp
 refine (day_any A2 F2 n2 k2 f2 c2 e2 _ _ _ _ y m d _ (hr2.keep hHeld.2) hs2.1.2 hs2.2 (hF2.keep hHeld.2) he2 hy hm hd).mono ?_
 rw [Q2.out]
 rintro e' wcbc ⟨rfl, hb⟩
 refine hK.out _ _ (kp_step hb hHeld) (fun hHeld => ?_)
 clear hK K
 (try simp only [Act.put, List.setIfInBounds_toArray, List.set_cons_zero, List.set_cons_succ])
 refine wpAnyH_take (i := 11) (oi := ⟨some 62, .binOp .gtr 3 (.tmp 59) (.tmp 61) 3, 4, "dial.go:243", #[⟨8, .data⟩, ⟨10, .data⟩, ⟨4, .guard⟩], some (4, true)⟩) (v := ?_) rfl (by kernel_rfl) (by kernel_rfl) (by kernel_rfl) (fun _ _ _ h => h) (Or.inl ⟨by rfl, fun W hSw => ?_⟩) hHeld ?_
 rotate_left
 ·(try dsimp only at hSw); go_simp; (try with_reducible rfl)
 (try simp only [Act.put, List.setIfInBounds_toArray, List.set_cons_zero, List.set_cons_succ])
 refine wpAnyH_take (i := 12) (oi := ⟨some 63, .pick (.tmp 55) (.tmp 62) (.const (.bool false)), 4, "dial.go:243", #[⟨4, .data⟩, ⟨11, .data⟩], none⟩) (v := ?_) rfl (by kernel_rfl) (by kernel_rfl) (by kernel_rfl) (fun _ _ _ h => h) (Or.inl ⟨by rfl, fun W hSw => ?_⟩) hHeld ?_
 rotate_left
 ·(try dsimp only at hSw); go_simp; (try with_reducible rfl)
 (try simp only [Act.put, List.setIfInBounds_toArray, List.set_cons_zero, List.set_cons_succ])
 refine wpAnyH_done (by kernel_rfl) ?_ _
 refine NoPanic.normal ?_
 replace hX := hX.keep hHeld.2
 replace hR := hR.keep hHeld.2
 replace hD := hD.keep hHeld.2
 replace hr1 := hr1.keep hHeld.2
 replace hr2 := hr2.keep hHeld.2
 replace hF1 := hF1.keep hHeld.2
 replace hF2 := hF2.keep hHeld.2
 replace hfr := fr_call hfr hHeld.2
 replace hown := hown.keep hHeld.2
 clear hHeld hcX hcR hcD hxl hrl hdl
 have hcX := fun j => hX.cell j
 have hcD := fun j => hD.cell j
 go_wp2_with fail
 refine (day_any A2 F2 n2 k2 f2 c2 e2 _ _ _ _ y m d _ hr2 hs2.1.2 hs2.2 hF2 he2 hy hm hd).mono ?_
 rw [Q2.out]
 rintro e' wcbd ⟨rfl, hb⟩
 replace hX := hX.keep hb
 replace hR := hR.keep hb
 replace hD := hD.keep hb
 replace hr1 := hr1.keep hb
 replace hr2 := hr2.keep hb
 replace hF1 := hF1.keep hb
 replace hF2 := hF2.keep hb
 replace hfr := fr_call hfr hb
 replace hown := hown.keep hb
 clear hb hcX hcD
 go_wp2_with (at_builtin; refine app_int rfl (.tmp 64) (.tmp 69) rfl w.heap.size _ [] rfl rfl hown (by simp) hfr.size ?_; intro B2 cap2 wcbe hown' hg)
 have ha := fr_alloc (fr_refl wcbd) (.cells #[.int .i64 q2] 3)
 have hge := own_ge hown
 have hX' := (hX.keep ha).grown hg (Ne.symm (own_blk_ne hown hX (by decide)))
 have hR' := (hR.keep ha).grown hg (Ne.symm (own_blk_ne hown hR (by decide)))
 have hD' := (hD.keep ha).grown hg (Ne.symm (own_blk_ne hown hD (by decide)))
 replace hfr := (fr_call hfr ha).grown hg (fr_call hfr ha).size hge
 replace hX := hX'
 replace hR := hR'
 replace hD := hD'
 replace hown := hown'
 clear hown' hX' hR' hD' hg hge ha
 go_wp2
 go_ret2
 exact ⟨_, _, rfl, hown.rd, hfr⟩

set_option maxRecDepth 100000 in
set_option maxHeartbeats 4000000 in
theorem Days_10 (A1 A2 : Option Addr) (n1 k1 n2 k2 : Nat) (c1 c2 : List Int) (e1 e2 last y m d : Int) (w : World) (hr1 : Rd w A1 n1 c1) (hr2 : Rd w A2 n2 c2) (hn1 : n1 ≤ 9223372036854775807) (hn2 : n2 ≤ 9223372036854775807) (hok : realmOk e1 c1 e2 c2 last = true) (hwr : writtenB y m d = true) (hq1 : realB c1 y m d = true) (q1 : Int) (hQ1 : dayOf e1 c1 ⟨y, m, d⟩ = q1) (hl1 : ¬ q1 ≤ last) (hq2 : realB c2 y m d = false) :
  Calls Tryz.prog 25 #[.agg #[.int .i64 e1, .slice A1 n1 k1, .int .i64 e2, .slice A2 n2 k2, .int .i64 last], .agg #[.int .i64 y, .int .i64 m, .int .i64 d]] w fun e' w' =>
   ∃ A c, e' = .returned (.tuple #[.slice A (daysOf e1 c1 e2 c2 last y m d).length c, .int .i64 0]) ∧ Rd w' A (daysOf e1 c1 e2 c2 last y m d).length (daysOf e1 c1 e2 c2 last y m d) ∧ Below w.heap.size w w' := by
 have hL : daysOf e1 c1 e2 c2 last y m d = [] ++ [] := by
  unfold daysOf
  rw [hq1, hq2, hQ1]
  rw [if_neg (by simpa using hl1)]
  rw [if_neg (by simp)]
 rw [hL]
 simp only [List.append_nil]
 have Q1 := Lib.hid hQ1
 clear hQ1
 clear hL
 obtain ⟨hk1, hk2⟩ : calOk e1 c1 = true ∧ calOk e2 c2 = true := by
  unfold realmOk at hok
  simp only [Bool.and_eq_true] at hok
  exact hok.1
 obtain ⟨he1, hs1⟩ := calOk_parts hk1
 obtain ⟨he2, hs2⟩ := calOk_parts hk2
 rw [hr1.len] at hs1
 rw [hr2.len] at hs2
 obtain ⟨w1, w2, w3⟩ : inB y 0 4000 = true ∧ inB m 1 12 = true ∧ inB d 1 31 = true := by
  unfold writtenB at hwr
  simp only [Bool.and_eq_true] at hwr
  exact ⟨hwr.1.1, hwr.1.2, hwr.2⟩
 have hy := inB_iff.1 w1
 have hm := inB_iff.1 w2
 have hd := inB_iff.1 w3
 have g1 := fr_alloc (fr_alloc (fr_refl w) (.cells #[.int .i64 e1, .slice A1 n1 k1, .int .i64 e2, .slice A2 n2 k2, .int .i64 last] 55)) (.cells #[.int .i64 y, .int .i64 m, .int .i64 d] 50)
 have hR : Blk ((w.alloc (.cells #[.int .i64 e1, .slice A1 n1 k1, .int .i64 e2, .slice A2 n2 k2, .int .i64 last] 55)).alloc (.cells #[.int .i64 y, .int .i64 m, .int .i64 d] 50)) w.heap.size 55 #[.int .i64 e1, .slice A1 n1 k1, .int .i64 e2, .slice A2 n2 k2, .int .i64 last] := (Blk.new w _ _).alloc _
 have hD : Blk ((w.alloc (.cells #[.int .i64 e1, .slice A1 n1 k1, .int .i64 e2, .slice A2 n2 k2, .int .i64 last] 55)).alloc (.cells #[.int .i64 y, .int .i64 m, .int .i64 d] 50)) (w.heap.size + 1) 50 #[.int .i64 y, .int .i64 m, .int .i64 d] := Blk.new_at _ _ (by simp)
 go_enter Tryz.func25, Tryz.ntmps25
 go_wp2_with fail
 refine (isRealm_is A1 A2 n1 k1 n2 k2 c1 c2 e1 e2 last _ (hr1.keep g1) (hr2.keep g1) hn1 hn2 _ hok).mono ?_
 rintro e' wa ⟨rfl, hb1⟩
 obtain ⟨hc_wa, hf_wa⟩ := bcell hb1
 have hz0_wa : w.heap.size < wa.heap.size := Nat.lt_of_lt_of_le (by first | omega | (simp; done) | (simp; omega)) hb1.size
 have hz1_wa : w.heap.size + 1 < wa.heap.size := Nat.lt_of_lt_of_le (by first | omega | (simp; done) | (simp; omega)) hb1.size
 go_wp2_with fail
 refine (isYear_is _ _ _ w1).mono ?_
 rintro e' wa' ⟨rfl, rfl⟩
 go_wp2_with fail
 refine (in_is _ _ _ _ _ w2).mono ?_
 rintro e' wa' ⟨rfl, rfl⟩
 go_wp2_with fail
 refine (in_is _ _ _ _ _ w3).mono ?_
 rintro e' wa' ⟨rfl, rfl⟩
 go_wp2_with fail
 refine (opens_any A1 A2 n1 k1 n2 k2 c1 c2 e1 e2 last _ ((hr1.keep g1).keep hb1) ((hr2.keep g1).keep hb1) hk1 hk2).mono ?_
 rintro e' wb ⟨F1, f1, M1, F2, f2, M2, rfl, hF1, hF2, hb2⟩
 have hZ := Blk.new wb 96 #[.int .i64 0, .slice none 0 0, .int .i64 0, .slice none 0 0, .int .i64 0, .int .i64 0, .slice none 0 0, .int .i64 0, .int .i64 0, .int .i64 0, .slice none 0 0, .map none, .int .i64 0, .slice none 0 0, .int .i64 0, .int .i64 0, .int .i64 0, .slice none 0 0, .map none]
 go_wp2_with (refine wpList_store_blk rfl _ _ _ rfl wb.heap.size 96 _ _ rfl rfl hZ rfl (by kernel_rfl) (by simp [Value.oneCell']) ?_; intro wc hX hgc)
 have hgb : Below wb.heap.size wb wc := (fr_alloc (fr_refl wb) _).grown hgc (by simp) (by intro k hk; cases hk; exact Nat.le_refl _)
 have hbb := fr_call hb2 hgb
 have hfr := fr_call (fr_call g1 hb1) hbb
 replace hR := (hR.keep hb1).keep hbb
 replace hD := (hD.keep hb1).keep hbb
 replace hr1 := ((hr1.keep g1).keep hb1).keep hbb
 replace hr2 := ((hr2.keep g1).keep hb1).keep hbb
 replace hF1 := hF1.keep hgb
 replace hF2 := hF2.keep hgb
 have hown := Own.nil wc w.heap.size
 clear hZ hgc hgb hbb hb1 hb2 hc_wa hf_wa hz0_wa hz1_wa g1
 generalize wb.heap.size = bx at *
 have hcX := fun j => hX.cell j
 have hcR := fun j => hR.cell j
 have hcD := fun j => hD.cell j
 have hxl := hX.lt
 have hrl := hR.lt
 have hdl := hD.lt
 go_wp2_with fail
 refine wp_region_noPanic ?_
 refine wp_region_held_drew (S := fun W => (∀ p : Addr, p.block < (wc).heap.size → W.cell? p = (wc).cell? p) ∧ Below (wc).heap.size (wc) W) (by kernel_rfl) ⟨fun _ _ => rfl, fr_drew (fr_refl _)⟩ (fun hHeld => ?_)
 -- the region, step by step
 refine wpAnyH_take (i := 0) (oi := ⟨some 31, .fieldAddr 96 (.tmp 6) 1, 0, "dial.go:240", #[], none⟩) (v := ?_) rfl (by kernel_rfl) (by kernel_rfl) (by kernel_rfl) (fun _ _ _ h => h) (Or.inl ⟨by rfl, fun W hSw => ?_⟩) hHeld ?_
 rotate_left
 ·(try dsimp only at hSw); go_simp; (try with_reducible rfl)
 (try simp only [Act.put, List.setIfInBounds_toArray, List.set_cons_zero, List.set_cons_succ])
 refine wpAnyH_take (i := 1) (oi := ⟨some 32, .load 89 (.tmp 31), 89, "dial.go:240", #[⟨0, .data⟩], none⟩) (v := ?_) rfl (by kernel_rfl) (by kernel_rfl) (by kernel_rfl) (fun _ _ _ h => h) (Or.inl ⟨by rfl, fun W hSw => ?_⟩) hHeld ?_
 rotate_left
 ·(try dsimp only at hSw); go_simp; (try with_reducible rfl)
 (try simp only [Act.put, List.setIfInBounds_toArray, List.set_cons_zero, List.set_cons_succ])
 refine wpAnyH_take (i := 2) (oi := ⟨some 33, .load 50 (.tmp 3), 50, "dial.go:240", #[], none⟩) (v := ?_) rfl (by kernel_rfl) (by kernel_rfl) (by kernel_rfl) (fun _ _ _ h => h) (Or.inl ⟨by rfl, fun W hSw => ?_⟩) hHeld ?_
 rotate_left
 ·(try dsimp only at hSw); go_simp; (try with_reducible rfl)
 (try simp only [Act.put, List.setIfInBounds_toArray, List.set_cons_zero, List.set_cons_succ])
 refine wpAnyH_ready (rs := [3]) (by kernel_rfl) (by simp) ?_
 refine AllReadyH.cons (o := ⟨some 34, .call { callee := .value (.func 51), args := #[.tmp 32, .tmp 33], argTypes := #[89, 50] }, 4, "dial.go:240", #[⟨1, .data⟩, ⟨2, .data⟩], none⟩) rfl (fun K hK => ?_) AllReadyH.nil
 go_simp
 refine (isDate_is A1 n1 k1 c1 _ _ _ _ _ _ y m d _ (hr1.keep hHeld.2) hs1.1.2 hs1.2 _ hq1).mono ?_
 rintro e' wcb ⟨rfl, hb⟩
 refine hK.out _ _ (kp_step hb hHeld) (fun hHeld => ?_)
 clear hK K
 (try simp only [Act.put, List.setIfInBounds_toArray, List.set_cons_zero, List.set_cons_succ])
 refine wpAnyH_take (i := 4) (oi := ⟨some 35, .move (.tmp 34), 4, "dial.go:240", #[⟨3, .data⟩, ⟨3, .chain⟩], none⟩) (v := ?_) rfl (by kernel_rfl) (by kernel_rfl) (by kernel_rfl) (fun _ _ _ h => h) (Or.inl ⟨by rfl, fun W hSw => ?_⟩) hHeld ?_
 rotate_left
 ·(try dsimp only at hSw); go_simp; (try with_reducible rfl)
 (try simp only [Act.put, List.setIfInBounds_toArray, List.set_cons_zero, List.set_cons_succ])
 refine wpAnyH_take (i := 5) (oi := ⟨some 36, .fieldAddr 96 (.tmp 6) 1, 0, "dial.go:240", #[⟨4, .guard⟩], some (4, true)⟩) (v := ?_) rfl (by kernel_rfl) (by kernel_rfl) (by kernel_rfl) (fun _ _ _ h => h) (Or.inl ⟨by rfl, fun W hSw => ?_⟩) hHeld ?_
 rotate_left
 ·(try dsimp only at hSw); go_simp; (try with_reducible rfl)
 (try simp only [Act.put, List.setIfInBounds_toArray, List.set_cons_zero, List.set_cons_succ])
 refine wpAnyH_take (i := 6) (oi := ⟨some 37, .load 89 (.tmp 36), 89, "dial.go:240", #[⟨5, .data⟩, ⟨4, .guard⟩], some (4, true)⟩) (v := ?_) rfl (by kernel_rfl) (by kernel_rfl) (by kernel_rfl) (fun _ _ _ h => h) (Or.inl ⟨by rfl, fun W hSw => ?_⟩) hHeld ?_
 rotate_left
 ·(try dsimp only at hSw); go_simp; (try with_reducible rfl)
 (try simp only [Act.put, List.setIfInBounds_toArray, List.set_cons_zero, List.set_cons_succ])
 refine wpAnyH_take (i := 7) (oi := ⟨some 38, .load 50 (.tmp 3), 50, "dial.go:240", #[⟨4, .guard⟩], some (4, true)⟩) (v := ?_) rfl (by kernel_rfl) (by kernel_rfl) (by kernel_rfl) (fun _ _ _ h => h) (Or.inl ⟨by rfl, fun W hSw => ?_⟩) hHeld ?_
 rotate_left
 ·(try dsimp only at hSw); go_simp; (try with_reducible rfl)
 (try simp only [Act.put, List.setIfInBounds_toArray, List.set_cons_zero, List.set_cons_succ])
 refine wpAnyH_take (i := 9) (oi := ⟨some 40, .fieldAddr 55 (.tmp 2) 2, 0, "dial.go:240", #[⟨4, .guard⟩], some (4, true)⟩) (v := ?_) rfl (by kernel_rfl) (by kernel_rfl) (by kernel_rfl) (fun _ _ _ h => h) (Or.inl ⟨by rfl, fun W hSw => ?_⟩) hHeld ?_
 rotate_left
 ·(try dsimp only at hSw); go_simp; (try with_reducible rfl)
 (try simp only [Act.put, List.setIfInBounds_toArray, List.set_cons_zero, List.set_cons_succ])
 refine wpAnyH_take (i := 10) (oi := ⟨some 41, .load 3 (.tmp 40), 3, "dial.go:240", #[⟨9, .data⟩, ⟨4, .guard⟩], some (4, true)⟩) (v := ?_) rfl (by kernel_rfl) (by kernel_rfl) (by kernel_rfl) (fun _ _ _ h => h) (Or.inl ⟨by rfl, fun W hSw => ?_⟩) hHeld ?_
 rotate_left
 ·(try dsimp only at hSw); go_simp; (try with_reducible rfl)
 (try simp only [Act.put, List.setIfInBounds_toArray, List.set_cons_zero, List.set_cons_succ])
 refine wpAnyH_ready (rs := [8]) (by kernel_rfl) (by simp) ?_
 refine AllReadyH.cons (o := ⟨some 39, .call { callee := .value (.func 52), args := #[.tmp 37, .tmp 38], argTypes := #[89, 50] }, 3, "dial.go:240", #[⟨6, .data⟩, ⟨7, .data⟩, ⟨4, .chain⟩, ⟨4, .guard⟩], some (4, true)⟩) rfl (fun K hK => ?_) AllReadyH.nil
 go_simp
 refine (day_any A1 F1 n1 k1 f1 c1 e1 _ _ _ _ y m d _ (hr1.keep hHeld.2) hs1.1.2 hs1.2 (hF1.keep hHeld.2) he1 hy hm hd).mono ?_
 rw [Q1.out]
 rintro e' wcc ⟨rfl, hb⟩
 refine hK.out _ _ (kp_step hb hHeld) (fun hHeld => ?_)
 clear hK K
 (try simp only [Act.put, List.setIfInBounds_toArray, List.set_cons_zero, List.set_cons_succ])
 refine wpAnyH_take (i := 11) (oi := ⟨some 42, .binOp .leq 3 (.tmp 39) (.tmp 41) 3, 4, "dial.go:240", #[⟨8, .data⟩, ⟨10, .data⟩, ⟨4, .guard⟩], some (4, true)⟩) (v := ?_) rfl (by kernel_rfl) (by kernel_rfl) (by kernel_rfl) (fun _ _ _ h => h) (Or.inl ⟨by rfl, fun W hSw => ?_⟩) hHeld ?_
 rotate_left
 ·(try dsimp only at hSw); go_simp; (try with_reducible rfl)
 (try simp only [Act.put, List.setIfInBounds_toArray, List.set_cons_zero, List.set_cons_succ])
 refine wpAnyH_take (i := 12) (oi := ⟨some 43, .pick (.tmp 35) (.tmp 42) (.const (.bool false)), 4, "dial.go:240", #[⟨4, .data⟩, ⟨11, .data⟩], none⟩) (v := ?_) rfl (by kernel_rfl) (by kernel_rfl) (by kernel_rfl) (fun _ _ _ h => h) (Or.inl ⟨by rfl, fun W hSw => ?_⟩) hHeld ?_
 rotate_left
 ·(try dsimp only at hSw); go_simp; (try with_reducible rfl)
 (try simp only [Act.put, List.setIfInBounds_toArray, List.set_cons_zero, List.set_cons_succ])
 refine wpAnyH_done (by kernel_rfl) ?_ _
 refine NoPanic.normal ?_
 replace hX := hX.keep hHeld.2
 replace hR := hR.keep hHeld.2
 replace hD := hD.keep hHeld.2
 replace hr1 := hr1.keep hHeld.2
 replace hr2 := hr2.keep hHeld.2
 replace hF1 := hF1.keep hHeld.2
 replace hF2 := hF2.keep hHeld.2
 replace hfr := fr_call hfr hHeld.2
 replace hown := hown.keep hHeld.2
 clear hHeld hcX hcR hcD hxl hrl hdl
 have hcX := fun j => hX.cell j
 have hcR := fun j => hR.cell j
 have hcD := fun j => hD.cell j
 have hxl := hX.lt
 have hrl := hR.lt
 have hdl := hD.lt
 go_wp2_with fail
 refine wp_region_noPanic ?_
 refine wp_region_held_drew (S := fun W => (∀ p : Addr, p.block < (wcc).heap.size → W.cell? p = (wcc).cell? p) ∧ Below (wcc).heap.size (wcc) W) (by kernel_rfl) ⟨fun _ _ => rfl, fr_drew (fr_refl _)⟩ (fun hHeld => ?_)
 -- the region, step by step
 refine wpAnyH_take (i := 0) (oi := ⟨some 51, .fieldAddr 96 (.tmp 6) 2, 0, "dial.go:243", #[], none⟩) (v := ?_) rfl (by kernel_rfl) (by kernel_rfl) (by kernel_rfl) (fun _ _ _ h => h) (Or.inl ⟨by rfl, fun W hSw => ?_⟩) hHeld ?_
 rotate_left
 ·(try dsimp only at hSw); go_simp; (try with_reducible rfl)
 (try simp only [Act.put, List.setIfInBounds_toArray, List.set_cons_zero, List.set_cons_succ])
 refine wpAnyH_take (i := 1) (oi := ⟨some 52, .load 89 (.tmp 51), 89, "dial.go:243", #[⟨0, .data⟩], none⟩) (v := ?_) rfl (by kernel_rfl) (by kernel_rfl) (by kernel_rfl) (fun _ _ _ h => h) (Or.inl ⟨by rfl, fun W hSw => ?_⟩) hHeld ?_
 rotate_left
 ·(try dsimp only at hSw); go_simp; (try with_reducible rfl)
 (try simp only [Act.put, List.setIfInBounds_toArray, List.set_cons_zero, List.set_cons_succ])
 refine wpAnyH_take (i := 2) (oi := ⟨some 53, .load 50 (.tmp 3), 50, "dial.go:243", #[], none⟩) (v := ?_) rfl (by kernel_rfl) (by kernel_rfl) (by kernel_rfl) (fun _ _ _ h => h) (Or.inl ⟨by rfl, fun W hSw => ?_⟩) hHeld ?_
 rotate_left
 ·(try dsimp only at hSw); go_simp; (try with_reducible rfl)
 (try simp only [Act.put, List.setIfInBounds_toArray, List.set_cons_zero, List.set_cons_succ])
 refine wpAnyH_ready (rs := [3]) (by kernel_rfl) (by simp) ?_
 refine AllReadyH.cons (o := ⟨some 54, .call { callee := .value (.func 51), args := #[.tmp 52, .tmp 53], argTypes := #[89, 50] }, 4, "dial.go:243", #[⟨1, .data⟩, ⟨2, .data⟩], none⟩) rfl (fun K hK => ?_) AllReadyH.nil
 go_simp
 refine (isDate_is A2 n2 k2 c2 _ _ _ _ _ _ y m d _ (hr2.keep hHeld.2) hs2.1.2 hs2.2 _ hq2).mono ?_
 rintro e' wccb ⟨rfl, hb⟩
 refine hK.out _ _ (kp_step hb hHeld) (fun hHeld => ?_)
 clear hK K
 (try simp only [Act.put, List.setIfInBounds_toArray, List.set_cons_zero, List.set_cons_succ])
 refine wpAnyH_take (i := 4) (oi := ⟨some 55, .move (.tmp 54), 4, "dial.go:243", #[⟨3, .data⟩, ⟨3, .chain⟩], none⟩) (v := ?_) rfl (by kernel_rfl) (by kernel_rfl) (by kernel_rfl) (fun _ _ _ h => h) (Or.inl ⟨by rfl, fun W hSw => ?_⟩) hHeld ?_
 rotate_left
 ·(try dsimp only at hSw); go_simp; (try with_reducible rfl)
 (try simp only [Act.put, List.setIfInBounds_toArray, List.set_cons_zero, List.set_cons_succ])
 refine wpAnyH_take (i := 5) (oi := ⟨some 56, .fieldAddr 96 (.tmp 6) 2, 0, "dial.go:243", #[⟨4, .guard⟩], some (4, true)⟩) (v := undef) rfl (by kernel_rfl) (by kernel_rfl) (by kernel_rfl) (fun _ _ _ h => h) (Or.inr ⟨by rfl, rfl⟩) hHeld ?_
 (try simp only [Act.put, List.setIfInBounds_toArray, List.set_cons_zero, List.set_cons_succ])
 refine wpAnyH_take (i := 6) (oi := ⟨some 57, .load 89 (.tmp 56), 89, "dial.go:243", #[⟨5, .data⟩, ⟨4, .guard⟩], some (4, true)⟩) (v := undef) rfl (by kernel_rfl) (by kernel_rfl) (by kernel_rfl) (fun _ _ _ h => h) (Or.inr ⟨by rfl, rfl⟩) hHeld ?_
 (try simp only [Act.put, List.setIfInBounds_toArray, List.set_cons_zero, List.set_cons_succ])
 refine wpAnyH_take (i := 7) (oi := ⟨some 58, .load 50 (.tmp 3), 50, "dial.go:243", #[⟨4, .guard⟩], some (4, true)⟩) (v := undef) rfl (by kernel_rfl) (by kernel_rfl) (by kernel_rfl) (fun _ _ _ h => h) (Or.inr ⟨by rfl, rfl⟩) hHeld ?_
 (try simp only [Act.put, List.setIfInBounds_toArray, List.set_cons_zero, List.set_cons_succ])
 refine wpAnyH_take (i := 8) (oi := ⟨some 59, .call { callee := .value (.func 52), args := #[.tmp 57, .tmp 58], argTypes := #[89, 50] }, 3, "dial.go:243", #[⟨6, .data⟩, ⟨7, .data⟩, ⟨4, .chain⟩, ⟨4, .guard⟩], some (4, true)⟩) (v := undef) rfl (by kernel_rfl) (by kernel_rfl) (by kernel_rfl) (fun _ _ _ h => h) (Or.inr ⟨by rfl, rfl⟩) hHeld ?_
 (try simp only [Act.put, List.setIfInBounds_toArray, List.set_cons_zero, List.set_cons_succ])
 refine wpAnyH_take (i := 9) (oi := ⟨some 60, .fieldAddr 55 (.tmp 2) 2, 0, "dial.go:243", #[⟨4, .guard⟩], some (4, true)⟩) (v := undef) rfl (by kernel_rfl) (by kernel_rfl) (by kernel_rfl) (fun _ _ _ h => h) (Or.inr ⟨by rfl, rfl⟩) hHeld ?_
 (try simp only [Act.put, List.setIfInBounds_toArray, List.set_cons_zero, List.set_cons_succ])
 refine wpAnyH_take (i := 10) (oi := ⟨some 61, .load 3 (.tmp 60), 3, "dial.go:243", #[⟨9, .data⟩, ⟨4, .guard⟩], some (4, true)⟩) (v := undef) rfl (by kernel_rfl) (by kernel_rfl) (by kernel_rfl) (fun _ _ _ h => h) (Or.inr ⟨by rfl, rfl⟩) hHeld ?_
 (try simp only [Act.put, List.setIfInBounds_toArray, List.set_cons_zero, List.set_cons_succ])
 refine wpAnyH_take (i := 11) (oi := ⟨some 62, .binOp .gtr 3 (.tmp 59) (.tmp 61) 3, 4, "dial.go:243", #[⟨8, .data⟩, ⟨10, .data⟩, ⟨4, .guard⟩], some (4, true)⟩) (v := undef) rfl (by kernel_rfl) (by kernel_rfl) (by kernel_rfl) (fun _ _ _ h => h) (Or.inr ⟨by rfl, rfl⟩) hHeld ?_
 (try simp only [Act.put, List.setIfInBounds_toArray, List.set_cons_zero, List.set_cons_succ])
 refine wpAnyH_take (i := 12) (oi := ⟨some 63, .pick (.tmp 55) (.tmp 62) (.const (.bool false)), 4, "dial.go:243", #[⟨4, .data⟩, ⟨11, .data⟩], none⟩) (v := ?_) rfl (by kernel_rfl) (by kernel_rfl) (by kernel_rfl) (fun _ _ _ h => h) (Or.inl ⟨by rfl, fun W hSw => ?_⟩) hHeld ?_
 rotate_left
 ·(try dsimp only at hSw); go_simp; (try with_reducible rfl)
 (try simp only [Act.put, List.setIfInBounds_toArray, List.set_cons_zero, List.set_cons_succ])
 refine wpAnyH_done (by kernel_rfl) ?_ _
 refine NoPanic.normal ?_
 replace hX := hX.keep hHeld.2
 replace hR := hR.keep hHeld.2
 replace hD := hD.keep hHeld.2
 replace hr1 := hr1.keep hHeld.2
 replace hr2 := hr2.keep hHeld.2
 replace hF1 := hF1.keep hHeld.2
 replace hF2 := hF2.keep hHeld.2
 replace hfr := fr_call hfr hHeld.2
 replace hown := hown.keep hHeld.2
 clear hHeld hcX hcR hcD hxl hrl hdl
 go_wp2
 go_ret2
 exact ⟨_, _, rfl, hown.rd, hfr⟩

set_option maxRecDepth 100000 in
set_option maxHeartbeats 4000000 in
theorem Days_11 (A1 A2 : Option Addr) (n1 k1 n2 k2 : Nat) (c1 c2 : List Int) (e1 e2 last y m d : Int) (w : World) (hr1 : Rd w A1 n1 c1) (hr2 : Rd w A2 n2 c2) (hn1 : n1 ≤ 9223372036854775807) (hn2 : n2 ≤ 9223372036854775807) (hok : realmOk e1 c1 e2 c2 last = true) (hwr : writtenB y m d = true) (hq1 : realB c1 y m d = true) (q1 : Int) (hQ1 : dayOf e1 c1 ⟨y, m, d⟩ = q1) (hl1 : ¬ q1 ≤ last) (hq2 : realB c2 y m d = true) (q2 : Int) (hQ2 : dayOf e2 c2 ⟨y, m, d⟩ = q2) (hl2 : ¬ last < q2) :
  Calls Tryz.prog 25 #[.agg #[.int .i64 e1, .slice A1 n1 k1, .int .i64 e2, .slice A2 n2 k2, .int .i64 last], .agg #[.int .i64 y, .int .i64 m, .int .i64 d]] w fun e' w' =>
   ∃ A c, e' = .returned (.tuple #[.slice A (daysOf e1 c1 e2 c2 last y m d).length c, .int .i64 0]) ∧ Rd w' A (daysOf e1 c1 e2 c2 last y m d).length (daysOf e1 c1 e2 c2 last y m d) ∧ Below w.heap.size w w' := by
 have hL : daysOf e1 c1 e2 c2 last y m d = [] ++ [] := by
  unfold daysOf
  rw [hq1, hq2, hQ1, hQ2]
  rw [if_neg (by simpa using hl1)]
  rw [if_neg (by simpa using hl2)]
 rw [hL]
 simp only [List.append_nil]
 have Q1 := Lib.hid hQ1
 clear hQ1
 have Q2 := Lib.hid hQ2
 clear hQ2
 clear hL
 obtain ⟨hk1, hk2⟩ : calOk e1 c1 = true ∧ calOk e2 c2 = true := by
  unfold realmOk at hok
  simp only [Bool.and_eq_true] at hok
  exact hok.1
 obtain ⟨he1, hs1⟩ := calOk_parts hk1
 obtain ⟨he2, hs2⟩ := calOk_parts hk2
 rw [hr1.len] at hs1
 rw [hr2.len] at hs2
 obtain ⟨w1, w2, w3⟩ : inB y 0 4000 = true ∧ inB m 1 12 = true ∧ inB d 1 31 = true := by
  unfold writtenB at hwr
  simp only [Bool.and_eq_true] at hwr
  exact ⟨hwr.1.1, hwr.1.2, hwr.2⟩
 have hy := inB_iff.1 w1
 have hm := inB_iff.1 w2
 have hd := inB_iff.1 w3
 have g1 := fr_alloc (fr_alloc (fr_refl w) (.cells #[.int .i64 e1, .slice A1 n1 k1, .int .i64 e2, .slice A2 n2 k2, .int .i64 last] 55)) (.cells #[.int .i64 y, .int .i64 m, .int .i64 d] 50)
 have hR : Blk ((w.alloc (.cells #[.int .i64 e1, .slice A1 n1 k1, .int .i64 e2, .slice A2 n2 k2, .int .i64 last] 55)).alloc (.cells #[.int .i64 y, .int .i64 m, .int .i64 d] 50)) w.heap.size 55 #[.int .i64 e1, .slice A1 n1 k1, .int .i64 e2, .slice A2 n2 k2, .int .i64 last] := (Blk.new w _ _).alloc _
 have hD : Blk ((w.alloc (.cells #[.int .i64 e1, .slice A1 n1 k1, .int .i64 e2, .slice A2 n2 k2, .int .i64 last] 55)).alloc (.cells #[.int .i64 y, .int .i64 m, .int .i64 d] 50)) (w.heap.size + 1) 50 #[.int .i64 y, .int .i64 m, .int .i64 d] := Blk.new_at _ _ (by simp)
 go_enter Tryz.func25, Tryz.ntmps25
 go_wp2_with fail
 refine (isRealm_is A1 A2 n1 k1 n2 k2 c1 c2 e1 e2 last _ (hr1.keep g1) (hr2.keep g1) hn1 hn2 _ hok).mono ?_
 rintro e' wa ⟨rfl, hb1⟩
 obtain ⟨hc_wa, hf_wa⟩ := bcell hb1
 have hz0_wa : w.heap.size < wa.heap.size := Nat.lt_of_lt_of_le (by first | omega | (simp; done) | (simp; omega)) hb1.size
 have hz1_wa : w.heap.size + 1 < wa.heap.size := Nat.lt_of_lt_of_le (by first | omega | (simp; done) | (simp; omega)) hb1.size
 go_wp2_with fail
 refine (isYear_is _ _ _ w1).mono ?_
 rintro e' wa' ⟨rfl, rfl⟩
 go_wp2_with fail
 refine (in_is _ _ _ _ _ w2).mono ?_
 rintro e' wa' ⟨rfl, rfl⟩
 go_wp2_with fail
 refine (in_is _ _ _ _ _ w3).mono ?_
 rintro e' wa' ⟨rfl, rfl⟩
 go_wp2_with fail
 refine (opens_any A1 A2 n1 k1 n2 k2 c1 c2 e1 e2 last _ ((hr1.keep g1).keep hb1) ((hr2.keep g1).keep hb1) hk1 hk2).mono ?_
 rintro e' wb ⟨F1, f1, M1, F2, f2, M2, rfl, hF1, hF2, hb2⟩
 have hZ := Blk.new wb 96 #[.int .i64 0, .slice none 0 0, .int .i64 0, .slice none 0 0, .int .i64 0, .int .i64 0, .slice none 0 0, .int .i64 0, .int .i64 0, .int .i64 0, .slice none 0 0, .map none, .int .i64 0, .slice none 0 0, .int .i64 0, .int .i64 0, .int .i64 0, .slice none 0 0, .map none]
 go_wp2_with (refine wpList_store_blk rfl _ _ _ rfl wb.heap.size 96 _ _ rfl rfl hZ rfl (by kernel_rfl) (by simp [Value.oneCell']) ?_; intro wc hX hgc)
 have hgb : Below wb.heap.size wb wc := (fr_alloc (fr_refl wb) _).grown hgc (by simp) (by intro k hk; cases hk; exact Nat.le_refl _)
 have hbb := fr_call hb2 hgb
 have hfr := fr_call (fr_call g1 hb1) hbb
 replace hR := (hR.keep hb1).keep hbb
 replace hD := (hD.keep hb1).keep hbb
 replace hr1 := ((hr1.keep g1).keep hb1).keep hbb
 replace hr2 := ((hr2.keep g1).keep hb1).keep hbb
 replace hF1 := hF1.keep hgb
 replace hF2 := hF2.keep hgb
 have hown := Own.nil wc w.heap.size
 clear hZ hgc hgb hbb hb1 hb2 hc_wa hf_wa hz0_wa hz1_wa g1
 generalize wb.heap.size = bx at *
 have hcX := fun j => hX.cell j
 have hcR := fun j => hR.cell j
 have hcD := fun j => hD.cell j
 have hxl := hX.lt
 have hrl := hR.lt
 have hdl := hD.lt
 go_wp2_with fail
 refine wp_region_noPanic ?_
 refine wp_region_held_drew (S := fun W => (∀ p : Addr, p.block < (wc).heap.size → W.cell? p = (wc).cell? p) ∧ Below (wc).heap.size (wc) W) (by kernel_rfl) ⟨fun _ _ => rfl, fr_drew (fr_refl _)⟩ (fun hHeld => ?_)
 -- the region, step by step
 refine wpAnyH_take (i := 0) (oi := ⟨some 31, .fieldAddr 96 (.tmp 6) 1, 0, "dial.go:240", #[], none⟩) (v := ?_) rfl (by kernel_rfl) (by kernel_rfl) (by kernel_rfl) (fun _ _ _ h => h) (Or.inl ⟨by rfl, fun W hSw => ?_⟩) hHeld ?_
 rotate_left
 ·(try dsimp only at hSw); go_simp; (try with_reducible rfl)
 (try simp only [Act.put, List.setIfInBounds_toArray, List.set_cons_zero, List.set_cons_succ])
 refine wpAnyH_take (i := 1) (oi := ⟨some 32, .load 89 (.tmp 31), 89, "dial.go:240", #[⟨0, .data⟩], none⟩) (v := ?_) rfl (by kernel_rfl) (by kernel_rfl) (by kernel_rfl) (fun _ _ _ h => h) (Or.inl ⟨by rfl, fun W hSw => ?_⟩) hHeld ?_
 rotate_left
 ·(try dsimp only at hSw); go_simp; (try with_reducible rfl)
 (try simp only [Act.put, List.setIfInBounds_toArray, List.set_cons_zero, List.set_cons_succ])
 refine wpAnyH_take (i := 2) (oi := ⟨some 33, .load 50 (.tmp 3), 50, "dial.go:240", #[], none⟩) (v := ?_) rfl (by kernel_rfl) (by kernel_rfl) (by kernel_rfl) (fun _ _ _ h => h) (Or.inl ⟨by rfl, fun W hSw => ?_⟩) hHeld ?_
 rotate_left
 ·(try dsimp only at hSw); go_simp; (try with_reducible rfl)
 (try simp only [Act.put, List.setIfInBounds_toArray, List.set_cons_zero, List.set_cons_succ])
 refine wpAnyH_ready (rs := [3]) (by kernel_rfl) (by simp) ?_
 refine AllReadyH.cons (o := ⟨some 34, .call { callee := .value (.func 51), args := #[.tmp 32, .tmp 33], argTypes := #[89, 50] }, 4, "dial.go:240", #[⟨1, .data⟩, ⟨2, .data⟩], none⟩) rfl (fun K hK => ?_) AllReadyH.nil
 go_simp
 refine (isDate_is A1 n1 k1 c1 _ _ _ _ _ _ y m d _ (hr1.keep hHeld.2) hs1.1.2 hs1.2 _ hq1).mono ?_
 rintro e' wcb ⟨rfl, hb⟩
 refine hK.out _ _ (kp_step hb hHeld) (fun hHeld => ?_)
 clear hK K
 (try simp only [Act.put, List.setIfInBounds_toArray, List.set_cons_zero, List.set_cons_succ])
 refine wpAnyH_take (i := 4) (oi := ⟨some 35, .move (.tmp 34), 4, "dial.go:240", #[⟨3, .data⟩, ⟨3, .chain⟩], none⟩) (v := ?_) rfl (by kernel_rfl) (by kernel_rfl) (by kernel_rfl) (fun _ _ _ h => h) (Or.inl ⟨by rfl, fun W hSw => ?_⟩) hHeld ?_
 rotate_left
 ·(try dsimp only at hSw); go_simp; (try with_reducible rfl)
 (try simp only [Act.put, List.setIfInBounds_toArray, List.set_cons_zero, List.set_cons_succ])
 refine wpAnyH_take (i := 5) (oi := ⟨some 36, .fieldAddr 96 (.tmp 6) 1, 0, "dial.go:240", #[⟨4, .guard⟩], some (4, true)⟩) (v := ?_) rfl (by kernel_rfl) (by kernel_rfl) (by kernel_rfl) (fun _ _ _ h => h) (Or.inl ⟨by rfl, fun W hSw => ?_⟩) hHeld ?_
 rotate_left
 ·(try dsimp only at hSw); go_simp; (try with_reducible rfl)
 (try simp only [Act.put, List.setIfInBounds_toArray, List.set_cons_zero, List.set_cons_succ])
 refine wpAnyH_take (i := 6) (oi := ⟨some 37, .load 89 (.tmp 36), 89, "dial.go:240", #[⟨5, .data⟩, ⟨4, .guard⟩], some (4, true)⟩) (v := ?_) rfl (by kernel_rfl) (by kernel_rfl) (by kernel_rfl) (fun _ _ _ h => h) (Or.inl ⟨by rfl, fun W hSw => ?_⟩) hHeld ?_
 rotate_left
 ·(try dsimp only at hSw); go_simp; (try with_reducible rfl)
 (try simp only [Act.put, List.setIfInBounds_toArray, List.set_cons_zero, List.set_cons_succ])
 refine wpAnyH_take (i := 7) (oi := ⟨some 38, .load 50 (.tmp 3), 50, "dial.go:240", #[⟨4, .guard⟩], some (4, true)⟩) (v := ?_) rfl (by kernel_rfl) (by kernel_rfl) (by kernel_rfl) (fun _ _ _ h => h) (Or.inl ⟨by rfl, fun W hSw => ?_⟩) hHeld ?_
 rotate_left
 ·(try dsimp only at hSw); go_simp; (try with_reducible rfl)
 (try simp only [Act.put, List.setIfInBounds_toArray, List.set_cons_zero, List.set_cons_succ])
 refine wpAnyH_take (i := 9) (oi := ⟨some 40, .fieldAddr 55 (.tmp 2) 2, 0, "dial.go:240", #[⟨4, .guard⟩], some (4, true)⟩) (v := ?_) rfl (by kernel_rfl) (by kernel_rfl) (by kernel_rfl) (fun _ _ _ h => h) (Or.inl ⟨by rfl, fun W hSw => ?_⟩) hHeld ?_
 rotate_left
 ·(try dsimp only at hSw); go_simp; (try with_reducible rfl)
 (try simp only [Act.put, List.setIfInBounds_toArray, List.set_cons_zero, List.set_cons_succ])
 refine wpAnyH_take (i := 10) (oi := ⟨some 41, .load 3 (.tmp 40), 3, "dial.go:240", #[⟨9, .data⟩, ⟨4, .guard⟩], some (4, true)⟩) (v := ?_) rfl (by kernel_rfl) (by kernel_rfl) (by kernel_rfl) (fun _ _ _ h => h) (Or.inl ⟨by rfl, fun W hSw => ?_⟩) hHeld ?_
 rotate_left
 ·(try dsimp only at hSw); go_simp; (try with_reducible rfl)
 (try simp only [Act.put, List.setIfInBounds_toArray, List.set_cons_zero, List.set_cons_succ])
 refine wpAnyH_ready (rs := [8]) (by kernel_rfl) (by simp) ?_
 refine AllReadyH.cons (o := ⟨some 39, .call { callee := .value (.func 52), args := #[.tmp 37, .tmp 38], argTypes := #[89, 50] }, 3, "dial.go:240", #[⟨6, .data⟩, ⟨7, .data⟩, ⟨4, .chain⟩, ⟨4, .guard⟩], some (4, true)⟩) rfl (fun K hK => ?_) AllReadyH.nil
 go_simp
 refine (day_any A1 F1 n1 k1 f1 c1 e1 _ _ _ _ y m d _ (hr1.keep hHeld.2) hs1.1.2 hs1.2 (hF1.keep hHeld.2) he1 hy hm hd).mono ?_
 rw [Q1.out]
 rintro e' wcc ⟨rfl, hb⟩
 refine hK.out _ _ (kp_step hb hHeld) (fun hHeld => ?_)
 clear hK K
 (try simp only [Act.put, List.setIfInBounds_toArray, List.set_cons_zero, List.set_cons_succ])
 refine wpAnyH_take (i := 11) (oi := ⟨some 42, .binOp .leq 3 (.tmp 39) (.tmp 41) 3, 4, "dial.go:240", #[⟨8, .data⟩, ⟨10, .data⟩, ⟨4, .guard⟩], some (4, true)⟩) (v := ?_) rfl (by kernel_rfl) (by kernel_rfl) (by kernel_rfl) (fun _ _ _ h => h) (Or.inl ⟨by rfl, fun W hSw => ?_⟩) hHeld ?_
 rotate_left
 ·(try dsimp only at hSw); go_simp; (try with_reducible rfl)
 (try simp only [Act.put, List.setIfInBounds_toArray, List.set_cons_zero, List.set_cons_succ])
 refine wpAnyH_take (i := 12) (oi := ⟨some 43, .pick (.tmp 35) (.tmp 42) (.const (.bool false)), 4, "dial.go:240", #[⟨4, .data⟩, ⟨11, .data⟩], none⟩) (v := ?_) rfl (by kernel_rfl) (by kernel_rfl) (by kernel_rfl) (fun _ _ _ h => h) (Or.inl ⟨by rfl, fun W hSw => ?_⟩) hHeld ?_
 rotate_left
 ·(try dsimp only at hSw); go_simp; (try with_reducible rfl)
 (try simp only [Act.put, List.setIfInBounds_toArray, List.set_cons_zero, List.set_cons_succ])
 refine wpAnyH_done (by kernel_rfl) ?_ _
 refine NoPanic.normal ?_
 replace hX := hX.keep hHeld.2
 replace hR := hR.keep hHeld.2
 replace hD := hD.keep hHeld.2
 replace hr1 := hr1.keep hHeld.2
 replace hr2 := hr2.keep hHeld.2
 replace hF1 := hF1.keep hHeld.2
 replace hF2 := hF2.keep hHeld.2
 replace hfr := fr_call hfr hHeld.2
 replace hown := hown.keep hHeld.2
 clear hHeld hcX hcR hcD hxl hrl hdl
 have hcX := fun j => hX.cell j
 have hcR := fun j => hR.cell j
 have hcD := fun j => hD.cell j
 have hxl := hX.lt
 have hrl := hR.lt
 have hdl := hD.lt
 go_wp2_with fail
 refine wp_region_noPanic ?_
 refine wp_region_held_drew (S := fun W => (∀ p : Addr, p.block < (wcc).heap.size → W.cell? p = (wcc).cell? p) ∧ Below (wcc).heap.size (wcc) W) (by kernel_rfl) ⟨fun _ _ => rfl, fr_drew (fr_refl _)⟩ (fun hHeld => ?_)
 -- the region, step by step
 refine wpAnyH_take (i := 0) (oi := ⟨some 51, .fieldAddr 96 (.tmp 6) 2, 0, "dial.go:243", #[], none⟩) (v := ?_) rfl (by kernel_rfl) (by kernel_rfl) (by kernel_rfl) (fun _ _ _ h => h) (Or.inl ⟨by rfl, fun W hSw => ?_⟩) hHeld ?_
 rotate_left
 ·(try dsimp only at hSw); go_simp; (try with_reducible rfl)
 (try simp only [Act.put, List.setIfInBounds_toArray, List.set_cons_zero, List.set_cons_succ])
 refine wpAnyH_take (i := 1) (oi := ⟨some 52, .load 89 (.tmp 51), 89, "dial.go:243", #[⟨0, .data⟩], none⟩) (v := ?_) rfl (by kernel_rfl) (by kernel_rfl) (by kernel_rfl) (fun _ _ _ h => h) (Or.inl ⟨by rfl, fun W hSw => ?_⟩) hHeld ?_
 rotate_left
 ·(try dsimp only at hSw); go_simp; (try with_reducible rfl)
 (try simp only [Act.put, List.setIfInBounds_toArray, List.set_cons_zero, List.set_cons_succ])
 refine wpAnyH_take (i := 2) (oi := ⟨some 53, .load 50 (.tmp 3), 50, "dial.go:243", #[], none⟩) (v := ?_) rfl (by kernel_rfl) (by kernel_rfl) (by kernel_rfl) (fun _ _ _ h => h) (Or.inl ⟨by rfl, fun W hSw => ?_⟩) hHeld ?_
 rotate_left
 ·(try dsimp only at hSw); go_simp; (try with_reducible rfl)
 (try simp only [Act.put, List.setIfInBounds_toArray, List.set_cons_zero, List.set_cons_succ])
 refine wpAnyH_ready (rs := [3]) (by kernel_rfl) (by simp) ?_
 refine AllReadyH.cons (o := ⟨some 54, .call { callee := .value (.func 51), args := #[.tmp 52, .tmp 53], argTypes := #[89, 50] }, 4, "dial.go:243", #[⟨1, .data⟩, ⟨2, .data⟩], none⟩) rfl (fun K hK => ?_) AllReadyH.nil
 go_simp
 refine (isDate_is A2 n2 k2 c2 _ _ _ _ _ _ y m d _ (hr2.keep hHeld.2) hs2.1.2 hs2.2 _ hq2).mono ?_
 rintro e' wccb ⟨rfl, hb⟩
 refine hK.out _ _ (kp_step hb hHeld) (fun hHeld => ?_)
 clear hK K
 (try simp only [Act.put, List.setIfInBounds_toArray, List.set_cons_zero, List.set_cons_succ])
 refine wpAnyH_take (i := 4) (oi := ⟨some 55, .move (.tmp 54), 4, "dial.go:243", #[⟨3, .data⟩, ⟨3, .chain⟩], none⟩) (v := ?_) rfl (by kernel_rfl) (by kernel_rfl) (by kernel_rfl) (fun _ _ _ h => h) (Or.inl ⟨by rfl, fun W hSw => ?_⟩) hHeld ?_
 rotate_left
 ·(try dsimp only at hSw); go_simp; (try with_reducible rfl)
 (try simp only [Act.put, List.setIfInBounds_toArray, List.set_cons_zero, List.set_cons_succ])
 refine wpAnyH_take (i := 5) (oi := ⟨some 56, .fieldAddr 96 (.tmp 6) 2, 0, "dial.go:243", #[⟨4, .guard⟩], some (4, true)⟩) (v := ?_) rfl (by kernel_rfl) (by kernel_rfl) (by kernel_rfl) (fun _ _ _ h => h) (Or.inl ⟨by rfl, fun W hSw => ?_⟩) hHeld ?_
 rotate_left
 ·(try dsimp only at hSw); go_simp; (try with_reducible rfl)
 (try simp only [Act.put, List.setIfInBounds_toArray, List.set_cons_zero, List.set_cons_succ])
 refine wpAnyH_take (i := 6) (oi := ⟨some 57, .load 89 (.tmp 56), 89, "dial.go:243", #[⟨5, .data⟩, ⟨4, .guard⟩], some (4, true)⟩) (v := ?_) rfl (by kernel_rfl) (by kernel_rfl) (by kernel_rfl) (fun _ _ _ h => h) (Or.inl ⟨by rfl, fun W hSw => ?_⟩) hHeld ?_
 rotate_left
 ·(try dsimp only at hSw); go_simp; (try with_reducible rfl)
 (try simp only [Act.put, List.setIfInBounds_toArray, List.set_cons_zero, List.set_cons_succ])
 refine wpAnyH_take (i := 7) (oi := ⟨some 58, .load 50 (.tmp 3), 50, "dial.go:243", #[⟨4, .guard⟩], some (4, true)⟩) (v := ?_) rfl (by kernel_rfl) (by kernel_rfl) (by kernel_rfl) (fun _ _ _ h => h) (Or.inl ⟨by rfl, fun W hSw => ?_⟩) hHeld ?_
 rotate_left
 ·(try dsimp only at hSw); go_simp; (try with_reducible rfl)
 (try simp only [Act.put, List.setIfInBounds_toArray, List.set_cons_zero, List.set_cons_succ])
 refine wpAnyH_take (i := 9) (oi := ⟨some 60, .fieldAddr 55 (.tmp 2) 2, 0, "dial.go:243", #[⟨4, .guard⟩], some (4, true)⟩) (v := ?_) rfl (by kernel_rfl) (by kernel_rfl) (by kernel_rfl) (fun _ _ _ h => h) (Or.inl ⟨by rfl, fun W hSw => ?_⟩) hHeld ?_
 rotate_left
 ·(try dsimp only at hSw); go_simp; (try with_reducible rfl)
 (try simp only [Act.put, List.setIfInBounds_toArray, List.set_cons_zero, List.set_cons_succ])
 refine wpAnyH_take (i := 10) (oi := ⟨some 61, .load 3 (.tmp 60), 3, "dial.go:243", #[⟨9, .data⟩, ⟨4, .guard⟩], some (4, true)⟩) (v := ?_) rfl (by kernel_rfl) (by kernel_rfl) (by kernel_rfl) (fun _ _ _ h => h) (Or.inl ⟨by rfl, fun W hSw => ?_⟩) hHeld ?_
 rotate_left
 ·(try dsimp only at hSw); go_simp; (try with_reducible rfl)
 (try simp only [Act.put, List.setIfInBounds_toArray, List.set_cons_zero, List.set_cons_succ])
 refine wpAnyH_ready (rs := [8]) (by kernel_rfl) (by simp) ?_
 refine AllReadyH.cons (o := ⟨some 59, .call { callee := .value (.func 52), args := #[.tmp 57, .tmp 58], argTypes := #[89, 50] }, 3, "dial.go:243", #[⟨6, .data⟩, ⟨7, .data⟩, ⟨4, .chain⟩, ⟨4, .guard⟩], some (4, true)⟩) rfl (fun K hK => ?_) AllReadyH.nil
 go_simp
 refine (day_any A2 F2 n2 k2 f2 c2 e2 _ _ _ _ y m d _ (hr2.keep hHeld.2) hs2.1.2 hs2.2 (hF2.keep hHeld.2) he2 hy hm hd).mono ?_
 rw [Q2.out]
 rintro e' wccc ⟨rfl, hb⟩
 refine hK.out _ _ (kp_step hb hHeld) (fun hHeld => ?_)
 clear hK K
 (try simp only [Act.put, List.setIfInBounds_toArray, List.set_cons_zero, List.set_cons_succ])
 refine wpAnyH_take (i := 11) (oi := ⟨some 62, .binOp .gtr 3 (.tmp 59) (.tmp 61) 3, 4, "dial.go:243", #[⟨8, .data⟩, ⟨10, .data⟩, ⟨4, .guard⟩], some (4, true)⟩) (v := ?_) rfl (by kernel_rfl) (by kernel_rfl) (by kernel_rfl) (fun _ _ _ h => h) (Or.inl ⟨by rfl, fun W hSw => ?_⟩) hHeld ?_
 rotate_left
 ·(try dsimp only at hSw); go_simp; (try with_reducible rfl)
 (try simp only [Act.put, List.setIfInBounds_toArray, List.set_cons_zero, List.set_cons_succ])
 refine wpAnyH_take (i := 12) (oi := ⟨some 63, .pick (.tmp 55) (.tmp 62) (.const (.bool false)), 4, "dial.go:243", #[⟨4, .data⟩, ⟨11, .data⟩], none⟩) (v := ?_) rfl (by kernel_rfl) (by kernel_rfl) (by kernel_rfl) (fun _ _ _ h => h) (Or.inl ⟨by rfl, fun W hSw => ?_⟩) hHeld ?_
 rotate_left
 ·(try dsimp only at hSw); go_simp; (try with_reducible rfl)
 (try simp only [Act.put, List.setIfInBounds_toArray, List.set_cons_zero, List.set_cons_succ])
 refine wpAnyH_done (by kernel_rfl) ?_ _
 refine NoPanic.normal ?_
 replace hX := hX.keep hHeld.2
 replace hR := hR.keep hHeld.2
 replace hD := hD.keep hHeld.2
 replace hr1 := hr1.keep hHeld.2
 replace hr2 := hr2.keep hHeld.2
 replace hF1 := hF1.keep hHeld.2
 replace hF2 := hF2.keep hHeld.2
 replace hfr := fr_call hfr hHeld.2
 replace hown := hown.keep hHeld.2
 clear hHeld hcX hcR hcD hxl hrl hdl
 go_wp2
 go_ret2
 exact ⟨_, _, rfl, hown.rd, hfr⟩

set_option maxRecDepth 100000 in
set_option maxHeartbeats 4000000 in
theorem Days_12 (A1 A2 : Option Addr) (n1 k1 n2 k2 : Nat) (c1 c2 : List Int) (e1 e2 last y m d : Int) (w : World) (hr1 : Rd w A1 n1 c1) (hr2 : Rd w A2 n2 c2) (hn1 : n1 ≤ 9223372036854775807) (hn2 : n2 ≤ 9223372036854775807) (hok : realmOk e1 c1 e2 c2 last = true) (hwr : writtenB y m d = true) (hq1 : realB c1 y m d = true) (q1 : Int) (hQ1 : dayOf e1 c1 ⟨y, m, d⟩ = q1) (hl1 : ¬ q1 ≤ last) (hq2 : realB c2 y m d = true) (q2 : Int) (hQ2 : dayOf e2 c2 ⟨y, m, d⟩ = q2) (hl2 : last < q2) :
  Calls Tryz.prog 25 #[.agg #[.int .i64 e1, .slice A1 n1 k1, .int .i64 e2, .slice A2 n2 k2, .int .i64 last], .agg #[.int .i64 y, .int .i64 m, .int .i64 d]] w fun e' w' =>
   ∃ A c, e' = .returned (.tuple #[.slice A (daysOf e1 c1 e2 c2 last y m d).length c, .int .i64 0]) ∧ Rd w' A (daysOf e1 c1 e2 c2 last y m d).length (daysOf e1 c1 e2 c2 last y m d) ∧ Below w.heap.size w w' := by
 have hL : daysOf e1 c1 e2 c2 last y m d = [] ++ [q2] := by
  unfold daysOf
  rw [hq1, hq2, hQ1, hQ2]
  rw [if_neg (by simpa using hl1)]
  rw [if_pos (by simpa using hl2)]
 rw [hL]
 simp only [List.nil_append]
 have Q1 := Lib.hid hQ1
 clear hQ1
 have Q2 := Lib.hid hQ2
 clear hQ2
 clear hL
 obtain ⟨hk1, hk2⟩ : calOk e1 c1 = true ∧ calOk e2 c2 = true := by
  unfold realmOk at hok
  simp only [Bool.and_eq_true] at hok
  exact hok.1
 obtain ⟨he1, hs1⟩ := calOk_parts hk1
 obtain ⟨he2, hs2⟩ := calOk_parts hk2
 rw [hr1.len] at hs1
 rw [hr2.len] at hs2
 obtain ⟨w1, w2, w3⟩ : inB y 0 4000 = true ∧ inB m 1 12 = true ∧ inB d 1 31 = true := by
  unfold writtenB at hwr
  simp only [Bool.and_eq_true] at hwr
  exact ⟨hwr.1.1, hwr.1.2, hwr.2⟩
 have hy := inB_iff.1 w1
 have hm := inB_iff.1 w2
 have hd := inB_iff.1 w3
 have g1 := fr_alloc (fr_alloc (fr_refl w) (.cells #[.int .i64 e1, .slice A1 n1 k1, .int .i64 e2, .slice A2 n2 k2, .int .i64 last] 55)) (.cells #[.int .i64 y, .int .i64 m, .int .i64 d] 50)
 have hR : Blk ((w.alloc (.cells #[.int .i64 e1, .slice A1 n1 k1, .int .i64 e2, .slice A2 n2 k2, .int .i64 last] 55)).alloc (.cells #[.int .i64 y, .int .i64 m, .int .i64 d] 50)) w.heap.size 55 #[.int .i64 e1, .slice A1 n1 k1, .int .i64 e2, .slice A2 n2 k2, .int .i64 last] := (Blk.new w _ _).alloc _
 have hD : Blk ((w.alloc (.cells #[.int .i64 e1, .slice A1 n1 k1, .int .i64 e2, .slice A2 n2 k2, .int .i64 last] 55)).alloc (.cells #[.int .i64 y, .int .i64 m, .int .i64 d] 50)) (w.heap.size + 1) 50 #[.int .i64 y, .int .i64 m, .int .i64 d] := Blk.new_at _ _ (by simp)
 go_enter Tryz.func25, Tryz.ntmps25
 go_wp2_with fail
 refine (isRealm_is A1 A2 n1 k1 n2 k2 c1 c2 e1 e2 last _ (hr1.keep g1) (hr2.keep g1) hn1 hn2 _ hok).mono ?_
 rintro e' wa ⟨rfl, hb1⟩
 obtain ⟨hc_wa, hf_wa⟩ := bcell hb1
 have hz0_wa : w.heap.size < wa.heap.size := Nat.lt_of_lt_of_le (by first | omega | (simp; done) | (simp; omega)) hb1.size
 have hz1_wa : w.heap.size + 1 < wa.heap.size := Nat.lt_of_lt_of_le (by first | omega | (simp; done) | (simp; omega)) hb1.size
 go_wp2_with fail
 refine (isYear_is _ _ _ w1).mono ?_
 rintro e' wa' ⟨rfl, rfl⟩
 go_wp2_with fail
 refine (in_is _ _ _ _ _ w2).mono ?_
 rintro e' wa' ⟨rfl, rfl⟩
 go_wp2_with fail
 refine (in_is _ _ _ _ _ w3).mono ?_
 rintro e' wa' ⟨rfl, rfl⟩
 go_wp2_with fail
 refine (opens_any A1 A2 n1 k1 n2 k2 c1 c2 e1 e2 last _ ((hr1.keep g1).keep hb1) ((hr2.keep g1).keep hb1) hk1 hk2).mono ?_
 rintro e' wb ⟨F1, f1, M1, F2, f2, M2, rfl, hF1, hF2, hb2⟩
 have hZ := Blk.new wb 96 #[.int .i64 0, .slice none 0 0, .int .i64 0, .slice none 0 0, .int .i64 0, .int .i64 0, .slice none 0 0, .int .i64 0, .int .i64 0, .int .i64 0, .slice none 0 0, .map none, .int .i64 0, .slice none 0 0, .int .i64 0, .int .i64 0, .int .i64 0, .slice none 0 0, .map none]
 go_wp2_with (refine wpList_store_blk rfl _ _ _ rfl wb.heap.size 96 _ _ rfl rfl hZ rfl (by kernel_rfl) (by simp [Value.oneCell']) ?_; intro wc hX hgc)
 have hgb : Below wb.heap.size wb wc := (fr_alloc (fr_refl wb) _).grown hgc (by simp) (by intro k hk; cases hk; exact Nat.le_refl _)
 have hbb := fr_call hb2 hgb
 have hfr := fr_call (fr_call g1 hb1) hbb
 replace hR := (hR.keep hb1).keep hbb
 replace hD := (hD.keep hb1).keep hbb
 replace hr1 := ((hr1.keep g1).keep hb1).keep hbb
 replace hr2 := ((hr2.keep g1).keep hb1).keep hbb
 replace hF1 := hF1.keep hgb
 replace hF2 := hF2.keep hgb
 have hown := Own.nil wc w.heap.size
 clear hZ hgc hgb hbb hb1 hb2 hc_wa hf_wa hz0_wa hz1_wa g1
 generalize wb.heap.size = bx at *
 have hcX := fun j => hX.cell j
 have hcR := fun j => hR.cell j
 have hcD := fun j => hD.cell j
 have hxl := hX.lt
 have hrl := hR.lt
 have hdl := hD.lt
 go_wp2_with fail
 refine wp_region_noPanic ?_
 refine wp_region_held_drew (S := fun W => (∀ p : Addr, p.block < (wc).heap.size → W.cell? p = (wc).cell? p) ∧ Below (wc).heap.size (wc) W) (by kernel_rfl) ⟨fun _ _ => rfl, fr_drew (fr_refl _)⟩ (fun hHeld => ?_)
 -- the region, step by step
 refine wpAnyH_take (i := 0) (oi := ⟨some 31, .fieldAddr 96 (.tmp 6) 1, 0, "dial.go:240", #[], none⟩) (v := ?_) rfl (by kernel_rfl) (by kernel_rfl) (by kernel_rfl) (fun _ _ _ h => h) (Or.inl ⟨by rfl, fun W hSw => ?_⟩) hHeld ?_
 rotate_left
 ·(try dsimp only at hSw); go_simp; (try with_reducible rfl)
 (try simp only [Act.put, List.setIfInBounds_toArray, List.set_cons_zero, List.set_cons_succ])
 refine wpAnyH_take (i := 1) (oi := ⟨some 32, .load 89 (.tmp 31), 89, "dial.go:240", #[⟨0, .data⟩], none⟩) (v := ?_) rfl (by kernel_rfl) (by kernel_rfl) (by kernel_rfl) (fun _ _ _ h => h) (Or.inl ⟨by rfl, fun W hSw => ?_⟩) hHeld ?_
 rotate_left
 ·(try dsimp only at hSw); go_simp; (try with_reducible rfl)
 (try simp only [Act.put, List.setIfInBounds_toArray, List.set_cons_zero, List.set_cons_succ])
 refine wpAnyH_take (i := 2) (oi := ⟨some 33, .load 50 (.tmp 3), 50, "dial.go:240", #[], none⟩) (v := ?_) rfl (by kernel_rfl) (by kernel_rfl) (by kernel_rfl) (fun _ _ _ h => h) (Or.inl ⟨by rfl, fun W hSw => ?_⟩) hHeld ?_
 rotate_left
 ·(try dsimp only at hSw); go_simp; (try with_reducible rfl)
 (try simp only [Act.put, List.setIfInBounds_toArray, List.set_cons_zero, List.set_cons_succ])
 refine wpAnyH_ready (rs := [3]) (by kernel_rfl) (by simp) ?_
 refine AllReadyH.cons (o := ⟨some 34, .call { callee := .value (.func 51), args := #[.tmp 32, .tmp 33], argTypes := #[89, 50] }, 4, "dial.go:240", #[⟨1, .data⟩, ⟨2, .data⟩], none⟩) rfl (fun K hK => ?_) AllReadyH.nil
 go_simp
 refine (isDate_is A1 n1 k1 c1 _ _ _ _ _ _ y m d _ (hr1.keep hHeld.2) hs1.1.2 hs1.2 _ hq1).mono ?_
 rintro e' wcb ⟨rfl, hb⟩
 refine hK.out _ _ (kp_step hb hHeld) (fun hHeld => ?_)
 clear hK K
 (try simp only [Act.put, List.setIfInBounds_toArray, List.set_cons_zero, List.set_cons_succ])
 refine wpAnyH_take (i := 4) (oi := ⟨some 35, .move (.tmp 34), 4, "dial.go:240", #[⟨3, .data⟩, ⟨3, .chain⟩], none⟩) (v := ?_) rfl (by kernel_rfl) (by kernel_rfl) (by kernel_rfl) (fun _ _ _ h => h) (Or.inl ⟨by rfl, fun W hSw => ?_⟩) hHeld ?_
 rotate_left
 ·(try dsimp only at hSw); go_simp; (try with_reducible rfl)
 (try simp only [Act.put, List.setIfInBounds_toArray, List.set_cons_zero, List.set_cons_succ])
 refine wpAnyH_take (i := 5) (oi := ⟨some 36, .fieldAddr 96 (.tmp 6) 1, 0, "dial.go:240", #[⟨4, .guard⟩], some (4, true)⟩) (v := ?_) rfl (by kernel_rfl) (by kernel_rfl) (by kernel_rfl) (fun _ _ _ h => h) (Or.inl ⟨by rfl, fun W hSw => ?_⟩) hHeld ?_
 rotate_left
 ·(try dsimp only at hSw); go_simp; (try with_reducible rfl)
 (try simp only [Act.put, List.setIfInBounds_toArray, List.set_cons_zero, List.set_cons_succ])
 refine wpAnyH_take (i := 6) (oi := ⟨some 37, .load 89 (.tmp 36), 89, "dial.go:240", #[⟨5, .data⟩, ⟨4, .guard⟩], some (4, true)⟩) (v := ?_) rfl (by kernel_rfl) (by kernel_rfl) (by kernel_rfl) (fun _ _ _ h => h) (Or.inl ⟨by rfl, fun W hSw => ?_⟩) hHeld ?_
 rotate_left
 ·(try dsimp only at hSw); go_simp; (try with_reducible rfl)
 (try simp only [Act.put, List.setIfInBounds_toArray, List.set_cons_zero, List.set_cons_succ])
 refine wpAnyH_take (i := 7) (oi := ⟨some 38, .load 50 (.tmp 3), 50, "dial.go:240", #[⟨4, .guard⟩], some (4, true)⟩) (v := ?_) rfl (by kernel_rfl) (by kernel_rfl) (by kernel_rfl) (fun _ _ _ h => h) (Or.inl ⟨by rfl, fun W hSw => ?_⟩) hHeld ?_
 rotate_left
 ·(try dsimp only at hSw); go_simp; (try with_reducible rfl)
 (try simp only [Act.put, List.setIfInBounds_toArray, List.set_cons_zero, List.set_cons_succ])
 refine wpAnyH_take (i := 9) (oi := ⟨some 40, .fieldAddr 55 (.tmp 2) 2, 0, "dial.go:240", #[⟨4, .guard⟩], some (4, true)⟩) (v := ?_) rfl (by kernel_rfl) (by kernel_rfl) (by kernel_rfl) (fun _ _ _ h => h) (Or.inl ⟨by rfl, fun W hSw => ?_⟩) hHeld ?_
 rotate_left
 ·(try dsimp only at hSw); go_simp; (try with_reducible rfl)
 (try simp only [Act.put, List.setIfInBounds_toArray, List.set_cons_zero, List.set_cons_succ])
 refine wpAnyH_take (i := 10) (oi := ⟨some 41, .load 3 (.tmp 40), 3, "dial.go:240", #[⟨9, .data⟩, ⟨4, .guard⟩], some (4, true)⟩) (v := ?_) rfl (by kernel_rfl) (by kernel_rfl) (by kernel_rfl) (fun _ _ _ h => h) (Or.inl ⟨by rfl, fun W hSw => ?_⟩) hHeld ?_
 rotate_left
 ·(try dsimp only at hSw); go_simp; (try with_reducible rfl)
 (try simp only [Act.put, List.setIfInBounds_toArray, List.set_cons_zero, List.set_cons_succ])
 refine wpAnyH_ready (rs := [8]) (by kernel_rfl) (by simp) ?_
 refine AllReadyH.cons (o := ⟨some 39, .call { callee := .value (.func 52), args := #[.tmp 37, .tmp 38], argTypes := #[89, 50] }, 3, "dial.go:240", #[⟨6, .data⟩, ⟨7, .data⟩, ⟨4, .chain⟩, ⟨4, .guard⟩], some (4, true)⟩) rfl (fun K hK => ?_) AllReadyH.nil
 go_simp
 refine (day_any A1 F1 n1 k1 f1 c1 e1 _ _ _ _ y m d _ (hr1.keep hHeld.2) hs1.1.2 hs1.2 (hF1.keep hHeld.2) he1 hy hm hd).mono ?_
 rw [Q1.out]
 rintro e' wcc ⟨rfl, hb⟩
 refine hK.out _ _ (kp_step hb hHeld) (fun hHeld => ?_)
 clear hK K
 (try simp only [Act.put, List.setIfInBounds_toArray, List.set_cons_zero, List.set_cons_succ])
 refine wpAnyH_take (i := 11) (oi := ⟨some 42, .binOp .leq 3 (.tmp 39) (.tmp 41) 3, 4, "dial.go:240", #[⟨8, .data⟩, ⟨10, .data⟩, ⟨4, .guard⟩], some (4, true)⟩) (v := ?_) rfl (by kernel_rfl) (by kernel_rfl) (by kernel_rfl) (fun _ _ _ h => h) (Or.inl ⟨by rfl, fun W hSw => ?_⟩) hHeld ?_
 rotate_left
 ·(try dsimp only at hSw); go_simp; (try with_reducible rfl)
 (try simp only [Act.put, List.setIfInBounds_toArray, List.set_cons_zero, List.set_cons_succ])
 refine wpAnyH_take (i := 12) (oi := ⟨some 43, .pick (.tmp 35) (.tmp 42) (.const (.bool false)), 4, "dial.go:240", #[⟨4, .data⟩, ⟨11, .data⟩], none⟩) (v := ?_) rfl (by kernel_rfl) (by kernel_rfl) (by kernel_rfl) (fun _ _ _ h => h) (Or.inl ⟨by rfl, fun W hSw => ?_⟩) hHeld ?_
 rotate_left
 ·(try dsimp only at hSw); go_simp; (try with_reducible rfl)
 (try simp only [Act.put, List.setIfInBounds_toArray, List.set_cons_zero, List.set_cons_succ])
 refine wpAnyH_done (by kernel_rfl) ?_ _
 refine NoPanic.normal ?_
 replace hX := hX.keep hHeld.2
 replace hR := hR.keep hHeld.2
 replace hD := hD.keep hHeld.2
 replace hr1 := hr1.keep hHeld.2
 replace hr2 := hr2.keep hHeld.2
 replace hF1 := hF1.keep hHeld.2
 replace hF2 := hF2.keep hHeld.2
 replace hfr := fr_call hfr hHeld.2
 replace hown := hown.keep hHeld.2
 clear hHeld hcX hcR hcD hxl hrl hdl
 have hcX := fun j => hX.cell j
 have hcR := fun j => hR.cell j
 have hcD := fun j => hD.cell j
 have hxl := hX.lt
 have hrl := hR.lt
 have hdl := hD.lt
 go_wp2_with fail
 refine wp_region_noPanic ?_
 refine wp_region_held_drew (S := fun W => (∀ p : Addr, p.block < (wcc).heap.size → W.cell? p = (wcc).cell? p) ∧ Below (wcc).heap.size (wcc) W) (by kernel_rfl) ⟨fun _ _ => rfl, fr_drew (fr_refl _)⟩ (fun hHeld => ?_)
 -- the region, step by step
 refine wpAnyH_take (i := 0) (oi := ⟨some 51, .fieldAddr 96 (.tmp 6) 2, 0, "dial.go:243", #[], none⟩) (v := ?_) rfl (by kernel_rfl) (by kernel_rfl) (by kernel_rfl) (fun _ _ _ h => h) (Or.inl ⟨by rfl, fun W hSw => ?_⟩) hHeld ?_
 rotate_left
 ·(try dsimp only at hSw); go_simp; (try with_reducible rfl)
 (try simp only [Act.put, List.setIfInBounds_toArray, List.set_cons_zero, List.set_cons_succ])
 refine wpAnyH_take (i := 1) (oi := ⟨some 52, .load 89 (.tmp 51), 89, "dial.go:243", #[⟨0, .data⟩], none⟩) (v := ?_) rfl (by kernel_rfl) (by kernel_rfl) (by kernel_rfl) (fun _ _ _ h => h) (Or.inl ⟨by rfl, fun W hSw => ?_⟩) hHeld ?_
 rotate_left
 ·(try dsimp only at hSw); go_simp; (try with_reducible rfl)
 (try simp only [Act.put, List.setIfInBounds_toArray, List.set_cons_zero, List.set_cons_succ])
 refine wpAnyH_take (i := 2) (oi := ⟨some 53, .load 50 (.tmp 3), 50, "dial.go:243", #[], none⟩) (v := ?_) rfl (by kernel_rfl) (by kernel_rfl) (by kernel_rfl) (fun _ _ _ h => h) (Or.inl ⟨by rfl, fun W hSw => ?_⟩) hHeld ?_
 rotate_left
 ·(try dsimp only at hSw); go_simp; (try with_reducible rfl)
 (try simp only [Act.put, List.setIfInBounds_toArray, List.set_cons_zero, List.set_cons_succ])
 refine wpAnyH_ready (rs := [3]) (by kernel_rfl) (by simp) ?_
 refine AllReadyH.cons (o := ⟨some 54, .call { callee := .value (.func 51), args := #[.tmp 52, .tmp 53], argTypes := #[89, 50] }, 4, "dial.go:243", #[⟨1, .data⟩, ⟨2, .data⟩], none⟩) rfl (fun K hK => ?_) AllReadyH.nil
 go_simp
 refine (isDate_is A2 n2 k2 c2 _ _ _ _ _ _ y m d _ (hr2.keep hHeld.2) hs2.1.2 hs2.2 _ hq2).mono ?_
 rintro e' wccb ⟨rfl, hb⟩
 refine hK.out _ _ (kp_step hb hHeld) (fun hHeld => ?_)
 clear hK K
 (try simp only [Act.put, List.setIfInBounds_toArray, List.set_cons_zero, List.set_cons_succ])
 refine wpAnyH_take (i := 4) (oi := ⟨some 55, .move (.tmp 54), 4, "dial.go:243", #[⟨3, .data⟩, ⟨3, .chain⟩], none⟩) (v := ?_) rfl (by kernel_rfl) (by kernel_rfl) (by kernel_rfl) (fun _ _ _ h => h) (Or.inl ⟨by rfl, fun W hSw => ?_⟩) hHeld ?_
 rotate_left
 ·(try dsimp only at hSw); go_simp; (try with_reducible rfl)
 (try simp only [Act.put, List.setIfInBounds_toArray, List.set_cons_zero, List.set_cons_succ])
 refine wpAnyH_take (i := 5) (oi := ⟨some 56, .fieldAddr 96 (.tmp 6) 2, 0, "dial.go:243", #[⟨4, .guard⟩], some (4, true)⟩) (v := ?_) rfl (by kernel_rfl) (by kernel_rfl) (by kernel_rfl) (fun _ _ _ h => h) (Or.inl ⟨by rfl, fun W hSw => ?_⟩) hHeld ?_
 rotate_left
 ·(try dsimp only at hSw); go_simp; (try with_reducible rfl)
 (try simp only [Act.put, List.setIfInBounds_toArray, List.set_cons_zero, List.set_cons_succ])
 refine wpAnyH_take (i := 6) (oi := ⟨some 57, .load 89 (.tmp 56), 89, "dial.go:243", #[⟨5, .data⟩, ⟨4, .guard⟩], some (4, true)⟩) (v := ?_) rfl (by kernel_rfl) (by kernel_rfl) (by kernel_rfl) (fun _ _ _ h => h) (Or.inl ⟨by rfl, fun W hSw => ?_⟩) hHeld ?_
 rotate_left
 ·(try dsimp only at hSw); go_simp; (try with_reducible rfl)
 (try simp only [Act.put, List.setIfInBounds_toArray, List.set_cons_zero, List.set_cons_succ])
 refine wpAnyH_take (i := 7) (oi := ⟨some 58, .load 50 (.tmp 3), 50, "dial.go:243", #[⟨4, .guard⟩], some (4, true)⟩) (v := ?_) rfl (by kernel_rfl) (by kernel_rfl) (by kernel_rfl) (fun _ _ _ h => h) (Or.inl ⟨by rfl, fun W hSw => ?_⟩) hHeld ?_
 rotate_left
 ·(try dsimp only at hSw); go_simp; (try with_reducible rfl)
 (try simp only [Act.put, List.setIfInBounds_toArray, List.set_cons_zero, List.set_cons_succ])
 refine wpAnyH_take (i := 9) (oi := ⟨some 60, .fieldAddr 55 (.tmp 2) 2, 0, "dial.go:243", #[⟨4, .guard⟩], some (4, true)⟩) (v := ?_) rfl (by kernel_rfl) (by kernel_rfl) (by kernel_rfl) (fun _ _ _ h => h) (Or.inl ⟨by rfl, fun W hSw => ?_⟩) hHeld ?_
 rotate_left
 ·(try dsimp only at hSw); go_simp; (try with_reducible rfl)
 (try simp only [Act.put, List.setIfInBounds_toArray, List.set_cons_zero, List.set_cons_succ])
 refine wpAnyH_take (i := 10) (oi := ⟨some 61, .load 3 (.tmp 60), 3, "dial.go:243", #[⟨9, .data⟩, ⟨4, .guard⟩], some (4, true)⟩) (v := ?_) rfl (by kernel_rfl) (by kernel_rfl) (by kernel_rfl) (fun _ _ _ h => h) (Or.inl ⟨by rfl, fun W hSw => ?_⟩) hHeld ?_
 rotate_left
 ·(try dsimp only at hSw); go_simp; (try with_reducible rfl)
 (try simp only [Act.put, List.setIfInBounds_toArray, List.set_cons_zero, List.set_cons_succ])
 refine wpAnyH_ready (rs := [8]) (by kernel_rfl) (by simp) ?_
 refine AllReadyH.cons (o := ⟨some 59, .call { callee := .value (.func 52), args := #[.tmp 57, .tmp 58], argTypes := #[89, 50] }, 3, "dial.go:243", #[⟨6, .data⟩, ⟨7, .data⟩, ⟨4, .chain⟩, ⟨4, .guard⟩], some (4, true)⟩) rfl (fun K hK => ?_) AllReadyH.nil
 go_simp
 refine (day_any A2 F2 n2 k2 f2 c2 e2 _ _ _ _ y m d _ (hr2.keep hHeld.2) hs2.1.2 hs2.2 (hF2.keep hHeld.2) he2 hy hm hd).mono ?_
 rw [Q2.out]
 rintro e' wccc ⟨rfl, hb⟩
 refine hK.out _ _ (kp_step hb hHeld) (fun hHeld => ?_)
 clear hK K
 (try simp only [Act.put, List.setIfInBounds_toArray, List.set_cons_zero, List.set_cons_succ])
 refine wpAnyH_take (i := 11) (oi := ⟨some 62, .binOp .gtr 3 (.tmp 59) (.tmp 61) 3, 4, "dial.go:243", #[⟨8, .data⟩, ⟨10, .data⟩, ⟨4, .guard⟩], some (4, true)⟩) (v := ?_) rfl (by kernel_rfl) (by kernel_rfl) (by kernel_rfl) (fun _ _ _ h => h) (Or.inl ⟨by rfl, fun W hSw => ?_⟩) hHeld ?_
 rotate_left
 ·(try dsimp only at hSw); go_simp; (try with_reducible rfl)
 (try simp only [Act.put, List.setIfInBounds_toArray, List.set_cons_zero, List.set_cons_succ])
 refine wpAnyH_take (i := 12) (oi := ⟨some 63, .pick (.tmp 55) (.tmp 62) (.const (.bool false)), 4, "dial.go:243", #[⟨4, .data⟩, ⟨11, .data⟩], none⟩) (v := ?_) rfl (by kernel_rfl) (by kernel_rfl) (by kernel_rfl) (fun _ _ _ h => h) (Or.inl ⟨by rfl, fun W hSw => ?_⟩) hHeld ?_
 rotate_left
 ·(try dsimp only at hSw); go_simp; (try with_reducible rfl)
 (try simp only [Act.put, List.setIfInBounds_toArray, List.set_cons_zero, List.set_cons_succ])
 refine wpAnyH_done (by kernel_rfl) ?_ _
 refine NoPanic.normal ?_
 replace hX := hX.keep hHeld.2
 replace hR := hR.keep hHeld.2
 replace hD := hD.keep hHeld.2
 replace hr1 := hr1.keep hHeld.2
 replace hr2 := hr2.keep hHeld.2
 replace hF1 := hF1.keep hHeld.2
 replace hF2 := hF2.keep hHeld.2
 replace hfr := fr_call hfr hHeld.2
 replace hown := hown.keep hHeld.2
 clear hHeld hcX hcR hcD hxl hrl hdl
 have hcX := fun j => hX.cell j
 have hcD := fun j => hD.cell j
 go_wp2_with fail
 refine (day_any A2 F2 n2 k2 f2 c2 e2 _ _ _ _ y m d _ hr2 hs2.1.2 hs2.2 hF2 he2 hy hm hd).mono ?_
 rw [Q2.out]
 rintro e' wccd ⟨rfl, hb⟩
 replace hX := hX.keep hb
 replace hR := hR.keep hb
 replace hD := hD.keep hb
 replace hr1 := hr1.keep hb
 replace hr2 := hr2.keep hb
 replace hF1 := hF1.keep hb
 replace hF2 := hF2.keep hb
 replace hfr := fr_call hfr hb
 replace hown := hown.keep hb
 clear hb hcX hcD
 go_wp2_with (at_builtin; refine app_int rfl (.tmp 64) (.tmp 69) rfl w.heap.size _ [] rfl rfl hown (by simp) hfr.size ?_; intro B2 cap2 wcce hown' hg)
 have ha := fr_alloc (fr_refl wccd) (.cells #[.int .i64 q2] 3)
 have hge := own_ge hown
 have hX' := (hX.keep ha).grown hg (Ne.symm (own_blk_ne hown hX (by decide)))
 have hR' := (hR.keep ha).grown hg (Ne.symm (own_blk_ne hown hR (by decide)))
 have hD' := (hD.keep ha).grown hg (Ne.symm (own_blk_ne hown hD (by decide)))
 replace hfr := (fr_call hfr ha).grown hg (fr_call hfr ha).size hge
 replace hX := hX'
 replace hR := hR'
 replace hD := hD'
 replace hown := hown'
 clear hown' hX' hR' hD' hg hge ha
 go_wp2
 go_ret2
 exact ⟨_, _, rfl, hown.rd, hfr⟩

set_option maxRecDepth 100000 in
set_option maxHeartbeats 4000000 in
theorem Days_20 (A1 A2 : Option Addr) (n1 k1 n2 k2 : Nat) (c1 c2 : List Int) (e1 e2 last y m d : Int) (w : World) (hr1 : Rd w A1 n1 c1) (hr2 : Rd w A2 n2 c2) (hn1 : n1 ≤ 9223372036854775807) (hn2 : n2 ≤ 9223372036854775807) (hok : realmOk e1 c1 e2 c2 last = true) (hwr : writtenB y m d = true) (hq1 : realB c1 y m d = true) (q1 : Int) (hQ1 : dayOf e1 c1 ⟨y, m, d⟩ = q1) (hl1 : q1 ≤ last) (hq2 : realB c2 y m d = false) :
  Calls Tryz.prog 25 #[.agg #[.int .i64 e1, .slice A1 n1 k1, .int .i64 e2, .slice A2 n2 k2, .int .i64 last], .agg #[.int .i64 y, .int .i64 m, .int .i64 d]] w fun e' w' =>
   ∃ A c, e' = .returned (.tuple #[.slice A (daysOf e1 c1 e2 c2 last y m d).length c, .int .i64 0]) ∧ Rd w' A (daysOf e1 c1 e2 c2 last y m d).length (daysOf e1 c1 e2 c2 last y m d) ∧ Below w.heap.size w w' := by
 have hL : daysOf e1 c1 e2 c2 last y m d = [q1] ++ [] := by
  unfold daysOf
  rw [hq1, hq2, hQ1]
  rw [if_pos (by simpa using hl1)]
  rw [if_neg (by simp)]
 rw [hL]
 simp only [List.append_nil]
 have Q1 := Lib.hid hQ1
 clear hQ1
 clear hL
 obtain ⟨hk1, hk2⟩ : calOk e1 c1 = true ∧ calOk e2 c2 = true := by
  unfold realmOk at hok
  simp only [Bool.and_eq_true] at hok
  exact hok.1
 obtain ⟨he1, hs1⟩ := calOk_parts hk1
 obtain ⟨he2, hs2⟩ := calOk_parts hk2
 rw [hr1.len] at hs1
 rw [hr2.len] at hs2
 obtain ⟨w1, w2, w3⟩ : inB y 0 4000 = true ∧ inB m 1 12 = true ∧ inB d 1 31 = true := by
  unfold writtenB at hwr
  simp only [Bool.and_eq_true] at hwr
  exact ⟨hwr.1.1, hwr.1.2, hwr.2⟩
 have hy := inB_iff.1 w1
 have hm := inB_iff.1 w2
 have hd := inB_iff.1 w3
 have g1 := fr_alloc (fr_alloc (fr_refl w) (.cells #[.int .i64 e1, .slice A1 n1 k1, .int .i64 e2, .slice A2 n2 k2, .int .i64 last] 55)) (.cells #[.int .i64 y, .int .i64 m, .int .i64 d] 50)
 have hR : Blk ((w.alloc (.cells #[.int .i64 e1, .slice A1 n1 k1, .int .i64 e2, .slice A2 n2 k2, .int .i64 last] 55)).alloc (.cells #[.int .i64 y, .int .i64 m, .int .i64 d] 50)) w.heap.size 55 #[.int .i64 e1, .slice A1 n1 k1, .int .i64 e2, .slice A2 n2 k2, .int .i64 last] := (Blk.new w _ _).alloc _
 have hD : Blk ((w.alloc (.cells #[.int .i64 e1, .slice A1 n1 k1, .int .i64 e2, .slice A2 n2 k2, .int .i64 last] 55)).alloc (.cells #[.int .i64 y, .int .i64 m, .int .i64 d] 50)) (w.heap.size + 1) 50 #[.int .i64 y, .int .i64 m, .int .i64 d] := Blk.new_at _ _ (by simp)
 go_enter Tryz.func25, Tryz.ntmps25
 go_wp2_with fail
 refine (isRealm_is A1 A2 n1 k1 n2 k2 c1 c2 e1 e2 last _ (hr1.keep g1) (hr2.keep g1) hn1 hn2 _ hok).mono ?_
 rintro e' wa ⟨rfl, hb1⟩
 obtain ⟨hc_wa, hf_wa⟩ := bcell hb1
 have hz0_wa : w.heap.size < wa.heap.size := Nat.lt_of_lt_of_le (by first | omega | (simp; done) | (simp; omega)) hb1.size
 have hz1_wa : w.heap.size + 1 < wa.heap.size := Nat.lt_of_lt_of_le (by first | omega | (simp; done) | (simp; omega)) hb1.size
 go_wp2_with fail
 refine (isYear_is _ _ _ w1).mono ?_
 rintro e' wa' ⟨rfl, rfl⟩
 go_wp2_with fail
 refine (in_is _ _ _ _ _ w2).mono ?_
 rintro e' wa' ⟨rfl, rfl⟩
 go_wp2_with fail
 refine (in_is _ _ _ _ _ w3).mono ?_
 rintro e' wa' ⟨rfl, rfl⟩
 go_wp2_with fail
 refine (opens_any A1 A2 n1 k1 n2 k2 c1 c2 e1 e2 last _ ((hr1.keep g1).keep hb1) ((hr2.keep g1).keep hb1) hk1 hk2).mono ?_
 rintro e' wb ⟨F1, f1, M1, F2, f2, M2, rfl, hF1, hF2, hb2⟩
 have hZ := Blk.new wb 96 #[.int .i64 0, .slice none 0 0, .int .i64 0, .slice none 0 0, .int .i64 0, .int .i64 0, .slice none 0 0, .int .i64 0, .int .i64 0, .int .i64 0, .slice none 0 0, .map none, .int .i64 0, .slice none 0 0, .int .i64 0, .int .i64 0, .int .i64 0, .slice none 0 0, .map none]
 go_wp2_with (refine wpList_store_blk rfl _ _ _ rfl wb.heap.size 96 _ _ rfl rfl hZ rfl (by kernel_rfl) (by simp [Value.oneCell']) ?_; intro wc hX hgc)
 have hgb : Below wb.heap.size wb wc := (fr_alloc (fr_refl wb) _).grown hgc (by simp) (by intro k hk; cases hk; exact Nat.le_refl _)
 have hbb := fr_call hb2 hgb
 have hfr := fr_call (fr_call g1 hb1) hbb
 replace hR := (hR.keep hb1).keep hbb
 replace hD := (hD.keep hb1).keep hbb
 replace hr1 := ((hr1.keep g1).keep hb1).keep hbb
 replace hr2 := ((hr2.keep g1).keep hb1).keep hbb
 replace hF1 := hF1.keep hgb
 replace hF2 := hF2.keep hgb
 have hown := Own.nil wc w.heap.size
 clear hZ hgc hgb hbb hb1 hb2 hc_wa hf_wa hz0_wa hz1_wa g1
 generalize wb.heap.size = bx at *
 have hcX := fun j => hX.cell j
 have hcR := fun j => hR.cell j
 have hcD := fun j => hD.cell j
 have hxl := hX.lt
 have hrl := hR.lt
 have hdl := hD.lt
 go_wp2_with fail
 refine wp_region_noPanic ?_
 refine wp_region_held_drew (S := fun W => (∀ p : Addr, p.block < (wc).heap.size → W.cell? p = (wc).cell? p) ∧ Below (wc).heap.size (wc) W) (by kernel_rfl) ⟨fun _ _ => rfl, fr_drew (fr_refl _)⟩ (fun hHeld => ?_)
 -- the region, step by step
 refine wpAnyH_take (i := 0) (oi := ⟨some 31, .fieldAddr 96 (.tmp 6) 1, 0, "dial.go:240", #[], none⟩) (v := ?_) rfl (by kernel_rfl) (by kernel_rfl) (by kernel_rfl) (fun _ _ _ h => h) (Or.inl ⟨by rfl, fun W hSw => ?_⟩) hHeld ?_
 rotate_left
 ·(try dsimp only at hSw); go_simp; (try with_reducible rfl)
 (try simp only [Act.put, List.setIfInBounds_toArray, List.set_cons_zero, List.set_cons_succ])
 refine wpAnyH_take (i := 1) (oi := ⟨some 32, .load 89 (.tmp 31), 89, "dial.go:240", #[⟨0, .data⟩], none⟩) (v := ?_) rfl (by kernel_rfl) (by kernel_rfl) (by kernel_rfl) (fun _ _ _ h => h) (Or.inl ⟨by rfl, fun W hSw => ?_⟩) hHeld ?_
 rotate_left
 ·(try dsimp only at hSw); go_simp; (try with_reducible rfl)
 (try simp only [Act.put, List.setIfInBounds_toArray, List.set_cons_zero, List.set_cons_succ])
 refine wpAnyH_take (i := 2) (oi := ⟨some 33, .load 50 (.tmp 3), 50, "dial.go:240", #[], none⟩) (v := ?_) rfl (by kernel_rfl) (by kernel_rfl) (by kernel_rfl) (fun _ _ _ h => h) (Or.inl ⟨by rfl, fun W hSw => ?_⟩) hHeld ?_
 rotate_left
 ·(try dsimp only at hSw); go_simp; (try with_reducible rfl)
 (try simp only [Act.put, List.setIfInBounds_toArray, List.set_cons_zero, List.set_cons_succ])
 refine wpAnyH_ready (rs := [3]) (by kernel_rfl) (by simp) ?_
 refine AllReadyH.cons (o := ⟨some 34, .call { callee := .value (.func 51), args := #[.tmp 32, .tmp 33], argTypes := #[89, 50] }, 4, "dial.go:240", #[⟨1, .data⟩, ⟨2, .data⟩], none⟩) rfl (fun K hK => ?_) AllReadyH.nil
 go_simp
 refine (isDate_is A1 n1 k1 c1 _ _ _ _ _ _ y m d _ (hr1.keep hHeld.2) hs1.1.2 hs1.2 _ hq1).mono ?_
 rintro e' wcb ⟨rfl, hb⟩
 refine hK.out _ _ (kp_step hb hHeld) (fun hHeld => ?_)
 clear hK K
 (try simp only [Act.put, List.setIfInBounds_toArray, List.set_cons_zero, List.set_cons_succ])
 refine wpAnyH_take (i := 4) (oi := ⟨some 35, .move (.tmp 34), 4, "dial.go:240", #[⟨3, .data⟩, ⟨3, .chain⟩], none⟩) (v := ?_) rfl (by kernel_rfl) (by kernel_rfl) (by kernel_rfl) (fun _ _ _ h => h) (Or.inl ⟨by rfl, fun W hSw => ?_⟩) hHeld ?_
 rotate_left
 ·(try dsimp only at hSw); go_simp; (try with_reducible rfl)
 (try simp only [Act.put, List.setIfInBounds_toArray, List.set_cons_zero, List.set_cons_succ])
 refine wpAnyH_take (i := 5) (oi := ⟨some 36, .fieldAddr 96 (.tmp 6) 1, 0, "dial.go:240", #[⟨4, .guard⟩], some (4, true)⟩) (v := ?_) rfl (by kernel_rfl) (by kernel_rfl) (by kernel_rfl) (fun _ _ _ h => h) (Or.inl ⟨by rfl, fun W hSw => ?_⟩) hHeld ?_
 rotate_left
 ·(try dsimp only at hSw); go_simp; (try with_reducible rfl)
 (try simp only [Act.put, List.setIfInBounds_toArray, List.set_cons_zero, List.set_cons_succ])
 refine wpAnyH_take (i := 6) (oi := ⟨some 37, .load 89 (.tmp 36), 89, "dial.go:240", #[⟨5, .data⟩, ⟨4, .guard⟩], some (4, true)⟩) (v := ?_) rfl (by kernel_rfl) (by kernel_rfl) (by kernel_rfl) (fun _ _ _ h => h) (Or.inl ⟨by rfl, fun W hSw => ?_⟩) hHeld ?_
 rotate_left
 ·(try dsimp only at hSw); go_simp; (try with_reducible rfl)
 (try simp only [Act.put, List.setIfInBounds_toArray, List.set_cons_zero, List.set_cons_succ])
 refine wpAnyH_take (i := 7) (oi := ⟨some 38, .load 50 (.tmp 3), 50, "dial.go:240", #[⟨4, .guard⟩], some (4, true)⟩) (v := ?_) rfl (by kernel_rfl) (by kernel_rfl) (by kernel_rfl) (fun _ _ _ h => h) (Or.inl ⟨by rfl, fun W hSw => ?_⟩) hHeld ?_
 rotate_left
 ·(try dsimp only at hSw); go_simp; (try with_reducible rfl)
 (try simp only [Act.put, List.setIfInBounds_toArray, List.set_cons_zero, List.set_cons_succ])
 refine wpAnyH_take (i := 9) (oi := ⟨some 40, .fieldAddr 55 (.tmp 2) 2, 0, "dial.go:240", #[⟨4, .guard⟩], some (4, true)⟩) (v := ?_) rfl (by kernel_rfl) (by kernel_rfl) (by kernel_rfl) (fun _ _ _ h => h) (Or.inl ⟨by rfl, fun W hSw => ?_⟩) hHeld ?_
 rotate_left
 ·(try dsimp only at hSw); go_simp; (try with_reducible rfl)
 (try simp only [Act.put, List.setIfInBounds_toArray, List.set_cons_zero, List.set_cons_succ])
 refine wpAnyH_take (i := 10) (oi := ⟨some 41, .load 3 (.tmp 40), 3, "dial.go:240", #[⟨9, .data⟩, ⟨4, .guard⟩], some (4, true)⟩) (v := ?_) rfl (by kernel_rfl) (by kernel_rfl) (by kernel_rfl) (fun _ _ _ h => h) (Or.inl ⟨by rfl, fun W hSw => ?_⟩) hHeld ?_
 rotate_left
 ·(try dsimp only at hSw); go_simp; (try with_reducible rfl)
 (try simp only [Act.put, List.setIfInBounds_toArray, List.set_cons_zero, List.set_cons_succ])
 refine wpAnyH_ready (rs := [8]) (by kernel_rfl) (by simp) ?_
 refine AllReadyH.cons (o := ⟨some 39, .call { callee := .value (.func 52), args := #[.tmp 37, .tmp 38], argTypes := #[89, 50] }, 3, "dial.go:240", #[⟨6, .data⟩, ⟨7, .data⟩, ⟨4, .chain⟩, ⟨4, .guard⟩], some (4, true)⟩) rfl (fun K hK => ?_) AllReadyH.nil
 go_simp
 refine (day_any A1 F1 n1 k1 f1 c1 e1 _ _ _ _ y m d _ (hr1.keep hHeld.2) hs1.1.2 hs1.2 (hF1.keep hHeld.2) he1 hy hm hd).mono ?_
 rw [Q1.out]
 rintro e' wcc ⟨rfl, hb⟩
 refine hK.out _ _ (kp_step hb hHeld) (fun hHeld => ?_)
 clear hK K
 (try simp only [Act.put, List.setIfInBounds_toArray, List.set_cons_zero, List.set_cons_succ])
 refine wpAnyH_take (i := 11) (oi := ⟨some 42, .binOp .leq 3 (.tmp 39) (.tmp 41) 3, 4, "dial.go:240", #[⟨8, .data⟩, ⟨10, .data⟩, ⟨4, .guard⟩], some (4, true)⟩) (v := ?_) rfl (by kernel_rfl) (by kernel_rfl) (by kernel_rfl) (fun _ _ _ h => h) (Or.inl ⟨by rfl, fun W hSw => ?_⟩) hHeld ?_
 rotate_left
 ·(try dsimp only at hSw); go_simp; (try with_reducible rfl)
 (try simp only [Act.put, List.setIfInBounds_toArray, List.set_cons_zero, List.set_cons_succ])
 refine wpAnyH_take (i := 12) (oi := ⟨some 43, .pick (.tmp 35) (.tmp 42) (.const (.bool false)), 4, "dial.go:240", #[⟨4, .data⟩, ⟨11, .data⟩], none⟩) (v := ?_) rfl (by kernel_rfl) (by kernel_rfl) (by kernel_rfl) (fun _ _ _ h => h) (Or.inl ⟨by rfl, fun W hSw => ?_⟩) hHeld ?_
 rotate_left
 ·(try dsimp only at hSw); go_simp; (try with_reducible rfl)
 (try simp only [Act.put, List.setIfInBounds_toArray, List.set_cons_zero, List.set_cons_succ])
 refine wpAnyH_done (by kernel_rfl) ?_ _
 refine NoPanic.normal ?_
 replace hX := hX.keep hHeld.2
 replace hR := hR.keep hHeld.2
 replace hD := hD.keep hHeld.2
 replace hr1 := hr1.keep hHeld.2
 replace hr2 := hr2.keep hHeld.2
 replace hF1 := hF1.keep hHeld.2
 replace hF2 := hF2.keep hHeld.2
 replace hfr := fr_call hfr hHeld.2
 replace hown := hown.keep hHeld.2
 clear hHeld hcX hcR hcD hxl hrl hdl
 have hcX := fun j => hX.cell j
 have hcD := fun j => hD.cell j
 go_wp2_with fail
 refine (day_any A1 F1 n1 k1 f1 c1 e1 _ _ _ _ y m d _ hr1 hs1.1.2 hs1.2 hF1 he1 hy hm hd).mono ?_
 rw [Q1.out]
 rintro e' wcd ⟨rfl, hb⟩
 replace hX := hX.keep hb
 replace hR := hR.keep hb
 replace hD := hD.keep hb
 replace hr1 := hr1.keep hb
 replace hr2 := hr2.keep hb
 replace hF1 := hF1.keep hb
 replace hF2 := hF2.keep hb
 replace hfr := fr_call hfr hb
 replace hown := hown.keep hb
 clear hb hcX hcD
 go_wp2_with (at_builtin; refine app_int rfl (.tmp 44) (.tmp 49) rfl w.heap.size _ [] rfl rfl hown (by simp) hfr.size ?_; intro B1 cap1 wce hown' hg)
 have ha := fr_alloc (fr_refl wcd) (.cells #[.int .i64 q1] 3)
 have hge := own_ge hown
 have hX' := (hX.keep ha).grown hg (Ne.symm (own_blk_ne hown hX (by decide)))
 have hR' := (hR.keep ha).grown hg (Ne.symm (own_blk_ne hown hR (by decide)))
 have hD' := (hD.keep ha).grown hg (Ne.symm (own_blk_ne hown hD (by decide)))
 have hbel : Below wcd.heap.size wcd wce := ⟨hg.os, hg.tape, hg.output, Nat.le_trans ha.size hg.size, fun k hk => (hg.block k (Nat.lt_of_lt_of_le hk ha.size) (by intro h; cases h)).trans (ha.block k hk)⟩
 replace hr1 := hr1.keep hbel
 replace hr2 := hr2.keep hbel
 replace hF1 := hF1.keep hbel
 replace hF2 := hF2.keep hbel
 replace hfr := fr_call hfr hbel
 replace hX := hX'
 replace hR := hR'
 replace hD := hD'
 replace hown := hown'
 clear hown' hX' hR' hD' hg hge ha hbel
 have hcX := fun j => hX.cell j
 have hcR := fun j => hR.cell j
 have hcD := fun j => hD.cell j
 have hxl := hX.lt
 have hrl := hR.lt
 have hdl := hD.lt
 go_wp2_with fail
 refine wp_region_noPanic ?_
 refine wp_region_held_drew (S := fun W => (∀ p : Addr, p.block < (wce).heap.size → W.cell? p = (wce).cell? p) ∧ Below (wce).heap.size (wce) W) (by kernel_rfl) ⟨fun _ _ => rfl, fr_drew (fr_refl _)⟩ (fun hHeld => ?_)
 -- the region, step by step
 refine wpAnyH_take (i := 0) (oi := ⟨some 51, .fieldAddr 96 (.tmp 6) 2, 0, "dial.go:243", #[], none⟩) (v := ?_) rfl (by kernel_rfl) (by kernel_rfl) (by kernel_rfl) (fun _ _ _ h => h) (Or.inl ⟨by rfl, fun W hSw => ?_⟩) hHeld ?_
 rotate_left
 ·(try dsimp only at hSw); go_simp; (try with_reducible rfl)
 (try simp only [Act.put, List.setIfInBounds_toArray, List.set_cons_zero, List.set_cons_succ])
 refine wpAnyH_take (i := 1) (oi := ⟨some 52, .load 89 (.tmp 51), 89, "dial.go:243", #[⟨0, .data⟩], none⟩) (v := ?_) rfl (by kernel_rfl) (by kernel_rfl) (by kernel_rfl) (fun _ _ _ h => h) (Or.inl ⟨by rfl, fun W hSw => ?_⟩) hHeld ?_
 rotate_left
 ·(try dsimp only at hSw); go_simp; (try with_reducible rfl)
 (try simp only [Act.put, List.setIfInBounds_toArray, List.set_cons_zero, List.set_cons_succ])
 refine wpAnyH_take (i := 2) (oi := ⟨some 53, .load 50 (.tmp 3), 50, "dial.go:243", #[], none⟩) (v := ?_) rfl (by kernel_rfl) (by kernel_rfl) (by kernel_rfl) (fun _ _ _ h => h) (Or.inl ⟨by rfl, fun W hSw => ?_⟩) hHeld ?_
 rotate_left
 ·(try dsimp only at hSw); go_simp; (try with_reducible rfl)
 (try simp only [Act.put, List.setIfInBounds_toArray, List.set_cons_zero, List.set_cons_succ])
 refine wpAnyH_ready (rs := [3]) (by kernel_rfl) (by simp) ?_
 refine AllReadyH.cons (o := ⟨some 54, .call { callee := .value (.func 51), args := #[.tmp 52, .tmp 53], argTypes := #[89, 50] }, 4, "dial.go:243", #[⟨1, .data⟩, ⟨2, .data⟩], none⟩) rfl (fun K hK => ?_) AllReadyH.nil
 go_simp
 refine (isDate_is A2 n2 k2 c2 _ _ _ _ _ _ y m d _ (hr2.keep hHeld.2) hs2.1.2 hs2.2 _ hq2).mono ?_
 rintro e' wceb ⟨rfl, hb⟩
 refine hK.out _ _ (kp_step hb hHeld) (fun hHeld => ?_)
 clear hK K
 (try simp only [Act.put, List.setIfInBounds_toArray, List.set_cons_zero, List.set_cons_succ])
 refine wpAnyH_take (i := 4) (oi := ⟨some 55, .move (.tmp 54), 4, "dial.go:243", #[⟨3, .data⟩, ⟨3, .chain⟩], none⟩) (v := ?_) rfl (by kernel_rfl) (by kernel_rfl) (by kernel_rfl) (fun _ _ _ h => h) (Or.inl ⟨by rfl, fun W hSw => ?_⟩) hHeld ?_
 rotate_left
 ·(try dsimp only at hSw); go_simp; (try with_reducible rfl)
 (try simp only [Act.put, List.setIfInBounds_toArray, List.set_cons_zero, List.set_cons_succ])
 refine wpAnyH_take (i := 5) (oi := ⟨some 56, .fieldAddr 96 (.tmp 6) 2, 0, "dial.go:243", #[⟨4, .guard⟩], some (4, true)⟩) (v := undef) rfl (by kernel_rfl) (by kernel_rfl) (by kernel_rfl) (fun _ _ _ h => h) (Or.inr ⟨by rfl, rfl⟩) hHeld ?_
 (try simp only [Act.put, List.setIfInBounds_toArray, List.set_cons_zero, List.set_cons_succ])
 refine wpAnyH_take (i := 6) (oi := ⟨some 57, .load 89 (.tmp 56), 89, "dial.go:243", #[⟨5, .data⟩, ⟨4, .guard⟩], some (4, true)⟩) (v := undef) rfl (by kernel_rfl) (by kernel_rfl) (by kernel_rfl) (fun _ _ _ h => h) (Or.inr ⟨by rfl, rfl⟩) hHeld ?_
 (try simp only [Act.put, List.setIfInBounds_toArray, List.set_cons_zero, List.set_cons_succ])
 refine wpAnyH_take (i := 7) (oi := ⟨some 58, .load 50 (.tmp 3), 50, "dial.go:243", #[⟨4, .guard⟩], some (4, true)⟩) (v := undef) rfl (by kernel_rfl) (by kernel_rfl) (by kernel_rfl) (fun _ _ _ h => h) (Or.inr ⟨by rfl, rfl⟩) hHeld ?_
 (try simp only [Act.put, List.setIfInBounds_toArray, List.set_cons_zero, List.set_cons_succ])
 refine wpAnyH_take (i := 8) (oi := ⟨some 59, .call { callee := .value (.func 52), args := #[.tmp 57, .tmp 58], argTypes := #[89, 50] }, 3, "dial.go:243", #[⟨6, .data⟩, ⟨7, .data⟩, ⟨4, .chain⟩, ⟨4, .guard⟩], some (4, true)⟩) (v := undef) rfl (by kernel_rfl) (by kernel_rfl) (by kernel_rfl) (fun _ _ _ h => h) (Or.inr ⟨by rfl, rfl⟩) hHeld ?_
 (try simp only [Act.put, List.setIfInBounds_toArray, List.set_cons_zero, List.set_cons_succ])
 refine wpAnyH_take (i := 9) (oi := ⟨some 60, .fieldAddr 55 (.tmp 2) 2, 0, "dial.go:243", #[⟨4, .guard⟩], some (4, true)⟩) (v := undef) rfl (by kernel_rfl) (by kernel_rfl) (by kernel_rfl) (fun _ _ _ h => h) (Or.inr ⟨by rfl, rfl⟩) hHeld ?_
 (try simp only [Act.put, List.setIfInBounds_toArray, List.set_cons_zero, List.set_cons_succ])
 refine wpAnyH_take (i := 10) (oi := ⟨some 61, .load 3 (.tmp 60), 3, "dial.go:243", #[⟨9, .data⟩, ⟨4, .guard⟩], some (4, true)⟩) (v := undef) rfl (by kernel_rfl) (by kernel_rfl) (by kernel_rfl) (fun _ _ _ h => h) (Or.inr ⟨by rfl, rfl⟩) hHeld ?_
 (try simp only [Act.put, List.setIfInBounds_toArray, List.set_cons_zero, List.set_cons_succ])
 refine wpAnyH_take (i := 11) (oi := ⟨some 62, .binOp .gtr 3 (.tmp 59) (.tmp 61) 3, 4, "dial.go:243", #[⟨8, .data⟩, ⟨10, .data⟩, ⟨4, .guard⟩], some (4, true)⟩) (v := undef) rfl (by kernel_rfl) (by kernel_rfl) (by kernel_rfl) (fun _ _ _ h => h) (Or.inr ⟨by rfl, rfl⟩) hHeld ?_
 (try simp only [Act.put, List.setIfInBounds_toArray, List.set_cons_zero, List.set_cons_succ])
 refine wpAnyH_take (i := 12) (oi := ⟨some 63, .pick (.tmp 55) (.tmp 62) (.const (.bool false)), 4, "dial.go:243", #[⟨4, .data⟩, ⟨11, .data⟩], none⟩) (v := ?_) rfl (by kernel_rfl) (by kernel_rfl) (by kernel_rfl) (fun _ _ _ h => h) (Or.inl ⟨by rfl, fun W hSw => ?_⟩) hHeld ?_
 rotate_left
 ·(try dsimp only at hSw); go_simp; (try with_reducible rfl)
 (try simp only [Act.put, List.setIfInBounds_toArray, List.set_cons_zero, List.set_cons_succ])
 refine wpAnyH_done (by kernel_rfl) ?_ _
 refine NoPanic.normal ?_
 replace hX := hX.keep hHeld.2
 replace hR := hR.keep hHeld.2
 replace hD := hD.keep hHeld.2
 replace hr1 := hr1.keep hHeld.2
 replace hr2 := hr2.keep hHeld.2
 replace hF1 := hF1.keep hHeld.2
 replace hF2 := hF2.keep hHeld.2
 replace hfr := fr_call hfr hHeld.2
 replace hown := hown.keep hHeld.2
 clear hHeld hcX hcR hcD hxl hrl hdl
 go_wp2
 go_ret2
 exact ⟨_, _, rfl, hown.rd, hfr⟩

set_option maxRecDepth 100000 in
set_option maxHeartbeats 4000000 in
theorem Days_21 (A1 A2 : Option Addr) (n1 k1 n2 k2 : Nat) (c1 c2 : List Int) (e1 e2 last y m d : Int) (w : World) (hr1 : Rd w A1 n1 c1) (hr2 : Rd w A2 n2 c2) (hn1 : n1 ≤ 9223372036854775807) (hn2 : n2 ≤ 9223372036854775807) (hok : realmOk e1 c1 e2 c2 last = true) (hwr : writtenB y m d = true) (hq1 : realB c1 y m d = true) (q1 : Int) (hQ1 : dayOf e1 c1 ⟨y, m, d⟩ = q1) (hl1 : q1 ≤ last) (hq2 : realB c2 y m d = true) (q2 : Int) (hQ2 : dayOf e2 c2 ⟨y, m, d⟩ = q2) (hl2 : ¬ last < q2) :
  Calls Tryz.prog 25 #[.agg #[.int .i64 e1, .slice A1 n1 k1, .int .i64 e2, .slice A2 n2 k2, .int .i64 last], .agg #[.int .i64 y, .int .i64 m, .int .i64 d]] w fun e' w' =>
   ∃ A c, e' = .returned (.tuple #[.slice A (daysOf e1 c1 e2 c2 last y m d).length c, .int .i64 0]) ∧ Rd w' A (daysOf e1 c1 e2 c2 last y m d).length (daysOf e1 c1 e2 c2 last y m d) ∧ Below w.heap.size w w' := by
 have hL : daysOf e1 c1 e2 c2 last y m d = [q1] ++ [] := by
  unfold daysOf
  rw [hq1, hq2, hQ1, hQ2]
  rw [if_pos (by simpa using hl1)]
  rw [if_neg (by simpa using hl2)]
 rw [hL]
 simp only [List.append_nil]
 have Q1 := Lib.hid hQ1
 clear hQ1
 have Q2 := Lib.hid hQ2
 clear hQ2
 clear hL
 obtain ⟨hk1, hk2⟩ : calOk e1 c1 = true ∧ calOk e2 c2 = true := by
  unfold realmOk at hok
  simp only [Bool.and_eq_true] at hok
  exact hok.1
 obtain ⟨he1, hs1⟩ := calOk_parts hk1
 obtain ⟨he2, hs2⟩ := calOk_parts hk2
 rw [hr1.len] at hs1
 rw [hr2.len] at hs2
 obtain ⟨w1, w2, w3⟩ : inB y 0 4000 = true ∧ inB m 1 12 = true ∧ inB d 1 31 = true := by
  unfold writtenB at hwr
  simp only [Bool.and_eq_true] at hwr
  exact ⟨hwr.1.1, hwr.1.2, hwr.2⟩
 have hy := inB_iff.1 w1
 have hm := inB_iff.1 w2
 have hd := inB_iff.1 w3
 have g1 := fr_alloc (fr_alloc (fr_refl w) (.cells #[.int .i64 e1, .slice A1 n1 k1, .int .i64 e2, .slice A2 n2 k2, .int .i64 last] 55)) (.cells #[.int .i64 y, .int .i64 m, .int .i64 d] 50)
 have hR : Blk ((w.alloc (.cells #[.int .i64 e1, .slice A1 n1 k1, .int .i64 e2, .slice A2 n2 k2, .int .i64 last] 55)).alloc (.cells #[.int .i64 y, .int .i64 m, .int .i64 d] 50)) w.heap.size 55 #[.int .i64 e1, .slice A1 n1 k1, .int .i64 e2, .slice A2 n2 k2, .int .i64 last] := (Blk.new w _ _).alloc _
 have hD : Blk ((w.alloc (.cells #[.int .i64 e1, .slice A1 n1 k1, .int .i64 e2, .slice A2 n2 k2, .int .i64 last] 55)).alloc (.cells #[.int .i64 y, .int .i64 m, .int .i64 d] 50)) (w.heap.size + 1) 50 #[.int .i64 y, .int .i64 m, .int .i64 d] := Blk.new_at _ _ (by simp)
 go_enter Tryz.func25, Tryz.ntmps25
 go_wp2_with fail
 refine (isRealm_is A1 A2 n1 k1 n2 k2 c1 c2 e1 e2 last _ (hr1.keep g1) (hr2.keep g1) hn1 hn2 _ hok).mono ?_
 rintro e' wa ⟨rfl, hb1⟩
 obtain ⟨hc_wa, hf_wa⟩ := bcell hb1
 have hz0_wa : w.heap.size < wa.heap.size := Nat.lt_of_lt_of_le (by first | omega | (simp; done) | (simp; omega)) hb1.size
 have hz1_wa : w.heap.size + 1 < wa.heap.size := Nat.lt_of_lt_of_le (by first | omega | (simp; done) | (simp; omega)) hb1.size
 go_wp2_with fail
 refine (isYear_is _ _ _ w1).mono ?_
 rintro e' wa' ⟨rfl, rfl⟩
 go_wp2_with fail
 refine (in_is _ _ _ _ _ w2).mono ?_
 rintro e' wa' ⟨rfl, rfl⟩
 go_wp2_with fail
 refine (in_is _ _ _ _ _ w3).mono ?_
 rintro e' wa' ⟨rfl, rfl⟩
 go_wp2_with fail
 refine (opens_any A1 A2 n1 k1 n2 k2 c1 c2 e1 e2 last _ ((hr1.keep g1).keep hb1) ((hr2.keep g1).keep hb1) hk1 hk2).mono ?_
 rintro e' wb ⟨F1, f1, M1, F2, f2, M2, rfl, hF1, hF2, hb2⟩
 have hZ := Blk.new wb 96 #[.int .i64 0, .slice none 0 0, .int .i64 0, .slice none 0 0, .int .i64 0, .int .i64 0, .slice none 0 0, .int .i64 0, .int .i64 0, .int .i64 0, .slice none 0 0, .map none, .int .i64 0, .slice none 0 0, .int .i64 0, .int .i64 0, .int .i64 0, .slice none 0 0, .map none]
 go_wp2_with (refine wpList_store_blk rfl _ _ _ rfl wb.heap.size 96 _ _ rfl rfl hZ rfl (by kernel_rfl) (by simp [Value.oneCell']) ?_; intro wc hX hgc)
 have hgb : Below wb.heap.size wb wc := (fr_alloc (fr_refl wb) _).grown hgc (by simp) (by intro k hk; cases hk; exact Nat.le_refl _)
 have hbb := fr_call hb2 hgb
 have hfr := fr_call (fr_call g1 hb1) hbb
 replace hR := (hR.keep hb1).keep hbb
 replace hD := (hD.keep hb1).keep hbb
 replace hr1 := ((hr1.keep g1).keep hb1).keep hbb
 replace hr2 := ((hr2.keep g1).keep hb1).keep hbb
 replace hF1 := hF1.keep hgb
 replace hF2 := hF2.keep hgb
 have hown := Own.nil wc w.heap.size
 clear hZ hgc hgb hbb hb1 hb2 hc_wa hf_wa hz0_wa hz1_wa g1
 generalize wb.heap.size = bx at *
 have hcX := fun j => hX.cell j
 have hcR := fun j => hR.cell j
 have hcD := fun j => hD.cell j
 have hxl := hX.lt
 have hrl := hR.lt
 have hdl := hD.lt
 go_wp2_with fail
 refine wp_region_noPanic ?_
 refine wp_region_held_drew (S := fun W => (∀ p : Addr, p.block < (wc).heap.size → W.cell? p = (wc).cell? p) ∧ Below (wc).heap.size (wc) W) (by kernel_rfl) ⟨fun _ _ => rfl, fr_drew (fr_refl _)⟩ (fun hHeld => ?_)
 -- the region, step by step
 refine wpAnyH_take (i := 0) (oi := ⟨some 31, .fieldAddr 96 (.tmp 6) 1, 0, "dial.go:240", #[], none⟩) (v := ?_) rfl (by kernel_rfl) (by kernel_rfl) (by kernel_rfl) (fun _ _ _ h => h) (Or.inl ⟨by rfl, fun W hSw => ?_⟩) hHeld ?_
 rotate_left
 ·(try dsimp only at hSw); go_simp; (try with_reducible rfl)
 (try simp only [Act.put, List.setIfInBounds_toArray, List.set_cons_zero, List.set_cons_succ])
 refine wpAnyH_take (i := 1) (oi := ⟨some 32, .load 89 (.tmp 31), 89, "dial.go:240", #[⟨0, .data⟩], none⟩) (v := ?_) rfl (by kernel_rfl) (by kernel_rfl) (by kernel_rfl) (fun _ _ _ h => h) (Or.inl ⟨by rfl, fun W hSw => ?_⟩) hHeld ?_
 rotate_left
 ·(try dsimp only at hSw); go_simp; (try with_reducible rfl)
 (try simp only [Act.put, List.setIfInBounds_toArray, List.set_cons_zero, List.set_cons_succ])
 refine wpAnyH_take (i := 2) (oi := ⟨some 33, .load 50 (.tmp 3), 50, "dial.go:240", #[], none⟩) (v := ?_) rfl (by kernel_rfl) (by kernel_rfl) (by kernel_rfl) (fun _ _ _ h => h) (Or.inl ⟨by rfl, fun W hSw => ?_⟩) hHeld ?_
 rotate_left
 ·(try dsimp only at hSw); go_simp; (try with_reducible rfl)
 (try simp only [Act.put, List.setIfInBounds_toArray, List.set_cons_zero, List.set_cons_succ])
 refine wpAnyH_ready (rs := [3]) (by kernel_rfl) (by simp) ?_
 refine AllReadyH.cons (o := ⟨some 34, .call { callee := .value (.func 51), args := #[.tmp 32, .tmp 33], argTypes := #[89, 50] }, 4, "dial.go:240", #[⟨1, .data⟩, ⟨2, .data⟩], none⟩) rfl (fun K hK => ?_) AllReadyH.nil
 go_simp
 refine (isDate_is A1 n1 k1 c1 _ _ _ _ _ _ y m d _ (hr1.keep hHeld.2) hs1.1.2 hs1.2 _ hq1).mono ?_
 rintro e' wcb ⟨rfl, hb⟩
 refine hK.out _ _ (kp_step hb hHeld) (fun hHeld => ?_)
 clear hK K
 (try simp only [Act.put, List.setIfInBounds_toArray, List.set_cons_zero, List.set_cons_succ])
 refine wpAnyH_take (i := 4) (oi := ⟨some 35, .move (.tmp 34), 4, "dial.go:240", #[⟨3, .data⟩, ⟨3, .chain⟩], none⟩) (v := ?_) rfl (by kernel_rfl) (by kernel_rfl) (by kernel_rfl) (fun _ _ _ h => h) (Or.inl ⟨by rfl, fun W hSw => ?_⟩) hHeld ?_
 rotate_left
 ·(try dsimp only at hSw); go_simp; (try with_reducible rfl)
 (try simp only [Act.put, List.setIfInBounds_toArray, List.set_cons_zero, List.set_cons_succ])
 refine wpAnyH_take (i := 5) (oi := ⟨some 36, .fieldAddr 96 (.tmp 6) 1, 0, "dial.go:240", #[⟨4, .guard⟩], some (4, true)⟩) (v := ?_) rfl (by kernel_rfl) (by kernel_rfl) (by kernel_rfl) (fun _ _ _ h => h) (Or.inl ⟨by rfl, fun W hSw => ?_⟩) hHeld ?_
 rotate_left
 ·(try dsimp only at hSw); go_simp; (try with_reducible rfl)
 (try simp only [Act.put, List.setIfInBounds_toArray, List.set_cons_zero, List.set_cons_succ])
 refine wpAnyH_take (i := 6) (oi := ⟨some 37, .load 89 (.tmp 36), 89, "dial.go:240", #[⟨5, .data⟩, ⟨4, .guard⟩], some (4, true)⟩) (v := ?_) rfl (by kernel_rfl) (by kernel_rfl) (by kernel_rfl) (fun _ _ _ h => h) (Or.inl ⟨by rfl, fun W hSw => ?_⟩) hHeld ?_
 rotate_left
 ·(try dsimp only at hSw); go_simp; (try with_reducible rfl)
 (try simp only [Act.put, List.setIfInBounds_toArray, List.set_cons_zero, List.set_cons_succ])
 refine wpAnyH_take (i := 7) (oi := ⟨some 38, .load 50 (.tmp 3), 50, "dial.go:240", #[⟨4, .guard⟩], some (4, true)⟩) (v := ?_) rfl (by kernel_rfl) (by kernel_rfl) (by kernel_rfl) (fun _ _ _ h => h) (Or.inl ⟨by rfl, fun W hSw => ?_⟩) hHeld ?_
 rotate_left
 ·(try dsimp only at hSw); go_simp; (try with_reducible rfl)
 (try simp only [Act.put, List.setIfInBounds_toArray, List.set_cons_zero, List.set_cons_succ])
 refine wpAnyH_take (i := 9) (oi := ⟨some 40, .fieldAddr 55 (.tmp 2) 2, 0, "dial.go:240", #[⟨4, .guard⟩], some (4, true)⟩) (v := ?_) rfl (by kernel_rfl) (by kernel_rfl) (by kernel_rfl) (fun _ _ _ h => h) (Or.inl ⟨by rfl, fun W hSw => ?_⟩) hHeld ?_
 rotate_left
 ·(try dsimp only at hSw); go_simp; (try with_reducible rfl)
 (try simp only [Act.put, List.setIfInBounds_toArray, List.set_cons_zero, List.set_cons_succ])
 refine wpAnyH_take (i := 10) (oi := ⟨some 41, .load 3 (.tmp 40), 3, "dial.go:240", #[⟨9, .data⟩, ⟨4, .guard⟩], some (4, true)⟩) (v := ?_) rfl (by kernel_rfl) (by kernel_rfl) (by kernel_rfl) (fun _ _ _ h => h) (Or.inl ⟨by rfl, fun W hSw => ?_⟩) hHeld ?_
 rotate_left
 ·(try dsimp only at hSw); go_simp; (try with_reducible rfl)
 (try simp only [Act.put, List.setIfInBounds_toArray, List.set_cons_zero, List.set_cons_succ])
 refine wpAnyH_ready (rs := [8]) (by kernel_rfl) (by simp) ?_
 refine AllReadyH.cons (o := ⟨some 39, .call { callee := .value (.func 52), args := #[.tmp 37, .tmp 38], argTypes := #[89, 50] }, 3, "dial.go:240", #[⟨6, .data⟩, ⟨7, .data⟩, ⟨4, .chain⟩, ⟨4, .guard⟩], some (4, true)⟩) rfl (fun K hK => ?_) AllReadyH.nil
 go_simp
 refine (day_any A1 F1 n1 k1 f1 c1 e1 _ _ _ _ y m d _ (hr1.keep hHeld.2) hs1.1.2 hs1.2 (hF1.keep hHeld.2) he1 hy hm hd).mono ?_
 rw [Q1.out]
 rintro e' wcc ⟨rfl, hb⟩
 refine hK.out _ _ (kp_step hb hHeld) (fun hHeld => ?_)
 clear hK K
 (try simp only [Act.put, List.setIfInBounds_toArray, List.set_cons_zero, List.set_cons_succ])
 refine wpAnyH_take (i := 11) (oi := ⟨some 42, .binOp .leq 3 (.tmp 39) (.tmp 41) 3, 4, "dial.go:240", #[⟨8, .data⟩, ⟨10, .data⟩, ⟨4, .guard⟩], some (4, true)⟩) (v := ?_) rfl (by kernel_rfl) (by kernel_rfl) (by kernel_rfl) (fun _ _ _ h => h) (Or.inl ⟨by rfl, fun W hSw => ?_⟩) hHeld ?_
 rotate_left
 ·(try dsimp only at hSw); go_simp; (try with_reducible rfl)
 (try simp only [Act.put, List.setIfInBounds_toArray, List.set_cons_zero, List.set_cons_succ])
 refine wpAnyH_take (i := 12) (oi := ⟨some 43, .pick (.tmp 35) (.tmp 42) (.const (.bool false)), 4, "dial.go:240", #[⟨4, .data⟩, ⟨11, .data⟩], none⟩) (v := ?_) rfl (by kernel_rfl) (by kernel_rfl) (by kernel_rfl) (fun _ _ _ h => h) (Or.inl ⟨by rfl, fun W hSw => ?_⟩) hHeld ?_
 rotate_left
 ·(try dsimp only at hSw); go_simp; (try with_reducible rfl)
 (try simp only [Act.put, List.setIfInBounds_toArray, List.set_cons_zero, List.set_cons_succ])
 refine wpAnyH_done (by kernel_rfl) ?_ _
 refine NoPanic.normal ?_
 replace hX := hX.keep hHeld.2
 replace hR := hR.keep hHeld.2
 replace hD := hD.keep hHeld.2
 replace hr1 := hr1.keep hHeld.2
 replace hr2 := hr2.keep hHeld.2
 replace hF1 := hF1.keep hHeld.2
 replace hF2 := hF2.keep hHeld.2
 replace hfr := fr_call hfr hHeld.2
 replace hown := hown.keep hHeld.2
 clear hHeld hcX hcR hcD hxl hrl hdl
 have hcX := fun j => hX.cell j
 have hcD := fun j => hD.cell j
 go_wp2_with fail
 refine (day_any A1 F1 n1 k1 f1 c1 e1 _ _ _ _ y m d _ hr1 hs1.1.2 hs1.2 hF1 he1 hy hm hd).mono ?_
 rw [Q1.out]
 rintro e' wcd ⟨rfl, hb⟩
 replace hX := hX.keep hb
 replace hR := hR.keep hb
 replace hD := hD.keep hb
 replace hr1 := hr1.keep hb
 replace hr2 := hr2.keep hb
 replace hF1 := hF1.keep hb
 replace hF2 := hF2.keep hb
 replace hfr := fr_call hfr hb
 replace hown := hown.keep hb
 clear hb hcX hcD
 go_wp2_with (at_builtin; refine app_int rfl (.tmp 44) (.tmp 49) rfl w.heap.size _ [] rfl rfl hown (by simp) hfr.size ?_; intro B1 cap1 wce hown' hg)
 have ha := fr_alloc (fr_refl wcd) (.cells #[.int .i64 q1] 3)
 have hge := own_ge hown
 have hX' := (hX.keep ha).grown hg (Ne.symm (own_blk_ne hown hX (by decide)))
 have hR' := (hR.keep ha).grown hg (Ne.symm (own_blk_ne hown hR (by decide)))
 have hD' := (hD.keep ha).grown hg (Ne.symm (own_blk_ne hown hD (by decide)))
 have hbel : Below wcd.heap.size wcd wce := ⟨hg.os, hg.tape, hg.output, Nat.le_trans ha.size hg.size, fun k hk => (hg.block k (Nat.lt_of_lt_of_le hk ha.size) (by intro h; cases h)).trans (ha.block k hk)⟩
 replace hr1 := hr1.keep hbel
 replace hr2 := hr2.keep hbel
 replace hF1 := hF1.keep hbel
 replace hF2 := hF2.keep hbel
 replace hfr := fr_call hfr hbel
 replace hX := hX'
 replace hR := hR'
 replace hD := hD'
 replace hown := hown'
 clear hown' hX' hR' hD' hg hge ha hbel
 have hcX := fun j => hX.cell j
 have hcR := fun j => hR.cell j
 have hcD := fun j => hD.cell j
 have hxl := hX.lt
 have hrl := hR.lt
 have hdl := hD.lt
 go_wp2_with fail
 refine wp_region_noPanic ?_
 refine wp_region_held_drew (S := fun W => (∀ p : Addr, p.block < (wce).heap.size → W.cell? p = (wce).cell? p) ∧ Below (wce).heap.size (wce) W) (by kernel_rfl) ⟨fun _ _ => rfl, fr_drew (fr_refl _)⟩ (fun hHeld => ?_)
 -- the region, step by step
 refine wpAnyH_take (i := 0) (oi := ⟨some 51, .fieldAddr 96 (.tmp 6) 2, 0, "dial.go:243", #[], none⟩) (v := ?_) rfl (by kernel_rfl) (by kernel_rfl) (by kernel_rfl) (fun _ _ _ h => h) (Or.inl ⟨by rfl, fun W hSw => ?_⟩) hHeld ?_
 rotate_left
 ·(try dsimp only at hSw); go_simp; (try with_reducible rfl)
 (try simp only [Act.put, List.setIfInBounds_toArray, List.set_cons_zero, List.set_cons_succ])
 refine wpAnyH_take (i := 1) (oi := ⟨some 52, .load 89 (.tmp 51), 89, "dial.go:243", #[⟨0, .data⟩], none⟩) (v := ?_) rfl (by kernel_rfl) (by kernel_rfl) (by kernel_rfl) (fun _ _ _ h => h) (Or.inl ⟨by rfl, fun W hSw => ?_⟩) hHeld ?_
 rotate_left
 ·(try dsimp only at hSw); go_simp; (try with_reducible rfl)
 (try simp only [Act.put, List.setIfInBounds_toArray, List.set_cons_zero, List.set_cons_succ])
 refine wpAnyH_take (i := 2) (oi := ⟨some 53, .load 50 (.tmp 3), 50, "dial.go:243", #[], none⟩) (v := ?_) rfl (by kernel_rfl) (by kernel_rfl) (by kernel_rfl) (fun _ _ _ h => h) (Or.inl ⟨by rfl, fun W hSw => ?_⟩) hHeld ?_
 rotate_left
 ·(try dsimp only at hSw); go_simp; (try with_reducible rfl)
 (try simp only [Act.put, List.setIfInBounds_toArray, List.set_cons_zero, List.set_cons_succ])
 refine wpAnyH_ready (rs := [3]) (by kernel_rfl) (by simp) ?_
 refine AllReadyH.cons (o := ⟨some 54, .call { callee := .value (.func 51), args := #[.tmp 52, .tmp 53], argTypes := #[89, 50] }, 4, "dial.go:243", #[⟨1, .data⟩, ⟨2, .data⟩], none⟩) rfl (fun K hK => ?_) AllReadyH.nil
 go_simp
 refine (isDate_is A2 n2 k2 c2 _ _ _ _ _ _ y m d _ (hr2.keep hHeld.2) hs2.1.2 hs2.2 _ hq2).mono ?_
 rintro e' wceb ⟨rfl, hb⟩
 refine hK.out _ _ (kp_step hb hHeld) (fun hHeld => ?_)
 clear hK K
 (try simp only [Act.put, List.setIfInBounds_toArray, List.set_cons_zero, List.set_cons_succ])
 refine wpAnyH_take (i := 4) (oi := ⟨some 55, .move (.tmp 54), 4, "dial.go:243", #[⟨3, .data⟩, ⟨3, .chain⟩], none⟩) (v := ?_) rfl (by kernel_rfl) (by kernel_rfl) (by kernel_rfl) (fun _ _ _ h => h) (Or.inl ⟨by rfl, fun W hSw => ?_⟩) hHeld ?_
 rotate_left
 ·(try dsimp only at hSw); go_simp; (try with_reducible rfl)
 (try simp only [Act.put, List.setIfInBounds_toArray, List.set_cons_zero, List.set_cons_succ])
 refine wpAnyH_take (i := 5) (oi := ⟨some 56, .fieldAddr 96 (.tmp 6) 2, 0, "dial.go:243", #[⟨4, .guard⟩], some (4, true)⟩) (v := ?_) rfl (by kernel_rfl) (by kernel_rfl) (by kernel_rfl) (fun _ _ _ h => h) (Or.inl ⟨by rfl, fun W hSw => ?_⟩) hHeld ?_
 rotate_left
 ·(try dsimp only at hSw); go_simp; (try with_reducible rfl)
 (try simp only [Act.put, List.setIfInBounds_toArray, List.set_cons_zero, List.set_cons_succ])
 refine wpAnyH_take (i := 6) (oi := ⟨some 57, .load 89 (.tmp 56), 89, "dial.go:243", #[⟨5, .data⟩, ⟨4, .guard⟩], some (4, true)⟩) (v := ?_) rfl (by kernel_rfl) (by kernel_rfl) (by kernel_rfl) (fun _ _ _ h => h) (Or.inl ⟨by rfl, fun W hSw => ?_⟩) hHeld ?_
 rotate_left
 ·(try dsimp only at hSw); go_simp; (try with_reducible rfl)
 (try simp only [Act.put, List.setIfInBounds_toArray, List.set_cons_zero, List.set_cons_succ])
 refine wpAnyH_take (i := 7) (oi := ⟨some 58, .load 50 (.tmp 3), 50, "dial.go:243", #[⟨4, .guard⟩], some (4, true)⟩) (v := ?_) rfl (by kernel_rfl) (by kernel_rfl) (by kernel_rfl) (fun _ _ _ h => h) (Or.inl ⟨by rfl, fun W hSw => ?_⟩) hHeld ?_
 rotate_left
 ·(try dsimp only at hSw); go_simp; (try with_reducible rfl)
 (try simp only [Act.put, List.setIfInBounds_toArray, List.set_cons_zero, List.set_cons_succ])
 refine wpAnyH_take (i := 9) (oi := ⟨some 60, .fieldAddr 55 (.tmp 2) 2, 0, "dial.go:243", #[⟨4, .guard⟩], some (4, true)⟩) (v := ?_) rfl (by kernel_rfl) (by kernel_rfl) (by kernel_rfl) (fun _ _ _ h => h) (Or.inl ⟨by rfl, fun W hSw => ?_⟩) hHeld ?_
 rotate_left
 ·(try dsimp only at hSw); go_simp; (try with_reducible rfl)
 (try simp only [Act.put, List.setIfInBounds_toArray, List.set_cons_zero, List.set_cons_succ])
 refine wpAnyH_take (i := 10) (oi := ⟨some 61, .load 3 (.tmp 60), 3, "dial.go:243", #[⟨9, .data⟩, ⟨4, .guard⟩], some (4, true)⟩) (v := ?_) rfl (by kernel_rfl) (by kernel_rfl) (by kernel_rfl) (fun _ _ _ h => h) (Or.inl ⟨by rfl, fun W hSw => ?_⟩) hHeld ?_
 rotate_left
 ·(try dsimp only at hSw); go_simp; (try with_reducible rfl)
 (try simp only [Act.put, List.setIfInBounds_toArray, List.set_cons_zero, List.set_cons_succ])
 refine wpAnyH_ready (rs := [8]) (by kernel_rfl) (by simp) ?_
 refine AllReadyH.cons (o := ⟨some 59, .call { callee := .value (.func 52), args := #[.tmp 57, .tmp 58], argTypes := #[89, 50] }, 3, "dial.go:243", #[⟨6, .data⟩, ⟨7, .data⟩, ⟨4, .chain⟩, ⟨4, .guard⟩], some (4, true)⟩) rfl (fun K hK => ?_) AllReadyH.nil
 go_simp
 refine (day_any A2 F2 n2 k2 f2 c2 e2 _ _ _ _ y m d _ (hr2.keep hHeld.2) hs2.1.2 hs2.2 (hF2.keep hHeld.2) he2 hy hm hd).mono ?_
 rw [Q2.out]
 rintro e' wcec ⟨rfl, hb⟩
 refine hK.out _ _ (kp_step hb hHeld) (fun hHeld => ?_)
 clear hK K
 (try simp only [Act.put, List.setIfInBounds_toArray, List.set_cons_zero, List.set_cons_succ])
 refine wpAnyH_take (i := 11) (oi := ⟨some 62, .binOp .gtr 3 (.tmp 59) (.tmp 61) 3, 4, "dial.go:243", #[⟨8, .data⟩, ⟨10, .data⟩, ⟨4, .guard⟩], some (4, true)⟩) (v := ?_) rfl (by kernel_rfl) (by kernel_rfl) (by kernel_rfl) (fun _ _ _ h => h) (Or.inl ⟨by rfl, fun W hSw => ?_⟩) hHeld ?_
 rotate_left
 ·(try dsimp only at hSw); go_simp; (try with_reducible rfl)
 (try simp only [Act.put, List.setIfInBounds_toArray, List.set_cons_zero, List.set_cons_succ])
 refine wpAnyH_take (i := 12) (oi := ⟨some 63, .pick (.tmp 55) (.tmp 62) (.const (.bool false)), 4, "dial.go:243", #[⟨4, .data⟩, ⟨11, .data⟩], none⟩) (v := ?_) rfl (by kernel_rfl) (by kernel_rfl) (by kernel_rfl) (fun _ _ _ h => h) (Or.inl ⟨by rfl, fun W hSw => ?_⟩) hHeld ?_
 rotate_left
 ·(try dsimp only at hSw); go_simp; (try with_reducible rfl)
 (try simp only [Act.put, List.setIfInBounds_toArray, List.set_cons_zero, List.set_cons_succ])
 refine wpAnyH_done (by kernel_rfl) ?_ _
 refine NoPanic.normal ?_
 replace hX := hX.keep hHeld.2
 replace hR := hR.keep hHeld.2
 replace hD := hD.keep hHeld.2
 replace hr1 := hr1.keep hHeld.2
 replace hr2 := hr2.keep hHeld.2
 replace hF1 := hF1.keep hHeld.2
 replace hF2 := hF2.keep hHeld.2
 replace hfr := fr_call hfr hHeld.2
 replace hown := hown.keep hHeld.2
 clear hHeld hcX hcR hcD hxl hrl hdl
 go_wp2
 go_ret2
 exact ⟨_, _, rfl, hown.rd, hfr⟩

set_option maxRecDepth 100000 in
set_option maxHeartbeats 4000000 in
theorem Days_22 (A1 A2 : Option Addr) (n1 k1 n2 k2 : Nat) (c1 c2 : List Int) (e1 e2 last y m d : Int) (w : World) (hr1 : Rd w A1 n1 c1) (hr2 : Rd w A2 n2 c2) (hn1 : n1 ≤ 9223372036854775807) (hn2 : n2 ≤ 9223372036854775807) (hok : realmOk e1 c1 e2 c2 last = true) (hwr : writtenB y m d = true) (hq1 : realB c1 y m d = true) (q1 : Int) (hQ1 : dayOf e1 c1 ⟨y, m, d⟩ = q1) (hl1 : q1 ≤ last) (hq2 : realB c2 y m d = true) (q2 : Int) (hQ2 : dayOf e2 c2 ⟨y, m, d⟩ = q2) (hl2 : last < q2) :
  Calls Tryz.prog 25 #[.agg #[.int .i64 e1, .slice A1 n1 k1, .int .i64 e2, .slice A2 n2 k2, .int .i64 last], .agg #[.int .i64 y, .int .i64 m, .int .i64 d]] w fun e' w' =>
   ∃ A c, e' = .returned (.tuple #[.slice A (daysOf e1 c1 e2 c2 last y m d).length c, .int .i64 0]) ∧ Rd w' A (daysOf e1 c1 e2 c2 last y m d).length (daysOf e1 c1 e2 c2 last y m d) ∧ Below w.heap.size w w' := by
 have hL : daysOf e1 c1 e2 c2 last y m d = [q1] ++ [q2] := by
  unfold daysOf
  rw [hq1, hq2, hQ1, hQ2]
  rw [if_pos (by simpa using hl1)]
  rw [if_pos (by simpa using hl2)]
 rw [hL]
 have Q1 := Lib.hid hQ1
 clear hQ1
 have Q2 := Lib.hid hQ2
 clear hQ2
 clear hL
 obtain ⟨hk1, hk2⟩ : calOk e1 c1 = true ∧ calOk e2 c2 = true := by
  unfold realmOk at hok
  simp only [Bool.and_eq_true] at hok
  exact hok.1
 obtain ⟨he1, hs1⟩ := calOk_parts hk1
 obtain ⟨he2, hs2⟩ := calOk_parts hk2
 rw [hr1.len] at hs1
 rw [hr2.len] at hs2
 obtain ⟨w1, w2, w3⟩ : inB y 0 4000 = true ∧ inB m 1 12 = true ∧ inB d 1 31 = true := by
  unfold writtenB at hwr
  simp only [Bool.and_eq_true] at hwr
  exact ⟨hwr.1.1, hwr.1.2, hwr.2⟩
 have hy := inB_iff.1 w1
 have hm := inB_iff.1 w2
 have hd := inB_iff.1 w3
 have g1 := fr_alloc (fr_alloc (fr_refl w) (.cells #[.int .i64 e1, .slice A1 n1 k1, .int .i64 e2, .slice A2 n2 k2, .int .i64 last] 55)) (.cells #[.int .i64 y, .int .i64 m, .int .i64 d] 50)
 have hR : Blk ((w.alloc (.cells #[.int .i64 e1, .slice A1 n1 k1, .int .i64 e2, .slice A2 n2 k2, .int .i64 last] 55)).alloc (.cells #[.int .i64 y, .int .i64 m, .int .i64 d] 50)) w.heap.size 55 #[.int .i64 e1, .slice A1 n1 k1, .int .i64 e2, .slice A2 n2 k2, .int .i64 last] := (Blk.new w _ _).alloc _
 have hD : Blk ((w.alloc (.cells #[.int .i64 e1, .slice A1 n1 k1, .int .i64 e2, .slice A2 n2 k2, .int .i64 last] 55)).alloc (.cells #[.int .i64 y, .int .i64 m, .int .i64 d] 50)) (w.heap.size + 1) 50 #[.int .i64 y, .int .i64 m, .int .i64 d] := Blk.new_at _ _ (by simp)
 go_enter Tryz.func25, Tryz.ntmps25
 go_wp2_with fail
 refine (isRealm_is A1 A2 n1 k1 n2 k2 c1 c2 e1 e2 last _ (hr1.keep g1) (hr2.keep g1) hn1 hn2 _ hok).mono ?_
 rintro e' wa ⟨rfl, hb1⟩
 obtain ⟨hc_wa, hf_wa⟩ := bcell hb1
 have hz0_wa : w.heap.size < wa.heap.size := Nat.lt_of_lt_of_le (by first | omega | (simp; done) | (simp; omega)) hb1.size
 have hz1_wa : w.heap.size + 1 < wa.heap.size := Nat.lt_of_lt_of_le (by first | omega | (simp; done) | (simp; omega)) hb1.size
 go_wp2_with fail
 refine (isYear_is _ _ _ w1).mono ?_
 rintro e' wa' ⟨rfl, rfl⟩
 go_wp2_with fail
 refine (in_is _ _ _ _ _ w2).mono ?_
 rintro e' wa' ⟨rfl, rfl⟩
 go_wp2_with fail
 refine (in_is _ _ _ _ _ w3).mono ?_
 rintro e' wa' ⟨rfl, rfl⟩
 go_wp2_with fail
 refine (opens_any A1 A2 n1 k1 n2 k2 c1 c2 e1 e2 last _ ((hr1.keep g1).keep hb1) ((hr2.keep g1).keep hb1) hk1 hk2).mono ?_
 rintro e' wb ⟨F1, f1, M1, F2, f2, M2, rfl, hF1, hF2, hb2⟩
 have hZ := Blk.new wb 96 #[.int .i64 0, .slice none 0 0, .int .i64 0, .slice none 0 0, .int .i64 0, .int .i64 0, .slice none 0 0, .int .i64 0, .int .i64 0, .int .i64 0, .slice none 0 0, .map none, .int .i64 0, .slice none 0 0, .int .i64 0, .int .i64 0, .int .i64 0, .slice none 0 0, .map none]
 go_wp2_with (refine wpList_store_blk rfl _ _ _ rfl wb.heap.size 96 _ _ rfl rfl hZ rfl (by kernel_rfl) (by simp [Value.oneCell']) ?_; intro wc hX hgc)
 have hgb : Below wb.heap.size wb wc := (fr_alloc (fr_refl wb) _).grown hgc (by simp) (by intro k hk; cases hk; exact Nat.le_refl _)
 have hbb := fr_call hb2 hgb
 have hfr := fr_call (fr_call g1 hb1) hbb
 replace hR := (hR.keep hb1).keep hbb
 replace hD := (hD.keep hb1).keep hbb
 replace hr1 := ((hr1.keep g1).keep hb1).keep hbb
 replace hr2 := ((hr2.keep g1).keep hb1).keep hbb
 replace hF1 := hF1.keep hgb
 replace hF2 := hF2.keep hgb
 have hown := Own.nil wc w.heap.size
 clear hZ hgc hgb hbb hb1 hb2 hc_wa hf_wa hz0_wa hz1_wa g1
 generalize wb.heap.size = bx at *
 have hcX := fun j => hX.cell j
 have hcR := fun j => hR.cell j
 have hcD := fun j => hD.cell j
 have hxl := hX.lt
 have hrl := hR.lt
 have hdl := hD.lt
 go_wp2_with fail
 refine wp_region_noPanic ?_
 refine wp_region_held_drew (S := fun W => (∀ p : Addr, p.block < (wc).heap.size → W.cell? p = (wc).cell? p) ∧ Below (wc).heap.size (wc) W) (by kernel_rfl) ⟨fun _ _ => rfl, fr_drew (fr_refl _)⟩ (fun hHeld => ?_)
 -- the region, step by step
 refine wpAnyH_take (i := 0) (oi := ⟨some 31, .fieldAddr 96 (.tmp 6) 1, 0, "dial.go:240", #[], none⟩) (v := ?_) rfl (by kernel_rfl) (by kernel_rfl) (by kernel_rfl) (fun _ _ _ h => h) (Or.inl ⟨by rfl, fun W hSw => ?_⟩) hHeld ?_
 rotate_left
 ·(try dsimp only at hSw); go_simp; (try with_reducible rfl)
 (try simp only [Act.put, List.setIfInBounds_toArray, List.set_cons_zero, List.set_cons_succ])
 refine wpAnyH_take (i := 1) (oi := ⟨some 32, .load 89 (.tmp 31), 89, "dial.go:240", #[⟨0, .data⟩], none⟩) (v := ?_) rfl (by kernel_rfl) (by kernel_rfl) (by kernel_rfl) (fun _ _ _ h => h) (Or.inl ⟨by rfl, fun W hSw => ?_⟩) hHeld ?_
 rotate_left
 ·(try dsimp only at hSw); go_simp; (try with_reducible rfl)
 (try simp only [Act.put, List.setIfInBounds_toArray, List.set_cons_zero, List.set_cons_succ])
 refine wpAnyH_take (i := 2) (oi := ⟨some 33, .load 50 (.tmp 3), 50, "dial.go:240", #[], none⟩) (v := ?_) rfl (by kernel_rfl) (by kernel_rfl) (by kernel_rfl) (fun _ _ _ h => h) (Or.inl ⟨by rfl, fun W hSw => ?_⟩) hHeld ?_
 rotate_left
 ·(try dsimp only at hSw); go_simp; (try with_reducible rfl)
 (try simp only [Act.put, List.setIfInBounds_toArray, List.set_cons_zero, List.set_cons_succ])
 refine wpAnyH_ready (rs := [3]) (by kernel_rfl) (by simp) ?_
 refine AllReadyH.cons (o := ⟨some 34, .call { callee := .value (.func 51), args := #[.tmp 32, .tmp 33], argTypes := #[89, 50] }, 4, "dial.go:240", #[⟨1, .data⟩, ⟨2, .data⟩], none⟩) rfl (fun K hK => ?_) AllReadyH.nil
 go_simp
 refine (isDate_is A1 n1 k1 c1 _ _ _ _ _ _ y m d _ (hr1.keep hHeld.2) hs1.1.2 hs1.2 _ hq1).mono ?_
 rintro e' wcb ⟨rfl, hb⟩
 refine hK.out _ _ (kp_step hb hHeld) (fun hHeld => ?_)
 clear hK K
 (try simp only [Act.put, List.setIfInBounds_toArray, List.set_cons_zero, List.set_cons_succ])
 refine wpAnyH_take (i := 4) (oi := ⟨some 35, .move (.tmp 34), 4, "dial.go:240", #[⟨3, .data⟩, ⟨3, .chain⟩], none⟩) (v := ?_) rfl (by kernel_rfl) (by kernel_rfl) (by kernel_rfl) (fun _ _ _ h => h) (Or.inl ⟨by rfl, fun W hSw => ?_⟩) hHeld ?_
 rotate_left
 ·(try dsimp only at hSw); go_simp; (try with_reducible rfl)
 (try simp only [Act.put, List.setIfInBounds_toArray, List.set_cons_zero, List.set_cons_succ])
 refine wpAnyH_take (i := 5) (oi := ⟨some 36, .fieldAddr 96 (.tmp 6) 1, 0, "dial.go:240", #[⟨4, .guard⟩], some (4, true)⟩) (v := ?_) rfl (by kernel_rfl) (by kernel_rfl) (by kernel_rfl) (fun _ _ _ h => h) (Or.inl ⟨by rfl, fun W hSw => ?_⟩) hHeld ?_
 rotate_left
 ·(try dsimp only at hSw); go_simp; (try with_reducible rfl)
 (try simp only [Act.put, List.setIfInBounds_toArray, List.set_cons_zero, List.set_cons_succ])
 refine wpAnyH_take (i := 6) (oi := ⟨some 37, .load 89 (.tmp 36), 89, "dial.go:240", #[⟨5, .data⟩, ⟨4, .guard⟩], some (4, true)⟩) (v := ?_) rfl (by kernel_rfl) (by kernel_rfl) (by kernel_rfl) (fun _ _ _ h => h) (Or.inl ⟨by rfl, fun W hSw => ?_⟩) hHeld ?_
 rotate_left
 ·(try dsimp only at hSw); go_simp; (try with_reducible rfl)
 (try simp only [Act.put, List.setIfInBounds_toArray, List.set_cons_zero, List.set_cons_succ])
 refine wpAnyH_take (i := 7) (oi := ⟨some 38, .load 50 (.tmp 3), 50, "dial.go:240", #[⟨4, .guard⟩], some (4, true)⟩) (v := ?_) rfl (by kernel_rfl) (by kernel_rfl) (by kernel_rfl) (fun _ _ _ h => h) (Or.inl ⟨by rfl, fun W hSw => ?_⟩) hHeld ?_
 rotate_left
 ·(try dsimp only at hSw); go_simp; (try with_reducible rfl)
 (try simp only [Act.put, List.setIfInBounds_toArray, List.set_cons_zero, List.set_cons_succ])
 refine wpAnyH_take (i := 9) (oi := ⟨some 40, .fieldAddr 55 (.tmp 2) 2, 0, "dial.go:240", #[⟨4, .guard⟩], some (4, true)⟩) (v := ?_) rfl (by kernel_rfl) (by kernel_rfl) (by kernel_rfl) (fun _ _ _ h => h) (Or.inl ⟨by rfl, fun W hSw => ?_⟩) hHeld ?_
 rotate_left
 ·(try dsimp only at hSw); go_simp; (try with_reducible rfl)
 (try simp only [Act.put, List.setIfInBounds_toArray, List.set_cons_zero, List.set_cons_succ])
 refine wpAnyH_take (i := 10) (oi := ⟨some 41, .load 3 (.tmp 40), 3, "dial.go:240", #[⟨9, .data⟩, ⟨4, .guard⟩], some (4, true)⟩) (v := ?_) rfl (by kernel_rfl) (by kernel_rfl) (by kernel_rfl) (fun _ _ _ h => h) (Or.inl ⟨by rfl, fun W hSw => ?_⟩) hHeld ?_
 rotate_left
 ·(try dsimp only at hSw); go_simp; (try with_reducible rfl)
 (try simp only [Act.put, List.setIfInBounds_toArray, List.set_cons_zero, List.set_cons_succ])
 refine wpAnyH_ready (rs := [8]) (by kernel_rfl) (by simp) ?_
 refine AllReadyH.cons (o := ⟨some 39, .call { callee := .value (.func 52), args := #[.tmp 37, .tmp 38], argTypes := #[89, 50] }, 3, "dial.go:240", #[⟨6, .data⟩, ⟨7, .data⟩, ⟨4, .chain⟩, ⟨4, .guard⟩], some (4, true)⟩) rfl (fun K hK => ?_) AllReadyH.nil
 go_simp
 refine (day_any A1 F1 n1 k1 f1 c1 e1 _ _ _ _ y m d _ (hr1.keep hHeld.2) hs1.1.2 hs1.2 (hF1.keep hHeld.2) he1 hy hm hd).mono ?_
 rw [Q1.out]
 rintro e' wcc ⟨rfl, hb⟩
 refine hK.out _ _ (kp_step hb hHeld) (fun hHeld => ?_)
 clear hK K
 (try simp only [Act.put, List.setIfInBounds_toArray, List.set_cons_zero, List.set_cons_succ])
 refine wpAnyH_take (i := 11) (oi := ⟨some 42, .binOp .leq 3 (.tmp 39) (.tmp 41) 3, 4, "dial.go:240", #[⟨8, .data⟩, ⟨10, .data⟩, ⟨4, .guard⟩], some (4, true)⟩) (v := ?_) rfl (by kernel_rfl) (by kernel_rfl) (by kernel_rfl) (fun _ _ _ h => h) (Or.inl ⟨by rfl, fun W hSw => ?_⟩) hHeld ?_
 rotate_left
 ·(try dsimp only at hSw); go_simp; (try with_reducible rfl)
 (try simp only [Act.put, List.setIfInBounds_toArray, List.set_cons_zero, List.set_cons_succ])
 refine wpAnyH_take (i := 12) (oi := ⟨some 43, .pick (.tmp 35) (.tmp 42) (.const (.bool false)), 4, "dial.go:240", #[⟨4, .data⟩, ⟨11, .data⟩], none⟩) (v := ?_) rfl (by kernel_rfl) (by kernel_rfl) (by kernel_rfl) (fun _ _ _ h => h) (Or.inl ⟨by rfl, fun W hSw => ?_⟩) hHeld ?_
 rotate_left
 ·(try dsimp only at hSw); go_simp; (try with_reducible rfl)
 (try simp only [Act.put, List.setIfInBounds_toArray, List.set_cons_zero, List.set_cons_succ])
 refine wpAnyH_done (by kernel_rfl) ?_ _
 refine NoPanic.normal ?_
 replace hX := hX.keep hHeld.2
 replace hR := hR.keep hHeld.2
 replace hD := hD.keep hHeld.2
 replace hr1 := hr1.keep hHeld.2
 replace hr2 := hr2.keep hHeld.2
 replace hF1 := hF1.keep hHeld.2
 replace hF2 := hF2.keep hHeld.2
 replace hfr := fr_call hfr hHeld.2
 replace hown := hown.keep hHeld.2
 clear hHeld hcX hcR hcD hxl hrl hdl
 have hcX := fun j => hX.cell j
 have hcD := fun j => hD.cell j
 go_wp2_with fail
 refine (day_any A1 F1 n1 k1 f1 c1 e1 _ _ _ _ y m d _ hr1 hs1.1.2 hs1.2 hF1 he1 hy hm hd).mono ?_
 rw [Q1.out]
 rintro e' wcd ⟨rfl, hb⟩
 replace hX := hX.keep hb
 replace hR := hR.keep hb
 replace hD := hD.keep hb
 replace hr1 := hr1.keep hb
 replace hr2 := hr2.keep hb
 replace hF1 := hF1.keep hb
 replace hF2 := hF2.keep hb
 replace hfr := fr_call hfr hb
 replace hown := hown.keep hb
 clear hb hcX hcD
 go_wp2_with (at_builtin; refine app_int rfl (.tmp 44) (.tmp 49) rfl w.heap.size _ [] rfl rfl hown (by simp) hfr.size ?_; intro B1 cap1 wce hown' hg)
 have ha := fr_alloc (fr_refl wcd) (.cells #[.int .i64 q1] 3)
 have hge := own_ge hown
 have hX' := (hX.keep ha).grown hg (Ne.symm (own_blk_ne hown hX (by decide)))
 have hR' := (hR.keep ha).grown hg (Ne.symm (own_blk_ne hown hR (by decide)))
 have hD' := (hD.keep ha).grown hg (Ne.symm (own_blk_ne hown hD (by decide)))
 have hbel : Below wcd.heap.size wcd wce := ⟨hg.os, hg.tape, hg.output, Nat.le_trans ha.size hg.size, fun k hk => (hg.block k (Nat.lt_of_lt_of_le hk ha.size) (by intro h; cases h)).trans (ha.block k hk)⟩
 replace hr1 := hr1.keep hbel
 replace hr2 := hr2.keep hbel
 replace hF1 := hF1.keep hbel
 replace hF2 := hF2.keep hbel
 replace hfr := fr_call hfr hbel
 replace hX := hX'
 replace hR := hR'
 replace hD := hD'
 replace hown := hown'
 clear hown' hX' hR' hD' hg hge ha hbel
 have hcX := fun j => hX.cell j
 have hcR := fun j => hR.cell j
 have hcD := fun j => hD.cell j
 have hxl := hX.lt
 have hrl := hR.lt
 have hdl := hD.lt
 go_wp2_with fail
 refine wp_region_noPanic ?_
 refine wp_region_held_drew (S := fun W => (∀ p : Addr, p.block < (wce).heap.size → W.cell? p = (wce).cell? p) ∧ Below (wce).heap.size (wce) W) (by kernel_rfl) ⟨fun _ _ => rfl, fr_drew (fr_refl _)⟩ (fun hHeld => ?_)
 -- the region, step by step
 refine wpAnyH_take (i := 0) (oi := ⟨some 51, .fieldAddr 96 (.tmp 6) 2, 0, "dial.go:243", #[], none⟩) (v := ?_) rfl (by kernel_rfl) (by kernel_rfl) (by kernel_rfl) (fun _ _ _ h => h) (Or.inl ⟨by rfl, fun W hSw => ?_⟩) hHeld ?_
 rotate_left
 ·(try dsimp only at hSw); go_simp; (try with_reducible rfl)
 (try simp only [Act.put, List.setIfInBounds_toArray, List.set_cons_zero, List.set_cons_succ])
 refine wpAnyH_take (i := 1) (oi := ⟨some 52, .load 89 (.tmp 51), 89, "dial.go:243", #[⟨0, .data⟩], none⟩) (v := ?_) rfl (by kernel_rfl) (by kernel_rfl) (by kernel_rfl) (fun _ _ _ h => h) (Or.inl ⟨by rfl, fun W hSw => ?_⟩) hHeld ?_
 rotate_left
 ·(try dsimp only at hSw); go_simp; (try with_reducible rfl)
 (try simp only [Act.put, List.setIfInBounds_toArray, List.set_cons_zero, List.set_cons_succ])
 refine wpAnyH_take (i := 2) (oi := ⟨some 53, .load 50 (.tmp 3), 50, "dial.go:243", #[], none⟩) (v := ?_) rfl (by kernel_rfl) (by kernel_rfl) (by kernel_rfl) (fun _ _ _ h => h) (Or.inl ⟨by rfl, fun W hSw => ?_⟩) hHeld ?_
 rotate_left
 ·(try dsimp only at hSw); go_simp; (try with_reducible rfl)
 (try simp only [Act.put, List.setIfInBounds_toArray, List.set_cons_zero, List.set_cons_succ])
 refine wpAnyH_ready (rs := [3]) (by kernel_rfl) (by simp) ?_
 refine AllReadyH.cons (o := ⟨some 54, .call { callee := .value (.func 51), args := #[.tmp 52, .tmp 53], argTypes := #[89, 50] }, 4, "dial.go:243", #[⟨1, .data⟩, ⟨2, .data⟩], none⟩) rfl (fun K hK => ?_) AllReadyH.nil
 go_simp
 refine (isDate_is A2 n2 k2 c2 _ _ _ _ _ _ y m d _ (hr2.keep hHeld.2) hs2.1.2 hs2.2 _ hq2).mono ?_
 rintro e' wceb ⟨rfl, hb⟩
 refine hK.out _ _ (kp_step hb hHeld) (fun hHeld => ?_)
 clear hK K
 (try simp only [Act.put, List.setIfInBounds_toArray, List.set_cons_zero, List.set_cons_succ])
 refine wpAnyH_take (i := 4) (oi := ⟨some 55, .move (.tmp 54), 4, "dial.go:243", #[⟨3, .data⟩, ⟨3, .chain⟩], none⟩) (v := ?_) rfl (by kernel_rfl) (by kernel_rfl) (by kernel_rfl) (fun _ _ _ h => h) (Or.inl ⟨by rfl, fun W hSw => ?_⟩) hHeld ?_
 rotate_left
 ·(try dsimp only at hSw); go_simp; (try with_reducible rfl)
 (try simp only [Act.put, List.setIfInBounds_toArray, List.set_cons_zero, List.set_cons_succ])
 refine wpAnyH_take (i := 5) (oi := ⟨some 56, .fieldAddr 96 (.tmp 6) 2, 0, "dial.go:243", #[⟨4, .guard⟩], some (4, true)⟩) (v := ?_) rfl (by kernel_rfl) (by kernel_rfl) (by kernel_rfl) (fun _ _ _ h => h) (Or.inl ⟨by rfl, fun W hSw => ?_⟩) hHeld ?_
 rotate_left
 ·(try dsimp only at hSw); go_simp; (try with_reducible rfl)
 (try simp only [Act.put, List.setIfInBounds_toArray, List.set_cons_zero, List.set_cons_succ])
 refine wpAnyH_take (i := 6) (oi := ⟨some 57, .load 89 (.tmp 56), 89, "dial.go:243", #[⟨5, .data⟩, ⟨4, .guard⟩], some (4, true)⟩) (v := ?_) rfl (by kernel_rfl) (by kernel_rfl) (by kernel_rfl) (fun _ _ _ h => h) (Or.inl ⟨by rfl, fun W hSw => ?_⟩) hHeld ?_
 rotate_left
 ·(try dsimp only at hSw); go_simp; (try with_reducible rfl)
 (try simp only [Act.put, List.setIfInBounds_toArray, List.set_cons_zero, List.set_cons_succ])
 refine wpAnyH_take (i := 7) (oi := ⟨some 58, .load 50 (.tmp 3), 50, "dial.go:243", #[⟨4, .guard⟩], some (4, true)⟩) (v := ?_) rfl (by kernel_rfl) (by kernel_rfl) (by kernel_rfl) (fun _ _ _ h => h) (Or.inl ⟨by rfl, fun W hSw => ?_⟩) hHeld ?_
 rotate_left
 ·(try dsimp only at hSw); go_simp; (try with_reducible rfl)
 (try simp only [Act.put, List.setIfInBounds_toArray, List.set_cons_zero, List.set_cons_succ])
 refine wpAnyH_take (i := 9) (oi := ⟨some 60, .fieldAddr 55 (.tmp 2) 2, 0, "dial.go:243", #[⟨4, .guard⟩], some (4, true)⟩) (v := ?_) rfl (by kernel_rfl) (by kernel_rfl) (by kernel_rfl) (fun _ _ _ h => h) (Or.inl ⟨by rfl, fun W hSw => ?_⟩) hHeld ?_
 rotate_left
 ·(try dsimp only at hSw); go_simp; (try with_reducible rfl)
 (try simp only [Act.put, List.setIfInBounds_toArray, List.set_cons_zero, List.set_cons_succ])
 refine wpAnyH_take (i := 10) (oi := ⟨some 61, .load 3 (.tmp 60), 3, "dial.go:243", #[⟨9, .data⟩, ⟨4, .guard⟩], some (4, true)⟩) (v := ?_) rfl (by kernel_rfl) (by kernel_rfl) (by kernel_rfl) (fun _ _ _ h => h) (Or.inl ⟨by rfl, fun W hSw => ?_⟩) hHeld ?_
 rotate_left
 ·(try dsimp only at hSw); go_simp; (try with_reducible rfl)
 (try simp only [Act.put, List.setIfInBounds_toArray, List.set_cons_zero, List.set_cons_succ])
 refine wpAnyH_ready (rs := [8]) (by kernel_rfl) (by simp) ?_
 refine AllReadyH.cons (o := ⟨some 59, .call { callee := .value (.func 52), args := #[.tmp 57, .tmp 58], argTypes := #[89, 50] }, 3, "dial.go:243", #[⟨6, .data⟩, ⟨7, .data⟩, ⟨4, .chain⟩, ⟨4, .guard⟩], some (4, true)⟩) rfl (fun K hK => ?_) AllReadyH.nil
 go_simp
 refine (day_any A2 F2 n2 k2 f2 c2 e2 _ _ _ _ y m d _ (hr2.keep hHeld.2) hs2.1.2 hs2.2 (hF2.keep hHeld.2) he2 hy hm hd).mono ?_
 rw [Q2.out]
 rintro e' wcec ⟨rfl, hb⟩
 refine hK.out _ _ (kp_step hb hHeld) (fun hHeld => ?_)
 clear hK K
 (try simp only [Act.put, List.setIfInBounds_toArray, List.set_cons_zero, List.set_cons_succ])
 refine wpAnyH_take (i := 11) (oi := ⟨some 62, .binOp .gtr 3 (.tmp 59) (.tmp 61) 3, 4, "dial.go:243", #[⟨8, .data⟩, ⟨10, .data⟩, ⟨4, .guard⟩], some (4, true)⟩) (v := ?_) rfl (by kernel_rfl) (by kernel_rfl) (by kernel_rfl) (fun _ _ _ h => h) (Or.inl ⟨by rfl, fun W hSw => ?_⟩) hHeld ?_
 rotate_left
 ·(try dsimp only at hSw); go_simp; (try with_reducible rfl)
 (try simp only [Act.put, List.setIfInBounds_toArray, List.set_cons_zero, List.set_cons_succ])
 refine wpAnyH_take (i := 12) (oi := ⟨some 63, .pick (.tmp 55) (.tmp 62) (.const (.bool false)), 4, "dial.go:243", #[⟨4, .data⟩, ⟨11, .data⟩], none⟩) (v := ?_) rfl (by kernel_rfl) (by kernel_rfl) (by kernel_rfl) (fun _ _ _ h => h) (Or.inl ⟨by rfl, fun W hSw => ?_⟩) hHeld ?_
 rotate_left
 ·(try dsimp only at hSw); go_simp; (try with_reducible rfl)
 (try simp only [Act.put, List.setIfInBounds_toArray, List.set_cons_zero, List.set_cons_succ])
 refine wpAnyH_done (by kernel_rfl) ?_ _
 refine NoPanic.normal ?_
 replace hX := hX.keep hHeld.2
 replace hR := hR.keep hHeld.2
 replace hD := hD.keep hHeld.2
 replace hr1 := hr1.keep hHeld.2
 replace hr2 := hr2.keep hHeld.2
 replace hF1 := hF1.keep hHeld.2
 replace hF2 := hF2.keep hHeld.2
 replace hfr := fr_call hfr hHeld.2
 replace hown := hown.keep hHeld.2
 clear hHeld hcX hcR hcD hxl hrl hdl
 have hcX := fun j => hX.cell j
 have hcD := fun j => hD.cell j
 go_wp2_with fail
 refine (day_any A2 F2 n2 k2 f2 c2 e2 _ _ _ _ y m d _ hr2 hs2.1.2 hs2.2 hF2 he2 hy hm hd).mono ?_
 rw [Q2.out]
 rintro e' wced ⟨rfl, hb⟩
 replace hX := hX.keep hb
 replace hR := hR.keep hb
 replace hD := hD.keep hb
 replace hr1 := hr1.keep hb
 replace hr2 := hr2.keep hb
 replace hF1 := hF1.keep hb
 replace hF2 := hF2.keep hb
 replace hfr := fr_call hfr hb
 replace hown := hown.keep hb
 clear hb hcX hcD
 go_wp2_with (at_builtin; refine app_int rfl (.tmp 64) (.tmp 69) rfl w.heap.size _ [q1] rfl rfl hown (by simp) hfr.size ?_; intro B2 cap2 wcee hown' hg)
 have ha := fr_alloc (fr_refl wced) (.cells #[.int .i64 q2] 3)
 have hge := own_ge hown
 have hX' := (hX.keep ha).grown hg (Ne.symm (own_blk_ne hown hX (by decide)))
 have hR' := (hR.keep ha).grown hg (Ne.symm (own_blk_ne hown hR (by decide)))
 have hD' := (hD.keep ha).grown hg (Ne.symm (own_blk_ne hown hD (by decide)))
 replace hfr := (fr_call hfr ha).grown hg (fr_call hfr ha).size hge
 replace hX := hX'
 replace hR := hR'
 replace hD := hD'
 replace hown := hown'
 clear hown' hX' hR' hD' hg hge ha
 go_wp2
 go_ret2
 exact ⟨_, _, rfl, hown.rd, hfr⟩

theorem Days_ok (A1 A2 : Option Addr) (n1 k1 n2 k2 : Nat) (c1 c2 : List Int) (e1 e2 last y m d : Int) (w : World) (hr1 : Rd w A1 n1 c1) (hr2 : Rd w A2 n2 c2) (hn1 : n1 ≤ 9223372036854775807) (hn2 : n2 ≤ 9223372036854775807) (hok : realmOk e1 c1 e2 c2 last = true) (hwr : writtenB y m d = true) :
  Calls Tryz.prog 25 #[.agg #[.int .i64 e1, .slice A1 n1 k1, .int .i64 e2, .slice A2 n2 k2, .int .i64 last], .agg #[.int .i64 y, .int .i64 m, .int .i64 d]] w fun e' w' =>
   ∃ A c, e' = .returned (.tuple #[.slice A (daysOf e1 c1 e2 c2 last y m d).length c, .int .i64 0]) ∧ Rd w' A (daysOf e1 c1 e2 c2 last y m d).length (daysOf e1 c1 e2 c2 last y m d) ∧ Below w.heap.size w w' := by
 cases hq1 : realB c1 y m d
 ·cases hq2 : realB c2 y m d
  ·exact Days_00 A1 A2 n1 k1 n2 k2 c1 c2 e1 e2 last y m d w hr1 hr2 hn1 hn2 hok hwr hq1 hq2
  ·by_cases hl2 : last < dayOf e2 c2 ⟨y, m, d⟩
   ·exact Days_02 A1 A2 n1 k1 n2 k2 c1 c2 e1 e2 last y m d w hr1 hr2 hn1 hn2 hok hwr hq1 hq2 _ rfl hl2
   ·exact Days_01 A1 A2 n1 k1 n2 k2 c1 c2 e1 e2 last y m d w hr1 hr2 hn1 hn2 hok hwr hq1 hq2 _ rfl hl2
 ·by_cases hl1 : dayOf e1 c1 ⟨y, m, d⟩ ≤ last
  ·cases hq2 : realB c2 y m d
   ·exact Days_20 A1 A2 n1 k1 n2 k2 c1 c2 e1 e2 last y m d w hr1 hr2 hn1 hn2 hok hwr hq1 _ rfl hl1 hq2
   ·by_cases hl2 : last < dayOf e2 c2 ⟨y, m, d⟩
    ·exact Days_22 A1 A2 n1 k1 n2 k2 c1 c2 e1 e2 last y m d w hr1 hr2 hn1 hn2 hok hwr hq1 _ rfl hl1 hq2 _ rfl hl2
    ·exact Days_21 A1 A2 n1 k1 n2 k2 c1 c2 e1 e2 last y m d w hr1 hr2 hn1 hn2 hok hwr hq1 _ rfl hl1 hq2 _ rfl hl2
  ·cases hq2 : realB c2 y m d
   ·exact Days_10 A1 A2 n1 k1 n2 k2 c1 c2 e1 e2 last y m d w hr1 hr2 hn1 hn2 hok hwr hq1 _ rfl hl1 hq2
   ·by_cases hl2 : last < dayOf e2 c2 ⟨y, m, d⟩
    ·exact Days_12 A1 A2 n1 k1 n2 k2 c1 c2 e1 e2 last y m d w hr1 hr2 hn1 hn2 hok hwr hq1 _ rfl hl1 hq2 _ rfl hl2
    ·exact Days_11 A1 A2 n1 k1 n2 k2 c1 c2 e1 e2 last y m d w hr1 hr2 hn1 hn2 hok hwr hq1 _ rfl hl1 hq2 _ rfl hl2
end Go.Proofs.YthjblcboainknaaGreatDoor
