/- Walk, package journeyman: a suite that shares nothing with another one. -/
import Derived.Test.YtdocgmafbacjcaaGreatDoorMT10
namespace Go.Proofs.YtdocgmafbacjcaaGreatDoor
open Go.RowKit Go.Shelf

theorem own_far {w w' : World} {base M : Nat} {v : Value} {xs : List Int} (h : Own w base v xs) (hg : w.grownBy w' (some M)) (hM : M < base) : Own w' base v xs :=
 World.ownsRow.kept h hg (.inr (fun e => by have := own_ge h _ e; omega))
set_option maxRecDepth 100000 in
set_option maxHeartbeats 16000000 in
theorem copied_any (A1 A2 A3 A4 A5 A6 : Option Addr) (n1 c1 n2 c2 c3 n4 c4 n5 c5 n6 c6 wm br hr wg pc : Nat) (lim ep mn md ma yr : Int) (ls : List Lk) (hs : List Int) (tg : List (Int × Int)) (ho cy : List Int) (fe : List Feast) (w : World) (h : SuAt w A1 A2 A3 A4 A5 A6 n1 n2 n4 n5 n6 ls hs tg ho cy fe) (hf1 : Fm A1 n1) (hf2 : Fm A2 n2) (hf3 : Fm A3 n2) (hf4 : Fm A4 n4) (hf5 : Fm A5 n5) (hf6 : Fm A6 n6) (hbd : n1 ≤ 1000 ∧ n2 ≤ 1000 ∧ n4 ≤ 1000 ∧ n5 ≤ 1000 ∧ n6 ≤ 1000) :
  Calls Tryz.prog 29 #[.agg #[.slice A1 n1 c1, .slice A2 n2 c2, .slice A3 n2 c3, .int .i64 lim, .int .i64 wm, .slice A4 n4 c4, .int .i64 ep, .slice A5 n5 c5, .int .i64 mn, .int .i64 md, .int .i64 ma, .slice A6 n6 c6, .int .i64 yr, .int .i64 br, .int .i64 hr, .int .i64 wg, .int .i64 pc]] w fun e w' => ∃ B1 B2 B3 B4 B5 B6 k1 k2 k3 k4 k5 k6, e = .returned (.agg #[.slice B1 n1 k1, .slice B2 n2 k2, .slice B3 n2 k3, .int .i64 lim, .int .i64 wm, .slice B4 n4 k4, .int .i64 ep, .slice B5 n5 k5, .int .i64 mn, .int .i64 md, .int .i64 ma, .slice B6 n6 k6, .int .i64 yr, .int .i64 br, .int .i64 hr, .int .i64 wg, .int .i64 pc]) ∧ SuAt w' B1 B2 B3 B4 B5 B6 n1 n2 n4 n5 n6 ls hs tg ho cy fe ∧ (Fm B1 n1 ∧ Fm B2 n2 ∧ Fm B3 n2 ∧ Fm B4 n4 ∧ Fm B5 n5 ∧ Fm B6 n6) ∧ n1 ≤ k1 ∧ Below w.heap.size w w' := by
 have hb0 := fr_alloc (fr_alloc (fr_refl w) (.cells #[.slice A1 n1 c1, .slice A2 n2 c2, .slice A3 n2 c3, .int .i64 lim, .int .i64 wm, .slice A4 n4 c4, .int .i64 ep, .slice A5 n5 c5, .int .i64 mn, .int .i64 md, .int .i64 ma, .slice A6 n6 c6, .int .i64 yr, .int .i64 br, .int .i64 hr, .int .i64 wg, .int .i64 pc] 35)) (.cells #[.slice none 0 0, .slice none 0 0, .slice none 0 0, .int .i64 0, .int .i64 0, .slice none 0 0, .int .i64 0, .slice none 0 0, .int .i64 0, .int .i64 0, .int .i64 0, .slice none 0 0, .int .i64 0, .int .i64 0, .int .i64 0, .int .i64 0, .int .i64 0] 35)
 have hX := (Blk.new w 35 #[.slice A1 n1 c1, .slice A2 n2 c2, .slice A3 n2 c3, .int .i64 lim, .int .i64 wm, .slice A4 n4 c4, .int .i64 ep, .slice A5 n5 c5, .int .i64 mn, .int .i64 md, .int .i64 ma, .slice A6 n6 c6, .int .i64 yr, .int .i64 br, .int .i64 hr, .int .i64 wg, .int .i64 pc]).alloc (.cells #[.slice none 0 0, .slice none 0 0, .slice none 0 0, .int .i64 0, .int .i64 0, .slice none 0 0, .int .i64 0, .slice none 0 0, .int .i64 0, .int .i64 0, .int .i64 0, .slice none 0 0, .int .i64 0, .int .i64 0, .int .i64 0, .int .i64 0, .int .i64 0] 35)
 have hZ : Blk ((w.alloc (.cells #[.slice A1 n1 c1, .slice A2 n2 c2, .slice A3 n2 c3, .int .i64 lim, .int .i64 wm, .slice A4 n4 c4, .int .i64 ep, .slice A5 n5 c5, .int .i64 mn, .int .i64 md, .int .i64 ma, .slice A6 n6 c6, .int .i64 yr, .int .i64 br, .int .i64 hr, .int .i64 wg, .int .i64 pc] 35)).alloc (.cells #[.slice none 0 0, .slice none 0 0, .slice none 0 0, .int .i64 0, .int .i64 0, .slice none 0 0, .int .i64 0, .slice none 0 0, .int .i64 0, .int .i64 0, .int .i64 0, .slice none 0 0, .int .i64 0, .int .i64 0, .int .i64 0, .int .i64 0, .int .i64 0] 35)) (w.heap.size + 1) 35 #[.slice none 0 0, .slice none 0 0, .slice none 0 0, .int .i64 0, .int .i64 0, .slice none 0 0, .int .i64 0, .slice none 0 0, .int .i64 0, .int .i64 0, .int .i64 0, .slice none 0 0, .int .i64 0, .int .i64 0, .int .i64 0, .int .i64 0, .int .i64 0] := Blk.new_at _ _ (by simp)
 obtain ⟨w1, hw1⟩ : ∃ w1, (w.alloc (.cells #[.slice A1 n1 c1, .slice A2 n2 c2, .slice A3 n2 c3, .int .i64 lim, .int .i64 wm, .slice A4 n4 c4, .int .i64 ep, .slice A5 n5 c5, .int .i64 mn, .int .i64 md, .int .i64 ma, .slice A6 n6 c6, .int .i64 yr, .int .i64 br, .int .i64 hr, .int .i64 wg, .int .i64 pc] 35)).alloc (.cells #[.slice none 0 0, .slice none 0 0, .slice none 0 0, .int .i64 0, .int .i64 0, .slice none 0 0, .int .i64 0, .slice none 0 0, .int .i64 0, .int .i64 0, .int .i64 0, .slice none 0 0, .int .i64 0, .int .i64 0, .int .i64 0, .int .i64 0, .int .i64 0] 35) = w1 := ⟨_, rfl⟩
 rw [hw1] at hb0 hX hZ
 obtain ⟨hr1, hl1, hr2, hr3, hl3, hr4, hr5, hr6, hl6⟩ := h
 have hq1 := hr1.keep hb0
 have hq2 := hr2.keep hb0
 have hq3 := hr3.keep hb0
 have hq4 := hr4.keep hb0
 have hq5 := hr5.keep hb0
 have hq6 := hr6.keep hb0
 have hlZ := hZ.lt
 have hlX1 := hX.lt
 go_enter Tryz.func29, Tryz.ntmps29
 go_upto_region 1 with (fail)
 (try rw [hw1])
 clear hw1
 go_cut [2] from 3 (fun s2 wc => s2 = .pointer (some ⟨w.heap.size + 1, 0, none⟩) ∧ ∃ B1 k1 B2 k2, Blk wc w.heap.size 35 #[.slice B1 n1 k1, .slice B2 n2 k2, .slice A3 n2 c3, .int .i64 lim, .int .i64 wm, .slice A4 n4 c4, .int .i64 ep, .slice A5 n5 c5, .int .i64 mn, .int .i64 md, .int .i64 ma, .slice A6 n6 c6, .int .i64 yr, .int .i64 br, .int .i64 hr, .int .i64 wg, .int .i64 pc] ∧ (OwnS wc w1.heap.size 132 3 (.slice B1 n1 k1) (ls.map Lk.cells) ∧ Own wc w1.heap.size  (.slice B2 n2 k2) hs) ∧ Exc (fun i => i = w.heap.size) w1 wc)
 case first =>
  have hbz := fr_drew (fr_refl w1)
  have hlX := hX.lt
  have hkS : ∀ W, Below w1.heap.size w1 W → W.cell? ⟨w.heap.size, 0, none⟩ = some (.slice A1 n1 c1) ∧ W.cell? ⟨w.heap.size, 1, none⟩ = some (.slice A2 n2 c2) := fun W hb => ⟨(hb.cell (p := ⟨w.heap.size, 0, none⟩) hlX).trans (hX.cell 0), (hb.cell (p := ⟨w.heap.size, 1, none⟩) hlX).trans (hX.cell 1)⟩
  have hXz := hX.keep hbz
  have hEz := (Exc.refl (fun i => i = w.heap.size) w1).below hbz
  refine wp_region_noPanic ?_
  refine wp_region_T (fun i => i == 8 || i == 9 || i == 10 || i == 11 || i == 12 || i == 13) (fun W => W.cell? ⟨w.heap.size, 0, none⟩ = some (.slice A1 n1 c1) ∧ W.cell? ⟨w.heap.size, 1, none⟩ = some (.slice A2 n2 c2)) (by kernel_rfl) (hkS _ hbz) (fun hHeld => ?_)
  generalize w1.drew = wz at hbz hHeld hXz hEz ⊢
  -- the region, step by step, in whatever order
  refine wpAnyT_take (i := 0) (oi := ⟨some 3, .fieldAddr 35 (.tmp 1) 0, 0, "desk.go:45", #[], none⟩) (v := ?_) rfl (by kernel_rfl) (by kernel_rfl) (by kernel_rfl) (by kernel_rfl) (fun _ _ _ h => h) (Or.inl ⟨by rfl, fun W hSw => ?_⟩) hHeld ?_
  rotate_left
  ·(try dsimp only at hSw); go_simp; (try with_reducible rfl)
  (try simp only [Act.put, List.setIfInBounds_toArray, List.set_cons_zero, List.set_cons_succ])
  refine wpAnyT_take (i := 1) (oi := ⟨some 4, .fieldAddr 25 (.tmp 3) 0, 0, "desk.go:45", #[⟨0, .data⟩], none⟩) (v := ?_) rfl (by kernel_rfl) (by kernel_rfl) (by kernel_rfl) (by kernel_rfl) (fun _ _ _ h => h) (Or.inl ⟨by rfl, fun W hSw => ?_⟩) hHeld ?_
  rotate_left
  ·(try dsimp only at hSw); go_simp; (try with_reducible rfl)
  (try simp only [Act.put, List.setIfInBounds_toArray, List.set_cons_zero, List.set_cons_succ])
  refine wpAnyT_take (i := 2) (oi := ⟨some 5, .load 22 (.tmp 4), 22, "desk.go:45", #[⟨1, .data⟩], none⟩) (v := ?_) rfl (by kernel_rfl) (by kernel_rfl) (by kernel_rfl) (by kernel_rfl) (fun _ _ _ h => h) (Or.inl ⟨by rfl, fun W hSw => ?_⟩) hHeld ?_
  rotate_left
  ·(try dsimp only at hSw); go_simp; (try with_reducible rfl)
  (try simp only [Act.put, List.setIfInBounds_toArray, List.set_cons_zero, List.set_cons_succ])
  refine wpAnyT_take (i := 4) (oi := ⟨some 7, .fieldAddr 35 (.tmp 1) 0, 0, "desk.go:45", #[], none⟩) (v := ?_) rfl (by kernel_rfl) (by kernel_rfl) (by kernel_rfl) (by kernel_rfl) (fun _ _ _ h => h) (Or.inl ⟨by rfl, fun W hSw => ?_⟩) hHeld ?_
  rotate_left
  ·(try dsimp only at hSw); go_simp; (try with_reducible rfl)
  (try simp only [Act.put, List.setIfInBounds_toArray, List.set_cons_zero, List.set_cons_succ])
  refine wpAnyT_take (i := 5) (oi := ⟨some 8, .fieldAddr 25 (.tmp 7) 1, 0, "desk.go:45", #[⟨4, .data⟩], none⟩) (v := ?_) rfl (by kernel_rfl) (by kernel_rfl) (by kernel_rfl) (by kernel_rfl) (fun _ _ _ h => h) (Or.inl ⟨by rfl, fun W hSw => ?_⟩) hHeld ?_
  rotate_left
  ·(try dsimp only at hSw); go_simp; (try with_reducible rfl)
  (try simp only [Act.put, List.setIfInBounds_toArray, List.set_cons_zero, List.set_cons_succ])
  refine wpAnyT_take (i := 6) (oi := ⟨some 9, .load 23 (.tmp 8), 23, "desk.go:45", #[⟨5, .data⟩], none⟩) (v := ?_) rfl (by kernel_rfl) (by kernel_rfl) (by kernel_rfl) (by kernel_rfl) (fun _ _ _ h => h) (Or.inl ⟨by rfl, fun W hSw => ?_⟩) hHeld ?_
  rotate_left
  ·(try dsimp only at hSw); go_simp; (try with_reducible rfl)
  (try simp only [Act.put, List.setIfInBounds_toArray, List.set_cons_zero, List.set_cons_succ])
  refine wpAnyT_ready (rs := [3]) (by kernel_rfl) (by simp) ?_
  refine (AllReadyT.cons (o := ⟨some 6, .call { callee := .value (.func 99), args := #[.tmp 5], argTypes := #[22] }, 22, "desk.go:45", #[⟨2, .data⟩], none⟩) rfl (fun K hK => ?_) AllReadyT.nil)
  rw [if_pos (by rfl)]
  go_simp
  refine (clone_Lk' A1 n1 c1 ls wz (hq1.keep hbz) hl1 hf1 (by omega)).mono ?_
  rintro e' wz ⟨B1, k1, rfl, ho1, hb1⟩
  replace ho1 := own_baseR ho1 hbz.size
  replace hbz := fr_call hbz hb1
  replace hXz := hXz.keep hb1
  replace hEz := hEz.below hb1
  (try replace ho2 := ho2.keep hb1)
  refine hK.out _ _ (hkS _ hbz) (fun hHeld => ?_)
  clear hK K
  (try simp only [Act.put, List.setIfInBounds_toArray, List.set_cons_zero, List.set_cons_succ])
  refine wpAnyT_ready (rs := [7, 8]) (by kernel_rfl) (by simp) ?_
  refine (AllReadyT.cons (o := ⟨some 10, .call { callee := .value (.func 38), args := #[.tmp 9], argTypes := #[23] }, 23, "desk.go:45", #[⟨6, .data⟩, ⟨3, .chain⟩], none⟩) rfl (fun K hK => ?_) (AllReadyT.last (o := ⟨some 11, .fieldAddr 35 (.tmp 1) 0, 0, "desk.go:45", #[⟨0, .phase⟩, ⟨1, .phase⟩, ⟨2, .phase⟩, ⟨3, .phase⟩, ⟨4, .phase⟩, ⟨5, .phase⟩, ⟨6, .phase⟩, ⟨7, .textOnly .lateStoresUnsure⟩], none⟩) rfl rfl (fun K hK => ?_) AllReadyT.nil))
  ·rw [if_pos (by rfl)]
   go_simp
   refine (clone_Int A2 n2 c2 hs wz (hq2.keep hbz) hf2 (by omega)).mono ?_
   rintro e' wz ⟨B2, k2, rfl, ho2, hb1⟩
   replace ho2 := own_mono ho2 hbz.size
   replace hbz := fr_call hbz hb1
   replace hXz := hXz.keep hb1
   replace hEz := hEz.below hb1
   (try replace ho1 := ho1.keep hb1)
   refine hK.out _ _ (hkS _ hbz) (fun hHeld => ?_)
   clear hK K
   (try simp only [Act.put, List.setIfInBounds_toArray, List.set_cons_zero, List.set_cons_succ])
   refine wpAnyT_ready (rs := [8]) (by kernel_rfl) (by simp) ?_
   refine (AllReadyT.last (o := ⟨some 11, .fieldAddr 35 (.tmp 1) 0, 0, "desk.go:45", #[⟨0, .phase⟩, ⟨1, .phase⟩, ⟨2, .phase⟩, ⟨3, .phase⟩, ⟨4, .phase⟩, ⟨5, .phase⟩, ⟨6, .phase⟩, ⟨7, .textOnly .lateStoresUnsure⟩], none⟩) rfl rfl (fun K hK => ?_) AllReadyT.nil)
   rw [if_pos (by rfl)]
   go_simp
   refine hK.out _ _ ?_
   clear hK K
   (try simp only [Act.put, List.setIfInBounds_toArray, List.set_cons_zero, List.set_cons_succ])
   refine wpAnyT_ready (rs := [9]) (by kernel_rfl) (by simp) ?_
   refine (AllReadyT.last (o := ⟨some 12, .fieldAddr 25 (.tmp 11) 0, 0, "desk.go:45", #[⟨8, .data⟩, ⟨0, .phase⟩, ⟨1, .phase⟩, ⟨2, .phase⟩, ⟨3, .phase⟩, ⟨4, .phase⟩, ⟨5, .phase⟩, ⟨6, .phase⟩, ⟨7, .textOnly .lateStoresUnsure⟩], none⟩) rfl rfl (fun K hK => ?_) AllReadyT.nil)
   rw [if_pos (by rfl)]
   go_simp
   refine hK.out _ _ ?_
   clear hK K
   (try simp only [Act.put, List.setIfInBounds_toArray, List.set_cons_zero, List.set_cons_succ])
   refine wpAnyT_ready (rs := [10]) (by kernel_rfl) (by simp) ?_
   refine (AllReadyT.last (o := ⟨none, .store 22 (.tmp 12) (.tmp 6), 0, "desk.go:45", #[⟨9, .data⟩, ⟨3, .data⟩, ⟨7, .chain⟩, ⟨0, .phase⟩, ⟨1, .phase⟩, ⟨2, .phase⟩, ⟨3, .phase⟩, ⟨4, .phase⟩, ⟨5, .phase⟩, ⟨6, .phase⟩, ⟨7, .textOnly .lateStoresUnsure⟩], none⟩) rfl rfl (fun K hK => ?_) AllReadyT.nil)
   rw [if_pos (by rfl)]
   have hcz : _ = some (Value.slice A1 n1 c1) := hXz.cell 0
   have hfz := hXz.frozen 0
   go_simp
   clear hcz hfz
   replace ho1 := OwnS.far ho1 (grown_set _ ⟨w.heap.size, 0, none⟩ (.slice B1 n1 k1)) hlX
   replace ho2 := own_far ho2 (grown_set _ ⟨w.heap.size, 0, none⟩ (.slice B1 n1 k1)) hlX
   replace hEz := hEz.set (p := ⟨w.heap.size, 0, none⟩) (Or.inl rfl) (.slice B1 n1 k1)
   first | (replace hXz : Blk _ w.heap.size 35 #[.slice B1 n1 k1, .slice B2 n2 k2, .slice A3 n2 c3, .int .i64 lim, .int .i64 wm, .slice A4 n4 c4, .int .i64 ep, .slice A5 n5 c5, .int .i64 mn, .int .i64 md, .int .i64 ma, .slice A6 n6 c6, .int .i64 yr, .int .i64 br, .int .i64 hr, .int .i64 wg, .int .i64 pc] := hXz.set_ 0 (.slice B1 n1 k1)) | (replace hXz : Blk _ w.heap.size 35 #[.slice B1 n1 k1, .slice A2 n2 c2, .slice A3 n2 c3, .int .i64 lim, .int .i64 wm, .slice A4 n4 c4, .int .i64 ep, .slice A5 n5 c5, .int .i64 mn, .int .i64 md, .int .i64 ma, .slice A6 n6 c6, .int .i64 yr, .int .i64 br, .int .i64 hr, .int .i64 wg, .int .i64 pc] := hXz.set_ 0 (.slice B1 n1 k1))
   refine hK.out _ _ ?_
   clear hK K
   refine wpAnyT_ready (rs := [11]) (by kernel_rfl) (by simp) ?_
   refine (AllReadyT.last (o := ⟨some 13, .fieldAddr 35 (.tmp 1) 0, 0, "desk.go:45", #[⟨0, .phase⟩, ⟨1, .phase⟩, ⟨2, .phase⟩, ⟨3, .phase⟩, ⟨4, .phase⟩, ⟨5, .phase⟩, ⟨6, .phase⟩, ⟨7, .phase⟩, ⟨8, .phase⟩, ⟨9, .phase⟩, ⟨10, .phase⟩], none⟩) rfl rfl (fun K hK => ?_) AllReadyT.nil)
   rw [if_pos (by rfl)]
   go_simp
   refine hK.out _ _ ?_
   clear hK K
   (try simp only [Act.put, List.setIfInBounds_toArray, List.set_cons_zero, List.set_cons_succ])
   refine wpAnyT_ready (rs := [12]) (by kernel_rfl) (by simp) ?_
   refine (AllReadyT.last (o := ⟨some 14, .fieldAddr 25 (.tmp 13) 1, 0, "desk.go:45", #[⟨11, .data⟩, ⟨0, .phase⟩, ⟨1, .phase⟩, ⟨2, .phase⟩, ⟨3, .phase⟩, ⟨4, .phase⟩, ⟨5, .phase⟩, ⟨6, .phase⟩, ⟨7, .phase⟩, ⟨8, .phase⟩, ⟨9, .phase⟩, ⟨10, .phase⟩], none⟩) rfl rfl (fun K hK => ?_) AllReadyT.nil)
   rw [if_pos (by rfl)]
   go_simp
   refine hK.out _ _ ?_
   clear hK K
   (try simp only [Act.put, List.setIfInBounds_toArray, List.set_cons_zero, List.set_cons_succ])
   refine wpAnyT_ready (rs := [13]) (by kernel_rfl) (by simp) ?_
   refine (AllReadyT.last (o := ⟨none, .store 23 (.tmp 14) (.tmp 10), 0, "desk.go:45", #[⟨12, .data⟩, ⟨7, .data⟩, ⟨10, .chain⟩, ⟨0, .phase⟩, ⟨1, .phase⟩, ⟨2, .phase⟩, ⟨3, .phase⟩, ⟨4, .phase⟩, ⟨5, .phase⟩, ⟨6, .phase⟩, ⟨7, .phase⟩, ⟨8, .phase⟩, ⟨9, .phase⟩, ⟨10, .phase⟩], none⟩) rfl rfl (fun K hK => ?_) AllReadyT.nil)
   rw [if_pos (by rfl)]
   have hcz : _ = some (Value.slice A2 n2 c2) := hXz.cell 1
   have hfz := hXz.frozen 1
   go_simp
   clear hcz hfz
   replace ho1 := OwnS.far ho1 (grown_set _ ⟨w.heap.size, 1, none⟩ (.slice B2 n2 k2)) hlX
   replace ho2 := own_far ho2 (grown_set _ ⟨w.heap.size, 1, none⟩ (.slice B2 n2 k2)) hlX
   replace hEz := hEz.set (p := ⟨w.heap.size, 1, none⟩) (Or.inl rfl) (.slice B2 n2 k2)
   first | (replace hXz : Blk _ w.heap.size 35 #[.slice B1 n1 k1, .slice B2 n2 k2, .slice A3 n2 c3, .int .i64 lim, .int .i64 wm, .slice A4 n4 c4, .int .i64 ep, .slice A5 n5 c5, .int .i64 mn, .int .i64 md, .int .i64 ma, .slice A6 n6 c6, .int .i64 yr, .int .i64 br, .int .i64 hr, .int .i64 wg, .int .i64 pc] := hXz.set_ 1 (.slice B2 n2 k2)) | (replace hXz : Blk _ w.heap.size 35 #[.slice A1 n1 c1, .slice B2 n2 k2, .slice A3 n2 c3, .int .i64 lim, .int .i64 wm, .slice A4 n4 c4, .int .i64 ep, .slice A5 n5 c5, .int .i64 mn, .int .i64 md, .int .i64 ma, .slice A6 n6 c6, .int .i64 yr, .int .i64 br, .int .i64 hr, .int .i64 wg, .int .i64 pc] := hXz.set_ 1 (.slice B2 n2 k2))
   refine hK.out _ _ ?_
   clear hK K
   refine wpAnyT_done (by kernel_rfl) ?_ _
   refine NoPanic.normal ?_
   go_wp2_with fail
   go_meet
   case rel => exact ⟨rfl, B1, k1, B2, k2, hXz, ⟨ho1, ho2⟩, hEz⟩
  ·rw [if_pos (by rfl)]
   go_simp
   refine hK.out _ _ ?_
   clear hK K
   (try simp only [Act.put, List.setIfInBounds_toArray, List.set_cons_zero, List.set_cons_succ])
   refine wpAnyT_ready (rs := [7, 9]) (by kernel_rfl) (by simp) ?_
   refine (AllReadyT.cons (o := ⟨some 10, .call { callee := .value (.func 38), args := #[.tmp 9], argTypes := #[23] }, 23, "desk.go:45", #[⟨6, .data⟩, ⟨3, .chain⟩], none⟩) rfl (fun K hK => ?_) (AllReadyT.last (o := ⟨some 12, .fieldAddr 25 (.tmp 11) 0, 0, "desk.go:45", #[⟨8, .data⟩, ⟨0, .phase⟩, ⟨1, .phase⟩, ⟨2, .phase⟩, ⟨3, .phase⟩, ⟨4, .phase⟩, ⟨5, .phase⟩, ⟨6, .phase⟩, ⟨7, .textOnly .lateStoresUnsure⟩], none⟩) rfl rfl (fun K hK => ?_) AllReadyT.nil))
   ·rw [if_pos (by rfl)]
    go_simp
    refine (clone_Int A2 n2 c2 hs wz (hq2.keep hbz) hf2 (by omega)).mono ?_
    rintro e' wz ⟨B2, k2, rfl, ho2, hb1⟩
    replace ho2 := own_mono ho2 hbz.size
    replace hbz := fr_call hbz hb1
    replace hXz := hXz.keep hb1
    replace hEz := hEz.below hb1
    (try replace ho1 := ho1.keep hb1)
    refine hK.out _ _ (hkS _ hbz) (fun hHeld => ?_)
    clear hK K
    (try simp only [Act.put, List.setIfInBounds_toArray, List.set_cons_zero, List.set_cons_succ])
    refine wpAnyT_ready (rs := [9]) (by kernel_rfl) (by simp) ?_
    refine (AllReadyT.last (o := ⟨some 12, .fieldAddr 25 (.tmp 11) 0, 0, "desk.go:45", #[⟨8, .data⟩, ⟨0, .phase⟩, ⟨1, .phase⟩, ⟨2, .phase⟩, ⟨3, .phase⟩, ⟨4, .phase⟩, ⟨5, .phase⟩, ⟨6, .phase⟩, ⟨7, .textOnly .lateStoresUnsure⟩], none⟩) rfl rfl (fun K hK => ?_) AllReadyT.nil)
    rw [if_pos (by rfl)]
    go_simp
    refine hK.out _ _ ?_
    clear hK K
    (try simp only [Act.put, List.setIfInBounds_toArray, List.set_cons_zero, List.set_cons_succ])
    refine wpAnyT_ready (rs := [10]) (by kernel_rfl) (by simp) ?_
    refine (AllReadyT.last (o := ⟨none, .store 22 (.tmp 12) (.tmp 6), 0, "desk.go:45", #[⟨9, .data⟩, ⟨3, .data⟩, ⟨7, .chain⟩, ⟨0, .phase⟩, ⟨1, .phase⟩, ⟨2, .phase⟩, ⟨3, .phase⟩, ⟨4, .phase⟩, ⟨5, .phase⟩, ⟨6, .phase⟩, ⟨7, .textOnly .lateStoresUnsure⟩], none⟩) rfl rfl (fun K hK => ?_) AllReadyT.nil)
    rw [if_pos (by rfl)]
    have hcz : _ = some (Value.slice A1 n1 c1) := hXz.cell 0
    have hfz := hXz.frozen 0
    go_simp
    clear hcz hfz
    replace ho1 := OwnS.far ho1 (grown_set _ ⟨w.heap.size, 0, none⟩ (.slice B1 n1 k1)) hlX
    replace ho2 := own_far ho2 (grown_set _ ⟨w.heap.size, 0, none⟩ (.slice B1 n1 k1)) hlX
    replace hEz := hEz.set (p := ⟨w.heap.size, 0, none⟩) (Or.inl rfl) (.slice B1 n1 k1)
    first | (replace hXz : Blk _ w.heap.size 35 #[.slice B1 n1 k1, .slice B2 n2 k2, .slice A3 n2 c3, .int .i64 lim, .int .i64 wm, .slice A4 n4 c4, .int .i64 ep, .slice A5 n5 c5, .int .i64 mn, .int .i64 md, .int .i64 ma, .slice A6 n6 c6, .int .i64 yr, .int .i64 br, .int .i64 hr, .int .i64 wg, .int .i64 pc] := hXz.set_ 0 (.slice B1 n1 k1)) | (replace hXz : Blk _ w.heap.size 35 #[.slice B1 n1 k1, .slice A2 n2 c2, .slice A3 n2 c3, .int .i64 lim, .int .i64 wm, .slice A4 n4 c4, .int .i64 ep, .slice A5 n5 c5, .int .i64 mn, .int .i64 md, .int .i64 ma, .slice A6 n6 c6, .int .i64 yr, .int .i64 br, .int .i64 hr, .int .i64 wg, .int .i64 pc] := hXz.set_ 0 (.slice B1 n1 k1))
    refine hK.out _ _ ?_
    clear hK K
    refine wpAnyT_ready (rs := [11]) (by kernel_rfl) (by simp) ?_
    refine (AllReadyT.last (o := ⟨some 13, .fieldAddr 35 (.tmp 1) 0, 0, "desk.go:45", #[⟨0, .phase⟩, ⟨1, .phase⟩, ⟨2, .phase⟩, ⟨3, .phase⟩, ⟨4, .phase⟩, ⟨5, .phase⟩, ⟨6, .phase⟩, ⟨7, .phase⟩, ⟨8, .phase⟩, ⟨9, .phase⟩, ⟨10, .phase⟩], none⟩) rfl rfl (fun K hK => ?_) AllReadyT.nil)
    rw [if_pos (by rfl)]
    go_simp
    refine hK.out _ _ ?_
    clear hK K
    (try simp only [Act.put, List.setIfInBounds_toArray, List.set_cons_zero, List.set_cons_succ])
    refine wpAnyT_ready (rs := [12]) (by kernel_rfl) (by simp) ?_
    refine (AllReadyT.last (o := ⟨some 14, .fieldAddr 25 (.tmp 13) 1, 0, "desk.go:45", #[⟨11, .data⟩, ⟨0, .phase⟩, ⟨1, .phase⟩, ⟨2, .phase⟩, ⟨3, .phase⟩, ⟨4, .phase⟩, ⟨5, .phase⟩, ⟨6, .phase⟩, ⟨7, .phase⟩, ⟨8, .phase⟩, ⟨9, .phase⟩, ⟨10, .phase⟩], none⟩) rfl rfl (fun K hK => ?_) AllReadyT.nil)
    rw [if_pos (by rfl)]
    go_simp
    refine hK.out _ _ ?_
    clear hK K
    (try simp only [Act.put, List.setIfInBounds_toArray, List.set_cons_zero, List.set_cons_succ])
    refine wpAnyT_ready (rs := [13]) (by kernel_rfl) (by simp) ?_
    refine (AllReadyT.last (o := ⟨none, .store 23 (.tmp 14) (.tmp 10), 0, "desk.go:45", #[⟨12, .data⟩, ⟨7, .data⟩, ⟨10, .chain⟩, ⟨0, .phase⟩, ⟨1, .phase⟩, ⟨2, .phase⟩, ⟨3, .phase⟩, ⟨4, .phase⟩, ⟨5, .phase⟩, ⟨6, .phase⟩, ⟨7, .phase⟩, ⟨8, .phase⟩, ⟨9, .phase⟩, ⟨10, .phase⟩], none⟩) rfl rfl (fun K hK => ?_) AllReadyT.nil)
    rw [if_pos (by rfl)]
    have hcz : _ = some (Value.slice A2 n2 c2) := hXz.cell 1
    have hfz := hXz.frozen 1
    go_simp
    clear hcz hfz
    replace ho1 := OwnS.far ho1 (grown_set _ ⟨w.heap.size, 1, none⟩ (.slice B2 n2 k2)) hlX
    replace ho2 := own_far ho2 (grown_set _ ⟨w.heap.size, 1, none⟩ (.slice B2 n2 k2)) hlX
    replace hEz := hEz.set (p := ⟨w.heap.size, 1, none⟩) (Or.inl rfl) (.slice B2 n2 k2)
    first | (replace hXz : Blk _ w.heap.size 35 #[.slice B1 n1 k1, .slice B2 n2 k2, .slice A3 n2 c3, .int .i64 lim, .int .i64 wm, .slice A4 n4 c4, .int .i64 ep, .slice A5 n5 c5, .int .i64 mn, .int .i64 md, .int .i64 ma, .slice A6 n6 c6, .int .i64 yr, .int .i64 br, .int .i64 hr, .int .i64 wg, .int .i64 pc] := hXz.set_ 1 (.slice B2 n2 k2)) | (replace hXz : Blk _ w.heap.size 35 #[.slice A1 n1 c1, .slice B2 n2 k2, .slice A3 n2 c3, .int .i64 lim, .int .i64 wm, .slice A4 n4 c4, .int .i64 ep, .slice A5 n5 c5, .int .i64 mn, .int .i64 md, .int .i64 ma, .slice A6 n6 c6, .int .i64 yr, .int .i64 br, .int .i64 hr, .int .i64 wg, .int .i64 pc] := hXz.set_ 1 (.slice B2 n2 k2))
    refine hK.out _ _ ?_
    clear hK K
    refine wpAnyT_done (by kernel_rfl) ?_ _
    refine NoPanic.normal ?_
    go_wp2_with fail
    go_meet
    case rel => exact ⟨rfl, B1, k1, B2, k2, hXz, ⟨ho1, ho2⟩, hEz⟩
   ·rw [if_pos (by rfl)]
    go_simp
    refine hK.out _ _ ?_
    clear hK K
    (try simp only [Act.put, List.setIfInBounds_toArray, List.set_cons_zero, List.set_cons_succ])
    refine wpAnyT_ready (rs := [7]) (by kernel_rfl) (by simp) ?_
    refine (AllReadyT.cons (o := ⟨some 10, .call { callee := .value (.func 38), args := #[.tmp 9], argTypes := #[23] }, 23, "desk.go:45", #[⟨6, .data⟩, ⟨3, .chain⟩], none⟩) rfl (fun K hK => ?_) AllReadyT.nil)
    rw [if_pos (by rfl)]
    go_simp
    refine (clone_Int A2 n2 c2 hs wz (hq2.keep hbz) hf2 (by omega)).mono ?_
    rintro e' wz ⟨B2, k2, rfl, ho2, hb1⟩
    replace ho2 := own_mono ho2 hbz.size
    replace hbz := fr_call hbz hb1
    replace hXz := hXz.keep hb1
    replace hEz := hEz.below hb1
    (try replace ho1 := ho1.keep hb1)
    refine hK.out _ _ (hkS _ hbz) (fun hHeld => ?_)
    clear hK K
    (try simp only [Act.put, List.setIfInBounds_toArray, List.set_cons_zero, List.set_cons_succ])
    refine wpAnyT_ready (rs := [10]) (by kernel_rfl) (by simp) ?_
    refine (AllReadyT.last (o := ⟨none, .store 22 (.tmp 12) (.tmp 6), 0, "desk.go:45", #[⟨9, .data⟩, ⟨3, .data⟩, ⟨7, .chain⟩, ⟨0, .phase⟩, ⟨1, .phase⟩, ⟨2, .phase⟩, ⟨3, .phase⟩, ⟨4, .phase⟩, ⟨5, .phase⟩, ⟨6, .phase⟩, ⟨7, .textOnly .lateStoresUnsure⟩], none⟩) rfl rfl (fun K hK => ?_) AllReadyT.nil)
    rw [if_pos (by rfl)]
    have hcz : _ = some (Value.slice A1 n1 c1) := hXz.cell 0
    have hfz := hXz.frozen 0
    go_simp
    clear hcz hfz
    replace ho1 := OwnS.far ho1 (grown_set _ ⟨w.heap.size, 0, none⟩ (.slice B1 n1 k1)) hlX
    replace ho2 := own_far ho2 (grown_set _ ⟨w.heap.size, 0, none⟩ (.slice B1 n1 k1)) hlX
    replace hEz := hEz.set (p := ⟨w.heap.size, 0, none⟩) (Or.inl rfl) (.slice B1 n1 k1)
    first | (replace hXz : Blk _ w.heap.size 35 #[.slice B1 n1 k1, .slice B2 n2 k2, .slice A3 n2 c3, .int .i64 lim, .int .i64 wm, .slice A4 n4 c4, .int .i64 ep, .slice A5 n5 c5, .int .i64 mn, .int .i64 md, .int .i64 ma, .slice A6 n6 c6, .int .i64 yr, .int .i64 br, .int .i64 hr, .int .i64 wg, .int .i64 pc] := hXz.set_ 0 (.slice B1 n1 k1)) | (replace hXz : Blk _ w.heap.size 35 #[.slice B1 n1 k1, .slice A2 n2 c2, .slice A3 n2 c3, .int .i64 lim, .int .i64 wm, .slice A4 n4 c4, .int .i64 ep, .slice A5 n5 c5, .int .i64 mn, .int .i64 md, .int .i64 ma, .slice A6 n6 c6, .int .i64 yr, .int .i64 br, .int .i64 hr, .int .i64 wg, .int .i64 pc] := hXz.set_ 0 (.slice B1 n1 k1))
    refine hK.out _ _ ?_
    clear hK K
    refine wpAnyT_ready (rs := [11]) (by kernel_rfl) (by simp) ?_
    refine (AllReadyT.last (o := ⟨some 13, .fieldAddr 35 (.tmp 1) 0, 0, "desk.go:45", #[⟨0, .phase⟩, ⟨1, .phase⟩, ⟨2, .phase⟩, ⟨3, .phase⟩, ⟨4, .phase⟩, ⟨5, .phase⟩, ⟨6, .phase⟩, ⟨7, .phase⟩, ⟨8, .phase⟩, ⟨9, .phase⟩, ⟨10, .phase⟩], none⟩) rfl rfl (fun K hK => ?_) AllReadyT.nil)
    rw [if_pos (by rfl)]
    go_simp
    refine hK.out _ _ ?_
    clear hK K
    (try simp only [Act.put, List.setIfInBounds_toArray, List.set_cons_zero, List.set_cons_succ])
    refine wpAnyT_ready (rs := [12]) (by kernel_rfl) (by simp) ?_
    refine (AllReadyT.last (o := ⟨some 14, .fieldAddr 25 (.tmp 13) 1, 0, "desk.go:45", #[⟨11, .data⟩, ⟨0, .phase⟩, ⟨1, .phase⟩, ⟨2, .phase⟩, ⟨3, .phase⟩, ⟨4, .phase⟩, ⟨5, .phase⟩, ⟨6, .phase⟩, ⟨7, .phase⟩, ⟨8, .phase⟩, ⟨9, .phase⟩, ⟨10, .phase⟩], none⟩) rfl rfl (fun K hK => ?_) AllReadyT.nil)
    rw [if_pos (by rfl)]
    go_simp
    refine hK.out _ _ ?_
    clear hK K
    (try simp only [Act.put, List.setIfInBounds_toArray, List.set_cons_zero, List.set_cons_succ])
    refine wpAnyT_ready (rs := [13]) (by kernel_rfl) (by simp) ?_
    refine (AllReadyT.last (o := ⟨none, .store 23 (.tmp 14) (.tmp 10), 0, "desk.go:45", #[⟨12, .data⟩, ⟨7, .data⟩, ⟨10, .chain⟩, ⟨0, .phase⟩, ⟨1, .phase⟩, ⟨2, .phase⟩, ⟨3, .phase⟩, ⟨4, .phase⟩, ⟨5, .phase⟩, ⟨6, .phase⟩, ⟨7, .phase⟩, ⟨8, .phase⟩, ⟨9, .phase⟩, ⟨10, .phase⟩], none⟩) rfl rfl (fun K hK => ?_) AllReadyT.nil)
    rw [if_pos (by rfl)]
    have hcz : _ = some (Value.slice A2 n2 c2) := hXz.cell 1
    have hfz := hXz.frozen 1
    go_simp
    clear hcz hfz
    replace ho1 := OwnS.far ho1 (grown_set _ ⟨w.heap.size, 1, none⟩ (.slice B2 n2 k2)) hlX
    replace ho2 := own_far ho2 (grown_set _ ⟨w.heap.size, 1, none⟩ (.slice B2 n2 k2)) hlX
    replace hEz := hEz.set (p := ⟨w.heap.size, 1, none⟩) (Or.inl rfl) (.slice B2 n2 k2)
    first | (replace hXz : Blk _ w.heap.size 35 #[.slice B1 n1 k1, .slice B2 n2 k2, .slice A3 n2 c3, .int .i64 lim, .int .i64 wm, .slice A4 n4 c4, .int .i64 ep, .slice A5 n5 c5, .int .i64 mn, .int .i64 md, .int .i64 ma, .slice A6 n6 c6, .int .i64 yr, .int .i64 br, .int .i64 hr, .int .i64 wg, .int .i64 pc] := hXz.set_ 1 (.slice B2 n2 k2)) | (replace hXz : Blk _ w.heap.size 35 #[.slice A1 n1 c1, .slice B2 n2 k2, .slice A3 n2 c3, .int .i64 lim, .int .i64 wm, .slice A4 n4 c4, .int .i64 ep, .slice A5 n5 c5, .int .i64 mn, .int .i64 md, .int .i64 ma, .slice A6 n6 c6, .int .i64 yr, .int .i64 br, .int .i64 hr, .int .i64 wg, .int .i64 pc] := hXz.set_ 1 (.slice B2 n2 k2))
    refine hK.out _ _ ?_
    clear hK K
    refine wpAnyT_done (by kernel_rfl) ?_ _
    refine NoPanic.normal ?_
    go_wp2_with fail
    go_meet
    case rel => exact ⟨rfl, B1, k1, B2, k2, hXz, ⟨ho1, ho2⟩, hEz⟩
 obtain ⟨rfl, B1, k1, B2, k2, hX2, ⟨ho1, ho2⟩, hE2⟩ := hcut
 obtain ⟨w2, hw2⟩ : ∃ w2, w2 = wc := ⟨_, rfl⟩
 subst hw2
 have hs2 := hE2.size
 replace hq3 := hE2.rdS0 hr3 (Nat.le_refl _) hq3
 replace hq4 := hE2.rd0 hr4 (Nat.le_refl _) hq4
 replace hq5 := hE2.rd0 hr5 (Nat.le_refl _) hq5
 replace hq6 := hE2.rdS0 hr6 (Nat.le_refl _) hq6
 have hF1 := ho1.fresh
 have hF2 := ho2.fresh_
 have hR1 := ho1.rd
 have hR2 := ho2.rd
 have hM1 := ho1.fm
 have hM2 := ho2.fm
 clear hX ho1 ho2 hq1 hq2
 rename Blk w2 w.heap.size _ _ => hX
 go_upto_region 2 with (fail)
 go_cut [2] from 15 (fun s2 wc => s2 = .pointer (some ⟨w.heap.size + 1, 0, none⟩) ∧ ∃ B3 k3 B6 k6, Blk wc w.heap.size 35 #[.slice B1 n1 k1, .slice B2 n2 k2, .slice B3 n2 k3, .int .i64 lim, .int .i64 wm, .slice A4 n4 c4, .int .i64 ep, .slice A5 n5 c5, .int .i64 mn, .int .i64 md, .int .i64 ma, .slice B6 n6 k6, .int .i64 yr, .int .i64 br, .int .i64 hr, .int .i64 wg, .int .i64 pc] ∧ (OwnS wc w2.heap.size 52 2 (.slice B3 n2 k3) (tg.map ptC) ∧ OwnS wc w2.heap.size 137 4 (.slice B6 n6 k6) (fe.map Feast.row)) ∧ Exc (fun i => i = w.heap.size) w2 wc)
 case first =>
  have hbz := fr_drew (fr_refl w2)
  have hlX := hX.lt
  have hkS : ∀ W, Below w2.heap.size w2 W → W.cell? ⟨w.heap.size, 2, none⟩ = some (.slice A3 n2 c3) ∧ W.cell? ⟨w.heap.size, 11, none⟩ = some (.slice A6 n6 c6) := fun W hb => ⟨(hb.cell (p := ⟨w.heap.size, 2, none⟩) hlX).trans (hX.cell 2), (hb.cell (p := ⟨w.heap.size, 11, none⟩) hlX).trans (hX.cell 11)⟩
  have hXz := hX.keep hbz
  have hEz := (Exc.refl (fun i => i = w.heap.size) w2).below hbz
  refine wp_region_noPanic ?_
  refine wp_region_T (fun i => i == 6 || i == 7 || i == 8 || i == 9) (fun W => W.cell? ⟨w.heap.size, 2, none⟩ = some (.slice A3 n2 c3) ∧ W.cell? ⟨w.heap.size, 11, none⟩ = some (.slice A6 n6 c6)) (by kernel_rfl) (hkS _ hbz) (fun hHeld => ?_)
  generalize w2.drew = wz at hbz hHeld hXz hEz ⊢
  -- the region, step by step, in whatever order
  refine wpAnyT_take (i := 0) (oi := ⟨some 15, .fieldAddr 35 (.tmp 1) 1, 0, "desk.go:46", #[], none⟩) (v := ?_) rfl (by kernel_rfl) (by kernel_rfl) (by kernel_rfl) (by kernel_rfl) (fun _ _ _ h => h) (Or.inl ⟨by rfl, fun W hSw => ?_⟩) hHeld ?_
  rotate_left
  ·(try dsimp only at hSw); go_simp; (try with_reducible rfl)
  (try simp only [Act.put, List.setIfInBounds_toArray, List.set_cons_zero, List.set_cons_succ])
  refine wpAnyT_take (i := 1) (oi := ⟨some 16, .load 26 (.tmp 15), 26, "desk.go:46", #[⟨0, .data⟩], none⟩) (v := ?_) rfl (by kernel_rfl) (by kernel_rfl) (by kernel_rfl) (by kernel_rfl) (fun _ _ _ h => h) (Or.inl ⟨by rfl, fun W hSw => ?_⟩) hHeld ?_
  rotate_left
  ·(try dsimp only at hSw); go_simp; (try with_reducible rfl)
  (try simp only [Act.put, List.setIfInBounds_toArray, List.set_cons_zero, List.set_cons_succ])
  refine wpAnyT_take (i := 3) (oi := ⟨some 18, .fieldAddr 35 (.tmp 1) 6, 0, "desk.go:46", #[], none⟩) (v := ?_) rfl (by kernel_rfl) (by kernel_rfl) (by kernel_rfl) (by kernel_rfl) (fun _ _ _ h => h) (Or.inl ⟨by rfl, fun W hSw => ?_⟩) hHeld ?_
  rotate_left
  ·(try dsimp only at hSw); go_simp; (try with_reducible rfl)
  (try simp only [Act.put, List.setIfInBounds_toArray, List.set_cons_zero, List.set_cons_succ])
  refine wpAnyT_take (i := 4) (oi := ⟨some 19, .load 33 (.tmp 18), 33, "desk.go:46", #[⟨3, .data⟩], none⟩) (v := ?_) rfl (by kernel_rfl) (by kernel_rfl) (by kernel_rfl) (by kernel_rfl) (fun _ _ _ h => h) (Or.inl ⟨by rfl, fun W hSw => ?_⟩) hHeld ?_
  rotate_left
  ·(try dsimp only at hSw); go_simp; (try with_reducible rfl)
  (try simp only [Act.put, List.setIfInBounds_toArray, List.set_cons_zero, List.set_cons_succ])
  refine wpAnyT_ready (rs := [2]) (by kernel_rfl) (by simp) ?_
  refine (AllReadyT.cons (o := ⟨some 17, .call { callee := .value (.func 100), args := #[.tmp 16], argTypes := #[26] }, 26, "desk.go:46", #[⟨1, .data⟩], none⟩) rfl (fun K hK => ?_) AllReadyT.nil)
  rw [if_pos (by rfl)]
  go_simp
  refine (clone_Fr' A3 n2 c3 tg wz (hq3.keep hbz) hl3 hf3 (by omega)).mono ?_
  rintro e' wz ⟨B3, k3, rfl, ho3, hb1⟩
  replace ho3 := own_baseR ho3 hbz.size
  replace hbz := fr_call hbz hb1
  replace hXz := hXz.keep hb1
  replace hEz := hEz.below hb1
  (try replace ho6 := ho6.keep hb1)
  refine hK.out _ _ (hkS _ hbz) (fun hHeld => ?_)
  clear hK K
  (try simp only [Act.put, List.setIfInBounds_toArray, List.set_cons_zero, List.set_cons_succ])
  refine wpAnyT_ready (rs := [5, 6]) (by kernel_rfl) (by simp) ?_
  refine (AllReadyT.cons (o := ⟨some 20, .call { callee := .value (.func 101), args := #[.tmp 19], argTypes := #[33] }, 33, "desk.go:46", #[⟨4, .data⟩, ⟨2, .chain⟩], none⟩) rfl (fun K hK => ?_) (AllReadyT.last (o := ⟨some 21, .fieldAddr 35 (.tmp 1) 1, 0, "desk.go:46", #[⟨0, .phase⟩, ⟨1, .phase⟩, ⟨2, .phase⟩, ⟨3, .phase⟩, ⟨4, .phase⟩, ⟨5, .textOnly .lateStoresUnsure⟩], none⟩) rfl rfl (fun K hK => ?_) AllReadyT.nil))
  ·rw [if_pos (by rfl)]
   go_simp
   refine (clone_Fe' A6 n6 c6 fe wz (hq6.keep hbz) hl6 hf6 (by omega)).mono ?_
   rintro e' wz ⟨B6, k6, rfl, ho6, hb1⟩
   replace ho6 := own_baseR ho6 hbz.size
   replace hbz := fr_call hbz hb1
   replace hXz := hXz.keep hb1
   replace hEz := hEz.below hb1
   (try replace ho3 := ho3.keep hb1)
   refine hK.out _ _ (hkS _ hbz) (fun hHeld => ?_)
   clear hK K
   (try simp only [Act.put, List.setIfInBounds_toArray, List.set_cons_zero, List.set_cons_succ])
   refine wpAnyT_ready (rs := [6]) (by kernel_rfl) (by simp) ?_
   refine (AllReadyT.last (o := ⟨some 21, .fieldAddr 35 (.tmp 1) 1, 0, "desk.go:46", #[⟨0, .phase⟩, ⟨1, .phase⟩, ⟨2, .phase⟩, ⟨3, .phase⟩, ⟨4, .phase⟩, ⟨5, .textOnly .lateStoresUnsure⟩], none⟩) rfl rfl (fun K hK => ?_) AllReadyT.nil)
   rw [if_pos (by rfl)]
   go_simp
   refine hK.out _ _ ?_
   clear hK K
   (try simp only [Act.put, List.setIfInBounds_toArray, List.set_cons_zero, List.set_cons_succ])
   refine wpAnyT_ready (rs := [7]) (by kernel_rfl) (by simp) ?_
   refine (AllReadyT.last (o := ⟨none, .store 26 (.tmp 21) (.tmp 17), 0, "desk.go:46", #[⟨6, .data⟩, ⟨2, .data⟩, ⟨5, .chain⟩, ⟨0, .phase⟩, ⟨1, .phase⟩, ⟨2, .phase⟩, ⟨3, .phase⟩, ⟨4, .phase⟩, ⟨5, .textOnly .lateStoresUnsure⟩], none⟩) rfl rfl (fun K hK => ?_) AllReadyT.nil)
   rw [if_pos (by rfl)]
   have hcz : _ = some (Value.slice A3 n2 c3) := hXz.cell 2
   have hfz := hXz.frozen 2
   go_simp
   clear hcz hfz
   replace ho3 := OwnS.far ho3 (grown_set _ ⟨w.heap.size, 2, none⟩ (.slice B3 n2 k3)) hlX
   replace ho6 := OwnS.far ho6 (grown_set _ ⟨w.heap.size, 2, none⟩ (.slice B3 n2 k3)) hlX
   replace hEz := hEz.set (p := ⟨w.heap.size, 2, none⟩) (Or.inl rfl) (.slice B3 n2 k3)
   first | (replace hXz : Blk _ w.heap.size 35 #[.slice B1 n1 k1, .slice B2 n2 k2, .slice B3 n2 k3, .int .i64 lim, .int .i64 wm, .slice A4 n4 c4, .int .i64 ep, .slice A5 n5 c5, .int .i64 mn, .int .i64 md, .int .i64 ma, .slice B6 n6 k6, .int .i64 yr, .int .i64 br, .int .i64 hr, .int .i64 wg, .int .i64 pc] := hXz.set_ 2 (.slice B3 n2 k3)) | (replace hXz : Blk _ w.heap.size 35 #[.slice B1 n1 k1, .slice B2 n2 k2, .slice B3 n2 k3, .int .i64 lim, .int .i64 wm, .slice A4 n4 c4, .int .i64 ep, .slice A5 n5 c5, .int .i64 mn, .int .i64 md, .int .i64 ma, .slice A6 n6 c6, .int .i64 yr, .int .i64 br, .int .i64 hr, .int .i64 wg, .int .i64 pc] := hXz.set_ 2 (.slice B3 n2 k3))
   refine hK.out _ _ ?_
   clear hK K
   refine wpAnyT_ready (rs := [8]) (by kernel_rfl) (by simp) ?_
   refine (AllReadyT.last (o := ⟨some 22, .fieldAddr 35 (.tmp 1) 6, 0, "desk.go:46", #[⟨0, .phase⟩, ⟨1, .phase⟩, ⟨2, .phase⟩, ⟨3, .phase⟩, ⟨4, .phase⟩, ⟨5, .phase⟩, ⟨6, .phase⟩, ⟨7, .phase⟩], none⟩) rfl rfl (fun K hK => ?_) AllReadyT.nil)
   rw [if_pos (by rfl)]
   go_simp
   refine hK.out _ _ ?_
   clear hK K
   (try simp only [Act.put, List.setIfInBounds_toArray, List.set_cons_zero, List.set_cons_succ])
   refine wpAnyT_ready (rs := [9]) (by kernel_rfl) (by simp) ?_
   refine (AllReadyT.last (o := ⟨none, .store 33 (.tmp 22) (.tmp 20), 0, "desk.go:46", #[⟨8, .data⟩, ⟨5, .data⟩, ⟨7, .chain⟩, ⟨0, .phase⟩, ⟨1, .phase⟩, ⟨2, .phase⟩, ⟨3, .phase⟩, ⟨4, .phase⟩, ⟨5, .phase⟩, ⟨6, .phase⟩, ⟨7, .phase⟩], none⟩) rfl rfl (fun K hK => ?_) AllReadyT.nil)
   rw [if_pos (by rfl)]
   have hcz : _ = some (Value.slice A6 n6 c6) := hXz.cell 11
   have hfz := hXz.frozen 11
   go_simp
   clear hcz hfz
   replace ho3 := OwnS.far ho3 (grown_set _ ⟨w.heap.size, 11, none⟩ (.slice B6 n6 k6)) hlX
   replace ho6 := OwnS.far ho6 (grown_set _ ⟨w.heap.size, 11, none⟩ (.slice B6 n6 k6)) hlX
   replace hEz := hEz.set (p := ⟨w.heap.size, 11, none⟩) (Or.inl rfl) (.slice B6 n6 k6)
   first | (replace hXz : Blk _ w.heap.size 35 #[.slice B1 n1 k1, .slice B2 n2 k2, .slice B3 n2 k3, .int .i64 lim, .int .i64 wm, .slice A4 n4 c4, .int .i64 ep, .slice A5 n5 c5, .int .i64 mn, .int .i64 md, .int .i64 ma, .slice B6 n6 k6, .int .i64 yr, .int .i64 br, .int .i64 hr, .int .i64 wg, .int .i64 pc] := hXz.set_ 11 (.slice B6 n6 k6)) | (replace hXz : Blk _ w.heap.size 35 #[.slice B1 n1 k1, .slice B2 n2 k2, .slice A3 n2 c3, .int .i64 lim, .int .i64 wm, .slice A4 n4 c4, .int .i64 ep, .slice A5 n5 c5, .int .i64 mn, .int .i64 md, .int .i64 ma, .slice B6 n6 k6, .int .i64 yr, .int .i64 br, .int .i64 hr, .int .i64 wg, .int .i64 pc] := hXz.set_ 11 (.slice B6 n6 k6))
   refine hK.out _ _ ?_
   clear hK K
   refine wpAnyT_done (by kernel_rfl) ?_ _
   refine NoPanic.normal ?_
   go_wp2_with fail
   go_meet
   case rel => exact ⟨rfl, B3, k3, B6, k6, hXz, ⟨ho3, ho6⟩, hEz⟩
  ·rw [if_pos (by rfl)]
   go_simp
   refine hK.out _ _ ?_
   clear hK K
   (try simp only [Act.put, List.setIfInBounds_toArray, List.set_cons_zero, List.set_cons_succ])
   refine wpAnyT_ready (rs := [5]) (by kernel_rfl) (by simp) ?_
   refine (AllReadyT.cons (o := ⟨some 20, .call { callee := .value (.func 101), args := #[.tmp 19], argTypes := #[33] }, 33, "desk.go:46", #[⟨4, .data⟩, ⟨2, .chain⟩], none⟩) rfl (fun K hK => ?_) AllReadyT.nil)
   rw [if_pos (by rfl)]
   go_simp
   refine (clone_Fe' A6 n6 c6 fe wz (hq6.keep hbz) hl6 hf6 (by omega)).mono ?_
   rintro e' wz ⟨B6, k6, rfl, ho6, hb1⟩
   replace ho6 := own_baseR ho6 hbz.size
   replace hbz := fr_call hbz hb1
   replace hXz := hXz.keep hb1
   replace hEz := hEz.below hb1
   (try replace ho3 := ho3.keep hb1)
   refine hK.out _ _ (hkS _ hbz) (fun hHeld => ?_)
   clear hK K
   (try simp only [Act.put, List.setIfInBounds_toArray, List.set_cons_zero, List.set_cons_succ])
   refine wpAnyT_ready (rs := [7]) (by kernel_rfl) (by simp) ?_
   refine (AllReadyT.last (o := ⟨none, .store 26 (.tmp 21) (.tmp 17), 0, "desk.go:46", #[⟨6, .data⟩, ⟨2, .data⟩, ⟨5, .chain⟩, ⟨0, .phase⟩, ⟨1, .phase⟩, ⟨2, .phase⟩, ⟨3, .phase⟩, ⟨4, .phase⟩, ⟨5, .textOnly .lateStoresUnsure⟩], none⟩) rfl rfl (fun K hK => ?_) AllReadyT.nil)
   rw [if_pos (by rfl)]
   have hcz : _ = some (Value.slice A3 n2 c3) := hXz.cell 2
   have hfz := hXz.frozen 2
   go_simp
   clear hcz hfz
   replace ho3 := OwnS.far ho3 (grown_set _ ⟨w.heap.size, 2, none⟩ (.slice B3 n2 k3)) hlX
   replace ho6 := OwnS.far ho6 (grown_set _ ⟨w.heap.size, 2, none⟩ (.slice B3 n2 k3)) hlX
   replace hEz := hEz.set (p := ⟨w.heap.size, 2, none⟩) (Or.inl rfl) (.slice B3 n2 k3)
   first | (replace hXz : Blk _ w.heap.size 35 #[.slice B1 n1 k1, .slice B2 n2 k2, .slice B3 n2 k3, .int .i64 lim, .int .i64 wm, .slice A4 n4 c4, .int .i64 ep, .slice A5 n5 c5, .int .i64 mn, .int .i64 md, .int .i64 ma, .slice B6 n6 k6, .int .i64 yr, .int .i64 br, .int .i64 hr, .int .i64 wg, .int .i64 pc] := hXz.set_ 2 (.slice B3 n2 k3)) | (replace hXz : Blk _ w.heap.size 35 #[.slice B1 n1 k1, .slice B2 n2 k2, .slice B3 n2 k3, .int .i64 lim, .int .i64 wm, .slice A4 n4 c4, .int .i64 ep, .slice A5 n5 c5, .int .i64 mn, .int .i64 md, .int .i64 ma, .slice A6 n6 c6, .int .i64 yr, .int .i64 br, .int .i64 hr, .int .i64 wg, .int .i64 pc] := hXz.set_ 2 (.slice B3 n2 k3))
   refine hK.out _ _ ?_
   clear hK K
   refine wpAnyT_ready (rs := [8]) (by kernel_rfl) (by simp) ?_
   refine (AllReadyT.last (o := ⟨some 22, .fieldAddr 35 (.tmp 1) 6, 0, "desk.go:46", #[⟨0, .phase⟩, ⟨1, .phase⟩, ⟨2, .phase⟩, ⟨3, .phase⟩, ⟨4, .phase⟩, ⟨5, .phase⟩, ⟨6, .phase⟩, ⟨7, .phase⟩], none⟩) rfl rfl (fun K hK => ?_) AllReadyT.nil)
   rw [if_pos (by rfl)]
   go_simp
   refine hK.out _ _ ?_
   clear hK K
   (try simp only [Act.put, List.setIfInBounds_toArray, List.set_cons_zero, List.set_cons_succ])
   refine wpAnyT_ready (rs := [9]) (by kernel_rfl) (by simp) ?_
   refine (AllReadyT.last (o := ⟨none, .store 33 (.tmp 22) (.tmp 20), 0, "desk.go:46", #[⟨8, .data⟩, ⟨5, .data⟩, ⟨7, .chain⟩, ⟨0, .phase⟩, ⟨1, .phase⟩, ⟨2, .phase⟩, ⟨3, .phase⟩, ⟨4, .phase⟩, ⟨5, .phase⟩, ⟨6, .phase⟩, ⟨7, .phase⟩], none⟩) rfl rfl (fun K hK => ?_) AllReadyT.nil)
   rw [if_pos (by rfl)]
   have hcz : _ = some (Value.slice A6 n6 c6) := hXz.cell 11
   have hfz := hXz.frozen 11
   go_simp
   clear hcz hfz
   replace ho3 := OwnS.far ho3 (grown_set _ ⟨w.heap.size, 11, none⟩ (.slice B6 n6 k6)) hlX
   replace ho6 := OwnS.far ho6 (grown_set _ ⟨w.heap.size, 11, none⟩ (.slice B6 n6 k6)) hlX
   replace hEz := hEz.set (p := ⟨w.heap.size, 11, none⟩) (Or.inl rfl) (.slice B6 n6 k6)
   first | (replace hXz : Blk _ w.heap.size 35 #[.slice B1 n1 k1, .slice B2 n2 k2, .slice B3 n2 k3, .int .i64 lim, .int .i64 wm, .slice A4 n4 c4, .int .i64 ep, .slice A5 n5 c5, .int .i64 mn, .int .i64 md, .int .i64 ma, .slice B6 n6 k6, .int .i64 yr, .int .i64 br, .int .i64 hr, .int .i64 wg, .int .i64 pc] := hXz.set_ 11 (.slice B6 n6 k6)) | (replace hXz : Blk _ w.heap.size 35 #[.slice B1 n1 k1, .slice B2 n2 k2, .slice A3 n2 c3, .int .i64 lim, .int .i64 wm, .slice A4 n4 c4, .int .i64 ep, .slice A5 n5 c5, .int .i64 mn, .int .i64 md, .int .i64 ma, .slice B6 n6 k6, .int .i64 yr, .int .i64 br, .int .i64 hr, .int .i64 wg, .int .i64 pc] := hXz.set_ 11 (.slice B6 n6 k6))
   refine hK.out _ _ ?_
   clear hK K
   refine wpAnyT_done (by kernel_rfl) ?_ _
   refine NoPanic.normal ?_
   go_wp2_with fail
   go_meet
   case rel => exact ⟨rfl, B3, k3, B6, k6, hXz, ⟨ho3, ho6⟩, hEz⟩
 obtain ⟨rfl, B3, k3, B6, k6, hX3, ⟨ho3, ho6⟩, hE3⟩ := hcut
 obtain ⟨w3, hw3⟩ : ∃ w3, w3 = wc := ⟨_, rfl⟩
 subst hw3
 have hs3 := hE3.size
 replace hq4 := hE3.rd0 hr4 (Nat.le_refl _) hq4
 replace hq5 := hE3.rd0 hr5 (Nat.le_refl _) hq5
 replace hR1 := hE3.rdS1 hF1 (by omega) hR1
 replace hR2 := hE3.rd1 hF2 (by omega) hR2
 have hF3 := ho3.fresh
 have hF6 := ho6.fresh
 have hR3 := ho3.rd
 have hR6 := ho6.rd
 have hM3 := ho3.fm
 have hM6 := ho6.fm
 clear hX ho3 ho6 hq3 hq6
 rename Blk w3 w.heap.size _ _ => hX
 go_upto_region 3 with (fail)
 go_cut [2] from 23 (fun s2 wc => s2 = .pointer (some ⟨w.heap.size + 1, 0, none⟩) ∧ ∃ B4 k4 B5 k5, Blk wc w.heap.size 35 #[.slice B1 n1 k1, .slice B2 n2 k2, .slice B3 n2 k3, .int .i64 lim, .int .i64 wm, .slice B4 n4 k4, .int .i64 ep, .slice B5 n5 k5, .int .i64 mn, .int .i64 md, .int .i64 ma, .slice B6 n6 k6, .int .i64 yr, .int .i64 br, .int .i64 hr, .int .i64 wg, .int .i64 pc] ∧ (Own wc w3.heap.size  (.slice B4 n4 k4) ho ∧ Own wc w3.heap.size  (.slice B5 n5 k5) cy) ∧ Exc (fun i => i = w.heap.size) w3 wc)
 case first =>
  have hbz := fr_drew (fr_refl w3)
  have hlX := hX.lt
  have hkS : ∀ W, Below w3.heap.size w3 W → W.cell? ⟨w.heap.size, 5, none⟩ = some (.slice A4 n4 c4) ∧ W.cell? ⟨w.heap.size, 7, none⟩ = some (.slice A5 n5 c5) := fun W hb => ⟨(hb.cell (p := ⟨w.heap.size, 5, none⟩) hlX).trans (hX.cell 5), (hb.cell (p := ⟨w.heap.size, 7, none⟩) hlX).trans (hX.cell 7)⟩
  have hXz := hX.keep hbz
  have hEz := (Exc.refl (fun i => i = w.heap.size) w3).below hbz
  refine wp_region_noPanic ?_
  refine wp_region_T (fun i => i == 8 || i == 9 || i == 10 || i == 11 || i == 12 || i == 13) (fun W => W.cell? ⟨w.heap.size, 5, none⟩ = some (.slice A4 n4 c4) ∧ W.cell? ⟨w.heap.size, 7, none⟩ = some (.slice A5 n5 c5)) (by kernel_rfl) (hkS _ hbz) (fun hHeld => ?_)
  generalize w3.drew = wz at hbz hHeld hXz hEz ⊢
  -- the region, step by step, in whatever order
  refine wpAnyT_take (i := 0) (oi := ⟨some 23, .fieldAddr 35 (.tmp 1) 3, 0, "desk.go:47", #[], none⟩) (v := ?_) rfl (by kernel_rfl) (by kernel_rfl) (by kernel_rfl) (by kernel_rfl) (fun _ _ _ h => h) (Or.inl ⟨by rfl, fun W hSw => ?_⟩) hHeld ?_
  rotate_left
  ·(try dsimp only at hSw); go_simp; (try with_reducible rfl)
  (try simp only [Act.put, List.setIfInBounds_toArray, List.set_cons_zero, List.set_cons_succ])
  refine wpAnyT_take (i := 1) (oi := ⟨some 24, .fieldAddr 28 (.tmp 23) 1, 0, "desk.go:47", #[⟨0, .data⟩], none⟩) (v := ?_) rfl (by kernel_rfl) (by kernel_rfl) (by kernel_rfl) (by kernel_rfl) (fun _ _ _ h => h) (Or.inl ⟨by rfl, fun W hSw => ?_⟩) hHeld ?_
  rotate_left
  ·(try dsimp only at hSw); go_simp; (try with_reducible rfl)
  (try simp only [Act.put, List.setIfInBounds_toArray, List.set_cons_zero, List.set_cons_succ])
  refine wpAnyT_take (i := 2) (oi := ⟨some 25, .load 23 (.tmp 24), 23, "desk.go:47", #[⟨1, .data⟩], none⟩) (v := ?_) rfl (by kernel_rfl) (by kernel_rfl) (by kernel_rfl) (by kernel_rfl) (fun _ _ _ h => h) (Or.inl ⟨by rfl, fun W hSw => ?_⟩) hHeld ?_
  rotate_left
  ·(try dsimp only at hSw); go_simp; (try with_reducible rfl)
  (try simp only [Act.put, List.setIfInBounds_toArray, List.set_cons_zero, List.set_cons_succ])
  refine wpAnyT_take (i := 4) (oi := ⟨some 27, .fieldAddr 35 (.tmp 1) 4, 0, "desk.go:47", #[], none⟩) (v := ?_) rfl (by kernel_rfl) (by kernel_rfl) (by kernel_rfl) (by kernel_rfl) (fun _ _ _ h => h) (Or.inl ⟨by rfl, fun W hSw => ?_⟩) hHeld ?_
  rotate_left
  ·(try dsimp only at hSw); go_simp; (try with_reducible rfl)
  (try simp only [Act.put, List.setIfInBounds_toArray, List.set_cons_zero, List.set_cons_succ])
  refine wpAnyT_take (i := 5) (oi := ⟨some 28, .fieldAddr 30 (.tmp 27) 1, 0, "desk.go:47", #[⟨4, .data⟩], none⟩) (v := ?_) rfl (by kernel_rfl) (by kernel_rfl) (by kernel_rfl) (by kernel_rfl) (fun _ _ _ h => h) (Or.inl ⟨by rfl, fun W hSw => ?_⟩) hHeld ?_
  rotate_left
  ·(try dsimp only at hSw); go_simp; (try with_reducible rfl)
  (try simp only [Act.put, List.setIfInBounds_toArray, List.set_cons_zero, List.set_cons_succ])
  refine wpAnyT_take (i := 6) (oi := ⟨some 29, .load 23 (.tmp 28), 23, "desk.go:47", #[⟨5, .data⟩], none⟩) (v := ?_) rfl (by kernel_rfl) (by kernel_rfl) (by kernel_rfl) (by kernel_rfl) (fun _ _ _ h => h) (Or.inl ⟨by rfl, fun W hSw => ?_⟩) hHeld ?_
  rotate_left
  ·(try dsimp only at hSw); go_simp; (try with_reducible rfl)
  (try simp only [Act.put, List.setIfInBounds_toArray, List.set_cons_zero, List.set_cons_succ])
  refine wpAnyT_ready (rs := [3]) (by kernel_rfl) (by simp) ?_
  refine (AllReadyT.cons (o := ⟨some 26, .call { callee := .value (.func 38), args := #[.tmp 25], argTypes := #[23] }, 23, "desk.go:47", #[⟨2, .data⟩], none⟩) rfl (fun K hK => ?_) AllReadyT.nil)
  rw [if_pos (by rfl)]
  go_simp
  refine (clone_Int A4 n4 c4 ho wz (hq4.keep hbz) hf4 (by omega)).mono ?_
  rintro e' wz ⟨B4, k4, rfl, ho4, hb1⟩
  replace ho4 := own_mono ho4 hbz.size
  replace hbz := fr_call hbz hb1
  replace hXz := hXz.keep hb1
  replace hEz := hEz.below hb1
  (try replace ho5 := ho5.keep hb1)
  refine hK.out _ _ (hkS _ hbz) (fun hHeld => ?_)
  clear hK K
  (try simp only [Act.put, List.setIfInBounds_toArray, List.set_cons_zero, List.set_cons_succ])
  refine wpAnyT_ready (rs := [7, 8]) (by kernel_rfl) (by simp) ?_
  refine (AllReadyT.cons (o := ⟨some 30, .call { callee := .value (.func 38), args := #[.tmp 29], argTypes := #[23] }, 23, "desk.go:47", #[⟨6, .data⟩, ⟨3, .chain⟩], none⟩) rfl (fun K hK => ?_) (AllReadyT.last (o := ⟨some 31, .fieldAddr 35 (.tmp 1) 3, 0, "desk.go:47", #[⟨0, .phase⟩, ⟨1, .phase⟩, ⟨2, .phase⟩, ⟨3, .phase⟩, ⟨4, .phase⟩, ⟨5, .phase⟩, ⟨6, .phase⟩, ⟨7, .textOnly .lateStoresUnsure⟩], none⟩) rfl rfl (fun K hK => ?_) AllReadyT.nil))
  ·rw [if_pos (by rfl)]
   go_simp
   refine (clone_Int A5 n5 c5 cy wz (hq5.keep hbz) hf5 (by omega)).mono ?_
   rintro e' wz ⟨B5, k5, rfl, ho5, hb1⟩
   replace ho5 := own_mono ho5 hbz.size
   replace hbz := fr_call hbz hb1
   replace hXz := hXz.keep hb1
   replace hEz := hEz.below hb1
   (try replace ho4 := ho4.keep hb1)
   refine hK.out _ _ (hkS _ hbz) (fun hHeld => ?_)
   clear hK K
   (try simp only [Act.put, List.setIfInBounds_toArray, List.set_cons_zero, List.set_cons_succ])
   refine wpAnyT_ready (rs := [8]) (by kernel_rfl) (by simp) ?_
   refine (AllReadyT.last (o := ⟨some 31, .fieldAddr 35 (.tmp 1) 3, 0, "desk.go:47", #[⟨0, .phase⟩, ⟨1, .phase⟩, ⟨2, .phase⟩, ⟨3, .phase⟩, ⟨4, .phase⟩, ⟨5, .phase⟩, ⟨6, .phase⟩, ⟨7, .textOnly .lateStoresUnsure⟩], none⟩) rfl rfl (fun K hK => ?_) AllReadyT.nil)
   rw [if_pos (by rfl)]
   go_simp
   refine hK.out _ _ ?_
   clear hK K
   (try simp only [Act.put, List.setIfInBounds_toArray, List.set_cons_zero, List.set_cons_succ])
   refine wpAnyT_ready (rs := [9]) (by kernel_rfl) (by simp) ?_
   refine (AllReadyT.last (o := ⟨some 32, .fieldAddr 28 (.tmp 31) 1, 0, "desk.go:47", #[⟨8, .data⟩, ⟨0, .phase⟩, ⟨1, .phase⟩, ⟨2, .phase⟩, ⟨3, .phase⟩, ⟨4, .phase⟩, ⟨5, .phase⟩, ⟨6, .phase⟩, ⟨7, .textOnly .lateStoresUnsure⟩], none⟩) rfl rfl (fun K hK => ?_) AllReadyT.nil)
   rw [if_pos (by rfl)]
   go_simp
   refine hK.out _ _ ?_
   clear hK K
   (try simp only [Act.put, List.setIfInBounds_toArray, List.set_cons_zero, List.set_cons_succ])
   refine wpAnyT_ready (rs := [10]) (by kernel_rfl) (by simp) ?_
   refine (AllReadyT.last (o := ⟨none, .store 23 (.tmp 32) (.tmp 26), 0, "desk.go:47", #[⟨9, .data⟩, ⟨3, .data⟩, ⟨7, .chain⟩, ⟨0, .phase⟩, ⟨1, .phase⟩, ⟨2, .phase⟩, ⟨3, .phase⟩, ⟨4, .phase⟩, ⟨5, .phase⟩, ⟨6, .phase⟩, ⟨7, .textOnly .lateStoresUnsure⟩], none⟩) rfl rfl (fun K hK => ?_) AllReadyT.nil)
   rw [if_pos (by rfl)]
   have hcz : _ = some (Value.slice A4 n4 c4) := hXz.cell 5
   have hfz := hXz.frozen 5
   go_simp
   clear hcz hfz
   replace ho4 := own_far ho4 (grown_set _ ⟨w.heap.size, 5, none⟩ (.slice B4 n4 k4)) hlX
   replace ho5 := own_far ho5 (grown_set _ ⟨w.heap.size, 5, none⟩ (.slice B4 n4 k4)) hlX
   replace hEz := hEz.set (p := ⟨w.heap.size, 5, none⟩) (Or.inl rfl) (.slice B4 n4 k4)
   first | (replace hXz : Blk _ w.heap.size 35 #[.slice B1 n1 k1, .slice B2 n2 k2, .slice B3 n2 k3, .int .i64 lim, .int .i64 wm, .slice B4 n4 k4, .int .i64 ep, .slice B5 n5 k5, .int .i64 mn, .int .i64 md, .int .i64 ma, .slice B6 n6 k6, .int .i64 yr, .int .i64 br, .int .i64 hr, .int .i64 wg, .int .i64 pc] := hXz.set_ 5 (.slice B4 n4 k4)) | (replace hXz : Blk _ w.heap.size 35 #[.slice B1 n1 k1, .slice B2 n2 k2, .slice B3 n2 k3, .int .i64 lim, .int .i64 wm, .slice B4 n4 k4, .int .i64 ep, .slice A5 n5 c5, .int .i64 mn, .int .i64 md, .int .i64 ma, .slice B6 n6 k6, .int .i64 yr, .int .i64 br, .int .i64 hr, .int .i64 wg, .int .i64 pc] := hXz.set_ 5 (.slice B4 n4 k4))
   refine hK.out _ _ ?_
   clear hK K
   refine wpAnyT_ready (rs := [11]) (by kernel_rfl) (by simp) ?_
   refine (AllReadyT.last (o := ⟨some 33, .fieldAddr 35 (.tmp 1) 4, 0, "desk.go:47", #[⟨0, .phase⟩, ⟨1, .phase⟩, ⟨2, .phase⟩, ⟨3, .phase⟩, ⟨4, .phase⟩, ⟨5, .phase⟩, ⟨6, .phase⟩, ⟨7, .phase⟩, ⟨8, .phase⟩, ⟨9, .phase⟩, ⟨10, .phase⟩], none⟩) rfl rfl (fun K hK => ?_) AllReadyT.nil)
   rw [if_pos (by rfl)]
   go_simp
   refine hK.out _ _ ?_
   clear hK K
   (try simp only [Act.put, List.setIfInBounds_toArray, List.set_cons_zero, List.set_cons_succ])
   refine wpAnyT_ready (rs := [12]) (by kernel_rfl) (by simp) ?_
   refine (AllReadyT.last (o := ⟨some 34, .fieldAddr 30 (.tmp 33) 1, 0, "desk.go:47", #[⟨11, .data⟩, ⟨0, .phase⟩, ⟨1, .phase⟩, ⟨2, .phase⟩, ⟨3, .phase⟩, ⟨4, .phase⟩, ⟨5, .phase⟩, ⟨6, .phase⟩, ⟨7, .phase⟩, ⟨8, .phase⟩, ⟨9, .phase⟩, ⟨10, .phase⟩], none⟩) rfl rfl (fun K hK => ?_) AllReadyT.nil)
   rw [if_pos (by rfl)]
   go_simp
   refine hK.out _ _ ?_
   clear hK K
   (try simp only [Act.put, List.setIfInBounds_toArray, List.set_cons_zero, List.set_cons_succ])
   refine wpAnyT_ready (rs := [13]) (by kernel_rfl) (by simp) ?_
   refine (AllReadyT.last (o := ⟨none, .store 23 (.tmp 34) (.tmp 30), 0, "desk.go:47", #[⟨12, .data⟩, ⟨7, .data⟩, ⟨10, .chain⟩, ⟨0, .phase⟩, ⟨1, .phase⟩, ⟨2, .phase⟩, ⟨3, .phase⟩, ⟨4, .phase⟩, ⟨5, .phase⟩, ⟨6, .phase⟩, ⟨7, .phase⟩, ⟨8, .phase⟩, ⟨9, .phase⟩, ⟨10, .phase⟩], none⟩) rfl rfl (fun K hK => ?_) AllReadyT.nil)
   rw [if_pos (by rfl)]
   have hcz : _ = some (Value.slice A5 n5 c5) := hXz.cell 7
   have hfz := hXz.frozen 7
   go_simp
   clear hcz hfz
   replace ho4 := own_far ho4 (grown_set _ ⟨w.heap.size, 7, none⟩ (.slice B5 n5 k5)) hlX
   replace ho5 := own_far ho5 (grown_set _ ⟨w.heap.size, 7, none⟩ (.slice B5 n5 k5)) hlX
   replace hEz := hEz.set (p := ⟨w.heap.size, 7, none⟩) (Or.inl rfl) (.slice B5 n5 k5)
   first | (replace hXz : Blk _ w.heap.size 35 #[.slice B1 n1 k1, .slice B2 n2 k2, .slice B3 n2 k3, .int .i64 lim, .int .i64 wm, .slice B4 n4 k4, .int .i64 ep, .slice B5 n5 k5, .int .i64 mn, .int .i64 md, .int .i64 ma, .slice B6 n6 k6, .int .i64 yr, .int .i64 br, .int .i64 hr, .int .i64 wg, .int .i64 pc] := hXz.set_ 7 (.slice B5 n5 k5)) | (replace hXz : Blk _ w.heap.size 35 #[.slice B1 n1 k1, .slice B2 n2 k2, .slice B3 n2 k3, .int .i64 lim, .int .i64 wm, .slice A4 n4 c4, .int .i64 ep, .slice B5 n5 k5, .int .i64 mn, .int .i64 md, .int .i64 ma, .slice B6 n6 k6, .int .i64 yr, .int .i64 br, .int .i64 hr, .int .i64 wg, .int .i64 pc] := hXz.set_ 7 (.slice B5 n5 k5))
   refine hK.out _ _ ?_
   clear hK K
   refine wpAnyT_done (by kernel_rfl) ?_ _
   refine NoPanic.normal ?_
   go_wp2_with fail
   go_meet
   case rel => exact ⟨rfl, B4, k4, B5, k5, hXz, ⟨ho4, ho5⟩, hEz⟩
  ·rw [if_pos (by rfl)]
   go_simp
   refine hK.out _ _ ?_
   clear hK K
   (try simp only [Act.put, List.setIfInBounds_toArray, List.set_cons_zero, List.set_cons_succ])
   refine wpAnyT_ready (rs := [7, 9]) (by kernel_rfl) (by simp) ?_
   refine (AllReadyT.cons (o := ⟨some 30, .call { callee := .value (.func 38), args := #[.tmp 29], argTypes := #[23] }, 23, "desk.go:47", #[⟨6, .data⟩, ⟨3, .chain⟩], none⟩) rfl (fun K hK => ?_) (AllReadyT.last (o := ⟨some 32, .fieldAddr 28 (.tmp 31) 1, 0, "desk.go:47", #[⟨8, .data⟩, ⟨0, .phase⟩, ⟨1, .phase⟩, ⟨2, .phase⟩, ⟨3, .phase⟩, ⟨4, .phase⟩, ⟨5, .phase⟩, ⟨6, .phase⟩, ⟨7, .textOnly .lateStoresUnsure⟩], none⟩) rfl rfl (fun K hK => ?_) AllReadyT.nil))
   ·rw [if_pos (by rfl)]
    go_simp
    refine (clone_Int A5 n5 c5 cy wz (hq5.keep hbz) hf5 (by omega)).mono ?_
    rintro e' wz ⟨B5, k5, rfl, ho5, hb1⟩
    replace ho5 := own_mono ho5 hbz.size
    replace hbz := fr_call hbz hb1
    replace hXz := hXz.keep hb1
    replace hEz := hEz.below hb1
    (try replace ho4 := ho4.keep hb1)
    refine hK.out _ _ (hkS _ hbz) (fun hHeld => ?_)
    clear hK K
    (try simp only [Act.put, List.setIfInBounds_toArray, List.set_cons_zero, List.set_cons_succ])
    refine wpAnyT_ready (rs := [9]) (by kernel_rfl) (by simp) ?_
    refine (AllReadyT.last (o := ⟨some 32, .fieldAddr 28 (.tmp 31) 1, 0, "desk.go:47", #[⟨8, .data⟩, ⟨0, .phase⟩, ⟨1, .phase⟩, ⟨2, .phase⟩, ⟨3, .phase⟩, ⟨4, .phase⟩, ⟨5, .phase⟩, ⟨6, .phase⟩, ⟨7, .textOnly .lateStoresUnsure⟩], none⟩) rfl rfl (fun K hK => ?_) AllReadyT.nil)
    rw [if_pos (by rfl)]
    go_simp
    refine hK.out _ _ ?_
    clear hK K
    (try simp only [Act.put, List.setIfInBounds_toArray, List.set_cons_zero, List.set_cons_succ])
    refine wpAnyT_ready (rs := [10]) (by kernel_rfl) (by simp) ?_
    refine (AllReadyT.last (o := ⟨none, .store 23 (.tmp 32) (.tmp 26), 0, "desk.go:47", #[⟨9, .data⟩, ⟨3, .data⟩, ⟨7, .chain⟩, ⟨0, .phase⟩, ⟨1, .phase⟩, ⟨2, .phase⟩, ⟨3, .phase⟩, ⟨4, .phase⟩, ⟨5, .phase⟩, ⟨6, .phase⟩, ⟨7, .textOnly .lateStoresUnsure⟩], none⟩) rfl rfl (fun K hK => ?_) AllReadyT.nil)
    rw [if_pos (by rfl)]
    have hcz : _ = some (Value.slice A4 n4 c4) := hXz.cell 5
    have hfz := hXz.frozen 5
    go_simp
    clear hcz hfz
    replace ho4 := own_far ho4 (grown_set _ ⟨w.heap.size, 5, none⟩ (.slice B4 n4 k4)) hlX
    replace ho5 := own_far ho5 (grown_set _ ⟨w.heap.size, 5, none⟩ (.slice B4 n4 k4)) hlX
    replace hEz := hEz.set (p := ⟨w.heap.size, 5, none⟩) (Or.inl rfl) (.slice B4 n4 k4)
    first | (replace hXz : Blk _ w.heap.size 35 #[.slice B1 n1 k1, .slice B2 n2 k2, .slice B3 n2 k3, .int .i64 lim, .int .i64 wm, .slice B4 n4 k4, .int .i64 ep, .slice B5 n5 k5, .int .i64 mn, .int .i64 md, .int .i64 ma, .slice B6 n6 k6, .int .i64 yr, .int .i64 br, .int .i64 hr, .int .i64 wg, .int .i64 pc] := hXz.set_ 5 (.slice B4 n4 k4)) | (replace hXz : Blk _ w.heap.size 35 #[.slice B1 n1 k1, .slice B2 n2 k2, .slice B3 n2 k3, .int .i64 lim, .int .i64 wm, .slice B4 n4 k4, .int .i64 ep, .slice A5 n5 c5, .int .i64 mn, .int .i64 md, .int .i64 ma, .slice B6 n6 k6, .int .i64 yr, .int .i64 br, .int .i64 hr, .int .i64 wg, .int .i64 pc] := hXz.set_ 5 (.slice B4 n4 k4))
    refine hK.out _ _ ?_
    clear hK K
    refine wpAnyT_ready (rs := [11]) (by kernel_rfl) (by simp) ?_
    refine (AllReadyT.last (o := ⟨some 33, .fieldAddr 35 (.tmp 1) 4, 0, "desk.go:47", #[⟨0, .phase⟩, ⟨1, .phase⟩, ⟨2, .phase⟩, ⟨3, .phase⟩, ⟨4, .phase⟩, ⟨5, .phase⟩, ⟨6, .phase⟩, ⟨7, .phase⟩, ⟨8, .phase⟩, ⟨9, .phase⟩, ⟨10, .phase⟩], none⟩) rfl rfl (fun K hK => ?_) AllReadyT.nil)
    rw [if_pos (by rfl)]
    go_simp
    refine hK.out _ _ ?_
    clear hK K
    (try simp only [Act.put, List.setIfInBounds_toArray, List.set_cons_zero, List.set_cons_succ])
    refine wpAnyT_ready (rs := [12]) (by kernel_rfl) (by simp) ?_
    refine (AllReadyT.last (o := ⟨some 34, .fieldAddr 30 (.tmp 33) 1, 0, "desk.go:47", #[⟨11, .data⟩, ⟨0, .phase⟩, ⟨1, .phase⟩, ⟨2, .phase⟩, ⟨3, .phase⟩, ⟨4, .phase⟩, ⟨5, .phase⟩, ⟨6, .phase⟩, ⟨7, .phase⟩, ⟨8, .phase⟩, ⟨9, .phase⟩, ⟨10, .phase⟩], none⟩) rfl rfl (fun K hK => ?_) AllReadyT.nil)
    rw [if_pos (by rfl)]
    go_simp
    refine hK.out _ _ ?_
    clear hK K
    (try simp only [Act.put, List.setIfInBounds_toArray, List.set_cons_zero, List.set_cons_succ])
    refine wpAnyT_ready (rs := [13]) (by kernel_rfl) (by simp) ?_
    refine (AllReadyT.last (o := ⟨none, .store 23 (.tmp 34) (.tmp 30), 0, "desk.go:47", #[⟨12, .data⟩, ⟨7, .data⟩, ⟨10, .chain⟩, ⟨0, .phase⟩, ⟨1, .phase⟩, ⟨2, .phase⟩, ⟨3, .phase⟩, ⟨4, .phase⟩, ⟨5, .phase⟩, ⟨6, .phase⟩, ⟨7, .phase⟩, ⟨8, .phase⟩, ⟨9, .phase⟩, ⟨10, .phase⟩], none⟩) rfl rfl (fun K hK => ?_) AllReadyT.nil)
    rw [if_pos (by rfl)]
    have hcz : _ = some (Value.slice A5 n5 c5) := hXz.cell 7
    have hfz := hXz.frozen 7
    go_simp
    clear hcz hfz
    replace ho4 := own_far ho4 (grown_set _ ⟨w.heap.size, 7, none⟩ (.slice B5 n5 k5)) hlX
    replace ho5 := own_far ho5 (grown_set _ ⟨w.heap.size, 7, none⟩ (.slice B5 n5 k5)) hlX
    replace hEz := hEz.set (p := ⟨w.heap.size, 7, none⟩) (Or.inl rfl) (.slice B5 n5 k5)
    first | (replace hXz : Blk _ w.heap.size 35 #[.slice B1 n1 k1, .slice B2 n2 k2, .slice B3 n2 k3, .int .i64 lim, .int .i64 wm, .slice B4 n4 k4, .int .i64 ep, .slice B5 n5 k5, .int .i64 mn, .int .i64 md, .int .i64 ma, .slice B6 n6 k6, .int .i64 yr, .int .i64 br, .int .i64 hr, .int .i64 wg, .int .i64 pc] := hXz.set_ 7 (.slice B5 n5 k5)) | (replace hXz : Blk _ w.heap.size 35 #[.slice B1 n1 k1, .slice B2 n2 k2, .slice B3 n2 k3, .int .i64 lim, .int .i64 wm, .slice A4 n4 c4, .int .i64 ep, .slice B5 n5 k5, .int .i64 mn, .int .i64 md, .int .i64 ma, .slice B6 n6 k6, .int .i64 yr, .int .i64 br, .int .i64 hr, .int .i64 wg, .int .i64 pc] := hXz.set_ 7 (.slice B5 n5 k5))
    refine hK.out _ _ ?_
    clear hK K
    refine wpAnyT_done (by kernel_rfl) ?_ _
    refine NoPanic.normal ?_
    go_wp2_with fail
    go_meet
    case rel => exact ⟨rfl, B4, k4, B5, k5, hXz, ⟨ho4, ho5⟩, hEz⟩
   ·rw [if_pos (by rfl)]
    go_simp
    refine hK.out _ _ ?_
    clear hK K
    (try simp only [Act.put, List.setIfInBounds_toArray, List.set_cons_zero, List.set_cons_succ])
    refine wpAnyT_ready (rs := [7]) (by kernel_rfl) (by simp) ?_
    refine (AllReadyT.cons (o := ⟨some 30, .call { callee := .value (.func 38), args := #[.tmp 29], argTypes := #[23] }, 23, "desk.go:47", #[⟨6, .data⟩, ⟨3, .chain⟩], none⟩) rfl (fun K hK => ?_) AllReadyT.nil)
    rw [if_pos (by rfl)]
    go_simp
    refine (clone_Int A5 n5 c5 cy wz (hq5.keep hbz) hf5 (by omega)).mono ?_
    rintro e' wz ⟨B5, k5, rfl, ho5, hb1⟩
    replace ho5 := own_mono ho5 hbz.size
    replace hbz := fr_call hbz hb1
    replace hXz := hXz.keep hb1
    replace hEz := hEz.below hb1
    (try replace ho4 := ho4.keep hb1)
    refine hK.out _ _ (hkS _ hbz) (fun hHeld => ?_)
    clear hK K
    (try simp only [Act.put, List.setIfInBounds_toArray, List.set_cons_zero, List.set_cons_succ])
    refine wpAnyT_ready (rs := [10]) (by kernel_rfl) (by simp) ?_
    refine (AllReadyT.last (o := ⟨none, .store 23 (.tmp 32) (.tmp 26), 0, "desk.go:47", #[⟨9, .data⟩, ⟨3, .data⟩, ⟨7, .chain⟩, ⟨0, .phase⟩, ⟨1, .phase⟩, ⟨2, .phase⟩, ⟨3, .phase⟩, ⟨4, .phase⟩, ⟨5, .phase⟩, ⟨6, .phase⟩, ⟨7, .textOnly .lateStoresUnsure⟩], none⟩) rfl rfl (fun K hK => ?_) AllReadyT.nil)
    rw [if_pos (by rfl)]
    have hcz : _ = some (Value.slice A4 n4 c4) := hXz.cell 5
    have hfz := hXz.frozen 5
    go_simp
    clear hcz hfz
    replace ho4 := own_far ho4 (grown_set _ ⟨w.heap.size, 5, none⟩ (.slice B4 n4 k4)) hlX
    replace ho5 := own_far ho5 (grown_set _ ⟨w.heap.size, 5, none⟩ (.slice B4 n4 k4)) hlX
    replace hEz := hEz.set (p := ⟨w.heap.size, 5, none⟩) (Or.inl rfl) (.slice B4 n4 k4)
    first | (replace hXz : Blk _ w.heap.size 35 #[.slice B1 n1 k1, .slice B2 n2 k2, .slice B3 n2 k3, .int .i64 lim, .int .i64 wm, .slice B4 n4 k4, .int .i64 ep, .slice B5 n5 k5, .int .i64 mn, .int .i64 md, .int .i64 ma, .slice B6 n6 k6, .int .i64 yr, .int .i64 br, .int .i64 hr, .int .i64 wg, .int .i64 pc] := hXz.set_ 5 (.slice B4 n4 k4)) | (replace hXz : Blk _ w.heap.size 35 #[.slice B1 n1 k1, .slice B2 n2 k2, .slice B3 n2 k3, .int .i64 lim, .int .i64 wm, .slice B4 n4 k4, .int .i64 ep, .slice A5 n5 c5, .int .i64 mn, .int .i64 md, .int .i64 ma, .slice B6 n6 k6, .int .i64 yr, .int .i64 br, .int .i64 hr, .int .i64 wg, .int .i64 pc] := hXz.set_ 5 (.slice B4 n4 k4))
    refine hK.out _ _ ?_
    clear hK K
    refine wpAnyT_ready (rs := [11]) (by kernel_rfl) (by simp) ?_
    refine (AllReadyT.last (o := ⟨some 33, .fieldAddr 35 (.tmp 1) 4, 0, "desk.go:47", #[⟨0, .phase⟩, ⟨1, .phase⟩, ⟨2, .phase⟩, ⟨3, .phase⟩, ⟨4, .phase⟩, ⟨5, .phase⟩, ⟨6, .phase⟩, ⟨7, .phase⟩, ⟨8, .phase⟩, ⟨9, .phase⟩, ⟨10, .phase⟩], none⟩) rfl rfl (fun K hK => ?_) AllReadyT.nil)
    rw [if_pos (by rfl)]
    go_simp
    refine hK.out _ _ ?_
    clear hK K
    (try simp only [Act.put, List.setIfInBounds_toArray, List.set_cons_zero, List.set_cons_succ])
    refine wpAnyT_ready (rs := [12]) (by kernel_rfl) (by simp) ?_
    refine (AllReadyT.last (o := ⟨some 34, .fieldAddr 30 (.tmp 33) 1, 0, "desk.go:47", #[⟨11, .data⟩, ⟨0, .phase⟩, ⟨1, .phase⟩, ⟨2, .phase⟩, ⟨3, .phase⟩, ⟨4, .phase⟩, ⟨5, .phase⟩, ⟨6, .phase⟩, ⟨7, .phase⟩, ⟨8, .phase⟩, ⟨9, .phase⟩, ⟨10, .phase⟩], none⟩) rfl rfl (fun K hK => ?_) AllReadyT.nil)
    rw [if_pos (by rfl)]
    go_simp
    refine hK.out _ _ ?_
    clear hK K
    (try simp only [Act.put, List.setIfInBounds_toArray, List.set_cons_zero, List.set_cons_succ])
    refine wpAnyT_ready (rs := [13]) (by kernel_rfl) (by simp) ?_
    refine (AllReadyT.last (o := ⟨none, .store 23 (.tmp 34) (.tmp 30), 0, "desk.go:47", #[⟨12, .data⟩, ⟨7, .data⟩, ⟨10, .chain⟩, ⟨0, .phase⟩, ⟨1, .phase⟩, ⟨2, .phase⟩, ⟨3, .phase⟩, ⟨4, .phase⟩, ⟨5, .phase⟩, ⟨6, .phase⟩, ⟨7, .phase⟩, ⟨8, .phase⟩, ⟨9, .phase⟩, ⟨10, .phase⟩], none⟩) rfl rfl (fun K hK => ?_) AllReadyT.nil)
    rw [if_pos (by rfl)]
    have hcz : _ = some (Value.slice A5 n5 c5) := hXz.cell 7
    have hfz := hXz.frozen 7
    go_simp
    clear hcz hfz
    replace ho4 := own_far ho4 (grown_set _ ⟨w.heap.size, 7, none⟩ (.slice B5 n5 k5)) hlX
    replace ho5 := own_far ho5 (grown_set _ ⟨w.heap.size, 7, none⟩ (.slice B5 n5 k5)) hlX
    replace hEz := hEz.set (p := ⟨w.heap.size, 7, none⟩) (Or.inl rfl) (.slice B5 n5 k5)
    first | (replace hXz : Blk _ w.heap.size 35 #[.slice B1 n1 k1, .slice B2 n2 k2, .slice B3 n2 k3, .int .i64 lim, .int .i64 wm, .slice B4 n4 k4, .int .i64 ep, .slice B5 n5 k5, .int .i64 mn, .int .i64 md, .int .i64 ma, .slice B6 n6 k6, .int .i64 yr, .int .i64 br, .int .i64 hr, .int .i64 wg, .int .i64 pc] := hXz.set_ 7 (.slice B5 n5 k5)) | (replace hXz : Blk _ w.heap.size 35 #[.slice B1 n1 k1, .slice B2 n2 k2, .slice B3 n2 k3, .int .i64 lim, .int .i64 wm, .slice A4 n4 c4, .int .i64 ep, .slice B5 n5 k5, .int .i64 mn, .int .i64 md, .int .i64 ma, .slice B6 n6 k6, .int .i64 yr, .int .i64 br, .int .i64 hr, .int .i64 wg, .int .i64 pc] := hXz.set_ 7 (.slice B5 n5 k5))
    refine hK.out _ _ ?_
    clear hK K
    refine wpAnyT_done (by kernel_rfl) ?_ _
    refine NoPanic.normal ?_
    go_wp2_with fail
    go_meet
    case rel => exact ⟨rfl, B4, k4, B5, k5, hXz, ⟨ho4, ho5⟩, hEz⟩
 obtain ⟨rfl, B4, k4, B5, k5, hX4, ⟨ho4, ho5⟩, hE4⟩ := hcut
 obtain ⟨w4, hw4⟩ : ∃ w4, w4 = wc := ⟨_, rfl⟩
 subst hw4
 have hs4 := hE4.size
 replace hR1 := hE4.rdS1 hF1 (by omega) hR1
 replace hR2 := hE4.rd1 hF2 (by omega) hR2
 replace hR3 := hE4.rdS1 hF3 (by omega) hR3
 replace hR6 := hE4.rdS1 hF6 (by omega) hR6
 have hF4 := ho4.fresh_
 have hF5 := ho5.fresh_
 have hR4 := ho4.rd
 have hR5 := ho5.rd
 have hM4 := ho4.fm
 have hM5 := ho5.fm
 have hE := (hE2.trans_ hE3 (fun i h => Or.inl h)).trans_ hE4 (fun i h => Or.inl h)
 have hZ4 := hE.blk hZ (by omega)
 have hbe := hE.toBelow hb0 (by intro i h; omega) (by omega)
 have hs4 := hbe.size
 clear hX ho4 ho5 hq4 hq5 hE2 hE3 hE4 hZ hE
 rename Blk w4 w.heap.size _ _ => hX
 have hcX := fun j => hX.cell j
 have hlX := hX.lt
 have HR := Lib.hid (And.intro hR1 (And.intro hR2 (And.intro hR3 (And.intro hR4 (And.intro hR5 hR6)))))
 clear hR1 hR2 hR3 hR4 hR5 hR6 hr1 hr2 hr3 hr4 hr5 hr6
 go_wp2_with (refine wpList_store_blk rfl _ _ _ rfl (w.heap.size + 1) 35 _ _ rfl rfl hZ4 rfl (by kernel_rfl) (by simp [Value.oneCell']) ?_; intro w5 hQ hgQ)
 refine bodyPost_ret (results_blk1 rfl _ _ _ _ rfl hQ Tryz.underlying35 rfl (by kernel_rfl)) rfl ?_
 refine ⟨B1, B2, B3, B4, B5, B6, k1, k2, k3, k4, k5, k6, rfl, ⟨HR.out.1.far hgQ (by intro ad e; have := hF1 ad e; omega), hl1, HR.out.2.1.far hgQ (by intro ad e; have := hF2 ad e; omega), HR.out.2.2.1.far hgQ (by intro ad e; have := hF3 ad e; omega), hl3, HR.out.2.2.2.1.far hgQ (by intro ad e; have := hF4 ad e; omega), HR.out.2.2.2.2.1.far hgQ (by intro ad e; have := hF5 ad e; omega), HR.out.2.2.2.2.2.far hgQ (by intro ad e; have := hF6 ad e; omega), hl6⟩, ⟨hM1.1, hM2.1, hM3.1, hM4.1, hM5.1, hM6.1⟩, hM1.2, hbe.grown hgQ hbe.size (by intro i h; cases h; exact Nat.le_succ _)⟩
end Go.Proofs.YtdocgmafbacjcaaGreatDoor
