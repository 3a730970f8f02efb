/- Slices of facts that a region builds; the law's examples are as the chapter has them. -/
import Derived.Test.YthjblcboainknaaGreatDoorME1
import Derived.Test.YthjblcboainknaaGreatDoorMC7
import Derived.Test.YthjblcboainknaaGreatDoorMC5
import Derived.Test.YthjblcboainknaaGreatDoorMD1
import Derived.Test.YthjblcboainknaaGreatDoorMB2
import Derived.Test.YthjblcboainknaaGreatDoorMB4
import Derived.Test.YthjblcboainknaaGreatDoorMB5
import Derived.Test.YthjblcboainknaaGreatDoorMC2
namespace Go.Proofs.YthjblcboainknaaGreatDoor
open Go.RowKit Dl

theorem rdS_of_blk {w : World} {g k : Nat} {t : TypeId} {rows : List (List Value)} (h : Blk w g t rows.flatten.toArray) (hk : ∀ r ∈ rows, r.length = k) : RdS w (some ⟨g, 0, none⟩) k rows :=
 fun _ => ⟨⟨g, 0, none⟩, rfl, h.lt, fun i r hi => ⟨hk r (List.mem_of_getElem? hi), fun j v hj => by
  rw [add_lit, Nat.zero_add, h.cell]
  simpa using flat_get hk i r j v hi hj⟩⟩
theorem fact_rows (l : List Fact) : ∀ r ∈ l.map Fact.row, r.length = 4 := fun r hr => by
 obtain ⟨f, _, rfl⟩ := List.mem_map.1 hr
 rfl

section
variable {o : Oper} {a : Act} {w : World} {K : Act → World → Prop} {Q : Exit → Act → World → Prop}
theorem wp_build1f {x : Nat} {f : Fact} (ho : o.op = .buildSlice 27 1 #[(0, .tmp x)]) (hx : a.tmps.getD x undef = .agg #[.int .i64 f.k, .int .i64 f.m, .int .i64 f.d, .int .i64 f.v])
  (h : ∀ g w', RdS w' (some ⟨g, 0, none⟩) 4 ([f].map Fact.row) → Below w.heap.size w w' → w.heap.size ≤ g → K (a.put o.dst (.slice (some ⟨g, 0, none⟩) 1 1)) w') : o.wp Tryz.prog a w K Q := by
 have h1 := h w.heap.size (w.alloc (.cells #[.int .i64 f.k, .int .i64 f.m, .int .i64 f.d, .int .i64 f.v] 69)) (rdS_of_blk (Blk.new w 69 #[.int .i64 f.k, .int .i64 f.m, .int .i64 f.d, .int .i64 f.v]) (fact_rows [f])) (fr_alloc (fr_refl w) _) (Nat.le_refl _)
 obtain ⟨dst, op, ty, pos, after, guard⟩ := o
 simp only at ho
 subst ho
 have hx' : a.tmps[x]?.getD undef = .agg #[.int .i64 f.k, .int .i64 f.m, .int .i64 f.d, .int .i64 f.v] := by simpa using hx
 go_simp
 exact h1
theorem wp_build2f {x y : Nat} {f f' : Fact} (ho : o.op = .buildSlice 27 2 #[(0, .tmp x), (1, .tmp y)]) (hx : a.tmps.getD x undef = .agg #[.int .i64 f.k, .int .i64 f.m, .int .i64 f.d, .int .i64 f.v]) (hy : a.tmps.getD y undef = .agg #[.int .i64 f'.k, .int .i64 f'.m, .int .i64 f'.d, .int .i64 f'.v])
  (h : ∀ g w', RdS w' (some ⟨g, 0, none⟩) 4 ([f, f'].map Fact.row) → Below w.heap.size w w' → w.heap.size ≤ g → K (a.put o.dst (.slice (some ⟨g, 0, none⟩) 2 2)) w') : o.wp Tryz.prog a w K Q := by
 have h1 := h w.heap.size (w.alloc (.cells #[.int .i64 f.k, .int .i64 f.m, .int .i64 f.d, .int .i64 f.v, .int .i64 f'.k, .int .i64 f'.m, .int .i64 f'.d, .int .i64 f'.v] 69)) (rdS_of_blk (Blk.new w 69 #[.int .i64 f.k, .int .i64 f.m, .int .i64 f.d, .int .i64 f.v, .int .i64 f'.k, .int .i64 f'.m, .int .i64 f'.d, .int .i64 f'.v]) (fact_rows [f, f'])) (fr_alloc (fr_refl w) _) (Nat.le_refl _)
 obtain ⟨dst, op, ty, pos, after, guard⟩ := o
 simp only at ho
 subst ho
 have hx' : a.tmps[x]?.getD undef = .agg #[.int .i64 f.k, .int .i64 f.m, .int .i64 f.d, .int .i64 f.v] := by simpa using hx
 have hy' : a.tmps[y]?.getD undef = .agg #[.int .i64 f'.k, .int .i64 f'.m, .int .i64 f'.d, .int .i64 f'.v] := by simpa using hy
 go_simp
 exact h1
theorem wp_build2c {e1 e2 : Int} (ho : o.op = .buildSlice 22 2 #[(0, .const (.int .i64 e1)), (1, .const (.int .i64 e2))])
  (h : ∀ g w', Blk w' g 3 #[.int .i64 e1, .int .i64 e2] → Below w.heap.size w w' → w.heap.size ≤ g → K (a.put o.dst (.slice (some ⟨g, 0, none⟩) 2 2)) w') : o.wp Tryz.prog a w K Q := by
 have h1 := h w.heap.size (w.alloc (.cells #[.int .i64 e1, .int .i64 e2] 3)) (Blk.new w _ _) (fr_alloc (fr_refl w) _) (Nat.le_refl _)
 obtain ⟨dst, op, ty, pos, after, guard⟩ := o
 simp only at ho
 subst ho
 go_simp
 exact h1
end

theorem kn_Ask (gO gF gQ : Nat) (w : World) (hrO : Rd w (some ⟨gO, 0, none⟩) 1 [4]) (hRF : RdS w (some ⟨gF, 0, none⟩) 4 (([⟨5, 0, 0, 366⟩] : List Fact).map Fact.row)) (hRQ : RdS w (some ⟨gQ, 0, none⟩) 4 (([⟨5, 0, 0, 0⟩, ⟨1, 1, 1, 0⟩] : List Fact).map Fact.row)) :
  Calls Tryz.prog 33 #[.agg #[.int .i64 0, .slice (some ⟨gO, 0, none⟩) 1 1], .agg #[.int .i64 59, .int .i64 2, .int .i64 0], .slice (some ⟨gF, 0, none⟩) 1 1, .slice (some ⟨gQ, 0, none⟩) 2 2, .int .i64 0, .int .i64 20] w fun e' w' =>
   e' = .returned (.tuple #[.int .i64 1, .int .i64 1, .int .i64 0]) ∧ Below w.heap.size w w' := by
 have h := Ask_ok (some ⟨gO, 0, none⟩) (some ⟨gF, 0, none⟩) (some ⟨gQ, 0, none⟩) 1 1 1 2 [4] 0 59 2 0 0 20 [⟨5, 0, 0, 366⟩] [⟨5, 0, 0, 0⟩, ⟨1, 1, 1, 0⟩] w hrO (by decide) hRF (by decide) hRQ (by decide) kn_calO kn_moon kn_fact kn_asks kn_range20 kn_len
 rw [kn_ask] at h
 exact h
theorem kn_Years (gO gF : Nat) (w : World) (hrO : Rd w (some ⟨gO, 0, none⟩) 1 [4]) (hRF : RdS w (some ⟨gF, 0, none⟩) 4 (([⟨5, 0, 0, 366⟩, ⟨1, 1, 1, 4⟩] : List Fact).map Fact.row)) :
  Calls Tryz.prog 32 #[.agg #[.int .i64 0, .slice (some ⟨gO, 0, none⟩) 1 1], .agg #[.int .i64 59, .int .i64 2, .int .i64 0], .slice (some ⟨gF, 0, none⟩) 2 2, .int .i64 0, .int .i64 60] w fun e' w' =>
   ∃ B b, e' = .returned (.tuple #[.slice B 3 b, .int .i64 0]) ∧ Rd w' B 3 [0, 28, 56] ∧ Below w.heap.size w w' := by
 have h := Years_ok (some ⟨gO, 0, none⟩) (some ⟨gF, 0, none⟩) 1 1 2 [4] 0 59 2 0 0 60 [⟨5, 0, 0, 366⟩, ⟨1, 1, 1, 4⟩] w hrO (by decide) hRF (by decide) kn_calO kn_moon kn_facts kn_range60
 rw [kn_years] at h
 exact h
theorem kn_Print (gO gF : Nat) (w : World) (hrO : Rd w (some ⟨gO, 0, none⟩) 1 [4]) (hRF : RdS w (some ⟨gF, 0, none⟩) 4 (([⟨5, 0, 0, 366⟩] : List Fact).map Fact.row)) (hT : TabP w) :
  Calls Tryz.prog 9 #[.agg #[.int .i64 0, .slice (some ⟨gO, 0, none⟩) 1 1], .agg #[.int .i64 59, .int .i64 2, .int .i64 0], .slice (some ⟨gF, 0, none⟩) 1 1] w fun e' w' =>
   e' = .returned (.tuple #[.string ⟨knAlm.toArray⟩, .int .i64 0]) ∧ Below w.heap.size w w' := by
 have h := Print_ok (some ⟨gO, 0, none⟩) (some ⟨gF, 0, none⟩) 1 1 1 [4] 0 59 2 0 [⟨5, 0, 0, 366⟩] w hrO (by decide) hRF (by decide) kn_calO kn_moon kn_fact hT
 rw [kn_print] at h
 exact h

set_option maxRecDepth 100000 in
set_option maxHeartbeats 16000000 in
theorem known_is (w : World) (hT : TabP w) : Calls Tryz.prog 8 #[] w fun e w' => e = .returned (.bool true) ∧ Below w.heap.size w w' := by
 go_enter Tryz.func8, Tryz.ntmps8
 go_wp2_with fail
 refine (lN_is _).mono ?_
 rintro e w1 ⟨g1, rfl, hg1, hr1, hb1⟩
 have hfr := hb1
 go_wp2_with fail
 refine (ldate_is _ _ _ _).mono ?_
 rintro e w2 ⟨rfl, hb2⟩
 replace hfr := fr_call hfr hb2
 go_wp2_with fail
 refine (Day_yes (some ⟨g1, 0, none⟩) 3 3 [4, 100, 400] 2 2000 1 1 _ (hr1.keep hb2) (by decide) kn_calN kn_real).mono ?_
 rw [kn_day]
 rintro e w3 ⟨rfl, hb3⟩
 replace hfr := fr_call hfr hb3
 clear hr1 hb1 hb2 hb3 hg1
 go_wp2_with fail
 refine (lR_is _).mono ?_
 rintro e w4 ⟨g2, g3, rfl, hr2, hr3, hb4⟩
 replace hfr := fr_call hfr hb4
 go_wp2_with fail
 refine (On_ok (some ⟨g2, 0, none⟩) (some ⟨g3, 0, none⟩) 1 1 3 3 [4] [4, 100, 400] 0 2 578102 578103 _ hr2 hr3 (by decide) (by decide) kn_realmR (by decide)).mono ?_
 rw [kn_on]
 simp only [dateV]
 rintro e w5 ⟨rfl, hb5⟩
 replace hfr := fr_call hfr hb5
 clear hr2 hr3 hb4 hb5
 go_wp2_with fail
 have ga := fr_alloc (fr_refl w5) (.cells #[.int .i64 1582, .int .i64 10, .int .i64 15] 50)
 have hB := Blk.new w5 50 #[.int .i64 1582, .int .i64 10, .int .i64 15]
 replace hfr := fr_call hfr ga
 refine (lN_is _).mono ?_
 rintro e w6 ⟨g4, rfl, hg4, hr4, hb6⟩
 replace hfr := fr_call hfr hb6
 replace hB := hB.keep hb6
 go_wp2_with fail
 refine (Letters_ok (some ⟨g4, 0, none⟩) 3 3 [4, 100, 400] 2 2000 _ hr4 (by decide) kn_calN (by decide)).mono ?_
 rw [kn_let1, kn_let2]
 rintro e w7 ⟨rfl, hb7⟩
 replace hfr := fr_call hfr hb7
 replace hB := hB.keep hb7
 clear hr4 hb6 hb7 hg4 ga
 go_wp2_with fail
 refine (lN_is _).mono ?_
 rintro e w8 ⟨g5, rfl, hg5, hr5, hb8⟩
 replace hfr := fr_call hfr hb8
 replace hB := hB.keep hb8
 go_wp2_with fail
 refine (Like_ok (some ⟨g5, 0, none⟩) 3 3 [4, 100, 400] 2 1999 _ hr5 (by decide) kn_calN (by decide)).mono ?_
 rw [kn_like]
 simp only [likeV]
 rintro e w9 ⟨rfl, hb9⟩
 replace hfr := fr_call hfr hb9
 replace hB := hB.keep hb9
 clear hr5 hb8 hb9 hg5
 go_wp2_with fail
 refine (lS_is _).mono ?_
 rintro e w10 ⟨g6, g7, rfl, hr6, hr7, hb10⟩
 replace hfr := fr_call hfr hb10
 replace hB := hB.keep hb10
 go_wp2_with fail
 refine (ldate_is _ _ _ _).mono ?_
 rintro e w11 ⟨rfl, hb11⟩
 replace hfr := fr_call hfr hb11
 replace hB := hB.keep hb11
 go_wp2_with fail
 refine (Days_ok (some ⟨g6, 0, none⟩) (some ⟨g7, 0, none⟩) 3 3 1 1 [4, 100, 400] [4] 2 0 578103 1582 10 10 _ (hr6.keep hb11) (hr7.keep hb11) (by decide) (by decide) kn_realmS kn_wr).mono ?_
 rw [kn_days]
 rintro e w12 ⟨AL, cL, rfl, hrL, hb12⟩
 replace hfr := fr_call hfr hb12
 replace hB := hB.keep hb12
 clear hr6 hr7 hb10 hb11 hb12
 go_wp2_with fail
 refine (lO_is _).mono ?_
 rintro e w13 ⟨g8, rfl, hg8, hr8, hb13⟩
 replace hfr := fr_call hfr hb13
 replace hB := hB.keep hb13
 replace hrL := hrL.keep hb13
 go_wp2_with fail
 refine (lM_is _).mono ?_
 rintro e w14 ⟨rfl, hb14⟩
 replace hfr := fr_call hfr hb14
 replace hB := hB.keep hb14
 replace hrL := hrL.keep hb14
 go_wp2_with fail
 refine (Easter_ok (some ⟨g8, 0, none⟩) 1 1 [4] 0 59 2 0 0 ⟨0, 4, 18⟩ _ (hr8.keep hb14) (by decide) kn_calO kn_moon (by decide) kn_easter).mono ?_
 simp only
 rintro e w15 ⟨rfl, hb15⟩
 replace hfr := fr_call hfr hb15
 replace hB := hB.keep hb15
 replace hrL := hrL.keep hb15
 clear hr8 hg8 hb13 hb14 hb15
 go_wp2_with fail
 have ga := fr_alloc (fr_refl w15) (.cells #[.int .i64 0, .int .i64 4, .int .i64 18] 50)
 have hB' := Blk.new w15 50 #[.int .i64 0, .int .i64 4, .int .i64 18]
 replace hfr := fr_call hfr ga
 replace hB := hB.keep ga
 replace hrL := hrL.keep ga
 clear ga
 refine (lT_is _).mono ?_
 rintro e w16 ⟨g9, g10, rfl, hr9, hr10, hb16⟩
 replace hfr := fr_call hfr hb16
 replace hB := hB.keep hb16
 replace hB' := hB'.keep hb16
 replace hrL := hrL.keep hb16
 go_wp2_with fail
 refine (Keep_some (some ⟨g9, 0, none⟩) (some ⟨g10, 0, none⟩) 1 1 1 1 [4] [4] 0 0 0 1 366 455 0 (.plain 0) _ hr9 hr10 (by decide) (by decide) kn_realmT kn_dial (by decide) kn_span kn_ons).mono ?_
 rw [kn_out, kn_wrong]
 rintro e w17 ⟨AS, cS, rfl, hrS, hb17⟩
 replace hfr := fr_call hfr hb17
 replace hB := hB.keep hb17
 replace hB' := hB'.keep hb17
 replace hrL := hrL.keep hb17
 clear hr9 hr10 hb16 hb17
 go_upto_region 9 with (fail)
 have ga := fr_alloc (fr_refl w17) (.cells #[.int .i64 5, .int .i64 0, .int .i64 0, .int .i64 366] 69)
 have hF := Blk.new w17 69 #[.int .i64 5, .int .i64 0, .int .i64 0, .int .i64 366]
 replace hfr := fr_call hfr ga
 replace hB := hB.keep ga
 replace hB' := hB'.keep ga
 replace hrL := hrL.keep ga
 replace hrS := hrS.keep ga
 clear ga
 generalize w17.alloc (.cells #[.int .i64 5, .int .i64 0, .int .i64 0, .int .i64 366] 69) = W0 at *
 generalize w17.heap.size = gL at *
 generalize w5.heap.size = gB at *
 generalize w15.heap.size = gC at *
 have hT0 := hT.keep hfr
 go_cut [18, 19] from 66 (fun s18 s19 wc => ∃ A c, s18 = .slice A 3 c ∧ s19 = .int .i64 0 ∧ Rd wc A 3 [0, 28, 56] ∧ Below W0.heap.size W0 wc)
 case first =>
  have hFc := fun j => hF.cell j
  have hFl := hF.lt
  refine wp_region_noPanic ?_
  refine wp_region_held_drew (S := fun W => (∀ p : Addr, p.block < (W0).heap.size → W.cell? p = (W0).cell? p) ∧ Below (W0).heap.size (W0) W) (by kernel_rfl) ⟨fun _ _ => rfl, fr_drew (fr_refl _)⟩ (fun hHeld => ?_)
  -- the region, step by step, in whatever order
  refine wpAnyH_take (i := 2) (oi := ⟨some 69, .load 69 (.tmp 17), 69, "law.go:40", #[], none⟩) (v := ?_) rfl (by kernel_rfl) (by kernel_rfl) (by kernel_rfl) (fun _ _ _ h => h) (Or.inl ⟨by rfl, fun W hSw => ?_⟩) hHeld ?_
  rotate_left
  ·(try dsimp only at hSw); go_simp; (try with_reducible rfl)
  (try simp only [Act.put, List.setIfInBounds_toArray, List.set_cons_zero, List.set_cons_succ])
  refine wpAnyH_take (i := 3) (oi := ⟨some 70, .build 69 #[(0, .const (.int .i64 1)), (1, .const (.int .i64 1)), (2, .const (.int .i64 1)), (3, .const (.int .i64 4))], 69, "law.go:40", #[], none⟩) (v := ?_) rfl (by kernel_rfl) (by kernel_rfl) (by kernel_rfl) (fun _ _ _ h => h) (Or.inl ⟨by rfl, fun W hSw => ?_⟩) hHeld ?_
  rotate_left
  ·(try dsimp only at hSw); go_simp; (try with_reducible rfl)
  (try simp only [Act.put, List.setIfInBounds_toArray, List.set_cons_zero, List.set_cons_succ])
  refine wpAnyH_ready (rs := [0, 4]) (by kernel_rfl) (by simp) ?_
  refine (AllReadyH.cons (o := ⟨some 67, .call { callee := .value (.func 28), args := #[], argTypes := #[] }, 24, "law.go:40", #[], none⟩) rfl (fun K hK => ?_) (AllReadyH.cons (o := ⟨some 71, .buildSlice 27 2 #[(0, .tmp 69), (1, .tmp 70)], 27, "law.go:40", #[⟨2, .data⟩, ⟨3, .data⟩], none⟩) rfl (fun K hK => ?_) AllReadyH.nil))
  ·rw [if_pos (by rfl)]
   go_simp
   refine (lO_is _).mono ?_
   rintro e WO ⟨gO, rfl, hgO, hrO, hbO⟩
   (try replace hRF := hRF.keep hbO)
   (try replace hRQ := hRQ.keep hbO)
   refine hK.out _ _ (kp_step hbO hHeld) (fun hHeld => ?_)
   clear hK K
   (try simp only [Act.put, List.setIfInBounds_toArray, List.set_cons_zero, List.set_cons_succ])
   refine wpAnyH_ready (rs := [1, 4]) (by kernel_rfl) (by simp) ?_
   refine (AllReadyH.cons (o := ⟨some 68, .call { callee := .value (.func 29), args := #[], argTypes := #[] }, 26, "law.go:40", #[⟨0, .chain⟩], none⟩) rfl (fun K hK => ?_) (AllReadyH.cons (o := ⟨some 71, .buildSlice 27 2 #[(0, .tmp 69), (1, .tmp 70)], 27, "law.go:40", #[⟨2, .data⟩, ⟨3, .data⟩], none⟩) rfl (fun K hK => ?_) AllReadyH.nil))
   ·rw [if_pos (by rfl)]
    go_simp
    refine (lM_is _).mono ?_
    rintro e WM ⟨rfl, hbM⟩
    (try replace hrO := hrO.keep hbM)
    (try replace hRF := hRF.keep hbM)
    (try replace hRQ := hRQ.keep hbM)
    refine hK.out _ _ (kp_step hbM hHeld) (fun hHeld => ?_)
    clear hK K
    (try simp only [Act.put, List.setIfInBounds_toArray, List.set_cons_zero, List.set_cons_succ])
    refine wpAnyH_ready (rs := [4]) (by kernel_rfl) (by simp) ?_
    refine (AllReadyH.cons (o := ⟨some 71, .buildSlice 27 2 #[(0, .tmp 69), (1, .tmp 70)], 27, "law.go:40", #[⟨2, .data⟩, ⟨3, .data⟩], none⟩) rfl (fun K hK => ?_) AllReadyH.nil)
    rw [if_pos (by rfl)]
    refine wp_build2f (f := ⟨5, 0, 0, 366⟩) (f' := ⟨1, 1, 1, 4⟩) rfl rfl rfl ?_
    intro gF WF hRF hbF hgF
    (try replace hrO := hrO.keep hbF)
    (try replace hRQ := hRQ.keep hbF)
    refine hK.out _ _ (kp_step hbF hHeld) (fun hHeld => ?_)
    clear hK K
    (try simp only [Act.put, List.setIfInBounds_toArray, List.set_cons_zero, List.set_cons_succ])
    refine wpAnyH_ready (rs := [5]) (by kernel_rfl) (by simp) ?_
    refine (AllReadyH.cons (o := ⟨some 72, .call { callee := .value (.func 32), args := #[.tmp 67, .tmp 68, .tmp 71, .const (.int .i64 0), .const (.int .i64 60)], argTypes := #[24, 26, 27, 3, 3] }, 60, "law.go:40", #[⟨0, .data⟩, ⟨1, .data⟩, ⟨4, .data⟩, ⟨1, .chain⟩], none⟩) rfl (fun K hK => ?_) AllReadyH.nil)
    rw [if_pos (by rfl)]
    go_simp
    refine (kn_Years gO gF _ hrO hRF).mono ?_
    rintro e WY ⟨AY, cY, rfl, hrY, hbY⟩
    refine hK.out _ _ (kp_step hbY hHeld) (fun hHeld => ?_)
    clear hK K
    (try simp only [Act.put, List.setIfInBounds_toArray, List.set_cons_zero, List.set_cons_succ])
    refine wpAnyH_take (i := 6) (oi := ⟨some 66, .move (.tmp 72), 60, "law.go:40", #[⟨5, .data⟩], none⟩) (v := ?_) rfl (by kernel_rfl) (by kernel_rfl) (by kernel_rfl) (fun _ _ _ h => h) (Or.inl ⟨by rfl, fun W hSw => ?_⟩) hHeld ?_
    rotate_left
    ·(try dsimp only at hSw); go_simp; (try with_reducible rfl)
    (try simp only [Act.put, List.setIfInBounds_toArray, List.set_cons_zero, List.set_cons_succ])
    refine wpAnyH_take (i := 7) (oi := ⟨some 73, .extract (.tmp 66) 0, 22, "law.go:40", #[⟨6, .data⟩], none⟩) (v := ?_) rfl (by kernel_rfl) (by kernel_rfl) (by kernel_rfl) (fun _ _ _ h => h) (Or.inl ⟨by rfl, fun W hSw => ?_⟩) hHeld ?_
    rotate_left
    ·(try dsimp only at hSw); go_simp; (try with_reducible rfl)
    (try simp only [Act.put, List.setIfInBounds_toArray, List.set_cons_zero, List.set_cons_succ])
    refine wpAnyH_take (i := 8) (oi := ⟨some 74, .extract (.tmp 66) 1, 31, "law.go:40", #[⟨6, .data⟩, ⟨9, .gcOnly .lateStores⟩], none⟩) (v := ?_) rfl (by kernel_rfl) (by kernel_rfl) (by kernel_rfl) (fun _ _ _ h => h) (Or.inl ⟨by rfl, fun W hSw => ?_⟩) hHeld ?_
    rotate_left
    ·(try dsimp only at hSw); go_simp; (try with_reducible rfl)
    (try simp only [Act.put, List.setIfInBounds_toArray, List.set_cons_zero, List.set_cons_succ])
    refine wpAnyH_take (i := 9) (oi := ⟨some 18, .assign (.tmp 73), 22, "law.go:40", #[⟨7, .data⟩, ⟨5, .chain⟩, ⟨0, .phase⟩, ⟨1, .phase⟩, ⟨2, .phase⟩, ⟨3, .phase⟩, ⟨4, .phase⟩, ⟨5, .phase⟩, ⟨6, .phase⟩, ⟨7, .phase⟩, ⟨8, .textOnly .lateStores⟩], none⟩) (v := ?_) rfl (by kernel_rfl) (by kernel_rfl) (by kernel_rfl) (fun _ _ _ h => h) (Or.inl ⟨by rfl, fun W hSw => ?_⟩) hHeld ?_
    rotate_left
    ·(try dsimp only at hSw); go_simp; (try with_reducible rfl)
    (try simp only [Act.put, List.setIfInBounds_toArray, List.set_cons_zero, List.set_cons_succ])
    refine wpAnyH_take (i := 10) (oi := ⟨some 19, .assign (.tmp 74), 31, "law.go:40", #[⟨8, .data⟩, ⟨9, .chain⟩, ⟨0, .phase⟩, ⟨1, .phase⟩, ⟨2, .phase⟩, ⟨3, .phase⟩, ⟨4, .phase⟩, ⟨5, .phase⟩, ⟨6, .phase⟩, ⟨7, .phase⟩, ⟨8, .phase⟩, ⟨9, .phase⟩], none⟩) (v := ?_) rfl (by kernel_rfl) (by kernel_rfl) (by kernel_rfl) (fun _ _ _ h => h) (Or.inl ⟨by rfl, fun W hSw => ?_⟩) hHeld ?_
    rotate_left
    ·(try dsimp only at hSw); go_simp; (try with_reducible rfl)
    (try simp only [Act.put, List.setIfInBounds_toArray, List.set_cons_zero, List.set_cons_succ])
    refine wpAnyH_done (by kernel_rfl) ?_ _
    refine NoPanic.normal ?_
    go_wp2_with fail
    go_meet
    case rel => exact ⟨AY, cY, rfl, rfl, hrY, hHeld.2⟩
   ·rw [if_pos (by rfl)]
    refine wp_build2f (f := ⟨5, 0, 0, 366⟩) (f' := ⟨1, 1, 1, 4⟩) rfl rfl rfl ?_
    intro gF WF hRF hbF hgF
    (try replace hrO := hrO.keep hbF)
    (try replace hRQ := hRQ.keep hbF)
    refine hK.out _ _ (kp_step hbF hHeld) (fun hHeld => ?_)
    clear hK K
    (try simp only [Act.put, List.setIfInBounds_toArray, List.set_cons_zero, List.set_cons_succ])
    refine wpAnyH_ready (rs := [1]) (by kernel_rfl) (by simp) ?_
    refine (AllReadyH.cons (o := ⟨some 68, .call { callee := .value (.func 29), args := #[], argTypes := #[] }, 26, "law.go:40", #[⟨0, .chain⟩], none⟩) rfl (fun K hK => ?_) AllReadyH.nil)
    rw [if_pos (by rfl)]
    go_simp
    refine (lM_is _).mono ?_
    rintro e WM ⟨rfl, hbM⟩
    (try replace hrO := hrO.keep hbM)
    (try replace hRF := hRF.keep hbM)
    (try replace hRQ := hRQ.keep hbM)
    refine hK.out _ _ (kp_step hbM hHeld) (fun hHeld => ?_)
    clear hK K
    (try simp only [Act.put, List.setIfInBounds_toArray, List.set_cons_zero, List.set_cons_succ])
    refine wpAnyH_ready (rs := [5]) (by kernel_rfl) (by simp) ?_
    refine (AllReadyH.cons (o := ⟨some 72, .call { callee := .value (.func 32), args := #[.tmp 67, .tmp 68, .tmp 71, .const (.int .i64 0), .const (.int .i64 60)], argTypes := #[24, 26, 27, 3, 3] }, 60, "law.go:40", #[⟨0, .data⟩, ⟨1, .data⟩, ⟨4, .data⟩, ⟨1, .chain⟩], none⟩) rfl (fun K hK => ?_) AllReadyH.nil)
    rw [if_pos (by rfl)]
    go_simp
    refine (kn_Years gO gF _ hrO hRF).mono ?_
    rintro e WY ⟨AY, cY, rfl, hrY, hbY⟩
    refine hK.out _ _ (kp_step hbY hHeld) (fun hHeld => ?_)
    clear hK K
    (try simp only [Act.put, List.setIfInBounds_toArray, List.set_cons_zero, List.set_cons_succ])
    refine wpAnyH_take (i := 6) (oi := ⟨some 66, .move (.tmp 72), 60, "law.go:40", #[⟨5, .data⟩], none⟩) (v := ?_) rfl (by kernel_rfl) (by kernel_rfl) (by kernel_rfl) (fun _ _ _ h => h) (Or.inl ⟨by rfl, fun W hSw => ?_⟩) hHeld ?_
    rotate_left
    ·(try dsimp only at hSw); go_simp; (try with_reducible rfl)
    (try simp only [Act.put, List.setIfInBounds_toArray, List.set_cons_zero, List.set_cons_succ])
    refine wpAnyH_take (i := 7) (oi := ⟨some 73, .extract (.tmp 66) 0, 22, "law.go:40", #[⟨6, .data⟩], none⟩) (v := ?_) rfl (by kernel_rfl) (by kernel_rfl) (by kernel_rfl) (fun _ _ _ h => h) (Or.inl ⟨by rfl, fun W hSw => ?_⟩) hHeld ?_
    rotate_left
    ·(try dsimp only at hSw); go_simp; (try with_reducible rfl)
    (try simp only [Act.put, List.setIfInBounds_toArray, List.set_cons_zero, List.set_cons_succ])
    refine wpAnyH_take (i := 8) (oi := ⟨some 74, .extract (.tmp 66) 1, 31, "law.go:40", #[⟨6, .data⟩, ⟨9, .gcOnly .lateStores⟩], none⟩) (v := ?_) rfl (by kernel_rfl) (by kernel_rfl) (by kernel_rfl) (fun _ _ _ h => h) (Or.inl ⟨by rfl, fun W hSw => ?_⟩) hHeld ?_
    rotate_left
    ·(try dsimp only at hSw); go_simp; (try with_reducible rfl)
    (try simp only [Act.put, List.setIfInBounds_toArray, List.set_cons_zero, List.set_cons_succ])
    refine wpAnyH_take (i := 9) (oi := ⟨some 18, .assign (.tmp 73), 22, "law.go:40", #[⟨7, .data⟩, ⟨5, .chain⟩, ⟨0, .phase⟩, ⟨1, .phase⟩, ⟨2, .phase⟩, ⟨3, .phase⟩, ⟨4, .phase⟩, ⟨5, .phase⟩, ⟨6, .phase⟩, ⟨7, .phase⟩, ⟨8, .textOnly .lateStores⟩], none⟩) (v := ?_) rfl (by kernel_rfl) (by kernel_rfl) (by kernel_rfl) (fun _ _ _ h => h) (Or.inl ⟨by rfl, fun W hSw => ?_⟩) hHeld ?_
    rotate_left
    ·(try dsimp only at hSw); go_simp; (try with_reducible rfl)
    (try simp only [Act.put, List.setIfInBounds_toArray, List.set_cons_zero, List.set_cons_succ])
    refine wpAnyH_take (i := 10) (oi := ⟨some 19, .assign (.tmp 74), 31, "law.go:40", #[⟨8, .data⟩, ⟨9, .chain⟩, ⟨0, .phase⟩, ⟨1, .phase⟩, ⟨2, .phase⟩, ⟨3, .phase⟩, ⟨4, .phase⟩, ⟨5, .phase⟩, ⟨6, .phase⟩, ⟨7, .phase⟩, ⟨8, .phase⟩, ⟨9, .phase⟩], none⟩) (v := ?_) rfl (by kernel_rfl) (by kernel_rfl) (by kernel_rfl) (fun _ _ _ h => h) (Or.inl ⟨by rfl, fun W hSw => ?_⟩) hHeld ?_
    rotate_left
    ·(try dsimp only at hSw); go_simp; (try with_reducible rfl)
    (try simp only [Act.put, List.setIfInBounds_toArray, List.set_cons_zero, List.set_cons_succ])
    refine wpAnyH_done (by kernel_rfl) ?_ _
    refine NoPanic.normal ?_
    go_wp2_with fail
    go_meet
    case rel => exact ⟨AY, cY, rfl, rfl, hrY, hHeld.2⟩
  ·rw [if_pos (by rfl)]
   refine wp_build2f (f := ⟨5, 0, 0, 366⟩) (f' := ⟨1, 1, 1, 4⟩) rfl rfl rfl ?_
   intro gF WF hRF hbF hgF
   (try replace hrO := hrO.keep hbF)
   (try replace hRQ := hRQ.keep hbF)
   refine hK.out _ _ (kp_step hbF hHeld) (fun hHeld => ?_)
   clear hK K
   (try simp only [Act.put, List.setIfInBounds_toArray, List.set_cons_zero, List.set_cons_succ])
   refine wpAnyH_ready (rs := [0]) (by kernel_rfl) (by simp) ?_
   refine (AllReadyH.cons (o := ⟨some 67, .call { callee := .value (.func 28), args := #[], argTypes := #[] }, 24, "law.go:40", #[], none⟩) rfl (fun K hK => ?_) AllReadyH.nil)
   rw [if_pos (by rfl)]
   go_simp
   refine (lO_is _).mono ?_
   rintro e WO ⟨gO, rfl, hgO, hrO, hbO⟩
   (try replace hRF := hRF.keep hbO)
   (try replace hRQ := hRQ.keep hbO)
   refine hK.out _ _ (kp_step hbO hHeld) (fun hHeld => ?_)
   clear hK K
   (try simp only [Act.put, List.setIfInBounds_toArray, List.set_cons_zero, List.set_cons_succ])
   refine wpAnyH_ready (rs := [1]) (by kernel_rfl) (by simp) ?_
   refine (AllReadyH.cons (o := ⟨some 68, .call { callee := .value (.func 29), args := #[], argTypes := #[] }, 26, "law.go:40", #[⟨0, .chain⟩], none⟩) rfl (fun K hK => ?_) AllReadyH.nil)
   rw [if_pos (by rfl)]
   go_simp
   refine (lM_is _).mono ?_
   rintro e WM ⟨rfl, hbM⟩
   (try replace hrO := hrO.keep hbM)
   (try replace hRF := hRF.keep hbM)
   (try replace hRQ := hRQ.keep hbM)
   refine hK.out _ _ (kp_step hbM hHeld) (fun hHeld => ?_)
   clear hK K
   (try simp only [Act.put, List.setIfInBounds_toArray, List.set_cons_zero, List.set_cons_succ])
   refine wpAnyH_ready (rs := [5]) (by kernel_rfl) (by simp) ?_
   refine (AllReadyH.cons (o := ⟨some 72, .call { callee := .value (.func 32), args := #[.tmp 67, .tmp 68, .tmp 71, .const (.int .i64 0), .const (.int .i64 60)], argTypes := #[24, 26, 27, 3, 3] }, 60, "law.go:40", #[⟨0, .data⟩, ⟨1, .data⟩, ⟨4, .data⟩, ⟨1, .chain⟩], none⟩) rfl (fun K hK => ?_) AllReadyH.nil)
   rw [if_pos (by rfl)]
   go_simp
   refine (kn_Years gO gF _ hrO hRF).mono ?_
   rintro e WY ⟨AY, cY, rfl, hrY, hbY⟩
   refine hK.out _ _ (kp_step hbY hHeld) (fun hHeld => ?_)
   clear hK K
   (try simp only [Act.put, List.setIfInBounds_toArray, List.set_cons_zero, List.set_cons_succ])
   refine wpAnyH_take (i := 6) (oi := ⟨some 66, .move (.tmp 72), 60, "law.go:40", #[⟨5, .data⟩], none⟩) (v := ?_) rfl (by kernel_rfl) (by kernel_rfl) (by kernel_rfl) (fun _ _ _ h => h) (Or.inl ⟨by rfl, fun W hSw => ?_⟩) hHeld ?_
   rotate_left
   ·(try dsimp only at hSw); go_simp; (try with_reducible rfl)
   (try simp only [Act.put, List.setIfInBounds_toArray, List.set_cons_zero, List.set_cons_succ])
   refine wpAnyH_take (i := 7) (oi := ⟨some 73, .extract (.tmp 66) 0, 22, "law.go:40", #[⟨6, .data⟩], none⟩) (v := ?_) rfl (by kernel_rfl) (by kernel_rfl) (by kernel_rfl) (fun _ _ _ h => h) (Or.inl ⟨by rfl, fun W hSw => ?_⟩) hHeld ?_
   rotate_left
   ·(try dsimp only at hSw); go_simp; (try with_reducible rfl)
   (try simp only [Act.put, List.setIfInBounds_toArray, List.set_cons_zero, List.set_cons_succ])
   refine wpAnyH_take (i := 8) (oi := ⟨some 74, .extract (.tmp 66) 1, 31, "law.go:40", #[⟨6, .data⟩, ⟨9, .gcOnly .lateStores⟩], none⟩) (v := ?_) rfl (by kernel_rfl) (by kernel_rfl) (by kernel_rfl) (fun _ _ _ h => h) (Or.inl ⟨by rfl, fun W hSw => ?_⟩) hHeld ?_
   rotate_left
   ·(try dsimp only at hSw); go_simp; (try with_reducible rfl)
   (try simp only [Act.put, List.setIfInBounds_toArray, List.set_cons_zero, List.set_cons_succ])
   refine wpAnyH_take (i := 9) (oi := ⟨some 18, .assign (.tmp 73), 22, "law.go:40", #[⟨7, .data⟩, ⟨5, .chain⟩, ⟨0, .phase⟩, ⟨1, .phase⟩, ⟨2, .phase⟩, ⟨3, .phase⟩, ⟨4, .phase⟩, ⟨5, .phase⟩, ⟨6, .phase⟩, ⟨7, .phase⟩, ⟨8, .textOnly .lateStores⟩], none⟩) (v := ?_) rfl (by kernel_rfl) (by kernel_rfl) (by kernel_rfl) (fun _ _ _ h => h) (Or.inl ⟨by rfl, fun W hSw => ?_⟩) hHeld ?_
   rotate_left
   ·(try dsimp only at hSw); go_simp; (try with_reducible rfl)
   (try simp only [Act.put, List.setIfInBounds_toArray, List.set_cons_zero, List.set_cons_succ])
   refine wpAnyH_take (i := 10) (oi := ⟨some 19, .assign (.tmp 74), 31, "law.go:40", #[⟨8, .data⟩, ⟨9, .chain⟩, ⟨0, .phase⟩, ⟨1, .phase⟩, ⟨2, .phase⟩, ⟨3, .phase⟩, ⟨4, .phase⟩, ⟨5, .phase⟩, ⟨6, .phase⟩, ⟨7, .phase⟩, ⟨8, .phase⟩, ⟨9, .phase⟩], none⟩) (v := ?_) rfl (by kernel_rfl) (by kernel_rfl) (by kernel_rfl) (fun _ _ _ h => h) (Or.inl ⟨by rfl, fun W hSw => ?_⟩) hHeld ?_
   rotate_left
   ·(try dsimp only at hSw); go_simp; (try with_reducible rfl)
   (try simp only [Act.put, List.setIfInBounds_toArray, List.set_cons_zero, List.set_cons_succ])
   refine wpAnyH_done (by kernel_rfl) ?_ _
   refine NoPanic.normal ?_
   go_wp2_with fail
   go_meet
   case rel => exact ⟨AY, cY, rfl, rfl, hrY, hHeld.2⟩
 case rest =>
  obtain ⟨AY, cY, rfl, rfl, hrY, hbY⟩ := hcut
  replace hfr := fr_call hfr hbY
  replace hF := hF.keep hbY
  replace hB := hB.keep hbY
  replace hB' := hB'.keep hbY
  replace hrL := hrL.keep hbY
  replace hrS := hrS.keep hbY
  clear hT0 hbY
  go_upto_region 10 with (fail)
  have hT0 := hT.keep hfr
  go_cut [20, 21, 22] from 75 (fun s20 s21 s22 wd => s20 = .int .i64 1 ∧ s21 = .int .i64 1 ∧ s22 = .int .i64 0 ∧ Below wc.heap.size wc wd)
  case first =>
   have hFc := fun j => hF.cell j
   have hFl := hF.lt
   refine wp_region_noPanic ?_
   refine wp_region_held_drew (S := fun W => (∀ p : Addr, p.block < (wc).heap.size → W.cell? p = (wc).cell? p) ∧ Below (wc).heap.size (wc) W) (by kernel_rfl) ⟨fun _ _ => rfl, fr_drew (fr_refl _)⟩ (fun hHeld => ?_)
   -- the region, step by step, in whatever order
   refine (fun (key : ∀ (gO gF gQ : Nat) (W : World), Rd W (some ⟨gO, 0, none⟩) 1 [4] → RdS W (some ⟨gF, 0, none⟩) 4 (([⟨5, 0, 0, 366⟩] : List Fact).map Fact.row) → RdS W (some ⟨gQ, 0, none⟩) 4 (([⟨5, 0, 0, 0⟩, ⟨1, 1, 1, 0⟩] : List Fact).map Fact.row) → ((∀ p : Addr, p.block < wc.heap.size → W.cell? p = wc.cell? p) ∧ Below wc.heap.size wc W) → (?KeyJ : Nat → Nat → Nat → World → Prop) gO gF gQ W) => ?_) ?keyk
   rotate_left
   refine wpAnyH_take (i := 2) (oi := ⟨some 78, .load 69 (.tmp 17), 69, "law.go:41", #[], none⟩) (v := ?_) rfl (by kernel_rfl) (by kernel_rfl) (by kernel_rfl) (fun _ _ _ h => h) (Or.inl ⟨by rfl, fun W hSw => ?_⟩) hHeld ?_
   rotate_left
   ·(try dsimp only at hSw); go_simp; (try with_reducible rfl)
   (try simp only [Act.put, List.setIfInBounds_toArray, List.set_cons_zero, List.set_cons_succ])
   refine wpAnyH_take (i := 4) (oi := ⟨some 80, .build 69 #[(0, .const (.int .i64 5))], 69, "law.go:41", #[], none⟩) (v := ?_) rfl (by kernel_rfl) (by kernel_rfl) (by kernel_rfl) (fun _ _ _ h => h) (Or.inl ⟨by rfl, fun W hSw => ?_⟩) hHeld ?_
   rotate_left
   ·(try dsimp only at hSw); go_simp; (try with_reducible rfl)
   (try simp only [Act.put, List.setIfInBounds_toArray, List.set_cons_zero, List.set_cons_succ])
   refine wpAnyH_take (i := 5) (oi := ⟨some 81, .build 69 #[(0, .const (.int .i64 1)), (1, .const (.int .i64 1)), (2, .const (.int .i64 1))], 69, "law.go:41", #[], none⟩) (v := ?_) rfl (by kernel_rfl) (by kernel_rfl) (by kernel_rfl) (fun _ _ _ h => h) (Or.inl ⟨by rfl, fun W hSw => ?_⟩) hHeld ?_
   rotate_left
   ·(try dsimp only at hSw); go_simp; (try with_reducible rfl)
   (try simp only [Act.put, List.setIfInBounds_toArray, List.set_cons_zero, List.set_cons_succ])
   refine wpAnyH_ready (rs := [0, 3, 6]) (by kernel_rfl) (by simp) ?_
   refine (AllReadyH.cons (o := ⟨some 76, .call { callee := .value (.func 28), args := #[], argTypes := #[] }, 24, "law.go:41", #[], none⟩) rfl (fun K hK => ?_) (AllReadyH.cons (o := ⟨some 79, .buildSlice 27 1 #[(0, .tmp 78)], 27, "law.go:41", #[⟨2, .data⟩], none⟩) rfl (fun K hK => ?_) (AllReadyH.cons (o := ⟨some 82, .buildSlice 27 2 #[(0, .tmp 80), (1, .tmp 81)], 27, "law.go:41", #[⟨4, .data⟩, ⟨5, .data⟩], none⟩) rfl (fun K hK => ?_) AllReadyH.nil)))
   ·rw [if_pos (by rfl)]
    go_simp
    refine (lO_is _).mono ?_
    rintro e WO ⟨gO, rfl, hgO, hrO, hbO⟩
    (try replace hRF := hRF.keep hbO)
    (try replace hRQ := hRQ.keep hbO)
    refine hK.out _ _ (kp_step hbO hHeld) (fun hHeld => ?_)
    clear hK K
    (try simp only [Act.put, List.setIfInBounds_toArray, List.set_cons_zero, List.set_cons_succ])
    refine wpAnyH_ready (rs := [1, 3, 6]) (by kernel_rfl) (by simp) ?_
    refine (AllReadyH.cons (o := ⟨some 77, .call { callee := .value (.func 29), args := #[], argTypes := #[] }, 26, "law.go:41", #[⟨0, .chain⟩], none⟩) rfl (fun K hK => ?_) (AllReadyH.cons (o := ⟨some 79, .buildSlice 27 1 #[(0, .tmp 78)], 27, "law.go:41", #[⟨2, .data⟩], none⟩) rfl (fun K hK => ?_) (AllReadyH.cons (o := ⟨some 82, .buildSlice 27 2 #[(0, .tmp 80), (1, .tmp 81)], 27, "law.go:41", #[⟨4, .data⟩, ⟨5, .data⟩], none⟩) rfl (fun K hK => ?_) AllReadyH.nil)))
    ·rw [if_pos (by rfl)]
     go_simp
     refine (lM_is _).mono ?_
     rintro e WM ⟨rfl, hbM⟩
     (try replace hrO := hrO.keep hbM)
     (try replace hRF := hRF.keep hbM)
     (try replace hRQ := hRQ.keep hbM)
     refine hK.out _ _ (kp_step hbM hHeld) (fun hHeld => ?_)
     clear hK K
     (try simp only [Act.put, List.setIfInBounds_toArray, List.set_cons_zero, List.set_cons_succ])
     refine wpAnyH_ready (rs := [3, 6]) (by kernel_rfl) (by simp) ?_
     refine (AllReadyH.cons (o := ⟨some 79, .buildSlice 27 1 #[(0, .tmp 78)], 27, "law.go:41", #[⟨2, .data⟩], none⟩) rfl (fun K hK => ?_) (AllReadyH.cons (o := ⟨some 82, .buildSlice 27 2 #[(0, .tmp 80), (1, .tmp 81)], 27, "law.go:41", #[⟨4, .data⟩, ⟨5, .data⟩], none⟩) rfl (fun K hK => ?_) AllReadyH.nil))
     ·rw [if_pos (by rfl)]
      refine wp_build1f (f := ⟨5, 0, 0, 366⟩) rfl rfl ?_
      intro gF WF hRF hbF hgF
      (try replace hrO := hrO.keep hbF)
      (try replace hRQ := hRQ.keep hbF)
      refine hK.out _ _ (kp_step hbF hHeld) (fun hHeld => ?_)
      clear hK K
      (try simp only [Act.put, List.setIfInBounds_toArray, List.set_cons_zero, List.set_cons_succ])
      refine wpAnyH_ready (rs := [6]) (by kernel_rfl) (by simp) ?_
      refine (AllReadyH.cons (o := ⟨some 82, .buildSlice 27 2 #[(0, .tmp 80), (1, .tmp 81)], 27, "law.go:41", #[⟨4, .data⟩, ⟨5, .data⟩], none⟩) rfl (fun K hK => ?_) AllReadyH.nil)
      rw [if_pos (by rfl)]
      refine wp_build2f (f := ⟨5, 0, 0, 0⟩) (f' := ⟨1, 1, 1, 0⟩) rfl rfl rfl ?_
      intro gQ WQ hRQ hbQ hgQ
      (try replace hrO := hrO.keep hbQ)
      (try replace hRF := hRF.keep hbQ)
      refine hK.out _ _ (kp_step hbQ hHeld) (fun hHeld => ?_)
      clear hK K
      (try simp only [Act.put, List.setIfInBounds_toArray, List.set_cons_zero, List.set_cons_succ])
      exact key gO gF gQ _ hrO hRF hRQ hHeld
     ·rw [if_pos (by rfl)]
      refine wp_build2f (f := ⟨5, 0, 0, 0⟩) (f' := ⟨1, 1, 1, 0⟩) rfl rfl rfl ?_
      intro gQ WQ hRQ hbQ hgQ
      (try replace hrO := hrO.keep hbQ)
      (try replace hRF := hRF.keep hbQ)
      refine hK.out _ _ (kp_step hbQ hHeld) (fun hHeld => ?_)
      clear hK K
      (try simp only [Act.put, List.setIfInBounds_toArray, List.set_cons_zero, List.set_cons_succ])
      refine wpAnyH_ready (rs := [3]) (by kernel_rfl) (by simp) ?_
      refine (AllReadyH.cons (o := ⟨some 79, .buildSlice 27 1 #[(0, .tmp 78)], 27, "law.go:41", #[⟨2, .data⟩], none⟩) rfl (fun K hK => ?_) AllReadyH.nil)
      rw [if_pos (by rfl)]
      refine wp_build1f (f := ⟨5, 0, 0, 366⟩) rfl rfl ?_
      intro gF WF hRF hbF hgF
      (try replace hrO := hrO.keep hbF)
      (try replace hRQ := hRQ.keep hbF)
      refine hK.out _ _ (kp_step hbF hHeld) (fun hHeld => ?_)
      clear hK K
      (try simp only [Act.put, List.setIfInBounds_toArray, List.set_cons_zero, List.set_cons_succ])
      exact key gO gF gQ _ hrO hRF hRQ hHeld
    ·rw [if_pos (by rfl)]
     refine wp_build1f (f := ⟨5, 0, 0, 366⟩) rfl rfl ?_
     intro gF WF hRF hbF hgF
     (try replace hrO := hrO.keep hbF)
     (try replace hRQ := hRQ.keep hbF)
     refine hK.out _ _ (kp_step hbF hHeld) (fun hHeld => ?_)
     clear hK K
     (try simp only [Act.put, List.setIfInBounds_toArray, List.set_cons_zero, List.set_cons_succ])
     refine wpAnyH_ready (rs := [1, 6]) (by kernel_rfl) (by simp) ?_
     refine (AllReadyH.cons (o := ⟨some 77, .call { callee := .value (.func 29), args := #[], argTypes := #[] }, 26, "law.go:41", #[⟨0, .chain⟩], none⟩) rfl (fun K hK => ?_) (AllReadyH.cons (o := ⟨some 82, .buildSlice 27 2 #[(0, .tmp 80), (1, .tmp 81)], 27, "law.go:41", #[⟨4, .data⟩, ⟨5, .data⟩], none⟩) rfl (fun K hK => ?_) AllReadyH.nil))
     ·rw [if_pos (by rfl)]
      go_simp
      refine (lM_is _).mono ?_
      rintro e WM ⟨rfl, hbM⟩
      (try replace hrO := hrO.keep hbM)
      (try replace hRF := hRF.keep hbM)
      (try replace hRQ := hRQ.keep hbM)
      refine hK.out _ _ (kp_step hbM hHeld) (fun hHeld => ?_)
      clear hK K
      (try simp only [Act.put, List.setIfInBounds_toArray, List.set_cons_zero, List.set_cons_succ])
      refine wpAnyH_ready (rs := [6]) (by kernel_rfl) (by simp) ?_
      refine (AllReadyH.cons (o := ⟨some 82, .buildSlice 27 2 #[(0, .tmp 80), (1, .tmp 81)], 27, "law.go:41", #[⟨4, .data⟩, ⟨5, .data⟩], none⟩) rfl (fun K hK => ?_) AllReadyH.nil)
      rw [if_pos (by rfl)]
      refine wp_build2f (f := ⟨5, 0, 0, 0⟩) (f' := ⟨1, 1, 1, 0⟩) rfl rfl rfl ?_
      intro gQ WQ hRQ hbQ hgQ
      (try replace hrO := hrO.keep hbQ)
      (try replace hRF := hRF.keep hbQ)
      refine hK.out _ _ (kp_step hbQ hHeld) (fun hHeld => ?_)
      clear hK K
      (try simp only [Act.put, List.setIfInBounds_toArray, List.set_cons_zero, List.set_cons_succ])
      exact key gO gF gQ _ hrO hRF hRQ hHeld
     ·rw [if_pos (by rfl)]
      refine wp_build2f (f := ⟨5, 0, 0, 0⟩) (f' := ⟨1, 1, 1, 0⟩) rfl rfl rfl ?_
      intro gQ WQ hRQ hbQ hgQ
      (try replace hrO := hrO.keep hbQ)
      (try replace hRF := hRF.keep hbQ)
      refine hK.out _ _ (kp_step hbQ hHeld) (fun hHeld => ?_)
      clear hK K
      (try simp only [Act.put, List.setIfInBounds_toArray, List.set_cons_zero, List.set_cons_succ])
      refine wpAnyH_ready (rs := [1]) (by kernel_rfl) (by simp) ?_
      refine (AllReadyH.cons (o := ⟨some 77, .call { callee := .value (.func 29), args := #[], argTypes := #[] }, 26, "law.go:41", #[⟨0, .chain⟩], none⟩) rfl (fun K hK => ?_) AllReadyH.nil)
      rw [if_pos (by rfl)]
      go_simp
      refine (lM_is _).mono ?_
      rintro e WM ⟨rfl, hbM⟩
      (try replace hrO := hrO.keep hbM)
      (try replace hRF := hRF.keep hbM)
      (try replace hRQ := hRQ.keep hbM)
      refine hK.out _ _ (kp_step hbM hHeld) (fun hHeld => ?_)
      clear hK K
      (try simp only [Act.put, List.setIfInBounds_toArray, List.set_cons_zero, List.set_cons_succ])
      exact key gO gF gQ _ hrO hRF hRQ hHeld
    ·rw [if_pos (by rfl)]
     refine wp_build2f (f := ⟨5, 0, 0, 0⟩) (f' := ⟨1, 1, 1, 0⟩) rfl rfl rfl ?_
     intro gQ WQ hRQ hbQ hgQ
     (try replace hrO := hrO.keep hbQ)
     (try replace hRF := hRF.keep hbQ)
     refine hK.out _ _ (kp_step hbQ hHeld) (fun hHeld => ?_)
     clear hK K
     (try simp only [Act.put, List.setIfInBounds_toArray, List.set_cons_zero, List.set_cons_succ])
     refine wpAnyH_ready (rs := [1, 3]) (by kernel_rfl) (by simp) ?_
     refine (AllReadyH.cons (o := ⟨some 77, .call { callee := .value (.func 29), args := #[], argTypes := #[] }, 26, "law.go:41", #[⟨0, .chain⟩], none⟩) rfl (fun K hK => ?_) (AllReadyH.cons (o := ⟨some 79, .buildSlice 27 1 #[(0, .tmp 78)], 27, "law.go:41", #[⟨2, .data⟩], none⟩) rfl (fun K hK => ?_) AllReadyH.nil))
     ·rw [if_pos (by rfl)]
      go_simp
      refine (lM_is _).mono ?_
      rintro e WM ⟨rfl, hbM⟩
      (try replace hrO := hrO.keep hbM)
      (try replace hRF := hRF.keep hbM)
      (try replace hRQ := hRQ.keep hbM)
      refine hK.out _ _ (kp_step hbM hHeld) (fun hHeld => ?_)
      clear hK K
      (try simp only [Act.put, List.setIfInBounds_toArray, List.set_cons_zero, List.set_cons_succ])
      refine wpAnyH_ready (rs := [3]) (by kernel_rfl) (by simp) ?_
      refine (AllReadyH.cons (o := ⟨some 79, .buildSlice 27 1 #[(0, .tmp 78)], 27, "law.go:41", #[⟨2, .data⟩], none⟩) rfl (fun K hK => ?_) AllReadyH.nil)
      rw [if_pos (by rfl)]
      refine wp_build1f (f := ⟨5, 0, 0, 366⟩) rfl rfl ?_
      intro gF WF hRF hbF hgF
      (try replace hrO := hrO.keep hbF)
      (try replace hRQ := hRQ.keep hbF)
      refine hK.out _ _ (kp_step hbF hHeld) (fun hHeld => ?_)
      clear hK K
      (try simp only [Act.put, List.setIfInBounds_toArray, List.set_cons_zero, List.set_cons_succ])
      exact key gO gF gQ _ hrO hRF hRQ hHeld
     ·rw [if_pos (by rfl)]
      refine wp_build1f (f := ⟨5, 0, 0, 366⟩) rfl rfl ?_
      intro gF WF hRF hbF hgF
      (try replace hrO := hrO.keep hbF)
      (try replace hRQ := hRQ.keep hbF)
      refine hK.out _ _ (kp_step hbF hHeld) (fun hHeld => ?_)
      clear hK K
      (try simp only [Act.put, List.setIfInBounds_toArray, List.set_cons_zero, List.set_cons_succ])
      refine wpAnyH_ready (rs := [1]) (by kernel_rfl) (by simp) ?_
      refine (AllReadyH.cons (o := ⟨some 77, .call { callee := .value (.func 29), args := #[], argTypes := #[] }, 26, "law.go:41", #[⟨0, .chain⟩], none⟩) rfl (fun K hK => ?_) AllReadyH.nil)
      rw [if_pos (by rfl)]
      go_simp
      refine (lM_is _).mono ?_
      rintro e WM ⟨rfl, hbM⟩
      (try replace hrO := hrO.keep hbM)
      (try replace hRF := hRF.keep hbM)
      (try replace hRQ := hRQ.keep hbM)
      refine hK.out _ _ (kp_step hbM hHeld) (fun hHeld => ?_)
      clear hK K
      (try simp only [Act.put, List.setIfInBounds_toArray, List.set_cons_zero, List.set_cons_succ])
      exact key gO gF gQ _ hrO hRF hRQ hHeld
   ·rw [if_pos (by rfl)]
    refine wp_build1f (f := ⟨5, 0, 0, 366⟩) rfl rfl ?_
    intro gF WF hRF hbF hgF
    (try replace hrO := hrO.keep hbF)
    (try replace hRQ := hRQ.keep hbF)
    refine hK.out _ _ (kp_step hbF hHeld) (fun hHeld => ?_)
    clear hK K
    (try simp only [Act.put, List.setIfInBounds_toArray, List.set_cons_zero, List.set_cons_succ])
    refine wpAnyH_ready (rs := [0, 6]) (by kernel_rfl) (by simp) ?_
    refine (AllReadyH.cons (o := ⟨some 76, .call { callee := .value (.func 28), args := #[], argTypes := #[] }, 24, "law.go:41", #[], none⟩) rfl (fun K hK => ?_) (AllReadyH.cons (o := ⟨some 82, .buildSlice 27 2 #[(0, .tmp 80), (1, .tmp 81)], 27, "law.go:41", #[⟨4, .data⟩, ⟨5, .data⟩], none⟩) rfl (fun K hK => ?_) AllReadyH.nil))
    ·rw [if_pos (by rfl)]
     go_simp
     refine (lO_is _).mono ?_
     rintro e WO ⟨gO, rfl, hgO, hrO, hbO⟩
     (try replace hRF := hRF.keep hbO)
     (try replace hRQ := hRQ.keep hbO)
     refine hK.out _ _ (kp_step hbO hHeld) (fun hHeld => ?_)
     clear hK K
     (try simp only [Act.put, List.setIfInBounds_toArray, List.set_cons_zero, List.set_cons_succ])
     refine wpAnyH_ready (rs := [1, 6]) (by kernel_rfl) (by simp) ?_
     refine (AllReadyH.cons (o := ⟨some 77, .call { callee := .value (.func 29), args := #[], argTypes := #[] }, 26, "law.go:41", #[⟨0, .chain⟩], none⟩) rfl (fun K hK => ?_) (AllReadyH.cons (o := ⟨some 82, .buildSlice 27 2 #[(0, .tmp 80), (1, .tmp 81)], 27, "law.go:41", #[⟨4, .data⟩, ⟨5, .data⟩], none⟩) rfl (fun K hK => ?_) AllReadyH.nil))
     ·rw [if_pos (by rfl)]
      go_simp
      refine (lM_is _).mono ?_
      rintro e WM ⟨rfl, hbM⟩
      (try replace hrO := hrO.keep hbM)
      (try replace hRF := hRF.keep hbM)
      (try replace hRQ := hRQ.keep hbM)
      refine hK.out _ _ (kp_step hbM hHeld) (fun hHeld => ?_)
      clear hK K
      (try simp only [Act.put, List.setIfInBounds_toArray, List.set_cons_zero, List.set_cons_succ])
      refine wpAnyH_ready (rs := [6]) (by kernel_rfl) (by simp) ?_
      refine (AllReadyH.cons (o := ⟨some 82, .buildSlice 27 2 #[(0, .tmp 80), (1, .tmp 81)], 27, "law.go:41", #[⟨4, .data⟩, ⟨5, .data⟩], none⟩) rfl (fun K hK => ?_) AllReadyH.nil)
      rw [if_pos (by rfl)]
      refine wp_build2f (f := ⟨5, 0, 0, 0⟩) (f' := ⟨1, 1, 1, 0⟩) rfl rfl rfl ?_
      intro gQ WQ hRQ hbQ hgQ
      (try replace hrO := hrO.keep hbQ)
      (try replace hRF := hRF.keep hbQ)
      refine hK.out _ _ (kp_step hbQ hHeld) (fun hHeld => ?_)
      clear hK K
      (try simp only [Act.put, List.setIfInBounds_toArray, List.set_cons_zero, List.set_cons_succ])
      exact key gO gF gQ _ hrO hRF hRQ hHeld
     ·rw [if_pos (by rfl)]
      refine wp_build2f (f := ⟨5, 0, 0, 0⟩) (f' := ⟨1, 1, 1, 0⟩) rfl rfl rfl ?_
      intro gQ WQ hRQ hbQ hgQ
      (try replace hrO := hrO.keep hbQ)
      (try replace hRF := hRF.keep hbQ)
      refine hK.out _ _ (kp_step hbQ hHeld) (fun hHeld => ?_)
      clear hK K
      (try simp only [Act.put, List.setIfInBounds_toArray, List.set_cons_zero, List.set_cons_succ])
      refine wpAnyH_ready (rs := [1]) (by kernel_rfl) (by simp) ?_
      refine (AllReadyH.cons (o := ⟨some 77, .call { callee := .value (.func 29), args := #[], argTypes := #[] }, 26, "law.go:41", #[⟨0, .chain⟩], none⟩) rfl (fun K hK => ?_) AllReadyH.nil)
      rw [if_pos (by rfl)]
      go_simp
      refine (lM_is _).mono ?_
      rintro e WM ⟨rfl, hbM⟩
      (try replace hrO := hrO.keep hbM)
      (try replace hRF := hRF.keep hbM)
      (try replace hRQ := hRQ.keep hbM)
      refine hK.out _ _ (kp_step hbM hHeld) (fun hHeld => ?_)
      clear hK K
      (try simp only [Act.put, List.setIfInBounds_toArray, List.set_cons_zero, List.set_cons_succ])
      exact key gO gF gQ _ hrO hRF hRQ hHeld
    ·rw [if_pos (by rfl)]
     refine wp_build2f (f := ⟨5, 0, 0, 0⟩) (f' := ⟨1, 1, 1, 0⟩) rfl rfl rfl ?_
     intro gQ WQ hRQ hbQ hgQ
     (try replace hrO := hrO.keep hbQ)
     (try replace hRF := hRF.keep hbQ)
     refine hK.out _ _ (kp_step hbQ hHeld) (fun hHeld => ?_)
     clear hK K
     (try simp only [Act.put, List.setIfInBounds_toArray, List.set_cons_zero, List.set_cons_succ])
     refine wpAnyH_ready (rs := [0]) (by kernel_rfl) (by simp) ?_
     refine (AllReadyH.cons (o := ⟨some 76, .call { callee := .value (.func 28), args := #[], argTypes := #[] }, 24, "law.go:41", #[], none⟩) rfl (fun K hK => ?_) AllReadyH.nil)
     rw [if_pos (by rfl)]
     go_simp
     refine (lO_is _).mono ?_
     rintro e WO ⟨gO, rfl, hgO, hrO, hbO⟩
     (try replace hRF := hRF.keep hbO)
     (try replace hRQ := hRQ.keep hbO)
     refine hK.out _ _ (kp_step hbO hHeld) (fun hHeld => ?_)
     clear hK K
     (try simp only [Act.put, List.setIfInBounds_toArray, List.set_cons_zero, List.set_cons_succ])
     refine wpAnyH_ready (rs := [1]) (by kernel_rfl) (by simp) ?_
     refine (AllReadyH.cons (o := ⟨some 77, .call { callee := .value (.func 29), args := #[], argTypes := #[] }, 26, "law.go:41", #[⟨0, .chain⟩], none⟩) rfl (fun K hK => ?_) AllReadyH.nil)
     rw [if_pos (by rfl)]
     go_simp
     refine (lM_is _).mono ?_
     rintro e WM ⟨rfl, hbM⟩
     (try replace hrO := hrO.keep hbM)
     (try replace hRF := hRF.keep hbM)
     (try replace hRQ := hRQ.keep hbM)
     refine hK.out _ _ (kp_step hbM hHeld) (fun hHeld => ?_)
     clear hK K
     (try simp only [Act.put, List.setIfInBounds_toArray, List.set_cons_zero, List.set_cons_succ])
     exact key gO gF gQ _ hrO hRF hRQ hHeld
   ·rw [if_pos (by rfl)]
    refine wp_build2f (f := ⟨5, 0, 0, 0⟩) (f' := ⟨1, 1, 1, 0⟩) rfl rfl rfl ?_
    intro gQ WQ hRQ hbQ hgQ
    (try replace hrO := hrO.keep hbQ)
    (try replace hRF := hRF.keep hbQ)
    refine hK.out _ _ (kp_step hbQ hHeld) (fun hHeld => ?_)
    clear hK K
    (try simp only [Act.put, List.setIfInBounds_toArray, List.set_cons_zero, List.set_cons_succ])
    refine wpAnyH_ready (rs := [0, 3]) (by kernel_rfl) (by simp) ?_
    refine (AllReadyH.cons (o := ⟨some 76, .call { callee := .value (.func 28), args := #[], argTypes := #[] }, 24, "law.go:41", #[], none⟩) rfl (fun K hK => ?_) (AllReadyH.cons (o := ⟨some 79, .buildSlice 27 1 #[(0, .tmp 78)], 27, "law.go:41", #[⟨2, .data⟩], none⟩) rfl (fun K hK => ?_) AllReadyH.nil))
    ·rw [if_pos (by rfl)]
     go_simp
     refine (lO_is _).mono ?_
     rintro e WO ⟨gO, rfl, hgO, hrO, hbO⟩
     (try replace hRF := hRF.keep hbO)
     (try replace hRQ := hRQ.keep hbO)
     refine hK.out _ _ (kp_step hbO hHeld) (fun hHeld => ?_)
     clear hK K
     (try simp only [Act.put, List.setIfInBounds_toArray, List.set_cons_zero, List.set_cons_succ])
     refine wpAnyH_ready (rs := [1, 3]) (by kernel_rfl) (by simp) ?_
     refine (AllReadyH.cons (o := ⟨some 77, .call { callee := .value (.func 29), args := #[], argTypes := #[] }, 26, "law.go:41", #[⟨0, .chain⟩], none⟩) rfl (fun K hK => ?_) (AllReadyH.cons (o := ⟨some 79, .buildSlice 27 1 #[(0, .tmp 78)], 27, "law.go:41", #[⟨2, .data⟩], none⟩) rfl (fun K hK => ?_) AllReadyH.nil))
     ·rw [if_pos (by rfl)]
      go_simp
      refine (lM_is _).mono ?_
      rintro e WM ⟨rfl, hbM⟩
      (try replace hrO := hrO.keep hbM)
      (try replace hRF := hRF.keep hbM)
      (try replace hRQ := hRQ.keep hbM)
      refine hK.out _ _ (kp_step hbM hHeld) (fun hHeld => ?_)
      clear hK K
      (try simp only [Act.put, List.setIfInBounds_toArray, List.set_cons_zero, List.set_cons_succ])
      refine wpAnyH_ready (rs := [3]) (by kernel_rfl) (by simp) ?_
      refine (AllReadyH.cons (o := ⟨some 79, .buildSlice 27 1 #[(0, .tmp 78)], 27, "law.go:41", #[⟨2, .data⟩], none⟩) rfl (fun K hK => ?_) AllReadyH.nil)
      rw [if_pos (by rfl)]
      refine wp_build1f (f := ⟨5, 0, 0, 366⟩) rfl rfl ?_
      intro gF WF hRF hbF hgF
      (try replace hrO := hrO.keep hbF)
      (try replace hRQ := hRQ.keep hbF)
      refine hK.out _ _ (kp_step hbF hHeld) (fun hHeld => ?_)
      clear hK K
      (try simp only [Act.put, List.setIfInBounds_toArray, List.set_cons_zero, List.set_cons_succ])
      exact key gO gF gQ _ hrO hRF hRQ hHeld
     ·rw [if_pos (by rfl)]
      refine wp_build1f (f := ⟨5, 0, 0, 366⟩) rfl rfl ?_
      intro gF WF hRF hbF hgF
      (try replace hrO := hrO.keep hbF)
      (try replace hRQ := hRQ.keep hbF)
      refine hK.out _ _ (kp_step hbF hHeld) (fun hHeld => ?_)
      clear hK K
      (try simp only [Act.put, List.setIfInBounds_toArray, List.set_cons_zero, List.set_cons_succ])
      refine wpAnyH_ready (rs := [1]) (by kernel_rfl) (by simp) ?_
      refine (AllReadyH.cons (o := ⟨some 77, .call { callee := .value (.func 29), args := #[], argTypes := #[] }, 26, "law.go:41", #[⟨0, .chain⟩], none⟩) rfl (fun K hK => ?_) AllReadyH.nil)
      rw [if_pos (by rfl)]
      go_simp
      refine (lM_is _).mono ?_
      rintro e WM ⟨rfl, hbM⟩
      (try replace hrO := hrO.keep hbM)
      (try replace hRF := hRF.keep hbM)
      (try replace hRQ := hRQ.keep hbM)
      refine hK.out _ _ (kp_step hbM hHeld) (fun hHeld => ?_)
      clear hK K
      (try simp only [Act.put, List.setIfInBounds_toArray, List.set_cons_zero, List.set_cons_succ])
      exact key gO gF gQ _ hrO hRF hRQ hHeld
    ·rw [if_pos (by rfl)]
     refine wp_build1f (f := ⟨5, 0, 0, 366⟩) rfl rfl ?_
     intro gF WF hRF hbF hgF
     (try replace hrO := hrO.keep hbF)
     (try replace hRQ := hRQ.keep hbF)
     refine hK.out _ _ (kp_step hbF hHeld) (fun hHeld => ?_)
     clear hK K
     (try simp only [Act.put, List.setIfInBounds_toArray, List.set_cons_zero, List.set_cons_succ])
     refine wpAnyH_ready (rs := [0]) (by kernel_rfl) (by simp) ?_
     refine (AllReadyH.cons (o := ⟨some 76, .call { callee := .value (.func 28), args := #[], argTypes := #[] }, 24, "law.go:41", #[], none⟩) rfl (fun K hK => ?_) AllReadyH.nil)
     rw [if_pos (by rfl)]
     go_simp
     refine (lO_is _).mono ?_
     rintro e WO ⟨gO, rfl, hgO, hrO, hbO⟩
     (try replace hRF := hRF.keep hbO)
     (try replace hRQ := hRQ.keep hbO)
     refine hK.out _ _ (kp_step hbO hHeld) (fun hHeld => ?_)
     clear hK K
     (try simp only [Act.put, List.setIfInBounds_toArray, List.set_cons_zero, List.set_cons_succ])
     refine wpAnyH_ready (rs := [1]) (by kernel_rfl) (by simp) ?_
     refine (AllReadyH.cons (o := ⟨some 77, .call { callee := .value (.func 29), args := #[], argTypes := #[] }, 26, "law.go:41", #[⟨0, .chain⟩], none⟩) rfl (fun K hK => ?_) AllReadyH.nil)
     rw [if_pos (by rfl)]
     go_simp
     refine (lM_is _).mono ?_
     rintro e WM ⟨rfl, hbM⟩
     (try replace hrO := hrO.keep hbM)
     (try replace hRF := hRF.keep hbM)
     (try replace hRQ := hRQ.keep hbM)
     refine hK.out _ _ (kp_step hbM hHeld) (fun hHeld => ?_)
     clear hK K
     (try simp only [Act.put, List.setIfInBounds_toArray, List.set_cons_zero, List.set_cons_succ])
     exact key gO gF gQ _ hrO hRF hRQ hHeld
   intro gO gF gQ WJ hrO hRF hRQ hHeld
   refine wpAnyH_ready (rs := [7]) (by kernel_rfl) (by simp) ?_
   refine (AllReadyH.cons (o := ⟨some 83, .call { callee := .value (.func 33), args := #[.tmp 76, .tmp 77, .tmp 79, .tmp 82, .const (.int .i64 0), .const (.int .i64 20)], argTypes := #[24, 26, 27, 27, 3, 3] }, 57, "law.go:41", #[⟨0, .data⟩, ⟨1, .data⟩, ⟨3, .data⟩, ⟨6, .data⟩, ⟨1, .chain⟩], none⟩) rfl (fun K hK => ?_) AllReadyH.nil)
   rw [if_pos (by rfl)]
   go_simp
   refine (kn_Ask gO gF gQ _ hrO hRF hRQ).mono ?_
   rintro e WY ⟨rfl, hbY⟩
   refine hK.out _ _ (kp_step hbY hHeld) (fun hHeld => ?_)
   clear hK K
   (try simp only [Act.put, List.setIfInBounds_toArray, List.set_cons_zero, List.set_cons_succ])
   refine wpAnyH_take (i := 8) (oi := ⟨some 75, .move (.tmp 83), 57, "law.go:41", #[⟨7, .data⟩], none⟩) (v := ?_) rfl (by kernel_rfl) (by kernel_rfl) (by kernel_rfl) (fun _ _ _ h => h) (Or.inl ⟨by rfl, fun W hSw => ?_⟩) hHeld ?_
   rotate_left
   ·(try dsimp only at hSw); go_simp; (try with_reducible rfl)
   (try simp only [Act.put, List.setIfInBounds_toArray, List.set_cons_zero, List.set_cons_succ])
   refine wpAnyH_take (i := 9) (oi := ⟨some 84, .extract (.tmp 75) 0, 3, "law.go:41", #[⟨8, .data⟩], none⟩) (v := ?_) rfl (by kernel_rfl) (by kernel_rfl) (by kernel_rfl) (fun _ _ _ h => h) (Or.inl ⟨by rfl, fun W hSw => ?_⟩) hHeld ?_
   rotate_left
   ·(try dsimp only at hSw); go_simp; (try with_reducible rfl)
   (try simp only [Act.put, List.setIfInBounds_toArray, List.set_cons_zero, List.set_cons_succ])
   refine wpAnyH_take (i := 10) (oi := ⟨some 85, .extract (.tmp 75) 1, 3, "law.go:41", #[⟨8, .data⟩, ⟨12, .gcOnly .lateStores⟩], none⟩) (v := ?_) rfl (by kernel_rfl) (by kernel_rfl) (by kernel_rfl) (fun _ _ _ h => h) (Or.inl ⟨by rfl, fun W hSw => ?_⟩) hHeld ?_
   rotate_left
   ·(try dsimp only at hSw); go_simp; (try with_reducible rfl)
   (try simp only [Act.put, List.setIfInBounds_toArray, List.set_cons_zero, List.set_cons_succ])
   refine wpAnyH_take (i := 11) (oi := ⟨some 86, .extract (.tmp 75) 2, 31, "law.go:41", #[⟨8, .data⟩, ⟨13, .gcOnly .lateStores⟩], none⟩) (v := ?_) rfl (by kernel_rfl) (by kernel_rfl) (by kernel_rfl) (fun _ _ _ h => h) (Or.inl ⟨by rfl, fun W hSw => ?_⟩) hHeld ?_
   rotate_left
   ·(try dsimp only at hSw); go_simp; (try with_reducible rfl)
   (try simp only [Act.put, List.setIfInBounds_toArray, List.set_cons_zero, List.set_cons_succ])
   refine wpAnyH_take (i := 12) (oi := ⟨some 20, .assign (.tmp 84), 3, "law.go:41", #[⟨9, .data⟩, ⟨7, .chain⟩, ⟨0, .phase⟩, ⟨1, .phase⟩, ⟨2, .phase⟩, ⟨3, .phase⟩, ⟨4, .phase⟩, ⟨5, .phase⟩, ⟨6, .phase⟩, ⟨7, .phase⟩, ⟨8, .phase⟩, ⟨9, .phase⟩, ⟨10, .textOnly .lateStores⟩, ⟨11, .textOnly .lateStores⟩], none⟩) (v := ?_) rfl (by kernel_rfl) (by kernel_rfl) (by kernel_rfl) (fun _ _ _ h => h) (Or.inl ⟨by rfl, fun W hSw => ?_⟩) hHeld ?_
   rotate_left
   ·(try dsimp only at hSw); go_simp; (try with_reducible rfl)
   (try simp only [Act.put, List.setIfInBounds_toArray, List.set_cons_zero, List.set_cons_succ])
   refine wpAnyH_take (i := 13) (oi := ⟨some 21, .assign (.tmp 85), 3, "law.go:41", #[⟨10, .data⟩, ⟨12, .chain⟩, ⟨0, .phase⟩, ⟨1, .phase⟩, ⟨2, .phase⟩, ⟨3, .phase⟩, ⟨4, .phase⟩, ⟨5, .phase⟩, ⟨6, .phase⟩, ⟨7, .phase⟩, ⟨8, .phase⟩, ⟨9, .phase⟩, ⟨10, .phase⟩, ⟨11, .textOnly .lateStores⟩, ⟨12, .phase⟩], none⟩) (v := ?_) rfl (by kernel_rfl) (by kernel_rfl) (by kernel_rfl) (fun _ _ _ h => h) (Or.inl ⟨by rfl, fun W hSw => ?_⟩) hHeld ?_
   rotate_left
   ·(try dsimp only at hSw); go_simp; (try with_reducible rfl)
   (try simp only [Act.put, List.setIfInBounds_toArray, List.set_cons_zero, List.set_cons_succ])
   refine wpAnyH_take (i := 14) (oi := ⟨some 22, .assign (.tmp 86), 31, "law.go:41", #[⟨11, .data⟩, ⟨13, .chain⟩, ⟨0, .phase⟩, ⟨1, .phase⟩, ⟨2, .phase⟩, ⟨3, .phase⟩, ⟨4, .phase⟩, ⟨5, .phase⟩, ⟨6, .phase⟩, ⟨7, .phase⟩, ⟨8, .phase⟩, ⟨9, .phase⟩, ⟨10, .phase⟩, ⟨11, .phase⟩, ⟨12, .phase⟩, ⟨13, .phase⟩], none⟩) (v := ?_) rfl (by kernel_rfl) (by kernel_rfl) (by kernel_rfl) (fun _ _ _ h => h) (Or.inl ⟨by rfl, fun W hSw => ?_⟩) hHeld ?_
   rotate_left
   ·(try dsimp only at hSw); go_simp; (try with_reducible rfl)
   (try simp only [Act.put, List.setIfInBounds_toArray, List.set_cons_zero, List.set_cons_succ])
   refine wpAnyH_done (by kernel_rfl) ?_ _
   refine NoPanic.normal ?_
   go_wp2_with fail
   go_meet
   case rel => exact ⟨rfl, rfl, rfl, hHeld.2⟩
  case rest =>
   obtain ⟨rfl, rfl, rfl, hbY⟩ := hcut
   replace hfr := fr_call hfr hbY
   replace hF := hF.keep hbY
   replace hB := hB.keep hbY
   replace hB' := hB'.keep hbY
   replace hrL := hrL.keep hbY
   replace hrS := hrS.keep hbY
   replace hrY := hrY.keep hbY
   clear hT0 hbY
   go_upto_region 11 with (fail)
   have hT0 := hT.keep hfr
   go_cut [23, 24] from 87 (fun s23 s24 we => s23 = .string ⟨knAlm.toArray⟩ ∧ s24 = .int .i64 0 ∧ Below wc.heap.size wc we)
   case first =>
    have hFc := fun j => hF.cell j
    have hFl := hF.lt
    refine wp_region_noPanic ?_
    refine wp_region_held_drew (S := fun W => (∀ p : Addr, p.block < (wc).heap.size → W.cell? p = (wc).cell? p) ∧ Below (wc).heap.size (wc) W) (by kernel_rfl) ⟨fun _ _ => rfl, fr_drew (fr_refl _)⟩ (fun hHeld => ?_)
    -- the region, step by step, in whatever order
    refine wpAnyH_take (i := 2) (oi := ⟨some 90, .load 69 (.tmp 17), 69, "law.go:42", #[], none⟩) (v := ?_) rfl (by kernel_rfl) (by kernel_rfl) (by kernel_rfl) (fun _ _ _ h => h) (Or.inl ⟨by rfl, fun W hSw => ?_⟩) hHeld ?_
    rotate_left
    ·(try dsimp only at hSw); go_simp; (try with_reducible rfl)
    (try simp only [Act.put, List.setIfInBounds_toArray, List.set_cons_zero, List.set_cons_succ])
    refine wpAnyH_ready (rs := [0, 3]) (by kernel_rfl) (by simp) ?_
    refine (AllReadyH.cons (o := ⟨some 88, .call { callee := .value (.func 28), args := #[], argTypes := #[] }, 24, "law.go:42", #[], none⟩) rfl (fun K hK => ?_) (AllReadyH.cons (o := ⟨some 91, .buildSlice 27 1 #[(0, .tmp 90)], 27, "law.go:42", #[⟨2, .data⟩], none⟩) rfl (fun K hK => ?_) AllReadyH.nil))
    ·rw [if_pos (by rfl)]
     go_simp
     refine (lO_is _).mono ?_
     rintro e WO ⟨gO, rfl, hgO, hrO, hbO⟩
     (try replace hRF := hRF.keep hbO)
     (try replace hRQ := hRQ.keep hbO)
     refine hK.out _ _ (kp_step hbO hHeld) (fun hHeld => ?_)
     clear hK K
     (try simp only [Act.put, List.setIfInBounds_toArray, List.set_cons_zero, List.set_cons_succ])
     refine wpAnyH_ready (rs := [1, 3]) (by kernel_rfl) (by simp) ?_
     refine (AllReadyH.cons (o := ⟨some 89, .call { callee := .value (.func 29), args := #[], argTypes := #[] }, 26, "law.go:42", #[⟨0, .chain⟩], none⟩) rfl (fun K hK => ?_) (AllReadyH.cons (o := ⟨some 91, .buildSlice 27 1 #[(0, .tmp 90)], 27, "law.go:42", #[⟨2, .data⟩], none⟩) rfl (fun K hK => ?_) AllReadyH.nil))
     ·rw [if_pos (by rfl)]
      go_simp
      refine (lM_is _).mono ?_
      rintro e WM ⟨rfl, hbM⟩
      (try replace hrO := hrO.keep hbM)
      (try replace hRF := hRF.keep hbM)
      (try replace hRQ := hRQ.keep hbM)
      refine hK.out _ _ (kp_step hbM hHeld) (fun hHeld => ?_)
      clear hK K
      (try simp only [Act.put, List.setIfInBounds_toArray, List.set_cons_zero, List.set_cons_succ])
      refine wpAnyH_ready (rs := [3]) (by kernel_rfl) (by simp) ?_
      refine (AllReadyH.cons (o := ⟨some 91, .buildSlice 27 1 #[(0, .tmp 90)], 27, "law.go:42", #[⟨2, .data⟩], none⟩) rfl (fun K hK => ?_) AllReadyH.nil)
      rw [if_pos (by rfl)]
      refine wp_build1f (f := ⟨5, 0, 0, 366⟩) rfl rfl ?_
      intro gF WF hRF hbF hgF
      (try replace hrO := hrO.keep hbF)
      (try replace hRQ := hRQ.keep hbF)
      refine hK.out _ _ (kp_step hbF hHeld) (fun hHeld => ?_)
      clear hK K
      (try simp only [Act.put, List.setIfInBounds_toArray, List.set_cons_zero, List.set_cons_succ])
      refine wpAnyH_ready (rs := [4]) (by kernel_rfl) (by simp) ?_
      refine (AllReadyH.cons (o := ⟨some 92, .call { callee := .value (.func 9), args := #[.tmp 88, .tmp 89, .tmp 91], argTypes := #[24, 26, 27] }, 32, "law.go:42", #[⟨0, .data⟩, ⟨1, .data⟩, ⟨3, .data⟩, ⟨1, .chain⟩], none⟩) rfl (fun K hK => ?_) AllReadyH.nil)
      rw [if_pos (by rfl)]
      go_simp
      refine (kn_Print gO gF _ hrO hRF (hT0.keep hHeld.2)).mono ?_
      rintro e WY ⟨rfl, hbY⟩
      refine hK.out _ _ (kp_step hbY hHeld) (fun hHeld => ?_)
      clear hK K
      (try simp only [Act.put, List.setIfInBounds_toArray, List.set_cons_zero, List.set_cons_succ])
      refine wpAnyH_take (i := 5) (oi := ⟨some 87, .move (.tmp 92), 32, "law.go:42", #[⟨4, .data⟩], none⟩) (v := ?_) rfl (by kernel_rfl) (by kernel_rfl) (by kernel_rfl) (fun _ _ _ h => h) (Or.inl ⟨by rfl, fun W hSw => ?_⟩) hHeld ?_
      rotate_left
      ·(try dsimp only at hSw); go_simp; (try with_reducible rfl)
      (try simp only [Act.put, List.setIfInBounds_toArray, List.set_cons_zero, List.set_cons_succ])
      refine wpAnyH_take (i := 6) (oi := ⟨some 93, .extract (.tmp 87) 0, 9, "law.go:42", #[⟨5, .data⟩], none⟩) (v := ?_) rfl (by kernel_rfl) (by kernel_rfl) (by kernel_rfl) (fun _ _ _ h => h) (Or.inl ⟨by rfl, fun W hSw => ?_⟩) hHeld ?_
      rotate_left
      ·(try dsimp only at hSw); go_simp; (try with_reducible rfl)
      (try simp only [Act.put, List.setIfInBounds_toArray, List.set_cons_zero, List.set_cons_succ])
      refine wpAnyH_take (i := 7) (oi := ⟨some 94, .extract (.tmp 87) 1, 31, "law.go:42", #[⟨5, .data⟩, ⟨8, .gcOnly .lateStores⟩], none⟩) (v := ?_) rfl (by kernel_rfl) (by kernel_rfl) (by kernel_rfl) (fun _ _ _ h => h) (Or.inl ⟨by rfl, fun W hSw => ?_⟩) hHeld ?_
      rotate_left
      ·(try dsimp only at hSw); go_simp; (try with_reducible rfl)
      (try simp only [Act.put, List.setIfInBounds_toArray, List.set_cons_zero, List.set_cons_succ])
      refine wpAnyH_take (i := 8) (oi := ⟨some 23, .assign (.tmp 93), 9, "law.go:42", #[⟨6, .data⟩, ⟨4, .chain⟩, ⟨0, .phase⟩, ⟨1, .phase⟩, ⟨2, .phase⟩, ⟨3, .phase⟩, ⟨4, .phase⟩, ⟨5, .phase⟩, ⟨6, .phase⟩, ⟨7, .textOnly .lateStores⟩], none⟩) (v := ?_) rfl (by kernel_rfl) (by kernel_rfl) (by kernel_rfl) (fun _ _ _ h => h) (Or.inl ⟨by rfl, fun W hSw => ?_⟩) hHeld ?_
      rotate_left
      ·(try dsimp only at hSw); go_simp; (try with_reducible rfl)
      (try simp only [Act.put, List.setIfInBounds_toArray, List.set_cons_zero, List.set_cons_succ])
      refine wpAnyH_take (i := 9) (oi := ⟨some 24, .assign (.tmp 94), 31, "law.go:42", #[⟨7, .data⟩, ⟨8, .chain⟩, ⟨0, .phase⟩, ⟨1, .phase⟩, ⟨2, .phase⟩, ⟨3, .phase⟩, ⟨4, .phase⟩, ⟨5, .phase⟩, ⟨6, .phase⟩, ⟨7, .phase⟩, ⟨8, .phase⟩], none⟩) (v := ?_) rfl (by kernel_rfl) (by kernel_rfl) (by kernel_rfl) (fun _ _ _ h => h) (Or.inl ⟨by rfl, fun W hSw => ?_⟩) hHeld ?_
      rotate_left
      ·(try dsimp only at hSw); go_simp; (try with_reducible rfl)
      (try simp only [Act.put, List.setIfInBounds_toArray, List.set_cons_zero, List.set_cons_succ])
      refine wpAnyH_done (by kernel_rfl) ?_ _
      refine NoPanic.normal ?_
      go_wp2_with fail
      go_meet
      case rel => exact ⟨rfl, rfl, hHeld.2⟩
     ·rw [if_pos (by rfl)]
      refine wp_build1f (f := ⟨5, 0, 0, 366⟩) rfl rfl ?_
      intro gF WF hRF hbF hgF
      (try replace hrO := hrO.keep hbF)
      (try replace hRQ := hRQ.keep hbF)
      refine hK.out _ _ (kp_step hbF hHeld) (fun hHeld => ?_)
      clear hK K
      (try simp only [Act.put, List.setIfInBounds_toArray, List.set_cons_zero, List.set_cons_succ])
      refine wpAnyH_ready (rs := [1]) (by kernel_rfl) (by simp) ?_
      refine (AllReadyH.cons (o := ⟨some 89, .call { callee := .value (.func 29), args := #[], argTypes := #[] }, 26, "law.go:42", #[⟨0, .chain⟩], none⟩) rfl (fun K hK => ?_) AllReadyH.nil)
      rw [if_pos (by rfl)]
      go_simp
      refine (lM_is _).mono ?_
      rintro e WM ⟨rfl, hbM⟩
      (try replace hrO := hrO.keep hbM)
      (try replace hRF := hRF.keep hbM)
      (try replace hRQ := hRQ.keep hbM)
      refine hK.out _ _ (kp_step hbM hHeld) (fun hHeld => ?_)
      clear hK K
      (try simp only [Act.put, List.setIfInBounds_toArray, List.set_cons_zero, List.set_cons_succ])
      refine wpAnyH_ready (rs := [4]) (by kernel_rfl) (by simp) ?_
      refine (AllReadyH.cons (o := ⟨some 92, .call { callee := .value (.func 9), args := #[.tmp 88, .tmp 89, .tmp 91], argTypes := #[24, 26, 27] }, 32, "law.go:42", #[⟨0, .data⟩, ⟨1, .data⟩, ⟨3, .data⟩, ⟨1, .chain⟩], none⟩) rfl (fun K hK => ?_) AllReadyH.nil)
      rw [if_pos (by rfl)]
      go_simp
      refine (kn_Print gO gF _ hrO hRF (hT0.keep hHeld.2)).mono ?_
      rintro e WY ⟨rfl, hbY⟩
      refine hK.out _ _ (kp_step hbY hHeld) (fun hHeld => ?_)
      clear hK K
      (try simp only [Act.put, List.setIfInBounds_toArray, List.set_cons_zero, List.set_cons_succ])
      refine wpAnyH_take (i := 5) (oi := ⟨some 87, .move (.tmp 92), 32, "law.go:42", #[⟨4, .data⟩], none⟩) (v := ?_) rfl (by kernel_rfl) (by kernel_rfl) (by kernel_rfl) (fun _ _ _ h => h) (Or.inl ⟨by rfl, fun W hSw => ?_⟩) hHeld ?_
      rotate_left
      ·(try dsimp only at hSw); go_simp; (try with_reducible rfl)
      (try simp only [Act.put, List.setIfInBounds_toArray, List.set_cons_zero, List.set_cons_succ])
      refine wpAnyH_take (i := 6) (oi := ⟨some 93, .extract (.tmp 87) 0, 9, "law.go:42", #[⟨5, .data⟩], none⟩) (v := ?_) rfl (by kernel_rfl) (by kernel_rfl) (by kernel_rfl) (fun _ _ _ h => h) (Or.inl ⟨by rfl, fun W hSw => ?_⟩) hHeld ?_
      rotate_left
      ·(try dsimp only at hSw); go_simp; (try with_reducible rfl)
      (try simp only [Act.put, List.setIfInBounds_toArray, List.set_cons_zero, List.set_cons_succ])
      refine wpAnyH_take (i := 7) (oi := ⟨some 94, .extract (.tmp 87) 1, 31, "law.go:42", #[⟨5, .data⟩, ⟨8, .gcOnly .lateStores⟩], none⟩) (v := ?_) rfl (by kernel_rfl) (by kernel_rfl) (by kernel_rfl) (fun _ _ _ h => h) (Or.inl ⟨by rfl, fun W hSw => ?_⟩) hHeld ?_
      rotate_left
      ·(try dsimp only at hSw); go_simp; (try with_reducible rfl)
      (try simp only [Act.put, List.setIfInBounds_toArray, List.set_cons_zero, List.set_cons_succ])
      refine wpAnyH_take (i := 8) (oi := ⟨some 23, .assign (.tmp 93), 9, "law.go:42", #[⟨6, .data⟩, ⟨4, .chain⟩, ⟨0, .phase⟩, ⟨1, .phase⟩, ⟨2, .phase⟩, ⟨3, .phase⟩, ⟨4, .phase⟩, ⟨5, .phase⟩, ⟨6, .phase⟩, ⟨7, .textOnly .lateStores⟩], none⟩) (v := ?_) rfl (by kernel_rfl) (by kernel_rfl) (by kernel_rfl) (fun _ _ _ h => h) (Or.inl ⟨by rfl, fun W hSw => ?_⟩) hHeld ?_
      rotate_left
      ·(try dsimp only at hSw); go_simp; (try with_reducible rfl)
      (try simp only [Act.put, List.setIfInBounds_toArray, List.set_cons_zero, List.set_cons_succ])
      refine wpAnyH_take (i := 9) (oi := ⟨some 24, .assign (.tmp 94), 31, "law.go:42", #[⟨7, .data⟩, ⟨8, .chain⟩, ⟨0, .phase⟩, ⟨1, .phase⟩, ⟨2, .phase⟩, ⟨3, .phase⟩, ⟨4, .phase⟩, ⟨5, .phase⟩, ⟨6, .phase⟩, ⟨7, .phase⟩, ⟨8, .phase⟩], none⟩) (v := ?_) rfl (by kernel_rfl) (by kernel_rfl) (by kernel_rfl) (fun _ _ _ h => h) (Or.inl ⟨by rfl, fun W hSw => ?_⟩) hHeld ?_
      rotate_left
      ·(try dsimp only at hSw); go_simp; (try with_reducible rfl)
      (try simp only [Act.put, List.setIfInBounds_toArray, List.set_cons_zero, List.set_cons_succ])
      refine wpAnyH_done (by kernel_rfl) ?_ _
      refine NoPanic.normal ?_
      go_wp2_with fail
      go_meet
      case rel => exact ⟨rfl, rfl, hHeld.2⟩
    ·rw [if_pos (by rfl)]
     refine wp_build1f (f := ⟨5, 0, 0, 366⟩) rfl rfl ?_
     intro gF WF hRF hbF hgF
     (try replace hrO := hrO.keep hbF)
     (try replace hRQ := hRQ.keep hbF)
     refine hK.out _ _ (kp_step hbF hHeld) (fun hHeld => ?_)
     clear hK K
     (try simp only [Act.put, List.setIfInBounds_toArray, List.set_cons_zero, List.set_cons_succ])
     refine wpAnyH_ready (rs := [0]) (by kernel_rfl) (by simp) ?_
     refine (AllReadyH.cons (o := ⟨some 88, .call { callee := .value (.func 28), args := #[], argTypes := #[] }, 24, "law.go:42", #[], none⟩) rfl (fun K hK => ?_) AllReadyH.nil)
     rw [if_pos (by rfl)]
     go_simp
     refine (lO_is _).mono ?_
     rintro e WO ⟨gO, rfl, hgO, hrO, hbO⟩
     (try replace hRF := hRF.keep hbO)
     (try replace hRQ := hRQ.keep hbO)
     refine hK.out _ _ (kp_step hbO hHeld) (fun hHeld => ?_)
     clear hK K
     (try simp only [Act.put, List.setIfInBounds_toArray, List.set_cons_zero, List.set_cons_succ])
     refine wpAnyH_ready (rs := [1]) (by kernel_rfl) (by simp) ?_
     refine (AllReadyH.cons (o := ⟨some 89, .call { callee := .value (.func 29), args := #[], argTypes := #[] }, 26, "law.go:42", #[⟨0, .chain⟩], none⟩) rfl (fun K hK => ?_) AllReadyH.nil)
     rw [if_pos (by rfl)]
     go_simp
     refine (lM_is _).mono ?_
     rintro e WM ⟨rfl, hbM⟩
     (try replace hrO := hrO.keep hbM)
     (try replace hRF := hRF.keep hbM)
     (try replace hRQ := hRQ.keep hbM)
     refine hK.out _ _ (kp_step hbM hHeld) (fun hHeld => ?_)
     clear hK K
     (try simp only [Act.put, List.setIfInBounds_toArray, List.set_cons_zero, List.set_cons_succ])
     refine wpAnyH_ready (rs := [4]) (by kernel_rfl) (by simp) ?_
     refine (AllReadyH.cons (o := ⟨some 92, .call { callee := .value (.func 9), args := #[.tmp 88, .tmp 89, .tmp 91], argTypes := #[24, 26, 27] }, 32, "law.go:42", #[⟨0, .data⟩, ⟨1, .data⟩, ⟨3, .data⟩, ⟨1, .chain⟩], none⟩) rfl (fun K hK => ?_) AllReadyH.nil)
     rw [if_pos (by rfl)]
     go_simp
     refine (kn_Print gO gF _ hrO hRF (hT0.keep hHeld.2)).mono ?_
     rintro e WY ⟨rfl, hbY⟩
     refine hK.out _ _ (kp_step hbY hHeld) (fun hHeld => ?_)
     clear hK K
     (try simp only [Act.put, List.setIfInBounds_toArray, List.set_cons_zero, List.set_cons_succ])
     refine wpAnyH_take (i := 5) (oi := ⟨some 87, .move (.tmp 92), 32, "law.go:42", #[⟨4, .data⟩], none⟩) (v := ?_) rfl (by kernel_rfl) (by kernel_rfl) (by kernel_rfl) (fun _ _ _ h => h) (Or.inl ⟨by rfl, fun W hSw => ?_⟩) hHeld ?_
     rotate_left
     ·(try dsimp only at hSw); go_simp; (try with_reducible rfl)
     (try simp only [Act.put, List.setIfInBounds_toArray, List.set_cons_zero, List.set_cons_succ])
     refine wpAnyH_take (i := 6) (oi := ⟨some 93, .extract (.tmp 87) 0, 9, "law.go:42", #[⟨5, .data⟩], none⟩) (v := ?_) rfl (by kernel_rfl) (by kernel_rfl) (by kernel_rfl) (fun _ _ _ h => h) (Or.inl ⟨by rfl, fun W hSw => ?_⟩) hHeld ?_
     rotate_left
     ·(try dsimp only at hSw); go_simp; (try with_reducible rfl)
     (try simp only [Act.put, List.setIfInBounds_toArray, List.set_cons_zero, List.set_cons_succ])
     refine wpAnyH_take (i := 7) (oi := ⟨some 94, .extract (.tmp 87) 1, 31, "law.go:42", #[⟨5, .data⟩, ⟨8, .gcOnly .lateStores⟩], none⟩) (v := ?_) rfl (by kernel_rfl) (by kernel_rfl) (by kernel_rfl) (fun _ _ _ h => h) (Or.inl ⟨by rfl, fun W hSw => ?_⟩) hHeld ?_
     rotate_left
     ·(try dsimp only at hSw); go_simp; (try with_reducible rfl)
     (try simp only [Act.put, List.setIfInBounds_toArray, List.set_cons_zero, List.set_cons_succ])
     refine wpAnyH_take (i := 8) (oi := ⟨some 23, .assign (.tmp 93), 9, "law.go:42", #[⟨6, .data⟩, ⟨4, .chain⟩, ⟨0, .phase⟩, ⟨1, .phase⟩, ⟨2, .phase⟩, ⟨3, .phase⟩, ⟨4, .phase⟩, ⟨5, .phase⟩, ⟨6, .phase⟩, ⟨7, .textOnly .lateStores⟩], none⟩) (v := ?_) rfl (by kernel_rfl) (by kernel_rfl) (by kernel_rfl) (fun _ _ _ h => h) (Or.inl ⟨by rfl, fun W hSw => ?_⟩) hHeld ?_
     rotate_left
     ·(try dsimp only at hSw); go_simp; (try with_reducible rfl)
     (try simp only [Act.put, List.setIfInBounds_toArray, List.set_cons_zero, List.set_cons_succ])
     refine wpAnyH_take (i := 9) (oi := ⟨some 24, .assign (.tmp 94), 31, "law.go:42", #[⟨7, .data⟩, ⟨8, .chain⟩, ⟨0, .phase⟩, ⟨1, .phase⟩, ⟨2, .phase⟩, ⟨3, .phase⟩, ⟨4, .phase⟩, ⟨5, .phase⟩, ⟨6, .phase⟩, ⟨7, .phase⟩, ⟨8, .phase⟩], none⟩) (v := ?_) rfl (by kernel_rfl) (by kernel_rfl) (by kernel_rfl) (fun _ _ _ h => h) (Or.inl ⟨by rfl, fun W hSw => ?_⟩) hHeld ?_
     rotate_left
     ·(try dsimp only at hSw); go_simp; (try with_reducible rfl)
     (try simp only [Act.put, List.setIfInBounds_toArray, List.set_cons_zero, List.set_cons_succ])
     refine wpAnyH_done (by kernel_rfl) ?_ _
     refine NoPanic.normal ?_
     go_wp2_with fail
     go_meet
     case rel => exact ⟨rfl, rfl, hHeld.2⟩
   case rest =>
    obtain ⟨rfl, rfl, hbY⟩ := hcut
    replace hfr := fr_call hfr hbY
    replace hB := hB.keep hbY
    replace hB' := hB'.keep hbY
    replace hrL := hrL.keep hbY
    replace hrS := hrS.keep hbY
    replace hrY := hrY.keep hbY
    clear hT0 hbY hF
    go_upto_region 14 with (fail)
    have hBc := fun j => hB.cell j
    have hCc := fun j => hB'.cell j
    have hBl := hB.lt
    have hCl := hB'.lt
    refine wp_region_noPanic ?_
    refine wp_region_held_drew (S := fun W => (∀ p : Addr, p.block < (wc).heap.size → W.cell? p = (wc).cell? p) ∧ Below (wc).heap.size (wc) W) (by kernel_rfl) ⟨fun _ _ => rfl, fr_drew (fr_refl _)⟩ (fun hHeld => ?_)
    -- the region, step by step
    refine wpAnyH_take (i := 0) (oi := ⟨some 133, .move (.tmp 1), 3, "law.go:46", #[], none⟩) (v := ?_) rfl (by kernel_rfl) (by kernel_rfl) (by kernel_rfl) (fun _ _ _ h => h) (Or.inl ⟨by rfl, fun W hSw => ?_⟩) hHeld ?_
    rotate_left
    ·(try dsimp only at hSw); go_simp; (try with_reducible rfl)
    (try simp only [Act.put, List.setIfInBounds_toArray, List.set_cons_zero, List.set_cons_succ])
    refine wpAnyH_take (i := 1) (oi := ⟨some 134, .binOp .neq 3 (.tmp 133) (.const (.int .i64 730487)) 3, 4, "law.go:46", #[⟨0, .data⟩], none⟩) (v := ?_) rfl (by kernel_rfl) (by kernel_rfl) (by kernel_rfl) (fun _ _ _ h => h) (Or.inl ⟨by rfl, fun W hSw => ?_⟩) hHeld ?_
    rotate_left
    ·(try dsimp only at hSw); go_simp; (try with_reducible rfl)
    (try simp only [Act.put, List.setIfInBounds_toArray, List.set_cons_zero, List.set_cons_succ])
    refine wpAnyH_take (i := 2) (oi := ⟨some 135, .move (.tmp 134), 4, "law.go:46", #[⟨1, .data⟩], none⟩) (v := ?_) rfl (by kernel_rfl) (by kernel_rfl) (by kernel_rfl) (fun _ _ _ h => h) (Or.inl ⟨by rfl, fun W hSw => ?_⟩) hHeld ?_
    rotate_left
    ·(try dsimp only at hSw); go_simp; (try with_reducible rfl)
    (try simp only [Act.put, List.setIfInBounds_toArray, List.set_cons_zero, List.set_cons_succ])
    refine wpAnyH_take (i := 3) (oi := ⟨some 136, .load 50 (.tmp 3), 50, "law.go:46", #[⟨2, .guard⟩], some (2, false)⟩) (v := ?_) rfl (by kernel_rfl) (by kernel_rfl) (by kernel_rfl) (fun _ _ _ h => h) (Or.inl ⟨by rfl, fun W hSw => ?_⟩) hHeld ?_
    rotate_left
    ·(try dsimp only at hSw); go_simp; (try with_reducible rfl)
    (try simp only [Act.put, List.setIfInBounds_toArray, List.set_cons_zero, List.set_cons_succ])
    refine wpAnyH_ready (rs := [4]) (by kernel_rfl) (by simp) ?_
    refine AllReadyH.cons (o := ⟨some 137, .call { callee := .value (.func 20), args := #[.const (.int .i64 15), .const (.int .i64 10), .const (.int .i64 1582)], argTypes := #[3, 3, 3] }, 50, "law.go:46", #[⟨2, .chain⟩, ⟨2, .guard⟩], some (2, false)⟩) rfl (fun K hK => ?_) AllReadyH.nil
    go_simp
    refine (ldate_is _ _ _ _).mono ?_
    rintro e WA ⟨rfl, hbA⟩
    refine hK.out _ _ (kp_step hbA hHeld) (fun hHeld => ?_)
    clear hK K
    (try simp only [Act.put, List.setIfInBounds_toArray, List.set_cons_zero, List.set_cons_succ])
    refine wpAnyH_take (i := 5) (oi := ⟨some 138, .binOp .neq 50 (.tmp 136) (.tmp 137) 50, 4, "law.go:46", #[⟨3, .data⟩, ⟨4, .data⟩, ⟨2, .guard⟩], some (2, false)⟩) (v := ?_) rfl (by kernel_rfl) (by kernel_rfl) (by kernel_rfl) (fun _ _ _ h => h) (Or.inl ⟨by rfl, fun W hSw => ?_⟩) hHeld ?_
    rotate_left
    ·(try dsimp only at hSw); go_simp; (try with_reducible rfl)
    (try simp only [Act.put, List.setIfInBounds_toArray, List.set_cons_zero, List.set_cons_succ])
    refine wpAnyH_take (i := 6) (oi := ⟨some 139, .pick (.tmp 135) (.const (.bool true)) (.tmp 138), 4, "law.go:46", #[⟨2, .data⟩, ⟨5, .data⟩], none⟩) (v := ?_) rfl (by kernel_rfl) (by kernel_rfl) (by kernel_rfl) (fun _ _ _ h => h) (Or.inl ⟨by rfl, fun W hSw => ?_⟩) hHeld ?_
    rotate_left
    ·(try dsimp only at hSw); go_simp; (try with_reducible rfl)
    (try simp only [Act.put, List.setIfInBounds_toArray, List.set_cons_zero, List.set_cons_succ])
    refine wpAnyH_take (i := 7) (oi := ⟨some 140, .move (.tmp 139), 4, "law.go:46", #[⟨6, .data⟩, ⟨4, .chain⟩], none⟩) (v := ?_) rfl (by kernel_rfl) (by kernel_rfl) (by kernel_rfl) (fun _ _ _ h => h) (Or.inl ⟨by rfl, fun W hSw => ?_⟩) hHeld ?_
    rotate_left
    ·(try dsimp only at hSw); go_simp; (try with_reducible rfl)
    (try simp only [Act.put, List.setIfInBounds_toArray, List.set_cons_zero, List.set_cons_succ])
    refine wpAnyH_take (i := 8) (oi := ⟨some 141, .move (.tmp 5), 3, "law.go:46", #[⟨7, .guard⟩], some (7, false)⟩) (v := ?_) rfl (by kernel_rfl) (by kernel_rfl) (by kernel_rfl) (fun _ _ _ h => h) (Or.inl ⟨by rfl, fun W hSw => ?_⟩) hHeld ?_
    rotate_left
    ·(try dsimp only at hSw); go_simp; (try with_reducible rfl)
    (try simp only [Act.put, List.setIfInBounds_toArray, List.set_cons_zero, List.set_cons_succ])
    refine wpAnyH_take (i := 9) (oi := ⟨some 142, .binOp .neq 3 (.tmp 141) (.const (.int .i64 2)) 3, 4, "law.go:46", #[⟨8, .data⟩, ⟨7, .guard⟩], some (7, false)⟩) (v := ?_) rfl (by kernel_rfl) (by kernel_rfl) (by kernel_rfl) (fun _ _ _ h => h) (Or.inl ⟨by rfl, fun W hSw => ?_⟩) hHeld ?_
    rotate_left
    ·(try dsimp only at hSw); go_simp; (try with_reducible rfl)
    (try simp only [Act.put, List.setIfInBounds_toArray, List.set_cons_zero, List.set_cons_succ])
    refine wpAnyH_take (i := 10) (oi := ⟨some 143, .pick (.tmp 140) (.const (.bool true)) (.tmp 142), 4, "law.go:46", #[⟨7, .data⟩, ⟨9, .data⟩], none⟩) (v := ?_) rfl (by kernel_rfl) (by kernel_rfl) (by kernel_rfl) (fun _ _ _ h => h) (Or.inl ⟨by rfl, fun W hSw => ?_⟩) hHeld ?_
    rotate_left
    ·(try dsimp only at hSw); go_simp; (try with_reducible rfl)
    (try simp only [Act.put, List.setIfInBounds_toArray, List.set_cons_zero, List.set_cons_succ])
    refine wpAnyH_take (i := 11) (oi := ⟨some 144, .move (.tmp 143), 4, "law.go:46", #[⟨10, .data⟩, ⟨7, .chain⟩], none⟩) (v := ?_) rfl (by kernel_rfl) (by kernel_rfl) (by kernel_rfl) (fun _ _ _ h => h) (Or.inl ⟨by rfl, fun W hSw => ?_⟩) hHeld ?_
    rotate_left
    ·(try dsimp only at hSw); go_simp; (try with_reducible rfl)
    (try simp only [Act.put, List.setIfInBounds_toArray, List.set_cons_zero, List.set_cons_succ])
    refine wpAnyH_take (i := 12) (oi := ⟨some 145, .move (.tmp 6), 3, "law.go:46", #[⟨11, .guard⟩], some (11, false)⟩) (v := ?_) rfl (by kernel_rfl) (by kernel_rfl) (by kernel_rfl) (fun _ _ _ h => h) (Or.inl ⟨by rfl, fun W hSw => ?_⟩) hHeld ?_
    rotate_left
    ·(try dsimp only at hSw); go_simp; (try with_reducible rfl)
    (try simp only [Act.put, List.setIfInBounds_toArray, List.set_cons_zero, List.set_cons_succ])
    refine wpAnyH_take (i := 13) (oi := ⟨some 146, .binOp .neq 3 (.tmp 145) (.const (.int .i64 1)) 3, 4, "law.go:46", #[⟨12, .data⟩, ⟨11, .guard⟩], some (11, false)⟩) (v := ?_) rfl (by kernel_rfl) (by kernel_rfl) (by kernel_rfl) (fun _ _ _ h => h) (Or.inl ⟨by rfl, fun W hSw => ?_⟩) hHeld ?_
    rotate_left
    ·(try dsimp only at hSw); go_simp; (try with_reducible rfl)
    (try simp only [Act.put, List.setIfInBounds_toArray, List.set_cons_zero, List.set_cons_succ])
    refine wpAnyH_take (i := 14) (oi := ⟨some 147, .pick (.tmp 144) (.const (.bool true)) (.tmp 146), 4, "law.go:46", #[⟨11, .data⟩, ⟨13, .data⟩], none⟩) (v := ?_) rfl (by kernel_rfl) (by kernel_rfl) (by kernel_rfl) (fun _ _ _ h => h) (Or.inl ⟨by rfl, fun W hSw => ?_⟩) hHeld ?_
    rotate_left
    ·(try dsimp only at hSw); go_simp; (try with_reducible rfl)
    (try simp only [Act.put, List.setIfInBounds_toArray, List.set_cons_zero, List.set_cons_succ])
    refine wpAnyH_take (i := 15) (oi := ⟨some 148, .move (.tmp 147), 4, "law.go:46", #[⟨14, .data⟩, ⟨11, .chain⟩], none⟩) (v := ?_) rfl (by kernel_rfl) (by kernel_rfl) (by kernel_rfl) (fun _ _ _ h => h) (Or.inl ⟨by rfl, fun W hSw => ?_⟩) hHeld ?_
    rotate_left
    ·(try dsimp only at hSw); go_simp; (try with_reducible rfl)
    (try simp only [Act.put, List.setIfInBounds_toArray, List.set_cons_zero, List.set_cons_succ])
    refine wpAnyH_take (i := 16) (oi := ⟨some 149, .move (.tmp 8), 3, "law.go:46", #[⟨15, .guard⟩], some (15, false)⟩) (v := ?_) rfl (by kernel_rfl) (by kernel_rfl) (by kernel_rfl) (fun _ _ _ h => h) (Or.inl ⟨by rfl, fun W hSw => ?_⟩) hHeld ?_
    rotate_left
    ·(try dsimp only at hSw); go_simp; (try with_reducible rfl)
    (try simp only [Act.put, List.setIfInBounds_toArray, List.set_cons_zero, List.set_cons_succ])
    refine wpAnyH_take (i := 17) (oi := ⟨some 150, .binOp .neq 3 (.tmp 149) (.const (.int .i64 2010)) 3, 4, "law.go:46", #[⟨16, .data⟩, ⟨15, .guard⟩], some (15, false)⟩) (v := ?_) rfl (by kernel_rfl) (by kernel_rfl) (by kernel_rfl) (fun _ _ _ h => h) (Or.inl ⟨by rfl, fun W hSw => ?_⟩) hHeld ?_
    rotate_left
    ·(try dsimp only at hSw); go_simp; (try with_reducible rfl)
    (try simp only [Act.put, List.setIfInBounds_toArray, List.set_cons_zero, List.set_cons_succ])
    refine wpAnyH_take (i := 18) (oi := ⟨some 151, .pick (.tmp 148) (.const (.bool true)) (.tmp 150), 4, "law.go:46", #[⟨15, .data⟩, ⟨17, .data⟩], none⟩) (v := ?_) rfl (by kernel_rfl) (by kernel_rfl) (by kernel_rfl) (fun _ _ _ h => h) (Or.inl ⟨by rfl, fun W hSw => ?_⟩) hHeld ?_
    rotate_left
    ·(try dsimp only at hSw); go_simp; (try with_reducible rfl)
    (try simp only [Act.put, List.setIfInBounds_toArray, List.set_cons_zero, List.set_cons_succ])
    refine wpAnyH_take (i := 19) (oi := ⟨some 152, .move (.tmp 151), 4, "law.go:46", #[⟨18, .data⟩, ⟨15, .chain⟩], none⟩) (v := ?_) rfl (by kernel_rfl) (by kernel_rfl) (by kernel_rfl) (fun _ _ _ h => h) (Or.inl ⟨by rfl, fun W hSw => ?_⟩) hHeld ?_
    rotate_left
    ·(try dsimp only at hSw); go_simp; (try with_reducible rfl)
    (try simp only [Act.put, List.setIfInBounds_toArray, List.set_cons_zero, List.set_cons_succ])
    refine wpAnyH_take (i := 20) (oi := ⟨some 153, .move (.tmp 10), 22, "law.go:46", #[⟨19, .guard⟩], some (19, false)⟩) (v := ?_) rfl (by kernel_rfl) (by kernel_rfl) (by kernel_rfl) (fun _ _ _ h => h) (Or.inl ⟨by rfl, fun W hSw => ?_⟩) hHeld ?_
    rotate_left
    ·(try dsimp only at hSw); go_simp; (try with_reducible rfl)
    (try simp only [Act.put, List.setIfInBounds_toArray, List.set_cons_zero, List.set_cons_succ])
    refine wpAnyH_ready (rs := [21]) (by kernel_rfl) (by simp) ?_
    refine AllReadyH.cons (o := ⟨some 154, .buildSlice 22 2 #[(0, .const (.int .i64 578098)), (1, .const (.int .i64 578108))], 22, "law.go:46", #[⟨19, .guard⟩], some (19, false)⟩) rfl (fun K hK => ?_) AllReadyH.nil
    rw [if_pos (by rfl)]
    refine wp_build2c rfl ?_
    intro gX WX hX hbX hgX
    refine hK.out _ _ (kp_step hbX hHeld) (fun hHeld => ?_)
    clear hK K
    (try simp only [Act.put, List.setIfInBounds_toArray, List.set_cons_zero, List.set_cons_succ])
    refine wpAnyH_ready (rs := [22]) (by kernel_rfl) (by simp) ?_
    refine AllReadyH.cons (o := ⟨some 155, .call { callee := .value (.func 34), args := #[.tmp 153, .tmp 154], argTypes := #[22, 22] }, 4, "law.go:46", #[⟨20, .data⟩, ⟨21, .data⟩, ⟨19, .chain⟩, ⟨19, .guard⟩], some (19, false)⟩) rfl (fun K hK => ?_) AllReadyH.nil
    go_simp
    refine (rSame_is AL (some ⟨gX, 0, none⟩) 2 cL 2 2 [578098, 578108] [578098, 578108] _ (hrL.keep hHeld.2) (rd_of_blk (xs := [578098, 578108]) hX) (by decide) (by decide) true (by decide)).mono ?_
    rintro e WB ⟨rfl, hbB⟩
    refine hK.out _ _ (kp_step hbB hHeld) (fun hHeld => ?_)
    clear hK K
    (try simp only [Act.put, List.setIfInBounds_toArray, List.set_cons_zero, List.set_cons_succ])
    refine wpAnyH_take (i := 23) (oi := ⟨some 156, .unOp .not 4 (.tmp 155), 4, "law.go:46", #[⟨22, .data⟩, ⟨19, .guard⟩], some (19, false)⟩) (v := ?_) rfl (by kernel_rfl) (by kernel_rfl) (by kernel_rfl) (fun _ _ _ h => h) (Or.inl ⟨by rfl, fun W hSw => ?_⟩) hHeld ?_
    rotate_left
    ·(try dsimp only at hSw); go_simp; (try with_reducible rfl)
    (try simp only [Act.put, List.setIfInBounds_toArray, List.set_cons_zero, List.set_cons_succ])
    refine wpAnyH_take (i := 24) (oi := ⟨some 157, .pick (.tmp 152) (.const (.bool true)) (.tmp 156), 4, "law.go:46", #[⟨19, .data⟩, ⟨23, .data⟩], none⟩) (v := ?_) rfl (by kernel_rfl) (by kernel_rfl) (by kernel_rfl) (fun _ _ _ h => h) (Or.inl ⟨by rfl, fun W hSw => ?_⟩) hHeld ?_
    rotate_left
    ·(try dsimp only at hSw); go_simp; (try with_reducible rfl)
    (try simp only [Act.put, List.setIfInBounds_toArray, List.set_cons_zero, List.set_cons_succ])
    refine wpAnyH_take (i := 25) (oi := ⟨some 158, .move (.tmp 157), 4, "law.go:46", #[⟨24, .data⟩, ⟨22, .chain⟩], none⟩) (v := ?_) rfl (by kernel_rfl) (by kernel_rfl) (by kernel_rfl) (fun _ _ _ h => h) (Or.inl ⟨by rfl, fun W hSw => ?_⟩) hHeld ?_
    rotate_left
    ·(try dsimp only at hSw); go_simp; (try with_reducible rfl)
    (try simp only [Act.put, List.setIfInBounds_toArray, List.set_cons_zero, List.set_cons_succ])
    refine wpAnyH_take (i := 26) (oi := ⟨some 159, .load 50 (.tmp 12), 50, "law.go:46", #[⟨25, .guard⟩], some (25, false)⟩) (v := ?_) rfl (by kernel_rfl) (by kernel_rfl) (by kernel_rfl) (fun _ _ _ h => h) (Or.inl ⟨by rfl, fun W hSw => ?_⟩) hHeld ?_
    rotate_left
    ·(try dsimp only at hSw); go_simp; (try with_reducible rfl)
    (try simp only [Act.put, List.setIfInBounds_toArray, List.set_cons_zero, List.set_cons_succ])
    refine wpAnyH_ready (rs := [27]) (by kernel_rfl) (by simp) ?_
    refine AllReadyH.cons (o := ⟨some 160, .call { callee := .value (.func 20), args := #[.const (.int .i64 18), .const (.int .i64 4), .const (.int .i64 0)], argTypes := #[3, 3, 3] }, 50, "law.go:46", #[⟨25, .chain⟩, ⟨25, .guard⟩], some (25, false)⟩) rfl (fun K hK => ?_) AllReadyH.nil
    go_simp
    refine (ldate_is _ _ _ _).mono ?_
    rintro e WC ⟨rfl, hbC⟩
    refine hK.out _ _ (kp_step hbC hHeld) (fun hHeld => ?_)
    clear hK K
    (try simp only [Act.put, List.setIfInBounds_toArray, List.set_cons_zero, List.set_cons_succ])
    refine wpAnyH_take (i := 28) (oi := ⟨some 161, .binOp .neq 50 (.tmp 159) (.tmp 160) 50, 4, "law.go:46", #[⟨26, .data⟩, ⟨27, .data⟩, ⟨25, .guard⟩], some (25, false)⟩) (v := ?_) rfl (by kernel_rfl) (by kernel_rfl) (by kernel_rfl) (fun _ _ _ h => h) (Or.inl ⟨by rfl, fun W hSw => ?_⟩) hHeld ?_
    rotate_left
    ·(try dsimp only at hSw); go_simp; (try with_reducible rfl)
    (try simp only [Act.put, List.setIfInBounds_toArray, List.set_cons_zero, List.set_cons_succ])
    refine wpAnyH_take (i := 29) (oi := ⟨some 162, .pick (.tmp 158) (.const (.bool true)) (.tmp 161), 4, "law.go:46", #[⟨25, .data⟩, ⟨28, .data⟩], none⟩) (v := ?_) rfl (by kernel_rfl) (by kernel_rfl) (by kernel_rfl) (fun _ _ _ h => h) (Or.inl ⟨by rfl, fun W hSw => ?_⟩) hHeld ?_
    rotate_left
    ·(try dsimp only at hSw); go_simp; (try with_reducible rfl)
    (try simp only [Act.put, List.setIfInBounds_toArray, List.set_cons_zero, List.set_cons_succ])
    refine wpAnyH_done (by kernel_rfl) ?_ _
    refine NoPanic.normal ?_
    go_wp2_with fail
    refine (rSame_is AS (some ⟨WC.heap.size, 0, none⟩) 1 cS 1 1 [430] [430] _ ((hrS.keep hHeld.2).alloc _) (rd_new_at _ [430] rfl) (by decide) (by decide) true (by decide)).mono ?_
    rintro e WD ⟨rfl, hbD⟩
    have hbD2 := fr_call hHeld.2 (fr_call (fr_alloc (fr_refl WC) _) hbD)
    go_wp2_with fail
    refine (rSame_is AY (some ⟨WD.heap.size, 0, none⟩) 3 cY 3 3 [0, 28, 56] [0, 28, 56] _ ((hrY.keep hbD2).alloc _) (rd_new_at _ [0, 28, 56] rfl) (by decide) (by decide) true (by decide)).mono ?_
    rintro e WE ⟨rfl, hbE⟩
    have hbE2 := fr_call hbD2 (fr_call (fr_alloc (fr_refl WD) _) hbE)
    replace hfr := fr_call hfr hbE2
    clear hB hB' hrL hrS hrY hbD hbE hbD2 hbE2 hHeld hBc hCc
    go_wp2_with fail
    go_ret
    exact ⟨rfl, hfr⟩
end Go.Proofs.YthjblcboainknaaGreatDoor
