/- Walk: guess, the best of fractions and of choices (printed by gen_best.py). Walk: guess, the best of slices. Walk: guess, the best of slices (printed by gen_best.py). Walk: guess, the iterator over the turns of guesses. -/
import Derived.Test.YtfgghicdkcjdgaaGreatDoorMG6
section
namespace Go.Proofs.YtfgghicdkcjdgaaGreatDoor
open Go.RowKit Go.Shelf
attribute [local go_sem] Oper.semAt_some
set_option maxRecDepth 100000 in
set_option maxHeartbeats 8000000 in
theorem best_low (x0 : Value) (P : Int × Int → Prop) (lt : Int × Int → Int × Int → Bool) (hb : BetF P lt 56) (xs : List (Int × Int)) (hP : ∀ x ∈ xs, P x) (w : World) (hI : IterF 40 55 #[x0] #[] w xs) :
  Calls Tryz.prog 54 #[.func (.func 55) #[x0] #[], .func (.func 56) #[] #[]] w (RetF w ((bestL lt xs).getD (0, 0)).1 ((bestL lt xs).getD (0, 0)).2) := by
 have hb3 := fr_alloc (fr_alloc (fr_alloc (fr_alloc (fr_refl w) (.cells #[.func (.func 56) #[] #[]] 50)) (.cells #[.int .i64 0, .int .i64 0] 40)) (.cells #[.int .i64 0, .int .i64 0] 40)) (.cells #[.bool false] 4)
 have hBf : Blk ((((w.alloc (.cells #[.func (.func 56) #[] #[]] 50)).alloc (.cells #[.int .i64 0, .int .i64 0] 40)).alloc (.cells #[.int .i64 0, .int .i64 0] 40)).alloc (.cells #[.bool false] 4)) w.heap.size 50 #[.func (.func 56) #[] #[]] := (((Blk.new w _ _).alloc _).alloc _).alloc _
 have hBr : Blk ((((w.alloc (.cells #[.func (.func 56) #[] #[]] 50)).alloc (.cells #[.int .i64 0, .int .i64 0] 40)).alloc (.cells #[.int .i64 0, .int .i64 0] 40)).alloc (.cells #[.bool false] 4)) (w.heap.size + 1) 40 #[.int .i64 0, .int .i64 0] := ((Blk.new_at _ _ (by simp)).alloc _).alloc _
 have hBo : Blk ((((w.alloc (.cells #[.func (.func 56) #[] #[]] 50)).alloc (.cells #[.int .i64 0, .int .i64 0] 40)).alloc (.cells #[.int .i64 0, .int .i64 0] 40)).alloc (.cells #[.bool false] 4)) (w.heap.size + 1 + 1) 40 #[.int .i64 0, .int .i64 0] := (Blk.new_at _ _ (by simp)).alloc _
 have hBm : Blk ((((w.alloc (.cells #[.func (.func 56) #[] #[]] 50)).alloc (.cells #[.int .i64 0, .int .i64 0] 40)).alloc (.cells #[.int .i64 0, .int .i64 0] 40)).alloc (.cells #[.bool false] 4)) (w.heap.size + 1 + 1 + 1) 4 #[.bool false] := Blk.new_at _ _ (by simp)
 refine (callsIn_wide (n := 6)).1 (callsIn_of_wp_marks Tryz.func54 rfl trivial ?_ rfl)
 simp only [Tryz.ntmps54, List.size_toArray, List.length_cons, List.length_nil, Nat.reduceAdd, Nat.reduceSub, Array.replicate_succ, Array.replicate_zero, List.push_toArray, List.append_toArray, List.nil_append, List.cons_append]
 refine wpIn_wide.2 ?_
 go_wp2_with fail
 obtain ⟨w2, hw2⟩ : ∃ w2, (((w.alloc (.cells #[.func (.func 56) #[] #[]] 50)).alloc (.cells #[.int .i64 0, .int .i64 0] 40)).alloc (.cells #[.int .i64 0, .int .i64 0] 40)).alloc (.cells #[.bool false] 4) = w2 := ⟨_, rfl⟩
 have hs2 : w.heap.size + 1 + 1 + 1 + 1 ≤ w2.heap.size := by rw [← hw2]; simp
 rw [hw2] at hb3 hBf hBr hBo hBm ⊢
 clear hw2
 refine (wpIn_wide (n := 6)).1 ?_
 refine wpIn_range_enter2 (gf := 55) rfl (enters_of Tryz.func55 (by kernel_rfl) rfl) (fun fn rec hst hpe hfn htm hpa has hbod => ?_)
 generalize hl : w2.heap.size + 1 = l at *
 obtain ⟨W1, hW1⟩ : ∃ W1, (w2.alloc (.deferred (some []))).alloc (.loop rec) = W1 := ⟨_, rfl⟩
 have hL1 : W1.heap[l]? = some (.loop rec) := by
  rw [← hW1, ← hl]; have := World.alloc_heap_new (w2.alloc (.deferred (some []))) (.loop rec); rwa [World.size_alloc] at this
 have hD1 : W1.heap[w2.heap.size]? = some (.deferred (some [])) := by
  rw [← hW1]; exact (Below.heap_alloc _ _ _ (by simp)).trans (World.alloc_heap_new w2 _)
 have hb21 : Below w2.heap.size w2 W1 := by rw [← hW1]; exact fr_alloc (fr_alloc (fr_refl _) _) _
 rw [hW1]
 have h0 : BInv 40 50 w.heap.size P lt w2 w.heap.size (w.heap.size + 1) (w.heap.size + 1 + 1) (w.heap.size + 1 + 1 + 1) w2.heap.size l 56 rec [] W1 :=
  ⟨Keep.of_below hb21, hBf.keep hb21, hBr.keep hb21, hBo.keep hb21, hBm.keep hb21, hD1, hL1, by simp⟩
 have hlH : l < W1.heap.size := (Array.getElem?_eq_some_iff.1 hL1).1
 have hY : ItY w.heap.size (tyF 40) W1.heap.size 5 l OkF P (BInv 40 50 w.heap.size P lt w2 w.heap.size (w.heap.size + 1) (w.heap.size + 1 + 1) (w.heap.size + 1 + 1 + 1) w2.heap.size l 56 rec) := by
  refine ⟨fun d W W' h hb hk => h.move hb hk (by refine ⟨⟨?_, ?_, ?_⟩, ?_, ?_, ?_⟩ <;> omega), ?_⟩
  rintro d x v W hi hPx rfl
  have hPo : ∀ y, bestL lt d = some y → P y := fun y hy => hi.al y (bestL_mem hy)
  have hy := run_yield (P := Tryz.prog) (args := #[.agg #[.int .i64 x.1, .int .i64 x.2]]) hi.lp (by rw [hpa]; rfl)
  rw [hfn, htm, hpa, has, hbod] at hy
  refine ⟨_, _, _, _, hy, roundIn_of_wpIn trivial ?_⟩
  clear hy
  gi_wp2
  have hbA := fr_alloc (fr_refl W) (.cells #[.int .i64 x.1, .int .i64 x.2] 40)
  have hX := Blk.new W 40 #[.int .i64 x.1, .int .i64 x.2]
  have hkA : KeepH w.heap.size (tyF 40) W1.heap.size W _ := KeepH.of_below hbA
  replace hi := hi.below hbA
  generalize W.alloc (.cells #[.int .i64 x.1, .int .i64 x.2] 40) = WA at *
  refine ⟨_, run_beginRound hi.lp hst, ?_⟩
  have hkB : KeepH w.heap.size (tyF 40) W1.heap.size W (WA.putObj l (.loop { rec with state := .busy })) := hkA.trans (keepH_put hi.lp rfl (by omega) _)
  replace hX := hX.grown (grownBy_putObj' WA l (.loop { rec with state := .busy })) (fun e => Obj_cells_ne hX hi.lp rfl (by cases e; rfl))
  have hiB := hi.put (by omega) (by omega) { rec with state := .busy }
  generalize WA.putObj l (.loop { rec with state := .busy }) = WB at *
  have hrec : ({ rec with state := .ready, pending := none } : Loop) = rec := by
   cases rec
   simp only at hst hpe
   rw [hst, hpe]
  have fin : ∀ (WC : World) (a : Act) (r : Loop), r = { rec with state := .busy } → BInv 40 50 w.heap.size P lt w2 w.heap.size (w.heap.size + 1) (w.heap.size + 1 + 1) (w.heap.size + 1 + 1 + 1) w2.heap.size l 56 r (d ++ [x]) WC → KeepH w.heap.size (tyF 40) W1.heap.size W WC →
    roundPost Tryz.prog l (fun e W' => e = .returned (.bool true) ∧ BInv 40 50 w.heap.size P lt w2 w.heap.size (w.heap.size + 1) (w.heap.size + 1 + 1) (w.heap.size + 1 + 1 + 1) w2.heap.size l 56 rec (d ++ [x]) W' ∧ KeepH w.heap.size (tyF 40) W1.heap.size W W') .normal a WC := by
   rintro WC a r rfl hi' hk'
   have h0 := hi'.put (by omega) (by omega) { { rec with state := .busy } with state := .ready, pending := none }
   have hk2 : KeepH w.heap.size (tyF 40) W1.heap.size WC (WC.putObj l (.loop { { rec with state := .busy } with state := .ready, pending := none })) := keepH_put hi'.lp rfl (by omega) _
   refine ⟨_, _, run_endRound none hi'.lp, rfl, ?_, hk'.trans hk2⟩
   exact ⟨h0.kp, h0.f, h0.r, h0.o, h0.m, h0.df, h0.lp.trans (congrArg some (congrArg Obj.loop hrec)), h0.al⟩
  obtain ⟨rb, hrb⟩ : ∃ r : Loop, { rec with state := .busy } = r := ⟨_, rfl⟩
  rw [hrb] at hiB
  have FIN := fun WC a => fin WC a rb hrb.symm
  clear fin hrec hrb hst hpe hi htm hpa has hbod hfn
  have hcm := hiB.m.cell 0
  have hco := fun j => hiB.o.cell j
  have hcx := fun j => hX.cell j
  have hcf := hiB.f.cell 0
  cases hq : bestL lt d with
  | none =>
   rw [hq] at hcm
   simp only [Option.isSome_none] at hcm
   have hXo := hiB.o
   clear hco
   gi_wp2
   refine ⟨(fun _ h => by cases h), ?_⟩
   gi_wp2_with (refine wpListIn_store_blk rfl _ _ _ rfl (w.heap.size + 1 + 1) 40 _ _ rfl rfl hXo rfl (by kernel_rfl) (by simp [Value.oneCell']) ?_; intro WD hXD hgD; have hmD := hiB.m.grown hgD (by simp); have hcmD := hmD.cell 0; have hfmD := hmD.frozen 0)
   have hT := hiB.take (H := W1.heap.size) hPx hXD hgD (by rw [hq]; rfl) (by refine ⟨⟨?_, ?_, ?_⟩, ?_, ?_⟩ <;> omega) (by refine ⟨⟨?_, ?_⟩, ?_, ?_⟩ <;> omega)
   exact FIN _ _ hT.1 (hkB.trans hT.2)
  | some y =>
   rw [hq] at hcm hco
   simp only [Option.isSome_some, Option.getD_some, encF] at hcm hco
   gi_wp2
   refine ⟨trivial, ?_⟩
   refine CallsIn.mono (CallsIn.inRound l (callsIn_wide.2 (hb x y WB hPx (hPo y hq)))) ?_
   rintro e wC ⟨rfl, hbC⟩
   replace hiB := hiB.below hbC
   replace hX := hX.keep hbC
   replace hkB := hkB.then_below hbC
   clear hcm hco hcx hcf
   have hcx := fun j => hX.cell j
   have hXo := hiB.o
   rw [hq] at hXo
   cases hlt : lt x y with
   | true =>
    gi_wp2_with (refine wpListIn_store_blk rfl _ _ _ rfl (w.heap.size + 1 + 1) 40 _ _ rfl rfl hXo rfl (by kernel_rfl) (by simp [Value.oneCell']) ?_; intro WD hXD hgD; have hmD := hiB.m.grown hgD (by simp); have hcmD := hmD.cell 0; have hfmD := hmD.frozen 0)
    have hT := hiB.take (H := W1.heap.size) hPx hXD hgD (by rw [hq]; simp only [bestF]; rw [if_pos hlt]) (by refine ⟨⟨?_, ?_, ?_⟩, ?_, ?_⟩ <;> omega) (by refine ⟨⟨?_, ?_⟩, ?_, ?_⟩ <;> omega)
    exact FIN _ _ hT.1 (hkB.trans hT.2)
   | false =>
    gi_wp2
    exact FIN _ _ (hiB.leave hPx (by rw [hq]; simp only [bestF]; rw [hlt]; rfl)) hkB
 refine CallsIn.mono (callsIn_wide.2 (hI l P _ W1 hP (fr_call hb3 hb21) hY h0)) ?_
 rintro e W ⟨rfl, hi, hk⟩
 have hi4 := hi.put (by omega) (by omega) { rec with state := .exhausted, pending := none }
 refine ⟨_, _, run_endLoop hi.lp (by rw [hst]; simp), ?_⟩
 rw [hpe]
 have hR4 := hi4.r
 have hO4 := hi4.o
 have hF4 := hi4.kp.below hb3 (Nat.le_refl _) (Nat.le_refl _)
 have hD4 := hi4.df
 clear hi hk hi4 hY h0 hBf hBr hBo hBm
 generalize W.putObj l (.loop { rec with state := .exhausted, pending := none }) = W4 at *
 unfold encF at hO4
 have hcO := fun j => hO4.cell j
 go_wp2_with (refine wpList_store_blk rfl _ _ _ rfl (w.heap.size + 1) 40 _ _ rfl rfl hR4 rfl (by kernel_rfl) (by simp [Value.oneCell']) ?_; intro W5 hR5 hg5; clear hcO)
 have hk5 : Keep w.heap.size (tyF 40) W4 W5 := Keep.grown hg5 (fun k e => by cases e; exact ⟨by omega, fun cs t fr h => by rw [hR4] at h; cases h; simp [tyF]⟩)
 have hD5 := (hg5.block _ (Array.getElem?_eq_some_iff.1 hD4).1 (fun e => by have e := Option.some.inj e; omega)).trans hD4
 have hF5 := hk5.below hF4 (Nat.le_refl _) (Nat.le_refl _)
 refine ⟨by simp, .inl ⟨_, _, rfl, run_takeDeferred hD5, ?_⟩⟩
 have hk6 : Keep w.heap.size (tyF 40) W5 (W5.putObj w2.heap.size (.deferred none)) := keep_put hD5 rfl (by omega) _
 have hR6 := hR5.grown (grownBy_putObj' W5 w2.heap.size (.deferred none)) (fun e => Obj_cells_ne hR5 hD5 rfl (Option.some.inj e))
 exact ⟨_, results_blk1 rfl _ _ _ _ rfl hR6 Tryz.underlying40 rfl (by kernel_rfl), rfl, hk6.below hF5 (Nat.le_refl _) (Nat.le_refl _)⟩
set_option maxRecDepth 100000 in
set_option maxHeartbeats 8000000 in
theorem best_high (x0 : Value) (P : Int × Int → Prop) (lt : Int × Int → Int × Int → Bool) (hb : BetF P lt 57) (xs : List (Int × Int)) (hP : ∀ x ∈ xs, P x) (w : World) (hI : IterF 40 55 #[x0] #[] w xs) :
  Calls Tryz.prog 54 #[.func (.func 55) #[x0] #[], .func (.func 57) #[] #[]] w (RetF w ((bestL lt xs).getD (0, 0)).1 ((bestL lt xs).getD (0, 0)).2) := by
 have hb3 := fr_alloc (fr_alloc (fr_alloc (fr_alloc (fr_refl w) (.cells #[.func (.func 57) #[] #[]] 50)) (.cells #[.int .i64 0, .int .i64 0] 40)) (.cells #[.int .i64 0, .int .i64 0] 40)) (.cells #[.bool false] 4)
 have hBf : Blk ((((w.alloc (.cells #[.func (.func 57) #[] #[]] 50)).alloc (.cells #[.int .i64 0, .int .i64 0] 40)).alloc (.cells #[.int .i64 0, .int .i64 0] 40)).alloc (.cells #[.bool false] 4)) w.heap.size 50 #[.func (.func 57) #[] #[]] := (((Blk.new w _ _).alloc _).alloc _).alloc _
 have hBr : Blk ((((w.alloc (.cells #[.func (.func 57) #[] #[]] 50)).alloc (.cells #[.int .i64 0, .int .i64 0] 40)).alloc (.cells #[.int .i64 0, .int .i64 0] 40)).alloc (.cells #[.bool false] 4)) (w.heap.size + 1) 40 #[.int .i64 0, .int .i64 0] := ((Blk.new_at _ _ (by simp)).alloc _).alloc _
 have hBo : Blk ((((w.alloc (.cells #[.func (.func 57) #[] #[]] 50)).alloc (.cells #[.int .i64 0, .int .i64 0] 40)).alloc (.cells #[.int .i64 0, .int .i64 0] 40)).alloc (.cells #[.bool false] 4)) (w.heap.size + 1 + 1) 40 #[.int .i64 0, .int .i64 0] := (Blk.new_at _ _ (by simp)).alloc _
 have hBm : Blk ((((w.alloc (.cells #[.func (.func 57) #[] #[]] 50)).alloc (.cells #[.int .i64 0, .int .i64 0] 40)).alloc (.cells #[.int .i64 0, .int .i64 0] 40)).alloc (.cells #[.bool false] 4)) (w.heap.size + 1 + 1 + 1) 4 #[.bool false] := Blk.new_at _ _ (by simp)
 refine (callsIn_wide (n := 6)).1 (callsIn_of_wp_marks Tryz.func54 rfl trivial ?_ rfl)
 simp only [Tryz.ntmps54, List.size_toArray, List.length_cons, List.length_nil, Nat.reduceAdd, Nat.reduceSub, Array.replicate_succ, Array.replicate_zero, List.push_toArray, List.append_toArray, List.nil_append, List.cons_append]
 refine wpIn_wide.2 ?_
 go_wp2_with fail
 obtain ⟨w2, hw2⟩ : ∃ w2, (((w.alloc (.cells #[.func (.func 57) #[] #[]] 50)).alloc (.cells #[.int .i64 0, .int .i64 0] 40)).alloc (.cells #[.int .i64 0, .int .i64 0] 40)).alloc (.cells #[.bool false] 4) = w2 := ⟨_, rfl⟩
 have hs2 : w.heap.size + 1 + 1 + 1 + 1 ≤ w2.heap.size := by rw [← hw2]; simp
 rw [hw2] at hb3 hBf hBr hBo hBm ⊢
 clear hw2
 refine (wpIn_wide (n := 6)).1 ?_
 refine wpIn_range_enter2 (gf := 55) rfl (enters_of Tryz.func55 (by kernel_rfl) rfl) (fun fn rec hst hpe hfn htm hpa has hbod => ?_)
 generalize hl : w2.heap.size + 1 = l at *
 obtain ⟨W1, hW1⟩ : ∃ W1, (w2.alloc (.deferred (some []))).alloc (.loop rec) = W1 := ⟨_, rfl⟩
 have hL1 : W1.heap[l]? = some (.loop rec) := by
  rw [← hW1, ← hl]; have := World.alloc_heap_new (w2.alloc (.deferred (some []))) (.loop rec); rwa [World.size_alloc] at this
 have hD1 : W1.heap[w2.heap.size]? = some (.deferred (some [])) := by
  rw [← hW1]; exact (Below.heap_alloc _ _ _ (by simp)).trans (World.alloc_heap_new w2 _)
 have hb21 : Below w2.heap.size w2 W1 := by rw [← hW1]; exact fr_alloc (fr_alloc (fr_refl _) _) _
 rw [hW1]
 have h0 : BInv 40 50 w.heap.size P lt w2 w.heap.size (w.heap.size + 1) (w.heap.size + 1 + 1) (w.heap.size + 1 + 1 + 1) w2.heap.size l 57 rec [] W1 :=
  ⟨Keep.of_below hb21, hBf.keep hb21, hBr.keep hb21, hBo.keep hb21, hBm.keep hb21, hD1, hL1, by simp⟩
 have hlH : l < W1.heap.size := (Array.getElem?_eq_some_iff.1 hL1).1
 have hY : ItY w.heap.size (tyF 40) W1.heap.size 5 l OkF P (BInv 40 50 w.heap.size P lt w2 w.heap.size (w.heap.size + 1) (w.heap.size + 1 + 1) (w.heap.size + 1 + 1 + 1) w2.heap.size l 57 rec) := by
  refine ⟨fun d W W' h hb hk => h.move hb hk (by refine ⟨⟨?_, ?_, ?_⟩, ?_, ?_, ?_⟩ <;> omega), ?_⟩
  rintro d x v W hi hPx rfl
  have hPo : ∀ y, bestL lt d = some y → P y := fun y hy => hi.al y (bestL_mem hy)
  have hy := run_yield (P := Tryz.prog) (args := #[.agg #[.int .i64 x.1, .int .i64 x.2]]) hi.lp (by rw [hpa]; rfl)
  rw [hfn, htm, hpa, has, hbod] at hy
  refine ⟨_, _, _, _, hy, roundIn_of_wpIn trivial ?_⟩
  clear hy
  gi_wp2
  have hbA := fr_alloc (fr_refl W) (.cells #[.int .i64 x.1, .int .i64 x.2] 40)
  have hX := Blk.new W 40 #[.int .i64 x.1, .int .i64 x.2]
  have hkA : KeepH w.heap.size (tyF 40) W1.heap.size W _ := KeepH.of_below hbA
  replace hi := hi.below hbA
  generalize W.alloc (.cells #[.int .i64 x.1, .int .i64 x.2] 40) = WA at *
  refine ⟨_, run_beginRound hi.lp hst, ?_⟩
  have hkB : KeepH w.heap.size (tyF 40) W1.heap.size W (WA.putObj l (.loop { rec with state := .busy })) := hkA.trans (keepH_put hi.lp rfl (by omega) _)
  replace hX := hX.grown (grownBy_putObj' WA l (.loop { rec with state := .busy })) (fun e => Obj_cells_ne hX hi.lp rfl (by cases e; rfl))
  have hiB := hi.put (by omega) (by omega) { rec with state := .busy }
  generalize WA.putObj l (.loop { rec with state := .busy }) = WB at *
  have hrec : ({ rec with state := .ready, pending := none } : Loop) = rec := by
   cases rec
   simp only at hst hpe
   rw [hst, hpe]
  have fin : ∀ (WC : World) (a : Act) (r : Loop), r = { rec with state := .busy } → BInv 40 50 w.heap.size P lt w2 w.heap.size (w.heap.size + 1) (w.heap.size + 1 + 1) (w.heap.size + 1 + 1 + 1) w2.heap.size l 57 r (d ++ [x]) WC → KeepH w.heap.size (tyF 40) W1.heap.size W WC →
    roundPost Tryz.prog l (fun e W' => e = .returned (.bool true) ∧ BInv 40 50 w.heap.size P lt w2 w.heap.size (w.heap.size + 1) (w.heap.size + 1 + 1) (w.heap.size + 1 + 1 + 1) w2.heap.size l 57 rec (d ++ [x]) W' ∧ KeepH w.heap.size (tyF 40) W1.heap.size W W') .normal a WC := by
   rintro WC a r rfl hi' hk'
   have h0 := hi'.put (by omega) (by omega) { { rec with state := .busy } with state := .ready, pending := none }
   have hk2 : KeepH w.heap.size (tyF 40) W1.heap.size WC (WC.putObj l (.loop { { rec with state := .busy } with state := .ready, pending := none })) := keepH_put hi'.lp rfl (by omega) _
   refine ⟨_, _, run_endRound none hi'.lp, rfl, ?_, hk'.trans hk2⟩
   exact ⟨h0.kp, h0.f, h0.r, h0.o, h0.m, h0.df, h0.lp.trans (congrArg some (congrArg Obj.loop hrec)), h0.al⟩
  obtain ⟨rb, hrb⟩ : ∃ r : Loop, { rec with state := .busy } = r := ⟨_, rfl⟩
  rw [hrb] at hiB
  have FIN := fun WC a => fin WC a rb hrb.symm
  clear fin hrec hrb hst hpe hi htm hpa has hbod hfn
  have hcm := hiB.m.cell 0
  have hco := fun j => hiB.o.cell j
  have hcx := fun j => hX.cell j
  have hcf := hiB.f.cell 0
  cases hq : bestL lt d with
  | none =>
   rw [hq] at hcm
   simp only [Option.isSome_none] at hcm
   have hXo := hiB.o
   clear hco
   gi_wp2
   refine ⟨(fun _ h => by cases h), ?_⟩
   gi_wp2_with (refine wpListIn_store_blk rfl _ _ _ rfl (w.heap.size + 1 + 1) 40 _ _ rfl rfl hXo rfl (by kernel_rfl) (by simp [Value.oneCell']) ?_; intro WD hXD hgD; have hmD := hiB.m.grown hgD (by simp); have hcmD := hmD.cell 0; have hfmD := hmD.frozen 0)
   have hT := hiB.take (H := W1.heap.size) hPx hXD hgD (by rw [hq]; rfl) (by refine ⟨⟨?_, ?_, ?_⟩, ?_, ?_⟩ <;> omega) (by refine ⟨⟨?_, ?_⟩, ?_, ?_⟩ <;> omega)
   exact FIN _ _ hT.1 (hkB.trans hT.2)
  | some y =>
   rw [hq] at hcm hco
   simp only [Option.isSome_some, Option.getD_some, encF] at hcm hco
   gi_wp2
   refine ⟨trivial, ?_⟩
   refine CallsIn.mono (CallsIn.inRound l (callsIn_wide.2 (hb x y WB hPx (hPo y hq)))) ?_
   rintro e wC ⟨rfl, hbC⟩
   replace hiB := hiB.below hbC
   replace hX := hX.keep hbC
   replace hkB := hkB.then_below hbC
   clear hcm hco hcx hcf
   have hcx := fun j => hX.cell j
   have hXo := hiB.o
   rw [hq] at hXo
   cases hlt : lt x y with
   | true =>
    gi_wp2_with (refine wpListIn_store_blk rfl _ _ _ rfl (w.heap.size + 1 + 1) 40 _ _ rfl rfl hXo rfl (by kernel_rfl) (by simp [Value.oneCell']) ?_; intro WD hXD hgD; have hmD := hiB.m.grown hgD (by simp); have hcmD := hmD.cell 0; have hfmD := hmD.frozen 0)
    have hT := hiB.take (H := W1.heap.size) hPx hXD hgD (by rw [hq]; simp only [bestF]; rw [if_pos hlt]) (by refine ⟨⟨?_, ?_, ?_⟩, ?_, ?_⟩ <;> omega) (by refine ⟨⟨?_, ?_⟩, ?_, ?_⟩ <;> omega)
    exact FIN _ _ hT.1 (hkB.trans hT.2)
   | false =>
    gi_wp2
    exact FIN _ _ (hiB.leave hPx (by rw [hq]; simp only [bestF]; rw [hlt]; rfl)) hkB
 refine CallsIn.mono (callsIn_wide.2 (hI l P _ W1 hP (fr_call hb3 hb21) hY h0)) ?_
 rintro e W ⟨rfl, hi, hk⟩
 have hi4 := hi.put (by omega) (by omega) { rec with state := .exhausted, pending := none }
 refine ⟨_, _, run_endLoop hi.lp (by rw [hst]; simp), ?_⟩
 rw [hpe]
 have hR4 := hi4.r
 have hO4 := hi4.o
 have hF4 := hi4.kp.below hb3 (Nat.le_refl _) (Nat.le_refl _)
 have hD4 := hi4.df
 clear hi hk hi4 hY h0 hBf hBr hBo hBm
 generalize W.putObj l (.loop { rec with state := .exhausted, pending := none }) = W4 at *
 unfold encF at hO4
 have hcO := fun j => hO4.cell j
 go_wp2_with (refine wpList_store_blk rfl _ _ _ rfl (w.heap.size + 1) 40 _ _ rfl rfl hR4 rfl (by kernel_rfl) (by simp [Value.oneCell']) ?_; intro W5 hR5 hg5; clear hcO)
 have hk5 : Keep w.heap.size (tyF 40) W4 W5 := Keep.grown hg5 (fun k e => by cases e; exact ⟨by omega, fun cs t fr h => by rw [hR4] at h; cases h; simp [tyF]⟩)
 have hD5 := (hg5.block _ (Array.getElem?_eq_some_iff.1 hD4).1 (fun e => by have e := Option.some.inj e; omega)).trans hD4
 have hF5 := hk5.below hF4 (Nat.le_refl _) (Nat.le_refl _)
 refine ⟨by simp, .inl ⟨_, _, rfl, run_takeDeferred hD5, ?_⟩⟩
 have hk6 : Keep w.heap.size (tyF 40) W5 (W5.putObj w2.heap.size (.deferred none)) := keep_put hD5 rfl (by omega) _
 have hR6 := hR5.grown (grownBy_putObj' W5 w2.heap.size (.deferred none)) (fun e => Obj_cells_ne hR5 hD5 rfl (Option.some.inj e))
 exact ⟨_, results_blk1 rfl _ _ _ _ rfl hR6 Tryz.underlying40 rfl (by kernel_rfl), rfl, hk6.below hF5 (Nat.le_refl _) (Nat.le_refl _)⟩
set_option maxRecDepth 100000 in
set_option maxHeartbeats 8000000 in
theorem best_choice (p0 p1 : Value) (P : Int × Int → Prop) (lt : Int × Int → Int × Int → Bool) (hb : BetF P lt 91) (xs : List (Int × Int)) (hP : ∀ x ∈ xs, P x) (w : World) (hI : IterF 135 89 #[] #[p0, p1] w xs) :
  Calls Tryz.prog 90 #[.func (.func 89) #[] #[p0, p1], .func (.func 91) #[] #[]] w (RetF w ((bestL lt xs).getD (0, 0)).1 ((bestL lt xs).getD (0, 0)).2) := by
 have hb3 := fr_alloc (fr_alloc (fr_alloc (fr_alloc (fr_refl w) (.cells #[.func (.func 91) #[] #[]] 138)) (.cells #[.int .i64 0, .int .i64 0] 135)) (.cells #[.int .i64 0, .int .i64 0] 135)) (.cells #[.bool false] 4)
 have hBf : Blk ((((w.alloc (.cells #[.func (.func 91) #[] #[]] 138)).alloc (.cells #[.int .i64 0, .int .i64 0] 135)).alloc (.cells #[.int .i64 0, .int .i64 0] 135)).alloc (.cells #[.bool false] 4)) w.heap.size 138 #[.func (.func 91) #[] #[]] := (((Blk.new w _ _).alloc _).alloc _).alloc _
 have hBr : Blk ((((w.alloc (.cells #[.func (.func 91) #[] #[]] 138)).alloc (.cells #[.int .i64 0, .int .i64 0] 135)).alloc (.cells #[.int .i64 0, .int .i64 0] 135)).alloc (.cells #[.bool false] 4)) (w.heap.size + 1) 135 #[.int .i64 0, .int .i64 0] := ((Blk.new_at _ _ (by simp)).alloc _).alloc _
 have hBo : Blk ((((w.alloc (.cells #[.func (.func 91) #[] #[]] 138)).alloc (.cells #[.int .i64 0, .int .i64 0] 135)).alloc (.cells #[.int .i64 0, .int .i64 0] 135)).alloc (.cells #[.bool false] 4)) (w.heap.size + 1 + 1) 135 #[.int .i64 0, .int .i64 0] := (Blk.new_at _ _ (by simp)).alloc _
 have hBm : Blk ((((w.alloc (.cells #[.func (.func 91) #[] #[]] 138)).alloc (.cells #[.int .i64 0, .int .i64 0] 135)).alloc (.cells #[.int .i64 0, .int .i64 0] 135)).alloc (.cells #[.bool false] 4)) (w.heap.size + 1 + 1 + 1) 4 #[.bool false] := Blk.new_at _ _ (by simp)
 refine (callsIn_wide (n := 6)).1 (callsIn_of_wp_marks Tryz.func90 rfl trivial ?_ rfl)
 simp only [Tryz.ntmps90, List.size_toArray, List.length_cons, List.length_nil, Nat.reduceAdd, Nat.reduceSub, Array.replicate_succ, Array.replicate_zero, List.push_toArray, List.append_toArray, List.nil_append, List.cons_append]
 refine wpIn_wide.2 ?_
 go_wp2_with fail
 obtain ⟨w2, hw2⟩ : ∃ w2, (((w.alloc (.cells #[.func (.func 91) #[] #[]] 138)).alloc (.cells #[.int .i64 0, .int .i64 0] 135)).alloc (.cells #[.int .i64 0, .int .i64 0] 135)).alloc (.cells #[.bool false] 4) = w2 := ⟨_, rfl⟩
 have hs2 : w.heap.size + 1 + 1 + 1 + 1 ≤ w2.heap.size := by rw [← hw2]; simp
 rw [hw2] at hb3 hBf hBr hBo hBm ⊢
 clear hw2
 refine (wpIn_wide (n := 6)).1 ?_
 refine wpIn_range_enter2 (gf := 89) rfl (enters_of Tryz.func89 (by kernel_rfl) rfl) (fun fn rec hst hpe hfn htm hpa has hbod => ?_)
 generalize hl : w2.heap.size + 1 = l at *
 obtain ⟨W1, hW1⟩ : ∃ W1, (w2.alloc (.deferred (some []))).alloc (.loop rec) = W1 := ⟨_, rfl⟩
 have hL1 : W1.heap[l]? = some (.loop rec) := by
  rw [← hW1, ← hl]; have := World.alloc_heap_new (w2.alloc (.deferred (some []))) (.loop rec); rwa [World.size_alloc] at this
 have hD1 : W1.heap[w2.heap.size]? = some (.deferred (some [])) := by
  rw [← hW1]; exact (Below.heap_alloc _ _ _ (by simp)).trans (World.alloc_heap_new w2 _)
 have hb21 : Below w2.heap.size w2 W1 := by rw [← hW1]; exact fr_alloc (fr_alloc (fr_refl _) _) _
 rw [hW1]
 have h0 : BInv 135 138 w.heap.size P lt w2 w.heap.size (w.heap.size + 1) (w.heap.size + 1 + 1) (w.heap.size + 1 + 1 + 1) w2.heap.size l 91 rec [] W1 :=
  ⟨Keep.of_below hb21, hBf.keep hb21, hBr.keep hb21, hBo.keep hb21, hBm.keep hb21, hD1, hL1, by simp⟩
 have hlH : l < W1.heap.size := (Array.getElem?_eq_some_iff.1 hL1).1
 have hY : ItY w.heap.size (tyF 135) W1.heap.size 5 l OkF P (BInv 135 138 w.heap.size P lt w2 w.heap.size (w.heap.size + 1) (w.heap.size + 1 + 1) (w.heap.size + 1 + 1 + 1) w2.heap.size l 91 rec) := by
  refine ⟨fun d W W' h hb hk => h.move hb hk (by refine ⟨⟨?_, ?_, ?_⟩, ?_, ?_, ?_⟩ <;> omega), ?_⟩
  rintro d x v W hi hPx rfl
  have hPo : ∀ y, bestL lt d = some y → P y := fun y hy => hi.al y (bestL_mem hy)
  have hy := run_yield (P := Tryz.prog) (args := #[.agg #[.int .i64 x.1, .int .i64 x.2]]) hi.lp (by rw [hpa]; rfl)
  rw [hfn, htm, hpa, has, hbod] at hy
  refine ⟨_, _, _, _, hy, roundIn_of_wpIn trivial ?_⟩
  clear hy
  gi_wp2
  have hbA := fr_alloc (fr_refl W) (.cells #[.int .i64 x.1, .int .i64 x.2] 135)
  have hX := Blk.new W 135 #[.int .i64 x.1, .int .i64 x.2]
  have hkA : KeepH w.heap.size (tyF 135) W1.heap.size W _ := KeepH.of_below hbA
  replace hi := hi.below hbA
  generalize W.alloc (.cells #[.int .i64 x.1, .int .i64 x.2] 135) = WA at *
  refine ⟨_, run_beginRound hi.lp hst, ?_⟩
  have hkB : KeepH w.heap.size (tyF 135) W1.heap.size W (WA.putObj l (.loop { rec with state := .busy })) := hkA.trans (keepH_put hi.lp rfl (by omega) _)
  replace hX := hX.grown (grownBy_putObj' WA l (.loop { rec with state := .busy })) (fun e => Obj_cells_ne hX hi.lp rfl (by cases e; rfl))
  have hiB := hi.put (by omega) (by omega) { rec with state := .busy }
  generalize WA.putObj l (.loop { rec with state := .busy }) = WB at *
  have hrec : ({ rec with state := .ready, pending := none } : Loop) = rec := by
   cases rec
   simp only at hst hpe
   rw [hst, hpe]
  have fin : ∀ (WC : World) (a : Act) (r : Loop), r = { rec with state := .busy } → BInv 135 138 w.heap.size P lt w2 w.heap.size (w.heap.size + 1) (w.heap.size + 1 + 1) (w.heap.size + 1 + 1 + 1) w2.heap.size l 91 r (d ++ [x]) WC → KeepH w.heap.size (tyF 135) W1.heap.size W WC →
    roundPost Tryz.prog l (fun e W' => e = .returned (.bool true) ∧ BInv 135 138 w.heap.size P lt w2 w.heap.size (w.heap.size + 1) (w.heap.size + 1 + 1) (w.heap.size + 1 + 1 + 1) w2.heap.size l 91 rec (d ++ [x]) W' ∧ KeepH w.heap.size (tyF 135) W1.heap.size W W') .normal a WC := by
   rintro WC a r rfl hi' hk'
   have h0 := hi'.put (by omega) (by omega) { { rec with state := .busy } with state := .ready, pending := none }
   have hk2 : KeepH w.heap.size (tyF 135) W1.heap.size WC (WC.putObj l (.loop { { rec with state := .busy } with state := .ready, pending := none })) := keepH_put hi'.lp rfl (by omega) _
   refine ⟨_, _, run_endRound none hi'.lp, rfl, ?_, hk'.trans hk2⟩
   exact ⟨h0.kp, h0.f, h0.r, h0.o, h0.m, h0.df, h0.lp.trans (congrArg some (congrArg Obj.loop hrec)), h0.al⟩
  obtain ⟨rb, hrb⟩ : ∃ r : Loop, { rec with state := .busy } = r := ⟨_, rfl⟩
  rw [hrb] at hiB
  have FIN := fun WC a => fin WC a rb hrb.symm
  clear fin hrec hrb hst hpe hi htm hpa has hbod hfn
  have hcm := hiB.m.cell 0
  have hco := fun j => hiB.o.cell j
  have hcx := fun j => hX.cell j
  have hcf := hiB.f.cell 0
  cases hq : bestL lt d with
  | none =>
   rw [hq] at hcm
   simp only [Option.isSome_none] at hcm
   have hXo := hiB.o
   clear hco
   gi_wp2
   refine ⟨(fun _ h => by cases h), ?_⟩
   gi_wp2_with (refine wpListIn_store_blk rfl _ _ _ rfl (w.heap.size + 1 + 1) 135 _ _ rfl rfl hXo rfl (by kernel_rfl) (by simp [Value.oneCell']) ?_; intro WD hXD hgD; have hmD := hiB.m.grown hgD (by simp); have hcmD := hmD.cell 0; have hfmD := hmD.frozen 0)
   have hT := hiB.take (H := W1.heap.size) hPx hXD hgD (by rw [hq]; rfl) (by refine ⟨⟨?_, ?_, ?_⟩, ?_, ?_⟩ <;> omega) (by refine ⟨⟨?_, ?_⟩, ?_, ?_⟩ <;> omega)
   exact FIN _ _ hT.1 (hkB.trans hT.2)
  | some y =>
   rw [hq] at hcm hco
   simp only [Option.isSome_some, Option.getD_some, encF] at hcm hco
   gi_wp2
   refine ⟨trivial, ?_⟩
   refine CallsIn.mono (CallsIn.inRound l (callsIn_wide.2 (hb x y WB hPx (hPo y hq)))) ?_
   rintro e wC ⟨rfl, hbC⟩
   replace hiB := hiB.below hbC
   replace hX := hX.keep hbC
   replace hkB := hkB.then_below hbC
   clear hcm hco hcx hcf
   have hcx := fun j => hX.cell j
   have hXo := hiB.o
   rw [hq] at hXo
   cases hlt : lt x y with
   | true =>
    gi_wp2_with (refine wpListIn_store_blk rfl _ _ _ rfl (w.heap.size + 1 + 1) 135 _ _ rfl rfl hXo rfl (by kernel_rfl) (by simp [Value.oneCell']) ?_; intro WD hXD hgD; have hmD := hiB.m.grown hgD (by simp); have hcmD := hmD.cell 0; have hfmD := hmD.frozen 0)
    have hT := hiB.take (H := W1.heap.size) hPx hXD hgD (by rw [hq]; simp only [bestF]; rw [if_pos hlt]) (by refine ⟨⟨?_, ?_, ?_⟩, ?_, ?_⟩ <;> omega) (by refine ⟨⟨?_, ?_⟩, ?_, ?_⟩ <;> omega)
    exact FIN _ _ hT.1 (hkB.trans hT.2)
   | false =>
    gi_wp2
    exact FIN _ _ (hiB.leave hPx (by rw [hq]; simp only [bestF]; rw [hlt]; rfl)) hkB
 refine CallsIn.mono (callsIn_wide.2 (hI l P _ W1 hP (fr_call hb3 hb21) hY h0)) ?_
 rintro e W ⟨rfl, hi, hk⟩
 have hi4 := hi.put (by omega) (by omega) { rec with state := .exhausted, pending := none }
 refine ⟨_, _, run_endLoop hi.lp (by rw [hst]; simp), ?_⟩
 rw [hpe]
 have hR4 := hi4.r
 have hO4 := hi4.o
 have hF4 := hi4.kp.below hb3 (Nat.le_refl _) (Nat.le_refl _)
 have hD4 := hi4.df
 clear hi hk hi4 hY h0 hBf hBr hBo hBm
 generalize W.putObj l (.loop { rec with state := .exhausted, pending := none }) = W4 at *
 unfold encF at hO4
 have hcO := fun j => hO4.cell j
 go_wp2_with (refine wpList_store_blk rfl _ _ _ rfl (w.heap.size + 1) 135 _ _ rfl rfl hR4 rfl (by kernel_rfl) (by simp [Value.oneCell']) ?_; intro W5 hR5 hg5; clear hcO)
 have hk5 : Keep w.heap.size (tyF 135) W4 W5 := Keep.grown hg5 (fun k e => by cases e; exact ⟨by omega, fun cs t fr h => by rw [hR4] at h; cases h; simp [tyF]⟩)
 have hD5 := (hg5.block _ (Array.getElem?_eq_some_iff.1 hD4).1 (fun e => by have e := Option.some.inj e; omega)).trans hD4
 have hF5 := hk5.below hF4 (Nat.le_refl _) (Nat.le_refl _)
 refine ⟨by simp, .inl ⟨_, _, rfl, run_takeDeferred hD5, ?_⟩⟩
 have hk6 : Keep w.heap.size (tyF 135) W5 (W5.putObj w2.heap.size (.deferred none)) := keep_put hD5 rfl (by omega) _
 have hR6 := hR5.grown (grownBy_putObj' W5 w2.heap.size (.deferred none)) (fun e => Obj_cells_ne hR5 hD5 rfl (Option.some.inj e))
 exact ⟨_, results_blk1 rfl _ _ _ _ rfl hR6 Tryz.underlying135 rfl (by kernel_rfl), rfl, hk6.below hF5 (Nat.le_refl _) (Nat.le_refl _)⟩
end Go.Proofs.YtfgghicdkcjdgaaGreatDoor
end

section
namespace Go.Proofs.YtfgghicdkcjdgaaGreatDoor
open Go.RowKit Go.Shelf
attribute [local go_sem] Oper.semAt_some

/-- how a thing lies in a slice -/
structure Enc {α : Type} (E : TypeId) (B : Nat) (Ok : World → α → Value → Prop) : Prop where
 form : ∀ W x v, Ok W x v → ∃ A n c, v = .slice A n c
 keep : ∀ W W' x v, Ok W x v → Keep B (tyF E) W W' → Ok W' x v
def OkO {α : Type} (Ok : World → α → Value → Prop) (W : World) (o : Option α) (v : Value) : Prop := match o with | none => v = .slice none 0 0 | some y => Ok W y v
theorem Enc.keepO {α : Type} {E : TypeId} {B : Nat} {Ok : World → α → Value → Prop} {W W' : World} {o : Option α} {v : Value} (h : Enc E B Ok) (hv : OkO Ok W o v) (k : Keep B (tyF E) W W') : OkO Ok W' o v := by
 cases o with
 | none => exact hv
 | some y => exact h.keep _ _ _ _ hv k
theorem Enc.formO {α : Type} {E : TypeId} {B : Nat} {Ok : World → α → Value → Prop} {W : World} {o : Option α} {v : Value} (h : Enc E B Ok) (hv : OkO Ok W o v) : ∃ A n c, v = .slice A n c := by
 cases o with
 | none => exact ⟨_, _, _, hv⟩
 | some y => exact h.form _ _ _ hv
/-- the better of two, as a function -/
def BetS {α : Type} (P : α → Prop) (Ok : World → α → Value → Prop) (lt : α → α → Bool) (gb : Nat) (lc : Array Value) (w : World) : Prop := ∀ (x y : α) (v u : Value) (W : World), Below w.heap.size w W → P x → P y → Ok W x v → Ok W y u → Calls Tryz.prog gb (#[v, u] ++ lc) W fun e w' => e = .returned (.bool (lt x y)) ∧ Below W.heap.size W w'
/-- an iterator -/
def IterS {α : Type} (E : TypeId) (Ok : World → α → Value → Prop) (gf : Nat) (first lb : Array Value) (w : World) (xs : List α) : Prop := ∀ (l : Nat) (P : α → Prop) (J : List α → World → Prop) (W : World), (∀ x ∈ xs, P x) → Below w.heap.size w W → ItY w.heap.size (tyF E) W.heap.size 5 l Ok P J → J [] W →
 Calls Tryz.prog gf (first ++ #[.func (.yield l) #[] #[]] ++ lb) W fun e W' => e = .returned (.tuple #[]) ∧ J xs W' ∧ Keep w.heap.size (tyF E) W W'
/-- what holds between two rounds of best -/
structure BInvS {α : Type} (E FT : TypeId) (Ok : World → α → Value → Prop) (B : Nat) (P : α → Prop) (lt : α → α → Bool) (w2 : World) (bb bo bm lD l : Nat) (fv : Value) (rec : Loop) (d : List α) (W : World) : Prop where
 kp : Keep B (tyF E) w2 W
 f : Blk W bb FT #[fv]
 o : ∃ v, Blk W bo E #[v] ∧ OkO Ok W (bestL lt d) v
 m : Blk W bm 4 #[.bool (bestL lt d).isSome]
 df : W.heap[lD]? = some (.deferred (some []))
 lp : W.heap[l]? = some (.loop rec)
 al : ∀ x ∈ d, P x
variable {α : Type} {E FT : TypeId} {Ok : World → α → Value → Prop} {B : Nat} {P : α → Prop} {lt : α → α → Bool} {w2 W W' : World} {bb bo bm lD l : Nat} {fv : Value} {rec : Loop} {d : List α}
theorem BInvS.below (h : BInvS E FT Ok B P lt w2 bb bo bm lD l fv rec d W) (hE : Enc E B Ok) (hb : Below W.heap.size W W') : BInvS E FT Ok B P lt w2 bb bo bm lD l fv rec d W' :=
 ⟨h.kp.then_below hb, h.f.keep hb, let ⟨v, h1, h2⟩ := h.o; ⟨v, h1.keep hb, hE.keepO h2 (Keep.of_below hb)⟩, h.m.keep hb, (hb.block _ (Array.getElem?_eq_some_iff.1 h.df).1).trans h.df, (hb.block _ (Array.getElem?_eq_some_iff.1 h.lp).1).trans h.lp, h.al⟩
theorem BInvS.move {H : Nat} (h : BInvS E FT Ok B P lt w2 bb bo bm lD l fv rec d W) (hE : Enc E B Ok) (hb : Below H W W') (hk : Keep B (tyF E) W W') (hH : (bb < H ∧ bo < H) ∧ bm < H ∧ lD < H ∧ l < H) : BInvS E FT Ok B P lt w2 bb bo bm lD l fv rec d W' :=
 ⟨h.kp.trans hk, h.f.low hb hH.1.1, let ⟨v, h1, h2⟩ := h.o; ⟨v, h1.low hb hH.1.2, hE.keepO h2 hk⟩, h.m.low hb hH.2.1, (hb.block _ hH.2.2.1).trans h.df, (hb.block _ hH.2.2.2).trans h.lp, h.al⟩
theorem BInvS.put (h : BInvS E FT Ok B P lt w2 bb bo bm lD l fv rec d W) (hE : Enc E B Ok) (hB : B ≤ l) (hne : lD ≠ l) (r' : Loop) : BInvS E FT Ok B P lt w2 bb bo bm lD l fv r' d (W.putObj l (.loop r')) := by
 have hg := grownBy_putObj' W l (.loop r')
 have hk : Keep B (tyF E) W (W.putObj l (.loop r')) := keep_put h.lp rfl hB _
 have hn : ∀ {k : Nat} {t : TypeId} {cs : Array Value}, Blk W k t cs → some k ≠ some l := fun hK e => Obj_cells_ne hK h.lp rfl (by cases e; rfl)
 obtain ⟨v, h1, h2⟩ := h.o
 exact ⟨h.kp.trans hk, h.f.grown hg (hn h.f), ⟨v, h1.grown hg (hn h1), hE.keepO h2 hk⟩, h.m.grown hg (hn h.m), (World.putObj_heap_other hne).trans h.df, World.putObj_heap_same (Array.getElem?_eq_some_iff.1 h.lp).1, h.al⟩
/-- one was taken -/
theorem BInvS.take {x : α} {u : Value} {H : Nat} (h : BInvS E FT Ok B P lt w2 bb bo bm lD l fv rec d W) (hE : Enc E B Ok) (hP : P x) (hO : Ok W x u) (hx : bestF lt (bestL lt d) x = some x)
  (hn : (bb ≠ bo ∧ bm ≠ bo) ∧ bb ≠ bm) (hB : (B ≤ bo ∧ bo < H) ∧ B ≤ bm ∧ bm < H) : BInvS E FT Ok B P lt w2 bb bo bm lD l fv rec (d ++ [x]) ((W.setCell ⟨bo, 0, none⟩ u).setCell ⟨bm, 0, none⟩ (.bool true)) ∧ KeepH B (tyF E) H W ((W.setCell ⟨bo, 0, none⟩ u).setCell ⟨bm, 0, none⟩ (.bool true)) := by
 obtain ⟨v, ho, _⟩ := h.o
 have hg := grown_set W ⟨bo, 0, none⟩ u
 have hk1 : KeepH B (tyF E) H W (W.setCell ⟨bo, 0, none⟩ u) := KeepH.grown hg (fun k e => by cases e; exact ⟨hB.1, fun cs t fr hh => by rw [ho] at hh; cases hh; simp [tyF]⟩)
 have hm : Blk (W.setCell ⟨bo, 0, none⟩ u) bm 4 _ := h.m.far (p := ⟨bo, 0, none⟩) hn.1.2 _
 have hk2 : KeepH B (tyF E) H (W.setCell ⟨bo, 0, none⟩ u) ((W.setCell ⟨bo, 0, none⟩ u).setCell ⟨bm, 0, none⟩ (.bool true)) := KeepH.grown (grown_set _ ⟨bm, 0, none⟩ _) (fun k e => by cases e; exact ⟨hB.2, fun cs t fr hh => by rw [hm] at hh; cases hh; simp [tyF]⟩)
 refine ⟨⟨(h.kp.trans hk1.k).trans hk2.k, (h.f.far (p := ⟨bo, 0, none⟩) hn.1.1 _).far (p := ⟨bm, 0, none⟩) hn.2 _, ⟨u, ?_, ?_⟩, ?_, ?_, ?_, all_snoc h.al hP⟩, hk1.trans hk2⟩
 ·exact (ho.set_ 0 u).far (p := ⟨bm, 0, none⟩) hn.1.2.symm _
 ·rw [bestL_snoc, hx]
  exact hE.keep _ _ _ _ hO (hk1.trans hk2).k
 ·rw [bestL_snoc, hx]
  exact hm.set_ 0 _
 ·exact heap_setO hm (heap_setO ho h.df rfl _) rfl _
 ·exact heap_setO hm (heap_setO ho h.lp rfl _) rfl _
/-- one was left -/
theorem BInvS.leave {x : α} (h : BInvS E FT Ok B P lt w2 bb bo bm lD l fv rec d W) (hP : P x) (hx : bestF lt (bestL lt d) x = bestL lt d) : BInvS E FT Ok B P lt w2 bb bo bm lD l fv rec (d ++ [x]) W :=
 ⟨h.kp, h.f, by rw [bestL_snoc, hx]; exact h.o, by rw [bestL_snoc, hx]; exact h.m, h.df, h.lp, all_snoc h.al hP⟩
/-- the best is returned -/
def RetV {α : Type} (Ok : World → α → Value → Prop) (w : World) (o : Option α) (e : Ending) (w' : World) : Prop := ∃ v, e = .returned v ∧ OkO Ok w' o v ∧ Below w.heap.size w w'
end Go.Proofs.YtfgghicdkcjdgaaGreatDoor
end

section
namespace Go.Proofs.YtfgghicdkcjdgaaGreatDoor
open Go.RowKit Go.Shelf
attribute [local go_sem] Oper.semAt_some
set_option maxRecDepth 100000 in
set_option maxHeartbeats 8000000 in
theorem best_ints (p0 : Value) (P : List Int → Prop) (Ok : World → List Int → Value → Prop) (lt : List Int → List Int → Bool) (xs : List (List Int)) (w : World) (hE : Enc 34 w.heap.size Ok) (hb : BetS P Ok lt 87 #[] w) (hP : ∀ x ∈ xs, P x) (hI : IterS 34 Ok 84 #[] #[p0] w xs) :
  Calls Tryz.prog 86 #[.func (.func 84) #[] #[p0], .func (.func 87) #[] #[]] w (RetV Ok w (bestL lt xs)) := by
 have hb3 := fr_alloc (fr_alloc (fr_alloc (fr_refl w) (.cells #[.func (.func 87) #[] #[]] 86)) (.cells #[.slice none 0 0] 34)) (.cells #[.bool false] 4)
 have hBf : Blk (((w.alloc (.cells #[.func (.func 87) #[] #[]] 86)).alloc (.cells #[.slice none 0 0] 34)).alloc (.cells #[.bool false] 4)) w.heap.size 86 #[.func (.func 87) #[] #[]] := ((Blk.new w _ _).alloc _).alloc _
 have hBo : Blk (((w.alloc (.cells #[.func (.func 87) #[] #[]] 86)).alloc (.cells #[.slice none 0 0] 34)).alloc (.cells #[.bool false] 4)) (w.heap.size + 1) 34 #[.slice none 0 0] := (Blk.new_at _ _ (by simp)).alloc _
 have hBm : Blk (((w.alloc (.cells #[.func (.func 87) #[] #[]] 86)).alloc (.cells #[.slice none 0 0] 34)).alloc (.cells #[.bool false] 4)) (w.heap.size + 1 + 1) 4 #[.bool false] := Blk.new_at _ _ (by simp)
 refine (callsIn_wide (n := 6)).1 (callsIn_of_wp_marks Tryz.func86 rfl trivial ?_ rfl)
 simp only [Tryz.ntmps86, List.size_toArray, List.length_cons, List.length_nil, Nat.reduceAdd, Nat.reduceSub, Array.replicate_succ, Array.replicate_zero, List.push_toArray, List.append_toArray, List.nil_append, List.cons_append]
 refine wpIn_wide.2 ?_
 go_wp2_with fail
 obtain ⟨w2, hw2⟩ : ∃ w2, ((w.alloc (.cells #[.func (.func 87) #[] #[]] 86)).alloc (.cells #[.slice none 0 0] 34)).alloc (.cells #[.bool false] 4) = w2 := ⟨_, rfl⟩
 have hs2 : w.heap.size + 1 + 1 + 1 ≤ w2.heap.size := by rw [← hw2]; simp
 rw [hw2] at hb3 hBf hBo hBm ⊢
 clear hw2
 refine (wpIn_wide (n := 6)).1 ?_
 refine wpIn_range_enter2 (gf := 84) rfl (enters_of Tryz.func84 (by kernel_rfl) rfl) (fun fn rec hst hpe hfn htm hpa has hbod => ?_)
 generalize hl : w2.heap.size + 1 = l at *
 obtain ⟨W1, hW1⟩ : ∃ W1, (w2.alloc (.deferred (some []))).alloc (.loop rec) = W1 := ⟨_, rfl⟩
 have hL1 : W1.heap[l]? = some (.loop rec) := by
  rw [← hW1, ← hl]; have := World.alloc_heap_new (w2.alloc (.deferred (some []))) (.loop rec); rwa [World.size_alloc] at this
 have hD1 : W1.heap[w2.heap.size]? = some (.deferred (some [])) := by
  rw [← hW1]; exact (Below.heap_alloc _ _ _ (by simp)).trans (World.alloc_heap_new w2 _)
 have hb21 : Below w2.heap.size w2 W1 := by rw [← hW1]; exact fr_alloc (fr_alloc (fr_refl _) _) _
 rw [hW1]
 have h0 : BInvS 34 86 Ok w.heap.size P lt w2 w.heap.size (w.heap.size + 1) (w.heap.size + 1 + 1) w2.heap.size l (.func (.func 87) #[] #[]) rec [] W1 :=
  ⟨Keep.of_below hb21, hBf.keep hb21, ⟨_, hBo.keep hb21, rfl⟩, hBm.keep hb21, hD1, hL1, by simp⟩
 have hlH : l < W1.heap.size := (Array.getElem?_eq_some_iff.1 hL1).1
 have hY : ItY w.heap.size (tyF 34) W1.heap.size 5 l Ok P (BInvS 34 86 Ok w.heap.size P lt w2 w.heap.size (w.heap.size + 1) (w.heap.size + 1 + 1) w2.heap.size l (.func (.func 87) #[] #[]) rec) := by
  refine ⟨fun d W W' h hb hk => h.move hE hb hk (by refine ⟨⟨?_, ?_⟩, ?_, ?_, ?_⟩ <;> omega), ?_⟩
  rintro d x v W hi hPx hOx
  have hPo : ∀ y, bestL lt d = some y → P y := fun y hy => hi.al y (bestL_mem hy)
  obtain ⟨A1, n1, c1, rfl⟩ := hE.form _ _ _ hOx
  have hy := run_yield (P := Tryz.prog) (args := #[.slice A1 n1 c1]) hi.lp (by rw [hpa]; rfl)
  rw [hfn, htm, hpa, has, hbod] at hy
  refine ⟨_, _, _, _, hy, roundIn_of_wpIn trivial ?_⟩
  clear hy
  gi_wp2
  refine ⟨_, run_beginRound hi.lp hst, ?_⟩
  have hkB : KeepH w.heap.size (tyF 34) W1.heap.size W (W.putObj l (.loop { rec with state := .busy })) := keepH_put hi.lp rfl (by omega) _
  have hiB := hi.put hE (by omega) (by omega) { rec with state := .busy }
  replace hOx := hE.keep _ _ _ _ hOx hkB.k
  generalize W.putObj l (.loop { rec with state := .busy }) = WB at *
  have hrec : ({ rec with state := .ready, pending := none } : Loop) = rec := by
   cases rec
   simp only at hst hpe
   rw [hst, hpe]
  have fin : ∀ (WC : World) (a : Act) (r : Loop), r = { rec with state := .busy } → BInvS 34 86 Ok w.heap.size P lt w2 w.heap.size (w.heap.size + 1) (w.heap.size + 1 + 1) w2.heap.size l (.func (.func 87) #[] #[]) r (d ++ [x]) WC → KeepH w.heap.size (tyF 34) W1.heap.size W WC →
    roundPost Tryz.prog l (fun e W' => e = .returned (.bool true) ∧ BInvS 34 86 Ok w.heap.size P lt w2 w.heap.size (w.heap.size + 1) (w.heap.size + 1 + 1) w2.heap.size l (.func (.func 87) #[] #[]) rec (d ++ [x]) W' ∧ KeepH w.heap.size (tyF 34) W1.heap.size W W') .normal a WC := by
   rintro WC a r rfl hi' hk'
   have h0 := hi'.put hE (by omega) (by omega) { { rec with state := .busy } with state := .ready, pending := none }
   have hk2 : KeepH w.heap.size (tyF 34) W1.heap.size WC (WC.putObj l (.loop { { rec with state := .busy } with state := .ready, pending := none })) := keepH_put hi'.lp rfl (by omega) _
   refine ⟨_, _, run_endRound none hi'.lp, rfl, ?_, hk'.trans hk2⟩
   exact ⟨h0.kp, h0.f, h0.o, h0.m, h0.df, h0.lp.trans (congrArg some (congrArg Obj.loop hrec)), h0.al⟩
  obtain ⟨rb, hrb⟩ : ∃ r : Loop, { rec with state := .busy } = r := ⟨_, rfl⟩
  rw [hrb] at hiB
  have FIN := fun WC a => fin WC a rb hrb.symm
  clear fin hrec hrb hst hpe hi htm hpa has hbod hfn
  have hcm := hiB.m.cell 0
  have hfm := hiB.m.frozen 0
  have hcf := hiB.f.cell 0
  obtain ⟨v0, hXo, hO0⟩ := hiB.o
  have hfo := hXo.frozen 0
  have hco := hXo.cell 0
  have hmw := fun u => (hiB.m.far (p := ⟨w.heap.size + 1, 0, none⟩) (by show ¬ _ = w.heap.size + 1; omega) u).cell 0
  have hfw := fun u => (hiB.m.far (p := ⟨w.heap.size + 1, 0, none⟩) (by show ¬ _ = w.heap.size + 1; omega) u).frozen 0
  cases hq : bestL lt d with
  | none =>
   rw [hq] at hcm
   simp only [Option.isSome_none] at hcm
   gi_wp2
   refine ⟨(fun _ h => by cases h), ?_⟩
   gi_wp2
   have hT := hiB.take (H := W1.heap.size) hE hPx hOx (by rw [hq]; rfl) (by refine ⟨⟨?_, ?_⟩, ?_⟩ <;> omega) (by refine ⟨⟨?_, ?_⟩, ?_, ?_⟩ <;> omega)
   exact FIN _ _ hT.1 (hkB.trans hT.2)
  | some y =>
   rw [hq] at hcm hO0
   simp only [Option.isSome_some] at hcm
   obtain ⟨A0, n0, c0, rfl⟩ := hE.form _ _ _ hO0
   gi_wp2
   refine ⟨trivial, ?_⟩
   refine CallsIn.mono (CallsIn.inRound l (callsIn_wide.2 (hb x y _ _ WB (hiB.kp.below hb3 (Nat.le_refl _) (Nat.le_refl _)) hPx (hPo y hq) hOx hO0))) ?_
   rintro e wC ⟨rfl, hbC⟩
   replace hiB := hiB.below hE hbC
   replace hkB := hkB.then_below hbC
   replace hOx := hE.keep _ _ _ _ hOx (Keep.of_below hbC)
   replace hXo := hXo.keep hbC
   clear hcm hco hcf hfm hfo hmw hfw
   have hfo := hXo.frozen 0
   have hco := hXo.cell 0
   have hmw := fun u => (hiB.m.far (p := ⟨w.heap.size + 1, 0, none⟩) (by show ¬ _ = w.heap.size + 1; omega) u).cell 0
   have hfw := fun u => (hiB.m.far (p := ⟨w.heap.size + 1, 0, none⟩) (by show ¬ _ = w.heap.size + 1; omega) u).frozen 0
   cases hlt : lt x y with
   | true =>
    gi_wp2
    have hT := hiB.take (H := W1.heap.size) hE hPx hOx (by rw [hq]; simp only [bestF]; rw [if_pos hlt]) (by refine ⟨⟨?_, ?_⟩, ?_⟩ <;> omega) (by refine ⟨⟨?_, ?_⟩, ?_, ?_⟩ <;> omega)
    exact FIN _ _ hT.1 (hkB.trans hT.2)
   | false =>
    gi_wp2
    exact FIN _ _ (hiB.leave hPx (by rw [hq]; simp only [bestF]; rw [hlt]; rfl)) hkB
 refine CallsIn.mono (callsIn_wide.2 (hI l P _ W1 hP (fr_call hb3 hb21) hY h0)) ?_
 rintro e W ⟨rfl, hi, hk⟩
 have hi4 := hi.put hE (by omega) (by omega) { rec with state := .exhausted, pending := none }
 refine ⟨_, _, run_endLoop hi.lp (by rw [hst]; simp), ?_⟩
 rw [hpe]
 obtain ⟨v4, hO4, hQ4⟩ := hi4.o
 have hF4 := hi4.kp.below hb3 (Nat.le_refl _) (Nat.le_refl _)
 have hD4 := hi4.df
 clear hi hk hi4 hY h0 hBf hBo hBm
 generalize W.putObj l (.loop { rec with state := .exhausted, pending := none }) = W4 at *
 obtain ⟨A4, n4, c4, rfl⟩ := hE.formO hQ4
 have hcO := hO4.cell 0
 go_wp2_with fail
 refine ⟨by simp, .inl ⟨_, _, rfl, run_takeDeferred hD4, ?_⟩⟩
 have hk6 : Keep w.heap.size (tyF 34) W4 (W4.putObj w2.heap.size (.deferred none)) := keep_put hD4 rfl (by omega) _
 exact ⟨_, results_tmp rfl _ _ _, _, rfl, hE.keepO hQ4 hk6, hk6.below hF4 (Nat.le_refl _) (Nat.le_refl _)⟩
set_option maxRecDepth 100000 in
set_option maxHeartbeats 8000000 in
theorem best_pairs (p0 p1 : Value) (P : List Wh → Prop) (Ok : World → List Wh → Value → Prop) (lt : List Wh → List Wh → Bool) (xs : List (List Wh)) (w : World) (hE : Enc 26 w.heap.size Ok) (hb : BetS P Ok lt 65 #[p1] w) (hP : ∀ x ∈ xs, P x) (hI : IterS 26 Ok 62 #[] #[p0] w xs) :
  Calls Tryz.prog 64 #[.func (.func 62) #[] #[p0], .func (.func 65) #[] #[p1]] w (RetV Ok w (bestL lt xs)) := by
 have hb3 := fr_alloc (fr_alloc (fr_alloc (fr_refl w) (.cells #[.func (.func 65) #[] #[p1]] 64)) (.cells #[.slice none 0 0] 26)) (.cells #[.bool false] 4)
 have hBf : Blk (((w.alloc (.cells #[.func (.func 65) #[] #[p1]] 64)).alloc (.cells #[.slice none 0 0] 26)).alloc (.cells #[.bool false] 4)) w.heap.size 64 #[.func (.func 65) #[] #[p1]] := ((Blk.new w _ _).alloc _).alloc _
 have hBo : Blk (((w.alloc (.cells #[.func (.func 65) #[] #[p1]] 64)).alloc (.cells #[.slice none 0 0] 26)).alloc (.cells #[.bool false] 4)) (w.heap.size + 1) 26 #[.slice none 0 0] := (Blk.new_at _ _ (by simp)).alloc _
 have hBm : Blk (((w.alloc (.cells #[.func (.func 65) #[] #[p1]] 64)).alloc (.cells #[.slice none 0 0] 26)).alloc (.cells #[.bool false] 4)) (w.heap.size + 1 + 1) 4 #[.bool false] := Blk.new_at _ _ (by simp)
 refine (callsIn_wide (n := 6)).1 (callsIn_of_wp_marks Tryz.func64 rfl trivial ?_ rfl)
 simp only [Tryz.ntmps64, List.size_toArray, List.length_cons, List.length_nil, Nat.reduceAdd, Nat.reduceSub, Array.replicate_succ, Array.replicate_zero, List.push_toArray, List.append_toArray, List.nil_append, List.cons_append]
 refine wpIn_wide.2 ?_
 go_wp2_with fail
 obtain ⟨w2, hw2⟩ : ∃ w2, ((w.alloc (.cells #[.func (.func 65) #[] #[p1]] 64)).alloc (.cells #[.slice none 0 0] 26)).alloc (.cells #[.bool false] 4) = w2 := ⟨_, rfl⟩
 have hs2 : w.heap.size + 1 + 1 + 1 ≤ w2.heap.size := by rw [← hw2]; simp
 rw [hw2] at hb3 hBf hBo hBm ⊢
 clear hw2
 refine (wpIn_wide (n := 6)).1 ?_
 refine wpIn_range_enter2 (gf := 62) rfl (enters_of Tryz.func62 (by kernel_rfl) rfl) (fun fn rec hst hpe hfn htm hpa has hbod => ?_)
 generalize hl : w2.heap.size + 1 = l at *
 obtain ⟨W1, hW1⟩ : ∃ W1, (w2.alloc (.deferred (some []))).alloc (.loop rec) = W1 := ⟨_, rfl⟩
 have hL1 : W1.heap[l]? = some (.loop rec) := by
  rw [← hW1, ← hl]; have := World.alloc_heap_new (w2.alloc (.deferred (some []))) (.loop rec); rwa [World.size_alloc] at this
 have hD1 : W1.heap[w2.heap.size]? = some (.deferred (some [])) := by
  rw [← hW1]; exact (Below.heap_alloc _ _ _ (by simp)).trans (World.alloc_heap_new w2 _)
 have hb21 : Below w2.heap.size w2 W1 := by rw [← hW1]; exact fr_alloc (fr_alloc (fr_refl _) _) _
 rw [hW1]
 have h0 : BInvS 26 64 Ok w.heap.size P lt w2 w.heap.size (w.heap.size + 1) (w.heap.size + 1 + 1) w2.heap.size l (.func (.func 65) #[] #[p1]) rec [] W1 :=
  ⟨Keep.of_below hb21, hBf.keep hb21, ⟨_, hBo.keep hb21, rfl⟩, hBm.keep hb21, hD1, hL1, by simp⟩
 have hlH : l < W1.heap.size := (Array.getElem?_eq_some_iff.1 hL1).1
 have hY : ItY w.heap.size (tyF 26) W1.heap.size 5 l Ok P (BInvS 26 64 Ok w.heap.size P lt w2 w.heap.size (w.heap.size + 1) (w.heap.size + 1 + 1) w2.heap.size l (.func (.func 65) #[] #[p1]) rec) := by
  refine ⟨fun d W W' h hb hk => h.move hE hb hk (by refine ⟨⟨?_, ?_⟩, ?_, ?_, ?_⟩ <;> omega), ?_⟩
  rintro d x v W hi hPx hOx
  have hPo : ∀ y, bestL lt d = some y → P y := fun y hy => hi.al y (bestL_mem hy)
  obtain ⟨A1, n1, c1, rfl⟩ := hE.form _ _ _ hOx
  have hy := run_yield (P := Tryz.prog) (args := #[.slice A1 n1 c1]) hi.lp (by rw [hpa]; rfl)
  rw [hfn, htm, hpa, has, hbod] at hy
  refine ⟨_, _, _, _, hy, roundIn_of_wpIn trivial ?_⟩
  clear hy
  gi_wp2
  refine ⟨_, run_beginRound hi.lp hst, ?_⟩
  have hkB : KeepH w.heap.size (tyF 26) W1.heap.size W (W.putObj l (.loop { rec with state := .busy })) := keepH_put hi.lp rfl (by omega) _
  have hiB := hi.put hE (by omega) (by omega) { rec with state := .busy }
  replace hOx := hE.keep _ _ _ _ hOx hkB.k
  generalize W.putObj l (.loop { rec with state := .busy }) = WB at *
  have hrec : ({ rec with state := .ready, pending := none } : Loop) = rec := by
   cases rec
   simp only at hst hpe
   rw [hst, hpe]
  have fin : ∀ (WC : World) (a : Act) (r : Loop), r = { rec with state := .busy } → BInvS 26 64 Ok w.heap.size P lt w2 w.heap.size (w.heap.size + 1) (w.heap.size + 1 + 1) w2.heap.size l (.func (.func 65) #[] #[p1]) r (d ++ [x]) WC → KeepH w.heap.size (tyF 26) W1.heap.size W WC →
    roundPost Tryz.prog l (fun e W' => e = .returned (.bool true) ∧ BInvS 26 64 Ok w.heap.size P lt w2 w.heap.size (w.heap.size + 1) (w.heap.size + 1 + 1) w2.heap.size l (.func (.func 65) #[] #[p1]) rec (d ++ [x]) W' ∧ KeepH w.heap.size (tyF 26) W1.heap.size W W') .normal a WC := by
   rintro WC a r rfl hi' hk'
   have h0 := hi'.put hE (by omega) (by omega) { { rec with state := .busy } with state := .ready, pending := none }
   have hk2 : KeepH w.heap.size (tyF 26) W1.heap.size WC (WC.putObj l (.loop { { rec with state := .busy } with state := .ready, pending := none })) := keepH_put hi'.lp rfl (by omega) _
   refine ⟨_, _, run_endRound none hi'.lp, rfl, ?_, hk'.trans hk2⟩
   exact ⟨h0.kp, h0.f, h0.o, h0.m, h0.df, h0.lp.trans (congrArg some (congrArg Obj.loop hrec)), h0.al⟩
  obtain ⟨rb, hrb⟩ : ∃ r : Loop, { rec with state := .busy } = r := ⟨_, rfl⟩
  rw [hrb] at hiB
  have FIN := fun WC a => fin WC a rb hrb.symm
  clear fin hrec hrb hst hpe hi htm hpa has hbod hfn
  have hcm := hiB.m.cell 0
  have hfm := hiB.m.frozen 0
  have hcf := hiB.f.cell 0
  obtain ⟨v0, hXo, hO0⟩ := hiB.o
  have hfo := hXo.frozen 0
  have hco := hXo.cell 0
  have hmw := fun u => (hiB.m.far (p := ⟨w.heap.size + 1, 0, none⟩) (by show ¬ _ = w.heap.size + 1; omega) u).cell 0
  have hfw := fun u => (hiB.m.far (p := ⟨w.heap.size + 1, 0, none⟩) (by show ¬ _ = w.heap.size + 1; omega) u).frozen 0
  cases hq : bestL lt d with
  | none =>
   rw [hq] at hcm
   simp only [Option.isSome_none] at hcm
   gi_wp2
   refine ⟨(fun _ h => by cases h), ?_⟩
   gi_wp2
   have hT := hiB.take (H := W1.heap.size) hE hPx hOx (by rw [hq]; rfl) (by refine ⟨⟨?_, ?_⟩, ?_⟩ <;> omega) (by refine ⟨⟨?_, ?_⟩, ?_, ?_⟩ <;> omega)
   exact FIN _ _ hT.1 (hkB.trans hT.2)
  | some y =>
   rw [hq] at hcm hO0
   simp only [Option.isSome_some] at hcm
   obtain ⟨A0, n0, c0, rfl⟩ := hE.form _ _ _ hO0
   gi_wp2
   refine ⟨trivial, ?_⟩
   refine CallsIn.mono (CallsIn.inRound l (callsIn_wide.2 (hb x y _ _ WB (hiB.kp.below hb3 (Nat.le_refl _) (Nat.le_refl _)) hPx (hPo y hq) hOx hO0))) ?_
   rintro e wC ⟨rfl, hbC⟩
   replace hiB := hiB.below hE hbC
   replace hkB := hkB.then_below hbC
   replace hOx := hE.keep _ _ _ _ hOx (Keep.of_below hbC)
   replace hXo := hXo.keep hbC
   clear hcm hco hcf hfm hfo hmw hfw
   have hfo := hXo.frozen 0
   have hco := hXo.cell 0
   have hmw := fun u => (hiB.m.far (p := ⟨w.heap.size + 1, 0, none⟩) (by show ¬ _ = w.heap.size + 1; omega) u).cell 0
   have hfw := fun u => (hiB.m.far (p := ⟨w.heap.size + 1, 0, none⟩) (by show ¬ _ = w.heap.size + 1; omega) u).frozen 0
   cases hlt : lt x y with
   | true =>
    gi_wp2
    have hT := hiB.take (H := W1.heap.size) hE hPx hOx (by rw [hq]; simp only [bestF]; rw [if_pos hlt]) (by refine ⟨⟨?_, ?_⟩, ?_⟩ <;> omega) (by refine ⟨⟨?_, ?_⟩, ?_, ?_⟩ <;> omega)
    exact FIN _ _ hT.1 (hkB.trans hT.2)
   | false =>
    gi_wp2
    exact FIN _ _ (hiB.leave hPx (by rw [hq]; simp only [bestF]; rw [hlt]; rfl)) hkB
 refine CallsIn.mono (callsIn_wide.2 (hI l P _ W1 hP (fr_call hb3 hb21) hY h0)) ?_
 rintro e W ⟨rfl, hi, hk⟩
 have hi4 := hi.put hE (by omega) (by omega) { rec with state := .exhausted, pending := none }
 refine ⟨_, _, run_endLoop hi.lp (by rw [hst]; simp), ?_⟩
 rw [hpe]
 obtain ⟨v4, hO4, hQ4⟩ := hi4.o
 have hF4 := hi4.kp.below hb3 (Nat.le_refl _) (Nat.le_refl _)
 have hD4 := hi4.df
 clear hi hk hi4 hY h0 hBf hBo hBm
 generalize W.putObj l (.loop { rec with state := .exhausted, pending := none }) = W4 at *
 obtain ⟨A4, n4, c4, rfl⟩ := hE.formO hQ4
 have hcO := hO4.cell 0
 go_wp2_with fail
 refine ⟨by simp, .inl ⟨_, _, rfl, run_takeDeferred hD4, ?_⟩⟩
 have hk6 : Keep w.heap.size (tyF 26) W4 (W4.putObj w2.heap.size (.deferred none)) := keep_put hD4 rfl (by omega) _
 exact ⟨_, results_tmp rfl _ _ _, _, rfl, hE.keepO hQ4 hk6, hk6.below hF4 (Nat.le_refl _) (Nat.le_refl _)⟩
end Go.Proofs.YtfgghicdkcjdgaaGreatDoor
end

section
namespace Go.Proofs.YtfgghicdkcjdgaaGreatDoor
open Go.RowKit Go.Shelf
attribute [local go_sem] Oper.semAt_some

/-- the fraction by which teeth turn the hand -/
def fracOf (t : List Int) : Int × Int := ((turnD (pairsOf t) : Int), (turnV (pairsOf t) : Int))
/-- teeth that a search found -/
def OkT (ts : List (List Int)) : Prop := ∀ t ∈ ts, (2 ≤ t.length ∧ t.length ≤ 6) ∧ TeethOk t
set_option maxRecDepth 100000 in
set_option maxHeartbeats 8000000 in
theorem turning_any {T : TypeId → Bool} {H : Nat} (A N L : Option Addr) (nw wc nn nc lc n : Nat) (ts : List (List Int)) (w : World) (hT : TsAt w L ts) (hts : OkT ts) (hl : ts.length = n) (hn : n ≤ 50000) (l : Nat) (P : Int × Int → Prop) (J : List (Int × Int) → World → Prop) (W : World) (hP : ∀ x ∈ ts.map fracOf, P x)
  (hb : Below w.heap.size w W) (hH : H ≤ W.heap.size) (hY : ItY w.heap.size T H 5 l OkF P J) (hJ : J [] W) :
  Calls Tryz.prog 55 #[.agg #[.slice A nw wc, .slice N nn nc, .slice L n lc], .func (.yield l) #[] #[]] W fun e W' => e = .returned (.tuple #[]) ∧ J (ts.map fracOf) W' ∧ Keep w.heap.size T W W' := by
 have HL := Lib.hid hl
 clear hl
 refine (callsIn_wide (n := 6)).1 ?_
 refine callsIn_of_wp Tryz.func55 rfl trivial ?_ rfl
 simp only [Tryz.ntmps55, List.size_toArray, List.length_cons, List.length_nil, Nat.reduceAdd, Nat.reduceSub, Array.replicate_succ, Array.replicate_zero, List.push_toArray, List.append_toArray, List.nil_append, List.cons_append]
 have hX := Blk.new W 93 #[.slice A nw wc, .slice N nn nc, .slice L n lc]
 have hbA := fr_alloc (fr_refl W) (.cells #[.slice A nw wc, .slice N nn nc, .slice L n lc] 93)
 have hJA := hY.below hJ hbA hH
 have hcX := fun j => hX.cell j
 gi_wp2
 gi_loopw [9] (fun p wr => ∃ k : Nat, k ≤ n ∧ p = .int .i64 k ∧ J ((ts.map fracOf).take k) wr ∧ Keep w.heap.size T W wr) (fun p _ => n - (intOf p).toNat)
 case atStart => exact ⟨0, Nat.zero_le _, rfl, by simpa using hJA, Keep.of_below hbA⟩
 case round =>
  obtain ⟨k, hk, rfl, hJk, hkk⟩ := hrel
  by_cases hlt : k < n
  ·have hkl : k < ts.length := by have := HL.out; omega
   have hbw := hkk.below hb (Nat.le_refl _) (Nat.le_refl _)
   obtain ⟨ad, A', c', rfl, hab, hc, hr⟩ := (hT.keep hbw).at_ hkl
   have hok := hts _ (List.getElem_mem hkl)
   have hb2 := hok.1.1
   have hb6 := hok.1.2
   have hoT := hok.2
   clear hcX hX hJA hT hok hts
   gi_wp2
   refine ⟨trivial, ?_⟩
   refine CallsIn.mono (callsIn_wide.2 (gturns_any A' _ c' ts[k] wr hr hb2 hb6 hoT)) ?_
   rintro e w1 ⟨rfl, hb1⟩
   have hJ1 := hY.below hJk hb1 (Nat.le_trans hH hkk.size)
   have hk1 := hkk.then_below hb1
   obtain ⟨fn, tmps, assign, body, hy, hR⟩ := hY.yield _ (fracOf ts[k]) _ w1 hJ1 (hP _ (List.mem_map.2 ⟨_, List.getElem_mem hkl, rfl⟩)) rfl
   unfold encF fracOf at hy
   simp only at hy
   gi_wp2
   refine hR.mono ?_
   rintro e w2 ⟨rfl, hJ2, hk2⟩
   gi_wp2
   refine ⟨⟨k + 1, hlt, rfl, ?_, hk1.trans hk2.k⟩, ?_⟩
   ·rw [List.take_succ_eq_append_getElem (by simpa using hkl), List.getElem_map]
    exact hJ2
   ·simp [intOf]; omega
  ·have hkn : (ts.map fracOf).take k = ts.map fracOf := List.take_of_length_le (by have := HL.out; simp; omega)
   rw [hkn] at hJk
   gi_wp2
   go_end0
   exact ⟨rfl, hJk, hkk⟩
end Go.Proofs.YtfgghicdkcjdgaaGreatDoor
end
