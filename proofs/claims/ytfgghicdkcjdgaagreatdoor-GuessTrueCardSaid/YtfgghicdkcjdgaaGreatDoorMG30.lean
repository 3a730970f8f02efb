/- Walk: Known, what is known in a row of its own (by gen_sd.py). Walk: a list of trains that may hold one that came in. '==' of two fractions. -/
import Derived.Test.YtfgghicdkcjdgaaGreatDoorMG14
import Derived.Test.YtfgghicdkcjdgaaGreatDoorMG29
import Derived.Test.YtfgghicdkcjdgaaGreatDoorMG16
section
namespace Go.Proofs.YtfgghicdkcjdgaaGreatDoor
open Go.RowKit Go.Shelf
attribute [local go_sem] Oper.semAt_some
set_option maxRecDepth 100000 in
set_option maxHeartbeats 8000000 in
theorem Known_own (A N : Option Addr) (wc nc : Nat) (ws : List Wh) (ns : List Note) (w : World) (hf : FindAt w A N ws ns) (hv : FindOk ws ns) (ts : List (List Int)) (hts : guessL ws ns = ts) (h0 : ¬ ts = []) :
  Calls Tryz.prog 11 #[.agg #[.slice A ws.length wc, .slice N ns.length nc]] w fun e w' => ∃ B b, e = .returned (.tuple #[.slice B ws.length b, .int .i64 0]) ∧ OwnS w' w.heap.size 47 2 (.slice B ws.length b) ((knownL ts ws.length).map Wh.cells) ∧ Below w.heap.size w w' := by
 have hb0 := fr_alloc (fr_refl w) (.cells #[.slice A ws.length wc, .slice N ns.length nc] 25)
 have hX := Blk.new w 25 #[.slice A ws.length wc, .slice N ns.length nc]
 replace hf := hf.keep hb0
 have hlens := guess_lens (ws := ws) (ns := ns)
 have hmany := guess_many hv
 have hask := asked_some A N wc nc ws ns _ hf hv (by rw [hts]; exact h0)
 rw [hts] at hask hlens hmany
 have hs6 := hv.six
 have hpos : 0 < ts.length := List.length_pos_iff.2 h0
 clear hts h0
 generalize hnw : ws.length = n at *
 have HNW := Lib.hid hnw
 clear hnw
 go_enter Tryz.func11, Tryz.ntmps11
 go_wp2_with fail
 refine hask.mono ?_
 rintro e w1 ⟨L, lc, rfl, hL, hb1⟩
 replace hX := hX.keep hb1
 replace hb0 := fr_call hb0 hb1
 have hT0 := hL.ts
 clear hL hask
 have hbG := fr_alloc (fr_refl w1) (.cells #[.slice A n wc, .slice N ns.length nc, .slice L ts.length lc] 93)
 have hG := Blk.new w1 93 #[.slice A n wc, .slice N ns.length nc, .slice L ts.length lc]
 replace hX := hX.keep hbG
 have hT := hT0.keep hbG
 replace hb0 := fr_call hb0 hbG
 clear hT0
 have hcX := fun j => hX.cell j
 obtain ⟨m, hm⟩ : ∃ m, ts.length = m := ⟨_, rfl⟩
 have HM := Lib.hid hm
 rw [hm] at hG hT hb0 hX hcX hpos hmany ⊢
 clear hm
 go_wp2_with fail
 obtain ⟨w3, hw3⟩ : ∃ w3, w1.alloc (.cells #[.slice A n wc, .slice N ns.length nc, .slice L m lc] 93) = w3 := ⟨_, rfl⟩
 rw [hw3] at hb0 hG hT hX ⊢
 clear hw3 hbG hcX
 have hltG := hG.lt
 generalize w1.heap.size = bg at *
 have hp0 : 0 < ts.length := by rw [HM.out]; exact hpos
 obtain ⟨ad, A0, c0, rfl, hab, hca, hr0⟩ := hT.at_ (i := 0) hp0
 have hl0 : ts[0].length = n := hlens _ (List.getElem_mem _)
 have hg0 : ts[0] = ts[0]?.getD [] := by simp [hp0]
 have HG0 := Lib.hid hg0
 rw [hl0] at hca hr0
 clear hl0 hg0
 generalize ts[0] = t0 at *
 rw [show ad.add 0 = ad from rfl] at hca
 go_loopw [6, 22] (fun v i wr => ∃ k : Nat, k ≤ n ∧ i = .int .i64 k ∧ OwnS wr w3.heap.size 47 2 v ((knownL ts k).map Wh.cells) ∧ Below w3.heap.size w3 wr) (fun _ i _ => n - (intOf i).toNat)
 case atStart => exact ⟨0, Nat.zero_le _, rfl, OwnS.nil _ _ _ _, fr_refl _⟩
 case round =>
  obtain ⟨k, hk, rfl, hown, hbel⟩ := hrel
  by_cases hlt : k < n
  ·have hGr := hG.keep hbel
   have hcG := hGr.cell 2
   have hca2 := (hbel.cell hab).trans hca
   have hltG2 := hGr.lt
   obtain ⟨ad0, rfl, hab0, hcx⟩ := (hr0.keep hbel).at_ hlt
   have hab2 : ad.block < wr.heap.size := Nat.lt_of_lt_of_le hab hbel.size
   have hx0 : t0[k]?.getD 0 = (ts[0]?.getD [])[k]?.getD 0 := by rw [HG0.out]
   have HX0 := Lib.hid hx0
   generalize t0[k]?.getD 0 = x at *
   clear hx0 hr0
   have q0 : IntKind.i64.wrap (k : Int) = (k : Int) := IntWalk.i64_in _ (by omega)
   have q1 : 0 ≤ (k : Int) := by omega
   have q2 : (k : Int) < (n : Int) := by omega
   have q3 : (0 : Int) < (m : Int) := by omega
   clear hX hab hca
   go_wp2_with fail
   have hbz := fr_drew (fr_refl wr)
   refine wp_region_noPanic ?_
   refine wp_region_held_drew (S := fun W => W.cell? ⟨bg, 2, none⟩ = some (.slice (some ad) m lc) ∧ W.cell? ad = some (.slice (some ad0) n c0) ∧ W.cell? (ad0.add k) = some (.int .i64 x)) (by kernel_rfl) ⟨hcG, hca2, hcx⟩ (fun hHeld => ?_)
   generalize wr.drew = wz at hbz hHeld ⊢
   -- the region, step by step, in whatever order
   refine wpAnyH_take (i := 0) (oi := ⟨some 25, .fieldAddr 93 (.tmp 4) 1, 0, "guess.go:281", #[], none⟩) (v := ?_) rfl (by kernel_rfl) (by kernel_rfl) (by kernel_rfl) (fun _ _ _ h => h) (Or.inl ⟨by rfl, fun W hSw => ?_⟩) hHeld ?_
   rotate_left
   ·(try dsimp only at hSw); go_simp; (try with_reducible rfl)
   (try simp only [Act.put, List.setIfInBounds_toArray, List.set_cons_zero, List.set_cons_succ])
   refine wpAnyH_take (i := 1) (oi := ⟨some 26, .load 91 (.tmp 25), 91, "guess.go:281", #[⟨0, .data⟩], none⟩) (v := ?_) rfl (by kernel_rfl) (by kernel_rfl) (by kernel_rfl) (fun _ _ _ h => h) (Or.inl ⟨by rfl, fun W hSw => ?_⟩) hHeld ?_
   rotate_left
   ·(try dsimp only at hSw); go_simp; (try with_reducible rfl)
   (try simp only [Act.put, List.setIfInBounds_toArray, List.set_cons_zero, List.set_cons_succ])
   refine wpAnyH_take (i := 2) (oi := ⟨some 27, .indexAddr 91 (.tmp 26) (.const (.int .i64 0)), 0, "guess.go:281", #[⟨1, .data⟩], none⟩) (v := ?_) rfl (by kernel_rfl) (by kernel_rfl) (by kernel_rfl) (fun _ _ _ h => h) (Or.inl ⟨by rfl, fun W hSw => ?_⟩) hHeld ?_
   rotate_left
   ·(try dsimp only at hSw); go_simp; (try with_reducible rfl)
   (try simp only [Act.put, List.setIfInBounds_toArray, List.set_cons_zero, List.set_cons_succ])
   refine wpAnyH_take (i := 3) (oi := ⟨some 28, .load 96 (.tmp 27), 96, "guess.go:281", #[⟨2, .data⟩], none⟩) (v := ?_) rfl (by kernel_rfl) (by kernel_rfl) (by kernel_rfl) (fun _ _ _ h => h) (Or.inl ⟨by rfl, fun W hSw => ?_⟩) hHeld ?_
   rotate_left
   ·(try dsimp only at hSw); go_simp; (try with_reducible rfl)
   (try simp only [Act.put, List.setIfInBounds_toArray, List.set_cons_zero, List.set_cons_succ])
   refine wpAnyH_take (i := 4) (oi := ⟨some 29, .move (.tmp 7), 3, "guess.go:281", #[], none⟩) (v := ?_) rfl (by kernel_rfl) (by kernel_rfl) (by kernel_rfl) (fun _ _ _ h => h) (Or.inl ⟨by rfl, fun W hSw => ?_⟩) hHeld ?_
   rotate_left
   ·(try dsimp only at hSw); go_simp; (try with_reducible rfl)
   (try simp only [Act.put, List.setIfInBounds_toArray, List.set_cons_zero, List.set_cons_succ])
   refine wpAnyH_take (i := 5) (oi := ⟨some 30, .indexAddr 96 (.tmp 28) (.tmp 29), 0, "guess.go:281", #[⟨3, .data⟩, ⟨4, .data⟩], none⟩) (v := ?_) rfl (by kernel_rfl) (by kernel_rfl) (by kernel_rfl) (fun _ _ _ h => h) (Or.inl ⟨by rfl, fun W hSw => ?_⟩) hHeld ?_
   rotate_left
   ·(try dsimp only at hSw); go_simp; (try with_reducible rfl)
   (try simp only [Act.put, List.setIfInBounds_toArray, List.set_cons_zero, List.set_cons_succ])
   refine wpAnyH_take (i := 6) (oi := ⟨some 31, .load 3 (.tmp 30), 3, "guess.go:281", #[⟨5, .data⟩], none⟩) (v := ?_) rfl (by kernel_rfl) (by kernel_rfl) (by kernel_rfl) (fun _ _ _ h => h) (Or.inl ⟨by rfl, fun W hSw => ?_⟩) hHeld ?_
   rotate_left
   ·(try dsimp only at hSw); go_simp; (try with_reducible rfl)
   (try simp only [Act.put, List.setIfInBounds_toArray, List.set_cons_zero, List.set_cons_succ])
   refine wpAnyH_take (i := 7) (oi := ⟨some 32, .fieldAddr 93 (.tmp 4) 1, 0, "guess.go:281", #[], none⟩) (v := ?_) rfl (by kernel_rfl) (by kernel_rfl) (by kernel_rfl) (fun _ _ _ h => h) (Or.inl ⟨by rfl, fun W hSw => ?_⟩) hHeld ?_
   rotate_left
   ·(try dsimp only at hSw); go_simp; (try with_reducible rfl)
   (try simp only [Act.put, List.setIfInBounds_toArray, List.set_cons_zero, List.set_cons_succ])
   refine wpAnyH_take (i := 8) (oi := ⟨some 33, .load 91 (.tmp 32), 91, "guess.go:281", #[⟨7, .data⟩], none⟩) (v := ?_) rfl (by kernel_rfl) (by kernel_rfl) (by kernel_rfl) (fun _ _ _ h => h) (Or.inl ⟨by rfl, fun W hSw => ?_⟩) hHeld ?_
   rotate_left
   ·(try dsimp only at hSw); go_simp; (try with_reducible rfl)
   (try simp only [Act.put, List.setIfInBounds_toArray, List.set_cons_zero, List.set_cons_succ])
   refine wpAnyH_take (i := 9) (oi := ⟨some 34, .indexAddr 91 (.tmp 33) (.const (.int .i64 0)), 0, "guess.go:281", #[⟨8, .data⟩], none⟩) (v := ?_) rfl (by kernel_rfl) (by kernel_rfl) (by kernel_rfl) (fun _ _ _ h => h) (Or.inl ⟨by rfl, fun W hSw => ?_⟩) hHeld ?_
   rotate_left
   ·(try dsimp only at hSw); go_simp; (try with_reducible rfl)
   (try simp only [Act.put, List.setIfInBounds_toArray, List.set_cons_zero, List.set_cons_succ])
   refine wpAnyH_take (i := 10) (oi := ⟨some 35, .load 96 (.tmp 34), 96, "guess.go:281", #[⟨9, .data⟩], none⟩) (v := ?_) rfl (by kernel_rfl) (by kernel_rfl) (by kernel_rfl) (fun _ _ _ h => h) (Or.inl ⟨by rfl, fun W hSw => ?_⟩) hHeld ?_
   rotate_left
   ·(try dsimp only at hSw); go_simp; (try with_reducible rfl)
   (try simp only [Act.put, List.setIfInBounds_toArray, List.set_cons_zero, List.set_cons_succ])
   refine wpAnyH_take (i := 11) (oi := ⟨some 36, .move (.tmp 7), 3, "guess.go:281", #[], none⟩) (v := ?_) rfl (by kernel_rfl) (by kernel_rfl) (by kernel_rfl) (fun _ _ _ h => h) (Or.inl ⟨by rfl, fun W hSw => ?_⟩) hHeld ?_
   rotate_left
   ·(try dsimp only at hSw); go_simp; (try with_reducible rfl)
   (try simp only [Act.put, List.setIfInBounds_toArray, List.set_cons_zero, List.set_cons_succ])
   refine wpAnyH_take (i := 12) (oi := ⟨some 37, .indexAddr 96 (.tmp 35) (.tmp 36), 0, "guess.go:281", #[⟨10, .data⟩, ⟨11, .data⟩], none⟩) (v := ?_) rfl (by kernel_rfl) (by kernel_rfl) (by kernel_rfl) (fun _ _ _ h => h) (Or.inl ⟨by rfl, fun W hSw => ?_⟩) hHeld ?_
   rotate_left
   ·(try dsimp only at hSw); go_simp; (try with_reducible rfl)
   (try simp only [Act.put, List.setIfInBounds_toArray, List.set_cons_zero, List.set_cons_succ])
   refine wpAnyH_take (i := 13) (oi := ⟨some 38, .load 3 (.tmp 37), 3, "guess.go:281", #[⟨12, .data⟩], none⟩) (v := ?_) rfl (by kernel_rfl) (by kernel_rfl) (by kernel_rfl) (fun _ _ _ h => h) (Or.inl ⟨by rfl, fun W hSw => ?_⟩) hHeld ?_
   rotate_left
   ·(try dsimp only at hSw); go_simp; (try with_reducible rfl)
   (try simp only [Act.put, List.setIfInBounds_toArray, List.set_cons_zero, List.set_cons_succ])
   refine wpAnyH_take (i := 14) (oi := ⟨some 39, .build 47 #[(0, .tmp 31), (1, .tmp 38)], 47, "guess.go:281", #[⟨6, .data⟩, ⟨13, .data⟩], none⟩) (v := ?_) rfl (by kernel_rfl) (by kernel_rfl) (by kernel_rfl) (fun _ _ _ h => h) (Or.inl ⟨by rfl, fun W hSw => ?_⟩) hHeld ?_
   rotate_left
   ·(try dsimp only at hSw); go_simp; (try with_reducible rfl)
   (try simp only [Act.put, List.setIfInBounds_toArray, List.set_cons_zero, List.set_cons_succ])
   refine wpAnyH_ready (rs := [15]) (by kernel_rfl) (by simp) ?_
   refine (AllReadyH.cons (o := ⟨some 8, .alloc 47, 0, "guess.go:281", #[], none⟩) rfl (fun K hK => ?_) AllReadyH.nil)
   rw [if_pos (by rfl)]
   refine wp_alloc_new 47 rfl _ (span_zero _) ?_
   intro g wz hgz hG1 hb1 _
   have hgo : wr.heap.size ≤ g := by have := hbz.size; omega
   replace hbz := fr_call hbz hb1
   refine hK.out _ _ (⟨(hbz.cell (p := ⟨bg, 2, none⟩) hltG2).trans hcG, (hbz.cell (p := ad) hab2).trans hca2, (hbz.cell (p := ad0.add k) (by rw [block_of_add]; exact hab0)).trans hcx⟩) (fun hHeld => ?_)
   clear hK K
   (try simp only [Act.put, List.setIfInBounds_toArray, List.set_cons_zero, List.set_cons_succ])
   refine wpAnyH_ready (rs := [16]) (by kernel_rfl) (by simp) ?_
   refine (AllReadyH.cons (o := ⟨none, .store 47 (.tmp 8) (.tmp 39), 0, "guess.go:281", #[⟨15, .data⟩, ⟨14, .data⟩, ⟨0, .phase⟩, ⟨1, .phase⟩, ⟨2, .phase⟩, ⟨3, .phase⟩, ⟨4, .phase⟩, ⟨5, .phase⟩, ⟨6, .phase⟩, ⟨7, .phase⟩, ⟨8, .phase⟩, ⟨9, .phase⟩, ⟨10, .phase⟩, ⟨11, .phase⟩, ⟨12, .phase⟩, ⟨13, .phase⟩, ⟨14, .phase⟩, ⟨15, .phase⟩], none⟩) rfl (fun K hK => ?_) AllReadyH.nil)
   rw [if_pos (by rfl)]
   refine wp_store_blk _ _ _ rfl g 47 _ _ rfl rfl hG1 rfl (by kernel_rfl) (by simp [Value.oneCell']) ?_
   intro wz hG2 hgr
   replace hbz := hbz.grown hgr hbz.size (by intro i hi; cases hi; exact hgo)
   refine hK.out _ _ (⟨(hbz.cell (p := ⟨bg, 2, none⟩) hltG2).trans hcG, (hbz.cell (p := ad) hab2).trans hca2, (hbz.cell (p := ad0.add k) (by rw [block_of_add]; exact hab0)).trans hcx⟩) (fun hHeld => ?_)
   clear hK K
   refine wpAnyH_done (by kernel_rfl) ?_ _
   refine NoPanic.normal ?_
   clear hHeld hcG hca2 hcx q0 q1 q2 q3
   have hGz := hGr.keep hbz
   have hcG := hGz.cell 2
   have hs0 : spanK ts k 0 = ⟨x, x⟩ := by rw [spanK_zero, HX0.out]
   have HS0 := Lib.hid hs0
   have hltg := hG2.lt
   clear hs0
   go_wp2_with fail
   go_loopw [43] (fun i w2 => ∃ j : Nat, j ≤ m ∧ i = .int .i64 j ∧ Blk w2 g 47 #[.int .i64 (spanK ts k j).lo, .int .i64 (spanK ts k j).hi] ∧ Below wr.heap.size wr w2) (fun i _ => m - (intOf i).toNat)
   case atStart => exact ⟨0, Nat.zero_le _, rfl, by rw [HS0.out]; exact hG2, hbz⟩
   case round =>
    obtain ⟨j, hj, rfl, hgj, hbj⟩ := hrel
    by_cases hjl : j < m
    ·have hjt : j < ts.length := by rw [HM.out]; exact hjl
     obtain ⟨ad', C, cc, e, habj, hcj, hrj⟩ := (hT.keep (fr_call hbel hbj)).at_ hjt
     cases e
     have hlj := hlens _ (List.getElem_mem hjt)
     have hst := spanK_succ ts k j hjt
     rw [hlj] at hcj hrj
     obtain ⟨adj, rfl, habx, hcy⟩ := hrj.at_ hlt
     have HST := Lib.hid hst
     have hcg0 := hgj.cell 0
     have hcg1 := hgj.cell 1
     have hfg0 := hgj.frozen 0
     have q1 : 0 ≤ (k : Int) := by omega
     have q2 : (k : Int) < (n : Int) := by omega
     clear hst hlj hrj hT hcG
     generalize hsj : spanK ts k j = sj at *
     obtain ⟨p, q⟩ := sj
     generalize hy : ts[j][k]?.getD 0 = y at *
     have HY := Lib.hid hy
     clear hy hsj
     simp only at hcg0 hcg1
     go_wp2_with fail
     have hgd := hgj.drew
     have hbd := fr_call hbj (fr_drew (fr_refl _))
     go_still_tail 15, (by kernel_rfl)
     change wpList _ _ _ _ _ (World.drew _)
     refine wpList_store_blk rfl _ _ _ rfl g 47 _ _ rfl rfl hgd rfl (by kernel_rfl) (by simp [Value.oneCell']) ?_
     intro W5 hG5 hg5
     have hn : spanK ts k (j + 1) = ⟨min p y, max q y⟩ := by
      rw [HST.out]
      unfold spanStep
      rw [HY.out]
     have HN := Lib.hid hn
     clear hn
     go_wp2_with fail
     refine ⟨⟨j + 1, hjl, rfl, by rw [HN.out]; exact hG5, hbd.grown hg5 hbd.size (by intro i hi; cases hi; exact hgo)⟩, ?_⟩
     simp [intOf]; omega
    ·obtain rfl : j = m := by omega
     have hown2 := hown.keep hbj
     have hbb := fr_call hbel hbj
     have hks := knownL_succ ts k
     rw [HM.out] at hks
     have HKS := Lib.hid hks
     clear hks
     generalize spanK ts k j = sj at *
     obtain ⟨p, q⟩ := sj
     simp only at hgj
     have hcg0 := hgj.cell 0
     have hcg1 := hgj.cell 1
     clear hT hlens hcG
     go_wp2_with (at_builtin; go_must (refine app_row rfl (.tmp 63) (.tmp 65) rfl Tryz.underlying22 info_span rfl (by omega) (by omega) w3.heap.size _ ((knownL ts k).map Wh.cells) (r := Wh.cells ⟨p, q⟩) rfl rfl hown2 rfl (by intro u hu; simp only [Wh.cells, List.mem_cons, List.not_mem_nil, or_false] at hu; rcases hu with rfl | rfl <;> rfl) (by rw [List.length_map, knownL_len]; omega) hbb.size ?_); intro L1 lc1 w4 hown4 hg4)
     rw [List.length_map] at hown4
     go_roundw
     case rel => exact ⟨k + 1, hlt, by go_num, by rw [HKS.out, List.map_append]; exact hown4, (fr_alloc hbb _).grown hg4 (by have := hbb.size; simp; omega) hown2.ge⟩
     case measure => simp [intOf]; omega
  ·obtain rfl : k = n := by omega
   obtain ⟨A1, c1, rfl⟩ := hown.form
   rw [List.length_map, knownL_len] at hown ⊢
   go_wp2_with fail
   go_ret2
   exact ⟨A1, c1, rfl, own_baseS hown hb0.size, fr_call hb0 hbel⟩
end Go.Proofs.YtfgghicdkcjdgaaGreatDoor
end

section
namespace Go.Proofs.YtfgghicdkcjdgaaGreatDoor
open Go.RowKit Go.Shelf

theorem info_boolE : (Tryz.prog.info? 4).map (fun i => (i.zero, i.size, i.bytes)) = some (some (.bool false), 1, 1) := by kernel_rfl
def PsR (W : World) (L : Option Addr) (us : List (List Wh)) : Prop := ∀ n, (h : n < us.length) → ∃ ad A c, L = some ad ∧ ad.block < W.heap.size ∧ W.cell? (ad.add n) = some (.slice A us[n].length c) ∧ RdS W A 2 (us[n].map Wh.cells)
theorem PsR.keep {W W' : World} {L : Option Addr} {us : List (List Wh)} (h : PsR W L us) (hb : Below W.heap.size W W') : PsR W' L us := fun n hn => by
 obtain ⟨ad, A, c, e, hlt, hc, hr⟩ := h n hn
 exact ⟨ad, A, c, e, Nat.lt_of_lt_of_le hlt hb.size, (hb.cell (p := ad.add n) (by rw [block_of_add]; exact hlt)).trans hc, hr.keep hb⟩
theorem PsR.of_at {W : World} {L : Option Addr} {us : List (List Wh)} (h : PsAt W L us) : PsR W L us := fun n hn => by
 obtain ⟨ad, A, c, e, hlt, hc, hr⟩ := h.at_ hn
 exact ⟨ad, A, c, e, hlt, hc, hr.1⟩
theorem PsR.of_own {W : World} {b : Nat} {L : Option Addr} {n c : Nat} {vs : List Value} {us : List (List Wh)} (h : OwnV W b 26 (.slice L n c) vs) (hk : ∀ i, (hi : i < us.length) → ∃ A c, vs[i]? = some (Value.slice A us[i].length c) ∧ RdS W A 2 (us[i].map Wh.cells)) : PsR W L us := fun i hi => by
 obtain ⟨A, c', h1, h2⟩ := hk i hi
 obtain ⟨ad, e, hb, hc, _⟩ := h.rd.nth (i := i) (r := [.slice A us[i].length c']) (by rw [List.getElem?_map, h1]; rfl)
 have h3 := hc _ rfl
 rw [Nat.mul_one] at h3
 exact ⟨ad, A, c', e, hb, h3, h2⟩
end Go.Proofs.YtfgghicdkcjdgaaGreatDoor
end

section
namespace Go.Proofs.YtfgghicdkcjdgaaGreatDoor
open Go.RowKit Go.Shelf

theorem frac_equal (x y a b : Int) (w : World) : (Op.equal 40 (.agg #[.int .i64 x, .int .i64 y]) (.agg #[.int .i64 a, .int .i64 b])).run Tryz.prog w = .ok (x == a && y == b) w := by
 have h : (Op.equal 40 (.agg #[.int .i64 x, .int .i64 y]) (.agg #[.int .i64 a, .int .i64 b])).run Tryz.prog w = .ok (if (!(x == a)) = true then false else if (!(y == b)) = true then false else true) w := by
  have hs : Tryz.prog.underlying 40 = some (.struct (Tryz.prog.fieldsOf 40)) := by kernel_rfl
  have hp : Tryz.prog.stoodInHeld 40 = false := by kernel_rfl
  unfold Op.equal Op.maxDepth
  rw [run_equalIn_struct w 9999 _ _ _ hs hp]
  simp [Program.fieldsOf, Tryz.underlying40, Op.eqFields, go_sem]
  by_cases h1 : x = a
  ·by_cases h2 : y = b
   ·simp [h1, h2]
   ·simp [h1, h2]
  ·simp [h1]
 rw [h]
 cases (x == a) <;> cases (y == b) <;> rfl
theorem frac_eql (x y a b : Int) (w : World) : (binOp .eql 40 (.agg #[.int .i64 x, .int .i64 y]) (.agg #[.int .i64 a, .int .i64 b])).run Tryz.prog w = .ok (.bool (x == a && y == b)) w := by
 have h := frac_equal x y a b w
 simp [binOp, go_sem, h]
end Go.Proofs.YtfgghicdkcjdgaaGreatDoor
end
