/- Walk: a find that is built wheel by wheel: what holds between two wheels. The law GuessMore, walked (by gen_more.py). The law GuessMore, walked (by gen_more.py). The statement of GuessMore: for every input the law returns true, and the input reads behind the call as it did; the listed table is tied to the program's text. No condition of its own. -/
import Derived.Test.YthenlopnlaiodaaGreatDoorMG26
import Derived.Test.YthenlopnlaiodaaGreatDoorMG14
import Derived.Test.YthenlopnlaiodaaGreatDoorMG13
import Derived.Test.YthenlopnlaiodaaGreatDoorMG20
import Derived.Test.YthenlopnlaiodaaGreatDoorMG27
import Derived.Test.YthenlopnlaiodaaGreatDoorRows
import Derived.Test.YthenlopnlaiodaaGreatDoorCards
import Derived.Test.YthenlopnlaiodaaGreatDoorTie
import Derived.SevenTiedAt
section
namespace Go.Proofs.YthenlopnlaiodaaGreatDoor
open Go.RowKit Go.Shelf

structure GI (w1 : World) (g : Nat) (u : Value) (nx : List Note) (R : List Wh) (v : Value) (W : World) : Prop where
 f : Blk W g 25 #[v, u]
 ww : OwnS W w1.heap.size 47 2 v (R.map Wh.cells)
 nn : OwnS W w1.heap.size 61 9 u (nx.map Note.cells)
 bel : Below w1.heap.size w1 W
theorem GI.below {w1 W W' : World} {g : Nat} {u v : Value} {nx : List Note} {R : List Wh} (h : GI w1 g u nx R v W) (hb : Below W.heap.size W W') : GI w1 g u nx R v W' :=
 ⟨h.f.keep hb, h.ww.keep hb, h.nn.keep hb, fr_call h.bel hb⟩
theorem GI.add {w1 W W' : World} {g n c : Nat} {u v : Value} {nx : List Note} {R : List Wh} {x : Wh} {A : Option Addr} (h : GI w1 g u nx R v W) (hf : w1.heap.size ≤ g)
  (hown : OwnS W' w1.heap.size 47 2 (.slice A n c) (R.map Wh.cells ++ [x.cells])) (hg : W.grownBy W' v.ownBlock) :
  GI w1 g u nx (R ++ [x]) (.slice A n c) (W'.setCell ⟨g, 0, none⟩ (.slice A n c)) := by
 have hF := h.f.grown hg (ownS_not h.ww h.f (by decide))
 have hs := grown_set W' ⟨g, 0, none⟩ (.slice A n c)
 refine ⟨hF.set_ 0 _, ?_, (h.nn.grownT hg (h.ww.notT (by decide))).grownT hs (blk_notT hF (by decide)), ?_⟩
 ·rw [List.map_append]
  exact hown.grownT hs (blk_notT hF (by decide))
 ·have h1 := h.bel.grown hg h.bel.size h.ww.ge
  exact h1.grown hs h1.size (by intro k hk; cases hk; exact hf)
theorem Known_any (A N : Option Addr) (wc nc : Nat) (ws : List Wh) (ns : List Note) (w : World) (hf : FindAt w A N ws ns) (hv : FindOk ws ns) :
  Calls Tryz.prog 18 #[.agg #[.slice A ws.length wc, .slice N ns.length nc]] w fun e w' => ∃ B n c k, e = .returned (.tuple #[.slice B n c, .int .i64 k]) ∧ Below w.heap.size w w' := by
 by_cases h0 : guessL ws ns = []
 ·refine (Known_none A N wc nc ws ns w hf hv h0).mono ?_
  rintro e w' ⟨B, c, rfl, _, hb⟩
  exact ⟨B, _, c, 7, rfl, hb⟩
 ·refine (Known_some A N wc nc ws ns w hf hv _ rfl h0).mono ?_
  rintro e w' ⟨B, c, rfl, _, hb⟩
  exact ⟨B, _, c, 0, rfl, hb⟩
/-- notes that are no fewer than others -/
def MoreOk (ns ms : List Note) : Prop := (∀ t, breaksL ms t = [] → breaksL ns t = []) ∧ ∀ t, (breaksL ns t).length ≤ (breaksL ms t).length ∧ (breaksL ms t).length ≤ (breaksL ns t).length + 1
theorem find_of_ok {ws : List Wh} {ns : List Note} (h : FindOk ws ns) : findB ws ns = true := by
 have h1 := h.even
 have h2 := h.two
 have h3 := h.six
 have h4 := h.eight
 unfold findB
 rw [decide_eq_true (show (ws.length : Int) % 2 = 0 by omega), inB_yes (show (2 : Int) ≤ ws.length ∧ (ws.length : Int) ≤ 6 by omega), decide_eq_true h4]
 simp only [Bool.true_and, Bool.and_eq_true, List.all_eq_true]
 refine ⟨fun s hs => ?_, fun n hn => h.note n hn⟩
 have := h.wh s hs
 unfold whB teethB
 rw [inB_yes (by omega), inB_yes (by omega), inB_yes (by omega)]
 rfl
end Go.Proofs.YthenlopnlaiodaaGreatDoor
end

section
namespace Go.Proofs.YthenlopnlaiodaaGreatDoor
open Go.RowKit Go.Shelf

set_option maxRecDepth 100000 in
set_option maxHeartbeats 16000000 in
theorem more_main (A N C : Option Addr) (c d i : Nat) (ws : List Wh) (ns : List Note) (x : List Wh) (up dn x0 x1 x2 x3 x4 x5 x6 x7 x8 : Int) (w : World) (hf : FindAt w A N ws ns) (hx : RdS w C 2 (x.map Wh.cells)) (hT : TabP w) (hM : MaxP w) (s1 : (decide ((ws.length : Int) ≤ 8) && decide ((ns.length : Int) ≤ 11)) = true) (s1a : ws.length ≤ 8 ∧ ns.length ≤ 11) (k1 : x.length ≤ 5) (k1b : ¬ (5 < (x.length : Int))) (f1 : findB ws ns = true) (n1 : narrowB ws ns = true) (u0 : ¬ up < 0) (u5 : ¬ 5 < up) (v0 : ¬ dn < 0) (v5 : ¬ 5 < dn) (o1 : Fits ws (teethL x)) :
  Calls Tryz.prog 8 #[.agg #[.slice A ws.length c, .slice N ns.length d], .agg #[.int .i64 x0, .int .i64 x1, .int .i64 x2, .int .i64 x3, .int .i64 x4, .int .i64 x5, .int .i64 x6, .int .i64 x7, .int .i64 x8], .int .i64 up, .int .i64 dn, .slice C x.length i] w fun e' w' => e' = .returned (.bool true) ∧ Below w.heap.size w w' := by
 have hfr := fr_alloc (fr_alloc (fr_refl w) (.cells #[.slice A ws.length c, .slice N ns.length d] 25)) (.cells #[.int .i64 x0, .int .i64 x1, .int .i64 x2, .int .i64 x3, .int .i64 x4, .int .i64 x5, .int .i64 x6, .int .i64 x7, .int .i64 x8] 61)
 have hX0 : Blk ((w.alloc (.cells #[.slice A ws.length c, .slice N ns.length d] 25)).alloc (.cells #[.int .i64 x0, .int .i64 x1, .int .i64 x2, .int .i64 x3, .int .i64 x4, .int .i64 x5, .int .i64 x6, .int .i64 x7, .int .i64 x8] 61)) (w.heap.size) 25 #[.slice A ws.length c, .slice N ns.length d] := ((Blk.new_at _ _ (by simp)).alloc _)
 have hX1 : Blk ((w.alloc (.cells #[.slice A ws.length c, .slice N ns.length d] 25)).alloc (.cells #[.int .i64 x0, .int .i64 x1, .int .i64 x2, .int .i64 x3, .int .i64 x4, .int .i64 x5, .int .i64 x6, .int .i64 x7, .int .i64 x8] 61)) (w.heap.size + 1) 61 #[.int .i64 x0, .int .i64 x1, .int .i64 x2, .int .i64 x3, .int .i64 x4, .int .i64 x5, .int .i64 x6, .int .i64 x7, .int .i64 x8] := (Blk.new_at _ _ (by simp))
 replace hf := hf.keep hfr
 replace hx := hx.keep hfr
 have hc0 := fun j => hX0.cell j
 have hl0 := hX0.lt
 have hc1 := fun j => hX1.cell j
 have hl1 := hX1.lt
 have hv := find_ok f1
 have F1 := Lib.hid f1
 have o1H := Lib.hid o1
 obtain ⟨nx, hnx⟩ : ∃ nx, ns ++ [⟨x0, x1, x2, x3, x4, x5, x6, x7, x8⟩] = nx := ⟨_, rfl⟩
 have hnle : nx.length ≤ 1000 := by rw [← hnx]; simp; omega
 have HNX := Lib.hid hnx
 obtain ⟨vs, hvs⟩ : ∃ vs, ws.map (nearW up dn) = vs := ⟨_, rfl⟩
 have hvl : vs.length = ws.length := by rw [← hvs, List.length_map]
 have HVS := Lib.hid hvs
 have HVL := Lib.hid hvl
 have HV := Lib.hid hv
 have hw6 := hv.six
 have HWH := Lib.hid hv.wh
 have O1 := Lib.hid o1
 clear hnx hv f1 o1 hvs hvl
 go_enter Tryz.func8, Tryz.ntmps8
 go_wp2_with fail
 refine (short_any A N ws.length ns.length c d _ _ s1).mono ?_
 rintro e' w1 ⟨rfl, hb⟩
 replace hfr := fr_call hfr hb
 replace hf := hf.keep hb
 replace hx := hx.keep hb
 replace hX0 := hX0.keep hb
 replace hX1 := hX1.keep hb
 clear hb hc0 hc1
 have hc0 := fun j => hX0.cell j
 have hl0 := hX0.lt
 have hc1 := fun j => hX1.cell j
 have hl1 := hX1.lt
 go_wp2_with fail
 refine (Find8_any A N ws.length ns.length c d ws ns _ hf rfl rfl (by omega) (by omega) _ F1.out).mono ?_
 rintro e' w1 ⟨rfl, hb⟩
 replace hfr := fr_call hfr hb
 replace hf := hf.keep hb
 replace hx := hx.keep hb
 replace hX0 := hX0.keep hb
 replace hX1 := hX1.keep hb
 clear hb hc0 hc1
 have hc0 := fun j => hX0.cell j
 have hl0 := hX0.lt
 have hc1 := fun j => hX1.cell j
 have hl1 := hX1.lt
 go_wp2_with fail
 refine (narrow_any A N ws.length ns.length c d ws ns _ hf rfl rfl (by omega) (by omega) _ n1).mono ?_
 rintro e' w1 ⟨rfl, hb⟩
 replace hfr := fr_call hfr hb
 replace hf := hf.keep hb
 replace hx := hx.keep hb
 replace hX0 := hX0.keep hb
 replace hX1 := hX1.keep hb
 clear hb hc0 hc1
 have hc0 := fun j => hX0.cell j
 have hl0 := hX0.lt
 have hc1 := fun j => hX1.cell j
 have hl1 := hX1.lt
 go_wp2_with fail
 refine (Own8_any A N C ws.length ns.length c d x.length i ws x _ hf.ws hx rfl (by omega) rfl (by omega) true (by simp [o1H.out])).mono ?_
 rintro e' w1 ⟨rfl, hb⟩
 replace hfr := fr_call hfr hb
 replace hf := hf.keep hb
 replace hx := hx.keep hb
 replace hX0 := hX0.keep hb
 replace hX1 := hX1.keep hb
 clear hb hc0 hc1
 have hc0 := fun j => hX0.cell j
 have hl0 := hX0.lt
 have hc1 := fun j => hX1.cell j
 have hl1 := hX1.lt
 go_upto_region 3 with (fail)
 go_cut [11] from 68 to 74 (fun s11 wc => ∃ g M q, s11 = .pointer (some ⟨g, 0, none⟩) ∧ w1.heap.size ≤ g ∧ GI w1 g (.slice M nx.length q) nx [] (.slice none 0 0) wc)
 case first =>
  refine wp_region_noPanic ?_
  have hkS : ∀ W, Below w1.heap.size w1 W → (W.cell? ⟨w.heap.size, 1, none⟩ = some (.slice N ns.length d)) ∧ (∀ j, W.cell? ⟨w.heap.size + 1, j, none⟩ = (#[.int .i64 x0, .int .i64 x1, .int .i64 x2, .int .i64 x3, .int .i64 x4, .int .i64 x5, .int .i64 x6, .int .i64 x7, .int .i64 x8] : Array Value)[j]?) := fun W hb => ⟨(hX0.keep hb).cell 1, fun j => (hX1.keep hb).cell j⟩
  have hbz := fr_drew (fr_refl w1)
  refine wp_region_held_drew (S := fun W => (W.cell? ⟨w.heap.size, 1, none⟩ = some (.slice N ns.length d)) ∧ (∀ j, W.cell? ⟨w.heap.size + 1, j, none⟩ = (#[.int .i64 x0, .int .i64 x1, .int .i64 x2, .int .i64 x3, .int .i64 x4, .int .i64 x5, .int .i64 x6, .int .i64 x7, .int .i64 x8] : Array Value)[j]?)) (by kernel_rfl) (hkS _ hbz) (fun hHeld => ?_)
  generalize w1.drew = wz at hbz hHeld ⊢
  clear hc0 hc1
  -- the region, step by step, in whatever order
  refine wpAnyH_take (i := 0) (oi := ⟨some 68, .fieldAddr 25 (.tmp 5) 1, 0, "law.go:440", #[], none⟩) (v := ?_) rfl (by kernel_rfl) (by kernel_rfl) (by kernel_rfl) (fun _ _ _ h => h) (Or.inl ⟨by rfl, fun W hSw => ?_⟩) hHeld ?_
  rotate_left
  ·(try dsimp only at hSw); go_simp; (try with_reducible rfl)
  (try simp only [Act.put, List.setIfInBounds_toArray, List.set_cons_zero, List.set_cons_succ])
  refine wpAnyH_take (i := 1) (oi := ⟨some 69, .load 23 (.tmp 68), 23, "law.go:440", #[⟨0, .data⟩], none⟩) (v := ?_) rfl (by kernel_rfl) (by kernel_rfl) (by kernel_rfl) (fun _ _ _ h => h) (Or.inl ⟨by rfl, fun W hSw => ?_⟩) hHeld ?_
  rotate_left
  ·(try dsimp only at hSw); go_simp; (try with_reducible rfl)
  (try simp only [Act.put, List.setIfInBounds_toArray, List.set_cons_zero, List.set_cons_succ])
  refine wpAnyH_take (i := 3) (oi := ⟨some 71, .load 61 (.tmp 6), 61, "law.go:440", #[], none⟩) (v := ?_) rfl (by kernel_rfl) (by kernel_rfl) (by kernel_rfl) (fun _ _ _ h => h) (Or.inl ⟨by rfl, fun W hSw => ?_⟩) hHeld ?_
  rotate_left
  ·(try dsimp only at hSw); go_simp; (try with_reducible rfl)
  (try simp only [Act.put, List.setIfInBounds_toArray, List.set_cons_zero, List.set_cons_succ])
  refine wpAnyH_ready (rs := [2, 4, 7]) (by kernel_rfl) (by simp) ?_
  refine (AllReadyH.cons (o := ⟨some 70, .call { callee := .builtin .append, args := #[.const (.slice none 0 0), .tmp 69], argTypes := #[23, 23] }, 23, "law.go:440", #[⟨1, .data⟩], none⟩) rfl (fun K hK => ?_) (AllReadyH.cons (o := ⟨some 72, .buildSlice 23 1 #[(0, .tmp 71)], 23, "law.go:440", #[⟨3, .data⟩], none⟩) rfl (fun K hK => ?_) (AllReadyH.cons (o := ⟨some 11, .alloc 25, 0, "law.go:440", #[], none⟩) rfl (fun K hK => ?_) AllReadyH.nil)))
  ·rw [if_pos (by rfl)]
   refine wp_app_notes (.tmp 69) rfl w1.heap.size N ns.length d ns rfl rfl (hf.ns.keep hbz) (by omega) hbz.size ?_
   intro M1 q1 wz hown hb1
   replace hbz := fr_call hbz hb1
   (try replace hG := hG.keep hb1)
   (try replace hZ := hZ.keep hb1)
   refine hK.out _ _ (hkS _ hbz) (fun hHeld => ?_)
   clear hK K
   (try simp only [Act.put, List.setIfInBounds_toArray, List.set_cons_zero, List.set_cons_succ])
   refine wpAnyH_ready (rs := [4, 7]) (by kernel_rfl) (by simp) ?_
   refine (AllReadyH.cons (o := ⟨some 72, .buildSlice 23 1 #[(0, .tmp 71)], 23, "law.go:440", #[⟨3, .data⟩], none⟩) rfl (fun K hK => ?_) (AllReadyH.cons (o := ⟨some 11, .alloc 25, 0, "law.go:440", #[], none⟩) rfl (fun K hK => ?_) AllReadyH.nil))
   ·rw [if_pos (by rfl)]
    refine wp_build_note rfl rfl ?_
    intro gx wz hgz hG hb1
    replace hbz := fr_call hbz hb1
    (try replace hown := hown.keep hb1)
    (try replace hZ := hZ.keep hb1)
    refine hK.out _ _ (hkS _ hbz) (fun hHeld => ?_)
    clear hK K
    (try simp only [Act.put, List.setIfInBounds_toArray, List.set_cons_zero, List.set_cons_succ])
    refine wpAnyH_ready (rs := [5, 7]) (by kernel_rfl) (by simp) ?_
    refine (AllReadyH.cons (o := ⟨some 73, .call { callee := .builtin .append, args := #[.tmp 70, .tmp 72], argTypes := #[23, 23] }, 23, "law.go:440", #[⟨2, .data⟩, ⟨4, .data⟩, ⟨2, .chain⟩], none⟩) rfl (fun K hK => ?_) (AllReadyH.cons (o := ⟨some 11, .alloc 25, 0, "law.go:440", #[], none⟩) rfl (fun K hK => ?_) AllReadyH.nil))
    ·rw [if_pos (by rfl)]
     refine wp_app_row (.tmp 70) (.tmp 72) rfl Tryz.underlying23 info_noteG rfl (by omega) (by omega) w1.heap.size (.slice M1 ns.length q1) _ rfl hown gx rfl (r := Note.cells ⟨x0, x1, x2, x3, x4, x5, x6, x7, x8⟩) hG rfl (by intro u hu; simp only [Note.cells, List.mem_cons, List.not_mem_nil, or_false] at hu; rcases hu with rfl | rfl | rfl | rfl | rfl | rfl | rfl | rfl | rfl <;> rfl) (by rw [List.length_map]; omega) hbz.size ?_
     intro A2 c2 wz2 hown2 hgr
     replace hbz := hbz.grown hgr hbz.size hown.ge
     (try replace hZ := hZ.grown hgr (ownS_not hown hZ (by decide)))
     rw [List.length_map] at hown2 ⊢
     refine hK.out _ _ (hkS _ hbz) (fun hHeld => ?_)
     clear hK K
     (try simp only [Act.put, List.setIfInBounds_toArray, List.set_cons_zero, List.set_cons_succ])
     refine wpAnyH_take (i := 6) (oi := ⟨some 74, .build 25 #[(1, .tmp 73)], 25, "law.go:440", #[⟨5, .data⟩], none⟩) (v := ?_) rfl (by kernel_rfl) (by kernel_rfl) (by kernel_rfl) (fun _ _ _ h => h) (Or.inl ⟨by rfl, fun W hSw => ?_⟩) hHeld ?_
     rotate_left
     ·(try dsimp only at hSw); go_simp; (try with_reducible rfl)
     (try simp only [Act.put, List.setIfInBounds_toArray, List.set_cons_zero, List.set_cons_succ])
     refine wpAnyH_ready (rs := [7]) (by kernel_rfl) (by simp) ?_
     refine (AllReadyH.cons (o := ⟨some 11, .alloc 25, 0, "law.go:440", #[], none⟩) rfl (fun K hK => ?_) AllReadyH.nil)
     rw [if_pos (by rfl)]
     refine wp_alloc_new 25 rfl (.agg #[.slice none 0 0, .slice none 0 0]) (by kernel_rfl) ?_
     intro g7 wB hg7 hZ hbB hsB
     have hg7l : w1.heap.size ≤ g7 := by rw [← hg7]; exact hbz.size
     replace hbz := fr_call hbz hbB
     (try replace hown := hown.keep hbB)
     (try replace hG := hG.keep hbB)
     (try replace hown2 := hown2.keep hbB)
     refine hK.out _ _ (hkS _ hbz) (fun hHeld => ?_)
     clear hK K
     (try simp only [Act.put, List.setIfInBounds_toArray, List.set_cons_zero, List.set_cons_succ])
     refine wpAnyH_ready (rs := [8]) (by kernel_rfl) (by simp) ?_
     refine (AllReadyH.cons (o := ⟨none, .store 25 (.tmp 11) (.tmp 74), 0, "law.go:440", #[⟨7, .data⟩, ⟨6, .data⟩, ⟨5, .chain⟩, ⟨0, .phase⟩, ⟨1, .phase⟩, ⟨2, .phase⟩, ⟨3, .phase⟩, ⟨4, .phase⟩, ⟨5, .phase⟩, ⟨6, .phase⟩, ⟨7, .phase⟩], none⟩) rfl (fun K hK => ?_) AllReadyH.nil)
     rw [if_pos (by rfl)]
     refine wp_store_blk 25 _ _ rfl g7 25 _ #[.slice none 0 0, .slice A2 (ns.length + 1) c2] rfl rfl hZ rfl (by kernel_rfl) (by simp [Value.oneCell']) ?_
     intro wC hZC hgC
     have hnC := hown2.grownT hgC (blk_notT hZ (by decide))
     have hbC := hbz.grown hgC hbz.size (by intro q hq; cases hq; exact hg7l)
     refine hK.out _ _ (hkS _ hbC) (fun hHeld => ?_)
     clear hK K
     refine wpAnyH_done (by kernel_rfl) ?_ _
     refine NoPanic.normal ?_
     go_wp2_with fail
     go_meet
     case rel =>
      have he := HNX.out
      refine ⟨g7, A2, c2, rfl, hg7l, ⟨?_, OwnS.nil _ _ _ _, ?_, hbC⟩⟩
      ·rw [← he, List.length_append]
       exact hZC
      ·rw [← he, List.length_append, List.map_append]
       exact hnC
    ·rw [if_pos (by rfl)]
     refine wp_alloc_new 25 rfl (.agg #[.slice none 0 0, .slice none 0 0]) (by kernel_rfl) ?_
     intro g7 wB hg7 hZ hbB hsB
     have hg7l : w1.heap.size ≤ g7 := by rw [← hg7]; exact hbz.size
     replace hbz := fr_call hbz hbB
     (try replace hown := hown.keep hbB)
     (try replace hG := hG.keep hbB)
     (try replace hown2 := hown2.keep hbB)
     refine hK.out _ _ (hkS _ hbz) (fun hHeld => ?_)
     clear hK K
     (try simp only [Act.put, List.setIfInBounds_toArray, List.set_cons_zero, List.set_cons_succ])
     refine wpAnyH_ready (rs := [5]) (by kernel_rfl) (by simp) ?_
     refine (AllReadyH.cons (o := ⟨some 73, .call { callee := .builtin .append, args := #[.tmp 70, .tmp 72], argTypes := #[23, 23] }, 23, "law.go:440", #[⟨2, .data⟩, ⟨4, .data⟩, ⟨2, .chain⟩], none⟩) rfl (fun K hK => ?_) AllReadyH.nil)
     rw [if_pos (by rfl)]
     refine wp_app_row (.tmp 70) (.tmp 72) rfl Tryz.underlying23 info_noteG rfl (by omega) (by omega) w1.heap.size (.slice M1 ns.length q1) _ rfl hown gx rfl (r := Note.cells ⟨x0, x1, x2, x3, x4, x5, x6, x7, x8⟩) hG rfl (by intro u hu; simp only [Note.cells, List.mem_cons, List.not_mem_nil, or_false] at hu; rcases hu with rfl | rfl | rfl | rfl | rfl | rfl | rfl | rfl | rfl <;> rfl) (by rw [List.length_map]; omega) hbz.size ?_
     intro A2 c2 wz2 hown2 hgr
     replace hbz := hbz.grown hgr hbz.size hown.ge
     (try replace hZ := hZ.grown hgr (ownS_not hown hZ (by decide)))
     rw [List.length_map] at hown2 ⊢
     refine hK.out _ _ (hkS _ hbz) (fun hHeld => ?_)
     clear hK K
     (try simp only [Act.put, List.setIfInBounds_toArray, List.set_cons_zero, List.set_cons_succ])
     refine wpAnyH_take (i := 6) (oi := ⟨some 74, .build 25 #[(1, .tmp 73)], 25, "law.go:440", #[⟨5, .data⟩], none⟩) (v := ?_) rfl (by kernel_rfl) (by kernel_rfl) (by kernel_rfl) (fun _ _ _ h => h) (Or.inl ⟨by rfl, fun W hSw => ?_⟩) hHeld ?_
     rotate_left
     ·(try dsimp only at hSw); go_simp; (try with_reducible rfl)
     (try simp only [Act.put, List.setIfInBounds_toArray, List.set_cons_zero, List.set_cons_succ])
     refine wpAnyH_ready (rs := [8]) (by kernel_rfl) (by simp) ?_
     refine (AllReadyH.cons (o := ⟨none, .store 25 (.tmp 11) (.tmp 74), 0, "law.go:440", #[⟨7, .data⟩, ⟨6, .data⟩, ⟨5, .chain⟩, ⟨0, .phase⟩, ⟨1, .phase⟩, ⟨2, .phase⟩, ⟨3, .phase⟩, ⟨4, .phase⟩, ⟨5, .phase⟩, ⟨6, .phase⟩, ⟨7, .phase⟩], none⟩) rfl (fun K hK => ?_) AllReadyH.nil)
     rw [if_pos (by rfl)]
     refine wp_store_blk 25 _ _ rfl g7 25 _ #[.slice none 0 0, .slice A2 (ns.length + 1) c2] rfl rfl hZ rfl (by kernel_rfl) (by simp [Value.oneCell']) ?_
     intro wC hZC hgC
     have hnC := hown2.grownT hgC (blk_notT hZ (by decide))
     have hbC := hbz.grown hgC hbz.size (by intro q hq; cases hq; exact hg7l)
     refine hK.out _ _ (hkS _ hbC) (fun hHeld => ?_)
     clear hK K
     refine wpAnyH_done (by kernel_rfl) ?_ _
     refine NoPanic.normal ?_
     go_wp2_with fail
     go_meet
     case rel =>
      have he := HNX.out
      refine ⟨g7, A2, c2, rfl, hg7l, ⟨?_, OwnS.nil _ _ _ _, ?_, hbC⟩⟩
      ·rw [← he, List.length_append]
       exact hZC
      ·rw [← he, List.length_append, List.map_append]
       exact hnC
   ·rw [if_pos (by rfl)]
    refine wp_alloc_new 25 rfl (.agg #[.slice none 0 0, .slice none 0 0]) (by kernel_rfl) ?_
    intro g7 wB hg7 hZ hbB hsB
    have hg7l : w1.heap.size ≤ g7 := by rw [← hg7]; exact hbz.size
    replace hbz := fr_call hbz hbB
    (try replace hown := hown.keep hbB)
    (try replace hG := hG.keep hbB)
    (try replace hown2 := hown2.keep hbB)
    refine hK.out _ _ (hkS _ hbz) (fun hHeld => ?_)
    clear hK K
    (try simp only [Act.put, List.setIfInBounds_toArray, List.set_cons_zero, List.set_cons_succ])
    refine wpAnyH_ready (rs := [4]) (by kernel_rfl) (by simp) ?_
    refine (AllReadyH.cons (o := ⟨some 72, .buildSlice 23 1 #[(0, .tmp 71)], 23, "law.go:440", #[⟨3, .data⟩], none⟩) rfl (fun K hK => ?_) AllReadyH.nil)
    rw [if_pos (by rfl)]
    refine wp_build_note rfl rfl ?_
    intro gx wz hgz hG hb1
    replace hbz := fr_call hbz hb1
    (try replace hown := hown.keep hb1)
    (try replace hZ := hZ.keep hb1)
    refine hK.out _ _ (hkS _ hbz) (fun hHeld => ?_)
    clear hK K
    (try simp only [Act.put, List.setIfInBounds_toArray, List.set_cons_zero, List.set_cons_succ])
    refine wpAnyH_ready (rs := [5]) (by kernel_rfl) (by simp) ?_
    refine (AllReadyH.cons (o := ⟨some 73, .call { callee := .builtin .append, args := #[.tmp 70, .tmp 72], argTypes := #[23, 23] }, 23, "law.go:440", #[⟨2, .data⟩, ⟨4, .data⟩, ⟨2, .chain⟩], none⟩) rfl (fun K hK => ?_) AllReadyH.nil)
    rw [if_pos (by rfl)]
    refine wp_app_row (.tmp 70) (.tmp 72) rfl Tryz.underlying23 info_noteG rfl (by omega) (by omega) w1.heap.size (.slice M1 ns.length q1) _ rfl hown gx rfl (r := Note.cells ⟨x0, x1, x2, x3, x4, x5, x6, x7, x8⟩) hG rfl (by intro u hu; simp only [Note.cells, List.mem_cons, List.not_mem_nil, or_false] at hu; rcases hu with rfl | rfl | rfl | rfl | rfl | rfl | rfl | rfl | rfl <;> rfl) (by rw [List.length_map]; omega) hbz.size ?_
    intro A2 c2 wz2 hown2 hgr
    replace hbz := hbz.grown hgr hbz.size hown.ge
    (try replace hZ := hZ.grown hgr (ownS_not hown hZ (by decide)))
    rw [List.length_map] at hown2 ⊢
    refine hK.out _ _ (hkS _ hbz) (fun hHeld => ?_)
    clear hK K
    (try simp only [Act.put, List.setIfInBounds_toArray, List.set_cons_zero, List.set_cons_succ])
    refine wpAnyH_take (i := 6) (oi := ⟨some 74, .build 25 #[(1, .tmp 73)], 25, "law.go:440", #[⟨5, .data⟩], none⟩) (v := ?_) rfl (by kernel_rfl) (by kernel_rfl) (by kernel_rfl) (fun _ _ _ h => h) (Or.inl ⟨by rfl, fun W hSw => ?_⟩) hHeld ?_
    rotate_left
    ·(try dsimp only at hSw); go_simp; (try with_reducible rfl)
    (try simp only [Act.put, List.setIfInBounds_toArray, List.set_cons_zero, List.set_cons_succ])
    refine wpAnyH_ready (rs := [8]) (by kernel_rfl) (by simp) ?_
    refine (AllReadyH.cons (o := ⟨none, .store 25 (.tmp 11) (.tmp 74), 0, "law.go:440", #[⟨7, .data⟩, ⟨6, .data⟩, ⟨5, .chain⟩, ⟨0, .phase⟩, ⟨1, .phase⟩, ⟨2, .phase⟩, ⟨3, .phase⟩, ⟨4, .phase⟩, ⟨5, .phase⟩, ⟨6, .phase⟩, ⟨7, .phase⟩], none⟩) rfl (fun K hK => ?_) AllReadyH.nil)
    rw [if_pos (by rfl)]
    refine wp_store_blk 25 _ _ rfl g7 25 _ #[.slice none 0 0, .slice A2 (ns.length + 1) c2] rfl rfl hZ rfl (by kernel_rfl) (by simp [Value.oneCell']) ?_
    intro wC hZC hgC
    have hnC := hown2.grownT hgC (blk_notT hZ (by decide))
    have hbC := hbz.grown hgC hbz.size (by intro q hq; cases hq; exact hg7l)
    refine hK.out _ _ (hkS _ hbC) (fun hHeld => ?_)
    clear hK K
    refine wpAnyH_done (by kernel_rfl) ?_ _
    refine NoPanic.normal ?_
    go_wp2_with fail
    go_meet
    case rel =>
     have he := HNX.out
     refine ⟨g7, A2, c2, rfl, hg7l, ⟨?_, OwnS.nil _ _ _ _, ?_, hbC⟩⟩
     ·rw [← he, List.length_append]
      exact hZC
     ·rw [← he, List.length_append, List.map_append]
      exact hnC
  ·rw [if_pos (by rfl)]
   refine wp_build_note rfl rfl ?_
   intro gx wz hgz hG hb1
   replace hbz := fr_call hbz hb1
   (try replace hown := hown.keep hb1)
   (try replace hZ := hZ.keep hb1)
   refine hK.out _ _ (hkS _ hbz) (fun hHeld => ?_)
   clear hK K
   (try simp only [Act.put, List.setIfInBounds_toArray, List.set_cons_zero, List.set_cons_succ])
   refine wpAnyH_ready (rs := [2, 7]) (by kernel_rfl) (by simp) ?_
   refine (AllReadyH.cons (o := ⟨some 70, .call { callee := .builtin .append, args := #[.const (.slice none 0 0), .tmp 69], argTypes := #[23, 23] }, 23, "law.go:440", #[⟨1, .data⟩], none⟩) rfl (fun K hK => ?_) (AllReadyH.cons (o := ⟨some 11, .alloc 25, 0, "law.go:440", #[], none⟩) rfl (fun K hK => ?_) AllReadyH.nil))
   ·rw [if_pos (by rfl)]
    refine wp_app_notes (.tmp 69) rfl w1.heap.size N ns.length d ns rfl rfl (hf.ns.keep hbz) (by omega) hbz.size ?_
    intro M1 q1 wz hown hb1
    replace hbz := fr_call hbz hb1
    (try replace hG := hG.keep hb1)
    (try replace hZ := hZ.keep hb1)
    refine hK.out _ _ (hkS _ hbz) (fun hHeld => ?_)
    clear hK K
    (try simp only [Act.put, List.setIfInBounds_toArray, List.set_cons_zero, List.set_cons_succ])
    refine wpAnyH_ready (rs := [5, 7]) (by kernel_rfl) (by simp) ?_
    refine (AllReadyH.cons (o := ⟨some 73, .call { callee := .builtin .append, args := #[.tmp 70, .tmp 72], argTypes := #[23, 23] }, 23, "law.go:440", #[⟨2, .data⟩, ⟨4, .data⟩, ⟨2, .chain⟩], none⟩) rfl (fun K hK => ?_) (AllReadyH.cons (o := ⟨some 11, .alloc 25, 0, "law.go:440", #[], none⟩) rfl (fun K hK => ?_) AllReadyH.nil))
    ·rw [if_pos (by rfl)]
     refine wp_app_row (.tmp 70) (.tmp 72) rfl Tryz.underlying23 info_noteG rfl (by omega) (by omega) w1.heap.size (.slice M1 ns.length q1) _ rfl hown gx rfl (r := Note.cells ⟨x0, x1, x2, x3, x4, x5, x6, x7, x8⟩) hG rfl (by intro u hu; simp only [Note.cells, List.mem_cons, List.not_mem_nil, or_false] at hu; rcases hu with rfl | rfl | rfl | rfl | rfl | rfl | rfl | rfl | rfl <;> rfl) (by rw [List.length_map]; omega) hbz.size ?_
     intro A2 c2 wz2 hown2 hgr
     replace hbz := hbz.grown hgr hbz.size hown.ge
     (try replace hZ := hZ.grown hgr (ownS_not hown hZ (by decide)))
     rw [List.length_map] at hown2 ⊢
     refine hK.out _ _ (hkS _ hbz) (fun hHeld => ?_)
     clear hK K
     (try simp only [Act.put, List.setIfInBounds_toArray, List.set_cons_zero, List.set_cons_succ])
     refine wpAnyH_take (i := 6) (oi := ⟨some 74, .build 25 #[(1, .tmp 73)], 25, "law.go:440", #[⟨5, .data⟩], none⟩) (v := ?_) rfl (by kernel_rfl) (by kernel_rfl) (by kernel_rfl) (fun _ _ _ h => h) (Or.inl ⟨by rfl, fun W hSw => ?_⟩) hHeld ?_
     rotate_left
     ·(try dsimp only at hSw); go_simp; (try with_reducible rfl)
     (try simp only [Act.put, List.setIfInBounds_toArray, List.set_cons_zero, List.set_cons_succ])
     refine wpAnyH_ready (rs := [7]) (by kernel_rfl) (by simp) ?_
     refine (AllReadyH.cons (o := ⟨some 11, .alloc 25, 0, "law.go:440", #[], none⟩) rfl (fun K hK => ?_) AllReadyH.nil)
     rw [if_pos (by rfl)]
     refine wp_alloc_new 25 rfl (.agg #[.slice none 0 0, .slice none 0 0]) (by kernel_rfl) ?_
     intro g7 wB hg7 hZ hbB hsB
     have hg7l : w1.heap.size ≤ g7 := by rw [← hg7]; exact hbz.size
     replace hbz := fr_call hbz hbB
     (try replace hown := hown.keep hbB)
     (try replace hG := hG.keep hbB)
     (try replace hown2 := hown2.keep hbB)
     refine hK.out _ _ (hkS _ hbz) (fun hHeld => ?_)
     clear hK K
     (try simp only [Act.put, List.setIfInBounds_toArray, List.set_cons_zero, List.set_cons_succ])
     refine wpAnyH_ready (rs := [8]) (by kernel_rfl) (by simp) ?_
     refine (AllReadyH.cons (o := ⟨none, .store 25 (.tmp 11) (.tmp 74), 0, "law.go:440", #[⟨7, .data⟩, ⟨6, .data⟩, ⟨5, .chain⟩, ⟨0, .phase⟩, ⟨1, .phase⟩, ⟨2, .phase⟩, ⟨3, .phase⟩, ⟨4, .phase⟩, ⟨5, .phase⟩, ⟨6, .phase⟩, ⟨7, .phase⟩], none⟩) rfl (fun K hK => ?_) AllReadyH.nil)
     rw [if_pos (by rfl)]
     refine wp_store_blk 25 _ _ rfl g7 25 _ #[.slice none 0 0, .slice A2 (ns.length + 1) c2] rfl rfl hZ rfl (by kernel_rfl) (by simp [Value.oneCell']) ?_
     intro wC hZC hgC
     have hnC := hown2.grownT hgC (blk_notT hZ (by decide))
     have hbC := hbz.grown hgC hbz.size (by intro q hq; cases hq; exact hg7l)
     refine hK.out _ _ (hkS _ hbC) (fun hHeld => ?_)
     clear hK K
     refine wpAnyH_done (by kernel_rfl) ?_ _
     refine NoPanic.normal ?_
     go_wp2_with fail
     go_meet
     case rel =>
      have he := HNX.out
      refine ⟨g7, A2, c2, rfl, hg7l, ⟨?_, OwnS.nil _ _ _ _, ?_, hbC⟩⟩
      ·rw [← he, List.length_append]
       exact hZC
      ·rw [← he, List.length_append, List.map_append]
       exact hnC
    ·rw [if_pos (by rfl)]
     refine wp_alloc_new 25 rfl (.agg #[.slice none 0 0, .slice none 0 0]) (by kernel_rfl) ?_
     intro g7 wB hg7 hZ hbB hsB
     have hg7l : w1.heap.size ≤ g7 := by rw [← hg7]; exact hbz.size
     replace hbz := fr_call hbz hbB
     (try replace hown := hown.keep hbB)
     (try replace hG := hG.keep hbB)
     (try replace hown2 := hown2.keep hbB)
     refine hK.out _ _ (hkS _ hbz) (fun hHeld => ?_)
     clear hK K
     (try simp only [Act.put, List.setIfInBounds_toArray, List.set_cons_zero, List.set_cons_succ])
     refine wpAnyH_ready (rs := [5]) (by kernel_rfl) (by simp) ?_
     refine (AllReadyH.cons (o := ⟨some 73, .call { callee := .builtin .append, args := #[.tmp 70, .tmp 72], argTypes := #[23, 23] }, 23, "law.go:440", #[⟨2, .data⟩, ⟨4, .data⟩, ⟨2, .chain⟩], none⟩) rfl (fun K hK => ?_) AllReadyH.nil)
     rw [if_pos (by rfl)]
     refine wp_app_row (.tmp 70) (.tmp 72) rfl Tryz.underlying23 info_noteG rfl (by omega) (by omega) w1.heap.size (.slice M1 ns.length q1) _ rfl hown gx rfl (r := Note.cells ⟨x0, x1, x2, x3, x4, x5, x6, x7, x8⟩) hG rfl (by intro u hu; simp only [Note.cells, List.mem_cons, List.not_mem_nil, or_false] at hu; rcases hu with rfl | rfl | rfl | rfl | rfl | rfl | rfl | rfl | rfl <;> rfl) (by rw [List.length_map]; omega) hbz.size ?_
     intro A2 c2 wz2 hown2 hgr
     replace hbz := hbz.grown hgr hbz.size hown.ge
     (try replace hZ := hZ.grown hgr (ownS_not hown hZ (by decide)))
     rw [List.length_map] at hown2 ⊢
     refine hK.out _ _ (hkS _ hbz) (fun hHeld => ?_)
     clear hK K
     (try simp only [Act.put, List.setIfInBounds_toArray, List.set_cons_zero, List.set_cons_succ])
     refine wpAnyH_take (i := 6) (oi := ⟨some 74, .build 25 #[(1, .tmp 73)], 25, "law.go:440", #[⟨5, .data⟩], none⟩) (v := ?_) rfl (by kernel_rfl) (by kernel_rfl) (by kernel_rfl) (fun _ _ _ h => h) (Or.inl ⟨by rfl, fun W hSw => ?_⟩) hHeld ?_
     rotate_left
     ·(try dsimp only at hSw); go_simp; (try with_reducible rfl)
     (try simp only [Act.put, List.setIfInBounds_toArray, List.set_cons_zero, List.set_cons_succ])
     refine wpAnyH_ready (rs := [8]) (by kernel_rfl) (by simp) ?_
     refine (AllReadyH.cons (o := ⟨none, .store 25 (.tmp 11) (.tmp 74), 0, "law.go:440", #[⟨7, .data⟩, ⟨6, .data⟩, ⟨5, .chain⟩, ⟨0, .phase⟩, ⟨1, .phase⟩, ⟨2, .phase⟩, ⟨3, .phase⟩, ⟨4, .phase⟩, ⟨5, .phase⟩, ⟨6, .phase⟩, ⟨7, .phase⟩], none⟩) rfl (fun K hK => ?_) AllReadyH.nil)
     rw [if_pos (by rfl)]
     refine wp_store_blk 25 _ _ rfl g7 25 _ #[.slice none 0 0, .slice A2 (ns.length + 1) c2] rfl rfl hZ rfl (by kernel_rfl) (by simp [Value.oneCell']) ?_
     intro wC hZC hgC
     have hnC := hown2.grownT hgC (blk_notT hZ (by decide))
     have hbC := hbz.grown hgC hbz.size (by intro q hq; cases hq; exact hg7l)
     refine hK.out _ _ (hkS _ hbC) (fun hHeld => ?_)
     clear hK K
     refine wpAnyH_done (by kernel_rfl) ?_ _
     refine NoPanic.normal ?_
     go_wp2_with fail
     go_meet
     case rel =>
      have he := HNX.out
      refine ⟨g7, A2, c2, rfl, hg7l, ⟨?_, OwnS.nil _ _ _ _, ?_, hbC⟩⟩
      ·rw [← he, List.length_append]
       exact hZC
      ·rw [← he, List.length_append, List.map_append]
       exact hnC
   ·rw [if_pos (by rfl)]
    refine wp_alloc_new 25 rfl (.agg #[.slice none 0 0, .slice none 0 0]) (by kernel_rfl) ?_
    intro g7 wB hg7 hZ hbB hsB
    have hg7l : w1.heap.size ≤ g7 := by rw [← hg7]; exact hbz.size
    replace hbz := fr_call hbz hbB
    (try replace hown := hown.keep hbB)
    (try replace hG := hG.keep hbB)
    (try replace hown2 := hown2.keep hbB)
    refine hK.out _ _ (hkS _ hbz) (fun hHeld => ?_)
    clear hK K
    (try simp only [Act.put, List.setIfInBounds_toArray, List.set_cons_zero, List.set_cons_succ])
    refine wpAnyH_ready (rs := [2]) (by kernel_rfl) (by simp) ?_
    refine (AllReadyH.cons (o := ⟨some 70, .call { callee := .builtin .append, args := #[.const (.slice none 0 0), .tmp 69], argTypes := #[23, 23] }, 23, "law.go:440", #[⟨1, .data⟩], none⟩) rfl (fun K hK => ?_) AllReadyH.nil)
    rw [if_pos (by rfl)]
    refine wp_app_notes (.tmp 69) rfl w1.heap.size N ns.length d ns rfl rfl (hf.ns.keep hbz) (by omega) hbz.size ?_
    intro M1 q1 wz hown hb1
    replace hbz := fr_call hbz hb1
    (try replace hG := hG.keep hb1)
    (try replace hZ := hZ.keep hb1)
    refine hK.out _ _ (hkS _ hbz) (fun hHeld => ?_)
    clear hK K
    (try simp only [Act.put, List.setIfInBounds_toArray, List.set_cons_zero, List.set_cons_succ])
    refine wpAnyH_ready (rs := [5]) (by kernel_rfl) (by simp) ?_
    refine (AllReadyH.cons (o := ⟨some 73, .call { callee := .builtin .append, args := #[.tmp 70, .tmp 72], argTypes := #[23, 23] }, 23, "law.go:440", #[⟨2, .data⟩, ⟨4, .data⟩, ⟨2, .chain⟩], none⟩) rfl (fun K hK => ?_) AllReadyH.nil)
    rw [if_pos (by rfl)]
    refine wp_app_row (.tmp 70) (.tmp 72) rfl Tryz.underlying23 info_noteG rfl (by omega) (by omega) w1.heap.size (.slice M1 ns.length q1) _ rfl hown gx rfl (r := Note.cells ⟨x0, x1, x2, x3, x4, x5, x6, x7, x8⟩) hG rfl (by intro u hu; simp only [Note.cells, List.mem_cons, List.not_mem_nil, or_false] at hu; rcases hu with rfl | rfl | rfl | rfl | rfl | rfl | rfl | rfl | rfl <;> rfl) (by rw [List.length_map]; omega) hbz.size ?_
    intro A2 c2 wz2 hown2 hgr
    replace hbz := hbz.grown hgr hbz.size hown.ge
    (try replace hZ := hZ.grown hgr (ownS_not hown hZ (by decide)))
    rw [List.length_map] at hown2 ⊢
    refine hK.out _ _ (hkS _ hbz) (fun hHeld => ?_)
    clear hK K
    (try simp only [Act.put, List.setIfInBounds_toArray, List.set_cons_zero, List.set_cons_succ])
    refine wpAnyH_take (i := 6) (oi := ⟨some 74, .build 25 #[(1, .tmp 73)], 25, "law.go:440", #[⟨5, .data⟩], none⟩) (v := ?_) rfl (by kernel_rfl) (by kernel_rfl) (by kernel_rfl) (fun _ _ _ h => h) (Or.inl ⟨by rfl, fun W hSw => ?_⟩) hHeld ?_
    rotate_left
    ·(try dsimp only at hSw); go_simp; (try with_reducible rfl)
    (try simp only [Act.put, List.setIfInBounds_toArray, List.set_cons_zero, List.set_cons_succ])
    refine wpAnyH_ready (rs := [8]) (by kernel_rfl) (by simp) ?_
    refine (AllReadyH.cons (o := ⟨none, .store 25 (.tmp 11) (.tmp 74), 0, "law.go:440", #[⟨7, .data⟩, ⟨6, .data⟩, ⟨5, .chain⟩, ⟨0, .phase⟩, ⟨1, .phase⟩, ⟨2, .phase⟩, ⟨3, .phase⟩, ⟨4, .phase⟩, ⟨5, .phase⟩, ⟨6, .phase⟩, ⟨7, .phase⟩], none⟩) rfl (fun K hK => ?_) AllReadyH.nil)
    rw [if_pos (by rfl)]
    refine wp_store_blk 25 _ _ rfl g7 25 _ #[.slice none 0 0, .slice A2 (ns.length + 1) c2] rfl rfl hZ rfl (by kernel_rfl) (by simp [Value.oneCell']) ?_
    intro wC hZC hgC
    have hnC := hown2.grownT hgC (blk_notT hZ (by decide))
    have hbC := hbz.grown hgC hbz.size (by intro q hq; cases hq; exact hg7l)
    refine hK.out _ _ (hkS _ hbC) (fun hHeld => ?_)
    clear hK K
    refine wpAnyH_done (by kernel_rfl) ?_ _
    refine NoPanic.normal ?_
    go_wp2_with fail
    go_meet
    case rel =>
     have he := HNX.out
     refine ⟨g7, A2, c2, rfl, hg7l, ⟨?_, OwnS.nil _ _ _ _, ?_, hbC⟩⟩
     ·rw [← he, List.length_append]
      exact hZC
     ·rw [← he, List.length_append, List.map_append]
      exact hnC
  ·rw [if_pos (by rfl)]
   refine wp_alloc_new 25 rfl (.agg #[.slice none 0 0, .slice none 0 0]) (by kernel_rfl) ?_
   intro g7 wB hg7 hZ hbB hsB
   have hg7l : w1.heap.size ≤ g7 := by rw [← hg7]; exact hbz.size
   replace hbz := fr_call hbz hbB
   (try replace hown := hown.keep hbB)
   (try replace hG := hG.keep hbB)
   (try replace hown2 := hown2.keep hbB)
   refine hK.out _ _ (hkS _ hbz) (fun hHeld => ?_)
   clear hK K
   (try simp only [Act.put, List.setIfInBounds_toArray, List.set_cons_zero, List.set_cons_succ])
   refine wpAnyH_ready (rs := [2, 4]) (by kernel_rfl) (by simp) ?_
   refine (AllReadyH.cons (o := ⟨some 70, .call { callee := .builtin .append, args := #[.const (.slice none 0 0), .tmp 69], argTypes := #[23, 23] }, 23, "law.go:440", #[⟨1, .data⟩], none⟩) rfl (fun K hK => ?_) (AllReadyH.cons (o := ⟨some 72, .buildSlice 23 1 #[(0, .tmp 71)], 23, "law.go:440", #[⟨3, .data⟩], none⟩) rfl (fun K hK => ?_) AllReadyH.nil))
   ·rw [if_pos (by rfl)]
    refine wp_app_notes (.tmp 69) rfl w1.heap.size N ns.length d ns rfl rfl (hf.ns.keep hbz) (by omega) hbz.size ?_
    intro M1 q1 wz hown hb1
    replace hbz := fr_call hbz hb1
    (try replace hG := hG.keep hb1)
    (try replace hZ := hZ.keep hb1)
    refine hK.out _ _ (hkS _ hbz) (fun hHeld => ?_)
    clear hK K
    (try simp only [Act.put, List.setIfInBounds_toArray, List.set_cons_zero, List.set_cons_succ])
    refine wpAnyH_ready (rs := [4]) (by kernel_rfl) (by simp) ?_
    refine (AllReadyH.cons (o := ⟨some 72, .buildSlice 23 1 #[(0, .tmp 71)], 23, "law.go:440", #[⟨3, .data⟩], none⟩) rfl (fun K hK => ?_) AllReadyH.nil)
    rw [if_pos (by rfl)]
    refine wp_build_note rfl rfl ?_
    intro gx wz hgz hG hb1
    replace hbz := fr_call hbz hb1
    (try replace hown := hown.keep hb1)
    (try replace hZ := hZ.keep hb1)
    refine hK.out _ _ (hkS _ hbz) (fun hHeld => ?_)
    clear hK K
    (try simp only [Act.put, List.setIfInBounds_toArray, List.set_cons_zero, List.set_cons_succ])
    refine wpAnyH_ready (rs := [5]) (by kernel_rfl) (by simp) ?_
    refine (AllReadyH.cons (o := ⟨some 73, .call { callee := .builtin .append, args := #[.tmp 70, .tmp 72], argTypes := #[23, 23] }, 23, "law.go:440", #[⟨2, .data⟩, ⟨4, .data⟩, ⟨2, .chain⟩], none⟩) rfl (fun K hK => ?_) AllReadyH.nil)
    rw [if_pos (by rfl)]
    refine wp_app_row (.tmp 70) (.tmp 72) rfl Tryz.underlying23 info_noteG rfl (by omega) (by omega) w1.heap.size (.slice M1 ns.length q1) _ rfl hown gx rfl (r := Note.cells ⟨x0, x1, x2, x3, x4, x5, x6, x7, x8⟩) hG rfl (by intro u hu; simp only [Note.cells, List.mem_cons, List.not_mem_nil, or_false] at hu; rcases hu with rfl | rfl | rfl | rfl | rfl | rfl | rfl | rfl | rfl <;> rfl) (by rw [List.length_map]; omega) hbz.size ?_
    intro A2 c2 wz2 hown2 hgr
    replace hbz := hbz.grown hgr hbz.size hown.ge
    (try replace hZ := hZ.grown hgr (ownS_not hown hZ (by decide)))
    rw [List.length_map] at hown2 ⊢
    refine hK.out _ _ (hkS _ hbz) (fun hHeld => ?_)
    clear hK K
    (try simp only [Act.put, List.setIfInBounds_toArray, List.set_cons_zero, List.set_cons_succ])
    refine wpAnyH_take (i := 6) (oi := ⟨some 74, .build 25 #[(1, .tmp 73)], 25, "law.go:440", #[⟨5, .data⟩], none⟩) (v := ?_) rfl (by kernel_rfl) (by kernel_rfl) (by kernel_rfl) (fun _ _ _ h => h) (Or.inl ⟨by rfl, fun W hSw => ?_⟩) hHeld ?_
    rotate_left
    ·(try dsimp only at hSw); go_simp; (try with_reducible rfl)
    (try simp only [Act.put, List.setIfInBounds_toArray, List.set_cons_zero, List.set_cons_succ])
    refine wpAnyH_ready (rs := [8]) (by kernel_rfl) (by simp) ?_
    refine (AllReadyH.cons (o := ⟨none, .store 25 (.tmp 11) (.tmp 74), 0, "law.go:440", #[⟨7, .data⟩, ⟨6, .data⟩, ⟨5, .chain⟩, ⟨0, .phase⟩, ⟨1, .phase⟩, ⟨2, .phase⟩, ⟨3, .phase⟩, ⟨4, .phase⟩, ⟨5, .phase⟩, ⟨6, .phase⟩, ⟨7, .phase⟩], none⟩) rfl (fun K hK => ?_) AllReadyH.nil)
    rw [if_pos (by rfl)]
    refine wp_store_blk 25 _ _ rfl g7 25 _ #[.slice none 0 0, .slice A2 (ns.length + 1) c2] rfl rfl hZ rfl (by kernel_rfl) (by simp [Value.oneCell']) ?_
    intro wC hZC hgC
    have hnC := hown2.grownT hgC (blk_notT hZ (by decide))
    have hbC := hbz.grown hgC hbz.size (by intro q hq; cases hq; exact hg7l)
    refine hK.out _ _ (hkS _ hbC) (fun hHeld => ?_)
    clear hK K
    refine wpAnyH_done (by kernel_rfl) ?_ _
    refine NoPanic.normal ?_
    go_wp2_with fail
    go_meet
    case rel =>
     have he := HNX.out
     refine ⟨g7, A2, c2, rfl, hg7l, ⟨?_, OwnS.nil _ _ _ _, ?_, hbC⟩⟩
     ·rw [← he, List.length_append]
      exact hZC
     ·rw [← he, List.length_append, List.map_append]
      exact hnC
   ·rw [if_pos (by rfl)]
    refine wp_build_note rfl rfl ?_
    intro gx wz hgz hG hb1
    replace hbz := fr_call hbz hb1
    (try replace hown := hown.keep hb1)
    (try replace hZ := hZ.keep hb1)
    refine hK.out _ _ (hkS _ hbz) (fun hHeld => ?_)
    clear hK K
    (try simp only [Act.put, List.setIfInBounds_toArray, List.set_cons_zero, List.set_cons_succ])
    refine wpAnyH_ready (rs := [2]) (by kernel_rfl) (by simp) ?_
    refine (AllReadyH.cons (o := ⟨some 70, .call { callee := .builtin .append, args := #[.const (.slice none 0 0), .tmp 69], argTypes := #[23, 23] }, 23, "law.go:440", #[⟨1, .data⟩], none⟩) rfl (fun K hK => ?_) AllReadyH.nil)
    rw [if_pos (by rfl)]
    refine wp_app_notes (.tmp 69) rfl w1.heap.size N ns.length d ns rfl rfl (hf.ns.keep hbz) (by omega) hbz.size ?_
    intro M1 q1 wz hown hb1
    replace hbz := fr_call hbz hb1
    (try replace hG := hG.keep hb1)
    (try replace hZ := hZ.keep hb1)
    refine hK.out _ _ (hkS _ hbz) (fun hHeld => ?_)
    clear hK K
    (try simp only [Act.put, List.setIfInBounds_toArray, List.set_cons_zero, List.set_cons_succ])
    refine wpAnyH_ready (rs := [5]) (by kernel_rfl) (by simp) ?_
    refine (AllReadyH.cons (o := ⟨some 73, .call { callee := .builtin .append, args := #[.tmp 70, .tmp 72], argTypes := #[23, 23] }, 23, "law.go:440", #[⟨2, .data⟩, ⟨4, .data⟩, ⟨2, .chain⟩], none⟩) rfl (fun K hK => ?_) AllReadyH.nil)
    rw [if_pos (by rfl)]
    refine wp_app_row (.tmp 70) (.tmp 72) rfl Tryz.underlying23 info_noteG rfl (by omega) (by omega) w1.heap.size (.slice M1 ns.length q1) _ rfl hown gx rfl (r := Note.cells ⟨x0, x1, x2, x3, x4, x5, x6, x7, x8⟩) hG rfl (by intro u hu; simp only [Note.cells, List.mem_cons, List.not_mem_nil, or_false] at hu; rcases hu with rfl | rfl | rfl | rfl | rfl | rfl | rfl | rfl | rfl <;> rfl) (by rw [List.length_map]; omega) hbz.size ?_
    intro A2 c2 wz2 hown2 hgr
    replace hbz := hbz.grown hgr hbz.size hown.ge
    (try replace hZ := hZ.grown hgr (ownS_not hown hZ (by decide)))
    rw [List.length_map] at hown2 ⊢
    refine hK.out _ _ (hkS _ hbz) (fun hHeld => ?_)
    clear hK K
    (try simp only [Act.put, List.setIfInBounds_toArray, List.set_cons_zero, List.set_cons_succ])
    refine wpAnyH_take (i := 6) (oi := ⟨some 74, .build 25 #[(1, .tmp 73)], 25, "law.go:440", #[⟨5, .data⟩], none⟩) (v := ?_) rfl (by kernel_rfl) (by kernel_rfl) (by kernel_rfl) (fun _ _ _ h => h) (Or.inl ⟨by rfl, fun W hSw => ?_⟩) hHeld ?_
    rotate_left
    ·(try dsimp only at hSw); go_simp; (try with_reducible rfl)
    (try simp only [Act.put, List.setIfInBounds_toArray, List.set_cons_zero, List.set_cons_succ])
    refine wpAnyH_ready (rs := [8]) (by kernel_rfl) (by simp) ?_
    refine (AllReadyH.cons (o := ⟨none, .store 25 (.tmp 11) (.tmp 74), 0, "law.go:440", #[⟨7, .data⟩, ⟨6, .data⟩, ⟨5, .chain⟩, ⟨0, .phase⟩, ⟨1, .phase⟩, ⟨2, .phase⟩, ⟨3, .phase⟩, ⟨4, .phase⟩, ⟨5, .phase⟩, ⟨6, .phase⟩, ⟨7, .phase⟩], none⟩) rfl (fun K hK => ?_) AllReadyH.nil)
    rw [if_pos (by rfl)]
    refine wp_store_blk 25 _ _ rfl g7 25 _ #[.slice none 0 0, .slice A2 (ns.length + 1) c2] rfl rfl hZ rfl (by kernel_rfl) (by simp [Value.oneCell']) ?_
    intro wC hZC hgC
    have hnC := hown2.grownT hgC (blk_notT hZ (by decide))
    have hbC := hbz.grown hgC hbz.size (by intro q hq; cases hq; exact hg7l)
    refine hK.out _ _ (hkS _ hbC) (fun hHeld => ?_)
    clear hK K
    refine wpAnyH_done (by kernel_rfl) ?_ _
    refine NoPanic.normal ?_
    go_wp2_with fail
    go_meet
    case rel =>
     have he := HNX.out
     refine ⟨g7, A2, c2, rfl, hg7l, ⟨?_, OwnS.nil _ _ _ _, ?_, hbC⟩⟩
     ·rw [← he, List.length_append]
      exact hZC
     ·rw [← he, List.length_append, List.map_append]
      exact hnC
 case rest =>
  obtain ⟨g, M, q, rfl, hgl, hI⟩ := hcut
  have hgl0 : w.heap.size < w1.heap.size := hl0
  clear hl0 hc0 hc1
  go_wp2_with fail
  go_loopw [12] (fun j wr => ∃ (k : Nat) (v : Value), k ≤ ws.length ∧ j = .int .i64 k ∧ GI w1 g (.slice M nx.length q) nx (vs.take k) v wr) (fun j _ => ws.length - (intOf j).toNat)
  case atStart => exact ⟨0, _, Nat.zero_le _, rfl, hI⟩
  case round =>
   clear hI
   obtain ⟨k, v, hk, rfl, hI⟩ := hrel
   have hX := hX0.keep hI.bel
   have hc0 := fun j => hX.cell j
   have hl0 := hX.lt
   by_cases hlt : k < ws.length
   ·obtain ⟨ad, rfl, hab, k0, k1⟩ := whs_at (hf.ws.keep hI.bel) hlt
    obtain ⟨hw1, hw2, hw3, hw4⟩ := HWH.out _ (List.getElem_mem hlt)
    have hst := Lib.hid (show vs.take (k + 1) = vs.take k ++ [nearW up dn ws[k]] by rw [List.take_succ_eq_append_getElem (by have := HVL.out; omega)]; congr 2; simp [← HVS.out])
    have i1 : 0 ≤ (k : Int) := by omega
    have i2 : (k : Int) < (ws.length : Int) := by omega
    have hnear : nearW up dn ws[k] = ⟨min ws[k].hi (ws[k].lo + up), max (min ws[k].hi (ws[k].lo + up)) (ws[k].hi - dn)⟩ := rfl
    rw [hnear] at hst
    obtain ⟨lo, hlo⟩ : ∃ z, ws[k].lo = z := ⟨_, rfl⟩
    obtain ⟨hi, hhi⟩ : ∃ z, ws[k].hi = z := ⟨_, rfl⟩
    rw [hlo] at k0 hw1 hw2 hw4 hst
    rw [hhi] at k1 hw2 hw3 hw4 hst
    clear hnear hlo
    have z1 : IntKind.i64.wrap (lo + up) = lo + up := IntWalk.i64_in _ (by omega)
    have z2 : IntKind.i64.wrap (hi - dn) = hi - dn := IntWalk.i64_in _ (by omega)
    obtain ⟨wo, rfl⟩ : ∃ wo : World, wo = wr := ⟨_, rfl⟩
    go_wp2_with fail
    go_quiet (fail)
    have hI3 := hI.below (fr_drewN (fr_refl wo) nq)
    have HHI := Lib.hid hhi
    clear hhi hX hc0 hl0 hI hab k0 k1
    generalize wo.drewN nq = w3 at *
    obtain ⟨ml, hml⟩ : ∃ z, min hi (lo + up) = z := ⟨_, rfl⟩
    rw [hml] at hst ⊢
    have hll : ((vs.take k).map Wh.cells).length < 1000000 := by rw [List.length_map, List.length_take]; omega
    have HTK := Lib.hid (show (vs.take k).length = k by rw [List.length_take]; have := HVL.out; omega)
    clear hml
    go_upto_region 8 with (fail)
    refine wp_region_noPanic ?_
    refine wp_region_held_drew (S := fun _ => True) (by kernel_rfl) trivial (fun hHeld => ?_)
    have hIz := hI3.below (fr_drew (fr_refl _))
    generalize w3.drew = wz at hIz hHeld ⊢
    clear hI3
    -- the region, step by step, in whatever order
    refine wpAnyH_take (i := 0) (oi := ⟨some 97, .fieldAddr 25 (.tmp 11) 0, 0, "law.go:443", #[], none⟩) (v := ?_) rfl (by kernel_rfl) (by kernel_rfl) (by kernel_rfl) (fun _ _ _ h => h) (Or.inl ⟨by rfl, fun W hSw => ?_⟩) hHeld ?_
    rotate_left
    ·(try dsimp only at hSw); go_simp; (try with_reducible rfl)
    (try simp only [Act.put, List.setIfInBounds_toArray, List.set_cons_zero, List.set_cons_succ])
    refine wpAnyH_take (i := 2) (oi := ⟨some 99, .move (.tmp 13), 3, "law.go:443", #[], none⟩) (v := ?_) rfl (by kernel_rfl) (by kernel_rfl) (by kernel_rfl) (fun _ _ _ h => h) (Or.inl ⟨by rfl, fun W hSw => ?_⟩) hHeld ?_
    rotate_left
    ·(try dsimp only at hSw); go_simp; (try with_reducible rfl)
    (try simp only [Act.put, List.setIfInBounds_toArray, List.set_cons_zero, List.set_cons_succ])
    refine wpAnyH_take (i := 3) (oi := ⟨some 100, .move (.tmp 13), 3, "law.go:443", #[], none⟩) (v := ?_) rfl (by kernel_rfl) (by kernel_rfl) (by kernel_rfl) (fun _ _ _ h => h) (Or.inl ⟨by rfl, fun W hSw => ?_⟩) hHeld ?_
    rotate_left
    ·(try dsimp only at hSw); go_simp; (try with_reducible rfl)
    (try simp only [Act.put, List.setIfInBounds_toArray, List.set_cons_zero, List.set_cons_succ])
    refine wpAnyH_take (i := 4) (oi := ⟨some 101, .fieldAddr 25 (.tmp 5) 0, 0, "law.go:443", #[], none⟩) (v := ?_) rfl (by kernel_rfl) (by kernel_rfl) (by kernel_rfl) (fun _ _ _ h => h) (Or.inl ⟨by rfl, fun W hSw => ?_⟩) hHeld ?_
    rotate_left
    ·(try dsimp only at hSw); go_simp; (try with_reducible rfl)
    (try simp only [Act.put, List.setIfInBounds_toArray, List.set_cons_zero, List.set_cons_succ])
    refine wpAnyH_take (i := 6) (oi := ⟨some 103, .move (.tmp 12), 3, "law.go:443", #[], none⟩) (v := ?_) rfl (by kernel_rfl) (by kernel_rfl) (by kernel_rfl) (fun _ _ _ h => h) (Or.inl ⟨by rfl, fun W hSw => ?_⟩) hHeld ?_
    rotate_left
    ·(try dsimp only at hSw); go_simp; (try with_reducible rfl)
    (try simp only [Act.put, List.setIfInBounds_toArray, List.set_cons_zero, List.set_cons_succ])
    refine wpAnyH_take (i := 10) (oi := ⟨some 107, .move (.tmp 3), 3, "law.go:443", #[], none⟩) (v := ?_) rfl (by kernel_rfl) (by kernel_rfl) (by kernel_rfl) (fun _ _ _ h => h) (Or.inl ⟨by rfl, fun W hSw => ?_⟩) hHeld ?_
    rotate_left
    ·(try dsimp only at hSw); go_simp; (try with_reducible rfl)
    (try simp only [Act.put, List.setIfInBounds_toArray, List.set_cons_zero, List.set_cons_succ])
    refine wpAnyH_ready (rs := [1, 5]) (by kernel_rfl) (by simp) ?_
    refine (AllReadyH.cons (o := ⟨some 98, .load 22 (.tmp 97), 22, "law.go:443", #[⟨0, .data⟩], none⟩) rfl (fun K hK => ?_) (AllReadyH.cons (o := ⟨some 102, .load 22 (.tmp 101), 22, "law.go:443", #[⟨4, .data⟩], none⟩) rfl (fun K hK => ?_) AllReadyH.nil))
    ·rw [if_pos (by rfl)]
     have hcf := hIz.f.cell 0
     go_simp
     clear hcf
     refine hK.out _ _ (trivial) (fun hHeld => ?_)
     clear hK K
     (try simp only [Act.put, List.setIfInBounds_toArray, List.set_cons_zero, List.set_cons_succ])
     refine wpAnyH_ready (rs := [5]) (by kernel_rfl) (by simp) ?_
     refine (AllReadyH.cons (o := ⟨some 102, .load 22 (.tmp 101), 22, "law.go:443", #[⟨4, .data⟩], none⟩) rfl (fun K hK => ?_) AllReadyH.nil)
     rw [if_pos (by rfl)]
     have hcx := (hX0.keep hIz.bel).cell 0
     go_simp
     clear hcx
     refine hK.out _ _ (trivial) (fun hHeld => ?_)
     clear hK K
     (try simp only [Act.put, List.setIfInBounds_toArray, List.set_cons_zero, List.set_cons_succ])
     refine wpAnyH_take (i := 7) (oi := ⟨some 104, .indexAddr 22 (.tmp 102) (.tmp 103), 0, "law.go:443", #[⟨5, .data⟩, ⟨6, .data⟩], none⟩) (v := ?_) rfl (by kernel_rfl) (by kernel_rfl) (by kernel_rfl) (fun _ _ _ h => h) (Or.inl ⟨by rfl, fun W hSw => ?_⟩) hHeld ?_
     rotate_left
     ·(try dsimp only at hSw); go_simp; (try with_reducible rfl)
     (try simp only [Act.put, List.setIfInBounds_toArray, List.set_cons_zero, List.set_cons_succ])
     refine wpAnyH_take (i := 8) (oi := ⟨some 105, .fieldAddr 47 (.tmp 104) 1, 0, "law.go:443", #[⟨7, .data⟩], none⟩) (v := ?_) rfl (by kernel_rfl) (by kernel_rfl) (by kernel_rfl) (fun _ _ _ h => h) (Or.inl ⟨by rfl, fun W hSw => ?_⟩) hHeld ?_
     rotate_left
     ·(try dsimp only at hSw); go_simp; (try with_reducible rfl)
     (try simp only [Act.put, List.setIfInBounds_toArray, List.set_cons_zero, List.set_cons_succ])
     refine wpAnyH_ready (rs := [9]) (by kernel_rfl) (by simp) ?_
     refine (AllReadyH.cons (o := ⟨some 106, .load 3 (.tmp 105), 3, "law.go:443", #[⟨8, .data⟩], none⟩) rfl (fun K hK => ?_) AllReadyH.nil)
     rw [if_pos (by rfl)]
     obtain ⟨ad', e1, hab', b0, b1⟩ := whs_at (hf.ws.keep hIz.bel) hlt
     rw [HHI.out] at b1
     cases e1
     go_simp
     clear b0 b1
     refine hK.out _ _ (trivial) (fun hHeld => ?_)
     clear hK K
     (try simp only [Act.put, List.setIfInBounds_toArray, List.set_cons_zero, List.set_cons_succ])
     refine wpAnyH_take (i := 11) (oi := ⟨some 108, .binOp .sub 3 (.tmp 106) (.tmp 107) 3, 3, "law.go:443", #[⟨9, .data⟩, ⟨10, .data⟩], none⟩) (v := ?_) rfl (by kernel_rfl) (by kernel_rfl) (by kernel_rfl) (fun _ _ _ h => h) (Or.inl ⟨by rfl, fun W hSw => ?_⟩) hHeld ?_
     rotate_left
     ·(try dsimp only at hSw); go_simp; (try with_reducible rfl)
     (try simp only [Act.put, List.setIfInBounds_toArray, List.set_cons_zero, List.set_cons_succ])
     refine wpAnyH_take (i := 12) (oi := ⟨some 109, .call { callee := .builtin .max, args := #[.tmp 100, .tmp 108], argTypes := #[3, 3] }, 3, "law.go:443", #[⟨3, .data⟩, ⟨11, .data⟩], none⟩) (v := ?_) rfl (by kernel_rfl) (by kernel_rfl) (by kernel_rfl) (fun _ _ _ h => h) (Or.inl ⟨by rfl, fun W hSw => ?_⟩) hHeld ?_
     rotate_left
     ·(try dsimp only at hSw); go_simp; (try with_reducible rfl)
     (try simp only [Act.put, List.setIfInBounds_toArray, List.set_cons_zero, List.set_cons_succ])
     refine wpAnyH_ready (rs := [13]) (by kernel_rfl) (by simp) ?_
     refine (AllReadyH.cons (o := ⟨some 110, .call { callee := .value (.func 36), args := #[.tmp 99, .tmp 109], argTypes := #[3, 3] }, 47, "law.go:443", #[⟨2, .data⟩, ⟨12, .data⟩], none⟩) rfl (fun K hK => ?_) AllReadyH.nil)
     rw [if_pos (by rfl)]
     go_simp
     refine (span_any _ _ _).mono ?_
     rintro e' wz ⟨rfl, hbS⟩
     replace hIz := hIz.below hbS
     refine hK.out _ _ (trivial) (fun hHeld => ?_)
     clear hK K
     (try simp only [Act.put, List.setIfInBounds_toArray, List.set_cons_zero, List.set_cons_succ])
     refine wpAnyH_ready (rs := [14]) (by kernel_rfl) (by simp) ?_
     refine (AllReadyH.cons (o := ⟨some 111, .buildSlice 22 1 #[(0, .tmp 110)], 22, "law.go:443", #[⟨13, .data⟩], none⟩) rfl (fun K hK => ?_) AllReadyH.nil)
     rw [if_pos (by rfl)]
     refine wp_build_span rfl rfl ?_
     intro gx wz hgz hG hb1
     replace hIz := hIz.below hb1
     refine hK.out _ _ (trivial) (fun hHeld => ?_)
     clear hK K
     (try simp only [Act.put, List.setIfInBounds_toArray, List.set_cons_zero, List.set_cons_succ])
     refine wpAnyH_ready (rs := [15]) (by kernel_rfl) (by simp) ?_
     refine (AllReadyH.cons (o := ⟨some 112, .call { callee := .builtin .append, args := #[.tmp 98, .tmp 111], argTypes := #[22, 22] }, 22, "law.go:443", #[⟨1, .data⟩, ⟨14, .data⟩, ⟨13, .chain⟩], none⟩) rfl (fun K hK => ?_) AllReadyH.nil)
     rw [if_pos (by rfl)]
     (try replace hG := hG)
     refine wp_app_row (.tmp 98) (.tmp 111) rfl Tryz.underlying22 info_spanG rfl (by omega) (by omega) w1.heap.size v _ rfl hIz.ww gx rfl (r := Wh.cells ⟨ml, max ml (hi - dn)⟩) hG rfl (by intro u hu; simp only [Wh.cells, List.mem_cons, List.not_mem_nil, or_false] at hu; rcases hu with rfl | rfl <;> rfl) hll hIz.bel.size ?_
     intro A2 c2 wz2 hown2 hgr
     rw [List.length_map, HTK.out] at hown2 ⊢
     refine hK.out _ _ (trivial) (fun hHeld => ?_)
     clear hK K
     (try simp only [Act.put, List.setIfInBounds_toArray, List.set_cons_zero, List.set_cons_succ])
     refine wpAnyH_take (i := 16) (oi := ⟨some 113, .fieldAddr 25 (.tmp 11) 0, 0, "law.go:443", #[⟨0, .phase⟩, ⟨1, .phase⟩, ⟨2, .phase⟩, ⟨3, .phase⟩, ⟨4, .phase⟩, ⟨5, .phase⟩, ⟨6, .phase⟩, ⟨7, .phase⟩, ⟨8, .phase⟩, ⟨9, .phase⟩, ⟨10, .phase⟩, ⟨11, .phase⟩, ⟨12, .phase⟩, ⟨13, .phase⟩, ⟨14, .phase⟩, ⟨15, .phase⟩], none⟩) (v := ?_) rfl (by kernel_rfl) (by kernel_rfl) (by kernel_rfl) (fun _ _ _ h => h) (Or.inl ⟨by rfl, fun W hSw => ?_⟩) hHeld ?_
     rotate_left
     ·(try dsimp only at hSw); go_simp; (try with_reducible rfl)
     (try simp only [Act.put, List.setIfInBounds_toArray, List.set_cons_zero, List.set_cons_succ])
     refine wpAnyH_ready (rs := [17]) (by kernel_rfl) (by simp) ?_
     refine (AllReadyH.cons (o := ⟨none, .store 22 (.tmp 113) (.tmp 112), 0, "law.go:443", #[⟨16, .data⟩, ⟨15, .data⟩, ⟨15, .chain⟩, ⟨0, .phase⟩, ⟨1, .phase⟩, ⟨2, .phase⟩, ⟨3, .phase⟩, ⟨4, .phase⟩, ⟨5, .phase⟩, ⟨6, .phase⟩, ⟨7, .phase⟩, ⟨8, .phase⟩, ⟨9, .phase⟩, ⟨10, .phase⟩, ⟨11, .phase⟩, ⟨12, .phase⟩, ⟨13, .phase⟩, ⟨14, .phase⟩, ⟨15, .phase⟩], none⟩) rfl (fun K hK => ?_) AllReadyH.nil)
     rw [if_pos (by rfl)]
     have hF2 := hIz.f.grown hgr (ownS_not hIz.ww hIz.f (by decide))
     have hcF := fun j => hF2.cell j
     have hfF := fun j => hF2.frozen j
     go_simp
     clear hcF hfF
     refine hK.out _ _ (trivial) (fun hHeld => ?_)
     clear hK K
     refine wpAnyH_done (by kernel_rfl) ?_ _
     refine NoPanic.normal ?_
     have hIn := hIz.add hgl hown2 hgr
     rw [← hst.out] at hIn
     go_wp2_with fail
     refine ⟨⟨k + 1, _, hlt, by go_num, hIn⟩, ?_⟩
     simp [intOf]; omega
    ·rw [if_pos (by rfl)]
     have hcx := (hX0.keep hIz.bel).cell 0
     go_simp
     clear hcx
     refine hK.out _ _ (trivial) (fun hHeld => ?_)
     clear hK K
     (try simp only [Act.put, List.setIfInBounds_toArray, List.set_cons_zero, List.set_cons_succ])
     refine wpAnyH_take (i := 7) (oi := ⟨some 104, .indexAddr 22 (.tmp 102) (.tmp 103), 0, "law.go:443", #[⟨5, .data⟩, ⟨6, .data⟩], none⟩) (v := ?_) rfl (by kernel_rfl) (by kernel_rfl) (by kernel_rfl) (fun _ _ _ h => h) (Or.inl ⟨by rfl, fun W hSw => ?_⟩) hHeld ?_
     rotate_left
     ·(try dsimp only at hSw); go_simp; (try with_reducible rfl)
     (try simp only [Act.put, List.setIfInBounds_toArray, List.set_cons_zero, List.set_cons_succ])
     refine wpAnyH_take (i := 8) (oi := ⟨some 105, .fieldAddr 47 (.tmp 104) 1, 0, "law.go:443", #[⟨7, .data⟩], none⟩) (v := ?_) rfl (by kernel_rfl) (by kernel_rfl) (by kernel_rfl) (fun _ _ _ h => h) (Or.inl ⟨by rfl, fun W hSw => ?_⟩) hHeld ?_
     rotate_left
     ·(try dsimp only at hSw); go_simp; (try with_reducible rfl)
     (try simp only [Act.put, List.setIfInBounds_toArray, List.set_cons_zero, List.set_cons_succ])
     refine wpAnyH_ready (rs := [1, 9]) (by kernel_rfl) (by simp) ?_
     refine (AllReadyH.cons (o := ⟨some 98, .load 22 (.tmp 97), 22, "law.go:443", #[⟨0, .data⟩], none⟩) rfl (fun K hK => ?_) (AllReadyH.cons (o := ⟨some 106, .load 3 (.tmp 105), 3, "law.go:443", #[⟨8, .data⟩], none⟩) rfl (fun K hK => ?_) AllReadyH.nil))
     ·rw [if_pos (by rfl)]
      have hcf := hIz.f.cell 0
      go_simp
      clear hcf
      refine hK.out _ _ (trivial) (fun hHeld => ?_)
      clear hK K
      (try simp only [Act.put, List.setIfInBounds_toArray, List.set_cons_zero, List.set_cons_succ])
      refine wpAnyH_ready (rs := [9]) (by kernel_rfl) (by simp) ?_
      refine (AllReadyH.cons (o := ⟨some 106, .load 3 (.tmp 105), 3, "law.go:443", #[⟨8, .data⟩], none⟩) rfl (fun K hK => ?_) AllReadyH.nil)
      rw [if_pos (by rfl)]
      obtain ⟨ad', e1, hab', b0, b1⟩ := whs_at (hf.ws.keep hIz.bel) hlt
      rw [HHI.out] at b1
      cases e1
      go_simp
      clear b0 b1
      refine hK.out _ _ (trivial) (fun hHeld => ?_)
      clear hK K
      (try simp only [Act.put, List.setIfInBounds_toArray, List.set_cons_zero, List.set_cons_succ])
      refine wpAnyH_take (i := 11) (oi := ⟨some 108, .binOp .sub 3 (.tmp 106) (.tmp 107) 3, 3, "law.go:443", #[⟨9, .data⟩, ⟨10, .data⟩], none⟩) (v := ?_) rfl (by kernel_rfl) (by kernel_rfl) (by kernel_rfl) (fun _ _ _ h => h) (Or.inl ⟨by rfl, fun W hSw => ?_⟩) hHeld ?_
      rotate_left
      ·(try dsimp only at hSw); go_simp; (try with_reducible rfl)
      (try simp only [Act.put, List.setIfInBounds_toArray, List.set_cons_zero, List.set_cons_succ])
      refine wpAnyH_take (i := 12) (oi := ⟨some 109, .call { callee := .builtin .max, args := #[.tmp 100, .tmp 108], argTypes := #[3, 3] }, 3, "law.go:443", #[⟨3, .data⟩, ⟨11, .data⟩], none⟩) (v := ?_) rfl (by kernel_rfl) (by kernel_rfl) (by kernel_rfl) (fun _ _ _ h => h) (Or.inl ⟨by rfl, fun W hSw => ?_⟩) hHeld ?_
      rotate_left
      ·(try dsimp only at hSw); go_simp; (try with_reducible rfl)
      (try simp only [Act.put, List.setIfInBounds_toArray, List.set_cons_zero, List.set_cons_succ])
      refine wpAnyH_ready (rs := [13]) (by kernel_rfl) (by simp) ?_
      refine (AllReadyH.cons (o := ⟨some 110, .call { callee := .value (.func 36), args := #[.tmp 99, .tmp 109], argTypes := #[3, 3] }, 47, "law.go:443", #[⟨2, .data⟩, ⟨12, .data⟩], none⟩) rfl (fun K hK => ?_) AllReadyH.nil)
      rw [if_pos (by rfl)]
      go_simp
      refine (span_any _ _ _).mono ?_
      rintro e' wz ⟨rfl, hbS⟩
      replace hIz := hIz.below hbS
      refine hK.out _ _ (trivial) (fun hHeld => ?_)
      clear hK K
      (try simp only [Act.put, List.setIfInBounds_toArray, List.set_cons_zero, List.set_cons_succ])
      refine wpAnyH_ready (rs := [14]) (by kernel_rfl) (by simp) ?_
      refine (AllReadyH.cons (o := ⟨some 111, .buildSlice 22 1 #[(0, .tmp 110)], 22, "law.go:443", #[⟨13, .data⟩], none⟩) rfl (fun K hK => ?_) AllReadyH.nil)
      rw [if_pos (by rfl)]
      refine wp_build_span rfl rfl ?_
      intro gx wz hgz hG hb1
      replace hIz := hIz.below hb1
      refine hK.out _ _ (trivial) (fun hHeld => ?_)
      clear hK K
      (try simp only [Act.put, List.setIfInBounds_toArray, List.set_cons_zero, List.set_cons_succ])
      refine wpAnyH_ready (rs := [15]) (by kernel_rfl) (by simp) ?_
      refine (AllReadyH.cons (o := ⟨some 112, .call { callee := .builtin .append, args := #[.tmp 98, .tmp 111], argTypes := #[22, 22] }, 22, "law.go:443", #[⟨1, .data⟩, ⟨14, .data⟩, ⟨13, .chain⟩], none⟩) rfl (fun K hK => ?_) AllReadyH.nil)
      rw [if_pos (by rfl)]
      (try replace hG := hG)
      refine wp_app_row (.tmp 98) (.tmp 111) rfl Tryz.underlying22 info_spanG rfl (by omega) (by omega) w1.heap.size v _ rfl hIz.ww gx rfl (r := Wh.cells ⟨ml, max ml (hi - dn)⟩) hG rfl (by intro u hu; simp only [Wh.cells, List.mem_cons, List.not_mem_nil, or_false] at hu; rcases hu with rfl | rfl <;> rfl) hll hIz.bel.size ?_
      intro A2 c2 wz2 hown2 hgr
      rw [List.length_map, HTK.out] at hown2 ⊢
      refine hK.out _ _ (trivial) (fun hHeld => ?_)
      clear hK K
      (try simp only [Act.put, List.setIfInBounds_toArray, List.set_cons_zero, List.set_cons_succ])
      refine wpAnyH_take (i := 16) (oi := ⟨some 113, .fieldAddr 25 (.tmp 11) 0, 0, "law.go:443", #[⟨0, .phase⟩, ⟨1, .phase⟩, ⟨2, .phase⟩, ⟨3, .phase⟩, ⟨4, .phase⟩, ⟨5, .phase⟩, ⟨6, .phase⟩, ⟨7, .phase⟩, ⟨8, .phase⟩, ⟨9, .phase⟩, ⟨10, .phase⟩, ⟨11, .phase⟩, ⟨12, .phase⟩, ⟨13, .phase⟩, ⟨14, .phase⟩, ⟨15, .phase⟩], none⟩) (v := ?_) rfl (by kernel_rfl) (by kernel_rfl) (by kernel_rfl) (fun _ _ _ h => h) (Or.inl ⟨by rfl, fun W hSw => ?_⟩) hHeld ?_
      rotate_left
      ·(try dsimp only at hSw); go_simp; (try with_reducible rfl)
      (try simp only [Act.put, List.setIfInBounds_toArray, List.set_cons_zero, List.set_cons_succ])
      refine wpAnyH_ready (rs := [17]) (by kernel_rfl) (by simp) ?_
      refine (AllReadyH.cons (o := ⟨none, .store 22 (.tmp 113) (.tmp 112), 0, "law.go:443", #[⟨16, .data⟩, ⟨15, .data⟩, ⟨15, .chain⟩, ⟨0, .phase⟩, ⟨1, .phase⟩, ⟨2, .phase⟩, ⟨3, .phase⟩, ⟨4, .phase⟩, ⟨5, .phase⟩, ⟨6, .phase⟩, ⟨7, .phase⟩, ⟨8, .phase⟩, ⟨9, .phase⟩, ⟨10, .phase⟩, ⟨11, .phase⟩, ⟨12, .phase⟩, ⟨13, .phase⟩, ⟨14, .phase⟩, ⟨15, .phase⟩], none⟩) rfl (fun K hK => ?_) AllReadyH.nil)
      rw [if_pos (by rfl)]
      have hF2 := hIz.f.grown hgr (ownS_not hIz.ww hIz.f (by decide))
      have hcF := fun j => hF2.cell j
      have hfF := fun j => hF2.frozen j
      go_simp
      clear hcF hfF
      refine hK.out _ _ (trivial) (fun hHeld => ?_)
      clear hK K
      refine wpAnyH_done (by kernel_rfl) ?_ _
      refine NoPanic.normal ?_
      have hIn := hIz.add hgl hown2 hgr
      rw [← hst.out] at hIn
      go_wp2_with fail
      refine ⟨⟨k + 1, _, hlt, by go_num, hIn⟩, ?_⟩
      simp [intOf]; omega
     ·rw [if_pos (by rfl)]
      obtain ⟨ad', e1, hab', b0, b1⟩ := whs_at (hf.ws.keep hIz.bel) hlt
      rw [HHI.out] at b1
      cases e1
      go_simp
      clear b0 b1
      refine hK.out _ _ (trivial) (fun hHeld => ?_)
      clear hK K
      (try simp only [Act.put, List.setIfInBounds_toArray, List.set_cons_zero, List.set_cons_succ])
      refine wpAnyH_take (i := 11) (oi := ⟨some 108, .binOp .sub 3 (.tmp 106) (.tmp 107) 3, 3, "law.go:443", #[⟨9, .data⟩, ⟨10, .data⟩], none⟩) (v := ?_) rfl (by kernel_rfl) (by kernel_rfl) (by kernel_rfl) (fun _ _ _ h => h) (Or.inl ⟨by rfl, fun W hSw => ?_⟩) hHeld ?_
      rotate_left
      ·(try dsimp only at hSw); go_simp; (try with_reducible rfl)
      (try simp only [Act.put, List.setIfInBounds_toArray, List.set_cons_zero, List.set_cons_succ])
      refine wpAnyH_take (i := 12) (oi := ⟨some 109, .call { callee := .builtin .max, args := #[.tmp 100, .tmp 108], argTypes := #[3, 3] }, 3, "law.go:443", #[⟨3, .data⟩, ⟨11, .data⟩], none⟩) (v := ?_) rfl (by kernel_rfl) (by kernel_rfl) (by kernel_rfl) (fun _ _ _ h => h) (Or.inl ⟨by rfl, fun W hSw => ?_⟩) hHeld ?_
      rotate_left
      ·(try dsimp only at hSw); go_simp; (try with_reducible rfl)
      (try simp only [Act.put, List.setIfInBounds_toArray, List.set_cons_zero, List.set_cons_succ])
      refine wpAnyH_ready (rs := [1, 13]) (by kernel_rfl) (by simp) ?_
      refine (AllReadyH.cons (o := ⟨some 98, .load 22 (.tmp 97), 22, "law.go:443", #[⟨0, .data⟩], none⟩) rfl (fun K hK => ?_) (AllReadyH.cons (o := ⟨some 110, .call { callee := .value (.func 36), args := #[.tmp 99, .tmp 109], argTypes := #[3, 3] }, 47, "law.go:443", #[⟨2, .data⟩, ⟨12, .data⟩], none⟩) rfl (fun K hK => ?_) AllReadyH.nil))
      ·rw [if_pos (by rfl)]
       have hcf := hIz.f.cell 0
       go_simp
       clear hcf
       refine hK.out _ _ (trivial) (fun hHeld => ?_)
       clear hK K
       (try simp only [Act.put, List.setIfInBounds_toArray, List.set_cons_zero, List.set_cons_succ])
       refine wpAnyH_ready (rs := [13]) (by kernel_rfl) (by simp) ?_
       refine (AllReadyH.cons (o := ⟨some 110, .call { callee := .value (.func 36), args := #[.tmp 99, .tmp 109], argTypes := #[3, 3] }, 47, "law.go:443", #[⟨2, .data⟩, ⟨12, .data⟩], none⟩) rfl (fun K hK => ?_) AllReadyH.nil)
       rw [if_pos (by rfl)]
       go_simp
       refine (span_any _ _ _).mono ?_
       rintro e' wz ⟨rfl, hbS⟩
       replace hIz := hIz.below hbS
       refine hK.out _ _ (trivial) (fun hHeld => ?_)
       clear hK K
       (try simp only [Act.put, List.setIfInBounds_toArray, List.set_cons_zero, List.set_cons_succ])
       refine wpAnyH_ready (rs := [14]) (by kernel_rfl) (by simp) ?_
       refine (AllReadyH.cons (o := ⟨some 111, .buildSlice 22 1 #[(0, .tmp 110)], 22, "law.go:443", #[⟨13, .data⟩], none⟩) rfl (fun K hK => ?_) AllReadyH.nil)
       rw [if_pos (by rfl)]
       refine wp_build_span rfl rfl ?_
       intro gx wz hgz hG hb1
       replace hIz := hIz.below hb1
       refine hK.out _ _ (trivial) (fun hHeld => ?_)
       clear hK K
       (try simp only [Act.put, List.setIfInBounds_toArray, List.set_cons_zero, List.set_cons_succ])
       refine wpAnyH_ready (rs := [15]) (by kernel_rfl) (by simp) ?_
       refine (AllReadyH.cons (o := ⟨some 112, .call { callee := .builtin .append, args := #[.tmp 98, .tmp 111], argTypes := #[22, 22] }, 22, "law.go:443", #[⟨1, .data⟩, ⟨14, .data⟩, ⟨13, .chain⟩], none⟩) rfl (fun K hK => ?_) AllReadyH.nil)
       rw [if_pos (by rfl)]
       (try replace hG := hG)
       refine wp_app_row (.tmp 98) (.tmp 111) rfl Tryz.underlying22 info_spanG rfl (by omega) (by omega) w1.heap.size v _ rfl hIz.ww gx rfl (r := Wh.cells ⟨ml, max ml (hi - dn)⟩) hG rfl (by intro u hu; simp only [Wh.cells, List.mem_cons, List.not_mem_nil, or_false] at hu; rcases hu with rfl | rfl <;> rfl) hll hIz.bel.size ?_
       intro A2 c2 wz2 hown2 hgr
       rw [List.length_map, HTK.out] at hown2 ⊢
       refine hK.out _ _ (trivial) (fun hHeld => ?_)
       clear hK K
       (try simp only [Act.put, List.setIfInBounds_toArray, List.set_cons_zero, List.set_cons_succ])
       refine wpAnyH_take (i := 16) (oi := ⟨some 113, .fieldAddr 25 (.tmp 11) 0, 0, "law.go:443", #[⟨0, .phase⟩, ⟨1, .phase⟩, ⟨2, .phase⟩, ⟨3, .phase⟩, ⟨4, .phase⟩, ⟨5, .phase⟩, ⟨6, .phase⟩, ⟨7, .phase⟩, ⟨8, .phase⟩, ⟨9, .phase⟩, ⟨10, .phase⟩, ⟨11, .phase⟩, ⟨12, .phase⟩, ⟨13, .phase⟩, ⟨14, .phase⟩, ⟨15, .phase⟩], none⟩) (v := ?_) rfl (by kernel_rfl) (by kernel_rfl) (by kernel_rfl) (fun _ _ _ h => h) (Or.inl ⟨by rfl, fun W hSw => ?_⟩) hHeld ?_
       rotate_left
       ·(try dsimp only at hSw); go_simp; (try with_reducible rfl)
       (try simp only [Act.put, List.setIfInBounds_toArray, List.set_cons_zero, List.set_cons_succ])
       refine wpAnyH_ready (rs := [17]) (by kernel_rfl) (by simp) ?_
       refine (AllReadyH.cons (o := ⟨none, .store 22 (.tmp 113) (.tmp 112), 0, "law.go:443", #[⟨16, .data⟩, ⟨15, .data⟩, ⟨15, .chain⟩, ⟨0, .phase⟩, ⟨1, .phase⟩, ⟨2, .phase⟩, ⟨3, .phase⟩, ⟨4, .phase⟩, ⟨5, .phase⟩, ⟨6, .phase⟩, ⟨7, .phase⟩, ⟨8, .phase⟩, ⟨9, .phase⟩, ⟨10, .phase⟩, ⟨11, .phase⟩, ⟨12, .phase⟩, ⟨13, .phase⟩, ⟨14, .phase⟩, ⟨15, .phase⟩], none⟩) rfl (fun K hK => ?_) AllReadyH.nil)
       rw [if_pos (by rfl)]
       have hF2 := hIz.f.grown hgr (ownS_not hIz.ww hIz.f (by decide))
       have hcF := fun j => hF2.cell j
       have hfF := fun j => hF2.frozen j
       go_simp
       clear hcF hfF
       refine hK.out _ _ (trivial) (fun hHeld => ?_)
       clear hK K
       refine wpAnyH_done (by kernel_rfl) ?_ _
       refine NoPanic.normal ?_
       have hIn := hIz.add hgl hown2 hgr
       rw [← hst.out] at hIn
       go_wp2_with fail
       refine ⟨⟨k + 1, _, hlt, by go_num, hIn⟩, ?_⟩
       simp [intOf]; omega
      ·rw [if_pos (by rfl)]
       go_simp
       refine (span_any _ _ _).mono ?_
       rintro e' wz ⟨rfl, hbS⟩
       replace hIz := hIz.below hbS
       refine hK.out _ _ (trivial) (fun hHeld => ?_)
       clear hK K
       (try simp only [Act.put, List.setIfInBounds_toArray, List.set_cons_zero, List.set_cons_succ])
       refine wpAnyH_ready (rs := [1, 14]) (by kernel_rfl) (by simp) ?_
       refine (AllReadyH.cons (o := ⟨some 98, .load 22 (.tmp 97), 22, "law.go:443", #[⟨0, .data⟩], none⟩) rfl (fun K hK => ?_) (AllReadyH.cons (o := ⟨some 111, .buildSlice 22 1 #[(0, .tmp 110)], 22, "law.go:443", #[⟨13, .data⟩], none⟩) rfl (fun K hK => ?_) AllReadyH.nil))
       ·rw [if_pos (by rfl)]
        have hcf := hIz.f.cell 0
        go_simp
        clear hcf
        refine hK.out _ _ (trivial) (fun hHeld => ?_)
        clear hK K
        (try simp only [Act.put, List.setIfInBounds_toArray, List.set_cons_zero, List.set_cons_succ])
        refine wpAnyH_ready (rs := [14]) (by kernel_rfl) (by simp) ?_
        refine (AllReadyH.cons (o := ⟨some 111, .buildSlice 22 1 #[(0, .tmp 110)], 22, "law.go:443", #[⟨13, .data⟩], none⟩) rfl (fun K hK => ?_) AllReadyH.nil)
        rw [if_pos (by rfl)]
        refine wp_build_span rfl rfl ?_
        intro gx wz hgz hG hb1
        replace hIz := hIz.below hb1
        refine hK.out _ _ (trivial) (fun hHeld => ?_)
        clear hK K
        (try simp only [Act.put, List.setIfInBounds_toArray, List.set_cons_zero, List.set_cons_succ])
        refine wpAnyH_ready (rs := [15]) (by kernel_rfl) (by simp) ?_
        refine (AllReadyH.cons (o := ⟨some 112, .call { callee := .builtin .append, args := #[.tmp 98, .tmp 111], argTypes := #[22, 22] }, 22, "law.go:443", #[⟨1, .data⟩, ⟨14, .data⟩, ⟨13, .chain⟩], none⟩) rfl (fun K hK => ?_) AllReadyH.nil)
        rw [if_pos (by rfl)]
        (try replace hG := hG)
        refine wp_app_row (.tmp 98) (.tmp 111) rfl Tryz.underlying22 info_spanG rfl (by omega) (by omega) w1.heap.size v _ rfl hIz.ww gx rfl (r := Wh.cells ⟨ml, max ml (hi - dn)⟩) hG rfl (by intro u hu; simp only [Wh.cells, List.mem_cons, List.not_mem_nil, or_false] at hu; rcases hu with rfl | rfl <;> rfl) hll hIz.bel.size ?_
        intro A2 c2 wz2 hown2 hgr
        rw [List.length_map, HTK.out] at hown2 ⊢
        refine hK.out _ _ (trivial) (fun hHeld => ?_)
        clear hK K
        (try simp only [Act.put, List.setIfInBounds_toArray, List.set_cons_zero, List.set_cons_succ])
        refine wpAnyH_take (i := 16) (oi := ⟨some 113, .fieldAddr 25 (.tmp 11) 0, 0, "law.go:443", #[⟨0, .phase⟩, ⟨1, .phase⟩, ⟨2, .phase⟩, ⟨3, .phase⟩, ⟨4, .phase⟩, ⟨5, .phase⟩, ⟨6, .phase⟩, ⟨7, .phase⟩, ⟨8, .phase⟩, ⟨9, .phase⟩, ⟨10, .phase⟩, ⟨11, .phase⟩, ⟨12, .phase⟩, ⟨13, .phase⟩, ⟨14, .phase⟩, ⟨15, .phase⟩], none⟩) (v := ?_) rfl (by kernel_rfl) (by kernel_rfl) (by kernel_rfl) (fun _ _ _ h => h) (Or.inl ⟨by rfl, fun W hSw => ?_⟩) hHeld ?_
        rotate_left
        ·(try dsimp only at hSw); go_simp; (try with_reducible rfl)
        (try simp only [Act.put, List.setIfInBounds_toArray, List.set_cons_zero, List.set_cons_succ])
        refine wpAnyH_ready (rs := [17]) (by kernel_rfl) (by simp) ?_
        refine (AllReadyH.cons (o := ⟨none, .store 22 (.tmp 113) (.tmp 112), 0, "law.go:443", #[⟨16, .data⟩, ⟨15, .data⟩, ⟨15, .chain⟩, ⟨0, .phase⟩, ⟨1, .phase⟩, ⟨2, .phase⟩, ⟨3, .phase⟩, ⟨4, .phase⟩, ⟨5, .phase⟩, ⟨6, .phase⟩, ⟨7, .phase⟩, ⟨8, .phase⟩, ⟨9, .phase⟩, ⟨10, .phase⟩, ⟨11, .phase⟩, ⟨12, .phase⟩, ⟨13, .phase⟩, ⟨14, .phase⟩, ⟨15, .phase⟩], none⟩) rfl (fun K hK => ?_) AllReadyH.nil)
        rw [if_pos (by rfl)]
        have hF2 := hIz.f.grown hgr (ownS_not hIz.ww hIz.f (by decide))
        have hcF := fun j => hF2.cell j
        have hfF := fun j => hF2.frozen j
        go_simp
        clear hcF hfF
        refine hK.out _ _ (trivial) (fun hHeld => ?_)
        clear hK K
        refine wpAnyH_done (by kernel_rfl) ?_ _
        refine NoPanic.normal ?_
        have hIn := hIz.add hgl hown2 hgr
        rw [← hst.out] at hIn
        go_wp2_with fail
        refine ⟨⟨k + 1, _, hlt, by go_num, hIn⟩, ?_⟩
        simp [intOf]; omega
       ·rw [if_pos (by rfl)]
        refine wp_build_span rfl rfl ?_
        intro gx wz hgz hG hb1
        replace hIz := hIz.below hb1
        refine hK.out _ _ (trivial) (fun hHeld => ?_)
        clear hK K
        (try simp only [Act.put, List.setIfInBounds_toArray, List.set_cons_zero, List.set_cons_succ])
        refine wpAnyH_ready (rs := [1]) (by kernel_rfl) (by simp) ?_
        refine (AllReadyH.cons (o := ⟨some 98, .load 22 (.tmp 97), 22, "law.go:443", #[⟨0, .data⟩], none⟩) rfl (fun K hK => ?_) AllReadyH.nil)
        rw [if_pos (by rfl)]
        have hcf := hIz.f.cell 0
        go_simp
        clear hcf
        refine hK.out _ _ (trivial) (fun hHeld => ?_)
        clear hK K
        (try simp only [Act.put, List.setIfInBounds_toArray, List.set_cons_zero, List.set_cons_succ])
        refine wpAnyH_ready (rs := [15]) (by kernel_rfl) (by simp) ?_
        refine (AllReadyH.cons (o := ⟨some 112, .call { callee := .builtin .append, args := #[.tmp 98, .tmp 111], argTypes := #[22, 22] }, 22, "law.go:443", #[⟨1, .data⟩, ⟨14, .data⟩, ⟨13, .chain⟩], none⟩) rfl (fun K hK => ?_) AllReadyH.nil)
        rw [if_pos (by rfl)]
        (try replace hG := hG)
        refine wp_app_row (.tmp 98) (.tmp 111) rfl Tryz.underlying22 info_spanG rfl (by omega) (by omega) w1.heap.size v _ rfl hIz.ww gx rfl (r := Wh.cells ⟨ml, max ml (hi - dn)⟩) hG rfl (by intro u hu; simp only [Wh.cells, List.mem_cons, List.not_mem_nil, or_false] at hu; rcases hu with rfl | rfl <;> rfl) hll hIz.bel.size ?_
        intro A2 c2 wz2 hown2 hgr
        rw [List.length_map, HTK.out] at hown2 ⊢
        refine hK.out _ _ (trivial) (fun hHeld => ?_)
        clear hK K
        (try simp only [Act.put, List.setIfInBounds_toArray, List.set_cons_zero, List.set_cons_succ])
        refine wpAnyH_take (i := 16) (oi := ⟨some 113, .fieldAddr 25 (.tmp 11) 0, 0, "law.go:443", #[⟨0, .phase⟩, ⟨1, .phase⟩, ⟨2, .phase⟩, ⟨3, .phase⟩, ⟨4, .phase⟩, ⟨5, .phase⟩, ⟨6, .phase⟩, ⟨7, .phase⟩, ⟨8, .phase⟩, ⟨9, .phase⟩, ⟨10, .phase⟩, ⟨11, .phase⟩, ⟨12, .phase⟩, ⟨13, .phase⟩, ⟨14, .phase⟩, ⟨15, .phase⟩], none⟩) (v := ?_) rfl (by kernel_rfl) (by kernel_rfl) (by kernel_rfl) (fun _ _ _ h => h) (Or.inl ⟨by rfl, fun W hSw => ?_⟩) hHeld ?_
        rotate_left
        ·(try dsimp only at hSw); go_simp; (try with_reducible rfl)
        (try simp only [Act.put, List.setIfInBounds_toArray, List.set_cons_zero, List.set_cons_succ])
        refine wpAnyH_ready (rs := [17]) (by kernel_rfl) (by simp) ?_
        refine (AllReadyH.cons (o := ⟨none, .store 22 (.tmp 113) (.tmp 112), 0, "law.go:443", #[⟨16, .data⟩, ⟨15, .data⟩, ⟨15, .chain⟩, ⟨0, .phase⟩, ⟨1, .phase⟩, ⟨2, .phase⟩, ⟨3, .phase⟩, ⟨4, .phase⟩, ⟨5, .phase⟩, ⟨6, .phase⟩, ⟨7, .phase⟩, ⟨8, .phase⟩, ⟨9, .phase⟩, ⟨10, .phase⟩, ⟨11, .phase⟩, ⟨12, .phase⟩, ⟨13, .phase⟩, ⟨14, .phase⟩, ⟨15, .phase⟩], none⟩) rfl (fun K hK => ?_) AllReadyH.nil)
        rw [if_pos (by rfl)]
        have hF2 := hIz.f.grown hgr (ownS_not hIz.ww hIz.f (by decide))
        have hcF := fun j => hF2.cell j
        have hfF := fun j => hF2.frozen j
        go_simp
        clear hcF hfF
        refine hK.out _ _ (trivial) (fun hHeld => ?_)
        clear hK K
        refine wpAnyH_done (by kernel_rfl) ?_ _
        refine NoPanic.normal ?_
        have hIn := hIz.add hgl hown2 hgr
        rw [← hst.out] at hIn
        go_wp2_with fail
        refine ⟨⟨k + 1, _, hlt, by go_num, hIn⟩, ?_⟩
        simp [intOf]; omega
   ·obtain rfl : k = ws.length := by omega
    rw [List.take_of_length_le (by have := HVL.out; omega)] at hI
    obtain ⟨A2, k2, rfl⟩ := hI.ww.form
    have hF := hI.f
    rw [List.length_map] at hF
    have hgx : FindAt wr A2 M vs nx := ⟨hI.ww.rd, hI.nn.rd⟩
    rw [List.length_map] at hI
    have hIb := hI.bel
    obtain ⟨fb, hfb⟩ : ∃ fb, findB vs nx = fb := ⟨_, rfl⟩
    have HFB := Lib.hid hfb
    have hcF := fun j => hF.cell j
    have hlF := hF.lt
    clear hfb
    go_wp2_with fail
    refine (Find8_any A2 M vs.length nx.length k2 q vs nx _ hgx rfl rfl (by have := HVL.out; omega) (by omega) _ HFB.out).mono ?_
    rintro e' w3 ⟨rfl, hb⟩
    replace hI := hI.below hb
    replace hgx := hgx.keep hb
    clear hcF hlF hF hb hc0 hl0 hX
    go_upto_if 116 with (fail)
    go_cut [] from 114 to 119 (fun wc => ∃ ms Nm qm, Blk wc g 25 #[.slice A2 vs.length k2, .slice Nm ms.length qm] ∧ FindAt wc A2 Nm vs ms ∧ Hid (findB vs ms = true) ∧ Hid (MoreOk ns ms) ∧ Below w1.heap.size w1 wc)
    case first =>
     cases fb
     ·have hX := hX0.keep hI.bel
      have hc0 := fun j => hX.cell j
      have hl0 := hX.lt
      have hcF := fun j => hI.f.cell j
      have hfF := fun j => hI.f.frozen j
      have hlF := hI.f.lt
      go_wp2_with fail
      go_meet
      case rel =>
       have hs := grown_set w3 ⟨g, 1, none⟩ (.slice N ns.length d)
       have hbl := hI.bel.grown hs hI.bel.size (by intro q hq; cases hq; exact hgl)
       exact ⟨ns, N, d, hI.f.set_ 1 _, ⟨(hI.ww.grownT hs (blk_notT hI.f (by decide))).rd, hf.ns.keep hbl⟩, Lib.hid (by rw [← HVS.out]; exact find_of_ok (ok_near (by omega) (by omega) HV.out)), Lib.hid ⟨fun _ h => h, fun _ => ⟨Nat.le_refl _, Nat.le_succ _⟩⟩, hbl⟩
     ·go_wp2_with fail
      go_meet
      case rel => exact ⟨nx, M, q, hI.f, hgx, HFB, Lib.hid (by rw [← HNX.out]; exact ⟨fun _ h => breaks_less h, fun _ => breaks_more _ _ _⟩), hI.bel⟩
    case rest =>
     obtain ⟨ms, Nm, qm, hG, hgx2, HFG, HMO, hb⟩ := hcut
     have hvg := find_ok HFG.out
     obtain ⟨mo1, mo2⟩ := HMO.out
     have hsub : (guessL vs ms).Sublist (guessL ws ns) := guess_sub (by rw [← HVS.out]; exact allT_sub (by omega) (by omega) ws (fun s hs => (HWH.out s hs).2.1)) mo1
     have hle := hsub.length_le
     have hmo := mo2 (teethL x)
     have hp1 := breaks_len ns (teethL x)
     have hgf := fun W h => Guesses_ok A N c d ws ns W h HV.out
     have hgg := fun W h => Guesses_ok A2 Nm k2 qm vs ms W h hvg
     have hbf := fun W h1 h2 => Breaks_own A N C c d i x.length ws ns x W h1 HV.out h2 rfl O1.out
     have hbg := fun (o2 : Fits vs (teethL x)) W h1 h2 => Breaks_own A2 Nm C k2 qm i x.length vs ms x W h1 hvg h2 rfl o2
     have hkf := fun W h => Known_any A N c d ws ns W h HV.out
     have hkg := fun W h => Known_any A2 Nm k2 qm vs ms W h hvg
     have hkg0 := fun (h0 : guessL vs ms = []) W h => Known_none A2 Nm k2 qm vs ms W h hvg h0
     have hkf1 := fun (h0 : ¬ guessL ws ns = []) W h => Known_some A N c d ws ns W h HV.out _ rfl h0
     have hkg1 := fun (h0 : ¬ guessL vs ms = []) W h => Known_some A2 Nm k2 qm vs ms W h hvg _ rfl h0
     obtain ⟨us, hus⟩ : ∃ us, guessL vs ms = us := ⟨_, rfl⟩
     obtain ⟨ts, hts⟩ : ∃ ts, guessL ws ns = ts := ⟨_, rfl⟩
     rw [hus] at hsub hle hgg hkg0 hkg1
     rw [hts] at hsub hle hgf hkf1
     have HSUB := Lib.hid hsub
     unfold RetE at hgf hgg
     unfold RetD at hbf hbg
     unfold RetPE at hkg0 hkf1 hkg1
     rw [← List.length_eq_zero_iff] at hkg0 hkf1 hkg1
     obtain ⟨a, ha⟩ : ∃ a, ts.length = a := ⟨_, rfl⟩
     obtain ⟨b, hb0⟩ : ∃ b, us.length = b := ⟨_, rfl⟩
     rw [ha] at hle hgf hkf1
     rw [hb0] at hle hgg hkg0 hkg1
     obtain ⟨p1, hp1e⟩ : ∃ p, (breaksL ns (teethL x)).length = p := ⟨_, rfl⟩
     obtain ⟨p2, hp2e⟩ : ∃ p, (breaksL ms (teethL x)).length = p := ⟨_, rfl⟩
     rw [hp1e] at hmo hp1 hbf
     rw [hp2e] at hmo hbg
     have a1 : ¬ ((a : Int) < (b : Int)) := by omega
     have a2 : ¬ ((b : Int) < 0) := by omega
     have a3 : ¬ ((ns.length : Int) < (p1 : Int)) := by omega
     have a4 : ¬ ((p2 : Int) < (p1 : Int)) := by omega
     have a5 : ¬ ((p1 : Int) + 1 < (p2 : Int)) := by omega
     have HLE := Lib.hid hle
     have HB0 := Lib.hid hb0
     have hgx := hgx2
     clear hvg mo1 mo2 hsub hmo hp1 hus hts ha hb0 hp1e hp2e hgx2 hle hI hIb
     replace hfr := fr_call hfr hb
     replace hf := hf.keep hb
     replace hx := hx.keep hb
     replace hX0 := hX0.keep hb
     replace hX1 := hX1.keep hb
     clear hb
     have hc0 := fun j => hX0.cell j
     have hl0 := hX0.lt
     have hc1 := fun j => hX1.cell j
     have hl1 := hX1.lt
     have hcG := fun j => hG.cell j
     have hlG := hG.lt
     go_wp2_with fail
     refine (hgf _ hf).mono ?_
     rintro e' w4 ⟨rfl, hb⟩
     replace hfr := fr_call hfr hb
     replace hf := hf.keep hb
     replace hx := hx.keep hb
     replace hG := hG.keep hb
     replace hgx := hgx.keep hb
     replace hX0 := hX0.keep hb
     replace hX1 := hX1.keep hb
     clear hb hc0 hc1
     have hc0 := fun j => hX0.cell j
     have hl0 := hX0.lt
     have hc1 := fun j => hX1.cell j
     have hl1 := hX1.lt
     clear hcG hlG
     have hcG := fun j => hG.cell j
     have hlG := hG.lt
     go_wp2_with fail
     refine (hgg _ hgx).mono ?_
     rintro e' w4 ⟨rfl, hb⟩
     replace hfr := fr_call hfr hb
     replace hf := hf.keep hb
     replace hx := hx.keep hb
     replace hG := hG.keep hb
     replace hgx := hgx.keep hb
     replace hX0 := hX0.keep hb
     replace hX1 := hX1.keep hb
     clear hb hc0 hc1
     have hc0 := fun j => hX0.cell j
     have hl0 := hX0.lt
     have hc1 := fun j => hX1.cell j
     have hl1 := hX1.lt
     clear hcG hlG
     have hcG := fun j => hG.cell j
     have hlG := hG.lt
     go_wp2_with fail
     refine (hbf _ hf hx).mono ?_
     rintro e' w4 ⟨P1, pc1, rfl, _, hb⟩
     replace hfr := fr_call hfr hb
     replace hf := hf.keep hb
     replace hx := hx.keep hb
     replace hG := hG.keep hb
     replace hgx := hgx.keep hb
     replace hX0 := hX0.keep hb
     replace hX1 := hX1.keep hb
     clear hb hc0 hc1
     have hc0 := fun j => hX0.cell j
     have hl0 := hX0.lt
     have hc1 := fun j => hX1.cell j
     have hl1 := hX1.lt
     clear hcG hlG
     have hcG := fun j => hG.cell j
     have hlG := hG.lt
     obtain ⟨ob, hob⟩ : ∃ ob : Bool, (ob = true ↔ Fits vs (teethL x)) := by
      by_cases h : Fits vs (teethL x)
      ·exact ⟨true, iff_of_true rfl h⟩
      ·exact ⟨false, iff_of_false (by simp) h⟩
     have HOB := Lib.hid hob
     clear hob
     go_wp2_with fail
     refine (Own8_any A2 Nm C vs.length ms.length k2 qm x.length i vs x _ hgx.ws hx rfl (by have := HVL.out; omega) rfl (by omega) ob HOB.out).mono ?_
     rintro e' w5 ⟨rfl, hb⟩
     replace hfr := fr_call hfr hb
     replace hf := hf.keep hb
     replace hx := hx.keep hb
     replace hG := hG.keep hb
     replace hgx := hgx.keep hb
     replace hX0 := hX0.keep hb
     replace hX1 := hX1.keep hb
     clear hb hc0 hc1
     have hc0 := fun j => hX0.cell j
     have hl0 := hX0.lt
     have hc1 := fun j => hX1.cell j
     have hl1 := hX1.lt
     clear hcG hlG
     have hcG := fun j => hG.cell j
     have hlG := hG.lt
     go_upto_if 163 with (fail)
     go_cut [20, 21] from 161 to 186 (fun _ _ wd => Below w5.heap.size w5 wd)
     case first =>
      cases ob
      ·go_wp2_with fail
       go_meet
       case rel => exact fr_refl _
      ·have hbg2 := hbg (HOB.out.1 rfl)
       go_wp2_with fail
       refine (hbg2 _ hgx hx).mono ?_
       rintro e' w6 ⟨P2, pc2, rfl, _, hb⟩
       go_wp2_with fail
       go_meet
       case rel => exact hb
     case rest =>
      have hb := hcut
      replace hfr := fr_call hfr hb
      replace hf := hf.keep hb
      replace hx := hx.keep hb
      replace hG := hG.keep hb
      replace hgx := hgx.keep hb
      replace hX0 := hX0.keep hb
      replace hX1 := hX1.keep hb
      clear hb hc0 hc1
      have hc0 := fun j => hX0.cell j
      have hl0 := hX0.lt
      have hc1 := fun j => hX1.cell j
      have hl1 := hX1.lt
      clear hcG hlG
      have hcG := fun j => hG.cell j
      have hlG := hG.lt
      by_cases hb00 : b = 0
      ·have hkg2 := hkg0 hb00
       have c0 : ((b : Int) == 0) = true := by rw [hb00]; rfl
       clear hkg0 hkg1 hkf1 hb00
       go_wp2_with fail
       refine (hkf _ hf).mono ?_
       rintro e' w6 ⟨K, kn, kc, kk, rfl, hb⟩
       replace hfr := fr_call hfr hb
       replace hf := hf.keep hb
       replace hx := hx.keep hb
       replace hG := hG.keep hb
       replace hgx := hgx.keep hb
       replace hX0 := hX0.keep hb
       replace hX1 := hX1.keep hb
       clear hb hc0 hc1
       have hc0 := fun j => hX0.cell j
       have hl0 := hX0.lt
       have hc1 := fun j => hX1.cell j
       have hl1 := hX1.lt
       clear hcG hlG
       have hcG := fun j => hG.cell j
       have hlG := hG.lt
       go_wp2_with fail
       refine (hkg2 _ hgx).mono ?_
       rintro e' w7 ⟨L, lc, rfl, _, hb⟩
       replace hfr := fr_call hfr hb
       clear hb
       go_wp2_with fail
       refine (known_is _ (hT.keep hfr) (hM.keep hfr)).mono ?_
       rintro e' w1 ⟨rfl, hb⟩
       replace hfr := fr_call hfr hb
       clear hb
       go_wp2_with fail
       go_ret
       exact ⟨rfl, hfr⟩
      ·have c0 : ((b : Int) == 0) = false := beq_eq_false_iff_ne.2 (by omega)
       have hkf2 := hkf1 (by have := HLE.out; omega)
       have hkg2 := hkg1 hb00
       rw [show knownL us vs.length = knownL us ws.length by rw [HVL.out]] at hkg2
       simp only [knownL_len] at hkf2 hkg2
       have hune : us ≠ [] := fun e => hb00 (by rw [← HB0.out, e]; rfl)
       have HKN := Lib.hid (fun j (hj : j < ws.length) => known_near HSUB.out hune j hj)
       have c1 : ((ws.length : Int) != (ws.length : Int)) = false := by simp
       clear hkg0 hkg1 hkf1 hb00 hune
       go_wp2_with fail
       refine (hkf2 _ hf).mono ?_
       rintro e' w6 ⟨K, kc, rfl, hK, hb⟩
       replace hfr := fr_call hfr hb
       replace hf := hf.keep hb
       replace hx := hx.keep hb
       replace hG := hG.keep hb
       replace hgx := hgx.keep hb
       replace hX0 := hX0.keep hb
       replace hX1 := hX1.keep hb
       clear hb hc0 hc1
       have hc0 := fun j => hX0.cell j
       have hl0 := hX0.lt
       have hc1 := fun j => hX1.cell j
       have hl1 := hX1.lt
       clear hcG hlG
       have hcG := fun j => hG.cell j
       have hlG := hG.lt
       go_wp2_with fail
       refine (hkg2 _ hgx).mono ?_
       rintro e' w7 ⟨L, lc, rfl, hL, hb⟩
       replace hK := hK.keep hb
       replace hfr := fr_call hfr hb
       replace hf := hf.keep hb
       replace hx := hx.keep hb
       replace hG := hG.keep hb
       replace hgx := hgx.keep hb
       replace hX0 := hX0.keep hb
       replace hX1 := hX1.keep hb
       clear hb hc0 hc1
       have hc0 := fun j => hX0.cell j
       have hl0 := hX0.lt
       have hc1 := fun j => hX1.cell j
       have hl1 := hX1.lt
       clear hcG hlG
       have hcG := fun j => hG.cell j
       have hlG := hG.lt
       go_wp2_with fail
       go_loopw [26] (fun t wr => ∃ j : Nat, j ≤ ws.length ∧ t = .int .i64 j ∧ Below w7.heap.size w7 wr) (fun t _ => ws.length - (intOf t).toNat)
       case atStart => exact ⟨0, Nat.zero_le _, rfl, fr_refl _⟩
       case round =>
        obtain ⟨j, hj, rfl, hbr⟩ := hrel
        by_cases hlt : j < ws.length
        ·obtain ⟨sa, sb, ea, eb, l1, l2⟩ := HKN.out j hlt
         obtain ⟨hja, ea2⟩ := List.getElem?_eq_some_iff.1 ea
         obtain ⟨hjb, eb2⟩ := List.getElem?_eq_some_iff.1 eb
         obtain ⟨adk, rfl, habk, k0, k1⟩ := whs_at (hK.keep hbr) hja
         obtain ⟨adl, rfl, habl, m0, m1⟩ := whs_at (hL.keep hbr) hjb
         rw [ea2] at k0 k1
         rw [eb2] at m0 m1
         have i1 : 0 ≤ (j : Int) := by omega
         have i2 : (j : Int) < (ws.length : Int) := by omega
         obtain ⟨xa, ya⟩ := sa
         obtain ⟨xb, yb⟩ := sb
         simp only at l1 l2 k0 k1 m0 m1
         have d1 : decide (xb < xa) = false := decide_eq_false (by omega)
         have d2 : decide (ya < yb) = false := decide_eq_false (by omega)
         clear ea eb ea2 eb2 hja hjb l1 l2 hK hL hf hx hgx hc0 hc1 hcG
         go_wp2_with fail
         go_quiet (fail)
         go_wp2_with fail
         go_roundw
         case rel => exact ⟨j + 1, hlt, by go_num, fr_drewN hbr _⟩
         case measure => simp [intOf]; omega
        ·obtain rfl : j = ws.length := by omega
         replace hfr := fr_call hfr hbr
         clear hK hL hf hx hgx hc0 hc1 hcG
         go_wp2_with fail
         refine (known_is _ (hT.keep hfr) (hM.keep hfr)).mono ?_
         rintro e' w1 ⟨rfl, hb⟩
         replace hfr := fr_call hfr hb
         clear hb
         go_wp2_with fail
         go_ret
         exact ⟨rfl, hfr⟩
end Go.Proofs.YthenlopnlaiodaaGreatDoor
end

section
namespace Go.Proofs.YthenlopnlaiodaaGreatDoor
open Go.RowKit Go.Shelf

set_option maxRecDepth 100000 in
set_option maxHeartbeats 16000000 in
theorem more_true (A N C : Option Addr) (c d i : Nat) (ws : List Wh) (ns : List Note) (x : List Wh) (up dn x0 x1 x2 x3 x4 x5 x6 x7 x8 : Int) (w : World) (hf0 : FindAt w A N ws ns) (hx0 : RdS w C 2 (x.map Wh.cells)) (hT : TabP w) (hM : MaxP w) :
  Calls Tryz.prog 8 #[.agg #[.slice A ws.length c, .slice N ns.length d], .agg #[.int .i64 x0, .int .i64 x1, .int .i64 x2, .int .i64 x3, .int .i64 x4, .int .i64 x5, .int .i64 x6, .int .i64 x7, .int .i64 x8], .int .i64 up, .int .i64 dn, .slice C x.length i] w fun e' w' => e' = .returned (.bool true) ∧ Below w.heap.size w w' := by
 have hf := hf0
 have hx := hx0
 have hfr := fr_alloc (fr_alloc (fr_refl w) (.cells #[.slice A ws.length c, .slice N ns.length d] 25)) (.cells #[.int .i64 x0, .int .i64 x1, .int .i64 x2, .int .i64 x3, .int .i64 x4, .int .i64 x5, .int .i64 x6, .int .i64 x7, .int .i64 x8] 61)
 have hX0 : Blk ((w.alloc (.cells #[.slice A ws.length c, .slice N ns.length d] 25)).alloc (.cells #[.int .i64 x0, .int .i64 x1, .int .i64 x2, .int .i64 x3, .int .i64 x4, .int .i64 x5, .int .i64 x6, .int .i64 x7, .int .i64 x8] 61)) (w.heap.size) 25 #[.slice A ws.length c, .slice N ns.length d] := ((Blk.new_at _ _ (by simp)).alloc _)
 have hX1 : Blk ((w.alloc (.cells #[.slice A ws.length c, .slice N ns.length d] 25)).alloc (.cells #[.int .i64 x0, .int .i64 x1, .int .i64 x2, .int .i64 x3, .int .i64 x4, .int .i64 x5, .int .i64 x6, .int .i64 x7, .int .i64 x8] 61)) (w.heap.size + 1) 61 #[.int .i64 x0, .int .i64 x1, .int .i64 x2, .int .i64 x3, .int .i64 x4, .int .i64 x5, .int .i64 x6, .int .i64 x7, .int .i64 x8] := (Blk.new_at _ _ (by simp))
 replace hf := hf.keep hfr
 replace hx := hx.keep hfr
 have hc0 := fun j => hX0.cell j
 have hl0 := hX0.lt
 have hc1 := fun j => hX1.cell j
 have hl1 := hX1.lt
 cases s1 : (decide ((ws.length : Int) ≤ 8) && decide ((ns.length : Int) ≤ 11))
 ·go_enter Tryz.func8, Tryz.ntmps8
  go_wp2_with fail
  refine (short_any A N ws.length ns.length c d _ _ s1).mono ?_
  rintro e' w1 ⟨rfl, hb⟩
  replace hfr := fr_call hfr hb
  replace hf := hf.keep hb
  replace hx := hx.keep hb
  replace hX0 := hX0.keep hb
  replace hX1 := hX1.keep hb
  clear hb hc0 hc1
  have hc0 := fun j => hX0.cell j
  have hl0 := hX0.lt
  have hc1 := fun j => hX1.cell j
  have hl1 := hX1.lt
  go_wp2_with fail
  refine (known_is _ (hT.keep hfr) (hM.keep hfr)).mono ?_
  rintro e' w1 ⟨rfl, hb⟩
  replace hfr := fr_call hfr hb
  clear hb
  go_wp2_with fail
  go_ret
  exact ⟨rfl, hfr⟩
 ·have s1a : ws.length ≤ 8 ∧ ns.length ≤ 11 := by simp at s1; omega
  by_cases k1 : x.length ≤ 5
  ·have k1b : ¬ (5 < (x.length : Int)) := by omega
   cases f1 : findB ws ns
   ·go_enter Tryz.func8, Tryz.ntmps8
    go_wp2_with fail
    refine (short_any A N ws.length ns.length c d _ _ s1).mono ?_
    rintro e' w1 ⟨rfl, hb⟩
    replace hfr := fr_call hfr hb
    replace hf := hf.keep hb
    replace hx := hx.keep hb
    replace hX0 := hX0.keep hb
    replace hX1 := hX1.keep hb
    clear hb hc0 hc1
    have hc0 := fun j => hX0.cell j
    have hl0 := hX0.lt
    have hc1 := fun j => hX1.cell j
    have hl1 := hX1.lt
    go_wp2_with fail
    refine (Find8_any A N ws.length ns.length c d ws ns _ hf rfl rfl (by omega) (by omega) _ f1).mono ?_
    rintro e' w1 ⟨rfl, hb⟩
    replace hfr := fr_call hfr hb
    replace hf := hf.keep hb
    replace hx := hx.keep hb
    replace hX0 := hX0.keep hb
    replace hX1 := hX1.keep hb
    clear hb hc0 hc1
    have hc0 := fun j => hX0.cell j
    have hl0 := hX0.lt
    have hc1 := fun j => hX1.cell j
    have hl1 := hX1.lt
    go_wp2_with fail
    refine (known_is _ (hT.keep hfr) (hM.keep hfr)).mono ?_
    rintro e' w1 ⟨rfl, hb⟩
    replace hfr := fr_call hfr hb
    clear hb
    go_wp2_with fail
    go_ret
    exact ⟨rfl, hfr⟩
   ·cases n1 : narrowB ws ns
    ·go_enter Tryz.func8, Tryz.ntmps8
     go_wp2_with fail
     refine (short_any A N ws.length ns.length c d _ _ s1).mono ?_
     rintro e' w1 ⟨rfl, hb⟩
     replace hfr := fr_call hfr hb
     replace hf := hf.keep hb
     replace hx := hx.keep hb
     replace hX0 := hX0.keep hb
     replace hX1 := hX1.keep hb
     clear hb hc0 hc1
     have hc0 := fun j => hX0.cell j
     have hl0 := hX0.lt
     have hc1 := fun j => hX1.cell j
     have hl1 := hX1.lt
     go_wp2_with fail
     refine (Find8_any A N ws.length ns.length c d ws ns _ hf rfl rfl (by omega) (by omega) _ f1).mono ?_
     rintro e' w1 ⟨rfl, hb⟩
     replace hfr := fr_call hfr hb
     replace hf := hf.keep hb
     replace hx := hx.keep hb
     replace hX0 := hX0.keep hb
     replace hX1 := hX1.keep hb
     clear hb hc0 hc1
     have hc0 := fun j => hX0.cell j
     have hl0 := hX0.lt
     have hc1 := fun j => hX1.cell j
     have hl1 := hX1.lt
     go_wp2_with fail
     refine (narrow_any A N ws.length ns.length c d ws ns _ hf rfl rfl (by omega) (by omega) _ n1).mono ?_
     rintro e' w1 ⟨rfl, hb⟩
     replace hfr := fr_call hfr hb
     replace hf := hf.keep hb
     replace hx := hx.keep hb
     replace hX0 := hX0.keep hb
     replace hX1 := hX1.keep hb
     clear hb hc0 hc1
     have hc0 := fun j => hX0.cell j
     have hl0 := hX0.lt
     have hc1 := fun j => hX1.cell j
     have hl1 := hX1.lt
     go_wp2_with fail
     refine (known_is _ (hT.keep hfr) (hM.keep hfr)).mono ?_
     rintro e' w1 ⟨rfl, hb⟩
     replace hfr := fr_call hfr hb
     clear hb
     go_wp2_with fail
     go_ret
     exact ⟨rfl, hfr⟩
    ·by_cases u0 : up < 0
     ·go_enter Tryz.func8, Tryz.ntmps8
      go_wp2_with fail
      refine (short_any A N ws.length ns.length c d _ _ s1).mono ?_
      rintro e' w1 ⟨rfl, hb⟩
      replace hfr := fr_call hfr hb
      replace hf := hf.keep hb
      replace hx := hx.keep hb
      replace hX0 := hX0.keep hb
      replace hX1 := hX1.keep hb
      clear hb hc0 hc1
      have hc0 := fun j => hX0.cell j
      have hl0 := hX0.lt
      have hc1 := fun j => hX1.cell j
      have hl1 := hX1.lt
      go_wp2_with fail
      refine (Find8_any A N ws.length ns.length c d ws ns _ hf rfl rfl (by omega) (by omega) _ f1).mono ?_
      rintro e' w1 ⟨rfl, hb⟩
      replace hfr := fr_call hfr hb
      replace hf := hf.keep hb
      replace hx := hx.keep hb
      replace hX0 := hX0.keep hb
      replace hX1 := hX1.keep hb
      clear hb hc0 hc1
      have hc0 := fun j => hX0.cell j
      have hl0 := hX0.lt
      have hc1 := fun j => hX1.cell j
      have hl1 := hX1.lt
      go_wp2_with fail
      refine (narrow_any A N ws.length ns.length c d ws ns _ hf rfl rfl (by omega) (by omega) _ n1).mono ?_
      rintro e' w1 ⟨rfl, hb⟩
      replace hfr := fr_call hfr hb
      replace hf := hf.keep hb
      replace hx := hx.keep hb
      replace hX0 := hX0.keep hb
      replace hX1 := hX1.keep hb
      clear hb hc0 hc1
      have hc0 := fun j => hX0.cell j
      have hl0 := hX0.lt
      have hc1 := fun j => hX1.cell j
      have hl1 := hX1.lt
      go_wp2_with fail
      refine (known_is _ (hT.keep hfr) (hM.keep hfr)).mono ?_
      rintro e' w1 ⟨rfl, hb⟩
      replace hfr := fr_call hfr hb
      clear hb
      go_wp2_with fail
      go_ret
      exact ⟨rfl, hfr⟩
     ·by_cases u5 : 5 < up
      ·go_enter Tryz.func8, Tryz.ntmps8
       go_wp2_with fail
       refine (short_any A N ws.length ns.length c d _ _ s1).mono ?_
       rintro e' w1 ⟨rfl, hb⟩
       replace hfr := fr_call hfr hb
       replace hf := hf.keep hb
       replace hx := hx.keep hb
       replace hX0 := hX0.keep hb
       replace hX1 := hX1.keep hb
       clear hb hc0 hc1
       have hc0 := fun j => hX0.cell j
       have hl0 := hX0.lt
       have hc1 := fun j => hX1.cell j
       have hl1 := hX1.lt
       go_wp2_with fail
       refine (Find8_any A N ws.length ns.length c d ws ns _ hf rfl rfl (by omega) (by omega) _ f1).mono ?_
       rintro e' w1 ⟨rfl, hb⟩
       replace hfr := fr_call hfr hb
       replace hf := hf.keep hb
       replace hx := hx.keep hb
       replace hX0 := hX0.keep hb
       replace hX1 := hX1.keep hb
       clear hb hc0 hc1
       have hc0 := fun j => hX0.cell j
       have hl0 := hX0.lt
       have hc1 := fun j => hX1.cell j
       have hl1 := hX1.lt
       go_wp2_with fail
       refine (narrow_any A N ws.length ns.length c d ws ns _ hf rfl rfl (by omega) (by omega) _ n1).mono ?_
       rintro e' w1 ⟨rfl, hb⟩
       replace hfr := fr_call hfr hb
       replace hf := hf.keep hb
       replace hx := hx.keep hb
       replace hX0 := hX0.keep hb
       replace hX1 := hX1.keep hb
       clear hb hc0 hc1
       have hc0 := fun j => hX0.cell j
       have hl0 := hX0.lt
       have hc1 := fun j => hX1.cell j
       have hl1 := hX1.lt
       go_wp2_with fail
       refine (known_is _ (hT.keep hfr) (hM.keep hfr)).mono ?_
       rintro e' w1 ⟨rfl, hb⟩
       replace hfr := fr_call hfr hb
       clear hb
       go_wp2_with fail
       go_ret
       exact ⟨rfl, hfr⟩
      ·by_cases v0 : dn < 0
       ·go_enter Tryz.func8, Tryz.ntmps8
        go_wp2_with fail
        refine (short_any A N ws.length ns.length c d _ _ s1).mono ?_
        rintro e' w1 ⟨rfl, hb⟩
        replace hfr := fr_call hfr hb
        replace hf := hf.keep hb
        replace hx := hx.keep hb
        replace hX0 := hX0.keep hb
        replace hX1 := hX1.keep hb
        clear hb hc0 hc1
        have hc0 := fun j => hX0.cell j
        have hl0 := hX0.lt
        have hc1 := fun j => hX1.cell j
        have hl1 := hX1.lt
        go_wp2_with fail
        refine (Find8_any A N ws.length ns.length c d ws ns _ hf rfl rfl (by omega) (by omega) _ f1).mono ?_
        rintro e' w1 ⟨rfl, hb⟩
        replace hfr := fr_call hfr hb
        replace hf := hf.keep hb
        replace hx := hx.keep hb
        replace hX0 := hX0.keep hb
        replace hX1 := hX1.keep hb
        clear hb hc0 hc1
        have hc0 := fun j => hX0.cell j
        have hl0 := hX0.lt
        have hc1 := fun j => hX1.cell j
        have hl1 := hX1.lt
        go_wp2_with fail
        refine (narrow_any A N ws.length ns.length c d ws ns _ hf rfl rfl (by omega) (by omega) _ n1).mono ?_
        rintro e' w1 ⟨rfl, hb⟩
        replace hfr := fr_call hfr hb
        replace hf := hf.keep hb
        replace hx := hx.keep hb
        replace hX0 := hX0.keep hb
        replace hX1 := hX1.keep hb
        clear hb hc0 hc1
        have hc0 := fun j => hX0.cell j
        have hl0 := hX0.lt
        have hc1 := fun j => hX1.cell j
        have hl1 := hX1.lt
        go_wp2_with fail
        refine (known_is _ (hT.keep hfr) (hM.keep hfr)).mono ?_
        rintro e' w1 ⟨rfl, hb⟩
        replace hfr := fr_call hfr hb
        clear hb
        go_wp2_with fail
        go_ret
        exact ⟨rfl, hfr⟩
       ·by_cases v5 : 5 < dn
        ·go_enter Tryz.func8, Tryz.ntmps8
         go_wp2_with fail
         refine (short_any A N ws.length ns.length c d _ _ s1).mono ?_
         rintro e' w1 ⟨rfl, hb⟩
         replace hfr := fr_call hfr hb
         replace hf := hf.keep hb
         replace hx := hx.keep hb
         replace hX0 := hX0.keep hb
         replace hX1 := hX1.keep hb
         clear hb hc0 hc1
         have hc0 := fun j => hX0.cell j
         have hl0 := hX0.lt
         have hc1 := fun j => hX1.cell j
         have hl1 := hX1.lt
         go_wp2_with fail
         refine (Find8_any A N ws.length ns.length c d ws ns _ hf rfl rfl (by omega) (by omega) _ f1).mono ?_
         rintro e' w1 ⟨rfl, hb⟩
         replace hfr := fr_call hfr hb
         replace hf := hf.keep hb
         replace hx := hx.keep hb
         replace hX0 := hX0.keep hb
         replace hX1 := hX1.keep hb
         clear hb hc0 hc1
         have hc0 := fun j => hX0.cell j
         have hl0 := hX0.lt
         have hc1 := fun j => hX1.cell j
         have hl1 := hX1.lt
         go_wp2_with fail
         refine (narrow_any A N ws.length ns.length c d ws ns _ hf rfl rfl (by omega) (by omega) _ n1).mono ?_
         rintro e' w1 ⟨rfl, hb⟩
         replace hfr := fr_call hfr hb
         replace hf := hf.keep hb
         replace hx := hx.keep hb
         replace hX0 := hX0.keep hb
         replace hX1 := hX1.keep hb
         clear hb hc0 hc1
         have hc0 := fun j => hX0.cell j
         have hl0 := hX0.lt
         have hc1 := fun j => hX1.cell j
         have hl1 := hX1.lt
         go_wp2_with fail
         refine (known_is _ (hT.keep hfr) (hM.keep hfr)).mono ?_
         rintro e' w1 ⟨rfl, hb⟩
         replace hfr := fr_call hfr hb
         clear hb
         go_wp2_with fail
         go_ret
         exact ⟨rfl, hfr⟩
        ·by_cases o1 : Fits ws (teethL x)
         ·have o1H := Lib.hid o1
          exact more_main A N C c d i ws ns x up dn x0 x1 x2 x3 x4 x5 x6 x7 x8 w hf0 hx0 hT hM s1 s1a k1 k1b f1 n1 u0 u5 v0 v5 o1
         ·go_enter Tryz.func8, Tryz.ntmps8
          go_wp2_with fail
          refine (short_any A N ws.length ns.length c d _ _ s1).mono ?_
          rintro e' w1 ⟨rfl, hb⟩
          replace hfr := fr_call hfr hb
          replace hf := hf.keep hb
          replace hx := hx.keep hb
          replace hX0 := hX0.keep hb
          replace hX1 := hX1.keep hb
          clear hb hc0 hc1
          have hc0 := fun j => hX0.cell j
          have hl0 := hX0.lt
          have hc1 := fun j => hX1.cell j
          have hl1 := hX1.lt
          go_wp2_with fail
          refine (Find8_any A N ws.length ns.length c d ws ns _ hf rfl rfl (by omega) (by omega) _ f1).mono ?_
          rintro e' w1 ⟨rfl, hb⟩
          replace hfr := fr_call hfr hb
          replace hf := hf.keep hb
          replace hx := hx.keep hb
          replace hX0 := hX0.keep hb
          replace hX1 := hX1.keep hb
          clear hb hc0 hc1
          have hc0 := fun j => hX0.cell j
          have hl0 := hX0.lt
          have hc1 := fun j => hX1.cell j
          have hl1 := hX1.lt
          go_wp2_with fail
          refine (narrow_any A N ws.length ns.length c d ws ns _ hf rfl rfl (by omega) (by omega) _ n1).mono ?_
          rintro e' w1 ⟨rfl, hb⟩
          replace hfr := fr_call hfr hb
          replace hf := hf.keep hb
          replace hx := hx.keep hb
          replace hX0 := hX0.keep hb
          replace hX1 := hX1.keep hb
          clear hb hc0 hc1
          have hc0 := fun j => hX0.cell j
          have hl0 := hX0.lt
          have hc1 := fun j => hX1.cell j
          have hl1 := hX1.lt
          go_wp2_with fail
          refine (Own8_any A N C ws.length ns.length c d x.length i ws x _ hf.ws hx rfl (by omega) rfl (by omega) false (by simp [o1])).mono ?_
          rintro e' w1 ⟨rfl, hb⟩
          replace hfr := fr_call hfr hb
          replace hf := hf.keep hb
          replace hx := hx.keep hb
          replace hX0 := hX0.keep hb
          replace hX1 := hX1.keep hb
          clear hb hc0 hc1
          have hc0 := fun j => hX0.cell j
          have hl0 := hX0.lt
          have hc1 := fun j => hX1.cell j
          have hl1 := hX1.lt
          go_wp2_with fail
          refine (known_is _ (hT.keep hfr) (hM.keep hfr)).mono ?_
          rintro e' w1 ⟨rfl, hb⟩
          replace hfr := fr_call hfr hb
          clear hb
          go_wp2_with fail
          go_ret
          exact ⟨rfl, hfr⟩
  ·have k1b : 5 < (x.length : Int) := by omega
   go_enter Tryz.func8, Tryz.ntmps8
   go_wp2_with fail
   refine (short_any A N ws.length ns.length c d _ _ s1).mono ?_
   rintro e' w1 ⟨rfl, hb⟩
   replace hfr := fr_call hfr hb
   replace hf := hf.keep hb
   replace hx := hx.keep hb
   replace hX0 := hX0.keep hb
   replace hX1 := hX1.keep hb
   clear hb hc0 hc1
   have hc0 := fun j => hX0.cell j
   have hl0 := hX0.lt
   have hc1 := fun j => hX1.cell j
   have hl1 := hX1.lt
   go_wp2_with fail
   refine (known_is _ (hT.keep hfr) (hM.keep hfr)).mono ?_
   rintro e' w1 ⟨rfl, hb⟩
   replace hfr := fr_call hfr hb
   clear hb
   go_wp2_with fail
   go_ret
   exact ⟨rfl, hfr⟩
end Go.Proofs.YthenlopnlaiodaaGreatDoor
end

section
namespace Go.Proofs.YthenlopnlaiodaaGreatDoor.cGuessMore
open Go.ChangeShapes Go.WideShapes Go.ChangeAt Go.WideMaps Go.WideElems Go.RowKit
set_option maxRecDepth 100000

theorem lifted (os : Os) (started : os.Started) (H : Type) (enc : TypeId × Value → H) :
  ReturnsInHanded {} Tryz.checked os 8 .any (fun w args => (Rows.guessMoreSpec.pre enc Tryz.prog Tryz.f8 [] false w args ∧ laidMetH Tryz.prog laidT w) ∧ sizedMet enc Tryz.prog Tryz.f8 (OpenSpec.ofChange Rows.guessMoreSpec) false w args)
   (Rows.guessMoreSpec.post enc Tryz.prog Tryz.f8 false true false false) := by
 refine change_and_shaped (C := Tryz.checked) (X := fun w _ => laidMetH Tryz.prog laidT w) (fun _ _ _ hh h => h.of_heap hh) own_none started (by kernel_rfl) Tryz.func8
  (ChangeSpec.witness_shaped (enc := enc) (C := Tryz.checked) (os := os) (X := fun w _ => laidMetH Tryz.prog laidT w) false (doorT os) #[.agg #[.slice none 0 0, .slice none 0 0], .agg #[.int .i64 0, .int .i64 0, .int .i64 0, .int .i64 0, .int .i64 0, .int .i64 0, .int .i64 0, .int .i64 0, .int .i64 0], .int .i64 0, .int .i64 0, .slice none 0 0] 8 rfl (World.shaped_of_RefB (by kernel_rfl) (by kernel_rfl)) (by kernel_rfl) (by kernel_rfl) (by kernel_rfl) (doorT_met os _)) ?_
 intro W base args ds gs before hval0 hW hL hsh
 have hval : ∀ (j : Nat) t v, Tryz.f8.params[j]? = some t → args[j]? = some v → Value.okWide Tryz.prog W .any base t v := hval0
 have hW' := hW
 obtain ⟨p, q, hA0, _, _, _, _⟩ := hW
 have hA : DataW.TrodAll enc Tryz.prog W 0 (fun _ => true) true Tryz.f8.params.toList args.toList ds p := hA0
 rw [Tryz.params8] at hA hval
 clear hA0 hval0
 obtain ⟨v0, vs0, d0, ds0, p0, q0, hargs, rfl, rfl, h0, r0⟩ := trodAll_cons hA
 obtain ⟨v1, vs1, d1, ds1, p1, q1, rfl, rfl, rfl, h1, r1⟩ := trodAll_cons r0
 obtain ⟨v2, vs2, d2, ds2, p2, q2, rfl, rfl, rfl, h2, r2⟩ := trodAll_cons r1
 obtain ⟨v3, vs3, d3, ds3, p3, q3, rfl, rfl, rfl, h3, r3⟩ := trodAll_cons r2
 obtain ⟨v4, vs4, d4, ds4, p4, q4, rfl, rfl, rfl, h4, r4⟩ := trodAll_cons r3
 obtain ⟨rfl, rfl, rfl⟩ := trodAll_nil r4
 obtain rfl : args = #[v0, v1, v2, v3, v4] := by cases args; simp_all
 obtain ⟨A0, N0, ws0, ns0, c0, m0, rfl, hf0, hn0, hm0⟩ := find_open (hval 0 25 v0 rfl rfl) h0
 obtain ⟨x1, rfl⟩ := note_open (hval 1 61 v1 rfl rfl) h1
 obtain ⟨x2, rfl, _, _, _⟩ := open_int Tryz.underlying3 (hval 2 3 v2 rfl rfl) h2
 obtain ⟨x3, rfl, _, _, _⟩ := open_int Tryz.underlying3 (hval 3 3 v3 rfl rfl) h3
 obtain ⟨A4, x4, c4, rfl, hf4, hn4⟩ := train_open (hval 4 26 v4 rfl rfl) h4
 refine (more_true A0 N0 A4 c0 m0 c4 ws0 ns0 x4 x2 x3 x1.k x1.a x1.b x1.lo x1.hi x1.ln x1.ld x1.mn x1.md W hf0 hf4 (tabT_of_laid hL) (maxP_of hsh)).mono fun e W' ⟨he, hb⟩ => ?_
 subst he
 exact ⟨_, rfl, law_post (by kernel_rfl) (by kernel_rfl) rfl hW' rfl rfl rfl hb⟩

theorem row_holds : Rows.GuessMoreSaid :=
 OpenClaim.holds_of_wide 8 Tryz.f8 rfl rfl rfl rfl rfl rfl rfl ⟨rfl, rfl, rfl, rfl, rfl⟩ rfl rfl rfl rfl rfl (by kernel_rfl) Tryz.func8 (by kernel_rfl)
  (of_decide_eq_true (by kernel_rfl)) (by unfold Func.isWrapper; rw [if_neg (of_decide_eq_false (by kernel_rfl))]; exact ⟨rfl, rfl⟩)
  (fun os started H enc _ => lifted os started H enc)

theorem card_holds : Rows.GuessMoreCardSaid :=
 Claim7.holds_tied_plain_at .later [] [.data, .data, .data, .data, .pinned] true _ _ row_holds (fun _ h => by cases h) (by kernel_rfl) (fun _ h => by cases h) guessMore_row_tie rfl ⟨rfl, rfl⟩ (by kernel_rfl) rfl
  (fun f fn hf hfn => by
   obtain rfl : f = 8 := Option.some.inj ((show Tryz.prog.funcNamed "tellurion/tellurionlaw08.GuessMore" = some 8 by kernel_rfl).symm.trans hf) |>.symm
   obtain rfl : fn = Tryz.f8 := (Option.some.inj (Tryz.func8.symm.trans hfn)).symm
   exact ⟨by kernel_rfl, fun j t ht => by
    rw [Tryz.params8] at ht
    have hm : t ∈ [25, 61, 3, 26] := by simpa using Array.mem_of_getElem? ht
    have hall : ([25, 61, 3, 26].all fun u => !Tryz.prog.wantsStandIn u) = true := by kernel_rfl
    exact (show Tryz.prog.wantsStandIn t = false by simpa using List.all_eq_true.1 hall t hm)⟩)
  (by kernel_rfl)
end Go.Proofs.YthenlopnlaiodaaGreatDoor.cGuessMore
end
