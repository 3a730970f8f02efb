/- Walk: guess, Alike. -/
import Derived.Test.YtfgghicdkcjdgaaGreatDoorMG14
namespace Go.Proofs.YtfgghicdkcjdgaaGreatDoor
open Go.RowKit Go.Shelf

def RetSp (w : World) (k lo hi : Int) (e : Ending) (w' : World) : Prop := e = .returned (.tuple #[.agg #[.int .i64 lo, .int .i64 hi], .int .i64 k]) ∧ Below w.heap.size w w'
def AlikePost (w : World) (ts us : List (List Int)) (e : Ending) (w' : World) : Prop := if ts = [] ∨ us = [] then RetSp w 7 0 0 e w' else if 200 < ts.length ∨ 200 < us.length then RetSp w 3 0 0 e w' else RetSp w 0 (alikeL ts us).1 (alikeL ts us).2 e w'
/-- both finds with their guesses -/
structure TwoG (w0 : World) (A N C M : Option Addr) (nw wc nn nc mw vc mn mc : Nat) (ts us : List (List Int)) (ga gb : Nat) (L K : Option Addr) (lc kc : Nat) (W : World) : Prop where
 a : Blk W ga 93 #[.slice A nw wc, .slice N nn nc, .slice L ts.length lc]
 b : Blk W gb 93 #[.slice C mw vc, .slice M mn mc, .slice K us.length kc]
 l : TsO W 0 L ts.length lc ts
 k : TsO W 0 K us.length kc us
 bel : Below w0.heap.size w0 W
 ge : w0.heap.size ≤ ga ∧ w0.heap.size ≤ gb
set_option maxRecDepth 100000 in
set_option maxHeartbeats 16000000 in
theorem Alike_ok (A N C M : Option Addr) (fc nc vc mc : Nat) (ws vs : List Wh) (ns ms : List Note) (ts us : List (List Int)) (w : World) (hf : FindAt w A N ws ns) (hv : FindOk ws ns) (hg : FindAt w C M vs ms) (hu : FindOk vs ms) (hts : guessL ws ns = ts) (hus : guessL vs ms = us) :
  Calls Tryz.prog 38 #[.agg #[.slice A ws.length fc, .slice N ns.length nc], .agg #[.slice C vs.length vc, .slice M ms.length mc]] w (AlikePost w ts us) := by
 have hmf : ∀ (fn : Fn) (first cap : Array Value) (w : World), (Instr.makeFunc fn first cap).run Tryz.prog w = .ok (.func fn first cap) w := fun _ _ _ _ => rfl
 have hb0 := fr_alloc (fr_alloc (fr_alloc (fr_refl w) (.cells #[.slice A ws.length fc, .slice N ns.length nc] 25)) (.cells #[.slice C vs.length vc, .slice M ms.length mc] 25)) (.cells #[.int .i64 0, .int .i64 0] 47)
 have hF := ((Blk.new w 25 #[.slice A ws.length fc, .slice N ns.length nc]).alloc (.cells #[.slice C vs.length vc, .slice M ms.length mc] 25)).alloc (.cells #[.int .i64 0, .int .i64 0] 47)
 have hG : Blk (((w.alloc (.cells #[.slice A ws.length fc, .slice N ns.length nc] 25)).alloc (.cells #[.slice C vs.length vc, .slice M ms.length mc] 25)).alloc (.cells #[.int .i64 0, .int .i64 0] 47)) (w.heap.size + 1) 25 #[.slice C vs.length vc, .slice M ms.length mc] := (Blk.new_at _ _ (by simp)).alloc _
 have hR : Blk (((w.alloc (.cells #[.slice A ws.length fc, .slice N ns.length nc] 25)).alloc (.cells #[.slice C vs.length vc, .slice M ms.length mc] 25)).alloc (.cells #[.int .i64 0, .int .i64 0] 47)) (w.heap.size + 1 + 1) 47 #[.int .i64 0, .int .i64 0] := Blk.new_at _ _ (by simp)
 replace hf := hf.keep hb0
 replace hg := hg.keep hb0
 have hs1 := hv.six
 have hs2 := hu.six
 have h81 := hv.eight
 have h82 := hu.eight
 have hga : ∀ W, FindAt W A N ws ns → Calls Tryz.prog 49 #[.agg #[.slice A ws.length fc, .slice N ns.length nc]] W (RetG W A N ws.length fc ns.length nc ts) := fun W h => by rw [← hts]; exact guess_any A N fc nc ws ns W h hv
 have hgb : ∀ W, FindAt W C M vs ms → Calls Tryz.prog 49 #[.agg #[.slice C vs.length vc, .slice M ms.length mc]] W (RetG W C M vs.length vc ms.length mc us) := fun W h => by rw [← hus]; exact guess_any C M vc mc vs ms W h hu
 have hfa : ∀ W, FindAt W A N ws ns → Calls Tryz.prog 46 #[.agg #[.slice A ws.length fc, .slice N ns.length nc]] W (fun e w' => e = .returned (.bool true) ∧ Below W.heap.size W w') := fun W h => isFind_is A N fc nc ws ns W h (by omega) (by omega) hv.mo true hv.find
 have hfb : ∀ W, FindAt W C M vs ms → Calls Tryz.prog 46 #[.agg #[.slice C vs.length vc, .slice M ms.length mc]] W (fun e w' => e = .returned (.bool true) ∧ Below W.heap.size W w') := fun W h => isFind_is C M vc mc vs ms W h (by omega) (by omega) hu.mo true hu.find
 have hl6 := guess_len hv
 have hk6 := guess_len hu
 have hml := guess_many hv
 have hmk := guess_many hu
 have h2v := hu.two
 have hll := guess_lens (ws := ws) (ns := ns)
 have hkl := guess_lens (ws := vs) (ns := ms)
 rw [hts] at hl6 hml hll
 rw [hus] at hk6 hmk hkl
 clear hts hus
 go_enter Tryz.func38, Tryz.ntmps38
 go_wp2_with fail
 refine (hfa _ hf).mono ?_
 rintro e w1 ⟨rfl, hb1⟩
 replace hF := hF.keep hb1
 replace hG := hG.keep hb1
 replace hR := hR.keep hb1
 replace hf := hf.keep hb1
 replace hg := hg.keep hb1
 replace hb0 := fr_call hb0 hb1
 have hcG := fun j => hG.cell j
 go_wp2_with fail
 refine (hfb _ hg).mono ?_
 rintro e w2 ⟨rfl, hb2⟩
 replace hF := hF.keep hb2
 replace hG := hG.keep hb2
 replace hR := hR.keep hb2
 replace hf := hf.keep hb2
 replace hg := hg.keep hb2
 replace hb0 := fr_call hb0 hb2
 clear hcG hfa hfb hb1 hb2
 go_upto_region 3 with (fail)
 have hcF := fun j => hF.cell j
 have hcG := fun j => hG.cell j
 have hlF := hF.lt
 have hlG := hG.lt
 go_cut [6, 7] from 29 (fun s6 s7 wc => ∃ ga gb L K lc kc, s6 = .pointer (some ⟨ga, 0, none⟩) ∧ s7 = .pointer (some ⟨gb, 0, none⟩) ∧ TwoG w2 A N C M ws.length fc ns.length nc vs.length vc ms.length mc ts us ga gb L K lc kc wc)
 case first =>
  refine wp_region_noPanic ?_
  refine wp_region_held_drew (S := fun W => (∀ p : Addr, p.block < (w2).heap.size → W.cell? p = (w2).cell? p) ∧ Below (w2).heap.size (w2) W) (by kernel_rfl) ⟨fun _ _ => rfl, fr_drew (fr_refl _)⟩ (fun hHeld => ?_)
  generalize w2.drew = wd at hHeld ⊢
  -- the region, step by step, in whatever order
  refine wpAnyH_take (i := 0) (oi := ⟨some 25, .load 25 (.tmp 2), 25, "guess.go:437", #[], none⟩) (v := ?_) rfl (by kernel_rfl) (by kernel_rfl) (by kernel_rfl) (fun _ _ _ h => h) (Or.inl ⟨by rfl, fun W hSw => ?_⟩) hHeld ?_
  rotate_left
  ·(try dsimp only at hSw); go_simp; (try with_reducible rfl)
  (try simp only [Act.put, List.setIfInBounds_toArray, List.set_cons_zero, List.set_cons_succ])
  refine wpAnyH_take (i := 2) (oi := ⟨some 27, .load 25 (.tmp 3), 25, "guess.go:437", #[], none⟩) (v := ?_) rfl (by kernel_rfl) (by kernel_rfl) (by kernel_rfl) (fun _ _ _ h => h) (Or.inl ⟨by rfl, fun W hSw => ?_⟩) hHeld ?_
  rotate_left
  ·(try dsimp only at hSw); go_simp; (try with_reducible rfl)
  (try simp only [Act.put, List.setIfInBounds_toArray, List.set_cons_zero, List.set_cons_succ])
  refine wpAnyH_ready (rs := [1, 4, 5]) (by kernel_rfl) (by simp) ?_
  refine (AllReadyH.cons (o := ⟨some 26, .call { callee := .value (.func 49), args := #[.tmp 25], argTypes := #[25] }, 93, "guess.go:437", #[⟨0, .data⟩], none⟩) rfl (fun K hK => ?_) (AllReadyH.cons (o := ⟨some 6, .alloc 93, 0, "guess.go:437", #[], none⟩) rfl (fun K hK => ?_) (AllReadyH.cons (o := ⟨some 7, .alloc 93, 0, "guess.go:437", #[], none⟩) rfl (fun K hK => ?_) AllReadyH.nil)))
  ·rw [if_pos (by rfl)]
   go_simp
   refine (hga _ (hf.keep hHeld.2)).mono ?_
   rintro e' WA ⟨L, lc, rfl, hL0, hbA⟩
   have hL := hL0.mono (Nat.zero_le _)
   clear hL0
   (try replace hGa := hGa.keep hbA)
   (try replace hGb := hGb.keep hbA)
   refine hK.out _ _ (kp_step hbA hHeld) (fun hHeld => ?_)
   clear hK K
   (try simp only [Act.put, List.setIfInBounds_toArray, List.set_cons_zero, List.set_cons_succ])
   refine wpAnyH_ready (rs := [3, 4, 5]) (by kernel_rfl) (by simp) ?_
   refine (AllReadyH.cons (o := ⟨some 28, .call { callee := .value (.func 49), args := #[.tmp 27], argTypes := #[25] }, 93, "guess.go:437", #[⟨2, .data⟩, ⟨1, .chain⟩], none⟩) rfl (fun K hK => ?_) (AllReadyH.cons (o := ⟨some 6, .alloc 93, 0, "guess.go:437", #[], none⟩) rfl (fun K hK => ?_) (AllReadyH.cons (o := ⟨some 7, .alloc 93, 0, "guess.go:437", #[], none⟩) rfl (fun K hK => ?_) AllReadyH.nil)))
   ·rw [if_pos (by rfl)]
    go_simp
    refine (hgb _ (hg.keep hHeld.2)).mono ?_
    rintro e' WB ⟨K', kc, rfl, hU0, hbB⟩
    have hUU := hU0.mono (Nat.zero_le _)
    clear hU0
    (try replace hL := hL.keep hbB)
    (try replace hGa := hGa.keep hbB)
    (try replace hGb := hGb.keep hbB)
    refine hK.out _ _ (kp_step hbB hHeld) (fun hHeld => ?_)
    clear hK K
    (try simp only [Act.put, List.setIfInBounds_toArray, List.set_cons_zero, List.set_cons_succ])
    refine wpAnyH_ready (rs := [4, 5]) (by kernel_rfl) (by simp) ?_
    refine (AllReadyH.cons (o := ⟨some 6, .alloc 93, 0, "guess.go:437", #[], none⟩) rfl (fun K hK => ?_) (AllReadyH.cons (o := ⟨some 7, .alloc 93, 0, "guess.go:437", #[], none⟩) rfl (fun K hK => ?_) AllReadyH.nil))
    ·rw [if_pos (by rfl)]
     refine wp_alloc_new 93 rfl _ (guessed_zero _) ?_
     intro ga wz hgz hGa hb1 _
     have hgoa : w2.heap.size ≤ ga := by have := hHeld.2.size; omega
     (try have hne : gb ≠ ga := by have := hGb.lt; omega)
     (try replace hL := hL.keep hb1)
     (try replace hUU := hUU.keep hb1)
     (try replace hGb := hGb.keep hb1)
     refine hK.out _ _ (kp_step hb1 hHeld) (fun hHeld => ?_)
     clear hK K
     (try simp only [Act.put, List.setIfInBounds_toArray, List.set_cons_zero, List.set_cons_succ])
     refine wpAnyH_ready (rs := [5]) (by kernel_rfl) (by simp) ?_
     refine (AllReadyH.cons (o := ⟨some 7, .alloc 93, 0, "guess.go:437", #[], none⟩) rfl (fun K hK => ?_) AllReadyH.nil)
     rw [if_pos (by rfl)]
     refine wp_alloc_new 93 rfl _ (guessed_zero _) ?_
     intro gb wz hgz hGb hb1 _
     have hgob : w2.heap.size ≤ gb := by have := hHeld.2.size; omega
     (try have hne : gb ≠ ga := by have := hGa.lt; omega)
     (try replace hL := hL.keep hb1)
     (try replace hUU := hUU.keep hb1)
     (try replace hGa := hGa.keep hb1)
     refine hK.out _ _ (kp_step hb1 hHeld) (fun hHeld => ?_)
     clear hK K
     (try simp only [Act.put, List.setIfInBounds_toArray, List.set_cons_zero, List.set_cons_succ])
     refine wpAnyH_ready (rs := [6]) (by kernel_rfl) (by simp) ?_
     refine (AllReadyH.cons (o := ⟨none, .store 93 (.tmp 6) (.tmp 26), 0, "guess.go:437", #[⟨4, .data⟩, ⟨1, .data⟩, ⟨3, .chain⟩, ⟨0, .phase⟩, ⟨1, .phase⟩, ⟨2, .textOnly .lateStores⟩, ⟨3, .textOnly .lateStoresUnsure⟩, ⟨4, .phase⟩, ⟨5, .phase⟩], none⟩) rfl (fun K hK => ?_) AllReadyH.nil)
     rw [if_pos (by rfl)]
     refine wp_store_blk _ _ _ rfl ga 93 _ _ rfl rfl hGa rfl (by kernel_rfl) (by simp [Value.oneCell']) ?_
     intro wz hGa2 hgr
     replace hL := hL.grown hgr hGa (by decide) (by decide)
     replace hUU := hUU.grown hgr hGa (by decide) (by decide)
     replace hGb := hGb.grown hgr (by simpa using hne)
     replace hGa := hGa2
     have hfin : Below w2.heap.size w2 wz := hHeld.2.grown hgr hHeld.2.size (by intro k hk; cases hk; exact hgoa)
     refine hK.out _ _ (kp_of hfin) (fun hHeld => ?_)
     clear hK K
     refine wpAnyH_ready (rs := [7]) (by kernel_rfl) (by simp) ?_
     refine (AllReadyH.cons (o := ⟨none, .store 93 (.tmp 7) (.tmp 28), 0, "guess.go:437", #[⟨5, .data⟩, ⟨3, .data⟩, ⟨6, .chain⟩, ⟨0, .phase⟩, ⟨1, .phase⟩, ⟨2, .phase⟩, ⟨3, .phase⟩, ⟨4, .phase⟩, ⟨5, .phase⟩, ⟨6, .phase⟩], none⟩) rfl (fun K hK => ?_) AllReadyH.nil)
     rw [if_pos (by rfl)]
     refine wp_store_blk _ _ _ rfl gb 93 _ _ rfl rfl hGb rfl (by kernel_rfl) (by simp [Value.oneCell']) ?_
     intro wz hGb2 hgr
     replace hL := hL.grown hgr hGb (by decide) (by decide)
     replace hUU := hUU.grown hgr hGb (by decide) (by decide)
     replace hGa := hGa.grown hgr (by simpa using Ne.symm hne)
     replace hGb := hGb2
     have hfin : Below w2.heap.size w2 wz := hHeld.2.grown hgr hHeld.2.size (by intro k hk; cases hk; exact hgob)
     refine hK.out _ _ (kp_of hfin) (fun hHeld => ?_)
     clear hK K
     refine wpAnyH_done (by kernel_rfl) ?_ _
     refine NoPanic.normal ?_
     go_wp2_with fail
     go_meet
     case rel => exact ⟨ga, gb, L, K', lc, kc, rfl, rfl, hGa, hGb, hL, hUU, hHeld.2, hgoa, hgob⟩
    ·rw [if_pos (by rfl)]
     refine wp_alloc_new 93 rfl _ (guessed_zero _) ?_
     intro gb wz hgz hGb hb1 _
     have hgob : w2.heap.size ≤ gb := by have := hHeld.2.size; omega
     (try have hne : gb ≠ ga := by have := hGa.lt; omega)
     (try replace hL := hL.keep hb1)
     (try replace hUU := hUU.keep hb1)
     (try replace hGa := hGa.keep hb1)
     refine hK.out _ _ (kp_step hb1 hHeld) (fun hHeld => ?_)
     clear hK K
     (try simp only [Act.put, List.setIfInBounds_toArray, List.set_cons_zero, List.set_cons_succ])
     refine wpAnyH_ready (rs := [4]) (by kernel_rfl) (by simp) ?_
     refine (AllReadyH.cons (o := ⟨some 6, .alloc 93, 0, "guess.go:437", #[], none⟩) rfl (fun K hK => ?_) AllReadyH.nil)
     rw [if_pos (by rfl)]
     refine wp_alloc_new 93 rfl _ (guessed_zero _) ?_
     intro ga wz hgz hGa hb1 _
     have hgoa : w2.heap.size ≤ ga := by have := hHeld.2.size; omega
     (try have hne : gb ≠ ga := by have := hGb.lt; omega)
     (try replace hL := hL.keep hb1)
     (try replace hUU := hUU.keep hb1)
     (try replace hGb := hGb.keep hb1)
     refine hK.out _ _ (kp_step hb1 hHeld) (fun hHeld => ?_)
     clear hK K
     (try simp only [Act.put, List.setIfInBounds_toArray, List.set_cons_zero, List.set_cons_succ])
     refine wpAnyH_ready (rs := [6]) (by kernel_rfl) (by simp) ?_
     refine (AllReadyH.cons (o := ⟨none, .store 93 (.tmp 6) (.tmp 26), 0, "guess.go:437", #[⟨4, .data⟩, ⟨1, .data⟩, ⟨3, .chain⟩, ⟨0, .phase⟩, ⟨1, .phase⟩, ⟨2, .textOnly .lateStores⟩, ⟨3, .textOnly .lateStoresUnsure⟩, ⟨4, .phase⟩, ⟨5, .phase⟩], none⟩) rfl (fun K hK => ?_) AllReadyH.nil)
     rw [if_pos (by rfl)]
     refine wp_store_blk _ _ _ rfl ga 93 _ _ rfl rfl hGa rfl (by kernel_rfl) (by simp [Value.oneCell']) ?_
     intro wz hGa2 hgr
     replace hL := hL.grown hgr hGa (by decide) (by decide)
     replace hUU := hUU.grown hgr hGa (by decide) (by decide)
     replace hGb := hGb.grown hgr (by simpa using hne)
     replace hGa := hGa2
     have hfin : Below w2.heap.size w2 wz := hHeld.2.grown hgr hHeld.2.size (by intro k hk; cases hk; exact hgoa)
     refine hK.out _ _ (kp_of hfin) (fun hHeld => ?_)
     clear hK K
     refine wpAnyH_ready (rs := [7]) (by kernel_rfl) (by simp) ?_
     refine (AllReadyH.cons (o := ⟨none, .store 93 (.tmp 7) (.tmp 28), 0, "guess.go:437", #[⟨5, .data⟩, ⟨3, .data⟩, ⟨6, .chain⟩, ⟨0, .phase⟩, ⟨1, .phase⟩, ⟨2, .phase⟩, ⟨3, .phase⟩, ⟨4, .phase⟩, ⟨5, .phase⟩, ⟨6, .phase⟩], none⟩) rfl (fun K hK => ?_) AllReadyH.nil)
     rw [if_pos (by rfl)]
     refine wp_store_blk _ _ _ rfl gb 93 _ _ rfl rfl hGb rfl (by kernel_rfl) (by simp [Value.oneCell']) ?_
     intro wz hGb2 hgr
     replace hL := hL.grown hgr hGb (by decide) (by decide)
     replace hUU := hUU.grown hgr hGb (by decide) (by decide)
     replace hGa := hGa.grown hgr (by simpa using Ne.symm hne)
     replace hGb := hGb2
     have hfin : Below w2.heap.size w2 wz := hHeld.2.grown hgr hHeld.2.size (by intro k hk; cases hk; exact hgob)
     refine hK.out _ _ (kp_of hfin) (fun hHeld => ?_)
     clear hK K
     refine wpAnyH_done (by kernel_rfl) ?_ _
     refine NoPanic.normal ?_
     go_wp2_with fail
     go_meet
     case rel => exact ⟨ga, gb, L, K', lc, kc, rfl, rfl, hGa, hGb, hL, hUU, hHeld.2, hgoa, hgob⟩
   ·rw [if_pos (by rfl)]
    refine wp_alloc_new 93 rfl _ (guessed_zero _) ?_
    intro ga wz hgz hGa hb1 _
    have hgoa : w2.heap.size ≤ ga := by have := hHeld.2.size; omega
    (try have hne : gb ≠ ga := by have := hGb.lt; omega)
    (try replace hL := hL.keep hb1)
    (try replace hUU := hUU.keep hb1)
    (try replace hGb := hGb.keep hb1)
    refine hK.out _ _ (kp_step hb1 hHeld) (fun hHeld => ?_)
    clear hK K
    (try simp only [Act.put, List.setIfInBounds_toArray, List.set_cons_zero, List.set_cons_succ])
    refine wpAnyH_ready (rs := [3, 5]) (by kernel_rfl) (by simp) ?_
    refine (AllReadyH.cons (o := ⟨some 28, .call { callee := .value (.func 49), args := #[.tmp 27], argTypes := #[25] }, 93, "guess.go:437", #[⟨2, .data⟩, ⟨1, .chain⟩], none⟩) rfl (fun K hK => ?_) (AllReadyH.cons (o := ⟨some 7, .alloc 93, 0, "guess.go:437", #[], none⟩) rfl (fun K hK => ?_) AllReadyH.nil))
    ·rw [if_pos (by rfl)]
     go_simp
     refine (hgb _ (hg.keep hHeld.2)).mono ?_
     rintro e' WB ⟨K', kc, rfl, hU0, hbB⟩
     have hUU := hU0.mono (Nat.zero_le _)
     clear hU0
     (try replace hL := hL.keep hbB)
     (try replace hGa := hGa.keep hbB)
     (try replace hGb := hGb.keep hbB)
     refine hK.out _ _ (kp_step hbB hHeld) (fun hHeld => ?_)
     clear hK K
     (try simp only [Act.put, List.setIfInBounds_toArray, List.set_cons_zero, List.set_cons_succ])
     refine wpAnyH_ready (rs := [5]) (by kernel_rfl) (by simp) ?_
     refine (AllReadyH.cons (o := ⟨some 7, .alloc 93, 0, "guess.go:437", #[], none⟩) rfl (fun K hK => ?_) AllReadyH.nil)
     rw [if_pos (by rfl)]
     refine wp_alloc_new 93 rfl _ (guessed_zero _) ?_
     intro gb wz hgz hGb hb1 _
     have hgob : w2.heap.size ≤ gb := by have := hHeld.2.size; omega
     (try have hne : gb ≠ ga := by have := hGa.lt; omega)
     (try replace hL := hL.keep hb1)
     (try replace hUU := hUU.keep hb1)
     (try replace hGa := hGa.keep hb1)
     refine hK.out _ _ (kp_step hb1 hHeld) (fun hHeld => ?_)
     clear hK K
     (try simp only [Act.put, List.setIfInBounds_toArray, List.set_cons_zero, List.set_cons_succ])
     refine wpAnyH_ready (rs := [6]) (by kernel_rfl) (by simp) ?_
     refine (AllReadyH.cons (o := ⟨none, .store 93 (.tmp 6) (.tmp 26), 0, "guess.go:437", #[⟨4, .data⟩, ⟨1, .data⟩, ⟨3, .chain⟩, ⟨0, .phase⟩, ⟨1, .phase⟩, ⟨2, .textOnly .lateStores⟩, ⟨3, .textOnly .lateStoresUnsure⟩, ⟨4, .phase⟩, ⟨5, .phase⟩], none⟩) rfl (fun K hK => ?_) AllReadyH.nil)
     rw [if_pos (by rfl)]
     refine wp_store_blk _ _ _ rfl ga 93 _ _ rfl rfl hGa rfl (by kernel_rfl) (by simp [Value.oneCell']) ?_
     intro wz hGa2 hgr
     replace hL := hL.grown hgr hGa (by decide) (by decide)
     replace hUU := hUU.grown hgr hGa (by decide) (by decide)
     replace hGb := hGb.grown hgr (by simpa using hne)
     replace hGa := hGa2
     have hfin : Below w2.heap.size w2 wz := hHeld.2.grown hgr hHeld.2.size (by intro k hk; cases hk; exact hgoa)
     refine hK.out _ _ (kp_of hfin) (fun hHeld => ?_)
     clear hK K
     refine wpAnyH_ready (rs := [7]) (by kernel_rfl) (by simp) ?_
     refine (AllReadyH.cons (o := ⟨none, .store 93 (.tmp 7) (.tmp 28), 0, "guess.go:437", #[⟨5, .data⟩, ⟨3, .data⟩, ⟨6, .chain⟩, ⟨0, .phase⟩, ⟨1, .phase⟩, ⟨2, .phase⟩, ⟨3, .phase⟩, ⟨4, .phase⟩, ⟨5, .phase⟩, ⟨6, .phase⟩], none⟩) rfl (fun K hK => ?_) AllReadyH.nil)
     rw [if_pos (by rfl)]
     refine wp_store_blk _ _ _ rfl gb 93 _ _ rfl rfl hGb rfl (by kernel_rfl) (by simp [Value.oneCell']) ?_
     intro wz hGb2 hgr
     replace hL := hL.grown hgr hGb (by decide) (by decide)
     replace hUU := hUU.grown hgr hGb (by decide) (by decide)
     replace hGa := hGa.grown hgr (by simpa using Ne.symm hne)
     replace hGb := hGb2
     have hfin : Below w2.heap.size w2 wz := hHeld.2.grown hgr hHeld.2.size (by intro k hk; cases hk; exact hgob)
     refine hK.out _ _ (kp_of hfin) (fun hHeld => ?_)
     clear hK K
     refine wpAnyH_done (by kernel_rfl) ?_ _
     refine NoPanic.normal ?_
     go_wp2_with fail
     go_meet
     case rel => exact ⟨ga, gb, L, K', lc, kc, rfl, rfl, hGa, hGb, hL, hUU, hHeld.2, hgoa, hgob⟩
    ·rw [if_pos (by rfl)]
     refine wp_alloc_new 93 rfl _ (guessed_zero _) ?_
     intro gb wz hgz hGb hb1 _
     have hgob : w2.heap.size ≤ gb := by have := hHeld.2.size; omega
     (try have hne : gb ≠ ga := by have := hGa.lt; omega)
     (try replace hL := hL.keep hb1)
     (try replace hUU := hUU.keep hb1)
     (try replace hGa := hGa.keep hb1)
     refine hK.out _ _ (kp_step hb1 hHeld) (fun hHeld => ?_)
     clear hK K
     (try simp only [Act.put, List.setIfInBounds_toArray, List.set_cons_zero, List.set_cons_succ])
     refine wpAnyH_ready (rs := [3]) (by kernel_rfl) (by simp) ?_
     refine (AllReadyH.cons (o := ⟨some 28, .call { callee := .value (.func 49), args := #[.tmp 27], argTypes := #[25] }, 93, "guess.go:437", #[⟨2, .data⟩, ⟨1, .chain⟩], none⟩) rfl (fun K hK => ?_) AllReadyH.nil)
     rw [if_pos (by rfl)]
     go_simp
     refine (hgb _ (hg.keep hHeld.2)).mono ?_
     rintro e' WB ⟨K', kc, rfl, hU0, hbB⟩
     have hUU := hU0.mono (Nat.zero_le _)
     clear hU0
     (try replace hL := hL.keep hbB)
     (try replace hGa := hGa.keep hbB)
     (try replace hGb := hGb.keep hbB)
     refine hK.out _ _ (kp_step hbB hHeld) (fun hHeld => ?_)
     clear hK K
     (try simp only [Act.put, List.setIfInBounds_toArray, List.set_cons_zero, List.set_cons_succ])
     refine wpAnyH_ready (rs := [6]) (by kernel_rfl) (by simp) ?_
     refine (AllReadyH.cons (o := ⟨none, .store 93 (.tmp 6) (.tmp 26), 0, "guess.go:437", #[⟨4, .data⟩, ⟨1, .data⟩, ⟨3, .chain⟩, ⟨0, .phase⟩, ⟨1, .phase⟩, ⟨2, .textOnly .lateStores⟩, ⟨3, .textOnly .lateStoresUnsure⟩, ⟨4, .phase⟩, ⟨5, .phase⟩], none⟩) rfl (fun K hK => ?_) AllReadyH.nil)
     rw [if_pos (by rfl)]
     refine wp_store_blk _ _ _ rfl ga 93 _ _ rfl rfl hGa rfl (by kernel_rfl) (by simp [Value.oneCell']) ?_
     intro wz hGa2 hgr
     replace hL := hL.grown hgr hGa (by decide) (by decide)
     replace hUU := hUU.grown hgr hGa (by decide) (by decide)
     replace hGb := hGb.grown hgr (by simpa using hne)
     replace hGa := hGa2
     have hfin : Below w2.heap.size w2 wz := hHeld.2.grown hgr hHeld.2.size (by intro k hk; cases hk; exact hgoa)
     refine hK.out _ _ (kp_of hfin) (fun hHeld => ?_)
     clear hK K
     refine wpAnyH_ready (rs := [7]) (by kernel_rfl) (by simp) ?_
     refine (AllReadyH.cons (o := ⟨none, .store 93 (.tmp 7) (.tmp 28), 0, "guess.go:437", #[⟨5, .data⟩, ⟨3, .data⟩, ⟨6, .chain⟩, ⟨0, .phase⟩, ⟨1, .phase⟩, ⟨2, .phase⟩, ⟨3, .phase⟩, ⟨4, .phase⟩, ⟨5, .phase⟩, ⟨6, .phase⟩], none⟩) rfl (fun K hK => ?_) AllReadyH.nil)
     rw [if_pos (by rfl)]
     refine wp_store_blk _ _ _ rfl gb 93 _ _ rfl rfl hGb rfl (by kernel_rfl) (by simp [Value.oneCell']) ?_
     intro wz hGb2 hgr
     replace hL := hL.grown hgr hGb (by decide) (by decide)
     replace hUU := hUU.grown hgr hGb (by decide) (by decide)
     replace hGa := hGa.grown hgr (by simpa using Ne.symm hne)
     replace hGb := hGb2
     have hfin : Below w2.heap.size w2 wz := hHeld.2.grown hgr hHeld.2.size (by intro k hk; cases hk; exact hgob)
     refine hK.out _ _ (kp_of hfin) (fun hHeld => ?_)
     clear hK K
     refine wpAnyH_done (by kernel_rfl) ?_ _
     refine NoPanic.normal ?_
     go_wp2_with fail
     go_meet
     case rel => exact ⟨ga, gb, L, K', lc, kc, rfl, rfl, hGa, hGb, hL, hUU, hHeld.2, hgoa, hgob⟩
   ·rw [if_pos (by rfl)]
    refine wp_alloc_new 93 rfl _ (guessed_zero _) ?_
    intro gb wz hgz hGb hb1 _
    have hgob : w2.heap.size ≤ gb := by have := hHeld.2.size; omega
    (try have hne : gb ≠ ga := by have := hGa.lt; omega)
    (try replace hL := hL.keep hb1)
    (try replace hUU := hUU.keep hb1)
    (try replace hGa := hGa.keep hb1)
    refine hK.out _ _ (kp_step hb1 hHeld) (fun hHeld => ?_)
    clear hK K
    (try simp only [Act.put, List.setIfInBounds_toArray, List.set_cons_zero, List.set_cons_succ])
    refine wpAnyH_ready (rs := [3, 4]) (by kernel_rfl) (by simp) ?_
    refine (AllReadyH.cons (o := ⟨some 28, .call { callee := .value (.func 49), args := #[.tmp 27], argTypes := #[25] }, 93, "guess.go:437", #[⟨2, .data⟩, ⟨1, .chain⟩], none⟩) rfl (fun K hK => ?_) (AllReadyH.cons (o := ⟨some 6, .alloc 93, 0, "guess.go:437", #[], none⟩) rfl (fun K hK => ?_) AllReadyH.nil))
    ·rw [if_pos (by rfl)]
     go_simp
     refine (hgb _ (hg.keep hHeld.2)).mono ?_
     rintro e' WB ⟨K', kc, rfl, hU0, hbB⟩
     have hUU := hU0.mono (Nat.zero_le _)
     clear hU0
     (try replace hL := hL.keep hbB)
     (try replace hGa := hGa.keep hbB)
     (try replace hGb := hGb.keep hbB)
     refine hK.out _ _ (kp_step hbB hHeld) (fun hHeld => ?_)
     clear hK K
     (try simp only [Act.put, List.setIfInBounds_toArray, List.set_cons_zero, List.set_cons_succ])
     refine wpAnyH_ready (rs := [4]) (by kernel_rfl) (by simp) ?_
     refine (AllReadyH.cons (o := ⟨some 6, .alloc 93, 0, "guess.go:437", #[], none⟩) rfl (fun K hK => ?_) AllReadyH.nil)
     rw [if_pos (by rfl)]
     refine wp_alloc_new 93 rfl _ (guessed_zero _) ?_
     intro ga wz hgz hGa hb1 _
     have hgoa : w2.heap.size ≤ ga := by have := hHeld.2.size; omega
     (try have hne : gb ≠ ga := by have := hGb.lt; omega)
     (try replace hL := hL.keep hb1)
     (try replace hUU := hUU.keep hb1)
     (try replace hGb := hGb.keep hb1)
     refine hK.out _ _ (kp_step hb1 hHeld) (fun hHeld => ?_)
     clear hK K
     (try simp only [Act.put, List.setIfInBounds_toArray, List.set_cons_zero, List.set_cons_succ])
     refine wpAnyH_ready (rs := [6]) (by kernel_rfl) (by simp) ?_
     refine (AllReadyH.cons (o := ⟨none, .store 93 (.tmp 6) (.tmp 26), 0, "guess.go:437", #[⟨4, .data⟩, ⟨1, .data⟩, ⟨3, .chain⟩, ⟨0, .phase⟩, ⟨1, .phase⟩, ⟨2, .textOnly .lateStores⟩, ⟨3, .textOnly .lateStoresUnsure⟩, ⟨4, .phase⟩, ⟨5, .phase⟩], none⟩) rfl (fun K hK => ?_) AllReadyH.nil)
     rw [if_pos (by rfl)]
     refine wp_store_blk _ _ _ rfl ga 93 _ _ rfl rfl hGa rfl (by kernel_rfl) (by simp [Value.oneCell']) ?_
     intro wz hGa2 hgr
     replace hL := hL.grown hgr hGa (by decide) (by decide)
     replace hUU := hUU.grown hgr hGa (by decide) (by decide)
     replace hGb := hGb.grown hgr (by simpa using hne)
     replace hGa := hGa2
     have hfin : Below w2.heap.size w2 wz := hHeld.2.grown hgr hHeld.2.size (by intro k hk; cases hk; exact hgoa)
     refine hK.out _ _ (kp_of hfin) (fun hHeld => ?_)
     clear hK K
     refine wpAnyH_ready (rs := [7]) (by kernel_rfl) (by simp) ?_
     refine (AllReadyH.cons (o := ⟨none, .store 93 (.tmp 7) (.tmp 28), 0, "guess.go:437", #[⟨5, .data⟩, ⟨3, .data⟩, ⟨6, .chain⟩, ⟨0, .phase⟩, ⟨1, .phase⟩, ⟨2, .phase⟩, ⟨3, .phase⟩, ⟨4, .phase⟩, ⟨5, .phase⟩, ⟨6, .phase⟩], none⟩) rfl (fun K hK => ?_) AllReadyH.nil)
     rw [if_pos (by rfl)]
     refine wp_store_blk _ _ _ rfl gb 93 _ _ rfl rfl hGb rfl (by kernel_rfl) (by simp [Value.oneCell']) ?_
     intro wz hGb2 hgr
     replace hL := hL.grown hgr hGb (by decide) (by decide)
     replace hUU := hUU.grown hgr hGb (by decide) (by decide)
     replace hGa := hGa.grown hgr (by simpa using Ne.symm hne)
     replace hGb := hGb2
     have hfin : Below w2.heap.size w2 wz := hHeld.2.grown hgr hHeld.2.size (by intro k hk; cases hk; exact hgob)
     refine hK.out _ _ (kp_of hfin) (fun hHeld => ?_)
     clear hK K
     refine wpAnyH_done (by kernel_rfl) ?_ _
     refine NoPanic.normal ?_
     go_wp2_with fail
     go_meet
     case rel => exact ⟨ga, gb, L, K', lc, kc, rfl, rfl, hGa, hGb, hL, hUU, hHeld.2, hgoa, hgob⟩
    ·rw [if_pos (by rfl)]
     refine wp_alloc_new 93 rfl _ (guessed_zero _) ?_
     intro ga wz hgz hGa hb1 _
     have hgoa : w2.heap.size ≤ ga := by have := hHeld.2.size; omega
     (try have hne : gb ≠ ga := by have := hGb.lt; omega)
     (try replace hL := hL.keep hb1)
     (try replace hUU := hUU.keep hb1)
     (try replace hGb := hGb.keep hb1)
     refine hK.out _ _ (kp_step hb1 hHeld) (fun hHeld => ?_)
     clear hK K
     (try simp only [Act.put, List.setIfInBounds_toArray, List.set_cons_zero, List.set_cons_succ])
     refine wpAnyH_ready (rs := [3]) (by kernel_rfl) (by simp) ?_
     refine (AllReadyH.cons (o := ⟨some 28, .call { callee := .value (.func 49), args := #[.tmp 27], argTypes := #[25] }, 93, "guess.go:437", #[⟨2, .data⟩, ⟨1, .chain⟩], none⟩) rfl (fun K hK => ?_) AllReadyH.nil)
     rw [if_pos (by rfl)]
     go_simp
     refine (hgb _ (hg.keep hHeld.2)).mono ?_
     rintro e' WB ⟨K', kc, rfl, hU0, hbB⟩
     have hUU := hU0.mono (Nat.zero_le _)
     clear hU0
     (try replace hL := hL.keep hbB)
     (try replace hGa := hGa.keep hbB)
     (try replace hGb := hGb.keep hbB)
     refine hK.out _ _ (kp_step hbB hHeld) (fun hHeld => ?_)
     clear hK K
     (try simp only [Act.put, List.setIfInBounds_toArray, List.set_cons_zero, List.set_cons_succ])
     refine wpAnyH_ready (rs := [6]) (by kernel_rfl) (by simp) ?_
     refine (AllReadyH.cons (o := ⟨none, .store 93 (.tmp 6) (.tmp 26), 0, "guess.go:437", #[⟨4, .data⟩, ⟨1, .data⟩, ⟨3, .chain⟩, ⟨0, .phase⟩, ⟨1, .phase⟩, ⟨2, .textOnly .lateStores⟩, ⟨3, .textOnly .lateStoresUnsure⟩, ⟨4, .phase⟩, ⟨5, .phase⟩], none⟩) rfl (fun K hK => ?_) AllReadyH.nil)
     rw [if_pos (by rfl)]
     refine wp_store_blk _ _ _ rfl ga 93 _ _ rfl rfl hGa rfl (by kernel_rfl) (by simp [Value.oneCell']) ?_
     intro wz hGa2 hgr
     replace hL := hL.grown hgr hGa (by decide) (by decide)
     replace hUU := hUU.grown hgr hGa (by decide) (by decide)
     replace hGb := hGb.grown hgr (by simpa using hne)
     replace hGa := hGa2
     have hfin : Below w2.heap.size w2 wz := hHeld.2.grown hgr hHeld.2.size (by intro k hk; cases hk; exact hgoa)
     refine hK.out _ _ (kp_of hfin) (fun hHeld => ?_)
     clear hK K
     refine wpAnyH_ready (rs := [7]) (by kernel_rfl) (by simp) ?_
     refine (AllReadyH.cons (o := ⟨none, .store 93 (.tmp 7) (.tmp 28), 0, "guess.go:437", #[⟨5, .data⟩, ⟨3, .data⟩, ⟨6, .chain⟩, ⟨0, .phase⟩, ⟨1, .phase⟩, ⟨2, .phase⟩, ⟨3, .phase⟩, ⟨4, .phase⟩, ⟨5, .phase⟩, ⟨6, .phase⟩], none⟩) rfl (fun K hK => ?_) AllReadyH.nil)
     rw [if_pos (by rfl)]
     refine wp_store_blk _ _ _ rfl gb 93 _ _ rfl rfl hGb rfl (by kernel_rfl) (by simp [Value.oneCell']) ?_
     intro wz hGb2 hgr
     replace hL := hL.grown hgr hGb (by decide) (by decide)
     replace hUU := hUU.grown hgr hGb (by decide) (by decide)
     replace hGa := hGa.grown hgr (by simpa using Ne.symm hne)
     replace hGb := hGb2
     have hfin : Below w2.heap.size w2 wz := hHeld.2.grown hgr hHeld.2.size (by intro k hk; cases hk; exact hgob)
     refine hK.out _ _ (kp_of hfin) (fun hHeld => ?_)
     clear hK K
     refine wpAnyH_done (by kernel_rfl) ?_ _
     refine NoPanic.normal ?_
     go_wp2_with fail
     go_meet
     case rel => exact ⟨ga, gb, L, K', lc, kc, rfl, rfl, hGa, hGb, hL, hUU, hHeld.2, hgoa, hgob⟩
  ·rw [if_pos (by rfl)]
   refine wp_alloc_new 93 rfl _ (guessed_zero _) ?_
   intro ga wz hgz hGa hb1 _
   have hgoa : w2.heap.size ≤ ga := by have := hHeld.2.size; omega
   (try have hne : gb ≠ ga := by have := hGb.lt; omega)
   (try replace hL := hL.keep hb1)
   (try replace hUU := hUU.keep hb1)
   (try replace hGb := hGb.keep hb1)
   refine hK.out _ _ (kp_step hb1 hHeld) (fun hHeld => ?_)
   clear hK K
   (try simp only [Act.put, List.setIfInBounds_toArray, List.set_cons_zero, List.set_cons_succ])
   refine wpAnyH_ready (rs := [1, 5]) (by kernel_rfl) (by simp) ?_
   refine (AllReadyH.cons (o := ⟨some 26, .call { callee := .value (.func 49), args := #[.tmp 25], argTypes := #[25] }, 93, "guess.go:437", #[⟨0, .data⟩], none⟩) rfl (fun K hK => ?_) (AllReadyH.cons (o := ⟨some 7, .alloc 93, 0, "guess.go:437", #[], none⟩) rfl (fun K hK => ?_) AllReadyH.nil))
   ·rw [if_pos (by rfl)]
    go_simp
    refine (hga _ (hf.keep hHeld.2)).mono ?_
    rintro e' WA ⟨L, lc, rfl, hL0, hbA⟩
    have hL := hL0.mono (Nat.zero_le _)
    clear hL0
    (try replace hGa := hGa.keep hbA)
    (try replace hGb := hGb.keep hbA)
    refine hK.out _ _ (kp_step hbA hHeld) (fun hHeld => ?_)
    clear hK K
    (try simp only [Act.put, List.setIfInBounds_toArray, List.set_cons_zero, List.set_cons_succ])
    refine wpAnyH_ready (rs := [3, 5]) (by kernel_rfl) (by simp) ?_
    refine (AllReadyH.cons (o := ⟨some 28, .call { callee := .value (.func 49), args := #[.tmp 27], argTypes := #[25] }, 93, "guess.go:437", #[⟨2, .data⟩, ⟨1, .chain⟩], none⟩) rfl (fun K hK => ?_) (AllReadyH.cons (o := ⟨some 7, .alloc 93, 0, "guess.go:437", #[], none⟩) rfl (fun K hK => ?_) AllReadyH.nil))
    ·rw [if_pos (by rfl)]
     go_simp
     refine (hgb _ (hg.keep hHeld.2)).mono ?_
     rintro e' WB ⟨K', kc, rfl, hU0, hbB⟩
     have hUU := hU0.mono (Nat.zero_le _)
     clear hU0
     (try replace hL := hL.keep hbB)
     (try replace hGa := hGa.keep hbB)
     (try replace hGb := hGb.keep hbB)
     refine hK.out _ _ (kp_step hbB hHeld) (fun hHeld => ?_)
     clear hK K
     (try simp only [Act.put, List.setIfInBounds_toArray, List.set_cons_zero, List.set_cons_succ])
     refine wpAnyH_ready (rs := [5]) (by kernel_rfl) (by simp) ?_
     refine (AllReadyH.cons (o := ⟨some 7, .alloc 93, 0, "guess.go:437", #[], none⟩) rfl (fun K hK => ?_) AllReadyH.nil)
     rw [if_pos (by rfl)]
     refine wp_alloc_new 93 rfl _ (guessed_zero _) ?_
     intro gb wz hgz hGb hb1 _
     have hgob : w2.heap.size ≤ gb := by have := hHeld.2.size; omega
     (try have hne : gb ≠ ga := by have := hGa.lt; omega)
     (try replace hL := hL.keep hb1)
     (try replace hUU := hUU.keep hb1)
     (try replace hGa := hGa.keep hb1)
     refine hK.out _ _ (kp_step hb1 hHeld) (fun hHeld => ?_)
     clear hK K
     (try simp only [Act.put, List.setIfInBounds_toArray, List.set_cons_zero, List.set_cons_succ])
     refine wpAnyH_ready (rs := [6]) (by kernel_rfl) (by simp) ?_
     refine (AllReadyH.cons (o := ⟨none, .store 93 (.tmp 6) (.tmp 26), 0, "guess.go:437", #[⟨4, .data⟩, ⟨1, .data⟩, ⟨3, .chain⟩, ⟨0, .phase⟩, ⟨1, .phase⟩, ⟨2, .textOnly .lateStores⟩, ⟨3, .textOnly .lateStoresUnsure⟩, ⟨4, .phase⟩, ⟨5, .phase⟩], none⟩) rfl (fun K hK => ?_) AllReadyH.nil)
     rw [if_pos (by rfl)]
     refine wp_store_blk _ _ _ rfl ga 93 _ _ rfl rfl hGa rfl (by kernel_rfl) (by simp [Value.oneCell']) ?_
     intro wz hGa2 hgr
     replace hL := hL.grown hgr hGa (by decide) (by decide)
     replace hUU := hUU.grown hgr hGa (by decide) (by decide)
     replace hGb := hGb.grown hgr (by simpa using hne)
     replace hGa := hGa2
     have hfin : Below w2.heap.size w2 wz := hHeld.2.grown hgr hHeld.2.size (by intro k hk; cases hk; exact hgoa)
     refine hK.out _ _ (kp_of hfin) (fun hHeld => ?_)
     clear hK K
     refine wpAnyH_ready (rs := [7]) (by kernel_rfl) (by simp) ?_
     refine (AllReadyH.cons (o := ⟨none, .store 93 (.tmp 7) (.tmp 28), 0, "guess.go:437", #[⟨5, .data⟩, ⟨3, .data⟩, ⟨6, .chain⟩, ⟨0, .phase⟩, ⟨1, .phase⟩, ⟨2, .phase⟩, ⟨3, .phase⟩, ⟨4, .phase⟩, ⟨5, .phase⟩, ⟨6, .phase⟩], none⟩) rfl (fun K hK => ?_) AllReadyH.nil)
     rw [if_pos (by rfl)]
     refine wp_store_blk _ _ _ rfl gb 93 _ _ rfl rfl hGb rfl (by kernel_rfl) (by simp [Value.oneCell']) ?_
     intro wz hGb2 hgr
     replace hL := hL.grown hgr hGb (by decide) (by decide)
     replace hUU := hUU.grown hgr hGb (by decide) (by decide)
     replace hGa := hGa.grown hgr (by simpa using Ne.symm hne)
     replace hGb := hGb2
     have hfin : Below w2.heap.size w2 wz := hHeld.2.grown hgr hHeld.2.size (by intro k hk; cases hk; exact hgob)
     refine hK.out _ _ (kp_of hfin) (fun hHeld => ?_)
     clear hK K
     refine wpAnyH_done (by kernel_rfl) ?_ _
     refine NoPanic.normal ?_
     go_wp2_with fail
     go_meet
     case rel => exact ⟨ga, gb, L, K', lc, kc, rfl, rfl, hGa, hGb, hL, hUU, hHeld.2, hgoa, hgob⟩
    ·rw [if_pos (by rfl)]
     refine wp_alloc_new 93 rfl _ (guessed_zero _) ?_
     intro gb wz hgz hGb hb1 _
     have hgob : w2.heap.size ≤ gb := by have := hHeld.2.size; omega
     (try have hne : gb ≠ ga := by have := hGa.lt; omega)
     (try replace hL := hL.keep hb1)
     (try replace hUU := hUU.keep hb1)
     (try replace hGa := hGa.keep hb1)
     refine hK.out _ _ (kp_step hb1 hHeld) (fun hHeld => ?_)
     clear hK K
     (try simp only [Act.put, List.setIfInBounds_toArray, List.set_cons_zero, List.set_cons_succ])
     refine wpAnyH_ready (rs := [3]) (by kernel_rfl) (by simp) ?_
     refine (AllReadyH.cons (o := ⟨some 28, .call { callee := .value (.func 49), args := #[.tmp 27], argTypes := #[25] }, 93, "guess.go:437", #[⟨2, .data⟩, ⟨1, .chain⟩], none⟩) rfl (fun K hK => ?_) AllReadyH.nil)
     rw [if_pos (by rfl)]
     go_simp
     refine (hgb _ (hg.keep hHeld.2)).mono ?_
     rintro e' WB ⟨K', kc, rfl, hU0, hbB⟩
     have hUU := hU0.mono (Nat.zero_le _)
     clear hU0
     (try replace hL := hL.keep hbB)
     (try replace hGa := hGa.keep hbB)
     (try replace hGb := hGb.keep hbB)
     refine hK.out _ _ (kp_step hbB hHeld) (fun hHeld => ?_)
     clear hK K
     (try simp only [Act.put, List.setIfInBounds_toArray, List.set_cons_zero, List.set_cons_succ])
     refine wpAnyH_ready (rs := [6]) (by kernel_rfl) (by simp) ?_
     refine (AllReadyH.cons (o := ⟨none, .store 93 (.tmp 6) (.tmp 26), 0, "guess.go:437", #[⟨4, .data⟩, ⟨1, .data⟩, ⟨3, .chain⟩, ⟨0, .phase⟩, ⟨1, .phase⟩, ⟨2, .textOnly .lateStores⟩, ⟨3, .textOnly .lateStoresUnsure⟩, ⟨4, .phase⟩, ⟨5, .phase⟩], none⟩) rfl (fun K hK => ?_) AllReadyH.nil)
     rw [if_pos (by rfl)]
     refine wp_store_blk _ _ _ rfl ga 93 _ _ rfl rfl hGa rfl (by kernel_rfl) (by simp [Value.oneCell']) ?_
     intro wz hGa2 hgr
     replace hL := hL.grown hgr hGa (by decide) (by decide)
     replace hUU := hUU.grown hgr hGa (by decide) (by decide)
     replace hGb := hGb.grown hgr (by simpa using hne)
     replace hGa := hGa2
     have hfin : Below w2.heap.size w2 wz := hHeld.2.grown hgr hHeld.2.size (by intro k hk; cases hk; exact hgoa)
     refine hK.out _ _ (kp_of hfin) (fun hHeld => ?_)
     clear hK K
     refine wpAnyH_ready (rs := [7]) (by kernel_rfl) (by simp) ?_
     refine (AllReadyH.cons (o := ⟨none, .store 93 (.tmp 7) (.tmp 28), 0, "guess.go:437", #[⟨5, .data⟩, ⟨3, .data⟩, ⟨6, .chain⟩, ⟨0, .phase⟩, ⟨1, .phase⟩, ⟨2, .phase⟩, ⟨3, .phase⟩, ⟨4, .phase⟩, ⟨5, .phase⟩, ⟨6, .phase⟩], none⟩) rfl (fun K hK => ?_) AllReadyH.nil)
     rw [if_pos (by rfl)]
     refine wp_store_blk _ _ _ rfl gb 93 _ _ rfl rfl hGb rfl (by kernel_rfl) (by simp [Value.oneCell']) ?_
     intro wz hGb2 hgr
     replace hL := hL.grown hgr hGb (by decide) (by decide)
     replace hUU := hUU.grown hgr hGb (by decide) (by decide)
     replace hGa := hGa.grown hgr (by simpa using Ne.symm hne)
     replace hGb := hGb2
     have hfin : Below w2.heap.size w2 wz := hHeld.2.grown hgr hHeld.2.size (by intro k hk; cases hk; exact hgob)
     refine hK.out _ _ (kp_of hfin) (fun hHeld => ?_)
     clear hK K
     refine wpAnyH_done (by kernel_rfl) ?_ _
     refine NoPanic.normal ?_
     go_wp2_with fail
     go_meet
     case rel => exact ⟨ga, gb, L, K', lc, kc, rfl, rfl, hGa, hGb, hL, hUU, hHeld.2, hgoa, hgob⟩
   ·rw [if_pos (by rfl)]
    refine wp_alloc_new 93 rfl _ (guessed_zero _) ?_
    intro gb wz hgz hGb hb1 _
    have hgob : w2.heap.size ≤ gb := by have := hHeld.2.size; omega
    (try have hne : gb ≠ ga := by have := hGa.lt; omega)
    (try replace hL := hL.keep hb1)
    (try replace hUU := hUU.keep hb1)
    (try replace hGa := hGa.keep hb1)
    refine hK.out _ _ (kp_step hb1 hHeld) (fun hHeld => ?_)
    clear hK K
    (try simp only [Act.put, List.setIfInBounds_toArray, List.set_cons_zero, List.set_cons_succ])
    refine wpAnyH_ready (rs := [1]) (by kernel_rfl) (by simp) ?_
    refine (AllReadyH.cons (o := ⟨some 26, .call { callee := .value (.func 49), args := #[.tmp 25], argTypes := #[25] }, 93, "guess.go:437", #[⟨0, .data⟩], none⟩) rfl (fun K hK => ?_) AllReadyH.nil)
    rw [if_pos (by rfl)]
    go_simp
    refine (hga _ (hf.keep hHeld.2)).mono ?_
    rintro e' WA ⟨L, lc, rfl, hL0, hbA⟩
    have hL := hL0.mono (Nat.zero_le _)
    clear hL0
    (try replace hGa := hGa.keep hbA)
    (try replace hGb := hGb.keep hbA)
    refine hK.out _ _ (kp_step hbA hHeld) (fun hHeld => ?_)
    clear hK K
    (try simp only [Act.put, List.setIfInBounds_toArray, List.set_cons_zero, List.set_cons_succ])
    refine wpAnyH_ready (rs := [3]) (by kernel_rfl) (by simp) ?_
    refine (AllReadyH.cons (o := ⟨some 28, .call { callee := .value (.func 49), args := #[.tmp 27], argTypes := #[25] }, 93, "guess.go:437", #[⟨2, .data⟩, ⟨1, .chain⟩], none⟩) rfl (fun K hK => ?_) AllReadyH.nil)
    rw [if_pos (by rfl)]
    go_simp
    refine (hgb _ (hg.keep hHeld.2)).mono ?_
    rintro e' WB ⟨K', kc, rfl, hU0, hbB⟩
    have hUU := hU0.mono (Nat.zero_le _)
    clear hU0
    (try replace hL := hL.keep hbB)
    (try replace hGa := hGa.keep hbB)
    (try replace hGb := hGb.keep hbB)
    refine hK.out _ _ (kp_step hbB hHeld) (fun hHeld => ?_)
    clear hK K
    (try simp only [Act.put, List.setIfInBounds_toArray, List.set_cons_zero, List.set_cons_succ])
    refine wpAnyH_ready (rs := [6]) (by kernel_rfl) (by simp) ?_
    refine (AllReadyH.cons (o := ⟨none, .store 93 (.tmp 6) (.tmp 26), 0, "guess.go:437", #[⟨4, .data⟩, ⟨1, .data⟩, ⟨3, .chain⟩, ⟨0, .phase⟩, ⟨1, .phase⟩, ⟨2, .textOnly .lateStores⟩, ⟨3, .textOnly .lateStoresUnsure⟩, ⟨4, .phase⟩, ⟨5, .phase⟩], none⟩) rfl (fun K hK => ?_) AllReadyH.nil)
    rw [if_pos (by rfl)]
    refine wp_store_blk _ _ _ rfl ga 93 _ _ rfl rfl hGa rfl (by kernel_rfl) (by simp [Value.oneCell']) ?_
    intro wz hGa2 hgr
    replace hL := hL.grown hgr hGa (by decide) (by decide)
    replace hUU := hUU.grown hgr hGa (by decide) (by decide)
    replace hGb := hGb.grown hgr (by simpa using hne)
    replace hGa := hGa2
    have hfin : Below w2.heap.size w2 wz := hHeld.2.grown hgr hHeld.2.size (by intro k hk; cases hk; exact hgoa)
    refine hK.out _ _ (kp_of hfin) (fun hHeld => ?_)
    clear hK K
    refine wpAnyH_ready (rs := [7]) (by kernel_rfl) (by simp) ?_
    refine (AllReadyH.cons (o := ⟨none, .store 93 (.tmp 7) (.tmp 28), 0, "guess.go:437", #[⟨5, .data⟩, ⟨3, .data⟩, ⟨6, .chain⟩, ⟨0, .phase⟩, ⟨1, .phase⟩, ⟨2, .phase⟩, ⟨3, .phase⟩, ⟨4, .phase⟩, ⟨5, .phase⟩, ⟨6, .phase⟩], none⟩) rfl (fun K hK => ?_) AllReadyH.nil)
    rw [if_pos (by rfl)]
    refine wp_store_blk _ _ _ rfl gb 93 _ _ rfl rfl hGb rfl (by kernel_rfl) (by simp [Value.oneCell']) ?_
    intro wz hGb2 hgr
    replace hL := hL.grown hgr hGb (by decide) (by decide)
    replace hUU := hUU.grown hgr hGb (by decide) (by decide)
    replace hGa := hGa.grown hgr (by simpa using Ne.symm hne)
    replace hGb := hGb2
    have hfin : Below w2.heap.size w2 wz := hHeld.2.grown hgr hHeld.2.size (by intro k hk; cases hk; exact hgob)
    refine hK.out _ _ (kp_of hfin) (fun hHeld => ?_)
    clear hK K
    refine wpAnyH_done (by kernel_rfl) ?_ _
    refine NoPanic.normal ?_
    go_wp2_with fail
    go_meet
    case rel => exact ⟨ga, gb, L, K', lc, kc, rfl, rfl, hGa, hGb, hL, hUU, hHeld.2, hgoa, hgob⟩
  ·rw [if_pos (by rfl)]
   refine wp_alloc_new 93 rfl _ (guessed_zero _) ?_
   intro gb wz hgz hGb hb1 _
   have hgob : w2.heap.size ≤ gb := by have := hHeld.2.size; omega
   (try have hne : gb ≠ ga := by have := hGa.lt; omega)
   (try replace hL := hL.keep hb1)
   (try replace hUU := hUU.keep hb1)
   (try replace hGa := hGa.keep hb1)
   refine hK.out _ _ (kp_step hb1 hHeld) (fun hHeld => ?_)
   clear hK K
   (try simp only [Act.put, List.setIfInBounds_toArray, List.set_cons_zero, List.set_cons_succ])
   refine wpAnyH_ready (rs := [1, 4]) (by kernel_rfl) (by simp) ?_
   refine (AllReadyH.cons (o := ⟨some 26, .call { callee := .value (.func 49), args := #[.tmp 25], argTypes := #[25] }, 93, "guess.go:437", #[⟨0, .data⟩], none⟩) rfl (fun K hK => ?_) (AllReadyH.cons (o := ⟨some 6, .alloc 93, 0, "guess.go:437", #[], none⟩) rfl (fun K hK => ?_) AllReadyH.nil))
   ·rw [if_pos (by rfl)]
    go_simp
    refine (hga _ (hf.keep hHeld.2)).mono ?_
    rintro e' WA ⟨L, lc, rfl, hL0, hbA⟩
    have hL := hL0.mono (Nat.zero_le _)
    clear hL0
    (try replace hGa := hGa.keep hbA)
    (try replace hGb := hGb.keep hbA)
    refine hK.out _ _ (kp_step hbA hHeld) (fun hHeld => ?_)
    clear hK K
    (try simp only [Act.put, List.setIfInBounds_toArray, List.set_cons_zero, List.set_cons_succ])
    refine wpAnyH_ready (rs := [3, 4]) (by kernel_rfl) (by simp) ?_
    refine (AllReadyH.cons (o := ⟨some 28, .call { callee := .value (.func 49), args := #[.tmp 27], argTypes := #[25] }, 93, "guess.go:437", #[⟨2, .data⟩, ⟨1, .chain⟩], none⟩) rfl (fun K hK => ?_) (AllReadyH.cons (o := ⟨some 6, .alloc 93, 0, "guess.go:437", #[], none⟩) rfl (fun K hK => ?_) AllReadyH.nil))
    ·rw [if_pos (by rfl)]
     go_simp
     refine (hgb _ (hg.keep hHeld.2)).mono ?_
     rintro e' WB ⟨K', kc, rfl, hU0, hbB⟩
     have hUU := hU0.mono (Nat.zero_le _)
     clear hU0
     (try replace hL := hL.keep hbB)
     (try replace hGa := hGa.keep hbB)
     (try replace hGb := hGb.keep hbB)
     refine hK.out _ _ (kp_step hbB hHeld) (fun hHeld => ?_)
     clear hK K
     (try simp only [Act.put, List.setIfInBounds_toArray, List.set_cons_zero, List.set_cons_succ])
     refine wpAnyH_ready (rs := [4]) (by kernel_rfl) (by simp) ?_
     refine (AllReadyH.cons (o := ⟨some 6, .alloc 93, 0, "guess.go:437", #[], none⟩) rfl (fun K hK => ?_) AllReadyH.nil)
     rw [if_pos (by rfl)]
     refine wp_alloc_new 93 rfl _ (guessed_zero _) ?_
     intro ga wz hgz hGa hb1 _
     have hgoa : w2.heap.size ≤ ga := by have := hHeld.2.size; omega
     (try have hne : gb ≠ ga := by have := hGb.lt; omega)
     (try replace hL := hL.keep hb1)
     (try replace hUU := hUU.keep hb1)
     (try replace hGb := hGb.keep hb1)
     refine hK.out _ _ (kp_step hb1 hHeld) (fun hHeld => ?_)
     clear hK K
     (try simp only [Act.put, List.setIfInBounds_toArray, List.set_cons_zero, List.set_cons_succ])
     refine wpAnyH_ready (rs := [6]) (by kernel_rfl) (by simp) ?_
     refine (AllReadyH.cons (o := ⟨none, .store 93 (.tmp 6) (.tmp 26), 0, "guess.go:437", #[⟨4, .data⟩, ⟨1, .data⟩, ⟨3, .chain⟩, ⟨0, .phase⟩, ⟨1, .phase⟩, ⟨2, .textOnly .lateStores⟩, ⟨3, .textOnly .lateStoresUnsure⟩, ⟨4, .phase⟩, ⟨5, .phase⟩], none⟩) rfl (fun K hK => ?_) AllReadyH.nil)
     rw [if_pos (by rfl)]
     refine wp_store_blk _ _ _ rfl ga 93 _ _ rfl rfl hGa rfl (by kernel_rfl) (by simp [Value.oneCell']) ?_
     intro wz hGa2 hgr
     replace hL := hL.grown hgr hGa (by decide) (by decide)
     replace hUU := hUU.grown hgr hGa (by decide) (by decide)
     replace hGb := hGb.grown hgr (by simpa using hne)
     replace hGa := hGa2
     have hfin : Below w2.heap.size w2 wz := hHeld.2.grown hgr hHeld.2.size (by intro k hk; cases hk; exact hgoa)
     refine hK.out _ _ (kp_of hfin) (fun hHeld => ?_)
     clear hK K
     refine wpAnyH_ready (rs := [7]) (by kernel_rfl) (by simp) ?_
     refine (AllReadyH.cons (o := ⟨none, .store 93 (.tmp 7) (.tmp 28), 0, "guess.go:437", #[⟨5, .data⟩, ⟨3, .data⟩, ⟨6, .chain⟩, ⟨0, .phase⟩, ⟨1, .phase⟩, ⟨2, .phase⟩, ⟨3, .phase⟩, ⟨4, .phase⟩, ⟨5, .phase⟩, ⟨6, .phase⟩], none⟩) rfl (fun K hK => ?_) AllReadyH.nil)
     rw [if_pos (by rfl)]
     refine wp_store_blk _ _ _ rfl gb 93 _ _ rfl rfl hGb rfl (by kernel_rfl) (by simp [Value.oneCell']) ?_
     intro wz hGb2 hgr
     replace hL := hL.grown hgr hGb (by decide) (by decide)
     replace hUU := hUU.grown hgr hGb (by decide) (by decide)
     replace hGa := hGa.grown hgr (by simpa using Ne.symm hne)
     replace hGb := hGb2
     have hfin : Below w2.heap.size w2 wz := hHeld.2.grown hgr hHeld.2.size (by intro k hk; cases hk; exact hgob)
     refine hK.out _ _ (kp_of hfin) (fun hHeld => ?_)
     clear hK K
     refine wpAnyH_done (by kernel_rfl) ?_ _
     refine NoPanic.normal ?_
     go_wp2_with fail
     go_meet
     case rel => exact ⟨ga, gb, L, K', lc, kc, rfl, rfl, hGa, hGb, hL, hUU, hHeld.2, hgoa, hgob⟩
    ·rw [if_pos (by rfl)]
     refine wp_alloc_new 93 rfl _ (guessed_zero _) ?_
     intro ga wz hgz hGa hb1 _
     have hgoa : w2.heap.size ≤ ga := by have := hHeld.2.size; omega
     (try have hne : gb ≠ ga := by have := hGb.lt; omega)
     (try replace hL := hL.keep hb1)
     (try replace hUU := hUU.keep hb1)
     (try replace hGb := hGb.keep hb1)
     refine hK.out _ _ (kp_step hb1 hHeld) (fun hHeld => ?_)
     clear hK K
     (try simp only [Act.put, List.setIfInBounds_toArray, List.set_cons_zero, List.set_cons_succ])
     refine wpAnyH_ready (rs := [3]) (by kernel_rfl) (by simp) ?_
     refine (AllReadyH.cons (o := ⟨some 28, .call { callee := .value (.func 49), args := #[.tmp 27], argTypes := #[25] }, 93, "guess.go:437", #[⟨2, .data⟩, ⟨1, .chain⟩], none⟩) rfl (fun K hK => ?_) AllReadyH.nil)
     rw [if_pos (by rfl)]
     go_simp
     refine (hgb _ (hg.keep hHeld.2)).mono ?_
     rintro e' WB ⟨K', kc, rfl, hU0, hbB⟩
     have hUU := hU0.mono (Nat.zero_le _)
     clear hU0
     (try replace hL := hL.keep hbB)
     (try replace hGa := hGa.keep hbB)
     (try replace hGb := hGb.keep hbB)
     refine hK.out _ _ (kp_step hbB hHeld) (fun hHeld => ?_)
     clear hK K
     (try simp only [Act.put, List.setIfInBounds_toArray, List.set_cons_zero, List.set_cons_succ])
     refine wpAnyH_ready (rs := [6]) (by kernel_rfl) (by simp) ?_
     refine (AllReadyH.cons (o := ⟨none, .store 93 (.tmp 6) (.tmp 26), 0, "guess.go:437", #[⟨4, .data⟩, ⟨1, .data⟩, ⟨3, .chain⟩, ⟨0, .phase⟩, ⟨1, .phase⟩, ⟨2, .textOnly .lateStores⟩, ⟨3, .textOnly .lateStoresUnsure⟩, ⟨4, .phase⟩, ⟨5, .phase⟩], none⟩) rfl (fun K hK => ?_) AllReadyH.nil)
     rw [if_pos (by rfl)]
     refine wp_store_blk _ _ _ rfl ga 93 _ _ rfl rfl hGa rfl (by kernel_rfl) (by simp [Value.oneCell']) ?_
     intro wz hGa2 hgr
     replace hL := hL.grown hgr hGa (by decide) (by decide)
     replace hUU := hUU.grown hgr hGa (by decide) (by decide)
     replace hGb := hGb.grown hgr (by simpa using hne)
     replace hGa := hGa2
     have hfin : Below w2.heap.size w2 wz := hHeld.2.grown hgr hHeld.2.size (by intro k hk; cases hk; exact hgoa)
     refine hK.out _ _ (kp_of hfin) (fun hHeld => ?_)
     clear hK K
     refine wpAnyH_ready (rs := [7]) (by kernel_rfl) (by simp) ?_
     refine (AllReadyH.cons (o := ⟨none, .store 93 (.tmp 7) (.tmp 28), 0, "guess.go:437", #[⟨5, .data⟩, ⟨3, .data⟩, ⟨6, .chain⟩, ⟨0, .phase⟩, ⟨1, .phase⟩, ⟨2, .phase⟩, ⟨3, .phase⟩, ⟨4, .phase⟩, ⟨5, .phase⟩, ⟨6, .phase⟩], none⟩) rfl (fun K hK => ?_) AllReadyH.nil)
     rw [if_pos (by rfl)]
     refine wp_store_blk _ _ _ rfl gb 93 _ _ rfl rfl hGb rfl (by kernel_rfl) (by simp [Value.oneCell']) ?_
     intro wz hGb2 hgr
     replace hL := hL.grown hgr hGb (by decide) (by decide)
     replace hUU := hUU.grown hgr hGb (by decide) (by decide)
     replace hGa := hGa.grown hgr (by simpa using Ne.symm hne)
     replace hGb := hGb2
     have hfin : Below w2.heap.size w2 wz := hHeld.2.grown hgr hHeld.2.size (by intro k hk; cases hk; exact hgob)
     refine hK.out _ _ (kp_of hfin) (fun hHeld => ?_)
     clear hK K
     refine wpAnyH_done (by kernel_rfl) ?_ _
     refine NoPanic.normal ?_
     go_wp2_with fail
     go_meet
     case rel => exact ⟨ga, gb, L, K', lc, kc, rfl, rfl, hGa, hGb, hL, hUU, hHeld.2, hgoa, hgob⟩
   ·rw [if_pos (by rfl)]
    refine wp_alloc_new 93 rfl _ (guessed_zero _) ?_
    intro ga wz hgz hGa hb1 _
    have hgoa : w2.heap.size ≤ ga := by have := hHeld.2.size; omega
    (try have hne : gb ≠ ga := by have := hGb.lt; omega)
    (try replace hL := hL.keep hb1)
    (try replace hUU := hUU.keep hb1)
    (try replace hGb := hGb.keep hb1)
    refine hK.out _ _ (kp_step hb1 hHeld) (fun hHeld => ?_)
    clear hK K
    (try simp only [Act.put, List.setIfInBounds_toArray, List.set_cons_zero, List.set_cons_succ])
    refine wpAnyH_ready (rs := [1]) (by kernel_rfl) (by simp) ?_
    refine (AllReadyH.cons (o := ⟨some 26, .call { callee := .value (.func 49), args := #[.tmp 25], argTypes := #[25] }, 93, "guess.go:437", #[⟨0, .data⟩], none⟩) rfl (fun K hK => ?_) AllReadyH.nil)
    rw [if_pos (by rfl)]
    go_simp
    refine (hga _ (hf.keep hHeld.2)).mono ?_
    rintro e' WA ⟨L, lc, rfl, hL0, hbA⟩
    have hL := hL0.mono (Nat.zero_le _)
    clear hL0
    (try replace hGa := hGa.keep hbA)
    (try replace hGb := hGb.keep hbA)
    refine hK.out _ _ (kp_step hbA hHeld) (fun hHeld => ?_)
    clear hK K
    (try simp only [Act.put, List.setIfInBounds_toArray, List.set_cons_zero, List.set_cons_succ])
    refine wpAnyH_ready (rs := [3]) (by kernel_rfl) (by simp) ?_
    refine (AllReadyH.cons (o := ⟨some 28, .call { callee := .value (.func 49), args := #[.tmp 27], argTypes := #[25] }, 93, "guess.go:437", #[⟨2, .data⟩, ⟨1, .chain⟩], none⟩) rfl (fun K hK => ?_) AllReadyH.nil)
    rw [if_pos (by rfl)]
    go_simp
    refine (hgb _ (hg.keep hHeld.2)).mono ?_
    rintro e' WB ⟨K', kc, rfl, hU0, hbB⟩
    have hUU := hU0.mono (Nat.zero_le _)
    clear hU0
    (try replace hL := hL.keep hbB)
    (try replace hGa := hGa.keep hbB)
    (try replace hGb := hGb.keep hbB)
    refine hK.out _ _ (kp_step hbB hHeld) (fun hHeld => ?_)
    clear hK K
    (try simp only [Act.put, List.setIfInBounds_toArray, List.set_cons_zero, List.set_cons_succ])
    refine wpAnyH_ready (rs := [6]) (by kernel_rfl) (by simp) ?_
    refine (AllReadyH.cons (o := ⟨none, .store 93 (.tmp 6) (.tmp 26), 0, "guess.go:437", #[⟨4, .data⟩, ⟨1, .data⟩, ⟨3, .chain⟩, ⟨0, .phase⟩, ⟨1, .phase⟩, ⟨2, .textOnly .lateStores⟩, ⟨3, .textOnly .lateStoresUnsure⟩, ⟨4, .phase⟩, ⟨5, .phase⟩], none⟩) rfl (fun K hK => ?_) AllReadyH.nil)
    rw [if_pos (by rfl)]
    refine wp_store_blk _ _ _ rfl ga 93 _ _ rfl rfl hGa rfl (by kernel_rfl) (by simp [Value.oneCell']) ?_
    intro wz hGa2 hgr
    replace hL := hL.grown hgr hGa (by decide) (by decide)
    replace hUU := hUU.grown hgr hGa (by decide) (by decide)
    replace hGb := hGb.grown hgr (by simpa using hne)
    replace hGa := hGa2
    have hfin : Below w2.heap.size w2 wz := hHeld.2.grown hgr hHeld.2.size (by intro k hk; cases hk; exact hgoa)
    refine hK.out _ _ (kp_of hfin) (fun hHeld => ?_)
    clear hK K
    refine wpAnyH_ready (rs := [7]) (by kernel_rfl) (by simp) ?_
    refine (AllReadyH.cons (o := ⟨none, .store 93 (.tmp 7) (.tmp 28), 0, "guess.go:437", #[⟨5, .data⟩, ⟨3, .data⟩, ⟨6, .chain⟩, ⟨0, .phase⟩, ⟨1, .phase⟩, ⟨2, .phase⟩, ⟨3, .phase⟩, ⟨4, .phase⟩, ⟨5, .phase⟩, ⟨6, .phase⟩], none⟩) rfl (fun K hK => ?_) AllReadyH.nil)
    rw [if_pos (by rfl)]
    refine wp_store_blk _ _ _ rfl gb 93 _ _ rfl rfl hGb rfl (by kernel_rfl) (by simp [Value.oneCell']) ?_
    intro wz hGb2 hgr
    replace hL := hL.grown hgr hGb (by decide) (by decide)
    replace hUU := hUU.grown hgr hGb (by decide) (by decide)
    replace hGa := hGa.grown hgr (by simpa using Ne.symm hne)
    replace hGb := hGb2
    have hfin : Below w2.heap.size w2 wz := hHeld.2.grown hgr hHeld.2.size (by intro k hk; cases hk; exact hgob)
    refine hK.out _ _ (kp_of hfin) (fun hHeld => ?_)
    clear hK K
    refine wpAnyH_done (by kernel_rfl) ?_ _
    refine NoPanic.normal ?_
    go_wp2_with fail
    go_meet
    case rel => exact ⟨ga, gb, L, K', lc, kc, rfl, rfl, hGa, hGb, hL, hUU, hHeld.2, hgoa, hgob⟩
 case rest =>
  obtain ⟨ga, gb, L, K', lc, kc, rfl, rfl, hTG⟩ := hcut
  clear hcF hcG hlF hlG
  have hbw := fr_call hb0 hTG.bel
  have hR3 := hR.keep hTG.bel
  have hcA := fun j => hTG.a.cell j
  have hcB := fun j => hTG.b.cell j
  have hsw2 := hb0.size
  have hR2lt := hR.lt
  clear hga hgb hf hg hv hu hF hG hR hb0
  obtain ⟨nt, hnt⟩ : ∃ nt, ts.length = nt := ⟨_, rfl⟩
  obtain ⟨nu, hnu⟩ : ∃ nu, us.length = nu := ⟨_, rfl⟩
  rw [hnt] at hcA
  rw [hnu] at hcB
  have HNT := Lib.hid hnt
  have HNU := Lib.hid hnu
  have fin7 : ∀ W, Below w.heap.size w W → (ts = [] ∨ us = []) → AlikePost w ts us (.returned (.tuple #[.agg #[.int .i64 0, .int .i64 0], .int .i64 7])) W := fun W hb h => by
   unfold AlikePost
   rw [if_pos h]
   exact ⟨rfl, hb⟩
  by_cases ht : ts = []
  ·have hz : ((nt : Int) == 0) = true := by rw [← hnt, ht]; rfl
   have FIN := fun W hb => fin7 W hb (Or.inl ht)
   clear ht hnt hnu fin7
   go_wp2_with (refine wpList_store_blk rfl _ _ _ rfl (w.heap.size + 1 + 1) 47 _ _ rfl rfl hR3 rfl (by kernel_rfl) (by simp [Value.oneCell']) ?_; intro W5 hR5 hg5)
   refine bodyPost_ret (results_blk_tmp rfl _ _ _ _ rfl hR5 Tryz.underlying47 rfl (by kernel_rfl)) rfl ?_
   exact FIN _ (hbw.grown hg5 hbw.size (by intro k hk; cases hk; omega))
  ·have hz : ((nt : Int) == 0) = false := by
    rw [beq_eq_false_iff_ne]
    intro e
    exact ht (List.eq_nil_of_length_eq_zero (by omega))
   by_cases hu0 : us = []
   ·have hzu : ((nu : Int) == 0) = true := by rw [← hnu, hu0]; rfl
    have FIN := fun W hb => fin7 W hb (Or.inr hu0)
    clear ht hu0 hnt hnu fin7
    go_wp2_with (refine wpList_store_blk rfl _ _ _ rfl (w.heap.size + 1 + 1) 47 _ _ rfl rfl hR3 rfl (by kernel_rfl) (by simp [Value.oneCell']) ?_; intro W5 hR5 hg5)
    refine bodyPost_ret (results_blk_tmp rfl _ _ _ _ rfl hR5 Tryz.underlying47 rfl (by kernel_rfl)) rfl ?_
    exact FIN _ (hbw.grown hg5 hbw.size (by intro k hk; cases hk; omega))
   ·have hzu : ((nu : Int) == 0) = false := by
     rw [beq_eq_false_iff_ne]
     intro e
     exact hu0 (List.eq_nil_of_length_eq_zero (by omega))
    have hnot : ¬ (ts = [] ∨ us = []) := fun h => by
     rcases h with h | h
     ·exact ht h
     ·exact hu0 h
    have hpt : 0 < nt := by rw [← hnt]; exact List.length_pos_iff.2 ht
    have hpu : 0 < nu := by rw [← hnu]; exact List.length_pos_iff.2 hu0
    clear ht hu0 fin7
    obtain ⟨w3, hw3⟩ : ∃ w3, w3 = wc := ⟨_, rfl⟩
    subst hw3
    have hbE := fr_alloc (fr_refl w3) (.cells #[.int .i64 0] 31)
    have hE := Blk.new w3 31 #[.int .i64 0]
    have h1 := Alike1_any A N C M L K' _ _ _ _ _ _ _ _ lc kc ga gb ts us _ (hTG.a.keep hbE) (hTG.b.keep hbE) (hTG.l.ts.keep hbE) (hTG.k.ts.keep hbE) hl6 hk6
    by_cases hl : 200 < ts.length ∨ 200 < us.length
    ·have htry : Calls Tryz.prog 47 #[.func (.func 92) #[] #[.pointer (some ⟨ga, 0, none⟩), .pointer (some ⟨gb, 0, none⟩)]] w3 fun e w'' => e = .returned (.int .i64 3) ∧ Below w3.heap.size w3 w'' := by
      refine (try_crowd_Alike #[.pointer (some ⟨ga, 0, none⟩), .pointer (some ⟨gb, 0, none⟩)] (fun w' => Below (w3.heap.size + 1) (w3.alloc (.cells #[.int .i64 0] 31)) w') w3 (crowdN ts.length us.length) ?_).mono ?_
      ·refine h1.mono ?_
       rintro e w' (⟨_, rfl, hb⟩ | ⟨h3, _⟩)
       ·rw [World.size_alloc] at hb
        refine ⟨rfl, hb, ?_, ?_⟩
        ·exact (hb.cell (p := ⟨w3.heap.size, 0, none⟩) (Nat.lt_succ_self _)).trans (hE.cell 0)
        ·exact (hb.frozen (p := ⟨w3.heap.size, 0, none⟩) (Nat.lt_succ_self _)).trans (hE.frozen 0)
       ·omega
      ·rintro e w'' ⟨rfl, w', hb, rfl⟩
       refine ⟨rfl, Below.setCell (p := ⟨w3.heap.size, 0, none⟩) ?_ (Nat.le_refl _) _⟩
       exact fr_alloc (hbE.trans (hb.mono (Nat.le_succ _))) _
     have HL := Lib.hid hl
     have HNOT := Lib.hid hnot
     clear hl hnot h1 hnt hnu
     go_wp2_with fail
     refine htry.mono ?_
     rintro e w4 ⟨rfl, hb4⟩
     replace hR3 := hR3.keep hb4
     have hbw4 := fr_call hbw hb4
     clear hcA hcB
     go_wp2_with (refine wpList_store_blk rfl _ _ _ rfl (w.heap.size + 1 + 1) 47 _ _ rfl rfl hR3 rfl (by kernel_rfl) (by simp [Value.oneCell']) ?_; intro W5 hR5 hg5)
     refine bodyPost_ret (results_blk_tmp rfl _ _ _ _ rfl hR5 Tryz.underlying47 rfl (by kernel_rfl)) rfl ?_
     unfold AlikePost
     rw [if_neg HNOT.out, if_pos HL.out]
     exact ⟨rfl, hbw4.grown hg5 hbw4.size (by intro k hk; cases hk; omega)⟩
    ·have htry : Calls Tryz.prog 47 #[.func (.func 92) #[] #[.pointer (some ⟨ga, 0, none⟩), .pointer (some ⟨gb, 0, none⟩)]] w3 fun e w'' => e = .returned (.int .i64 0) ∧ Below w3.heap.size w3 w'' := by
      refine (try_ok_Alike #[.pointer (some ⟨ga, 0, none⟩), .pointer (some ⟨gb, 0, none⟩)] (fun w' => Below (w3.heap.size + 1) (w3.alloc (.cells #[.int .i64 0] 31)) w') w3 ?_).mono ?_
      ·refine h1.mono ?_
       rintro e w' (⟨h3, _⟩ | ⟨_, rfl, hb⟩)
       ·exact absurd h3 hl
       ·rw [World.size_alloc] at hb
        refine ⟨rfl, hb, ?_, ?_⟩
        ·exact (hb.cell (p := ⟨w3.heap.size, 0, none⟩) (Nat.lt_succ_self _)).trans (hE.cell 0)
        ·exact (hb.frozen (p := ⟨w3.heap.size, 0, none⟩) (Nat.lt_succ_self _)).trans (hE.frozen 0)
      ·rintro e w'' ⟨rfl, w', hb, rfl⟩
       refine ⟨rfl, Below.setCell (p := ⟨w3.heap.size, 0, none⟩) ?_ (Nat.le_refl _) _⟩
       exact hbE.trans (hb.mono (Nat.le_succ _))
     have HL := Lib.hid hl
     have HNOT := Lib.hid hnot
     clear hl hnot h1 hnt hnu
     go_wp2_with fail
     refine htry.mono ?_
     rintro e w4 ⟨rfl, hb4⟩
     replace hR3 := hR3.keep hb4
     have hbw4 := fr_call hbw hb4
     have hA4 := hTG.a.keep hb4
     have hB4 := hTG.b.keep hb4
     have hL4 := hTG.l.ts.keep hb4
     have hU4 := hTG.k.ts.keep hb4
     have hge := hTG.ge
     clear hcA hcB hbw hTG hbE hE htry
     rw [HNT.out] at hA4
     rw [HNU.out] at hB4
     have hcA := hA4.cell 2
     have hcB := hB4.cell 2
     have hpT : 0 < ts.length := by rw [HNT.out]; exact hpt
     have hpU : 0 < us.length := by rw [HNU.out]; exact hpu
     obtain ⟨ad, X, xc, rfl, hab, hcx, hrx⟩ := hL4.at_ hpT
     obtain ⟨ae, Y, yc, rfl, hae, hcy, hry⟩ := hU4.at_ hpU
     have hlx := hll _ (List.getElem_mem hpT)
     have hly := hkl _ (List.getElem_mem hpU)
     rw [hlx] at hcx hrx
     rw [hly] at hcy hry
     rw [show ad.add 0 = ad from rfl] at hcx
     rw [show ae.add 0 = ae from rfl] at hcy
     have hco := common_any X Y ws.length xc vs.length yc ts[0] us[0] (World.drew w4) hrx hry hs1 (by omega) hs2
     have hc00 : comAt ts us 0 0 = (comL ts[0] us[0] : Nat) := by unfold comAt; rw [List.getElem?_eq_getElem hpT, List.getElem?_eq_getElem hpU]; rfl
     have HC := Lib.hid hc00
     have q1 : (0 : Int) < (nt : Int) := by omega
     have q2 : (0 : Int) < (nu : Int) := by omega
     clear hlx hly hrx hry hc00
     generalize hcom : (comL ts[0] us[0] : Int) = cn at *
     go_wp2_with fail
     go_still_tail 8, (by kernel_rfl)
     change wpList _ _ _ _ _ (World.drew w4)
     go_wp2_with fail
     refine hco.mono ?_
     rintro e w5 ⟨rfl, hb5d⟩
     have hb5 : Below w4.heap.size w4 w5 := ⟨hb5d.os, hb5d.tape, hb5d.output, hb5d.size, hb5d.block⟩
     have hbS := fr_alloc (fr_refl w5) (.cells #[.int .i64 cn, .int .i64 cn] 47)
     have hS0 := Blk.new w5 47 #[.int .i64 cn, .int .i64 cn]
     have hRne : w.heap.size + 1 + 1 < w5.heap.size := Nat.lt_of_lt_of_le hR3.lt hb5.size
     replace hA4 := hA4.keep hb5
     replace hB4 := hB4.keep hb5
     replace hL4 := hL4.keep hb5
     replace hU4 := hU4.keep hb5
     replace hR3 := hR3.keep hb5
     have hbw6 := fr_call hbw4 hb5
     clear hcx hcy hcA hcB hco hb5d hb4 hab hae hb5 hbw4
     have hcA := (hA4.keep hbS).cell 2
     go_wp2_with fail
     have hr0 : rowI ts us 0 = (cn, cn) := by unfold rowI; rw [HC.out]
     have HR0 := Lib.hid hr0
     generalize w5.alloc (.cells #[.int .i64 cn, .int .i64 cn] 47) = w6 at *
     have hgs6 := hS0.lt
     clear hr0 hcA
     go_loopw [61] (fun i wr => ∃ k : Nat, k ≤ nt ∧ i = .int .i64 k ∧ Blk wr w5.heap.size 47 #[.int .i64 (rowI ts us k).1, .int .i64 (rowI ts us k).2] ∧ Below w5.heap.size w5 wr) (fun i _ => nt - (intOf i).toNat)
     case atStart => exact ⟨0, Nat.zero_le _, rfl, by rw [HR0.out]; exact hS0, hbS⟩
     case round =>
      obtain ⟨k, hk, rfl, hSr, hbr⟩ := hrel
      obtain ⟨w7, hw7⟩ : ∃ w7, w7 = wr := ⟨_, rfl⟩
      subst hw7
      clear hS0 hbS hgs6
      by_cases hlt : k < nt
      ·have hkt : k < ts.length := by rw [HNT.out]; exact hlt
       obtain ⟨ad', X1, xc1, e, hab, hcx5, hrx⟩ := hL4.at_ hkt
       cases e
       have hcx := (hbr.cell (p := ad.add k) (by rw [block_of_add]; exact hab)).trans hcx5
       clear hcx5
       have hlx := hll _ (List.getElem_mem hkt)
       have hgk : ts[k]?.getD [] = ts[k] := by rw [List.getElem?_eq_getElem hkt]; rfl
       have HGK := Lib.hid hgk
       rw [hlx] at hcx hrx
       have hcB := (hB4.keep hbr).cell 2
       have hsr := hSr.lt
       have HLX := Lib.hid hlx
       clear hlx hgk
       generalize ts[k] = x at *
       go_wp2_with fail
       go_loopw [68] (fun i wq => ∃ j : Nat, j ≤ nu ∧ i = .int .i64 j ∧ Blk wq w5.heap.size 47 #[.int .i64 (rowJ ts us k (rowI ts us k) j).1, .int .i64 (rowJ ts us k (rowI ts us k) j).2] ∧ Below w5.heap.size w5 wq) (fun i _ => nu - (intOf i).toNat)
       case atStart => exact ⟨0, Nat.zero_le _, rfl, hSr, hbr⟩
       case round =>
        obtain ⟨j, hj, rfl, hSq, hbq⟩ := hrel
        by_cases hjl : j < nu
        ·have hjt : j < us.length := by rw [HNU.out]; exact hjl
         obtain ⟨ae', Y1, yc1, e, hae, hcy, hry⟩ := (hU4.keep hbq).at_ hjt
         cases e
         have hly := hkl _ (List.getElem_mem hjt)
         rw [hly] at hcy hry
         have hco := common_any X1 Y1 ws.length xc1 vs.length yc1 x us[j] _ (hrx.keep hbq) hry hs1 (by omega) hs2
         have hst : rowJ ts us k (rowI ts us k) (j + 1) = mm (rowJ ts us k (rowI ts us k) j) (comL x us[j] : Nat) := by
          rw [rowJ]
          unfold comAt
          rw [HGK.out, List.getElem?_eq_getElem hjt]
          rfl
         have HST := Lib.hid hst
         clear hst hly hry hcB hcx
         generalize (comL x us[j] : Int) = cm at *
         generalize rowJ ts us k (rowI ts us k) j = sj at *
         obtain ⟨p, q⟩ := sj
         go_wp2_with fail
         refine hco.mono ?_
         rintro e w8 ⟨rfl, hb8⟩
         replace hSq := hSq.keep hb8
         have hbq8 : Below w5.heap.size w5 w8 := fr_call hbq hb8
         have hcS := fun i => hSq.cell i
         clear hcy hco
         go_wp2_with (refine wpList_store_blk rfl _ _ _ rfl w5.heap.size 47 _ _ rfl rfl hSq rfl (by kernel_rfl) (by simp [Value.oneCell']) ?_; intro W9 hS9 hg9)
         refine ⟨⟨j + 1, hjl, rfl, ?_, hbq8.grown hg9 hbq8.size (by intro i hi; cases hi; exact Nat.le_refl _)⟩, ?_⟩
         ·have e1 : min p cm = if cm < p then cm else p := by split <;> omega
          have e2 : max q cm = if q < cm then cm else q := by split <;> omega
          rw [HST.out]
          unfold mm
          rw [e1, e2]
          exact hS9
         ·simp [intOf]; omega
        ·obtain rfl : j = nu := by omega
         go_wp2_with fail
         refine ⟨⟨k + 1, hlt, rfl, ?_, hbq⟩, ?_⟩
         ·have e : rowI ts us (k + 1) = rowJ ts us k (rowI ts us k) j := by rw [rowI, HNU.out]
          rw [e]; exact hSq
         ·simp [intOf]; omega
      ·obtain rfl : k = nt := by omega
       have hR7 := hR3.keep hbr
       have hb7 := fr_call hbw6 hbr
       have hal : rowI ts us k = alikeL ts us := by unfold alikeL; rw [HNT.out]
       rw [hal] at hSr
       have hcS := fun j => hSr.cell j
       generalize hq : alikeL ts us = q at *
       have HQ := Lib.hid hq
       obtain ⟨q1, q2⟩ := q
       clear hal hq
       go_wp2_with (refine wpList_store_blk rfl _ _ _ rfl (w.heap.size + 1 + 1) 47 _ _ rfl rfl hR7 rfl (by kernel_rfl) (by simp [Value.oneCell']) ?_; intro W5 hR5 hg5)
       refine bodyPost_ret (results_blk_tmp rfl _ _ _ _ rfl hR5 Tryz.underlying47 rfl (by kernel_rfl)) rfl ?_
       unfold AlikePost
       rw [if_neg HNOT.out, if_neg HL.out, HQ.out]
       exact ⟨rfl, hb7.grown hg5 hb7.size (by intro k hk; cases hk; omega)⟩
end Go.Proofs.YtfgghicdkcjdgaaGreatDoor
