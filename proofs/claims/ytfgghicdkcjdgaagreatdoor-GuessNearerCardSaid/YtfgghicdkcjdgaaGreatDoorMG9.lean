/- Walk: guess, Nearest (by gen_near.py). -/
import Derived.Test.YtfgghicdkcjdgaaGreatDoorMG8
namespace Go.Proofs.YtfgghicdkcjdgaaGreatDoor
open Go.RowKit Go.Shelf
attribute [local go_sem] Oper.semAt_some

/-- the nearest of the trains -/
def nearL (f : Int × Int) (ts : List (List Int)) : List Wh := (bestL (ltN f) (ts.map pairsOf)).getD []
/-- a train and an error -/
def RetPE (w : World) (k : Int) (ps : List Wh) (e : Ending) (w' : World) : Prop := ∃ A c, e = .returned (.tuple #[.slice A ps.length c, .int .i64 k]) ∧ RdS w' A 2 (ps.map Wh.cells) ∧ Below w.heap.size w w'
theorem OkT.pairs {ts : List (List Int)} (h : OkT ts) : ∀ x ∈ ts.map pairsOf, OkPs x := fun x hx => by
 obtain ⟨t, ht, rfl⟩ := List.mem_map.1 hx
 have h1 := h t ht
 exact ⟨by rw [pairs_len]; omega, pairs_teeth h1.2⟩
set_option maxRecDepth 100000 in
set_option maxHeartbeats 8000000 in
theorem Nearest_none (A N : Option Addr) (wc nc : Nat) (ws : List Wh) (ns : List Note) (f : Int × Int) (w : World) (hf : FindAt w A N ws ns) (hv : FindOk ws ns) (hfr : fracB f.1 f.2 = true) (h0 : guessL ws ns = []) :
  Calls Tryz.prog 20 #[.agg #[.slice A ws.length wc, .slice N ns.length nc], .agg #[.int .i64 f.1, .int .i64 f.2]] w (RetPE w 7 []) := by
 have hmf : ∀ (fn : Fn) (first cap : Array Value) (w : World), (Instr.makeFunc fn first cap).run Tryz.prog w = .ok (.func fn first cap) w := fun _ _ _ _ => rfl
 have hb0 := fr_alloc (fr_alloc (fr_refl w) (.cells #[.slice A ws.length wc, .slice N ns.length nc] 25)) (.cells #[.int .i64 f.1, .int .i64 f.2] 40)
 have hX := (Blk.new w 25 #[.slice A ws.length wc, .slice N ns.length nc]).alloc (.cells #[.int .i64 f.1, .int .i64 f.2] 40)
 have hF : Blk ((w.alloc (.cells #[.slice A ws.length wc, .slice N ns.length nc] 25)).alloc (.cells #[.int .i64 f.1, .int .i64 f.2] 40)) (w.heap.size + 1) 40 #[.int .i64 f.1, .int .i64 f.2] := Blk.new_at _ _ (by simp)
 replace hf := hf.keep hb0
 go_enter Tryz.func20, Tryz.ntmps20
 go_upto_region 1 with (fail)
 generalize (w.alloc (.cells #[.slice A ws.length wc, .slice N ns.length nc] 25)).alloc (.cells #[.int .i64 f.1, .int .i64 f.2] 40) = w0 at *
 have hcX := fun j => hX.cell j
 have hcF := fun j => hF.cell j
 have hlX := hX.lt
 have hlF := hF.lt
 refine wp_region_noPanic ?_
 refine wp_region_held_drew (S := fun W => (∀ p : Addr, p.block < (w0).heap.size → W.cell? p = (w0).cell? p) ∧ Below (w0).heap.size (w0) W) (by kernel_rfl) ⟨fun _ _ => rfl, fr_drew (fr_refl _)⟩ (fun hHeld => ?_)
 generalize w0.drew = wd at hHeld ⊢
 -- the region, step by step, in whatever order
 refine wpAnyH_take (i := 0) (oi := ⟨some 10, .load 25 (.tmp 2), 25, "guess.go:377", #[], none⟩) (v := ?_) rfl (by kernel_rfl) (by kernel_rfl) (by kernel_rfl) (fun _ _ _ h => h) (Or.inl ⟨by rfl, fun W hSw => ?_⟩) hHeld ?_
 rotate_left
 ·(try dsimp only at hSw); go_simp; (try with_reducible rfl)
 (try simp only [Act.put, List.setIfInBounds_toArray, List.set_cons_zero, List.set_cons_succ])
 refine wpAnyH_take (i := 1) (oi := ⟨some 11, .load 40 (.tmp 3), 40, "guess.go:377", #[], none⟩) (v := ?_) rfl (by kernel_rfl) (by kernel_rfl) (by kernel_rfl) (fun _ _ _ h => h) (Or.inl ⟨by rfl, fun W hSw => ?_⟩) hHeld ?_
 rotate_left
 ·(try dsimp only at hSw); go_simp; (try with_reducible rfl)
 (try simp only [Act.put, List.setIfInBounds_toArray, List.set_cons_zero, List.set_cons_succ])
 refine wpAnyH_ready (rs := [2, 7]) (by kernel_rfl) (by simp) ?_
 refine (AllReadyH.cons (o := ⟨some 12, .call { callee := .value (.func 61), args := #[.tmp 11], argTypes := #[40] }, 4, "guess.go:377", #[⟨1, .data⟩], none⟩) rfl (fun K hK => ?_) (AllReadyH.cons (o := ⟨some 6, .alloc 93, 0, "guess.go:377", #[], none⟩) rfl (fun K hK => ?_) AllReadyH.nil))
 ·rw [if_pos (by rfl)]
  go_simp
  refine (isFraction_is f.1 f.2 _ true hfr).mono ?_
  rintro e' WA ⟨rfl, hbA⟩
  (try replace hG := hG.keep hbA)
  refine hK.out _ _ (kp_step hbA hHeld) (fun hHeld => ?_)
  clear hK K
  (try simp only [Act.put, List.setIfInBounds_toArray, List.set_cons_zero, List.set_cons_succ])
  refine wpAnyH_ready (rs := [3, 7]) (by kernel_rfl) (by simp) ?_
  refine (AllReadyH.cons (o := ⟨some 13, .call { callee := .value (.func 53), args := #[.tmp 10, .tmp 12], argTypes := #[25, 4] }, 101, "guess.go:377", #[⟨0, .data⟩, ⟨2, .data⟩, ⟨2, .chain⟩], none⟩) rfl (fun K hK => ?_) (AllReadyH.cons (o := ⟨some 6, .alloc 93, 0, "guess.go:377", #[], none⟩) rfl (fun K hK => ?_) AllReadyH.nil))
  ·rw [if_pos (by rfl)]
   go_simp
   refine (asked_nil A N wc nc ws ns _ (hf.keep hHeld.2) hv h0).mono ?_
   rintro e' WB ⟨rfl, hbB⟩
   (try replace hG := hG.keep hbB)
   refine hK.out _ _ (kp_step hbB hHeld) (fun hHeld => ?_)
   clear hK K
   (try simp only [Act.put, List.setIfInBounds_toArray, List.set_cons_zero, List.set_cons_succ])
   refine wpAnyH_take (i := 4) (oi := ⟨some 9, .move (.tmp 13), 101, "guess.go:377", #[⟨3, .data⟩], none⟩) (v := ?_) rfl (by kernel_rfl) (by kernel_rfl) (by kernel_rfl) (fun _ _ _ h => h) (Or.inl ⟨by rfl, fun W hSw => ?_⟩) hHeld ?_
   rotate_left
   ·(try dsimp only at hSw); go_simp; (try with_reducible rfl)
   (try simp only [Act.put, List.setIfInBounds_toArray, List.set_cons_zero, List.set_cons_succ])
   refine wpAnyH_take (i := 5) (oi := ⟨some 14, .extract (.tmp 9) 0, 93, "guess.go:377", #[⟨4, .data⟩], none⟩) (v := ?_) rfl (by kernel_rfl) (by kernel_rfl) (by kernel_rfl) (fun _ _ _ h => h) (Or.inl ⟨by rfl, fun W hSw => ?_⟩) hHeld ?_
   rotate_left
   ·(try dsimp only at hSw); go_simp; (try with_reducible rfl)
   (try simp only [Act.put, List.setIfInBounds_toArray, List.set_cons_zero, List.set_cons_succ])
   refine wpAnyH_take (i := 6) (oi := ⟨some 15, .extract (.tmp 9) 1, 31, "guess.go:377", #[⟨4, .data⟩, ⟨8, .gcOnly .lateStores⟩], none⟩) (v := ?_) rfl (by kernel_rfl) (by kernel_rfl) (by kernel_rfl) (fun _ _ _ h => h) (Or.inl ⟨by rfl, fun W hSw => ?_⟩) hHeld ?_
   rotate_left
   ·(try dsimp only at hSw); go_simp; (try with_reducible rfl)
   (try simp only [Act.put, List.setIfInBounds_toArray, List.set_cons_zero, List.set_cons_succ])
   refine wpAnyH_ready (rs := [7]) (by kernel_rfl) (by simp) ?_
   refine (AllReadyH.cons (o := ⟨some 6, .alloc 93, 0, "guess.go:377", #[], none⟩) rfl (fun K hK => ?_) AllReadyH.nil)
   rw [if_pos (by rfl)]
   refine wp_alloc_new 93 rfl _ (guessed_zero _) ?_
   intro g wz hgz hG hb1 _
   have hgo : w0.heap.size ≤ g := by have := hHeld.2.size; omega
   refine hK.out _ _ (kp_step hb1 hHeld) (fun hHeld => ?_)
   clear hK K
   (try simp only [Act.put, List.setIfInBounds_toArray, List.set_cons_zero, List.set_cons_succ])
   refine wpAnyH_ready (rs := [8]) (by kernel_rfl) (by simp) ?_
   refine (AllReadyH.cons (o := ⟨none, .store 93 (.tmp 6) (.tmp 14), 0, "guess.go:377", #[⟨7, .data⟩, ⟨5, .data⟩, ⟨3, .chain⟩, ⟨0, .phase⟩, ⟨1, .phase⟩, ⟨2, .phase⟩, ⟨3, .phase⟩, ⟨4, .phase⟩, ⟨5, .phase⟩, ⟨6, .textOnly .lateStores⟩, ⟨7, .phase⟩], none⟩) rfl (fun K hK => ?_) AllReadyH.nil)
   rw [if_pos (by rfl)]
   refine wp_store_blk _ _ _ rfl g 93 _ _ rfl rfl hG rfl (by kernel_rfl) (by simp [Value.oneCell']) ?_
   intro wz hG2 hgr
   have hfin : Below w0.heap.size w0 wz := hHeld.2.grown hgr hHeld.2.size (by intro k hk; cases hk; exact hgo)
   refine hK.out _ _ (kp_of hfin) (fun hHeld => ?_)
   clear hK K
   refine wpAnyH_take (i := 9) (oi := ⟨some 7, .assign (.tmp 15), 31, "guess.go:377", #[⟨6, .data⟩, ⟨8, .chain⟩, ⟨0, .phase⟩, ⟨1, .phase⟩, ⟨2, .phase⟩, ⟨3, .phase⟩, ⟨4, .phase⟩, ⟨5, .phase⟩, ⟨6, .phase⟩, ⟨7, .phase⟩, ⟨8, .phase⟩], none⟩) (v := ?_) rfl (by kernel_rfl) (by kernel_rfl) (by kernel_rfl) (fun _ _ _ h => h) (Or.inl ⟨by rfl, fun W hSw => ?_⟩) hHeld ?_
   rotate_left
   ·(try dsimp only at hSw); go_simp; (try with_reducible rfl)
   (try simp only [Act.put, List.setIfInBounds_toArray, List.set_cons_zero, List.set_cons_succ])
   refine wpAnyH_done (by kernel_rfl) ?_ _
   refine NoPanic.normal ?_
   go_wp2_with fail
   go_ret2
   exact ⟨none, 0, rfl, fun hn => absurd hn (by simp), fr_call hb0 hHeld.2⟩
  ·rw [if_pos (by rfl)]
   refine wp_alloc_new 93 rfl _ (guessed_zero _) ?_
   intro g wz hgz hG hb1 _
   have hgo : w0.heap.size ≤ g := by have := hHeld.2.size; omega
   refine hK.out _ _ (kp_step hb1 hHeld) (fun hHeld => ?_)
   clear hK K
   (try simp only [Act.put, List.setIfInBounds_toArray, List.set_cons_zero, List.set_cons_succ])
   refine wpAnyH_ready (rs := [3]) (by kernel_rfl) (by simp) ?_
   refine (AllReadyH.cons (o := ⟨some 13, .call { callee := .value (.func 53), args := #[.tmp 10, .tmp 12], argTypes := #[25, 4] }, 101, "guess.go:377", #[⟨0, .data⟩, ⟨2, .data⟩, ⟨2, .chain⟩], none⟩) rfl (fun K hK => ?_) AllReadyH.nil)
   rw [if_pos (by rfl)]
   go_simp
   refine (asked_nil A N wc nc ws ns _ (hf.keep hHeld.2) hv h0).mono ?_
   rintro e' WB ⟨rfl, hbB⟩
   (try replace hG := hG.keep hbB)
   refine hK.out _ _ (kp_step hbB hHeld) (fun hHeld => ?_)
   clear hK K
   (try simp only [Act.put, List.setIfInBounds_toArray, List.set_cons_zero, List.set_cons_succ])
   refine wpAnyH_take (i := 4) (oi := ⟨some 9, .move (.tmp 13), 101, "guess.go:377", #[⟨3, .data⟩], none⟩) (v := ?_) rfl (by kernel_rfl) (by kernel_rfl) (by kernel_rfl) (fun _ _ _ h => h) (Or.inl ⟨by rfl, fun W hSw => ?_⟩) hHeld ?_
   rotate_left
   ·(try dsimp only at hSw); go_simp; (try with_reducible rfl)
   (try simp only [Act.put, List.setIfInBounds_toArray, List.set_cons_zero, List.set_cons_succ])
   refine wpAnyH_take (i := 5) (oi := ⟨some 14, .extract (.tmp 9) 0, 93, "guess.go:377", #[⟨4, .data⟩], none⟩) (v := ?_) rfl (by kernel_rfl) (by kernel_rfl) (by kernel_rfl) (fun _ _ _ h => h) (Or.inl ⟨by rfl, fun W hSw => ?_⟩) hHeld ?_
   rotate_left
   ·(try dsimp only at hSw); go_simp; (try with_reducible rfl)
   (try simp only [Act.put, List.setIfInBounds_toArray, List.set_cons_zero, List.set_cons_succ])
   refine wpAnyH_take (i := 6) (oi := ⟨some 15, .extract (.tmp 9) 1, 31, "guess.go:377", #[⟨4, .data⟩, ⟨8, .gcOnly .lateStores⟩], none⟩) (v := ?_) rfl (by kernel_rfl) (by kernel_rfl) (by kernel_rfl) (fun _ _ _ h => h) (Or.inl ⟨by rfl, fun W hSw => ?_⟩) hHeld ?_
   rotate_left
   ·(try dsimp only at hSw); go_simp; (try with_reducible rfl)
   (try simp only [Act.put, List.setIfInBounds_toArray, List.set_cons_zero, List.set_cons_succ])
   refine wpAnyH_ready (rs := [8]) (by kernel_rfl) (by simp) ?_
   refine (AllReadyH.cons (o := ⟨none, .store 93 (.tmp 6) (.tmp 14), 0, "guess.go:377", #[⟨7, .data⟩, ⟨5, .data⟩, ⟨3, .chain⟩, ⟨0, .phase⟩, ⟨1, .phase⟩, ⟨2, .phase⟩, ⟨3, .phase⟩, ⟨4, .phase⟩, ⟨5, .phase⟩, ⟨6, .textOnly .lateStores⟩, ⟨7, .phase⟩], none⟩) rfl (fun K hK => ?_) AllReadyH.nil)
   rw [if_pos (by rfl)]
   refine wp_store_blk _ _ _ rfl g 93 _ _ rfl rfl hG rfl (by kernel_rfl) (by simp [Value.oneCell']) ?_
   intro wz hG2 hgr
   have hfin : Below w0.heap.size w0 wz := hHeld.2.grown hgr hHeld.2.size (by intro k hk; cases hk; exact hgo)
   refine hK.out _ _ (kp_of hfin) (fun hHeld => ?_)
   clear hK K
   refine wpAnyH_take (i := 9) (oi := ⟨some 7, .assign (.tmp 15), 31, "guess.go:377", #[⟨6, .data⟩, ⟨8, .chain⟩, ⟨0, .phase⟩, ⟨1, .phase⟩, ⟨2, .phase⟩, ⟨3, .phase⟩, ⟨4, .phase⟩, ⟨5, .phase⟩, ⟨6, .phase⟩, ⟨7, .phase⟩, ⟨8, .phase⟩], none⟩) (v := ?_) rfl (by kernel_rfl) (by kernel_rfl) (by kernel_rfl) (fun _ _ _ h => h) (Or.inl ⟨by rfl, fun W hSw => ?_⟩) hHeld ?_
   rotate_left
   ·(try dsimp only at hSw); go_simp; (try with_reducible rfl)
   (try simp only [Act.put, List.setIfInBounds_toArray, List.set_cons_zero, List.set_cons_succ])
   refine wpAnyH_done (by kernel_rfl) ?_ _
   refine NoPanic.normal ?_
   go_wp2_with fail
   go_ret2
   exact ⟨none, 0, rfl, fun hn => absurd hn (by simp), fr_call hb0 hHeld.2⟩
 ·rw [if_pos (by rfl)]
  refine wp_alloc_new 93 rfl _ (guessed_zero _) ?_
  intro g wz hgz hG hb1 _
  have hgo : w0.heap.size ≤ g := by have := hHeld.2.size; omega
  refine hK.out _ _ (kp_step hb1 hHeld) (fun hHeld => ?_)
  clear hK K
  (try simp only [Act.put, List.setIfInBounds_toArray, List.set_cons_zero, List.set_cons_succ])
  refine wpAnyH_ready (rs := [2]) (by kernel_rfl) (by simp) ?_
  refine (AllReadyH.cons (o := ⟨some 12, .call { callee := .value (.func 61), args := #[.tmp 11], argTypes := #[40] }, 4, "guess.go:377", #[⟨1, .data⟩], none⟩) rfl (fun K hK => ?_) AllReadyH.nil)
  rw [if_pos (by rfl)]
  go_simp
  refine (isFraction_is f.1 f.2 _ true hfr).mono ?_
  rintro e' WA ⟨rfl, hbA⟩
  (try replace hG := hG.keep hbA)
  refine hK.out _ _ (kp_step hbA hHeld) (fun hHeld => ?_)
  clear hK K
  (try simp only [Act.put, List.setIfInBounds_toArray, List.set_cons_zero, List.set_cons_succ])
  refine wpAnyH_ready (rs := [3]) (by kernel_rfl) (by simp) ?_
  refine (AllReadyH.cons (o := ⟨some 13, .call { callee := .value (.func 53), args := #[.tmp 10, .tmp 12], argTypes := #[25, 4] }, 101, "guess.go:377", #[⟨0, .data⟩, ⟨2, .data⟩, ⟨2, .chain⟩], none⟩) rfl (fun K hK => ?_) AllReadyH.nil)
  rw [if_pos (by rfl)]
  go_simp
  refine (asked_nil A N wc nc ws ns _ (hf.keep hHeld.2) hv h0).mono ?_
  rintro e' WB ⟨rfl, hbB⟩
  (try replace hG := hG.keep hbB)
  refine hK.out _ _ (kp_step hbB hHeld) (fun hHeld => ?_)
  clear hK K
  (try simp only [Act.put, List.setIfInBounds_toArray, List.set_cons_zero, List.set_cons_succ])
  refine wpAnyH_take (i := 4) (oi := ⟨some 9, .move (.tmp 13), 101, "guess.go:377", #[⟨3, .data⟩], none⟩) (v := ?_) rfl (by kernel_rfl) (by kernel_rfl) (by kernel_rfl) (fun _ _ _ h => h) (Or.inl ⟨by rfl, fun W hSw => ?_⟩) hHeld ?_
  rotate_left
  ·(try dsimp only at hSw); go_simp; (try with_reducible rfl)
  (try simp only [Act.put, List.setIfInBounds_toArray, List.set_cons_zero, List.set_cons_succ])
  refine wpAnyH_take (i := 5) (oi := ⟨some 14, .extract (.tmp 9) 0, 93, "guess.go:377", #[⟨4, .data⟩], none⟩) (v := ?_) rfl (by kernel_rfl) (by kernel_rfl) (by kernel_rfl) (fun _ _ _ h => h) (Or.inl ⟨by rfl, fun W hSw => ?_⟩) hHeld ?_
  rotate_left
  ·(try dsimp only at hSw); go_simp; (try with_reducible rfl)
  (try simp only [Act.put, List.setIfInBounds_toArray, List.set_cons_zero, List.set_cons_succ])
  refine wpAnyH_take (i := 6) (oi := ⟨some 15, .extract (.tmp 9) 1, 31, "guess.go:377", #[⟨4, .data⟩, ⟨8, .gcOnly .lateStores⟩], none⟩) (v := ?_) rfl (by kernel_rfl) (by kernel_rfl) (by kernel_rfl) (fun _ _ _ h => h) (Or.inl ⟨by rfl, fun W hSw => ?_⟩) hHeld ?_
  rotate_left
  ·(try dsimp only at hSw); go_simp; (try with_reducible rfl)
  (try simp only [Act.put, List.setIfInBounds_toArray, List.set_cons_zero, List.set_cons_succ])
  refine wpAnyH_ready (rs := [8]) (by kernel_rfl) (by simp) ?_
  refine (AllReadyH.cons (o := ⟨none, .store 93 (.tmp 6) (.tmp 14), 0, "guess.go:377", #[⟨7, .data⟩, ⟨5, .data⟩, ⟨3, .chain⟩, ⟨0, .phase⟩, ⟨1, .phase⟩, ⟨2, .phase⟩, ⟨3, .phase⟩, ⟨4, .phase⟩, ⟨5, .phase⟩, ⟨6, .textOnly .lateStores⟩, ⟨7, .phase⟩], none⟩) rfl (fun K hK => ?_) AllReadyH.nil)
  rw [if_pos (by rfl)]
  refine wp_store_blk _ _ _ rfl g 93 _ _ rfl rfl hG rfl (by kernel_rfl) (by simp [Value.oneCell']) ?_
  intro wz hG2 hgr
  have hfin : Below w0.heap.size w0 wz := hHeld.2.grown hgr hHeld.2.size (by intro k hk; cases hk; exact hgo)
  refine hK.out _ _ (kp_of hfin) (fun hHeld => ?_)
  clear hK K
  refine wpAnyH_take (i := 9) (oi := ⟨some 7, .assign (.tmp 15), 31, "guess.go:377", #[⟨6, .data⟩, ⟨8, .chain⟩, ⟨0, .phase⟩, ⟨1, .phase⟩, ⟨2, .phase⟩, ⟨3, .phase⟩, ⟨4, .phase⟩, ⟨5, .phase⟩, ⟨6, .phase⟩, ⟨7, .phase⟩, ⟨8, .phase⟩], none⟩) (v := ?_) rfl (by kernel_rfl) (by kernel_rfl) (by kernel_rfl) (fun _ _ _ h => h) (Or.inl ⟨by rfl, fun W hSw => ?_⟩) hHeld ?_
  rotate_left
  ·(try dsimp only at hSw); go_simp; (try with_reducible rfl)
  (try simp only [Act.put, List.setIfInBounds_toArray, List.set_cons_zero, List.set_cons_succ])
  refine wpAnyH_done (by kernel_rfl) ?_ _
  refine NoPanic.normal ?_
  go_wp2_with fail
  go_ret2
  exact ⟨none, 0, rfl, fun hn => absurd hn (by simp), fr_call hb0 hHeld.2⟩
set_option maxRecDepth 100000 in
set_option maxHeartbeats 8000000 in
theorem Nearest_some (A N : Option Addr) (wc nc : Nat) (ws : List Wh) (ns : List Note) (f : Int × Int) (w : World) (hf : FindAt w A N ws ns) (hv : FindOk ws ns) (hfr : fracB f.1 f.2 = true) (hok : FracOk f) (h0 : ¬ guessL ws ns = []) :
  Calls Tryz.prog 20 #[.agg #[.slice A ws.length wc, .slice N ns.length nc], .agg #[.int .i64 f.1, .int .i64 f.2]] w (RetPE w 0 (nearL f (guessL ws ns))) := by
 have hmf : ∀ (fn : Fn) (first cap : Array Value) (w : World), (Instr.makeFunc fn first cap).run Tryz.prog w = .ok (.func fn first cap) w := fun _ _ _ _ => rfl
 have hb0 := fr_alloc (fr_alloc (fr_refl w) (.cells #[.slice A ws.length wc, .slice N ns.length nc] 25)) (.cells #[.int .i64 f.1, .int .i64 f.2] 40)
 have hX := (Blk.new w 25 #[.slice A ws.length wc, .slice N ns.length nc]).alloc (.cells #[.int .i64 f.1, .int .i64 f.2] 40)
 have hF : Blk ((w.alloc (.cells #[.slice A ws.length wc, .slice N ns.length nc] 25)).alloc (.cells #[.int .i64 f.1, .int .i64 f.2] 40)) (w.heap.size + 1) 40 #[.int .i64 f.1, .int .i64 f.2] := Blk.new_at _ _ (by simp)
 replace hf := hf.keep hb0
 go_enter Tryz.func20, Tryz.ntmps20
 go_upto_region 1 with (fail)
 generalize (w.alloc (.cells #[.slice A ws.length wc, .slice N ns.length nc] 25)).alloc (.cells #[.int .i64 f.1, .int .i64 f.2] 40) = w0 at *
 have hcX := fun j => hX.cell j
 have hcF := fun j => hF.cell j
 have hlX := hX.lt
 have hlF := hF.lt
 refine wp_region_noPanic ?_
 refine wp_region_held_drew (S := fun W => (∀ p : Addr, p.block < (w0).heap.size → W.cell? p = (w0).cell? p) ∧ Below (w0).heap.size (w0) W) (by kernel_rfl) ⟨fun _ _ => rfl, fr_drew (fr_refl _)⟩ (fun hHeld => ?_)
 generalize w0.drew = wd at hHeld ⊢
 -- the region, step by step, in whatever order
 refine wpAnyH_take (i := 0) (oi := ⟨some 10, .load 25 (.tmp 2), 25, "guess.go:377", #[], none⟩) (v := ?_) rfl (by kernel_rfl) (by kernel_rfl) (by kernel_rfl) (fun _ _ _ h => h) (Or.inl ⟨by rfl, fun W hSw => ?_⟩) hHeld ?_
 rotate_left
 ·(try dsimp only at hSw); go_simp; (try with_reducible rfl)
 (try simp only [Act.put, List.setIfInBounds_toArray, List.set_cons_zero, List.set_cons_succ])
 refine wpAnyH_take (i := 1) (oi := ⟨some 11, .load 40 (.tmp 3), 40, "guess.go:377", #[], none⟩) (v := ?_) rfl (by kernel_rfl) (by kernel_rfl) (by kernel_rfl) (fun _ _ _ h => h) (Or.inl ⟨by rfl, fun W hSw => ?_⟩) hHeld ?_
 rotate_left
 ·(try dsimp only at hSw); go_simp; (try with_reducible rfl)
 (try simp only [Act.put, List.setIfInBounds_toArray, List.set_cons_zero, List.set_cons_succ])
 refine wpAnyH_ready (rs := [2, 7]) (by kernel_rfl) (by simp) ?_
 refine (AllReadyH.cons (o := ⟨some 12, .call { callee := .value (.func 61), args := #[.tmp 11], argTypes := #[40] }, 4, "guess.go:377", #[⟨1, .data⟩], none⟩) rfl (fun K hK => ?_) (AllReadyH.cons (o := ⟨some 6, .alloc 93, 0, "guess.go:377", #[], none⟩) rfl (fun K hK => ?_) AllReadyH.nil))
 ·rw [if_pos (by rfl)]
  go_simp
  refine (isFraction_is f.1 f.2 _ true hfr).mono ?_
  rintro e' WA ⟨rfl, hbA⟩
  (try replace hG := hG.keep hbA)
  (try replace hL := hL.keep hbA)
  refine hK.out _ _ (kp_step hbA hHeld) (fun hHeld => ?_)
  clear hK K
  (try simp only [Act.put, List.setIfInBounds_toArray, List.set_cons_zero, List.set_cons_succ])
  refine wpAnyH_ready (rs := [3, 7]) (by kernel_rfl) (by simp) ?_
  refine (AllReadyH.cons (o := ⟨some 13, .call { callee := .value (.func 53), args := #[.tmp 10, .tmp 12], argTypes := #[25, 4] }, 101, "guess.go:377", #[⟨0, .data⟩, ⟨2, .data⟩, ⟨2, .chain⟩], none⟩) rfl (fun K hK => ?_) (AllReadyH.cons (o := ⟨some 6, .alloc 93, 0, "guess.go:377", #[], none⟩) rfl (fun K hK => ?_) AllReadyH.nil))
  ·rw [if_pos (by rfl)]
   go_simp
   refine (asked_some A N wc nc ws ns _ (hf.keep hHeld.2) hv h0).mono ?_
   rintro e' WB ⟨L, lc, rfl, hL0, hbB⟩
   have hL := hL0.mono (Nat.zero_le _)
   clear hL0
   (try replace hG := hG.keep hbB)
   refine hK.out _ _ (kp_step hbB hHeld) (fun hHeld => ?_)
   clear hK K
   (try simp only [Act.put, List.setIfInBounds_toArray, List.set_cons_zero, List.set_cons_succ])
   refine wpAnyH_take (i := 4) (oi := ⟨some 9, .move (.tmp 13), 101, "guess.go:377", #[⟨3, .data⟩], none⟩) (v := ?_) rfl (by kernel_rfl) (by kernel_rfl) (by kernel_rfl) (fun _ _ _ h => h) (Or.inl ⟨by rfl, fun W hSw => ?_⟩) hHeld ?_
   rotate_left
   ·(try dsimp only at hSw); go_simp; (try with_reducible rfl)
   (try simp only [Act.put, List.setIfInBounds_toArray, List.set_cons_zero, List.set_cons_succ])
   refine wpAnyH_take (i := 5) (oi := ⟨some 14, .extract (.tmp 9) 0, 93, "guess.go:377", #[⟨4, .data⟩], none⟩) (v := ?_) rfl (by kernel_rfl) (by kernel_rfl) (by kernel_rfl) (fun _ _ _ h => h) (Or.inl ⟨by rfl, fun W hSw => ?_⟩) hHeld ?_
   rotate_left
   ·(try dsimp only at hSw); go_simp; (try with_reducible rfl)
   (try simp only [Act.put, List.setIfInBounds_toArray, List.set_cons_zero, List.set_cons_succ])
   refine wpAnyH_take (i := 6) (oi := ⟨some 15, .extract (.tmp 9) 1, 31, "guess.go:377", #[⟨4, .data⟩, ⟨8, .gcOnly .lateStores⟩], none⟩) (v := ?_) rfl (by kernel_rfl) (by kernel_rfl) (by kernel_rfl) (fun _ _ _ h => h) (Or.inl ⟨by rfl, fun W hSw => ?_⟩) hHeld ?_
   rotate_left
   ·(try dsimp only at hSw); go_simp; (try with_reducible rfl)
   (try simp only [Act.put, List.setIfInBounds_toArray, List.set_cons_zero, List.set_cons_succ])
   refine wpAnyH_ready (rs := [7]) (by kernel_rfl) (by simp) ?_
   refine (AllReadyH.cons (o := ⟨some 6, .alloc 93, 0, "guess.go:377", #[], none⟩) rfl (fun K hK => ?_) AllReadyH.nil)
   rw [if_pos (by rfl)]
   refine wp_alloc_new 93 rfl _ (guessed_zero _) ?_
   intro g wz hgz hG hb1 _
   have hgo : w0.heap.size ≤ g := by have := hHeld.2.size; omega
   (try replace hL := hL.keep hb1)
   refine hK.out _ _ (kp_step hb1 hHeld) (fun hHeld => ?_)
   clear hK K
   (try simp only [Act.put, List.setIfInBounds_toArray, List.set_cons_zero, List.set_cons_succ])
   refine wpAnyH_ready (rs := [8]) (by kernel_rfl) (by simp) ?_
   refine (AllReadyH.cons (o := ⟨none, .store 93 (.tmp 6) (.tmp 14), 0, "guess.go:377", #[⟨7, .data⟩, ⟨5, .data⟩, ⟨3, .chain⟩, ⟨0, .phase⟩, ⟨1, .phase⟩, ⟨2, .phase⟩, ⟨3, .phase⟩, ⟨4, .phase⟩, ⟨5, .phase⟩, ⟨6, .textOnly .lateStores⟩, ⟨7, .phase⟩], none⟩) rfl (fun K hK => ?_) AllReadyH.nil)
   rw [if_pos (by rfl)]
   refine wp_store_blk _ _ _ rfl g 93 _ _ rfl rfl hG rfl (by kernel_rfl) (by simp [Value.oneCell']) ?_
   intro wz hG2 hgr
   (try replace hL := hL.grown hgr hG (by decide) (by decide))
   have hfin : Below w0.heap.size w0 wz := hHeld.2.grown hgr hHeld.2.size (by intro k hk; cases hk; exact hgo)
   refine hK.out _ _ (kp_of hfin) (fun hHeld => ?_)
   clear hK K
   refine wpAnyH_take (i := 9) (oi := ⟨some 7, .assign (.tmp 15), 31, "guess.go:377", #[⟨6, .data⟩, ⟨8, .chain⟩, ⟨0, .phase⟩, ⟨1, .phase⟩, ⟨2, .phase⟩, ⟨3, .phase⟩, ⟨4, .phase⟩, ⟨5, .phase⟩, ⟨6, .phase⟩, ⟨7, .phase⟩, ⟨8, .phase⟩], none⟩) (v := ?_) rfl (by kernel_rfl) (by kernel_rfl) (by kernel_rfl) (fun _ _ _ h => h) (Or.inl ⟨by rfl, fun W hSw => ?_⟩) hHeld ?_
   rotate_left
   ·(try dsimp only at hSw); go_simp; (try with_reducible rfl)
   (try simp only [Act.put, List.setIfInBounds_toArray, List.set_cons_zero, List.set_cons_succ])
   refine wpAnyH_done (by kernel_rfl) ?_ _
   refine NoPanic.normal ?_
   have hF2 := hF.keep hHeld.2
   have hTs := hL.ts
   have hokT := guess_okT hv
   have hmany := guess_many hv
   have hb2 := fr_call hb0 hHeld.2
   clear hL hcX hcF hX hF
   go_wp2_with fail
   refine (best_pairs (.pointer (some ⟨g, 0, none⟩)) (.pointer (some ⟨w.heap.size + 1, 0, none⟩)) OkPs OkP (ltN f) ((guessL ws ns).map pairsOf) wz (enc_pairs _) (bet_near f hok (w.heap.size + 1) wz hF2) hokT.pairs (fun l P J W hPx hbW hY hJ => Nearest1_any A N L g _ _ _ _ lc _ (guessL ws ns) wz hG2 hTs hokT rfl (by omega) l P J W hPx hbW (Nat.le_refl _) hY hJ)).mono ?_
   rintro e w2 ⟨v, rfl, hO, hb3⟩
   obtain ⟨A2, c2, rfl, hr2⟩ : ∃ A2 c2, v = .slice A2 (nearL f (guessL ws ns)).length c2 ∧ RdS w2 A2 2 ((nearL f (guessL ws ns)).map Wh.cells) := by
    unfold nearL
    cases hq : bestL (ltN f) ((guessL ws ns).map pairsOf) with
    | none =>
     rw [hq] at hO
     exact ⟨none, 0, hO, fun hn => absurd hn (by simp)⟩
    | some y =>
     rw [hq] at hO
     obtain ⟨A2, c2, rfl, hr⟩ := hO
     exact ⟨A2, c2, rfl, hr.1⟩
   clear hO hTs hF2
   go_wp2_with fail
   go_ret2
   exact ⟨A2, c2, rfl, hr2, fr_call hb2 hb3⟩
  ·rw [if_pos (by rfl)]
   refine wp_alloc_new 93 rfl _ (guessed_zero _) ?_
   intro g wz hgz hG hb1 _
   have hgo : w0.heap.size ≤ g := by have := hHeld.2.size; omega
   (try replace hL := hL.keep hb1)
   refine hK.out _ _ (kp_step hb1 hHeld) (fun hHeld => ?_)
   clear hK K
   (try simp only [Act.put, List.setIfInBounds_toArray, List.set_cons_zero, List.set_cons_succ])
   refine wpAnyH_ready (rs := [3]) (by kernel_rfl) (by simp) ?_
   refine (AllReadyH.cons (o := ⟨some 13, .call { callee := .value (.func 53), args := #[.tmp 10, .tmp 12], argTypes := #[25, 4] }, 101, "guess.go:377", #[⟨0, .data⟩, ⟨2, .data⟩, ⟨2, .chain⟩], none⟩) rfl (fun K hK => ?_) AllReadyH.nil)
   rw [if_pos (by rfl)]
   go_simp
   refine (asked_some A N wc nc ws ns _ (hf.keep hHeld.2) hv h0).mono ?_
   rintro e' WB ⟨L, lc, rfl, hL0, hbB⟩
   have hL := hL0.mono (Nat.zero_le _)
   clear hL0
   (try replace hG := hG.keep hbB)
   refine hK.out _ _ (kp_step hbB hHeld) (fun hHeld => ?_)
   clear hK K
   (try simp only [Act.put, List.setIfInBounds_toArray, List.set_cons_zero, List.set_cons_succ])
   refine wpAnyH_take (i := 4) (oi := ⟨some 9, .move (.tmp 13), 101, "guess.go:377", #[⟨3, .data⟩], none⟩) (v := ?_) rfl (by kernel_rfl) (by kernel_rfl) (by kernel_rfl) (fun _ _ _ h => h) (Or.inl ⟨by rfl, fun W hSw => ?_⟩) hHeld ?_
   rotate_left
   ·(try dsimp only at hSw); go_simp; (try with_reducible rfl)
   (try simp only [Act.put, List.setIfInBounds_toArray, List.set_cons_zero, List.set_cons_succ])
   refine wpAnyH_take (i := 5) (oi := ⟨some 14, .extract (.tmp 9) 0, 93, "guess.go:377", #[⟨4, .data⟩], none⟩) (v := ?_) rfl (by kernel_rfl) (by kernel_rfl) (by kernel_rfl) (fun _ _ _ h => h) (Or.inl ⟨by rfl, fun W hSw => ?_⟩) hHeld ?_
   rotate_left
   ·(try dsimp only at hSw); go_simp; (try with_reducible rfl)
   (try simp only [Act.put, List.setIfInBounds_toArray, List.set_cons_zero, List.set_cons_succ])
   refine wpAnyH_take (i := 6) (oi := ⟨some 15, .extract (.tmp 9) 1, 31, "guess.go:377", #[⟨4, .data⟩, ⟨8, .gcOnly .lateStores⟩], none⟩) (v := ?_) rfl (by kernel_rfl) (by kernel_rfl) (by kernel_rfl) (fun _ _ _ h => h) (Or.inl ⟨by rfl, fun W hSw => ?_⟩) hHeld ?_
   rotate_left
   ·(try dsimp only at hSw); go_simp; (try with_reducible rfl)
   (try simp only [Act.put, List.setIfInBounds_toArray, List.set_cons_zero, List.set_cons_succ])
   refine wpAnyH_ready (rs := [8]) (by kernel_rfl) (by simp) ?_
   refine (AllReadyH.cons (o := ⟨none, .store 93 (.tmp 6) (.tmp 14), 0, "guess.go:377", #[⟨7, .data⟩, ⟨5, .data⟩, ⟨3, .chain⟩, ⟨0, .phase⟩, ⟨1, .phase⟩, ⟨2, .phase⟩, ⟨3, .phase⟩, ⟨4, .phase⟩, ⟨5, .phase⟩, ⟨6, .textOnly .lateStores⟩, ⟨7, .phase⟩], none⟩) rfl (fun K hK => ?_) AllReadyH.nil)
   rw [if_pos (by rfl)]
   refine wp_store_blk _ _ _ rfl g 93 _ _ rfl rfl hG rfl (by kernel_rfl) (by simp [Value.oneCell']) ?_
   intro wz hG2 hgr
   (try replace hL := hL.grown hgr hG (by decide) (by decide))
   have hfin : Below w0.heap.size w0 wz := hHeld.2.grown hgr hHeld.2.size (by intro k hk; cases hk; exact hgo)
   refine hK.out _ _ (kp_of hfin) (fun hHeld => ?_)
   clear hK K
   refine wpAnyH_take (i := 9) (oi := ⟨some 7, .assign (.tmp 15), 31, "guess.go:377", #[⟨6, .data⟩, ⟨8, .chain⟩, ⟨0, .phase⟩, ⟨1, .phase⟩, ⟨2, .phase⟩, ⟨3, .phase⟩, ⟨4, .phase⟩, ⟨5, .phase⟩, ⟨6, .phase⟩, ⟨7, .phase⟩, ⟨8, .phase⟩], none⟩) (v := ?_) rfl (by kernel_rfl) (by kernel_rfl) (by kernel_rfl) (fun _ _ _ h => h) (Or.inl ⟨by rfl, fun W hSw => ?_⟩) hHeld ?_
   rotate_left
   ·(try dsimp only at hSw); go_simp; (try with_reducible rfl)
   (try simp only [Act.put, List.setIfInBounds_toArray, List.set_cons_zero, List.set_cons_succ])
   refine wpAnyH_done (by kernel_rfl) ?_ _
   refine NoPanic.normal ?_
   have hF2 := hF.keep hHeld.2
   have hTs := hL.ts
   have hokT := guess_okT hv
   have hmany := guess_many hv
   have hb2 := fr_call hb0 hHeld.2
   clear hL hcX hcF hX hF
   go_wp2_with fail
   refine (best_pairs (.pointer (some ⟨g, 0, none⟩)) (.pointer (some ⟨w.heap.size + 1, 0, none⟩)) OkPs OkP (ltN f) ((guessL ws ns).map pairsOf) wz (enc_pairs _) (bet_near f hok (w.heap.size + 1) wz hF2) hokT.pairs (fun l P J W hPx hbW hY hJ => Nearest1_any A N L g _ _ _ _ lc _ (guessL ws ns) wz hG2 hTs hokT rfl (by omega) l P J W hPx hbW (Nat.le_refl _) hY hJ)).mono ?_
   rintro e w2 ⟨v, rfl, hO, hb3⟩
   obtain ⟨A2, c2, rfl, hr2⟩ : ∃ A2 c2, v = .slice A2 (nearL f (guessL ws ns)).length c2 ∧ RdS w2 A2 2 ((nearL f (guessL ws ns)).map Wh.cells) := by
    unfold nearL
    cases hq : bestL (ltN f) ((guessL ws ns).map pairsOf) with
    | none =>
     rw [hq] at hO
     exact ⟨none, 0, hO, fun hn => absurd hn (by simp)⟩
    | some y =>
     rw [hq] at hO
     obtain ⟨A2, c2, rfl, hr⟩ := hO
     exact ⟨A2, c2, rfl, hr.1⟩
   clear hO hTs hF2
   go_wp2_with fail
   go_ret2
   exact ⟨A2, c2, rfl, hr2, fr_call hb2 hb3⟩
 ·rw [if_pos (by rfl)]
  refine wp_alloc_new 93 rfl _ (guessed_zero _) ?_
  intro g wz hgz hG hb1 _
  have hgo : w0.heap.size ≤ g := by have := hHeld.2.size; omega
  (try replace hL := hL.keep hb1)
  refine hK.out _ _ (kp_step hb1 hHeld) (fun hHeld => ?_)
  clear hK K
  (try simp only [Act.put, List.setIfInBounds_toArray, List.set_cons_zero, List.set_cons_succ])
  refine wpAnyH_ready (rs := [2]) (by kernel_rfl) (by simp) ?_
  refine (AllReadyH.cons (o := ⟨some 12, .call { callee := .value (.func 61), args := #[.tmp 11], argTypes := #[40] }, 4, "guess.go:377", #[⟨1, .data⟩], none⟩) rfl (fun K hK => ?_) AllReadyH.nil)
  rw [if_pos (by rfl)]
  go_simp
  refine (isFraction_is f.1 f.2 _ true hfr).mono ?_
  rintro e' WA ⟨rfl, hbA⟩
  (try replace hG := hG.keep hbA)
  (try replace hL := hL.keep hbA)
  refine hK.out _ _ (kp_step hbA hHeld) (fun hHeld => ?_)
  clear hK K
  (try simp only [Act.put, List.setIfInBounds_toArray, List.set_cons_zero, List.set_cons_succ])
  refine wpAnyH_ready (rs := [3]) (by kernel_rfl) (by simp) ?_
  refine (AllReadyH.cons (o := ⟨some 13, .call { callee := .value (.func 53), args := #[.tmp 10, .tmp 12], argTypes := #[25, 4] }, 101, "guess.go:377", #[⟨0, .data⟩, ⟨2, .data⟩, ⟨2, .chain⟩], none⟩) rfl (fun K hK => ?_) AllReadyH.nil)
  rw [if_pos (by rfl)]
  go_simp
  refine (asked_some A N wc nc ws ns _ (hf.keep hHeld.2) hv h0).mono ?_
  rintro e' WB ⟨L, lc, rfl, hL0, hbB⟩
  have hL := hL0.mono (Nat.zero_le _)
  clear hL0
  (try replace hG := hG.keep hbB)
  refine hK.out _ _ (kp_step hbB hHeld) (fun hHeld => ?_)
  clear hK K
  (try simp only [Act.put, List.setIfInBounds_toArray, List.set_cons_zero, List.set_cons_succ])
  refine wpAnyH_take (i := 4) (oi := ⟨some 9, .move (.tmp 13), 101, "guess.go:377", #[⟨3, .data⟩], none⟩) (v := ?_) rfl (by kernel_rfl) (by kernel_rfl) (by kernel_rfl) (fun _ _ _ h => h) (Or.inl ⟨by rfl, fun W hSw => ?_⟩) hHeld ?_
  rotate_left
  ·(try dsimp only at hSw); go_simp; (try with_reducible rfl)
  (try simp only [Act.put, List.setIfInBounds_toArray, List.set_cons_zero, List.set_cons_succ])
  refine wpAnyH_take (i := 5) (oi := ⟨some 14, .extract (.tmp 9) 0, 93, "guess.go:377", #[⟨4, .data⟩], none⟩) (v := ?_) rfl (by kernel_rfl) (by kernel_rfl) (by kernel_rfl) (fun _ _ _ h => h) (Or.inl ⟨by rfl, fun W hSw => ?_⟩) hHeld ?_
  rotate_left
  ·(try dsimp only at hSw); go_simp; (try with_reducible rfl)
  (try simp only [Act.put, List.setIfInBounds_toArray, List.set_cons_zero, List.set_cons_succ])
  refine wpAnyH_take (i := 6) (oi := ⟨some 15, .extract (.tmp 9) 1, 31, "guess.go:377", #[⟨4, .data⟩, ⟨8, .gcOnly .lateStores⟩], none⟩) (v := ?_) rfl (by kernel_rfl) (by kernel_rfl) (by kernel_rfl) (fun _ _ _ h => h) (Or.inl ⟨by rfl, fun W hSw => ?_⟩) hHeld ?_
  rotate_left
  ·(try dsimp only at hSw); go_simp; (try with_reducible rfl)
  (try simp only [Act.put, List.setIfInBounds_toArray, List.set_cons_zero, List.set_cons_succ])
  refine wpAnyH_ready (rs := [8]) (by kernel_rfl) (by simp) ?_
  refine (AllReadyH.cons (o := ⟨none, .store 93 (.tmp 6) (.tmp 14), 0, "guess.go:377", #[⟨7, .data⟩, ⟨5, .data⟩, ⟨3, .chain⟩, ⟨0, .phase⟩, ⟨1, .phase⟩, ⟨2, .phase⟩, ⟨3, .phase⟩, ⟨4, .phase⟩, ⟨5, .phase⟩, ⟨6, .textOnly .lateStores⟩, ⟨7, .phase⟩], none⟩) rfl (fun K hK => ?_) AllReadyH.nil)
  rw [if_pos (by rfl)]
  refine wp_store_blk _ _ _ rfl g 93 _ _ rfl rfl hG rfl (by kernel_rfl) (by simp [Value.oneCell']) ?_
  intro wz hG2 hgr
  (try replace hL := hL.grown hgr hG (by decide) (by decide))
  have hfin : Below w0.heap.size w0 wz := hHeld.2.grown hgr hHeld.2.size (by intro k hk; cases hk; exact hgo)
  refine hK.out _ _ (kp_of hfin) (fun hHeld => ?_)
  clear hK K
  refine wpAnyH_take (i := 9) (oi := ⟨some 7, .assign (.tmp 15), 31, "guess.go:377", #[⟨6, .data⟩, ⟨8, .chain⟩, ⟨0, .phase⟩, ⟨1, .phase⟩, ⟨2, .phase⟩, ⟨3, .phase⟩, ⟨4, .phase⟩, ⟨5, .phase⟩, ⟨6, .phase⟩, ⟨7, .phase⟩, ⟨8, .phase⟩], none⟩) (v := ?_) rfl (by kernel_rfl) (by kernel_rfl) (by kernel_rfl) (fun _ _ _ h => h) (Or.inl ⟨by rfl, fun W hSw => ?_⟩) hHeld ?_
  rotate_left
  ·(try dsimp only at hSw); go_simp; (try with_reducible rfl)
  (try simp only [Act.put, List.setIfInBounds_toArray, List.set_cons_zero, List.set_cons_succ])
  refine wpAnyH_done (by kernel_rfl) ?_ _
  refine NoPanic.normal ?_
  have hF2 := hF.keep hHeld.2
  have hTs := hL.ts
  have hokT := guess_okT hv
  have hmany := guess_many hv
  have hb2 := fr_call hb0 hHeld.2
  clear hL hcX hcF hX hF
  go_wp2_with fail
  refine (best_pairs (.pointer (some ⟨g, 0, none⟩)) (.pointer (some ⟨w.heap.size + 1, 0, none⟩)) OkPs OkP (ltN f) ((guessL ws ns).map pairsOf) wz (enc_pairs _) (bet_near f hok (w.heap.size + 1) wz hF2) hokT.pairs (fun l P J W hPx hbW hY hJ => Nearest1_any A N L g _ _ _ _ lc _ (guessL ws ns) wz hG2 hTs hokT rfl (by omega) l P J W hPx hbW (Nat.le_refl _) hY hJ)).mono ?_
  rintro e w2 ⟨v, rfl, hO, hb3⟩
  obtain ⟨A2, c2, rfl, hr2⟩ : ∃ A2 c2, v = .slice A2 (nearL f (guessL ws ns)).length c2 ∧ RdS w2 A2 2 ((nearL f (guessL ws ns)).map Wh.cells) := by
   unfold nearL
   cases hq : bestL (ltN f) ((guessL ws ns).map pairsOf) with
   | none =>
    rw [hq] at hO
    exact ⟨none, 0, hO, fun hn => absurd hn (by simp)⟩
   | some y =>
    rw [hq] at hO
    obtain ⟨A2, c2, rfl, hr⟩ := hO
    exact ⟨A2, c2, rfl, hr.1⟩
  clear hO hTs hF2
  go_wp2_with fail
  go_ret2
  exact ⟨A2, c2, rfl, hr2, fr_call hb2 hb3⟩
end Go.Proofs.YtfgghicdkcjdgaaGreatDoor
