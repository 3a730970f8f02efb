/- Walk: guess, Sure (by gen_sure.py). Walk: guess, Breaks of a train of the find. -/
import Derived.Test.YtfgghicdkcjdgaaGreatDoorMG9
section
namespace Go.Proofs.YtfgghicdkcjdgaaGreatDoor
open Go.RowKit Go.Shelf
attribute [local go_sem] Oper.semAt_some

/-- whether a fraction is another than the find's -/
def offB (f y : Int × Int) : Bool := aboveB f.1 f.2 y.1 y.2 || aboveB y.1 y.2 f.1 f.2
def sureN (f : Int × Int) (ts : List (List Int)) : Int := if (ts.map fracOf).any (offB f) then (if (ts.map fracOf).any (fun y => !offB f y) then 2 else 1) else 3
def RetW (w : World) (k n : Int) (e : Ending) (w' : World) : Prop := e = .returned (.tuple #[.int .i64 n, .int .i64 k]) ∧ Below w.heap.size w w'
/-- what holds between two rounds -/
structure SInv (B : Nat) (wb : World) (f : Int × Int) (bs bn lD l : Nat) (rec : Loop) (d : List (Int × Int)) (W : World) : Prop where
 kp : Keep B (fun _ => false) wb W
 s : Blk W bs 4 #[.bool (d.any (fun y => !offB f y))]
 n : Blk W bn 4 #[.bool (d.any (offB f))]
 df : W.heap[lD]? = some (.deferred (some []))
 lp : W.heap[l]? = some (.loop rec)
theorem SInv.move {B H bs bn lD l : Nat} {wb W W' : World} {f : Int × Int} {rec : Loop} {d : List (Int × Int)} (h : SInv B wb f bs bn lD l rec d W) (hb : Below H W W') (hk : Keep B (fun _ => false) W W') (hH : (bs < H ∧ bn < H) ∧ lD < H ∧ l < H) : SInv B wb f bs bn lD l rec d W' :=
 ⟨h.kp.trans hk, h.s.low hb hH.1.1, h.n.low hb hH.1.2, (hb.block _ hH.2.1).trans h.df, (hb.block _ hH.2.2).trans h.lp⟩
theorem SInv.below {B bs bn lD l : Nat} {wb W W' : World} {f : Int × Int} {rec : Loop} {d : List (Int × Int)} (h : SInv B wb f bs bn lD l rec d W) (hb : Below W.heap.size W W') : SInv B wb f bs bn lD l rec d W' :=
 h.move hb (Keep.of_below hb) ⟨⟨h.s.lt, h.n.lt⟩, (Array.getElem?_eq_some_iff.1 h.df).1, (Array.getElem?_eq_some_iff.1 h.lp).1⟩
theorem SInv.put {B bs bn lD l : Nat} {wb W : World} {f : Int × Int} {rec : Loop} {d : List (Int × Int)} (h : SInv B wb f bs bn lD l rec d W) (hB : B ≤ l) (hne : lD ≠ l) (r' : Loop) : SInv B wb f bs bn lD l r' d (W.putObj l (.loop r')) := by
 have hg := grownBy_putObj' W l (.loop r')
 have hk : Keep B (fun _ => false) W (W.putObj l (.loop r')) := keep_put h.lp rfl hB _
 exact ⟨h.kp.trans hk, h.s.grown hg (fun e => Obj_cells_ne h.s h.lp rfl (by cases e; rfl)), h.n.grown hg (fun e => Obj_cells_ne h.n h.lp rfl (by cases e; rfl)), (World.putObj_heap_other hne).trans h.df, World.putObj_heap_same (Array.getElem?_eq_some_iff.1 h.lp).1⟩
/-- one fraction more -/
theorem SInv.next {B H bs bn lD l : Nat} {wb W : World} {f y : Int × Int} {rec : Loop} {d : List (Int × Int)} (h : SInv B wb f bs bn lD l rec d W) (g : Nat) (hg : g = if offB f y then bn else bs) (hne : bs ≠ bn) (hB : (B ≤ bs ∧ bs < H) ∧ B ≤ bn ∧ bn < H) : SInv B wb f bs bn lD l rec (d ++ [y]) (W.setCell ⟨g, 0, none⟩ (.bool true)) ∧ KeepH B (fun _ => false) H W (W.setCell ⟨g, 0, none⟩ (.bool true)) := by
 cases hq : offB f y with
 | true =>
  rw [hq, if_pos rfl] at hg
  subst hg
  have hk : KeepH B (fun _ => false) H W (W.setCell ⟨g, 0, none⟩ (.bool true)) := KeepH.grown (grown_set W ⟨g, 0, none⟩ _) (fun k e => by cases e; exact ⟨hB.2, fun _ _ _ _ => rfl⟩)
  refine ⟨⟨h.kp.trans hk.k, ?_, ?_, heap_setO h.n h.df rfl _, heap_setO h.n h.lp rfl _⟩, hk⟩
  ·rw [List.any_append]
   simpa [hq] using h.s.far (p := ⟨g, 0, none⟩) hne (.bool true)
  ·rw [List.any_append]
   simpa [hq] using h.n.set_ 0 (.bool true)
 | false =>
  rw [hq, if_neg (by simp)] at hg
  subst hg
  have hk : KeepH B (fun _ => false) H W (W.setCell ⟨g, 0, none⟩ (.bool true)) := KeepH.grown (grown_set W ⟨g, 0, none⟩ _) (fun k e => by cases e; exact ⟨hB.1, fun _ _ _ _ => rfl⟩)
  refine ⟨⟨h.kp.trans hk.k, ?_, ?_, heap_setO h.s h.df rfl _, heap_setO h.s h.lp rfl _⟩, hk⟩
  ·rw [List.any_append]
   simpa [hq] using h.s.set_ 0 (.bool true)
  ·rw [List.any_append]
   simpa [hq] using h.n.far (p := ⟨g, 0, none⟩) hne.symm (.bool true)
set_option maxRecDepth 100000 in
set_option maxHeartbeats 8000000 in
theorem Sure_none (A N : Option Addr) (wc nc : Nat) (ws : List Wh) (ns : List Note) (f : Int × Int) (w : World) (hf : FindAt w A N ws ns) (hv : FindOk ws ns) (hfr : fracB f.1 f.2 = true) (h0 : guessL ws ns = []) :
  Calls Tryz.prog 34 #[.agg #[.slice A ws.length wc, .slice N ns.length nc], .agg #[.int .i64 f.1, .int .i64 f.2]] w (RetW w 7 0) := by
 have hmf : ∀ (fn : Fn) (first cap : Array Value) (w : World), (Instr.makeFunc fn first cap).run Tryz.prog w = .ok (.func fn first cap) w := fun _ _ _ _ => rfl
 have hb0 := fr_alloc (fr_alloc (fr_refl w) (.cells #[.slice A ws.length wc, .slice N ns.length nc] 25)) (.cells #[.int .i64 f.1, .int .i64 f.2] 40)
 have hX := (Blk.new w 25 #[.slice A ws.length wc, .slice N ns.length nc]).alloc (.cells #[.int .i64 f.1, .int .i64 f.2] 40)
 have hF : Blk ((w.alloc (.cells #[.slice A ws.length wc, .slice N ns.length nc] 25)).alloc (.cells #[.int .i64 f.1, .int .i64 f.2] 40)) (w.heap.size + 1) 40 #[.int .i64 f.1, .int .i64 f.2] := Blk.new_at _ _ (by simp)
 replace hf := hf.keep hb0
 go_enter Tryz.func34, Tryz.ntmps34
 go_upto_region 1 with (fail)
 generalize (w.alloc (.cells #[.slice A ws.length wc, .slice N ns.length nc] 25)).alloc (.cells #[.int .i64 f.1, .int .i64 f.2] 40) = w0 at *
 have hcX := fun j => hX.cell j
 have hcF := fun j => hF.cell j
 have hlX := hX.lt
 have hlF := hF.lt
 refine wp_region_noPanic ?_
 refine wp_region_held_drew (S := fun W => (∀ p : Addr, p.block < (w0).heap.size → W.cell? p = (w0).cell? p) ∧ Below (w0).heap.size (w0) W) (by kernel_rfl) ⟨fun _ _ => rfl, fr_drew (fr_refl _)⟩ (fun hHeld => ?_)
 generalize w0.drew = wd at hHeld ⊢
 -- the region, step by step, in whatever order
 refine wpAnyH_take (i := 0) (oi := ⟨some 12, .load 25 (.tmp 2), 25, "guess.go:318", #[], none⟩) (v := ?_) rfl (by kernel_rfl) (by kernel_rfl) (by kernel_rfl) (fun _ _ _ h => h) (Or.inl ⟨by rfl, fun W hSw => ?_⟩) hHeld ?_
 rotate_left
 ·(try dsimp only at hSw); go_simp; (try with_reducible rfl)
 (try simp only [Act.put, List.setIfInBounds_toArray, List.set_cons_zero, List.set_cons_succ])
 refine wpAnyH_take (i := 1) (oi := ⟨some 13, .load 40 (.tmp 3), 40, "guess.go:318", #[], none⟩) (v := ?_) rfl (by kernel_rfl) (by kernel_rfl) (by kernel_rfl) (fun _ _ _ h => h) (Or.inl ⟨by rfl, fun W hSw => ?_⟩) hHeld ?_
 rotate_left
 ·(try dsimp only at hSw); go_simp; (try with_reducible rfl)
 (try simp only [Act.put, List.setIfInBounds_toArray, List.set_cons_zero, List.set_cons_succ])
 refine wpAnyH_ready (rs := [2, 7]) (by kernel_rfl) (by simp) ?_
 refine (AllReadyH.cons (o := ⟨some 14, .call { callee := .value (.func 61), args := #[.tmp 13], argTypes := #[40] }, 4, "guess.go:318", #[⟨1, .data⟩], none⟩) rfl (fun K hK => ?_) (AllReadyH.cons (o := ⟨some 6, .alloc 93, 0, "guess.go:318", #[], none⟩) rfl (fun K hK => ?_) AllReadyH.nil))
 ·rw [if_pos (by rfl)]
  go_simp
  refine (isFraction_is f.1 f.2 _ true hfr).mono ?_
  rintro e' WA ⟨rfl, hbA⟩
  (try replace hG := hG.keep hbA)
  refine hK.out _ _ (kp_step hbA hHeld) (fun hHeld => ?_)
  clear hK K
  (try simp only [Act.put, List.setIfInBounds_toArray, List.set_cons_zero, List.set_cons_succ])
  refine wpAnyH_ready (rs := [3, 7]) (by kernel_rfl) (by simp) ?_
  refine (AllReadyH.cons (o := ⟨some 15, .call { callee := .value (.func 53), args := #[.tmp 12, .tmp 14], argTypes := #[25, 4] }, 101, "guess.go:318", #[⟨0, .data⟩, ⟨2, .data⟩, ⟨2, .chain⟩], none⟩) rfl (fun K hK => ?_) (AllReadyH.cons (o := ⟨some 6, .alloc 93, 0, "guess.go:318", #[], none⟩) rfl (fun K hK => ?_) AllReadyH.nil))
  ·rw [if_pos (by rfl)]
   go_simp
   refine (asked_nil A N wc nc ws ns _ (hf.keep hHeld.2) hv h0).mono ?_
   rintro e' WB ⟨rfl, hbB⟩
   (try replace hG := hG.keep hbB)
   refine hK.out _ _ (kp_step hbB hHeld) (fun hHeld => ?_)
   clear hK K
   (try simp only [Act.put, List.setIfInBounds_toArray, List.set_cons_zero, List.set_cons_succ])
   refine wpAnyH_take (i := 4) (oi := ⟨some 11, .move (.tmp 15), 101, "guess.go:318", #[⟨3, .data⟩], none⟩) (v := ?_) rfl (by kernel_rfl) (by kernel_rfl) (by kernel_rfl) (fun _ _ _ h => h) (Or.inl ⟨by rfl, fun W hSw => ?_⟩) hHeld ?_
   rotate_left
   ·(try dsimp only at hSw); go_simp; (try with_reducible rfl)
   (try simp only [Act.put, List.setIfInBounds_toArray, List.set_cons_zero, List.set_cons_succ])
   refine wpAnyH_take (i := 5) (oi := ⟨some 16, .extract (.tmp 11) 0, 93, "guess.go:318", #[⟨4, .data⟩], none⟩) (v := ?_) rfl (by kernel_rfl) (by kernel_rfl) (by kernel_rfl) (fun _ _ _ h => h) (Or.inl ⟨by rfl, fun W hSw => ?_⟩) hHeld ?_
   rotate_left
   ·(try dsimp only at hSw); go_simp; (try with_reducible rfl)
   (try simp only [Act.put, List.setIfInBounds_toArray, List.set_cons_zero, List.set_cons_succ])
   refine wpAnyH_take (i := 6) (oi := ⟨some 17, .extract (.tmp 11) 1, 31, "guess.go:318", #[⟨4, .data⟩, ⟨8, .gcOnly .lateStores⟩], none⟩) (v := ?_) rfl (by kernel_rfl) (by kernel_rfl) (by kernel_rfl) (fun _ _ _ h => h) (Or.inl ⟨by rfl, fun W hSw => ?_⟩) hHeld ?_
   rotate_left
   ·(try dsimp only at hSw); go_simp; (try with_reducible rfl)
   (try simp only [Act.put, List.setIfInBounds_toArray, List.set_cons_zero, List.set_cons_succ])
   refine wpAnyH_ready (rs := [7]) (by kernel_rfl) (by simp) ?_
   refine (AllReadyH.cons (o := ⟨some 6, .alloc 93, 0, "guess.go:318", #[], none⟩) rfl (fun K hK => ?_) AllReadyH.nil)
   rw [if_pos (by rfl)]
   refine wp_alloc_new 93 rfl _ (guessed_zero _) ?_
   intro g wz hgz hG hb1 _
   have hgo : w0.heap.size ≤ g := by have := hHeld.2.size; omega
   refine hK.out _ _ (kp_step hb1 hHeld) (fun hHeld => ?_)
   clear hK K
   (try simp only [Act.put, List.setIfInBounds_toArray, List.set_cons_zero, List.set_cons_succ])
   refine wpAnyH_ready (rs := [8]) (by kernel_rfl) (by simp) ?_
   refine (AllReadyH.cons (o := ⟨none, .store 93 (.tmp 6) (.tmp 16), 0, "guess.go:318", #[⟨7, .data⟩, ⟨5, .data⟩, ⟨3, .chain⟩, ⟨0, .phase⟩, ⟨1, .phase⟩, ⟨2, .phase⟩, ⟨3, .phase⟩, ⟨4, .phase⟩, ⟨5, .phase⟩, ⟨6, .textOnly .lateStores⟩, ⟨7, .phase⟩], none⟩) rfl (fun K hK => ?_) AllReadyH.nil)
   rw [if_pos (by rfl)]
   refine wp_store_blk _ _ _ rfl g 93 _ _ rfl rfl hG rfl (by kernel_rfl) (by simp [Value.oneCell']) ?_
   intro wz hG2 hgr
   have hfin : Below w0.heap.size w0 wz := hHeld.2.grown hgr hHeld.2.size (by intro k hk; cases hk; exact hgo)
   refine hK.out _ _ (kp_of hfin) (fun hHeld => ?_)
   clear hK K
   refine wpAnyH_take (i := 9) (oi := ⟨some 7, .assign (.tmp 17), 31, "guess.go:318", #[⟨6, .data⟩, ⟨8, .chain⟩, ⟨0, .phase⟩, ⟨1, .phase⟩, ⟨2, .phase⟩, ⟨3, .phase⟩, ⟨4, .phase⟩, ⟨5, .phase⟩, ⟨6, .phase⟩, ⟨7, .phase⟩, ⟨8, .phase⟩], none⟩) (v := ?_) rfl (by kernel_rfl) (by kernel_rfl) (by kernel_rfl) (fun _ _ _ h => h) (Or.inl ⟨by rfl, fun W hSw => ?_⟩) hHeld ?_
   rotate_left
   ·(try dsimp only at hSw); go_simp; (try with_reducible rfl)
   (try simp only [Act.put, List.setIfInBounds_toArray, List.set_cons_zero, List.set_cons_succ])
   refine wpAnyH_done (by kernel_rfl) ?_ _
   refine NoPanic.normal ?_
   go_wp2_with fail
   go_ret2
   exact ⟨rfl, fr_call hb0 hHeld.2⟩
  ·rw [if_pos (by rfl)]
   refine wp_alloc_new 93 rfl _ (guessed_zero _) ?_
   intro g wz hgz hG hb1 _
   have hgo : w0.heap.size ≤ g := by have := hHeld.2.size; omega
   refine hK.out _ _ (kp_step hb1 hHeld) (fun hHeld => ?_)
   clear hK K
   (try simp only [Act.put, List.setIfInBounds_toArray, List.set_cons_zero, List.set_cons_succ])
   refine wpAnyH_ready (rs := [3]) (by kernel_rfl) (by simp) ?_
   refine (AllReadyH.cons (o := ⟨some 15, .call { callee := .value (.func 53), args := #[.tmp 12, .tmp 14], argTypes := #[25, 4] }, 101, "guess.go:318", #[⟨0, .data⟩, ⟨2, .data⟩, ⟨2, .chain⟩], none⟩) rfl (fun K hK => ?_) AllReadyH.nil)
   rw [if_pos (by rfl)]
   go_simp
   refine (asked_nil A N wc nc ws ns _ (hf.keep hHeld.2) hv h0).mono ?_
   rintro e' WB ⟨rfl, hbB⟩
   (try replace hG := hG.keep hbB)
   refine hK.out _ _ (kp_step hbB hHeld) (fun hHeld => ?_)
   clear hK K
   (try simp only [Act.put, List.setIfInBounds_toArray, List.set_cons_zero, List.set_cons_succ])
   refine wpAnyH_take (i := 4) (oi := ⟨some 11, .move (.tmp 15), 101, "guess.go:318", #[⟨3, .data⟩], none⟩) (v := ?_) rfl (by kernel_rfl) (by kernel_rfl) (by kernel_rfl) (fun _ _ _ h => h) (Or.inl ⟨by rfl, fun W hSw => ?_⟩) hHeld ?_
   rotate_left
   ·(try dsimp only at hSw); go_simp; (try with_reducible rfl)
   (try simp only [Act.put, List.setIfInBounds_toArray, List.set_cons_zero, List.set_cons_succ])
   refine wpAnyH_take (i := 5) (oi := ⟨some 16, .extract (.tmp 11) 0, 93, "guess.go:318", #[⟨4, .data⟩], none⟩) (v := ?_) rfl (by kernel_rfl) (by kernel_rfl) (by kernel_rfl) (fun _ _ _ h => h) (Or.inl ⟨by rfl, fun W hSw => ?_⟩) hHeld ?_
   rotate_left
   ·(try dsimp only at hSw); go_simp; (try with_reducible rfl)
   (try simp only [Act.put, List.setIfInBounds_toArray, List.set_cons_zero, List.set_cons_succ])
   refine wpAnyH_take (i := 6) (oi := ⟨some 17, .extract (.tmp 11) 1, 31, "guess.go:318", #[⟨4, .data⟩, ⟨8, .gcOnly .lateStores⟩], none⟩) (v := ?_) rfl (by kernel_rfl) (by kernel_rfl) (by kernel_rfl) (fun _ _ _ h => h) (Or.inl ⟨by rfl, fun W hSw => ?_⟩) hHeld ?_
   rotate_left
   ·(try dsimp only at hSw); go_simp; (try with_reducible rfl)
   (try simp only [Act.put, List.setIfInBounds_toArray, List.set_cons_zero, List.set_cons_succ])
   refine wpAnyH_ready (rs := [8]) (by kernel_rfl) (by simp) ?_
   refine (AllReadyH.cons (o := ⟨none, .store 93 (.tmp 6) (.tmp 16), 0, "guess.go:318", #[⟨7, .data⟩, ⟨5, .data⟩, ⟨3, .chain⟩, ⟨0, .phase⟩, ⟨1, .phase⟩, ⟨2, .phase⟩, ⟨3, .phase⟩, ⟨4, .phase⟩, ⟨5, .phase⟩, ⟨6, .textOnly .lateStores⟩, ⟨7, .phase⟩], none⟩) rfl (fun K hK => ?_) AllReadyH.nil)
   rw [if_pos (by rfl)]
   refine wp_store_blk _ _ _ rfl g 93 _ _ rfl rfl hG rfl (by kernel_rfl) (by simp [Value.oneCell']) ?_
   intro wz hG2 hgr
   have hfin : Below w0.heap.size w0 wz := hHeld.2.grown hgr hHeld.2.size (by intro k hk; cases hk; exact hgo)
   refine hK.out _ _ (kp_of hfin) (fun hHeld => ?_)
   clear hK K
   refine wpAnyH_take (i := 9) (oi := ⟨some 7, .assign (.tmp 17), 31, "guess.go:318", #[⟨6, .data⟩, ⟨8, .chain⟩, ⟨0, .phase⟩, ⟨1, .phase⟩, ⟨2, .phase⟩, ⟨3, .phase⟩, ⟨4, .phase⟩, ⟨5, .phase⟩, ⟨6, .phase⟩, ⟨7, .phase⟩, ⟨8, .phase⟩], none⟩) (v := ?_) rfl (by kernel_rfl) (by kernel_rfl) (by kernel_rfl) (fun _ _ _ h => h) (Or.inl ⟨by rfl, fun W hSw => ?_⟩) hHeld ?_
   rotate_left
   ·(try dsimp only at hSw); go_simp; (try with_reducible rfl)
   (try simp only [Act.put, List.setIfInBounds_toArray, List.set_cons_zero, List.set_cons_succ])
   refine wpAnyH_done (by kernel_rfl) ?_ _
   refine NoPanic.normal ?_
   go_wp2_with fail
   go_ret2
   exact ⟨rfl, fr_call hb0 hHeld.2⟩
 ·rw [if_pos (by rfl)]
  refine wp_alloc_new 93 rfl _ (guessed_zero _) ?_
  intro g wz hgz hG hb1 _
  have hgo : w0.heap.size ≤ g := by have := hHeld.2.size; omega
  refine hK.out _ _ (kp_step hb1 hHeld) (fun hHeld => ?_)
  clear hK K
  (try simp only [Act.put, List.setIfInBounds_toArray, List.set_cons_zero, List.set_cons_succ])
  refine wpAnyH_ready (rs := [2]) (by kernel_rfl) (by simp) ?_
  refine (AllReadyH.cons (o := ⟨some 14, .call { callee := .value (.func 61), args := #[.tmp 13], argTypes := #[40] }, 4, "guess.go:318", #[⟨1, .data⟩], none⟩) rfl (fun K hK => ?_) AllReadyH.nil)
  rw [if_pos (by rfl)]
  go_simp
  refine (isFraction_is f.1 f.2 _ true hfr).mono ?_
  rintro e' WA ⟨rfl, hbA⟩
  (try replace hG := hG.keep hbA)
  refine hK.out _ _ (kp_step hbA hHeld) (fun hHeld => ?_)
  clear hK K
  (try simp only [Act.put, List.setIfInBounds_toArray, List.set_cons_zero, List.set_cons_succ])
  refine wpAnyH_ready (rs := [3]) (by kernel_rfl) (by simp) ?_
  refine (AllReadyH.cons (o := ⟨some 15, .call { callee := .value (.func 53), args := #[.tmp 12, .tmp 14], argTypes := #[25, 4] }, 101, "guess.go:318", #[⟨0, .data⟩, ⟨2, .data⟩, ⟨2, .chain⟩], none⟩) rfl (fun K hK => ?_) AllReadyH.nil)
  rw [if_pos (by rfl)]
  go_simp
  refine (asked_nil A N wc nc ws ns _ (hf.keep hHeld.2) hv h0).mono ?_
  rintro e' WB ⟨rfl, hbB⟩
  (try replace hG := hG.keep hbB)
  refine hK.out _ _ (kp_step hbB hHeld) (fun hHeld => ?_)
  clear hK K
  (try simp only [Act.put, List.setIfInBounds_toArray, List.set_cons_zero, List.set_cons_succ])
  refine wpAnyH_take (i := 4) (oi := ⟨some 11, .move (.tmp 15), 101, "guess.go:318", #[⟨3, .data⟩], none⟩) (v := ?_) rfl (by kernel_rfl) (by kernel_rfl) (by kernel_rfl) (fun _ _ _ h => h) (Or.inl ⟨by rfl, fun W hSw => ?_⟩) hHeld ?_
  rotate_left
  ·(try dsimp only at hSw); go_simp; (try with_reducible rfl)
  (try simp only [Act.put, List.setIfInBounds_toArray, List.set_cons_zero, List.set_cons_succ])
  refine wpAnyH_take (i := 5) (oi := ⟨some 16, .extract (.tmp 11) 0, 93, "guess.go:318", #[⟨4, .data⟩], none⟩) (v := ?_) rfl (by kernel_rfl) (by kernel_rfl) (by kernel_rfl) (fun _ _ _ h => h) (Or.inl ⟨by rfl, fun W hSw => ?_⟩) hHeld ?_
  rotate_left
  ·(try dsimp only at hSw); go_simp; (try with_reducible rfl)
  (try simp only [Act.put, List.setIfInBounds_toArray, List.set_cons_zero, List.set_cons_succ])
  refine wpAnyH_take (i := 6) (oi := ⟨some 17, .extract (.tmp 11) 1, 31, "guess.go:318", #[⟨4, .data⟩, ⟨8, .gcOnly .lateStores⟩], none⟩) (v := ?_) rfl (by kernel_rfl) (by kernel_rfl) (by kernel_rfl) (fun _ _ _ h => h) (Or.inl ⟨by rfl, fun W hSw => ?_⟩) hHeld ?_
  rotate_left
  ·(try dsimp only at hSw); go_simp; (try with_reducible rfl)
  (try simp only [Act.put, List.setIfInBounds_toArray, List.set_cons_zero, List.set_cons_succ])
  refine wpAnyH_ready (rs := [8]) (by kernel_rfl) (by simp) ?_
  refine (AllReadyH.cons (o := ⟨none, .store 93 (.tmp 6) (.tmp 16), 0, "guess.go:318", #[⟨7, .data⟩, ⟨5, .data⟩, ⟨3, .chain⟩, ⟨0, .phase⟩, ⟨1, .phase⟩, ⟨2, .phase⟩, ⟨3, .phase⟩, ⟨4, .phase⟩, ⟨5, .phase⟩, ⟨6, .textOnly .lateStores⟩, ⟨7, .phase⟩], none⟩) rfl (fun K hK => ?_) AllReadyH.nil)
  rw [if_pos (by rfl)]
  refine wp_store_blk _ _ _ rfl g 93 _ _ rfl rfl hG rfl (by kernel_rfl) (by simp [Value.oneCell']) ?_
  intro wz hG2 hgr
  have hfin : Below w0.heap.size w0 wz := hHeld.2.grown hgr hHeld.2.size (by intro k hk; cases hk; exact hgo)
  refine hK.out _ _ (kp_of hfin) (fun hHeld => ?_)
  clear hK K
  refine wpAnyH_take (i := 9) (oi := ⟨some 7, .assign (.tmp 17), 31, "guess.go:318", #[⟨6, .data⟩, ⟨8, .chain⟩, ⟨0, .phase⟩, ⟨1, .phase⟩, ⟨2, .phase⟩, ⟨3, .phase⟩, ⟨4, .phase⟩, ⟨5, .phase⟩, ⟨6, .phase⟩, ⟨7, .phase⟩, ⟨8, .phase⟩], none⟩) (v := ?_) rfl (by kernel_rfl) (by kernel_rfl) (by kernel_rfl) (fun _ _ _ h => h) (Or.inl ⟨by rfl, fun W hSw => ?_⟩) hHeld ?_
  rotate_left
  ·(try dsimp only at hSw); go_simp; (try with_reducible rfl)
  (try simp only [Act.put, List.setIfInBounds_toArray, List.set_cons_zero, List.set_cons_succ])
  refine wpAnyH_done (by kernel_rfl) ?_ _
  refine NoPanic.normal ?_
  go_wp2_with fail
  go_ret2
  exact ⟨rfl, fr_call hb0 hHeld.2⟩
set_option maxRecDepth 100000 in
set_option maxHeartbeats 8000000 in
theorem Sure_some (A N : Option Addr) (wc nc : Nat) (ws : List Wh) (ns : List Note) (f : Int × Int) (w : World) (hf : FindAt w A N ws ns) (hv : FindOk ws ns) (hfr : fracB f.1 f.2 = true) (hok : FracOk f) (h0 : ¬ guessL ws ns = []) :
  Calls Tryz.prog 34 #[.agg #[.slice A ws.length wc, .slice N ns.length nc], .agg #[.int .i64 f.1, .int .i64 f.2]] w (RetW w 0 (sureN f (guessL ws ns))) := by
 have hmf : ∀ (fn : Fn) (first cap : Array Value) (w : World), (Instr.makeFunc fn first cap).run Tryz.prog w = .ok (.func fn first cap) w := fun _ _ _ _ => rfl
 have hb0 := fr_alloc (fr_alloc (fr_refl w) (.cells #[.slice A ws.length wc, .slice N ns.length nc] 25)) (.cells #[.int .i64 f.1, .int .i64 f.2] 40)
 have hX := (Blk.new w 25 #[.slice A ws.length wc, .slice N ns.length nc]).alloc (.cells #[.int .i64 f.1, .int .i64 f.2] 40)
 have hF : Blk ((w.alloc (.cells #[.slice A ws.length wc, .slice N ns.length nc] 25)).alloc (.cells #[.int .i64 f.1, .int .i64 f.2] 40)) (w.heap.size + 1) 40 #[.int .i64 f.1, .int .i64 f.2] := Blk.new_at _ _ (by simp)
 replace hf := hf.keep hb0
 refine (callsIn_wide (n := 6)).1 (callsIn_of_wp_marks Tryz.func34 rfl trivial ?_ rfl)
 simp only [Tryz.ntmps34, List.size_toArray, List.length_cons, List.length_nil, Nat.reduceAdd, Nat.reduceSub, Array.replicate_succ, Array.replicate_zero, List.push_toArray, List.append_toArray, List.nil_append, List.cons_append]
 refine wpIn_wide.2 ?_
 go_upto_region 1 with (fail)
 generalize (w.alloc (.cells #[.slice A ws.length wc, .slice N ns.length nc] 25)).alloc (.cells #[.int .i64 f.1, .int .i64 f.2] 40) = w0 at *
 have hcX := fun j => hX.cell j
 have hcF := fun j => hF.cell j
 have hlX := hX.lt
 have hlF := hF.lt
 refine wp_region_noPanic ?_
 refine wp_region_held_drew (S := fun W => (∀ p : Addr, p.block < (w0).heap.size → W.cell? p = (w0).cell? p) ∧ Below (w0).heap.size (w0) W) (by kernel_rfl) ⟨fun _ _ => rfl, fr_drew (fr_refl _)⟩ (fun hHeld => ?_)
 generalize w0.drew = wd at hHeld ⊢
 -- the region, step by step, in whatever order
 refine wpAnyH_take (i := 0) (oi := ⟨some 12, .load 25 (.tmp 2), 25, "guess.go:318", #[], none⟩) (v := ?_) rfl (by kernel_rfl) (by kernel_rfl) (by kernel_rfl) (fun _ _ _ h => h) (Or.inl ⟨by rfl, fun W hSw => ?_⟩) hHeld ?_
 rotate_left
 ·(try dsimp only at hSw); go_simp; (try with_reducible rfl)
 (try simp only [Act.put, List.setIfInBounds_toArray, List.set_cons_zero, List.set_cons_succ])
 refine wpAnyH_take (i := 1) (oi := ⟨some 13, .load 40 (.tmp 3), 40, "guess.go:318", #[], none⟩) (v := ?_) rfl (by kernel_rfl) (by kernel_rfl) (by kernel_rfl) (fun _ _ _ h => h) (Or.inl ⟨by rfl, fun W hSw => ?_⟩) hHeld ?_
 rotate_left
 ·(try dsimp only at hSw); go_simp; (try with_reducible rfl)
 (try simp only [Act.put, List.setIfInBounds_toArray, List.set_cons_zero, List.set_cons_succ])
 refine wpAnyH_ready (rs := [2, 7]) (by kernel_rfl) (by simp) ?_
 refine (AllReadyH.cons (o := ⟨some 14, .call { callee := .value (.func 61), args := #[.tmp 13], argTypes := #[40] }, 4, "guess.go:318", #[⟨1, .data⟩], none⟩) rfl (fun K hK => ?_) (AllReadyH.cons (o := ⟨some 6, .alloc 93, 0, "guess.go:318", #[], none⟩) rfl (fun K hK => ?_) AllReadyH.nil))
 ·rw [if_pos (by rfl)]
  go_simp
  refine (isFraction_is f.1 f.2 _ true hfr).mono ?_
  rintro e' WA ⟨rfl, hbA⟩
  (try replace hG := hG.keep hbA)
  (try replace hL := hL.keep hbA)
  refine hK.out _ _ (kp_step hbA hHeld) (fun hHeld => ?_)
  clear hK K
  (try simp only [Act.put, List.setIfInBounds_toArray, List.set_cons_zero, List.set_cons_succ])
  refine wpAnyH_ready (rs := [3, 7]) (by kernel_rfl) (by simp) ?_
  refine (AllReadyH.cons (o := ⟨some 15, .call { callee := .value (.func 53), args := #[.tmp 12, .tmp 14], argTypes := #[25, 4] }, 101, "guess.go:318", #[⟨0, .data⟩, ⟨2, .data⟩, ⟨2, .chain⟩], none⟩) rfl (fun K hK => ?_) (AllReadyH.cons (o := ⟨some 6, .alloc 93, 0, "guess.go:318", #[], none⟩) rfl (fun K hK => ?_) AllReadyH.nil))
  ·rw [if_pos (by rfl)]
   go_simp
   refine (asked_some A N wc nc ws ns _ (hf.keep hHeld.2) hv h0).mono ?_
   rintro e' WB ⟨L, lc, rfl, hL0, hbB⟩
   have hL := hL0.mono (Nat.zero_le _)
   clear hL0
   (try replace hG := hG.keep hbB)
   refine hK.out _ _ (kp_step hbB hHeld) (fun hHeld => ?_)
   clear hK K
   (try simp only [Act.put, List.setIfInBounds_toArray, List.set_cons_zero, List.set_cons_succ])
   refine wpAnyH_take (i := 4) (oi := ⟨some 11, .move (.tmp 15), 101, "guess.go:318", #[⟨3, .data⟩], none⟩) (v := ?_) rfl (by kernel_rfl) (by kernel_rfl) (by kernel_rfl) (fun _ _ _ h => h) (Or.inl ⟨by rfl, fun W hSw => ?_⟩) hHeld ?_
   rotate_left
   ·(try dsimp only at hSw); go_simp; (try with_reducible rfl)
   (try simp only [Act.put, List.setIfInBounds_toArray, List.set_cons_zero, List.set_cons_succ])
   refine wpAnyH_take (i := 5) (oi := ⟨some 16, .extract (.tmp 11) 0, 93, "guess.go:318", #[⟨4, .data⟩], none⟩) (v := ?_) rfl (by kernel_rfl) (by kernel_rfl) (by kernel_rfl) (fun _ _ _ h => h) (Or.inl ⟨by rfl, fun W hSw => ?_⟩) hHeld ?_
   rotate_left
   ·(try dsimp only at hSw); go_simp; (try with_reducible rfl)
   (try simp only [Act.put, List.setIfInBounds_toArray, List.set_cons_zero, List.set_cons_succ])
   refine wpAnyH_take (i := 6) (oi := ⟨some 17, .extract (.tmp 11) 1, 31, "guess.go:318", #[⟨4, .data⟩, ⟨8, .gcOnly .lateStores⟩], none⟩) (v := ?_) rfl (by kernel_rfl) (by kernel_rfl) (by kernel_rfl) (fun _ _ _ h => h) (Or.inl ⟨by rfl, fun W hSw => ?_⟩) hHeld ?_
   rotate_left
   ·(try dsimp only at hSw); go_simp; (try with_reducible rfl)
   (try simp only [Act.put, List.setIfInBounds_toArray, List.set_cons_zero, List.set_cons_succ])
   refine wpAnyH_ready (rs := [7]) (by kernel_rfl) (by simp) ?_
   refine (AllReadyH.cons (o := ⟨some 6, .alloc 93, 0, "guess.go:318", #[], none⟩) rfl (fun K hK => ?_) AllReadyH.nil)
   rw [if_pos (by rfl)]
   refine wp_alloc_new 93 rfl _ (guessed_zero _) ?_
   intro g wz hgz hG hb1 _
   have hgo : w0.heap.size ≤ g := by have := hHeld.2.size; omega
   (try replace hL := hL.keep hb1)
   refine hK.out _ _ (kp_step hb1 hHeld) (fun hHeld => ?_)
   clear hK K
   (try simp only [Act.put, List.setIfInBounds_toArray, List.set_cons_zero, List.set_cons_succ])
   refine wpAnyH_ready (rs := [8]) (by kernel_rfl) (by simp) ?_
   refine (AllReadyH.cons (o := ⟨none, .store 93 (.tmp 6) (.tmp 16), 0, "guess.go:318", #[⟨7, .data⟩, ⟨5, .data⟩, ⟨3, .chain⟩, ⟨0, .phase⟩, ⟨1, .phase⟩, ⟨2, .phase⟩, ⟨3, .phase⟩, ⟨4, .phase⟩, ⟨5, .phase⟩, ⟨6, .textOnly .lateStores⟩, ⟨7, .phase⟩], none⟩) rfl (fun K hK => ?_) AllReadyH.nil)
   rw [if_pos (by rfl)]
   refine wp_store_blk _ _ _ rfl g 93 _ _ rfl rfl hG rfl (by kernel_rfl) (by simp [Value.oneCell']) ?_
   intro wz hG2 hgr
   (try replace hL := hL.grown hgr hG (by decide) (by decide))
   have hfin : Below w0.heap.size w0 wz := hHeld.2.grown hgr hHeld.2.size (by intro k hk; cases hk; exact hgo)
   refine hK.out _ _ (kp_of hfin) (fun hHeld => ?_)
   clear hK K
   refine wpAnyH_take (i := 9) (oi := ⟨some 7, .assign (.tmp 17), 31, "guess.go:318", #[⟨6, .data⟩, ⟨8, .chain⟩, ⟨0, .phase⟩, ⟨1, .phase⟩, ⟨2, .phase⟩, ⟨3, .phase⟩, ⟨4, .phase⟩, ⟨5, .phase⟩, ⟨6, .phase⟩, ⟨7, .phase⟩, ⟨8, .phase⟩], none⟩) (v := ?_) rfl (by kernel_rfl) (by kernel_rfl) (by kernel_rfl) (fun _ _ _ h => h) (Or.inl ⟨by rfl, fun W hSw => ?_⟩) hHeld ?_
   rotate_left
   ·(try dsimp only at hSw); go_simp; (try with_reducible rfl)
   (try simp only [Act.put, List.setIfInBounds_toArray, List.set_cons_zero, List.set_cons_succ])
   refine wpAnyH_done (by kernel_rfl) ?_ _
   refine NoPanic.normal ?_
   have hF2 := hF.keep hHeld.2
   have hTs := hL.ts
   have hokT := guess_okT hv
   have hmany := guess_many hv
   have hb2 := fr_call hb0 hHeld.2
   have hltF := hF2.lt
   have hmo : MoFr f := by have h1 := hok.1; have h2 := hok.2; unfold MoFr Mo; omega
   clear hL hcX hcF hX hF hf
   have hb4 := fr_alloc (fr_alloc (fr_refl wz) (.cells #[.bool false] 4)) (.cells #[.bool false] 4)
   have hBs : Blk ((wz.alloc (.cells #[.bool false] 4)).alloc (.cells #[.bool false] 4)) wz.heap.size 4 #[.bool false] := (Blk.new wz _ _).alloc _
   have hBn : Blk ((wz.alloc (.cells #[.bool false] 4)).alloc (.cells #[.bool false] 4)) (wz.heap.size + 1) 4 #[.bool false] := Blk.new_at _ _ (by simp)
   have hG4 := hG2.keep hb4
   have hcG := fun j => hG4.cell j
   go_wp2_with fail
   obtain ⟨w4, hw4⟩ : ∃ w4, (wz.alloc (.cells #[.bool false] 4)).alloc (.cells #[.bool false] 4) = w4 := ⟨_, rfl⟩
   have hs4 : wz.heap.size + 1 + 1 ≤ w4.heap.size := by rw [← hw4]; simp
   rw [hw4] at hb4 hBs hBn hG4 hcG ⊢
   clear hw4
   refine (wpIn_wide (n := 6)).1 ?_
   refine wpIn_range_enter2 (gf := 55) rfl (enters_of Tryz.func55 (by kernel_rfl) rfl) (fun fn rec hst hpe hfn htm hpa has hbod => ?_)
   generalize hl : w4.heap.size + 1 = l at *
   obtain ⟨W1, hW1⟩ : ∃ W1, (w4.alloc (.deferred (some []))).alloc (.loop rec) = W1 := ⟨_, rfl⟩
   have hL1 : W1.heap[l]? = some (.loop rec) := by
    rw [← hW1, ← hl]; have := World.alloc_heap_new (w4.alloc (.deferred (some []))) (.loop rec); rwa [World.size_alloc] at this
   have hD1 : W1.heap[w4.heap.size]? = some (.deferred (some [])) := by
    rw [← hW1]; exact (Below.heap_alloc _ _ _ (by simp)).trans (World.alloc_heap_new w4 _)
   have hb41 : Below w4.heap.size w4 W1 := by rw [← hW1]; exact fr_alloc (fr_alloc (fr_refl _) _) _
   rw [hW1]
   have hbz1 := fr_call hb4 hb41
   have hlH : l < W1.heap.size := (Array.getElem?_eq_some_iff.1 hL1).1
   have h1 : SInv wz.heap.size wz f wz.heap.size (wz.heap.size + 1) w4.heap.size l rec [] W1 := ⟨Keep.of_below hbz1, hBs.keep hb41, hBn.keep hb41, hD1, hL1⟩
   have hY : ItY wz.heap.size (fun _ => false) W1.heap.size 5 l OkF MoFr (SInv wz.heap.size wz f wz.heap.size (wz.heap.size + 1) w4.heap.size l rec) := by
    refine ⟨fun d W W' h hb hk => h.move hb hk (by refine ⟨⟨?_, ?_⟩, ?_, ?_⟩ <;> omega), ?_⟩
    rintro d y v W hi hPy rfl
    have hy := run_yield (P := Tryz.prog) (args := #[.agg #[.int .i64 y.1, .int .i64 y.2]]) hi.lp (by rw [hpa]; rfl)
    rw [hfn, htm, hpa, has, hbod] at hy
    refine ⟨_, _, _, _, hy, roundIn_of_wpIn trivial ?_⟩
    clear hy
    gi_wp2
    have hbA := fr_alloc (fr_refl W) (.cells #[.int .i64 y.1, .int .i64 y.2] 40)
    have hX := Blk.new W 40 #[.int .i64 y.1, .int .i64 y.2]
    have hkA : KeepH wz.heap.size (fun _ => false) W1.heap.size W _ := KeepH.of_below hbA
    replace hi := hi.below hbA
    generalize W.alloc (.cells #[.int .i64 y.1, .int .i64 y.2] 40) = WA at *
    refine ⟨_, run_beginRound hi.lp hst, ?_⟩
    have hkB : KeepH wz.heap.size (fun _ => false) W1.heap.size W (WA.putObj l (.loop { rec with state := .busy })) := hkA.trans (keepH_put hi.lp rfl (by omega) _)
    replace hX := hX.grown (grownBy_putObj' WA l (.loop { rec with state := .busy })) (fun e => Obj_cells_ne hX hi.lp rfl (by cases e; rfl))
    have hiB := hi.put (by omega) (by omega) { rec with state := .busy }
    generalize WA.putObj l (.loop { rec with state := .busy }) = WB at *
    have hrec : ({ rec with state := .ready, pending := none } : Loop) = rec := by
     cases rec
     simp only at hst hpe
     rw [hst, hpe]
    have fin : ∀ (WC : World) (a : Act) (r : Loop), r = { rec with state := .busy } → SInv wz.heap.size wz f wz.heap.size (wz.heap.size + 1) w4.heap.size l r (d ++ [y]) WC → KeepH wz.heap.size (fun _ => false) W1.heap.size W WC →
      roundPost Tryz.prog l (fun e W' => e = .returned (.bool true) ∧ SInv wz.heap.size wz f wz.heap.size (wz.heap.size + 1) w4.heap.size l rec (d ++ [y]) W' ∧ KeepH wz.heap.size (fun _ => false) W1.heap.size W W') .normal a WC := by
     rintro WC a r rfl hi' hk'
     have h0 := hi'.put (by omega) (by omega) { { rec with state := .busy } with state := .ready, pending := none }
     have hk2 : KeepH wz.heap.size (fun _ => false) W1.heap.size WC (WC.putObj l (.loop { { rec with state := .busy } with state := .ready, pending := none })) := keepH_put hi'.lp rfl (by omega) _
     refine ⟨_, _, run_endRound none hi'.lp, rfl, ?_, hk'.trans hk2⟩
     exact ⟨h0.kp, h0.s, h0.n, h0.df, h0.lp.trans (congrArg some (congrArg Obj.loop hrec))⟩
    obtain ⟨rb, hrb⟩ : ∃ r : Loop, { rec with state := .busy } = r := ⟨_, rfl⟩
    rw [hrb] at hiB
    have FIN := fun WC a => fin WC a rb hrb.symm
    clear fin hrec hrb hst hpe hi htm hpa has hbod hfn
    have hF5 : Blk WB (w.heap.size + 1) 40 #[.int .i64 f.1, .int .i64 f.2] := hiB.kp.blk hF2 (Or.inl hltF)
    have hcF := fun j => hF5.cell j
    have hcX := fun j => hX.cell j
    gi_wp2
    refine ⟨trivial, ?_⟩
    refine CallsIn.mono (CallsIn.inRound l (callsIn_wide.2 (above_is f.1 f.2 y.1 y.2 WB hmo.1 hmo.2 hPy.1 hPy.2 _ rfl))) ?_
    rintro e wC ⟨rfl, hbC⟩
    replace hiB := hiB.below hbC
    replace hX := hX.keep hbC
    replace hF5 := hF5.keep hbC
    replace hkB := hkB.then_below hbC
    clear hcF hcX
    have hcF := fun j => hF5.cell j
    have hcX := fun j => hX.cell j
    have hlt4 := hb4.size
    have hcn := hiB.n.cell 0
    have hfn := hiB.n.frozen 0
    have NEXT := fun g hg => hiB.next (H := W1.heap.size) (y := y) g hg (by omega) (by refine ⟨⟨?_, ?_⟩, ?_, ?_⟩ <;> omega)
    cases hq1 : aboveB f.1 f.2 y.1 y.2 with
    | true =>
     gi_wp2
     refine ⟨trivial, ?_⟩
     gi_wp2
     have hT := NEXT (wz.heap.size + 1) (by simp [offB, hq1])
     exact FIN _ _ hT.1 (hkB.trans hT.2)
    | false =>
     gi_wp2
     refine ⟨trivial, ?_⟩
     refine CallsIn.mono (CallsIn.inRound l (callsIn_wide.2 (above_is y.1 y.2 f.1 f.2 wC hPy.1 hPy.2 hmo.1 hmo.2 _ rfl))) ?_
     rintro e wD ⟨rfl, hbD⟩
     clear NEXT hcn hfn hcF hcX
     replace hiB := hiB.below hbD
     replace hkB := hkB.then_below hbD
     have hcn := hiB.n.cell 0
     have hfn := hiB.n.frozen 0
     have hcs := hiB.s.cell 0
     have hfs := hiB.s.frozen 0
     have NEXT := fun g hg => hiB.next (H := W1.heap.size) (y := y) g hg (by omega) (by refine ⟨⟨?_, ?_⟩, ?_, ?_⟩ <;> omega)
     cases hq2 : aboveB y.1 y.2 f.1 f.2 with
     | true =>
      gi_wp2
      have hT := NEXT (wz.heap.size + 1) (by simp [offB, hq1, hq2])
      exact FIN _ _ hT.1 (hkB.trans hT.2)
     | false =>
      gi_wp2
      have hT := NEXT wz.heap.size (by simp [offB, hq1, hq2])
      exact FIN _ _ hT.1 (hkB.trans hT.2)
   have hPm : ∀ x ∈ (guessL ws ns).map fracOf, MoFr x := fun x hx => by
    obtain ⟨t, ht, rfl⟩ := List.mem_map.1 hx
    exact fracOf_mo (hokT t ht)
   refine CallsIn.mono (callsIn_wide.2 (turning_any A N L _ _ _ _ lc _ (guessL ws ns) wz hTs hokT rfl (by omega) l MoFr _ W1 hPm hbz1 (Nat.le_refl _) hY h1)) ?_
   rintro e W ⟨rfl, hi, hk⟩
   have hi4 := hi.put (by omega) (by omega) { rec with state := .exhausted, pending := none }
   refine ⟨_, _, run_endLoop hi.lp (by rw [hst]; simp), ?_⟩
   rw [hpe]
   have hF4 := (hi4.kp.below (fr_refl wz) (Nat.le_refl _) (Nat.le_refl _))
   have hD4 := hi4.df
   have hcs := hi4.s.cell 0
   have hcn := hi4.n.cell 0
   have hk4 := hi4.kp.size
   clear hi hk hi4 hY h1 hPm
   generalize W.putObj l (.loop { rec with state := .exhausted, pending := none }) = W4 at *
   have hSN := Lib.hid (show sureN f (guessL ws ns) = if ((guessL ws ns).map fracOf).any (offB f) then (if ((guessL ws ns).map fracOf).any (fun y => !offB f y) then 2 else 1) else 3 from rfl)
   generalize ((guessL ws ns).map fracOf).any (offB f) = bo at *
   generalize ((guessL ws ns).map fracOf).any (fun y => !offB f y) = bi at *
   cases bo
   all_goals
    cases bi
    all_goals
     go_wp2_with fail
     refine ⟨by simp, .inl ⟨_, _, rfl, run_takeDeferred hD4, ?_⟩⟩
     have hk6 : Keep wz.heap.size (fun _ => false) W4 (W4.putObj w4.heap.size (.deferred none)) := keep_put hD4 rfl (by omega) _
     refine ⟨_, results_tmp2 rfl _ _ _, ?_, fr_call hb2 (hk6.below hF4 (Nat.le_refl _) (Nat.le_refl _))⟩
     rw [hSN.out]
     rfl
  ·rw [if_pos (by rfl)]
   refine wp_alloc_new 93 rfl _ (guessed_zero _) ?_
   intro g wz hgz hG hb1 _
   have hgo : w0.heap.size ≤ g := by have := hHeld.2.size; omega
   (try replace hL := hL.keep hb1)
   refine hK.out _ _ (kp_step hb1 hHeld) (fun hHeld => ?_)
   clear hK K
   (try simp only [Act.put, List.setIfInBounds_toArray, List.set_cons_zero, List.set_cons_succ])
   refine wpAnyH_ready (rs := [3]) (by kernel_rfl) (by simp) ?_
   refine (AllReadyH.cons (o := ⟨some 15, .call { callee := .value (.func 53), args := #[.tmp 12, .tmp 14], argTypes := #[25, 4] }, 101, "guess.go:318", #[⟨0, .data⟩, ⟨2, .data⟩, ⟨2, .chain⟩], none⟩) rfl (fun K hK => ?_) AllReadyH.nil)
   rw [if_pos (by rfl)]
   go_simp
   refine (asked_some A N wc nc ws ns _ (hf.keep hHeld.2) hv h0).mono ?_
   rintro e' WB ⟨L, lc, rfl, hL0, hbB⟩
   have hL := hL0.mono (Nat.zero_le _)
   clear hL0
   (try replace hG := hG.keep hbB)
   refine hK.out _ _ (kp_step hbB hHeld) (fun hHeld => ?_)
   clear hK K
   (try simp only [Act.put, List.setIfInBounds_toArray, List.set_cons_zero, List.set_cons_succ])
   refine wpAnyH_take (i := 4) (oi := ⟨some 11, .move (.tmp 15), 101, "guess.go:318", #[⟨3, .data⟩], none⟩) (v := ?_) rfl (by kernel_rfl) (by kernel_rfl) (by kernel_rfl) (fun _ _ _ h => h) (Or.inl ⟨by rfl, fun W hSw => ?_⟩) hHeld ?_
   rotate_left
   ·(try dsimp only at hSw); go_simp; (try with_reducible rfl)
   (try simp only [Act.put, List.setIfInBounds_toArray, List.set_cons_zero, List.set_cons_succ])
   refine wpAnyH_take (i := 5) (oi := ⟨some 16, .extract (.tmp 11) 0, 93, "guess.go:318", #[⟨4, .data⟩], none⟩) (v := ?_) rfl (by kernel_rfl) (by kernel_rfl) (by kernel_rfl) (fun _ _ _ h => h) (Or.inl ⟨by rfl, fun W hSw => ?_⟩) hHeld ?_
   rotate_left
   ·(try dsimp only at hSw); go_simp; (try with_reducible rfl)
   (try simp only [Act.put, List.setIfInBounds_toArray, List.set_cons_zero, List.set_cons_succ])
   refine wpAnyH_take (i := 6) (oi := ⟨some 17, .extract (.tmp 11) 1, 31, "guess.go:318", #[⟨4, .data⟩, ⟨8, .gcOnly .lateStores⟩], none⟩) (v := ?_) rfl (by kernel_rfl) (by kernel_rfl) (by kernel_rfl) (fun _ _ _ h => h) (Or.inl ⟨by rfl, fun W hSw => ?_⟩) hHeld ?_
   rotate_left
   ·(try dsimp only at hSw); go_simp; (try with_reducible rfl)
   (try simp only [Act.put, List.setIfInBounds_toArray, List.set_cons_zero, List.set_cons_succ])
   refine wpAnyH_ready (rs := [8]) (by kernel_rfl) (by simp) ?_
   refine (AllReadyH.cons (o := ⟨none, .store 93 (.tmp 6) (.tmp 16), 0, "guess.go:318", #[⟨7, .data⟩, ⟨5, .data⟩, ⟨3, .chain⟩, ⟨0, .phase⟩, ⟨1, .phase⟩, ⟨2, .phase⟩, ⟨3, .phase⟩, ⟨4, .phase⟩, ⟨5, .phase⟩, ⟨6, .textOnly .lateStores⟩, ⟨7, .phase⟩], none⟩) rfl (fun K hK => ?_) AllReadyH.nil)
   rw [if_pos (by rfl)]
   refine wp_store_blk _ _ _ rfl g 93 _ _ rfl rfl hG rfl (by kernel_rfl) (by simp [Value.oneCell']) ?_
   intro wz hG2 hgr
   (try replace hL := hL.grown hgr hG (by decide) (by decide))
   have hfin : Below w0.heap.size w0 wz := hHeld.2.grown hgr hHeld.2.size (by intro k hk; cases hk; exact hgo)
   refine hK.out _ _ (kp_of hfin) (fun hHeld => ?_)
   clear hK K
   refine wpAnyH_take (i := 9) (oi := ⟨some 7, .assign (.tmp 17), 31, "guess.go:318", #[⟨6, .data⟩, ⟨8, .chain⟩, ⟨0, .phase⟩, ⟨1, .phase⟩, ⟨2, .phase⟩, ⟨3, .phase⟩, ⟨4, .phase⟩, ⟨5, .phase⟩, ⟨6, .phase⟩, ⟨7, .phase⟩, ⟨8, .phase⟩], none⟩) (v := ?_) rfl (by kernel_rfl) (by kernel_rfl) (by kernel_rfl) (fun _ _ _ h => h) (Or.inl ⟨by rfl, fun W hSw => ?_⟩) hHeld ?_
   rotate_left
   ·(try dsimp only at hSw); go_simp; (try with_reducible rfl)
   (try simp only [Act.put, List.setIfInBounds_toArray, List.set_cons_zero, List.set_cons_succ])
   refine wpAnyH_done (by kernel_rfl) ?_ _
   refine NoPanic.normal ?_
   have hF2 := hF.keep hHeld.2
   have hTs := hL.ts
   have hokT := guess_okT hv
   have hmany := guess_many hv
   have hb2 := fr_call hb0 hHeld.2
   have hltF := hF2.lt
   have hmo : MoFr f := by have h1 := hok.1; have h2 := hok.2; unfold MoFr Mo; omega
   clear hL hcX hcF hX hF hf
   have hb4 := fr_alloc (fr_alloc (fr_refl wz) (.cells #[.bool false] 4)) (.cells #[.bool false] 4)
   have hBs : Blk ((wz.alloc (.cells #[.bool false] 4)).alloc (.cells #[.bool false] 4)) wz.heap.size 4 #[.bool false] := (Blk.new wz _ _).alloc _
   have hBn : Blk ((wz.alloc (.cells #[.bool false] 4)).alloc (.cells #[.bool false] 4)) (wz.heap.size + 1) 4 #[.bool false] := Blk.new_at _ _ (by simp)
   have hG4 := hG2.keep hb4
   have hcG := fun j => hG4.cell j
   go_wp2_with fail
   obtain ⟨w4, hw4⟩ : ∃ w4, (wz.alloc (.cells #[.bool false] 4)).alloc (.cells #[.bool false] 4) = w4 := ⟨_, rfl⟩
   have hs4 : wz.heap.size + 1 + 1 ≤ w4.heap.size := by rw [← hw4]; simp
   rw [hw4] at hb4 hBs hBn hG4 hcG ⊢
   clear hw4
   refine (wpIn_wide (n := 6)).1 ?_
   refine wpIn_range_enter2 (gf := 55) rfl (enters_of Tryz.func55 (by kernel_rfl) rfl) (fun fn rec hst hpe hfn htm hpa has hbod => ?_)
   generalize hl : w4.heap.size + 1 = l at *
   obtain ⟨W1, hW1⟩ : ∃ W1, (w4.alloc (.deferred (some []))).alloc (.loop rec) = W1 := ⟨_, rfl⟩
   have hL1 : W1.heap[l]? = some (.loop rec) := by
    rw [← hW1, ← hl]; have := World.alloc_heap_new (w4.alloc (.deferred (some []))) (.loop rec); rwa [World.size_alloc] at this
   have hD1 : W1.heap[w4.heap.size]? = some (.deferred (some [])) := by
    rw [← hW1]; exact (Below.heap_alloc _ _ _ (by simp)).trans (World.alloc_heap_new w4 _)
   have hb41 : Below w4.heap.size w4 W1 := by rw [← hW1]; exact fr_alloc (fr_alloc (fr_refl _) _) _
   rw [hW1]
   have hbz1 := fr_call hb4 hb41
   have hlH : l < W1.heap.size := (Array.getElem?_eq_some_iff.1 hL1).1
   have h1 : SInv wz.heap.size wz f wz.heap.size (wz.heap.size + 1) w4.heap.size l rec [] W1 := ⟨Keep.of_below hbz1, hBs.keep hb41, hBn.keep hb41, hD1, hL1⟩
   have hY : ItY wz.heap.size (fun _ => false) W1.heap.size 5 l OkF MoFr (SInv wz.heap.size wz f wz.heap.size (wz.heap.size + 1) w4.heap.size l rec) := by
    refine ⟨fun d W W' h hb hk => h.move hb hk (by refine ⟨⟨?_, ?_⟩, ?_, ?_⟩ <;> omega), ?_⟩
    rintro d y v W hi hPy rfl
    have hy := run_yield (P := Tryz.prog) (args := #[.agg #[.int .i64 y.1, .int .i64 y.2]]) hi.lp (by rw [hpa]; rfl)
    rw [hfn, htm, hpa, has, hbod] at hy
    refine ⟨_, _, _, _, hy, roundIn_of_wpIn trivial ?_⟩
    clear hy
    gi_wp2
    have hbA := fr_alloc (fr_refl W) (.cells #[.int .i64 y.1, .int .i64 y.2] 40)
    have hX := Blk.new W 40 #[.int .i64 y.1, .int .i64 y.2]
    have hkA : KeepH wz.heap.size (fun _ => false) W1.heap.size W _ := KeepH.of_below hbA
    replace hi := hi.below hbA
    generalize W.alloc (.cells #[.int .i64 y.1, .int .i64 y.2] 40) = WA at *
    refine ⟨_, run_beginRound hi.lp hst, ?_⟩
    have hkB : KeepH wz.heap.size (fun _ => false) W1.heap.size W (WA.putObj l (.loop { rec with state := .busy })) := hkA.trans (keepH_put hi.lp rfl (by omega) _)
    replace hX := hX.grown (grownBy_putObj' WA l (.loop { rec with state := .busy })) (fun e => Obj_cells_ne hX hi.lp rfl (by cases e; rfl))
    have hiB := hi.put (by omega) (by omega) { rec with state := .busy }
    generalize WA.putObj l (.loop { rec with state := .busy }) = WB at *
    have hrec : ({ rec with state := .ready, pending := none } : Loop) = rec := by
     cases rec
     simp only at hst hpe
     rw [hst, hpe]
    have fin : ∀ (WC : World) (a : Act) (r : Loop), r = { rec with state := .busy } → SInv wz.heap.size wz f wz.heap.size (wz.heap.size + 1) w4.heap.size l r (d ++ [y]) WC → KeepH wz.heap.size (fun _ => false) W1.heap.size W WC →
      roundPost Tryz.prog l (fun e W' => e = .returned (.bool true) ∧ SInv wz.heap.size wz f wz.heap.size (wz.heap.size + 1) w4.heap.size l rec (d ++ [y]) W' ∧ KeepH wz.heap.size (fun _ => false) W1.heap.size W W') .normal a WC := by
     rintro WC a r rfl hi' hk'
     have h0 := hi'.put (by omega) (by omega) { { rec with state := .busy } with state := .ready, pending := none }
     have hk2 : KeepH wz.heap.size (fun _ => false) W1.heap.size WC (WC.putObj l (.loop { { rec with state := .busy } with state := .ready, pending := none })) := keepH_put hi'.lp rfl (by omega) _
     refine ⟨_, _, run_endRound none hi'.lp, rfl, ?_, hk'.trans hk2⟩
     exact ⟨h0.kp, h0.s, h0.n, h0.df, h0.lp.trans (congrArg some (congrArg Obj.loop hrec))⟩
    obtain ⟨rb, hrb⟩ : ∃ r : Loop, { rec with state := .busy } = r := ⟨_, rfl⟩
    rw [hrb] at hiB
    have FIN := fun WC a => fin WC a rb hrb.symm
    clear fin hrec hrb hst hpe hi htm hpa has hbod hfn
    have hF5 : Blk WB (w.heap.size + 1) 40 #[.int .i64 f.1, .int .i64 f.2] := hiB.kp.blk hF2 (Or.inl hltF)
    have hcF := fun j => hF5.cell j
    have hcX := fun j => hX.cell j
    gi_wp2
    refine ⟨trivial, ?_⟩
    refine CallsIn.mono (CallsIn.inRound l (callsIn_wide.2 (above_is f.1 f.2 y.1 y.2 WB hmo.1 hmo.2 hPy.1 hPy.2 _ rfl))) ?_
    rintro e wC ⟨rfl, hbC⟩
    replace hiB := hiB.below hbC
    replace hX := hX.keep hbC
    replace hF5 := hF5.keep hbC
    replace hkB := hkB.then_below hbC
    clear hcF hcX
    have hcF := fun j => hF5.cell j
    have hcX := fun j => hX.cell j
    have hlt4 := hb4.size
    have hcn := hiB.n.cell 0
    have hfn := hiB.n.frozen 0
    have NEXT := fun g hg => hiB.next (H := W1.heap.size) (y := y) g hg (by omega) (by refine ⟨⟨?_, ?_⟩, ?_, ?_⟩ <;> omega)
    cases hq1 : aboveB f.1 f.2 y.1 y.2 with
    | true =>
     gi_wp2
     refine ⟨trivial, ?_⟩
     gi_wp2
     have hT := NEXT (wz.heap.size + 1) (by simp [offB, hq1])
     exact FIN _ _ hT.1 (hkB.trans hT.2)
    | false =>
     gi_wp2
     refine ⟨trivial, ?_⟩
     refine CallsIn.mono (CallsIn.inRound l (callsIn_wide.2 (above_is y.1 y.2 f.1 f.2 wC hPy.1 hPy.2 hmo.1 hmo.2 _ rfl))) ?_
     rintro e wD ⟨rfl, hbD⟩
     clear NEXT hcn hfn hcF hcX
     replace hiB := hiB.below hbD
     replace hkB := hkB.then_below hbD
     have hcn := hiB.n.cell 0
     have hfn := hiB.n.frozen 0
     have hcs := hiB.s.cell 0
     have hfs := hiB.s.frozen 0
     have NEXT := fun g hg => hiB.next (H := W1.heap.size) (y := y) g hg (by omega) (by refine ⟨⟨?_, ?_⟩, ?_, ?_⟩ <;> omega)
     cases hq2 : aboveB y.1 y.2 f.1 f.2 with
     | true =>
      gi_wp2
      have hT := NEXT (wz.heap.size + 1) (by simp [offB, hq1, hq2])
      exact FIN _ _ hT.1 (hkB.trans hT.2)
     | false =>
      gi_wp2
      have hT := NEXT wz.heap.size (by simp [offB, hq1, hq2])
      exact FIN _ _ hT.1 (hkB.trans hT.2)
   have hPm : ∀ x ∈ (guessL ws ns).map fracOf, MoFr x := fun x hx => by
    obtain ⟨t, ht, rfl⟩ := List.mem_map.1 hx
    exact fracOf_mo (hokT t ht)
   refine CallsIn.mono (callsIn_wide.2 (turning_any A N L _ _ _ _ lc _ (guessL ws ns) wz hTs hokT rfl (by omega) l MoFr _ W1 hPm hbz1 (Nat.le_refl _) hY h1)) ?_
   rintro e W ⟨rfl, hi, hk⟩
   have hi4 := hi.put (by omega) (by omega) { rec with state := .exhausted, pending := none }
   refine ⟨_, _, run_endLoop hi.lp (by rw [hst]; simp), ?_⟩
   rw [hpe]
   have hF4 := (hi4.kp.below (fr_refl wz) (Nat.le_refl _) (Nat.le_refl _))
   have hD4 := hi4.df
   have hcs := hi4.s.cell 0
   have hcn := hi4.n.cell 0
   have hk4 := hi4.kp.size
   clear hi hk hi4 hY h1 hPm
   generalize W.putObj l (.loop { rec with state := .exhausted, pending := none }) = W4 at *
   have hSN := Lib.hid (show sureN f (guessL ws ns) = if ((guessL ws ns).map fracOf).any (offB f) then (if ((guessL ws ns).map fracOf).any (fun y => !offB f y) then 2 else 1) else 3 from rfl)
   generalize ((guessL ws ns).map fracOf).any (offB f) = bo at *
   generalize ((guessL ws ns).map fracOf).any (fun y => !offB f y) = bi at *
   cases bo
   all_goals
    cases bi
    all_goals
     go_wp2_with fail
     refine ⟨by simp, .inl ⟨_, _, rfl, run_takeDeferred hD4, ?_⟩⟩
     have hk6 : Keep wz.heap.size (fun _ => false) W4 (W4.putObj w4.heap.size (.deferred none)) := keep_put hD4 rfl (by omega) _
     refine ⟨_, results_tmp2 rfl _ _ _, ?_, fr_call hb2 (hk6.below hF4 (Nat.le_refl _) (Nat.le_refl _))⟩
     rw [hSN.out]
     rfl
 ·rw [if_pos (by rfl)]
  refine wp_alloc_new 93 rfl _ (guessed_zero _) ?_
  intro g wz hgz hG hb1 _
  have hgo : w0.heap.size ≤ g := by have := hHeld.2.size; omega
  (try replace hL := hL.keep hb1)
  refine hK.out _ _ (kp_step hb1 hHeld) (fun hHeld => ?_)
  clear hK K
  (try simp only [Act.put, List.setIfInBounds_toArray, List.set_cons_zero, List.set_cons_succ])
  refine wpAnyH_ready (rs := [2]) (by kernel_rfl) (by simp) ?_
  refine (AllReadyH.cons (o := ⟨some 14, .call { callee := .value (.func 61), args := #[.tmp 13], argTypes := #[40] }, 4, "guess.go:318", #[⟨1, .data⟩], none⟩) rfl (fun K hK => ?_) AllReadyH.nil)
  rw [if_pos (by rfl)]
  go_simp
  refine (isFraction_is f.1 f.2 _ true hfr).mono ?_
  rintro e' WA ⟨rfl, hbA⟩
  (try replace hG := hG.keep hbA)
  (try replace hL := hL.keep hbA)
  refine hK.out _ _ (kp_step hbA hHeld) (fun hHeld => ?_)
  clear hK K
  (try simp only [Act.put, List.setIfInBounds_toArray, List.set_cons_zero, List.set_cons_succ])
  refine wpAnyH_ready (rs := [3]) (by kernel_rfl) (by simp) ?_
  refine (AllReadyH.cons (o := ⟨some 15, .call { callee := .value (.func 53), args := #[.tmp 12, .tmp 14], argTypes := #[25, 4] }, 101, "guess.go:318", #[⟨0, .data⟩, ⟨2, .data⟩, ⟨2, .chain⟩], none⟩) rfl (fun K hK => ?_) AllReadyH.nil)
  rw [if_pos (by rfl)]
  go_simp
  refine (asked_some A N wc nc ws ns _ (hf.keep hHeld.2) hv h0).mono ?_
  rintro e' WB ⟨L, lc, rfl, hL0, hbB⟩
  have hL := hL0.mono (Nat.zero_le _)
  clear hL0
  (try replace hG := hG.keep hbB)
  refine hK.out _ _ (kp_step hbB hHeld) (fun hHeld => ?_)
  clear hK K
  (try simp only [Act.put, List.setIfInBounds_toArray, List.set_cons_zero, List.set_cons_succ])
  refine wpAnyH_take (i := 4) (oi := ⟨some 11, .move (.tmp 15), 101, "guess.go:318", #[⟨3, .data⟩], none⟩) (v := ?_) rfl (by kernel_rfl) (by kernel_rfl) (by kernel_rfl) (fun _ _ _ h => h) (Or.inl ⟨by rfl, fun W hSw => ?_⟩) hHeld ?_
  rotate_left
  ·(try dsimp only at hSw); go_simp; (try with_reducible rfl)
  (try simp only [Act.put, List.setIfInBounds_toArray, List.set_cons_zero, List.set_cons_succ])
  refine wpAnyH_take (i := 5) (oi := ⟨some 16, .extract (.tmp 11) 0, 93, "guess.go:318", #[⟨4, .data⟩], none⟩) (v := ?_) rfl (by kernel_rfl) (by kernel_rfl) (by kernel_rfl) (fun _ _ _ h => h) (Or.inl ⟨by rfl, fun W hSw => ?_⟩) hHeld ?_
  rotate_left
  ·(try dsimp only at hSw); go_simp; (try with_reducible rfl)
  (try simp only [Act.put, List.setIfInBounds_toArray, List.set_cons_zero, List.set_cons_succ])
  refine wpAnyH_take (i := 6) (oi := ⟨some 17, .extract (.tmp 11) 1, 31, "guess.go:318", #[⟨4, .data⟩, ⟨8, .gcOnly .lateStores⟩], none⟩) (v := ?_) rfl (by kernel_rfl) (by kernel_rfl) (by kernel_rfl) (fun _ _ _ h => h) (Or.inl ⟨by rfl, fun W hSw => ?_⟩) hHeld ?_
  rotate_left
  ·(try dsimp only at hSw); go_simp; (try with_reducible rfl)
  (try simp only [Act.put, List.setIfInBounds_toArray, List.set_cons_zero, List.set_cons_succ])
  refine wpAnyH_ready (rs := [8]) (by kernel_rfl) (by simp) ?_
  refine (AllReadyH.cons (o := ⟨none, .store 93 (.tmp 6) (.tmp 16), 0, "guess.go:318", #[⟨7, .data⟩, ⟨5, .data⟩, ⟨3, .chain⟩, ⟨0, .phase⟩, ⟨1, .phase⟩, ⟨2, .phase⟩, ⟨3, .phase⟩, ⟨4, .phase⟩, ⟨5, .phase⟩, ⟨6, .textOnly .lateStores⟩, ⟨7, .phase⟩], none⟩) rfl (fun K hK => ?_) AllReadyH.nil)
  rw [if_pos (by rfl)]
  refine wp_store_blk _ _ _ rfl g 93 _ _ rfl rfl hG rfl (by kernel_rfl) (by simp [Value.oneCell']) ?_
  intro wz hG2 hgr
  (try replace hL := hL.grown hgr hG (by decide) (by decide))
  have hfin : Below w0.heap.size w0 wz := hHeld.2.grown hgr hHeld.2.size (by intro k hk; cases hk; exact hgo)
  refine hK.out _ _ (kp_of hfin) (fun hHeld => ?_)
  clear hK K
  refine wpAnyH_take (i := 9) (oi := ⟨some 7, .assign (.tmp 17), 31, "guess.go:318", #[⟨6, .data⟩, ⟨8, .chain⟩, ⟨0, .phase⟩, ⟨1, .phase⟩, ⟨2, .phase⟩, ⟨3, .phase⟩, ⟨4, .phase⟩, ⟨5, .phase⟩, ⟨6, .phase⟩, ⟨7, .phase⟩, ⟨8, .phase⟩], none⟩) (v := ?_) rfl (by kernel_rfl) (by kernel_rfl) (by kernel_rfl) (fun _ _ _ h => h) (Or.inl ⟨by rfl, fun W hSw => ?_⟩) hHeld ?_
  rotate_left
  ·(try dsimp only at hSw); go_simp; (try with_reducible rfl)
  (try simp only [Act.put, List.setIfInBounds_toArray, List.set_cons_zero, List.set_cons_succ])
  refine wpAnyH_done (by kernel_rfl) ?_ _
  refine NoPanic.normal ?_
  have hF2 := hF.keep hHeld.2
  have hTs := hL.ts
  have hokT := guess_okT hv
  have hmany := guess_many hv
  have hb2 := fr_call hb0 hHeld.2
  have hltF := hF2.lt
  have hmo : MoFr f := by have h1 := hok.1; have h2 := hok.2; unfold MoFr Mo; omega
  clear hL hcX hcF hX hF hf
  have hb4 := fr_alloc (fr_alloc (fr_refl wz) (.cells #[.bool false] 4)) (.cells #[.bool false] 4)
  have hBs : Blk ((wz.alloc (.cells #[.bool false] 4)).alloc (.cells #[.bool false] 4)) wz.heap.size 4 #[.bool false] := (Blk.new wz _ _).alloc _
  have hBn : Blk ((wz.alloc (.cells #[.bool false] 4)).alloc (.cells #[.bool false] 4)) (wz.heap.size + 1) 4 #[.bool false] := Blk.new_at _ _ (by simp)
  have hG4 := hG2.keep hb4
  have hcG := fun j => hG4.cell j
  go_wp2_with fail
  obtain ⟨w4, hw4⟩ : ∃ w4, (wz.alloc (.cells #[.bool false] 4)).alloc (.cells #[.bool false] 4) = w4 := ⟨_, rfl⟩
  have hs4 : wz.heap.size + 1 + 1 ≤ w4.heap.size := by rw [← hw4]; simp
  rw [hw4] at hb4 hBs hBn hG4 hcG ⊢
  clear hw4
  refine (wpIn_wide (n := 6)).1 ?_
  refine wpIn_range_enter2 (gf := 55) rfl (enters_of Tryz.func55 (by kernel_rfl) rfl) (fun fn rec hst hpe hfn htm hpa has hbod => ?_)
  generalize hl : w4.heap.size + 1 = l at *
  obtain ⟨W1, hW1⟩ : ∃ W1, (w4.alloc (.deferred (some []))).alloc (.loop rec) = W1 := ⟨_, rfl⟩
  have hL1 : W1.heap[l]? = some (.loop rec) := by
   rw [← hW1, ← hl]; have := World.alloc_heap_new (w4.alloc (.deferred (some []))) (.loop rec); rwa [World.size_alloc] at this
  have hD1 : W1.heap[w4.heap.size]? = some (.deferred (some [])) := by
   rw [← hW1]; exact (Below.heap_alloc _ _ _ (by simp)).trans (World.alloc_heap_new w4 _)
  have hb41 : Below w4.heap.size w4 W1 := by rw [← hW1]; exact fr_alloc (fr_alloc (fr_refl _) _) _
  rw [hW1]
  have hbz1 := fr_call hb4 hb41
  have hlH : l < W1.heap.size := (Array.getElem?_eq_some_iff.1 hL1).1
  have h1 : SInv wz.heap.size wz f wz.heap.size (wz.heap.size + 1) w4.heap.size l rec [] W1 := ⟨Keep.of_below hbz1, hBs.keep hb41, hBn.keep hb41, hD1, hL1⟩
  have hY : ItY wz.heap.size (fun _ => false) W1.heap.size 5 l OkF MoFr (SInv wz.heap.size wz f wz.heap.size (wz.heap.size + 1) w4.heap.size l rec) := by
   refine ⟨fun d W W' h hb hk => h.move hb hk (by refine ⟨⟨?_, ?_⟩, ?_, ?_⟩ <;> omega), ?_⟩
   rintro d y v W hi hPy rfl
   have hy := run_yield (P := Tryz.prog) (args := #[.agg #[.int .i64 y.1, .int .i64 y.2]]) hi.lp (by rw [hpa]; rfl)
   rw [hfn, htm, hpa, has, hbod] at hy
   refine ⟨_, _, _, _, hy, roundIn_of_wpIn trivial ?_⟩
   clear hy
   gi_wp2
   have hbA := fr_alloc (fr_refl W) (.cells #[.int .i64 y.1, .int .i64 y.2] 40)
   have hX := Blk.new W 40 #[.int .i64 y.1, .int .i64 y.2]
   have hkA : KeepH wz.heap.size (fun _ => false) W1.heap.size W _ := KeepH.of_below hbA
   replace hi := hi.below hbA
   generalize W.alloc (.cells #[.int .i64 y.1, .int .i64 y.2] 40) = WA at *
   refine ⟨_, run_beginRound hi.lp hst, ?_⟩
   have hkB : KeepH wz.heap.size (fun _ => false) W1.heap.size W (WA.putObj l (.loop { rec with state := .busy })) := hkA.trans (keepH_put hi.lp rfl (by omega) _)
   replace hX := hX.grown (grownBy_putObj' WA l (.loop { rec with state := .busy })) (fun e => Obj_cells_ne hX hi.lp rfl (by cases e; rfl))
   have hiB := hi.put (by omega) (by omega) { rec with state := .busy }
   generalize WA.putObj l (.loop { rec with state := .busy }) = WB at *
   have hrec : ({ rec with state := .ready, pending := none } : Loop) = rec := by
    cases rec
    simp only at hst hpe
    rw [hst, hpe]
   have fin : ∀ (WC : World) (a : Act) (r : Loop), r = { rec with state := .busy } → SInv wz.heap.size wz f wz.heap.size (wz.heap.size + 1) w4.heap.size l r (d ++ [y]) WC → KeepH wz.heap.size (fun _ => false) W1.heap.size W WC →
     roundPost Tryz.prog l (fun e W' => e = .returned (.bool true) ∧ SInv wz.heap.size wz f wz.heap.size (wz.heap.size + 1) w4.heap.size l rec (d ++ [y]) W' ∧ KeepH wz.heap.size (fun _ => false) W1.heap.size W W') .normal a WC := by
    rintro WC a r rfl hi' hk'
    have h0 := hi'.put (by omega) (by omega) { { rec with state := .busy } with state := .ready, pending := none }
    have hk2 : KeepH wz.heap.size (fun _ => false) W1.heap.size WC (WC.putObj l (.loop { { rec with state := .busy } with state := .ready, pending := none })) := keepH_put hi'.lp rfl (by omega) _
    refine ⟨_, _, run_endRound none hi'.lp, rfl, ?_, hk'.trans hk2⟩
    exact ⟨h0.kp, h0.s, h0.n, h0.df, h0.lp.trans (congrArg some (congrArg Obj.loop hrec))⟩
   obtain ⟨rb, hrb⟩ : ∃ r : Loop, { rec with state := .busy } = r := ⟨_, rfl⟩
   rw [hrb] at hiB
   have FIN := fun WC a => fin WC a rb hrb.symm
   clear fin hrec hrb hst hpe hi htm hpa has hbod hfn
   have hF5 : Blk WB (w.heap.size + 1) 40 #[.int .i64 f.1, .int .i64 f.2] := hiB.kp.blk hF2 (Or.inl hltF)
   have hcF := fun j => hF5.cell j
   have hcX := fun j => hX.cell j
   gi_wp2
   refine ⟨trivial, ?_⟩
   refine CallsIn.mono (CallsIn.inRound l (callsIn_wide.2 (above_is f.1 f.2 y.1 y.2 WB hmo.1 hmo.2 hPy.1 hPy.2 _ rfl))) ?_
   rintro e wC ⟨rfl, hbC⟩
   replace hiB := hiB.below hbC
   replace hX := hX.keep hbC
   replace hF5 := hF5.keep hbC
   replace hkB := hkB.then_below hbC
   clear hcF hcX
   have hcF := fun j => hF5.cell j
   have hcX := fun j => hX.cell j
   have hlt4 := hb4.size
   have hcn := hiB.n.cell 0
   have hfn := hiB.n.frozen 0
   have NEXT := fun g hg => hiB.next (H := W1.heap.size) (y := y) g hg (by omega) (by refine ⟨⟨?_, ?_⟩, ?_, ?_⟩ <;> omega)
   cases hq1 : aboveB f.1 f.2 y.1 y.2 with
   | true =>
    gi_wp2
    refine ⟨trivial, ?_⟩
    gi_wp2
    have hT := NEXT (wz.heap.size + 1) (by simp [offB, hq1])
    exact FIN _ _ hT.1 (hkB.trans hT.2)
   | false =>
    gi_wp2
    refine ⟨trivial, ?_⟩
    refine CallsIn.mono (CallsIn.inRound l (callsIn_wide.2 (above_is y.1 y.2 f.1 f.2 wC hPy.1 hPy.2 hmo.1 hmo.2 _ rfl))) ?_
    rintro e wD ⟨rfl, hbD⟩
    clear NEXT hcn hfn hcF hcX
    replace hiB := hiB.below hbD
    replace hkB := hkB.then_below hbD
    have hcn := hiB.n.cell 0
    have hfn := hiB.n.frozen 0
    have hcs := hiB.s.cell 0
    have hfs := hiB.s.frozen 0
    have NEXT := fun g hg => hiB.next (H := W1.heap.size) (y := y) g hg (by omega) (by refine ⟨⟨?_, ?_⟩, ?_, ?_⟩ <;> omega)
    cases hq2 : aboveB y.1 y.2 f.1 f.2 with
    | true =>
     gi_wp2
     have hT := NEXT (wz.heap.size + 1) (by simp [offB, hq1, hq2])
     exact FIN _ _ hT.1 (hkB.trans hT.2)
    | false =>
     gi_wp2
     have hT := NEXT wz.heap.size (by simp [offB, hq1, hq2])
     exact FIN _ _ hT.1 (hkB.trans hT.2)
  have hPm : ∀ x ∈ (guessL ws ns).map fracOf, MoFr x := fun x hx => by
   obtain ⟨t, ht, rfl⟩ := List.mem_map.1 hx
   exact fracOf_mo (hokT t ht)
  refine CallsIn.mono (callsIn_wide.2 (turning_any A N L _ _ _ _ lc _ (guessL ws ns) wz hTs hokT rfl (by omega) l MoFr _ W1 hPm hbz1 (Nat.le_refl _) hY h1)) ?_
  rintro e W ⟨rfl, hi, hk⟩
  have hi4 := hi.put (by omega) (by omega) { rec with state := .exhausted, pending := none }
  refine ⟨_, _, run_endLoop hi.lp (by rw [hst]; simp), ?_⟩
  rw [hpe]
  have hF4 := (hi4.kp.below (fr_refl wz) (Nat.le_refl _) (Nat.le_refl _))
  have hD4 := hi4.df
  have hcs := hi4.s.cell 0
  have hcn := hi4.n.cell 0
  have hk4 := hi4.kp.size
  clear hi hk hi4 hY h1 hPm
  generalize W.putObj l (.loop { rec with state := .exhausted, pending := none }) = W4 at *
  have hSN := Lib.hid (show sureN f (guessL ws ns) = if ((guessL ws ns).map fracOf).any (offB f) then (if ((guessL ws ns).map fracOf).any (fun y => !offB f y) then 2 else 1) else 3 from rfl)
  generalize ((guessL ws ns).map fracOf).any (offB f) = bo at *
  generalize ((guessL ws ns).map fracOf).any (fun y => !offB f y) = bi at *
  cases bo
  all_goals
   cases bi
   all_goals
    go_wp2_with fail
    refine ⟨by simp, .inl ⟨_, _, rfl, run_takeDeferred hD4, ?_⟩⟩
    have hk6 : Keep wz.heap.size (fun _ => false) W4 (W4.putObj w4.heap.size (.deferred none)) := keep_put hD4 rfl (by omega) _
    refine ⟨_, results_tmp2 rfl _ _ _, ?_, fr_call hb2 (hk6.below hF4 (Nat.le_refl _) (Nat.le_refl _))⟩
    rw [hSN.out]
    rfl
end Go.Proofs.YtfgghicdkcjdgaaGreatDoor
end

section
namespace Go.Proofs.YtfgghicdkcjdgaaGreatDoor
open Go.RowKit Go.Shelf
attribute [local go_sem] Oper.semAt_some

/-- a train's numbers in a row -/
def teethL : List Wh → List Int
 | [] => []
 | p :: ps => p.lo :: p.hi :: teethL ps
theorem teethL_len : ∀ ps : List Wh, (teethL ps).length = 2 * ps.length
 | [] => rfl
 | p :: ps => by simp only [teethL, List.length_cons, teethL_len ps]; omega
theorem teethL_app : ∀ ps qs : List Wh, teethL (ps ++ qs) = teethL ps ++ teethL qs
 | [], _ => rfl
 | p :: ps, qs => by simp [teethL, teethL_app ps qs]
theorem pairK_cons (x y : Int) (t : List Int) : ∀ k, pairK (x :: y :: t) (k + 1) = ⟨x, y⟩ :: pairK t k
 | 0 => by simp [pairK]
 | k + 1 => by
  rw [pairK_succ, pairK_cons x y t k, pairK_succ t k, List.cons_append]
  congr 4
theorem pairs_teethL : ∀ ps : List Wh, pairsOf (teethL ps) = ps
 | [] => rfl
 | p :: ps => by
  have h := pairs_teethL ps
  unfold pairsOf at h ⊢
  rw [teethL_len] at h ⊢
  rw [show 2 * (p :: ps).length / 2 = 2 * ps.length / 2 + 1 by simp only [List.length_cons]; omega]
  rw [teethL, pairK_cons, h]
theorem teethL_take {ps : List Wh} {k : Nat} (h : k < ps.length) : teethL (ps.take (k + 1)) = teethL (ps.take k) ++ [ps[k].lo, ps[k].hi] := by
 rw [List.take_succ_eq_append_getElem h, teethL_app]
 rfl
set_option maxRecDepth 100000 in
set_option maxHeartbeats 8000000 in
theorem Breaks_own (A N C : Option Addr) (wc nc cc m : Nat) (ws : List Wh) (ns : List Note) (ps : List Wh) (w : World) (hf : FindAt w A N ws ns) (hv : FindOk ws ns) (hr : RdS w C 2 (ps.map Wh.cells)) (hm : ps.length = m) (hfit : Fits ws (teethL ps)) :
  Calls Tryz.prog 10 #[.agg #[.slice A ws.length wc, .slice N ns.length nc], .slice C m cc] w (RetD w 0 (breaksL ns (teethL ps))) := by
 have hb0 := fr_alloc (fr_refl w) (.cells #[.slice A ws.length wc, .slice N ns.length nc] 25)
 have hX := Blk.new w 25 #[.slice A ws.length wc, .slice N ns.length nc]
 replace hf := hf.keep hb0
 replace hr := hr.keep hb0
 have hs := hv.six
 have h8 := hv.eight
 have hlen := hfit.len
 rw [teethL_len, hm] at hlen
 have hq : (ws.length : Int).tdiv 2 = (m : Int) := by
  have h1 : (ws.length : Int).tdiv 2 = ((ws.length / 2 : Nat) : Int) := rfl
  omega
 have hm3 : m ≤ 3 := by omega
 have HM := Lib.hid hm
 have HL := Lib.hid hlen
 clear hm hlen
 go_enter Tryz.func10, Tryz.ntmps10
 go_wp2_with fail
 refine (isFind_is A N wc nc ws ns _ hf (by omega) (by omega) hv.mo true hv.find).mono ?_
 rintro e w1 ⟨rfl, hb1⟩
 replace hX := hX.keep hb1
 replace hf := hf.keep hb1
 replace hr := hr.keep hb1
 replace hb0 := fr_call hb0 hb1
 have hcX := fun j => hX.cell j
 go_wp2_with fail
 obtain ⟨i0, hi, hz0, hz1, hz2⟩ := info_parts info_int
 go_loopw [6, 25] (fun v i wr => ∃ k : Nat, k ≤ m ∧ i = .int .i64 k ∧ Own wr w1.heap.size v (teethL (ps.take k)) ∧ Below w1.heap.size w1 wr) (fun _ i _ => m - (intOf i).toNat)
 case atStart => exact ⟨0, Nat.zero_le _, rfl, Own.nil _ _, fr_refl _⟩
 case round =>
  obtain ⟨k, hk, rfl, hown, hbel⟩ := hrel
  by_cases hlt : k < m
  ·have hkl : k < ps.length := by have := HM.out; omega
   obtain ⟨ad, rfl, hab, hc0, hc1⟩ := whs_at (hr.keep hbel) hkl
   have htk := teethL_take hkl
   have HTK := Lib.hid htk
   have hlk : (teethL (ps.take k)).length ≤ 100 := by rw [teethL_len, List.length_take]; omega
   have hsz := hbel.size
   have hsz1 := hb0.size
   obtain ⟨x, hx⟩ : ∃ x, ps[k].lo = x := ⟨_, rfl⟩
   obtain ⟨y, hy⟩ : ∃ y, ps[k].hi = y := ⟨_, rfl⟩
   rw [hx] at hc0
   rw [hy] at hc1
   have HX := Lib.hid hx
   have HY := Lib.hid hy
   clear htk hx hy hr hcX
   have hbA := fr_alloc (fr_alloc (fr_refl wr) (.cells #[.int .i64 x, .int .i64 y] 98)) (.cells #[.int .i64 x, .int .i64 y] 3)
   have hP : Blk ((wr.alloc (.cells #[.int .i64 x, .int .i64 y] 98)).alloc (.cells #[.int .i64 x, .int .i64 y] 3)) (wr.heap.size + 1) 3 #[.int .i64 x, .int .i64 y] := Blk.new_at _ _ (by simp)
   have hownA := hown.keep hbA
   obtain ⟨z, hz⟩ : ∃ z, teethL (ps.take k) = z := ⟨_, rfl⟩
   rw [hz] at hown hownA hlk
   have HZ := Lib.hid hz
   clear hz
   go_wp2_with (at_builtin; go_must (refine wpList_append_own _ rfl (.tmp 29) (.tmp 34) _ rfl w1.heap.size _ i0 _ 1 8 Tryz.underlying96 hi hz0 hz1 hz2 rfl (by omega) _ _ _ rfl hownA ⟨wr.heap.size + 1, 0, none⟩ 2 2 [.int .i64 x, .int .i64 y] rfl rfl ?_ (by simp [Value.oneCell']) (by unfold maxLen; omega) (by omega) (by simp; omega) ?_); rotate_left; intro v' w2 hown2 hgr _)
   ·refine ⟨⟨k + 1, hlt, rfl, ?_, (fr_call hbel hbA).grown hgr (fr_call hbel hbA).size (fun i hi => (World.ownsRow.lt hownA i hi).1)⟩, ?_⟩
    ·rw [HTK.out, HZ.out, HX.out, HY.out]
     unfold Own
     rw [List.length_append, List.map_append]
     exact hown2
    ·simp [intOf]; omega
   ·intro j u hj
    rw [add_lit, hP.cell]
    simpa using hj
  ·obtain rfl : k = m := by omega
   have hps : ps.take k = ps := List.take_of_length_le (by have := HM.out; omega)
   rw [hps] at hown
   obtain ⟨A1, c1, rfl⟩ := hown.form
   have hrd := hown.rd
   have htl : (teethL ps).length = ws.length := by rw [teethL_len, HM.out, HL.out]
   rw [htl] at hrd ⊢
   have hfx := hf.keep hbel
   have hX2 := hX.keep hbel
   have hb2 := fr_call hb0 hbel
   have hte := fits_teeth hv.wh hfit
   generalize teethL ps = t at *
   have HTL := Lib.hid htl
   clear htl hown hr hcX hX hf hb0 hbel hps
   have hcX := fun j => hX2.cell j
   go_wp2_with fail
   go_loopw [39] (fun i w2 => ∃ j : Nat, j ≤ ws.length ∧ i = .int .i64 j ∧ Below wr.heap.size wr w2) (fun i _ => ws.length - (intOf i).toNat)
   case atStart => exact ⟨0, Nat.zero_le _, rfl, fr_refl _⟩
   case round =>
    obtain ⟨j, hj, rfl, hbj⟩ := hrel
    have hX3 := hX2.keep hbj
    have hcX3 := fun j => hX3.cell j
    by_cases hjl : j < ws.length
    ·obtain ⟨ad, rfl, hab, k0, k1⟩ := whs_at (hfx.ws.keep hbj) hjl
     obtain ⟨ae, rfl, hae, kt⟩ := (hrd.keep hbj).at_ hjl
     have hin : inB (t[j]?.getD 0) ws[j].lo ws[j].hi = true := inB_yes (hfit.get j hjl)
     clear hrd hfx hX2 hcX hX3
     go_wp2_with fail
     refine (within_is _ _ _ _ true hin).mono ?_
     rintro e w3 ⟨rfl, hb3⟩
     go_wp2_with fail
     refine ⟨⟨j + 1, hjl, rfl, fr_call hbj hb3⟩, ?_⟩
     simp [intOf]; omega
    ·have hf3 := hfx.keep hbj
     have hr3 := hrd.keep hbj
     have hb3 := fr_call hb2 hbj
     have hbr := breaks_any A1 N A ws.length c1 wc nc ws.length t ns _ hr3 hf3.ns hs (by omega) hte hv.note
     clear hcX hX2 hrd hfx
     go_wp2_with fail
     refine hbr.mono ?_
     rintro e w4 ⟨A4, c4, rfl, ho4, hb4⟩
     go_wp2_with fail
     go_ret2
     exact ⟨A4, c4, rfl, ho4.rd, fr_call hb3 hb4⟩
end Go.Proofs.YtfgghicdkcjdgaaGreatDoor
end
