/- Walk, package train: turns. Walk, package train: isTrain, Turns; package guess: what teeth turn the hand by. A range over an iterator value; the first best of some things. Walk: guess, the best of fractions. -/
import Derived.Test.YtfgghicdkcjdgaaGreatDoorMG5
section
namespace Go.Proofs.YtfgghicdkcjdgaaGreatDoor
open Go.RowKit Go.Shelf

/-- two rows of the call's own are apart -/
def Dj (v u : Value) : Prop := ∀ k, v.ownBlock = some k → u.ownBlock ≠ some k
theorem Dj.symm {v u : Value} (h : Dj v u) : Dj u v := fun k hk e => h k e hk
theorem own_lt {w : World} {base : Nat} {v : Value} {xs : List Int} (h : Own w base v xs) : ∀ k, v.ownBlock = some k → k < w.heap.size := fun k hk => (World.ownsRow.lt h k hk).2
theorem own_apart {w w' : World} {base : Nat} {v u : Value} {xs : List Int} (h : Own w base u xs) (hg : w.grownBy w' v.ownBlock) (hd : Dj v u) : Own w' base u xs := by
 refine World.ownsRow.kept h hg ?_
 cases hu : u.ownBlock with
 | none => exact Or.inl rfl
 | some k => exact Or.inr (fun e => hd k e.symm hu)
theorem blk_apart {w w' : World} {g : Nat} {v : Value} {t : TypeId} {cs : Array Value} (h : Blk w g t cs) (hg : w.grownBy w' v.ownBlock) (hlt : ∀ k, v.ownBlock = some k → k < g) : Blk w' g t cs :=
 h.grown hg (fun e => by have := hlt g e.symm; omega)
theorem dj_next {w : World} {base : Nat} {v v' u : Value} {ys : List Int} (hu : Own w base u ys) (hd : Dj v u) (h : v'.ownBlock = v.ownBlock ∨ ∀ k, v'.ownBlock = some k → w.heap.size ≤ k) : Dj v' u := fun k hk e => by
 rcases h with h | h
 ·rw [h] at hk; exact hd k hk e
 ·have := h k hk; have := own_lt hu k e; omega
def losOf (ps : List Wh) : List Int := ps.map Wh.lo
def hisOf (ps : List Wh) : List Int := ps.map Wh.hi
def TeethP (ps : List Wh) : Prop := ∀ p ∈ ps, (4 ≤ p.lo ∧ p.lo ≤ 60) ∧ 4 ≤ p.hi ∧ p.hi ≤ 60
/-- the products of all driving, and of all driven wheels -/
def prD (ps : List Wh) : Nat := (prL (losOf ps) ps.length).toNat
def prV (ps : List Wh) : Nat := (prL (hisOf ps) ps.length).toNat
/-- what a train turns its hand by -/
def turnD (ps : List Wh) : Nat := prD ps / Nat.gcd (prD ps) (prV ps)
def turnV (ps : List Wh) : Nat := prV ps / Nat.gcd (prD ps) (prV ps)
theorem prL_pos {xs : List Int} (h : ∀ x ∈ xs, 1 ≤ x) : ∀ k, k ≤ xs.length → 1 ≤ prL xs k
 | 0, _ => Int.le_refl _
 | k + 1, hk => by
  have h1 := prL_pos h k (by omega)
  have h2 : 1 ≤ xs[k]?.getD 0 := by
   rw [List.getElem?_eq_getElem (show k < xs.length by omega)]
   exact h _ (List.getElem_mem _)
  have := Int.mul_le_mul h1 h2 (by omega) (by omega)
  simpa [prL] using this
theorem los_bd {ps : List Wh} (h : TeethP ps) : ∀ x ∈ losOf ps, 0 ≤ x ∧ x ≤ 100 := fun x hx => by
 obtain ⟨p, hp, rfl⟩ := List.mem_map.1 hx
 have := h p hp; omega
theorem his_bd {ps : List Wh} (h : TeethP ps) : ∀ x ∈ hisOf ps, 0 ≤ x ∧ x ≤ 100 := fun x hx => by
 obtain ⟨p, hp, rfl⟩ := List.mem_map.1 hx
 have := h p hp; omega
theorem pr_facts {ps : List Wh} (h : TeethP ps) (hn : ps.length ≤ 4) : (prL (losOf ps) ps.length = (prD ps : Int) ∧ prL (hisOf ps) ps.length = (prV ps : Int)) ∧ (0 < prD ps ∧ prD ps ≤ 100000000) ∧ 0 < prV ps ∧ prV ps ≤ 100000000 := by
 have a1 := prL_pos (xs := losOf ps) (fun x hx => by obtain ⟨p, hp, rfl⟩ := List.mem_map.1 hx; have := h p hp; omega) ps.length (by simp [losOf])
 have a2 := prL_pos (xs := hisOf ps) (fun x hx => by obtain ⟨p, hp, rfl⟩ := List.mem_map.1 hx; have := h p hp; omega) ps.length (by simp [hisOf])
 have b1 := prL_bd (los_bd h) ps.length
 have b2 := prL_bd (his_bd h) ps.length
 have b3 := pow100 hn
 unfold prD prV
 omega
theorem take_map {α : Type} (f : Wh → α) {ps : List Wh} {k : Nat} (h : k < ps.length) : (ps.take (k + 1)).map f = (ps.take k).map f ++ [f ps[k]] := by rw [List.take_succ_eq_append_getElem h, List.map_append]; rfl
set_option maxRecDepth 100000 in
set_option maxHeartbeats 16000000 in
theorem turns_any (A : Option Addr) (n c : Nat) (ps : List Wh) (w : World) (hr : RdS w A 2 (ps.map Wh.cells)) (hn : ps.length = n) (hn3 : n ≤ 3) (ht : TeethP ps) :
  Calls Tryz.prog 59 #[.slice A n c] w (RetF w (turnD ps : Int) (turnV ps : Int)) := by
 have hX := Blk.new w 40 #[.int .i64 0, .int .i64 0]
 have hb0 := fr_alloc (fr_refl w) (.cells #[.int .i64 0, .int .i64 0] 40)
 replace hr := hr.keep hb0
 have HN := Lib.hid hn
 clear hn
 go_enter Tryz.func59, Tryz.ntmps59
 go_wp2_with fail
 generalize w.alloc (.cells #[.int .i64 0, .int .i64 0] 40) = w1 at *
 go_loopw [3, 4, 9] (fun v u i wr => ∃ k : Nat, k ≤ n ∧ i = .int .i64 k ∧ Own wr w1.heap.size v ((ps.take k).map Wh.lo) ∧ Own wr w1.heap.size u ((ps.take k).map Wh.hi) ∧ Dj v u ∧ Below w1.heap.size w1 wr) (fun _ _ i _ => n - (intOf i).toNat)
 case atStart => exact ⟨0, Nat.zero_le _, rfl, Own.nil _ _, Own.nil _ _, fun k hk => by simp [Value.ownBlock] at hk, fr_refl _⟩
 case round =>
  obtain ⟨k, hk, rfl, hv, hu, hd, hbel⟩ := hrel
  have hsz := hbel.size
  by_cases hlt : k < n
  ·have hkl : k < ps.length := by rw [HN.out]; exact hlt
   obtain ⟨ad, rfl, hab, hc0, hc1⟩ := whs_at (hr.keep hbel) hkl
   have HT1 := Lib.hid (take_map Wh.lo hkl)
   have HT2 := Lib.hid (take_map Wh.hi hkl)
   have hl1 : ((ps.take k).map Wh.lo).length = k := by simp; omega
   have hl2 : ((ps.take k).map Wh.hi).length = k := by simp; omega
   have HL1 := Lib.hid hl1
   have HL2 := Lib.hid hl2
   clear hl1 hl2 hX hr
   generalize ps[k] = p at *
   obtain ⟨x, y⟩ := p
   simp only at hc0 hc1 HT1 HT2
   have hP := Blk.new wr 98 #[.int .i64 x, .int .i64 y]
   have hbP := fr_alloc (fr_refl wr) (.cells #[.int .i64 x, .int .i64 y] 98)
   replace hv := hv.keep hbP
   replace hu := hu.keep hbP
   go_wp2_with fail
   clear hc0 hc1
   generalize wr.alloc (.cells #[.int .i64 x, .int .i64 y] 98) = wo at *
   have hlv := own_lt hv
   have hlu := own_lt hu
   have hsP := hP.lt
   refine wp_region_noPanic ?_
   refine wp_region_held_drew (S := fun W => Blk W wr.heap.size 98 #[.int .i64 x, .int .i64 y]) (by kernel_rfl) hP (fun hHeld => ?_)
   have hbz := fr_drew (fr_refl wo)
   have hv1 := hv.keep hbz
   have hu1 := hu.keep hbz
   have hB := fr_call (fr_call hbel hbP) hbz
   have hS : wo.heap.size ≤ wo.drew.heap.size := hbz.size
   generalize wo.drew = wz at hB hS hHeld hv1 hu1 ⊢
   have hcP := fun W (h : Blk W wr.heap.size 98 #[.int .i64 x, .int .i64 y]) => And.intro (h.cell 0) (h.cell 1)
   clear hbz
   -- the region, step by step, in whatever order
   refine wpAnyH_take (i := 0) (oi := ⟨some 13, .move (.tmp 3), 34, "train.go:97", #[], none⟩) (v := ?_) rfl (by kernel_rfl) (by kernel_rfl) (by kernel_rfl) (fun _ _ _ h => h) (Or.inl ⟨by rfl, fun W hSw => ?_⟩) hHeld ?_
   rotate_left
   ·(try dsimp only at hSw); go_simp; (try with_reducible rfl)
   (try simp only [Act.put, List.setIfInBounds_toArray, List.set_cons_zero, List.set_cons_succ])
   refine wpAnyH_take (i := 1) (oi := ⟨some 14, .fieldAddr 98 (.tmp 6) 0, 0, "train.go:97", #[], none⟩) (v := ?_) rfl (by kernel_rfl) (by kernel_rfl) (by kernel_rfl) (fun _ _ _ h => h) (Or.inl ⟨by rfl, fun W hSw => ?_⟩) hHeld ?_
   rotate_left
   ·(try dsimp only at hSw); go_simp; (try with_reducible rfl)
   (try simp only [Act.put, List.setIfInBounds_toArray, List.set_cons_zero, List.set_cons_succ])
   refine wpAnyH_take (i := 2) (oi := ⟨some 15, .load 3 (.tmp 14), 3, "train.go:97", #[⟨1, .data⟩], none⟩) (v := ?_) rfl (by kernel_rfl) (by kernel_rfl) (by kernel_rfl) (fun _ _ _ h => h) (Or.inl ⟨by rfl, fun W hSw => ?_⟩) hHeld ?_
   rotate_left
   ·(try dsimp only at hSw); go_simp; (try with_reducible rfl)
   (try simp only [Act.put, List.setIfInBounds_toArray, List.set_cons_zero, List.set_cons_succ])
   refine wpAnyH_take (i := 5) (oi := ⟨some 18, .move (.tmp 4), 34, "train.go:97", #[], none⟩) (v := ?_) rfl (by kernel_rfl) (by kernel_rfl) (by kernel_rfl) (fun _ _ _ h => h) (Or.inl ⟨by rfl, fun W hSw => ?_⟩) hHeld ?_
   rotate_left
   ·(try dsimp only at hSw); go_simp; (try with_reducible rfl)
   (try simp only [Act.put, List.setIfInBounds_toArray, List.set_cons_zero, List.set_cons_succ])
   refine wpAnyH_take (i := 6) (oi := ⟨some 19, .fieldAddr 98 (.tmp 6) 1, 0, "train.go:97", #[], none⟩) (v := ?_) rfl (by kernel_rfl) (by kernel_rfl) (by kernel_rfl) (fun _ _ _ h => h) (Or.inl ⟨by rfl, fun W hSw => ?_⟩) hHeld ?_
   rotate_left
   ·(try dsimp only at hSw); go_simp; (try with_reducible rfl)
   (try simp only [Act.put, List.setIfInBounds_toArray, List.set_cons_zero, List.set_cons_succ])
   refine wpAnyH_take (i := 7) (oi := ⟨some 20, .load 3 (.tmp 19), 3, "train.go:97", #[⟨6, .data⟩], none⟩) (v := ?_) rfl (by kernel_rfl) (by kernel_rfl) (by kernel_rfl) (fun _ _ _ h => h) (Or.inl ⟨by rfl, fun W hSw => ?_⟩) hHeld ?_
   rotate_left
   ·(try dsimp only at hSw); go_simp; (try with_reducible rfl)
   (try simp only [Act.put, List.setIfInBounds_toArray, List.set_cons_zero, List.set_cons_succ])
   refine wpAnyH_ready (rs := [3, 8]) (by kernel_rfl) (by simp) ?_
   refine (AllReadyH.cons (o := ⟨some 16, .buildSlice 34 1 #[(0, .tmp 15)], 34, "train.go:97", #[⟨2, .data⟩], none⟩) rfl (fun K hK => ?_) (AllReadyH.cons (o := ⟨some 21, .buildSlice 34 1 #[(0, .tmp 20)], 34, "train.go:97", #[⟨7, .data⟩], none⟩) rfl (fun K hK => ?_) AllReadyH.nil))
   ·rw [if_pos (by rfl)]
    refine wp_build_int rfl rfl ?_
    intro g1 wz hz1 hG1 hb1 _
    have hg1o : wo.heap.size ≤ g1 := by omega
    replace hS := Nat.le_trans hS hb1.size
    replace hB := fr_call hB hb1
    (try replace hv1 := hv1.keep hb1)
    (try replace hv2 := hv2.keep hb1)
    replace hu1 := hu1.keep hb1
    (try replace hG2 := hG2.keep hb1)
    refine hK.out _ _ (hHeld.keep hb1) (fun hHeld => ?_)
    clear hK K
    (try simp only [Act.put, List.setIfInBounds_toArray, List.set_cons_zero, List.set_cons_succ])
    refine wpAnyH_ready (rs := [4, 8]) (by kernel_rfl) (by simp) ?_
    refine (AllReadyH.cons (o := ⟨some 17, .call { callee := .builtin .append, args := #[.tmp 13, .tmp 16], argTypes := #[34, 34] }, 34, "train.go:97", #[⟨0, .data⟩, ⟨3, .data⟩], none⟩) rfl (fun K hK => ?_) (AllReadyH.cons (o := ⟨some 21, .buildSlice 34 1 #[(0, .tmp 20)], 34, "train.go:97", #[⟨7, .data⟩], none⟩) rfl (fun K hK => ?_) AllReadyH.nil))
    ·rw [if_pos (by rfl)]
     refine wp_app_int2 34 Tryz.underlying34 (.tmp 13) (.tmp 16) rfl w1.heap.size _ ((ps.take k).map Wh.lo) rfl hv1 g1 x rfl hG1 (by rw [HL1.out]; omega) hB.size ?_
     intro A1 c1 wz hv2 hgr hn1
     rw [HL1.out] at hv2 hn1 ⊢
     have hd1 := dj_next hu1 hd hn1
     replace hB := hB.grown hgr hB.size (own_ge hv1)
     replace hS := Nat.le_trans hS hgr.size
     (try replace hG2 := blk_apart hG2 hgr (fun i e => by have := hlv i e; omega))
     replace hu1 := own_apart hu1 hgr hd
     refine hK.out _ _ (hHeld.grown hgr (Ne.symm (own_blk_ne hv1 hHeld (by decide)))) (fun hHeld => ?_)
     clear hK K
     (try simp only [Act.put, List.setIfInBounds_toArray, List.set_cons_zero, List.set_cons_succ])
     refine wpAnyH_ready (rs := [8]) (by kernel_rfl) (by simp) ?_
     refine (AllReadyH.cons (o := ⟨some 21, .buildSlice 34 1 #[(0, .tmp 20)], 34, "train.go:97", #[⟨7, .data⟩], none⟩) rfl (fun K hK => ?_) AllReadyH.nil)
     rw [if_pos (by rfl)]
     refine wp_build_int rfl rfl ?_
     intro g2 wz hz2 hG2 hb1 _
     have hg2o : wo.heap.size ≤ g2 := by omega
     replace hS := Nat.le_trans hS hb1.size
     replace hB := fr_call hB hb1
     (try replace hv1 := hv1.keep hb1)
     (try replace hv2 := hv2.keep hb1)
     replace hu1 := hu1.keep hb1
     (try replace hG1 := hG1.keep hb1)
     refine hK.out _ _ (hHeld.keep hb1) (fun hHeld => ?_)
     clear hK K
     (try simp only [Act.put, List.setIfInBounds_toArray, List.set_cons_zero, List.set_cons_succ])
     refine wpAnyH_ready (rs := [9]) (by kernel_rfl) (by simp) ?_
     refine (AllReadyH.cons (o := ⟨some 22, .call { callee := .builtin .append, args := #[.tmp 18, .tmp 21], argTypes := #[34, 34] }, 34, "train.go:97", #[⟨5, .data⟩, ⟨8, .data⟩, ⟨4, .chain⟩], none⟩) rfl (fun K hK => ?_) AllReadyH.nil)
     rw [if_pos (by rfl)]
     refine wp_app_int2 34 Tryz.underlying34 (.tmp 18) (.tmp 21) rfl w1.heap.size _ ((ps.take k).map Wh.hi) rfl hu1 g2 y rfl hG2 (by rw [HL2.out]; omega) hB.size ?_
     intro A2 c2 wz hu2 hgr hn2
     rw [HL2.out] at hu2 hn2 ⊢
     replace hB := hB.grown hgr hB.size (own_ge hu1)
     have hd2 := (dj_next hv2 hd1.symm hn2).symm
     replace hv2 := own_apart hv2 hgr hd1.symm
     refine hK.out _ _ (hHeld.grown hgr (Ne.symm (own_blk_ne hu1 hHeld (by decide)))) (fun hHeld => ?_)
     clear hK K
     (try simp only [Act.put, List.setIfInBounds_toArray, List.set_cons_zero, List.set_cons_succ])
     refine wpAnyH_take (i := 10) (oi := ⟨some 3, .assign (.tmp 17), 34, "train.go:97", #[⟨4, .data⟩, ⟨9, .chain⟩, ⟨0, .phase⟩, ⟨1, .phase⟩, ⟨2, .phase⟩, ⟨3, .phase⟩, ⟨4, .phase⟩, ⟨5, .textOnly .lateStores⟩, ⟨6, .textOnly .lateStores⟩, ⟨7, .textOnly .lateStores⟩, ⟨8, .textOnly .lateStores⟩, ⟨9, .textOnly .lateStoresUnsure⟩], none⟩) (v := ?_) rfl (by kernel_rfl) (by kernel_rfl) (by kernel_rfl) (fun _ _ _ h => h) (Or.inl ⟨by rfl, fun W hSw => ?_⟩) hHeld ?_
     rotate_left
     ·(try dsimp only at hSw); go_simp; (try with_reducible rfl)
     (try simp only [Act.put, List.setIfInBounds_toArray, List.set_cons_zero, List.set_cons_succ])
     refine wpAnyH_take (i := 11) (oi := ⟨some 4, .assign (.tmp 22), 34, "train.go:97", #[⟨9, .data⟩, ⟨10, .chain⟩, ⟨0, .phase⟩, ⟨1, .phase⟩, ⟨2, .phase⟩, ⟨3, .phase⟩, ⟨4, .phase⟩, ⟨5, .phase⟩, ⟨6, .phase⟩, ⟨7, .phase⟩, ⟨8, .phase⟩, ⟨9, .phase⟩, ⟨10, .phase⟩], none⟩) (v := ?_) rfl (by kernel_rfl) (by kernel_rfl) (by kernel_rfl) (fun _ _ _ h => h) (Or.inl ⟨by rfl, fun W hSw => ?_⟩) hHeld ?_
     rotate_left
     ·(try dsimp only at hSw); go_simp; (try with_reducible rfl)
     (try simp only [Act.put, List.setIfInBounds_toArray, List.set_cons_zero, List.set_cons_succ])
     refine wpAnyH_done (by kernel_rfl) ?_ _
     refine NoPanic.normal ?_
     go_wp2_with fail
     refine ⟨⟨k + 1, hlt, by go_num, by rw [HT1.out]; exact hv2, by rw [HT2.out]; exact hu2, hd2, hB⟩, ?_⟩
     simp [intOf]; omega
    ·rw [if_pos (by rfl)]
     refine wp_build_int rfl rfl ?_
     intro g2 wz hz2 hG2 hb1 _
     have hg2o : wo.heap.size ≤ g2 := by omega
     replace hS := Nat.le_trans hS hb1.size
     replace hB := fr_call hB hb1
     (try replace hv1 := hv1.keep hb1)
     (try replace hv2 := hv2.keep hb1)
     replace hu1 := hu1.keep hb1
     (try replace hG1 := hG1.keep hb1)
     refine hK.out _ _ (hHeld.keep hb1) (fun hHeld => ?_)
     clear hK K
     (try simp only [Act.put, List.setIfInBounds_toArray, List.set_cons_zero, List.set_cons_succ])
     refine wpAnyH_ready (rs := [4]) (by kernel_rfl) (by simp) ?_
     refine (AllReadyH.cons (o := ⟨some 17, .call { callee := .builtin .append, args := #[.tmp 13, .tmp 16], argTypes := #[34, 34] }, 34, "train.go:97", #[⟨0, .data⟩, ⟨3, .data⟩], none⟩) rfl (fun K hK => ?_) AllReadyH.nil)
     rw [if_pos (by rfl)]
     refine wp_app_int2 34 Tryz.underlying34 (.tmp 13) (.tmp 16) rfl w1.heap.size _ ((ps.take k).map Wh.lo) rfl hv1 g1 x rfl hG1 (by rw [HL1.out]; omega) hB.size ?_
     intro A1 c1 wz hv2 hgr hn1
     rw [HL1.out] at hv2 hn1 ⊢
     have hd1 := dj_next hu1 hd hn1
     replace hB := hB.grown hgr hB.size (own_ge hv1)
     replace hS := Nat.le_trans hS hgr.size
     (try replace hG2 := blk_apart hG2 hgr (fun i e => by have := hlv i e; omega))
     replace hu1 := own_apart hu1 hgr hd
     refine hK.out _ _ (hHeld.grown hgr (Ne.symm (own_blk_ne hv1 hHeld (by decide)))) (fun hHeld => ?_)
     clear hK K
     (try simp only [Act.put, List.setIfInBounds_toArray, List.set_cons_zero, List.set_cons_succ])
     refine wpAnyH_ready (rs := [9]) (by kernel_rfl) (by simp) ?_
     refine (AllReadyH.cons (o := ⟨some 22, .call { callee := .builtin .append, args := #[.tmp 18, .tmp 21], argTypes := #[34, 34] }, 34, "train.go:97", #[⟨5, .data⟩, ⟨8, .data⟩, ⟨4, .chain⟩], none⟩) rfl (fun K hK => ?_) AllReadyH.nil)
     rw [if_pos (by rfl)]
     refine wp_app_int2 34 Tryz.underlying34 (.tmp 18) (.tmp 21) rfl w1.heap.size _ ((ps.take k).map Wh.hi) rfl hu1 g2 y rfl hG2 (by rw [HL2.out]; omega) hB.size ?_
     intro A2 c2 wz hu2 hgr hn2
     rw [HL2.out] at hu2 hn2 ⊢
     replace hB := hB.grown hgr hB.size (own_ge hu1)
     have hd2 := (dj_next hv2 hd1.symm hn2).symm
     replace hv2 := own_apart hv2 hgr hd1.symm
     refine hK.out _ _ (hHeld.grown hgr (Ne.symm (own_blk_ne hu1 hHeld (by decide)))) (fun hHeld => ?_)
     clear hK K
     (try simp only [Act.put, List.setIfInBounds_toArray, List.set_cons_zero, List.set_cons_succ])
     refine wpAnyH_take (i := 10) (oi := ⟨some 3, .assign (.tmp 17), 34, "train.go:97", #[⟨4, .data⟩, ⟨9, .chain⟩, ⟨0, .phase⟩, ⟨1, .phase⟩, ⟨2, .phase⟩, ⟨3, .phase⟩, ⟨4, .phase⟩, ⟨5, .textOnly .lateStores⟩, ⟨6, .textOnly .lateStores⟩, ⟨7, .textOnly .lateStores⟩, ⟨8, .textOnly .lateStores⟩, ⟨9, .textOnly .lateStoresUnsure⟩], none⟩) (v := ?_) rfl (by kernel_rfl) (by kernel_rfl) (by kernel_rfl) (fun _ _ _ h => h) (Or.inl ⟨by rfl, fun W hSw => ?_⟩) hHeld ?_
     rotate_left
     ·(try dsimp only at hSw); go_simp; (try with_reducible rfl)
     (try simp only [Act.put, List.setIfInBounds_toArray, List.set_cons_zero, List.set_cons_succ])
     refine wpAnyH_take (i := 11) (oi := ⟨some 4, .assign (.tmp 22), 34, "train.go:97", #[⟨9, .data⟩, ⟨10, .chain⟩, ⟨0, .phase⟩, ⟨1, .phase⟩, ⟨2, .phase⟩, ⟨3, .phase⟩, ⟨4, .phase⟩, ⟨5, .phase⟩, ⟨6, .phase⟩, ⟨7, .phase⟩, ⟨8, .phase⟩, ⟨9, .phase⟩, ⟨10, .phase⟩], none⟩) (v := ?_) rfl (by kernel_rfl) (by kernel_rfl) (by kernel_rfl) (fun _ _ _ h => h) (Or.inl ⟨by rfl, fun W hSw => ?_⟩) hHeld ?_
     rotate_left
     ·(try dsimp only at hSw); go_simp; (try with_reducible rfl)
     (try simp only [Act.put, List.setIfInBounds_toArray, List.set_cons_zero, List.set_cons_succ])
     refine wpAnyH_done (by kernel_rfl) ?_ _
     refine NoPanic.normal ?_
     go_wp2_with fail
     refine ⟨⟨k + 1, hlt, by go_num, by rw [HT1.out]; exact hv2, by rw [HT2.out]; exact hu2, hd2, hB⟩, ?_⟩
     simp [intOf]; omega
   ·rw [if_pos (by rfl)]
    refine wp_build_int rfl rfl ?_
    intro g2 wz hz2 hG2 hb1 _
    have hg2o : wo.heap.size ≤ g2 := by omega
    replace hS := Nat.le_trans hS hb1.size
    replace hB := fr_call hB hb1
    (try replace hv1 := hv1.keep hb1)
    (try replace hv2 := hv2.keep hb1)
    replace hu1 := hu1.keep hb1
    (try replace hG1 := hG1.keep hb1)
    refine hK.out _ _ (hHeld.keep hb1) (fun hHeld => ?_)
    clear hK K
    (try simp only [Act.put, List.setIfInBounds_toArray, List.set_cons_zero, List.set_cons_succ])
    refine wpAnyH_ready (rs := [3]) (by kernel_rfl) (by simp) ?_
    refine (AllReadyH.cons (o := ⟨some 16, .buildSlice 34 1 #[(0, .tmp 15)], 34, "train.go:97", #[⟨2, .data⟩], none⟩) rfl (fun K hK => ?_) AllReadyH.nil)
    rw [if_pos (by rfl)]
    refine wp_build_int rfl rfl ?_
    intro g1 wz hz1 hG1 hb1 _
    have hg1o : wo.heap.size ≤ g1 := by omega
    replace hS := Nat.le_trans hS hb1.size
    replace hB := fr_call hB hb1
    (try replace hv1 := hv1.keep hb1)
    (try replace hv2 := hv2.keep hb1)
    replace hu1 := hu1.keep hb1
    (try replace hG2 := hG2.keep hb1)
    refine hK.out _ _ (hHeld.keep hb1) (fun hHeld => ?_)
    clear hK K
    (try simp only [Act.put, List.setIfInBounds_toArray, List.set_cons_zero, List.set_cons_succ])
    refine wpAnyH_ready (rs := [4]) (by kernel_rfl) (by simp) ?_
    refine (AllReadyH.cons (o := ⟨some 17, .call { callee := .builtin .append, args := #[.tmp 13, .tmp 16], argTypes := #[34, 34] }, 34, "train.go:97", #[⟨0, .data⟩, ⟨3, .data⟩], none⟩) rfl (fun K hK => ?_) AllReadyH.nil)
    rw [if_pos (by rfl)]
    refine wp_app_int2 34 Tryz.underlying34 (.tmp 13) (.tmp 16) rfl w1.heap.size _ ((ps.take k).map Wh.lo) rfl hv1 g1 x rfl hG1 (by rw [HL1.out]; omega) hB.size ?_
    intro A1 c1 wz hv2 hgr hn1
    rw [HL1.out] at hv2 hn1 ⊢
    have hd1 := dj_next hu1 hd hn1
    replace hB := hB.grown hgr hB.size (own_ge hv1)
    replace hS := Nat.le_trans hS hgr.size
    (try replace hG2 := blk_apart hG2 hgr (fun i e => by have := hlv i e; omega))
    replace hu1 := own_apart hu1 hgr hd
    refine hK.out _ _ (hHeld.grown hgr (Ne.symm (own_blk_ne hv1 hHeld (by decide)))) (fun hHeld => ?_)
    clear hK K
    (try simp only [Act.put, List.setIfInBounds_toArray, List.set_cons_zero, List.set_cons_succ])
    refine wpAnyH_ready (rs := [9]) (by kernel_rfl) (by simp) ?_
    refine (AllReadyH.cons (o := ⟨some 22, .call { callee := .builtin .append, args := #[.tmp 18, .tmp 21], argTypes := #[34, 34] }, 34, "train.go:97", #[⟨5, .data⟩, ⟨8, .data⟩, ⟨4, .chain⟩], none⟩) rfl (fun K hK => ?_) AllReadyH.nil)
    rw [if_pos (by rfl)]
    refine wp_app_int2 34 Tryz.underlying34 (.tmp 18) (.tmp 21) rfl w1.heap.size _ ((ps.take k).map Wh.hi) rfl hu1 g2 y rfl hG2 (by rw [HL2.out]; omega) hB.size ?_
    intro A2 c2 wz hu2 hgr hn2
    rw [HL2.out] at hu2 hn2 ⊢
    replace hB := hB.grown hgr hB.size (own_ge hu1)
    have hd2 := (dj_next hv2 hd1.symm hn2).symm
    replace hv2 := own_apart hv2 hgr hd1.symm
    refine hK.out _ _ (hHeld.grown hgr (Ne.symm (own_blk_ne hu1 hHeld (by decide)))) (fun hHeld => ?_)
    clear hK K
    (try simp only [Act.put, List.setIfInBounds_toArray, List.set_cons_zero, List.set_cons_succ])
    refine wpAnyH_take (i := 10) (oi := ⟨some 3, .assign (.tmp 17), 34, "train.go:97", #[⟨4, .data⟩, ⟨9, .chain⟩, ⟨0, .phase⟩, ⟨1, .phase⟩, ⟨2, .phase⟩, ⟨3, .phase⟩, ⟨4, .phase⟩, ⟨5, .textOnly .lateStores⟩, ⟨6, .textOnly .lateStores⟩, ⟨7, .textOnly .lateStores⟩, ⟨8, .textOnly .lateStores⟩, ⟨9, .textOnly .lateStoresUnsure⟩], none⟩) (v := ?_) rfl (by kernel_rfl) (by kernel_rfl) (by kernel_rfl) (fun _ _ _ h => h) (Or.inl ⟨by rfl, fun W hSw => ?_⟩) hHeld ?_
    rotate_left
    ·(try dsimp only at hSw); go_simp; (try with_reducible rfl)
    (try simp only [Act.put, List.setIfInBounds_toArray, List.set_cons_zero, List.set_cons_succ])
    refine wpAnyH_take (i := 11) (oi := ⟨some 4, .assign (.tmp 22), 34, "train.go:97", #[⟨9, .data⟩, ⟨10, .chain⟩, ⟨0, .phase⟩, ⟨1, .phase⟩, ⟨2, .phase⟩, ⟨3, .phase⟩, ⟨4, .phase⟩, ⟨5, .phase⟩, ⟨6, .phase⟩, ⟨7, .phase⟩, ⟨8, .phase⟩, ⟨9, .phase⟩, ⟨10, .phase⟩], none⟩) (v := ?_) rfl (by kernel_rfl) (by kernel_rfl) (by kernel_rfl) (fun _ _ _ h => h) (Or.inl ⟨by rfl, fun W hSw => ?_⟩) hHeld ?_
    rotate_left
    ·(try dsimp only at hSw); go_simp; (try with_reducible rfl)
    (try simp only [Act.put, List.setIfInBounds_toArray, List.set_cons_zero, List.set_cons_succ])
    refine wpAnyH_done (by kernel_rfl) ?_ _
    refine NoPanic.normal ?_
    go_wp2_with fail
    refine ⟨⟨k + 1, hlt, by go_num, by rw [HT1.out]; exact hv2, by rw [HT2.out]; exact hu2, hd2, hB⟩, ?_⟩
    simp [intOf]; omega
  ·obtain rfl : k = n := by omega
   obtain ⟨⟨f1, f2⟩, ⟨f3, f4⟩, f5, f6⟩ := pr_facts ht (by rw [HN.out]; omega)
   have e1 : (ps.take k).map Wh.lo = losOf ps := by rw [List.take_of_length_le (by rw [HN.out]; exact Nat.le_refl _)]; rfl
   have e2 : (ps.take k).map Wh.hi = hisOf ps := by rw [List.take_of_length_le (by rw [HN.out]; exact Nat.le_refl _)]; rfl
   rw [e1] at hv
   rw [e2] at hu
   rw [HN.out] at f1 f2
   obtain ⟨A1, c1, rfl⟩ := hv.form
   obtain ⟨A2, c2, rfl⟩ := hu.form
   have l1 : (losOf ps).length = k := by unfold losOf; rw [List.length_map, HN.out]
   have l2 : (hisOf ps).length = k := by unfold hisOf; rw [List.length_map, HN.out]
   rw [l1] at hv ⊢
   rw [l2] at hu ⊢
   have HF1 := Lib.hid f1
   have HF2 := Lib.hid f2
   have hX1 := hX.keep hbel
   clear l1 l2 f1 f2 e1 e2 hX
   go_wp2_with fail
   refine (tproduct_any A1 k c1 (losOf ps) wr hv.rd (by omega) (los_bd ht)).mono ?_
   rintro e w' ⟨rfl, rfl⟩
   rw [HF1.out]
   go_wp2_with fail
   refine (tproduct_any A2 k c2 (hisOf ps) wr hu.rd (by omega) (his_bd ht)).mono ?_
   rintro e w' ⟨rfl, rfl⟩
   rw [HF2.out]
   go_wp2_with fail
   refine (reduced_is (prD ps) (prV ps) wr (by omega) (by omega) f5).mono ?_
   rintro e w2 ⟨rfl, hb2⟩
   have hX2 := hX1.keep hb2
   have hbf := fr_call (fr_call hb0 hbel) hb2
   go_wp2_with (refine wpList_store_blk rfl _ _ _ rfl w.heap.size 40 _ _ rfl rfl hX2 rfl (by kernel_rfl) (by simp [Value.oneCell']) ?_; intro w3 hX3 hg3)
   exact bodyPost_ret (results_blk1 rfl _ _ _ _ rfl hX3 Tryz.underlying40 rfl (by kernel_rfl)) rfl ⟨rfl, hbf.grown hg3 hbf.size (by intro k hk; cases hk; exact Nat.le_refl _)⟩
end Go.Proofs.YtfgghicdkcjdgaaGreatDoor
end

section
namespace Go.Proofs.YtfgghicdkcjdgaaGreatDoor
open Go.RowKit Go.Shelf

set_option maxHeartbeats 400000 in
theorem tin_is (x lo hi : Int) (w : World) (b : Bool) (hb : inB x lo hi = b) :
  Calls Tryz.prog 114 #[.int .i64 x, .int .i64 lo, .int .i64 hi] w fun e w' => e = .returned (.bool b) ∧ w = w' := by
 subst hb
 by_cases h : lo ≤ x
 ·go_enter Tryz.func114, Tryz.ntmps114
  go_wp2
  go_ret
  exact ⟨ret_bool (by simp [inB, h]), rfl⟩
 ·go_enter Tryz.func114, Tryz.ntmps114
  go_wp2
  go_ret
  exact ⟨ret_bool (by simp only [inB]; rw [eq_comm, decide_eq_false_iff_not]; omega), rfl⟩
set_option maxHeartbeats 400000 in
theorem tisTeeth_is (x : Int) (w : World) (b : Bool) (hb : teethB x = b) :
  Calls Tryz.prog 116 #[.int .i64 x] w fun e w' => e = .returned (.bool b) ∧ w = w' := by
 go_enter Tryz.func116, Tryz.ntmps116
 go_wp2_with (go_at_call 114; refine (tin_is _ _ _ _ _ hb).mono ?_; rintro e w' ⟨rfl, rfl⟩)
 go_ret
 exact ⟨rfl, rfl⟩
set_option maxHeartbeats 2000000 in
theorem isTrain1_yes (s : Wh) (w : World) (h1 : teethB s.lo = true) (h2 : teethB s.hi = true) :
  Calls Tryz.prog 115 #[.agg s.cells.toArray] w fun e w' => e = .returned (.bool false) ∧ Below w.heap.size w w' := by
 obtain ⟨lo, hi⟩ := s
 unfold Wh.cells
 simp only at h1 h2 ⊢
 go_enter Tryz.func115, Tryz.ntmps115
 go_wp2_with fail
 refine (tisTeeth_is _ _ _ h1).mono ?_
 rintro e w' ⟨rfl, rfl⟩
 go_wp2_with fail
 refine (tisTeeth_is _ _ _ h2).mono ?_
 rintro e w' ⟨rfl, rfl⟩
 go_wp2_with fail
 go_ret
 exact ⟨rfl, fr_alloc (fr_refl _) _⟩
theorem teethP_at {ps : List Wh} (h : TeethP ps) {k : Nat} (hk : k < ps.length) : teethB ps[k].lo = true ∧ teethB ps[k].hi = true := by
 have := h ps[k] (List.getElem_mem hk)
 exact ⟨inB_yes (by omega), inB_yes (by omega)⟩
set_option maxRecDepth 100000 in
set_option maxHeartbeats 4000000 in
theorem index_train (A : Option Addr) (n c : Nat) (l : List Wh) (w : World) (hr : RdS w A 2 (l.map Wh.cells)) (hl : l.length = n) (hn : n ≤ 1000) (ht : TeethP l) :
  Calls Tryz.prog 126 #[.slice A n c, .func (.func 115) #[] #[]] w fun e' w' => e' = .returned (.int .i64 (-1)) ∧ Below w.heap.size w w' := by
 have HL := Lib.hid hl
 clear hl
 go_enter Tryz.func126, Tryz.ntmps126
 go_wp2
 go_loopw [8] (fun i wr => ∃ k : Nat, k ≤ n ∧ i = .int .i64 k ∧ Below w.heap.size w wr) (fun i _ => n - (intOf i).toNat)
 case atStart => exact ⟨0, Nat.zero_le _, rfl, fr_refl _⟩
 case round =>
  obtain ⟨k, hk, rfl, hbel⟩ := hrel
  by_cases hlt : k < n
  ·have hkl : k < l.length := by have := HL.out; omega
   obtain ⟨ad, rfl, hab, hc0, hc1⟩ := whs_at (hr.keep hbel) hkl
   have htk := teethP_at ht hkl
   clear hr
   go_wp2_with fail
   refine (isTrain1_yes _ _ htk.1 htk.2).mono ?_
   rintro e w1 ⟨rfl, hb1⟩
   go_wp2_with fail
   refine ⟨⟨k + 1, hlt, rfl, fr_call hbel hb1⟩, ?_⟩
   simp [intOf]; omega
  ·go_wp2_with fail
   go_ret
   exact ⟨rfl, hbel⟩
set_option maxHeartbeats 2000000 in
theorem contains_train (A : Option Addr) (n c : Nat) (l : List Wh) (w : World) (hr : RdS w A 2 (l.map Wh.cells)) (hl : l.length = n) (hn : n ≤ 1000) (ht : TeethP l) :
  Calls Tryz.prog 78 #[.slice A n c, .func (.func 115) #[] #[]] w fun e' w' => e' = .returned (.bool false) ∧ Below w.heap.size w w' := by
 go_enter Tryz.func78, Tryz.ntmps78
 go_wp2_with fail
 refine (index_train A n c l w hr hl hn ht).mono ?_
 rintro e w1 ⟨rfl, hb1⟩
 go_wp2_with fail
 go_ret
 exact ⟨rfl, hb1⟩
set_option maxHeartbeats 2000000 in
theorem isTrain_yes (A : Option Addr) (n c : Nat) (l : List Wh) (w : World) (hr : RdS w A 2 (l.map Wh.cells)) (hl : l.length = n) (h1 : 1 ≤ n) (hn : n ≤ 3) (ht : TeethP l) :
  Calls Tryz.prog 58 #[.slice A n c] w fun e' w' => e' = .returned (.bool true) ∧ Below w.heap.size w w' := by
 have hi : inB (n : Int) 1 3 = true := inB_yes (by omega)
 go_enter Tryz.func58, Tryz.ntmps58
 go_wp2_with fail
 refine (tin_is _ _ _ _ _ hi).mono ?_
 rintro e w' ⟨rfl, rfl⟩
 go_wp2_with fail
 refine (contains_train A n c l w hr hl (by omega) ht).mono ?_
 rintro e w1 ⟨rfl, hb1⟩
 go_wp2_with fail
 go_ret
 exact ⟨rfl, hb1⟩
def RetT (w : World) (n : Nat) (x y : Int) (e : Ending) (w' : World) : Prop := e = .returned (.tuple #[.agg #[.int .i64 x, .int .i64 y], .bool ((n : Int) % 2 == 0), .int .i64 0]) ∧ Below w.heap.size w w'
theorem results_blk_tmp3 {P : Program} {w : World} {fn : Func} {t u v : Tmp} {ty : TypeId} (h : fn.results = #[.cell t ty, .tmp u, .tmp v]) (tmps : Array Value) (g : Nat) (bt : TypeId) (cs : Array Value) (hp : tmps.getD t undef = .pointer (some ⟨g, 0, none⟩)) (hB : Blk w g bt cs)
  {d : TypeDesc} (hu : P.underlying ty = some d) (hd : d.isRow = true) (hi : (P.info? ty).map (·.size) = some cs.size) : (results fn tmps).run P w = .ok (.tuple #[.agg cs, tmps.getD u undef, tmps.getD v undef]) w := by
 have hr : w.rangeAt g 0 cs.toList := fun j v hv => by
  rw [Nat.zero_add, hB.cell]
  simpa using hv
 have := run_loadVar_mid w g 0 ty cs.toList d hr hu hd (by simpa using hi)
 have hp' : (tmps[t]?).getD undef = .pointer (some ⟨g, 0, none⟩) := by simpa using hp
 rw [Array.toArray_toList] at this
 simp [results, h, hp', asAddr, this]
set_option maxRecDepth 100000 in
set_option maxHeartbeats 4000000 in
theorem tTurns_ok (A : Option Addr) (n c : Nat) (l : List Wh) (w : World) (hr : RdS w A 2 (l.map Wh.cells)) (hl : l.length = n) (h1 : 1 ≤ n) (hn : n ≤ 3) (ht : TeethP l) :
  Calls Tryz.prog 15 #[.slice A n c] w (RetT w n (turnD l : Int) (turnV l : Int)) := by
 have hX := Blk.new w 40 #[.int .i64 0, .int .i64 0]
 have hb0 := fr_alloc (fr_refl w) (.cells #[.int .i64 0, .int .i64 0] 40)
 replace hr := hr.keep hb0
 have HL := Lib.hid hl
 clear hl
 go_enter Tryz.func15, Tryz.ntmps15
 go_wp2_with fail
 refine (isTrain_yes A n c l _ hr HL.out h1 hn ht).mono ?_
 rintro e w1 ⟨rfl, hb1⟩
 replace hX := hX.keep hb1
 replace hr := hr.keep hb1
 replace hb0 := fr_call hb0 hb1
 go_wp2_with fail
 refine (turns_any A n c l w1 hr HL.out hn ht).mono ?_
 rintro e w2 ⟨rfl, hb2⟩
 replace hX := hX.keep hb2
 replace hb0 := fr_call hb0 hb2
 clear hr
 go_wp2_with (refine wpList_store_blk rfl _ _ _ rfl w.heap.size 40 _ _ rfl rfl hX rfl (by kernel_rfl) (by simp [Value.oneCell']) ?_; intro w3 hX3 hg3)
 refine bodyPost_ret (results_blk_tmp3 rfl _ _ _ _ rfl hX3 Tryz.underlying40 rfl (by kernel_rfl)) rfl ?_
 exact ⟨rfl, hb0.grown hg3 hb0.size (by intro k hk; cases hk; exact Nat.le_refl _)⟩
theorem pairs_len (t : List Int) : (pairsOf t).length = t.length / 2 := pairK_len t _
theorem pairs_teeth {t : List Int} (h : TeethOk t) : TeethP (pairsOf t) := fun p hp => by
 obtain ⟨i, hi, rfl⟩ := List.mem_map.1 hp
 have hi := List.mem_range.1 hi
 have h1 := teeth_get h (k := 2 * i) (by omega)
 have h2 := teeth_get h (k := 2 * i + 1) (by omega)
 simp only
 omega
set_option maxRecDepth 100000 in
set_option maxHeartbeats 4000000 in
theorem gturns_any (A : Option Addr) (n c : Nat) (t : List Int) (w : World) (hr : Rd w A n t) (hn2 : 2 ≤ n) (hn : n ≤ 6) (ht : TeethOk t) :
  Calls Tryz.prog 113 #[.slice A n c] w (RetF w (turnD (pairsOf t) : Int) (turnV (pairsOf t) : Int)) := by
 have hX := Blk.new w 40 #[.int .i64 0, .int .i64 0]
 have hb0 := fr_alloc (fr_refl w) (.cells #[.int .i64 0, .int .i64 0] 40)
 replace hr := hr.keep hb0
 have hpl := pairs_len t
 rw [hr.len] at hpl
 have htp := pairs_teeth ht
 have HPL := Lib.hid hpl
 clear hpl ht
 go_enter Tryz.func113, Tryz.ntmps113
 go_wp2_with fail
 refine (train_any A n c t _ hr (by omega)).mono ?_
 rintro e w1 ⟨A1, c1, rfl, ho1, hb1⟩
 replace hX := hX.keep hb1
 replace hb0 := fr_call hb0 hb1
 rw [HPL.out] at ho1 ⊢
 clear hr
 go_wp2_with fail
 refine (tTurns_ok A1 (n / 2) c1 (pairsOf t) w1 ho1.rd HPL.out (by omega) (by omega) htp).mono ?_
 rintro e w2 ⟨rfl, hb2⟩
 replace hX := hX.keep hb2
 replace hb0 := fr_call hb0 hb2
 have hY := Blk.new w2 40 #[.int .i64 (turnD (pairsOf t) : Int), .int .i64 (turnV (pairsOf t) : Int)]
 have hbY := fr_alloc (fr_refl w2) (.cells #[.int .i64 (turnD (pairsOf t) : Int), .int .i64 (turnV (pairsOf t) : Int)] 40)
 replace hX := hX.keep hbY
 replace hb0 := fr_call hb0 hbY
 clear ho1
 go_wp2_with (refine wpList_store_blk rfl _ _ _ rfl w.heap.size 40 _ _ rfl rfl hX rfl (by kernel_rfl) (by simp [Value.oneCell']) ?_; intro w3 hX3 hg3)
 exact bodyPost_ret (results_blk1 rfl _ _ _ _ rfl hX3 Tryz.underlying40 rfl (by kernel_rfl)) rfl ⟨rfl, hb0.grown hg3 hb0.size (by intro k hk; cases hk; exact Nat.le_refl _)⟩
end Go.Proofs.YtfgghicdkcjdgaaGreatDoor
end

section
namespace Go.Proofs.YtfgghicdkcjdgaaGreatDoor
open Go.RowKit Go.Shelf
attribute [local go_sem] Oper.semAt_some

/-- the statement, up to the iterator's call, the iterator with bound arguments -/
theorem wpIn_range_enter2 {P : Program} {g : Operand} {ps : Array Tmp} {assign body : Code} {Q : Exit → Act → World → Prop} {a : Act} {w : World} {n gf : Nat} {first lb : Array Value}
  (hg : a.eval g = .func (.func gf) first lb) (eg : ∀ args w, (callFunc gf args).run P w = .ok (.enter gf args) w)
  (hcall : ∀ (fn : Nat) (rec : Loop), rec.state = .ready → rec.pending = none → rec.fn = fn → rec.tmps = a.tmps → rec.params = ps → rec.assign = assign → rec.body = body →
   CallsIn Fence.wide n P gf (first ++ #[.func (.yield (w.heap.size + 1)) #[] #[]] ++ lb) ((w.alloc (.deferred (some []))).alloc (.loop rec)) (rangePost Fence.wide (n + 1) P (w.heap.size + 1) Q { a with defers := { target := .collected w.heap.size, args := #[] } :: a.defers })) :
  (Code.rangeFunc g ps assign body).wpIn Fence.wide (n + 1) P Q a w := by
 refine wpIn_rangeFunc (fun fn _ => ?_)
 obtain ⟨rec, hrec⟩ : ∃ rec : Loop, rec = { state := .ready, pending := none, fn, tmps := a.tmps, params := ps, assign, body, defers := w.heap.size } := ⟨_, rfl⟩
 obtain ⟨W1, hW1⟩ : ∃ W1, (w.alloc (.deferred (some []))).alloc (.loop rec) = W1 := ⟨_, rfl⟩
 have hc := hcall fn rec (by rw [hrec]) (by rw [hrec]) (by rw [hrec]) (by rw [hrec]) (by rw [hrec]) (by rw [hrec]) (by rw [hrec])
 rw [hW1] at hc
 refine ⟨w.heap.size + 1, [{ target := .collected w.heap.size, args := #[] }], W1, { target := .fn (.func gf) lb, args := first ++ #[.func (.yield (w.heap.size + 1)) #[] #[]] }, W1, gf, first ++ #[.func (.yield (w.heap.size + 1)) #[] #[]] ++ lb, W1, ?_, ?_, ?_, ?_, ?_, ?_⟩
 ·rw [← hW1, hrec]; exact run_enterLoop_outer _ _ _ _ _
 ·simp only [resolve, hg]
  simp [go_sem]
 ·exact fun _ _ => trivial
 ·simp [invoke, go_sem, eg]
 ·intro h; cases h
 ·exact hc
/-- the first of some things than which none is better -/
def bestF {α : Type} (lt : α → α → Bool) (o : Option α) (x : α) : Option α := match o with | none => some x | some y => if lt x y then some x else some y
def bestL {α : Type} (lt : α → α → Bool) (xs : List α) : Option α := xs.foldl (bestF lt) none
theorem bestL_snoc {α : Type} (lt : α → α → Bool) (xs : List α) (x : α) : bestL lt (xs ++ [x]) = bestF lt (bestL lt xs) x := by unfold bestL; rw [List.foldl_append]; rfl
/-- from block H on, what was there is as it was -/
def Hi (H : Nat) (W W' : World) : Prop := ∀ g, H ≤ g → g < W.heap.size → W'.heap[g]? = W.heap[g]?
/-- what a yield keeps -/
structure KeepH (B : Nat) (T : TypeId → Bool) (H : Nat) (W W' : World) : Prop where
 k : Keep B T W W'
 hi : Hi H W W'
section
variable {B H : Nat} {T : TypeId → Bool} {W W' W'' : World}
theorem KeepH.trans (h : KeepH B T H W W') (k : KeepH B T H W' W'') : KeepH B T H W W'' := ⟨h.k.trans k.k, fun g h1 h2 => (k.hi g h1 (Nat.lt_of_lt_of_le h2 h.k.size)).trans (h.hi g h1 h2)⟩
theorem KeepH.of_below (hb : Below W.heap.size W W') : KeepH B T H W W' := ⟨Keep.of_below hb, fun g _ h2 => hb.block g h2⟩
theorem KeepH.then_below (h : KeepH B T H W W') (hb : Below W'.heap.size W' W'') : KeepH B T H W W'' := h.trans (KeepH.of_below hb)
theorem KeepH.grown {r : Option Nat} (hg : W.grownBy W' r) (h : ∀ k, r = some k → (B ≤ k ∧ k < H) ∧ ∀ cs t fr, W.heap[k]? = some (.cells cs t fr) → T t = false) : KeepH B T H W W' :=
 ⟨Keep.grown hg (fun k e => ⟨(h k e).1.1, (h k e).2⟩), fun g h1 h2 => hg.block g h2 (fun e => by have := (h g e.symm).1.2; omega)⟩
theorem keepH_put {l : Nat} {o : Obj} (hl : W.heap[l]? = some o) (ho : o.isCells = false) (hB : B ≤ l ∧ l < H) (o' : Obj) : KeepH B T H W (W.putObj l o') :=
 KeepH.grown (grownBy_putObj' W l o') (fun k e => by cases e; exact ⟨hB, fun cs t fr h => by rw [hl] at h; cases h; cases ho⟩)
end
/-- what the round over an iterator brings: an invariant of what has come, and of the world -/
structure ItY {α : Type} (B : Nat) (T : TypeId → Bool) (H m l : Nat) (Ok : World → α → Value → Prop) (P : α → Prop) (J : List α → World → Prop) : Prop where
 keep : ∀ d W W', J d W → Below H W W' → Keep B T W W' → J d W'
 yield : ∀ d x v W, J d W → P x → Ok W x v → YieldAt Fence.wide m Tryz.prog l #[v] W fun e W' => e = .returned (.bool true) ∧ J (d ++ [x]) W' ∧ KeepH B T H W W'
theorem ItY.below {α : Type} {B H m l : Nat} {T : TypeId → Bool} {Ok : World → α → Value → Prop} {P : α → Prop} {J : List α → World → Prop} (h : ItY B T H m l Ok P J) {d : List α} {W W' : World} (hJ : J d W) (hb : Below W.heap.size W W') (hH : H ≤ W.heap.size) : J d W' :=
 h.keep d W W' hJ (hb.mono hH) (Keep.of_below hb)
theorem Blk.low {H g : Nat} {t : TypeId} {cs : Array Value} {W W' : World} (h : Blk W g t cs) (hb : Below H W W') (hg : g < H) : Blk W' g t cs := (hb.block g hg).trans h
end Go.Proofs.YtfgghicdkcjdgaaGreatDoor
end

section
namespace Go.Proofs.YtfgghicdkcjdgaaGreatDoor
open Go.RowKit Go.Shelf
attribute [local go_sem] Oper.semAt_some

theorem bestF_mem {α : Type} (lt : α → α → Bool) (o : Option α) (x y : α) (h : bestF lt o x = some y) : y = x ∨ o = some y := by
 unfold bestF at h
 split at h
 ·exact Or.inl (Option.some.inj h).symm
 ·split at h
  ·exact Or.inl (Option.some.inj h).symm
  ·exact Or.inr h
theorem bestF_from {α : Type} (lt : α → α → Bool) : ∀ (xs : List α) (o : Option α) (y : α), xs.foldl (bestF lt) o = some y → y ∈ xs ∨ o = some y
 | [], o, y, h => Or.inr h
 | x :: xs, o, y, h => by
  rcases bestF_from lt xs (bestF lt o x) y h with h1 | h1
  ·exact Or.inl (List.mem_cons_of_mem _ h1)
  ·rcases bestF_mem lt o x y h1 with rfl | h2
   ·exact Or.inl List.mem_cons_self
   ·exact Or.inr h2
theorem bestL_mem {α : Type} {lt : α → α → Bool} {xs : List α} {y : α} (h : bestL lt xs = some y) : y ∈ xs := (bestF_from lt xs none y h).resolve_right (by simp)
theorem all_snoc {α : Type} {P : α → Prop} {d : List α} {x : α} (h : ∀ y ∈ d, P y) (hx : P x) : ∀ y ∈ d ++ [x], P y := fun y hy => by
 rcases List.mem_append.1 hy with h1 | h1
 ·exact h y h1
 ·rw [List.mem_singleton.1 h1]; exact hx
/-- the types of what the best of fractions does not touch -/
def tyF (E : TypeId) : TypeId → Bool := fun t => t != E && t != 4
def encF (p : Int × Int) : Array Value := #[.int .i64 p.1, .int .i64 p.2]
def OkF (_ : World) (p : Int × Int) (v : Value) : Prop := v = .agg (encF p)
/-- the better of two fractions, as a function -/
def BetF (P : Int × Int → Prop) (lt : Int × Int → Int × Int → Bool) (gb : Nat) : Prop := ∀ (x y : Int × Int) (W : World), P x → P y → Calls Tryz.prog gb #[.agg (encF x), .agg (encF y)] W fun e w' => e = .returned (.bool (lt x y)) ∧ Below W.heap.size W w'
/-- an iterator over fractions -/
def IterF (E : TypeId) (gf : Nat) (first lb : Array Value) (w : World) (xs : List (Int × Int)) : Prop := ∀ (l : Nat) (P : Int × Int → Prop) (J : List (Int × Int) → World → Prop) (W : World), (∀ x ∈ xs, P x) → Below w.heap.size w W → ItY w.heap.size (tyF E) W.heap.size 5 l OkF P J → J [] W →
 Calls Tryz.prog gf (first ++ #[.func (.yield l) #[] #[]] ++ lb) W fun e W' => e = .returned (.tuple #[]) ∧ J xs W' ∧ Keep w.heap.size (tyF E) W W'
/-- what holds between two rounds of best -/
structure BInv (E FT : TypeId) (B : Nat) (P : Int × Int → Prop) (lt : Int × Int → Int × Int → Bool) (w2 : World) (bb br bo bm lD l gb : Nat) (rec : Loop) (d : List (Int × Int)) (W : World) : Prop where
 kp : Keep B (tyF E) w2 W
 f : Blk W bb FT #[.func (.func gb) #[] #[]]
 r : Blk W br E #[.int .i64 0, .int .i64 0]
 o : Blk W bo E (encF ((bestL lt d).getD (0, 0)))
 m : Blk W bm 4 #[.bool (bestL lt d).isSome]
 df : W.heap[lD]? = some (.deferred (some []))
 lp : W.heap[l]? = some (.loop rec)
 al : ∀ x ∈ d, P x
variable {E FT : TypeId} {B : Nat} {P : Int × Int → Prop} {lt : Int × Int → Int × Int → Bool} {w2 W W' : World} {bb br bo bm lD l gb : Nat} {rec : Loop} {d : List (Int × Int)}
theorem BInv.below (h : BInv E FT B P lt w2 bb br bo bm lD l gb rec d W) (hb : Below W.heap.size W W') : BInv E FT B P lt w2 bb br bo bm lD l gb rec d W' :=
 ⟨h.kp.then_below hb, h.f.keep hb, h.r.keep hb, h.o.keep hb, h.m.keep hb, (hb.block _ (Array.getElem?_eq_some_iff.1 h.df).1).trans h.df, (hb.block _ (Array.getElem?_eq_some_iff.1 h.lp).1).trans h.lp, h.al⟩
theorem BInv.move {H : Nat} (h : BInv E FT B P lt w2 bb br bo bm lD l gb rec d W) (hb : Below H W W') (hk : Keep B (tyF E) W W') (hH : (bb < H ∧ br < H ∧ bo < H) ∧ bm < H ∧ lD < H ∧ l < H) : BInv E FT B P lt w2 bb br bo bm lD l gb rec d W' :=
 ⟨h.kp.trans hk, h.f.low hb hH.1.1, h.r.low hb hH.1.2.1, h.o.low hb hH.1.2.2, h.m.low hb hH.2.1, (hb.block _ hH.2.2.1).trans h.df, (hb.block _ hH.2.2.2).trans h.lp, h.al⟩
theorem BInv.put (h : BInv E FT B P lt w2 bb br bo bm lD l gb rec d W) (hB : B ≤ l) (hne : lD ≠ l) (r' : Loop) : BInv E FT B P lt w2 bb br bo bm lD l gb r' d (W.putObj l (.loop r')) := by
 have hg := grownBy_putObj' W l (.loop r')
 have hk : Keep B (tyF E) W (W.putObj l (.loop r')) := keep_put h.lp rfl hB _
 have hn : ∀ {k : Nat} {t : TypeId} {cs : Array Value}, Blk W k t cs → some k ≠ some l := fun hK e => Obj_cells_ne hK h.lp rfl (by cases e; rfl)
 exact ⟨h.kp.trans hk, h.f.grown hg (hn h.f), h.r.grown hg (hn h.r), h.o.grown hg (hn h.o), h.m.grown hg (hn h.m), (World.putObj_heap_other hne).trans h.df, World.putObj_heap_same (Array.getElem?_eq_some_iff.1 h.lp).1, h.al⟩
/-- a fraction was taken -/
theorem BInv.take {x : Int × Int} {WD : World} {H : Nat} (h : BInv E FT B P lt w2 bb br bo bm lD l gb rec d W) (hP : P x) (ho : Blk WD bo E (encF x)) (hg : W.grownBy WD (some bo)) (hx : bestF lt (bestL lt d) x = some x)
  (hn : (bb ≠ bo ∧ br ≠ bo ∧ bm ≠ bo) ∧ bb ≠ bm ∧ br ≠ bm) (hB : (B ≤ bo ∧ bo < H) ∧ B ≤ bm ∧ bm < H) : BInv E FT B P lt w2 bb br bo bm lD l gb rec (d ++ [x]) (WD.setCell ⟨bm, 0, none⟩ (.bool true)) ∧ KeepH B (tyF E) H W (WD.setCell ⟨bm, 0, none⟩ (.bool true)) := by
 have hk1 : KeepH B (tyF E) H W WD := KeepH.grown hg (fun k e => by cases e; exact ⟨hB.1, fun cs t fr hh => by rw [h.o] at hh; cases hh; simp [tyF]⟩)
 have hm : Blk WD bm 4 _ := h.m.grown hg (fun e => hn.1.2.2 (Option.some.inj e))
 have hk2 : KeepH B (tyF E) H WD (WD.setCell ⟨bm, 0, none⟩ (.bool true)) := KeepH.grown (grown_set WD ⟨bm, 0, none⟩ _) (fun k e => by cases e; exact ⟨hB.2, fun cs t fr hh => by rw [hm] at hh; cases hh; simp [tyF]⟩)
 refine ⟨⟨(h.kp.trans hk1.k).trans hk2.k, (h.f.grown hg (fun e => hn.1.1 (Option.some.inj e))).far (p := ⟨bm, 0, none⟩) hn.2.1 _, (h.r.grown hg (fun e => hn.1.2.1 (Option.some.inj e))).far (p := ⟨bm, 0, none⟩) hn.2.2 _, ?_, ?_, ?_, ?_, all_snoc h.al hP⟩, hk1.trans hk2⟩
 ·rw [bestL_snoc, hx]
  exact ho.far (p := ⟨bm, 0, none⟩) hn.1.2.2.symm _
 ·rw [bestL_snoc, hx]
  exact hm.set_ 0 _
 ·exact heap_setO hm ((hg.block _ (Array.getElem?_eq_some_iff.1 h.df).1 (fun e => Obj_cells_ne h.o h.df rfl (Option.some.inj e).symm)).trans h.df) rfl _
 ·exact heap_setO hm ((hg.block _ (Array.getElem?_eq_some_iff.1 h.lp).1 (fun e => Obj_cells_ne h.o h.lp rfl (Option.some.inj e).symm)).trans h.lp) rfl _
/-- a fraction was left -/
theorem BInv.leave {x : Int × Int} (h : BInv E FT B P lt w2 bb br bo bm lD l gb rec d W) (hP : P x) (hx : bestF lt (bestL lt d) x = bestL lt d) : BInv E FT B P lt w2 bb br bo bm lD l gb rec (d ++ [x]) W :=
 ⟨h.kp, h.f, h.r, by rw [bestL_snoc, hx]; exact h.o, by rw [bestL_snoc, hx]; exact h.m, h.df, h.lp, all_snoc h.al hP⟩
/-- a store of a whole struct, in a fence -/
theorem wpListIn_store_blk {F : Fence} {n : Nat} {P : Program} {op : Oper} {a : Act} {w : World} {Q : Exit → Act → World → Prop} {ops : Array Oper} {rest : List Oper} (hgd : op.guard = none) (ty : TypeId) (x y : Operand) (ho : op.op = .store ty x y) (g : Nat) (t : TypeId) (cs vs : Array Value)
  (hx : a.eval x = .pointer (some ⟨g, 0, none⟩)) (hy : a.eval y = .agg vs) (hB : Blk w g t cs) (hsz : vs.size = cs.size) (hi : (P.info? ty).map (·.size) = some vs.size) (h1 : vs.all (·.oneCell') = true)
  (h : ∀ W, Blk W g t vs → w.grownBy W (some g) → wpListIn F n P ops Q rest (a.put op.dst undef) W) : wpListIn F n P ops Q (op :: rest) a w := by
 refine wpListIn_plain hgd fun K hK => ?_
 have ht : w.there g 0 vs.size := fun j hj => by
  rw [Nat.zero_add, hB.cell, hB.frozen]
  exact ⟨by simp; omega, rfl⟩
 unfold Oper.wpIn
 refine ⟨by simp [Oper.about, ho], ?_⟩
 rw [Oper.semAt_plain F _ _ (by rw [ho]; intro c hc'; cases hc')]
 simp only [execOp, ho, hx, hy, Instr.storeAt, Instr.sureAddr, Sem.run_bind, Sem.run_pure, Result.andThen_ok, run_storeVar_mid w g 0 ty vs ht hi h1]
 exact hK _ _ (h _ (setCells_blk hB vs.toList (by simpa using hsz)) (setCells_grown _ _ _))
end Go.Proofs.YtfgghicdkcjdgaaGreatDoor
end
