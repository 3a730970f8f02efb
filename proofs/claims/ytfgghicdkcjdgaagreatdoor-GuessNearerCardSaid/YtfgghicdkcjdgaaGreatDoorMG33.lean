/- Walks, package train: a rule's numbers of teeth, and which trains it lets in. Walks, package train: which trains a rule lets in. Walks, package train: pairs in order, and whether a train is one of a rule. Walk, package train: Fits. -/
import Derived.Test.YtfgghicdkcjdgaaGreatDoorMG32
import Derived.Test.YtfgghicdkcjdgaaGreatDoorShelf
import Derived.Test.YtfgghicdkcjdgaaGreatDoorMG19
import Derived.Test.YtfgghicdkcjdgaaGreatDoorMG8
import Derived.BigRegion
section
namespace Go.Proofs.YtfgghicdkcjdgaaGreatDoor
open Go.RowKit Go.Shelf

theorem rd_addr {w : World} {A : Option Addr} {n : Nat} {xs : List Int} (h : Rd w A n xs) (hn : 0 < n) :
  ∃ b off, A = some ⟨b, off, none⟩ ∧ b < w.heap.size ∧ ∀ j, j < n → w.cell? ⟨b, off + j, none⟩ = some (.int .i64 (xs[j]?.getD 0)) := by
 obtain ⟨ad, e, hb, hc⟩ := h.2 hn
 obtain ⟨b, off, spot⟩ := ad
 have h0 := hc 0 hn
 cases spot with
 | none => exact ⟨b, off, e, hb, fun j hj => by have := hc j hj; rw [add_lit] at this; exact this⟩
 | some s =>
  exfalso
  simp only [Addr.add, if_true] at h0
  unfold World.cell? at h0
  split at h0 <;> simp at h0
theorem has_any (A : Option Addr) (n c : Nat) (xs : List Int) (x : Int) (w : World) (hr : Rd w A n xs) (hn : n ≤ 9223372036854775807) (b : Bool) (hb : xs.contains x = b) :
  Calls Tryz.prog 124 #[.slice A n c, .int .i64 x] w fun e' w' => e' = .returned (.bool b) ∧ w = w' := by
 subst hb
 by_cases h0 : n = 0
 ·subst h0
  have := hr.len
  obtain rfl : xs = [] := List.length_eq_zero_iff.1 this
  exact (Tryz.slices_Contains_int_empty A c x w).mono fun _ _ h => ⟨h.1, h.2.symm⟩
 ·obtain ⟨b0, off, rfl, hlt, hc⟩ := rd_addr hr (by omega)
  have hlen := hr.len
  have htake : xs.take n = xs := List.take_of_length_le (by omega)
  refine (Tryz.slices_Contains_int b0 off n c xs x w (by omega) hn (fun j hj => ?_)).mono ?_
  ·rw [hc j (by omega)]; simp
  ·rw [htake]; exact fun _ _ h => ⟨h.1, h.2.symm⟩
/-- a rule with its numbers of teeth -/
def Rule.full (r : Rule) (V : Option Addr) (n c : Nat) (T : Option Addr) (m d : Nat) : Array Value := #[.int .i64 r.least, .int .i64 r.most, .int .i64 r.pairs, .int .i64 r.sense, .slice V n c, .slice T m d]
/-- a rule while its numbers of teeth are gathered -/
structure UI (w0 : World) (bx br bf : Nat) (e1 e2 e3 e4 : Int) (V : Option Addr) (n c : Nat) (v : Value) (xs : List Int) (W : World) : Prop where
 x : Blk W bx 53 #[.int .i64 e1, .int .i64 e2, .int .i64 e3, .int .i64 e4, .slice V n c]
 z : Blk W br 117 #[.int .i64 0, .int .i64 0, .int .i64 0, .int .i64 0, .slice none 0 0, .slice none 0 0]
 f : Blk W bf 117 #[.int .i64 e1, .int .i64 e2, .int .i64 e3, .int .i64 e4, .slice V n c, v]
 nn : Own W w0.heap.size v xs
 bel : Below w0.heap.size w0 W
theorem UI.below {w0 W W' : World} {bx br bf n c : Nat} {e1 e2 e3 e4 : Int} {V : Option Addr} {v : Value} {xs : List Int} (h : UI w0 bx br bf e1 e2 e3 e4 V n c v xs W) (hb : Below W.heap.size W W') : UI w0 bx br bf e1 e2 e3 e4 V n c v xs W' :=
 ⟨h.x.keep hb, h.z.keep hb, h.f.keep hb, h.nn.keep hb, fr_call h.bel hb⟩
theorem UI.add {w0 W W' : World} {bx br bf n c m d : Nat} {e1 e2 e3 e4 : Int} {V T : Option Addr} {v : Value} {xs ys : List Int} (h : UI w0 bx br bf e1 e2 e3 e4 V n c v xs W) (hx : bx ≠ bf) (hr : br ≠ bf) (hf : w0.heap.size ≤ bf)
  (hown : Own W' w0.heap.size (.slice T m d) ys) (hg : W.grownBy W' v.ownBlock) : UI w0 bx br bf e1 e2 e3 e4 V n c (.slice T m d) ys (W'.setCell ⟨bf, 5, none⟩ (.slice T m d)) := by
 have hF := h.f.grown hg (Ne.symm (own_blk_ne h.nn h.f (by decide)))
 have hX := h.x.grown hg (Ne.symm (own_blk_ne h.nn h.x (by decide)))
 have hR := h.z.grown hg (Ne.symm (own_blk_ne h.nn h.z (by decide)))
 have hs := grown_set W' ⟨bf, 5, none⟩ (.slice T m d)
 refine ⟨hX.grown hs (by intro e; cases e; exact hx rfl), hR.grown hs (by intro e; cases e; exact hr rfl), hF.set_ 5 _, World.ownsRow.kept hown hs (Or.inr (own_blk_ne hown hF (by decide))), ?_⟩
 have h1 := h.bel.grown hg h.bel.size (own_ge h.nn)
 exact h1.grown hs h1.size (by intro k hk; cases hk; exact hf)
set_option maxRecDepth 100000 in
set_option maxHeartbeats 16000000 in
theorem ruled_any (V : Option Addr) (n c : Nat) (r : Rule) (w : World) (hr : Rd w V n r.never) (ho : RuleOk r) :
  Calls Tryz.prog 74 #[.agg (r.args V n c)] w fun e w' => ∃ T d, e = .returned (.agg (r.full V n c T (teethR r (rangeR r)).length d)) ∧ Rd w' T (teethR r (rangeR r)).length (teethR r (rangeR r)) ∧ Below w.heap.size w w' := by
 obtain ⟨⟨h1, h2⟩, ⟨h3, h4⟩, h5, -, -, h10, -⟩ := ho
 obtain ⟨K, hK⟩ : ∃ K, rangeR r = K := ⟨_, rfl⟩
 have hKe : (K : Int) = r.most + 1 - r.least := by rw [← hK]; unfold rangeR; omega
 have HS := Lib.hid (teethR_succ r)
 have HTL := Lib.hid (teethR_len r)
 have hlen := hr.len
 have hf := fr_alloc (fr_alloc (fr_refl w) (.cells (r.args V n c) 53)) (.cells #[.int .i64 0, .int .i64 0, .int .i64 0, .int .i64 0, .slice none 0 0, .slice none 0 0] 117)
 have hX := (Blk.new w 53 (r.args V n c)).alloc (.cells #[.int .i64 0, .int .i64 0, .int .i64 0, .int .i64 0, .slice none 0 0, .slice none 0 0] 117)
 have hR : Blk ((w.alloc (.cells (r.args V n c) 53)).alloc (.cells #[.int .i64 0, .int .i64 0, .int .i64 0, .int .i64 0, .slice none 0 0, .slice none 0 0] 117)) (w.heap.size + 1) 117 #[.int .i64 0, .int .i64 0, .int .i64 0, .int .i64 0, .slice none 0 0, .slice none 0 0] := Blk.new_at _ _ (by simp)
 have hn6 : n ≤ 6 := by omega
 rw [hK]
 clear hK hlen
 generalize hvs : r.never = vs at hr
 have HVS := Lib.hid hvs
 clear hvs
 replace hr := hr.keep hf
 unfold Rule.args Rule.full at *
 generalize hz1 : r.least = e1 at *
 generalize hz2 : r.most = e2 at *
 generalize r.pairs = e3 at *
 generalize r.sense = e4 at *
 go_enter Tryz.func74, Tryz.ntmps74
 go_upto_region 1 with (fail)
 generalize (w.alloc (.cells #[.int .i64 e1, .int .i64 e2, .int .i64 e3, .int .i64 e4, .slice V n c] 53)).alloc (.cells #[.int .i64 0, .int .i64 0, .int .i64 0, .int .i64 0, .slice none 0 0, .slice none 0 0] 117) = w1 at *
 have hcX := fun j => hX.cell j
 have hlX := hX.lt
 have hlR := hR.lt
 go_wp2_with (refine wpList_store_blk rfl _ _ _ rfl w1.heap.size 117 _ _ rfl rfl (Blk.new w1 _ _) rfl (by kernel_rfl) (by simp [Value.oneCell']) ?_; intro w2 hF2 hg2; have hb12 : Below w1.heap.size w1 w2 := (fr_alloc (fr_refl w1) _).grown hg2 (fr_alloc (fr_refl w1) _).size (by intro k hk; cases hk; exact Nat.le_refl _); have hX2 := hX.keep hb12; have hcX2 := fun j => hX2.cell j; have hlX2 := hX2.lt)
 have hI0 : UI w1 w.heap.size (w.heap.size + 1) w1.heap.size e1 e2 e3 e4 V n c (.slice none 0 0) [] w2 := ⟨hX2, hR.keep hb12, hF2, Own.nil _ _, hb12⟩
 clear hcX hX hR hF2 hg2 hb12 hcX2 hlX2 hX2
 go_loopw [4] (fun t wr => ∃ (k : Nat) (v : Value) (y : Int), k ≤ K ∧ t = .int .i64 y ∧ Hid (y = e1 + (k : Int)) ∧ (y ≤ e2 ↔ k < K) ∧ (4 ≤ y ∧ y ≤ 61) ∧ UI w1 w.heap.size (w.heap.size + 1) w1.heap.size e1 e2 e3 e4 V n c v (teethR r k) wr) (fun t _ => (e2 + 1 - intOf t).toNat)
 case atStart => exact ⟨0, _, e1, Nat.zero_le _, rfl, Lib.hid (by simp), by omega, by omega, hI0⟩
 case round =>
  clear hI0
  obtain ⟨k, v, y, hk, rfl, HY, hye, hy4, hI⟩ := hrel
  have hcX := fun j => hI.x.cell j
  have hlt0 := hI.x.lt
  have hst := HS.out k
  rw [← HY.out] at hst
  have htl := HTL.out k
  by_cases hlt : k < K
  ·have q1 : y ≤ e2 := hye.2 hlt
   have z1 : IntKind.i64.wrap (y + 1) = y + 1 := IntWalk.i64_in _ (by omega)
   have hy2 : y + 1 ≤ e2 ↔ k + 1 < K := by have := HY.out; omega
   have HY2 := Lib.hid (show y + 1 = e1 + ((k + 1 : Nat) : Int) by have := HY.out; omega)
   clear hye
   cases hc : vs.contains y
   ·rw [HVS.out, hc, if_neg (by simp)] at hst
    have hIa := hI.below (fr_alloc (fr_refl wr) (.cells #[.int .i64 y] 3))
    have hcon := has_any V n c vs y wr (hr.keep hI.bel) (by omega) _ hc
    have hcF := fun j => hI.f.cell j
    have hlF := hI.f.lt
    have HST := Lib.hid hst
    clear hr hst hc
    go_wp2_with fail
    refine hcon.mono ?_
    rintro e' w3 ⟨rfl, rfl⟩
    go_wp2_with (at_builtin; go_must (refine app_int rfl (.tmp 21) (.tmp 23) rfl w1.heap.size v (teethR r k) rfl rfl hI.nn (by omega) hI.bel.size ?_); intro A1 c1 w4 hown4 hg4; have hF4 := hIa.f.grown hg4 (Ne.symm (own_blk_ne hIa.nn hIa.f (by decide))); have hcF4 := fun j => hF4.cell j; have hfF4 := fun j => hF4.frozen j)
    have hIn := hIa.add (by omega) (by omega) (Nat.le_refl _) hown4 hg4
    rw [← HST.out] at hIn
    refine ⟨⟨k + 1, _, y + 1, hlt, rfl, HY2, hy2, by omega, hIn⟩, ?_⟩
    simp [intOf]; omega
   ·rw [HVS.out, hc, if_pos rfl] at hst
    have hcon := has_any V n c vs y wr (hr.keep hI.bel) (by omega) _ hc
    have HST := Lib.hid hst
    clear hr hst hc
    go_wp2_with fail
    refine hcon.mono ?_
    rintro e' w3 ⟨rfl, rfl⟩
    go_wp2_with fail
    refine ⟨⟨k + 1, _, y + 1, hlt, rfl, HY2, hy2, by omega, by rw [HST.out]; exact hI⟩, ?_⟩
    simp [intOf]; omega
  ·obtain rfl : k = K := by omega
   have q1 : ¬ y ≤ e2 := by omega
   have hcF := fun j => hI.f.cell j
   have hR4 := hI.z
   have hlF := hI.f.lt
   obtain ⟨T, d, rfl⟩ := hI.nn.form
   have hne := own_blk_ne hI.nn hR4 (by decide)
   have hnn := hI.nn
   have hbw := fr_call hf hI.bel
   clear hI
   go_wp2_with (refine wpList_store_blk rfl _ _ _ rfl (w.heap.size + 1) 117 _ _ rfl rfl hR4 rfl (by kernel_rfl) (by simp [Value.oneCell']) ?_; intro W7 hR7 hg7)
   have hfin := hbw.grown hg7 hbw.size (by intro k hk; cases hk; exact Nat.le_succ _)
   have hn7 : Own W7 w1.heap.size (.slice T (teethR r k).length d) (teethR r k) := World.ownsRow.kept hnn hg7 (Or.inr hne)
   exact bodyPost_ret (results_blk1 rfl _ _ _ _ rfl hR7 Tryz.underlying117 rfl (by kernel_rfl)) rfl ⟨T, ⟨d, rfl⟩, hn7.rd, hfin⟩
end Go.Proofs.YtfgghicdkcjdgaaGreatDoor
end

section
namespace Go.Proofs.YtfgghicdkcjdgaaGreatDoor
open Go.RowKit Go.Shelf

set_option maxRecDepth 100000 in
set_option maxHeartbeats 16000000 in
theorem lets_is (r : Rule) (V T : Option Addr) (n c m d k : Nat) (w : World) (hs : 1 ≤ r.sense ∧ r.sense ≤ 3) (hk : k ≤ 3) :
  Calls Tryz.prog 75 #[.agg (r.full V n c T m d), .int .i64 k] w fun e w' => e = .returned (.bool (letsB r k)) ∧ Below w.heap.size w w' := by
 obtain ⟨e1, e2, e3, e4, xs⟩ := r
 unfold Rule.full
 simp only at hs ⊢
 have hb0 := fr_alloc (fr_refl w) (.cells #[.int .i64 e1, .int .i64 e2, .int .i64 e3, .int .i64 e4, .slice V n c, .slice T m d] 117)
 have hX := Blk.new w 117 #[.int .i64 e1, .int .i64 e2, .int .i64 e3, .int .i64 e4, .slice V n c, .slice T m d]
 have hcX := fun j => hX.cell j
 have h3 : e4 = 1 ∨ e4 = 2 ∨ e4 = 3 := by omega
 have hk4 : k = 0 ∨ k = 1 ∨ k = 2 ∨ k = 3 := by omega
 clear hs hk
 rcases h3 with rfl | rfl | rfl <;> rcases hk4 with rfl | rfl | rfl | rfl <;>
 ·go_enter Tryz.func75, Tryz.ntmps75
  go_wp2_with fail
  go_ret
  exact ⟨rfl, hb0⟩
set_option maxRecDepth 100000 in
set_option maxHeartbeats 4000000 in
theorem rhas_is (r : Rule) (V T : Option Addr) (n c m d : Nat) (x : Int) (ts : List Int) (w : World) (hT : Rd w T m ts) (hm : m ≤ 1000) (b : Bool) (hb : ts.contains x = b) :
  Calls Tryz.prog 80 #[.agg (r.full V n c T m d), .int .i64 x] w fun e w' => e = .returned (.bool b) ∧ Below w.heap.size w w' := by
 have hb0 := fr_alloc (fr_refl w) (.cells (r.full V n c T m d) 117)
 have hX := Blk.new w 117 (r.full V n c T m d)
 have hcX := fun j => hX.cell j
 have hc := has_any T m d ts x _ (hT.keep hb0) (by omega) b hb
 unfold Rule.full at *
 clear hT hb
 go_enter Tryz.func80, Tryz.ntmps80
 go_wp2_with fail
 refine hc.mono ?_
 rintro e' w3 ⟨rfl, rfl⟩
 go_wp2_with fail
 go_ret
 exact ⟨rfl, hb0⟩
/-- both wheels of a pair are among some numbers of teeth -/
def inT (ts : List Int) (p : Wh) : Bool := ts.contains p.lo && ts.contains p.hi
set_option maxRecDepth 100000 in
set_option maxHeartbeats 4000000 in
theorem fits1_is (p : Wh) (r : Rule) (V T : Option Addr) (n c m d g : Nat) (ts : List Int) (w : World) (hB : Blk w g 117 (r.full V n c T m d)) (hT : Rd w T m ts) (hm : m ≤ 1000) :
  Calls Tryz.prog 79 #[.agg p.cells.toArray, .pointer (some ⟨g, 0, none⟩)] w fun e w' => e = .returned (.bool (!inT ts p)) ∧ Below w.heap.size w w' := by
 obtain ⟨x, y⟩ := p
 unfold Wh.cells inT
 simp only
 have hb0 := fr_alloc (fr_refl w) (.cells #[.int .i64 x, .int .i64 y] 98)
 have hX := Blk.new w 98 #[.int .i64 x, .int .i64 y]
 have hcX := fun j => hX.cell j
 have hB2 := hB.keep hb0
 have hT2 := hT.keep hb0
 have hcB := fun j => hB2.cell j
 have hh := fun x b hb W h => rhas_is r V T n c m d x ts W h hm b hb
 have hlB := hB.lt
 have hlX := hX.lt
 unfold Rule.full at *
 clear hT hB
 cases h1 : ts.contains x
 ·go_enter Tryz.func79, Tryz.ntmps79
  go_wp2_with fail
  refine (hh x _ h1 _ hT2).mono ?_
  rintro e' w3 ⟨rfl, hb⟩
  go_wp2_with fail
  go_ret
  exact ⟨rfl, fr_call hb0 hb⟩
 ·obtain ⟨b, h2⟩ : ∃ b, ts.contains y = b := ⟨_, rfl⟩
  rw [h2]
  have H2 := Lib.hid h2
  clear h2
  go_enter Tryz.func79, Tryz.ntmps79
  go_wp2_with fail
  refine (hh x _ h1 _ hT2).mono ?_
  rintro e' w3 ⟨rfl, hb⟩
  have hB3 := hB2.keep hb
  have hX3 := hX.keep hb
  have hT3 := hT2.keep hb
  have hb3 := fr_call hb0 hb
  have hcB3 := fun j => hB3.cell j
  have hcX3 := fun j => hX3.cell j
  have hlB3 := hB3.lt
  have hlX3 := hX3.lt
  clear hcB hcX hb hlB hlX
  go_wp2_with fail
  refine (hh y _ H2.out _ hT3).mono ?_
  rintro e' w4 ⟨rfl, hb⟩
  go_wp2_with fail
  go_ret
  exact ⟨ret_bool (by cases b <;> rfl), fr_call hb3 hb⟩
set_option maxRecDepth 100000 in
set_option maxHeartbeats 4000000 in
theorem index_fits (A : Option Addr) (k c' : Nat) (l : List Wh) (r : Rule) (V T : Option Addr) (n c m d g : Nat) (ts : List Int) (w : World) (hr : RdS w A 2 (l.map Wh.cells)) (hl : l.length = k) (hk : k ≤ 1000) (hB : Blk w g 117 (r.full V n c T m d)) (hT : Rd w T m ts) (hm : m ≤ 1000) :
  Calls Tryz.prog 126 #[.slice A k c', .func (.func 79) #[] #[.pointer (some ⟨g, 0, none⟩)]] w fun e' w' => ∃ z : Int, e' = .returned (.int .i64 z) ∧ decide (0 ≤ z) = !l.all (inT ts) ∧ Below w.heap.size w w' := by
 have HL := Lib.hid hl
 clear hl
 go_enter Tryz.func126, Tryz.ntmps126
 go_wp2
 go_loopw [8] (fun i wr => ∃ j : Nat, j ≤ k ∧ i = .int .i64 j ∧ Hid (∀ z, (h : z < l.length) → z < j → inT ts l[z] = true) ∧ Below w.heap.size w wr) (fun i _ => k - (intOf i).toNat)
 case atStart => exact ⟨0, Nat.zero_le _, rfl, Lib.hid (fun _ _ h => absurd h (by omega)), fr_refl _⟩
 case round =>
  obtain ⟨j, hj, rfl, hall, hbel⟩ := hrel
  by_cases hlt : j < k
  ·have hkl : j < l.length := by have := HL.out; omega
   obtain ⟨ad, rfl, hab, hc0, hc1⟩ := whs_at (hr.keep hbel) hkl
   have hf := fits1_is l[j] r V T n c m d g ts _ (hB.keep hbel) (hT.keep hbel) hm
   have HN := Lib.hid (show inT ts l[j] = true → ∀ z, (h : z < l.length) → z < j + 1 → inT ts l[z] = true from fun hh z h hz => by
    by_cases e : z = j
    ·subst e; exact hh
    ·exact hall.out z h (by omega))
   have HNO := Lib.hid (show inT ts l[j] = false → decide (0 ≤ (j : Int)) = !l.all (inT ts) from fun hh => by
    have ha : l.all (inT ts) = false := by
     rw [← Bool.not_eq_true, List.all_eq_true]
     intro h
     rw [h _ (List.getElem_mem hkl)] at hh
     cases hh
    rw [ha]
    exact decide_eq_true (by omega))
   clear hr hB hT
   generalize l[j] = p at *
   obtain ⟨b, hb⟩ : ∃ b, inT ts p = b := ⟨_, rfl⟩
   rw [hb] at hf HN HNO
   clear hb
   cases b
   ·go_wp2_with fail
    refine hf.mono ?_
    rintro e w1 ⟨rfl, hb1⟩
    go_wp2_with fail
    go_ret
    exact ⟨_, rfl, HNO.out trivial, fr_call hbel hb1⟩
   ·go_wp2_with fail
    refine hf.mono ?_
    rintro e w1 ⟨rfl, hb1⟩
    go_wp2_with fail
    refine ⟨⟨j + 1, hlt, rfl, Lib.hid (HN.out trivial), fr_call hbel hb1⟩, ?_⟩
    simp [intOf]; omega
  ·have ha : l.all (inT ts) = true := List.all_eq_true.2 (fun p hp => by
    obtain ⟨z, hz, rfl⟩ := List.getElem_of_mem hp
    exact hall.out z hz (by have := HL.out; omega))
   have HA := Lib.hid ha
   clear ha hr hB hT
   go_wp2_with fail
   go_ret
   exact ⟨_, rfl, by rw [HA.out]; rfl, hbel⟩
set_option maxHeartbeats 2000000 in
theorem contains_fits (A : Option Addr) (k c' : Nat) (l : List Wh) (r : Rule) (V T : Option Addr) (n c m d g : Nat) (ts : List Int) (w : World) (hr : RdS w A 2 (l.map Wh.cells)) (hl : l.length = k) (hk : k ≤ 1000) (hB : Blk w g 117 (r.full V n c T m d)) (hT : Rd w T m ts) (hm : m ≤ 1000) :
  Calls Tryz.prog 78 #[.slice A k c', .func (.func 79) #[] #[.pointer (some ⟨g, 0, none⟩)]] w fun e' w' => e' = .returned (.bool (!l.all (inT ts))) ∧ Below w.heap.size w w' := by
 have hi := index_fits A k c' l r V T n c m d g ts w hr hl hk hB hT hm
 generalize (!l.all (inT ts)) = b at *
 clear hr hB hT
 go_enter Tryz.func78, Tryz.ntmps78
 go_wp2_with fail
 refine hi.mono ?_
 rintro e w1 ⟨z, rfl, hz, hb1⟩
 have HZ := Lib.hid hz
 clear hz
 go_wp2_with fail
 go_ret
 exact ⟨ret_bool HZ.out, hb1⟩
end Go.Proofs.YtfgghicdkcjdgaaGreatDoor
end

section
namespace Go.Proofs.YtfgghicdkcjdgaaGreatDoor
open Go.RowKit Go.Shelf
attribute [local go_sem] Oper.semAt_some

section
variable {o : Oper} {a : Act} {w : World} {K : Act → World → Prop} {Q : Exit → Act → World → Prop}
theorem wp_build_int2 {x y : Nat} {p q : Int} (ho : o.op = .buildSlice 34 2 #[(0, .tmp x), (1, .tmp y)]) (hx : a.tmps.getD x undef = .int .i64 p) (hy : a.tmps.getD y undef = .int .i64 q)
  (h : ∀ g w', w.heap.size = g → Blk w' g 3 #[.int .i64 p, .int .i64 q] → Below w.heap.size w w' → K (a.put o.dst (.slice (some ⟨g, 0, none⟩) 2 2)) w') : o.wp Tryz.prog a w K Q := by
 have h1 := h w.heap.size (w.alloc (.cells #[.int .i64 p, .int .i64 q] 3)) rfl (Blk.new w _ _) (fr_alloc (fr_refl w) _)
 obtain ⟨dst, op, ty, pos, after, guard⟩ := o
 simp only at ho
 subst ho
 have hx' : a.tmps[x]?.getD undef = .int .i64 p := by simpa using hx
 have hy' : a.tmps[y]?.getD undef = .int .i64 q := by simpa using hy
 go_simp
 exact h1
end
/-- the first of two numbers that is not 0 -/
def orI (p q : Int) : Int := if p = 0 then q else p
set_option maxRecDepth 100000 in
set_option maxHeartbeats 4000000 in
theorem or_is (g : Nat) (p q : Int) (w : World) (hB : Blk w g 3 #[.int .i64 p, .int .i64 q]) :
  Calls Tryz.prog 125 #[.slice (some ⟨g, 0, none⟩) 2 2] w fun e w' => e = .returned (.int .i64 (orI p q)) ∧ w = w' := by
 unfold orI
 have h0 := hB.cell 0
 have h1 := hB.cell 1
 have hl := hB.lt
 clear hB
 by_cases e0 : p = 0
 ·subst e0
  by_cases e1 : q = 0
  ·subst e1
   have d0 : ((0 : Int) != 0) = false := rfl
   go_enter Tryz.func125, Tryz.ntmps125
   go_wp2_with fail
   go_loopw [8] (fun t wr => ∃ k : Nat, k ≤ 2 ∧ t = .int .i64 k ∧ wr = w) (fun t _ => 2 - (intOf t).toNat)
   case atStart => exact ⟨0, Nat.zero_le _, rfl, rfl⟩
   case round =>
    obtain ⟨k, hk, rfl, rfl⟩ := hrel
    have h3 : k = 0 ∨ k = 1 ∨ k = 2 := by omega
    rcases h3 with rfl | rfl | rfl
    ·go_wp2_with fail
     refine ⟨⟨1, by omega, rfl, trivial⟩, ?_⟩
     simp [intOf]
    ·go_wp2_with fail
     refine ⟨⟨2, by omega, rfl, trivial⟩, ?_⟩
     simp [intOf]
    ·go_wp2_with fail
     go_ret
     exact ⟨rfl, rfl⟩
  ·have d0 : ((0 : Int) != 0) = false := rfl
   have d1 : (q != 0) = true := bne_iff_ne.2 e1
   clear e1
   go_enter Tryz.func125, Tryz.ntmps125
   go_wp2_with fail
   go_loopw [8] (fun t wr => ∃ k : Nat, k ≤ 1 ∧ t = .int .i64 k ∧ wr = w) (fun t _ => 2 - (intOf t).toNat)
   case atStart => exact ⟨0, Nat.zero_le _, rfl, rfl⟩
   case round =>
    obtain ⟨k, hk, rfl, rfl⟩ := hrel
    have h3 : k = 0 ∨ k = 1 := by omega
    rcases h3 with rfl | rfl
    ·go_wp2_with fail
     refine ⟨⟨1, by omega, rfl, trivial⟩, ?_⟩
     simp [intOf]
    ·go_wp2_with fail
     go_ret
     exact ⟨rfl, rfl⟩
 ·have d0 : (p != 0) = true := bne_iff_ne.2 e0
  rw [if_neg e0]
  clear e0
  go_enter Tryz.func125, Tryz.ntmps125
  go_wp2_with fail
  go_loopw [8] (fun t wr => t = .int .i64 0 ∧ wr = w) (fun _ _ => 1)
  case atStart => exact ⟨rfl, rfl⟩
  case round =>
   obtain ⟨rfl, rfl⟩ := hrel
   go_wp2_with fail
   go_ret
   exact ⟨rfl, rfl⟩
theorem or_bef (x1 x2 y1 y2 : Int) : decide (orI (cmpI x1 y1) (cmpI x2 y2) < 0) = befB ⟨x1, x2⟩ ⟨y1, y2⟩ := by
 unfold befB orI cmpI
 simp only
 by_cases h1 : x1 < y1
 ·simp [h1]
 ·by_cases h2 : y1 < x1
  ·have h3 : ¬ x1 = y1 := by omega
   simp [h1, h2, h3]
  ·have h3 : x1 = y1 := by omega
   subst h3
   simp
   by_cases h4 : x2 < y2
   ·simp [h4]
   ·by_cases h5 : y2 < x2 <;> simp [h4, h5]
set_option maxRecDepth 100000 in
set_option maxHeartbeats 8000000 in
theorem inOrder_is (x1 x2 y1 y2 : Int) (w : World) :
  Calls Tryz.prog 77 #[.agg #[.int .i64 x1, .int .i64 x2], .agg #[.int .i64 y1, .int .i64 y2]] w fun e w' => ∃ z : Int, e = .returned (.int .i64 z) ∧ decide (z < 0) = befB ⟨x1, x2⟩ ⟨y1, y2⟩ ∧ Below w.heap.size w w' := by
 have HO := Lib.hid (or_bef x1 x2 y1 y2)
 have hb0 := fr_alloc (fr_alloc (fr_refl w) (.cells #[.int .i64 x1, .int .i64 x2] 98)) (.cells #[.int .i64 y1, .int .i64 y2] 98)
 have hX := (Blk.new w 98 #[.int .i64 x1, .int .i64 x2]).alloc (.cells #[.int .i64 y1, .int .i64 y2] 98)
 have hY : Blk ((w.alloc (.cells #[.int .i64 x1, .int .i64 x2] 98)).alloc (.cells #[.int .i64 y1, .int .i64 y2] 98)) (w.heap.size + 1) 98 #[.int .i64 y1, .int .i64 y2] := Blk.new_at _ _ (by simp)
 go_enter Tryz.func77, Tryz.ntmps77
 go_upto_region 1 with (fail)
 generalize (w.alloc (.cells #[.int .i64 x1, .int .i64 x2] 98)).alloc (.cells #[.int .i64 y1, .int .i64 y2] 98) = w1 at *
 have hlX := hX.lt
 have hlY := hY.lt
 refine wp_region_noPanic ?_
 have hkS : ∀ W, Below w1.heap.size w1 W → (∀ j, W.cell? ⟨w.heap.size, j, none⟩ = (#[.int .i64 x1, .int .i64 x2] : Array Value)[j]?) ∧ (∀ j, W.cell? ⟨w.heap.size + 1, j, none⟩ = (#[.int .i64 y1, .int .i64 y2] : Array Value)[j]?) := fun W hb => ⟨fun j => (hX.keep hb).cell j, fun j => (hY.keep hb).cell j⟩
 have hbz := fr_drew (fr_refl w1)
 refine wp_region_held_drew (S := fun W => (∀ j, W.cell? ⟨w.heap.size, j, none⟩ = (#[.int .i64 x1, .int .i64 x2] : Array Value)[j]?) ∧ (∀ j, W.cell? ⟨w.heap.size + 1, j, none⟩ = (#[.int .i64 y1, .int .i64 y2] : Array Value)[j]?)) (by kernel_rfl) (hkS _ hbz) (fun hHeld => ?_)
 generalize w1.drew = wz at hbz hHeld ⊢
 -- the region, step by step, in whatever order
 refine wpAnyH_take (i := 0) (oi := ⟨some 5, .fieldAddr 98 (.tmp 2) 0, 0, "train.go:69", #[], none⟩) (v := ?_) rfl (by kernel_rfl) (by kernel_rfl) (by kernel_rfl) (fun _ _ _ h => h) (Or.inl ⟨by rfl, fun W hSw => ?_⟩) hHeld ?_
 rotate_left
 ·(try dsimp only at hSw); go_simp; (try with_reducible rfl)
 (try simp only [Act.put, List.setIfInBounds_toArray, List.set_cons_zero, List.set_cons_succ])
 refine wpAnyH_take (i := 1) (oi := ⟨some 6, .load 3 (.tmp 5), 3, "train.go:69", #[⟨0, .data⟩], none⟩) (v := ?_) rfl (by kernel_rfl) (by kernel_rfl) (by kernel_rfl) (fun _ _ _ h => h) (Or.inl ⟨by rfl, fun W hSw => ?_⟩) hHeld ?_
 rotate_left
 ·(try dsimp only at hSw); go_simp; (try with_reducible rfl)
 (try simp only [Act.put, List.setIfInBounds_toArray, List.set_cons_zero, List.set_cons_succ])
 refine wpAnyH_take (i := 2) (oi := ⟨some 7, .fieldAddr 98 (.tmp 3) 0, 0, "train.go:69", #[], none⟩) (v := ?_) rfl (by kernel_rfl) (by kernel_rfl) (by kernel_rfl) (fun _ _ _ h => h) (Or.inl ⟨by rfl, fun W hSw => ?_⟩) hHeld ?_
 rotate_left
 ·(try dsimp only at hSw); go_simp; (try with_reducible rfl)
 (try simp only [Act.put, List.setIfInBounds_toArray, List.set_cons_zero, List.set_cons_succ])
 refine wpAnyH_take (i := 3) (oi := ⟨some 8, .load 3 (.tmp 7), 3, "train.go:69", #[⟨2, .data⟩], none⟩) (v := ?_) rfl (by kernel_rfl) (by kernel_rfl) (by kernel_rfl) (fun _ _ _ h => h) (Or.inl ⟨by rfl, fun W hSw => ?_⟩) hHeld ?_
 rotate_left
 ·(try dsimp only at hSw); go_simp; (try with_reducible rfl)
 (try simp only [Act.put, List.setIfInBounds_toArray, List.set_cons_zero, List.set_cons_succ])
 refine wpAnyH_take (i := 5) (oi := ⟨some 10, .fieldAddr 98 (.tmp 2) 1, 0, "train.go:69", #[], none⟩) (v := ?_) rfl (by kernel_rfl) (by kernel_rfl) (by kernel_rfl) (fun _ _ _ h => h) (Or.inl ⟨by rfl, fun W hSw => ?_⟩) hHeld ?_
 rotate_left
 ·(try dsimp only at hSw); go_simp; (try with_reducible rfl)
 (try simp only [Act.put, List.setIfInBounds_toArray, List.set_cons_zero, List.set_cons_succ])
 refine wpAnyH_take (i := 6) (oi := ⟨some 11, .load 3 (.tmp 10), 3, "train.go:69", #[⟨5, .data⟩], none⟩) (v := ?_) rfl (by kernel_rfl) (by kernel_rfl) (by kernel_rfl) (fun _ _ _ h => h) (Or.inl ⟨by rfl, fun W hSw => ?_⟩) hHeld ?_
 rotate_left
 ·(try dsimp only at hSw); go_simp; (try with_reducible rfl)
 (try simp only [Act.put, List.setIfInBounds_toArray, List.set_cons_zero, List.set_cons_succ])
 refine wpAnyH_take (i := 7) (oi := ⟨some 12, .fieldAddr 98 (.tmp 3) 1, 0, "train.go:69", #[], none⟩) (v := ?_) rfl (by kernel_rfl) (by kernel_rfl) (by kernel_rfl) (fun _ _ _ h => h) (Or.inl ⟨by rfl, fun W hSw => ?_⟩) hHeld ?_
 rotate_left
 ·(try dsimp only at hSw); go_simp; (try with_reducible rfl)
 (try simp only [Act.put, List.setIfInBounds_toArray, List.set_cons_zero, List.set_cons_succ])
 refine wpAnyH_take (i := 8) (oi := ⟨some 13, .load 3 (.tmp 12), 3, "train.go:69", #[⟨7, .data⟩], none⟩) (v := ?_) rfl (by kernel_rfl) (by kernel_rfl) (by kernel_rfl) (fun _ _ _ h => h) (Or.inl ⟨by rfl, fun W hSw => ?_⟩) hHeld ?_
 rotate_left
 ·(try dsimp only at hSw); go_simp; (try with_reducible rfl)
 (try simp only [Act.put, List.setIfInBounds_toArray, List.set_cons_zero, List.set_cons_succ])
 refine wpAnyH_ready (rs := [4]) (by kernel_rfl) (by simp) ?_
 refine (AllReadyH.cons (o := ⟨some 9, .call { callee := .value (.func 70), args := #[.tmp 6, .tmp 8], argTypes := #[3, 3] }, 3, "train.go:69", #[⟨1, .data⟩, ⟨3, .data⟩], none⟩) rfl (fun K hK => ?_) AllReadyH.nil)
 rw [if_pos (by rfl)]
 go_simp
 refine (compare_is _ _ _).mono ?_
 rintro e' wz3 ⟨rfl, rfl⟩
 refine hK.out _ _ (hkS _ hbz) (fun hHeld => ?_)
 clear hK K
 (try simp only [Act.put, List.setIfInBounds_toArray, List.set_cons_zero, List.set_cons_succ])
 refine wpAnyH_ready (rs := [9]) (by kernel_rfl) (by simp) ?_
 refine (AllReadyH.cons (o := ⟨some 14, .call { callee := .value (.func 70), args := #[.tmp 11, .tmp 13], argTypes := #[3, 3] }, 3, "train.go:69", #[⟨6, .data⟩, ⟨8, .data⟩, ⟨4, .chain⟩], none⟩) rfl (fun K hK => ?_) AllReadyH.nil)
 rw [if_pos (by rfl)]
 go_simp
 refine (compare_is _ _ _).mono ?_
 rintro e' wz3 ⟨rfl, rfl⟩
 refine hK.out _ _ (hkS _ hbz) (fun hHeld => ?_)
 clear hK K
 (try simp only [Act.put, List.setIfInBounds_toArray, List.set_cons_zero, List.set_cons_succ])
 refine wpAnyH_ready (rs := [10]) (by kernel_rfl) (by simp) ?_
 refine (AllReadyH.cons (o := ⟨some 15, .buildSlice 34 2 #[(0, .tmp 9), (1, .tmp 14)], 34, "train.go:69", #[⟨4, .data⟩, ⟨9, .data⟩], none⟩) rfl (fun K hK => ?_) AllReadyH.nil)
 rw [if_pos (by rfl)]
 refine wp_build_int2 rfl rfl rfl ?_
 intro g1 wz hz1 hG1 hb1
 replace hbz := fr_call hbz hb1
 refine hK.out _ _ (hkS _ hbz) (fun hHeld => ?_)
 clear hK K
 (try simp only [Act.put, List.setIfInBounds_toArray, List.set_cons_zero, List.set_cons_succ])
 refine wpAnyH_ready (rs := [11]) (by kernel_rfl) (by simp) ?_
 refine (AllReadyH.cons (o := ⟨some 16, .call { callee := .value (.func 125), args := #[.tmp 15], argTypes := #[34] }, 3, "train.go:69", #[⟨10, .data⟩, ⟨9, .chain⟩], none⟩) rfl (fun K hK => ?_) AllReadyH.nil)
 rw [if_pos (by rfl)]
 go_simp
 refine (or_is g1 _ _ _ hG1).mono ?_
 rintro e' wz3 ⟨rfl, rfl⟩
 refine hK.out _ _ (hkS _ hbz) (fun hHeld => ?_)
 clear hK K
 (try simp only [Act.put, List.setIfInBounds_toArray, List.set_cons_zero, List.set_cons_succ])
 refine wpAnyH_take (i := 12) (oi := ⟨some 4, .assign (.tmp 16), 3, "train.go:69", #[⟨11, .data⟩, ⟨11, .chain⟩, ⟨0, .phase⟩, ⟨1, .phase⟩, ⟨2, .phase⟩, ⟨3, .phase⟩, ⟨4, .phase⟩, ⟨5, .phase⟩, ⟨6, .phase⟩, ⟨7, .phase⟩, ⟨8, .phase⟩, ⟨9, .phase⟩, ⟨10, .phase⟩, ⟨11, .phase⟩], none⟩) (v := ?_) rfl (by kernel_rfl) (by kernel_rfl) (by kernel_rfl) (fun _ _ _ h => h) (Or.inl ⟨by rfl, fun W hSw => ?_⟩) hHeld ?_
 rotate_left
 ·(try dsimp only at hSw); go_simp; (try with_reducible rfl)
 (try simp only [Act.put, List.setIfInBounds_toArray, List.set_cons_zero, List.set_cons_succ])
 refine wpAnyH_done (by kernel_rfl) ?_ _
 refine NoPanic.normal ?_
 go_wp2_with fail
 go_ret
 exact ⟨_, rfl, HO.out, fr_call hb0 hbz⟩
set_option maxRecDepth 100000 in
set_option maxHeartbeats 8000000 in
theorem sorted_is (A : Option Addr) (n c : Nat) (l : List Wh) (w : World) (hr : RdS w A 2 (l.map Wh.cells)) (hl : l.length = n) (h1 : 1 ≤ n) (hn : n ≤ 1000) :
  Calls Tryz.prog 76 #[.slice A n c, .func (.func 77) #[] #[]] w fun e' w' => e' = .returned (.bool (ordB l)) ∧ Below w.heap.size w w' := by
 have HL := Lib.hid hl
 have hlast := ord_last l (i := n - 1) (by omega)
 obtain ⟨n1, hn1⟩ : ∃ n1, n - 1 = n1 := ⟨_, rfl⟩
 rw [hn1] at hlast
 have z0 : IntKind.i64.wrap ((n : Int) - 1) = (n1 : Int) := by rw [IntWalk.i64_in _ (by omega)]; omega
 have hn2 : n1 < n := by omega
 clear hl hn1 h1
 go_enter Tryz.func76, Tryz.ntmps76
 go_wp2_with fail
 go_loopw [5] (fun t wr => ∃ i : Nat, i < n ∧ t = .int .i64 i ∧ Hid (ordB (l.drop i) = true) ∧ Below w.heap.size w wr) (fun t _ => (intOf t).toNat)
 case atStart => exact ⟨n1, hn2, rfl, Lib.hid hlast, fr_refl _⟩
 case round =>
  clear hlast z0 hn2
  obtain ⟨i, hi, rfl, hord, hbel⟩ := hrel
  by_cases h0 : 0 < i
  ·obtain ⟨j, hj⟩ : ∃ j, i = j + 1 := ⟨i - 1, by omega⟩
   have hjl : j < l.length := by have := HL.out; omega
   have hil : i < l.length := by have := HL.out; omega
   obtain ⟨ad, rfl, hab, ca0, ca1⟩ := whs_at hr hil
   obtain ⟨ad', e, hab', cb0, cb1⟩ := whs_at hr hjl
   cases e
   have z1 : IntKind.i64.wrap ((i : Int) - 1) = (j : Int) := by rw [IntWalk.i64_in _ (by omega)]; omega
   have q0 : (0 : Int) < (i : Int) := by omega
   have i1 : 0 ≤ (i : Int) := by omega
   have i2 : (i : Int) < (n : Int) := by omega
   have j1 : 0 ≤ (j : Int) := by omega
   have j2 : (j : Int) < (n : Int) := by omega
   have hjn : j < n := by omega
   have hstep : ordB (l.drop j) = (!befB l[i] l[j] && ordB (l.drop i)) := by
    subst hj
    exact ord_drop hil
   have hno : ordB (l.drop j) = false → ordB l = false := fun h => ord_no (by omega) h
   rw [hord.out, Bool.and_true] at hstep
   have hjlt : j < i := by omega
   have HJL := Lib.hid hjlt
   clear hr hj hjlt
   generalize l[i] = p at *
   generalize l[j] = q at *
   obtain ⟨x1, x2⟩ := p
   obtain ⟨y1, y2⟩ := q
   simp only at ca0 ca1 cb0 cb1
   have hio := fun W => inOrder_is x1 x2 y1 y2 W
   generalize befB ⟨x1, x2⟩ ⟨y1, y2⟩ = b at *
   have HS := Lib.hid hstep
   have HNO := Lib.hid hno
   clear hstep hno
   have hkS : ∀ W, Below w.heap.size w W → (W.cell? (ad.add (i * 2)) = some (.int .i64 x1) ∧ W.cell? ⟨(ad.add (i * 2)).block, (ad.add (i * 2)).off + 1, none⟩ = some (.int .i64 x2)) ∧ W.cell? (ad.add (j * 2)) = some (.int .i64 y1) ∧ W.cell? ⟨(ad.add (j * 2)).block, (ad.add (j * 2)).off + 1, none⟩ = some (.int .i64 y2) := fun W hb =>
    ⟨⟨(hb.cell (p := ad.add (i * 2)) (by rw [block_of_add]; exact hab)).trans ca0, (hb.cell (p := ⟨(ad.add (i * 2)).block, (ad.add (i * 2)).off + 1, none⟩) (by show (ad.add (i * 2)).block < _; rw [block_of_add]; exact hab)).trans ca1⟩, (hb.cell (p := ad.add (j * 2)) (by rw [block_of_add]; exact hab)).trans cb0, (hb.cell (p := ⟨(ad.add (j * 2)).block, (ad.add (j * 2)).off + 1, none⟩) (by show (ad.add (j * 2)).block < _; rw [block_of_add]; exact hab)).trans cb1⟩
   clear ca0 ca1 cb0 cb1 hab hab'
   go_upto_region 4 with (fail)
   refine wp_region_noPanic ?_
   have hbz := fr_drew (fr_refl wr)
   have hbz0 := fr_call hbel hbz
   refine wp_region_held_drew (S := fun W => (W.cell? (ad.add (i * 2)) = some (.int .i64 x1) ∧ W.cell? ⟨(ad.add (i * 2)).block, (ad.add (i * 2)).off + 1, none⟩ = some (.int .i64 x2)) ∧ W.cell? (ad.add (j * 2)) = some (.int .i64 y1) ∧ W.cell? ⟨(ad.add (j * 2)).block, (ad.add (j * 2)).off + 1, none⟩ = some (.int .i64 y2)) (by kernel_rfl) (hkS _ hbz0) (fun hHeld => ?_)
   clear hbz hbel
   generalize wr.drew = wz at hbz0 hHeld ⊢
   cases b
   ·have HHS := HS.out
    clear HHS
    -- the region, step by step, in whatever order
    refine wpAnyH_take (i := 0) (oi := ⟨some 13, .move (.tmp 1), 112, "sort.go:55", #[], none⟩) (v := ?_) rfl (by kernel_rfl) (by kernel_rfl) (by kernel_rfl) (fun _ _ _ h => h) (Or.inl ⟨by rfl, fun W hSw => ?_⟩) hHeld ?_
    rotate_left
    ·(try dsimp only at hSw); go_simp; (try with_reducible rfl)
    (try simp only [Act.put, List.setIfInBounds_toArray, List.set_cons_zero, List.set_cons_succ])
    refine wpAnyH_take (i := 1) (oi := ⟨some 14, .move (.tmp 0), 26, "sort.go:55", #[], none⟩) (v := ?_) rfl (by kernel_rfl) (by kernel_rfl) (by kernel_rfl) (fun _ _ _ h => h) (Or.inl ⟨by rfl, fun W hSw => ?_⟩) hHeld ?_
    rotate_left
    ·(try dsimp only at hSw); go_simp; (try with_reducible rfl)
    (try simp only [Act.put, List.setIfInBounds_toArray, List.set_cons_zero, List.set_cons_succ])
    refine wpAnyH_take (i := 2) (oi := ⟨some 15, .move (.tmp 5), 3, "sort.go:55", #[], none⟩) (v := ?_) rfl (by kernel_rfl) (by kernel_rfl) (by kernel_rfl) (fun _ _ _ h => h) (Or.inl ⟨by rfl, fun W hSw => ?_⟩) hHeld ?_
    rotate_left
    ·(try dsimp only at hSw); go_simp; (try with_reducible rfl)
    (try simp only [Act.put, List.setIfInBounds_toArray, List.set_cons_zero, List.set_cons_succ])
    refine wpAnyH_take (i := 3) (oi := ⟨some 16, .indexAddr 26 (.tmp 14) (.tmp 15), 0, "sort.go:55", #[⟨1, .data⟩, ⟨2, .data⟩], none⟩) (v := ?_) rfl (by kernel_rfl) (by kernel_rfl) (by kernel_rfl) (fun _ _ _ h => h) (Or.inl ⟨by rfl, fun W hSw => ?_⟩) hHeld ?_
    rotate_left
    ·(try dsimp only at hSw); go_simp; (try with_reducible rfl)
    (try simp only [Act.put, List.setIfInBounds_toArray, List.set_cons_zero, List.set_cons_succ])
    refine wpAnyH_take (i := 4) (oi := ⟨some 17, .load 98 (.tmp 16), 98, "sort.go:55", #[⟨3, .data⟩], none⟩) (v := ?_) rfl (by kernel_rfl) (by kernel_rfl) (by kernel_rfl) (fun _ _ _ h => h) (Or.inl ⟨by rfl, fun W hSw => ?_⟩) hHeld ?_
    rotate_left
    ·(try dsimp only at hSw); go_simp; (try with_reducible rfl)
    (try simp only [Act.put, List.setIfInBounds_toArray, List.set_cons_zero, List.set_cons_succ])
    refine wpAnyH_take (i := 5) (oi := ⟨some 18, .move (.tmp 0), 26, "sort.go:55", #[], none⟩) (v := ?_) rfl (by kernel_rfl) (by kernel_rfl) (by kernel_rfl) (fun _ _ _ h => h) (Or.inl ⟨by rfl, fun W hSw => ?_⟩) hHeld ?_
    rotate_left
    ·(try dsimp only at hSw); go_simp; (try with_reducible rfl)
    (try simp only [Act.put, List.setIfInBounds_toArray, List.set_cons_zero, List.set_cons_succ])
    refine wpAnyH_take (i := 6) (oi := ⟨some 19, .move (.tmp 5), 3, "sort.go:55", #[], none⟩) (v := ?_) rfl (by kernel_rfl) (by kernel_rfl) (by kernel_rfl) (fun _ _ _ h => h) (Or.inl ⟨by rfl, fun W hSw => ?_⟩) hHeld ?_
    rotate_left
    ·(try dsimp only at hSw); go_simp; (try with_reducible rfl)
    (try simp only [Act.put, List.setIfInBounds_toArray, List.set_cons_zero, List.set_cons_succ])
    refine wpAnyH_take (i := 7) (oi := ⟨some 20, .binOp .sub 3 (.tmp 19) (.const (.int .i64 1)) 3, 3, "sort.go:55", #[⟨6, .data⟩], none⟩) (v := ?_) rfl (by kernel_rfl) (by kernel_rfl) (by kernel_rfl) (fun _ _ _ h => h) (Or.inl ⟨by rfl, fun W hSw => ?_⟩) hHeld ?_
    rotate_left
    ·(try dsimp only at hSw); go_simp; (try with_reducible rfl)
    (try simp only [Act.put, List.setIfInBounds_toArray, List.set_cons_zero, List.set_cons_succ])
    refine wpAnyH_take (i := 8) (oi := ⟨some 21, .indexAddr 26 (.tmp 18) (.tmp 20), 0, "sort.go:55", #[⟨5, .data⟩, ⟨7, .data⟩], none⟩) (v := ?_) rfl (by kernel_rfl) (by kernel_rfl) (by kernel_rfl) (fun _ _ _ h => h) (Or.inl ⟨by rfl, fun W hSw => ?_⟩) hHeld ?_
    rotate_left
    ·(try dsimp only at hSw); go_simp; (try with_reducible rfl)
    (try simp only [Act.put, List.setIfInBounds_toArray, List.set_cons_zero, List.set_cons_succ])
    refine wpAnyH_take (i := 9) (oi := ⟨some 22, .load 98 (.tmp 21), 98, "sort.go:55", #[⟨8, .data⟩], none⟩) (v := ?_) rfl (by kernel_rfl) (by kernel_rfl) (by kernel_rfl) (fun _ _ _ h => h) (Or.inl ⟨by rfl, fun W hSw => ?_⟩) hHeld ?_
    rotate_left
    ·(try dsimp only at hSw); go_simp; (try with_reducible rfl)
    (try simp only [Act.put, List.setIfInBounds_toArray, List.set_cons_zero, List.set_cons_succ])
    refine wpAnyH_ready (rs := [10]) (by kernel_rfl) (by simp) ?_
    refine (AllReadyH.cons (o := ⟨some 23, .call { callee := .value (.tmp 13), args := #[.tmp 17, .tmp 22], argTypes := #[98, 98] }, 3, "sort.go:55", #[⟨0, .data⟩, ⟨4, .data⟩, ⟨9, .data⟩], none⟩) rfl (fun K hK => ?_) AllReadyH.nil)
    rw [if_pos (by rfl)]
    go_simp
    refine (hio _).mono ?_
    rintro e' wz3 ⟨z, rfl, hz, hb3⟩
    replace hbz0 := fr_call hbz0 hb3
    refine hK.out _ _ (hkS _ hbz0) (fun hHeld => ?_)
    clear hK K
    (try simp only [Act.put, List.setIfInBounds_toArray, List.set_cons_zero, List.set_cons_succ])
    refine wpAnyH_take (i := 11) (oi := ⟨some 24, .binOp .lss 3 (.tmp 23) (.const (.int .i64 0)) 3, 4, "sort.go:55", #[⟨10, .data⟩], none⟩) (v := ?_) rfl (by kernel_rfl) (by kernel_rfl) (by kernel_rfl) (fun _ _ _ h => h) (Or.inl ⟨by rfl, fun W hSw => ?_⟩) hHeld ?_
    rotate_left
    ·(try dsimp only at hSw); go_simp; (try with_reducible rfl)
    (try simp only [Act.put, List.setIfInBounds_toArray, List.set_cons_zero, List.set_cons_succ])
    refine wpAnyH_done (by kernel_rfl) ?_ _
    refine NoPanic.normal ?_
    go_wp2_with fail
    refine ⟨⟨j, hjn, rfl, Lib.hid HS.out, hbz0⟩, ?_⟩
    have := HJL.out
    simp [intOf]; omega
   ·have HHS := HS.out
    clear HHS
    -- the region, step by step, in whatever order
    refine wpAnyH_take (i := 0) (oi := ⟨some 13, .move (.tmp 1), 112, "sort.go:55", #[], none⟩) (v := ?_) rfl (by kernel_rfl) (by kernel_rfl) (by kernel_rfl) (fun _ _ _ h => h) (Or.inl ⟨by rfl, fun W hSw => ?_⟩) hHeld ?_
    rotate_left
    ·(try dsimp only at hSw); go_simp; (try with_reducible rfl)
    (try simp only [Act.put, List.setIfInBounds_toArray, List.set_cons_zero, List.set_cons_succ])
    refine wpAnyH_take (i := 1) (oi := ⟨some 14, .move (.tmp 0), 26, "sort.go:55", #[], none⟩) (v := ?_) rfl (by kernel_rfl) (by kernel_rfl) (by kernel_rfl) (fun _ _ _ h => h) (Or.inl ⟨by rfl, fun W hSw => ?_⟩) hHeld ?_
    rotate_left
    ·(try dsimp only at hSw); go_simp; (try with_reducible rfl)
    (try simp only [Act.put, List.setIfInBounds_toArray, List.set_cons_zero, List.set_cons_succ])
    refine wpAnyH_take (i := 2) (oi := ⟨some 15, .move (.tmp 5), 3, "sort.go:55", #[], none⟩) (v := ?_) rfl (by kernel_rfl) (by kernel_rfl) (by kernel_rfl) (fun _ _ _ h => h) (Or.inl ⟨by rfl, fun W hSw => ?_⟩) hHeld ?_
    rotate_left
    ·(try dsimp only at hSw); go_simp; (try with_reducible rfl)
    (try simp only [Act.put, List.setIfInBounds_toArray, List.set_cons_zero, List.set_cons_succ])
    refine wpAnyH_take (i := 3) (oi := ⟨some 16, .indexAddr 26 (.tmp 14) (.tmp 15), 0, "sort.go:55", #[⟨1, .data⟩, ⟨2, .data⟩], none⟩) (v := ?_) rfl (by kernel_rfl) (by kernel_rfl) (by kernel_rfl) (fun _ _ _ h => h) (Or.inl ⟨by rfl, fun W hSw => ?_⟩) hHeld ?_
    rotate_left
    ·(try dsimp only at hSw); go_simp; (try with_reducible rfl)
    (try simp only [Act.put, List.setIfInBounds_toArray, List.set_cons_zero, List.set_cons_succ])
    refine wpAnyH_take (i := 4) (oi := ⟨some 17, .load 98 (.tmp 16), 98, "sort.go:55", #[⟨3, .data⟩], none⟩) (v := ?_) rfl (by kernel_rfl) (by kernel_rfl) (by kernel_rfl) (fun _ _ _ h => h) (Or.inl ⟨by rfl, fun W hSw => ?_⟩) hHeld ?_
    rotate_left
    ·(try dsimp only at hSw); go_simp; (try with_reducible rfl)
    (try simp only [Act.put, List.setIfInBounds_toArray, List.set_cons_zero, List.set_cons_succ])
    refine wpAnyH_take (i := 5) (oi := ⟨some 18, .move (.tmp 0), 26, "sort.go:55", #[], none⟩) (v := ?_) rfl (by kernel_rfl) (by kernel_rfl) (by kernel_rfl) (fun _ _ _ h => h) (Or.inl ⟨by rfl, fun W hSw => ?_⟩) hHeld ?_
    rotate_left
    ·(try dsimp only at hSw); go_simp; (try with_reducible rfl)
    (try simp only [Act.put, List.setIfInBounds_toArray, List.set_cons_zero, List.set_cons_succ])
    refine wpAnyH_take (i := 6) (oi := ⟨some 19, .move (.tmp 5), 3, "sort.go:55", #[], none⟩) (v := ?_) rfl (by kernel_rfl) (by kernel_rfl) (by kernel_rfl) (fun _ _ _ h => h) (Or.inl ⟨by rfl, fun W hSw => ?_⟩) hHeld ?_
    rotate_left
    ·(try dsimp only at hSw); go_simp; (try with_reducible rfl)
    (try simp only [Act.put, List.setIfInBounds_toArray, List.set_cons_zero, List.set_cons_succ])
    refine wpAnyH_take (i := 7) (oi := ⟨some 20, .binOp .sub 3 (.tmp 19) (.const (.int .i64 1)) 3, 3, "sort.go:55", #[⟨6, .data⟩], none⟩) (v := ?_) rfl (by kernel_rfl) (by kernel_rfl) (by kernel_rfl) (fun _ _ _ h => h) (Or.inl ⟨by rfl, fun W hSw => ?_⟩) hHeld ?_
    rotate_left
    ·(try dsimp only at hSw); go_simp; (try with_reducible rfl)
    (try simp only [Act.put, List.setIfInBounds_toArray, List.set_cons_zero, List.set_cons_succ])
    refine wpAnyH_take (i := 8) (oi := ⟨some 21, .indexAddr 26 (.tmp 18) (.tmp 20), 0, "sort.go:55", #[⟨5, .data⟩, ⟨7, .data⟩], none⟩) (v := ?_) rfl (by kernel_rfl) (by kernel_rfl) (by kernel_rfl) (fun _ _ _ h => h) (Or.inl ⟨by rfl, fun W hSw => ?_⟩) hHeld ?_
    rotate_left
    ·(try dsimp only at hSw); go_simp; (try with_reducible rfl)
    (try simp only [Act.put, List.setIfInBounds_toArray, List.set_cons_zero, List.set_cons_succ])
    refine wpAnyH_take (i := 9) (oi := ⟨some 22, .load 98 (.tmp 21), 98, "sort.go:55", #[⟨8, .data⟩], none⟩) (v := ?_) rfl (by kernel_rfl) (by kernel_rfl) (by kernel_rfl) (fun _ _ _ h => h) (Or.inl ⟨by rfl, fun W hSw => ?_⟩) hHeld ?_
    rotate_left
    ·(try dsimp only at hSw); go_simp; (try with_reducible rfl)
    (try simp only [Act.put, List.setIfInBounds_toArray, List.set_cons_zero, List.set_cons_succ])
    refine wpAnyH_ready (rs := [10]) (by kernel_rfl) (by simp) ?_
    refine (AllReadyH.cons (o := ⟨some 23, .call { callee := .value (.tmp 13), args := #[.tmp 17, .tmp 22], argTypes := #[98, 98] }, 3, "sort.go:55", #[⟨0, .data⟩, ⟨4, .data⟩, ⟨9, .data⟩], none⟩) rfl (fun K hK => ?_) AllReadyH.nil)
    rw [if_pos (by rfl)]
    go_simp
    refine (hio _).mono ?_
    rintro e' wz3 ⟨z, rfl, hz, hb3⟩
    replace hbz0 := fr_call hbz0 hb3
    refine hK.out _ _ (hkS _ hbz0) (fun hHeld => ?_)
    clear hK K
    (try simp only [Act.put, List.setIfInBounds_toArray, List.set_cons_zero, List.set_cons_succ])
    refine wpAnyH_take (i := 11) (oi := ⟨some 24, .binOp .lss 3 (.tmp 23) (.const (.int .i64 0)) 3, 4, "sort.go:55", #[⟨10, .data⟩], none⟩) (v := ?_) rfl (by kernel_rfl) (by kernel_rfl) (by kernel_rfl) (fun _ _ _ h => h) (Or.inl ⟨by rfl, fun W hSw => ?_⟩) hHeld ?_
    rotate_left
    ·(try dsimp only at hSw); go_simp; (try with_reducible rfl)
    (try simp only [Act.put, List.setIfInBounds_toArray, List.set_cons_zero, List.set_cons_succ])
    refine wpAnyH_done (by kernel_rfl) ?_ _
    refine NoPanic.normal ?_
    go_wp2_with fail
    go_ret
    exact ⟨ret_bool (HNO.out HS.out).symm, hbz0⟩
  ·obtain rfl : i = 0 := by omega
   have HO := Lib.hid (show ordB l = true from hord.out)
   have q0 : ¬ (0 : Int) < ((0 : Nat) : Int) := by omega
   clear hr
   go_wp2_with fail
   go_ret
   exact ⟨ret_bool HO.out.symm, hbel⟩
end Go.Proofs.YtfgghicdkcjdgaaGreatDoor
end

section
namespace Go.Proofs.YtfgghicdkcjdgaaGreatDoor
open Go.RowKit Go.Shelf

set_option maxRecDepth 100000 in
set_option maxHeartbeats 16000000 in
theorem tFits_is (A V : Option Addr) (k kc n c : Nat) (r : Rule) (l : List Wh) (w : World) (hl : RdS w A 2 (l.map Wh.cells)) (hk : l.length = k) (hk3 : 1 ≤ k ∧ k ≤ 3) (ht : TeethP l) (hr : Rd w V n r.never) (ho : RuleOk r) :
  Calls Tryz.prog 24 #[.agg (r.args V n c), .slice A k kc] w fun e w' => e = .returned (.tuple #[.bool (fitsR r l), .int .i64 0]) ∧ Below w.heap.size w w' := by
 have HF := Lib.hid (show fitsR r l = (decide ((k : Int) ≤ r.pairs) && (letsB r k && (ordB l && l.all (inT (teethR r (rangeR r)))))) from by unfold fitsR; rw [hk]; rfl)
 have hb0 := fr_alloc (fr_refl w) (.cells (r.args V n c) 53)
 have hX := Blk.new w 53 (r.args V n c)
 replace hl := hl.keep hb0
 replace hr := hr.keep hb0
 have hir := fun W h => isRule_yes V n c r W h ho
 have hit := fun W h => isTrain_yes A k kc l W h hk hk3.1 hk3.2 ht
 have hru := fun W h => ruled_any V n c r W h ho
 have hle := fun T m d W => lets_is r V T n c m d k W ho.sense hk3.2
 have hso := fun W h => sorted_is A k kc l W h hk hk3.1 (by omega)
 have hco := fun T m d g ts W h hB hT hm => contains_fits A k kc l r V T n c m d g ts W h hk (by omega) hB hT hm
 obtain ⟨ts, hts⟩ : ∃ ts, teethR r (rangeR r) = ts := ⟨_, rfl⟩
 have htl : ts.length ≤ 1000 := by
  have h1 := teethR_len r (rangeR r)
  rw [hts] at h1
  have h2 := ho.most
  have h3 := ho.least
  unfold rangeR at h1
  omega
 rw [hts] at hru HF
 obtain ⟨b2, h2⟩ : ∃ b, letsB r k = b := ⟨_, rfl⟩
 obtain ⟨b3, h3⟩ : ∃ b, ordB l = b := ⟨_, rfl⟩
 obtain ⟨b4, h4⟩ : ∃ b, l.all (inT ts) = b := ⟨_, rfl⟩
 rw [h2] at hle HF
 rw [h3] at hso HF
 have hco2 := fun T m d g W h hB hT hm => hco T m d g ts W h hB hT hm
 rw [h4] at hco2 HF
 have hmf : ∀ (fn : Fn) (first cap : Array Value) (w : World), (Instr.makeFunc fn first cap).run Tryz.prog w = .ok (.func fn first cap) w := fun _ _ _ _ => rfl
 have hcX := fun j => hX.cell j
 have hlX := hX.lt
 clear hco h2 h3 h4 hts ho ht hk
 unfold Rule.args Rule.full at *
 obtain ⟨e1, hz1⟩ : ∃ z, r.least = z := ⟨_, rfl⟩
 obtain ⟨e2, hz2⟩ : ∃ z, r.most = z := ⟨_, rfl⟩
 obtain ⟨e3, hz3⟩ : ∃ z, r.pairs = z := ⟨_, rfl⟩
 obtain ⟨e4, hz4⟩ : ∃ z, r.sense = z := ⟨_, rfl⟩
 simp only [hz1, hz2, hz3, hz4] at *
 clear hz1 hz2 hz3 hz4
 obtain ⟨b1, hb1⟩ : ∃ b, decide ((k : Int) ≤ e3) = b := ⟨_, rfl⟩
 rw [hb1] at HF
 cases b1
 ·have hF0 : fitsR r l = false := by rw [HF.out]; rfl
  rw [hF0]
  go_enter Tryz.func24, Tryz.ntmps24
  go_wp2_with fail
  refine (hir _ hr).mono ?_
  rintro e' w1 ⟨rfl, hb⟩
  replace hl := hl.keep hb
  replace hr := hr.keep hb
  replace hX := hX.keep hb
  replace hb0 := fr_call hb0 hb
  clear hb hcX
  have hcX := fun j => hX.cell j
  replace hlX := hX.lt
  go_wp2_with fail
  refine (hit _ hl).mono ?_
  rintro e' w1 ⟨rfl, hb⟩
  replace hl := hl.keep hb
  replace hr := hr.keep hb
  replace hX := hX.keep hb
  replace hb0 := fr_call hb0 hb
  clear hb hcX
  have hcX := fun j => hX.cell j
  replace hlX := hX.lt
  go_wp2_with fail
  refine (hru _ hr).mono ?_
  rintro e' w4 ⟨T, d, rfl, hT, hb⟩
  replace hl := hl.keep hb
  replace hr := hr.keep hb
  replace hX := hX.keep hb
  replace hb0 := fr_call hb0 hb
  clear hb hcX hir hit hru
  go_wp2_with (refine wpList_store_blk rfl _ _ _ rfl w4.heap.size 117 _ _ rfl rfl (Blk.new w4 _ _) rfl (by kernel_rfl) (by simp [Value.oneCell']) ?_; intro w5 hG hgr; have hb : Below w4.heap.size w4 w5 := (fr_alloc (fr_refl w4) _).grown hgr (fr_alloc (fr_refl w4) _).size (by intro k hk; cases hk; exact Nat.le_refl _); replace hl := hl.keep hb; replace hT := hT.keep hb; replace hX := hX.keep hb; replace hb0 := fr_call hb0 hb; have hcX := fun j => hX.cell j; replace hlX := hX.lt; have hcG := fun j => hG.cell j; have hlG := hG.lt)
  go_ret2
  exact ⟨rfl, hb0⟩
 ·have hF1 : fitsR r l = (b2 && (b3 && b4)) := by rw [HF.out]; rfl
  rw [hF1]
  go_enter Tryz.func24, Tryz.ntmps24
  go_wp2_with fail
  refine (hir _ hr).mono ?_
  rintro e' w1 ⟨rfl, hb⟩
  replace hl := hl.keep hb
  replace hr := hr.keep hb
  replace hX := hX.keep hb
  replace hb0 := fr_call hb0 hb
  clear hb hcX
  have hcX := fun j => hX.cell j
  replace hlX := hX.lt
  go_wp2_with fail
  refine (hit _ hl).mono ?_
  rintro e' w1 ⟨rfl, hb⟩
  replace hl := hl.keep hb
  replace hr := hr.keep hb
  replace hX := hX.keep hb
  replace hb0 := fr_call hb0 hb
  clear hb hcX
  have hcX := fun j => hX.cell j
  replace hlX := hX.lt
  go_wp2_with fail
  refine (hru _ hr).mono ?_
  rintro e' w4 ⟨T, d, rfl, hT, hb⟩
  replace hl := hl.keep hb
  replace hr := hr.keep hb
  replace hX := hX.keep hb
  replace hb0 := fr_call hb0 hb
  clear hb hcX hir hit hru
  go_wp2_with (refine wpList_store_blk rfl _ _ _ rfl w4.heap.size 117 _ _ rfl rfl (Blk.new w4 _ _) rfl (by kernel_rfl) (by simp [Value.oneCell']) ?_; intro w5 hG hgr; have hb : Below w4.heap.size w4 w5 := (fr_alloc (fr_refl w4) _).grown hgr (fr_alloc (fr_refl w4) _).size (by intro k hk; cases hk; exact Nat.le_refl _); replace hl := hl.keep hb; replace hT := hT.keep hb; replace hX := hX.keep hb; replace hb0 := fr_call hb0 hb; have hcX := fun j => hX.cell j; replace hlX := hX.lt; have hcG := fun j => hG.cell j; have hlG := hG.lt)
  refine (hle T _ d _).mono ?_
  rintro e' w6 ⟨rfl, hb⟩
  replace hl := hl.keep hb
  replace hT := hT.keep hb
  replace hX := hX.keep hb
  replace hG := hG.keep hb
  replace hb0 := fr_call hb0 hb
  clear hb hcX hcG
  have hcX := fun j => hX.cell j
  replace hlX := hX.lt
  have hcG := fun j => hG.cell j
  replace hlG := hG.lt
  cases b2
  ·go_wp2_with fail
   go_ret2
   exact ⟨rfl, hb0⟩
  ·go_wp2_with fail
   refine (hso _ hl).mono ?_
   rintro e' w6 ⟨rfl, hb⟩
   replace hl := hl.keep hb
   replace hT := hT.keep hb
   replace hX := hX.keep hb
   replace hG := hG.keep hb
   replace hb0 := fr_call hb0 hb
   clear hb hcX hcG
   have hcX := fun j => hX.cell j
   replace hlX := hX.lt
   have hcG := fun j => hG.cell j
   replace hlG := hG.lt
   cases b3
   ·go_wp2_with fail
    go_ret2
    exact ⟨rfl, hb0⟩
   ·go_wp2_with fail
    refine (hco2 T _ d _ _ hl hG hT htl).mono ?_
    rintro e' w6 ⟨rfl, hb⟩
    replace hb0 := fr_call hb0 hb
    cases b4
    ·go_wp2_with fail
     go_ret2
     exact ⟨rfl, hb0⟩
    ·go_wp2_with fail
     go_ret2
     exact ⟨rfl, hb0⟩
end Go.Proofs.YtfgghicdkcjdgaaGreatDoor
end
