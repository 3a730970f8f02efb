/- Walks, package plate: what two wheels of a piece that is laid have to do with each other. Walk, package plate: how far two wheels are from each other. Walks, package plate: a wheel over the edge; a wheel in the way of a post. Walk, package plate: posted. Walks, package plate: same and nested of wheels on two centres; the map of meshes. -/
import Derived.Test.YtdocgmafbacjcaaGreatDoorMT3
import Derived.BigRegion
import Derived.MapKept
import Derived.Laws.StructEq
section
namespace Go.Proofs.YtdocgmafbacjcaaGreatDoor
open Go.RowKit

/-- a wheel of a plate -/
structure PWh where
 centre : Int
 sleeve : Int
 layer : Int
 teeth : Int
def PWh.cells (p : PWh) : List Value := [.int .i64 p.centre, .int .i64 p.sleeve, .int .i64 p.layer, .int .i64 p.teeth]
theorem pwh_at {w : World} {A : Option Addr} {ws : List PWh} (h : RdS w A 4 (ws.map PWh.cells)) {k : Nat} (hk : k < ws.length) :
  ∃ ad, A = some ad ∧ ad.block < w.heap.size ∧ (w.cell? (ad.add (k * 4)) = some (.int .i64 ws[k].centre) ∧ w.cell? ⟨(ad.add (k * 4)).block, (ad.add (k * 4)).off + 1, none⟩ = some (.int .i64 ws[k].sleeve)) ∧ w.cell? ⟨(ad.add (k * 4)).block, (ad.add (k * 4)).off + 2, none⟩ = some (.int .i64 ws[k].layer) ∧ w.cell? ⟨(ad.add (k * 4)).block, (ad.add (k * 4)).off + 3, none⟩ = some (.int .i64 ws[k].teeth) := by
 obtain ⟨ad, e, hb, h0, h1⟩ := h.nth (i := k) (r := ws[k].cells) (by simp [hk])
 exact ⟨ad, e, hb, ⟨h0 _ rfl, h1 0 _ rfl⟩, h1 1 _ rfl, h1 2 _ rfl⟩
theorem square_is (x : Int) (w : World) (hx : -1000 ≤ x ∧ x ≤ 1000) :
  Calls Tryz.prog 207 #[.int .i64 x] w fun e w' => e = .returned (.int .i64 (x * x)) ∧ w' = w := by
 have z1 : IntKind.i64.wrap (x * x) = x * x := IntWalk.i64_in _ (by
  have h1 : (x * x).natAbs ≤ 1000 * 1000 := by rw [Int.natAbs_mul]; exact Nat.mul_le_mul (by omega) (by omega)
  omega)
 go_enter Tryz.func207, Tryz.ntmps207
 go_wp2_with fail
 go_ret
 exact ⟨rfl, rfl⟩
set_option maxRecDepth 100000 in
set_option maxHeartbeats 4000000 in
theorem level_is (pw ph pp pg po : Int) (A B M : Option Addr) (n nc m mc k kc a b : Nat) (mp gn : Value) (ws : List PWh) (w : World) (hB : RdS w B 4 (ws.map PWh.cells)) (_hm : ws.length = m) (ha : a < m) (hb : b < m) (x y : PWh) (hx : ws[a]? = some x) (hy : ws[b]? = some y) :
  Calls Tryz.prog 204 #[.agg #[.int .i64 pw, .int .i64 ph, .int .i64 pp, .int .i64 pg, .int .i64 po, .slice A n nc, .slice B m mc, .slice M k kc, mp, gn], .int .i64 a, .int .i64 b] w fun e w' => e = .returned (.bool (x.layer == y.layer)) ∧ Below w.heap.size w w' := by
 have hb0 := fr_alloc (fr_refl w) (.cells #[.int .i64 pw, .int .i64 ph, .int .i64 pp, .int .i64 pg, .int .i64 po, .slice A n nc, .slice B m mc, .slice M k kc, mp, gn] 143)
 have hX := Blk.new w 143 #[.int .i64 pw, .int .i64 ph, .int .i64 pp, .int .i64 pg, .int .i64 po, .slice A n nc, .slice B m mc, .slice M k kc, mp, gn]
 obtain ⟨w1, hw1⟩ : ∃ w1, w.alloc (.cells #[.int .i64 pw, .int .i64 ph, .int .i64 pp, .int .i64 pg, .int .i64 po, .slice A n nc, .slice B m mc, .slice M k kc, mp, gn] 143) = w1 := ⟨_, rfl⟩
 rw [hw1] at hb0 hX
 replace hB := hB.keep hb0
 obtain ⟨hal, hxe⟩ := List.getElem?_eq_some_iff.1 hx
 obtain ⟨hbl, hye⟩ := List.getElem?_eq_some_iff.1 hy
 obtain ⟨ad, rfl, hab, ⟨ca0, ca1⟩, ca2, ca3⟩ := pwh_at hB hal
 obtain ⟨ae, e, hae, ⟨cb0, cb1⟩, cb2, cb3⟩ := pwh_at hB hbl
 cases e
 rw [hxe] at ca0 ca1 ca2 ca3
 rw [hye] at cb0 cb1 cb2 cb3
 have i1 : 0 ≤ (a : Int) := by omega
 have i2 : (a : Int) < (m : Int) := by omega
 have i3 : 0 ≤ (b : Int) := by omega
 have i4 : (b : Int) < (m : Int) := by omega
 clear hx hy hxe hye hB _hm
 go_enter Tryz.func204, Tryz.ntmps204
 go_upto_region 1 with (fail)
 (try rw [hw1])
 have hcX := fun j => hX.cell j
 have hlX := hX.lt
 clear hw1
 go_quiet (fail)
 go_wp2_with fail
 go_ret
 exact ⟨rfl, fr_drewN hb0 nq⟩
set_option maxRecDepth 100000 in
set_option maxHeartbeats 4000000 in
theorem centred_is (pw ph pp pg po : Int) (A B M : Option Addr) (n nc m mc k kc a b : Nat) (mp gn : Value) (ws : List PWh) (w : World) (hB : RdS w B 4 (ws.map PWh.cells)) (_hm : ws.length = m) (ha : a < m) (hb : b < m) (x y : PWh) (hx : ws[a]? = some x) (hy : ws[b]? = some y) :
  Calls Tryz.prog 205 #[.agg #[.int .i64 pw, .int .i64 ph, .int .i64 pp, .int .i64 pg, .int .i64 po, .slice A n nc, .slice B m mc, .slice M k kc, mp, gn], .int .i64 a, .int .i64 b] w fun e w' => e = .returned (.bool (x.centre == y.centre)) ∧ Below w.heap.size w w' := by
 have hb0 := fr_alloc (fr_refl w) (.cells #[.int .i64 pw, .int .i64 ph, .int .i64 pp, .int .i64 pg, .int .i64 po, .slice A n nc, .slice B m mc, .slice M k kc, mp, gn] 143)
 have hX := Blk.new w 143 #[.int .i64 pw, .int .i64 ph, .int .i64 pp, .int .i64 pg, .int .i64 po, .slice A n nc, .slice B m mc, .slice M k kc, mp, gn]
 obtain ⟨w1, hw1⟩ : ∃ w1, w.alloc (.cells #[.int .i64 pw, .int .i64 ph, .int .i64 pp, .int .i64 pg, .int .i64 po, .slice A n nc, .slice B m mc, .slice M k kc, mp, gn] 143) = w1 := ⟨_, rfl⟩
 rw [hw1] at hb0 hX
 replace hB := hB.keep hb0
 obtain ⟨hal, hxe⟩ := List.getElem?_eq_some_iff.1 hx
 obtain ⟨hbl, hye⟩ := List.getElem?_eq_some_iff.1 hy
 obtain ⟨ad, rfl, hab, ⟨ca0, ca1⟩, ca2, ca3⟩ := pwh_at hB hal
 obtain ⟨ae, e, hae, ⟨cb0, cb1⟩, cb2, cb3⟩ := pwh_at hB hbl
 cases e
 rw [hxe] at ca0 ca1 ca2 ca3
 rw [hye] at cb0 cb1 cb2 cb3
 have i1 : 0 ≤ (a : Int) := by omega
 have i2 : (a : Int) < (m : Int) := by omega
 have i3 : 0 ≤ (b : Int) := by omega
 have i4 : (b : Int) < (m : Int) := by omega
 clear hx hy hxe hye hB _hm
 go_enter Tryz.func205, Tryz.ntmps205
 go_upto_region 1 with (fail)
 (try rw [hw1])
 have hcX := fun j => hX.cell j
 have hlX := hX.lt
 clear hw1
 go_quiet (fail)
 go_wp2_with fail
 go_ret
 exact ⟨rfl, fr_drewN hb0 nq⟩
set_option maxRecDepth 100000 in
set_option maxHeartbeats 4000000 in
theorem lsum_is (pw ph pp pg po : Int) (A B M : Option Addr) (n nc m mc k kc a b : Nat) (mp gn : Value) (ws : List PWh) (w : World) (hB : RdS w B 4 (ws.map PWh.cells)) (_hm : ws.length = m) (ha : a < m) (hb : b < m) (x y : PWh) (hx : ws[a]? = some x) (hy : ws[b]? = some y) (hs : (0 ≤ x.teeth ∧ x.teeth ≤ 50) ∧ 0 ≤ y.teeth ∧ y.teeth ≤ 50) :
  Calls Tryz.prog 202 #[.agg #[.int .i64 pw, .int .i64 ph, .int .i64 pp, .int .i64 pg, .int .i64 po, .slice A n nc, .slice B m mc, .slice M k kc, mp, gn], .int .i64 a, .int .i64 b] w fun e w' => e = .returned (.int .i64 (x.teeth + y.teeth)) ∧ Below w.heap.size w w' := by
 have hb0 := fr_alloc (fr_refl w) (.cells #[.int .i64 pw, .int .i64 ph, .int .i64 pp, .int .i64 pg, .int .i64 po, .slice A n nc, .slice B m mc, .slice M k kc, mp, gn] 143)
 have hX := Blk.new w 143 #[.int .i64 pw, .int .i64 ph, .int .i64 pp, .int .i64 pg, .int .i64 po, .slice A n nc, .slice B m mc, .slice M k kc, mp, gn]
 obtain ⟨w1, hw1⟩ : ∃ w1, w.alloc (.cells #[.int .i64 pw, .int .i64 ph, .int .i64 pp, .int .i64 pg, .int .i64 po, .slice A n nc, .slice B m mc, .slice M k kc, mp, gn] 143) = w1 := ⟨_, rfl⟩
 rw [hw1] at hb0 hX
 replace hB := hB.keep hb0
 obtain ⟨hal, hxe⟩ := List.getElem?_eq_some_iff.1 hx
 obtain ⟨hbl, hye⟩ := List.getElem?_eq_some_iff.1 hy
 obtain ⟨ad, rfl, hab, ⟨ca0, ca1⟩, ca2, ca3⟩ := pwh_at hB hal
 obtain ⟨ae, e, hae, ⟨cb0, cb1⟩, cb2, cb3⟩ := pwh_at hB hbl
 cases e
 rw [hxe] at ca0 ca1 ca2 ca3
 rw [hye] at cb0 cb1 cb2 cb3
 have i1 : 0 ≤ (a : Int) := by omega
 have i2 : (a : Int) < (m : Int) := by omega
 have i3 : 0 ≤ (b : Int) := by omega
 have i4 : (b : Int) < (m : Int) := by omega
 have z1 : IntKind.i64.wrap (x.teeth + y.teeth) = x.teeth + y.teeth := IntWalk.i64_in _ (by omega)
 clear hx hy hxe hye hB _hm
 go_enter Tryz.func202, Tryz.ntmps202
 go_upto_region 1 with (fail)
 (try rw [hw1])
 have hcX := fun j => hX.cell j
 have hlX := hX.lt
 clear hw1
 go_quiet (fail)
 go_wp2_with fail
 go_ret
 exact ⟨rfl, fr_drewN hb0 nq⟩
end Go.Proofs.YtdocgmafbacjcaaGreatDoor
end

section
namespace Go.Proofs.YtdocgmafbacjcaaGreatDoor
open Go.RowKit
attribute [local go_sem] Oper.semAt_some

/-- a point of a plate -/
structure PPt where
 x : Int
 y : Int
 deriving DecidableEq
def PPt.cells (p : PPt) : List Value := [.int .i64 p.x, .int .i64 p.y]
theorem ppt_at {w : World} {A : Option Addr} {cs : List PPt} (h : RdS w A 2 (cs.map PPt.cells)) {k : Nat} (hk : k < cs.length) :
  ∃ ad, A = some ad ∧ ad.block < w.heap.size ∧ w.cell? (ad.add (k * 2)) = some (.int .i64 cs[k].x) ∧ w.cell? ⟨(ad.add (k * 2)).block, (ad.add (k * 2)).off + 1, none⟩ = some (.int .i64 cs[k].y) := by
 obtain ⟨ad, e, hb, h0, h1⟩ := h.nth (i := k) (r := cs[k].cells) (by simp [hk])
 exact ⟨ad, e, hb, h0 _ rfl, h1 0 _ rfl⟩
def farP (c d : PPt) : Int := (c.x - d.x) * (c.x - d.x) + (c.y - d.y) * (c.y - d.y)
def PtOk (c : PPt) : Prop := (0 ≤ c.x ∧ c.x ≤ 120) ∧ 0 ≤ c.y ∧ c.y ≤ 120
theorem sq_bd {x : Int} (h : -200 ≤ x ∧ x ≤ 200) : 0 ≤ x * x ∧ x * x ≤ 40000 := by
 have h1 : (x * x).natAbs ≤ 200 * 200 := by rw [Int.natAbs_mul]; exact Nat.mul_le_mul (by omega) (by omega)
 have h2 : 0 ≤ x * x := by
  rcases Int.le_total 0 x with h3 | h3
  ·exact Int.mul_nonneg h3 h3
  ·have := Int.mul_nonneg (show 0 ≤ -x by omega) (show 0 ≤ -x by omega)
   rwa [Int.neg_mul_neg] at this
 omega
set_option maxRecDepth 100000 in
set_option maxHeartbeats 16000000 in
theorem far_is (pw ph pp pg po : Int) (A B M : Option Addr) (n nc m mc k kc a b : Nat) (mp gn : Value) (ws : List PWh) (cs : List PPt) (w : World) (hA : RdS w A 2 (cs.map PPt.cells)) (hn : cs.length = n) (hB : RdS w B 4 (ws.map PWh.cells)) (_hm : ws.length = m) (ha : a < m) (hb : b < m) (x y : PWh) (hx : ws[a]? = some x) (hy : ws[b]? = some y)
  (p q : Nat) (hp : x.centre = (p : Int)) (hq : y.centre = (q : Int)) (c d : PPt) (hc : cs[p]? = some c) (hd : cs[q]? = some d) (hco : PtOk c) (hdo : PtOk d) :
  Calls Tryz.prog 206 #[.agg #[.int .i64 pw, .int .i64 ph, .int .i64 pp, .int .i64 pg, .int .i64 po, .slice A n nc, .slice B m mc, .slice M k kc, mp, gn], .int .i64 a, .int .i64 b] w fun e w' => e = .returned (.int .i64 (farP c d)) ∧ Below w.heap.size w w' := by
 have hb0 := fr_alloc (fr_refl w) (.cells #[.int .i64 pw, .int .i64 ph, .int .i64 pp, .int .i64 pg, .int .i64 po, .slice A n nc, .slice B m mc, .slice M k kc, mp, gn] 143)
 have hX := Blk.new w 143 #[.int .i64 pw, .int .i64 ph, .int .i64 pp, .int .i64 pg, .int .i64 po, .slice A n nc, .slice B m mc, .slice M k kc, mp, gn]
 obtain ⟨w1, hw1⟩ : ∃ w1, w.alloc (.cells #[.int .i64 pw, .int .i64 ph, .int .i64 pp, .int .i64 pg, .int .i64 po, .slice A n nc, .slice B m mc, .slice M k kc, mp, gn] 143) = w1 := ⟨_, rfl⟩
 rw [hw1] at hb0 hX
 replace hB := hB.keep hb0
 replace hA := hA.keep hb0
 obtain ⟨hal, hxe⟩ := List.getElem?_eq_some_iff.1 hx
 obtain ⟨hbl, hye⟩ := List.getElem?_eq_some_iff.1 hy
 obtain ⟨hcl, hce⟩ := List.getElem?_eq_some_iff.1 hc
 obtain ⟨hdl, hde⟩ := List.getElem?_eq_some_iff.1 hd
 obtain ⟨ad, rfl, hab, ⟨ca0, _⟩, _, _⟩ := pwh_at hB hal
 obtain ⟨ae, e, hae, ⟨cb0, _⟩, _, _⟩ := pwh_at hB hbl
 cases e
 obtain ⟨bd, rfl, hbb, cc0, cc1⟩ := ppt_at hA hcl
 obtain ⟨be, e, hbe, cd0, cd1⟩ := ppt_at hA hdl
 cases e
 rw [hxe, hp] at ca0
 rw [hye, hq] at cb0
 rw [hce] at cc0 cc1
 rw [hde] at cd0 cd1
 obtain ⟨⟨c1, c2⟩, c3, c4⟩ := hco
 obtain ⟨⟨d1, d2⟩, d3, d4⟩ := hdo
 have i1 : 0 ≤ (a : Int) := by omega
 have i2 : (a : Int) < (m : Int) := by omega
 have i3 : 0 ≤ (b : Int) := by omega
 have i4 : (b : Int) < (m : Int) := by omega
 have i5 : 0 ≤ (p : Int) := by omega
 have i6 : (p : Int) < (n : Int) := by omega
 have i7 : 0 ≤ (q : Int) := by omega
 have i8 : (q : Int) < (n : Int) := by omega
 have HF := Lib.hid (show farP c d = (c.x - d.x) * (c.x - d.x) + (c.y - d.y) * (c.y - d.y) from rfl)
 obtain ⟨cx, cy⟩ := c
 obtain ⟨dx, dy⟩ := d
 simp only at c1 c2 c3 c4 d1 d2 d3 d4 cc0 cc1 cd0 cd1 HF
 have q1 := sq_bd (x := cx - dx) (by omega)
 have q2 := sq_bd (x := cy - dy) (by omega)
 have z1 : IntKind.i64.wrap (cx - dx) = cx - dx := IntWalk.i64_in _ (by omega)
 have z2 : IntKind.i64.wrap (cy - dy) = cy - dy := IntWalk.i64_in _ (by omega)
 have z3 : IntKind.i64.wrap ((cx - dx) * (cx - dx) + (cy - dy) * (cy - dy)) = (cx - dx) * (cx - dx) + (cy - dy) * (cy - dy) := IntWalk.i64_in _ (by omega)
 have hs1 := fun W => square_is (cx - dx) W (by omega)
 have hs2 := fun W => square_is (cy - dy) W (by omega)
 clear hx hy hc hd hxe hye hce hde hB hA _hm hn hp hq q1 q2
 go_enter Tryz.func206, Tryz.ntmps206
 go_upto_region 1 with (fail)
 (try rw [hw1])
 have hlX := hX.lt
 clear hw1
 have hkS : ∀ W, Below w1.heap.size w1 W → ((∀ j, W.cell? ⟨w.heap.size, j, none⟩ = (#[.int .i64 pw, .int .i64 ph, .int .i64 pp, .int .i64 pg, .int .i64 po, .slice (some bd) n nc, .slice (some ad) m mc, .slice M k kc, mp, gn] : Array Value)[j]?) ∧ W.cell? (ad.add (a * 4)) = some (.int .i64 p) ∧ W.cell? (ad.add (b * 4)) = some (.int .i64 q)) ∧ (W.cell? (bd.add (p * 2)) = some (.int .i64 cx) ∧ W.cell? ⟨(bd.add (p * 2)).block, (bd.add (p * 2)).off + 1, none⟩ = some (.int .i64 cy)) ∧ W.cell? (bd.add (q * 2)) = some (.int .i64 dx) ∧ W.cell? ⟨(bd.add (q * 2)).block, (bd.add (q * 2)).off + 1, none⟩ = some (.int .i64 dy) := fun W hb =>
  ⟨⟨fun j => (hX.keep hb).cell j, (hb.cell (p := ad.add (a * 4)) (by rw [block_of_add]; exact hab)).trans ca0, (hb.cell (p := ad.add (b * 4)) (by rw [block_of_add]; exact hab)).trans cb0⟩, ⟨(hb.cell (p := bd.add (p * 2)) (by rw [block_of_add]; exact hbb)).trans cc0, (hb.cell (p := ⟨(bd.add (p * 2)).block, (bd.add (p * 2)).off + 1, none⟩) (by show (bd.add (p * 2)).block < _; rw [block_of_add]; exact hbb)).trans cc1⟩, (hb.cell (p := bd.add (q * 2)) (by rw [block_of_add]; exact hbb)).trans cd0, (hb.cell (p := ⟨(bd.add (q * 2)).block, (bd.add (q * 2)).off + 1, none⟩) (by show (bd.add (q * 2)).block < _; rw [block_of_add]; exact hbb)).trans cd1⟩
 go_cut [7, 8] from 9 to 32 (fun s7 s8 wc => ∃ g7 g8, s7 = .pointer (some ⟨g7, 0, none⟩) ∧ s8 = .pointer (some ⟨g8, 0, none⟩) ∧ Blk wc g7 72 #[.int .i64 cx, .int .i64 cy] ∧ Blk wc g8 72 #[.int .i64 dx, .int .i64 dy] ∧ Below w1.heap.size w1 wc)
 case first =>
  refine wp_region_noPanic ?_
  have hbz := fr_drew (fr_refl w1)
  refine wp_region_held_drew (S := fun W => ((∀ j, W.cell? ⟨w.heap.size, j, none⟩ = (#[.int .i64 pw, .int .i64 ph, .int .i64 pp, .int .i64 pg, .int .i64 po, .slice (some bd) n nc, .slice (some ad) m mc, .slice M k kc, mp, gn] : Array Value)[j]?) ∧ W.cell? (ad.add (a * 4)) = some (.int .i64 p) ∧ W.cell? (ad.add (b * 4)) = some (.int .i64 q)) ∧ (W.cell? (bd.add (p * 2)) = some (.int .i64 cx) ∧ W.cell? ⟨(bd.add (p * 2)).block, (bd.add (p * 2)).off + 1, none⟩ = some (.int .i64 cy)) ∧ W.cell? (bd.add (q * 2)) = some (.int .i64 dx) ∧ W.cell? ⟨(bd.add (q * 2)).block, (bd.add (q * 2)).off + 1, none⟩ = some (.int .i64 dy)) (by kernel_rfl) (hkS _ hbz) (fun hHeld => ?_)
  generalize w1.drew = wz at hbz hHeld ⊢
  -- the region, step by step, in whatever order
  refine tkH 0 ⟨some 9, .fieldAddr 143 (.tmp 3) 0, 0, "plate.go:73", #[], none⟩ hHeld ?_
  refine tkH 1 ⟨some 10, .fieldAddr 79 (.tmp 9) 5, 0, "plate.go:73", #[⟨0, .data⟩], none⟩ hHeld ?_
  refine tkH 2 ⟨some 11, .load 75 (.tmp 10), 75, "plate.go:73", #[⟨1, .data⟩], none⟩ hHeld ?_
  refine tkH 3 ⟨some 12, .fieldAddr 143 (.tmp 3) 0, 0, "plate.go:73", #[], none⟩ hHeld ?_
  refine tkH 4 ⟨some 13, .fieldAddr 79 (.tmp 12) 6, 0, "plate.go:73", #[⟨3, .data⟩], none⟩ hHeld ?_
  refine tkH 5 ⟨some 14, .load 76 (.tmp 13), 76, "plate.go:73", #[⟨4, .data⟩], none⟩ hHeld ?_
  refine tkH 6 ⟨some 15, .move (.tmp 1), 3, "plate.go:73", #[], none⟩ hHeld ?_
  refine tkH 7 ⟨some 16, .indexAddr 76 (.tmp 14) (.tmp 15), 0, "plate.go:73", #[⟨5, .data⟩, ⟨6, .data⟩], none⟩ hHeld ?_
  refine tkH 8 ⟨some 17, .fieldAddr 147 (.tmp 16) 0, 0, "plate.go:73", #[⟨7, .data⟩], none⟩ hHeld ?_
  refine tkH 9 ⟨some 18, .load 3 (.tmp 17), 3, "plate.go:73", #[⟨8, .data⟩], none⟩ hHeld ?_
  refine tkH 10 ⟨some 19, .indexAddr 75 (.tmp 11) (.tmp 18), 0, "plate.go:73", #[⟨2, .data⟩, ⟨9, .data⟩], none⟩ hHeld ?_
  refine tkH 11 ⟨some 20, .load 72 (.tmp 19), 72, "plate.go:73", #[⟨10, .data⟩], none⟩ hHeld ?_
  refine tkH 12 ⟨some 21, .fieldAddr 143 (.tmp 3) 0, 0, "plate.go:73", #[⟨26, .gcOnly .lateStores⟩], none⟩ hHeld ?_
  refine tkH 13 ⟨some 22, .fieldAddr 79 (.tmp 21) 5, 0, "plate.go:73", #[⟨12, .data⟩, ⟨26, .gcOnly .lateStores⟩], none⟩ hHeld ?_
  refine tkH 14 ⟨some 23, .load 75 (.tmp 22), 75, "plate.go:73", #[⟨13, .data⟩, ⟨26, .gcOnly .lateStores⟩], none⟩ hHeld ?_
  refine tkH 15 ⟨some 24, .fieldAddr 143 (.tmp 3) 0, 0, "plate.go:73", #[⟨26, .gcOnly .lateStores⟩], none⟩ hHeld ?_
  refine tkH 16 ⟨some 25, .fieldAddr 79 (.tmp 24) 6, 0, "plate.go:73", #[⟨15, .data⟩, ⟨26, .gcOnly .lateStores⟩], none⟩ hHeld ?_
  refine tkH 17 ⟨some 26, .load 76 (.tmp 25), 76, "plate.go:73", #[⟨16, .data⟩, ⟨26, .gcOnly .lateStores⟩], none⟩ hHeld ?_
  refine tkH 18 ⟨some 27, .move (.tmp 2), 3, "plate.go:73", #[⟨26, .gcOnly .lateStores⟩], none⟩ hHeld ?_
  refine tkH 19 ⟨some 28, .indexAddr 76 (.tmp 26) (.tmp 27), 0, "plate.go:73", #[⟨17, .data⟩, ⟨18, .data⟩, ⟨26, .gcOnly .lateStores⟩], none⟩ hHeld ?_
  refine tkH 20 ⟨some 29, .fieldAddr 147 (.tmp 28) 0, 0, "plate.go:73", #[⟨19, .data⟩, ⟨26, .gcOnly .lateStores⟩], none⟩ hHeld ?_
  refine tkH 21 ⟨some 30, .load 3 (.tmp 29), 3, "plate.go:73", #[⟨20, .data⟩, ⟨26, .gcOnly .lateStores⟩], none⟩ hHeld ?_
  refine tkH 22 ⟨some 31, .indexAddr 75 (.tmp 23) (.tmp 30), 0, "plate.go:73", #[⟨14, .data⟩, ⟨21, .data⟩, ⟨26, .gcOnly .lateStores⟩], none⟩ hHeld ?_
  refine tkH 23 ⟨some 32, .load 72 (.tmp 31), 72, "plate.go:73", #[⟨22, .data⟩, ⟨26, .gcOnly .lateStores⟩], none⟩ hHeld ?_
  refine wpAnyH_ready (rs := [24, 25]) (by kernel_rfl) (by simp) ?_
  refine (AllReadyH.cons (o := ⟨some 7, .alloc 72, 0, "plate.go:73", #[], none⟩) rfl (fun K hK => ?_) (AllReadyH.cons (o := ⟨some 8, .alloc 72, 0, "plate.go:73", #[], none⟩) rfl (fun K hK => ?_) AllReadyH.nil))
  ·rw [if_pos (by rfl)]
   refine wp_alloc_new 72 rfl (.agg #[.int .i64 0, .int .i64 0]) (by kernel_rfl) ?_
   intro g7 wz he7 hP7 hb1 hs1x
   have hgl7 : w1.heap.size ≤ g7 := by rw [← he7]; exact hbz.size
   (try have hne : ¬ g7 = g8 := by have := hP8.lt; omega)
   replace hbz := fr_call hbz hb1
   (try replace hP8 := hP8.keep hb1)
   refine hK.out _ _ (hkS _ hbz) (fun hHeld => ?_)
   clear hK K
   (try simp only [Act.put, List.setIfInBounds_toArray, List.set_cons_zero, List.set_cons_succ])
   refine rdH 25 ⟨some 8, .alloc 72, 0, "plate.go:73", #[], none⟩ fun K hK => ?_
   refine wp_alloc_new 72 rfl (.agg #[.int .i64 0, .int .i64 0]) (by kernel_rfl) ?_
   intro g8 wz he8 hP8 hb1 hs1x
   have hgl8 : w1.heap.size ≤ g8 := by rw [← he8]; exact hbz.size
   (try have hne : ¬ g7 = g8 := by have := hP7.lt; omega)
   replace hbz := fr_call hbz hb1
   (try replace hP7 := hP7.keep hb1)
   refine hK.out _ _ (hkS _ hbz) (fun hHeld => ?_)
   clear hK K
   (try simp only [Act.put, List.setIfInBounds_toArray, List.set_cons_zero, List.set_cons_succ])
   refine rdH 26 ⟨none, .store 72 (.tmp 7) (.tmp 20), 0, "plate.go:73", #[⟨24, .data⟩, ⟨11, .data⟩, ⟨0, .phase⟩, ⟨1, .phase⟩, ⟨2, .phase⟩, ⟨3, .phase⟩, ⟨4, .phase⟩, ⟨5, .phase⟩, ⟨6, .phase⟩, ⟨7, .phase⟩, ⟨8, .phase⟩, ⟨9, .phase⟩, ⟨10, .phase⟩, ⟨11, .phase⟩, ⟨12, .textOnly .lateStores⟩, ⟨13, .textOnly .lateStores⟩, ⟨14, .textOnly .lateStores⟩, ⟨15, .textOnly .lateStores⟩, ⟨16, .textOnly .lateStores⟩, ⟨17, .textOnly .lateStores⟩, ⟨18, .textOnly .lateStores⟩, ⟨19, .textOnly .lateStores⟩, ⟨20, .textOnly .lateStores⟩, ⟨21, .textOnly .lateStores⟩, ⟨22, .textOnly .lateStores⟩, ⟨23, .textOnly .lateStores⟩, ⟨24, .phase⟩, ⟨25, .phase⟩], none⟩ fun K hK => ?_
   refine wp_store_blk 72 _ _ rfl g7 72 _ #[.int .i64 cx, .int .i64 cy] rfl rfl hP7 rfl (by kernel_rfl) (by simp [Value.oneCell']) ?_
   intro wz hN hgr
   replace hP7 := hN
   (try replace hP8 := hP8.grown hgr (by intro e; cases e; exact hne rfl))
   replace hbz := hbz.grown hgr hbz.size (by intro k hk; cases hk; exact hgl7)
   refine hK.out _ _ (hkS _ hbz) (fun hHeld => ?_)
   clear hK K
   refine rdH 27 ⟨none, .store 72 (.tmp 8) (.tmp 32), 0, "plate.go:73", #[⟨25, .data⟩, ⟨23, .data⟩, ⟨26, .chain⟩, ⟨0, .phase⟩, ⟨1, .phase⟩, ⟨2, .phase⟩, ⟨3, .phase⟩, ⟨4, .phase⟩, ⟨5, .phase⟩, ⟨6, .phase⟩, ⟨7, .phase⟩, ⟨8, .phase⟩, ⟨9, .phase⟩, ⟨10, .phase⟩, ⟨11, .phase⟩, ⟨12, .phase⟩, ⟨13, .phase⟩, ⟨14, .phase⟩, ⟨15, .phase⟩, ⟨16, .phase⟩, ⟨17, .phase⟩, ⟨18, .phase⟩, ⟨19, .phase⟩, ⟨20, .phase⟩, ⟨21, .phase⟩, ⟨22, .phase⟩, ⟨23, .phase⟩, ⟨24, .phase⟩, ⟨25, .phase⟩, ⟨26, .phase⟩], none⟩ fun K hK => ?_
   refine wp_store_blk 72 _ _ rfl g8 72 _ #[.int .i64 dx, .int .i64 dy] rfl rfl hP8 rfl (by kernel_rfl) (by simp [Value.oneCell']) ?_
   intro wz hN hgr
   replace hP8 := hN
   (try replace hP7 := hP7.grown hgr (by intro e; cases e; exact hne rfl))
   replace hbz := hbz.grown hgr hbz.size (by intro k hk; cases hk; exact hgl8)
   refine hK.out _ _ (hkS _ hbz) (fun hHeld => ?_)
   clear hK K
   refine wpAnyH_done (by kernel_rfl) ?_ _
   refine NoPanic.normal ?_
   go_wp2_with fail
   go_meet
   case rel => exact ⟨g7, g8, rfl, rfl, hP7, hP8, hbz⟩
  ·rw [if_pos (by rfl)]
   refine wp_alloc_new 72 rfl (.agg #[.int .i64 0, .int .i64 0]) (by kernel_rfl) ?_
   intro g8 wz he8 hP8 hb1 hs1x
   have hgl8 : w1.heap.size ≤ g8 := by rw [← he8]; exact hbz.size
   (try have hne : ¬ g7 = g8 := by have := hP7.lt; omega)
   replace hbz := fr_call hbz hb1
   (try replace hP7 := hP7.keep hb1)
   refine hK.out _ _ (hkS _ hbz) (fun hHeld => ?_)
   clear hK K
   (try simp only [Act.put, List.setIfInBounds_toArray, List.set_cons_zero, List.set_cons_succ])
   refine rdH 24 ⟨some 7, .alloc 72, 0, "plate.go:73", #[], none⟩ fun K hK => ?_
   refine wp_alloc_new 72 rfl (.agg #[.int .i64 0, .int .i64 0]) (by kernel_rfl) ?_
   intro g7 wz he7 hP7 hb1 hs1x
   have hgl7 : w1.heap.size ≤ g7 := by rw [← he7]; exact hbz.size
   (try have hne : ¬ g7 = g8 := by have := hP8.lt; omega)
   replace hbz := fr_call hbz hb1
   (try replace hP8 := hP8.keep hb1)
   refine hK.out _ _ (hkS _ hbz) (fun hHeld => ?_)
   clear hK K
   (try simp only [Act.put, List.setIfInBounds_toArray, List.set_cons_zero, List.set_cons_succ])
   refine rdH 26 ⟨none, .store 72 (.tmp 7) (.tmp 20), 0, "plate.go:73", #[⟨24, .data⟩, ⟨11, .data⟩, ⟨0, .phase⟩, ⟨1, .phase⟩, ⟨2, .phase⟩, ⟨3, .phase⟩, ⟨4, .phase⟩, ⟨5, .phase⟩, ⟨6, .phase⟩, ⟨7, .phase⟩, ⟨8, .phase⟩, ⟨9, .phase⟩, ⟨10, .phase⟩, ⟨11, .phase⟩, ⟨12, .textOnly .lateStores⟩, ⟨13, .textOnly .lateStores⟩, ⟨14, .textOnly .lateStores⟩, ⟨15, .textOnly .lateStores⟩, ⟨16, .textOnly .lateStores⟩, ⟨17, .textOnly .lateStores⟩, ⟨18, .textOnly .lateStores⟩, ⟨19, .textOnly .lateStores⟩, ⟨20, .textOnly .lateStores⟩, ⟨21, .textOnly .lateStores⟩, ⟨22, .textOnly .lateStores⟩, ⟨23, .textOnly .lateStores⟩, ⟨24, .phase⟩, ⟨25, .phase⟩], none⟩ fun K hK => ?_
   refine wp_store_blk 72 _ _ rfl g7 72 _ #[.int .i64 cx, .int .i64 cy] rfl rfl hP7 rfl (by kernel_rfl) (by simp [Value.oneCell']) ?_
   intro wz hN hgr
   replace hP7 := hN
   (try replace hP8 := hP8.grown hgr (by intro e; cases e; exact hne rfl))
   replace hbz := hbz.grown hgr hbz.size (by intro k hk; cases hk; exact hgl7)
   refine hK.out _ _ (hkS _ hbz) (fun hHeld => ?_)
   clear hK K
   refine rdH 27 ⟨none, .store 72 (.tmp 8) (.tmp 32), 0, "plate.go:73", #[⟨25, .data⟩, ⟨23, .data⟩, ⟨26, .chain⟩, ⟨0, .phase⟩, ⟨1, .phase⟩, ⟨2, .phase⟩, ⟨3, .phase⟩, ⟨4, .phase⟩, ⟨5, .phase⟩, ⟨6, .phase⟩, ⟨7, .phase⟩, ⟨8, .phase⟩, ⟨9, .phase⟩, ⟨10, .phase⟩, ⟨11, .phase⟩, ⟨12, .phase⟩, ⟨13, .phase⟩, ⟨14, .phase⟩, ⟨15, .phase⟩, ⟨16, .phase⟩, ⟨17, .phase⟩, ⟨18, .phase⟩, ⟨19, .phase⟩, ⟨20, .phase⟩, ⟨21, .phase⟩, ⟨22, .phase⟩, ⟨23, .phase⟩, ⟨24, .phase⟩, ⟨25, .phase⟩, ⟨26, .phase⟩], none⟩ fun K hK => ?_
   refine wp_store_blk 72 _ _ rfl g8 72 _ #[.int .i64 dx, .int .i64 dy] rfl rfl hP8 rfl (by kernel_rfl) (by simp [Value.oneCell']) ?_
   intro wz hN hgr
   replace hP8 := hN
   (try replace hP7 := hP7.grown hgr (by intro e; cases e; exact hne rfl))
   replace hbz := hbz.grown hgr hbz.size (by intro k hk; cases hk; exact hgl8)
   refine hK.out _ _ (hkS _ hbz) (fun hHeld => ?_)
   clear hK K
   refine wpAnyH_done (by kernel_rfl) ?_ _
   refine NoPanic.normal ?_
   go_wp2_with fail
   go_meet
   case rel => exact ⟨g7, g8, rfl, rfl, hP7, hP8, hbz⟩
 case rest =>
  obtain ⟨g7, g8, rfl, rfl, hg7, hg8, hbc⟩ := hcut
  have h70 := fun j => hg7.cell j
  have h80 := fun j => hg8.cell j
  have hl7 := hg7.lt
  have hl8 := hg8.lt
  clear hkS
  go_wp2_with fail
  go_quiet (first | (go_at_call 207; refine Calls.quiet_of_same (hs1 _)) | (go_at_call 207; refine Calls.quiet_of_same (hs2 _)))
  go_wp2_with fail
  go_ret
  exact ⟨by rw [HF.out]; rfl, fr_drewN (fr_call hb0 hbc) nq⟩
end Go.Proofs.YtdocgmafbacjcaaGreatDoor
end

section
namespace Go.Proofs.YtdocgmafbacjcaaGreatDoor
open Go.RowKit
attribute [local go_sem] Oper.semAt_some

def edgeB (pw ph : Int) (t : Int) (c : PPt) : Bool := decide (c.x < t) || (decide (c.y < t) || (decide (pw < c.x + t) || decide (ph < c.y + t)))
set_option maxRecDepth 100000 in
set_option maxHeartbeats 16000000 in
theorem edged_is (pw ph pp pg po : Int) (A B M : Option Addr) (n nc m mc k kc a : Nat) (mp gn : Value) (ws : List PWh) (cs : List PPt) (w : World) (hA : RdS w A 2 (cs.map PPt.cells)) (hn : cs.length = n) (hB : RdS w B 4 (ws.map PWh.cells)) (_hm : ws.length = m) (ha : a < m) (x : PWh) (hx : ws[a]? = some x)
  (p : Nat) (hp : x.centre = (p : Int)) (c : PPt) (hc : cs[p]? = some c) (hco : PtOk c) (ht : 0 ≤ x.teeth ∧ x.teeth ≤ 50) (bb : Bool) (hbb : edgeB pw ph x.teeth c = bb) :
  Calls Tryz.prog 144 #[.agg #[.int .i64 pw, .int .i64 ph, .int .i64 pp, .int .i64 pg, .int .i64 po, .slice A n nc, .slice B m mc, .slice M k kc, mp, gn], .int .i64 a] w fun e w' => e = .returned (.bool bb) ∧ Below w.heap.size w w' := by
 have hb0 := fr_alloc (fr_refl w) (.cells #[.int .i64 pw, .int .i64 ph, .int .i64 pp, .int .i64 pg, .int .i64 po, .slice A n nc, .slice B m mc, .slice M k kc, mp, gn] 143)
 have hX := Blk.new w 143 #[.int .i64 pw, .int .i64 ph, .int .i64 pp, .int .i64 pg, .int .i64 po, .slice A n nc, .slice B m mc, .slice M k kc, mp, gn]
 obtain ⟨w1, hw1⟩ : ∃ w1, w.alloc (.cells #[.int .i64 pw, .int .i64 ph, .int .i64 pp, .int .i64 pg, .int .i64 po, .slice A n nc, .slice B m mc, .slice M k kc, mp, gn] 143) = w1 := ⟨_, rfl⟩
 rw [hw1] at hb0 hX
 replace hB := hB.keep hb0
 replace hA := hA.keep hb0
 obtain ⟨hal, hxe⟩ := List.getElem?_eq_some_iff.1 hx
 obtain ⟨hcl, hce⟩ := List.getElem?_eq_some_iff.1 hc
 obtain ⟨ad, rfl, hab, ⟨ca0, ca1⟩, ca2, ca3⟩ := pwh_at hB hal
 obtain ⟨bd, rfl, hbd, cc0, cc1⟩ := ppt_at hA hcl
 rw [hxe] at ca0 ca1 ca2 ca3
 rw [hce] at cc0 cc1
 obtain ⟨⟨c1, c2⟩, c3, c4⟩ := hco
 obtain ⟨x0, x1, x2, x3⟩ := x
 obtain ⟨cx, cy⟩ := c
 simp only at hp ht ca0 ca1 ca2 ca3 cc0 cc1 c1 c2 c3 c4 hbb
 subst hp
 have i1 : 0 ≤ (a : Int) := by omega
 have i2 : (a : Int) < (m : Int) := by omega
 have i5 : 0 ≤ (p : Int) := by omega
 have i6 : (p : Int) < (n : Int) := by omega
 have z1 : IntKind.i64.wrap (cx + x3) = cx + x3 := IntWalk.i64_in _ (by omega)
 have z2 : IntKind.i64.wrap (cy + x3) = cy + x3 := IntWalk.i64_in _ (by omega)
 have HB := Lib.hid (show edgeB pw ph x3 ⟨cx, cy⟩ = (decide (cx < x3) || (decide (cy < x3) || (decide (pw < cx + x3) || decide (ph < cy + x3)))) from rfl)
 have HBB := Lib.hid hbb
 have hlX := hX.lt
 have hcX := fun j => hX.cell j
 clear hx hc hxe hce hB hA _hm hn hbb
 go_enter Tryz.func144, Tryz.ntmps144
 go_upto_region 1 with (fail)
 (try rw [hw1])
 clear hw1
 go_upto_region 2 with (refine wpList_store_blk rfl _ _ _ rfl w1.heap.size 147 _ _ rfl rfl (Blk.new w1 _ _) rfl (by kernel_rfl) (by simp [Value.oneCell']) ?_; intro w2 hP hgP; have hb2 : Below w1.heap.size w1 w2 := (fr_alloc (fr_refl w1) _).grown hgP (fr_alloc (fr_refl w1) _).size (by intro k hk; cases hk; exact Nat.le_refl _); have hX2 := hX.keep hb2; have hcX2 := fun j => hX2.cell j; have hlX2 := hX2.lt; have hcP := fun j => hP.cell j; have hlP := hP.lt; have cd0 := (hb2.cell (p := bd.add (p * 2)) (by rw [block_of_add]; exact hbd)).trans cc0; have cd1 := (hb2.cell (p := ⟨(bd.add (p * 2)).block, (bd.add (p * 2)).off + 1, none⟩) (by show (bd.add (p * 2)).block < _; rw [block_of_add]; exact hbd)).trans cc1)
 dsimp only [Act.put]
 clear hX hcX hlX hgP
 go_upto_region 3 with (refine wpList_store_blk rfl _ _ _ rfl w2.heap.size 72 _ _ rfl rfl (Blk.new w2 _ _) rfl (by kernel_rfl) (by simp [Value.oneCell']) ?_; intro w3 hQ hgQ; have hb3 : Below w2.heap.size w2 w3 := (fr_alloc (fr_refl w2) _).grown hgQ (fr_alloc (fr_refl w2) _).size (by intro k hk; cases hk; exact Nat.le_refl _); have hX3 := hX2.keep hb3; have hP3 := hP.keep hb3; have hcX3 := fun j => hX3.cell j; have hcP3 := fun j => hP3.cell j; have hcQ := fun j => hQ.cell j; have hlX3 := hX3.lt; have hlP3 := hP3.lt; have hlQ := hQ.lt)
 dsimp only [Act.put]
 clear hX2 hcX2 hlX2 hcP hlP hP hgQ cc0 cc1
 have hbf := fr_call (fr_call hb0 hb2) hb3
 clear hb0 hb2 hb3
 cases e1 : decide (cx < x3)
 ·cases e2 : decide (cy < x3)
  ·cases e3 : decide (pw < cx + x3)
   ·cases e4 : decide (ph < cy + x3)
    ·obtain rfl : bb = false := by rw [← HBB.out, HB.out, e1, e2, e3, e4]; rfl
     go_wp2_with fail
     go_ret
     exact ⟨rfl, hbf⟩
    ·obtain rfl : bb = true := by rw [← HBB.out, HB.out, e1, e2, e3, e4]; rfl
     go_wp2_with fail
     go_ret
     exact ⟨rfl, hbf⟩
   ·obtain rfl : bb = true := by rw [← HBB.out, HB.out, e1, e2, e3]; rfl
    go_wp2_with fail
    go_ret
    exact ⟨rfl, hbf⟩
  ·obtain rfl : bb = true := by rw [← HBB.out, HB.out, e1, e2]; rfl
   go_wp2_with fail
   go_ret
   exact ⟨rfl, hbf⟩
 ·obtain rfl : bb = true := by rw [← HBB.out, HB.out, e1]; rfl
  go_wp2_with fail
  go_ret
  exact ⟨rfl, hbf⟩
def postB (x y : PWh) (po f : Int) : Bool := decide (x.layer ≤ y.layer) && decide (f < (x.teeth + po) * (x.teeth + po))
set_option maxRecDepth 100000 in
set_option maxHeartbeats 16000000 in
theorem posted1_is (pw ph pp pg po : Int) (A B M : Option Addr) (n nc m mc k kc a b g : Nat) (mp gn : Value) (ws : List PWh) (cs : List PPt) (w : World) (hX : Blk w g 143 #[.int .i64 pw, .int .i64 ph, .int .i64 pp, .int .i64 pg, .int .i64 po, .slice A n nc, .slice B m mc, .slice M k kc, mp, gn]) (hA : RdS w A 2 (cs.map PPt.cells)) (hn : cs.length = n) (hB : RdS w B 4 (ws.map PWh.cells)) (hm : ws.length = m) (ha : a < m) (hb : b < m) (x y : PWh) (hx : ws[a]? = some x) (hy : ws[b]? = some y)
  (p q : Nat) (hp : x.centre = (p : Int)) (hq : y.centre = (q : Int)) (c d : PPt) (hc : cs[p]? = some c) (hd : cs[q]? = some d) (hco : PtOk c) (hdo : PtOk d) (ht : 0 ≤ x.teeth ∧ x.teeth ≤ 50) (hpo : 0 ≤ po ∧ po ≤ 3) (bb : Bool) (hbb : postB x y po (farP c d) = bb) :
  Calls Tryz.prog 209 #[.int .i64 a, .int .i64 b, .pointer (some ⟨g, 0, none⟩)] w fun e w' => e = .returned (.bool bb) ∧ Below w.heap.size w w' := by
 have hfar := fun W (hb : Below w.heap.size w W) => far_is pw ph pp pg po A B M n nc m mc k kc a b mp gn ws cs W (hA.keep hb) hn (hB.keep hb) hm ha ‹b < m› x y hx hy p q hp hq c d hc hd hco hdo
 obtain ⟨hal, hxe⟩ := List.getElem?_eq_some_iff.1 hx
 obtain ⟨hbl, hye⟩ := List.getElem?_eq_some_iff.1 hy
 obtain ⟨ad, rfl, hab, ⟨_, _⟩, ca2, ca3⟩ := pwh_at hB hal
 obtain ⟨ae, e, hae, ⟨_, _⟩, cb2, _⟩ := pwh_at hB hbl
 cases e
 rw [hxe] at ca2 ca3
 rw [hye] at cb2
 obtain ⟨f, hf⟩ : ∃ f, farP c d = f := ⟨_, rfl⟩
 rw [hf] at hfar hbb
 have hbb2 : (decide (x.layer ≤ y.layer) && decide (f < (x.teeth + po) * (x.teeth + po))) = bb := hbb
 have HBB := Lib.hid hbb2
 obtain ⟨t3, ht3⟩ : ∃ z, x.teeth = z := ⟨_, rfl⟩
 obtain ⟨l1, hl1⟩ : ∃ z, x.layer = z := ⟨_, rfl⟩
 obtain ⟨l2, hl2⟩ : ∃ z, y.layer = z := ⟨_, rfl⟩
 rw [ht3] at ca3 ht HBB
 rw [hl1] at ca2 HBB
 rw [hl2] at cb2 HBB
 have i1 : 0 ≤ (a : Int) := by omega
 have i2 : (a : Int) < (m : Int) := by omega
 have i3 : 0 ≤ (b : Int) := by omega
 have i4 : (b : Int) < (m : Int) := by omega
 have z1 : IntKind.i64.wrap (t3 + po) = t3 + po := IntWalk.i64_in _ (by omega)
 have hsq := fun W => square_is (t3 + po) W (by omega)
 have hlX := hX.lt
 have hcX := fun j => hX.cell j
 clear hx hy hc hd hxe hye hA hm hn hp hq hf hbb hbb2 ht3 hl1 hl2 hco hdo hB
 cases e1 : decide (l1 ≤ l2)
 ·obtain rfl : bb = false := by rw [← HBB.out, e1]; rfl
  go_enter Tryz.func209, Tryz.ntmps209
  go_upto_region 1 with (fail)
  go_quiet (fail)
  go_wp2_with fail
  go_ret
  exact ⟨rfl, fr_drewN (fr_refl _) nq⟩
 ·obtain rfl : bb = decide (f < (t3 + po) * (t3 + po)) := by rw [← HBB.out, e1]; rfl
  have hkS : ∀ W, Below w.heap.size w W → (∀ j, W.cell? ⟨g, j, none⟩ = (#[.int .i64 pw, .int .i64 ph, .int .i64 pp, .int .i64 pg, .int .i64 po, .slice A n nc, .slice (some ad) m mc, .slice M k kc, mp, gn] : Array Value)[j]?) ∧ (W.cell? ⟨(ad.add (a * 4)).block, (ad.add (a * 4)).off + 2, none⟩ = some (.int .i64 l1) ∧ W.cell? ⟨(ad.add (a * 4)).block, (ad.add (a * 4)).off + 3, none⟩ = some (.int .i64 t3)) ∧ W.cell? ⟨(ad.add (b * 4)).block, (ad.add (b * 4)).off + 2, none⟩ = some (.int .i64 l2) := fun W hb =>
   ⟨fun j => (hX.keep hb).cell j, ⟨(hb.cell (p := ⟨(ad.add (a * 4)).block, (ad.add (a * 4)).off + 2, none⟩) (by show (ad.add (a * 4)).block < _; rw [block_of_add]; exact hab)).trans ca2, (hb.cell (p := ⟨(ad.add (a * 4)).block, (ad.add (a * 4)).off + 3, none⟩) (by show (ad.add (a * 4)).block < _; rw [block_of_add]; exact hab)).trans ca3⟩, (hb.cell (p := ⟨(ad.add (b * 4)).block, (ad.add (b * 4)).off + 2, none⟩) (by show (ad.add (b * 4)).block < _; rw [block_of_add]; exact hab)).trans cb2⟩
  go_enter Tryz.func209, Tryz.ntmps209
  go_upto_region 1 with (fail)
  clear hcX
  refine wp_region_noPanic ?_
  have hbz := fr_drew (fr_refl w)
  refine wp_region_held_drew (S := fun W => (∀ j, W.cell? ⟨g, j, none⟩ = (#[.int .i64 pw, .int .i64 ph, .int .i64 pp, .int .i64 pg, .int .i64 po, .slice A n nc, .slice (some ad) m mc, .slice M k kc, mp, gn] : Array Value)[j]?) ∧ (W.cell? ⟨(ad.add (a * 4)).block, (ad.add (a * 4)).off + 2, none⟩ = some (.int .i64 l1) ∧ W.cell? ⟨(ad.add (a * 4)).block, (ad.add (a * 4)).off + 3, none⟩ = some (.int .i64 t3)) ∧ W.cell? ⟨(ad.add (b * 4)).block, (ad.add (b * 4)).off + 2, none⟩ = some (.int .i64 l2)) (by kernel_rfl) (hkS _ hbz) (fun hHeld => ?_)
  generalize w.drew = wz at hbz hHeld ⊢
  -- the region, step by step, in whatever order
  refine tkH 0 ⟨some 6, .fieldAddr 143 (.tmp 2) 0, 0, "plate.go:121", #[], none⟩ hHeld ?_
  refine tkH 1 ⟨some 7, .fieldAddr 79 (.tmp 6) 6, 0, "plate.go:121", #[⟨0, .data⟩], none⟩ hHeld ?_
  refine tkH 2 ⟨some 8, .load 76 (.tmp 7), 76, "plate.go:121", #[⟨1, .data⟩], none⟩ hHeld ?_
  refine tkH 3 ⟨some 9, .move (.tmp 0), 3, "plate.go:121", #[], none⟩ hHeld ?_
  refine tkH 4 ⟨some 10, .indexAddr 76 (.tmp 8) (.tmp 9), 0, "plate.go:121", #[⟨2, .data⟩, ⟨3, .data⟩], none⟩ hHeld ?_
  refine tkH 5 ⟨some 11, .fieldAddr 147 (.tmp 10) 2, 0, "plate.go:121", #[⟨4, .data⟩], none⟩ hHeld ?_
  refine tkH 6 ⟨some 12, .load 3 (.tmp 11), 3, "plate.go:121", #[⟨5, .data⟩], none⟩ hHeld ?_
  refine tkH 7 ⟨some 13, .fieldAddr 143 (.tmp 2) 0, 0, "plate.go:121", #[], none⟩ hHeld ?_
  refine tkH 8 ⟨some 14, .fieldAddr 79 (.tmp 13) 6, 0, "plate.go:121", #[⟨7, .data⟩], none⟩ hHeld ?_
  refine tkH 9 ⟨some 15, .load 76 (.tmp 14), 76, "plate.go:121", #[⟨8, .data⟩], none⟩ hHeld ?_
  refine tkH 10 ⟨some 16, .move (.tmp 1), 3, "plate.go:121", #[], none⟩ hHeld ?_
  refine tkH 11 ⟨some 17, .indexAddr 76 (.tmp 15) (.tmp 16), 0, "plate.go:121", #[⟨9, .data⟩, ⟨10, .data⟩], none⟩ hHeld ?_
  refine tkH 12 ⟨some 18, .fieldAddr 147 (.tmp 17) 2, 0, "plate.go:121", #[⟨11, .data⟩], none⟩ hHeld ?_
  refine tkH 13 ⟨some 19, .load 3 (.tmp 18), 3, "plate.go:121", #[⟨12, .data⟩], none⟩ hHeld ?_
  refine tkH 14 ⟨some 20, .binOp .leq 3 (.tmp 12) (.tmp 19) 3, 4, "plate.go:121", #[⟨6, .data⟩, ⟨13, .data⟩], none⟩ hHeld ?_
  refine tkH 15 ⟨some 21, .move (.tmp 20), 4, "plate.go:121", #[⟨14, .data⟩], none⟩ hHeld ?_
  refine tkH 16 ⟨some 22, .load 143 (.tmp 2), 143, "plate.go:121", #[⟨15, .guard⟩], some (15, true)⟩ hHeld ?_
  refine tkH 17 ⟨some 23, .move (.tmp 0), 3, "plate.go:121", #[⟨15, .guard⟩], some (15, true)⟩ hHeld ?_
  refine tkH 18 ⟨some 24, .move (.tmp 1), 3, "plate.go:121", #[⟨15, .guard⟩], some (15, true)⟩ hHeld ?_
  refine tkH 20 ⟨some 26, .fieldAddr 143 (.tmp 2) 0, 0, "plate.go:121", #[⟨15, .guard⟩], some (15, true)⟩ hHeld ?_
  refine tkH 21 ⟨some 27, .fieldAddr 79 (.tmp 26) 6, 0, "plate.go:121", #[⟨20, .data⟩, ⟨15, .guard⟩], some (15, true)⟩ hHeld ?_
  refine tkH 22 ⟨some 28, .load 76 (.tmp 27), 76, "plate.go:121", #[⟨21, .data⟩, ⟨15, .guard⟩], some (15, true)⟩ hHeld ?_
  refine tkH 23 ⟨some 29, .move (.tmp 0), 3, "plate.go:121", #[⟨15, .guard⟩], some (15, true)⟩ hHeld ?_
  refine tkH 24 ⟨some 30, .indexAddr 76 (.tmp 28) (.tmp 29), 0, "plate.go:121", #[⟨22, .data⟩, ⟨23, .data⟩, ⟨15, .guard⟩], some (15, true)⟩ hHeld ?_
  refine tkH 25 ⟨some 31, .fieldAddr 147 (.tmp 30) 3, 0, "plate.go:121", #[⟨24, .data⟩, ⟨15, .guard⟩], some (15, true)⟩ hHeld ?_
  refine tkH 26 ⟨some 32, .load 3 (.tmp 31), 3, "plate.go:121", #[⟨25, .data⟩, ⟨15, .guard⟩], some (15, true)⟩ hHeld ?_
  refine tkH 27 ⟨some 33, .fieldAddr 143 (.tmp 2) 0, 0, "plate.go:121", #[⟨15, .guard⟩], some (15, true)⟩ hHeld ?_
  refine tkH 28 ⟨some 34, .fieldAddr 79 (.tmp 33) 4, 0, "plate.go:121", #[⟨27, .data⟩, ⟨15, .guard⟩], some (15, true)⟩ hHeld ?_
  refine tkH 29 ⟨some 35, .load 3 (.tmp 34), 3, "plate.go:121", #[⟨28, .data⟩, ⟨15, .guard⟩], some (15, true)⟩ hHeld ?_
  refine tkH 30 ⟨some 36, .binOp .add 3 (.tmp 32) (.tmp 35) 3, 3, "plate.go:121", #[⟨26, .data⟩, ⟨29, .data⟩, ⟨15, .guard⟩], some (15, true)⟩ hHeld ?_
  refine rdH 19 ⟨some 25, .call { callee := .value (.func 206), args := #[.tmp 22, .tmp 23, .tmp 24], argTypes := #[143, 3, 3] }, 3, "plate.go:121", #[⟨16, .data⟩, ⟨17, .data⟩, ⟨18, .data⟩, ⟨15, .chain⟩, ⟨15, .guard⟩], some (15, true)⟩ fun K hK => ?_
  go_simp
  refine (hfar _ hbz).mono ?_
  rintro e' wz ⟨rfl, hb1⟩
  replace hbz := fr_call hbz hb1
  refine hK.out _ _ (hkS _ hbz) (fun hHeld => ?_)
  clear hK K
  (try simp only [Act.put, List.setIfInBounds_toArray, List.set_cons_zero, List.set_cons_succ])
  refine rdH 31 ⟨some 37, .call { callee := .value (.func 207), args := #[.tmp 36], argTypes := #[3] }, 3, "plate.go:121", #[⟨30, .data⟩, ⟨19, .chain⟩, ⟨15, .guard⟩], some (15, true)⟩ fun K hK => ?_
  go_simp
  refine (hsq _).mono ?_
  rintro e' wq ⟨rfl, rfl⟩
  refine hK.out _ _ (hkS _ hbz) (fun hHeld => ?_)
  clear hK K
  (try simp only [Act.put, List.setIfInBounds_toArray, List.set_cons_zero, List.set_cons_succ])
  refine tkH 32 ⟨some 38, .binOp .lss 3 (.tmp 25) (.tmp 37) 3, 4, "plate.go:121", #[⟨19, .data⟩, ⟨31, .data⟩, ⟨15, .guard⟩], some (15, true)⟩ hHeld ?_
  refine tkH 33 ⟨some 39, .pick (.tmp 21) (.tmp 38) (.const (.bool false)), 4, "plate.go:121", #[⟨15, .data⟩, ⟨32, .data⟩], none⟩ hHeld ?_
  refine tkH 34 ⟨some 5, .assign (.tmp 39), 4, "plate.go:121", #[⟨33, .data⟩, ⟨31, .chain⟩, ⟨0, .phase⟩, ⟨1, .phase⟩, ⟨2, .phase⟩, ⟨3, .phase⟩, ⟨4, .phase⟩, ⟨5, .phase⟩, ⟨6, .phase⟩, ⟨7, .phase⟩, ⟨8, .phase⟩, ⟨9, .phase⟩, ⟨10, .phase⟩, ⟨11, .phase⟩, ⟨12, .phase⟩, ⟨13, .phase⟩, ⟨14, .phase⟩, ⟨15, .phase⟩, ⟨16, .phase⟩, ⟨17, .phase⟩, ⟨18, .phase⟩, ⟨19, .phase⟩, ⟨20, .phase⟩, ⟨21, .phase⟩, ⟨22, .phase⟩, ⟨23, .phase⟩, ⟨24, .phase⟩, ⟨25, .phase⟩, ⟨26, .phase⟩, ⟨27, .phase⟩, ⟨28, .phase⟩, ⟨29, .phase⟩, ⟨30, .phase⟩, ⟨31, .phase⟩, ⟨32, .phase⟩, ⟨33, .phase⟩], none⟩ hHeld ?_
  refine wpAnyH_done (by kernel_rfl) ?_ _
  refine NoPanic.normal ?_
  go_wp2_with fail
  go_ret
  exact ⟨rfl, hbz⟩
end Go.Proofs.YtdocgmafbacjcaaGreatDoor
end

section
namespace Go.Proofs.YtdocgmafbacjcaaGreatDoor
open Go.RowKit
attribute [local go_sem] Oper.semAt_some

def postedB (x y : PWh) (po : Int) (c d : PPt) : Bool := !(x.centre == y.centre) && (postB x y po (farP c d) || postB y x po (farP d c))
set_option maxRecDepth 100000 in
set_option maxHeartbeats 16000000 in
theorem posted_is (pw ph pp pg po : Int) (A B M : Option Addr) (n nc m mc k kc a b : Nat) (mp gn : Value) (ws : List PWh) (cs : List PPt) (w : World) (hA : RdS w A 2 (cs.map PPt.cells)) (hn : cs.length = n) (hB : RdS w B 4 (ws.map PWh.cells)) (hm : ws.length = m) (ha : a < m) (hb : b < m) (x y : PWh) (hx : ws[a]? = some x) (hy : ws[b]? = some y)
  (p q : Nat) (hp : x.centre = (p : Int)) (hq : y.centre = (q : Int)) (c d : PPt) (hc : cs[p]? = some c) (hd : cs[q]? = some d) (hco : PtOk c) (hdo : PtOk d) (ht : 0 ≤ x.teeth ∧ x.teeth ≤ 50) (hu : 0 ≤ y.teeth ∧ y.teeth ≤ 50) (hpo : 0 ≤ po ∧ po ≤ 3) (bb : Bool) (hbb : postedB x y po c d = bb) :
  Calls Tryz.prog 149 #[.agg #[.int .i64 pw, .int .i64 ph, .int .i64 pp, .int .i64 pg, .int .i64 po, .slice A n nc, .slice B m mc, .slice M k kc, mp, gn], .int .i64 a, .int .i64 b] w fun e w' => e = .returned (.bool bb) ∧ Below w.heap.size w w' := by
 have hmf : ∀ (fn : Fn) (first cap : Array Value) (w : World), (Instr.makeFunc fn first cap).run Tryz.prog w = .ok (.func fn first cap) w := fun _ _ _ _ => rfl
 have hb0 := fr_alloc (fr_refl w) (.cells #[.int .i64 pw, .int .i64 ph, .int .i64 pp, .int .i64 pg, .int .i64 po, .slice A n nc, .slice B m mc, .slice M k kc, mp, gn] 143)
 have hX := Blk.new w 143 #[.int .i64 pw, .int .i64 ph, .int .i64 pp, .int .i64 pg, .int .i64 po, .slice A n nc, .slice B m mc, .slice M k kc, mp, gn]
 obtain ⟨w1, hw1⟩ : ∃ w1, w.alloc (.cells #[.int .i64 pw, .int .i64 ph, .int .i64 pp, .int .i64 pg, .int .i64 po, .slice A n nc, .slice B m mc, .slice M k kc, mp, gn] 143) = w1 := ⟨_, rfl⟩
 rw [hw1] at hb0 hX
 replace hB := hB.keep hb0
 replace hA := hA.keep hb0
 have hce := fun W (h : Below w1.heap.size w1 W) => centred_is pw ph pp pg po A B M n nc m mc k kc a b mp gn ws W (hB.keep h) hm ha hb x y hx hy
 have hp1 := fun W (h : Below w1.heap.size w1 W) (b1 : Bool) (h1 : postB x y po (farP c d) = b1) => posted1_is pw ph pp pg po A B M n nc m mc k kc a b w.heap.size mp gn ws cs W (hX.keep h) (hA.keep h) hn (hB.keep h) hm ha hb x y hx hy p q hp hq c d hc hd hco hdo ht hpo b1 h1
 have hp2 := fun W (h : Below w1.heap.size w1 W) (b1 : Bool) (h1 : postB y x po (farP d c) = b1) => posted1_is pw ph pp pg po A B M n nc m mc k kc b a w.heap.size mp gn ws cs W (hX.keep h) (hA.keep h) hn (hB.keep h) hm hb ha y x hy hx q p hq hp d c hd hc hdo hco hu hpo b1 h1
 have HBB := Lib.hid (show (!(x.centre == y.centre) && (postB x y po (farP c d) || postB y x po (farP d c))) = bb from hbb)
 have hlX := hX.lt
 have hcX := fun j => hX.cell j
 obtain ⟨b1, e1⟩ : ∃ z, postB x y po (farP c d) = z := ⟨_, rfl⟩
 obtain ⟨b2, e2⟩ : ∃ z, postB y x po (farP d c) = z := ⟨_, rfl⟩
 obtain ⟨b0, e0⟩ : ∃ z, (x.centre == y.centre) = z := ⟨_, rfl⟩
 replace hp1 := fun W h => hp1 W h b1 e1
 replace hp2 := fun W h => hp2 W h b2 e2
 rw [e0] at hce HBB
 rw [e1, e2] at HBB
 have HX := Lib.hid hX
 clear hA hB hx hy hc hd hbb e0 e1 e2 hX hp hq hco hdo ht hu hn hm
 cases b0
 ·cases b1
  ·obtain rfl : bb = b2 := by rw [← HBB.out]; rfl
   go_enter Tryz.func149, Tryz.ntmps149
   go_upto_region 1 with (fail)
   (try rw [hw1])
   clear hw1
   go_wp2_with fail
   refine (hce _ (fr_refl _)).mono ?_
   rintro e' w2 ⟨rfl, hb2⟩
   go_wp2_with fail
   refine (hp1 _ hb2).mono ?_
   rintro e' w3 ⟨rfl, hb3⟩
   have hb4 := fr_call hb2 hb3
   go_wp2_with fail
   refine (hp2 _ hb4).mono ?_
   rintro e' w5 ⟨rfl, hb5⟩
   go_wp2_with fail
   go_ret
   exact ⟨rfl, fr_call hb0 (fr_call hb4 hb5)⟩
  ·obtain rfl : bb = true := by rw [← HBB.out]; rfl
   go_enter Tryz.func149, Tryz.ntmps149
   go_upto_region 1 with (fail)
   (try rw [hw1])
   clear hw1
   go_wp2_with fail
   refine (hce _ (fr_refl _)).mono ?_
   rintro e' w2 ⟨rfl, hb2⟩
   go_wp2_with fail
   refine (hp1 _ hb2).mono ?_
   rintro e' w3 ⟨rfl, hb3⟩
   go_wp2_with fail
   go_ret
   exact ⟨rfl, fr_call hb0 (fr_call hb2 hb3)⟩
 ·obtain rfl : bb = false := by rw [← HBB.out]; rfl
  go_enter Tryz.func149, Tryz.ntmps149
  go_upto_region 1 with (fail)
  (try rw [hw1])
  clear hw1
  go_wp2_with fail
  refine (hce _ (fr_refl _)).mono ?_
  rintro e' w2 ⟨rfl, hb2⟩
  go_wp2_with fail
  go_ret
  exact ⟨rfl, fr_call hb0 hb2⟩
end Go.Proofs.YtdocgmafbacjcaaGreatDoor
end

section
namespace Go.Proofs.YtdocgmafbacjcaaGreatDoor
open Go.RowKit
attribute [local go_sem] Oper.semAt_some

set_option maxRecDepth 100000 in
set_option maxHeartbeats 8000000 in
theorem lsame_no (pw ph pp pg po : Int) (A B M : Option Addr) (n nc m mc k kc a b : Nat) (mp gn : Value) (ws : List PWh) (w : World) (hB : RdS w B 4 (ws.map PWh.cells)) (hm : ws.length = m) (ha : a < m) (hb : b < m) (x y : PWh) (hx : ws[a]? = some x) (hy : ws[b]? = some y) (hne : x.centre ≠ y.centre) :
  Calls Tryz.prog 147 #[.agg #[.int .i64 pw, .int .i64 ph, .int .i64 pp, .int .i64 pg, .int .i64 po, .slice A n nc, .slice B m mc, .slice M k kc, mp, gn], .int .i64 a, .int .i64 b] w fun e w' => e = .returned (.bool false) ∧ Below w.heap.size w w' := by
 have hb0 := fr_alloc (fr_refl w) (.cells #[.int .i64 pw, .int .i64 ph, .int .i64 pp, .int .i64 pg, .int .i64 po, .slice A n nc, .slice B m mc, .slice M k kc, mp, gn] 143)
 have hX := Blk.new w 143 #[.int .i64 pw, .int .i64 ph, .int .i64 pp, .int .i64 pg, .int .i64 po, .slice A n nc, .slice B m mc, .slice M k kc, mp, gn]
 obtain ⟨w1, hw1⟩ : ∃ w1, w.alloc (.cells #[.int .i64 pw, .int .i64 ph, .int .i64 pp, .int .i64 pg, .int .i64 po, .slice A n nc, .slice B m mc, .slice M k kc, mp, gn] 143) = w1 := ⟨_, rfl⟩
 rw [hw1] at hb0 hX
 have hce := centred_is pw ph pp pg po A B M n nc m mc k kc a b mp gn ws w1 (hB.keep hb0) hm ha hb x y hx hy
 rw [show (x.centre == y.centre) = false from beq_eq_false_iff_ne.2 hne] at hce
 have hlX := hX.lt
 have hcX := fun j => hX.cell j
 clear hB hx hy hne hm ha hb
 go_enter Tryz.func147, Tryz.ntmps147
 go_upto_region 1 with (fail)
 (try rw [hw1])
 clear hw1 hX
 go_wp2_with fail
 refine hce.mono ?_
 rintro e' w2 ⟨rfl, hb2⟩
 go_wp2_with fail
 go_ret
 exact ⟨rfl, fr_call hb0 hb2⟩
set_option maxRecDepth 100000 in
set_option maxHeartbeats 8000000 in
theorem nested_no (pw ph pp pg po : Int) (A B M : Option Addr) (n nc m mc k kc a b : Nat) (mp gn : Value) (ws : List PWh) (w : World) (hB : RdS w B 4 (ws.map PWh.cells)) (hm : ws.length = m) (ha : a < m) (hb : b < m) (x y : PWh) (hx : ws[a]? = some x) (hy : ws[b]? = some y) (hne : x.centre ≠ y.centre) :
  Calls Tryz.prog 148 #[.agg #[.int .i64 pw, .int .i64 ph, .int .i64 pp, .int .i64 pg, .int .i64 po, .slice A n nc, .slice B m mc, .slice M k kc, mp, gn], .int .i64 a, .int .i64 b] w fun e w' => e = .returned (.bool false) ∧ Below w.heap.size w w' := by
 have hb0 := fr_alloc (fr_refl w) (.cells #[.int .i64 pw, .int .i64 ph, .int .i64 pp, .int .i64 pg, .int .i64 po, .slice A n nc, .slice B m mc, .slice M k kc, mp, gn] 143)
 have hX := Blk.new w 143 #[.int .i64 pw, .int .i64 ph, .int .i64 pp, .int .i64 pg, .int .i64 po, .slice A n nc, .slice B m mc, .slice M k kc, mp, gn]
 obtain ⟨w1, hw1⟩ : ∃ w1, w.alloc (.cells #[.int .i64 pw, .int .i64 ph, .int .i64 pp, .int .i64 pg, .int .i64 po, .slice A n nc, .slice B m mc, .slice M k kc, mp, gn] 143) = w1 := ⟨_, rfl⟩
 rw [hw1] at hb0 hX
 have hce := centred_is pw ph pp pg po A B M n nc m mc k kc a b mp gn ws w1 (hB.keep hb0) hm ha hb x y hx hy
 rw [show (x.centre == y.centre) = false from beq_eq_false_iff_ne.2 hne] at hce
 have hlX := hX.lt
 have hcX := fun j => hX.cell j
 clear hB hx hy hne hm ha hb
 go_enter Tryz.func148, Tryz.ntmps148
 go_upto_region 1 with (fail)
 (try rw [hw1])
 clear hw1 hX
 go_wp2_with fail
 refine hce.mono ?_
 rintro e' w2 ⟨rfl, hb2⟩
 go_wp2_with fail
 go_ret
 exact ⟨rfl, fr_call hb0 hb2⟩
def keyM (k : Int × Int) : Value := .agg #[.int .i64 k.1, .int .i64 k.2]
def entsM : Nat → List (Int × Int) → List MapEntry
 | _, [] => []
 | i, e :: l => { key := keyM e, val := .bool true, born := i } :: entsM (i + 1) l
/-- the map at a block lists some meshes -/
def MapM (W : World) (b : Nat) (L : List (Int × Int)) : Prop := W.heap[b]? = some (.map (entsM 0 L).toArray L.length)
theorem MapM.keep {W W' : World} {b : Nat} {L : List (Int × Int)} (h : MapM W b L) (hb : Below W.heap.size W W') : MapM W' b L := by
 have hlt : b < W.heap.size := by
  rcases Nat.lt_or_ge b W.heap.size with h1 | h1
  ·exact h1
  ·unfold MapM at h; rw [Array.getElem?_eq_none h1] at h; cases h
 unfold MapM at h ⊢
 rw [hb.block b hlt, h]
def idxM (k : Int × Int) : Nat → List (Int × Int) → Option Nat
 | _, [] => none
 | i, e :: L => if e = k then some i else idxM k (i + 1) L
theorem idxM_some (k : Int × Int) : ∀ (L : List (Int × Int)) (i : Nat), (idxM k i L).isSome = L.contains k
 | [], _ => rfl
 | e :: L, i => by
  unfold idxM
  by_cases h : e = k
  ·simp [h]
  ·rw [if_neg h, idxM_some k L (i + 1)]
   have h2 : ¬ k = e := fun e1 => h e1.symm
   simp [h2]
theorem eq_keyM (w : World) (k k' : Int × Int) : (Op.equal 151 (keyM k) (keyM k')).run Tryz.prog w = .ok (decide (k' = k)) w := by
 obtain ⟨x, y⟩ := k
 obtain ⟨a, b⟩ := k'
 have h : (Op.equal 151 (keyM (x, y)) (keyM (a, b))).run Tryz.prog w = .ok (if (!(x == a)) = true then false else if (!(y == b)) = true then false else true) w := by
  have hs : Tryz.prog.underlying 151 = some (.struct (Tryz.prog.fieldsOf 151)) := by kernel_rfl
  have hp : Tryz.prog.stoodInHeld 151 = false := by kernel_rfl
  unfold Op.equal Op.maxDepth keyM
  rw [run_equalIn_struct w 9999 _ _ _ hs hp]
  simp [Program.fieldsOf, Tryz.underlying151, Op.eqFields, go_sem]
  by_cases h1 : x = a
  ·by_cases h2 : y = b
   ·simp [h1, h2]
   ·simp [h1, h2]
  ·simp [h1]
 rw [h]
 by_cases h1 : x = a
 ·by_cases h2 : y = b
  ·simp [h1, h2]
  ·have h2' : ¬ b = y := fun e => h2 e.symm
   simp [h1, h2, h2']
 ·have h1' : ¬ a = x := fun e => h1 e.symm
  simp [h1, h1']
theorem check_keyM (w : World) (k : Int × Int) (e : Bool) : (Instr.checkKey e 10000 151 (keyM k)).run Tryz.prog w = .ok () w := by
 obtain ⟨x, y⟩ := k
 kernel_rfl
theorem find_keyM (w : World) (k : Int × Int) : ∀ (L : List (Int × Int)) (i : Nat), (Instr.findAsking 151 (keyM k) (entsM i L) i).run Tryz.prog w = .ok ((idxM k i L).map (fun p => (p, Value.bool true))) w
 | [], i => by simp [entsM, Instr.findAsking, idxM]
 | e :: L, i => by
  simp only [entsM, Instr.findAsking, Sem.run_bind, eq_keyM, Result.andThen_ok, idxM]
  by_cases h : e = k
  ·simp [h]
  ·simp [h, find_keyM w k L (i + 1)]
theorem find_kM (w : World) (k : Int × Int) (L : List (Int × Int)) : (Instr.findKey 151 (keyM k) (entsM 0 L)).run Tryz.prog w = .ok ((idxM k 0 L).map (fun p => (p, Value.bool true))) w := by
 cases L with
 | nil => simp [Instr.findKey, entsM, Instr.findNow, idxM, run_underlying Tryz.underlying151]
 | cons e L =>
  have h := find_keyM w k (e :: L) 0
  simp only [Instr.findKey, Sem.run_bind, run_underlying Tryz.underlying151, Result.andThen_ok]
  simp only [entsM, Instr.findNow, Instr.sameNow] at h ⊢
  exact h
theorem look_mesh (w : World) (b : Nat) (L : List (Int × Int)) (k : Int × Int) (h : MapM w b L) : (Instr.lookup 141 (.map (some b)) (keyM k) false).run Tryz.prog w = .ok (.bool (L.contains k)) w := by
 have hz : (zeroValue 4).run Tryz.prog w = .ok (.bool false) w := by kernel_rfl
 unfold Instr.lookup
 simp only [Sem.run_bind, run_underlying Tryz.underlying141, Result.andThen_ok, MapKept.run_getObj_map h, Sem.run_pure, check_keyM, find_kM]
 rw [← idxM_some k L 0]
 cases idxM k 0 L with
 | none => simp [hz]
 | some p => simp
set_option maxRecDepth 100000 in
set_option maxHeartbeats 8000000 in
theorem mesh_is (pw ph pp pg po : Int) (A B M : Option Addr) (n nc m mc k kc a b l : Nat) (gn : Value) (L : List (Int × Int)) (w : World) (hM : MapM w l L) (hab : a ≤ b) (bb : Bool) (hbb : L.contains ((a : Int), (b : Int)) = bb) :
  Calls Tryz.prog 203 #[.agg #[.int .i64 pw, .int .i64 ph, .int .i64 pp, .int .i64 pg, .int .i64 po, .slice A n nc, .slice B m mc, .slice M k kc, .map (some l), gn], .int .i64 a, .int .i64 b] w fun e w' => e = .returned (.bool bb) ∧ Below w.heap.size w w' := by
 have hb0 := fr_alloc (fr_refl w) (.cells #[.int .i64 pw, .int .i64 ph, .int .i64 pp, .int .i64 pg, .int .i64 po, .slice A n nc, .slice B m mc, .slice M k kc, .map (some l), gn] 143)
 have hX := Blk.new w 143 #[.int .i64 pw, .int .i64 ph, .int .i64 pp, .int .i64 pg, .int .i64 po, .slice A n nc, .slice B m mc, .slice M k kc, .map (some l), gn]
 obtain ⟨w1, hw1⟩ : ∃ w1, w.alloc (.cells #[.int .i64 pw, .int .i64 ph, .int .i64 pp, .int .i64 pg, .int .i64 po, .slice A n nc, .slice B m mc, .slice M k kc, .map (some l), gn] 143) = w1 := ⟨_, rfl⟩
 rw [hw1] at hb0 hX
 have hlk := look_mesh w1 l L ((a : Int), (b : Int)) (hM.keep hb0)
 rw [hbb] at hlk
 unfold keyM at hlk
 have z1 : min (a : Int) (b : Int) = (a : Int) := by omega
 have z2 : max (a : Int) (b : Int) = (b : Int) := by omega
 have z3 : ¬ (b : Int) < (a : Int) := by omega
 have hlX := hX.lt
 have hcX := fun j => hX.cell j
 clear hM hab hbb
 go_enter Tryz.func203, Tryz.ntmps203
 go_upto_region 1 with (fail)
 (try rw [hw1])
 clear hw1 hX
 go_wp2_with fail
 go_ret
 exact ⟨rfl, hb0⟩
end Go.Proofs.YtdocgmafbacjcaaGreatDoor
end
