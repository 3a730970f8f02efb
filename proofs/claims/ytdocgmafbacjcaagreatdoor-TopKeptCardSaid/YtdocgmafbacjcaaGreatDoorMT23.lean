/- Walks, package plate: whether the chapter's piece is as defined. Walk, package plate: Place at the chapter's piece. The law TopMarked, walked up to its helper known11, whose contract is a parameter here. -/
import Derived.Test.YtdocgmafbacjcaaGreatDoorMT13
import Derived.Test.YtdocgmafbacjcaaGreatDoorMT14
import Derived.Deep.CutRange
import Derived.Test.YtdocgmafbacjcaaGreatDoorMT3
import Derived.Laws.OwnMore
section
namespace Go.Proofs.YtdocgmafbacjcaaGreatDoor
open Go.RowKit Go.Shelf

set_option maxRecDepth 100000 in
set_option maxHeartbeats 4000000 in
theorem isWheel_yes (pw ph pp pg po : Int) (A B M : Option Addr) (n nc m mc k kc : Nat) (x : Int) (w : World) (hx : 0 ≤ x ∧ x < (m : Int)) (hm : m ≤ 1000) :
  Calls Tryz.prog 78 #[.agg #[.int .i64 pw, .int .i64 ph, .int .i64 pp, .int .i64 pg, .int .i64 po, .slice A n nc, .slice B m mc, .slice M k kc], .int .i64 x] w fun e w' => e = .returned (.bool true) ∧ Below w.heap.size w w' := by
 have hb0 := fr_alloc (fr_refl w) (.cells #[.int .i64 pw, .int .i64 ph, .int .i64 pp, .int .i64 pg, .int .i64 po, .slice A n nc, .slice B m mc, .slice M k kc] 79)
 have hX := Blk.new w 79 #[.int .i64 pw, .int .i64 ph, .int .i64 pp, .int .i64 pg, .int .i64 po, .slice A n nc, .slice B m mc, .slice M k kc]
 have hcX := fun j => hX.cell j
 have z1 : IntKind.i64.wrap ((m : Int) - 1) = (m : Int) - 1 := IntWalk.i64_in _ (by omega)
 have h1 : inB x 0 ((m : Int) - 1) = true := inB_yes (by omega)
 clear hX hx
 go_enter Tryz.func78, Tryz.ntmps78
 go_wp2_with fail
 refine (pin_is _ _ _ _ _ h1).mono ?_
 rintro e w' ⟨rfl, rfl⟩
 go_wp2_with fail
 go_ret
 exact ⟨rfl, hb0⟩
/-- a wheel of a piece with some centres, as it is defined -/
def PwhOk (n : Nat) (x : PWh) : Prop := (0 ≤ x.centre ∧ x.centre ≤ (n : Int) - 1) ∧ (0 ≤ x.sleeve ∧ x.sleeve ≤ 2) ∧ (0 ≤ x.layer ∧ x.layer ≤ 5) ∧ 4 ≤ x.teeth ∧ x.teeth ≤ 50
set_option maxRecDepth 100000 in
set_option maxHeartbeats 4000000 in
theorem isPiece1_yes (pw ph pp pg po : Int) (A B M : Option Addr) (n nc m mc k kc g : Nat) (c s l t : Int) (w : World) (hX : Blk w g 79 #[.int .i64 pw, .int .i64 ph, .int .i64 pp, .int .i64 pg, .int .i64 po, .slice A n nc, .slice B m mc, .slice M k kc]) (hn : n ≤ 1000) (hx : PwhOk n ⟨c, s, l, t⟩) :
  Calls Tryz.prog 139 #[.agg #[.int .i64 c, .int .i64 s, .int .i64 l, .int .i64 t], .pointer (some ⟨g, 0, none⟩)] w fun e w' => e = .returned (.bool false) ∧ Below w.heap.size w w' := by
 have hb0 := fr_alloc (fr_refl w) (.cells #[.int .i64 c, .int .i64 s, .int .i64 l, .int .i64 t] 147)
 have hY := Blk.new w 147 #[.int .i64 c, .int .i64 s, .int .i64 l, .int .i64 t]
 have hX2 := hX.keep hb0
 have hcX := fun j => hX2.cell j
 have hcY := fun j => hY.cell j
 have z1 : IntKind.i64.wrap ((n : Int) - 1) = (n : Int) - 1 := IntWalk.i64_in _ (by omega)
 obtain ⟨x1, x2, x3, x4⟩ := hx
 simp only at x1 x2 x3 x4
 have h1 : inB c 0 ((n : Int) - 1) = true := inB_yes x1
 have h2 : inB s 0 2 = true := inB_yes x2
 have h3 : inB l 0 5 = true := inB_yes x3
 have h4 : inB t 4 50 = true := inB_yes x4
 have hlX := hX.lt
 clear hX hX2 hY x1 x2 x3 x4
 go_enter Tryz.func139, Tryz.ntmps139
 go_wp2_with fail
 refine (pin_is _ _ _ _ _ h1).mono ?_
 rintro e w' ⟨rfl, rfl⟩
 go_wp2_with fail
 refine (pin_is _ _ _ _ _ h2).mono ?_
 rintro e w' ⟨rfl, rfl⟩
 go_wp2_with fail
 refine (pin_is _ _ _ _ _ h3).mono ?_
 rintro e w' ⟨rfl, rfl⟩
 go_wp2_with fail
 refine (pin_is _ _ _ _ _ h4).mono ?_
 rintro e w' ⟨rfl, rfl⟩
 go_wp2_with fail
 go_ret
 exact ⟨rfl, hb0⟩
set_option maxRecDepth 100000 in
set_option maxHeartbeats 4000000 in
theorem index_pwh (pw ph pp pg po : Int) (A B M : Option Addr) (n nc m mc k kc g c : Nat) (ws : List PWh) (w : World) (hX : Blk w g 79 #[.int .i64 pw, .int .i64 ph, .int .i64 pp, .int .i64 pg, .int .i64 po, .slice A n nc, .slice B m mc, .slice M k kc]) (hB : RdS w B 4 (ws.map PWh.cells)) (hm : ws.length = m) (hn : n ≤ 1000) (hm2 : m ≤ 1000) (ht : ∀ x ∈ ws, PwhOk n x) :
  Calls Tryz.prog 201 #[.slice B m c, .func (.func 139) #[] #[.pointer (some ⟨g, 0, none⟩)]] w fun e' w' => e' = .returned (.int .i64 (-1)) ∧ Below w.heap.size w w' := by
 have HL := Lib.hid hm
 clear hm
 go_enter Tryz.func201, Tryz.ntmps201
 go_wp2
 go_loopw [8] (fun i wr => ∃ j : Nat, j ≤ m ∧ i = .int .i64 j ∧ Below w.heap.size w wr) (fun i _ => m - (intOf i).toNat)
 case atStart => exact ⟨0, Nat.zero_le _, rfl, fr_refl _⟩
 case round =>
  obtain ⟨j, hj, rfl, hbr⟩ := hrel
  by_cases hlt : j < m
  ·have hjl : j < ws.length := by have := HL.out; omega
   obtain ⟨ad, rfl, hab, ⟨c0, c1⟩, c2, c3⟩ := pwh_at (hB.keep hbr) hjl
   have hok := ht _ (List.getElem_mem hjl)
   have hXr := hX.keep hbr
   generalize ws[j] = y at *
   obtain ⟨yc, ys, yl, yt⟩ := y
   simp only at c0 c1 c2 c3
   have i1 : 0 ≤ (j : Int) := by omega
   have i2 : (j : Int) < (m : Int) := by omega
   clear hX hB
   go_wp2_with fail
   refine (isPiece1_yes pw ph pp pg po A (some ad) M n nc m mc k kc g yc ys yl yt wr hXr hn hok).mono ?_
   rintro e w1 ⟨rfl, hb1⟩
   go_wp2_with fail
   refine ⟨⟨j + 1, hlt, rfl, fr_call hbr hb1⟩, ?_⟩
   simp [intOf]; omega
  ·go_wp2_with fail
   go_ret
   exact ⟨rfl, hbr⟩
set_option maxHeartbeats 2000000 in
theorem contains_pwh (pw ph pp pg po : Int) (A B M : Option Addr) (n nc m mc k kc g c : Nat) (ws : List PWh) (w : World) (hX : Blk w g 79 #[.int .i64 pw, .int .i64 ph, .int .i64 pp, .int .i64 pg, .int .i64 po, .slice A n nc, .slice B m mc, .slice M k kc]) (hB : RdS w B 4 (ws.map PWh.cells)) (hm : ws.length = m) (hn : n ≤ 1000) (hm2 : m ≤ 1000) (ht : ∀ x ∈ ws, PwhOk n x) :
  Calls Tryz.prog 138 #[.slice B m c, .func (.func 139) #[] #[.pointer (some ⟨g, 0, none⟩)]] w fun e' w' => e' = .returned (.bool false) ∧ Below w.heap.size w w' := by
 have h := index_pwh pw ph pp pg po A B M n nc m mc k kc g c ws w hX hB hm hn hm2 ht
 clear hX hB hm ht
 go_enter Tryz.func138, Tryz.ntmps138
 go_wp2_with fail
 refine h.mono ?_
 rintro e w1 ⟨rfl, hb1⟩
 go_wp2_with fail
 go_ret
 exact ⟨rfl, hb1⟩
def pCsI : List (Int × Int) := [(15, 20), (35, 20), (35, 36)]
theorem pCs_rows : pCs.map PPt.cells = pCsI.map ptC := rfl
theorem pCs_ok : ∀ j x y, pCsI[j]? = some (x, y) → inB x 0 60 = true ∧ inB y 0 50 = true ∧ (pCsI.take j).contains (x, y) = false := fun j x y h => by
 have hj : j < 3 := (List.getElem?_eq_some_iff.1 h).1
 have h3 : j = 0 ∨ j = 1 ∨ j = 2 := by omega
 rcases h3 with rfl | rfl | rfl <;> (cases h; decide)
theorem pMs_ok : ∀ j x y, pMs[j]? = some (x, y) → (0 ≤ x ∧ x < 4) ∧ (0 ≤ y ∧ y < 4) ∧ x < y ∧ (pMs.take j).contains (x, y) = false := fun j x y h => by
 have hj : j < 2 := (List.getElem?_eq_some_iff.1 h).1
 have h3 : j = 0 ∨ j = 1 := by omega
 rcases h3 with rfl | rfl <;> (cases h; decide)
theorem pWs_ok : ∀ x ∈ pWs, PwhOk 3 x := fun x hx => by
 simp only [pWs, List.mem_cons, List.not_mem_nil, or_false] at hx
 rcases hx with rfl | rfl | rfl | rfl <;> (unfold PwhOk; decide)
set_option maxRecDepth 100000 in
set_option maxHeartbeats 16000000 in
theorem isPiece_P (b1 f1 b2 f2 b3 f3 : Nat) (w : World) (hA : RdS w (some ⟨b1, f1, none⟩) 2 (pCs.map PPt.cells)) (hB : RdS w (some ⟨b2, f2, none⟩) 4 (pWs.map PWh.cells)) (hM : RdS w (some ⟨b3, f3, none⟩) 2 (pMs.map ptC)) :
  Calls Tryz.prog 76 #[.agg #[.int .i64 60, .int .i64 50, .int .i64 1, .int .i64 1, .int .i64 2, .slice (some ⟨b1, f1, none⟩) 3 3, .slice (some ⟨b2, f2, none⟩) 4 4, .slice (some ⟨b3, f3, none⟩) 2 2]] w fun e w' => e = .returned (.bool true) ∧ Below w.heap.size w w' := by
 have hmf : ∀ (fn : Fn) (first cap : Array Value) (w : World), (Instr.makeFunc fn first cap).run Tryz.prog w = .ok (.func fn first cap) w := fun _ _ _ _ => rfl
 have hb0 := fr_alloc (fr_refl w) (.cells #[.int .i64 60, .int .i64 50, .int .i64 1, .int .i64 1, .int .i64 2, .slice (some ⟨b1, f1, none⟩) 3 3, .slice (some ⟨b2, f2, none⟩) 4 4, .slice (some ⟨b3, f3, none⟩) 2 2] 79)
 have hX := Blk.new w 79 #[.int .i64 60, .int .i64 50, .int .i64 1, .int .i64 1, .int .i64 2, .slice (some ⟨b1, f1, none⟩) 3 3, .slice (some ⟨b2, f2, none⟩) 4 4, .slice (some ⟨b3, f3, none⟩) 2 2]
 obtain ⟨w1, hw1⟩ : ∃ w1, w.alloc (.cells #[.int .i64 60, .int .i64 50, .int .i64 1, .int .i64 1, .int .i64 2, .slice (some ⟨b1, f1, none⟩) 3 3, .slice (some ⟨b2, f2, none⟩) 4 4, .slice (some ⟨b3, f3, none⟩) 2 2] 79) = w1 := ⟨_, rfl⟩
 rw [hw1] at hb0 hX
 rw [pCs_rows] at hA
 replace hA := hA.keep hb0
 replace hB := hB.keep hb0
 replace hM := hM.keep hb0
 have hcX := fun j => hX.cell j
 have hlX := hX.lt
 have a1 : inB 60 1 120 = true := by decide
 have a2 : inB 50 1 120 = true := by decide
 have a3 : inB 1 0 4 = true := by decide
 have a4 : inB 2 0 3 = true := by decide
 have a5 : inB 3 1 6 = true := by decide
 go_enter Tryz.func76, Tryz.ntmps76
 go_upto_region 1 with (fail)
 (try rw [hw1])
 clear hw1
 go_wp2_with fail
 refine (pin_is _ _ _ _ _ a1).mono ?_
 rintro e w' ⟨rfl, rfl⟩
 go_wp2_with fail
 refine (pin_is _ _ _ _ _ a2).mono ?_
 rintro e w' ⟨rfl, rfl⟩
 go_wp2_with fail
 refine (pin_is _ _ _ _ _ a3).mono ?_
 rintro e w' ⟨rfl, rfl⟩
 go_wp2_with fail
 refine (pin_is _ _ _ _ _ a3).mono ?_
 rintro e w' ⟨rfl, rfl⟩
 go_wp2_with fail
 refine (pin_is _ _ _ _ _ a4).mono ?_
 rintro e w' ⟨rfl, rfl⟩
 go_wp2_with fail
 refine (pin_is _ _ _ _ _ a5).mono ?_
 rintro e w' ⟨rfl, rfl⟩
 go_wp2_with fail
 have hX0 := hX
 clear hcX hlX a1 a2 a3 a4 a5 hX
 go_loopw [55] (fun t wr => ∃ j : Nat, j ≤ 3 ∧ t = .int .i64 j ∧ Below w1.heap.size w1 wr) (fun t _ => 3 - (intOf t).toNat)
 case atStart => exact ⟨0, Nat.zero_le _, rfl, fr_refl _⟩
 case round =>
  obtain ⟨j, hj, rfl, hbr⟩ := hrel
  by_cases hlt : j < 3
  ·obtain ⟨⟨x, y⟩, hx⟩ : ∃ x, pCsI[j]? = some x := ⟨pCsI[j]'hlt, by simp [pCsI, hlt]⟩
   obtain ⟨o1, o2, o3⟩ := pCs_ok j x y hx
   obtain ⟨ad, e, hab, h0, h1⟩ := (hA.keep hbr).nth (i := j) (r := ptC (x, y)) (by simp [hx])
   cases e
   have c0 := h0 _ rfl
   have c1 := h1 0 _ rfl
   have i1 : (j : Int) < 3 := by omega
   have i2 : 0 ≤ (j : Int) := by omega
   have i3 : (j : Int) ≤ 3 := by omega
   simp only [add_lit] at c0 c1
   clear h0 h1
   go_upto_region 8 with (refine wpList_store_blk rfl _ _ _ rfl wr.heap.size 72 _ _ rfl rfl (Blk.new wr _ _) rfl (by kernel_rfl) (by simp [Value.oneCell']) ?_; intro w4 hQ hgQ)
   have hb4 : Below wr.heap.size wr w4 := (fr_alloc (fr_refl wr) _).grown hgQ (fr_alloc (fr_refl wr) _).size (by intro k hk; cases hk; exact Nat.le_refl _)
   have hb5 := fr_call hbr hb4
   have hX4 := hX0.keep hb5
   have hkS : ∀ W, Below w4.heap.size w4 W → W.cell? ⟨wr.heap.size, 0, none⟩ = some (.int .i64 x) ∧ W.cell? ⟨wr.heap.size, 1, none⟩ = some (.int .i64 y) ∧ W.cell? ⟨w.heap.size, 0, none⟩ = some (.int .i64 60) ∧ W.cell? ⟨w.heap.size, 1, none⟩ = some (.int .i64 50) ∧ W.cell? ⟨w.heap.size, 5, none⟩ = some (.slice (some ⟨b1, f1, none⟩) 3 3) := fun W hb => ⟨(hb.cell (p := ⟨wr.heap.size, 0, none⟩) hQ.lt).trans (hQ.cell 0), (hb.cell (p := ⟨wr.heap.size, 1, none⟩) hQ.lt).trans (hQ.cell 1), (hb.cell (p := ⟨w.heap.size, 0, none⟩) hX4.lt).trans (hX4.cell 0), (hb.cell (p := ⟨w.heap.size, 1, none⟩) hX4.lt).trans (hX4.cell 1), (hb.cell (p := ⟨w.heap.size, 5, none⟩) hX4.lt).trans (hX4.cell 5)⟩
   dsimp only [Act.put]
   have hbz := fr_drew (fr_refl w4)
   clear c0 c1
   refine wp_region_noPanic ?_
   refine wp_region_held_drew (S := fun W => W.cell? ⟨wr.heap.size, 0, none⟩ = some (.int .i64 x) ∧ W.cell? ⟨wr.heap.size, 1, none⟩ = some (.int .i64 y) ∧ W.cell? ⟨w.heap.size, 0, none⟩ = some (.int .i64 60) ∧ W.cell? ⟨w.heap.size, 1, none⟩ = some (.int .i64 50) ∧ W.cell? ⟨w.heap.size, 5, none⟩ = some (.slice (some ⟨b1, f1, none⟩) 3 3)) (by kernel_rfl) (hkS _ hbz) (fun hHeld => ?_)
   generalize w4.drew = wz at hbz hHeld ⊢
   -- the region, step by step, in whatever order
   refine tkH 0 ⟨some 60, .fieldAddr 72 (.tmp 4) 0, 0, "plate.go:25", #[], none⟩ hHeld ?_
   refine tkH 1 ⟨some 61, .load 3 (.tmp 60), 3, "plate.go:25", #[⟨0, .data⟩], none⟩ hHeld ?_
   refine tkH 2 ⟨some 62, .fieldAddr 79 (.tmp 1) 0, 0, "plate.go:25", #[], none⟩ hHeld ?_
   refine tkH 3 ⟨some 63, .load 3 (.tmp 62), 3, "plate.go:25", #[⟨2, .data⟩], none⟩ hHeld ?_
   refine rdH 4 ⟨some 64, .call { callee := .value (.func 77), args := #[.tmp 61, .const (.int .i64 0), .tmp 63], argTypes := #[3, 3, 3] }, 4, "plate.go:25", #[⟨1, .data⟩, ⟨3, .data⟩], none⟩ fun K hK => ?_
   go_simp
   refine (pin_is _ _ _ _ _ o1).mono ?_
   rintro e' wz' ⟨rfl, rfl⟩
   refine hK.out _ _ (hHeld) (fun hHeld => ?_)
   clear hK K
   (try simp only [Act.put, List.setIfInBounds_toArray, List.set_cons_zero, List.set_cons_succ])
   refine tkH 5 ⟨some 65, .unOp .not 4 (.tmp 64), 4, "plate.go:25", #[⟨4, .data⟩], none⟩ hHeld ?_
   refine tkH 6 ⟨some 66, .move (.tmp 65), 4, "plate.go:25", #[⟨5, .data⟩, ⟨4, .chain⟩], none⟩ hHeld ?_
   refine tkH 7 ⟨some 67, .fieldAddr 72 (.tmp 4) 1, 0, "plate.go:25", #[⟨6, .guard⟩], some (6, false)⟩ hHeld ?_
   refine tkH 8 ⟨some 68, .load 3 (.tmp 67), 3, "plate.go:25", #[⟨7, .data⟩, ⟨6, .guard⟩], some (6, false)⟩ hHeld ?_
   refine tkH 9 ⟨some 69, .fieldAddr 79 (.tmp 1) 1, 0, "plate.go:25", #[⟨6, .guard⟩], some (6, false)⟩ hHeld ?_
   refine tkH 10 ⟨some 70, .load 3 (.tmp 69), 3, "plate.go:25", #[⟨9, .data⟩, ⟨6, .guard⟩], some (6, false)⟩ hHeld ?_
   refine rdH 11 ⟨some 71, .call { callee := .value (.func 77), args := #[.tmp 68, .const (.int .i64 0), .tmp 70], argTypes := #[3, 3, 3] }, 4, "plate.go:25", #[⟨8, .data⟩, ⟨10, .data⟩, ⟨6, .chain⟩, ⟨6, .guard⟩], some (6, false)⟩ fun K hK => ?_
   go_simp
   refine (pin_is _ _ _ _ _ o2).mono ?_
   rintro e' wz' ⟨rfl, rfl⟩
   refine hK.out _ _ (hHeld) (fun hHeld => ?_)
   clear hK K
   (try simp only [Act.put, List.setIfInBounds_toArray, List.set_cons_zero, List.set_cons_succ])
   refine tkH 12 ⟨some 72, .unOp .not 4 (.tmp 71), 4, "plate.go:25", #[⟨11, .data⟩, ⟨6, .guard⟩], some (6, false)⟩ hHeld ?_
   refine tkH 13 ⟨some 73, .pick (.tmp 66) (.const (.bool true)) (.tmp 72), 4, "plate.go:25", #[⟨6, .data⟩, ⟨12, .data⟩], none⟩ hHeld ?_
   refine tkH 14 ⟨some 74, .move (.tmp 73), 4, "plate.go:25", #[⟨13, .data⟩, ⟨11, .chain⟩], none⟩ hHeld ?_
   refine tkH 15 ⟨some 75, .fieldAddr 79 (.tmp 1) 5, 0, "plate.go:25", #[⟨14, .guard⟩], some (14, false)⟩ hHeld ?_
   refine tkH 16 ⟨some 76, .load 75 (.tmp 75), 75, "plate.go:25", #[⟨15, .data⟩, ⟨14, .guard⟩], some (14, false)⟩ hHeld ?_
   refine tkH 17 ⟨some 77, .move (.tmp 3), 3, "plate.go:25", #[⟨14, .guard⟩], some (14, false)⟩ hHeld ?_
   refine tkH 18 ⟨some 78, .slice 75 (.tmp 76) none (some (.tmp 77)) none, 75, "plate.go:25", #[⟨16, .data⟩, ⟨17, .data⟩, ⟨14, .guard⟩], some (14, false)⟩ hHeld ?_
   refine tkH 19 ⟨some 79, .load 72 (.tmp 4), 72, "plate.go:25", #[⟨14, .guard⟩], some (14, false)⟩ hHeld ?_
   refine rdH 20 ⟨some 80, .call { callee := .value (.func 79), args := #[.tmp 78, .tmp 79], argTypes := #[75, 72] }, 4, "plate.go:25", #[⟨18, .data⟩, ⟨19, .data⟩, ⟨14, .chain⟩, ⟨14, .guard⟩], some (14, false)⟩ fun K hK => ?_
   go_simp
   refine (contains_Pt (some ⟨b1, f1, none⟩) j 3 pCsI x y wz ((hA.keep hb5).keep hbz) (by simp [pCsI]; omega) (by decide) ⟨b1, f1, rfl⟩ false o3).mono ?_
   rintro e' wz' ⟨rfl, hb6⟩
   refine hK.out _ _ (hkS _ (fr_call hbz hb6)) (fun hHeld => ?_)
   clear hK K
   (try simp only [Act.put, List.setIfInBounds_toArray, List.set_cons_zero, List.set_cons_succ])
   refine tkH 21 ⟨some 81, .pick (.tmp 74) (.const (.bool true)) (.tmp 80), 4, "plate.go:25", #[⟨14, .data⟩, ⟨20, .data⟩], none⟩ hHeld ?_
   refine wpAnyH_done (by kernel_rfl) ?_ _
   refine NoPanic.normal ?_
   go_wp2_with fail
   go_roundw
   case rel => exact ⟨j + 1, by omega, by go_num, fr_call hb5 (fr_call hbz hb6)⟩
   case measure => simp [intOf]; omega
  ·obtain rfl : j = 3 := by omega
   have hX4 := hX0.keep hbr
   have hcX := fun j => hX4.cell j
   have hlX := hX4.lt
   go_wp2_with fail
   clear hcX hlX
   go_loopw [86] (fun t wr => ∃ j : Nat, j ≤ 2 ∧ t = .int .i64 j ∧ Below w1.heap.size w1 wr) (fun t _ => 2 - (intOf t).toNat)
   case atStart => exact ⟨0, Nat.zero_le _, rfl, hbr⟩
   case round =>
    clear hbr hX4
    obtain ⟨j, hj, rfl, hbr⟩ := hrel
    by_cases hlt : j < 2
    ·obtain ⟨⟨x, y⟩, hx⟩ : ∃ x, pMs[j]? = some x := ⟨pMs[j]'hlt, by simp [pMs, hlt]⟩
     obtain ⟨o1, o2, o4, o3⟩ := pMs_ok j x y hx
     obtain ⟨ad, e, hab, h0, h1⟩ := (hM.keep hbr).nth (i := j) (r := ptC (x, y)) (by simp [hx])
     cases e
     have c0 := h0 _ rfl
     have c1 := h1 0 _ rfl
     have i1 : (j : Int) < 2 := by omega
     have i2 : 0 ≤ (j : Int) := by omega
     have i3 : (j : Int) ≤ 2 := by omega
     have q0 : decide (y ≤ x) = false := decide_eq_false (by omega)
     simp only [add_lit] at c0 c1
     clear h0 h1
     go_upto_region 14 with (refine wpList_store_blk rfl _ _ _ rfl wr.heap.size 151 _ _ rfl rfl (Blk.new wr _ _) rfl (by kernel_rfl) (by simp [Value.oneCell']) ?_; intro w4 hQ hgQ)
     have hb4 : Below wr.heap.size wr w4 := (fr_alloc (fr_refl wr) _).grown hgQ (fr_alloc (fr_refl wr) _).size (by intro k hk; cases hk; exact Nat.le_refl _)
     have hb5 := fr_call hbr hb4
     have hX4 := hX0.keep hb5
     have hkS : ∀ W, Below w4.heap.size w4 W → W.cell? ⟨wr.heap.size, 0, none⟩ = some (.int .i64 x) ∧ W.cell? ⟨wr.heap.size, 1, none⟩ = some (.int .i64 y) ∧ W.cell? ⟨w.heap.size, 0, none⟩ = some (.int .i64 60) ∧ W.cell? ⟨w.heap.size, 1, none⟩ = some (.int .i64 50) ∧ W.cell? ⟨w.heap.size, 2, none⟩ = some (.int .i64 1) ∧ W.cell? ⟨w.heap.size, 3, none⟩ = some (.int .i64 1) ∧ W.cell? ⟨w.heap.size, 4, none⟩ = some (.int .i64 2) ∧ W.cell? ⟨w.heap.size, 5, none⟩ = some (.slice (some ⟨b1, f1, none⟩) 3 3) ∧ W.cell? ⟨w.heap.size, 6, none⟩ = some (.slice (some ⟨b2, f2, none⟩) 4 4) ∧ W.cell? ⟨w.heap.size, 7, none⟩ = some (.slice (some ⟨b3, f3, none⟩) 2 2) := fun W hb => ⟨(hb.cell (p := ⟨wr.heap.size, 0, none⟩) hQ.lt).trans (hQ.cell 0), (hb.cell (p := ⟨wr.heap.size, 1, none⟩) hQ.lt).trans (hQ.cell 1), (hb.cell (p := ⟨w.heap.size, 0, none⟩) hX4.lt).trans (hX4.cell 0), (hb.cell (p := ⟨w.heap.size, 1, none⟩) hX4.lt).trans (hX4.cell 1), (hb.cell (p := ⟨w.heap.size, 2, none⟩) hX4.lt).trans (hX4.cell 2), (hb.cell (p := ⟨w.heap.size, 3, none⟩) hX4.lt).trans (hX4.cell 3), (hb.cell (p := ⟨w.heap.size, 4, none⟩) hX4.lt).trans (hX4.cell 4), (hb.cell (p := ⟨w.heap.size, 5, none⟩) hX4.lt).trans (hX4.cell 5), (hb.cell (p := ⟨w.heap.size, 6, none⟩) hX4.lt).trans (hX4.cell 6), (hb.cell (p := ⟨w.heap.size, 7, none⟩) hX4.lt).trans (hX4.cell 7)⟩
     dsimp only [Act.put]
     have hbz := fr_drew (fr_refl w4)
     clear c0 c1
     refine wp_region_noPanic ?_
     refine wp_region_held_drew (S := fun W => W.cell? ⟨wr.heap.size, 0, none⟩ = some (.int .i64 x) ∧ W.cell? ⟨wr.heap.size, 1, none⟩ = some (.int .i64 y) ∧ W.cell? ⟨w.heap.size, 0, none⟩ = some (.int .i64 60) ∧ W.cell? ⟨w.heap.size, 1, none⟩ = some (.int .i64 50) ∧ W.cell? ⟨w.heap.size, 2, none⟩ = some (.int .i64 1) ∧ W.cell? ⟨w.heap.size, 3, none⟩ = some (.int .i64 1) ∧ W.cell? ⟨w.heap.size, 4, none⟩ = some (.int .i64 2) ∧ W.cell? ⟨w.heap.size, 5, none⟩ = some (.slice (some ⟨b1, f1, none⟩) 3 3) ∧ W.cell? ⟨w.heap.size, 6, none⟩ = some (.slice (some ⟨b2, f2, none⟩) 4 4) ∧ W.cell? ⟨w.heap.size, 7, none⟩ = some (.slice (some ⟨b3, f3, none⟩) 2 2)) (by kernel_rfl) (hkS _ hbz) (fun hHeld => ?_)
     generalize w4.drew = wz at hbz hHeld ⊢
     -- the region, step by step, in whatever order
     refine tkH 0 ⟨some 91, .load 79 (.tmp 1), 79, "plate.go:30", #[], none⟩ hHeld ?_
     refine tkH 1 ⟨some 92, .fieldAddr 151 (.tmp 6) 0, 0, "plate.go:30", #[], none⟩ hHeld ?_
     refine tkH 2 ⟨some 93, .load 3 (.tmp 92), 3, "plate.go:30", #[⟨1, .data⟩], none⟩ hHeld ?_
     refine rdH 3 ⟨some 94, .call { callee := .value (.func 78), args := #[.tmp 91, .tmp 93], argTypes := #[79, 3] }, 4, "plate.go:30", #[⟨0, .data⟩, ⟨2, .data⟩], none⟩ fun K hK => ?_
     go_simp
     refine (isWheel_yes _ _ _ _ _ _ _ _ _ _ 4 _ _ _ x _ o1 (by omega)).mono ?_
     rintro e' wz ⟨rfl, hb1⟩
     replace hbz := fr_call hbz hb1
     refine hK.out _ _ (hkS _ hbz) (fun hHeld => ?_)
     clear hK K
     (try simp only [Act.put, List.setIfInBounds_toArray, List.set_cons_zero, List.set_cons_succ])
     refine tkH 4 ⟨some 95, .unOp .not 4 (.tmp 94), 4, "plate.go:30", #[⟨3, .data⟩], none⟩ hHeld ?_
     refine tkH 5 ⟨some 96, .move (.tmp 95), 4, "plate.go:30", #[⟨4, .data⟩, ⟨3, .chain⟩], none⟩ hHeld ?_
     refine tkH 6 ⟨some 97, .load 79 (.tmp 1), 79, "plate.go:30", #[⟨5, .guard⟩], some (5, false)⟩ hHeld ?_
     refine tkH 7 ⟨some 98, .fieldAddr 151 (.tmp 6) 1, 0, "plate.go:30", #[⟨5, .guard⟩], some (5, false)⟩ hHeld ?_
     refine tkH 8 ⟨some 99, .load 3 (.tmp 98), 3, "plate.go:30", #[⟨7, .data⟩, ⟨5, .guard⟩], some (5, false)⟩ hHeld ?_
     refine rdH 9 ⟨some 100, .call { callee := .value (.func 78), args := #[.tmp 97, .tmp 99], argTypes := #[79, 3] }, 4, "plate.go:30", #[⟨6, .data⟩, ⟨8, .data⟩, ⟨5, .chain⟩, ⟨5, .guard⟩], some (5, false)⟩ fun K hK => ?_
     go_simp
     refine (isWheel_yes _ _ _ _ _ _ _ _ _ _ 4 _ _ _ y _ o2 (by omega)).mono ?_
     rintro e' wz ⟨rfl, hb1⟩
     replace hbz := fr_call hbz hb1
     refine hK.out _ _ (hkS _ hbz) (fun hHeld => ?_)
     clear hK K
     (try simp only [Act.put, List.setIfInBounds_toArray, List.set_cons_zero, List.set_cons_succ])
     refine tkH 10 ⟨some 101, .unOp .not 4 (.tmp 100), 4, "plate.go:30", #[⟨9, .data⟩, ⟨5, .guard⟩], some (5, false)⟩ hHeld ?_
     refine tkH 11 ⟨some 102, .pick (.tmp 96) (.const (.bool true)) (.tmp 101), 4, "plate.go:30", #[⟨5, .data⟩, ⟨10, .data⟩], none⟩ hHeld ?_
     refine tkH 12 ⟨some 103, .move (.tmp 102), 4, "plate.go:30", #[⟨11, .data⟩, ⟨9, .chain⟩], none⟩ hHeld ?_
     refine tkH 13 ⟨some 104, .fieldAddr 151 (.tmp 6) 0, 0, "plate.go:30", #[⟨12, .guard⟩], some (12, false)⟩ hHeld ?_
     refine tkH 14 ⟨some 105, .load 3 (.tmp 104), 3, "plate.go:30", #[⟨13, .data⟩, ⟨12, .guard⟩], some (12, false)⟩ hHeld ?_
     refine tkH 15 ⟨some 106, .fieldAddr 151 (.tmp 6) 1, 0, "plate.go:30", #[⟨12, .guard⟩], some (12, false)⟩ hHeld ?_
     refine tkH 16 ⟨some 107, .load 3 (.tmp 106), 3, "plate.go:30", #[⟨15, .data⟩, ⟨12, .guard⟩], some (12, false)⟩ hHeld ?_
     refine tkH 17 ⟨some 108, .binOp .geq 3 (.tmp 105) (.tmp 107) 3, 4, "plate.go:30", #[⟨14, .data⟩, ⟨16, .data⟩, ⟨12, .guard⟩], some (12, false)⟩ hHeld ?_
     refine tkH 18 ⟨some 109, .pick (.tmp 103) (.const (.bool true)) (.tmp 108), 4, "plate.go:30", #[⟨12, .data⟩, ⟨17, .data⟩], none⟩ hHeld ?_
     refine tkH 19 ⟨some 110, .move (.tmp 109), 4, "plate.go:30", #[⟨18, .data⟩, ⟨12, .chain⟩], none⟩ hHeld ?_
     refine tkH 20 ⟨some 111, .fieldAddr 79 (.tmp 1) 7, 0, "plate.go:30", #[⟨19, .guard⟩], some (19, false)⟩ hHeld ?_
     refine tkH 21 ⟨some 112, .load 77 (.tmp 111), 77, "plate.go:30", #[⟨20, .data⟩, ⟨19, .guard⟩], some (19, false)⟩ hHeld ?_
     refine tkH 22 ⟨some 113, .move (.tmp 5), 3, "plate.go:30", #[⟨19, .guard⟩], some (19, false)⟩ hHeld ?_
     refine tkH 23 ⟨some 114, .slice 77 (.tmp 112) none (some (.tmp 113)) none, 77, "plate.go:30", #[⟨21, .data⟩, ⟨22, .data⟩, ⟨19, .guard⟩], some (19, false)⟩ hHeld ?_
     refine tkH 24 ⟨some 115, .load 151 (.tmp 6), 151, "plate.go:30", #[⟨19, .guard⟩], some (19, false)⟩ hHeld ?_
     refine rdH 25 ⟨some 116, .call { callee := .value (.func 137), args := #[.tmp 114, .tmp 115], argTypes := #[77, 151] }, 4, "plate.go:30", #[⟨23, .data⟩, ⟨24, .data⟩, ⟨19, .chain⟩, ⟨19, .guard⟩], some (19, false)⟩ fun K hK => ?_
     go_simp
     refine (contains_Ms (some ⟨b3, f3, none⟩) j 2 pMs x y wz ((hM.keep hb5).keep hbz) (by simp [pMs]; omega) (by decide) ⟨b3, f3, rfl⟩ false o3).mono ?_
     rintro e' wz' ⟨rfl, hb6⟩
     refine hK.out _ _ (hkS _ (fr_call hbz hb6)) (fun hHeld => ?_)
     clear hK K
     (try simp only [Act.put, List.setIfInBounds_toArray, List.set_cons_zero, List.set_cons_succ])
     refine tkH 26 ⟨some 117, .pick (.tmp 110) (.const (.bool true)) (.tmp 116), 4, "plate.go:30", #[⟨19, .data⟩, ⟨25, .data⟩], none⟩ hHeld ?_
     refine wpAnyH_done (by kernel_rfl) ?_ _
     refine NoPanic.normal ?_
     go_wp2_with fail
     go_roundw
     case rel => exact ⟨_, _, _, _, ⟨j + 1, by omega, rfl, fr_call hb5 (fr_call hbz hb6)⟩, rfl, rfl, rfl, rfl⟩
     case measure => simp [intOf]; omega
    ·obtain rfl : j = 2 := by omega
     have hX4 := hX0.keep hbr
     have hcX := fun j => hX4.cell j
     have hlX := hX4.lt
     go_wp2_with fail
     refine (contains_pwh 60 50 1 1 2 (some ⟨b1, f1, none⟩) (some ⟨b2, f2, none⟩) (some ⟨b3, f3, none⟩) 3 3 4 4 2 2 w.heap.size 4 pWs wr hX4 (hB.keep hbr) rfl (by omega) (by omega) pWs_ok).mono ?_
     rintro e' w5 ⟨rfl, hb6⟩
     go_wp2_with fail
     go_ret
     exact ⟨rfl, fr_call hb0 (fr_call hbr hb6)⟩
end Go.Proofs.YtdocgmafbacjcaaGreatDoor
end

section
namespace Go.Proofs.YtdocgmafbacjcaaGreatDoor
open Go.RowKit Go.Shelf

theorem own_blk1 {w : World} {g : Nat} {e : Int} (h : Blk w g 3 #[.int .i64 e]) : Own w g (.slice (some ⟨g, 0, none⟩) 1 1) [e] :=
 ⟨rfl, Or.inr ⟨g, 1, _, rfl, Nat.le_refl _, h, Nat.le_refl _, by unfold maxLen; omega, rfl, rfl⟩⟩
theorem laid_zero (w : World) : (zeroValue 143).run Tryz.prog w = .ok (.agg #[.int .i64 0, .int .i64 0, .int .i64 0, .int .i64 0, .int .i64 0, .slice none 0 0, .slice none 0 0, .slice none 0 0, .map none, .slice none 0 0]) w := by kernel_rfl
theorem qMs_ok : ∀ i x, qMs[i]? = some x → (qMs.take i).contains x = false := fun i x h => by
 have hj : i < 4 := (List.getElem?_eq_some_iff.1 h).1
 have h3 : i = 0 ∨ i = 1 ∨ i = 2 ∨ i = 3 := by omega
 rcases h3 with rfl | rfl | rfl | rfl <;> (cases h; decide)
theorem free_iff (x y : Nat) : freeN x y = true ↔ ∀ i, i < 5 → wrongN x y i = 0 := by
 unfold freeN
 rw [List.all_eq_true]
 constructor
 ·intro h i hi
  simpa using h i (List.mem_range.2 hi)
 ·intro h i hi
  simpa using h i (List.mem_range.1 hi)
theorem rdS_old {w : World} {A : Option Addr} {k : Nat} {rows : List (List Value)} (h : RdS w A k rows) (hn : 0 < rows.length) : ∀ ad, A = some ad → ad.block < w.heap.size := fun ad e => by
 obtain ⟨ad', e', h', _⟩ := h hn
 rw [e] at e'
 cases e'
 exact h'
/-- the piece with a new wheel, laid -/
def LaidAt (x y : Nat) (g : Nat) (W : World) : Prop := ∃ A B M nc mc kc l, Blk W g 143 #[.int .i64 60, .int .i64 50, .int .i64 1, .int .i64 1, .int .i64 2, .slice A 4 nc, .slice B 5 mc, .slice M 4 kc, .map (some l), .slice none 0 0] ∧ MapM W l qMs ∧ RdS W A 2 ((qCs x y).map PPt.cells) ∧ RdS W B 4 (qWs.map PWh.cells)
set_option maxRecDepth 100000 in
set_option maxHeartbeats 16000000 in
theorem place_P (b1 b2 b3 : Nat) (w : World) (hA : RdS w (some ⟨b1, 0, none⟩) 2 (pCs.map PPt.cells)) (hB : RdS w (some ⟨b2, 0, none⟩) 4 (pWs.map PWh.cells)) (hM : RdS w (some ⟨b3, 0, none⟩) 2 (pMs.map ptC)) :
  Calls Tryz.prog 23 #[.agg #[.int .i64 60, .int .i64 50, .int .i64 1, .int .i64 1, .int .i64 2, .slice (some ⟨b1, 0, none⟩) 3 3, .slice (some ⟨b2, 0, none⟩) 4 4, .slice (some ⟨b3, 0, none⟩) 2 2], .int .i64 5, .int .i64 0, .int .i64 1] w fun e w' => e = .returned (.tuple #[.agg #[.int .i64 28, .int .i64 8], .int .i64 0]) ∧ Below w.heap.size w w' := by
 have hb0 := fr_alloc (fr_alloc (fr_refl w) (.cells #[.int .i64 60, .int .i64 50, .int .i64 1, .int .i64 1, .int .i64 2, .slice (some ⟨b1, 0, none⟩) 3 3, .slice (some ⟨b2, 0, none⟩) 4 4, .slice (some ⟨b3, 0, none⟩) 2 2] 79)) (.cells #[.int .i64 0, .int .i64 0] 72)
 have hX := (Blk.new w 79 #[.int .i64 60, .int .i64 50, .int .i64 1, .int .i64 1, .int .i64 2, .slice (some ⟨b1, 0, none⟩) 3 3, .slice (some ⟨b2, 0, none⟩) 4 4, .slice (some ⟨b3, 0, none⟩) 2 2]).alloc (.cells #[.int .i64 0, .int .i64 0] 72)
 have hR : Blk ((w.alloc (.cells #[.int .i64 60, .int .i64 50, .int .i64 1, .int .i64 1, .int .i64 2, .slice (some ⟨b1, 0, none⟩) 3 3, .slice (some ⟨b2, 0, none⟩) 4 4, .slice (some ⟨b3, 0, none⟩) 2 2] 79)).alloc (.cells #[.int .i64 0, .int .i64 0] 72)) (w.heap.size + 1) 72 #[.int .i64 0, .int .i64 0] := Blk.new_at _ _ (by simp)
 have hold : b2 < w.heap.size ∧ b3 < w.heap.size := by
  obtain ⟨ad, e, h1, _⟩ := hB (by decide)
  obtain ⟨ad', e', h2, _⟩ := hM (by decide)
  cases e
  cases e'
  exact ⟨h1, h2⟩
 obtain ⟨w1, hw1⟩ : ∃ w1, (w.alloc (.cells #[.int .i64 60, .int .i64 50, .int .i64 1, .int .i64 1, .int .i64 2, .slice (some ⟨b1, 0, none⟩) 3 3, .slice (some ⟨b2, 0, none⟩) 4 4, .slice (some ⟨b3, 0, none⟩) 2 2] 79)).alloc (.cells #[.int .i64 0, .int .i64 0] 72) = w1 := ⟨_, rfl⟩
 rw [hw1] at hb0 hX hR
 replace hA := hA.keep hb0
 replace hB := hB.keep hb0
 replace hM := hM.keep hb0
 have hcX := fun j => hX.cell j
 have hlX := hX.lt
 have hlR := hR.lt
 have a1 : inB 5 4 50 = true := by decide
 go_enter Tryz.func23, Tryz.ntmps23
 go_upto_region 1 with (fail)
 (try rw [hw1])
 clear hw1
 go_wp2_with fail
 refine (isPiece_P b1 0 b2 0 b3 0 w1 hA hB hM).mono ?_
 rintro e w2 ⟨rfl, hb2⟩
 have hcX2 := fun j => (hX.keep hb2).cell j
 have hlX2 := (hX.keep hb2).lt
 go_wp2_with fail
 refine (pin_is _ _ _ _ _ a1).mono ?_
 rintro e w' ⟨rfl, rfl⟩
 go_wp2_with fail
 refine (isWheel_yes _ _ _ _ _ _ _ _ _ _ 4 _ _ _ 0 _ (by omega) (by omega)).mono ?_
 rintro e w3 ⟨rfl, hb3⟩
 replace hb3 := fr_call hb2 hb3
 have hcX3 := fun j => (hX.keep hb3).cell j
 have hlX3 := (hX.keep hb3).lt
 go_wp2_with fail
 refine (isWheel_yes _ _ _ _ _ _ _ _ _ _ 4 _ _ _ 1 _ (by omega) (by omega)).mono ?_
 rintro e w4 ⟨rfl, hb4⟩
 replace hb4 := fr_call hb3 hb4
 have hX4 := (hX.keep hb4)
 have hs4 := hb4.size
 have hX5 := hX4.alloc (.cells #[.int .i64 0] 3)
 have hown : Own (w4.alloc (.cells #[.int .i64 0] 3)) w4.heap.size (.slice (some ⟨w4.heap.size, 0, none⟩) 1 1) [0] := own_blk1 (Blk.new _ _ _)
 clear hcX hcX2 hcX3 hlX2 hlX3 hb2 hb3
 have hba : Below w4.heap.size w4 (w4.alloc (.cells #[.int .i64 0] 3)) := fr_alloc (fr_refl _) _
 go_upto_region 5 with (fail)
 generalize w4.alloc (.cells #[.int .i64 0] 3) = wa at *
 go_wp2_with (at_builtin; go_must (refine app_int rfl (.tmp 51) (.tmp 53) rfl w4.heap.size _ [0] rfl rfl hown (by simp) hba.size ?_); intro A1 c1 w5 hown5 hg5; have hX6 := (hX5.alloc (.cells #[.int .i64 1] 3)).grown hg5 (by intro e; have := own_ge hown _ e.symm; omega); have hcX := fun j => hX6.cell j; have hlX6 := hX6.lt)
 have hb5 : Below w4.heap.size w4 w5 := (fr_alloc hba _).grown hg5 (fr_alloc hba _).size (own_ge hown)
 have hbt := fr_call hb4 hb5
 have hO5 : Rd w5 A1 2 [0, 1] := hown5.rd
 have hFO := hown5.fresh
 have HR := Lib.hid (hR.keep hbt)
 replace hA := hA.keep hbt
 replace hB := hB.keep hbt
 replace hM := hM.keep hbt
 have hs1 := hb0.size
 have hs5 := hbt.size
 clear hba hb4 hX4 hX5 hown hown5 hg5 hcX hX hR
 have hO2 : ∀ ad, A1 = some ad → ad.block < w5.heap.size := fun ad e => by
  obtain ⟨ad', e', h, _⟩ := hO5.at_ (k := 0) (by omega)
  rw [e] at e'
  cases e'
  exact h
 have z61 : IntKind.i64.wrap 61 = 61 := rfl
 clear hFO hlX6
 go_loopg [81] 61 (fun gh t wx => ∃ x : Nat, x + gh = 61 ∧ x ≤ 28 ∧ t = .int .i64 x ∧ Below w5.heap.size w5 wx)
 case atStart => exact ⟨0, rfl, by omega, rfl, fr_refl _⟩
 case round =>
  obtain ⟨x, hxg, hx, rfl, hbx⟩ := hrel
  cases gk with
  | zero => omega
  | succ gx =>
   have x1 : (x : Int) < 61 := by omega
   have hXx := hX6.keep hbx
   have hcXx := fun j => hXx.cell j
   have hlXx := hXx.lt
   go_wp2_with fail
   go_step3
   go_wp2_with fail
   go_step3
   go_wp2_with fail
   clear hcXx hlXx hXx
   go_loopg [87] 51 (fun gh t wr => ∃ y : Nat, y + gh = 51 ∧ (x = 28 → y ≤ 8) ∧ t = .int .i64 y ∧ Below w5.heap.size w5 wr)
   case atStart => exact ⟨0, rfl, by omega, rfl, hbx⟩
   case round =>
    clear hbx
    obtain ⟨y, hyg, hy, rfl, hbr⟩ := hrel
    cases gk with
    | zero =>
     obtain rfl : y = 51 := by omega
     have hx28 : x < 28 := by omega
     go_wp2_with fail
     go_roundg gx
     case measure => omega
     case rel => exact ⟨x + 1, by omega, by omega, by go_num, hbr⟩
    | succ gy =>
     have y1 : (y : Int) < 51 := by omega
     have hXr := hX6.keep hbr
     have hcXr := fun j => hXr.cell j
     have hlXr := hXr.lt
     have hb6 := fr_alloc (fr_refl wr) (.cells #[.int .i64 x, .int .i64 y] 72)
     have hA6 : Blk (wr.alloc (.cells #[.int .i64 x, .int .i64 y] 72)) wr.heap.size 72 #[.int .i64 x, .int .i64 y] := Blk.new _ _ _
     obtain ⟨bc, hbc⟩ : ∃ bc, inCs x y = bc := ⟨_, rfl⟩
     have hct := contains_Pt (some ⟨b1, 0, none⟩) 3 3 pCsI x y _ ((hA.keep hbr).keep hb6) (by decide) (by decide) ⟨b1, 0, rfl⟩ bc hbc
     have HC := Lib.hid hbc
     clear hbc
     go_wp2_with fail
     refine hct.mono ?_
     rintro e w7 ⟨rfl, hb7⟩
     clear hct hcXr hlXr
     have hA7 := hA6.keep hb7
     replace hb7 := fr_call hb6 hb7
     have hb8 := fr_call hbr hb7
     have hX7 := hX6.keep hb8
     clear hA6 hb6 hXr
     cases bc
     ·go_upto_region 17 with (fail)
      have hlX7 := hX7.lt
      have hlA7 := hA7.lt
      obtain ⟨ad, e, hl27, _, hc27, _⟩ := pwh_at (hB.keep hb8) (k := 0) (by decide)
      cases e
      replace hc27 : w7.cell? ⟨b2, 2, none⟩ = some (.int .i64 0) := hc27
      have hkS : ∀ W, Below w7.heap.size w7 W → W.cell? ⟨w.heap.size, 0, none⟩ = some (.int .i64 60) ∧ W.cell? ⟨w.heap.size, 1, none⟩ = some (.int .i64 50) ∧ W.cell? ⟨w.heap.size, 2, none⟩ = some (.int .i64 1) ∧ W.cell? ⟨w.heap.size, 3, none⟩ = some (.int .i64 1) ∧ W.cell? ⟨w.heap.size, 4, none⟩ = some (.int .i64 2) ∧ W.cell? ⟨w.heap.size, 5, none⟩ = some (.slice (some ⟨b1, 0, none⟩) 3 3) ∧ W.cell? ⟨w.heap.size, 6, none⟩ = some (.slice (some ⟨b2, 0, none⟩) 4 4) ∧ W.cell? ⟨w.heap.size, 7, none⟩ = some (.slice (some ⟨b3, 0, none⟩) 2 2) ∧ W.cell? ⟨wr.heap.size, 0, none⟩ = some (.int .i64 x) ∧ W.cell? ⟨wr.heap.size, 1, none⟩ = some (.int .i64 y) ∧ W.cell? ⟨b2, 2, none⟩ = some (.int .i64 0) := fun W hb => ⟨(hb.cell (p := ⟨w.heap.size, 0, none⟩) hlX7).trans (hX7.cell 0), (hb.cell (p := ⟨w.heap.size, 1, none⟩) hlX7).trans (hX7.cell 1), (hb.cell (p := ⟨w.heap.size, 2, none⟩) hlX7).trans (hX7.cell 2), (hb.cell (p := ⟨w.heap.size, 3, none⟩) hlX7).trans (hX7.cell 3), (hb.cell (p := ⟨w.heap.size, 4, none⟩) hlX7).trans (hX7.cell 4), (hb.cell (p := ⟨w.heap.size, 5, none⟩) hlX7).trans (hX7.cell 5), (hb.cell (p := ⟨w.heap.size, 6, none⟩) hlX7).trans (hX7.cell 6), (hb.cell (p := ⟨w.heap.size, 7, none⟩) hlX7).trans (hX7.cell 7), (hb.cell (p := ⟨wr.heap.size, 0, none⟩) hlA7).trans (hA7.cell 0), (hb.cell (p := ⟨wr.heap.size, 1, none⟩) hlA7).trans (hA7.cell 1), (hb.cell (p := ⟨b2, 2, none⟩) hl27).trans hc27⟩
      go_cut [15, 87] from 87 to 121 (fun s15 s87 wc => s87 = .int .i64 y ∧ ∃ g, s15 = .pointer (some ⟨g, 0, none⟩) ∧ LaidAt x y g wc ∧ Blk wc wr.heap.size 72 #[.int .i64 x, .int .i64 y] ∧ Below w5.heap.size w5 wc)
      case first =>
       have hbz := fr_drew (fr_refl w7)
       refine wp_region_noPanic ?_
       refine wp_region_held_drew (S := fun W => W.cell? ⟨w.heap.size, 0, none⟩ = some (.int .i64 60) ∧ W.cell? ⟨w.heap.size, 1, none⟩ = some (.int .i64 50) ∧ W.cell? ⟨w.heap.size, 2, none⟩ = some (.int .i64 1) ∧ W.cell? ⟨w.heap.size, 3, none⟩ = some (.int .i64 1) ∧ W.cell? ⟨w.heap.size, 4, none⟩ = some (.int .i64 2) ∧ W.cell? ⟨w.heap.size, 5, none⟩ = some (.slice (some ⟨b1, 0, none⟩) 3 3) ∧ W.cell? ⟨w.heap.size, 6, none⟩ = some (.slice (some ⟨b2, 0, none⟩) 4 4) ∧ W.cell? ⟨w.heap.size, 7, none⟩ = some (.slice (some ⟨b3, 0, none⟩) 2 2) ∧ W.cell? ⟨wr.heap.size, 0, none⟩ = some (.int .i64 x) ∧ W.cell? ⟨wr.heap.size, 1, none⟩ = some (.int .i64 y) ∧ W.cell? ⟨b2, 2, none⟩ = some (.int .i64 0)) (by kernel_rfl) (hkS _ hbz) (fun hHeld => ?_)
       generalize w7.drew = wz at hbz hHeld ⊢
       -- the region, step by step, in whatever order
       refine tkH 0 ⟨some 97, .load 79 (.tmp 4), 79, "turn.go:132", #[], none⟩ hHeld ?_
       refine tkH 1 ⟨some 98, .load 72 (.tmp 14), 72, "turn.go:132", #[], none⟩ hHeld ?_
       refine tkH 2 ⟨some 99, .fieldAddr 79 (.tmp 4) 6, 0, "turn.go:132", #[], none⟩ hHeld ?_
       refine tkH 3 ⟨some 100, .load 76 (.tmp 99), 76, "turn.go:132", #[⟨2, .data⟩], none⟩ hHeld ?_
       refine tkH 4 ⟨some 101, .move (.tmp 2), 3, "turn.go:132", #[], none⟩ hHeld ?_
       refine tkH 5 ⟨some 102, .indexAddr 76 (.tmp 100) (.tmp 101), 0, "turn.go:132", #[⟨3, .data⟩, ⟨4, .data⟩], none⟩ hHeld ?_
       refine tkH 6 ⟨some 103, .fieldAddr 147 (.tmp 102) 2, 0, "turn.go:132", #[⟨5, .data⟩], none⟩ hHeld ?_
       refine tkH 7 ⟨some 104, .load 3 (.tmp 103), 3, "turn.go:132", #[⟨6, .data⟩], none⟩ hHeld ?_
       refine tkH 8 ⟨some 105, .move (.tmp 1), 3, "turn.go:132", #[], none⟩ hHeld ?_
       refine tkH 9 ⟨some 106, .move (.tmp 10), 23, "turn.go:132", #[], none⟩ hHeld ?_
       refine wpAnyH_ready (rs := [10, 12]) (by kernel_rfl) (by simp) ?_
       refine (AllReadyH.cons (o := ⟨some 107, .call { callee := .value (.func 81), args := #[.tmp 97, .tmp 98, .tmp 104, .tmp 105, .tmp 106], argTypes := #[79, 72, 3, 3, 23] }, 79, "turn.go:132", #[⟨0, .data⟩, ⟨1, .data⟩, ⟨7, .data⟩, ⟨8, .data⟩, ⟨9, .data⟩], none⟩) rfl (fun K hK => ?_) (AllReadyH.cons (o := ⟨some 15, .alloc 143, 0, "turn.go:132", #[], none⟩) rfl (fun K hK => ?_) AllReadyH.nil))
       ·rw [if_pos (by rfl)]
        go_simp
        refine (with_is 60 50 1 1 2 b1 0 b2 0 b3 0 3 3 4 4 2 2 x y 0 5 A1 2 c1 pCs pWs pMs [0, 1] wz ((hA.keep hb8).keep hbz) rfl ((hB.keep hb8).keep hbz) rfl ((hM.keep hb8).keep hbz) rfl ((hO5.keep hb8).keep hbz) (by omega) (by have := hb8.size; have := hbz.size; omega) (fun ad e => by have := hO2 ad e; have := hb8.size; have := hbz.size; omega)).mono ?_
        rintro e' wz ⟨A, B, M, nc, mc, kc, rfl, hrA, hrB, hrM, ⟨hFA, hFB⟩, hb1⟩
        (try have hnA : ∀ ad, A = some ad → ad.block ≠ g := fun ad e => by have := hFA ad e; have := hG.lt; omega)
        (try have hnB : ∀ ad, B = some ad → ad.block ≠ g := fun ad e => by have := hFB ad e; have := hG.lt; omega)
        replace hbz := fr_call hbz hb1
        (try replace hG := hG.keep hb1)
        refine hK.out _ _ (hkS _ hbz) (fun hHeld => ?_)
        clear hK K
        (try simp only [Act.put, List.setIfInBounds_toArray, List.set_cons_zero, List.set_cons_succ])
        refine wpAnyH_ready (rs := [11, 12]) (by kernel_rfl) (by simp) ?_
        refine (AllReadyH.cons (o := ⟨some 108, .call { callee := .value (.func 80), args := #[.tmp 107, .const (.slice none 0 0)], argTypes := #[79, 23] }, 143, "turn.go:132", #[⟨10, .data⟩, ⟨10, .chain⟩], none⟩) rfl (fun K hK => ?_) (AllReadyH.cons (o := ⟨some 15, .alloc 143, 0, "turn.go:132", #[], none⟩) rfl (fun K hK => ?_) AllReadyH.nil))
        ·rw [if_pos (by rfl)]
         go_simp
         refine (lay_is 60 50 1 1 2 A B M 4 nc 5 mc 4 kc qMs wz hrM rfl (by omega) qMs_ok).mono ?_
         rintro e' wz ⟨l, rfl, hMl, hb1⟩
         replace hrA := hrA.keep hb1
         replace hrB := hrB.keep hb1
         replace hbz := fr_call hbz hb1
         (try replace hG := hG.keep hb1)
         refine hK.out _ _ (hkS _ hbz) (fun hHeld => ?_)
         clear hK K
         (try simp only [Act.put, List.setIfInBounds_toArray, List.set_cons_zero, List.set_cons_succ])
         refine rdH 12 ⟨some 15, .alloc 143, 0, "turn.go:132", #[], none⟩ fun K hK => ?_
         refine wp_alloc_new 143 rfl _ (laid_zero _) ?_
         intro g wz hgz hG hb1 _
         have hgo : w7.heap.size ≤ g := by have := hbz.size; omega
         (try have hnA : ∀ ad, A = some ad → ad.block ≠ g := fun ad e => by have := rdS_old hrA (by simp) ad e; omega)
         (try have hnB : ∀ ad, B = some ad → ad.block ≠ g := fun ad e => by have := rdS_old hrB (by simp) ad e; omega)
         (try replace hrA := hrA.keep hb1)
         (try replace hrB := hrB.keep hb1)
         (try replace hrM := hrM.keep hb1)
         (try replace hMl := hMl.keep hb1)
         replace hbz := fr_call hbz hb1
         refine hK.out _ _ (hkS _ hbz) (fun hHeld => ?_)
         clear hK K
         (try simp only [Act.put, List.setIfInBounds_toArray, List.set_cons_zero, List.set_cons_succ])
         refine rdH 13 ⟨none, .store 143 (.tmp 15) (.tmp 108), 0, "turn.go:132", #[⟨12, .data⟩, ⟨11, .data⟩, ⟨11, .chain⟩, ⟨0, .phase⟩, ⟨1, .phase⟩, ⟨2, .phase⟩, ⟨3, .phase⟩, ⟨4, .phase⟩, ⟨5, .phase⟩, ⟨6, .phase⟩, ⟨7, .phase⟩, ⟨8, .phase⟩, ⟨9, .phase⟩, ⟨10, .phase⟩, ⟨11, .phase⟩, ⟨12, .phase⟩], none⟩ fun K hK => ?_
         refine wp_store_blk _ _ _ rfl g 143 _ _ rfl rfl hG rfl (by kernel_rfl) (by simp [Value.oneCell']) ?_
         intro wz hL hgr
         replace hbz := hbz.grown hgr hbz.size (by intro i hi; cases hi; exact hgo)
         have hMg : l ≠ g := fun e => by
          unfold MapM at hMl
          unfold Blk at hG
          rw [e, hG] at hMl
          cases hMl
         have hM2 : MapM wz l qMs := (hgr.block l hMl.lt (fun e => hMg (Option.some.inj e))).trans hMl
         refine hK.out _ _ (hkS _ hbz) (fun hHeld => ?_)
         clear hK K
         refine wpAnyH_done (by kernel_rfl) ?_ _
         refine NoPanic.normal ?_
         have HH := Lib.hid (show LaidAt x y g wz from ⟨A, B, M, nc, mc, kc, l, hL, hM2, hrA.far hgr hnA, hrB.far hgr hnB⟩)
         clear hHeld hrA hrB
         go_wp2_with fail
         go_meet
         case rel => exact ⟨rfl, g, rfl, HH.out, hA7.keep hbz, fr_call hb8 hbz⟩
        ·rw [if_pos (by rfl)]
         refine wp_alloc_new 143 rfl _ (laid_zero _) ?_
         intro g wz hgz hG hb1 _
         have hgo : w7.heap.size ≤ g := by have := hbz.size; omega
         (try have hnA : ∀ ad, A = some ad → ad.block ≠ g := fun ad e => by have := rdS_old hrA (by simp) ad e; omega)
         (try have hnB : ∀ ad, B = some ad → ad.block ≠ g := fun ad e => by have := rdS_old hrB (by simp) ad e; omega)
         (try replace hrA := hrA.keep hb1)
         (try replace hrB := hrB.keep hb1)
         (try replace hrM := hrM.keep hb1)
         (try replace hMl := hMl.keep hb1)
         replace hbz := fr_call hbz hb1
         refine hK.out _ _ (hkS _ hbz) (fun hHeld => ?_)
         clear hK K
         (try simp only [Act.put, List.setIfInBounds_toArray, List.set_cons_zero, List.set_cons_succ])
         refine rdH 11 ⟨some 108, .call { callee := .value (.func 80), args := #[.tmp 107, .const (.slice none 0 0)], argTypes := #[79, 23] }, 143, "turn.go:132", #[⟨10, .data⟩, ⟨10, .chain⟩], none⟩ fun K hK => ?_
         go_simp
         refine (lay_is 60 50 1 1 2 A B M 4 nc 5 mc 4 kc qMs wz hrM rfl (by omega) qMs_ok).mono ?_
         rintro e' wz ⟨l, rfl, hMl, hb1⟩
         replace hrA := hrA.keep hb1
         replace hrB := hrB.keep hb1
         replace hbz := fr_call hbz hb1
         (try replace hG := hG.keep hb1)
         refine hK.out _ _ (hkS _ hbz) (fun hHeld => ?_)
         clear hK K
         (try simp only [Act.put, List.setIfInBounds_toArray, List.set_cons_zero, List.set_cons_succ])
         refine rdH 13 ⟨none, .store 143 (.tmp 15) (.tmp 108), 0, "turn.go:132", #[⟨12, .data⟩, ⟨11, .data⟩, ⟨11, .chain⟩, ⟨0, .phase⟩, ⟨1, .phase⟩, ⟨2, .phase⟩, ⟨3, .phase⟩, ⟨4, .phase⟩, ⟨5, .phase⟩, ⟨6, .phase⟩, ⟨7, .phase⟩, ⟨8, .phase⟩, ⟨9, .phase⟩, ⟨10, .phase⟩, ⟨11, .phase⟩, ⟨12, .phase⟩], none⟩ fun K hK => ?_
         refine wp_store_blk _ _ _ rfl g 143 _ _ rfl rfl hG rfl (by kernel_rfl) (by simp [Value.oneCell']) ?_
         intro wz hL hgr
         replace hbz := hbz.grown hgr hbz.size (by intro i hi; cases hi; exact hgo)
         have hMg : l ≠ g := fun e => by
          unfold MapM at hMl
          unfold Blk at hG
          rw [e, hG] at hMl
          cases hMl
         have hM2 : MapM wz l qMs := (hgr.block l hMl.lt (fun e => hMg (Option.some.inj e))).trans hMl
         refine hK.out _ _ (hkS _ hbz) (fun hHeld => ?_)
         clear hK K
         refine wpAnyH_done (by kernel_rfl) ?_ _
         refine NoPanic.normal ?_
         have HH := Lib.hid (show LaidAt x y g wz from ⟨A, B, M, nc, mc, kc, l, hL, hM2, hrA.far hgr hnA, hrB.far hgr hnB⟩)
         clear hHeld hrA hrB
         go_wp2_with fail
         go_meet
         case rel => exact ⟨rfl, g, rfl, HH.out, hA7.keep hbz, fr_call hb8 hbz⟩
       ·rw [if_pos (by rfl)]
        refine wp_alloc_new 143 rfl _ (laid_zero _) ?_
        intro g wz hgz hG hb1 _
        have hgo : w7.heap.size ≤ g := by have := hbz.size; omega
        (try have hnA : ∀ ad, A = some ad → ad.block ≠ g := fun ad e => by have := rdS_old hrA (by simp) ad e; omega)
        (try have hnB : ∀ ad, B = some ad → ad.block ≠ g := fun ad e => by have := rdS_old hrB (by simp) ad e; omega)
        (try replace hrA := hrA.keep hb1)
        (try replace hrB := hrB.keep hb1)
        (try replace hrM := hrM.keep hb1)
        (try replace hMl := hMl.keep hb1)
        replace hbz := fr_call hbz hb1
        refine hK.out _ _ (hkS _ hbz) (fun hHeld => ?_)
        clear hK K
        (try simp only [Act.put, List.setIfInBounds_toArray, List.set_cons_zero, List.set_cons_succ])
        refine rdH 10 ⟨some 107, .call { callee := .value (.func 81), args := #[.tmp 97, .tmp 98, .tmp 104, .tmp 105, .tmp 106], argTypes := #[79, 72, 3, 3, 23] }, 79, "turn.go:132", #[⟨0, .data⟩, ⟨1, .data⟩, ⟨7, .data⟩, ⟨8, .data⟩, ⟨9, .data⟩], none⟩ fun K hK => ?_
        go_simp
        refine (with_is 60 50 1 1 2 b1 0 b2 0 b3 0 3 3 4 4 2 2 x y 0 5 A1 2 c1 pCs pWs pMs [0, 1] wz ((hA.keep hb8).keep hbz) rfl ((hB.keep hb8).keep hbz) rfl ((hM.keep hb8).keep hbz) rfl ((hO5.keep hb8).keep hbz) (by omega) (by have := hb8.size; have := hbz.size; omega) (fun ad e => by have := hO2 ad e; have := hb8.size; have := hbz.size; omega)).mono ?_
        rintro e' wz ⟨A, B, M, nc, mc, kc, rfl, hrA, hrB, hrM, ⟨hFA, hFB⟩, hb1⟩
        (try have hnA : ∀ ad, A = some ad → ad.block ≠ g := fun ad e => by have := hFA ad e; have := hG.lt; omega)
        (try have hnB : ∀ ad, B = some ad → ad.block ≠ g := fun ad e => by have := hFB ad e; have := hG.lt; omega)
        replace hbz := fr_call hbz hb1
        (try replace hG := hG.keep hb1)
        refine hK.out _ _ (hkS _ hbz) (fun hHeld => ?_)
        clear hK K
        (try simp only [Act.put, List.setIfInBounds_toArray, List.set_cons_zero, List.set_cons_succ])
        refine rdH 11 ⟨some 108, .call { callee := .value (.func 80), args := #[.tmp 107, .const (.slice none 0 0)], argTypes := #[79, 23] }, 143, "turn.go:132", #[⟨10, .data⟩, ⟨10, .chain⟩], none⟩ fun K hK => ?_
        go_simp
        refine (lay_is 60 50 1 1 2 A B M 4 nc 5 mc 4 kc qMs wz hrM rfl (by omega) qMs_ok).mono ?_
        rintro e' wz ⟨l, rfl, hMl, hb1⟩
        replace hrA := hrA.keep hb1
        replace hrB := hrB.keep hb1
        replace hbz := fr_call hbz hb1
        (try replace hG := hG.keep hb1)
        refine hK.out _ _ (hkS _ hbz) (fun hHeld => ?_)
        clear hK K
        (try simp only [Act.put, List.setIfInBounds_toArray, List.set_cons_zero, List.set_cons_succ])
        refine rdH 13 ⟨none, .store 143 (.tmp 15) (.tmp 108), 0, "turn.go:132", #[⟨12, .data⟩, ⟨11, .data⟩, ⟨11, .chain⟩, ⟨0, .phase⟩, ⟨1, .phase⟩, ⟨2, .phase⟩, ⟨3, .phase⟩, ⟨4, .phase⟩, ⟨5, .phase⟩, ⟨6, .phase⟩, ⟨7, .phase⟩, ⟨8, .phase⟩, ⟨9, .phase⟩, ⟨10, .phase⟩, ⟨11, .phase⟩, ⟨12, .phase⟩], none⟩ fun K hK => ?_
        refine wp_store_blk _ _ _ rfl g 143 _ _ rfl rfl hG rfl (by kernel_rfl) (by simp [Value.oneCell']) ?_
        intro wz hL hgr
        replace hbz := hbz.grown hgr hbz.size (by intro i hi; cases hi; exact hgo)
        have hMg : l ≠ g := fun e => by
         unfold MapM at hMl
         unfold Blk at hG
         rw [e, hG] at hMl
         cases hMl
        have hM2 : MapM wz l qMs := (hgr.block l hMl.lt (fun e => hMg (Option.some.inj e))).trans hMl
        refine hK.out _ _ (hkS _ hbz) (fun hHeld => ?_)
        clear hK K
        refine wpAnyH_done (by kernel_rfl) ?_ _
        refine NoPanic.normal ?_
        have HH := Lib.hid (show LaidAt x y g wz from ⟨A, B, M, nc, mc, kc, l, hL, hM2, hrA.far hgr hnA, hrB.far hgr hnB⟩)
        clear hHeld hrA hrB
        go_wp2_with fail
        go_meet
        case rel => exact ⟨rfl, g, rfl, HH.out, hA7.keep hbz, fr_call hb8 hbz⟩
      case rest =>
       obtain ⟨rfl, g, rfl, ⟨A, B, M, nc, mc, kc, l, hL, hMl, hrA, hrB⟩, hAt, hb9⟩ := hcut
       obtain ⟨w8, hw8⟩ : ∃ w8, w8 = wc := ⟨_, rfl⟩
       subst hw8
       clear hkS hl27 hc27 hX7 hA7 hb7 hb8
       go_wp2_with fail
       go_loopg [111] 5 (fun gh t w9 => ∃ i : Nat, i + gh = 5 ∧ t = .int .i64 i ∧ Hid (∀ z, z < i → wrongN x y z = 0) ∧ Below w8.heap.size w8 w9)
       case atStart => exact ⟨0, rfl, rfl, Lib.hid (fun z h => absurd h (by omega)), fr_refl _⟩
       case round =>
        obtain ⟨i, hig, rfl, hall, hb10⟩ := hrel
        cases gk with
        | zero =>
         obtain rfl : i = 5 := by omega
         have hxy : x = 28 ∧ y = 8 := by
          by_cases h : x = 28 ∧ 8 ≤ y
          ·omega
          ·have h1 := blocked_at hx (by omega) h HC.out
           rw [(free_iff x y).2 hall.out] at h1
           cases h1
         obtain ⟨rfl, rfl⟩ := hxy
         have hAe := hAt.keep hb10
         have hcA := fun j => hAe.cell j
         have hlA := hAe.lt
         have hRe := HR.out.keep (fr_call hb9 hb10)
         have hbe := fr_call hb0 (fr_call hbt (fr_call hb9 hb10))
         clear hrA hrB hMl hL hall HC
         go_wp2_with (refine wpList_store_blk rfl _ _ _ rfl (w.heap.size + 1) 72 _ _ rfl rfl hRe rfl (by kernel_rfl) (by simp [Value.oneCell']) ?_; intro w11 hQ hgQ)
         refine bodyPost_ret (results_blk_tmp rfl _ _ _ _ rfl hQ Tryz.underlying72 rfl (by kernel_rfl)) rfl ?_
         exact ⟨rfl, hbe.grown hgQ hbe.size (by intro k hk; cases hk; exact Nat.le_succ _)⟩
        | succ gn =>
         have i1 : (i : Int) < 5 := by omega
         have hw := wrong_at A B M nc mc kc l (.slice none 0 0) x y i (by omega) (by omega) (by omega) wr (hMl.keep hb10) (hrA.keep hb10) (hrB.keep hb10)
         have hL9 := hL.keep hb10
         have hcL := fun j => hL9.cell j
         have hlL := hL9.lt
         have hv28 : x = 28 ∧ y = 8 → wrongN x y i = 0 := fun h => by
          obtain ⟨rfl, rfl⟩ := h
          exact (free_iff 28 8).1 free_at.1 i (by omega)
         have HALL := Lib.hid (show wrongN x y i = 0 → ∀ z, z < i + 1 → wrongN x y z = 0 from fun h z hz => by
          by_cases e : z = i
          ·rw [e]; exact h
          ·exact hall.out z (by omega))
         generalize wrongN x y i = v at hw hv28 HALL
         clear hrA hrB hMl hL hall
         by_cases hv0 : v = 0
         ·have d0 : (v != 0) = false := by rw [hv0]; rfl
          have HN := Lib.hid (HALL.out hv0)
          clear hv28 hv0 HALL
          go_wp2_with fail
          refine hw.mono ?_
          rintro e wn ⟨rfl, hbn⟩
          go_wp2_with fail
          go_roundg gn
          case measure => omega
          case rel => exact ⟨i + 1, by omega, by go_num, HN, fr_call hb10 hbn⟩
         ·have d0 : (v != 0) = true := bne_iff_ne.2 hv0
          have hne : ¬ (x = 28 ∧ y = 8) := fun h => hv0 (hv28 h)
          clear hv28 hv0 HALL
          go_wp2_with fail
          refine hw.mono ?_
          rintro e wn ⟨rfl, hbn⟩
          go_wp2_with fail
          go_roundg gy
          case measure => omega
          case rel => exact ⟨y + 1, by omega, by omega, by go_num, fr_call hb9 (fr_call hb10 hbn)⟩
     ·have hne : ¬ (x = 28 ∧ y = 8) := by
       rintro ⟨rfl, rfl⟩
       rw [free_at.2] at HC
       have := HC.out
       cases this
      clear HC
      go_wp2_with fail
      go_roundg gy
      case measure => omega
      case rel => exact ⟨y + 1, by omega, by omega, by go_num, hb8⟩
end Go.Proofs.YtdocgmafbacjcaaGreatDoor
end

section
namespace Go.Proofs.YtdocgmafbacjcaaGreatDoor
open Go.RowKit

/-- a row of numbers of one's own, whole -/
def Hts (W : World) (g m : Nat) (E : Nat → Int) : Prop := ∃ cs, Blk W g 3 cs ∧ ∀ j, j < m → cs[j]? = some (.int .i64 (E j))
theorem Hts.keep {W W' : World} {g m : Nat} {E : Nat → Int} (h : Hts W g m E) (hb : Below W.heap.size W W') : Hts W' g m E := let ⟨cs, h1, h2⟩ := h; ⟨cs, h1.keep hb, h2⟩
theorem Hts.lt {W : World} {g m : Nat} {E : Nat → Int} (h : Hts W g m E) : g < W.heap.size := let ⟨_, h1, _⟩ := h; h1.lt
theorem Hts.cell {W : World} {g m : Nat} {E : Nat → Int} (h : Hts W g m E) {j : Nat} (hj : j < m) : W.cell? ⟨g, j, none⟩ = some (.int .i64 (E j)) := by
 obtain ⟨cs, h1, h2⟩ := h
 rw [h1.cell, h2 j hj]
theorem Hts.frozen {W : World} {g m : Nat} {E : Nat → Int} (h : Hts W g m E) (j : Nat) : W.frozen? ⟨g, j, none⟩ = false := let ⟨_, h1, _⟩ := h; h1.frozen j
theorem Hts.set {W : World} {g m : Nat} {E : Nat → Int} (h : Hts W g m E) {i : Nat} (hi : i < m) (a : Int) : Hts (W.setCell ⟨g, i, none⟩ (.int .i64 a)) g m (fun j => if j = i then a else E j) := by
 obtain ⟨cs, h1, h2⟩ := h
 refine ⟨_, h1.set_ i (.int .i64 a), fun j hj => ?_⟩
 have hs : i < cs.size := by
  have := h2 i hi
  exact (Array.getElem?_eq_some_iff.1 this).1
 show _ = some (Value.int .i64 (if j = i then a else E j))
 by_cases e : j = i
 ·subst e
  simp [hs]
 ·rw [if_neg e, ← h2 j hj]
  simp [Ne.symm e]
theorem Hts.congr {W : World} {g m : Nat} {E F : Nat → Int} (h : Hts W g m E) (he : ∀ j, j < m → E j = F j) : Hts W g m F := let ⟨cs, h1, h2⟩ := h; ⟨cs, h1, fun j hj => by rw [h2 j hj, he j hj]⟩
theorem Hts.made {W : World} {base m c : Nat} {g : Nat} (h : W.ownsRow base 3 1 (.slice (some ⟨g, 0, none⟩) m c) m (List.replicate m (.int .i64 0))) : Hts W g m (fun _ => 0) := by
 rcases h.2 with ⟨h0, _⟩ | ⟨g', cap, cur, hv, _, hB, _, _, _, ht⟩
 ·cases h0
 ·injection hv with hA _ _
  cases hA
  refine ⟨cur, hB, fun j hj => ?_⟩
  have h1 : (cur.toList.take (m * 1))[j]? = some (.int .i64 0) := by rw [ht, List.getElem?_replicate, if_pos hj]
  rw [List.getElem?_take, if_pos (by omega)] at h1
  simpa using h1
theorem Hts.rd {W : World} {g m : Nat} {E : Nat → Int} (h : Hts W g m E) (l : List Int) (hl : l.length = m) (he : ∀ j, j < m → l[j]?.getD 0 = E j) : Rd W (some ⟨g, 0, none⟩) m l :=
 ⟨hl, fun _ => ⟨_, rfl, h.lt, fun j hj => by rw [add_lit, Nat.zero_add, h.cell hj, he j hj]⟩⟩
/-- what is asked of the helper -/
def Known11 (w : World) : Prop := ∀ W, Below w.heap.size w W → Calls Tryz.prog 6 #[] W fun e w' => e = .returned (.bool true) ∧ Below W.heap.size W w'
end Go.Proofs.YtdocgmafbacjcaaGreatDoor
end
