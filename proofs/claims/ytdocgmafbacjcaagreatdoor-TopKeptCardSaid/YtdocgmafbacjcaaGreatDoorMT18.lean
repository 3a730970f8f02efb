/- Walks, package journeyman: Ask's small words: a day, the first working day, how a wheel is cut, what hands turn by. Walk, package journeyman: how a wheel is cut, as an answer. Walk, package journeyman: what all hands turn by, as an answer. Walks, package journeyman: what stands is brought to a question (by gen_yj.py). -/
import Derived.Test.YtdocgmafbacjcaaGreatDoorMT17
section
namespace Go.Proofs.YtdocgmafbacjcaaGreatDoor
open Go.RowKit Go.Shelf Dl

theorem jin_yes (x lo hi : Int) (w : World) (h : lo ≤ x ∧ x ≤ hi) : Calls Tryz.prog 52 #[.int .i64 x, .int .i64 lo, .int .i64 hi] w fun e w' => e = .returned (.bool true) ∧ w = w' :=
 jin_is x lo hi w true (inB_yes h)
set_option maxHeartbeats 2000000 in
theorem isDay_yes (g gs m dc : Nat) (D : Option Addr) (ev sv : Value) (x : Int) (w : World) (hX : Blk w g 93 #[.pointer (some ⟨gs, 0, none⟩), .slice D m dc, ev, sv]) (hx : 1 ≤ x ∧ x ≤ (m : Int)) :
  Calls Tryz.prog 131 #[.pointer (some ⟨g, 0, none⟩), .int .i64 x] w fun e w' => e = .returned (.bool true) ∧ w = w' := by
 have hcX := fun j => hX.cell j
 go_enter Tryz.func131, Tryz.ntmps131
 go_wp2_with fail
 refine (jin_yes _ _ _ _ hx).mono ?_
 rintro e w' ⟨rfl, rfl⟩
 go_wp2_with fail
 go_ret
 exact ⟨rfl, rfl⟩
set_option maxHeartbeats 2000000 in
theorem isOpen_yes (g gs : Nat) (dv ev sv : Value) (w : World) (hX : Blk w g 93 #[.pointer (some ⟨gs, 0, none⟩), dv, ev, sv]) :
  Calls Tryz.prog 31 #[.pointer (some ⟨g, 0, none⟩)] w fun e w' => e = .returned (.bool true) ∧ w = w' := by
 have hcX := fun j => hX.cell j
 go_enter Tryz.func31, Tryz.ntmps31
 go_wp2_with fail
 go_ret
 exact ⟨rfl, rfl⟩
theorem year_row (fs : List Int) (f : Int) (m k : Nat) (h : k < m) : (yearR fs f m)[k]? = some (dayR fs (f + (k : Int))) := by simp [yearR, h]
section
variable {s q g m dc : Nat} {D : Option Addr} {fs : List Int} {f : Int} {w : World} {dp : Value}
/-- what works needs -/
structure WkAt (W : World) (s q m dc : Nat) (D : Option Addr) (fs : List Int) (f : Int) (dp : Value) : Prop where
 q : Blk W q 125 #[.pointer (some ⟨s, 0, none⟩), dp]
 s : W.cell? ⟨s, 17, none⟩ = some (.slice D m dc)
 d : RdS W D 2 (yearR fs f m)
set_option maxHeartbeats 2000000 in
theorem works1_is (x : Nat) (h : WkAt w s q m dc D fs f dp) (h1 : 1 ≤ x) (h2 : x ≤ m) (hm : m ≤ 1000) :
  Calls Tryz.prog 135 #[.int .i64 x, .pointer (some ⟨q, 0, none⟩)] w fun e w' => e = .returned (.bool (workB fs (f + ((x - 1 : Nat) : Int)))) ∧ w = w' := by
 have hcQ := fun j => h.q.cell j
 have hS := h.s
 obtain ⟨k, rfl⟩ : ∃ k, x = k + 1 := ⟨x - 1, by omega⟩
 obtain ⟨ad, e, hab, _, hc⟩ := h.d.nth (year_row fs f m k (by omega))
 have hc1 := hc 0 _ rfl
 subst e
 have i1 : IntKind.i64.wrap (((k + 1 : Nat) : Int) - 1) = (k : Int) := by rw [IntWalk.i64_in _ (by omega)]; omega
 have i2 : (k : Int) < (m : Int) := by omega
 have i3 : (0 : Int) ≤ (k : Int) := Int.natCast_nonneg k
 rw [show k + 1 - 1 = k by omega]
 clear hc h
 go_enter Tryz.func135, Tryz.ntmps135
 go_wp2_with fail
 go_ret
 exact ⟨rfl, rfl⟩
set_option maxHeartbeats 4000000 in
theorem first_hit (x y : Nat) (h : WkAt w s q m dc D fs f dp) (h1 : 1 ≤ x) (hxy : x ≤ y) (h2 : y ≤ m) (hm : m ≤ 1000) (hno : ∀ j, x ≤ j → j < y → workB fs (f + ((j - 1 : Nat) : Int)) = false) (hy : workB fs (f + ((y - 1 : Nat) : Int)) = true) :
  Calls Tryz.prog 134 #[.int .i64 x, .int .i64 m, .func (.func 135) #[] #[.pointer (some ⟨q, 0, none⟩)]] w fun e w' => e = .returned (.tuple #[.int .i64 y, .bool true]) ∧ w = w' := by
 go_enter Tryz.func134, Tryz.ntmps134
 go_wp2_with fail
 go_loopw [8] (fun u wr => ∃ j : Nat, x ≤ j ∧ j ≤ y ∧ u = .int .i64 j ∧ wr = w) (fun u _ => y + 1 - (intOf u).toNat)
 case atStart => exact ⟨x, Nat.le_refl _, hxy, rfl, rfl⟩
 case round =>
  obtain ⟨j, hj1, hj2, rfl, rfl⟩ := hrel
  have i1 : (j : Int) ≤ (m : Int) := by omega
  have hw := works1_is j h (by omega) (by omega) hm
  by_cases hlt : j < y
  ·rw [hno j hj1 hlt] at hw
   have i2 : IntKind.i64.wrap ((j : Int) + 1) = ((j + 1 : Nat) : Int) := by rw [IntWalk.i64_in _ (by omega)]; omega
   clear h hno hy
   go_wp2_with fail
   refine hw.mono ?_
   rintro e w1 ⟨rfl, rfl⟩
   go_wp2_with fail
   refine ⟨⟨j + 1, by omega, by omega, by go_num, trivial⟩, ?_⟩
   simp [intOf]; omega
  ·obtain rfl : j = y := by omega
   rw [hy] at hw
   clear h hno hy
   go_wp2_with fail
   refine hw.mono ?_
   rintro e w1 ⟨rfl, rfl⟩
   go_wp2_with fail
   go_ret2
   exact ⟨rfl, rfl⟩
end
set_option maxRecDepth 100000 in
set_option maxHeartbeats 8000000 in
theorem works_ok (g gs s m dc nn nc : Nat) (D N : Option Addr) (ev sv : Value) (fs : List Int) (f : Int) (x y : Nat) (w : World) (hG : Blk w g 93 #[.pointer (some ⟨gs, 0, none⟩), .slice D m dc, ev, sv]) (hS : w.cell? ⟨s, 17, none⟩ = some (.slice D m dc)) (hD : RdS w D 2 (yearR fs f m)) (hN : Rd w N nn [(x : Int)])
  (h1 : 1 ≤ x) (hxy : x ≤ y) (h2 : y ≤ m) (hm : m ≤ 1000) (hno : ∀ j, x ≤ j → j < y → workB fs (f + ((j - 1 : Nat) : Int)) = false) (hy : workB fs (f + ((y - 1 : Nat) : Int)) = true) :
  Calls Tryz.prog 62 #[.agg #[.pointer (some ⟨s, 0, none⟩), .pointer (some ⟨g, 0, none⟩)], .slice N nn nc] w fun e w' => ∃ A c, e = .returned (.tuple #[.slice A 1 c, .int .i64 0]) ∧ Rd w' A 1 [(y : Int)] ∧ Below w.heap.size w w' := by
 have hmf : ∀ (fn : Fn) (first cap : Array Value) (w : World), (Instr.makeFunc fn first cap).run Tryz.prog w = .ok (.func fn first cap) w := fun _ _ _ _ => rfl
 have hn1 := hN.len
 simp only [List.length_cons, List.length_nil, Nat.zero_add] at hn1
 subst hn1
 obtain ⟨ad, rfl, hab, hc0⟩ := hN.at_ (show 0 < 1 by omega)
 replace hc0 : w.cell? ad = some (.int .i64 x) := hc0
 have hb0 := fr_alloc (fr_refl w) (.cells #[.pointer (some ⟨s, 0, none⟩), .pointer (some ⟨g, 0, none⟩)] 125)
 have hX := Blk.new w 125 #[.pointer (some ⟨s, 0, none⟩), .pointer (some ⟨g, 0, none⟩)]
 obtain ⟨w1, hw1⟩ : ∃ w1, w.alloc (.cells #[.pointer (some ⟨s, 0, none⟩), .pointer (some ⟨g, 0, none⟩)] 125) = w1 := ⟨_, rfl⟩
 rw [hw1] at hb0 hX
 replace hG := hG.keep hb0
 have hSl : s < w.heap.size := World.block_lt_of_cell? w _ hS
 replace hS := (hb0.cell (p := ⟨s, 17, none⟩) hSl).trans hS
 replace hD := hD.keep hb0
 replace hc0 := (hb0.cell (p := ad) hab).trans hc0
 have hcX := fun j => hX.cell j
 go_enter Tryz.func62, Tryz.ntmps62
 go_upto_region 1 with (fail)
 (try rw [hw1])
 clear hw1
 have hW1 : WkAt w1 s w.heap.size m dc D fs f (.pointer (some ⟨g, 0, none⟩)) := ⟨hX, hS, hD⟩
 have hab1 : ad.block < w1.heap.size := Nat.lt_of_lt_of_le hab hb0.size
 go_quiet ((go_at_call 131; exact quiet_left (isDay_yes g gs m dc D ev sv x _ (hG.keep (fr_drewN (fr_refl _) _)) ⟨by omega, by omega⟩)))
 go_upto_region 3 with (fail)
 have hbq := fr_drewN (fr_refl w1) nq
 replace hW1 : WkAt (w1.drewN nq) s w.heap.size m dc D fs f (.pointer (some ⟨g, 0, none⟩)) := ⟨hX.keep hbq, (hbq.cell (p := ⟨s, 17, none⟩) (World.block_lt_of_cell? _ _ hS)).trans hS, hD.keep hbq⟩
 replace hc0 := (hbq.cell hab1).trans hc0
 replace hab1 := Nat.lt_of_lt_of_le hab1 hbq.size
 replace hb0 := fr_call hb0 hbq
 clear hcX hS hD hX hG hbq
 generalize w1.drewN nq = w2 at *
 have hbz := fr_drew (fr_refl w2)
 have hsl2 := World.block_lt_of_cell? _ _ hW1.s
 have hkS : ∀ W, Below w2.heap.size w2 W → W.cell? ad = some (.int .i64 x) ∧ W.cell? ⟨w.heap.size, 0, none⟩ = some (.pointer (some ⟨s, 0, none⟩)) ∧ W.cell? ⟨s, 17, none⟩ = some (.slice D m dc) := fun W hb => ⟨(hb.cell hab1).trans hc0, (hW1.q.keep hb).cell 0, (hb.cell (p := ⟨s, 17, none⟩) hsl2).trans hW1.s⟩
 have HW := Lib.hid hW1
 clear hc0 hW1
 refine wp_region_held_drew (S := fun W => W.cell? ad = some (.int .i64 x) ∧ W.cell? ⟨w.heap.size, 0, none⟩ = some (.pointer (some ⟨s, 0, none⟩)) ∧ W.cell? ⟨s, 17, none⟩ = some (.slice D m dc)) (by kernel_rfl) (hkS _ hbz) (fun hHeld => ?_)
 generalize w2.drew = wz at hbz hHeld ⊢
 -- the region, step by step, in whatever order
 refine tkH 0 ⟨some 16, .move (.tmp 1), 23, "ask.go:118", #[], none⟩ hHeld ?_
 refine tkH 1 ⟨some 17, .indexAddr 23 (.tmp 16) (.const (.int .i64 0)), 0, "ask.go:118", #[⟨0, .data⟩], none⟩ hHeld ?_
 refine tkH 2 ⟨some 18, .load 3 (.tmp 17), 3, "ask.go:118", #[⟨1, .data⟩], none⟩ hHeld ?_
 refine tkH 3 ⟨some 19, .fieldAddr 125 (.tmp 2) 0, 0, "ask.go:118", #[], none⟩ hHeld ?_
 refine tkH 4 ⟨some 20, .load 103 (.tmp 19), 103, "ask.go:118", #[⟨3, .data⟩], none⟩ hHeld ?_
 refine tkH 5 ⟨some 21, .nilCheck (.tmp 20), 0, "ask.go:118", #[⟨4, .data⟩], none⟩ hHeld ?_
 refine tkH 6 ⟨some 22, .fieldAddr 196 (.tmp 21) 1, 0, "ask.go:118", #[⟨5, .data⟩], none⟩ hHeld ?_
 refine tkH 7 ⟨some 23, .load 88 (.tmp 22), 88, "ask.go:118", #[⟨6, .data⟩], none⟩ hHeld ?_
 refine tkH 8 ⟨some 24, .call { callee := .builtin .len, args := #[.tmp 23], argTypes := #[88] }, 3, "ask.go:118", #[⟨7, .data⟩], none⟩ hHeld ?_
 refine tkH 9 ⟨some 25, .makeFunc (.func 135) #[] #[.tmp 2], 61, "ask.go:118", #[], none⟩ hHeld ?_
 refine rdH 10 ⟨some 26, .call { callee := .value (.func 134), args := #[.tmp 18, .tmp 24, .tmp 25], argTypes := #[3, 3, 61] }, 221, "ask.go:118", #[⟨2, .data⟩, ⟨8, .data⟩, ⟨9, .data⟩], none⟩ fun K hK => ?_
 go_simp
 refine (first_hit (s := s) (q := w.heap.size) (dc := dc) (D := D) (fs := fs) (f := f) (dp := .pointer (some ⟨g, 0, none⟩)) x y ⟨HW.out.q.keep hbz, hHeld.2.2, HW.out.d.keep hbz⟩ h1 hxy h2 hm hno hy).mono ?_
 rintro e wz' ⟨rfl, rfl⟩
 refine hK.out _ _ (hkS _ hbz) (fun hHeld => ?_)
 clear hK K
 (try simp only [Act.put, List.setIfInBounds_toArray, List.set_cons_zero, List.set_cons_succ])
 refine tkH 11 ⟨some 15, .move (.tmp 26), 221, "ask.go:118", #[⟨10, .data⟩], none⟩ hHeld ?_
 refine tkH 12 ⟨some 27, .extract (.tmp 15) 0, 3, "ask.go:118", #[⟨11, .data⟩], none⟩ hHeld ?_
 refine tkH 13 ⟨some 28, .extract (.tmp 15) 1, 4, "ask.go:118", #[⟨11, .data⟩, ⟨14, .gcOnly .lateStores⟩], none⟩ hHeld ?_
 refine tkH 14 ⟨some 6, .assign (.tmp 27), 3, "ask.go:118", #[⟨12, .data⟩, ⟨10, .chain⟩, ⟨0, .phase⟩, ⟨1, .phase⟩, ⟨2, .phase⟩, ⟨3, .phase⟩, ⟨4, .phase⟩, ⟨5, .phase⟩, ⟨6, .phase⟩, ⟨7, .phase⟩, ⟨8, .phase⟩, ⟨9, .phase⟩, ⟨10, .phase⟩, ⟨11, .phase⟩, ⟨12, .phase⟩, ⟨13, .textOnly .lateStores⟩], none⟩ hHeld ?_
 refine tkH 15 ⟨some 7, .assign (.tmp 28), 4, "ask.go:118", #[⟨13, .data⟩, ⟨14, .chain⟩, ⟨0, .phase⟩, ⟨1, .phase⟩, ⟨2, .phase⟩, ⟨3, .phase⟩, ⟨4, .phase⟩, ⟨5, .phase⟩, ⟨6, .phase⟩, ⟨7, .phase⟩, ⟨8, .phase⟩, ⟨9, .phase⟩, ⟨10, .phase⟩, ⟨11, .phase⟩, ⟨12, .phase⟩, ⟨13, .phase⟩, ⟨14, .phase⟩], none⟩ hHeld ?_
 refine wpAnyH_done (by kernel_rfl) ?_ _
 go_wp2_with fail
 go_ret2
 refine ⟨some ⟨wz.heap.size, 0, none⟩, ⟨1, rfl⟩, ?_, fr_alloc (fr_call hb0 hbz) _⟩
 have hB := Blk.new wz 3 #[.int .i64 y]
 exact ⟨rfl, fun _ => ⟨_, rfl, hB.lt, fun j hj => by
  obtain rfl : j = 0 := by omega
  exact hB.cell 0⟩⟩
end Go.Proofs.YtdocgmafbacjcaaGreatDoor
end

section
namespace Go.Proofs.YtdocgmafbacjcaaGreatDoor
open Go.RowKit Go.Shelf Dl

theorem rd_one {w : World} {N : Option Addr} {nn : Nat} {x : Int} (h : Rd w N nn [x]) : nn = 1 ∧ ∃ ad, N = some ad ∧ ad.block < w.heap.size ∧ w.cell? ad = some (.int .i64 x) := by
 have hn1 := h.len
 simp only [List.length_cons, List.length_nil, Nat.zero_add] at hn1
 subst hn1
 obtain ⟨ad, rfl, hab, hc0⟩ := h.at_ (show 0 < 1 by omega)
 exact ⟨rfl, ad, rfl, hab, hc0⟩
theorem rd_of_blk {W : World} {g : Nat} {xs : List Int} (hB : Blk W g 3 (xs.map (Value.int .i64)).toArray) : Rd W (some ⟨g, 0, none⟩) xs.length xs :=
 ⟨rfl, fun _ => ⟨_, rfl, hB.lt, fun j hj => by
  rw [add_lit, Nat.zero_add, hB.cell]
  simp [hj]⟩⟩
set_option maxRecDepth 100000 in
set_option maxHeartbeats 8000000 in
theorem acuts_ok (s wm n c x nn nc : Nat) (dp : Value) (A N : Option Addr) (l : List Int) (k : Nat) (w : World) (h4 : w.cell? ⟨s, 4, none⟩ = some (.int .i64 wm)) (h5 : w.cell? ⟨s, 5, none⟩ = some (.slice A n c)) (hr : Rd w A n l) (hN : Rd w N nn [(x : Int)])
  (hn : 1 ≤ n ∧ n ≤ 6) (hw : 1 ≤ wm ∧ wm ≤ 60) (ht : 1 ≤ x ∧ x ≤ 400) (hl : HolesOk l) (hk : k < n) (hyes : cutOk wm l x k = true) (hno : ∀ j, j < k → cutOk wm l x j = false) :
  Calls Tryz.prog 64 #[.agg #[.pointer (some ⟨s, 0, none⟩), dp], .slice N nn nc] w fun e w' => ∃ B bc, e = .returned (.tuple #[.slice B 3 bc, .int .i64 0]) ∧ Rd w' B 3 [(k : Int), ((wm * holeN l k / x / holeN l k : Nat) : Int), ((wm * holeN l k / x % holeN l k : Nat) : Int)] ∧ Below w.heap.size w w' := by
 obtain ⟨rfl, ad, rfl, hab, hc0⟩ := rd_one hN
 have hb0 := fr_alloc (fr_refl w) (.cells #[.pointer (some ⟨s, 0, none⟩), dp] 125)
 have hX := Blk.new w 125 #[.pointer (some ⟨s, 0, none⟩), dp]
 obtain ⟨w1, hw1⟩ : ∃ w1, w.alloc (.cells #[.pointer (some ⟨s, 0, none⟩), dp] 125) = w1 := ⟨_, rfl⟩
 rw [hw1] at hb0 hX
 have hSl : s < w.heap.size := World.block_lt_of_cell? w _ h4
 replace h4 := (hb0.cell (p := ⟨s, 4, none⟩) hSl).trans h4
 replace h5 := (hb0.cell (p := ⟨s, 5, none⟩) hSl).trans h5
 replace hc0 := (hb0.cell (p := ad) hab).trans hc0
 replace hr := hr.keep hb0
 have hab1 : ad.block < w1.heap.size := Nat.lt_of_lt_of_le hab hb0.size
 have hsl1 : s < w1.heap.size := Nat.lt_of_lt_of_le hSl hb0.size
 have hs0 := hb0.size
 clear hN hab hSl
 go_enter Tryz.func64, Tryz.ntmps64
 go_upto_region 1 with (fail)
 (try rw [hw1])
 clear hw1
 have hbz := fr_drew (fr_refl w1)
 have hkS : ∀ W, Below w1.heap.size w1 W → W.cell? ad = some (.int .i64 x) ∧ W.cell? ⟨w.heap.size, 0, none⟩ = some (.pointer (some ⟨s, 0, none⟩)) ∧ W.cell? ⟨s, 4, none⟩ = some (.int .i64 wm) ∧ W.cell? ⟨s, 5, none⟩ = some (.slice A n c) := fun W hb => ⟨(hb.cell hab1).trans hc0, (hX.keep hb).cell 0, (hb.cell (p := ⟨s, 4, none⟩) hsl1).trans h4, (hb.cell (p := ⟨s, 5, none⟩) hsl1).trans h5⟩
 have HR := Lib.hid hr
 clear h4 h5 hc0 hX hr
 generalize hq1 : wm * holeN l k / x / holeN l k = q1
 generalize hq2 : wm * holeN l k / x % holeN l k = q2
 have HQ1 := Lib.hid hq1
 have HQ2 := Lib.hid hq2
 clear hq1 hq2
 go_cut [6, 7] from 8 (fun s6 s7 wc => ∃ p, s6 = .pointer (some ⟨p, 0, none⟩) ∧ s7 = .int .i64 0 ∧ Blk wc p 200 #[.int .i64 k, .int .i64 q1, .int .i64 q2] ∧ Below w1.heap.size w1 wc)
 case first =>
  refine wp_region_noPanic ?_
  refine wp_region_held_drew (S := fun W => W.cell? ad = some (.int .i64 x) ∧ W.cell? ⟨w.heap.size, 0, none⟩ = some (.pointer (some ⟨s, 0, none⟩)) ∧ W.cell? ⟨s, 4, none⟩ = some (.int .i64 wm) ∧ W.cell? ⟨s, 5, none⟩ = some (.slice A n c)) (by kernel_rfl) (hkS _ hbz) (fun hHeld => ?_)
  generalize w1.drew = wz at hbz hHeld ⊢
  -- the region, step by step, in whatever order
  refine tkH 0 ⟨some 9, .fieldAddr 125 (.tmp 2) 0, 0, "ask.go:136", #[], none⟩ hHeld ?_
  refine tkH 1 ⟨some 10, .load 103 (.tmp 9), 103, "ask.go:136", #[⟨0, .data⟩], none⟩ hHeld ?_
  refine tkH 2 ⟨some 11, .nilCheck (.tmp 10), 0, "ask.go:136", #[⟨1, .data⟩], none⟩ hHeld ?_
  refine tkH 3 ⟨some 12, .fieldAddr 196 (.tmp 11) 0, 0, "ask.go:136", #[⟨2, .data⟩], none⟩ hHeld ?_
  refine tkH 4 ⟨some 13, .fieldAddr 35 (.tmp 12) 3, 0, "ask.go:136", #[⟨3, .data⟩], none⟩ hHeld ?_
  refine tkH 5 ⟨some 14, .load 28 (.tmp 13), 28, "ask.go:136", #[⟨4, .data⟩], none⟩ hHeld ?_
  refine tkH 6 ⟨some 15, .move (.tmp 1), 23, "ask.go:136", #[], none⟩ hHeld ?_
  refine tkH 7 ⟨some 16, .indexAddr 23 (.tmp 15) (.const (.int .i64 0)), 0, "ask.go:136", #[⟨6, .data⟩], none⟩ hHeld ?_
  refine tkH 8 ⟨some 17, .load 3 (.tmp 16), 3, "ask.go:136", #[⟨7, .data⟩], none⟩ hHeld ?_
  refine wpAnyH_ready (rs := [9, 13]) (by kernel_rfl) (by simp) ?_
  refine (AllReadyH.cons (o := ⟨some 18, .call { callee := .value (.func 110), args := #[.tmp 14, .tmp 17], argTypes := #[28, 3] }, 201, "ask.go:136", #[⟨5, .data⟩, ⟨8, .data⟩], none⟩) rfl (fun K hK => ?_) (AllReadyH.cons (o := ⟨some 6, .alloc 200, 0, "ask.go:136", #[], none⟩) rfl (fun K hK => ?_) AllReadyH.nil))
  ·rw [if_pos (by rfl)]
   go_simp
   refine (Cuts_ok wm A n c x k l wz (HR.out.keep hbz) hn hw ht hl hk hyes hno).mono ?_
   rintro e wz ⟨rfl, hb1⟩
   rw [HQ1.out, HQ2.out]
   replace hbz := fr_call hbz hb1
   (try replace hP := hP.keep hb1)
   refine hK.out _ _ (hkS _ hbz) (fun hHeld => ?_)
   clear hK K
   (try simp only [Act.put, List.setIfInBounds_toArray, List.set_cons_zero, List.set_cons_succ])
   refine tkH 10 ⟨some 8, .move (.tmp 18), 201, "ask.go:136", #[⟨9, .data⟩], none⟩ hHeld ?_
   refine tkH 11 ⟨some 19, .extract (.tmp 8) 0, 200, "ask.go:136", #[⟨10, .data⟩], none⟩ hHeld ?_
   refine tkH 12 ⟨some 20, .extract (.tmp 8) 1, 39, "ask.go:136", #[⟨10, .data⟩, ⟨14, .gcOnly .lateStores⟩], none⟩ hHeld ?_
   refine rdH 13 ⟨some 6, .alloc 200, 0, "ask.go:136", #[], none⟩ fun K hK => ?_
   go_simp
   have hb1 := fr_alloc (fr_refl wz) (.cells #[.int .i64 0, .int .i64 0, .int .i64 0] 200)
   have hP := Blk.new wz 200 #[.int .i64 0, .int .i64 0, .int .i64 0]
   have hsP := hbz.size
   replace hbz := fr_call hbz hb1
   clear hb1
   obtain ⟨pq, hpq⟩ : ∃ q, wz.heap.size = q := ⟨_, rfl⟩
   (try rw [hpq])
   rw [hpq] at hP hsP
   clear hpq
   generalize wz.alloc (.cells #[.int .i64 0, .int .i64 0, .int .i64 0] 200) = wz at *
   refine hK.out _ _ (hkS _ hbz) (fun hHeld => ?_)
   clear hK K
   (try simp only [Act.put, List.setIfInBounds_toArray, List.set_cons_zero, List.set_cons_succ])
   refine rdH 14 ⟨none, .store 200 (.tmp 6) (.tmp 19), 0, "ask.go:136", #[⟨13, .data⟩, ⟨11, .data⟩, ⟨9, .chain⟩, ⟨0, .phase⟩, ⟨1, .phase⟩, ⟨2, .phase⟩, ⟨3, .phase⟩, ⟨4, .phase⟩, ⟨5, .phase⟩, ⟨6, .phase⟩, ⟨7, .phase⟩, ⟨8, .phase⟩, ⟨9, .phase⟩, ⟨10, .phase⟩, ⟨11, .phase⟩, ⟨12, .textOnly .lateStores⟩, ⟨13, .phase⟩], none⟩ fun K hK => ?_
   refine wp_store_blk 200 _ _ rfl pq 200 _ #[.int .i64 k, .int .i64 q1, .int .i64 q2] rfl rfl hP rfl (by kernel_rfl) (by simp [Value.oneCell']) ?_
   intro wz' hP2 hgs
   have hbF := hbz.grown hgs hbz.size (by intro k hk; cases hk; exact hsP)
   refine hK.out _ _ (hkS _ hbF) (fun hHeld => ?_)
   clear hK K
   refine tkH 15 ⟨some 7, .assign (.tmp 20), 39, "ask.go:136", #[⟨12, .data⟩, ⟨14, .chain⟩, ⟨0, .phase⟩, ⟨1, .phase⟩, ⟨2, .phase⟩, ⟨3, .phase⟩, ⟨4, .phase⟩, ⟨5, .phase⟩, ⟨6, .phase⟩, ⟨7, .phase⟩, ⟨8, .phase⟩, ⟨9, .phase⟩, ⟨10, .phase⟩, ⟨11, .phase⟩, ⟨12, .phase⟩, ⟨13, .phase⟩, ⟨14, .phase⟩], none⟩ hHeld ?_
   refine wpAnyH_done (by kernel_rfl) ?_ _
   refine NoPanic.normal ?_
   go_wp2_with fail
   go_meet
   case rel => exact ⟨pq, rfl, rfl, hP2, hbF⟩
  ·rw [if_pos (by rfl)]
   go_simp
   have hb1 := fr_alloc (fr_refl wz) (.cells #[.int .i64 0, .int .i64 0, .int .i64 0] 200)
   have hP := Blk.new wz 200 #[.int .i64 0, .int .i64 0, .int .i64 0]
   have hsP := hbz.size
   replace hbz := fr_call hbz hb1
   clear hb1
   obtain ⟨pq, hpq⟩ : ∃ q, wz.heap.size = q := ⟨_, rfl⟩
   (try rw [hpq])
   rw [hpq] at hP hsP
   clear hpq
   generalize wz.alloc (.cells #[.int .i64 0, .int .i64 0, .int .i64 0] 200) = wz at *
   refine hK.out _ _ (hkS _ hbz) (fun hHeld => ?_)
   clear hK K
   (try simp only [Act.put, List.setIfInBounds_toArray, List.set_cons_zero, List.set_cons_succ])
   refine rdH 9 ⟨some 18, .call { callee := .value (.func 110), args := #[.tmp 14, .tmp 17], argTypes := #[28, 3] }, 201, "ask.go:136", #[⟨5, .data⟩, ⟨8, .data⟩], none⟩ fun K hK => ?_
   go_simp
   refine (Cuts_ok wm A n c x k l wz (HR.out.keep hbz) hn hw ht hl hk hyes hno).mono ?_
   rintro e wz ⟨rfl, hb1⟩
   rw [HQ1.out, HQ2.out]
   replace hbz := fr_call hbz hb1
   (try replace hP := hP.keep hb1)
   refine hK.out _ _ (hkS _ hbz) (fun hHeld => ?_)
   clear hK K
   (try simp only [Act.put, List.setIfInBounds_toArray, List.set_cons_zero, List.set_cons_succ])
   refine tkH 10 ⟨some 8, .move (.tmp 18), 201, "ask.go:136", #[⟨9, .data⟩], none⟩ hHeld ?_
   refine tkH 11 ⟨some 19, .extract (.tmp 8) 0, 200, "ask.go:136", #[⟨10, .data⟩], none⟩ hHeld ?_
   refine tkH 12 ⟨some 20, .extract (.tmp 8) 1, 39, "ask.go:136", #[⟨10, .data⟩, ⟨14, .gcOnly .lateStores⟩], none⟩ hHeld ?_
   refine rdH 14 ⟨none, .store 200 (.tmp 6) (.tmp 19), 0, "ask.go:136", #[⟨13, .data⟩, ⟨11, .data⟩, ⟨9, .chain⟩, ⟨0, .phase⟩, ⟨1, .phase⟩, ⟨2, .phase⟩, ⟨3, .phase⟩, ⟨4, .phase⟩, ⟨5, .phase⟩, ⟨6, .phase⟩, ⟨7, .phase⟩, ⟨8, .phase⟩, ⟨9, .phase⟩, ⟨10, .phase⟩, ⟨11, .phase⟩, ⟨12, .textOnly .lateStores⟩, ⟨13, .phase⟩], none⟩ fun K hK => ?_
   refine wp_store_blk 200 _ _ rfl pq 200 _ #[.int .i64 k, .int .i64 q1, .int .i64 q2] rfl rfl hP rfl (by kernel_rfl) (by simp [Value.oneCell']) ?_
   intro wz' hP2 hgs
   have hbF := hbz.grown hgs hbz.size (by intro k hk; cases hk; exact hsP)
   refine hK.out _ _ (hkS _ hbF) (fun hHeld => ?_)
   clear hK K
   refine tkH 15 ⟨some 7, .assign (.tmp 20), 39, "ask.go:136", #[⟨12, .data⟩, ⟨14, .chain⟩, ⟨0, .phase⟩, ⟨1, .phase⟩, ⟨2, .phase⟩, ⟨3, .phase⟩, ⟨4, .phase⟩, ⟨5, .phase⟩, ⟨6, .phase⟩, ⟨7, .phase⟩, ⟨8, .phase⟩, ⟨9, .phase⟩, ⟨10, .phase⟩, ⟨11, .phase⟩, ⟨12, .phase⟩, ⟨13, .phase⟩, ⟨14, .phase⟩], none⟩ hHeld ?_
   refine wpAnyH_done (by kernel_rfl) ?_ _
   refine NoPanic.normal ?_
   go_wp2_with fail
   go_meet
   case rel => exact ⟨pq, rfl, rfl, hP2, hbF⟩
 obtain ⟨p, rfl, rfl, hP, hbc⟩ := hcut
 have hcP := fun j => hP.cell j
 have hbt := fr_call hb0 hbc
 clear hkS hbz
 go_wp2_with fail
 go_ret2
 rw [HQ1.out, HQ2.out]
 exact ⟨_, _, rfl, rd_of_blk (xs := [(k : Int), (q1 : Int), (q2 : Int)]) (Blk.new wc _ _), fr_alloc hbt _⟩
end Go.Proofs.YtdocgmafbacjcaaGreatDoor
end

section
namespace Go.Proofs.YtdocgmafbacjcaaGreatDoor
open Go.RowKit Go.Shelf Dl

section
variable {o : Oper} {a : Act} {w : World} {K : Act → World → Prop} {Q : Exit → Act → World → Prop}
theorem wp_build_ii {x y : Nat} {d v : Int} (ho : o.op = .buildSlice 23 2 #[(0, .tmp x), (1, .tmp y)]) (hx : a.tmps.getD x undef = .int .i64 d) (hy : a.tmps.getD y undef = .int .i64 v)
  (h : ∀ g w', w.heap.size = g → Blk w' g 3 #[.int .i64 d, .int .i64 v] → Below w.heap.size w w' → K (a.put o.dst (.slice (some ⟨g, 0, none⟩) 2 2)) w') : o.wp Tryz.prog a w K Q := by
 have h1 := h w.heap.size (w.alloc (.cells #[.int .i64 d, .int .i64 v] 3)) rfl (Blk.new w _ _) (fr_alloc (fr_refl w) _)
 obtain ⟨dst, op, ty, pos, after, guard⟩ := o
 simp only at ho
 subst ho
 have hx' : a.tmps[x]?.getD undef = .int .i64 d := by simpa using hx
 have hy' : a.tmps[y]?.getD undef = .int .i64 v := by simpa using hy
 go_simp
 exact h1
/-- 'append(l, x, y)' to a row of its own -/
theorem wp_app_ii {y z : Int} (s x : Operand) (ho : o.op = .call { callee := .builtin .append, args := #[s, x], argTypes := #[23, 23] })
  (base : Nat) (v : Value) (xs : List Int) (hs : a.eval s = v) (hown : Own w base v xs) (g : Nat) (hx : a.eval x = .slice (some ⟨g, 0, none⟩) 2 2) (hg : Blk w g 3 #[.int .i64 y, .int .i64 z]) (hn : xs.length < 1000000) (hbase : base ≤ w.heap.size)
  (h : ∀ A c w', Own w' base (.slice A (xs.length + 2) c) (xs ++ [y, z]) → w.grownBy w' v.ownBlock → K (a.put o.dst (.slice A (xs.length + 2) c)) w') : o.wp Tryz.prog a w K Q := by
 obtain ⟨i0, hi, hz0, hz1, hz2⟩ := info_parts info_int
 refine wp_append_own w s x _ ho base _ i0 _ 1 8 Tryz.underlying23 hi hz0 hz1 hz2 rfl (by omega) v _ _ hs hown ⟨g, 0, none⟩ 2 2 [.int .i64 y, .int .i64 z] hx rfl ?_ (by simp [Value.oneCell'])
  (by unfold maxLen; omega) (by omega) hbase ?_
 ·intro j u hj
  rw [add_lit, Nat.zero_add, hg.cell]
  simpa using hj
 ·intro v' w' hown' hg2 _
  have hown2 : Own w' base v' (xs ++ [y, z]) := by
   unfold Own
   rw [List.length_append, List.map_append]
   exact hown'
  obtain ⟨A, c, rfl⟩ := hown2.form
  rw [List.length_append] at hown2 ⊢
  exact h A c w' hown2 hg2
end
/-- what the first k hands turn by -/
def handsL (ls : List Lk) (hs : List Int) (k : Nat) : List Int := (hs.take k).flatMap (fun h => [(turnD (trainL ls h.toNat) : Int), (turnV (trainL ls h.toNat) : Int)])
theorem handsL_len (ls : List Lk) (hs : List Int) (k : Nat) (h : k ≤ hs.length) : (handsL ls hs k).length = 2 * k := by
 unfold handsL
 have : ∀ l : List Int, (l.flatMap (fun h => [(turnD (trainL ls h.toNat) : Int), (turnV (trainL ls h.toNat) : Int)])).length = 2 * l.length := fun l => by
  induction l with
  | nil => rfl
  | cons a l ih => rw [List.flatMap_cons, List.length_append, ih]; simp; omega
 rw [this, List.length_take]
 omega
theorem handsL_succ (ls : List Lk) (hs : List Int) (k : Nat) (h : k < hs.length) : handsL ls hs (k + 1) = handsL ls hs k ++ [(turnD (trainL ls hs[k].toNat) : Int), (turnV (trainL ls hs[k].toNat) : Int)] := by
 unfold handsL
 rw [List.take_succ_eq_append_getElem h, List.flatMap_append]
 rfl
theorem rates_row (ls : List Lk) (n h : Nat) (h1 : 1 ≤ h) (h2 : h ≤ n) : (ratesL ls n)[h]? = some [.int .i64 (turnD (trainL ls h) : Int), .int .i64 (turnV (trainL ls h) : Int)] := by
 obtain ⟨k, rfl⟩ : ∃ k, h = k + 1 := ⟨h - 1, by omega⟩
 unfold ratesL
 rw [List.getElem?_cons_succ, List.getElem?_map, List.getElem?_range (by omega)]
 rfl
set_option maxRecDepth 100000 in
set_option maxHeartbeats 8000000 in
theorem ahands_ok (s n c m hc nn nc : Nat) (dp : Value) (A H N : Option Addr) (ls : List Lk) (hs : List Int) (w : World) (h4 : w.cell? ⟨s, 0, none⟩ = some (.slice A n c)) (h5 : w.cell? ⟨s, 1, none⟩ = some (.slice H m hc)) (hr : RdS w A 3 (ls.map Lk.cells)) (hn : ls.length = n) (hh : Rd w H m hs) (hcap : n ≤ c) (hok : ShopOk ls hs) :
  Calls Tryz.prog 55 #[.agg #[.pointer (some ⟨s, 0, none⟩), dp], .slice N nn nc] w fun e w' => ∃ B bc, e = .returned (.tuple #[.slice B (2 * m) bc, .int .i64 0]) ∧ Rd w' B (2 * m) (handsL ls hs m) ∧ Below w.heap.size w w' := by
 have hb0 := fr_alloc (fr_refl w) (.cells #[.pointer (some ⟨s, 0, none⟩), dp] 125)
 have hX := Blk.new w 125 #[.pointer (some ⟨s, 0, none⟩), dp]
 obtain ⟨w1, hw1⟩ : ∃ w1, w.alloc (.cells #[.pointer (some ⟨s, 0, none⟩), dp] 125) = w1 := ⟨_, rfl⟩
 rw [hw1] at hb0 hX
 have hSl : s < w.heap.size := World.block_lt_of_cell? w _ h4
 replace h4 := (hb0.cell (p := ⟨s, 0, none⟩) hSl).trans h4
 replace h5 := (hb0.cell (p := ⟨s, 1, none⟩) hSl).trans h5
 replace hr := hr.keep hb0
 replace hh := hh.keep hb0
 have hsl1 : s < w1.heap.size := Nat.lt_of_lt_of_le hSl hb0.size
 have hs0 := hb0.size
 have hRt := Rates_ok A H n c m hc ls hs w1 hr hn hh hcap hok
 have hm4 : m ≤ 4 := by have := hok.m; have := hh.len; omega
 have hn5 : n ≤ 5 := by have := hok.n; omega
 have HN := Lib.hid hn
 have hhand : ∀ h ∈ hs, 1 ≤ h ∧ h ≤ (n : Int) := fun h hm => by have := hok.hand h hm; omega
 have HH := Lib.hid hhand
 have hcX := fun j => hX.cell j
 clear hSl hr hn hhand hok
 go_enter Tryz.func55, Tryz.ntmps55
 go_upto_region 1 with (fail)
 (try rw [hw1])
 clear hw1
 go_wp2_with fail
 refine hRt.mono ?_
 rintro e w2 ⟨R, rc, S, sc, rfl, hR, hb2⟩
 have hh2 := hh.keep hb2
 have HLN := Lib.hid hh.len
 replace h4 := (hb2.cell (p := ⟨s, 0, none⟩) hsl1).trans h4
 replace h5 := (hb2.cell (p := ⟨s, 1, none⟩) hsl1).trans h5
 have hX2 := hX.keep hb2
 have hcX := fun j => hX2.cell j
 clear hRt hX hh
 go_upto_region 3 with (fail)
 go_wp2_with fail
 have hs2 := hb2.size
 clear h4 h5 hcX
 go_loopw [9, 31] (fun v i wr => ∃ (j : Nat) (B : Option Addr) (bc : Nat), j ≤ m ∧ i = .int .i64 j ∧ v = .slice B (2 * j) bc ∧ Own wr w2.heap.size (.slice B (2 * j) bc) (handsL ls hs j) ∧ Below w2.heap.size w2 wr) (fun _ i _ => m - (intOf i).toNat)
 case atStart => exact ⟨0, none, 0, Nat.zero_le _, rfl, rfl, Own.nil _ _, fr_refl _⟩
 case round =>
  obtain ⟨j, B, bc, hj, rfl, rfl, hown, hbr⟩ := hrel
  by_cases hlt : j < m
  ·have hjl : j < hs.length := by have := HLN.out; omega
   obtain ⟨ad, rfl, hab, hc0⟩ := (hh2.keep hbr).at_ hlt
   have hhd := HH.out _ (List.getElem_mem hjl)
   rw [show hs[j]?.getD 0 = hs[j] by simp [hjl]] at hc0
   have HSU := Lib.hid (handsL_succ ls hs j hjl)
   generalize hs[j] = h at *
   obtain ⟨k, rfl⟩ : ∃ k : Nat, h = (k : Int) := ⟨h.toNat, by omega⟩
   have hrow := rates_row ls n k (by omega) (by omega)
   obtain ⟨rd, rfl, hrb, hr0, hr1⟩ := hR.nth hrow
   replace hr0 := hr0 _ rfl
   replace hr1 := hr1 0 _ rfl
   have HSU2 : Hid (handsL ls hs (j + 1) = handsL ls hs j ++ [(turnD (trainL ls k) : Int), (turnV (trainL ls k) : Int)]) := HSU
   have i1 : (j : Int) < (m : Int) := by omega
   have i2 : (0 : Int) ≤ (k : Int) := Int.natCast_nonneg k
   have i3 : (k : Int) < ((n + 1 : Nat) : Int) := by omega
   have i4 : (k : Int) < (n : Int) + 1 := by omega
   have HL2 := Lib.hid (handsL_len ls hs j (by omega))
   generalize turnD (trainL ls k) = d1 at *
   generalize turnV (trainL ls k) = d2 at *
   have hsr := hbr.size
   clear hrow HSU hh2 hR hhd
   go_wp2_with fail
   have hbz := fr_drew (fr_refl wr)
   have hkS : ∀ W, Below w2.heap.size w2 W → W.cell? (rd.add (k * 2)) = some (.int .i64 d1) ∧ W.cell? ⟨(rd.add (k * 2)).block, (rd.add (k * 2)).off + (0 + 1), none⟩ = some (.int .i64 d2) ∧ W.cell? ⟨(rd.add (k * 2)).block, (rd.add (k * 2)).off + 1, none⟩ = some (.int .i64 d2) := fun W hb => ⟨(hb.cell (by rw [block_of_add]; exact hrb)).trans hr0, (hb.cell (by show (rd.add (k * 2)).block < _; rw [block_of_add]; exact hrb)).trans hr1, (hb.cell (by show (rd.add (k * 2)).block < _; rw [block_of_add]; exact hrb)).trans hr1⟩
   clear hr0 hr1 hc0
   refine wp_region_held_drew (S := fun W => W.cell? (rd.add (k * 2)) = some (.int .i64 d1) ∧ W.cell? ⟨(rd.add (k * 2)).block, (rd.add (k * 2)).off + (0 + 1), none⟩ = some (.int .i64 d2) ∧ W.cell? ⟨(rd.add (k * 2)).block, (rd.add (k * 2)).off + 1, none⟩ = some (.int .i64 d2)) (by kernel_rfl) (hkS _ (fr_call hbr hbz)) (fun hHeld => ?_)
   generalize wr.drew = wz at hbz hHeld ⊢
   -- the region, step by step, in whatever order
   refine tkH 0 ⟨some 35, .move (.tmp 9), 23, "ask.go:23", #[], none⟩ hHeld ?_
   refine tkH 1 ⟨some 36, .move (.tmp 6), 26, "ask.go:23", #[], none⟩ hHeld ?_
   refine tkH 2 ⟨some 37, .move (.tmp 11), 3, "ask.go:23", #[], none⟩ hHeld ?_
   refine tkH 3 ⟨some 38, .indexAddr 26 (.tmp 36) (.tmp 37), 0, "ask.go:23", #[⟨1, .data⟩, ⟨2, .data⟩], none⟩ hHeld ?_
   refine tkH 4 ⟨some 39, .fieldAddr 52 (.tmp 38) 0, 0, "ask.go:23", #[⟨3, .data⟩], none⟩ hHeld ?_
   refine tkH 5 ⟨some 40, .load 3 (.tmp 39), 3, "ask.go:23", #[⟨4, .data⟩], none⟩ hHeld ?_
   refine tkH 6 ⟨some 41, .move (.tmp 6), 26, "ask.go:23", #[], none⟩ hHeld ?_
   refine tkH 7 ⟨some 42, .move (.tmp 11), 3, "ask.go:23", #[], none⟩ hHeld ?_
   refine tkH 8 ⟨some 43, .indexAddr 26 (.tmp 41) (.tmp 42), 0, "ask.go:23", #[⟨6, .data⟩, ⟨7, .data⟩], none⟩ hHeld ?_
   refine tkH 9 ⟨some 44, .fieldAddr 52 (.tmp 43) 1, 0, "ask.go:23", #[⟨8, .data⟩], none⟩ hHeld ?_
   refine tkH 10 ⟨some 45, .load 3 (.tmp 44), 3, "ask.go:23", #[⟨9, .data⟩], none⟩ hHeld ?_
   refine rdH 11 ⟨some 46, .buildSlice 23 2 #[(0, .tmp 40), (1, .tmp 45)], 23, "ask.go:23", #[⟨5, .data⟩, ⟨10, .data⟩], none⟩ fun K hK => ?_
   refine wp_build_ii rfl rfl rfl ?_
   intro g wz hgz hG hb1
   replace hbz := fr_call hbz hb1
   refine hK.out _ _ (hkS _ (fr_call hbr hbz)) (fun hHeld => ?_)
   clear hK K
   (try simp only [Act.put, List.setIfInBounds_toArray, List.set_cons_zero, List.set_cons_succ])
   refine rdH 12 ⟨some 47, .call { callee := .builtin .append, args := #[.tmp 35, .tmp 46], argTypes := #[23, 23] }, 23, "ask.go:23", #[⟨0, .data⟩, ⟨11, .data⟩], none⟩ fun K hK => ?_
   refine wp_app_ii (.tmp 35) (.tmp 46) rfl w2.heap.size _ (handsL ls hs j) rfl (hown.keep hbz) g rfl hG (by rw [HL2.out]; omega) (by have := hbz.size; omega) ?_
   intro B2 cap2 wz' hown2 hgr
   rw [HL2.out] at hown2 ⊢
   have hge := own_ge hown
   have hbF : Below w2.heap.size w2 wz' := (fr_call hbr hbz).grown hgr (fr_call hbr hbz).size hge
   refine hK.out _ _ (hkS _ hbF) (fun hHeld => ?_)
   clear hK K
   (try simp only [Act.put, List.setIfInBounds_toArray, List.set_cons_zero, List.set_cons_succ])
   refine tkH 13 ⟨some 9, .assign (.tmp 47), 23, "ask.go:23", #[⟨12, .data⟩, ⟨12, .chain⟩, ⟨0, .phase⟩, ⟨1, .phase⟩, ⟨2, .phase⟩, ⟨3, .phase⟩, ⟨4, .phase⟩, ⟨5, .phase⟩, ⟨6, .phase⟩, ⟨7, .phase⟩, ⟨8, .phase⟩, ⟨9, .phase⟩, ⟨10, .phase⟩, ⟨11, .phase⟩, ⟨12, .phase⟩], none⟩ hHeld ?_
   refine wpAnyH_done (by kernel_rfl) ?_ _
   go_wp2_with fail
   refine ⟨⟨j + 1, B2, cap2, hlt, by go_num, rfl, by rw [HSU2.out]; exact hown2, hbF⟩, ?_⟩
   simp [intOf]; omega
  ·obtain rfl : j = m := by omega
   go_wp2_with fail
   go_ret2
   exact ⟨B, bc, rfl, hown.rd, fr_call hb0 (fr_call hb2 hbr)⟩
end Go.Proofs.YtdocgmafbacjcaaGreatDoor
end

section
namespace Go.Proofs.YtdocgmafbacjcaaGreatDoor
open Go.RowKit Go.Shelf Dl

set_option maxHeartbeats 1000000 in
theorem jtry_ok_Ask (cap : Array Value) (R : World → Prop) (w : World)
  (h : Calls Tryz.prog 54 cap (w.alloc (.cells #[.int .i64 0] 39)) fun e w' => e = .returned (.tuple #[]) ∧ R w' ∧ w'.cell? ⟨w.heap.size, 0, none⟩ = some (.int .i64 0) ∧ w'.frozen? ⟨w.heap.size, 0, none⟩ = false) :
  Calls Tryz.prog 34 #[.func (.func 54) #[] cap] w fun e w'' => e = .returned (.int .i64 0) ∧ ∃ w', R w' ∧ w'' = w'.setCell ⟨w.heap.size, 0, none⟩ (.int .i64 0) := by
 have hmf : ∀ (fn : Fn) (first cap : Array Value) (w : World), (Instr.makeFunc fn first cap).run Tryz.prog w = .ok (.func fn first cap) w := fun _ _ _ _ => rfl
 have H := Lib.hid h
 clear h
 go_enter_defers Tryz.func34, Tryz.ntmps34
 go_wp2_with fail
 refine (H.out).mono ?_
 rintro e w' ⟨rfl, hR, hc, hf⟩
 go_wp2
 refine leaves_cons (f := 107) (args := #[.pointer (some ⟨w.heap.size, 0, none⟩)]) (by simp) (by simp [go_sem]) ?_
 refine (jtry1_idle ⟨w.heap.size, 0, none⟩ _).mono ?_
 rintro e u' w'' ⟨rfl, rfl, rfl⟩
 simp [Leaves, settle, results, Tryz.results34, go_sem, hc]
 exact ⟨w', hR, rfl⟩

theorem setSame {c : Array Value} {i : Nat} {v : Value} (h : c[i]? = some v) : c.setIfInBounds i v = c := by
 apply Array.ext_getElem?
 intro j
 rw [Array.getElem?_setIfInBounds]
 split
 ·next e => subst e; rw [h, if_pos (Array.getElem?_eq_some_iff.1 h).1]
 ·rfl
theorem setCell_same {w : World} {a : Addr} {v : Value} (h : w.cell? a = some v) : w.setCell a v = w := by
 unfold World.cell? at h
 unfold World.setCell
 cases hb : w.heap[a.block]? with
 | none => rw [hb] at h; cases h
 | some o =>
  rw [hb] at h
  cases o with
  | cells c e fr =>
   simp only at h
   split at h
   ·cases h
   ·next hs =>
    have key : ∀ X, X = w.heap → ({ w with heap := X } : World) = w := fun X e => by rw [e]
    apply key
    apply Array.ext_getElem?
    intro j
    rw [Array.getElem?_modify]
    split
    ·next e => subst e; rw [hb]; simp only [Option.map_some, setSame h]
    ·rfl
  | _ => cases h
/-- a value that is no pointer -/
def NoPtr (v : Value) : Prop := ∀ p, v ≠ .pointer p
theorem not_ptr {W : World} {p : Nat} {t : TypeId} {cs : Array Value} {a : Addr} {v : Value} (hP : Blk W p t cs) (hcs : ∀ u ∈ cs.toList, ∃ x, u = .pointer x) (hc : W.cell? a = some v) (hv : NoPtr v) : a.block ≠ p := fun e => by
 unfold World.cell? at hc
 rw [e, show W.heap[p]? = _ from hP] at hc
 simp only at hc
 split at hc
 ·cases hc
 ·obtain ⟨x, rfl⟩ := hcs v (by rw [← Array.getElem?_toList] at hc; exact List.mem_of_getElem? hc)
  exact hv x rfl
section
variable {W W' : World} {p : Nat} {t : TypeId} {cs : Array Value}
theorem RdS.otherP {k : Nat} {A : Option Addr} {rows : List (List Value)} (hr : RdS W A k rows) (hv : ∀ r ∈ rows, ∃ v, r[0]? = some v ∧ NoPtr v) (hP : Blk W p t cs) (hcs : ∀ u ∈ cs.toList, ∃ x, u = .pointer x) (hx : Exc (fun i => i = p) W W') : RdS W' A k rows := fun hn => by
 obtain ⟨ad, e, hlt, hc⟩ := hr hn
 obtain ⟨x, h0, hv0⟩ := hv rows[0] (List.getElem_mem hn)
 have h1 := (hc 0 rows[0] (List.getElem?_eq_getElem hn)).2 0 _ h0
 have hne := not_ptr hP hcs h1 hv0
 rw [block_of_add] at hne
 exact ⟨ad, e, Nat.lt_of_lt_of_le hlt hx.size, fun i r hi => ⟨(hc i r hi).1, fun j v hj => (hx.cell (by rw [block_of_add]; exact hlt) (by rw [block_of_add]; exact hne)).trans ((hc i r hi).2 j v hj)⟩⟩
theorem Rd.otherP {n : Nat} {A : Option Addr} {xs : List Int} (hr : Rd W A n xs) (hP : Blk W p t cs) (hcs : ∀ u ∈ cs.toList, ∃ x, u = .pointer x) (hx : Exc (fun i => i = p) W W') : Rd W' A n xs :=
 ⟨hr.1, fun hn => by
  obtain ⟨ad, e, hlt, hc⟩ := hr.2 hn
  have hne := not_ptr hP hcs (hc 0 hn) (by intro p e; cases e)
  rw [block_of_add] at hne
  exact ⟨ad, e, Nat.lt_of_lt_of_le hlt hx.size, fun j hj => (hx.cell (by rw [block_of_add]; exact hlt) (by rw [block_of_add]; exact hne)).trans (hc j hj)⟩⟩
theorem SuAt.otherP {A1 A2 A3 A4 A5 A6 : Option Addr} {n1 n2 n4 n5 n6 : Nat} {ls : List Lk} {hs : List Int} {tg : List (Int × Int)} {ho cy : List Int} {fe : List Feast} (h : SuAt W A1 A2 A3 A4 A5 A6 n1 n2 n4 n5 n6 ls hs tg ho cy fe) (hP : Blk W p t cs) (hcs : ∀ u ∈ cs.toList, ∃ x, u = .pointer x) (hx : Exc (fun i => i = p) W W') : SuAt W' A1 A2 A3 A4 A5 A6 n1 n2 n4 n5 n6 ls hs tg ho cy fe :=
 ⟨h.r1.otherP (by intro r hr; obtain ⟨q, _, rfl⟩ := List.mem_map.1 hr; exact ⟨_, rfl, by intro p e; cases e⟩) hP hcs hx, h.l1, h.r2.otherP hP hcs hx, h.r3.otherP (by intro r hr; obtain ⟨q, _, rfl⟩ := List.mem_map.1 hr; exact ⟨_, rfl, by intro p e; cases e⟩) hP hcs hx, h.l3, h.r4.otherP hP hcs hx, h.r5.otherP hP hcs hx, h.r6.otherP (by intro r hr; obtain ⟨q, _, rfl⟩ := List.mem_map.1 hr; exact ⟨_, rfl, by intro p e; cases e⟩) hP hcs hx, h.l6⟩
theorem StateAt.otherP {s : Nat} {A1 A2 A3 A4 A5 A6 : Option Addr} {n1 c1 n2 c2 c3 n4 c4 n5 c5 n6 c6 wm br hr wg pc : Nat} {lim ep mn md ma yr : Int} {D : Option Addr} {m dc : Nat} {mp : Value} {ls : List Lk} {hs : List Int} {tg : List (Int × Int)} {ho cy : List Int} {fe : List Feast} {fs : List Int} {f : Int} (h : StateAt W s A1 A2 A3 A4 A5 A6 n1 c1 n2 c2 c3 n4 c4 n5 c5 n6 c6 wm br hr wg pc lim ep mn md ma yr D m dc mp ls hs tg ho cy fe fs f) (hP : Blk W p t cs) (hcs : ∀ u ∈ cs.toList, ∃ x, u = .pointer x) (hx : Exc (fun i => i = p) W W') (hs2 : s ≠ p) : StateAt W' s A1 A2 A3 A4 A5 A6 n1 c1 n2 c2 c3 n4 c4 n5 c5 n6 c6 wm br hr wg pc lim ep mn md ma yr D m dc mp ls hs tg ho cy fe fs f :=
 ⟨hx.blk h.s hs2, h.r.otherP hP hcs hx, h.fm, h.cap, h.days.otherP (by intro r hr; obtain ⟨q, _, rfl⟩ := List.mem_map.1 hr; exact ⟨_, rfl, by intro p e; cases e⟩) hP hcs hx⟩
theorem StAt.otherP {s : Nat} {A1 A2 A3 A4 A5 A6 : Option Addr} {n1 c1 n2 c2 c3 n4 c4 n5 c5 n6 c6 wm br hr wg pc : Nat} {lim ep mn md ma yr : Int} {D : Option Addr} {m dc : Nat} {mp zv : Value} {zs : List Int} {ls : List Lk} {hs : List Int} {tg : List (Int × Int)} {ho cy : List Int} {fe : List Feast} {fs : List Int} {f : Int} (h : StAt W s A1 A2 A3 A4 A5 A6 n1 c1 n2 c2 c3 n4 c4 n5 c5 n6 c6 wm br hr wg pc lim ep mn md ma yr D m dc mp zv zs ls hs tg ho cy fe fs f) (hP : Blk W p t cs) (hcs : ∀ u ∈ cs.toList, ∃ x, u = .pointer x) (hx : Exc (fun i => i = p) W W') (hs2 : p < s) : StAt W' s A1 A2 A3 A4 A5 A6 n1 c1 n2 c2 c3 n4 c4 n5 c5 n6 c6 wm br hr wg pc lim ep mn md ma yr D m dc mp zv zs ls hs tg ho cy fe fs f :=
 ⟨hx.blk h.b (by omega), h.r.otherP hP hcs hx, h.fm, h.cap, h.days.otherP (by intro r hr; obtain ⟨q, _, rfl⟩ := List.mem_map.1 hr; exact ⟨_, rfl, by intro p e; cases e⟩) hP hcs hx, h.lo, h.dlo, own_exc h.own hx (fun i e hs => by have := own_ge h.own i e; omega)⟩
end
/-- what is asked of, told by what stands -/
structure AskS (g : Nat) (w : World) (ST : Nat → World → Prop) : Prop where
 st : ∀ W, Below w.heap.size w W → Calls Tryz.prog 36 #[.pointer (some ⟨g, 0, none⟩), .int .i64 (-1)] W fun e W' => ∃ s, e = .returned (.pointer (some ⟨s, 0, none⟩)) ∧ ST s W' ∧ W.heap.size ≤ s ∧ Below W.heap.size W W'
 keep : ∀ s W W', ST s W → Below W.heap.size W W' → ST s W'
 other : ∀ s q t cs W W', ST s W → Blk W q t cs → (∀ u ∈ cs.toList, ∃ x, u = .pointer x) → Exc (fun i => i = q) W W' → q < s → ST s W'
set_option maxRecDepth 100000 in
set_option maxHeartbeats 8000000 in
theorem Ask1_any (b q g : Nat) (ST : Nat → World → Prop) (w0 w : World) (hA : AskS g w0 ST) (hb0 : Below w0.heap.size w0 w) (hB : Blk w b 38 #[.pointer (some ⟨g, 0, none⟩)]) (hQ : Blk w q 125 #[.pointer none, .pointer (some ⟨g, 0, none⟩)]) :
  Calls Tryz.prog 54 #[.pointer (some ⟨b, 0, none⟩), .pointer (some ⟨q, 0, none⟩)] w fun e w' => e = .returned (.tuple #[]) ∧ ∃ s, Blk w' q 125 #[.pointer (some ⟨s, 0, none⟩), .pointer (some ⟨g, 0, none⟩)] ∧ ST s w' ∧ Exc (fun i => i = q) w w' := by
 have hcB := fun j => hB.cell j
 have KS := hA.st w hb0
 have hlQ := hQ.lt
 go_enter Tryz.func54, Tryz.ntmps54
 go_wp2_with fail
 refine KS.mono ?_
 rintro e w1 ⟨s, rfl, hS, hsw, hb1⟩
 have hQ1 := hQ.keep hb1
 have hcQ := hQ1.cell 0
 have hfQ := hQ1.frozen 0
 clear KS hcB hB
 go_wp2_with fail
 have hQ2 := hQ1.set_ 0 (.pointer (some ⟨s, 0, none⟩))
 have hx : Exc (fun i => i = q) w1 (w1.setCell ⟨q, 0, none⟩ (.pointer (some ⟨s, 0, none⟩))) := (Exc.refl (fun i => i = q) w1).set (p := ⟨q, 0, none⟩) (Or.inl rfl) _
 have hx0 : Exc (fun i => i = q) w (w1.setCell ⟨q, 0, none⟩ (.pointer (some ⟨s, 0, none⟩))) := ((Exc.refl (fun i => i = q) w).below hb1).set (p := ⟨q, 0, none⟩) (Or.inl rfl) _
 have hS2 := hA.other s q _ _ _ _ hS hQ1 (by intro u hu; simp only [List.mem_cons, List.not_mem_nil, or_false] at hu; rcases hu with rfl | rfl <;> exact ⟨_, rfl⟩) hx (by omega)
 go_end0
 exact ⟨rfl, s, hQ2, hS2, hx0⟩
end Go.Proofs.YtdocgmafbacjcaaGreatDoor
end
