/- Walks, package journeyman: Ask (by gen_yk.py). -/
import Derived.Test.YtkmiphabagoifaaGreatDoorMT20
import Derived.BigQuiet
namespace Go.Proofs.YtkmiphabagoifaaGreatDoor
open Go.RowKit Go.Shelf Dl

/-- a list of numbers as an answer -/
def RetR (w : World) (rn : Nat) (rl : List Int) (e : Ending) (w' : World) : Prop := ∃ A c, e = .returned (.tuple #[.slice A rn c, .int .i64 0]) ∧ Rd w' A rn rl ∧ Below w.heap.size w w'
set_option maxRecDepth 100000 in
set_option maxHeartbeats 16000000 in
theorem Ask_hands (g gs : Nat) (A1 A2 A3 A4 A5 A6 : Option Addr) (n1 c1 n2 c2 c3 n4 c4 n5 c5 n6 c6 wm br hr wg pc : Nat) (lim ep mn md ma yr : Int) (D : Option Addr) (m dc : Nat) (sv : Value) (ls : List Lk) (hs : List Int) (tg : List (Int × Int)) (ho cy : List Int) (fe : List Feast) (fs : List Int) (f : Int) (N : Option Addr) (nc : Nat) (ns : List Int) (rn : Nat) (rl : List Int) (w : World) (h : DeskAt w g gs A1 A2 A3 A4 A5 A6 n1 c1 n2 c2 c3 n4 c4 n5 c5 n6 c6 wm br hr wg pc lim ep mn md ma yr D m dc (.slice none 0 0) sv ls hs tg ho cy fe fs f) (hbd : n1 ≤ 1000 ∧ n2 ≤ 1000 ∧ n4 ≤ 1000 ∧ n5 ≤ 1000 ∧ n6 ≤ 1000) (hN : Rd w N 0 ns)
  (hmeth : ∀ s B1 B2 B3 B4 B5 B6 k1 k2 k3 k4 k5 k6 mp W, StateAt W s B1 B2 B3 B4 B5 B6 n1 k1 n2 k2 k3 n4 k4 n5 k5 n6 k6 wm br hr wg pc lim ep mn md ma yr D m dc mp ls hs tg ho cy fe fs f → Blk W g 98 #[.pointer (some ⟨gs, 0, none⟩), .slice D m dc, .slice none 0 0, sv] → Rd W N 0 ns → Calls Tryz.prog 60 #[.agg #[.pointer (some ⟨s, 0, none⟩), .pointer (some ⟨g, 0, none⟩)], .slice N 0 nc] W (RetR W rn rl)) :
  Calls Tryz.prog 13 #[.pointer (some ⟨g, 0, none⟩), .agg #[.int .i64 1, .slice N 0 nc]] w (RetR w rn rl) := by
 have hmf : ∀ (fn : Fn) (first cap : Array Value) (w : World), (Instr.makeFunc fn first cap).run Tryz.prog w = .ok (.func fn first cap) w := fun _ _ _ _ => rfl
 have hix : ∀ w, (Instr.index 127 (.agg asksV) (.int .i64 0)).run Tryz.prog w = .ok (.agg #[.string ⟨#[104, 97, 110, 100, 115]⟩, .int .i64 0]) w := fun w => by kernel_rfl
 have hfd : ∀ w, (Instr.field 126 (.agg #[.string ⟨#[104, 97, 110, 100, 115]⟩, .int .i64 0]) 1).run Tryz.prog w = .ok (.int .i64 0) w := fun w => by kernel_rfl
 have hwr : IntKind.i64.wrap 0 = 0 := by decide
 have hb0 := fr_alloc (fr_alloc (fr_refl w) (.cells #[.pointer (some ⟨g, 0, none⟩)] 38)) (.cells #[.int .i64 1, .slice N 0 nc] 58)
 have hX := (Blk.new w 38 #[.pointer (some ⟨g, 0, none⟩)]).alloc (.cells #[.int .i64 1, .slice N 0 nc] 58)
 have hY : Blk ((w.alloc (.cells #[.pointer (some ⟨g, 0, none⟩)] 38)).alloc (.cells #[.int .i64 1, .slice N 0 nc] 58)) (w.heap.size + 1) 58 #[.int .i64 1, .slice N 0 nc] := Blk.new_at _ _ (by simp)
 obtain ⟨w1, hw1⟩ : ∃ w1, (w.alloc (.cells #[.pointer (some ⟨g, 0, none⟩)] 38)).alloc (.cells #[.int .i64 1, .slice N 0 nc] 58) = w1 := ⟨_, rfl⟩
 rw [hw1] at hb0 hX hY
 replace h := h.keep hb0
 replace hN := hN.keep hb0
 have hcX := fun j => hX.cell j
 have hG := h.d
 have H := Lib.hid h
 have HM := Lib.hid hmeth
 have hs0 := hb0.size
 clear h hmeth
 go_enter Tryz.func13, Tryz.ntmps13
 go_upto_region 1 with (fail)
 (try rw [hw1])
 clear hw1
 go_wp2_with fail
 refine (isOpen_yes g gs _ _ _ w1 hG).mono ?_
 rintro e w1' ⟨rfl, rfl⟩
 go_upto_region 3 with (fail)
 have hbz := fr_drew (fr_refl w1)
 have hkS : ∀ W, Below w1.heap.size w1 W → W.cell? ⟨w.heap.size + 1, 0, none⟩ = some (.int .i64 1) ∧ W.cell? ⟨w.heap.size + 1, 1, none⟩ = some (.slice N 0 nc) := fun W hb => ⟨(hY.keep hb).cell 0, (hY.keep hb).cell 1⟩
 clear hcX hG
 go_cut [29] from 14 (fun s29 wc => s29 = .bool false ∧ Below w1.heap.size w1 wc)
 case first =>
  refine wp_region_noPanic ?_
  refine wp_region_held_drew (S := fun W => W.cell? ⟨w.heap.size + 1, 0, none⟩ = some (.int .i64 1) ∧ W.cell? ⟨w.heap.size + 1, 1, none⟩ = some (.slice N 0 nc)) (by kernel_rfl) (hkS _ hbz) (fun hHeld => ?_)
  generalize w1.drew = wz at hbz hHeld ⊢
  -- the region, step by step, in whatever order
  refine wpAnyH_take (i := 0) (oi := ⟨some 14, .fieldAddr 58 (.tmp 3) 0, 0, "ask.go:157", #[], none⟩) (v := ?_) rfl (by kernel_rfl) (by kernel_rfl) (by kernel_rfl) (fun _ _ _ h => h) (Or.inl ⟨by rfl, fun W hSw => ?_⟩) hHeld ?_
  rotate_left
  ·(try dsimp only at hSw); go_simp; (try with_reducible rfl)
  (try simp only [Act.put, List.setIfInBounds_toArray, List.set_cons_zero, List.set_cons_succ])
  refine wpAnyH_take (i := 1) (oi := ⟨some 15, .load 56 (.tmp 14), 56, "ask.go:157", #[⟨0, .data⟩], none⟩) (v := ?_) rfl (by kernel_rfl) (by kernel_rfl) (by kernel_rfl) (fun _ _ _ h => h) (Or.inl ⟨by rfl, fun W hSw => ?_⟩) hHeld ?_
  rotate_left
  ·(try dsimp only at hSw); go_simp; (try with_reducible rfl)
  (try simp only [Act.put, List.setIfInBounds_toArray, List.set_cons_zero, List.set_cons_succ])
  refine wpAnyH_ready (rs := [2]) (by kernel_rfl) (by simp) ?_
  refine (AllReadyH.cons (o := ⟨some 16, .call { callee := .value (.func 57), args := #[.tmp 15, .const (.int .i64 1), .const (.int .i64 12)], argTypes := #[3, 3, 3] }, 4, "ask.go:157", #[⟨1, .data⟩], none⟩) rfl (fun K hK => ?_) AllReadyH.nil)
  rw [if_pos (by rfl)]
  go_simp
  refine (jin_yes _ _ _ _ (by decide)).mono ?_
  rintro e wz' ⟨rfl, rfl⟩
  refine hK.out _ _ (hkS _ hbz) (fun hHeld => ?_)
  clear hK K
  (try simp only [Act.put, List.setIfInBounds_toArray, List.set_cons_zero, List.set_cons_succ])
  refine wpAnyH_take (i := 3) (oi := ⟨some 17, .unOp .not 4 (.tmp 16), 4, "ask.go:157", #[⟨2, .data⟩], none⟩) (v := ?_) rfl (by kernel_rfl) (by kernel_rfl) (by kernel_rfl) (fun _ _ _ h => h) (Or.inl ⟨by rfl, fun W hSw => ?_⟩) hHeld ?_
  rotate_left
  ·(try dsimp only at hSw); go_simp; (try with_reducible rfl)
  (try simp only [Act.put, List.setIfInBounds_toArray, List.set_cons_zero, List.set_cons_succ])
  refine wpAnyH_take (i := 4) (oi := ⟨some 18, .move (.tmp 17), 4, "ask.go:157", #[⟨3, .data⟩, ⟨2, .chain⟩], none⟩) (v := ?_) rfl (by kernel_rfl) (by kernel_rfl) (by kernel_rfl) (fun _ _ _ h => h) (Or.inl ⟨by rfl, fun W hSw => ?_⟩) hHeld ?_
  rotate_left
  ·(try dsimp only at hSw); go_simp; (try with_reducible rfl)
  (try simp only [Act.put, List.setIfInBounds_toArray, List.set_cons_zero, List.set_cons_succ])
  refine wpAnyH_take (i := 5) (oi := ⟨some 19, .fieldAddr 58 (.tmp 3) 1, 0, "ask.go:157", #[⟨4, .guard⟩], some (4, false)⟩) (v := ?_) rfl (by kernel_rfl) (by kernel_rfl) (by kernel_rfl) (fun _ _ _ h => h) (Or.inl ⟨by rfl, fun W hSw => ?_⟩) hHeld ?_
  rotate_left
  ·(try dsimp only at hSw); go_simp; (try with_reducible rfl)
  (try simp only [Act.put, List.setIfInBounds_toArray, List.set_cons_zero, List.set_cons_succ])
  refine wpAnyH_take (i := 6) (oi := ⟨some 20, .load 23 (.tmp 19), 23, "ask.go:157", #[⟨5, .data⟩, ⟨4, .guard⟩], some (4, false)⟩) (v := ?_) rfl (by kernel_rfl) (by kernel_rfl) (by kernel_rfl) (fun _ _ _ h => h) (Or.inl ⟨by rfl, fun W hSw => ?_⟩) hHeld ?_
  rotate_left
  ·(try dsimp only at hSw); go_simp; (try with_reducible rfl)
  (try simp only [Act.put, List.setIfInBounds_toArray, List.set_cons_zero, List.set_cons_succ])
  refine wpAnyH_take (i := 7) (oi := ⟨some 21, .call { callee := .builtin .len, args := #[.tmp 20], argTypes := #[23] }, 3, "ask.go:157", #[⟨6, .data⟩, ⟨4, .guard⟩], some (4, false)⟩) (v := ?_) rfl (by kernel_rfl) (by kernel_rfl) (by kernel_rfl) (fun _ _ _ h => h) (Or.inl ⟨by rfl, fun W hSw => ?_⟩) hHeld ?_
  rotate_left
  ·(try dsimp only at hSw); go_simp; (try with_reducible rfl)
  (try simp only [Act.put, List.setIfInBounds_toArray, List.set_cons_zero, List.set_cons_succ])
  refine wpAnyH_take (i := 9) (oi := ⟨some 23, .fieldAddr 58 (.tmp 3) 0, 0, "ask.go:157", #[⟨4, .guard⟩], some (4, false)⟩) (v := ?_) rfl (by kernel_rfl) (by kernel_rfl) (by kernel_rfl) (fun _ _ _ h => h) (Or.inl ⟨by rfl, fun W hSw => ?_⟩) hHeld ?_
  rotate_left
  ·(try dsimp only at hSw); go_simp; (try with_reducible rfl)
  (try simp only [Act.put, List.setIfInBounds_toArray, List.set_cons_zero, List.set_cons_succ])
  refine wpAnyH_take (i := 10) (oi := ⟨some 24, .load 56 (.tmp 23), 56, "ask.go:157", #[⟨9, .data⟩, ⟨4, .guard⟩], some (4, false)⟩) (v := ?_) rfl (by kernel_rfl) (by kernel_rfl) (by kernel_rfl) (fun _ _ _ h => h) (Or.inl ⟨by rfl, fun W hSw => ?_⟩) hHeld ?_
  rotate_left
  ·(try dsimp only at hSw); go_simp; (try with_reducible rfl)
  (try simp only [Act.put, List.setIfInBounds_toArray, List.set_cons_zero, List.set_cons_succ])
  refine wpAnyH_take (i := 11) (oi := ⟨some 25, .binOp .sub 56 (.tmp 24) (.const (.int .i64 1)) 56, 56, "ask.go:157", #[⟨10, .data⟩, ⟨4, .guard⟩], some (4, false)⟩) (v := ?_) rfl (by kernel_rfl) (by kernel_rfl) (by kernel_rfl) (fun _ _ _ h => h) (Or.inl ⟨by rfl, fun W hSw => ?_⟩) hHeld ?_
  rotate_left
  ·(try dsimp only at hSw); go_simp; (try with_reducible rfl)
  (try simp only [Act.put, List.setIfInBounds_toArray, List.set_cons_zero, List.set_cons_succ])
  refine wpAnyH_ready (rs := [8]) (by kernel_rfl) (by simp) ?_
  refine (AllReadyH.cons (o := ⟨some 22, .call { callee := .value (.func 58), args := #[], argTypes := #[] }, 127, "ask.go:157", #[⟨4, .chain⟩, ⟨4, .guard⟩], some (4, false)⟩) rfl (fun K hK => ?_) AllReadyH.nil)
  rw [if_pos (by rfl)]
  go_simp
  refine (asks_is _).mono ?_
  rintro e wz ⟨rfl, hb1⟩
  replace hbz := fr_call hbz hb1
  refine hK.out _ _ (hkS _ hbz) (fun hHeld => ?_)
  clear hK K
  (try simp only [Act.put, List.setIfInBounds_toArray, List.set_cons_zero, List.set_cons_succ])
  refine wpAnyH_ready (rs := [12]) (by kernel_rfl) (by simp) ?_
  refine (AllReadyH.cons (o := ⟨some 26, .index 127 (.tmp 22) (.tmp 25), 126, "ask.go:157", #[⟨8, .data⟩, ⟨11, .data⟩, ⟨4, .guard⟩], some (4, false)⟩) rfl (fun K hK => ?_) AllReadyH.nil)
  rw [if_pos (by rfl)]
  go_simp
  refine hK.out _ _ (hkS _ hbz) (fun hHeld => ?_)
  clear hK K
  (try simp only [Act.put, List.setIfInBounds_toArray, List.set_cons_zero, List.set_cons_succ])
  refine wpAnyH_ready (rs := [13]) (by kernel_rfl) (by simp) ?_
  refine (AllReadyH.cons (o := ⟨some 27, .field 126 (.tmp 26) 1, 3, "ask.go:157", #[⟨12, .data⟩, ⟨4, .guard⟩], some (4, false)⟩) rfl (fun K hK => ?_) AllReadyH.nil)
  rw [if_pos (by rfl)]
  go_simp
  refine hK.out _ _ (hkS _ hbz) (fun hHeld => ?_)
  clear hK K
  (try simp only [Act.put, List.setIfInBounds_toArray, List.set_cons_zero, List.set_cons_succ])
  refine wpAnyH_take (i := 14) (oi := ⟨some 28, .binOp .neq 3 (.tmp 21) (.tmp 27) 3, 4, "ask.go:157", #[⟨7, .data⟩, ⟨13, .data⟩, ⟨4, .guard⟩], some (4, false)⟩) (v := ?_) rfl (by kernel_rfl) (by kernel_rfl) (by kernel_rfl) (fun _ _ _ h => h) (Or.inl ⟨by rfl, fun W hSw => ?_⟩) hHeld ?_
  rotate_left
  ·(try dsimp only at hSw); go_simp; (try with_reducible rfl)
  (try simp only [Act.put, List.setIfInBounds_toArray, List.set_cons_zero, List.set_cons_succ])
  refine wpAnyH_take (i := 15) (oi := ⟨some 29, .pick (.tmp 18) (.const (.bool true)) (.tmp 28), 4, "ask.go:157", #[⟨4, .data⟩, ⟨14, .data⟩], none⟩) (v := ?_) rfl (by kernel_rfl) (by kernel_rfl) (by kernel_rfl) (fun _ _ _ h => h) (Or.inl ⟨by rfl, fun W hSw => ?_⟩) hHeld ?_
  rotate_left
  ·(try dsimp only at hSw); go_simp; (try with_reducible rfl)
  (try simp only [Act.put, List.setIfInBounds_toArray, List.set_cons_zero, List.set_cons_succ])
  refine wpAnyH_done (by kernel_rfl) ?_ _
  refine NoPanic.normal ?_
  go_wp2_with fail
  go_meet
  case rel => exact ⟨rfl, hbz⟩
 obtain ⟨rfl, hbz⟩ := hcut
 obtain ⟨wz, hwz⟩ : ∃ w2, w2 = wc := ⟨_, rfl⟩
 subst hwz
 have hX2 := hX.keep hbz
 have hY2 := hY.keep hbz
 have hN2 := hN.keep hbz
 have H2 := Lib.hid (H.out.keep hbz)
 have hb2 := fr_call hb0 hbz
 have hlX2 := hX2.lt
 have hlY2 := hY2.lt
 have hlG := H.out.d.lt
 have hoN : ∀ ad, N = some ad → 0 < 0 → ad.block < w1.heap.size := fun ad e h => by
  obtain ⟨ad', e', hlt, _⟩ := hN.2 h
  rw [e] at e'
  cases e'
  exact hlt
 have hs12 := hbz.size
 clear hkS hX hY hN H
 have hcX := fun j => hX2.cell j
 generalize wz = w2 at *
 go_upto_region 6 with (refine wpList_store_blk rfl _ _ _ rfl w2.heap.size 130 _ _ rfl rfl (Blk.new w2 _ _) rfl (by kernel_rfl) (by simp [Value.oneCell']) ?_; intro w3 hQ hgQ)
 have hb23 : Below w2.heap.size w2 w3 := (fr_alloc (fr_refl w2) _).grown hgQ (fr_alloc (fr_refl w2) _).size (by intro k hk; cases hk; exact Nat.le_refl _)
 dsimp only [Act.put]
 have hb03 := fr_call hb2 hb23
 have hX3 := hX2.keep hb23
 have hY3 := hY2.keep hb23
 have hN3 := hN2.keep hb23
 have H3 := Lib.hid (H2.out.keep hb23)
 have hb1 := fr_alloc (fr_refl w3) (.cells #[.int .i64 0] 39)
 have hE := Blk.new w3 39 #[.int .i64 0]
 have hlQ := hQ.lt
 have hTr := jtry_ok_Ask #[.pointer (some ⟨w.heap.size, 0, none⟩), .pointer (some ⟨w2.heap.size, 0, none⟩)] (fun W => ∃ s B1 B2 B3 B4 B5 B6 k1 k2 k3 k4 k5 k6 mp, Blk W w2.heap.size 130 #[.pointer (some ⟨s, 0, none⟩), .pointer (some ⟨g, 0, none⟩)] ∧ StateAt W s B1 B2 B3 B4 B5 B6 n1 k1 n2 k2 k3 n4 k4 n5 k5 n6 k6 wm br hr wg pc lim ep mn md ma yr D m dc mp ls hs tg ho cy fe fs f ∧ Exc (fun i => i = w2.heap.size) w3 W ∧ W.cell? ⟨w3.heap.size, 0, none⟩ = some (.int .i64 0)) w3 ((Ask1_ok w.heap.size w2.heap.size g gs A1 A2 A3 A4 A5 A6 n1 c1 n2 c2 c3 n4 c4 n5 c5 n6 c6 wm br hr wg pc lim ep mn md ma yr D m dc sv ls hs tg ho cy fe fs f (w3.alloc (.cells #[.int .i64 0] 39)) (H3.out.keep hb1) hbd (hX3.alloc _) (hQ.alloc _)).mono (fun e W h => by
  obtain ⟨he, s, B1, B2, B3, B4, B5, B6, k1, k2, k3, k4, k5, k6, mp, hQ4, hS4, hx4⟩ := h
  have hEW := hx4.blk hE (by omega)
  exact ⟨he, ⟨s, B1, B2, B3, B4, B5, B6, k1, k2, k3, k4, k5, k6, mp, hQ4, hS4, Exc.pre hb1 hx4, hEW.cell 0⟩, hEW.cell 0, hEW.frozen 0⟩))
 clear hX2 hY2 hN2 H2 hcX hbd hE hb1 hQ
 go_wp2_with fail
 refine hTr.mono ?_
 rintro e w5 ⟨rfl, w4, ⟨s, B1, B2, B3, B4, B5, B6, k1, k2, k3, k4, k5, k6, mp, hQ4, hS4, hx4, hc4⟩, rfl⟩
 rw [setCell_same hc4]
 have hG4 := hx4.blk H3.out.d (by omega)
 have hY4 := hx4.blk hY3 (by omega)
 have hs02 := hb2.size
 have hN4 : Rd w4 N 0 ns := by
  by_cases h : 0 < 0
  ·exact hx4.rd hN3 (fun ad e => by have := hoN ad e h; show ¬ ad.block = w2.heap.size; omega)
  ·exact ⟨hN3.1, fun h' => absurd h' h⟩
 have hb04 : Below w.heap.size w w4 := ⟨hx4.os.trans hb03.os, hx4.tape.trans hb03.tape, hx4.output.trans hb03.output, Nat.le_trans hb03.size hx4.size, fun i hi => (hx4.block i (Nat.lt_of_lt_of_le hi hb03.size) (by show ¬ i = _; omega)).trans (hb03.block i hi)⟩
 clear hTr H3 hX3 hY3 hN3 hc4 hx4 hb03 hb2 hb23 hgQ hb0 hoN
 go_upto_region 10 with (refine wpList_store_blk rfl _ _ _ rfl w4.heap.size 133 _ _ rfl rfl (Blk.new w4 _ _) rfl (by kernel_rfl) (by simp [Value.oneCell']) ?_; intro w6 hF hgF)
 have hb46 : Below w4.heap.size w4 w6 := (fr_alloc (fr_refl w4) _).grown hgF (fr_alloc (fr_refl w4) _).size (by intro k hk; cases hk; exact Nat.le_refl _)
 (try dsimp only [Act.put])
 have hQ6 := hQ4.keep hb46
 have hY6 := hY4.keep hb46
 have hG6 := hG4.keep hb46
 have hN6 := hN4.keep hb46
 have hS6 := Lib.hid (hS4.keep hb46)
 have hb06 := fr_call hb04 hb46
 clear hQ4 hY4 hG4 hN4 hS4 hb04 hb46 hgF
 have hbz := fr_drew (fr_refl w6)
 have hkS : ∀ W, Below w6.heap.size w6 W → W.cell? ⟨w.heap.size + 1, 0, none⟩ = some (.int .i64 1) ∧ W.cell? ⟨w.heap.size + 1, 1, none⟩ = some (.slice N 0 nc) ∧ W.cell? ⟨w2.heap.size, 0, none⟩ = some (.pointer (some ⟨s, 0, none⟩)) ∧ W.cell? ⟨w2.heap.size, 1, none⟩ = some (.pointer (some ⟨g, 0, none⟩)) ∧ W.cell? ⟨w4.heap.size, 0, none⟩ = some (.func (.func 60) #[] #[]) := fun W hb => ⟨(hY6.keep hb).cell 0, (hY6.keep hb).cell 1, (hQ6.keep hb).cell 0, (hQ6.keep hb).cell 1, (hF.keep hb).cell 0⟩
 clear hF hY6 hQ6
 refine wp_region_held_drew (S := fun W => W.cell? ⟨w.heap.size + 1, 0, none⟩ = some (.int .i64 1) ∧ W.cell? ⟨w.heap.size + 1, 1, none⟩ = some (.slice N 0 nc) ∧ W.cell? ⟨w2.heap.size, 0, none⟩ = some (.pointer (some ⟨s, 0, none⟩)) ∧ W.cell? ⟨w2.heap.size, 1, none⟩ = some (.pointer (some ⟨g, 0, none⟩)) ∧ W.cell? ⟨w4.heap.size, 0, none⟩ = some (.func (.func 60) #[] #[])) (by kernel_rfl) (hkS _ hbz) (fun hHeld => ?_)
 generalize w6.drew = wz at hbz hHeld ⊢
 -- the region, step by step, in whatever order
 refine wpAnyH_take (i := 0) (oi := ⟨some 39, .fieldAddr 58 (.tmp 3) 0, 0, "ask.go:165", #[], none⟩) (v := ?_) rfl (by kernel_rfl) (by kernel_rfl) (by kernel_rfl) (fun _ _ _ h => h) (Or.inl ⟨by rfl, fun W hSw => ?_⟩) hHeld ?_
 rotate_left
 ·(try dsimp only at hSw); go_simp; (try with_reducible rfl)
 (try simp only [Act.put, List.setIfInBounds_toArray, List.set_cons_zero, List.set_cons_succ])
 refine wpAnyH_take (i := 1) (oi := ⟨some 40, .load 56 (.tmp 39), 56, "ask.go:165", #[⟨0, .data⟩], none⟩) (v := ?_) rfl (by kernel_rfl) (by kernel_rfl) (by kernel_rfl) (fun _ _ _ h => h) (Or.inl ⟨by rfl, fun W hSw => ?_⟩) hHeld ?_
 rotate_left
 ·(try dsimp only at hSw); go_simp; (try with_reducible rfl)
 (try simp only [Act.put, List.setIfInBounds_toArray, List.set_cons_zero, List.set_cons_succ])
 refine wpAnyH_take (i := 2) (oi := ⟨some 41, .binOp .sub 56 (.tmp 40) (.const (.int .i64 1)) 56, 56, "ask.go:165", #[⟨1, .data⟩], none⟩) (v := ?_) rfl (by kernel_rfl) (by kernel_rfl) (by kernel_rfl) (fun _ _ _ h => h) (Or.inl ⟨by rfl, fun W hSw => ?_⟩) hHeld ?_
 rotate_left
 ·(try dsimp only at hSw); go_simp; (try with_reducible rfl)
 (try simp only [Act.put, List.setIfInBounds_toArray, List.set_cons_zero, List.set_cons_succ])
 refine wpAnyH_take (i := 3) (oi := ⟨some 42, .indexAddr 133 (.tmp 8) (.tmp 41), 0, "ask.go:165", #[⟨2, .data⟩], none⟩) (v := ?_) rfl (by kernel_rfl) (by kernel_rfl) (by kernel_rfl) (fun _ _ _ h => h) (Or.inl ⟨by rfl, fun W hSw => ?_⟩) hHeld ?_
 rotate_left
 ·(try dsimp only at hSw); go_simp; (try with_reducible rfl)
 (try simp only [Act.put, List.setIfInBounds_toArray, List.set_cons_zero, List.set_cons_succ])
 refine wpAnyH_take (i := 4) (oi := ⟨some 43, .load 131 (.tmp 42), 131, "ask.go:165", #[⟨3, .data⟩], none⟩) (v := ?_) rfl (by kernel_rfl) (by kernel_rfl) (by kernel_rfl) (fun _ _ _ h => h) (Or.inl ⟨by rfl, fun W hSw => ?_⟩) hHeld ?_
 rotate_left
 ·(try dsimp only at hSw); go_simp; (try with_reducible rfl)
 (try simp only [Act.put, List.setIfInBounds_toArray, List.set_cons_zero, List.set_cons_succ])
 refine wpAnyH_take (i := 5) (oi := ⟨some 44, .load 130 (.tmp 6), 130, "ask.go:165", #[], none⟩) (v := ?_) rfl (by kernel_rfl) (by kernel_rfl) (by kernel_rfl) (fun _ _ _ h => h) (Or.inl ⟨by rfl, fun W hSw => ?_⟩) hHeld ?_
 rotate_left
 ·(try dsimp only at hSw); go_simp; (try with_reducible rfl)
 (try simp only [Act.put, List.setIfInBounds_toArray, List.set_cons_zero, List.set_cons_succ])
 refine wpAnyH_take (i := 6) (oi := ⟨some 45, .fieldAddr 58 (.tmp 3) 1, 0, "ask.go:165", #[], none⟩) (v := ?_) rfl (by kernel_rfl) (by kernel_rfl) (by kernel_rfl) (fun _ _ _ h => h) (Or.inl ⟨by rfl, fun W hSw => ?_⟩) hHeld ?_
 rotate_left
 ·(try dsimp only at hSw); go_simp; (try with_reducible rfl)
 (try simp only [Act.put, List.setIfInBounds_toArray, List.set_cons_zero, List.set_cons_succ])
 refine wpAnyH_take (i := 7) (oi := ⟨some 46, .load 23 (.tmp 45), 23, "ask.go:165", #[⟨6, .data⟩], none⟩) (v := ?_) rfl (by kernel_rfl) (by kernel_rfl) (by kernel_rfl) (fun _ _ _ h => h) (Or.inl ⟨by rfl, fun W hSw => ?_⟩) hHeld ?_
 rotate_left
 ·(try dsimp only at hSw); go_simp; (try with_reducible rfl)
 (try simp only [Act.put, List.setIfInBounds_toArray, List.set_cons_zero, List.set_cons_succ])
 refine wpAnyH_ready (rs := [8]) (by kernel_rfl) (by simp) ?_
 refine (AllReadyH.cons (o := ⟨some 47, .call { callee := .value (.tmp 43), args := #[.tmp 44, .tmp 46], argTypes := #[130, 23] }, 54, "ask.go:165", #[⟨4, .data⟩, ⟨5, .data⟩, ⟨7, .data⟩], none⟩) rfl (fun K hK => ?_) AllReadyH.nil)
 rw [if_pos (by rfl)]
 go_simp
 refine (HM.out s B1 B2 B3 B4 B5 B6 k1 k2 k3 k4 k5 k6 mp wz (hS6.out.keep hbz) (hG6.keep hbz) (hN6.keep hbz)).mono ?_
 rintro e wz ⟨A, c, rfl, hA, hb1⟩
 replace hbz := fr_call hbz hb1
 refine hK.out _ _ (hkS _ hbz) (fun hHeld => ?_)
 clear hK K
 (try simp only [Act.put, List.setIfInBounds_toArray, List.set_cons_zero, List.set_cons_succ])
 refine wpAnyH_take (i := 9) (oi := ⟨some 38, .move (.tmp 47), 54, "ask.go:165", #[⟨8, .data⟩], none⟩) (v := ?_) rfl (by kernel_rfl) (by kernel_rfl) (by kernel_rfl) (fun _ _ _ h => h) (Or.inl ⟨by rfl, fun W hSw => ?_⟩) hHeld ?_
 rotate_left
 ·(try dsimp only at hSw); go_simp; (try with_reducible rfl)
 (try simp only [Act.put, List.setIfInBounds_toArray, List.set_cons_zero, List.set_cons_succ])
 refine wpAnyH_take (i := 10) (oi := ⟨some 48, .extract (.tmp 38) 0, 23, "ask.go:165", #[⟨9, .data⟩], none⟩) (v := ?_) rfl (by kernel_rfl) (by kernel_rfl) (by kernel_rfl) (fun _ _ _ h => h) (Or.inl ⟨by rfl, fun W hSw => ?_⟩) hHeld ?_
 rotate_left
 ·(try dsimp only at hSw); go_simp; (try with_reducible rfl)
 (try simp only [Act.put, List.setIfInBounds_toArray, List.set_cons_zero, List.set_cons_succ])
 refine wpAnyH_take (i := 11) (oi := ⟨some 49, .extract (.tmp 38) 1, 39, "ask.go:165", #[⟨9, .data⟩, ⟨12, .gcOnly .lateStores⟩], none⟩) (v := ?_) rfl (by kernel_rfl) (by kernel_rfl) (by kernel_rfl) (fun _ _ _ h => h) (Or.inl ⟨by rfl, fun W hSw => ?_⟩) hHeld ?_
 rotate_left
 ·(try dsimp only at hSw); go_simp; (try with_reducible rfl)
 (try simp only [Act.put, List.setIfInBounds_toArray, List.set_cons_zero, List.set_cons_succ])
 refine wpAnyH_take (i := 12) (oi := ⟨some 9, .assign (.tmp 48), 23, "ask.go:165", #[⟨10, .data⟩, ⟨8, .chain⟩, ⟨0, .phase⟩, ⟨1, .phase⟩, ⟨2, .phase⟩, ⟨3, .phase⟩, ⟨4, .phase⟩, ⟨5, .phase⟩, ⟨6, .phase⟩, ⟨7, .phase⟩, ⟨8, .phase⟩, ⟨9, .phase⟩, ⟨10, .phase⟩, ⟨11, .textOnly .lateStores⟩], none⟩) (v := ?_) rfl (by kernel_rfl) (by kernel_rfl) (by kernel_rfl) (fun _ _ _ h => h) (Or.inl ⟨by rfl, fun W hSw => ?_⟩) hHeld ?_
 rotate_left
 ·(try dsimp only at hSw); go_simp; (try with_reducible rfl)
 (try simp only [Act.put, List.setIfInBounds_toArray, List.set_cons_zero, List.set_cons_succ])
 refine wpAnyH_take (i := 13) (oi := ⟨some 10, .assign (.tmp 49), 39, "ask.go:165", #[⟨11, .data⟩, ⟨12, .chain⟩, ⟨0, .phase⟩, ⟨1, .phase⟩, ⟨2, .phase⟩, ⟨3, .phase⟩, ⟨4, .phase⟩, ⟨5, .phase⟩, ⟨6, .phase⟩, ⟨7, .phase⟩, ⟨8, .phase⟩, ⟨9, .phase⟩, ⟨10, .phase⟩, ⟨11, .phase⟩, ⟨12, .phase⟩], none⟩) (v := ?_) rfl (by kernel_rfl) (by kernel_rfl) (by kernel_rfl) (fun _ _ _ h => h) (Or.inl ⟨by rfl, fun W hSw => ?_⟩) hHeld ?_
 rotate_left
 ·(try dsimp only at hSw); go_simp; (try with_reducible rfl)
 (try simp only [Act.put, List.setIfInBounds_toArray, List.set_cons_zero, List.set_cons_succ])
 refine wpAnyH_done (by kernel_rfl) ?_ _
 go_wp2_with fail
 go_ret2
 exact ⟨A, c, rfl, hA, fr_call hb06 hbz⟩
set_option maxRecDepth 100000 in
set_option maxHeartbeats 16000000 in
theorem Ask_works (g gs : Nat) (A1 A2 A3 A4 A5 A6 : Option Addr) (n1 c1 n2 c2 c3 n4 c4 n5 c5 n6 c6 wm br hr wg pc : Nat) (lim ep mn md ma yr : Int) (D : Option Addr) (m dc : Nat) (sv : Value) (ls : List Lk) (hs : List Int) (tg : List (Int × Int)) (ho cy : List Int) (fe : List Feast) (fs : List Int) (f : Int) (N : Option Addr) (nc : Nat) (ns : List Int) (rn : Nat) (rl : List Int) (w : World) (h : DeskAt w g gs A1 A2 A3 A4 A5 A6 n1 c1 n2 c2 c3 n4 c4 n5 c5 n6 c6 wm br hr wg pc lim ep mn md ma yr D m dc (.slice none 0 0) sv ls hs tg ho cy fe fs f) (hbd : n1 ≤ 1000 ∧ n2 ≤ 1000 ∧ n4 ≤ 1000 ∧ n5 ≤ 1000 ∧ n6 ≤ 1000) (hN : Rd w N 1 ns)
  (hmeth : ∀ s B1 B2 B3 B4 B5 B6 k1 k2 k3 k4 k5 k6 mp W, StateAt W s B1 B2 B3 B4 B5 B6 n1 k1 n2 k2 k3 n4 k4 n5 k5 n6 k6 wm br hr wg pc lim ep mn md ma yr D m dc mp ls hs tg ho cy fe fs f → Blk W g 98 #[.pointer (some ⟨gs, 0, none⟩), .slice D m dc, .slice none 0 0, sv] → Rd W N 1 ns → Calls Tryz.prog 67 #[.agg #[.pointer (some ⟨s, 0, none⟩), .pointer (some ⟨g, 0, none⟩)], .slice N 1 nc] W (RetR W rn rl)) :
  Calls Tryz.prog 13 #[.pointer (some ⟨g, 0, none⟩), .agg #[.int .i64 8, .slice N 1 nc]] w (RetR w rn rl) := by
 have hmf : ∀ (fn : Fn) (first cap : Array Value) (w : World), (Instr.makeFunc fn first cap).run Tryz.prog w = .ok (.func fn first cap) w := fun _ _ _ _ => rfl
 have hix : ∀ w, (Instr.index 127 (.agg asksV) (.int .i64 7)).run Tryz.prog w = .ok (.agg #[.string ⟨#[119, 111, 114, 107, 115]⟩, .int .i64 1]) w := fun w => by kernel_rfl
 have hfd : ∀ w, (Instr.field 126 (.agg #[.string ⟨#[119, 111, 114, 107, 115]⟩, .int .i64 1]) 1).run Tryz.prog w = .ok (.int .i64 1) w := fun w => by kernel_rfl
 have hwr : IntKind.i64.wrap 7 = 7 := by decide
 have hb0 := fr_alloc (fr_alloc (fr_refl w) (.cells #[.pointer (some ⟨g, 0, none⟩)] 38)) (.cells #[.int .i64 8, .slice N 1 nc] 58)
 have hX := (Blk.new w 38 #[.pointer (some ⟨g, 0, none⟩)]).alloc (.cells #[.int .i64 8, .slice N 1 nc] 58)
 have hY : Blk ((w.alloc (.cells #[.pointer (some ⟨g, 0, none⟩)] 38)).alloc (.cells #[.int .i64 8, .slice N 1 nc] 58)) (w.heap.size + 1) 58 #[.int .i64 8, .slice N 1 nc] := Blk.new_at _ _ (by simp)
 obtain ⟨w1, hw1⟩ : ∃ w1, (w.alloc (.cells #[.pointer (some ⟨g, 0, none⟩)] 38)).alloc (.cells #[.int .i64 8, .slice N 1 nc] 58) = w1 := ⟨_, rfl⟩
 rw [hw1] at hb0 hX hY
 replace h := h.keep hb0
 replace hN := hN.keep hb0
 have hcX := fun j => hX.cell j
 have hG := h.d
 have H := Lib.hid h
 have HM := Lib.hid hmeth
 have hs0 := hb0.size
 clear h hmeth
 go_enter Tryz.func13, Tryz.ntmps13
 go_upto_region 1 with (fail)
 (try rw [hw1])
 clear hw1
 go_wp2_with fail
 refine (isOpen_yes g gs _ _ _ w1 hG).mono ?_
 rintro e w1' ⟨rfl, rfl⟩
 go_upto_region 3 with (fail)
 have hbz := fr_drew (fr_refl w1)
 have hkS : ∀ W, Below w1.heap.size w1 W → W.cell? ⟨w.heap.size + 1, 0, none⟩ = some (.int .i64 8) ∧ W.cell? ⟨w.heap.size + 1, 1, none⟩ = some (.slice N 1 nc) := fun W hb => ⟨(hY.keep hb).cell 0, (hY.keep hb).cell 1⟩
 clear hcX hG
 go_cut [29] from 14 (fun s29 wc => s29 = .bool false ∧ Below w1.heap.size w1 wc)
 case first =>
  refine wp_region_noPanic ?_
  refine wp_region_held_drew (S := fun W => W.cell? ⟨w.heap.size + 1, 0, none⟩ = some (.int .i64 8) ∧ W.cell? ⟨w.heap.size + 1, 1, none⟩ = some (.slice N 1 nc)) (by kernel_rfl) (hkS _ hbz) (fun hHeld => ?_)
  generalize w1.drew = wz at hbz hHeld ⊢
  -- the region, step by step, in whatever order
  refine wpAnyH_take (i := 0) (oi := ⟨some 14, .fieldAddr 58 (.tmp 3) 0, 0, "ask.go:157", #[], none⟩) (v := ?_) rfl (by kernel_rfl) (by kernel_rfl) (by kernel_rfl) (fun _ _ _ h => h) (Or.inl ⟨by rfl, fun W hSw => ?_⟩) hHeld ?_
  rotate_left
  ·(try dsimp only at hSw); go_simp; (try with_reducible rfl)
  (try simp only [Act.put, List.setIfInBounds_toArray, List.set_cons_zero, List.set_cons_succ])
  refine wpAnyH_take (i := 1) (oi := ⟨some 15, .load 56 (.tmp 14), 56, "ask.go:157", #[⟨0, .data⟩], none⟩) (v := ?_) rfl (by kernel_rfl) (by kernel_rfl) (by kernel_rfl) (fun _ _ _ h => h) (Or.inl ⟨by rfl, fun W hSw => ?_⟩) hHeld ?_
  rotate_left
  ·(try dsimp only at hSw); go_simp; (try with_reducible rfl)
  (try simp only [Act.put, List.setIfInBounds_toArray, List.set_cons_zero, List.set_cons_succ])
  refine wpAnyH_ready (rs := [2]) (by kernel_rfl) (by simp) ?_
  refine (AllReadyH.cons (o := ⟨some 16, .call { callee := .value (.func 57), args := #[.tmp 15, .const (.int .i64 1), .const (.int .i64 12)], argTypes := #[3, 3, 3] }, 4, "ask.go:157", #[⟨1, .data⟩], none⟩) rfl (fun K hK => ?_) AllReadyH.nil)
  rw [if_pos (by rfl)]
  go_simp
  refine (jin_yes _ _ _ _ (by decide)).mono ?_
  rintro e wz' ⟨rfl, rfl⟩
  refine hK.out _ _ (hkS _ hbz) (fun hHeld => ?_)
  clear hK K
  (try simp only [Act.put, List.setIfInBounds_toArray, List.set_cons_zero, List.set_cons_succ])
  refine wpAnyH_take (i := 3) (oi := ⟨some 17, .unOp .not 4 (.tmp 16), 4, "ask.go:157", #[⟨2, .data⟩], none⟩) (v := ?_) rfl (by kernel_rfl) (by kernel_rfl) (by kernel_rfl) (fun _ _ _ h => h) (Or.inl ⟨by rfl, fun W hSw => ?_⟩) hHeld ?_
  rotate_left
  ·(try dsimp only at hSw); go_simp; (try with_reducible rfl)
  (try simp only [Act.put, List.setIfInBounds_toArray, List.set_cons_zero, List.set_cons_succ])
  refine wpAnyH_take (i := 4) (oi := ⟨some 18, .move (.tmp 17), 4, "ask.go:157", #[⟨3, .data⟩, ⟨2, .chain⟩], none⟩) (v := ?_) rfl (by kernel_rfl) (by kernel_rfl) (by kernel_rfl) (fun _ _ _ h => h) (Or.inl ⟨by rfl, fun W hSw => ?_⟩) hHeld ?_
  rotate_left
  ·(try dsimp only at hSw); go_simp; (try with_reducible rfl)
  (try simp only [Act.put, List.setIfInBounds_toArray, List.set_cons_zero, List.set_cons_succ])
  refine wpAnyH_take (i := 5) (oi := ⟨some 19, .fieldAddr 58 (.tmp 3) 1, 0, "ask.go:157", #[⟨4, .guard⟩], some (4, false)⟩) (v := ?_) rfl (by kernel_rfl) (by kernel_rfl) (by kernel_rfl) (fun _ _ _ h => h) (Or.inl ⟨by rfl, fun W hSw => ?_⟩) hHeld ?_
  rotate_left
  ·(try dsimp only at hSw); go_simp; (try with_reducible rfl)
  (try simp only [Act.put, List.setIfInBounds_toArray, List.set_cons_zero, List.set_cons_succ])
  refine wpAnyH_take (i := 6) (oi := ⟨some 20, .load 23 (.tmp 19), 23, "ask.go:157", #[⟨5, .data⟩, ⟨4, .guard⟩], some (4, false)⟩) (v := ?_) rfl (by kernel_rfl) (by kernel_rfl) (by kernel_rfl) (fun _ _ _ h => h) (Or.inl ⟨by rfl, fun W hSw => ?_⟩) hHeld ?_
  rotate_left
  ·(try dsimp only at hSw); go_simp; (try with_reducible rfl)
  (try simp only [Act.put, List.setIfInBounds_toArray, List.set_cons_zero, List.set_cons_succ])
  refine wpAnyH_take (i := 7) (oi := ⟨some 21, .call { callee := .builtin .len, args := #[.tmp 20], argTypes := #[23] }, 3, "ask.go:157", #[⟨6, .data⟩, ⟨4, .guard⟩], some (4, false)⟩) (v := ?_) rfl (by kernel_rfl) (by kernel_rfl) (by kernel_rfl) (fun _ _ _ h => h) (Or.inl ⟨by rfl, fun W hSw => ?_⟩) hHeld ?_
  rotate_left
  ·(try dsimp only at hSw); go_simp; (try with_reducible rfl)
  (try simp only [Act.put, List.setIfInBounds_toArray, List.set_cons_zero, List.set_cons_succ])
  refine wpAnyH_take (i := 9) (oi := ⟨some 23, .fieldAddr 58 (.tmp 3) 0, 0, "ask.go:157", #[⟨4, .guard⟩], some (4, false)⟩) (v := ?_) rfl (by kernel_rfl) (by kernel_rfl) (by kernel_rfl) (fun _ _ _ h => h) (Or.inl ⟨by rfl, fun W hSw => ?_⟩) hHeld ?_
  rotate_left
  ·(try dsimp only at hSw); go_simp; (try with_reducible rfl)
  (try simp only [Act.put, List.setIfInBounds_toArray, List.set_cons_zero, List.set_cons_succ])
  refine wpAnyH_take (i := 10) (oi := ⟨some 24, .load 56 (.tmp 23), 56, "ask.go:157", #[⟨9, .data⟩, ⟨4, .guard⟩], some (4, false)⟩) (v := ?_) rfl (by kernel_rfl) (by kernel_rfl) (by kernel_rfl) (fun _ _ _ h => h) (Or.inl ⟨by rfl, fun W hSw => ?_⟩) hHeld ?_
  rotate_left
  ·(try dsimp only at hSw); go_simp; (try with_reducible rfl)
  (try simp only [Act.put, List.setIfInBounds_toArray, List.set_cons_zero, List.set_cons_succ])
  refine wpAnyH_take (i := 11) (oi := ⟨some 25, .binOp .sub 56 (.tmp 24) (.const (.int .i64 1)) 56, 56, "ask.go:157", #[⟨10, .data⟩, ⟨4, .guard⟩], some (4, false)⟩) (v := ?_) rfl (by kernel_rfl) (by kernel_rfl) (by kernel_rfl) (fun _ _ _ h => h) (Or.inl ⟨by rfl, fun W hSw => ?_⟩) hHeld ?_
  rotate_left
  ·(try dsimp only at hSw); go_simp; (try with_reducible rfl)
  (try simp only [Act.put, List.setIfInBounds_toArray, List.set_cons_zero, List.set_cons_succ])
  refine wpAnyH_ready (rs := [8]) (by kernel_rfl) (by simp) ?_
  refine (AllReadyH.cons (o := ⟨some 22, .call { callee := .value (.func 58), args := #[], argTypes := #[] }, 127, "ask.go:157", #[⟨4, .chain⟩, ⟨4, .guard⟩], some (4, false)⟩) rfl (fun K hK => ?_) AllReadyH.nil)
  rw [if_pos (by rfl)]
  go_simp
  refine (asks_is _).mono ?_
  rintro e wz ⟨rfl, hb1⟩
  replace hbz := fr_call hbz hb1
  refine hK.out _ _ (hkS _ hbz) (fun hHeld => ?_)
  clear hK K
  (try simp only [Act.put, List.setIfInBounds_toArray, List.set_cons_zero, List.set_cons_succ])
  refine wpAnyH_ready (rs := [12]) (by kernel_rfl) (by simp) ?_
  refine (AllReadyH.cons (o := ⟨some 26, .index 127 (.tmp 22) (.tmp 25), 126, "ask.go:157", #[⟨8, .data⟩, ⟨11, .data⟩, ⟨4, .guard⟩], some (4, false)⟩) rfl (fun K hK => ?_) AllReadyH.nil)
  rw [if_pos (by rfl)]
  go_simp
  refine hK.out _ _ (hkS _ hbz) (fun hHeld => ?_)
  clear hK K
  (try simp only [Act.put, List.setIfInBounds_toArray, List.set_cons_zero, List.set_cons_succ])
  refine wpAnyH_ready (rs := [13]) (by kernel_rfl) (by simp) ?_
  refine (AllReadyH.cons (o := ⟨some 27, .field 126 (.tmp 26) 1, 3, "ask.go:157", #[⟨12, .data⟩, ⟨4, .guard⟩], some (4, false)⟩) rfl (fun K hK => ?_) AllReadyH.nil)
  rw [if_pos (by rfl)]
  go_simp
  refine hK.out _ _ (hkS _ hbz) (fun hHeld => ?_)
  clear hK K
  (try simp only [Act.put, List.setIfInBounds_toArray, List.set_cons_zero, List.set_cons_succ])
  refine wpAnyH_take (i := 14) (oi := ⟨some 28, .binOp .neq 3 (.tmp 21) (.tmp 27) 3, 4, "ask.go:157", #[⟨7, .data⟩, ⟨13, .data⟩, ⟨4, .guard⟩], some (4, false)⟩) (v := ?_) rfl (by kernel_rfl) (by kernel_rfl) (by kernel_rfl) (fun _ _ _ h => h) (Or.inl ⟨by rfl, fun W hSw => ?_⟩) hHeld ?_
  rotate_left
  ·(try dsimp only at hSw); go_simp; (try with_reducible rfl)
  (try simp only [Act.put, List.setIfInBounds_toArray, List.set_cons_zero, List.set_cons_succ])
  refine wpAnyH_take (i := 15) (oi := ⟨some 29, .pick (.tmp 18) (.const (.bool true)) (.tmp 28), 4, "ask.go:157", #[⟨4, .data⟩, ⟨14, .data⟩], none⟩) (v := ?_) rfl (by kernel_rfl) (by kernel_rfl) (by kernel_rfl) (fun _ _ _ h => h) (Or.inl ⟨by rfl, fun W hSw => ?_⟩) hHeld ?_
  rotate_left
  ·(try dsimp only at hSw); go_simp; (try with_reducible rfl)
  (try simp only [Act.put, List.setIfInBounds_toArray, List.set_cons_zero, List.set_cons_succ])
  refine wpAnyH_done (by kernel_rfl) ?_ _
  refine NoPanic.normal ?_
  go_wp2_with fail
  go_meet
  case rel => exact ⟨rfl, hbz⟩
 obtain ⟨rfl, hbz⟩ := hcut
 obtain ⟨wz, hwz⟩ : ∃ w2, w2 = wc := ⟨_, rfl⟩
 subst hwz
 have hX2 := hX.keep hbz
 have hY2 := hY.keep hbz
 have hN2 := hN.keep hbz
 have H2 := Lib.hid (H.out.keep hbz)
 have hb2 := fr_call hb0 hbz
 have hlX2 := hX2.lt
 have hlY2 := hY2.lt
 have hlG := H.out.d.lt
 have hoN : ∀ ad, N = some ad → 0 < 1 → ad.block < w1.heap.size := fun ad e h => by
  obtain ⟨ad', e', hlt, _⟩ := hN.2 h
  rw [e] at e'
  cases e'
  exact hlt
 have hs12 := hbz.size
 clear hkS hX hY hN H
 have hcX := fun j => hX2.cell j
 generalize wz = w2 at *
 go_upto_region 6 with (refine wpList_store_blk rfl _ _ _ rfl w2.heap.size 130 _ _ rfl rfl (Blk.new w2 _ _) rfl (by kernel_rfl) (by simp [Value.oneCell']) ?_; intro w3 hQ hgQ)
 have hb23 : Below w2.heap.size w2 w3 := (fr_alloc (fr_refl w2) _).grown hgQ (fr_alloc (fr_refl w2) _).size (by intro k hk; cases hk; exact Nat.le_refl _)
 dsimp only [Act.put]
 have hb03 := fr_call hb2 hb23
 have hX3 := hX2.keep hb23
 have hY3 := hY2.keep hb23
 have hN3 := hN2.keep hb23
 have H3 := Lib.hid (H2.out.keep hb23)
 have hb1 := fr_alloc (fr_refl w3) (.cells #[.int .i64 0] 39)
 have hE := Blk.new w3 39 #[.int .i64 0]
 have hlQ := hQ.lt
 have hTr := jtry_ok_Ask #[.pointer (some ⟨w.heap.size, 0, none⟩), .pointer (some ⟨w2.heap.size, 0, none⟩)] (fun W => ∃ s B1 B2 B3 B4 B5 B6 k1 k2 k3 k4 k5 k6 mp, Blk W w2.heap.size 130 #[.pointer (some ⟨s, 0, none⟩), .pointer (some ⟨g, 0, none⟩)] ∧ StateAt W s B1 B2 B3 B4 B5 B6 n1 k1 n2 k2 k3 n4 k4 n5 k5 n6 k6 wm br hr wg pc lim ep mn md ma yr D m dc mp ls hs tg ho cy fe fs f ∧ Exc (fun i => i = w2.heap.size) w3 W ∧ W.cell? ⟨w3.heap.size, 0, none⟩ = some (.int .i64 0)) w3 ((Ask1_ok w.heap.size w2.heap.size g gs A1 A2 A3 A4 A5 A6 n1 c1 n2 c2 c3 n4 c4 n5 c5 n6 c6 wm br hr wg pc lim ep mn md ma yr D m dc sv ls hs tg ho cy fe fs f (w3.alloc (.cells #[.int .i64 0] 39)) (H3.out.keep hb1) hbd (hX3.alloc _) (hQ.alloc _)).mono (fun e W h => by
  obtain ⟨he, s, B1, B2, B3, B4, B5, B6, k1, k2, k3, k4, k5, k6, mp, hQ4, hS4, hx4⟩ := h
  have hEW := hx4.blk hE (by omega)
  exact ⟨he, ⟨s, B1, B2, B3, B4, B5, B6, k1, k2, k3, k4, k5, k6, mp, hQ4, hS4, Exc.pre hb1 hx4, hEW.cell 0⟩, hEW.cell 0, hEW.frozen 0⟩))
 clear hX2 hY2 hN2 H2 hcX hbd hE hb1 hQ
 go_wp2_with fail
 refine hTr.mono ?_
 rintro e w5 ⟨rfl, w4, ⟨s, B1, B2, B3, B4, B5, B6, k1, k2, k3, k4, k5, k6, mp, hQ4, hS4, hx4, hc4⟩, rfl⟩
 rw [setCell_same hc4]
 have hG4 := hx4.blk H3.out.d (by omega)
 have hY4 := hx4.blk hY3 (by omega)
 have hs02 := hb2.size
 have hN4 : Rd w4 N 1 ns := by
  by_cases h : 0 < 1
  ·exact hx4.rd hN3 (fun ad e => by have := hoN ad e h; show ¬ ad.block = w2.heap.size; omega)
  ·exact ⟨hN3.1, fun h' => absurd h' h⟩
 have hb04 : Below w.heap.size w w4 := ⟨hx4.os.trans hb03.os, hx4.tape.trans hb03.tape, hx4.output.trans hb03.output, Nat.le_trans hb03.size hx4.size, fun i hi => (hx4.block i (Nat.lt_of_lt_of_le hi hb03.size) (by show ¬ i = _; omega)).trans (hb03.block i hi)⟩
 clear hTr H3 hX3 hY3 hN3 hc4 hx4 hb03 hb2 hb23 hgQ hb0 hoN
 go_upto_region 10 with (refine wpList_store_blk rfl _ _ _ rfl w4.heap.size 133 _ _ rfl rfl (Blk.new w4 _ _) rfl (by kernel_rfl) (by simp [Value.oneCell']) ?_; intro w6 hF hgF)
 have hb46 : Below w4.heap.size w4 w6 := (fr_alloc (fr_refl w4) _).grown hgF (fr_alloc (fr_refl w4) _).size (by intro k hk; cases hk; exact Nat.le_refl _)
 (try dsimp only [Act.put])
 have hQ6 := hQ4.keep hb46
 have hY6 := hY4.keep hb46
 have hG6 := hG4.keep hb46
 have hN6 := hN4.keep hb46
 have hS6 := Lib.hid (hS4.keep hb46)
 have hb06 := fr_call hb04 hb46
 clear hQ4 hY4 hG4 hN4 hS4 hb04 hb46 hgF
 have hbz := fr_drew (fr_refl w6)
 have hkS : ∀ W, Below w6.heap.size w6 W → W.cell? ⟨w.heap.size + 1, 0, none⟩ = some (.int .i64 8) ∧ W.cell? ⟨w.heap.size + 1, 1, none⟩ = some (.slice N 1 nc) ∧ W.cell? ⟨w2.heap.size, 0, none⟩ = some (.pointer (some ⟨s, 0, none⟩)) ∧ W.cell? ⟨w2.heap.size, 1, none⟩ = some (.pointer (some ⟨g, 0, none⟩)) ∧ W.cell? ⟨w4.heap.size, 7, none⟩ = some (.func (.func 67) #[] #[]) := fun W hb => ⟨(hY6.keep hb).cell 0, (hY6.keep hb).cell 1, (hQ6.keep hb).cell 0, (hQ6.keep hb).cell 1, (hF.keep hb).cell 7⟩
 clear hF hY6 hQ6
 refine wp_region_held_drew (S := fun W => W.cell? ⟨w.heap.size + 1, 0, none⟩ = some (.int .i64 8) ∧ W.cell? ⟨w.heap.size + 1, 1, none⟩ = some (.slice N 1 nc) ∧ W.cell? ⟨w2.heap.size, 0, none⟩ = some (.pointer (some ⟨s, 0, none⟩)) ∧ W.cell? ⟨w2.heap.size, 1, none⟩ = some (.pointer (some ⟨g, 0, none⟩)) ∧ W.cell? ⟨w4.heap.size, 7, none⟩ = some (.func (.func 67) #[] #[])) (by kernel_rfl) (hkS _ hbz) (fun hHeld => ?_)
 generalize w6.drew = wz at hbz hHeld ⊢
 -- the region, step by step, in whatever order
 refine wpAnyH_take (i := 0) (oi := ⟨some 39, .fieldAddr 58 (.tmp 3) 0, 0, "ask.go:165", #[], none⟩) (v := ?_) rfl (by kernel_rfl) (by kernel_rfl) (by kernel_rfl) (fun _ _ _ h => h) (Or.inl ⟨by rfl, fun W hSw => ?_⟩) hHeld ?_
 rotate_left
 ·(try dsimp only at hSw); go_simp; (try with_reducible rfl)
 (try simp only [Act.put, List.setIfInBounds_toArray, List.set_cons_zero, List.set_cons_succ])
 refine wpAnyH_take (i := 1) (oi := ⟨some 40, .load 56 (.tmp 39), 56, "ask.go:165", #[⟨0, .data⟩], none⟩) (v := ?_) rfl (by kernel_rfl) (by kernel_rfl) (by kernel_rfl) (fun _ _ _ h => h) (Or.inl ⟨by rfl, fun W hSw => ?_⟩) hHeld ?_
 rotate_left
 ·(try dsimp only at hSw); go_simp; (try with_reducible rfl)
 (try simp only [Act.put, List.setIfInBounds_toArray, List.set_cons_zero, List.set_cons_succ])
 refine wpAnyH_take (i := 2) (oi := ⟨some 41, .binOp .sub 56 (.tmp 40) (.const (.int .i64 1)) 56, 56, "ask.go:165", #[⟨1, .data⟩], none⟩) (v := ?_) rfl (by kernel_rfl) (by kernel_rfl) (by kernel_rfl) (fun _ _ _ h => h) (Or.inl ⟨by rfl, fun W hSw => ?_⟩) hHeld ?_
 rotate_left
 ·(try dsimp only at hSw); go_simp; (try with_reducible rfl)
 (try simp only [Act.put, List.setIfInBounds_toArray, List.set_cons_zero, List.set_cons_succ])
 refine wpAnyH_take (i := 3) (oi := ⟨some 42, .indexAddr 133 (.tmp 8) (.tmp 41), 0, "ask.go:165", #[⟨2, .data⟩], none⟩) (v := ?_) rfl (by kernel_rfl) (by kernel_rfl) (by kernel_rfl) (fun _ _ _ h => h) (Or.inl ⟨by rfl, fun W hSw => ?_⟩) hHeld ?_
 rotate_left
 ·(try dsimp only at hSw); go_simp; (try with_reducible rfl)
 (try simp only [Act.put, List.setIfInBounds_toArray, List.set_cons_zero, List.set_cons_succ])
 refine wpAnyH_take (i := 4) (oi := ⟨some 43, .load 131 (.tmp 42), 131, "ask.go:165", #[⟨3, .data⟩], none⟩) (v := ?_) rfl (by kernel_rfl) (by kernel_rfl) (by kernel_rfl) (fun _ _ _ h => h) (Or.inl ⟨by rfl, fun W hSw => ?_⟩) hHeld ?_
 rotate_left
 ·(try dsimp only at hSw); go_simp; (try with_reducible rfl)
 (try simp only [Act.put, List.setIfInBounds_toArray, List.set_cons_zero, List.set_cons_succ])
 refine wpAnyH_take (i := 5) (oi := ⟨some 44, .load 130 (.tmp 6), 130, "ask.go:165", #[], none⟩) (v := ?_) rfl (by kernel_rfl) (by kernel_rfl) (by kernel_rfl) (fun _ _ _ h => h) (Or.inl ⟨by rfl, fun W hSw => ?_⟩) hHeld ?_
 rotate_left
 ·(try dsimp only at hSw); go_simp; (try with_reducible rfl)
 (try simp only [Act.put, List.setIfInBounds_toArray, List.set_cons_zero, List.set_cons_succ])
 refine wpAnyH_take (i := 6) (oi := ⟨some 45, .fieldAddr 58 (.tmp 3) 1, 0, "ask.go:165", #[], none⟩) (v := ?_) rfl (by kernel_rfl) (by kernel_rfl) (by kernel_rfl) (fun _ _ _ h => h) (Or.inl ⟨by rfl, fun W hSw => ?_⟩) hHeld ?_
 rotate_left
 ·(try dsimp only at hSw); go_simp; (try with_reducible rfl)
 (try simp only [Act.put, List.setIfInBounds_toArray, List.set_cons_zero, List.set_cons_succ])
 refine wpAnyH_take (i := 7) (oi := ⟨some 46, .load 23 (.tmp 45), 23, "ask.go:165", #[⟨6, .data⟩], none⟩) (v := ?_) rfl (by kernel_rfl) (by kernel_rfl) (by kernel_rfl) (fun _ _ _ h => h) (Or.inl ⟨by rfl, fun W hSw => ?_⟩) hHeld ?_
 rotate_left
 ·(try dsimp only at hSw); go_simp; (try with_reducible rfl)
 (try simp only [Act.put, List.setIfInBounds_toArray, List.set_cons_zero, List.set_cons_succ])
 refine wpAnyH_ready (rs := [8]) (by kernel_rfl) (by simp) ?_
 refine (AllReadyH.cons (o := ⟨some 47, .call { callee := .value (.tmp 43), args := #[.tmp 44, .tmp 46], argTypes := #[130, 23] }, 54, "ask.go:165", #[⟨4, .data⟩, ⟨5, .data⟩, ⟨7, .data⟩], none⟩) rfl (fun K hK => ?_) AllReadyH.nil)
 rw [if_pos (by rfl)]
 go_simp
 refine (HM.out s B1 B2 B3 B4 B5 B6 k1 k2 k3 k4 k5 k6 mp wz (hS6.out.keep hbz) (hG6.keep hbz) (hN6.keep hbz)).mono ?_
 rintro e wz ⟨A, c, rfl, hA, hb1⟩
 replace hbz := fr_call hbz hb1
 refine hK.out _ _ (hkS _ hbz) (fun hHeld => ?_)
 clear hK K
 (try simp only [Act.put, List.setIfInBounds_toArray, List.set_cons_zero, List.set_cons_succ])
 refine wpAnyH_take (i := 9) (oi := ⟨some 38, .move (.tmp 47), 54, "ask.go:165", #[⟨8, .data⟩], none⟩) (v := ?_) rfl (by kernel_rfl) (by kernel_rfl) (by kernel_rfl) (fun _ _ _ h => h) (Or.inl ⟨by rfl, fun W hSw => ?_⟩) hHeld ?_
 rotate_left
 ·(try dsimp only at hSw); go_simp; (try with_reducible rfl)
 (try simp only [Act.put, List.setIfInBounds_toArray, List.set_cons_zero, List.set_cons_succ])
 refine wpAnyH_take (i := 10) (oi := ⟨some 48, .extract (.tmp 38) 0, 23, "ask.go:165", #[⟨9, .data⟩], none⟩) (v := ?_) rfl (by kernel_rfl) (by kernel_rfl) (by kernel_rfl) (fun _ _ _ h => h) (Or.inl ⟨by rfl, fun W hSw => ?_⟩) hHeld ?_
 rotate_left
 ·(try dsimp only at hSw); go_simp; (try with_reducible rfl)
 (try simp only [Act.put, List.setIfInBounds_toArray, List.set_cons_zero, List.set_cons_succ])
 refine wpAnyH_take (i := 11) (oi := ⟨some 49, .extract (.tmp 38) 1, 39, "ask.go:165", #[⟨9, .data⟩, ⟨12, .gcOnly .lateStores⟩], none⟩) (v := ?_) rfl (by kernel_rfl) (by kernel_rfl) (by kernel_rfl) (fun _ _ _ h => h) (Or.inl ⟨by rfl, fun W hSw => ?_⟩) hHeld ?_
 rotate_left
 ·(try dsimp only at hSw); go_simp; (try with_reducible rfl)
 (try simp only [Act.put, List.setIfInBounds_toArray, List.set_cons_zero, List.set_cons_succ])
 refine wpAnyH_take (i := 12) (oi := ⟨some 9, .assign (.tmp 48), 23, "ask.go:165", #[⟨10, .data⟩, ⟨8, .chain⟩, ⟨0, .phase⟩, ⟨1, .phase⟩, ⟨2, .phase⟩, ⟨3, .phase⟩, ⟨4, .phase⟩, ⟨5, .phase⟩, ⟨6, .phase⟩, ⟨7, .phase⟩, ⟨8, .phase⟩, ⟨9, .phase⟩, ⟨10, .phase⟩, ⟨11, .textOnly .lateStores⟩], none⟩) (v := ?_) rfl (by kernel_rfl) (by kernel_rfl) (by kernel_rfl) (fun _ _ _ h => h) (Or.inl ⟨by rfl, fun W hSw => ?_⟩) hHeld ?_
 rotate_left
 ·(try dsimp only at hSw); go_simp; (try with_reducible rfl)
 (try simp only [Act.put, List.setIfInBounds_toArray, List.set_cons_zero, List.set_cons_succ])
 refine wpAnyH_take (i := 13) (oi := ⟨some 10, .assign (.tmp 49), 39, "ask.go:165", #[⟨11, .data⟩, ⟨12, .chain⟩, ⟨0, .phase⟩, ⟨1, .phase⟩, ⟨2, .phase⟩, ⟨3, .phase⟩, ⟨4, .phase⟩, ⟨5, .phase⟩, ⟨6, .phase⟩, ⟨7, .phase⟩, ⟨8, .phase⟩, ⟨9, .phase⟩, ⟨10, .phase⟩, ⟨11, .phase⟩, ⟨12, .phase⟩], none⟩) (v := ?_) rfl (by kernel_rfl) (by kernel_rfl) (by kernel_rfl) (fun _ _ _ h => h) (Or.inl ⟨by rfl, fun W hSw => ?_⟩) hHeld ?_
 rotate_left
 ·(try dsimp only at hSw); go_simp; (try with_reducible rfl)
 (try simp only [Act.put, List.setIfInBounds_toArray, List.set_cons_zero, List.set_cons_succ])
 refine wpAnyH_done (by kernel_rfl) ?_ _
 go_wp2_with fail
 go_ret2
 exact ⟨A, c, rfl, hA, fr_call hb06 hbz⟩
set_option maxRecDepth 100000 in
set_option maxHeartbeats 16000000 in
theorem Ask_cuts (g gs : Nat) (A1 A2 A3 A4 A5 A6 : Option Addr) (n1 c1 n2 c2 c3 n4 c4 n5 c5 n6 c6 wm br hr wg pc : Nat) (lim ep mn md ma yr : Int) (D : Option Addr) (m dc : Nat) (sv : Value) (ls : List Lk) (hs : List Int) (tg : List (Int × Int)) (ho cy : List Int) (fe : List Feast) (fs : List Int) (f : Int) (N : Option Addr) (nc : Nat) (ns : List Int) (rn : Nat) (rl : List Int) (w : World) (h : DeskAt w g gs A1 A2 A3 A4 A5 A6 n1 c1 n2 c2 c3 n4 c4 n5 c5 n6 c6 wm br hr wg pc lim ep mn md ma yr D m dc (.slice none 0 0) sv ls hs tg ho cy fe fs f) (hbd : n1 ≤ 1000 ∧ n2 ≤ 1000 ∧ n4 ≤ 1000 ∧ n5 ≤ 1000 ∧ n6 ≤ 1000) (hN : Rd w N 1 ns)
  (hmeth : ∀ s B1 B2 B3 B4 B5 B6 k1 k2 k3 k4 k5 k6 mp W, StateAt W s B1 B2 B3 B4 B5 B6 n1 k1 n2 k2 k3 n4 k4 n5 k5 n6 k6 wm br hr wg pc lim ep mn md ma yr D m dc mp ls hs tg ho cy fe fs f → Blk W g 98 #[.pointer (some ⟨gs, 0, none⟩), .slice D m dc, .slice none 0 0, sv] → Rd W N 1 ns → Calls Tryz.prog 69 #[.agg #[.pointer (some ⟨s, 0, none⟩), .pointer (some ⟨g, 0, none⟩)], .slice N 1 nc] W (RetR W rn rl)) :
  Calls Tryz.prog 13 #[.pointer (some ⟨g, 0, none⟩), .agg #[.int .i64 10, .slice N 1 nc]] w (RetR w rn rl) := by
 have hmf : ∀ (fn : Fn) (first cap : Array Value) (w : World), (Instr.makeFunc fn first cap).run Tryz.prog w = .ok (.func fn first cap) w := fun _ _ _ _ => rfl
 have hix : ∀ w, (Instr.index 127 (.agg asksV) (.int .i64 9)).run Tryz.prog w = .ok (.agg #[.string ⟨#[99, 117, 116, 115]⟩, .int .i64 1]) w := fun w => by kernel_rfl
 have hfd : ∀ w, (Instr.field 126 (.agg #[.string ⟨#[99, 117, 116, 115]⟩, .int .i64 1]) 1).run Tryz.prog w = .ok (.int .i64 1) w := fun w => by kernel_rfl
 have hwr : IntKind.i64.wrap 9 = 9 := by decide
 have hb0 := fr_alloc (fr_alloc (fr_refl w) (.cells #[.pointer (some ⟨g, 0, none⟩)] 38)) (.cells #[.int .i64 10, .slice N 1 nc] 58)
 have hX := (Blk.new w 38 #[.pointer (some ⟨g, 0, none⟩)]).alloc (.cells #[.int .i64 10, .slice N 1 nc] 58)
 have hY : Blk ((w.alloc (.cells #[.pointer (some ⟨g, 0, none⟩)] 38)).alloc (.cells #[.int .i64 10, .slice N 1 nc] 58)) (w.heap.size + 1) 58 #[.int .i64 10, .slice N 1 nc] := Blk.new_at _ _ (by simp)
 obtain ⟨w1, hw1⟩ : ∃ w1, (w.alloc (.cells #[.pointer (some ⟨g, 0, none⟩)] 38)).alloc (.cells #[.int .i64 10, .slice N 1 nc] 58) = w1 := ⟨_, rfl⟩
 rw [hw1] at hb0 hX hY
 replace h := h.keep hb0
 replace hN := hN.keep hb0
 have hcX := fun j => hX.cell j
 have hG := h.d
 have H := Lib.hid h
 have HM := Lib.hid hmeth
 have hs0 := hb0.size
 clear h hmeth
 go_enter Tryz.func13, Tryz.ntmps13
 go_upto_region 1 with (fail)
 (try rw [hw1])
 clear hw1
 go_wp2_with fail
 refine (isOpen_yes g gs _ _ _ w1 hG).mono ?_
 rintro e w1' ⟨rfl, rfl⟩
 go_upto_region 3 with (fail)
 have hbz := fr_drew (fr_refl w1)
 have hkS : ∀ W, Below w1.heap.size w1 W → W.cell? ⟨w.heap.size + 1, 0, none⟩ = some (.int .i64 10) ∧ W.cell? ⟨w.heap.size + 1, 1, none⟩ = some (.slice N 1 nc) := fun W hb => ⟨(hY.keep hb).cell 0, (hY.keep hb).cell 1⟩
 clear hcX hG
 go_cut [29] from 14 (fun s29 wc => s29 = .bool false ∧ Below w1.heap.size w1 wc)
 case first =>
  refine wp_region_noPanic ?_
  refine wp_region_held_drew (S := fun W => W.cell? ⟨w.heap.size + 1, 0, none⟩ = some (.int .i64 10) ∧ W.cell? ⟨w.heap.size + 1, 1, none⟩ = some (.slice N 1 nc)) (by kernel_rfl) (hkS _ hbz) (fun hHeld => ?_)
  generalize w1.drew = wz at hbz hHeld ⊢
  -- the region, step by step, in whatever order
  refine wpAnyH_take (i := 0) (oi := ⟨some 14, .fieldAddr 58 (.tmp 3) 0, 0, "ask.go:157", #[], none⟩) (v := ?_) rfl (by kernel_rfl) (by kernel_rfl) (by kernel_rfl) (fun _ _ _ h => h) (Or.inl ⟨by rfl, fun W hSw => ?_⟩) hHeld ?_
  rotate_left
  ·(try dsimp only at hSw); go_simp; (try with_reducible rfl)
  (try simp only [Act.put, List.setIfInBounds_toArray, List.set_cons_zero, List.set_cons_succ])
  refine wpAnyH_take (i := 1) (oi := ⟨some 15, .load 56 (.tmp 14), 56, "ask.go:157", #[⟨0, .data⟩], none⟩) (v := ?_) rfl (by kernel_rfl) (by kernel_rfl) (by kernel_rfl) (fun _ _ _ h => h) (Or.inl ⟨by rfl, fun W hSw => ?_⟩) hHeld ?_
  rotate_left
  ·(try dsimp only at hSw); go_simp; (try with_reducible rfl)
  (try simp only [Act.put, List.setIfInBounds_toArray, List.set_cons_zero, List.set_cons_succ])
  refine wpAnyH_ready (rs := [2]) (by kernel_rfl) (by simp) ?_
  refine (AllReadyH.cons (o := ⟨some 16, .call { callee := .value (.func 57), args := #[.tmp 15, .const (.int .i64 1), .const (.int .i64 12)], argTypes := #[3, 3, 3] }, 4, "ask.go:157", #[⟨1, .data⟩], none⟩) rfl (fun K hK => ?_) AllReadyH.nil)
  rw [if_pos (by rfl)]
  go_simp
  refine (jin_yes _ _ _ _ (by decide)).mono ?_
  rintro e wz' ⟨rfl, rfl⟩
  refine hK.out _ _ (hkS _ hbz) (fun hHeld => ?_)
  clear hK K
  (try simp only [Act.put, List.setIfInBounds_toArray, List.set_cons_zero, List.set_cons_succ])
  refine wpAnyH_take (i := 3) (oi := ⟨some 17, .unOp .not 4 (.tmp 16), 4, "ask.go:157", #[⟨2, .data⟩], none⟩) (v := ?_) rfl (by kernel_rfl) (by kernel_rfl) (by kernel_rfl) (fun _ _ _ h => h) (Or.inl ⟨by rfl, fun W hSw => ?_⟩) hHeld ?_
  rotate_left
  ·(try dsimp only at hSw); go_simp; (try with_reducible rfl)
  (try simp only [Act.put, List.setIfInBounds_toArray, List.set_cons_zero, List.set_cons_succ])
  refine wpAnyH_take (i := 4) (oi := ⟨some 18, .move (.tmp 17), 4, "ask.go:157", #[⟨3, .data⟩, ⟨2, .chain⟩], none⟩) (v := ?_) rfl (by kernel_rfl) (by kernel_rfl) (by kernel_rfl) (fun _ _ _ h => h) (Or.inl ⟨by rfl, fun W hSw => ?_⟩) hHeld ?_
  rotate_left
  ·(try dsimp only at hSw); go_simp; (try with_reducible rfl)
  (try simp only [Act.put, List.setIfInBounds_toArray, List.set_cons_zero, List.set_cons_succ])
  refine wpAnyH_take (i := 5) (oi := ⟨some 19, .fieldAddr 58 (.tmp 3) 1, 0, "ask.go:157", #[⟨4, .guard⟩], some (4, false)⟩) (v := ?_) rfl (by kernel_rfl) (by kernel_rfl) (by kernel_rfl) (fun _ _ _ h => h) (Or.inl ⟨by rfl, fun W hSw => ?_⟩) hHeld ?_
  rotate_left
  ·(try dsimp only at hSw); go_simp; (try with_reducible rfl)
  (try simp only [Act.put, List.setIfInBounds_toArray, List.set_cons_zero, List.set_cons_succ])
  refine wpAnyH_take (i := 6) (oi := ⟨some 20, .load 23 (.tmp 19), 23, "ask.go:157", #[⟨5, .data⟩, ⟨4, .guard⟩], some (4, false)⟩) (v := ?_) rfl (by kernel_rfl) (by kernel_rfl) (by kernel_rfl) (fun _ _ _ h => h) (Or.inl ⟨by rfl, fun W hSw => ?_⟩) hHeld ?_
  rotate_left
  ·(try dsimp only at hSw); go_simp; (try with_reducible rfl)
  (try simp only [Act.put, List.setIfInBounds_toArray, List.set_cons_zero, List.set_cons_succ])
  refine wpAnyH_take (i := 7) (oi := ⟨some 21, .call { callee := .builtin .len, args := #[.tmp 20], argTypes := #[23] }, 3, "ask.go:157", #[⟨6, .data⟩, ⟨4, .guard⟩], some (4, false)⟩) (v := ?_) rfl (by kernel_rfl) (by kernel_rfl) (by kernel_rfl) (fun _ _ _ h => h) (Or.inl ⟨by rfl, fun W hSw => ?_⟩) hHeld ?_
  rotate_left
  ·(try dsimp only at hSw); go_simp; (try with_reducible rfl)
  (try simp only [Act.put, List.setIfInBounds_toArray, List.set_cons_zero, List.set_cons_succ])
  refine wpAnyH_take (i := 9) (oi := ⟨some 23, .fieldAddr 58 (.tmp 3) 0, 0, "ask.go:157", #[⟨4, .guard⟩], some (4, false)⟩) (v := ?_) rfl (by kernel_rfl) (by kernel_rfl) (by kernel_rfl) (fun _ _ _ h => h) (Or.inl ⟨by rfl, fun W hSw => ?_⟩) hHeld ?_
  rotate_left
  ·(try dsimp only at hSw); go_simp; (try with_reducible rfl)
  (try simp only [Act.put, List.setIfInBounds_toArray, List.set_cons_zero, List.set_cons_succ])
  refine wpAnyH_take (i := 10) (oi := ⟨some 24, .load 56 (.tmp 23), 56, "ask.go:157", #[⟨9, .data⟩, ⟨4, .guard⟩], some (4, false)⟩) (v := ?_) rfl (by kernel_rfl) (by kernel_rfl) (by kernel_rfl) (fun _ _ _ h => h) (Or.inl ⟨by rfl, fun W hSw => ?_⟩) hHeld ?_
  rotate_left
  ·(try dsimp only at hSw); go_simp; (try with_reducible rfl)
  (try simp only [Act.put, List.setIfInBounds_toArray, List.set_cons_zero, List.set_cons_succ])
  refine wpAnyH_take (i := 11) (oi := ⟨some 25, .binOp .sub 56 (.tmp 24) (.const (.int .i64 1)) 56, 56, "ask.go:157", #[⟨10, .data⟩, ⟨4, .guard⟩], some (4, false)⟩) (v := ?_) rfl (by kernel_rfl) (by kernel_rfl) (by kernel_rfl) (fun _ _ _ h => h) (Or.inl ⟨by rfl, fun W hSw => ?_⟩) hHeld ?_
  rotate_left
  ·(try dsimp only at hSw); go_simp; (try with_reducible rfl)
  (try simp only [Act.put, List.setIfInBounds_toArray, List.set_cons_zero, List.set_cons_succ])
  refine wpAnyH_ready (rs := [8]) (by kernel_rfl) (by simp) ?_
  refine (AllReadyH.cons (o := ⟨some 22, .call { callee := .value (.func 58), args := #[], argTypes := #[] }, 127, "ask.go:157", #[⟨4, .chain⟩, ⟨4, .guard⟩], some (4, false)⟩) rfl (fun K hK => ?_) AllReadyH.nil)
  rw [if_pos (by rfl)]
  go_simp
  refine (asks_is _).mono ?_
  rintro e wz ⟨rfl, hb1⟩
  replace hbz := fr_call hbz hb1
  refine hK.out _ _ (hkS _ hbz) (fun hHeld => ?_)
  clear hK K
  (try simp only [Act.put, List.setIfInBounds_toArray, List.set_cons_zero, List.set_cons_succ])
  refine wpAnyH_ready (rs := [12]) (by kernel_rfl) (by simp) ?_
  refine (AllReadyH.cons (o := ⟨some 26, .index 127 (.tmp 22) (.tmp 25), 126, "ask.go:157", #[⟨8, .data⟩, ⟨11, .data⟩, ⟨4, .guard⟩], some (4, false)⟩) rfl (fun K hK => ?_) AllReadyH.nil)
  rw [if_pos (by rfl)]
  go_simp
  refine hK.out _ _ (hkS _ hbz) (fun hHeld => ?_)
  clear hK K
  (try simp only [Act.put, List.setIfInBounds_toArray, List.set_cons_zero, List.set_cons_succ])
  refine wpAnyH_ready (rs := [13]) (by kernel_rfl) (by simp) ?_
  refine (AllReadyH.cons (o := ⟨some 27, .field 126 (.tmp 26) 1, 3, "ask.go:157", #[⟨12, .data⟩, ⟨4, .guard⟩], some (4, false)⟩) rfl (fun K hK => ?_) AllReadyH.nil)
  rw [if_pos (by rfl)]
  go_simp
  refine hK.out _ _ (hkS _ hbz) (fun hHeld => ?_)
  clear hK K
  (try simp only [Act.put, List.setIfInBounds_toArray, List.set_cons_zero, List.set_cons_succ])
  refine wpAnyH_take (i := 14) (oi := ⟨some 28, .binOp .neq 3 (.tmp 21) (.tmp 27) 3, 4, "ask.go:157", #[⟨7, .data⟩, ⟨13, .data⟩, ⟨4, .guard⟩], some (4, false)⟩) (v := ?_) rfl (by kernel_rfl) (by kernel_rfl) (by kernel_rfl) (fun _ _ _ h => h) (Or.inl ⟨by rfl, fun W hSw => ?_⟩) hHeld ?_
  rotate_left
  ·(try dsimp only at hSw); go_simp; (try with_reducible rfl)
  (try simp only [Act.put, List.setIfInBounds_toArray, List.set_cons_zero, List.set_cons_succ])
  refine wpAnyH_take (i := 15) (oi := ⟨some 29, .pick (.tmp 18) (.const (.bool true)) (.tmp 28), 4, "ask.go:157", #[⟨4, .data⟩, ⟨14, .data⟩], none⟩) (v := ?_) rfl (by kernel_rfl) (by kernel_rfl) (by kernel_rfl) (fun _ _ _ h => h) (Or.inl ⟨by rfl, fun W hSw => ?_⟩) hHeld ?_
  rotate_left
  ·(try dsimp only at hSw); go_simp; (try with_reducible rfl)
  (try simp only [Act.put, List.setIfInBounds_toArray, List.set_cons_zero, List.set_cons_succ])
  refine wpAnyH_done (by kernel_rfl) ?_ _
  refine NoPanic.normal ?_
  go_wp2_with fail
  go_meet
  case rel => exact ⟨rfl, hbz⟩
 obtain ⟨rfl, hbz⟩ := hcut
 obtain ⟨wz, hwz⟩ : ∃ w2, w2 = wc := ⟨_, rfl⟩
 subst hwz
 have hX2 := hX.keep hbz
 have hY2 := hY.keep hbz
 have hN2 := hN.keep hbz
 have H2 := Lib.hid (H.out.keep hbz)
 have hb2 := fr_call hb0 hbz
 have hlX2 := hX2.lt
 have hlY2 := hY2.lt
 have hlG := H.out.d.lt
 have hoN : ∀ ad, N = some ad → 0 < 1 → ad.block < w1.heap.size := fun ad e h => by
  obtain ⟨ad', e', hlt, _⟩ := hN.2 h
  rw [e] at e'
  cases e'
  exact hlt
 have hs12 := hbz.size
 clear hkS hX hY hN H
 have hcX := fun j => hX2.cell j
 generalize wz = w2 at *
 go_upto_region 6 with (refine wpList_store_blk rfl _ _ _ rfl w2.heap.size 130 _ _ rfl rfl (Blk.new w2 _ _) rfl (by kernel_rfl) (by simp [Value.oneCell']) ?_; intro w3 hQ hgQ)
 have hb23 : Below w2.heap.size w2 w3 := (fr_alloc (fr_refl w2) _).grown hgQ (fr_alloc (fr_refl w2) _).size (by intro k hk; cases hk; exact Nat.le_refl _)
 dsimp only [Act.put]
 have hb03 := fr_call hb2 hb23
 have hX3 := hX2.keep hb23
 have hY3 := hY2.keep hb23
 have hN3 := hN2.keep hb23
 have H3 := Lib.hid (H2.out.keep hb23)
 have hb1 := fr_alloc (fr_refl w3) (.cells #[.int .i64 0] 39)
 have hE := Blk.new w3 39 #[.int .i64 0]
 have hlQ := hQ.lt
 have hTr := jtry_ok_Ask #[.pointer (some ⟨w.heap.size, 0, none⟩), .pointer (some ⟨w2.heap.size, 0, none⟩)] (fun W => ∃ s B1 B2 B3 B4 B5 B6 k1 k2 k3 k4 k5 k6 mp, Blk W w2.heap.size 130 #[.pointer (some ⟨s, 0, none⟩), .pointer (some ⟨g, 0, none⟩)] ∧ StateAt W s B1 B2 B3 B4 B5 B6 n1 k1 n2 k2 k3 n4 k4 n5 k5 n6 k6 wm br hr wg pc lim ep mn md ma yr D m dc mp ls hs tg ho cy fe fs f ∧ Exc (fun i => i = w2.heap.size) w3 W ∧ W.cell? ⟨w3.heap.size, 0, none⟩ = some (.int .i64 0)) w3 ((Ask1_ok w.heap.size w2.heap.size g gs A1 A2 A3 A4 A5 A6 n1 c1 n2 c2 c3 n4 c4 n5 c5 n6 c6 wm br hr wg pc lim ep mn md ma yr D m dc sv ls hs tg ho cy fe fs f (w3.alloc (.cells #[.int .i64 0] 39)) (H3.out.keep hb1) hbd (hX3.alloc _) (hQ.alloc _)).mono (fun e W h => by
  obtain ⟨he, s, B1, B2, B3, B4, B5, B6, k1, k2, k3, k4, k5, k6, mp, hQ4, hS4, hx4⟩ := h
  have hEW := hx4.blk hE (by omega)
  exact ⟨he, ⟨s, B1, B2, B3, B4, B5, B6, k1, k2, k3, k4, k5, k6, mp, hQ4, hS4, Exc.pre hb1 hx4, hEW.cell 0⟩, hEW.cell 0, hEW.frozen 0⟩))
 clear hX2 hY2 hN2 H2 hcX hbd hE hb1 hQ
 go_wp2_with fail
 refine hTr.mono ?_
 rintro e w5 ⟨rfl, w4, ⟨s, B1, B2, B3, B4, B5, B6, k1, k2, k3, k4, k5, k6, mp, hQ4, hS4, hx4, hc4⟩, rfl⟩
 rw [setCell_same hc4]
 have hG4 := hx4.blk H3.out.d (by omega)
 have hY4 := hx4.blk hY3 (by omega)
 have hs02 := hb2.size
 have hN4 : Rd w4 N 1 ns := by
  by_cases h : 0 < 1
  ·exact hx4.rd hN3 (fun ad e => by have := hoN ad e h; show ¬ ad.block = w2.heap.size; omega)
  ·exact ⟨hN3.1, fun h' => absurd h' h⟩
 have hb04 : Below w.heap.size w w4 := ⟨hx4.os.trans hb03.os, hx4.tape.trans hb03.tape, hx4.output.trans hb03.output, Nat.le_trans hb03.size hx4.size, fun i hi => (hx4.block i (Nat.lt_of_lt_of_le hi hb03.size) (by show ¬ i = _; omega)).trans (hb03.block i hi)⟩
 clear hTr H3 hX3 hY3 hN3 hc4 hx4 hb03 hb2 hb23 hgQ hb0 hoN
 go_upto_region 10 with (refine wpList_store_blk rfl _ _ _ rfl w4.heap.size 133 _ _ rfl rfl (Blk.new w4 _ _) rfl (by kernel_rfl) (by simp [Value.oneCell']) ?_; intro w6 hF hgF)
 have hb46 : Below w4.heap.size w4 w6 := (fr_alloc (fr_refl w4) _).grown hgF (fr_alloc (fr_refl w4) _).size (by intro k hk; cases hk; exact Nat.le_refl _)
 (try dsimp only [Act.put])
 have hQ6 := hQ4.keep hb46
 have hY6 := hY4.keep hb46
 have hG6 := hG4.keep hb46
 have hN6 := hN4.keep hb46
 have hS6 := Lib.hid (hS4.keep hb46)
 have hb06 := fr_call hb04 hb46
 clear hQ4 hY4 hG4 hN4 hS4 hb04 hb46 hgF
 have hbz := fr_drew (fr_refl w6)
 have hkS : ∀ W, Below w6.heap.size w6 W → W.cell? ⟨w.heap.size + 1, 0, none⟩ = some (.int .i64 10) ∧ W.cell? ⟨w.heap.size + 1, 1, none⟩ = some (.slice N 1 nc) ∧ W.cell? ⟨w2.heap.size, 0, none⟩ = some (.pointer (some ⟨s, 0, none⟩)) ∧ W.cell? ⟨w2.heap.size, 1, none⟩ = some (.pointer (some ⟨g, 0, none⟩)) ∧ W.cell? ⟨w4.heap.size, 9, none⟩ = some (.func (.func 69) #[] #[]) := fun W hb => ⟨(hY6.keep hb).cell 0, (hY6.keep hb).cell 1, (hQ6.keep hb).cell 0, (hQ6.keep hb).cell 1, (hF.keep hb).cell 9⟩
 clear hF hY6 hQ6
 refine wp_region_held_drew (S := fun W => W.cell? ⟨w.heap.size + 1, 0, none⟩ = some (.int .i64 10) ∧ W.cell? ⟨w.heap.size + 1, 1, none⟩ = some (.slice N 1 nc) ∧ W.cell? ⟨w2.heap.size, 0, none⟩ = some (.pointer (some ⟨s, 0, none⟩)) ∧ W.cell? ⟨w2.heap.size, 1, none⟩ = some (.pointer (some ⟨g, 0, none⟩)) ∧ W.cell? ⟨w4.heap.size, 9, none⟩ = some (.func (.func 69) #[] #[])) (by kernel_rfl) (hkS _ hbz) (fun hHeld => ?_)
 generalize w6.drew = wz at hbz hHeld ⊢
 -- the region, step by step, in whatever order
 refine wpAnyH_take (i := 0) (oi := ⟨some 39, .fieldAddr 58 (.tmp 3) 0, 0, "ask.go:165", #[], none⟩) (v := ?_) rfl (by kernel_rfl) (by kernel_rfl) (by kernel_rfl) (fun _ _ _ h => h) (Or.inl ⟨by rfl, fun W hSw => ?_⟩) hHeld ?_
 rotate_left
 ·(try dsimp only at hSw); go_simp; (try with_reducible rfl)
 (try simp only [Act.put, List.setIfInBounds_toArray, List.set_cons_zero, List.set_cons_succ])
 refine wpAnyH_take (i := 1) (oi := ⟨some 40, .load 56 (.tmp 39), 56, "ask.go:165", #[⟨0, .data⟩], none⟩) (v := ?_) rfl (by kernel_rfl) (by kernel_rfl) (by kernel_rfl) (fun _ _ _ h => h) (Or.inl ⟨by rfl, fun W hSw => ?_⟩) hHeld ?_
 rotate_left
 ·(try dsimp only at hSw); go_simp; (try with_reducible rfl)
 (try simp only [Act.put, List.setIfInBounds_toArray, List.set_cons_zero, List.set_cons_succ])
 refine wpAnyH_take (i := 2) (oi := ⟨some 41, .binOp .sub 56 (.tmp 40) (.const (.int .i64 1)) 56, 56, "ask.go:165", #[⟨1, .data⟩], none⟩) (v := ?_) rfl (by kernel_rfl) (by kernel_rfl) (by kernel_rfl) (fun _ _ _ h => h) (Or.inl ⟨by rfl, fun W hSw => ?_⟩) hHeld ?_
 rotate_left
 ·(try dsimp only at hSw); go_simp; (try with_reducible rfl)
 (try simp only [Act.put, List.setIfInBounds_toArray, List.set_cons_zero, List.set_cons_succ])
 refine wpAnyH_take (i := 3) (oi := ⟨some 42, .indexAddr 133 (.tmp 8) (.tmp 41), 0, "ask.go:165", #[⟨2, .data⟩], none⟩) (v := ?_) rfl (by kernel_rfl) (by kernel_rfl) (by kernel_rfl) (fun _ _ _ h => h) (Or.inl ⟨by rfl, fun W hSw => ?_⟩) hHeld ?_
 rotate_left
 ·(try dsimp only at hSw); go_simp; (try with_reducible rfl)
 (try simp only [Act.put, List.setIfInBounds_toArray, List.set_cons_zero, List.set_cons_succ])
 refine wpAnyH_take (i := 4) (oi := ⟨some 43, .load 131 (.tmp 42), 131, "ask.go:165", #[⟨3, .data⟩], none⟩) (v := ?_) rfl (by kernel_rfl) (by kernel_rfl) (by kernel_rfl) (fun _ _ _ h => h) (Or.inl ⟨by rfl, fun W hSw => ?_⟩) hHeld ?_
 rotate_left
 ·(try dsimp only at hSw); go_simp; (try with_reducible rfl)
 (try simp only [Act.put, List.setIfInBounds_toArray, List.set_cons_zero, List.set_cons_succ])
 refine wpAnyH_take (i := 5) (oi := ⟨some 44, .load 130 (.tmp 6), 130, "ask.go:165", #[], none⟩) (v := ?_) rfl (by kernel_rfl) (by kernel_rfl) (by kernel_rfl) (fun _ _ _ h => h) (Or.inl ⟨by rfl, fun W hSw => ?_⟩) hHeld ?_
 rotate_left
 ·(try dsimp only at hSw); go_simp; (try with_reducible rfl)
 (try simp only [Act.put, List.setIfInBounds_toArray, List.set_cons_zero, List.set_cons_succ])
 refine wpAnyH_take (i := 6) (oi := ⟨some 45, .fieldAddr 58 (.tmp 3) 1, 0, "ask.go:165", #[], none⟩) (v := ?_) rfl (by kernel_rfl) (by kernel_rfl) (by kernel_rfl) (fun _ _ _ h => h) (Or.inl ⟨by rfl, fun W hSw => ?_⟩) hHeld ?_
 rotate_left
 ·(try dsimp only at hSw); go_simp; (try with_reducible rfl)
 (try simp only [Act.put, List.setIfInBounds_toArray, List.set_cons_zero, List.set_cons_succ])
 refine wpAnyH_take (i := 7) (oi := ⟨some 46, .load 23 (.tmp 45), 23, "ask.go:165", #[⟨6, .data⟩], none⟩) (v := ?_) rfl (by kernel_rfl) (by kernel_rfl) (by kernel_rfl) (fun _ _ _ h => h) (Or.inl ⟨by rfl, fun W hSw => ?_⟩) hHeld ?_
 rotate_left
 ·(try dsimp only at hSw); go_simp; (try with_reducible rfl)
 (try simp only [Act.put, List.setIfInBounds_toArray, List.set_cons_zero, List.set_cons_succ])
 refine wpAnyH_ready (rs := [8]) (by kernel_rfl) (by simp) ?_
 refine (AllReadyH.cons (o := ⟨some 47, .call { callee := .value (.tmp 43), args := #[.tmp 44, .tmp 46], argTypes := #[130, 23] }, 54, "ask.go:165", #[⟨4, .data⟩, ⟨5, .data⟩, ⟨7, .data⟩], none⟩) rfl (fun K hK => ?_) AllReadyH.nil)
 rw [if_pos (by rfl)]
 go_simp
 refine (HM.out s B1 B2 B3 B4 B5 B6 k1 k2 k3 k4 k5 k6 mp wz (hS6.out.keep hbz) (hG6.keep hbz) (hN6.keep hbz)).mono ?_
 rintro e wz ⟨A, c, rfl, hA, hb1⟩
 replace hbz := fr_call hbz hb1
 refine hK.out _ _ (hkS _ hbz) (fun hHeld => ?_)
 clear hK K
 (try simp only [Act.put, List.setIfInBounds_toArray, List.set_cons_zero, List.set_cons_succ])
 refine wpAnyH_take (i := 9) (oi := ⟨some 38, .move (.tmp 47), 54, "ask.go:165", #[⟨8, .data⟩], none⟩) (v := ?_) rfl (by kernel_rfl) (by kernel_rfl) (by kernel_rfl) (fun _ _ _ h => h) (Or.inl ⟨by rfl, fun W hSw => ?_⟩) hHeld ?_
 rotate_left
 ·(try dsimp only at hSw); go_simp; (try with_reducible rfl)
 (try simp only [Act.put, List.setIfInBounds_toArray, List.set_cons_zero, List.set_cons_succ])
 refine wpAnyH_take (i := 10) (oi := ⟨some 48, .extract (.tmp 38) 0, 23, "ask.go:165", #[⟨9, .data⟩], none⟩) (v := ?_) rfl (by kernel_rfl) (by kernel_rfl) (by kernel_rfl) (fun _ _ _ h => h) (Or.inl ⟨by rfl, fun W hSw => ?_⟩) hHeld ?_
 rotate_left
 ·(try dsimp only at hSw); go_simp; (try with_reducible rfl)
 (try simp only [Act.put, List.setIfInBounds_toArray, List.set_cons_zero, List.set_cons_succ])
 refine wpAnyH_take (i := 11) (oi := ⟨some 49, .extract (.tmp 38) 1, 39, "ask.go:165", #[⟨9, .data⟩, ⟨12, .gcOnly .lateStores⟩], none⟩) (v := ?_) rfl (by kernel_rfl) (by kernel_rfl) (by kernel_rfl) (fun _ _ _ h => h) (Or.inl ⟨by rfl, fun W hSw => ?_⟩) hHeld ?_
 rotate_left
 ·(try dsimp only at hSw); go_simp; (try with_reducible rfl)
 (try simp only [Act.put, List.setIfInBounds_toArray, List.set_cons_zero, List.set_cons_succ])
 refine wpAnyH_take (i := 12) (oi := ⟨some 9, .assign (.tmp 48), 23, "ask.go:165", #[⟨10, .data⟩, ⟨8, .chain⟩, ⟨0, .phase⟩, ⟨1, .phase⟩, ⟨2, .phase⟩, ⟨3, .phase⟩, ⟨4, .phase⟩, ⟨5, .phase⟩, ⟨6, .phase⟩, ⟨7, .phase⟩, ⟨8, .phase⟩, ⟨9, .phase⟩, ⟨10, .phase⟩, ⟨11, .textOnly .lateStores⟩], none⟩) (v := ?_) rfl (by kernel_rfl) (by kernel_rfl) (by kernel_rfl) (fun _ _ _ h => h) (Or.inl ⟨by rfl, fun W hSw => ?_⟩) hHeld ?_
 rotate_left
 ·(try dsimp only at hSw); go_simp; (try with_reducible rfl)
 (try simp only [Act.put, List.setIfInBounds_toArray, List.set_cons_zero, List.set_cons_succ])
 refine wpAnyH_take (i := 13) (oi := ⟨some 10, .assign (.tmp 49), 39, "ask.go:165", #[⟨11, .data⟩, ⟨12, .chain⟩, ⟨0, .phase⟩, ⟨1, .phase⟩, ⟨2, .phase⟩, ⟨3, .phase⟩, ⟨4, .phase⟩, ⟨5, .phase⟩, ⟨6, .phase⟩, ⟨7, .phase⟩, ⟨8, .phase⟩, ⟨9, .phase⟩, ⟨10, .phase⟩, ⟨11, .phase⟩, ⟨12, .phase⟩], none⟩) (v := ?_) rfl (by kernel_rfl) (by kernel_rfl) (by kernel_rfl) (fun _ _ _ h => h) (Or.inl ⟨by rfl, fun W hSw => ?_⟩) hHeld ?_
 rotate_left
 ·(try dsimp only at hSw); go_simp; (try with_reducible rfl)
 (try simp only [Act.put, List.setIfInBounds_toArray, List.set_cons_zero, List.set_cons_succ])
 refine wpAnyH_done (by kernel_rfl) ?_ _
 go_wp2_with fail
 go_ret2
 exact ⟨A, c, rfl, hA, fr_call hb06 hbz⟩
end Go.Proofs.YtkmiphabagoifaaGreatDoor
