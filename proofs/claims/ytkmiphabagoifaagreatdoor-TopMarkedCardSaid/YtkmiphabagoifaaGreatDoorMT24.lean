/- Walk, package plate: Place at the chapter's piece. The law TopMarked, walked up to its helper known11, whose contract is a parameter here. Walk: the examples of the documents, as the laws of the layers' joins compute them. -/
import Derived.Test.YtkmiphabagoifaaGreatDoorMT23
import Derived.Test.YtkmiphabagoifaaGreatDoorMT17
import Derived.Deep.CutRange
import Derived.Test.YtkmiphabagoifaaGreatDoorMT5
import Derived.Laws.OwnMore
import Derived.Test.YtkmiphabagoifaaGreatDoorMT22
section
namespace Go.Proofs.YtkmiphabagoifaaGreatDoor
open Go.RowKit Go.Shelf

theorem own_blk1 {w : World} {g : Nat} {e : Int} (h : Blk w g 3 #[.int .i64 e]) : Own w g (.slice (some ⟨g, 0, none⟩) 1 1) [e] :=
 ⟨rfl, Or.inr ⟨g, 1, _, rfl, Nat.le_refl _, h, Nat.le_refl _, by unfold maxLen; omega, rfl, rfl⟩⟩
theorem laid_zero (w : World) : (zeroValue 151).run Tryz.prog w = .ok (.agg #[.int .i64 0, .int .i64 0, .int .i64 0, .int .i64 0, .int .i64 0, .slice none 0 0, .slice none 0 0, .slice none 0 0, .map none, .slice none 0 0]) w := by kernel_rfl
theorem qMs_ok : ∀ i x, qMs[i]? = some x → (qMs.take i).contains x = false := fun i x h => by
 have hj : i < 4 := (List.getElem?_eq_some_iff.1 h).1
 have h3 : i = 0 ∨ i = 1 ∨ i = 2 ∨ i = 3 := by omega
 rcases h3 with rfl | rfl | rfl | rfl <;> (cases h; decide)
theorem free_iff (x y : Nat) : freeN x y = true ↔ ∀ i, i < 5 → wrongN x y i = 0 := by
 unfold freeN
 rw [List.all_eq_true]
 constructor
 ·intro h i hi
  simpa using h i (List.mem_range.2 hi)
 ·intro h i hi
  simpa using h i (List.mem_range.1 hi)
theorem rdS_old {w : World} {A : Option Addr} {k : Nat} {rows : List (List Value)} (h : RdS w A k rows) (hn : 0 < rows.length) : ∀ ad, A = some ad → ad.block < w.heap.size := fun ad e => by
 obtain ⟨ad', e', h', _⟩ := h hn
 rw [e] at e'
 cases e'
 exact h'
/-- the piece with a new wheel, laid -/
def LaidAt (x y : Nat) (g : Nat) (W : World) : Prop := ∃ A B M nc mc kc l, Blk W g 151 #[.int .i64 60, .int .i64 50, .int .i64 1, .int .i64 1, .int .i64 2, .slice A 4 nc, .slice B 5 mc, .slice M 4 kc, .map (some l), .slice none 0 0] ∧ MapM W l qMs ∧ RdS W A 2 ((qCs x y).map PPt.cells) ∧ RdS W B 4 (qWs.map PWh.cells)
set_option maxRecDepth 100000 in
set_option maxHeartbeats 16000000 in
theorem place_P (b1 b2 b3 : Nat) (w : World) (hA : RdS w (some ⟨b1, 0, none⟩) 2 (pCs.map PPt.cells)) (hB : RdS w (some ⟨b2, 0, none⟩) 4 (pWs.map PWh.cells)) (hM : RdS w (some ⟨b3, 0, none⟩) 2 (pMs.map ptC)) :
  Calls Tryz.prog 29 #[.agg #[.int .i64 60, .int .i64 50, .int .i64 1, .int .i64 1, .int .i64 2, .slice (some ⟨b1, 0, none⟩) 3 3, .slice (some ⟨b2, 0, none⟩) 4 4, .slice (some ⟨b3, 0, none⟩) 2 2], .int .i64 5, .int .i64 0, .int .i64 1] w fun e w' => e = .returned (.tuple #[.agg #[.int .i64 28, .int .i64 8], .int .i64 0]) ∧ Below w.heap.size w w' := by
 have hb0 := fr_alloc (fr_alloc (fr_refl w) (.cells #[.int .i64 60, .int .i64 50, .int .i64 1, .int .i64 1, .int .i64 2, .slice (some ⟨b1, 0, none⟩) 3 3, .slice (some ⟨b2, 0, none⟩) 4 4, .slice (some ⟨b3, 0, none⟩) 2 2] 86)) (.cells #[.int .i64 0, .int .i64 0] 79)
 have hX := (Blk.new w 86 #[.int .i64 60, .int .i64 50, .int .i64 1, .int .i64 1, .int .i64 2, .slice (some ⟨b1, 0, none⟩) 3 3, .slice (some ⟨b2, 0, none⟩) 4 4, .slice (some ⟨b3, 0, none⟩) 2 2]).alloc (.cells #[.int .i64 0, .int .i64 0] 79)
 have hR : Blk ((w.alloc (.cells #[.int .i64 60, .int .i64 50, .int .i64 1, .int .i64 1, .int .i64 2, .slice (some ⟨b1, 0, none⟩) 3 3, .slice (some ⟨b2, 0, none⟩) 4 4, .slice (some ⟨b3, 0, none⟩) 2 2] 86)).alloc (.cells #[.int .i64 0, .int .i64 0] 79)) (w.heap.size + 1) 79 #[.int .i64 0, .int .i64 0] := Blk.new_at _ _ (by simp)
 have hold : b2 < w.heap.size ∧ b3 < w.heap.size := by
  obtain ⟨ad, e, h1, _⟩ := hB (by decide)
  obtain ⟨ad', e', h2, _⟩ := hM (by decide)
  cases e
  cases e'
  exact ⟨h1, h2⟩
 obtain ⟨w1, hw1⟩ : ∃ w1, (w.alloc (.cells #[.int .i64 60, .int .i64 50, .int .i64 1, .int .i64 1, .int .i64 2, .slice (some ⟨b1, 0, none⟩) 3 3, .slice (some ⟨b2, 0, none⟩) 4 4, .slice (some ⟨b3, 0, none⟩) 2 2] 86)).alloc (.cells #[.int .i64 0, .int .i64 0] 79) = w1 := ⟨_, rfl⟩
 rw [hw1] at hb0 hX hR
 replace hA := hA.keep hb0
 replace hB := hB.keep hb0
 replace hM := hM.keep hb0
 have hcX := fun j => hX.cell j
 have hlX := hX.lt
 have hlR := hR.lt
 have a1 : inB 5 4 50 = true := by decide
 go_enter Tryz.func29, Tryz.ntmps29
 go_upto_region 1 with (fail)
 (try rw [hw1])
 clear hw1
 go_wp2_with fail
 refine (isPiece_P b1 0 b2 0 b3 0 w1 hA hB hM).mono ?_
 rintro e w2 ⟨rfl, hb2⟩
 have hcX2 := fun j => (hX.keep hb2).cell j
 have hlX2 := (hX.keep hb2).lt
 go_wp2_with fail
 refine (pin_is _ _ _ _ _ a1).mono ?_
 rintro e w' ⟨rfl, rfl⟩
 go_wp2_with fail
 refine (isWheel_yes _ _ _ _ _ _ _ _ _ _ 4 _ _ _ 0 _ (by omega) (by omega)).mono ?_
 rintro e w3 ⟨rfl, hb3⟩
 replace hb3 := fr_call hb2 hb3
 have hcX3 := fun j => (hX.keep hb3).cell j
 have hlX3 := (hX.keep hb3).lt
 go_wp2_with fail
 refine (isWheel_yes _ _ _ _ _ _ _ _ _ _ 4 _ _ _ 1 _ (by omega) (by omega)).mono ?_
 rintro e w4 ⟨rfl, hb4⟩
 replace hb4 := fr_call hb3 hb4
 have hX4 := (hX.keep hb4)
 have hs4 := hb4.size
 have hX5 := hX4.alloc (.cells #[.int .i64 0] 3)
 have hown : Own (w4.alloc (.cells #[.int .i64 0] 3)) w4.heap.size (.slice (some ⟨w4.heap.size, 0, none⟩) 1 1) [0] := own_blk1 (Blk.new _ _ _)
 clear hcX hcX2 hcX3 hlX2 hlX3 hb2 hb3
 have hba : Below w4.heap.size w4 (w4.alloc (.cells #[.int .i64 0] 3)) := fr_alloc (fr_refl _) _
 go_upto_region 5 with (fail)
 generalize w4.alloc (.cells #[.int .i64 0] 3) = wa at *
 go_wp2_with (at_builtin; go_must (refine app_int rfl (.tmp 51) (.tmp 53) rfl w4.heap.size _ [0] rfl rfl hown (by simp) hba.size ?_); intro A1 c1 w5 hown5 hg5; have hX6 := (hX5.alloc (.cells #[.int .i64 1] 3)).grown hg5 (by intro e; have := own_ge hown _ e.symm; omega); have hcX := fun j => hX6.cell j; have hlX6 := hX6.lt)
 have hb5 : Below w4.heap.size w4 w5 := (fr_alloc hba _).grown hg5 (fr_alloc hba _).size (own_ge hown)
 have hbt := fr_call hb4 hb5
 have hO5 : Rd w5 A1 2 [0, 1] := hown5.rd
 have hFO := hown5.fresh
 have HR := Lib.hid (hR.keep hbt)
 replace hA := hA.keep hbt
 replace hB := hB.keep hbt
 replace hM := hM.keep hbt
 have hs1 := hb0.size
 have hs5 := hbt.size
 clear hba hb4 hX4 hX5 hown hown5 hg5 hcX hX hR
 have hO2 : ∀ ad, A1 = some ad → ad.block < w5.heap.size := fun ad e => by
  obtain ⟨ad', e', h, _⟩ := hO5.at_ (k := 0) (by omega)
  rw [e] at e'
  cases e'
  exact h
 have z61 : IntKind.i64.wrap 61 = 61 := rfl
 clear hFO hlX6
 go_loopg [81] 61 (fun gh t wx => ∃ x : Nat, x + gh = 61 ∧ x ≤ 28 ∧ t = .int .i64 x ∧ Below w5.heap.size w5 wx)
 case atStart => exact ⟨0, rfl, by omega, rfl, fr_refl _⟩
 case round =>
  obtain ⟨x, hxg, hx, rfl, hbx⟩ := hrel
  cases gk with
  | zero => omega
  | succ gx =>
   have x1 : (x : Int) < 61 := by omega
   have hXx := hX6.keep hbx
   have hcXx := fun j => hXx.cell j
   have hlXx := hXx.lt
   go_wp2_with fail
   go_step3
   go_wp2_with fail
   go_step3
   go_wp2_with fail
   clear hcXx hlXx hXx
   go_loopg [87] 51 (fun gh t wr => ∃ y : Nat, y + gh = 51 ∧ (x = 28 → y ≤ 8) ∧ t = .int .i64 y ∧ Below w5.heap.size w5 wr)
   case atStart => exact ⟨0, rfl, by omega, rfl, hbx⟩
   case round =>
    clear hbx
    obtain ⟨y, hyg, hy, rfl, hbr⟩ := hrel
    cases gk with
    | zero =>
     obtain rfl : y = 51 := by omega
     have hx28 : x < 28 := by omega
     go_wp2_with fail
     go_roundg gx
     case measure => omega
     case rel => exact ⟨x + 1, by omega, by omega, by go_num, hbr⟩
    | succ gy =>
     have y1 : (y : Int) < 51 := by omega
     have hXr := hX6.keep hbr
     have hcXr := fun j => hXr.cell j
     have hlXr := hXr.lt
     have hb6 := fr_alloc (fr_refl wr) (.cells #[.int .i64 x, .int .i64 y] 79)
     have hA6 : Blk (wr.alloc (.cells #[.int .i64 x, .int .i64 y] 79)) wr.heap.size 79 #[.int .i64 x, .int .i64 y] := Blk.new _ _ _
     obtain ⟨bc, hbc⟩ : ∃ bc, inCs x y = bc := ⟨_, rfl⟩
     have hct := contains_Pt (some ⟨b1, 0, none⟩) 3 3 pCsI x y _ ((hA.keep hbr).keep hb6) (by decide) (by decide) ⟨b1, 0, rfl⟩ bc hbc
     have HC := Lib.hid hbc
     clear hbc
     go_wp2_with fail
     refine hct.mono ?_
     rintro e w7 ⟨rfl, hb7⟩
     clear hct hcXr hlXr
     have hA7 := hA6.keep hb7
     replace hb7 := fr_call hb6 hb7
     have hb8 := fr_call hbr hb7
     have hX7 := hX6.keep hb8
     clear hA6 hb6 hXr
     cases bc
     ·go_upto_region 17 with (fail)
      have hlX7 := hX7.lt
      have hlA7 := hA7.lt
      obtain ⟨ad, e, hl27, _, hc27, _⟩ := pwh_at (hB.keep hb8) (k := 0) (by decide)
      cases e
      replace hc27 : w7.cell? ⟨b2, 2, none⟩ = some (.int .i64 0) := hc27
      have hkS : ∀ W, Below w7.heap.size w7 W → W.cell? ⟨w.heap.size, 0, none⟩ = some (.int .i64 60) ∧ W.cell? ⟨w.heap.size, 1, none⟩ = some (.int .i64 50) ∧ W.cell? ⟨w.heap.size, 2, none⟩ = some (.int .i64 1) ∧ W.cell? ⟨w.heap.size, 3, none⟩ = some (.int .i64 1) ∧ W.cell? ⟨w.heap.size, 4, none⟩ = some (.int .i64 2) ∧ W.cell? ⟨w.heap.size, 5, none⟩ = some (.slice (some ⟨b1, 0, none⟩) 3 3) ∧ W.cell? ⟨w.heap.size, 6, none⟩ = some (.slice (some ⟨b2, 0, none⟩) 4 4) ∧ W.cell? ⟨w.heap.size, 7, none⟩ = some (.slice (some ⟨b3, 0, none⟩) 2 2) ∧ W.cell? ⟨wr.heap.size, 0, none⟩ = some (.int .i64 x) ∧ W.cell? ⟨wr.heap.size, 1, none⟩ = some (.int .i64 y) ∧ W.cell? ⟨b2, 2, none⟩ = some (.int .i64 0) := fun W hb => ⟨(hb.cell (p := ⟨w.heap.size, 0, none⟩) hlX7).trans (hX7.cell 0), (hb.cell (p := ⟨w.heap.size, 1, none⟩) hlX7).trans (hX7.cell 1), (hb.cell (p := ⟨w.heap.size, 2, none⟩) hlX7).trans (hX7.cell 2), (hb.cell (p := ⟨w.heap.size, 3, none⟩) hlX7).trans (hX7.cell 3), (hb.cell (p := ⟨w.heap.size, 4, none⟩) hlX7).trans (hX7.cell 4), (hb.cell (p := ⟨w.heap.size, 5, none⟩) hlX7).trans (hX7.cell 5), (hb.cell (p := ⟨w.heap.size, 6, none⟩) hlX7).trans (hX7.cell 6), (hb.cell (p := ⟨w.heap.size, 7, none⟩) hlX7).trans (hX7.cell 7), (hb.cell (p := ⟨wr.heap.size, 0, none⟩) hlA7).trans (hA7.cell 0), (hb.cell (p := ⟨wr.heap.size, 1, none⟩) hlA7).trans (hA7.cell 1), (hb.cell (p := ⟨b2, 2, none⟩) hl27).trans hc27⟩
      go_cut [15, 87] from 87 to 121 (fun s15 s87 wc => s87 = .int .i64 y ∧ ∃ g, s15 = .pointer (some ⟨g, 0, none⟩) ∧ LaidAt x y g wc ∧ Blk wc wr.heap.size 79 #[.int .i64 x, .int .i64 y] ∧ Below w5.heap.size w5 wc)
      case first =>
       have hbz := fr_drew (fr_refl w7)
       refine wp_region_noPanic ?_
       refine wp_region_held_drew (S := fun W => W.cell? ⟨w.heap.size, 0, none⟩ = some (.int .i64 60) ∧ W.cell? ⟨w.heap.size, 1, none⟩ = some (.int .i64 50) ∧ W.cell? ⟨w.heap.size, 2, none⟩ = some (.int .i64 1) ∧ W.cell? ⟨w.heap.size, 3, none⟩ = some (.int .i64 1) ∧ W.cell? ⟨w.heap.size, 4, none⟩ = some (.int .i64 2) ∧ W.cell? ⟨w.heap.size, 5, none⟩ = some (.slice (some ⟨b1, 0, none⟩) 3 3) ∧ W.cell? ⟨w.heap.size, 6, none⟩ = some (.slice (some ⟨b2, 0, none⟩) 4 4) ∧ W.cell? ⟨w.heap.size, 7, none⟩ = some (.slice (some ⟨b3, 0, none⟩) 2 2) ∧ W.cell? ⟨wr.heap.size, 0, none⟩ = some (.int .i64 x) ∧ W.cell? ⟨wr.heap.size, 1, none⟩ = some (.int .i64 y) ∧ W.cell? ⟨b2, 2, none⟩ = some (.int .i64 0)) (by kernel_rfl) (hkS _ hbz) (fun hHeld => ?_)
       generalize w7.drew = wz at hbz hHeld ⊢
       -- the region, step by step, in whatever order
       refine wpAnyH_take (i := 0) (oi := ⟨some 97, .load 86 (.tmp 4), 86, "turn.go:132", #[], none⟩) (v := ?_) rfl (by kernel_rfl) (by kernel_rfl) (by kernel_rfl) (fun _ _ _ h => h) (Or.inl ⟨by rfl, fun W hSw => ?_⟩) hHeld ?_
       rotate_left
       ·(try dsimp only at hSw); go_simp; (try with_reducible rfl)
       (try simp only [Act.put, List.setIfInBounds_toArray, List.set_cons_zero, List.set_cons_succ])
       refine wpAnyH_take (i := 1) (oi := ⟨some 98, .load 79 (.tmp 14), 79, "turn.go:132", #[], none⟩) (v := ?_) rfl (by kernel_rfl) (by kernel_rfl) (by kernel_rfl) (fun _ _ _ h => h) (Or.inl ⟨by rfl, fun W hSw => ?_⟩) hHeld ?_
       rotate_left
       ·(try dsimp only at hSw); go_simp; (try with_reducible rfl)
       (try simp only [Act.put, List.setIfInBounds_toArray, List.set_cons_zero, List.set_cons_succ])
       refine wpAnyH_take (i := 2) (oi := ⟨some 99, .fieldAddr 86 (.tmp 4) 6, 0, "turn.go:132", #[], none⟩) (v := ?_) rfl (by kernel_rfl) (by kernel_rfl) (by kernel_rfl) (fun _ _ _ h => h) (Or.inl ⟨by rfl, fun W hSw => ?_⟩) hHeld ?_
       rotate_left
       ·(try dsimp only at hSw); go_simp; (try with_reducible rfl)
       (try simp only [Act.put, List.setIfInBounds_toArray, List.set_cons_zero, List.set_cons_succ])
       refine wpAnyH_take (i := 3) (oi := ⟨some 100, .load 83 (.tmp 99), 83, "turn.go:132", #[⟨2, .data⟩], none⟩) (v := ?_) rfl (by kernel_rfl) (by kernel_rfl) (by kernel_rfl) (fun _ _ _ h => h) (Or.inl ⟨by rfl, fun W hSw => ?_⟩) hHeld ?_
       rotate_left
       ·(try dsimp only at hSw); go_simp; (try with_reducible rfl)
       (try simp only [Act.put, List.setIfInBounds_toArray, List.set_cons_zero, List.set_cons_succ])
       refine wpAnyH_take (i := 4) (oi := ⟨some 101, .move (.tmp 2), 3, "turn.go:132", #[], none⟩) (v := ?_) rfl (by kernel_rfl) (by kernel_rfl) (by kernel_rfl) (fun _ _ _ h => h) (Or.inl ⟨by rfl, fun W hSw => ?_⟩) hHeld ?_
       rotate_left
       ·(try dsimp only at hSw); go_simp; (try with_reducible rfl)
       (try simp only [Act.put, List.setIfInBounds_toArray, List.set_cons_zero, List.set_cons_succ])
       refine wpAnyH_take (i := 5) (oi := ⟨some 102, .indexAddr 83 (.tmp 100) (.tmp 101), 0, "turn.go:132", #[⟨3, .data⟩, ⟨4, .data⟩], none⟩) (v := ?_) rfl (by kernel_rfl) (by kernel_rfl) (by kernel_rfl) (fun _ _ _ h => h) (Or.inl ⟨by rfl, fun W hSw => ?_⟩) hHeld ?_
       rotate_left
       ·(try dsimp only at hSw); go_simp; (try with_reducible rfl)
       (try simp only [Act.put, List.setIfInBounds_toArray, List.set_cons_zero, List.set_cons_succ])
       refine wpAnyH_take (i := 6) (oi := ⟨some 103, .fieldAddr 155 (.tmp 102) 2, 0, "turn.go:132", #[⟨5, .data⟩], none⟩) (v := ?_) rfl (by kernel_rfl) (by kernel_rfl) (by kernel_rfl) (fun _ _ _ h => h) (Or.inl ⟨by rfl, fun W hSw => ?_⟩) hHeld ?_
       rotate_left
       ·(try dsimp only at hSw); go_simp; (try with_reducible rfl)
       (try simp only [Act.put, List.setIfInBounds_toArray, List.set_cons_zero, List.set_cons_succ])
       refine wpAnyH_take (i := 7) (oi := ⟨some 104, .load 3 (.tmp 103), 3, "turn.go:132", #[⟨6, .data⟩], none⟩) (v := ?_) rfl (by kernel_rfl) (by kernel_rfl) (by kernel_rfl) (fun _ _ _ h => h) (Or.inl ⟨by rfl, fun W hSw => ?_⟩) hHeld ?_
       rotate_left
       ·(try dsimp only at hSw); go_simp; (try with_reducible rfl)
       (try simp only [Act.put, List.setIfInBounds_toArray, List.set_cons_zero, List.set_cons_succ])
       refine wpAnyH_take (i := 8) (oi := ⟨some 105, .move (.tmp 1), 3, "turn.go:132", #[], none⟩) (v := ?_) rfl (by kernel_rfl) (by kernel_rfl) (by kernel_rfl) (fun _ _ _ h => h) (Or.inl ⟨by rfl, fun W hSw => ?_⟩) hHeld ?_
       rotate_left
       ·(try dsimp only at hSw); go_simp; (try with_reducible rfl)
       (try simp only [Act.put, List.setIfInBounds_toArray, List.set_cons_zero, List.set_cons_succ])
       refine wpAnyH_take (i := 9) (oi := ⟨some 106, .move (.tmp 10), 23, "turn.go:132", #[], none⟩) (v := ?_) rfl (by kernel_rfl) (by kernel_rfl) (by kernel_rfl) (fun _ _ _ h => h) (Or.inl ⟨by rfl, fun W hSw => ?_⟩) hHeld ?_
       rotate_left
       ·(try dsimp only at hSw); go_simp; (try with_reducible rfl)
       (try simp only [Act.put, List.setIfInBounds_toArray, List.set_cons_zero, List.set_cons_succ])
       refine wpAnyH_ready (rs := [10, 12]) (by kernel_rfl) (by simp) ?_
       refine (AllReadyH.cons (o := ⟨some 107, .call { callee := .value (.func 91), args := #[.tmp 97, .tmp 98, .tmp 104, .tmp 105, .tmp 106], argTypes := #[86, 79, 3, 3, 23] }, 86, "turn.go:132", #[⟨0, .data⟩, ⟨1, .data⟩, ⟨7, .data⟩, ⟨8, .data⟩, ⟨9, .data⟩], none⟩) rfl (fun K hK => ?_) (AllReadyH.cons (o := ⟨some 15, .alloc 151, 0, "turn.go:132", #[], none⟩) rfl (fun K hK => ?_) AllReadyH.nil))
       ·rw [if_pos (by rfl)]
        go_simp
        refine (with_is 60 50 1 1 2 b1 0 b2 0 b3 0 3 3 4 4 2 2 x y 0 5 A1 2 c1 pCs pWs pMs [0, 1] wz ((hA.keep hb8).keep hbz) rfl ((hB.keep hb8).keep hbz) rfl ((hM.keep hb8).keep hbz) rfl ((hO5.keep hb8).keep hbz) (by omega) (by have := hb8.size; have := hbz.size; omega) (fun ad e => by have := hO2 ad e; have := hb8.size; have := hbz.size; omega)).mono ?_
        rintro e' wz ⟨A, B, M, nc, mc, kc, rfl, hrA, hrB, hrM, ⟨hFA, hFB⟩, hb1⟩
        (try have hnA : ∀ ad, A = some ad → ad.block ≠ g := fun ad e => by have := hFA ad e; have := hG.lt; omega)
        (try have hnB : ∀ ad, B = some ad → ad.block ≠ g := fun ad e => by have := hFB ad e; have := hG.lt; omega)
        replace hbz := fr_call hbz hb1
        (try replace hG := hG.keep hb1)
        refine hK.out _ _ (hkS _ hbz) (fun hHeld => ?_)
        clear hK K
        (try simp only [Act.put, List.setIfInBounds_toArray, List.set_cons_zero, List.set_cons_succ])
        refine wpAnyH_ready (rs := [11, 12]) (by kernel_rfl) (by simp) ?_
        refine (AllReadyH.cons (o := ⟨some 108, .call { callee := .value (.func 90), args := #[.tmp 107, .const (.slice none 0 0)], argTypes := #[86, 23] }, 151, "turn.go:132", #[⟨10, .data⟩, ⟨10, .chain⟩], none⟩) rfl (fun K hK => ?_) (AllReadyH.cons (o := ⟨some 15, .alloc 151, 0, "turn.go:132", #[], none⟩) rfl (fun K hK => ?_) AllReadyH.nil))
        ·rw [if_pos (by rfl)]
         go_simp
         refine (lay_is 60 50 1 1 2 A B M 4 nc 5 mc 4 kc qMs wz hrM rfl (by omega) qMs_ok).mono ?_
         rintro e' wz ⟨l, rfl, hMl, hb1⟩
         replace hrA := hrA.keep hb1
         replace hrB := hrB.keep hb1
         replace hbz := fr_call hbz hb1
         (try replace hG := hG.keep hb1)
         refine hK.out _ _ (hkS _ hbz) (fun hHeld => ?_)
         clear hK K
         (try simp only [Act.put, List.setIfInBounds_toArray, List.set_cons_zero, List.set_cons_succ])
         refine wpAnyH_ready (rs := [12]) (by kernel_rfl) (by simp) ?_
         refine (AllReadyH.cons (o := ⟨some 15, .alloc 151, 0, "turn.go:132", #[], none⟩) rfl (fun K hK => ?_) AllReadyH.nil)
         rw [if_pos (by rfl)]
         refine wp_alloc_new 151 rfl _ (laid_zero _) ?_
         intro g wz hgz hG hb1 _
         have hgo : w7.heap.size ≤ g := by have := hbz.size; omega
         (try have hnA : ∀ ad, A = some ad → ad.block ≠ g := fun ad e => by have := rdS_old hrA (by simp) ad e; omega)
         (try have hnB : ∀ ad, B = some ad → ad.block ≠ g := fun ad e => by have := rdS_old hrB (by simp) ad e; omega)
         (try replace hrA := hrA.keep hb1)
         (try replace hrB := hrB.keep hb1)
         (try replace hrM := hrM.keep hb1)
         (try replace hMl := hMl.keep hb1)
         replace hbz := fr_call hbz hb1
         refine hK.out _ _ (hkS _ hbz) (fun hHeld => ?_)
         clear hK K
         (try simp only [Act.put, List.setIfInBounds_toArray, List.set_cons_zero, List.set_cons_succ])
         refine wpAnyH_ready (rs := [13]) (by kernel_rfl) (by simp) ?_
         refine (AllReadyH.cons (o := ⟨none, .store 151 (.tmp 15) (.tmp 108), 0, "turn.go:132", #[⟨12, .data⟩, ⟨11, .data⟩, ⟨11, .chain⟩, ⟨0, .phase⟩, ⟨1, .phase⟩, ⟨2, .phase⟩, ⟨3, .phase⟩, ⟨4, .phase⟩, ⟨5, .phase⟩, ⟨6, .phase⟩, ⟨7, .phase⟩, ⟨8, .phase⟩, ⟨9, .phase⟩, ⟨10, .phase⟩, ⟨11, .phase⟩, ⟨12, .phase⟩], none⟩) rfl (fun K hK => ?_) AllReadyH.nil)
         rw [if_pos (by rfl)]
         refine wp_store_blk _ _ _ rfl g 151 _ _ rfl rfl hG rfl (by kernel_rfl) (by simp [Value.oneCell']) ?_
         intro wz hL hgr
         replace hbz := hbz.grown hgr hbz.size (by intro i hi; cases hi; exact hgo)
         have hMg : l ≠ g := fun e => by
          unfold MapM at hMl
          unfold Blk at hG
          rw [e, hG] at hMl
          cases hMl
         have hM2 : MapM wz l qMs := (hgr.block l hMl.lt (fun e => hMg (Option.some.inj e))).trans hMl
         refine hK.out _ _ (hkS _ hbz) (fun hHeld => ?_)
         clear hK K
         refine wpAnyH_done (by kernel_rfl) ?_ _
         refine NoPanic.normal ?_
         have HH := Lib.hid (show LaidAt x y g wz from ⟨A, B, M, nc, mc, kc, l, hL, hM2, hrA.far hgr hnA, hrB.far hgr hnB⟩)
         clear hHeld hrA hrB
         go_wp2_with fail
         go_meet
         case rel => exact ⟨rfl, g, rfl, HH.out, hA7.keep hbz, fr_call hb8 hbz⟩
        ·rw [if_pos (by rfl)]
         refine wp_alloc_new 151 rfl _ (laid_zero _) ?_
         intro g wz hgz hG hb1 _
         have hgo : w7.heap.size ≤ g := by have := hbz.size; omega
         (try have hnA : ∀ ad, A = some ad → ad.block ≠ g := fun ad e => by have := rdS_old hrA (by simp) ad e; omega)
         (try have hnB : ∀ ad, B = some ad → ad.block ≠ g := fun ad e => by have := rdS_old hrB (by simp) ad e; omega)
         (try replace hrA := hrA.keep hb1)
         (try replace hrB := hrB.keep hb1)
         (try replace hrM := hrM.keep hb1)
         (try replace hMl := hMl.keep hb1)
         replace hbz := fr_call hbz hb1
         refine hK.out _ _ (hkS _ hbz) (fun hHeld => ?_)
         clear hK K
         (try simp only [Act.put, List.setIfInBounds_toArray, List.set_cons_zero, List.set_cons_succ])
         refine wpAnyH_ready (rs := [11]) (by kernel_rfl) (by simp) ?_
         refine (AllReadyH.cons (o := ⟨some 108, .call { callee := .value (.func 90), args := #[.tmp 107, .const (.slice none 0 0)], argTypes := #[86, 23] }, 151, "turn.go:132", #[⟨10, .data⟩, ⟨10, .chain⟩], none⟩) rfl (fun K hK => ?_) AllReadyH.nil)
         rw [if_pos (by rfl)]
         go_simp
         refine (lay_is 60 50 1 1 2 A B M 4 nc 5 mc 4 kc qMs wz hrM rfl (by omega) qMs_ok).mono ?_
         rintro e' wz ⟨l, rfl, hMl, hb1⟩
         replace hrA := hrA.keep hb1
         replace hrB := hrB.keep hb1
         replace hbz := fr_call hbz hb1
         (try replace hG := hG.keep hb1)
         refine hK.out _ _ (hkS _ hbz) (fun hHeld => ?_)
         clear hK K
         (try simp only [Act.put, List.setIfInBounds_toArray, List.set_cons_zero, List.set_cons_succ])
         refine wpAnyH_ready (rs := [13]) (by kernel_rfl) (by simp) ?_
         refine (AllReadyH.cons (o := ⟨none, .store 151 (.tmp 15) (.tmp 108), 0, "turn.go:132", #[⟨12, .data⟩, ⟨11, .data⟩, ⟨11, .chain⟩, ⟨0, .phase⟩, ⟨1, .phase⟩, ⟨2, .phase⟩, ⟨3, .phase⟩, ⟨4, .phase⟩, ⟨5, .phase⟩, ⟨6, .phase⟩, ⟨7, .phase⟩, ⟨8, .phase⟩, ⟨9, .phase⟩, ⟨10, .phase⟩, ⟨11, .phase⟩, ⟨12, .phase⟩], none⟩) rfl (fun K hK => ?_) AllReadyH.nil)
         rw [if_pos (by rfl)]
         refine wp_store_blk _ _ _ rfl g 151 _ _ rfl rfl hG rfl (by kernel_rfl) (by simp [Value.oneCell']) ?_
         intro wz hL hgr
         replace hbz := hbz.grown hgr hbz.size (by intro i hi; cases hi; exact hgo)
         have hMg : l ≠ g := fun e => by
          unfold MapM at hMl
          unfold Blk at hG
          rw [e, hG] at hMl
          cases hMl
         have hM2 : MapM wz l qMs := (hgr.block l hMl.lt (fun e => hMg (Option.some.inj e))).trans hMl
         refine hK.out _ _ (hkS _ hbz) (fun hHeld => ?_)
         clear hK K
         refine wpAnyH_done (by kernel_rfl) ?_ _
         refine NoPanic.normal ?_
         have HH := Lib.hid (show LaidAt x y g wz from ⟨A, B, M, nc, mc, kc, l, hL, hM2, hrA.far hgr hnA, hrB.far hgr hnB⟩)
         clear hHeld hrA hrB
         go_wp2_with fail
         go_meet
         case rel => exact ⟨rfl, g, rfl, HH.out, hA7.keep hbz, fr_call hb8 hbz⟩
       ·rw [if_pos (by rfl)]
        refine wp_alloc_new 151 rfl _ (laid_zero _) ?_
        intro g wz hgz hG hb1 _
        have hgo : w7.heap.size ≤ g := by have := hbz.size; omega
        (try have hnA : ∀ ad, A = some ad → ad.block ≠ g := fun ad e => by have := rdS_old hrA (by simp) ad e; omega)
        (try have hnB : ∀ ad, B = some ad → ad.block ≠ g := fun ad e => by have := rdS_old hrB (by simp) ad e; omega)
        (try replace hrA := hrA.keep hb1)
        (try replace hrB := hrB.keep hb1)
        (try replace hrM := hrM.keep hb1)
        (try replace hMl := hMl.keep hb1)
        replace hbz := fr_call hbz hb1
        refine hK.out _ _ (hkS _ hbz) (fun hHeld => ?_)
        clear hK K
        (try simp only [Act.put, List.setIfInBounds_toArray, List.set_cons_zero, List.set_cons_succ])
        refine wpAnyH_ready (rs := [10]) (by kernel_rfl) (by simp) ?_
        refine (AllReadyH.cons (o := ⟨some 107, .call { callee := .value (.func 91), args := #[.tmp 97, .tmp 98, .tmp 104, .tmp 105, .tmp 106], argTypes := #[86, 79, 3, 3, 23] }, 86, "turn.go:132", #[⟨0, .data⟩, ⟨1, .data⟩, ⟨7, .data⟩, ⟨8, .data⟩, ⟨9, .data⟩], none⟩) rfl (fun K hK => ?_) AllReadyH.nil)
        rw [if_pos (by rfl)]
        go_simp
        refine (with_is 60 50 1 1 2 b1 0 b2 0 b3 0 3 3 4 4 2 2 x y 0 5 A1 2 c1 pCs pWs pMs [0, 1] wz ((hA.keep hb8).keep hbz) rfl ((hB.keep hb8).keep hbz) rfl ((hM.keep hb8).keep hbz) rfl ((hO5.keep hb8).keep hbz) (by omega) (by have := hb8.size; have := hbz.size; omega) (fun ad e => by have := hO2 ad e; have := hb8.size; have := hbz.size; omega)).mono ?_
        rintro e' wz ⟨A, B, M, nc, mc, kc, rfl, hrA, hrB, hrM, ⟨hFA, hFB⟩, hb1⟩
        (try have hnA : ∀ ad, A = some ad → ad.block ≠ g := fun ad e => by have := hFA ad e; have := hG.lt; omega)
        (try have hnB : ∀ ad, B = some ad → ad.block ≠ g := fun ad e => by have := hFB ad e; have := hG.lt; omega)
        replace hbz := fr_call hbz hb1
        (try replace hG := hG.keep hb1)
        refine hK.out _ _ (hkS _ hbz) (fun hHeld => ?_)
        clear hK K
        (try simp only [Act.put, List.setIfInBounds_toArray, List.set_cons_zero, List.set_cons_succ])
        refine wpAnyH_ready (rs := [11]) (by kernel_rfl) (by simp) ?_
        refine (AllReadyH.cons (o := ⟨some 108, .call { callee := .value (.func 90), args := #[.tmp 107, .const (.slice none 0 0)], argTypes := #[86, 23] }, 151, "turn.go:132", #[⟨10, .data⟩, ⟨10, .chain⟩], none⟩) rfl (fun K hK => ?_) AllReadyH.nil)
        rw [if_pos (by rfl)]
        go_simp
        refine (lay_is 60 50 1 1 2 A B M 4 nc 5 mc 4 kc qMs wz hrM rfl (by omega) qMs_ok).mono ?_
        rintro e' wz ⟨l, rfl, hMl, hb1⟩
        replace hrA := hrA.keep hb1
        replace hrB := hrB.keep hb1
        replace hbz := fr_call hbz hb1
        (try replace hG := hG.keep hb1)
        refine hK.out _ _ (hkS _ hbz) (fun hHeld => ?_)
        clear hK K
        (try simp only [Act.put, List.setIfInBounds_toArray, List.set_cons_zero, List.set_cons_succ])
        refine wpAnyH_ready (rs := [13]) (by kernel_rfl) (by simp) ?_
        refine (AllReadyH.cons (o := ⟨none, .store 151 (.tmp 15) (.tmp 108), 0, "turn.go:132", #[⟨12, .data⟩, ⟨11, .data⟩, ⟨11, .chain⟩, ⟨0, .phase⟩, ⟨1, .phase⟩, ⟨2, .phase⟩, ⟨3, .phase⟩, ⟨4, .phase⟩, ⟨5, .phase⟩, ⟨6, .phase⟩, ⟨7, .phase⟩, ⟨8, .phase⟩, ⟨9, .phase⟩, ⟨10, .phase⟩, ⟨11, .phase⟩, ⟨12, .phase⟩], none⟩) rfl (fun K hK => ?_) AllReadyH.nil)
        rw [if_pos (by rfl)]
        refine wp_store_blk _ _ _ rfl g 151 _ _ rfl rfl hG rfl (by kernel_rfl) (by simp [Value.oneCell']) ?_
        intro wz hL hgr
        replace hbz := hbz.grown hgr hbz.size (by intro i hi; cases hi; exact hgo)
        have hMg : l ≠ g := fun e => by
         unfold MapM at hMl
         unfold Blk at hG
         rw [e, hG] at hMl
         cases hMl
        have hM2 : MapM wz l qMs := (hgr.block l hMl.lt (fun e => hMg (Option.some.inj e))).trans hMl
        refine hK.out _ _ (hkS _ hbz) (fun hHeld => ?_)
        clear hK K
        refine wpAnyH_done (by kernel_rfl) ?_ _
        refine NoPanic.normal ?_
        have HH := Lib.hid (show LaidAt x y g wz from ⟨A, B, M, nc, mc, kc, l, hL, hM2, hrA.far hgr hnA, hrB.far hgr hnB⟩)
        clear hHeld hrA hrB
        go_wp2_with fail
        go_meet
        case rel => exact ⟨rfl, g, rfl, HH.out, hA7.keep hbz, fr_call hb8 hbz⟩
      case rest =>
       obtain ⟨rfl, g, rfl, ⟨A, B, M, nc, mc, kc, l, hL, hMl, hrA, hrB⟩, hAt, hb9⟩ := hcut
       obtain ⟨w8, hw8⟩ : ∃ w8, w8 = wc := ⟨_, rfl⟩
       subst hw8
       clear hkS hl27 hc27 hX7 hA7 hb7 hb8
       go_wp2_with fail
       go_loopg [111] 5 (fun gh t w9 => ∃ i : Nat, i + gh = 5 ∧ t = .int .i64 i ∧ Hid (∀ z, z < i → wrongN x y z = 0) ∧ Below w8.heap.size w8 w9)
       case atStart => exact ⟨0, rfl, rfl, Lib.hid (fun z h => absurd h (by omega)), fr_refl _⟩
       case round =>
        obtain ⟨i, hig, rfl, hall, hb10⟩ := hrel
        cases gk with
        | zero =>
         obtain rfl : i = 5 := by omega
         have hxy : x = 28 ∧ y = 8 := by
          by_cases h : x = 28 ∧ 8 ≤ y
          ·omega
          ·have h1 := blocked_at hx (by omega) h HC.out
           rw [(free_iff x y).2 hall.out] at h1
           cases h1
         obtain ⟨rfl, rfl⟩ := hxy
         have hAe := hAt.keep hb10
         have hcA := fun j => hAe.cell j
         have hlA := hAe.lt
         have hRe := HR.out.keep (fr_call hb9 hb10)
         have hbe := fr_call hb0 (fr_call hbt (fr_call hb9 hb10))
         clear hrA hrB hMl hL hall HC
         go_wp2_with (refine wpList_store_blk rfl _ _ _ rfl (w.heap.size + 1) 79 _ _ rfl rfl hRe rfl (by kernel_rfl) (by simp [Value.oneCell']) ?_; intro w11 hQ hgQ)
         refine bodyPost_ret (results_blk_tmp rfl _ _ _ _ rfl hQ Tryz.underlying79 rfl (by kernel_rfl)) rfl ?_
         exact ⟨rfl, hbe.grown hgQ hbe.size (by intro k hk; cases hk; exact Nat.le_succ _)⟩
        | succ gn =>
         have i1 : (i : Int) < 5 := by omega
         have hw := wrong_at A B M nc mc kc l (.slice none 0 0) x y i (by omega) (by omega) (by omega) wr (hMl.keep hb10) (hrA.keep hb10) (hrB.keep hb10)
         have hL9 := hL.keep hb10
         have hcL := fun j => hL9.cell j
         have hlL := hL9.lt
         have hv28 : x = 28 ∧ y = 8 → wrongN x y i = 0 := fun h => by
          obtain ⟨rfl, rfl⟩ := h
          exact (free_iff 28 8).1 free_at.1 i (by omega)
         have HALL := Lib.hid (show wrongN x y i = 0 → ∀ z, z < i + 1 → wrongN x y z = 0 from fun h z hz => by
          by_cases e : z = i
          ·rw [e]; exact h
          ·exact hall.out z (by omega))
         generalize wrongN x y i = v at hw hv28 HALL
         clear hrA hrB hMl hL hall
         by_cases hv0 : v = 0
         ·have d0 : (v != 0) = false := by rw [hv0]; rfl
          have HN := Lib.hid (HALL.out hv0)
          clear hv28 hv0 HALL
          go_wp2_with fail
          refine hw.mono ?_
          rintro e wn ⟨rfl, hbn⟩
          go_wp2_with fail
          go_roundg gn
          case measure => omega
          case rel => exact ⟨i + 1, by omega, by go_num, HN, fr_call hb10 hbn⟩
         ·have d0 : (v != 0) = true := bne_iff_ne.2 hv0
          have hne : ¬ (x = 28 ∧ y = 8) := fun h => hv0 (hv28 h)
          clear hv28 hv0 HALL
          go_wp2_with fail
          refine hw.mono ?_
          rintro e wn ⟨rfl, hbn⟩
          go_wp2_with fail
          go_roundg gy
          case measure => omega
          case rel => exact ⟨y + 1, by omega, by omega, by go_num, fr_call hb9 (fr_call hb10 hbn)⟩
     ·have hne : ¬ (x = 28 ∧ y = 8) := by
       rintro ⟨rfl, rfl⟩
       rw [free_at.2] at HC
       have := HC.out
       cases this
      clear HC
      go_wp2_with fail
      go_roundg gy
      case measure => omega
      case rel => exact ⟨y + 1, by omega, by omega, by go_num, hb8⟩
end Go.Proofs.YtkmiphabagoifaaGreatDoor
end

section
namespace Go.Proofs.YtkmiphabagoifaaGreatDoor
open Go.RowKit

/-- a row of numbers of one's own, whole -/
def Hts (W : World) (g m : Nat) (E : Nat → Int) : Prop := ∃ cs, Blk W g 3 cs ∧ ∀ j, j < m → cs[j]? = some (.int .i64 (E j))
theorem Hts.keep {W W' : World} {g m : Nat} {E : Nat → Int} (h : Hts W g m E) (hb : Below W.heap.size W W') : Hts W' g m E := let ⟨cs, h1, h2⟩ := h; ⟨cs, h1.keep hb, h2⟩
theorem Hts.lt {W : World} {g m : Nat} {E : Nat → Int} (h : Hts W g m E) : g < W.heap.size := let ⟨_, h1, _⟩ := h; h1.lt
theorem Hts.cell {W : World} {g m : Nat} {E : Nat → Int} (h : Hts W g m E) {j : Nat} (hj : j < m) : W.cell? ⟨g, j, none⟩ = some (.int .i64 (E j)) := by
 obtain ⟨cs, h1, h2⟩ := h
 rw [h1.cell, h2 j hj]
theorem Hts.frozen {W : World} {g m : Nat} {E : Nat → Int} (h : Hts W g m E) (j : Nat) : W.frozen? ⟨g, j, none⟩ = false := let ⟨_, h1, _⟩ := h; h1.frozen j
theorem Hts.set {W : World} {g m : Nat} {E : Nat → Int} (h : Hts W g m E) {i : Nat} (hi : i < m) (a : Int) : Hts (W.setCell ⟨g, i, none⟩ (.int .i64 a)) g m (fun j => if j = i then a else E j) := by
 obtain ⟨cs, h1, h2⟩ := h
 refine ⟨_, h1.set_ i (.int .i64 a), fun j hj => ?_⟩
 have hs : i < cs.size := by
  have := h2 i hi
  exact (Array.getElem?_eq_some_iff.1 this).1
 show _ = some (Value.int .i64 (if j = i then a else E j))
 by_cases e : j = i
 ·subst e
  simp [hs]
 ·rw [if_neg e, ← h2 j hj]
  simp [Ne.symm e]
theorem Hts.congr {W : World} {g m : Nat} {E F : Nat → Int} (h : Hts W g m E) (he : ∀ j, j < m → E j = F j) : Hts W g m F := let ⟨cs, h1, h2⟩ := h; ⟨cs, h1, fun j hj => by rw [h2 j hj, he j hj]⟩
theorem Hts.made {W : World} {base m c : Nat} {g : Nat} (h : W.ownsRow base 3 1 (.slice (some ⟨g, 0, none⟩) m c) m (List.replicate m (.int .i64 0))) : Hts W g m (fun _ => 0) := by
 rcases h.2 with ⟨h0, _⟩ | ⟨g', cap, cur, hv, _, hB, _, _, _, ht⟩
 ·cases h0
 ·injection hv with hA _ _
  cases hA
  refine ⟨cur, hB, fun j hj => ?_⟩
  have h1 : (cur.toList.take (m * 1))[j]? = some (.int .i64 0) := by rw [ht, List.getElem?_replicate, if_pos hj]
  rw [List.getElem?_take, if_pos (by omega)] at h1
  simpa using h1
theorem Hts.rd {W : World} {g m : Nat} {E : Nat → Int} (h : Hts W g m E) (l : List Int) (hl : l.length = m) (he : ∀ j, j < m → l[j]?.getD 0 = E j) : Rd W (some ⟨g, 0, none⟩) m l :=
 ⟨hl, fun _ => ⟨_, rfl, h.lt, fun j hj => by rw [add_lit, Nat.zero_add, h.cell hj, he j hj]⟩⟩
theorem grown_cell (W : World) (p : Addr) (u : Value) : W.grownBy (W.setCell p u) (some p.block) :=
 ⟨rfl, rfl, rfl, by simp, fun k _ hne => Below.heap_setCell _ _ _ _ (fun e => hne (by rw [e]))⟩
/-- the high steps when some marks are made -/
def hiM (ms : List Int) (j : Nat) : Int := if ms.contains (j : Int) = true then 30 else 0
theorem hiM_snoc (ms : List Int) (x : Nat) (j : Nat) : hiM (ms ++ [(x : Int)]) j = if j = x then 30 else hiM ms j := by
 unfold hiM
 by_cases h : j = x
 ·subst h
  rw [if_pos rfl, if_pos (by simp)]
 ·rw [if_neg h]
  by_cases h2 : (j : Int) ∈ ms
  ·rw [if_pos (by simp [h2]), if_pos (by simpa using h2)]
  ·rw [if_neg (by simp; exact ⟨h2, by omega⟩), if_neg (by simpa using h2)]
theorem hiM_even {h : Nat} {ms : List Int} (hm : MarkOk h ms) (hh : 0 < h) {j : Nat} (hj : j < h) : hiM (ms ++ freshM ms (remM h ms) (gapM h ms) (h / gapM h ms)) j = (evenL h (gapM h ms) (remM h ms))[j]?.getD 0 := by
 rw [evenL_at hj]
 unfold hiM
 have hi := even_iff hm hh hj
 by_cases h1 : j % gapM h ms = remM h ms
 ·rw [if_pos h1, if_pos]
  have := hi.2 h1
  rw [List.contains_iff_mem, List.mem_append]
  exact this
 ·rw [if_neg h1, if_neg]
  rw [List.contains_iff_mem, List.mem_append]
  exact fun h2 => h1 (hi.1 h2)
theorem freshM_fit {h : Nat} {ms : List Int} (hh : 0 < h) : ∀ x ∈ freshM ms (remM h ms) (gapM h ms) (h / gapM h ms), 0 ≤ x ∧ x < (h : Int) := fun x hx => by
 unfold freshM at hx
 obtain ⟨h2, _⟩ := List.mem_filter.1 hx
 obtain ⟨k, hk, rfl⟩ := List.mem_map.1 h2
 have hk' := List.mem_range.1 hk
 have hr := rem_lt ms (h := h) hh
 have hb := gap_pos ms (h := h) hh
 obtain ⟨K, hK⟩ := gap_dvd h ms
 have hKe : h / gapM h ms = K := by rw [Nat.div_eq_of_eq_mul_right hb hK]
 rw [hKe] at hk'
 have := (step_lt (K := K) hr).2 hk'
 rw [← hK] at this
 omega
theorem even_heights (h b r : Nat) : HeightsOk (evenL h b r) := fun x hx => by
 unfold evenL at hx
 obtain ⟨i, _, rfl⟩ := List.mem_map.1 hx
 split <;> omega
theorem turn_heights {l : List Int} (hl : HeightsOk l) (s : Nat) : HeightsOk (turnL l s) := fun x hx => by
 unfold turnL at hx
 obtain ⟨i, hi, rfl⟩ := List.mem_map.1 hx
 cases h : l[(i + s) % l.length]? with
 | none => simp
 | some y =>
  have := hl y (List.mem_of_getElem? h)
  simpa using this
/-- what is asked of the helper -/
def Known11 (w : World) : Prop := ∀ W, Below w.heap.size w W → Calls Tryz.prog 7 #[] W fun e w' => e = .returned (.bool true) ∧ Below W.heap.size W w'
set_option maxRecDepth 100000 in
set_option maxHeartbeats 16000000 in
theorem marked_main (A : Option Addr) (n c h : Nat) (ms : List Int) (w : World) (hr : Rd w A n ms) (hn : n ≤ 30) (hh : 3 ≤ h ∧ h ≤ 24) (hm : markB h ms = true) (hkn : Known11 w) :
  Calls Tryz.prog 4 #[.int .i64 h, .slice A n c] w fun e' w' => e' = .returned (.bool true) ∧ Below w.heap.size w w' := by
 have hok := mark_ok hm
 have hmk := fun W hW => marked_any A n c (h : Int) ms W hW (by omega) (by omega) true hm
 have hev := fun W hW => even_ok A n c h ms W hW (by omega) hh hm
 have hb := gap_pos ms (h := h) (by omega)
 have hd := gap_dvd h ms
 have hrl := rem_lt ms (h := h) (by omega)
 have hev2 := fun j hj => hiM_even hok (show 0 < h by omega) (j := j) hj
 have hfit2 := freshM_fit (h := h) (ms := ms) (by omega)
 have hfl := freshM_len ms (remM h ms) (gapM h ms) (h / gapM h ms)
 have hfit := hok.fit
 have hlen := hr.len
 obtain ⟨b, hbe⟩ : ∃ b, gapM h ms = b := ⟨_, rfl⟩
 obtain ⟨r, hre⟩ : ∃ r, remM h ms = r := ⟨_, rfl⟩
 rw [hbe] at hb hd hrl hev hev2 hfit2 hfl
 rw [hre] at hrl hev hev2 hfit2 hfl
 obtain ⟨K, hKe⟩ : ∃ K, h / b = K := ⟨_, rfl⟩
 rw [hKe] at hev hev2 hfit2 hfl
 have hbK : h = b * K := by rw [← hKe, Nat.mul_div_cancel' hd]
 have hK1 : 1 ≤ K ∧ K ≤ h := by
  constructor
  ·rcases Nat.eq_zero_or_pos K with h0 | h0
   ·rw [h0, Nat.mul_zero] at hbK; omega
   ·exact h0
  ·have := Nat.mul_le_mul_right K hb
   rw [Nat.one_mul, ← hbK] at this
   exact this
 have hbh : b ≤ h := Nat.le_of_dvd (by omega) hd
 obtain ⟨fs, hfs⟩ : ∃ fs, freshM ms r b K = fs := ⟨_, rfl⟩
 rw [hfs] at hev hev2 hfit2 hfl
 obtain ⟨nf, hnf⟩ : ∃ nf, fs.length = nf := ⟨_, rfl⟩
 rw [hnf] at hev hfl
 have hEl := evenL_len h b r
 have hEh := even_heights h b r
 have HT0 := Lib.hid (turn_gap (r := r) hd (show 0 < h by omega))
 have HT1 := Lib.hid (fun s => turn_same (r := r) (s := s) hd (show 0 < h by omega))
 have HT2 := Lib.hid (fun s k => turn_less (r := r) (s := s) (k := k) hd (show 0 < h by omega) hrl)
 have HCH := Lib.hid (chg_even hb hd (show 0 < h by omega) hrl)
 rw [hKe] at HCH
 have q1 : ¬ ((h : Int) < 3) := by omega
 have q2 : ¬ ((24 : Int) < (h : Int)) := by omega
 have q3 : ¬ ((30 : Int) < (n : Int)) := by omega
 have q4 : ¬ ((K : Int) < 1) := by omega
 have q5 : ¬ ((h : Int) < (K : Int)) := by omega
 have q6 : (h : Int).tmod (K : Int) = 0 := by
  rw [Int.tmod_eq_emod_of_nonneg (by omega), hbK, Int.natCast_mul, Int.mul_emod_left]
 have q7 : ¬ ((h : Int) < (nf : Int)) := by omega
 have q8 : (h : Int).tdiv (K : Int) = (b : Int) := by
  rw [hbK, Int.natCast_mul]
  exact Int.mul_tdiv_cancel _ (by omega)
 have q9 : ((K : Int) == 0) = false := beq_eq_false_iff_ne.2 (by omega)
 have q10 : IntKind.i64.wrap (b : Int) = (b : Int) := IntWalk.i64_in _ (by omega)
 have HFIT := Lib.hid hfit
 have HFIT2 := Lib.hid hfit2
 have HEV := Lib.hid hev2
 have HL := Lib.hid hlen
 have HNF := Lib.hid hnf
 have HEL := Lib.hid hEl
 have HEH := Lib.hid hEh
 have HBK := Lib.hid hbK
 have HKN := Lib.hid hkn
 have HFITN := Lib.hid (show 0 < ms.length from hok.some)
 clear hok hfit hfit2 hev2 hlen hnf hEl hEh hbK hkn hbe hre hKe hfs hd hm
 go_enter Tryz.func4, Tryz.ntmps4
 go_wp2_with fail
 refine (hmk _ hr).mono ?_
 rintro e w1 ⟨rfl, hb1⟩
 have hr1 := hr.keep hb1
 go_wp2_with fail
 refine (hev _ hr1).mono ?_
 rintro e w2 ⟨T, d, rfl, hT, hb2⟩
 have hr2 := hr1.keep hb2
 have hfr := fr_call hb1 hb2
 obtain ⟨i0, hi0, hz0, hz3, hz4⟩ := info_parts info_int
 clear hmk hev hb1 hb2 hr1
 go_wp2_with (at_make; refine wpList_make_full w2 rfl (.tmp 67) (.tmp 67) 23 rfl w2.heap.size 3 i0 (.int .i64 0) 1 Tryz.underlying23 hi0 hz0 hz3 .i64 .i64 _ _ h rfl rfl (by push_cast; rfl) (by push_cast; rfl) (by rw [hz4]; omega) (by unfold maxLen; omega) (Nat.le_refl _) ?_; intro w3 hEo hgE)
 have hb3 : Below w2.heap.size w2 w3 := (fr_refl w2).grown hgE (fr_refl w2).size (by intro k hk; cases hk)
 have hE0 : Hts w3 w2.heap.size h (fun _ => 0) := Hts.made (by
  have h := hEo
  rw [Nat.mul_one, show (Value.int .i64 0).cells = #[.int .i64 0] from rfl, toList_madeCells_one] at h
  exact h)
 clear hEo hgE hi0 hz0 hz3 hz4
 have hfr3 := fr_call hfr hb3
 have hT3 := hT.keep hb3
 obtain ⟨bA, off, rfl, hbl, hcA⟩ := rdA hr2 (by have := HL.out; have := HFITN.out; omega)
 clear hr2 hT3 hfr3
 go_loopw [9] (fun t wr => ∃ k : Nat, k ≤ n ∧ t = .int .i64 k ∧ Hts wr w2.heap.size h (hiM (ms.take k)) ∧ Below w2.heap.size w2 wr) (fun t _ => n - (intOf t).toNat)
 case atStart => exact ⟨0, Nat.zero_le _, rfl, hE0.congr (fun j _ => by simp [hiM]), hb3⟩
 case round =>
  clear hE0 hb3
  obtain ⟨k, hk, rfl, hH, hbw⟩ := hrel
  by_cases hlt : k < n
  ·have hck := (hbw.cell (p := ⟨bA, off + k, none⟩) hbl).trans (hcA k hlt)
   have hsz := hbw.size
   have hkl : k < ms.length := by rw [HL.out]; exact hlt
   have hfx := HFIT.out _ (List.getElem_mem hkl)
   obtain ⟨y, hy⟩ : ∃ y : Nat, ms[k] = (y : Int) := ⟨ms[k].toNat, by omega⟩
   rw [show ms[k]?.getD 0 = ms[k] by simp [hkl], hy] at hck
   have HTK := Lib.hid (show ms.take (k + 1) = ms.take k ++ [(y : Int)] from by rw [List.take_succ_eq_append_getElem hkl, hy])
   have hyh : y < h := by omega
   have hcy := hH.cell hyh
   have hfy := hH.frozen y
   have i1 : 0 ≤ (k : Int) := by omega
   have i2 : (k : Int) < (n : Int) := by omega
   have y1 : 0 ≤ (y : Int) := by omega
   have y2 : (y : Int) < (h : Int) := by omega
   have HN := Lib.hid (And.intro ((hH.set hyh 30).congr (F := hiM (ms.take (k + 1))) (fun j _ => by rw [HTK.out, hiM_snoc])) (hbw.grown (grown_cell wr ⟨w2.heap.size, y, none⟩ (.int .i64 30)) hbw.size (by intro k hk; cases hk; exact Nat.le_refl _)))
   clear hfx hy hkl hH hbw hyh
   go_wp2_with fail
   refine ⟨⟨k + 1, hlt, by go_num, HN.out.1, HN.out.2⟩, ?_⟩
   simp [intOf]; omega
  ·obtain rfl : k = n := by omega
   rw [List.take_of_length_le (by rw [HL.out]; exact Nat.le_refl _)] at hH
   clear hcA
   go_wp2_with fail
   go_loopw [10] (fun t wq => ∃ j : Nat, j ≤ nf ∧ t = .int .i64 j ∧ Hts wq w2.heap.size h (hiM (ms ++ fs.take j)) ∧ Below w2.heap.size w2 wq) (fun t _ => nf - (intOf t).toNat)
   case atStart => exact ⟨0, Nat.zero_le _, rfl, by rw [List.take_zero, List.append_nil]; exact hH, hbw⟩
   case round =>
    clear hH hbw
    obtain ⟨j, hj, rfl, hH, hbw⟩ := hrel
    by_cases hlt : j < nf
    ·obtain ⟨ad, rfl, hab, hcj⟩ := (hT.keep hbw).at_ hlt
     have hsz := hbw.size
     have hjl : j < fs.length := by rw [HNF.out]; exact hlt
     have hfx := HFIT2.out _ (List.getElem_mem hjl)
     obtain ⟨y, hy⟩ : ∃ y : Nat, fs[j] = (y : Int) := ⟨fs[j].toNat, by omega⟩
     rw [show fs[j]?.getD 0 = fs[j] by simp [hjl], hy] at hcj
     have HTK := Lib.hid (show ms ++ fs.take (j + 1) = (ms ++ fs.take j) ++ [(y : Int)] from by rw [List.take_succ_eq_append_getElem hjl, hy, List.append_assoc])
     have hyh : y < h := by omega
     have hcy := hH.cell hyh
     have hfy := hH.frozen y
     have i1 : 0 ≤ (j : Int) := by omega
     have i2 : (j : Int) < (nf : Int) := by omega
     have y1 : 0 ≤ (y : Int) := by omega
     have y2 : (y : Int) < (h : Int) := by omega
     have y3 : ¬ (y : Int) < 0 := by omega
     have y4 : ¬ (h : Int) ≤ (y : Int) := by omega
     have HN := Lib.hid (And.intro ((hH.set hyh 30).congr (F := hiM (ms ++ fs.take (j + 1))) (fun z _ => by rw [HTK.out, hiM_snoc])) (hbw.grown (grown_cell wr ⟨w2.heap.size, y, none⟩ (.int .i64 30)) hbw.size (by intro k hk; cases hk; exact Nat.le_refl _)))
     clear hfx hy hjl hH hbw hyh hab
     go_wp2_with fail
     refine ⟨⟨j + 1, hlt, by go_num, HN.out.1, HN.out.2⟩, ?_⟩
     simp [intOf]; omega
    ·obtain rfl : j = nf := by omega
     rw [List.take_of_length_le (by rw [HNF.out]; exact Nat.le_refl _)] at hH
     have hLr := hH.rd (evenL h b r) HEL.out (fun z hz => (HEV.out z hz).symm)
     have hfr4 := fr_call hfr hbw
     clear hH hT hbw
     have htu := turn_any (some ⟨w2.heap.size, 0, none⟩) h h b (evenL h b r) wr hLr hh (by omega)
     have hte := fun T d W h1 h2 => turned_any T (some ⟨w2.heap.size, 0, none⟩) h d h 0 (turnL (evenL h b r) b) (evenL h b r) W h1 h2 hh (turn_heights HEH.out b) HEH.out (by omega) HT0.out (fun j hj => by omega)
     have hch := fun W h1 => tChanges_ok (some ⟨w2.heap.size, 0, none⟩) h h (evenL h b r) W h1 hh HEH.out
     rw [HCH.out] at hch
     go_wp2_with fail
     refine htu.mono ?_
     rintro e w5 ⟨T5, d5, rfl, hT5, hb5⟩
     have hL5 := hLr.keep hb5
     have hfr5 := fr_call hfr4 hb5
     clear htu hLr hfr4
     go_wp2_with fail
     refine (hte _ _ _ hT5 hL5).mono ?_
     rintro e w6 ⟨rfl, rfl⟩
     clear hte hT5
     by_cases hb1 : b = 1
     ·simp only [if_pos hb1] at hch
      have g1 : decide ((1 : Int) < (b : Int)) = false := decide_eq_false (by omega)
      have g2 : ((b : Int) == 1) = true := by rw [hb1]; rfl
      have g3 : decide (1 < b) = false := decide_eq_false (by omega)
      have HB1 := Lib.hid hb1
      clear hb1
      go_wp2_with fail
      refine (hch _ hL5).mono ?_
      rintro e w7 ⟨rfl, hb7⟩
      have hL7 := hL5.keep hb7
      have hfr7 := fr_call hfr5 hb7
      clear hch hL5 hfr5
      go_wp2_with fail
      go_loopw [16] (fun t wq => ∃ s : Nat, (1 ≤ s ∧ s ≤ b) ∧ t = .int .i64 s ∧ Below w.heap.size w wq ∧ Rd wq (some ⟨w2.heap.size, 0, none⟩) h (evenL h b r)) (fun t _ => b - (intOf t).toNat)
      case atStart => exact ⟨1, ⟨Nat.le_refl _, hb⟩, rfl, hfr7, hL7⟩
      case round =>
       clear hfr7 hL7
       obtain ⟨s, ⟨hs1, hsb⟩, rfl, hbq, hLq⟩ := hrel
       by_cases hlt : s < b
       ·have s1 : (s : Int) < (b : Int) := by omega
        have htu := turn_any (some ⟨w2.heap.size, 0, none⟩) h h s (evenL h b r) wr hLq hh (by omega)
        have hte := fun T d W h1 h2 => turned_any T (some ⟨w2.heap.size, 0, none⟩) h d h s (turnL (evenL h b r) s) (evenL h b r) W h1 h2 hh (turn_heights HEH.out s) HEH.out (by omega) (HT1.out s) (fun j hj => HT2.out s j hlt hj)
        have s2 : ((s : Int) != (s : Int)) = false := by simp
        have HLT := Lib.hid hlt
        clear hs1 hsb hlt
        go_wp2_with fail
        refine htu.mono ?_
        rintro e w8 ⟨T8, d8, rfl, hT8, hb8⟩
        have hL8 := hLq.keep hb8
        have hbq8 := fr_call hbq hb8
        clear htu hLq hbq
        go_wp2_with fail
        refine (hte _ _ _ hT8 hL8).mono ?_
        rintro e w9 ⟨rfl, rfl⟩
        clear hte
        go_wp2_with fail
        refine ⟨⟨s + 1, ⟨by omega, HLT.out⟩, by go_num, hbq8, hL8⟩, ?_⟩
        have := HLT.out
        simp [intOf]; omega
       ·have s1 : ¬ (s : Int) < (b : Int) := by omega
        have hk11 := HKN.out wr hbq
        clear hLq
        go_wp2_with fail
        refine hk11.mono ?_
        rintro e w9 ⟨rfl, hb9⟩
        go_wp2_with fail
        go_ret
        exact ⟨rfl, fr_call hbq hb9⟩
     ·simp only [if_neg hb1] at hch
      have g1 : decide ((1 : Int) < (b : Int)) = true := decide_eq_true (by omega)
      have g2 : ((b : Int) == 1) = false := beq_eq_false_iff_ne.2 (by omega)
      have g3 : decide (1 < b) = true := decide_eq_true (by omega)
      have g4 : IntKind.i64.wrap (2 * (K : Int)) = 2 * (K : Int) := IntWalk.i64_in _ (by omega)
      clear hb1
      go_wp2_with fail
      refine (hch _ hL5).mono ?_
      rintro e w7 ⟨rfl, hb7⟩
      have hL7 := hL5.keep hb7
      have hfr7 := fr_call hfr5 hb7
      clear hch hL5 hfr5
      go_wp2_with fail
      go_loopw [16] (fun t wq => ∃ s : Nat, (1 ≤ s ∧ s ≤ b) ∧ t = .int .i64 s ∧ Below w.heap.size w wq ∧ Rd wq (some ⟨w2.heap.size, 0, none⟩) h (evenL h b r)) (fun t _ => b - (intOf t).toNat)
      case atStart => exact ⟨1, ⟨Nat.le_refl _, hb⟩, rfl, hfr7, hL7⟩
      case round =>
       clear hfr7 hL7
       obtain ⟨s, ⟨hs1, hsb⟩, rfl, hbq, hLq⟩ := hrel
       by_cases hlt : s < b
       ·have s1 : (s : Int) < (b : Int) := by omega
        have htu := turn_any (some ⟨w2.heap.size, 0, none⟩) h h s (evenL h b r) wr hLq hh (by omega)
        have hte := fun T d W h1 h2 => turned_any T (some ⟨w2.heap.size, 0, none⟩) h d h s (turnL (evenL h b r) s) (evenL h b r) W h1 h2 hh (turn_heights HEH.out s) HEH.out (by omega) (HT1.out s) (fun j hj => HT2.out s j hlt hj)
        have s2 : ((s : Int) != (s : Int)) = false := by simp
        have HLT := Lib.hid hlt
        clear hs1 hsb hlt
        go_wp2_with fail
        refine htu.mono ?_
        rintro e w8 ⟨T8, d8, rfl, hT8, hb8⟩
        have hL8 := hLq.keep hb8
        have hbq8 := fr_call hbq hb8
        clear htu hLq hbq
        go_wp2_with fail
        refine (hte _ _ _ hT8 hL8).mono ?_
        rintro e w9 ⟨rfl, rfl⟩
        clear hte
        go_wp2_with fail
        refine ⟨⟨s + 1, ⟨by omega, HLT.out⟩, by go_num, hbq8, hL8⟩, ?_⟩
        have := HLT.out
        simp [intOf]; omega
       ·have s1 : ¬ (s : Int) < (b : Int) := by omega
        have hk11 := HKN.out wr hbq
        clear hLq
        go_wp2_with fail
        refine hk11.mono ?_
        rintro e w9 ⟨rfl, hb9⟩
        go_wp2_with fail
        go_ret
        exact ⟨rfl, fr_call hbq hb9⟩
set_option maxRecDepth 100000 in
set_option maxHeartbeats 16000000 in
theorem marked_true (A : Option Addr) (n c : Nat) (h : Int) (ms : List Int) (w : World) (hr : Rd w A n ms) (hkn : Known11 w) :
  Calls Tryz.prog 4 #[.int .i64 h, .slice A n c] w fun e' w' => e' = .returned (.bool true) ∧ Below w.heap.size w w' := by
 have hk0 := hkn w (fr_refl w)
 by_cases h1 : h < 3
 ·clear hkn hr
  go_enter Tryz.func4, Tryz.ntmps4
  go_wp2_with fail
  refine hk0.mono ?_
  rintro e w1 ⟨rfl, hb⟩
  go_wp2_with fail
  go_ret
  exact ⟨rfl, hb⟩
 by_cases h2 : 24 < h
 ·clear hkn hr
  go_enter Tryz.func4, Tryz.ntmps4
  go_wp2_with fail
  refine hk0.mono ?_
  rintro e w1 ⟨rfl, hb⟩
  go_wp2_with fail
  go_ret
  exact ⟨rfl, hb⟩
 by_cases h3 : (30 : Int) < (n : Int)
 ·clear hkn hr
  go_enter Tryz.func4, Tryz.ntmps4
  go_wp2_with fail
  refine hk0.mono ?_
  rintro e w1 ⟨rfl, hb⟩
  go_wp2_with fail
  go_ret
  exact ⟨rfl, hb⟩
 cases hm : markB h ms
 ·have hmk := marked_any A n c h ms w hr (by omega) (by omega) false hm
  have HKN := Lib.hid hkn
  clear hkn hr hm hk0
  go_enter Tryz.func4, Tryz.ntmps4
  go_wp2_with fail
  refine hmk.mono ?_
  rintro e w1 ⟨rfl, hb1⟩
  have hk1 := HKN.out _ hb1
  go_wp2_with fail
  refine hk1.mono ?_
  rintro e w2 ⟨rfl, hb⟩
  go_wp2_with fail
  go_ret
  exact ⟨rfl, fr_call hb1 hb⟩
 ·obtain ⟨k, rfl⟩ : ∃ k : Nat, h = (k : Int) := ⟨h.toNat, by omega⟩
  exact marked_main A n c k ms w hr (by omega) (by omega) hm hkn
end Go.Proofs.YtkmiphabagoifaaGreatDoor
end

section
namespace Go.Proofs.YtkmiphabagoifaaGreatDoor
open Go.RowKit Go.Shelf Dl

def cLines : List (List UInt8) := [[104, 97, 110, 100, 115], [99, 117, 116, 115, 32, 51, 54], [119, 111, 114, 107, 115, 32, 57]]
def cOuts : List (List UInt8) := [[49, 32, 51, 32, 51, 32, 52], [50, 32, 49, 32, 51], [49, 48]]
theorem c_hands : joinedL (handsL sLs sHs 2) = [49, 32, 51, 32, 51, 32, 52] := by kernel_rfl
theorem c_cuts : joinedL [2, 1, 3] = [50, 32, 49, 32, 51] := by kernel_rfl
theorem c_works : joinedL [10] = [49, 48] := by kernel_rfl
theorem c_w9 : workB (feastsY 0 sCy 59 2 0 1 sFe) (firstDay 0 sCy 1 + 8) = false := by kernel_rfl
theorem c_w10 : workB (feastsY 0 sCy 59 2 0 1 sFe) (firstDay 0 sCy 1 + 9) = true := by kernel_rfl
theorem c_long : longY sCy 1 = 365 := by kernel_rfl
theorem c_p36 : pieces 32 [99, 117, 116, 115, 32, 51, 54] = [99, 117, 116, 115] :: [[51, 54]] := by kernel_rfl
theorem c_p9 : pieces 32 [119, 111, 114, 107, 115, 32, 57] = [119, 111, 114, 107, 115] :: [[57]] := by kernel_rfl
theorem c_i0 : Lib.idxBy eqF asksF ([104, 97, 110, 100, 115], 0) = ((0 : Nat) : Int) := by kernel_rfl
theorem wd36 : WdOk [51, 54] := ⟨by simp, by decide, by kernel_rfl, by kernel_rfl⟩
theorem wd9 : WdOk [57] := ⟨by simp, by decide, by kernel_rfl, by kernel_rfl⟩
theorem v36 : [[51, 54]].map valOf = [((36 : Nat) : Int)] := by kernel_rfl
theorem v9 : [[57]].map valOf = [((9 : Nat) : Int)] := by kernel_rfl
set_option maxRecDepth 100000 in
set_option maxHeartbeats 4000000 in
theorem console_P (w : World) (hM : MaxP w) (hT : TabP w) : Calls Tryz.prog 32 #[] w fun e w' => ∃ v, e = .returned v ∧ Below w.heap.size w w' ∧ Calls Tryz.prog 31 #[v, .string ⟨#[104, 97, 110, 100, 115, 10, 99, 117, 116, 115, 32, 51, 54, 10, 119, 111, 114, 107, 115, 32, 57, 10]⟩] w' fun e w'' => e = .returned (.tuple #[.string ⟨#[49, 32, 51, 32, 51, 32, 52, 10, 50, 32, 49, 32, 51, 10, 49, 48, 10]⟩, .int .i64 0]) ∧ Below w'.heap.size w' w'' := by
 refine (law10Suite_is w).mono ?_
 rintro e w1 ⟨g1, g2, g3, g4, g5, g6, rfl, hS, hb1⟩
 refine ⟨_, rfl, hb1, ?_⟩
 have hf : ∀ g n, Fm (some ⟨g, 0, none⟩) n := fun g n => Or.inr ⟨g, 0, rfl⟩
 refine Console_ok (some ⟨g1, 0, none⟩) (some ⟨g2, 0, none⟩) (some ⟨g3, 0, none⟩) (some ⟨g4, 0, none⟩) (some ⟨g5, 0, none⟩) (some ⟨g6, 0, none⟩) 3 3 2 2 2 3 3 1 1 2 2 40 3 6 4 10 100 0 59 2 0 1 sLs sHs sTg sHo sCy sFe cLines cOuts w1 hS su_ok (hf _ _) (hf _ _) (hf _ _) (hf _ _) (hf _ _) (hf _ _) (by decide) [104, 97, 110, 100, 115, 10, 99, 117, 116, 115, 32, 51, 54, 10, 119, 111, 114, 107, 115, 32, 57] rfl (by decide) (by decide) rfl (by decide) ?_
 intro g gs B1 B2 B3 B4 B5 B6 k1 k2 k3 k4 k5 k6 D dc W hD hb k x o hx ho
 have hMW := (hM.keep hb1).keep hb
 have hTW := (hT.keep hb1).keep hb
 have hbd : (3 : Nat) ≤ 1000 ∧ (2 : Nat) ≤ 1000 ∧ (3 : Nat) ≤ 1000 ∧ (1 : Nat) ≤ 1000 ∧ (2 : Nat) ≤ 1000 := by decide
 match k, hx, ho with
 | 0, hx, ho =>
  cases hx; cases ho
  have h := answer_hands g gs B1 B2 B3 B4 B5 B6 3 k1 2 k2 k3 3 k4 1 k5 2 k6 40 3 6 4 10 100 0 59 2 0 1 D (longY sCy 1) dc (.slice none 0 0) sLs sHs sTg sHo sCy sFe (feastsY 0 sCy 59 2 0 1 sFe) (firstDay 0 sCy 1) [104, 97, 110, 100, 115] [104, 97, 110, 100, 115] [] (2 * 2) (handsL sLs sHs 2) W hD hbd (by decide) (by kernel_rfl) (by intro wd h; cases h) rfl (by kernel_rfl) (by kernel_rfl) (by decide) (by decide +kernel) (by rw [c_hands]; decide) hMW hTW (by
   intro N nc s C1 C2 C3 C4 C5 C6 j1 j2 j3 j4 j5 j6 mp W1 hSt hG hN
   exact ahands_ok s 3 j1 2 j2 0 nc _ C1 C2 N sLs sHs W1 (hSt.s.cell 0) (hSt.s.cell 1) hSt.r.r1 hSt.r.l1 hSt.r.r2 hSt.cap su_ok.piece)
  rw [c_hands] at h
  exact h
 | 1, hx, ho =>
  cases hx; cases ho
  have h := answer_cuts g gs B1 B2 B3 B4 B5 B6 3 k1 2 k2 k3 3 k4 1 k5 2 k6 40 3 6 4 10 100 0 59 2 0 1 D (longY sCy 1) dc (.slice none 0 0) sLs sHs sTg sHo sCy sFe (feastsY 0 sCy 59 2 0 1 sFe) (firstDay 0 sCy 1) [99, 117, 116, 115, 32, 51, 54] [99, 117, 116, 115] [[51, 54]] 3 [2, 1, 3] W hD hbd (by decide) c_p36 (by intro wd h; rw [List.mem_singleton.1 h]; exact wd36) rfl (by kernel_rfl) (by kernel_rfl) (by decide) (by decide) (by rw [c_cuts]; decide) hMW hTW (by
   intro N nc s C1 C2 C3 C4 C5 C6 j1 j2 j3 j4 j5 j6 mp W1 hSt hG hN
   rw [v36] at hN
   exact acuts_ok s 40 3 j4 36 1 nc _ C4 N sHo 2 W1 (hSt.s.cell 4) (hSt.s.cell 5) hSt.r.r4 hN (by decide) (by decide) (by decide) su_ok.ho (by decide) (by kernel_rfl) (by intro j hj; have h2 : j = 0 ∨ j = 1 := (by omega); rcases h2 with rfl | rfl <;> decide))
  rw [c_cuts] at h
  exact h
 | 2, hx, ho =>
  cases hx; cases ho
  have h := answer_works g gs B1 B2 B3 B4 B5 B6 3 k1 2 k2 k3 3 k4 1 k5 2 k6 40 3 6 4 10 100 0 59 2 0 1 D (longY sCy 1) dc (.slice none 0 0) sLs sHs sTg sHo sCy sFe (feastsY 0 sCy 59 2 0 1 sFe) (firstDay 0 sCy 1) [119, 111, 114, 107, 115, 32, 57] [119, 111, 114, 107, 115] [[57]] 1 [10] W hD hbd (by decide) c_p9 (by intro wd h; rw [List.mem_singleton.1 h]; exact wd9) rfl (by kernel_rfl) (by kernel_rfl) (by decide) (by decide) (by rw [c_works]; decide) hMW hTW (by
   intro N nc s C1 C2 C3 C4 C5 C6 j1 j2 j3 j4 j5 j6 mp W1 hSt hG hN
   rw [v9] at hN
   exact works_ok g gs s (longY sCy 1) dc 1 nc D N _ _ _ _ 9 10 W1 hG (hSt.s.cell 17) hSt.days hN (by decide) (by decide) (by rw [c_long]; decide) (by rw [c_long]; decide) (by intro j h1 h2; have e9 : j = 9 := (by omega); subst e9; exact c_w9) c_w10)
  rw [c_works] at h
  exact h
 | (k + 3), hx, _ => cases hx
set_option maxRecDepth 100000 in
set_option maxHeartbeats 4000000 in
theorem known11_is (w : World) (hM : MaxP w) (hT : TabP w) : Calls Tryz.prog 7 #[] w fun e w' => e = .returned (.bool true) ∧ Below w.heap.size w w' := by
 have heq : ∀ w, (binOp .eql 79 (.agg #[.int .i64 28, .int .i64 8]) (.agg #[.int .i64 28, .int .i64 8])).run Tryz.prog w = .ok (.bool true) w := fun w => by kernel_rfl
 go_enter Tryz.func7, Tryz.ntmps7
 go_wp2_with fail
 refine (law2P_is w).mono ?_
 rintro e w1 ⟨g1, g2, g3, rfl, hA, hB, hC, hb1⟩
 go_wp2_with fail
 refine (place_P g1 g2 g3 w1 hA hB hC).mono ?_
 rintro e w2 ⟨rfl, hb2⟩
 have hb02 := fr_call hb1 hb2
 clear hA hB hC hb1 hb2
 go_upto_region 2 with (refine wpList_store_blk rfl _ _ _ rfl w2.heap.size 79 _ _ rfl rfl (Blk.new w2 _ _) rfl (by kernel_rfl) (by simp [Value.oneCell']) ?_; intro w3 hQ hgQ)
 have hb3 : Below w2.heap.size w2 w3 := (fr_alloc (fr_refl w2) _).grown hgQ (fr_alloc (fr_refl w2) _).size (by intro k hk; cases hk; exact Nat.le_refl _)
 (try dsimp only [Act.put])
 have hb03 := fr_call hb02 hb3
 have hl1 := fr_alloc (fr_alloc (fr_refl w3) (.cells #[.int .i64 1, .int .i64 2, .int .i64 8, .int .i64 9] 3)) (.cells #[.int .i64 8, .int .i64 9, .int .i64 1, .int .i64 2] 3)
 have hL1 : Rd ((w3.alloc (.cells #[.int .i64 1, .int .i64 2, .int .i64 8, .int .i64 9] 3)).alloc (.cells #[.int .i64 8, .int .i64 9, .int .i64 1, .int .i64 2] 3)) (some ⟨w3.heap.size, 0, none⟩) 4 [1, 2, 8, 9] := rd_of_blk ((Blk.new w3 _ _).alloc _)
 have hL2 : Rd ((w3.alloc (.cells #[.int .i64 1, .int .i64 2, .int .i64 8, .int .i64 9] 3)).alloc (.cells #[.int .i64 8, .int .i64 9, .int .i64 1, .int .i64 2] 3)) (some ⟨w3.heap.size + 1, 0, none⟩) 4 [8, 9, 1, 2] := rd_of_blk (Blk.new_at _ _ (by simp))
 have hTu := turned_any (some ⟨w3.heap.size, 0, none⟩) (some ⟨w3.heap.size + 1, 0, none⟩) 4 4 4 2 [1, 2, 8, 9] [8, 9, 1, 2] _ hL1 hL2 (by decide) (by unfold HeightsOk; decide) (by unfold HeightsOk; decide) (by decide) (by unfold SameAt; decide) (by unfold SameAt; decide)
 have hQ4 := hQ.keep hl1
 have hb04 := fr_call hb03 hl1
 clear hL1 hL2 hb02 hb3 hgQ hQ hl1
 go_wp2_with fail
 refine hTu.mono ?_
 rintro e w4 ⟨rfl, rfl⟩
 clear hTu
 generalize (w3.alloc (.cells #[.int .i64 1, .int .i64 2, .int .i64 8, .int .i64 9] 3)).alloc (.cells #[.int .i64 8, .int .i64 9, .int .i64 1, .int .i64 2] 3) = w4 at *
 go_wp2_with fail
 refine (console_P w4 (hM.keep hb04) (hT.keep hb04)).mono ?_
 rintro e w5 ⟨v, rfl, hb5, hK⟩
 go_wp2_with fail
 refine hK.mono ?_
 rintro e w6 ⟨rfl, hb6⟩
 have hQ6 := hQ4.keep (fr_call hb5 hb6)
 have hcQ := fun j => hQ6.cell j
 have hb06 := fr_call hb04 (fr_call hb5 hb6)
 clear hK hQ4
 go_wp2_with fail
 go_ret
 exact ⟨rfl, hb06⟩
theorem known11_of {w : World} (hM : MaxP w) (hT : TabP w) : Known11 w := fun W hb => known11_is W (hM.keep hb) (hT.keep hb)
end Go.Proofs.YtkmiphabagoifaaGreatDoor
end
