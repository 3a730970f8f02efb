/- Walks: the suite of the chapter's examples. Walk: the suite of the chapter's examples, whole. Walks, package plate: whether the chapter's piece is as defined. -/
import Derived.Test.YtkmiphabagoifaaGreatDoorMT15
import Derived.Test.YtkmiphabagoifaaGreatDoorMT17
import Derived.Test.YtkmiphabagoifaaGreatDoorMT16
section
namespace Go.Proofs.YtkmiphabagoifaaGreatDoor
open Go.RowKit Go.Shelf

theorem rd_blk {w : World} {g : Nat} {xs : List Int} (h : Blk w g 3 (xs.map (Value.int .i64)).toArray) : Rd w (some ⟨g, 0, none⟩) xs.length xs := by
 refine ⟨rfl, fun hn => ⟨_, rfl, h.lt, fun j hj => ?_⟩⟩
 rw [add_lit, Nat.zero_add, h.cell, List.getElem?_toArray, List.getElem?_map, List.getElem?_eq_getElem hj]
 rfl
set_option maxHeartbeats 1000000 in
theorem pair_is (a b : Int) (w : World) : Calls Tryz.prog 170 #[.int .i64 a, .int .i64 b] w fun e w' => e = .returned (.agg #[.int .i64 a, .int .i64 b]) ∧ Below w.heap.size w w' := by
 go_enter Tryz.func170, Tryz.ntmps170
 go_wp2_with fail
 refine bodyPost_ret (results_blk1 rfl _ _ _ _ rfl (Blk.new w _ _) Tryz.underlying138 rfl (by kernel_rfl)) rfl ?_
 exact ⟨rfl, fr_alloc (fr_refl _) _⟩
def sLs : List Lk := [⟨0, ⟨10, 20⟩⟩, ⟨1, ⟨12, 18⟩⟩, ⟨1, ⟨15, 10⟩⟩]
def sHs : List Int := [2, 3]
def sTg : List (Int × Int) := [(1, 3), (1499, 2000)]
def sHo : List Int := [15, 21, 27]
def sCy : List Int := [4]
def sFe : List Feast := [⟨true, 0, 0, 0⟩, ⟨false, 1, 6, 0⟩]
set_option maxRecDepth 100000 in
set_option maxHeartbeats 4000000 in
theorem law9P_is (w : World) : Calls Tryz.prog 97 #[] w fun e w' => ∃ g1 g2, e = .returned (.agg #[.slice (some ⟨g1, 0, none⟩) 3 3, .slice (some ⟨g2, 0, none⟩) 2 2]) ∧ RdS w' (some ⟨g1, 0, none⟩) 3 (sLs.map Lk.cells) ∧ Rd w' (some ⟨g2, 0, none⟩) 2 sHs ∧ (w.heap.size ≤ g1 ∧ w.heap.size ≤ g2) ∧ Below w.heap.size w w' := by
 have hb0 := fr_alloc (fr_refl w) (.cells #[.slice none 0 0, .slice none 0 0] 25)
 have hZ := Blk.new w 25 #[.slice none 0 0, .slice none 0 0]
 obtain ⟨w1, hw1⟩ : ∃ w1, w.alloc (.cells #[.slice none 0 0, .slice none 0 0] 25) = w1 := ⟨_, rfl⟩
 rw [hw1] at hb0 hZ
 have hs0 := hb0.size
 go_enter Tryz.func97, Tryz.ntmps97
 go_upto_region 1 with (fail)
 (try rw [hw1])
 clear hw1
 go_wp2_with fail
 refine (pair_is _ _ _).mono ?_
 rintro e w2 ⟨rfl, hb2⟩
 go_wp2_with fail
 refine (pair_is _ _ _).mono ?_
 rintro e w3 ⟨rfl, hb3⟩
 replace hb3 := fr_call hb2 hb3
 go_wp2_with fail
 refine (pair_is _ _ _).mono ?_
 rintro e w4 ⟨rfl, hb4⟩
 replace hb4 := fr_call hb3 hb4
 have hZ4 := (hZ.keep hb4).alloc (.cells #[.int .i64 0, .int .i64 10, .int .i64 20, .int .i64 1, .int .i64 12, .int .i64 18, .int .i64 1, .int .i64 15, .int .i64 10] 140)
 replace hZ4 := hZ4.alloc (.cells #[.int .i64 2, .int .i64 3] 3)
 have hL : Blk ((w4.alloc (.cells #[.int .i64 0, .int .i64 10, .int .i64 20, .int .i64 1, .int .i64 12, .int .i64 18, .int .i64 1, .int .i64 15, .int .i64 10] 140)).alloc (.cells #[.int .i64 2, .int .i64 3] 3)) w4.heap.size 140 _ := (Blk.new w4 _ _).alloc _
 have hH : Blk ((w4.alloc (.cells #[.int .i64 0, .int .i64 10, .int .i64 20, .int .i64 1, .int .i64 12, .int .i64 18, .int .i64 1, .int .i64 15, .int .i64 10] 140)).alloc (.cells #[.int .i64 2, .int .i64 3] 3)) (w4.heap.size + 1) 3 _ := Blk.new_at _ _ (by simp)
 have hs4 := hb4.size
 go_wp2_with (refine wpList_store_blk rfl _ _ _ rfl w.heap.size 25 _ _ rfl rfl hZ4 rfl (by kernel_rfl) (by simp [Value.oneCell']) ?_; intro w6 hQ hgQ)
 refine bodyPost_ret (results_blk1 rfl _ _ _ _ rfl hQ Tryz.underlying25 rfl (by kernel_rfl)) rfl ?_
 have hlZ := hZ.lt
 have hL2 := hL.grown hgQ (by intro e; have := Option.some.inj e; omega)
 have hH2 := hH.grown hgQ (by intro e; have := Option.some.inj e; omega)
 have hb6 := fr_alloc (fr_alloc (fr_call hb0 hb4) (.cells #[.int .i64 0, .int .i64 10, .int .i64 20, .int .i64 1, .int .i64 12, .int .i64 18, .int .i64 1, .int .i64 15, .int .i64 10] 140)) (.cells #[.int .i64 2, .int .i64 3] 3)
 exact ⟨_, _, rfl, rdS_blk hL2 (by decide) rfl, rd_blk (xs := sHs) hH2, ⟨by omega, by omega⟩, hb6.grown hgQ hb6.size (by intro k hk; cases hk; exact Nat.le_refl _)⟩
set_option maxRecDepth 100000 in
set_option maxHeartbeats 4000000 in
theorem law2D_is (w : World) : Calls Tryz.prog 98 #[] w fun e w' => ∃ g, e = .returned (.agg #[.int .i64 40, .slice (some ⟨g, 0, none⟩) 3 3]) ∧ Rd w' (some ⟨g, 0, none⟩) 3 sHo ∧ w.heap.size ≤ g ∧ Below w.heap.size w w' := by
 go_enter Tryz.func98, Tryz.ntmps98
 go_wp2_with fail
 refine bodyPost_ret (results_blk1 rfl _ _ _ _ rfl ((Blk.new w _ _).alloc _) Tryz.underlying28 rfl (by kernel_rfl)) rfl ?_
 exact ⟨_, rfl, rd_blk (xs := sHo) (Blk.new_at _ _ (by simp)), by simp, fr_alloc (fr_alloc (fr_refl w) _) _⟩
set_option maxRecDepth 100000 in
set_option maxHeartbeats 4000000 in
theorem law6O_is (w : World) : Calls Tryz.prog 99 #[] w fun e w' => ∃ g, e = .returned (.agg #[.int .i64 0, .slice (some ⟨g, 0, none⟩) 1 1]) ∧ Rd w' (some ⟨g, 0, none⟩) 1 sCy ∧ w.heap.size ≤ g ∧ Below w.heap.size w w' := by
 go_enter Tryz.func99, Tryz.ntmps99
 go_wp2_with fail
 refine bodyPost_ret (results_blk1 rfl _ _ _ _ rfl ((Blk.new w _ _).alloc _) Tryz.underlying30 rfl (by kernel_rfl)) rfl ?_
 exact ⟨_, rfl, rd_blk (xs := sCy) (Blk.new_at _ _ (by simp)), by simp, fr_alloc (fr_alloc (fr_refl w) _) _⟩
set_option maxRecDepth 100000 in
set_option maxHeartbeats 4000000 in
theorem law6M_is (w : World) : Calls Tryz.prog 100 #[] w fun e w' => e = .returned (.agg #[.int .i64 59, .int .i64 2, .int .i64 0]) ∧ Below w.heap.size w w' := by
 go_enter Tryz.func100, Tryz.ntmps100
 go_wp2_with fail
 refine bodyPost_ret (results_blk1 rfl _ _ _ _ rfl (Blk.new w _ _) Tryz.underlying32 rfl (by kernel_rfl)) rfl ?_
 exact ⟨rfl, fr_alloc (fr_refl w) _⟩
end Go.Proofs.YtkmiphabagoifaaGreatDoor
end

section
namespace Go.Proofs.YtkmiphabagoifaaGreatDoor
open Go.RowKit Go.Shelf

set_option maxRecDepth 100000 in
set_option maxHeartbeats 8000000 in
theorem law10Suite_is (w : World) : Calls Tryz.prog 32 #[] w fun e w' => ∃ g1 g2 g3 g4 g5 g6, e = .returned (.agg #[.slice (some ⟨g1, 0, none⟩) 3 3, .slice (some ⟨g2, 0, none⟩) 2 2, .slice (some ⟨g3, 0, none⟩) 2 2, .int .i64 100, .int .i64 40, .slice (some ⟨g4, 0, none⟩) 3 3, .int .i64 0, .slice (some ⟨g5, 0, none⟩) 1 1, .int .i64 59, .int .i64 2, .int .i64 0, .slice (some ⟨g6, 0, none⟩) 2 2, .int .i64 1, .int .i64 3, .int .i64 6, .int .i64 4, .int .i64 10]) ∧ SuAt w' (some ⟨g1, 0, none⟩) (some ⟨g2, 0, none⟩) (some ⟨g3, 0, none⟩) (some ⟨g4, 0, none⟩) (some ⟨g5, 0, none⟩) (some ⟨g6, 0, none⟩) 3 2 3 1 2 sLs sHs sTg sHo sCy sFe ∧ Below w.heap.size w w' := by
 have hb0 := fr_alloc (fr_refl w) (.cells #[.slice none 0 0, .slice none 0 0, .slice none 0 0, .int .i64 0, .int .i64 0, .slice none 0 0, .int .i64 0, .slice none 0 0, .int .i64 0, .int .i64 0, .int .i64 0, .slice none 0 0, .int .i64 0, .int .i64 0, .int .i64 0, .int .i64 0, .int .i64 0] 35)
 have hZ := Blk.new w 35 #[.slice none 0 0, .slice none 0 0, .slice none 0 0, .int .i64 0, .int .i64 0, .slice none 0 0, .int .i64 0, .slice none 0 0, .int .i64 0, .int .i64 0, .int .i64 0, .slice none 0 0, .int .i64 0, .int .i64 0, .int .i64 0, .int .i64 0, .int .i64 0]
 obtain ⟨w1, hw1⟩ : ∃ w1, w.alloc (.cells #[.slice none 0 0, .slice none 0 0, .slice none 0 0, .int .i64 0, .int .i64 0, .slice none 0 0, .int .i64 0, .slice none 0 0, .int .i64 0, .int .i64 0, .int .i64 0, .slice none 0 0, .int .i64 0, .int .i64 0, .int .i64 0, .int .i64 0, .int .i64 0] 35) = w1 := ⟨_, rfl⟩
 rw [hw1] at hb0 hZ
 have hs0 := hb0.size
 have hlZ := hZ.lt
 go_enter Tryz.func32, Tryz.ntmps32
 go_upto_region 1 with (fail)
 (try rw [hw1])
 clear hw1
 go_wp2_with fail
 refine (law9P_is _).mono ?_
 rintro e w2 ⟨g1, g2, rfl, hr1, hr2, ⟨hg1, hg2⟩, hb2⟩
 have hs2 := hb2.size
 have hbT := fr_alloc (fr_refl w2) (.cells #[.int .i64 1, .int .i64 3, .int .i64 1499, .int .i64 2000] 52)
 have hT := Blk.new w2 52 #[.int .i64 1, .int .i64 3, .int .i64 1499, .int .i64 2000]
 go_wp2_with fail
 refine (law2D_is _).mono ?_
 rintro e w3 ⟨g4, rfl, hr4, hg4, hb3⟩
 simp only [World.size_alloc] at hg4
 replace hr1 := (hr1.keep hbT).keep hb3
 replace hr2 := (hr2.keep hbT).keep hb3
 replace hT := hT.keep hb3
 replace hb3 := fr_call hb2 (fr_call hbT hb3)
 have hs3 := hb3.size
 go_wp2_with fail
 refine (law6O_is _).mono ?_
 rintro e w4 ⟨g5, rfl, hr5, hg5, hb4⟩
 go_wp2_with fail
 refine (law6M_is _).mono ?_
 rintro e w5 ⟨rfl, hb5⟩
 replace hr5 := hr5.keep hb5
 replace hb4 := fr_call hb4 hb5
 replace hr1 := hr1.keep hb4
 replace hr2 := hr2.keep hb4
 replace hr4 := hr4.keep hb4
 replace hT := hT.keep hb4
 replace hb4 := fr_call hb3 hb4
 have hs5 := hb4.size
 have hbF := fr_alloc (fr_refl w5) (.cells #[.bool true, .int .i64 0, .int .i64 0, .int .i64 0, .bool false, .int .i64 1, .int .i64 6, .int .i64 0] 145)
 have hF := Blk.new w5 145 #[.bool true, .int .i64 0, .int .i64 0, .int .i64 0, .bool false, .int .i64 1, .int .i64 6, .int .i64 0]
 have hZ5 := (hZ.keep hb4).keep hbF
 replace hr1 := hr1.keep hbF
 replace hr2 := hr2.keep hbF
 replace hr4 := hr4.keep hbF
 replace hr5 := hr5.keep hbF
 replace hT := hT.keep hbF
 replace hb4 := fr_call hb4 hbF
 have hr3 : RdS _ (some ⟨w2.heap.size, 0, none⟩) 2 (sTg.map ptC) := rdS_blk hT (by decide) rfl
 have hr6 : RdS _ (some ⟨w5.heap.size, 0, none⟩) 4 (sFe.map Feast.row) := rdS_blk hF (by decide) rfl
 have hbt := fr_call hb0 hb4
 clear hT hF hbF hbT hb2 hb3 hb5
 go_wp2_with (refine wpList_store_blk rfl _ _ _ rfl w.heap.size 35 _ _ rfl rfl hZ5 rfl (by kernel_rfl) (by simp [Value.oneCell']) ?_; intro w7 hQ hgQ)
 refine bodyPost_ret (results_blk1 rfl _ _ _ _ rfl hQ Tryz.underlying35 rfl (by kernel_rfl)) rfl ?_
 exact ⟨g1, g2, w2.heap.size, g4, g5, w5.heap.size, rfl, ⟨hr1.far hgQ (by intro ad e; cases e; show g1 ≠ w.heap.size; omega), rfl, hr2.far hgQ (by intro ad e; cases e; show g2 ≠ w.heap.size; omega), hr3.far hgQ (by intro ad e; cases e; show w2.heap.size ≠ w.heap.size; omega), rfl, hr4.far hgQ (by intro ad e; cases e; show g4 ≠ w.heap.size; omega), hr5.far hgQ (by intro ad e; cases e; show g5 ≠ w.heap.size; omega), hr6.far hgQ (by intro ad e; cases e; show w5.heap.size ≠ w.heap.size; omega), rfl⟩, hbt.grown hgQ hbt.size (by intro k hk; cases hk; exact Nat.le_refl _)⟩
theorem sPieceOk : ShopOk sLs sHs := by
 refine ⟨by decide, by decide, ?_, ?_, ?_, ?_⟩
 ·intro i l h
  have hi : i < 3 := (List.getElem?_eq_some_iff.1 h).1
  have h3 : i = 0 ∨ i = 1 ∨ i = 2 := by omega
  rcases h3 with rfl | rfl | rfl <;> (cases h; decide)
 ·intro l hl
  simp only [sLs, List.mem_cons, List.not_mem_nil, or_false] at hl
  rcases hl with rfl | rfl | rfl <;> decide
 ·intro l hl
  simp only [sLs, List.mem_cons, List.not_mem_nil, or_false] at hl
  rcases hl with rfl | rfl | rfl <;> decide
 ·intro h hh
  simp only [sHs, List.mem_cons, List.not_mem_nil, or_false] at hh
  rcases hh with rfl | rfl <;> decide
theorem su_ok : SuOk 3 3 2 3 1 2 40 3 6 4 10 100 0 59 2 0 1 sLs sHs sTg sHo sCy sFe where
 piece := sPieceOk
 cap := by decide
 lim := by decide
 wm := by decide
 n4 := by decide
 ho := fun x hx => by
  simp only [sHo, List.mem_cons, List.not_mem_nil, or_false] at hx
  rcases hx with rfl | rfl | rfl <;> decide
 n5 := by decide
 cal := by decide
 moon := by decide
 n6 := by decide
 fe := by decide
 yr := by decide
 br := by decide
 hr := by decide
 wg := by decide
 pc := by decide
 tg := fun f hf => by
  simp only [sTg, List.mem_cons, List.not_mem_nil, or_false] at hf
  rcases hf with rfl | rfl <;> (unfold FrOk; decide)
end Go.Proofs.YtkmiphabagoifaaGreatDoor
end

section
namespace Go.Proofs.YtkmiphabagoifaaGreatDoor
open Go.RowKit Go.Shelf

set_option maxRecDepth 100000 in
set_option maxHeartbeats 4000000 in
theorem isWheel_yes (pw ph pp pg po : Int) (A B M : Option Addr) (n nc m mc k kc : Nat) (x : Int) (w : World) (hx : 0 ≤ x ∧ x < (m : Int)) (hm : m ≤ 1000) :
  Calls Tryz.prog 88 #[.agg #[.int .i64 pw, .int .i64 ph, .int .i64 pp, .int .i64 pg, .int .i64 po, .slice A n nc, .slice B m mc, .slice M k kc], .int .i64 x] w fun e w' => e = .returned (.bool true) ∧ Below w.heap.size w w' := by
 have hb0 := fr_alloc (fr_refl w) (.cells #[.int .i64 pw, .int .i64 ph, .int .i64 pp, .int .i64 pg, .int .i64 po, .slice A n nc, .slice B m mc, .slice M k kc] 86)
 have hX := Blk.new w 86 #[.int .i64 pw, .int .i64 ph, .int .i64 pp, .int .i64 pg, .int .i64 po, .slice A n nc, .slice B m mc, .slice M k kc]
 have hcX := fun j => hX.cell j
 have z1 : IntKind.i64.wrap ((m : Int) - 1) = (m : Int) - 1 := IntWalk.i64_in _ (by omega)
 have h1 : inB x 0 ((m : Int) - 1) = true := inB_yes (by omega)
 clear hX hx
 go_enter Tryz.func88, Tryz.ntmps88
 go_wp2_with fail
 refine (pin_is _ _ _ _ _ h1).mono ?_
 rintro e w' ⟨rfl, rfl⟩
 go_wp2_with fail
 go_ret
 exact ⟨rfl, hb0⟩
/-- a wheel of a piece with some centres, as it is defined -/
def PwhOk (n : Nat) (x : PWh) : Prop := (0 ≤ x.centre ∧ x.centre ≤ (n : Int) - 1) ∧ (0 ≤ x.sleeve ∧ x.sleeve ≤ 2) ∧ (0 ≤ x.layer ∧ x.layer ≤ 5) ∧ 4 ≤ x.teeth ∧ x.teeth ≤ 50
set_option maxRecDepth 100000 in
set_option maxHeartbeats 4000000 in
theorem isPiece1_yes (pw ph pp pg po : Int) (A B M : Option Addr) (n nc m mc k kc g : Nat) (c s l t : Int) (w : World) (hX : Blk w g 86 #[.int .i64 pw, .int .i64 ph, .int .i64 pp, .int .i64 pg, .int .i64 po, .slice A n nc, .slice B m mc, .slice M k kc]) (hn : n ≤ 1000) (hx : PwhOk n ⟨c, s, l, t⟩) :
  Calls Tryz.prog 151 #[.agg #[.int .i64 c, .int .i64 s, .int .i64 l, .int .i64 t], .pointer (some ⟨g, 0, none⟩)] w fun e w' => e = .returned (.bool false) ∧ Below w.heap.size w w' := by
 have hb0 := fr_alloc (fr_refl w) (.cells #[.int .i64 c, .int .i64 s, .int .i64 l, .int .i64 t] 155)
 have hY := Blk.new w 155 #[.int .i64 c, .int .i64 s, .int .i64 l, .int .i64 t]
 have hX2 := hX.keep hb0
 have hcX := fun j => hX2.cell j
 have hcY := fun j => hY.cell j
 have z1 : IntKind.i64.wrap ((n : Int) - 1) = (n : Int) - 1 := IntWalk.i64_in _ (by omega)
 obtain ⟨x1, x2, x3, x4⟩ := hx
 simp only at x1 x2 x3 x4
 have h1 : inB c 0 ((n : Int) - 1) = true := inB_yes x1
 have h2 : inB s 0 2 = true := inB_yes x2
 have h3 : inB l 0 5 = true := inB_yes x3
 have h4 : inB t 4 50 = true := inB_yes x4
 have hlX := hX.lt
 clear hX hX2 hY x1 x2 x3 x4
 go_enter Tryz.func151, Tryz.ntmps151
 go_wp2_with fail
 refine (pin_is _ _ _ _ _ h1).mono ?_
 rintro e w' ⟨rfl, rfl⟩
 go_wp2_with fail
 refine (pin_is _ _ _ _ _ h2).mono ?_
 rintro e w' ⟨rfl, rfl⟩
 go_wp2_with fail
 refine (pin_is _ _ _ _ _ h3).mono ?_
 rintro e w' ⟨rfl, rfl⟩
 go_wp2_with fail
 refine (pin_is _ _ _ _ _ h4).mono ?_
 rintro e w' ⟨rfl, rfl⟩
 go_wp2_with fail
 go_ret
 exact ⟨rfl, hb0⟩
set_option maxRecDepth 100000 in
set_option maxHeartbeats 4000000 in
theorem index_pwh (pw ph pp pg po : Int) (A B M : Option Addr) (n nc m mc k kc g c : Nat) (ws : List PWh) (w : World) (hX : Blk w g 86 #[.int .i64 pw, .int .i64 ph, .int .i64 pp, .int .i64 pg, .int .i64 po, .slice A n nc, .slice B m mc, .slice M k kc]) (hB : RdS w B 4 (ws.map PWh.cells)) (hm : ws.length = m) (hn : n ≤ 1000) (hm2 : m ≤ 1000) (ht : ∀ x ∈ ws, PwhOk n x) :
  Calls Tryz.prog 211 #[.slice B m c, .func (.func 151) #[] #[.pointer (some ⟨g, 0, none⟩)]] w fun e' w' => e' = .returned (.int .i64 (-1)) ∧ Below w.heap.size w w' := by
 have HL := Lib.hid hm
 clear hm
 go_enter Tryz.func211, Tryz.ntmps211
 go_wp2
 go_loopw [8] (fun i wr => ∃ j : Nat, j ≤ m ∧ i = .int .i64 j ∧ Below w.heap.size w wr) (fun i _ => m - (intOf i).toNat)
 case atStart => exact ⟨0, Nat.zero_le _, rfl, fr_refl _⟩
 case round =>
  obtain ⟨j, hj, rfl, hbr⟩ := hrel
  by_cases hlt : j < m
  ·have hjl : j < ws.length := by have := HL.out; omega
   obtain ⟨ad, rfl, hab, ⟨c0, c1⟩, c2, c3⟩ := pwh_at (hB.keep hbr) hjl
   have hok := ht _ (List.getElem_mem hjl)
   have hXr := hX.keep hbr
   generalize ws[j] = y at *
   obtain ⟨yc, ys, yl, yt⟩ := y
   simp only at c0 c1 c2 c3
   have i1 : 0 ≤ (j : Int) := by omega
   have i2 : (j : Int) < (m : Int) := by omega
   clear hX hB
   go_wp2_with fail
   refine (isPiece1_yes pw ph pp pg po A (some ad) M n nc m mc k kc g yc ys yl yt wr hXr hn hok).mono ?_
   rintro e w1 ⟨rfl, hb1⟩
   go_wp2_with fail
   refine ⟨⟨j + 1, hlt, rfl, fr_call hbr hb1⟩, ?_⟩
   simp [intOf]; omega
  ·go_wp2_with fail
   go_ret
   exact ⟨rfl, hbr⟩
set_option maxHeartbeats 2000000 in
theorem contains_pwh (pw ph pp pg po : Int) (A B M : Option Addr) (n nc m mc k kc g c : Nat) (ws : List PWh) (w : World) (hX : Blk w g 86 #[.int .i64 pw, .int .i64 ph, .int .i64 pp, .int .i64 pg, .int .i64 po, .slice A n nc, .slice B m mc, .slice M k kc]) (hB : RdS w B 4 (ws.map PWh.cells)) (hm : ws.length = m) (hn : n ≤ 1000) (hm2 : m ≤ 1000) (ht : ∀ x ∈ ws, PwhOk n x) :
  Calls Tryz.prog 150 #[.slice B m c, .func (.func 151) #[] #[.pointer (some ⟨g, 0, none⟩)]] w fun e' w' => e' = .returned (.bool false) ∧ Below w.heap.size w w' := by
 have h := index_pwh pw ph pp pg po A B M n nc m mc k kc g c ws w hX hB hm hn hm2 ht
 clear hX hB hm ht
 go_enter Tryz.func150, Tryz.ntmps150
 go_wp2_with fail
 refine h.mono ?_
 rintro e w1 ⟨rfl, hb1⟩
 go_wp2_with fail
 go_ret
 exact ⟨rfl, hb1⟩
def pCsI : List (Int × Int) := [(15, 20), (35, 20), (35, 36)]
theorem pCs_rows : pCs.map PPt.cells = pCsI.map ptC := rfl
theorem pCs_ok : ∀ j x y, pCsI[j]? = some (x, y) → inB x 0 60 = true ∧ inB y 0 50 = true ∧ (pCsI.take j).contains (x, y) = false := fun j x y h => by
 have hj : j < 3 := (List.getElem?_eq_some_iff.1 h).1
 have h3 : j = 0 ∨ j = 1 ∨ j = 2 := by omega
 rcases h3 with rfl | rfl | rfl <;> (cases h; decide)
theorem pMs_ok : ∀ j x y, pMs[j]? = some (x, y) → (0 ≤ x ∧ x < 4) ∧ (0 ≤ y ∧ y < 4) ∧ x < y ∧ (pMs.take j).contains (x, y) = false := fun j x y h => by
 have hj : j < 2 := (List.getElem?_eq_some_iff.1 h).1
 have h3 : j = 0 ∨ j = 1 := by omega
 rcases h3 with rfl | rfl <;> (cases h; decide)
theorem pWs_ok : ∀ x ∈ pWs, PwhOk 3 x := fun x hx => by
 simp only [pWs, List.mem_cons, List.not_mem_nil, or_false] at hx
 rcases hx with rfl | rfl | rfl | rfl <;> (unfold PwhOk; decide)
set_option maxRecDepth 100000 in
set_option maxHeartbeats 16000000 in
theorem isPiece_P (b1 f1 b2 f2 b3 f3 : Nat) (w : World) (hA : RdS w (some ⟨b1, f1, none⟩) 2 (pCs.map PPt.cells)) (hB : RdS w (some ⟨b2, f2, none⟩) 4 (pWs.map PWh.cells)) (hM : RdS w (some ⟨b3, f3, none⟩) 2 (pMs.map ptC)) :
  Calls Tryz.prog 87 #[.agg #[.int .i64 60, .int .i64 50, .int .i64 1, .int .i64 1, .int .i64 2, .slice (some ⟨b1, f1, none⟩) 3 3, .slice (some ⟨b2, f2, none⟩) 4 4, .slice (some ⟨b3, f3, none⟩) 2 2]] w fun e w' => e = .returned (.bool true) ∧ Below w.heap.size w w' := by
 have hmf : ∀ (fn : Fn) (first cap : Array Value) (w : World), (Instr.makeFunc fn first cap).run Tryz.prog w = .ok (.func fn first cap) w := fun _ _ _ _ => rfl
 have hb0 := fr_alloc (fr_refl w) (.cells #[.int .i64 60, .int .i64 50, .int .i64 1, .int .i64 1, .int .i64 2, .slice (some ⟨b1, f1, none⟩) 3 3, .slice (some ⟨b2, f2, none⟩) 4 4, .slice (some ⟨b3, f3, none⟩) 2 2] 86)
 have hX := Blk.new w 86 #[.int .i64 60, .int .i64 50, .int .i64 1, .int .i64 1, .int .i64 2, .slice (some ⟨b1, f1, none⟩) 3 3, .slice (some ⟨b2, f2, none⟩) 4 4, .slice (some ⟨b3, f3, none⟩) 2 2]
 obtain ⟨w1, hw1⟩ : ∃ w1, w.alloc (.cells #[.int .i64 60, .int .i64 50, .int .i64 1, .int .i64 1, .int .i64 2, .slice (some ⟨b1, f1, none⟩) 3 3, .slice (some ⟨b2, f2, none⟩) 4 4, .slice (some ⟨b3, f3, none⟩) 2 2] 86) = w1 := ⟨_, rfl⟩
 rw [hw1] at hb0 hX
 rw [pCs_rows] at hA
 replace hA := hA.keep hb0
 replace hB := hB.keep hb0
 replace hM := hM.keep hb0
 have hcX := fun j => hX.cell j
 have hlX := hX.lt
 have a1 : inB 60 1 120 = true := by decide
 have a2 : inB 50 1 120 = true := by decide
 have a3 : inB 1 0 4 = true := by decide
 have a4 : inB 2 0 3 = true := by decide
 have a5 : inB 3 1 6 = true := by decide
 go_enter Tryz.func87, Tryz.ntmps87
 go_upto_region 1 with (fail)
 (try rw [hw1])
 clear hw1
 go_wp2_with fail
 refine (pin_is _ _ _ _ _ a1).mono ?_
 rintro e w' ⟨rfl, rfl⟩
 go_wp2_with fail
 refine (pin_is _ _ _ _ _ a2).mono ?_
 rintro e w' ⟨rfl, rfl⟩
 go_wp2_with fail
 refine (pin_is _ _ _ _ _ a3).mono ?_
 rintro e w' ⟨rfl, rfl⟩
 go_wp2_with fail
 refine (pin_is _ _ _ _ _ a3).mono ?_
 rintro e w' ⟨rfl, rfl⟩
 go_wp2_with fail
 refine (pin_is _ _ _ _ _ a4).mono ?_
 rintro e w' ⟨rfl, rfl⟩
 go_wp2_with fail
 refine (pin_is _ _ _ _ _ a5).mono ?_
 rintro e w' ⟨rfl, rfl⟩
 go_wp2_with fail
 have hX0 := hX
 clear hcX hlX a1 a2 a3 a4 a5 hX
 go_loopw [55] (fun t wr => ∃ j : Nat, j ≤ 3 ∧ t = .int .i64 j ∧ Below w1.heap.size w1 wr) (fun t _ => 3 - (intOf t).toNat)
 case atStart => exact ⟨0, Nat.zero_le _, rfl, fr_refl _⟩
 case round =>
  obtain ⟨j, hj, rfl, hbr⟩ := hrel
  by_cases hlt : j < 3
  ·obtain ⟨⟨x, y⟩, hx⟩ : ∃ x, pCsI[j]? = some x := ⟨pCsI[j]'hlt, by simp [pCsI, hlt]⟩
   obtain ⟨o1, o2, o3⟩ := pCs_ok j x y hx
   obtain ⟨ad, e, hab, h0, h1⟩ := (hA.keep hbr).nth (i := j) (r := ptC (x, y)) (by simp [hx])
   cases e
   have c0 := h0 _ rfl
   have c1 := h1 0 _ rfl
   have i1 : (j : Int) < 3 := by omega
   have i2 : 0 ≤ (j : Int) := by omega
   have i3 : (j : Int) ≤ 3 := by omega
   simp only [add_lit] at c0 c1
   clear h0 h1
   go_upto_region 8 with (refine wpList_store_blk rfl _ _ _ rfl wr.heap.size 79 _ _ rfl rfl (Blk.new wr _ _) rfl (by kernel_rfl) (by simp [Value.oneCell']) ?_; intro w4 hQ hgQ)
   have hb4 : Below wr.heap.size wr w4 := (fr_alloc (fr_refl wr) _).grown hgQ (fr_alloc (fr_refl wr) _).size (by intro k hk; cases hk; exact Nat.le_refl _)
   have hb5 := fr_call hbr hb4
   have hX4 := hX0.keep hb5
   have hkS : ∀ W, Below w4.heap.size w4 W → W.cell? ⟨wr.heap.size, 0, none⟩ = some (.int .i64 x) ∧ W.cell? ⟨wr.heap.size, 1, none⟩ = some (.int .i64 y) ∧ W.cell? ⟨w.heap.size, 0, none⟩ = some (.int .i64 60) ∧ W.cell? ⟨w.heap.size, 1, none⟩ = some (.int .i64 50) ∧ W.cell? ⟨w.heap.size, 5, none⟩ = some (.slice (some ⟨b1, f1, none⟩) 3 3) := fun W hb => ⟨(hb.cell (p := ⟨wr.heap.size, 0, none⟩) hQ.lt).trans (hQ.cell 0), (hb.cell (p := ⟨wr.heap.size, 1, none⟩) hQ.lt).trans (hQ.cell 1), (hb.cell (p := ⟨w.heap.size, 0, none⟩) hX4.lt).trans (hX4.cell 0), (hb.cell (p := ⟨w.heap.size, 1, none⟩) hX4.lt).trans (hX4.cell 1), (hb.cell (p := ⟨w.heap.size, 5, none⟩) hX4.lt).trans (hX4.cell 5)⟩
   dsimp only [Act.put]
   have hbz := fr_drew (fr_refl w4)
   clear c0 c1
   refine wp_region_noPanic ?_
   refine wp_region_held_drew (S := fun W => W.cell? ⟨wr.heap.size, 0, none⟩ = some (.int .i64 x) ∧ W.cell? ⟨wr.heap.size, 1, none⟩ = some (.int .i64 y) ∧ W.cell? ⟨w.heap.size, 0, none⟩ = some (.int .i64 60) ∧ W.cell? ⟨w.heap.size, 1, none⟩ = some (.int .i64 50) ∧ W.cell? ⟨w.heap.size, 5, none⟩ = some (.slice (some ⟨b1, f1, none⟩) 3 3)) (by kernel_rfl) (hkS _ hbz) (fun hHeld => ?_)
   generalize w4.drew = wz at hbz hHeld ⊢
   -- the region, step by step, in whatever order
   refine wpAnyH_take (i := 0) (oi := ⟨some 60, .fieldAddr 79 (.tmp 4) 0, 0, "plate.go:25", #[], none⟩) (v := ?_) rfl (by kernel_rfl) (by kernel_rfl) (by kernel_rfl) (fun _ _ _ h => h) (Or.inl ⟨by rfl, fun W hSw => ?_⟩) hHeld ?_
   rotate_left
   ·(try dsimp only at hSw); go_simp; (try with_reducible rfl)
   (try simp only [Act.put, List.setIfInBounds_toArray, List.set_cons_zero, List.set_cons_succ])
   refine wpAnyH_take (i := 1) (oi := ⟨some 61, .load 3 (.tmp 60), 3, "plate.go:25", #[⟨0, .data⟩], none⟩) (v := ?_) rfl (by kernel_rfl) (by kernel_rfl) (by kernel_rfl) (fun _ _ _ h => h) (Or.inl ⟨by rfl, fun W hSw => ?_⟩) hHeld ?_
   rotate_left
   ·(try dsimp only at hSw); go_simp; (try with_reducible rfl)
   (try simp only [Act.put, List.setIfInBounds_toArray, List.set_cons_zero, List.set_cons_succ])
   refine wpAnyH_take (i := 2) (oi := ⟨some 62, .fieldAddr 86 (.tmp 1) 0, 0, "plate.go:25", #[], none⟩) (v := ?_) rfl (by kernel_rfl) (by kernel_rfl) (by kernel_rfl) (fun _ _ _ h => h) (Or.inl ⟨by rfl, fun W hSw => ?_⟩) hHeld ?_
   rotate_left
   ·(try dsimp only at hSw); go_simp; (try with_reducible rfl)
   (try simp only [Act.put, List.setIfInBounds_toArray, List.set_cons_zero, List.set_cons_succ])
   refine wpAnyH_take (i := 3) (oi := ⟨some 63, .load 3 (.tmp 62), 3, "plate.go:25", #[⟨2, .data⟩], none⟩) (v := ?_) rfl (by kernel_rfl) (by kernel_rfl) (by kernel_rfl) (fun _ _ _ h => h) (Or.inl ⟨by rfl, fun W hSw => ?_⟩) hHeld ?_
   rotate_left
   ·(try dsimp only at hSw); go_simp; (try with_reducible rfl)
   (try simp only [Act.put, List.setIfInBounds_toArray, List.set_cons_zero, List.set_cons_succ])
   refine wpAnyH_ready (rs := [4]) (by kernel_rfl) (by simp) ?_
   refine (AllReadyH.cons (o := ⟨some 64, .call { callee := .value (.func 73), args := #[.tmp 61, .const (.int .i64 0), .tmp 63], argTypes := #[3, 3, 3] }, 4, "plate.go:25", #[⟨1, .data⟩, ⟨3, .data⟩], none⟩) rfl (fun K hK => ?_) AllReadyH.nil)
   rw [if_pos (by rfl)]
   go_simp
   refine (pin_is _ _ _ _ _ o1).mono ?_
   rintro e' wz' ⟨rfl, rfl⟩
   refine hK.out _ _ (hHeld) (fun hHeld => ?_)
   clear hK K
   (try simp only [Act.put, List.setIfInBounds_toArray, List.set_cons_zero, List.set_cons_succ])
   refine wpAnyH_take (i := 5) (oi := ⟨some 65, .unOp .not 4 (.tmp 64), 4, "plate.go:25", #[⟨4, .data⟩], none⟩) (v := ?_) rfl (by kernel_rfl) (by kernel_rfl) (by kernel_rfl) (fun _ _ _ h => h) (Or.inl ⟨by rfl, fun W hSw => ?_⟩) hHeld ?_
   rotate_left
   ·(try dsimp only at hSw); go_simp; (try with_reducible rfl)
   (try simp only [Act.put, List.setIfInBounds_toArray, List.set_cons_zero, List.set_cons_succ])
   refine wpAnyH_take (i := 6) (oi := ⟨some 66, .move (.tmp 65), 4, "plate.go:25", #[⟨5, .data⟩, ⟨4, .chain⟩], none⟩) (v := ?_) rfl (by kernel_rfl) (by kernel_rfl) (by kernel_rfl) (fun _ _ _ h => h) (Or.inl ⟨by rfl, fun W hSw => ?_⟩) hHeld ?_
   rotate_left
   ·(try dsimp only at hSw); go_simp; (try with_reducible rfl)
   (try simp only [Act.put, List.setIfInBounds_toArray, List.set_cons_zero, List.set_cons_succ])
   refine wpAnyH_take (i := 7) (oi := ⟨some 67, .fieldAddr 79 (.tmp 4) 1, 0, "plate.go:25", #[⟨6, .guard⟩], some (6, false)⟩) (v := ?_) rfl (by kernel_rfl) (by kernel_rfl) (by kernel_rfl) (fun _ _ _ h => h) (Or.inl ⟨by rfl, fun W hSw => ?_⟩) hHeld ?_
   rotate_left
   ·(try dsimp only at hSw); go_simp; (try with_reducible rfl)
   (try simp only [Act.put, List.setIfInBounds_toArray, List.set_cons_zero, List.set_cons_succ])
   refine wpAnyH_take (i := 8) (oi := ⟨some 68, .load 3 (.tmp 67), 3, "plate.go:25", #[⟨7, .data⟩, ⟨6, .guard⟩], some (6, false)⟩) (v := ?_) rfl (by kernel_rfl) (by kernel_rfl) (by kernel_rfl) (fun _ _ _ h => h) (Or.inl ⟨by rfl, fun W hSw => ?_⟩) hHeld ?_
   rotate_left
   ·(try dsimp only at hSw); go_simp; (try with_reducible rfl)
   (try simp only [Act.put, List.setIfInBounds_toArray, List.set_cons_zero, List.set_cons_succ])
   refine wpAnyH_take (i := 9) (oi := ⟨some 69, .fieldAddr 86 (.tmp 1) 1, 0, "plate.go:25", #[⟨6, .guard⟩], some (6, false)⟩) (v := ?_) rfl (by kernel_rfl) (by kernel_rfl) (by kernel_rfl) (fun _ _ _ h => h) (Or.inl ⟨by rfl, fun W hSw => ?_⟩) hHeld ?_
   rotate_left
   ·(try dsimp only at hSw); go_simp; (try with_reducible rfl)
   (try simp only [Act.put, List.setIfInBounds_toArray, List.set_cons_zero, List.set_cons_succ])
   refine wpAnyH_take (i := 10) (oi := ⟨some 70, .load 3 (.tmp 69), 3, "plate.go:25", #[⟨9, .data⟩, ⟨6, .guard⟩], some (6, false)⟩) (v := ?_) rfl (by kernel_rfl) (by kernel_rfl) (by kernel_rfl) (fun _ _ _ h => h) (Or.inl ⟨by rfl, fun W hSw => ?_⟩) hHeld ?_
   rotate_left
   ·(try dsimp only at hSw); go_simp; (try with_reducible rfl)
   (try simp only [Act.put, List.setIfInBounds_toArray, List.set_cons_zero, List.set_cons_succ])
   refine wpAnyH_ready (rs := [11]) (by kernel_rfl) (by simp) ?_
   refine (AllReadyH.cons (o := ⟨some 71, .call { callee := .value (.func 73), args := #[.tmp 68, .const (.int .i64 0), .tmp 70], argTypes := #[3, 3, 3] }, 4, "plate.go:25", #[⟨8, .data⟩, ⟨10, .data⟩, ⟨6, .chain⟩, ⟨6, .guard⟩], some (6, false)⟩) rfl (fun K hK => ?_) AllReadyH.nil)
   rw [if_pos (by rfl)]
   go_simp
   refine (pin_is _ _ _ _ _ o2).mono ?_
   rintro e' wz' ⟨rfl, rfl⟩
   refine hK.out _ _ (hHeld) (fun hHeld => ?_)
   clear hK K
   (try simp only [Act.put, List.setIfInBounds_toArray, List.set_cons_zero, List.set_cons_succ])
   refine wpAnyH_take (i := 12) (oi := ⟨some 72, .unOp .not 4 (.tmp 71), 4, "plate.go:25", #[⟨11, .data⟩, ⟨6, .guard⟩], some (6, false)⟩) (v := ?_) rfl (by kernel_rfl) (by kernel_rfl) (by kernel_rfl) (fun _ _ _ h => h) (Or.inl ⟨by rfl, fun W hSw => ?_⟩) hHeld ?_
   rotate_left
   ·(try dsimp only at hSw); go_simp; (try with_reducible rfl)
   (try simp only [Act.put, List.setIfInBounds_toArray, List.set_cons_zero, List.set_cons_succ])
   refine wpAnyH_take (i := 13) (oi := ⟨some 73, .pick (.tmp 66) (.const (.bool true)) (.tmp 72), 4, "plate.go:25", #[⟨6, .data⟩, ⟨12, .data⟩], none⟩) (v := ?_) rfl (by kernel_rfl) (by kernel_rfl) (by kernel_rfl) (fun _ _ _ h => h) (Or.inl ⟨by rfl, fun W hSw => ?_⟩) hHeld ?_
   rotate_left
   ·(try dsimp only at hSw); go_simp; (try with_reducible rfl)
   (try simp only [Act.put, List.setIfInBounds_toArray, List.set_cons_zero, List.set_cons_succ])
   refine wpAnyH_take (i := 14) (oi := ⟨some 74, .move (.tmp 73), 4, "plate.go:25", #[⟨13, .data⟩, ⟨11, .chain⟩], none⟩) (v := ?_) rfl (by kernel_rfl) (by kernel_rfl) (by kernel_rfl) (fun _ _ _ h => h) (Or.inl ⟨by rfl, fun W hSw => ?_⟩) hHeld ?_
   rotate_left
   ·(try dsimp only at hSw); go_simp; (try with_reducible rfl)
   (try simp only [Act.put, List.setIfInBounds_toArray, List.set_cons_zero, List.set_cons_succ])
   refine wpAnyH_take (i := 15) (oi := ⟨some 75, .fieldAddr 86 (.tmp 1) 5, 0, "plate.go:25", #[⟨14, .guard⟩], some (14, false)⟩) (v := ?_) rfl (by kernel_rfl) (by kernel_rfl) (by kernel_rfl) (fun _ _ _ h => h) (Or.inl ⟨by rfl, fun W hSw => ?_⟩) hHeld ?_
   rotate_left
   ·(try dsimp only at hSw); go_simp; (try with_reducible rfl)
   (try simp only [Act.put, List.setIfInBounds_toArray, List.set_cons_zero, List.set_cons_succ])
   refine wpAnyH_take (i := 16) (oi := ⟨some 76, .load 82 (.tmp 75), 82, "plate.go:25", #[⟨15, .data⟩, ⟨14, .guard⟩], some (14, false)⟩) (v := ?_) rfl (by kernel_rfl) (by kernel_rfl) (by kernel_rfl) (fun _ _ _ h => h) (Or.inl ⟨by rfl, fun W hSw => ?_⟩) hHeld ?_
   rotate_left
   ·(try dsimp only at hSw); go_simp; (try with_reducible rfl)
   (try simp only [Act.put, List.setIfInBounds_toArray, List.set_cons_zero, List.set_cons_succ])
   refine wpAnyH_take (i := 17) (oi := ⟨some 77, .move (.tmp 3), 3, "plate.go:25", #[⟨14, .guard⟩], some (14, false)⟩) (v := ?_) rfl (by kernel_rfl) (by kernel_rfl) (by kernel_rfl) (fun _ _ _ h => h) (Or.inl ⟨by rfl, fun W hSw => ?_⟩) hHeld ?_
   rotate_left
   ·(try dsimp only at hSw); go_simp; (try with_reducible rfl)
   (try simp only [Act.put, List.setIfInBounds_toArray, List.set_cons_zero, List.set_cons_succ])
   refine wpAnyH_take (i := 18) (oi := ⟨some 78, .slice 82 (.tmp 76) none (some (.tmp 77)) none, 82, "plate.go:25", #[⟨16, .data⟩, ⟨17, .data⟩, ⟨14, .guard⟩], some (14, false)⟩) (v := ?_) rfl (by kernel_rfl) (by kernel_rfl) (by kernel_rfl) (fun _ _ _ h => h) (Or.inl ⟨by rfl, fun W hSw => ?_⟩) hHeld ?_
   rotate_left
   ·(try dsimp only at hSw); go_simp; (try with_reducible rfl)
   (try simp only [Act.put, List.setIfInBounds_toArray, List.set_cons_zero, List.set_cons_succ])
   refine wpAnyH_take (i := 19) (oi := ⟨some 79, .load 79 (.tmp 4), 79, "plate.go:25", #[⟨14, .guard⟩], some (14, false)⟩) (v := ?_) rfl (by kernel_rfl) (by kernel_rfl) (by kernel_rfl) (fun _ _ _ h => h) (Or.inl ⟨by rfl, fun W hSw => ?_⟩) hHeld ?_
   rotate_left
   ·(try dsimp only at hSw); go_simp; (try with_reducible rfl)
   (try simp only [Act.put, List.setIfInBounds_toArray, List.set_cons_zero, List.set_cons_succ])
   refine wpAnyH_ready (rs := [20]) (by kernel_rfl) (by simp) ?_
   refine (AllReadyH.cons (o := ⟨some 80, .call { callee := .value (.func 89), args := #[.tmp 78, .tmp 79], argTypes := #[82, 79] }, 4, "plate.go:25", #[⟨18, .data⟩, ⟨19, .data⟩, ⟨14, .chain⟩, ⟨14, .guard⟩], some (14, false)⟩) rfl (fun K hK => ?_) AllReadyH.nil)
   rw [if_pos (by rfl)]
   go_simp
   refine (contains_Pt (some ⟨b1, f1, none⟩) j 3 pCsI x y wz ((hA.keep hb5).keep hbz) (by simp [pCsI]; omega) (by decide) ⟨b1, f1, rfl⟩ false o3).mono ?_
   rintro e' wz' ⟨rfl, hb6⟩
   refine hK.out _ _ (hkS _ (fr_call hbz hb6)) (fun hHeld => ?_)
   clear hK K
   (try simp only [Act.put, List.setIfInBounds_toArray, List.set_cons_zero, List.set_cons_succ])
   refine wpAnyH_take (i := 21) (oi := ⟨some 81, .pick (.tmp 74) (.const (.bool true)) (.tmp 80), 4, "plate.go:25", #[⟨14, .data⟩, ⟨20, .data⟩], none⟩) (v := ?_) rfl (by kernel_rfl) (by kernel_rfl) (by kernel_rfl) (fun _ _ _ h => h) (Or.inl ⟨by rfl, fun W hSw => ?_⟩) hHeld ?_
   rotate_left
   ·(try dsimp only at hSw); go_simp; (try with_reducible rfl)
   (try simp only [Act.put, List.setIfInBounds_toArray, List.set_cons_zero, List.set_cons_succ])
   refine wpAnyH_done (by kernel_rfl) ?_ _
   refine NoPanic.normal ?_
   go_wp2_with fail
   go_roundw
   case rel => exact ⟨j + 1, by omega, by go_num, fr_call hb5 (fr_call hbz hb6)⟩
   case measure => simp [intOf]; omega
  ·obtain rfl : j = 3 := by omega
   have hX4 := hX0.keep hbr
   have hcX := fun j => hX4.cell j
   have hlX := hX4.lt
   go_wp2_with fail
   clear hcX hlX
   go_loopw [86] (fun t wr => ∃ j : Nat, j ≤ 2 ∧ t = .int .i64 j ∧ Below w1.heap.size w1 wr) (fun t _ => 2 - (intOf t).toNat)
   case atStart => exact ⟨0, Nat.zero_le _, rfl, hbr⟩
   case round =>
    clear hbr hX4
    obtain ⟨j, hj, rfl, hbr⟩ := hrel
    by_cases hlt : j < 2
    ·obtain ⟨⟨x, y⟩, hx⟩ : ∃ x, pMs[j]? = some x := ⟨pMs[j]'hlt, by simp [pMs, hlt]⟩
     obtain ⟨o1, o2, o4, o3⟩ := pMs_ok j x y hx
     obtain ⟨ad, e, hab, h0, h1⟩ := (hM.keep hbr).nth (i := j) (r := ptC (x, y)) (by simp [hx])
     cases e
     have c0 := h0 _ rfl
     have c1 := h1 0 _ rfl
     have i1 : (j : Int) < 2 := by omega
     have i2 : 0 ≤ (j : Int) := by omega
     have i3 : (j : Int) ≤ 2 := by omega
     have q0 : decide (y ≤ x) = false := decide_eq_false (by omega)
     simp only [add_lit] at c0 c1
     clear h0 h1
     go_upto_region 14 with (refine wpList_store_blk rfl _ _ _ rfl wr.heap.size 159 _ _ rfl rfl (Blk.new wr _ _) rfl (by kernel_rfl) (by simp [Value.oneCell']) ?_; intro w4 hQ hgQ)
     have hb4 : Below wr.heap.size wr w4 := (fr_alloc (fr_refl wr) _).grown hgQ (fr_alloc (fr_refl wr) _).size (by intro k hk; cases hk; exact Nat.le_refl _)
     have hb5 := fr_call hbr hb4
     have hX4 := hX0.keep hb5
     have hkS : ∀ W, Below w4.heap.size w4 W → W.cell? ⟨wr.heap.size, 0, none⟩ = some (.int .i64 x) ∧ W.cell? ⟨wr.heap.size, 1, none⟩ = some (.int .i64 y) ∧ W.cell? ⟨w.heap.size, 0, none⟩ = some (.int .i64 60) ∧ W.cell? ⟨w.heap.size, 1, none⟩ = some (.int .i64 50) ∧ W.cell? ⟨w.heap.size, 2, none⟩ = some (.int .i64 1) ∧ W.cell? ⟨w.heap.size, 3, none⟩ = some (.int .i64 1) ∧ W.cell? ⟨w.heap.size, 4, none⟩ = some (.int .i64 2) ∧ W.cell? ⟨w.heap.size, 5, none⟩ = some (.slice (some ⟨b1, f1, none⟩) 3 3) ∧ W.cell? ⟨w.heap.size, 6, none⟩ = some (.slice (some ⟨b2, f2, none⟩) 4 4) ∧ W.cell? ⟨w.heap.size, 7, none⟩ = some (.slice (some ⟨b3, f3, none⟩) 2 2) := fun W hb => ⟨(hb.cell (p := ⟨wr.heap.size, 0, none⟩) hQ.lt).trans (hQ.cell 0), (hb.cell (p := ⟨wr.heap.size, 1, none⟩) hQ.lt).trans (hQ.cell 1), (hb.cell (p := ⟨w.heap.size, 0, none⟩) hX4.lt).trans (hX4.cell 0), (hb.cell (p := ⟨w.heap.size, 1, none⟩) hX4.lt).trans (hX4.cell 1), (hb.cell (p := ⟨w.heap.size, 2, none⟩) hX4.lt).trans (hX4.cell 2), (hb.cell (p := ⟨w.heap.size, 3, none⟩) hX4.lt).trans (hX4.cell 3), (hb.cell (p := ⟨w.heap.size, 4, none⟩) hX4.lt).trans (hX4.cell 4), (hb.cell (p := ⟨w.heap.size, 5, none⟩) hX4.lt).trans (hX4.cell 5), (hb.cell (p := ⟨w.heap.size, 6, none⟩) hX4.lt).trans (hX4.cell 6), (hb.cell (p := ⟨w.heap.size, 7, none⟩) hX4.lt).trans (hX4.cell 7)⟩
     dsimp only [Act.put]
     have hbz := fr_drew (fr_refl w4)
     clear c0 c1
     refine wp_region_noPanic ?_
     refine wp_region_held_drew (S := fun W => W.cell? ⟨wr.heap.size, 0, none⟩ = some (.int .i64 x) ∧ W.cell? ⟨wr.heap.size, 1, none⟩ = some (.int .i64 y) ∧ W.cell? ⟨w.heap.size, 0, none⟩ = some (.int .i64 60) ∧ W.cell? ⟨w.heap.size, 1, none⟩ = some (.int .i64 50) ∧ W.cell? ⟨w.heap.size, 2, none⟩ = some (.int .i64 1) ∧ W.cell? ⟨w.heap.size, 3, none⟩ = some (.int .i64 1) ∧ W.cell? ⟨w.heap.size, 4, none⟩ = some (.int .i64 2) ∧ W.cell? ⟨w.heap.size, 5, none⟩ = some (.slice (some ⟨b1, f1, none⟩) 3 3) ∧ W.cell? ⟨w.heap.size, 6, none⟩ = some (.slice (some ⟨b2, f2, none⟩) 4 4) ∧ W.cell? ⟨w.heap.size, 7, none⟩ = some (.slice (some ⟨b3, f3, none⟩) 2 2)) (by kernel_rfl) (hkS _ hbz) (fun hHeld => ?_)
     generalize w4.drew = wz at hbz hHeld ⊢
     -- the region, step by step, in whatever order
     refine wpAnyH_take (i := 0) (oi := ⟨some 91, .load 86 (.tmp 1), 86, "plate.go:30", #[], none⟩) (v := ?_) rfl (by kernel_rfl) (by kernel_rfl) (by kernel_rfl) (fun _ _ _ h => h) (Or.inl ⟨by rfl, fun W hSw => ?_⟩) hHeld ?_
     rotate_left
     ·(try dsimp only at hSw); go_simp; (try with_reducible rfl)
     (try simp only [Act.put, List.setIfInBounds_toArray, List.set_cons_zero, List.set_cons_succ])
     refine wpAnyH_take (i := 1) (oi := ⟨some 92, .fieldAddr 159 (.tmp 6) 0, 0, "plate.go:30", #[], none⟩) (v := ?_) rfl (by kernel_rfl) (by kernel_rfl) (by kernel_rfl) (fun _ _ _ h => h) (Or.inl ⟨by rfl, fun W hSw => ?_⟩) hHeld ?_
     rotate_left
     ·(try dsimp only at hSw); go_simp; (try with_reducible rfl)
     (try simp only [Act.put, List.setIfInBounds_toArray, List.set_cons_zero, List.set_cons_succ])
     refine wpAnyH_take (i := 2) (oi := ⟨some 93, .load 3 (.tmp 92), 3, "plate.go:30", #[⟨1, .data⟩], none⟩) (v := ?_) rfl (by kernel_rfl) (by kernel_rfl) (by kernel_rfl) (fun _ _ _ h => h) (Or.inl ⟨by rfl, fun W hSw => ?_⟩) hHeld ?_
     rotate_left
     ·(try dsimp only at hSw); go_simp; (try with_reducible rfl)
     (try simp only [Act.put, List.setIfInBounds_toArray, List.set_cons_zero, List.set_cons_succ])
     refine wpAnyH_ready (rs := [3]) (by kernel_rfl) (by simp) ?_
     refine (AllReadyH.cons (o := ⟨some 94, .call { callee := .value (.func 88), args := #[.tmp 91, .tmp 93], argTypes := #[86, 3] }, 4, "plate.go:30", #[⟨0, .data⟩, ⟨2, .data⟩], none⟩) rfl (fun K hK => ?_) AllReadyH.nil)
     rw [if_pos (by rfl)]
     go_simp
     refine (isWheel_yes _ _ _ _ _ _ _ _ _ _ 4 _ _ _ x _ o1 (by omega)).mono ?_
     rintro e' wz ⟨rfl, hb1⟩
     replace hbz := fr_call hbz hb1
     refine hK.out _ _ (hkS _ hbz) (fun hHeld => ?_)
     clear hK K
     (try simp only [Act.put, List.setIfInBounds_toArray, List.set_cons_zero, List.set_cons_succ])
     refine wpAnyH_take (i := 4) (oi := ⟨some 95, .unOp .not 4 (.tmp 94), 4, "plate.go:30", #[⟨3, .data⟩], none⟩) (v := ?_) rfl (by kernel_rfl) (by kernel_rfl) (by kernel_rfl) (fun _ _ _ h => h) (Or.inl ⟨by rfl, fun W hSw => ?_⟩) hHeld ?_
     rotate_left
     ·(try dsimp only at hSw); go_simp; (try with_reducible rfl)
     (try simp only [Act.put, List.setIfInBounds_toArray, List.set_cons_zero, List.set_cons_succ])
     refine wpAnyH_take (i := 5) (oi := ⟨some 96, .move (.tmp 95), 4, "plate.go:30", #[⟨4, .data⟩, ⟨3, .chain⟩], none⟩) (v := ?_) rfl (by kernel_rfl) (by kernel_rfl) (by kernel_rfl) (fun _ _ _ h => h) (Or.inl ⟨by rfl, fun W hSw => ?_⟩) hHeld ?_
     rotate_left
     ·(try dsimp only at hSw); go_simp; (try with_reducible rfl)
     (try simp only [Act.put, List.setIfInBounds_toArray, List.set_cons_zero, List.set_cons_succ])
     refine wpAnyH_take (i := 6) (oi := ⟨some 97, .load 86 (.tmp 1), 86, "plate.go:30", #[⟨5, .guard⟩], some (5, false)⟩) (v := ?_) rfl (by kernel_rfl) (by kernel_rfl) (by kernel_rfl) (fun _ _ _ h => h) (Or.inl ⟨by rfl, fun W hSw => ?_⟩) hHeld ?_
     rotate_left
     ·(try dsimp only at hSw); go_simp; (try with_reducible rfl)
     (try simp only [Act.put, List.setIfInBounds_toArray, List.set_cons_zero, List.set_cons_succ])
     refine wpAnyH_take (i := 7) (oi := ⟨some 98, .fieldAddr 159 (.tmp 6) 1, 0, "plate.go:30", #[⟨5, .guard⟩], some (5, false)⟩) (v := ?_) rfl (by kernel_rfl) (by kernel_rfl) (by kernel_rfl) (fun _ _ _ h => h) (Or.inl ⟨by rfl, fun W hSw => ?_⟩) hHeld ?_
     rotate_left
     ·(try dsimp only at hSw); go_simp; (try with_reducible rfl)
     (try simp only [Act.put, List.setIfInBounds_toArray, List.set_cons_zero, List.set_cons_succ])
     refine wpAnyH_take (i := 8) (oi := ⟨some 99, .load 3 (.tmp 98), 3, "plate.go:30", #[⟨7, .data⟩, ⟨5, .guard⟩], some (5, false)⟩) (v := ?_) rfl (by kernel_rfl) (by kernel_rfl) (by kernel_rfl) (fun _ _ _ h => h) (Or.inl ⟨by rfl, fun W hSw => ?_⟩) hHeld ?_
     rotate_left
     ·(try dsimp only at hSw); go_simp; (try with_reducible rfl)
     (try simp only [Act.put, List.setIfInBounds_toArray, List.set_cons_zero, List.set_cons_succ])
     refine wpAnyH_ready (rs := [9]) (by kernel_rfl) (by simp) ?_
     refine (AllReadyH.cons (o := ⟨some 100, .call { callee := .value (.func 88), args := #[.tmp 97, .tmp 99], argTypes := #[86, 3] }, 4, "plate.go:30", #[⟨6, .data⟩, ⟨8, .data⟩, ⟨5, .chain⟩, ⟨5, .guard⟩], some (5, false)⟩) rfl (fun K hK => ?_) AllReadyH.nil)
     rw [if_pos (by rfl)]
     go_simp
     refine (isWheel_yes _ _ _ _ _ _ _ _ _ _ 4 _ _ _ y _ o2 (by omega)).mono ?_
     rintro e' wz ⟨rfl, hb1⟩
     replace hbz := fr_call hbz hb1
     refine hK.out _ _ (hkS _ hbz) (fun hHeld => ?_)
     clear hK K
     (try simp only [Act.put, List.setIfInBounds_toArray, List.set_cons_zero, List.set_cons_succ])
     refine wpAnyH_take (i := 10) (oi := ⟨some 101, .unOp .not 4 (.tmp 100), 4, "plate.go:30", #[⟨9, .data⟩, ⟨5, .guard⟩], some (5, false)⟩) (v := ?_) rfl (by kernel_rfl) (by kernel_rfl) (by kernel_rfl) (fun _ _ _ h => h) (Or.inl ⟨by rfl, fun W hSw => ?_⟩) hHeld ?_
     rotate_left
     ·(try dsimp only at hSw); go_simp; (try with_reducible rfl)
     (try simp only [Act.put, List.setIfInBounds_toArray, List.set_cons_zero, List.set_cons_succ])
     refine wpAnyH_take (i := 11) (oi := ⟨some 102, .pick (.tmp 96) (.const (.bool true)) (.tmp 101), 4, "plate.go:30", #[⟨5, .data⟩, ⟨10, .data⟩], none⟩) (v := ?_) rfl (by kernel_rfl) (by kernel_rfl) (by kernel_rfl) (fun _ _ _ h => h) (Or.inl ⟨by rfl, fun W hSw => ?_⟩) hHeld ?_
     rotate_left
     ·(try dsimp only at hSw); go_simp; (try with_reducible rfl)
     (try simp only [Act.put, List.setIfInBounds_toArray, List.set_cons_zero, List.set_cons_succ])
     refine wpAnyH_take (i := 12) (oi := ⟨some 103, .move (.tmp 102), 4, "plate.go:30", #[⟨11, .data⟩, ⟨9, .chain⟩], none⟩) (v := ?_) rfl (by kernel_rfl) (by kernel_rfl) (by kernel_rfl) (fun _ _ _ h => h) (Or.inl ⟨by rfl, fun W hSw => ?_⟩) hHeld ?_
     rotate_left
     ·(try dsimp only at hSw); go_simp; (try with_reducible rfl)
     (try simp only [Act.put, List.setIfInBounds_toArray, List.set_cons_zero, List.set_cons_succ])
     refine wpAnyH_take (i := 13) (oi := ⟨some 104, .fieldAddr 159 (.tmp 6) 0, 0, "plate.go:30", #[⟨12, .guard⟩], some (12, false)⟩) (v := ?_) rfl (by kernel_rfl) (by kernel_rfl) (by kernel_rfl) (fun _ _ _ h => h) (Or.inl ⟨by rfl, fun W hSw => ?_⟩) hHeld ?_
     rotate_left
     ·(try dsimp only at hSw); go_simp; (try with_reducible rfl)
     (try simp only [Act.put, List.setIfInBounds_toArray, List.set_cons_zero, List.set_cons_succ])
     refine wpAnyH_take (i := 14) (oi := ⟨some 105, .load 3 (.tmp 104), 3, "plate.go:30", #[⟨13, .data⟩, ⟨12, .guard⟩], some (12, false)⟩) (v := ?_) rfl (by kernel_rfl) (by kernel_rfl) (by kernel_rfl) (fun _ _ _ h => h) (Or.inl ⟨by rfl, fun W hSw => ?_⟩) hHeld ?_
     rotate_left
     ·(try dsimp only at hSw); go_simp; (try with_reducible rfl)
     (try simp only [Act.put, List.setIfInBounds_toArray, List.set_cons_zero, List.set_cons_succ])
     refine wpAnyH_take (i := 15) (oi := ⟨some 106, .fieldAddr 159 (.tmp 6) 1, 0, "plate.go:30", #[⟨12, .guard⟩], some (12, false)⟩) (v := ?_) rfl (by kernel_rfl) (by kernel_rfl) (by kernel_rfl) (fun _ _ _ h => h) (Or.inl ⟨by rfl, fun W hSw => ?_⟩) hHeld ?_
     rotate_left
     ·(try dsimp only at hSw); go_simp; (try with_reducible rfl)
     (try simp only [Act.put, List.setIfInBounds_toArray, List.set_cons_zero, List.set_cons_succ])
     refine wpAnyH_take (i := 16) (oi := ⟨some 107, .load 3 (.tmp 106), 3, "plate.go:30", #[⟨15, .data⟩, ⟨12, .guard⟩], some (12, false)⟩) (v := ?_) rfl (by kernel_rfl) (by kernel_rfl) (by kernel_rfl) (fun _ _ _ h => h) (Or.inl ⟨by rfl, fun W hSw => ?_⟩) hHeld ?_
     rotate_left
     ·(try dsimp only at hSw); go_simp; (try with_reducible rfl)
     (try simp only [Act.put, List.setIfInBounds_toArray, List.set_cons_zero, List.set_cons_succ])
     refine wpAnyH_take (i := 17) (oi := ⟨some 108, .binOp .geq 3 (.tmp 105) (.tmp 107) 3, 4, "plate.go:30", #[⟨14, .data⟩, ⟨16, .data⟩, ⟨12, .guard⟩], some (12, false)⟩) (v := ?_) rfl (by kernel_rfl) (by kernel_rfl) (by kernel_rfl) (fun _ _ _ h => h) (Or.inl ⟨by rfl, fun W hSw => ?_⟩) hHeld ?_
     rotate_left
     ·(try dsimp only at hSw); go_simp; (try with_reducible rfl)
     (try simp only [Act.put, List.setIfInBounds_toArray, List.set_cons_zero, List.set_cons_succ])
     refine wpAnyH_take (i := 18) (oi := ⟨some 109, .pick (.tmp 103) (.const (.bool true)) (.tmp 108), 4, "plate.go:30", #[⟨12, .data⟩, ⟨17, .data⟩], none⟩) (v := ?_) rfl (by kernel_rfl) (by kernel_rfl) (by kernel_rfl) (fun _ _ _ h => h) (Or.inl ⟨by rfl, fun W hSw => ?_⟩) hHeld ?_
     rotate_left
     ·(try dsimp only at hSw); go_simp; (try with_reducible rfl)
     (try simp only [Act.put, List.setIfInBounds_toArray, List.set_cons_zero, List.set_cons_succ])
     refine wpAnyH_take (i := 19) (oi := ⟨some 110, .move (.tmp 109), 4, "plate.go:30", #[⟨18, .data⟩, ⟨12, .chain⟩], none⟩) (v := ?_) rfl (by kernel_rfl) (by kernel_rfl) (by kernel_rfl) (fun _ _ _ h => h) (Or.inl ⟨by rfl, fun W hSw => ?_⟩) hHeld ?_
     rotate_left
     ·(try dsimp only at hSw); go_simp; (try with_reducible rfl)
     (try simp only [Act.put, List.setIfInBounds_toArray, List.set_cons_zero, List.set_cons_succ])
     refine wpAnyH_take (i := 20) (oi := ⟨some 111, .fieldAddr 86 (.tmp 1) 7, 0, "plate.go:30", #[⟨19, .guard⟩], some (19, false)⟩) (v := ?_) rfl (by kernel_rfl) (by kernel_rfl) (by kernel_rfl) (fun _ _ _ h => h) (Or.inl ⟨by rfl, fun W hSw => ?_⟩) hHeld ?_
     rotate_left
     ·(try dsimp only at hSw); go_simp; (try with_reducible rfl)
     (try simp only [Act.put, List.setIfInBounds_toArray, List.set_cons_zero, List.set_cons_succ])
     refine wpAnyH_take (i := 21) (oi := ⟨some 112, .load 84 (.tmp 111), 84, "plate.go:30", #[⟨20, .data⟩, ⟨19, .guard⟩], some (19, false)⟩) (v := ?_) rfl (by kernel_rfl) (by kernel_rfl) (by kernel_rfl) (fun _ _ _ h => h) (Or.inl ⟨by rfl, fun W hSw => ?_⟩) hHeld ?_
     rotate_left
     ·(try dsimp only at hSw); go_simp; (try with_reducible rfl)
     (try simp only [Act.put, List.setIfInBounds_toArray, List.set_cons_zero, List.set_cons_succ])
     refine wpAnyH_take (i := 22) (oi := ⟨some 113, .move (.tmp 5), 3, "plate.go:30", #[⟨19, .guard⟩], some (19, false)⟩) (v := ?_) rfl (by kernel_rfl) (by kernel_rfl) (by kernel_rfl) (fun _ _ _ h => h) (Or.inl ⟨by rfl, fun W hSw => ?_⟩) hHeld ?_
     rotate_left
     ·(try dsimp only at hSw); go_simp; (try with_reducible rfl)
     (try simp only [Act.put, List.setIfInBounds_toArray, List.set_cons_zero, List.set_cons_succ])
     refine wpAnyH_take (i := 23) (oi := ⟨some 114, .slice 84 (.tmp 112) none (some (.tmp 113)) none, 84, "plate.go:30", #[⟨21, .data⟩, ⟨22, .data⟩, ⟨19, .guard⟩], some (19, false)⟩) (v := ?_) rfl (by kernel_rfl) (by kernel_rfl) (by kernel_rfl) (fun _ _ _ h => h) (Or.inl ⟨by rfl, fun W hSw => ?_⟩) hHeld ?_
     rotate_left
     ·(try dsimp only at hSw); go_simp; (try with_reducible rfl)
     (try simp only [Act.put, List.setIfInBounds_toArray, List.set_cons_zero, List.set_cons_succ])
     refine wpAnyH_take (i := 24) (oi := ⟨some 115, .load 159 (.tmp 6), 159, "plate.go:30", #[⟨19, .guard⟩], some (19, false)⟩) (v := ?_) rfl (by kernel_rfl) (by kernel_rfl) (by kernel_rfl) (fun _ _ _ h => h) (Or.inl ⟨by rfl, fun W hSw => ?_⟩) hHeld ?_
     rotate_left
     ·(try dsimp only at hSw); go_simp; (try with_reducible rfl)
     (try simp only [Act.put, List.setIfInBounds_toArray, List.set_cons_zero, List.set_cons_succ])
     refine wpAnyH_ready (rs := [25]) (by kernel_rfl) (by simp) ?_
     refine (AllReadyH.cons (o := ⟨some 116, .call { callee := .value (.func 149), args := #[.tmp 114, .tmp 115], argTypes := #[84, 159] }, 4, "plate.go:30", #[⟨23, .data⟩, ⟨24, .data⟩, ⟨19, .chain⟩, ⟨19, .guard⟩], some (19, false)⟩) rfl (fun K hK => ?_) AllReadyH.nil)
     rw [if_pos (by rfl)]
     go_simp
     refine (contains_Ms (some ⟨b3, f3, none⟩) j 2 pMs x y wz ((hM.keep hb5).keep hbz) (by simp [pMs]; omega) (by decide) ⟨b3, f3, rfl⟩ false o3).mono ?_
     rintro e' wz' ⟨rfl, hb6⟩
     refine hK.out _ _ (hkS _ (fr_call hbz hb6)) (fun hHeld => ?_)
     clear hK K
     (try simp only [Act.put, List.setIfInBounds_toArray, List.set_cons_zero, List.set_cons_succ])
     refine wpAnyH_take (i := 26) (oi := ⟨some 117, .pick (.tmp 110) (.const (.bool true)) (.tmp 116), 4, "plate.go:30", #[⟨19, .data⟩, ⟨25, .data⟩], none⟩) (v := ?_) rfl (by kernel_rfl) (by kernel_rfl) (by kernel_rfl) (fun _ _ _ h => h) (Or.inl ⟨by rfl, fun W hSw => ?_⟩) hHeld ?_
     rotate_left
     ·(try dsimp only at hSw); go_simp; (try with_reducible rfl)
     (try simp only [Act.put, List.setIfInBounds_toArray, List.set_cons_zero, List.set_cons_succ])
     refine wpAnyH_done (by kernel_rfl) ?_ _
     refine NoPanic.normal ?_
     go_wp2_with fail
     go_roundw
     case rel => exact ⟨_, _, _, _, ⟨j + 1, by omega, rfl, fr_call hb5 (fr_call hbz hb6)⟩, rfl, rfl, rfl, rfl⟩
     case measure => simp [intOf]; omega
    ·obtain rfl : j = 2 := by omega
     have hX4 := hX0.keep hbr
     have hcX := fun j => hX4.cell j
     have hlX := hX4.lt
     go_wp2_with fail
     refine (contains_pwh 60 50 1 1 2 (some ⟨b1, f1, none⟩) (some ⟨b2, f2, none⟩) (some ⟨b3, f3, none⟩) 3 3 4 4 2 2 w.heap.size 4 pWs wr hX4 (hB.keep hbr) rfl (by omega) (by omega) pWs_ok).mono ?_
     rintro e' w5 ⟨rfl, hb6⟩
     go_wp2_with fail
     go_ret
     exact ⟨rfl, fr_call hb0 (fr_call hbr hb6)⟩
end Go.Proofs.YtkmiphabagoifaaGreatDoor
end
