/- Walk: the examples of the documents, as the laws of the layers' joins compute them. Walks, the references of the layers 1, 2 and 9: small words. Walks, the references of the layers 2 and 9: dividers, bills without teeth. Walks, the references: a bill without teeth; the bill of a suite (by gen_zd.py). Walks: whether a suite's lists are short; the bill of a suite (by gen_ze.py). Walks, the reference of layer 9: the train of an arbor. Walks, the reference of layer 9: whether a piece is as defined, of any numbers. -/
import Derived.Test.YtdocgmafbacjcaaGreatDoorMT22
import Derived.Test.YtdocgmafbacjcaaGreatDoorMT23
section
namespace Go.Proofs.YtdocgmafbacjcaaGreatDoor
open Go.RowKit Go.Shelf Dl

def cLines : List (List UInt8) := [[104, 97, 110, 100, 115], [99, 117, 116, 115, 32, 51, 54], [119, 111, 114, 107, 115, 32, 57]]
def cOuts : List (List UInt8) := [[49, 32, 51, 32, 51, 32, 52], [50, 32, 49, 32, 51], [49, 48]]
theorem c_hands : joinedL (handsL sLs sHs 2) = [49, 32, 51, 32, 51, 32, 52] := by kernel_rfl
theorem c_cuts : joinedL [2, 1, 3] = [50, 32, 49, 32, 51] := by kernel_rfl
theorem c_works : joinedL [10] = [49, 48] := by kernel_rfl
theorem c_w9 : workB (feastsY 0 sCy 59 2 0 1 sFe) (firstDay 0 sCy 1 + 8) = false := by kernel_rfl
theorem c_w10 : workB (feastsY 0 sCy 59 2 0 1 sFe) (firstDay 0 sCy 1 + 9) = true := by kernel_rfl
theorem c_long : longY sCy 1 = 365 := by kernel_rfl
theorem c_p36 : pieces 32 [99, 117, 116, 115, 32, 51, 54] = [99, 117, 116, 115] :: [[51, 54]] := by kernel_rfl
theorem c_p9 : pieces 32 [119, 111, 114, 107, 115, 32, 57] = [119, 111, 114, 107, 115] :: [[57]] := by kernel_rfl
theorem wd36 : WdOk [51, 54] := ⟨by simp, by decide, by kernel_rfl, by kernel_rfl⟩
theorem wd9 : WdOk [57] := ⟨by simp, by decide, by kernel_rfl, by kernel_rfl⟩
theorem v36 : [[51, 54]].map valOf = [((36 : Nat) : Int)] := by kernel_rfl
theorem v9 : [[57]].map valOf = [((9 : Nat) : Int)] := by kernel_rfl
set_option maxRecDepth 100000 in
set_option maxHeartbeats 4000000 in
theorem console_P (w : World) (hM : MaxP w) (hT : TabP w) : Calls Tryz.prog 27 #[] w fun e w' => ∃ v, e = .returned v ∧ Below w.heap.size w w' ∧ Calls Tryz.prog 26 #[v, .string ⟨#[104, 97, 110, 100, 115, 10, 99, 117, 116, 115, 32, 51, 54, 10, 119, 111, 114, 107, 115, 32, 57, 10]⟩] w' fun e w'' => e = .returned (.tuple #[.string ⟨#[49, 32, 51, 32, 51, 32, 52, 10, 50, 32, 49, 32, 51, 10, 49, 48, 10]⟩, .int .i64 0]) ∧ Below w'.heap.size w' w'' := by
 refine (law10Suite_is w).mono ?_
 rintro e w1 ⟨g1, g2, g3, g4, g5, g6, rfl, hS, hb1⟩
 refine ⟨_, rfl, hb1, ?_⟩
 have hf : ∀ g n, Fm (some ⟨g, 0, none⟩) n := fun g n => Or.inr ⟨g, 0, rfl⟩
 refine Console_ok (some ⟨g1, 0, none⟩) (some ⟨g2, 0, none⟩) (some ⟨g3, 0, none⟩) (some ⟨g4, 0, none⟩) (some ⟨g5, 0, none⟩) (some ⟨g6, 0, none⟩) 3 3 2 2 2 3 3 1 1 2 2 40 3 6 4 10 100 0 59 2 0 1 sLs sHs sTg sHo sCy sFe cLines cOuts w1 hS su_ok (hf _ _) (hf _ _) (hf _ _) (hf _ _) (hf _ _) (hf _ _) (by decide) [104, 97, 110, 100, 115, 10, 99, 117, 116, 115, 32, 51, 54, 10, 119, 111, 114, 107, 115, 32, 57] rfl (by decide) (by decide) rfl (by decide) ?_
 intro g gs B1 B2 B3 B4 B5 B6 k1 k2 k3 k4 k5 k6 D dc W hD hb k x o hx ho
 have hMW := (hM.keep hb1).keep hb
 have hTW := (hT.keep hb1).keep hb
 have hlong : longY sCy 1 ≤ 1000 := by decide
 have hbd : (3 : Nat) ≤ 1000 ∧ (2 : Nat) ≤ 1000 ∧ (3 : Nat) ≤ 1000 ∧ (1 : Nat) ≤ 1000 ∧ (2 : Nat) ≤ 1000 := by decide
 match k, hx, ho with
 | 0, hx, ho =>
  cases hx; cases ho
  have h := answer_hands g gs B1 B2 B3 B4 B5 B6 3 k1 2 k2 k3 3 k4 1 k5 2 k6 40 3 6 4 10 100 0 59 2 0 1 D (longY sCy 1) dc (.slice none 0 0) sLs sHs sTg sHo sCy sFe (feastsY 0 sCy 59 2 0 1 sFe) (firstDay 0 sCy 1) [104, 97, 110, 100, 115] [104, 97, 110, 100, 115] [] (2 * 2) (handsL sLs sHs 2) W hD hlong hbd (by decide) (by kernel_rfl) (by intro wd h; cases h) rfl (by kernel_rfl) (by kernel_rfl) (by decide) (by decide +kernel) (by rw [c_hands]; decide) hMW hTW (by
   intro N nc s C1 C2 C3 C4 C5 C6 j1 j2 j3 j4 j5 j6 mp W1 hSt hG hN
   exact ahands_ok s 3 j1 2 j2 0 nc _ C1 C2 N sLs sHs W1 (hSt.s.cell 0) (hSt.s.cell 1) hSt.r.r1 hSt.r.l1 hSt.r.r2 hSt.cap su_ok.piece)
  rw [c_hands] at h
  exact h
 | 1, hx, ho =>
  cases hx; cases ho
  have h := answer_cuts g gs B1 B2 B3 B4 B5 B6 3 k1 2 k2 k3 3 k4 1 k5 2 k6 40 3 6 4 10 100 0 59 2 0 1 D (longY sCy 1) dc (.slice none 0 0) sLs sHs sTg sHo sCy sFe (feastsY 0 sCy 59 2 0 1 sFe) (firstDay 0 sCy 1) [99, 117, 116, 115, 32, 51, 54] [99, 117, 116, 115] [[51, 54]] 3 [2, 1, 3] W hD hlong hbd (by decide) c_p36 (by intro wd h; rw [List.mem_singleton.1 h]; exact wd36) rfl (by kernel_rfl) (by kernel_rfl) (by decide) (by decide) (by rw [c_cuts]; decide) hMW hTW (by
   intro N nc s C1 C2 C3 C4 C5 C6 j1 j2 j3 j4 j5 j6 mp W1 hSt hG hN
   rw [v36] at hN
   exact acuts_ok s 40 3 j4 36 1 nc _ C4 N sHo 2 W1 (hSt.s.cell 4) (hSt.s.cell 5) hSt.r.r4 hN (by decide) (by decide) (by decide) su_ok.ho (by decide) (by kernel_rfl) (by intro j hj; have h2 : j = 0 ∨ j = 1 := (by omega); rcases h2 with rfl | rfl <;> decide))
  rw [c_cuts] at h
  exact h
 | 2, hx, ho =>
  cases hx; cases ho
  have h := answer_works g gs B1 B2 B3 B4 B5 B6 3 k1 2 k2 k3 3 k4 1 k5 2 k6 40 3 6 4 10 100 0 59 2 0 1 D (longY sCy 1) dc (.slice none 0 0) sLs sHs sTg sHo sCy sFe (feastsY 0 sCy 59 2 0 1 sFe) (firstDay 0 sCy 1) [119, 111, 114, 107, 115, 32, 57] [119, 111, 114, 107, 115] [[57]] 1 [10] W hD hlong hbd (by decide) c_p9 (by intro wd h; rw [List.mem_singleton.1 h]; exact wd9) rfl (by kernel_rfl) (by kernel_rfl) (by decide) (by decide) (by rw [c_works]; decide) hMW hTW (by
   intro N nc s C1 C2 C3 C4 C5 C6 j1 j2 j3 j4 j5 j6 mp W1 hSt hG hN
   rw [v9] at hN
   exact works_ok g gs s (longY sCy 1) dc 1 nc D N _ _ _ _ 9 10 W1 hG (hSt.s.cell 17) hSt.days hN (by decide) (by decide) (by rw [c_long]; decide) (by rw [c_long]; decide) (by intro j h1 h2; have e9 : j = 9 := (by omega); subst e9; exact c_w9) c_w10)
  rw [c_works] at h
  exact h
 | (k + 3), hx, _ => cases hx
set_option maxRecDepth 100000 in
set_option maxHeartbeats 4000000 in
theorem known11_is (w : World) (hM : MaxP w) (hT : TabP w) : Calls Tryz.prog 6 #[] w fun e w' => e = .returned (.bool true) ∧ Below w.heap.size w w' := by
 have heq : ∀ w, (binOp .eql 72 (.agg #[.int .i64 28, .int .i64 8]) (.agg #[.int .i64 28, .int .i64 8])).run Tryz.prog w = .ok (.bool true) w := fun w => by kernel_rfl
 go_enter Tryz.func6, Tryz.ntmps6
 go_wp2_with fail
 refine (law2P_is w).mono ?_
 rintro e w1 ⟨g1, g2, g3, rfl, hA, hB, hC, hb1⟩
 go_wp2_with fail
 refine (place_P g1 g2 g3 w1 hA hB hC).mono ?_
 rintro e w2 ⟨rfl, hb2⟩
 have hb02 := fr_call hb1 hb2
 clear hA hB hC hb1 hb2
 go_upto_region 2 with (refine wpList_store_blk rfl _ _ _ rfl w2.heap.size 72 _ _ rfl rfl (Blk.new w2 _ _) rfl (by kernel_rfl) (by simp [Value.oneCell']) ?_; intro w3 hQ hgQ)
 have hb3 : Below w2.heap.size w2 w3 := (fr_alloc (fr_refl w2) _).grown hgQ (fr_alloc (fr_refl w2) _).size (by intro k hk; cases hk; exact Nat.le_refl _)
 (try dsimp only [Act.put])
 have hb03 := fr_call hb02 hb3
 have hl1 := fr_alloc (fr_alloc (fr_refl w3) (.cells #[.int .i64 1, .int .i64 2, .int .i64 8, .int .i64 9] 3)) (.cells #[.int .i64 8, .int .i64 9, .int .i64 1, .int .i64 2] 3)
 have hL1 : Rd ((w3.alloc (.cells #[.int .i64 1, .int .i64 2, .int .i64 8, .int .i64 9] 3)).alloc (.cells #[.int .i64 8, .int .i64 9, .int .i64 1, .int .i64 2] 3)) (some ⟨w3.heap.size, 0, none⟩) 4 [1, 2, 8, 9] := rd_of_blk ((Blk.new w3 _ _).alloc _)
 have hL2 : Rd ((w3.alloc (.cells #[.int .i64 1, .int .i64 2, .int .i64 8, .int .i64 9] 3)).alloc (.cells #[.int .i64 8, .int .i64 9, .int .i64 1, .int .i64 2] 3)) (some ⟨w3.heap.size + 1, 0, none⟩) 4 [8, 9, 1, 2] := rd_of_blk (Blk.new_at _ _ (by simp))
 have hTu := turned_any (some ⟨w3.heap.size, 0, none⟩) (some ⟨w3.heap.size + 1, 0, none⟩) 4 4 4 2 [1, 2, 8, 9] [8, 9, 1, 2] _ hL1 hL2 (by decide) (by unfold HeightsOk; decide) (by unfold HeightsOk; decide) (by decide) (by unfold SameAt; decide) (by unfold SameAt; decide)
 have hQ4 := hQ.keep hl1
 have hb04 := fr_call hb03 hl1
 clear hL1 hL2 hb02 hb3 hgQ hQ hl1
 go_wp2_with fail
 refine hTu.mono ?_
 rintro e w4 ⟨rfl, rfl⟩
 clear hTu
 generalize (w3.alloc (.cells #[.int .i64 1, .int .i64 2, .int .i64 8, .int .i64 9] 3)).alloc (.cells #[.int .i64 8, .int .i64 9, .int .i64 1, .int .i64 2] 3) = w4 at *
 go_wp2_with fail
 refine (console_P w4 (hM.keep hb04) (hT.keep hb04)).mono ?_
 rintro e w5 ⟨v, rfl, hb5, hK⟩
 go_wp2_with fail
 refine hK.mono ?_
 rintro e w6 ⟨rfl, hb6⟩
 have hQ6 := hQ4.keep (fr_call hb5 hb6)
 have hcQ := fun j => hQ6.cell j
 have hb06 := fr_call hb04 (fr_call hb5 hb6)
 clear hK hQ4
 go_wp2_with fail
 go_ret
 exact ⟨rfl, hb06⟩
theorem known11_of {w : World} (hM : MaxP w) (hT : TabP w) : Known11 w := fun W hb => known11_is W (hM.keep hb) (hT.keep hb)
end Go.Proofs.YtdocgmafbacjcaaGreatDoor
end

section
namespace Go.Proofs.YtdocgmafbacjcaaGreatDoor
open Go.RowKit Go.Shelf Dl

theorem ref9.in_is (x lo hi : Int) (w : World) (b : Bool) (hb : inB x lo hi = b) :
  Calls Tryz.prog 67 #[.int .i64 x, .int .i64 lo, .int .i64 hi] w fun e w' => e = .returned (.bool b) ∧ w = w' := by
 subst hb
 by_cases h : lo ≤ x
 ·go_enter Tryz.func67, Tryz.ntmps67
  go_wp2
  go_ret
  exact ⟨ret_bool (by simp [inB, h]), rfl⟩
 ·go_enter Tryz.func67, Tryz.ntmps67
  go_wp2
  go_ret
  exact ⟨ret_bool (by simp only [inB]; rw [eq_comm, decide_eq_false_iff_not]; omega), rfl⟩
theorem ref2.in_is (x lo hi : Int) (w : World) (b : Bool) (hb : inB x lo hi = b) :
  Calls Tryz.prog 72 #[.int .i64 x, .int .i64 lo, .int .i64 hi] w fun e w' => e = .returned (.bool b) ∧ w = w' := by
 subst hb
 by_cases h : lo ≤ x
 ·go_enter Tryz.func72, Tryz.ntmps72
  go_wp2
  go_ret
  exact ⟨ret_bool (by simp [inB, h]), rfl⟩
 ·go_enter Tryz.func72, Tryz.ntmps72
  go_wp2
  go_ret
  exact ⟨ret_bool (by simp only [inB]; rw [eq_comm, decide_eq_false_iff_not]; omega), rfl⟩
theorem ref1.in_is (x lo hi : Int) (w : World) (b : Bool) (hb : inB x lo hi = b) :
  Calls Tryz.prog 71 #[.int .i64 x, .int .i64 lo, .int .i64 hi] w fun e w' => e = .returned (.bool b) ∧ w = w' := by
 subst hb
 by_cases h : lo ≤ x
 ·go_enter Tryz.func71, Tryz.ntmps71
  go_wp2
  go_ret
  exact ⟨ret_bool (by simp [inB, h]), rfl⟩
 ·go_enter Tryz.func71, Tryz.ntmps71
  go_wp2
  go_ret
  exact ⟨ret_bool (by simp only [inB]; rw [eq_comm, decide_eq_false_iff_not]; omega), rfl⟩
set_option maxHeartbeats 2000000 in
theorem rTeeth_is (x : Int) (w : World) (b : Bool) (hb : inB x 4 60 = b) :
  Calls Tryz.prog 75 #[.int .i64 x] w fun e w' => e = .returned (.bool b) ∧ w = w' := by
 go_enter Tryz.func75, Tryz.ntmps75
 go_wp2_with fail
 refine (ref1.in_is _ _ _ _ _ hb).mono ?_
 rintro e w' ⟨rfl, rfl⟩
 go_wp2_with fail
 go_ret
 exact ⟨rfl, rfl⟩
set_option maxHeartbeats 2000000 in
theorem rLimit_is (x : Int) (w : World) (b : Bool) (hb : inB x 0 10800 = b) :
  Calls Tryz.prog 14 #[.int .i64 x] w fun e w' => e = .returned (.bool b) ∧ w = w' := by
 go_enter Tryz.func14, Tryz.ntmps14
 go_wp2_with fail
 refine (ref1.in_is _ _ _ _ _ hb).mono ?_
 rintro e w' ⟨rfl, rfl⟩
 go_wp2_with fail
 go_ret
 exact ⟨rfl, rfl⟩
set_option maxHeartbeats 2000000 in
theorem rPair_is (x y : Int) (w : World) (b : Bool) (hb : (inB x 4 60 && inB y 4 60) = b) :
  Calls Tryz.prog 68 #[.agg #[.int .i64 x, .int .i64 y]] w fun e w' => e = .returned (.bool b) ∧ Below w.heap.size w w' := by
 have hb0 := fr_alloc (fr_refl w) (.cells #[.int .i64 x, .int .i64 y] 130)
 have hX := Blk.new w 130 #[.int .i64 x, .int .i64 y]
 have hcX := fun j => hX.cell j
 cases h1 : inB x 4 60 with
 | false =>
  rw [h1] at hb
  subst hb
  go_enter Tryz.func68, Tryz.ntmps68
  go_wp2_with fail
  refine (rTeeth_is _ _ _ h1).mono ?_
  rintro e w' ⟨rfl, rfl⟩
  go_wp2_with fail
  go_ret
  exact ⟨rfl, hb0⟩
 | true =>
  rw [h1, Bool.true_and] at hb
  go_enter Tryz.func68, Tryz.ntmps68
  go_wp2_with fail
  refine (rTeeth_is _ _ _ h1).mono ?_
  rintro e w' ⟨rfl, rfl⟩
  go_wp2_with fail
  refine (rTeeth_is _ _ _ hb).mono ?_
  rintro e w' ⟨rfl, rfl⟩
  go_wp2_with fail
  go_ret
  exact ⟨rfl, hb0⟩
set_option maxHeartbeats 2000000 in
theorem rFraction_is (x y : Int) (w : World) (b : Bool) (hb : (inB x 0 50000 && inB y 1 50000) = b) :
  Calls Tryz.prog 16 #[.agg #[.int .i64 x, .int .i64 y]] w fun e w' => e = .returned (.bool b) ∧ Below w.heap.size w w' := by
 have hb0 := fr_alloc (fr_refl w) (.cells #[.int .i64 x, .int .i64 y] 52)
 have hX := Blk.new w 52 #[.int .i64 x, .int .i64 y]
 have hcX := fun j => hX.cell j
 cases h1 : inB x 0 50000 with
 | false =>
  rw [h1] at hb
  subst hb
  go_enter Tryz.func16, Tryz.ntmps16
  go_wp2_with fail
  refine (ref1.in_is _ _ _ _ _ h1).mono ?_
  rintro e w' ⟨rfl, rfl⟩
  go_wp2_with fail
  go_ret
  exact ⟨rfl, hb0⟩
 | true =>
  rw [h1, Bool.true_and] at hb
  go_enter Tryz.func16, Tryz.ntmps16
  go_wp2_with fail
  refine (ref1.in_is _ _ _ _ _ h1).mono ?_
  rintro e w' ⟨rfl, rfl⟩
  go_wp2_with fail
  refine (ref1.in_is _ _ _ _ _ hb).mono ?_
  rintro e w' ⟨rfl, rfl⟩
  go_wp2_with fail
  go_ret
  exact ⟨rfl, hb0⟩
set_option maxHeartbeats 2000000 in
theorem rArbor_is (A H : Option Addr) (n c m hc : Nat) (x : Int) (w : World) (b : Bool) (hb : inB x 1 (n : Int) = b) :
  Calls Tryz.prog 70 #[.agg #[.slice A n c, .slice H m hc], .int .i64 x] w fun e w' => e = .returned (.bool b) ∧ Below w.heap.size w w' := by
 have hb0 := fr_alloc (fr_refl w) (.cells #[.slice A n c, .slice H m hc] 25)
 have hX := Blk.new w 25 #[.slice A n c, .slice H m hc]
 have hcX := fun j => hX.cell j
 go_enter Tryz.func70, Tryz.ntmps70
 go_wp2_with fail
 refine (ref9.in_is _ _ _ _ _ hb).mono ?_
 rintro e w' ⟨rfl, rfl⟩
 go_wp2_with fail
 go_ret
 exact ⟨rfl, hb0⟩
end Go.Proofs.YtdocgmafbacjcaaGreatDoor
end

section
namespace Go.Proofs.YtdocgmafbacjcaaGreatDoor
open Go.RowKit Go.Shelf Dl

set_option maxRecDepth 100000 in
set_option maxHeartbeats 4000000 in
theorem rDivider_any (wm : Int) (A : Option Addr) (n c : Nat) (l : List Int) (w : World) (hr : Rd w A n l) (hn : n ≤ 1000) :
  Calls Tryz.prog 15 #[.agg #[.int .i64 wm, .slice A n c]] w fun e w' => ∃ b, e = .returned (.bool b) ∧ (b = true → HolesOk l ∧ (1 ≤ wm ∧ wm ≤ 60) ∧ 1 ≤ n ∧ n ≤ 6) ∧ Below w.heap.size w w' := by
 have hb0 := fr_alloc (fr_refl w) (.cells #[.int .i64 wm, .slice A n c] 28)
 have hX := Blk.new w 28 #[.int .i64 wm, .slice A n c]
 obtain ⟨w1, hw1⟩ : ∃ w1, w.alloc (.cells #[.int .i64 wm, .slice A n c] 28) = w1 := ⟨_, rfl⟩
 rw [hw1] at hb0 hX
 replace hr := hr.keep hb0
 have hcX := fun j => hX.cell j
 have HL := Lib.hid hr.len
 go_enter Tryz.func15, Tryz.ntmps15
 go_upto_region 1 with (fail)
 (try rw [hw1])
 clear hw1
 go_wp2_with fail
 go_loopw [3] (fun u wr => ∃ j : Nat, j ≤ n ∧ u = .int .i64 j ∧ (∀ x ∈ l.take j, 1 ≤ x ∧ x ≤ 120) ∧ wr = w1) (fun u _ => n - (intOf u).toNat)
 case atStart => exact ⟨0, Nat.zero_le _, rfl, (fun x h => by cases h), rfl⟩
 case round =>
  obtain ⟨j, hj, rfl, hall, rfl⟩ := hrel
  by_cases hlt : j < n
  ·have hjl : j < l.length := by have := HL.out; omega
   obtain ⟨ad, rfl, hab, hc0⟩ := hr.at_ hlt
   have HT : Hid (l.take (j + 1) = l.take j ++ [l[j]]) := Lib.hid (List.take_succ_eq_append_getElem hjl)
   rw [show l[j]?.getD 0 = l[j] by simp [hjl]] at hc0
   generalize l[j] = x at *
   have i1 : (j : Int) < (n : Int) := by omega
   have i2 : (0 : Int) ≤ (j : Int) := Int.natCast_nonneg j
   have HA := Lib.hid hall
   clear hall hr
   cases h1 : inB x 1 120 with
   | false =>
    go_wp2_with fail
    refine (ref2.in_is _ _ _ _ _ h1).mono ?_
    rintro e w' ⟨rfl, rfl⟩
    go_wp2_with fail
    go_ret
    exact ⟨false, rfl, (fun h => by cases h), hb0⟩
   | true =>
    have hx := of_decide_eq_true h1
    have i3 : IntKind.i64.wrap ((j : Int) + 1) = ((j + 1 : Nat) : Int) := by rw [IntWalk.i64_in _ (by omega)]; omega
    go_wp2_with fail
    refine (ref2.in_is _ _ _ _ _ h1).mono ?_
    rintro e w' ⟨rfl, rfl⟩
    go_wp2_with fail
    refine ⟨⟨j + 1, hlt, by go_num, fun y hy => ?_, trivial⟩, ?_⟩
    ·rw [HT.out] at hy
     rcases List.mem_append.1 hy with h | h
     ·exact HA.out y h
     ·rw [List.mem_singleton.1 h]; exact hx
    ·simp [intOf]; omega
  ·obtain rfl : j = n := by omega
   rw [List.take_of_length_le (by have := HL.out; omega)] at hall
   have HA := Lib.hid hall
   clear hall hr
   cases h1 : inB wm 1 60 with
   | false =>
    go_wp2_with fail
    refine (ref2.in_is _ _ _ _ _ h1).mono ?_
    rintro e w' ⟨rfl, rfl⟩
    go_wp2_with fail
    go_ret
    exact ⟨false, rfl, (fun h => by cases h), hb0⟩
   | true =>
    have hx := of_decide_eq_true h1
    obtain ⟨b, hb⟩ : ∃ b, inB (j : Int) 1 6 = b := ⟨_, rfl⟩
    have HB := Lib.hid (show b = true → 1 ≤ j ∧ j ≤ 6 from fun h => by rw [← hb] at h; have := of_decide_eq_true h; omega)
    go_wp2_with fail
    refine (ref2.in_is _ _ _ _ _ h1).mono ?_
    rintro e w' ⟨rfl, rfl⟩
    go_wp2_with fail
    refine (ref2.in_is _ _ _ _ _ hb).mono ?_
    rintro e w' ⟨rfl, rfl⟩
    go_wp2_with fail
    go_ret
    exact ⟨b, rfl, fun h => ⟨HA.out, hx, HB.out h⟩, hb0⟩
end Go.Proofs.YtdocgmafbacjcaaGreatDoor
end

section
namespace Go.Proofs.YtdocgmafbacjcaaGreatDoor
open Go.RowKit Go.Shelf Dl

set_option maxRecDepth 100000 in
set_option maxHeartbeats 8000000 in
theorem rBill_any (br hr wg pc : Int) (w : World) :
  Calls Tryz.prog 21 #[.agg #[.slice none 0 0, .int .i64 br, .int .i64 hr, .int .i64 wg, .int .i64 pc, .int .i64 0]] w fun e w' => ∃ b, e = .returned (.bool b) ∧ (b = true → (0 ≤ br ∧ br ≤ 1000) ∧ (0 ≤ hr ∧ hr ≤ 40) ∧ (0 ≤ wg ∧ wg ≤ 100) ∧ 0 ≤ pc ∧ pc ≤ 100) ∧ Below w.heap.size w w' := by
 have hb0 := fr_alloc (fr_refl w) (.cells #[.slice none 0 0, .int .i64 br, .int .i64 hr, .int .i64 wg, .int .i64 pc, .int .i64 0] 69)
 have hX := Blk.new w 69 #[.slice none 0 0, .int .i64 br, .int .i64 hr, .int .i64 wg, .int .i64 pc, .int .i64 0]
 obtain ⟨w1, hw1⟩ : ∃ w1, w.alloc (.cells #[.slice none 0 0, .int .i64 br, .int .i64 hr, .int .i64 wg, .int .i64 pc, .int .i64 0] 69) = w1 := ⟨_, rfl⟩
 rw [hw1] at hb0 hX
 have hcX := fun j => hX.cell j
 go_enter Tryz.func21, Tryz.ntmps21
 go_upto_region 1 with (fail)
 (try rw [hw1])
 clear hw1
 go_wp2_with fail
 go_loopw [3] (fun u wr => u = .int .i64 0 ∧ wr = w1) (fun _ _ => 0)
 case atStart => exact ⟨rfl, rfl⟩
 case round =>
  obtain ⟨rfl, rfl⟩ := hrel
  rcases hc0 : inB br 0 1000 with _ | _
  ·have h0 := hc0
   clear hc0
   go_wp2_with fail
   refine (ref9.in_is _ _ _ _ _ h0).mono ?_
   rintro e w' ⟨rfl, rfl⟩
   go_wp2_with fail
   go_ret
   exact ⟨false, rfl, (fun h => by cases h), hb0⟩
  have h0 := hc0
  clear hc0
  rcases hc1 : inB hr 0 40 with _ | _
  ·have h1 := hc1
   clear hc1
   go_wp2_with fail
   refine (ref9.in_is _ _ _ _ _ h0).mono ?_
   rintro e w' ⟨rfl, rfl⟩
   go_wp2_with fail
   refine (ref9.in_is _ _ _ _ _ h1).mono ?_
   rintro e w' ⟨rfl, rfl⟩
   go_wp2_with fail
   go_ret
   exact ⟨false, rfl, (fun h => by cases h), hb0⟩
  have h1 := hc1
  clear hc1
  rcases hc2 : inB wg 0 100 with _ | _
  ·have h2 := hc2
   clear hc2
   go_wp2_with fail
   refine (ref9.in_is _ _ _ _ _ h0).mono ?_
   rintro e w' ⟨rfl, rfl⟩
   go_wp2_with fail
   refine (ref9.in_is _ _ _ _ _ h1).mono ?_
   rintro e w' ⟨rfl, rfl⟩
   go_wp2_with fail
   refine (ref9.in_is _ _ _ _ _ h2).mono ?_
   rintro e w' ⟨rfl, rfl⟩
   go_wp2_with fail
   go_ret
   exact ⟨false, rfl, (fun h => by cases h), hb0⟩
  have h2 := hc2
  clear hc2
  rcases hc3 : inB pc 0 100 with _ | _
  ·have h3 := hc3
   clear hc3
   go_wp2_with fail
   refine (ref9.in_is _ _ _ _ _ h0).mono ?_
   rintro e w' ⟨rfl, rfl⟩
   go_wp2_with fail
   refine (ref9.in_is _ _ _ _ _ h1).mono ?_
   rintro e w' ⟨rfl, rfl⟩
   go_wp2_with fail
   refine (ref9.in_is _ _ _ _ _ h2).mono ?_
   rintro e w' ⟨rfl, rfl⟩
   go_wp2_with fail
   refine (ref9.in_is _ _ _ _ _ h3).mono ?_
   rintro e w' ⟨rfl, rfl⟩
   go_wp2_with fail
   go_ret
   exact ⟨false, rfl, (fun h => by cases h), hb0⟩
  have h3 := hc3
  clear hc3
  have h4 : inB (0 : Int) 0 1000000 = true := by decide
  go_wp2_with fail
  refine (ref9.in_is _ _ _ _ _ h0).mono ?_
  rintro e w' ⟨rfl, rfl⟩
  go_wp2_with fail
  refine (ref9.in_is _ _ _ _ _ h1).mono ?_
  rintro e w' ⟨rfl, rfl⟩
  go_wp2_with fail
  refine (ref9.in_is _ _ _ _ _ h2).mono ?_
  rintro e w' ⟨rfl, rfl⟩
  go_wp2_with fail
  refine (ref9.in_is _ _ _ _ _ h3).mono ?_
  rintro e w' ⟨rfl, rfl⟩
  go_wp2_with fail
  refine (ref9.in_is _ _ _ _ _ h4).mono ?_
  rintro e w' ⟨rfl, rfl⟩
  go_wp2_with fail
  go_ret
  exact ⟨true, rfl, (fun _ => ⟨of_decide_eq_true h0, of_decide_eq_true h1, of_decide_eq_true h2, of_decide_eq_true h3⟩), hb0⟩
end Go.Proofs.YtdocgmafbacjcaaGreatDoor
end

section
namespace Go.Proofs.YtdocgmafbacjcaaGreatDoor
open Go.RowKit Go.Shelf Dl

/-- a test returns some answer; 'yes' tells something -/
def RetB (w : World) (C : Prop) (e : Ending) (w' : World) : Prop := ∃ b, e = .returned (.bool b) ∧ (b = true → C) ∧ Below w.heap.size w w'
set_option maxRecDepth 100000 in
set_option maxHeartbeats 8000000 in
theorem lean_any (A1 A2 A3 A4 A5 A6 : Option Addr) (n1 c1 n2 c2 n3 c3 n4 c4 n5 c5 n6 c6 : Nat) (lim wm ep mn md ma yr br hr wg pc : Int) (w : World) :
  Calls Tryz.prog 4 #[.agg #[.slice A1 n1 c1, .slice A2 n2 c2, .slice A3 n3 c3, .int .i64 lim, .int .i64 wm, .slice A4 n4 c4, .int .i64 ep, .slice A5 n5 c5, .int .i64 mn, .int .i64 md, .int .i64 ma, .slice A6 n6 c6, .int .i64 yr, .int .i64 br, .int .i64 hr, .int .i64 wg, .int .i64 pc]] w (RetB w (n1 ≤ 7 ∧ n2 ≤ 6 ∧ n3 ≤ 6 ∧ n4 ≤ 8 ∧ n5 ≤ 5 ∧ n6 ≤ 8)) := by
 have hb0 := fr_alloc (fr_refl w) (.cells #[.slice A1 n1 c1, .slice A2 n2 c2, .slice A3 n3 c3, .int .i64 lim, .int .i64 wm, .slice A4 n4 c4, .int .i64 ep, .slice A5 n5 c5, .int .i64 mn, .int .i64 md, .int .i64 ma, .slice A6 n6 c6, .int .i64 yr, .int .i64 br, .int .i64 hr, .int .i64 wg, .int .i64 pc] 35)
 have hX := Blk.new w 35 #[.slice A1 n1 c1, .slice A2 n2 c2, .slice A3 n3 c3, .int .i64 lim, .int .i64 wm, .slice A4 n4 c4, .int .i64 ep, .slice A5 n5 c5, .int .i64 mn, .int .i64 md, .int .i64 ma, .slice A6 n6 c6, .int .i64 yr, .int .i64 br, .int .i64 hr, .int .i64 wg, .int .i64 pc]
 obtain ⟨w1, hw1⟩ : ∃ w1, w.alloc (.cells #[.slice A1 n1 c1, .slice A2 n2 c2, .slice A3 n3 c3, .int .i64 lim, .int .i64 wm, .slice A4 n4 c4, .int .i64 ep, .slice A5 n5 c5, .int .i64 mn, .int .i64 md, .int .i64 ma, .slice A6 n6 c6, .int .i64 yr, .int .i64 br, .int .i64 hr, .int .i64 wg, .int .i64 pc] 35) = w1 := ⟨_, rfl⟩
 rw [hw1] at hb0 hX
 have k0 := hX.cell 0
 have k1 := hX.cell 1
 have k2 := hX.cell 2
 have k5 := hX.cell 5
 have k7 := hX.cell 7
 have k11 := hX.cell 11
 clear hX
 go_enter Tryz.func4, Tryz.ntmps4
 go_upto_region 1 with (fail)
 (try rw [hw1])
 clear hw1
 by_cases h0 : (n1 : Int) ≤ 7
 case neg =>
  have d0 : decide ((n1 : Int) ≤ 7) = false := decide_eq_false h0
  go_wp2_with fail
  go_ret
  exact ⟨false, rfl, (fun h => by cases h), hb0⟩
 by_cases h1 : (n2 : Int) ≤ 6
 case neg =>
  have d1 : decide ((n2 : Int) ≤ 6) = false := decide_eq_false h1
  go_wp2_with fail
  go_ret
  exact ⟨false, rfl, (fun h => by cases h), hb0⟩
 by_cases h2 : (n3 : Int) ≤ 6
 case neg =>
  have d2 : decide ((n3 : Int) ≤ 6) = false := decide_eq_false h2
  go_wp2_with fail
  go_ret
  exact ⟨false, rfl, (fun h => by cases h), hb0⟩
 by_cases h3 : (n4 : Int) ≤ 8
 case neg =>
  have d3 : decide ((n4 : Int) ≤ 8) = false := decide_eq_false h3
  go_wp2_with fail
  go_ret
  exact ⟨false, rfl, (fun h => by cases h), hb0⟩
 by_cases h4 : (n5 : Int) ≤ 5
 case neg =>
  have d4 : decide ((n5 : Int) ≤ 5) = false := decide_eq_false h4
  go_wp2_with fail
  go_ret
  exact ⟨false, rfl, (fun h => by cases h), hb0⟩
 by_cases h5 : (n6 : Int) ≤ 8
 case neg =>
  have d5 : decide ((n6 : Int) ≤ 8) = false := decide_eq_false h5
  go_wp2_with fail
  go_ret
  exact ⟨false, rfl, (fun h => by cases h), hb0⟩
 go_wp2_with fail
 go_ret
 exact ⟨true, rfl, (fun _ => ⟨by omega, by omega, by omega, by omega, by omega, by omega⟩), hb0⟩
set_option maxRecDepth 100000 in
set_option maxHeartbeats 8000000 in
theorem rbill_is (A1 A2 A3 A4 A5 A6 : Option Addr) (n1 c1 n2 c2 n3 c3 n4 c4 n5 c5 n6 c6 : Nat) (lim wm ep mn md ma yr br hr wg pc : Int) (v : Value) (w : World) (hv : v = .slice none 0 0) :
  Calls Tryz.prog 22 #[.agg #[.slice A1 n1 c1, .slice A2 n2 c2, .slice A3 n3 c3, .int .i64 lim, .int .i64 wm, .slice A4 n4 c4, .int .i64 ep, .slice A5 n5 c5, .int .i64 mn, .int .i64 md, .int .i64 ma, .slice A6 n6 c6, .int .i64 yr, .int .i64 br, .int .i64 hr, .int .i64 wg, .int .i64 pc], v] w fun e w' => e = .returned (.agg #[.slice none 0 0, .int .i64 br, .int .i64 hr, .int .i64 wg, .int .i64 pc, .int .i64 0]) ∧ Below w.heap.size w w' := by
 subst hv
 have hb0 := fr_alloc (fr_refl w) (.cells #[.slice A1 n1 c1, .slice A2 n2 c2, .slice A3 n3 c3, .int .i64 lim, .int .i64 wm, .slice A4 n4 c4, .int .i64 ep, .slice A5 n5 c5, .int .i64 mn, .int .i64 md, .int .i64 ma, .slice A6 n6 c6, .int .i64 yr, .int .i64 br, .int .i64 hr, .int .i64 wg, .int .i64 pc] 35)
 have hX := Blk.new w 35 #[.slice A1 n1 c1, .slice A2 n2 c2, .slice A3 n3 c3, .int .i64 lim, .int .i64 wm, .slice A4 n4 c4, .int .i64 ep, .slice A5 n5 c5, .int .i64 mn, .int .i64 md, .int .i64 ma, .slice A6 n6 c6, .int .i64 yr, .int .i64 br, .int .i64 hr, .int .i64 wg, .int .i64 pc]
 obtain ⟨w1, hw1⟩ : ∃ w1, w.alloc (.cells #[.slice A1 n1 c1, .slice A2 n2 c2, .slice A3 n3 c3, .int .i64 lim, .int .i64 wm, .slice A4 n4 c4, .int .i64 ep, .slice A5 n5 c5, .int .i64 mn, .int .i64 md, .int .i64 ma, .slice A6 n6 c6, .int .i64 yr, .int .i64 br, .int .i64 hr, .int .i64 wg, .int .i64 pc] 35) = w1 := ⟨_, rfl⟩
 rw [hw1] at hb0 hX
 have hX2 := hX.alloc (.cells #[.slice none 0 0, .int .i64 0, .int .i64 0, .int .i64 0, .int .i64 0, .int .i64 0] 69)
 have k13 := hX2.cell 13
 have k14 := hX2.cell 14
 have k15 := hX2.cell 15
 have k16 := hX2.cell 16
 clear hX hX2
 go_enter Tryz.func22, Tryz.ntmps22
 go_upto_region 1 with (fail)
 (try rw [hw1])
 clear hw1
 go_wp2_with (refine wpList_store_blk rfl _ _ _ rfl w1.heap.size 69 _ _ rfl rfl (Blk.new w1 _ _) rfl (by kernel_rfl) (by simp [Value.oneCell']) ?_; intro w2 hQ hgQ)
 refine bodyPost_ret (results_blk1 rfl _ _ _ _ rfl hQ Tryz.underlying69 rfl (by kernel_rfl)) rfl ⟨rfl, ?_⟩
 have ha := fr_alloc hb0 (.cells #[.slice none 0 0, .int .i64 0, .int .i64 0, .int .i64 0, .int .i64 0, .int .i64 0] 69)
 exact ha.grown hgQ ha.size (by intro k hk; cases hk; exact hb0.size)
end Go.Proofs.YtdocgmafbacjcaaGreatDoor
end

section
namespace Go.Proofs.YtdocgmafbacjcaaGreatDoor
open Go.RowKit Go.Shelf

theorem flat_at {k : Nat} : ∀ {rows : List (List Value)} (_ : ∀ r ∈ rows, r.length = k) (j : Nat) (u : Value), rows.flatten[j]? = some u → ∃ i r t, rows[i]? = some r ∧ r[t]? = some u ∧ j = i * k + t
 | [], _, j, u, h => by simp at h
 | r0 :: rows, hk, j, u, h => by
  rw [List.flatten_cons] at h
  by_cases hj : j < r0.length
  ·rw [List.getElem?_append_left hj] at h
   exact ⟨0, r0, j, rfl, h, by omega⟩
  ·rw [List.getElem?_append_right (by omega)] at h
   obtain ⟨i, r, t, h1, h2, h3⟩ := flat_at (fun r hr => hk r (by simp [hr])) _ u h
   have h0 := hk r0 (by simp)
   exact ⟨i + 1, r, t, by simpa using h1, h2, by rw [Nat.add_mul]; omega⟩
section
variable {o : Oper} {a : Act} {w : World} {K : Act → World → Prop} {Q : Exit → Act → World → Prop}
/-- 'append(s, l...)' of rows of k cells -/
theorem wp_app_rows {T E : TypeId} {z : Value} {k bytes : Nat} (s x : Operand)
  (ho : o.op = .call { callee := .builtin .append, args := #[s, x], argTypes := #[T, T] }) (hu : Tryz.prog.underlying T = some (.slice E)) (hinfo : (Tryz.prog.info? E).map (fun i => (i.zero, i.size, i.bytes)) = some (some z, k, bytes)) (hzk : z.cells.size = k) (hk : 0 < k) (hby : bytes ≤ 1000)
  (base : Nat) (v : Value) (rows : List (List Value)) (hs : a.eval s = v) (hown : OwnS w base E k v rows) (ad : Addr) (n c : Nat) (news : List (List Value)) (hx : a.eval x = .slice (some ad) n c) (hnl : news.length = n) (hrd : RdS w (some ad) k news) (hrl : ∀ r ∈ news, r.length = k) (h1 : ∀ r ∈ news, ∀ u ∈ r, u.oneCell' = true) (hn : rows.length + n < 1000000) (hbase : base ≤ w.heap.size)
  (h : ∀ A c w', OwnS w' base E k (.slice A (rows.length + n) c) (rows ++ news) → w.grownBy w' v.ownBlock → K (a.put o.dst (.slice A (rows.length + n) c)) w') : o.wp Tryz.prog a w K Q := by
 obtain ⟨i0, hi, hz0, hz1, hz2⟩ := info_parts hinfo
 have hb : (rows.length + n) * bytes ≤ 1000000 * 1000 := Nat.mul_le_mul (by omega) hby
 refine wp_append_own w s x _ ho base _ i0 _ k bytes hu hi hz0 hz1 hz2 hzk hk v _ _ hs hown.1 ad n c news.flatten hx (by rw [flat_len hrl, hnl]) ?_ (fun u hu => by
   obtain ⟨r, hr, hur⟩ := List.mem_flatten.1 hu
   exact h1 r hr u hur)
  (by unfold maxLen; omega) (by omega) hbase ?_
 ·intro j u hj
  obtain ⟨i, r, t, e1, e2, rfl⟩ := flat_at hrl j u hj
  obtain ⟨ad', e, _, _, hc⟩ := hrd.at_ e1
  cases e
  exact hc t u e2
 ·intro v' w' hown' hgr _
  have hown2 : OwnS w' base E k v' (rows ++ news) := by
   refine ⟨?_, fun q hq => ?_⟩
   ·rw [List.length_append, List.flatten_append, hnl]
    exact hown'
   ·rcases List.mem_append.1 hq with h2 | h2
    ·exact hown.2 q h2
    ·exact hrl q h2
  obtain ⟨A, c, rfl⟩ := hown2.form
  rw [List.length_append, hnl] at hown2 ⊢
  exact h A c w' hown2 hgr
end

section
variable {o : Oper} {a : Act} {w : World} {K : Act → World → Prop} {Q : Exit → Act → World → Prop}
/-- 'append([]api.TrainPair(nil), l...)' -/
theorem wp_app_pairs (x : Operand) (ho : o.op = .call { callee := .builtin .append, args := #[.const (.slice none 0 0), x], argTypes := #[46, 46] }) (base : Nat) (hbase : base ≤ w.heap.size) (ps : List Wh) (A1 : Option Addr) (d1 : Nat) (hx : a.eval x = .slice A1 ps.length d1) (hnil : ps = [] → A1 = none ∧ d1 = 0) (hrd : RdS w A1 2 (ps.map Wh.cells)) (hl : ps.length ≤ 1000)
  (h : ∀ A c w', OwnS w' base 130 2 (.slice A ps.length c) (ps.map Wh.cells) → Below w.heap.size w w' → K (a.put o.dst (.slice A ps.length c)) w') : o.wp Tryz.prog a w K Q := by
 by_cases hp : ps = []
 ·subst hp
  obtain ⟨rfl, rfl⟩ := hnil rfl
  have h1 := h none 0 w (OwnS.nil _ _ _ _) (fr_refl w)
  have hr : ∀ ty, (Builtin.append_ #[46, 46] ty #[.slice none 0 0, .slice none 0 0]).run Tryz.prog w = .ok (.slice none 0 0) w := fun ty => by kernel_rfl
  have hx' : a.eval x = .slice none 0 0 := hx
  have hs : a.eval (.const (.slice none 0 0)) = .slice none 0 0 := rfl
  unfold Oper.wp execOp
  simp only [ho, resolve, invoke, builtin, Sem.run_bind, Sem.run_pure, Result.andThen_ok, List.map_toArray, List.map_cons, List.map_nil, hs, hx', hr]
  exact h1
 ·obtain ⟨ad, rfl, _, _⟩ := hrd (by rw [List.length_map]; exact List.length_pos_iff.2 hp)
  refine wp_app_rows (z := .agg #[.int .i64 0, .int .i64 0]) (k := 2) (bytes := 16) (.const (.slice none 0 0)) x ho Tryz.underlying46 info_pair rfl (by omega) (by omega) base (.slice none 0 0) [] rfl (OwnS.nil _ _ _ _) ad ps.length d1 (ps.map Wh.cells) hx (List.length_map _) hrd (by intro r hr; obtain ⟨s, _, rfl⟩ := List.mem_map.1 hr; rfl) (by intro r hr u hu; obtain ⟨s, _, rfl⟩ := List.mem_map.1 hr; simp only [Wh.cells, List.mem_cons, List.not_mem_nil, or_false] at hu; rcases hu with rfl | rfl <;> rfl) (by simp; omega) hbase ?_
  intro A c w' hO hg
  simp only [List.length_nil, Nat.zero_add, List.nil_append] at hO ⊢
  exact h A c w' hO ((fr_refl w).grown hg (Nat.le_refl _) (by intro k hk; simp [Value.ownBlock] at hk))
end
theorem path_len {ls : List Lk} (h : LksOk ls) : ∀ (a : Nat), a ≤ ls.length → (pathL ls a).length ≤ a := fun a => by
 induction a using Nat.strongRecOn with
 | ind a ih =>
  intro hal
  cases a with
  | zero => exact Nat.le_refl _
  | succ a =>
   have he : ls[a]? = some ls[a] := List.getElem?_eq_getElem (by omega)
   have hfr := h a _ he
   rw [pathL_succ h he, List.length_append]
   have := ih ls[a].fr (by omega) (by omega)
   simp
   omega
theorem trainL_succ {ls : List Lk} (h : LksOk ls) {a : Nat} {l : Lk} (hl : ls[a]? = some l) : trainL ls (a + 1) = trainL ls l.fr ++ [l.pr] := by
 unfold trainL
 rw [pathL_succ h hl, List.map_append]
 congr 1
 simp [prAt, hl]
/-- a train that is returned; none is nil -/
def RetP0 (w : World) (ps : List Wh) (e : Ending) (w' : World) : Prop := ∃ A c, e = .returned (.slice A ps.length c) ∧ (ps = [] → A = none ∧ c = 0) ∧ OwnS w' w.heap.size 130 2 (.slice A ps.length c) (ps.map Wh.cells) ∧ Below w.heap.size w w'
set_option maxRecDepth 100000 in
set_option maxHeartbeats 8000000 in
theorem rTrain_any (A H : Option Addr) (n c m hc : Nat) (ls : List Lk) (hL : LksOk ls) (hn : ls.length ≤ n) (hn2 : n ≤ 1000) : ∀ (a : Nat) (w : World), a ≤ ls.length → RdS w A 3 (ls.map Lk.cells) →
  Calls Tryz.prog 69 #[.agg #[.slice A n c, .slice H m hc], .int .i64 a] w (RetP0 w (trainL ls a)) := by
 intro a
 induction a using Nat.strongRecOn with
 | ind a ih =>
 intro w hal hr
 have hb0 := fr_alloc (fr_refl w) (.cells #[.slice A n c, .slice H m hc] 25)
 have hX := Blk.new w 25 #[.slice A n c, .slice H m hc]
 obtain ⟨w1, hw1⟩ : ∃ w1, w.alloc (.cells #[.slice A n c, .slice H m hc] 25) = w1 := ⟨_, rfl⟩
 rw [hw1] at hb0 hX
 replace hr := hr.keep hb0
 have hs0 := hb0.size
 have hcX := fun j => hX.cell j
 cases a with
 | zero =>
  clear ih hr
  go_enter Tryz.func69, Tryz.ntmps69
  go_upto_region 1 with (fail)
  (try rw [hw1])
  clear hw1
  go_wp2_with fail
  go_ret
  exact ⟨none, 0, rfl, (fun _ => ⟨rfl, rfl⟩), OwnS.nil _ _ _ _, hb0⟩
 | succ k =>
  obtain ⟨l0, hl0⟩ : ∃ l0, ls[k]? = some l0 := ⟨ls[k]'(by omega), List.getElem?_eq_getElem (by omega)⟩
  have hfr := hL k l0 hl0
  have HT := Lib.hid (trainL_succ hL hl0)
  have hpl := path_len hL l0.fr (by omega)
  have htl : (trainL ls l0.fr).length ≤ 1000 := by rw [trainL, List.length_map]; omega
  have KT := fun W (hb : Below w1.heap.size w1 W) => ih l0.fr (by omega) W (by omega) (hr.keep hb)
  obtain ⟨ad, rfl, hab, h0, h1⟩ := hr.nth (i := k) (r := l0.cells) (by simp [hl0])
  have c0 := h0 _ rfl
  have c1 := h1 0 _ rfl
  have c2 := h1 1 _ rfl
  simp only [Nat.zero_add, Nat.reduceAdd] at c1 c2
  have i0 : IntKind.i64.wrap (((k + 1 : Nat) : Int) - 1) = (k : Int) := by rw [IntWalk.i64_in _ (by omega)]; omega
  have i1 : (0 : Int) ≤ (k : Int) := Int.natCast_nonneg k
  have i2 : (k : Int) < (n : Int) := by omega
  have i3 : ¬ (((k + 1 : Nat) : Int) = 0) := by omega
  have i3' : (((k + 1 : Nat) : Int) == 0) = false := by simpa using i3
  obtain ⟨fr, x, y⟩ := l0
  simp only at c0 c1 c2 KT HT htl
  generalize trainL ls fr = ps at *
  clear ih hr h0 h1 hl0 hfr hpl hal
  generalize k + 1 = q at *
  go_enter Tryz.func69, Tryz.ntmps69
  go_upto_region 1 with (fail)
  (try rw [hw1])
  clear hw1
  go_upto_region 4 with (refine wpList_store_blk rfl _ _ _ rfl w1.heap.size 132 _ _ rfl rfl (Blk.new w1 _ _) rfl (by kernel_rfl) (by simp [Value.oneCell']) ?_; intro w2 hY hgY)
  have hb12 : Below w1.heap.size w1 w2 := (fr_alloc (fr_refl w1) _).grown hgY (fr_alloc (fr_refl w1) _).size (by intro k hk; cases hk; exact Nat.le_refl _)
  have hX2 := hX.keep hb12
  have hs2 := hb12.size
  have hlY := hY.lt
  have hbz := fr_drew (fr_refl w2)
  have hkS : ∀ W, Below w2.heap.size w2 W → (W.cell? ⟨w.heap.size, 0, none⟩ = some (.slice (some ad) n c) ∧ W.cell? ⟨w.heap.size, 1, none⟩ = some (.slice H m hc)) ∧ W.cell? ⟨w1.heap.size, 0, none⟩ = some (.int .i64 fr) ∧ W.cell? ⟨w1.heap.size, 1, none⟩ = some (.int .i64 x) ∧ W.cell? ⟨w1.heap.size, 2, none⟩ = some (.int .i64 y) := fun W hb => ⟨⟨(hX2.keep hb).cell 0, (hX2.keep hb).cell 1⟩, (hY.keep hb).cell 0, (hY.keep hb).cell 1, (hY.keep hb).cell 2⟩
  clear hX hcX c0 c1 c2
  refine wp_region_noPanic ?_
  refine wp_region_held_drew (S := fun W => (W.cell? ⟨w.heap.size, 0, none⟩ = some (.slice (some ad) n c) ∧ W.cell? ⟨w.heap.size, 1, none⟩ = some (.slice H m hc)) ∧ W.cell? ⟨w1.heap.size, 0, none⟩ = some (.int .i64 fr) ∧ W.cell? ⟨w1.heap.size, 1, none⟩ = some (.int .i64 x) ∧ W.cell? ⟨w1.heap.size, 2, none⟩ = some (.int .i64 y)) (by kernel_rfl) (hkS _ hbz) (fun hHeld => ?_)
  generalize w2.drew = wz at hbz hHeld ⊢
  -- the region, step by step, in whatever order
  refine tkH 0 ⟨some 14, .load 25 (.tmp 2), 25, "ref.go:45", #[], none⟩ hHeld ?_
  refine tkH 1 ⟨some 15, .fieldAddr 132 (.tmp 5) 0, 0, "ref.go:45", #[], none⟩ hHeld ?_
  refine tkH 2 ⟨some 16, .load 3 (.tmp 15), 3, "ref.go:45", #[⟨1, .data⟩], none⟩ hHeld ?_
  refine tkH 5 ⟨some 19, .fieldAddr 132 (.tmp 5) 1, 0, "ref.go:45", #[], none⟩ hHeld ?_
  refine tkH 6 ⟨some 20, .load 130 (.tmp 19), 130, "ref.go:45", #[⟨5, .data⟩], none⟩ hHeld ?_
  refine wpAnyH_ready (rs := [3, 7]) (by kernel_rfl) (by simp) ?_
  refine (AllReadyH.cons (o := ⟨some 17, .call { callee := .value (.func 69), args := #[.tmp 14, .tmp 16], argTypes := #[25, 3] }, 46, "ref.go:45", #[⟨0, .data⟩, ⟨2, .data⟩], none⟩) rfl (fun K hK => ?_) (AllReadyH.cons (o := ⟨some 21, .buildSlice 46 1 #[(0, .tmp 20)], 46, "ref.go:45", #[⟨6, .data⟩], none⟩) rfl (fun K hK => ?_) AllReadyH.nil))
  ·rw [if_pos (by rfl)]
   go_simp
   refine (KT _ (fr_call hb12 hbz)).mono ?_
   rintro e' wz ⟨A1, d1, rfl, hnil, hO, hb1⟩
   replace hbz := fr_call hbz hb1
   (try replace hG := hG.keep hb1)
   refine hK.out _ _ (hkS _ hbz) (fun hHeld => ?_)
   clear hK K
   (try simp only [Act.put, List.setIfInBounds_toArray, List.set_cons_zero, List.set_cons_succ])
   refine wpAnyH_ready (rs := [4, 7]) (by kernel_rfl) (by simp) ?_
   refine (AllReadyH.cons (o := ⟨some 18, .call { callee := .builtin .append, args := #[.const (.slice none 0 0), .tmp 17], argTypes := #[46, 46] }, 46, "ref.go:45", #[⟨3, .data⟩, ⟨3, .chain⟩], none⟩) rfl (fun K hK => ?_) (AllReadyH.cons (o := ⟨some 21, .buildSlice 46 1 #[(0, .tmp 20)], 46, "ref.go:45", #[⟨6, .data⟩], none⟩) rfl (fun K hK => ?_) AllReadyH.nil))
   ·rw [if_pos (by rfl)]
    refine wp_app_pairs (.tmp 17) rfl w2.heap.size hbz.size ps A1 d1 rfl hnil hO.rd htl ?_
    intro A2 d2 wz hO2 hb1
    replace hbz := fr_call hbz hb1
    (try replace hG := hG.keep hb1)
    refine hK.out _ _ (hkS _ hbz) (fun hHeld => ?_)
    clear hK K
    (try simp only [Act.put, List.setIfInBounds_toArray, List.set_cons_zero, List.set_cons_succ])
    refine rdH 7 ⟨some 21, .buildSlice 46 1 #[(0, .tmp 20)], 46, "ref.go:45", #[⟨6, .data⟩], none⟩ fun K hK => ?_
    refine wp_build_pair rfl rfl ?_
    intro g wz hgz hG hb1
    replace hbz := fr_call hbz hb1
    (try replace hO := hO.keep hb1)
    (try replace hO2 := hO2.keep hb1)
    refine hK.out _ _ (hkS _ hbz) (fun hHeld => ?_)
    clear hK K
    (try simp only [Act.put, List.setIfInBounds_toArray, List.set_cons_zero, List.set_cons_succ])
    refine rdH 8 ⟨some 22, .call { callee := .builtin .append, args := #[.tmp 18, .tmp 21], argTypes := #[46, 46] }, 46, "ref.go:45", #[⟨4, .data⟩, ⟨7, .data⟩, ⟨4, .chain⟩], none⟩ fun K hK => ?_
    refine wp_app_row (.tmp 18) (.tmp 21) rfl Tryz.underlying46 info_pair rfl (by omega) (by omega) w2.heap.size _ _ rfl hO2 g rfl (r := Wh.cells ⟨x, y⟩) hG rfl (by intro u hu; simp only [Wh.cells, List.mem_cons, List.not_mem_nil, or_false] at hu; rcases hu with rfl | rfl <;> rfl) (by rw [List.length_map]; omega) (by have := hbz.size; omega) ?_
    intro A3 d3 wz hO3 hgr
    rw [List.length_map] at hO3 ⊢
    have hbf := hbz.grown hgr hbz.size hO2.ge
    refine hK.out _ _ (hkS _ hbf) (fun hHeld => ?_)
    clear hK K
    (try simp only [Act.put, List.setIfInBounds_toArray, List.set_cons_zero, List.set_cons_succ])
    refine tkH 9 ⟨some 4, .assign (.tmp 22), 46, "ref.go:45", #[⟨8, .data⟩, ⟨8, .chain⟩, ⟨0, .phase⟩, ⟨1, .phase⟩, ⟨2, .phase⟩, ⟨3, .phase⟩, ⟨4, .phase⟩, ⟨5, .phase⟩, ⟨6, .phase⟩, ⟨7, .phase⟩, ⟨8, .phase⟩], none⟩ hHeld ?_
    refine wpAnyH_done (by kernel_rfl) ?_ _
    refine NoPanic.normal ?_
    go_wp2_with fail
    go_ret
    rw [HT.out]
    unfold RetP0
    rw [List.length_append, List.map_append]
    exact ⟨A3, d3, rfl, (fun h => by simp at h), own_baseR hO3 (by omega), fr_call (fr_call hb0 hb12) hbf⟩
   ·rw [if_pos (by rfl)]
    refine wp_build_pair rfl rfl ?_
    intro g wz hgz hG hb1
    replace hbz := fr_call hbz hb1
    (try replace hO := hO.keep hb1)
    (try replace hO2 := hO2.keep hb1)
    refine hK.out _ _ (hkS _ hbz) (fun hHeld => ?_)
    clear hK K
    (try simp only [Act.put, List.setIfInBounds_toArray, List.set_cons_zero, List.set_cons_succ])
    refine rdH 4 ⟨some 18, .call { callee := .builtin .append, args := #[.const (.slice none 0 0), .tmp 17], argTypes := #[46, 46] }, 46, "ref.go:45", #[⟨3, .data⟩, ⟨3, .chain⟩], none⟩ fun K hK => ?_
    refine wp_app_pairs (.tmp 17) rfl w2.heap.size hbz.size ps A1 d1 rfl hnil hO.rd htl ?_
    intro A2 d2 wz hO2 hb1
    replace hbz := fr_call hbz hb1
    (try replace hG := hG.keep hb1)
    refine hK.out _ _ (hkS _ hbz) (fun hHeld => ?_)
    clear hK K
    (try simp only [Act.put, List.setIfInBounds_toArray, List.set_cons_zero, List.set_cons_succ])
    refine rdH 8 ⟨some 22, .call { callee := .builtin .append, args := #[.tmp 18, .tmp 21], argTypes := #[46, 46] }, 46, "ref.go:45", #[⟨4, .data⟩, ⟨7, .data⟩, ⟨4, .chain⟩], none⟩ fun K hK => ?_
    refine wp_app_row (.tmp 18) (.tmp 21) rfl Tryz.underlying46 info_pair rfl (by omega) (by omega) w2.heap.size _ _ rfl hO2 g rfl (r := Wh.cells ⟨x, y⟩) hG rfl (by intro u hu; simp only [Wh.cells, List.mem_cons, List.not_mem_nil, or_false] at hu; rcases hu with rfl | rfl <;> rfl) (by rw [List.length_map]; omega) (by have := hbz.size; omega) ?_
    intro A3 d3 wz hO3 hgr
    rw [List.length_map] at hO3 ⊢
    have hbf := hbz.grown hgr hbz.size hO2.ge
    refine hK.out _ _ (hkS _ hbf) (fun hHeld => ?_)
    clear hK K
    (try simp only [Act.put, List.setIfInBounds_toArray, List.set_cons_zero, List.set_cons_succ])
    refine tkH 9 ⟨some 4, .assign (.tmp 22), 46, "ref.go:45", #[⟨8, .data⟩, ⟨8, .chain⟩, ⟨0, .phase⟩, ⟨1, .phase⟩, ⟨2, .phase⟩, ⟨3, .phase⟩, ⟨4, .phase⟩, ⟨5, .phase⟩, ⟨6, .phase⟩, ⟨7, .phase⟩, ⟨8, .phase⟩], none⟩ hHeld ?_
    refine wpAnyH_done (by kernel_rfl) ?_ _
    refine NoPanic.normal ?_
    go_wp2_with fail
    go_ret
    rw [HT.out]
    unfold RetP0
    rw [List.length_append, List.map_append]
    exact ⟨A3, d3, rfl, (fun h => by simp at h), own_baseR hO3 (by omega), fr_call (fr_call hb0 hb12) hbf⟩
  ·rw [if_pos (by rfl)]
   refine wp_build_pair rfl rfl ?_
   intro g wz hgz hG hb1
   replace hbz := fr_call hbz hb1
   (try replace hO := hO.keep hb1)
   (try replace hO2 := hO2.keep hb1)
   refine hK.out _ _ (hkS _ hbz) (fun hHeld => ?_)
   clear hK K
   (try simp only [Act.put, List.setIfInBounds_toArray, List.set_cons_zero, List.set_cons_succ])
   refine rdH 3 ⟨some 17, .call { callee := .value (.func 69), args := #[.tmp 14, .tmp 16], argTypes := #[25, 3] }, 46, "ref.go:45", #[⟨0, .data⟩, ⟨2, .data⟩], none⟩ fun K hK => ?_
   go_simp
   refine (KT _ (fr_call hb12 hbz)).mono ?_
   rintro e' wz ⟨A1, d1, rfl, hnil, hO, hb1⟩
   replace hbz := fr_call hbz hb1
   (try replace hG := hG.keep hb1)
   refine hK.out _ _ (hkS _ hbz) (fun hHeld => ?_)
   clear hK K
   (try simp only [Act.put, List.setIfInBounds_toArray, List.set_cons_zero, List.set_cons_succ])
   refine rdH 4 ⟨some 18, .call { callee := .builtin .append, args := #[.const (.slice none 0 0), .tmp 17], argTypes := #[46, 46] }, 46, "ref.go:45", #[⟨3, .data⟩, ⟨3, .chain⟩], none⟩ fun K hK => ?_
   refine wp_app_pairs (.tmp 17) rfl w2.heap.size hbz.size ps A1 d1 rfl hnil hO.rd htl ?_
   intro A2 d2 wz hO2 hb1
   replace hbz := fr_call hbz hb1
   (try replace hG := hG.keep hb1)
   refine hK.out _ _ (hkS _ hbz) (fun hHeld => ?_)
   clear hK K
   (try simp only [Act.put, List.setIfInBounds_toArray, List.set_cons_zero, List.set_cons_succ])
   refine rdH 8 ⟨some 22, .call { callee := .builtin .append, args := #[.tmp 18, .tmp 21], argTypes := #[46, 46] }, 46, "ref.go:45", #[⟨4, .data⟩, ⟨7, .data⟩, ⟨4, .chain⟩], none⟩ fun K hK => ?_
   refine wp_app_row (.tmp 18) (.tmp 21) rfl Tryz.underlying46 info_pair rfl (by omega) (by omega) w2.heap.size _ _ rfl hO2 g rfl (r := Wh.cells ⟨x, y⟩) hG rfl (by intro u hu; simp only [Wh.cells, List.mem_cons, List.not_mem_nil, or_false] at hu; rcases hu with rfl | rfl <;> rfl) (by rw [List.length_map]; omega) (by have := hbz.size; omega) ?_
   intro A3 d3 wz hO3 hgr
   rw [List.length_map] at hO3 ⊢
   have hbf := hbz.grown hgr hbz.size hO2.ge
   refine hK.out _ _ (hkS _ hbf) (fun hHeld => ?_)
   clear hK K
   (try simp only [Act.put, List.setIfInBounds_toArray, List.set_cons_zero, List.set_cons_succ])
   refine tkH 9 ⟨some 4, .assign (.tmp 22), 46, "ref.go:45", #[⟨8, .data⟩, ⟨8, .chain⟩, ⟨0, .phase⟩, ⟨1, .phase⟩, ⟨2, .phase⟩, ⟨3, .phase⟩, ⟨4, .phase⟩, ⟨5, .phase⟩, ⟨6, .phase⟩, ⟨7, .phase⟩, ⟨8, .phase⟩], none⟩ hHeld ?_
   refine wpAnyH_done (by kernel_rfl) ?_ _
   refine NoPanic.normal ?_
   go_wp2_with fail
   go_ret
   rw [HT.out]
   unfold RetP0
   rw [List.length_append, List.map_append]
   exact ⟨A3, d3, rfl, (fun h => by simp at h), own_baseR hO3 (by omega), fr_call (fr_call hb0 hb12) hbf⟩
end Go.Proofs.YtdocgmafbacjcaaGreatDoor
end

section
namespace Go.Proofs.YtdocgmafbacjcaaGreatDoor
open Go.RowKit Go.Shelf

/-- a link of any numbers -/
def LiC (x : Int × Int × Int) : List Value := [.int .i64 x.1, .int .i64 x.2.1, .int .i64 x.2.2]
/-- the first links are as defined -/
structure UpTo (rows : List (Int × Int × Int)) (j : Nat) (ls : List Lk) : Prop where
 eq : ls.map Lk.cells = (rows.take j).map LiC
 ok : LksOk ls
 teeth : ∀ l ∈ ls, (4 ≤ l.pr.lo ∧ l.pr.lo ≤ 60) ∧ 4 ≤ l.pr.hi ∧ l.pr.hi ≤ 60
 far : ∀ l ∈ ls, (pathL ls l.fr).length < 3
theorem lkUp_nil (rows : List (Int × Int × Int)) : UpTo rows 0 [] := ⟨by simp, (fun i l h => by simp at h), (fun l h => by cases h), (fun l h => by cases h)⟩
theorem UpTo.len {rows : List (Int × Int × Int)} {j : Nat} {ls : List Lk} (h : UpTo rows j ls) (hj : j ≤ rows.length) : ls.length = j := by
 have := congrArg List.length h.eq
 simp at this
 omega
def nextLk (x y z : Int) : Lk := ⟨x.toNat, ⟨y, z⟩⟩
theorem UpTo.more {rows : List (Int × Int × Int)} {j : Nat} {ls : List Lk} {x y z : Int} (h : UpTo rows j ls) (hj : rows[j]? = some (x, y, z)) (hx : 0 ≤ x ∧ x ≤ (j : Int)) :
  (ls ++ [nextLk x y z]).map Lk.cells = (rows.take (j + 1)).map LiC ∧ LksOk (ls ++ [nextLk x y z]) := by
 have hjl : j < rows.length := (List.getElem?_eq_some_iff.1 hj).1
 have hl := h.len (by omega)
 constructor
 ·rw [List.map_append, h.eq, List.take_succ_eq_append_getElem hjl, List.map_append, (List.getElem?_eq_some_iff.1 hj).2]
  have hc : Lk.cells (nextLk x y z) = LiC (x, y, z) := by
   have e : ((x.toNat : Nat) : Int) = x := by omega
   unfold Lk.cells nextLk LiC
   simp only [e]
  simp only [List.map_cons, List.map_nil, hc]
 ·intro i l hi
  by_cases h1 : i < ls.length
  ·rw [List.getElem?_append_left h1] at hi
   exact h.ok i l hi
  ·rw [List.getElem?_append_right (by omega)] at hi
   obtain ⟨h2, rfl⟩ : i - ls.length = 0 ∧ nextLk x y z = l := by
    cases hk : i - ls.length with
    | zero => rw [hk] at hi; exact ⟨rfl, by simpa using hi⟩
    | succ k => rw [hk] at hi; simp at hi
   show x.toNat ≤ i
   omega
theorem path_app {ls : List Lk} {l : Lk} (h : LksOk (ls ++ [l])) {a : Nat} (ha : a ≤ ls.length) : pathL (ls ++ [l]) a = pathL ls a := by
 have := pathL_take h ls.length a ha (by simp)
 rw [List.take_left' rfl] at this
 exact this.symm
theorem UpTo.next {rows : List (Int × Int × Int)} {j : Nat} {ls : List Lk} {x y z : Int} (h : UpTo rows j ls) (hj : rows[j]? = some (x, y, z)) (hx : 0 ≤ x ∧ x ≤ (j : Int)) (hy : 4 ≤ y ∧ y ≤ 60) (hz : 4 ≤ z ∧ z ≤ 60)
  (ht : (trainL (ls ++ [nextLk x y z]) (j + 1)).length ≤ 3) : UpTo rows (j + 1) (ls ++ [nextLk x y z]) := by
 have hjl : j < rows.length := (List.getElem?_eq_some_iff.1 hj).1
 have hl := h.len (by omega)
 have hm := h.more hj hx
 have hg : (ls ++ [nextLk x y z])[j]? = some (nextLk x y z) := by rw [← hl]; simp
 rw [trainL_succ hm.2 hg, List.length_append, trainL, List.length_map] at ht
 refine ⟨hm.1, hm.2, fun l hl' => ?_, fun l hl' => ?_⟩
 ·rcases List.mem_append.1 hl' with h1 | h1
  ·exact h.teeth l h1
  ·rw [List.mem_singleton.1 h1]; exact ⟨hy, hz⟩
 ·rcases List.mem_append.1 hl' with h1 | h1
  ·obtain ⟨i, hi, rfl⟩ := List.getElem_of_mem h1
   have := h.ok i _ (List.getElem?_eq_getElem hi)
   rw [path_app hm.2 (by omega)]
   exact h.far _ h1
  ·rw [List.mem_singleton.1 h1]
   simp at ht
   omega
theorem UpTo.all {rows : List (Int × Int × Int)} {ls : List Lk} {hs : List Int} (h : UpTo rows rows.length ls) (hn : 1 ≤ rows.length ∧ rows.length ≤ 5) (hm : 1 ≤ hs.length ∧ hs.length ≤ 4) (hh : ∀ x ∈ hs, 1 ≤ x ∧ x ≤ (rows.length : Int)) : ls.map Lk.cells = rows.map LiC ∧ ShopOk ls hs := by
 have hl := h.len (Nat.le_refl _)
 refine ⟨by rw [h.eq, List.take_length], ⟨by omega, hm, h.ok, h.teeth, h.far, by rw [hl]; exact hh⟩⟩
set_option maxRecDepth 100000 in
set_option maxHeartbeats 8000000 in
theorem rPiece_any (A H : Option Addr) (n c m hc : Nat) (rows : List (Int × Int × Int)) (hs : List Int) (w : World) (hr : RdS w A 3 (rows.map LiC)) (hn : rows.length = n) (hh : Rd w H m hs) (hn2 : n ≤ 1000) (hm2 : m ≤ 1000) :
  Calls Tryz.prog 13 #[.agg #[.slice A n c, .slice H m hc]] w (RetB w (∃ ls, ls.map Lk.cells = rows.map LiC ∧ ShopOk ls hs)) := by
 have hb0 := fr_alloc (fr_refl w) (.cells #[.slice A n c, .slice H m hc] 25)
 have hX := Blk.new w 25 #[.slice A n c, .slice H m hc]
 obtain ⟨w1, hw1⟩ : ∃ w1, w.alloc (.cells #[.slice A n c, .slice H m hc] 25) = w1 := ⟨_, rfl⟩
 rw [hw1] at hb0 hX
 replace hr := hr.keep hb0
 replace hh := hh.keep hb0
 have hs0 := hb0.size
 have hcX := fun j => hX.cell j
 have no : ∀ (W : World), Below w1.heap.size w1 W → RetB w (∃ ls, ls.map Lk.cells = rows.map LiC ∧ ShopOk ls hs) (.returned (.bool false)) W := fun W hb => ⟨false, rfl, (fun h => by cases h), fr_call hb0 hb⟩
 have HNO := Lib.hid no
 have HN := Lib.hid hn
 have HH := Lib.hid hh.len
 clear no hn
 go_enter Tryz.func13, Tryz.ntmps13
 go_upto_region 1 with (fail)
 (try rw [hw1])
 clear hw1
 cases hi1 : inB (n : Int) 1 5 with
 | false =>
  go_wp2_with fail
  refine (ref9.in_is _ _ _ _ _ hi1).mono ?_
  rintro e w' ⟨rfl, rfl⟩
  go_wp2_with fail
  go_ret
  exact HNO.out _ (fr_refl _)
 | true =>
 cases hi2 : inB (m : Int) 1 4 with
 | false =>
  go_wp2_with fail
  refine (ref9.in_is _ _ _ _ _ hi1).mono ?_
  rintro e w' ⟨rfl, rfl⟩
  go_wp2_with fail
  refine (ref9.in_is _ _ _ _ _ hi2).mono ?_
  rintro e w' ⟨rfl, rfl⟩
  go_wp2_with fail
  go_ret
  exact HNO.out _ (fr_refl _)
 | true =>
 have HI1 := Lib.hid (of_decide_eq_true hi1)
 have HI2 := Lib.hid (of_decide_eq_true hi2)
 go_wp2_with fail
 refine (ref9.in_is _ _ _ _ _ hi1).mono ?_
 rintro e w' ⟨rfl, rfl⟩
 go_wp2_with fail
 refine (ref9.in_is _ _ _ _ _ hi2).mono ?_
 rintro e w' ⟨rfl, rfl⟩
 go_wp2_with fail
 go_loopw [3] (fun u wr => ∃ (j : Nat) (ls : List Lk), j ≤ n ∧ u = .int .i64 j ∧ UpTo rows j ls ∧ Below w1.heap.size w1 wr) (fun u _ => n - (intOf u).toNat)
 case atStart => exact ⟨0, [], Nat.zero_le _, rfl, lkUp_nil _, fr_refl _⟩
 case round =>
  obtain ⟨j, ls, hj, rfl, hU, hbr⟩ := hrel
  have hXr := hX.keep hbr
  have hcXr := fun j => hXr.cell j
  clear hcX
  by_cases hlt : j < n
  ·have hjl : j < rows.length := by have := HN.out; omega
   obtain ⟨⟨x, y, z⟩, hx⟩ : ∃ f, rows[j]? = some f := ⟨rows[j], List.getElem?_eq_getElem hjl⟩
   have hll := hU.len (by omega)
   have hrr := hr.keep hbr
   obtain ⟨ad, rfl, hab, h0, h1⟩ := hrr.nth (i := j) (r := LiC (x, y, z)) (by simp [hx])
   have c0 := h0 _ rfl
   have c1 := h1 0 _ rfl
   have c2 := h1 1 _ rfl
   simp only [Nat.zero_add, Nat.reduceAdd] at c1 c2
   have i1 : (j : Int) < (n : Int) := by omega
   have i2 : (0 : Int) ≤ (j : Int) := Int.natCast_nonneg j
   have i3 : IntKind.i64.wrap ((j : Int) + 1) = ((j + 1 : Nat) : Int) := by rw [IntWalk.i64_in _ (by omega)]; omega
   have HU := Lib.hid hU
   have HX := Lib.hid hx
   clear h0 h1 hU hx
   cases hx1 : inB x 0 (j : Int) with
   | false =>
    clear hrr hr
    go_wp2_with fail
    refine (ref9.in_is _ _ _ _ _ hx1).mono ?_
    rintro e w' ⟨rfl, rfl⟩
    go_wp2_with fail
    go_ret
    exact HNO.out _ hbr
   | true =>
   have hxb := of_decide_eq_true hx1
   cases hx2 : (inB y 4 60 && inB z 4 60) with
   | false =>
    clear hrr hr
    go_wp2_with fail
    refine (ref9.in_is _ _ _ _ _ hx1).mono ?_
    rintro e w' ⟨rfl, rfl⟩
    go_wp2_with fail
    refine (rPair_is _ _ _ _ hx2).mono ?_
    rintro e w2 ⟨rfl, hb2⟩
    go_wp2_with fail
    go_ret
    exact HNO.out _ (fr_call hbr hb2)
   | true =>
   have hyz := Bool.and_eq_true_iff.1 hx2
   have hyb := of_decide_eq_true hyz.1
   have hzb := of_decide_eq_true hyz.2
   have hmo := HU.out.more HX.out hxb
   have hlen2 : (ls ++ [nextLk x y z]).length = j + 1 := by simp [hll]
   have KT := fun W (hb : Below w1.heap.size w1 W) => rTrain_any (some ad) H n c m hc (ls ++ [nextLk x y z]) hmo.2 (by omega) hn2 (j + 1) W (by omega) (by rw [hmo.1, List.map_take]; exact (hr.keep hb).takeS _)
   have HNX := Lib.hid (fun h => HU.out.next HX.out hxb hyb hzb h)
   have HT3 := Lib.hid hlen2
   clear hrr hr hmo hyz hlen2 hxb hyb hzb hll
   go_wp2_with fail
   refine (ref9.in_is _ _ _ _ _ hx1).mono ?_
   rintro e w' ⟨rfl, rfl⟩
   go_wp2_with fail
   refine (rPair_is _ _ _ _ hx2).mono ?_
   rintro e w2 ⟨rfl, hb2⟩
   replace hb2 := fr_call hbr hb2
   have hX2 := hX.keep hb2
   have hcX2 := fun j => hX2.cell j
   clear hcXr c0 c1 c2
   go_wp2_with fail
   refine (KT _ hb2).mono ?_
   rintro e w3 ⟨A3, d3, rfl, _, _, hb3⟩
   replace hb3 := fr_call hb2 hb3
   clear KT
   obtain ⟨tl, htl⟩ : ∃ tl, (trainL (ls ++ [nextLk x y z]) (j + 1)).length = tl := ⟨_, rfl⟩
   have HTL := Lib.hid htl
   rw [htl]
   clear htl
   by_cases h3 : tl ≤ 3
   ·have k1 : decide ((3 : Int) < (tl : Int)) = false := decide_eq_false (by omega)
    go_wp2_with fail
    refine ⟨⟨j + 1, _, hlt, by go_num, HNX.out (by rw [HTL.out]; exact h3), hb3⟩, ?_⟩
    simp [intOf]; omega
   ·have k1 : decide ((3 : Int) < (tl : Int)) = true := decide_eq_true (by omega)
    go_wp2_with fail
    go_ret
    exact HNO.out _ hb3
  ·obtain rfl : j = n := by omega
   have HU := Lib.hid hU
   clear hU hr
   go_wp2_with fail
   go_loopw [4] (fun u wr => ∃ i : Nat, i ≤ m ∧ u = .int .i64 i ∧ (∀ x ∈ hs.take i, 1 ≤ x ∧ x ≤ (j : Int)) ∧ Below w1.heap.size w1 wr) (fun u _ => m - (intOf u).toNat)
   case atStart => exact ⟨0, Nat.zero_le _, rfl, (fun x h => by cases h), hbr⟩
   case round =>
    obtain ⟨i, hi, rfl, hall, hbq⟩ := hrel
    have hXq := hX.keep hbq
    have hcXq := fun j => hXq.cell j
    clear hcXr
    by_cases hlt2 : i < m
    ·have hil : i < hs.length := by have := HH.out; omega
     obtain ⟨ad, rfl, hab, hc0⟩ := (hh.keep hbq).at_ hlt2
     have HT := Lib.hid (show hs.take (i + 1) = hs.take i ++ [hs[i]?.getD 0] from take_snoc' hs i hil)
     generalize hs[i]?.getD 0 = x at *
     have j1 : (i : Int) < (m : Int) := by omega
     have j2 : (0 : Int) ≤ (i : Int) := Int.natCast_nonneg i
     have j3 : IntKind.i64.wrap ((i : Int) + 1) = ((i + 1 : Nat) : Int) := by rw [IntWalk.i64_in _ (by omega)]; omega
     have HA := Lib.hid hall
     clear hall hh
     obtain ⟨bx, hbx⟩ : ∃ b, inB x 1 (j : Int) = b := ⟨_, rfl⟩
     have hbz := fr_drew (fr_refl wr)
     have hkS : ∀ W, Below wr.heap.size wr W → (W.cell? ⟨w.heap.size, 0, none⟩ = some (.slice A j c) ∧ W.cell? ⟨w.heap.size, 1, none⟩ = some (.slice (some ad) m hc)) ∧ W.cell? (ad.add i) = some (.int .i64 x) := fun W hb => ⟨⟨(hXq.keep hb).cell 0, (hXq.keep hb).cell 1⟩, (hb.cell (by rw [block_of_add]; exact hab)).trans hc0⟩
     go_wp2_with fail
     clear hcXq
     refine wp_region_noPanic ?_
     refine wp_region_held_drew (S := fun W => (W.cell? ⟨w.heap.size, 0, none⟩ = some (.slice A j c) ∧ W.cell? ⟨w.heap.size, 1, none⟩ = some (.slice (some ad) m hc)) ∧ W.cell? (ad.add i) = some (.int .i64 x)) (by kernel_rfl) (hkS _ hbz) (fun hHeld => ?_)
     generalize wr.drew = wz at hbz hHeld ⊢
     -- the region, step by step, in whatever order
     refine tkH 0 ⟨some 58, .load 25 (.tmp 1), 25, "ref.go:59", #[], none⟩ hHeld ?_
     refine tkH 1 ⟨some 59, .fieldAddr 25 (.tmp 1) 1, 0, "ref.go:59", #[], none⟩ hHeld ?_
     refine tkH 2 ⟨some 60, .load 23 (.tmp 59), 23, "ref.go:59", #[⟨1, .data⟩], none⟩ hHeld ?_
     refine tkH 3 ⟨some 61, .move (.tmp 4), 3, "ref.go:59", #[], none⟩ hHeld ?_
     refine tkH 4 ⟨some 62, .indexAddr 23 (.tmp 60) (.tmp 61), 0, "ref.go:59", #[⟨2, .data⟩, ⟨3, .data⟩], none⟩ hHeld ?_
     refine tkH 5 ⟨some 63, .load 3 (.tmp 62), 3, "ref.go:59", #[⟨4, .data⟩], none⟩ hHeld ?_
     refine rdH 6 ⟨some 64, .call { callee := .value (.func 70), args := #[.tmp 58, .tmp 63], argTypes := #[25, 3] }, 4, "ref.go:59", #[⟨0, .data⟩, ⟨5, .data⟩], none⟩ fun K hK => ?_
     go_simp
     refine (rArbor_is A (some ad) j c m hc x _ bx hbx).mono ?_
     rintro e' wz ⟨rfl, hb1⟩
     replace hbz := fr_call hbz hb1
     refine hK.out _ _ (hkS _ hbz) (fun hHeld => ?_)
     clear hK K
     (try simp only [Act.put, List.setIfInBounds_toArray, List.set_cons_zero, List.set_cons_succ])
     refine tkH 7 ⟨some 65, .unOp .not 4 (.tmp 64), 4, "ref.go:59", #[⟨6, .data⟩], none⟩ hHeld ?_
     refine wpAnyH_done (by kernel_rfl) ?_ _
     refine NoPanic.normal ?_
     replace hbz := fr_call hbq hbz
     cases bx with
     | false =>
      go_wp2_with fail
      go_ret
      exact HNO.out _ hbz
     | true =>
      have hxb := of_decide_eq_true hbx
      go_wp2_with fail
      go_roundw
      case rel =>
       refine ⟨i + 1, hlt2, by go_num, fun u hu => ?_, hbz⟩
       rw [HT.out] at hu
       rcases List.mem_append.1 hu with h | h
       ·exact HA.out u h
       ·rw [List.mem_singleton.1 h]; exact hxb
      case measure => simp [intOf]; omega
    ·obtain rfl : i = m := by omega
     have HA := Lib.hid hall
     clear hall hh
     go_wp2_with fail
     go_ret
     refine ⟨true, rfl, fun _ => ⟨ls, ?_⟩, fr_call hb0 hbq⟩
     have e1 := HN.out
     have e2 := HH.out
     have e3 := HI1.out
     have e4 := HI2.out
     have hU := HU.out
     rw [← e1] at hU
     refine hU.all (by omega) (by omega) ?_
     have h := HA.out
     rw [List.take_of_length_le (by omega), ← e1] at h
     exact h
end Go.Proofs.YtdocgmafbacjcaaGreatDoor
end
