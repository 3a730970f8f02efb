/- Walk: the fact of a row (by gen_fact.py). -/
import Derived.Test.YthjblcboainknaaGreatDoorMT1
namespace Go.Proofs.YthjblcboainknaaGreatDoor
open Go.RowKit Dl

theorem cut_is (c : UInt8) (l : List UInt8) (w : World) (hl : l.length ≤ 1000000) (hM : MaxP w) :
  Calls Tryz.prog 110 #[.string ⟨l.toArray⟩, .string ⟨#[c]⟩] w fun e w' => ∃ x b, e = .returned (.tuple #[.string ⟨((pieces c l).headD []).toArray⟩, .string x, .bool b]) ∧ Below w.heap.size w w' := by
 obtain ⟨m, hm⟩ := hM
 have hs : (⟨l.toArray⟩ : ByteArray).size = l.length := by show l.toArray.size = _; simp
 refine (Tryz.strings_Cut ⟨l.toArray⟩ ⟨#[c]⟩ m w (by rw [hs]; omega) hm).mono ?_
 rintro e w' ⟨rfl, n, rfl⟩
 rw [← cut_head]
 exact ⟨_, _, rfl, fr_drewN (fr_refl w) n⟩
def needN (k : Nat) : Nat := if k ≤ 2 then 3 else if k = 3 then 2 else 1
def FitsK (hd : List UInt8) (n k : Nat) : Prop := hd = wordB (k + 1) ∧ n = needN k
theorem word_inj {i j : Nat} (hi : i ≤ 5) (hj : j ≤ 5) (h1 : 1 ≤ i) (h2 : 1 ≤ j) (h : wordB (i + 1) = wordB (j + 1)) : i = j := by
 have a : i = 1 ∨ i = 2 ∨ i = 3 ∨ i = 4 ∨ i = 5 := by omega
 have b : j = 1 ∨ j = 2 ∨ j = 3 ∨ j = 4 ∨ j = 5 := by omega
 rcases a with rfl | rfl | rfl | rfl | rfl <;> rcases b with rfl | rfl | rfl | rfl | rfl <;> first | rfl | (exfalso; revert h; decide)
theorem factOf_none {hd : List UInt8} {xs : List Int} (h : ∀ i, 1 ≤ i → i < 6 → ¬ FitsK hd xs.length i) : factOf hd xs = none := by
 unfold factOf
 rw [if_neg (fun e => h 1 (by omega) (by omega) ⟨e.1, e.2⟩), if_neg (fun e => h 2 (by omega) (by omega) ⟨e.1, e.2⟩), if_neg (fun e => h 3 (by omega) (by omega) ⟨e.1, e.2⟩), if_neg (fun e => h 4 (by omega) (by omega) ⟨e.1, e.2⟩), if_neg (fun e => h 5 (by omega) (by omega) ⟨e.1, e.2⟩)]
theorem factOf_1 {xs : List Int} (h : xs.length = 3) : factOf (wordB 2) xs = some ⟨1, xs[0]?.getD 0, xs[1]?.getD 0, xs[2]?.getD 0⟩ := by unfold factOf; rw [if_pos ⟨rfl, h⟩]
theorem factOf_2 {xs : List Int} (h : xs.length = 3) : factOf (wordB 3) xs = some ⟨2, xs[0]?.getD 0, xs[1]?.getD 0, xs[2]?.getD 0⟩ := by unfold factOf; rw [if_neg (fun e => absurd e.1 (by decide)), if_pos ⟨rfl, h⟩]
theorem factOf_3 {xs : List Int} (h : xs.length = 2) : factOf (wordB 4) xs = some ⟨3, xs[0]?.getD 0, xs[1]?.getD 0, 0⟩ := by unfold factOf; rw [if_neg (fun e => absurd e.1 (by decide)), if_neg (fun e => absurd e.1 (by decide)), if_pos ⟨rfl, h⟩]
theorem factOf_4 {xs : List Int} (h : xs.length = 1) : factOf (wordB 5) xs = some ⟨4, 0, 0, xs[0]?.getD 0⟩ := by unfold factOf; rw [if_neg (fun e => absurd e.1 (by decide)), if_neg (fun e => absurd e.1 (by decide)), if_neg (fun e => absurd e.1 (by decide)), if_pos ⟨rfl, h⟩]
theorem factOf_5 {xs : List Int} (h : xs.length = 1) : factOf (wordB 6) xs = some ⟨5, 0, 0, xs[0]?.getD 0⟩ := by unfold factOf; rw [if_neg (fun e => absurd e.1 (by decide)), if_neg (fun e => absurd e.1 (by decide)), if_neg (fun e => absurd e.1 (by decide)), if_neg (fun e => absurd e.1 (by decide)), if_pos ⟨rfl, h⟩]
/-- what fact returns, or that it gives up -/
def FactPost (l : List UInt8) (w : World) (e : Ending) (w' : World) : Prop :=
 (∃ f : Fact, factB l = some f ∧ e = .returned (.agg #[.int .i64 f.k, .int .i64 f.m, .int .i64 f.d, .int .i64 f.v]) ∧ Below w.heap.size w w') ∨ (factB l = none ∧ Gave w e w')
set_option maxRecDepth 100000 in
set_option maxHeartbeats 16000000 in
theorem fact_any (l : List UInt8) (w : World) (hl : l.length ≤ 1000) (hM : MaxP w) (hT : TabP w) :
  Calls Tryz.prog 87 #[.string ⟨l.toArray⟩] w fun e w' => FactPost l w e w' := by
 have g1 := fr_alloc (fr_refl w) (.cells #[.int .i64 0, .int .i64 0, .int .i64 0, .int .i64 0] 69)
 have hR0 : Blk (w.alloc (.cells #[.int .i64 0, .int .i64 0, .int .i64 0, .int .i64 0] 69)) w.heap.size 69 #[.int .i64 0, .int .i64 0, .int .i64 0, .int .i64 0] := Blk.new w _ _
 have hcu := cut_is 32 l _ (by omega) (hM.keep g1)
 obtain ⟨hd, ghd⟩ : ∃ hd, (pieces 32 l).headD [] = hd := ⟨_, rfl⟩
 rw [ghd] at hcu
 have HHD := Lib.hid (show headB l = hd from ghd)
 clear ghd
 go_enter Tryz.func87, Tryz.ntmps87
 go_wp2_with fail
 refine hcu.mono ?_
 clear hcu
 rintro e' w1 ⟨x1, b1, rfl, hb1⟩
 have hf1 := fr_call g1 hb1
 go_wp2_with fail
 refine (told_any l _ hl (hM.keep hf1) (hT.keep hf1)).mono ?_
 have hR1 := hR0.keep hb1
 have hR0l : w.heap.size < w1.heap.size := hR1.lt
 clear hR0 g1 hb1
 rintro e' w2 ht
 rcases ht with ⟨xs, A, c, hts, rfl, hrX, hcap, hfrX, hb2⟩ | ⟨htn, s, rfl, hb2⟩
 ·have hR := hR1.keep hb2
  have hf2 := fr_call hf1 hb2
  have HTS := Lib.hid (show factB l = factOf hd xs by unfold factB; rw [hts]; simp only; rw [HHD.out])
  have hlX := hrX.len
  clear hts hR1 hb2
  generalize hnx : xs.length = n at *
  have HNX := Lib.hid hnx
  clear hnx hlX
  go_wp2_with fail
  go_loopw [7] (fun i wx => ∃ k : Nat, 1 ≤ k ∧ k ≤ 6 ∧ i = .int .i64 k ∧ (∀ i, 1 ≤ i → i < k → ¬ FitsK hd n i) ∧ Below w2.heap.size w2 wx) (fun i _ => 6 - (intOf i).toNat)
  case atStart => exact ⟨1, Nat.le_refl _, by omega, rfl, fun i h1 h2 => absurd h2 (by omega), fr_refl _⟩
  case round =>
   obtain ⟨k, hk1, hk6, rfl, hno, hbel⟩ := hrel
   have HNO := Lib.hid hno
   clear hno
   have hk : k = 1 ∨ k = 2 ∨ k = 3 ∨ k = 4 ∨ k = 5 ∨ k = 6 := by omega
   clear hk1 hk6
   rcases hk with rfl | rfl | rfl | rfl | rfl | rfl
   ·by_cases hw : hd = wordB 2
    ·have hwb : (wordB 2 == hd) = true := by rw [hw]; exact beq_self_eq_true _
     have HW := Lib.hid hw
     clear hw
     by_cases hn : n = 3
     ·have hnb : ((n : Int) == 3) = true := beq_iff_eq.2 (by omega)
      have HN := Lib.hid hn
      have hpos : 0 < n := by omega
      obtain ⟨ad, rfl, hab, hc0⟩ := (hrX.keep hbel).at_ hpos
      obtain ⟨ad1, e1, _, hc1⟩ := (hrX.keep hbel).at_ (show 1 < n by omega)
      obtain rfl : ad = ad1 := by injection e1
      obtain ⟨ad2, e2, _, hc2⟩ := (hrX.keep hbel).at_ (show 2 < n by omega)
      obtain rfl : ad = ad2 := by injection e2
      obtain ⟨v0, gv0⟩ : ∃ v, xs[0]?.getD 0 = v := ⟨_, rfl⟩
      rw [gv0] at hc0
      have GV0 := Lib.hid gv0
      clear gv0
      obtain ⟨v1, gv1⟩ : ∃ v, xs[1]?.getD 0 = v := ⟨_, rfl⟩
      rw [gv1] at hc1
      have GV1 := Lib.hid gv1
      clear gv1
      obtain ⟨v2, gv2⟩ : ∃ v, xs[2]?.getD 0 = v := ⟨_, rfl⟩
      rw [gv2] at hc2
      have GV2 := Lib.hid gv2
      clear gv2
      have hz : ad.add 0 = ad := by unfold Addr.add; simp
      rw [hz] at hc0
      clear hz e1 e2 hn
      have hi0 : (0 : Int) < (n : Int) := by have := HN.out; omega
      have hi1 : (1 : Int) < (n : Int) := by have := HN.out; omega
      have hi2 : (2 : Int) < (n : Int) := by have := HN.out; omega
      have HF := Lib.hid (show factB l = some ⟨1, v0, v1, v2⟩ by rw [HTS.out, HW.out, factOf_1 (HNX.out.trans HN.out), GV0.out, GV1.out, GV2.out])
      go_wp2_with fail
      refine (words_is _).mono ?_
      rintro e' w3 ⟨rfl, hb3⟩
      go_wp2_with fail
      refine (kindLine_is 1 _ (by omega) (by omega)).mono ?_
      rintro e' w4 ⟨rfl, rfl⟩
      have hix := word_ix2
      go_wp2_with fail
      have hf3 := fr_call hbel hb3
      replace hc0 := (hb3.cell (by exact hab)).trans hc0
      replace hc1 := (hb3.cell (by rw [block_of_add]; exact hab)).trans hc1
      replace hc2 := (hb3.cell (by rw [block_of_add]; exact hab)).trans hc2
      replace hab := Nat.lt_of_lt_of_le hab hb3.size
      have hR3 := hR.keep hf3
      have hab1 : (ad.add 1).block < w3.heap.size := by rw [block_of_add]; exact hab
      have hs1 := hc1
      rw [show ad.add 1 = ⟨ad.block, ad.off + 1, none⟩ by unfold Addr.add; simp] at hs1
      have hab2 : (ad.add 2).block < w3.heap.size := by rw [block_of_add]; exact hab
      have hs2 := hc2
      rw [show ad.add 2 = ⟨ad.block, ad.off + 2, none⟩ by unfold Addr.add; simp] at hs2
      have hne : ¬ ad.block = w.heap.size := by have := hfrX ad rfl; have := hf1.size; have := hR0l; omega
      refine wp_region_noPanic ?_
      refine wp_region_held_drew (S := fun W => (∀ p : Addr, ¬ p.block = w.heap.size → p.block < w3.heap.size → W.cell? p = w3.cell? p) ∧ w3.grownBy W (some w.heap.size)) (by kernel_rfl) ⟨fun _ _ _ => rfl, grown_below (World.grownBy.refl w3 _) (fr_drew (fr_refl _))⟩ (fun hHeld => ?_)
      -- the region, step by step
      refine wpAnyH_take (i := 0) (oi := ⟨some 34, .move (.tmp 7), 67, "text.go:103", #[], none⟩) (v := ?_) rfl (by kernel_rfl) (by kernel_rfl) (by kernel_rfl) (fun _ _ _ h => h) (Or.inl ⟨by rfl, fun W hSw => ?_⟩) hHeld ?_
      rotate_left
      ·(try dsimp only at hSw); go_simp; (try with_reducible rfl)
      (try simp only [Act.put, List.setIfInBounds_toArray, List.set_cons_zero, List.set_cons_succ])
      refine wpAnyH_take (i := 1) (oi := ⟨some 35, .move (.tmp 6), 22, "text.go:103", #[], none⟩) (v := ?_) rfl (by kernel_rfl) (by kernel_rfl) (by kernel_rfl) (fun _ _ _ h => h) (Or.inl ⟨by rfl, fun W hSw => ?_⟩) hHeld ?_
      rotate_left
      ·(try dsimp only at hSw); go_simp; (try with_reducible rfl)
      (try simp only [Act.put, List.setIfInBounds_toArray, List.set_cons_zero, List.set_cons_succ])
      refine wpAnyH_take (i := 2) (oi := ⟨some 36, .indexAddr 22 (.tmp 35) (.const (.int .i64 0)), 0, "text.go:103", #[⟨1, .data⟩], none⟩) (v := ?_) rfl (by kernel_rfl) (by kernel_rfl) (by kernel_rfl) (fun _ _ _ h => h) (Or.inl ⟨by rfl, fun W hSw => ?_⟩) hHeld ?_
      rotate_left
      ·(try dsimp only at hSw); go_simp; (try with_reducible rfl)
      (try simp only [Act.put, List.setIfInBounds_toArray, List.set_cons_zero, List.set_cons_succ])
      refine wpAnyH_take (i := 3) (oi := ⟨some 37, .load 3 (.tmp 36), 3, "text.go:103", #[⟨2, .data⟩], none⟩) (v := ?_) rfl (by kernel_rfl) (by kernel_rfl) (by kernel_rfl) (fun _ _ _ h => h) (Or.inl ⟨by rfl, fun W hSw => ?_⟩) hHeld ?_
      rotate_left
      ·(try dsimp only at hSw); go_simp; (try with_reducible rfl)
      (try simp only [Act.put, List.setIfInBounds_toArray, List.set_cons_zero, List.set_cons_succ])
      refine wpAnyH_take (i := 4) (oi := ⟨some 38, .move (.tmp 6), 22, "text.go:103", #[], none⟩) (v := ?_) rfl (by kernel_rfl) (by kernel_rfl) (by kernel_rfl) (fun _ _ _ h => h) (Or.inl ⟨by rfl, fun W hSw => ?_⟩) hHeld ?_
      rotate_left
      ·(try dsimp only at hSw); go_simp; (try with_reducible rfl)
      (try simp only [Act.put, List.setIfInBounds_toArray, List.set_cons_zero, List.set_cons_succ])
      refine wpAnyH_take (i := 5) (oi := ⟨some 39, .indexAddr 22 (.tmp 38) (.const (.int .i64 1)), 0, "text.go:103", #[⟨4, .data⟩], none⟩) (v := ?_) rfl (by kernel_rfl) (by kernel_rfl) (by kernel_rfl) (fun _ _ _ h => h) (Or.inl ⟨by rfl, fun W hSw => ?_⟩) hHeld ?_
      rotate_left
      ·(try dsimp only at hSw); go_simp; (try with_reducible rfl)
      (try simp only [Act.put, List.setIfInBounds_toArray, List.set_cons_zero, List.set_cons_succ])
      refine wpAnyH_take (i := 6) (oi := ⟨some 40, .load 3 (.tmp 39), 3, "text.go:103", #[⟨5, .data⟩], none⟩) (v := ?_) rfl (by kernel_rfl) (by kernel_rfl) (by kernel_rfl) (fun _ _ _ h => h) (Or.inl ⟨by rfl, fun W hSw => ?_⟩) hHeld ?_
      rotate_left
      ·(try dsimp only at hSw); go_simp; (try with_reducible rfl)
      (try simp only [Act.put, List.setIfInBounds_toArray, List.set_cons_zero, List.set_cons_succ])
      refine wpAnyH_take (i := 7) (oi := ⟨some 41, .move (.tmp 6), 22, "text.go:103", #[], none⟩) (v := ?_) rfl (by kernel_rfl) (by kernel_rfl) (by kernel_rfl) (fun _ _ _ h => h) (Or.inl ⟨by rfl, fun W hSw => ?_⟩) hHeld ?_
      rotate_left
      ·(try dsimp only at hSw); go_simp; (try with_reducible rfl)
      (try simp only [Act.put, List.setIfInBounds_toArray, List.set_cons_zero, List.set_cons_succ])
      refine wpAnyH_take (i := 8) (oi := ⟨some 42, .indexAddr 22 (.tmp 41) (.const (.int .i64 2)), 0, "text.go:103", #[⟨7, .data⟩], none⟩) (v := ?_) rfl (by kernel_rfl) (by kernel_rfl) (by kernel_rfl) (fun _ _ _ h => h) (Or.inl ⟨by rfl, fun W hSw => ?_⟩) hHeld ?_
      rotate_left
      ·(try dsimp only at hSw); go_simp; (try with_reducible rfl)
      (try simp only [Act.put, List.setIfInBounds_toArray, List.set_cons_zero, List.set_cons_succ])
      refine wpAnyH_take (i := 9) (oi := ⟨some 43, .load 3 (.tmp 42), 3, "text.go:103", #[⟨8, .data⟩], none⟩) (v := ?_) rfl (by kernel_rfl) (by kernel_rfl) (by kernel_rfl) (fun _ _ _ h => h) (Or.inl ⟨by rfl, fun W hSw => ?_⟩) hHeld ?_
      rotate_left
      ·(try dsimp only at hSw); go_simp; (try with_reducible rfl)
      (try simp only [Act.put, List.setIfInBounds_toArray, List.set_cons_zero, List.set_cons_succ])
      refine wpAnyH_take (i := 10) (oi := ⟨some 44, .build 69 #[(0, .tmp 34), (1, .tmp 37), (2, .tmp 40), (3, .tmp 43)], 69, "text.go:103", #[⟨0, .data⟩, ⟨3, .data⟩, ⟨6, .data⟩, ⟨9, .data⟩], none⟩) (v := ?_) rfl (by kernel_rfl) (by kernel_rfl) (by kernel_rfl) (fun _ _ _ h => h) (Or.inl ⟨by rfl, fun W hSw => ?_⟩) hHeld ?_
      rotate_left
      ·(try dsimp only at hSw); go_simp; (try with_reducible rfl)
      (try simp only [Act.put, List.setIfInBounds_toArray, List.set_cons_zero, List.set_cons_succ])
      refine wpAnyH_ready (rs := [11]) (by kernel_rfl) (by simp) ?_
      refine AllReadyH.cons (o := ⟨none, .store 69 (.tmp 2) (.tmp 44), 0, "text.go:103", #[⟨10, .data⟩, ⟨0, .phase⟩, ⟨1, .phase⟩, ⟨2, .phase⟩, ⟨3, .phase⟩, ⟨4, .phase⟩, ⟨5, .phase⟩, ⟨6, .phase⟩, ⟨7, .phase⟩, ⟨8, .phase⟩, ⟨9, .phase⟩, ⟨10, .phase⟩], none⟩) rfl (fun K hK => ?_) AllReadyH.nil
      rw [if_pos (by rfl)]
      refine wp_store_blk _ _ _ rfl w.heap.size 69 _ _ rfl rfl (hR3.drew) rfl (by kernel_rfl) (by simp [Value.oneCell']) ?_
      intro W5 hR5 hg5
      refine hK.out _ _ (⟨fun p hp hq => (World.cell?_of_block (hg5.block p.block (by simpa using hq) (by simpa using hp))).trans (hHeld.1 p hp hq), grown_trans hHeld.2 hg5⟩) (fun hHeld => ?_)
      clear hK K
      refine wpAnyH_done (by kernel_rfl) ?_ _
      refine NoPanic.normal ?_
      go_wp2_with fail
      have hf5 : Below w.heap.size w W5 := (fr_call hf2 hf3).grown hHeld.2 (fr_call hf2 hf3).size (by intro k hk; cases hk; exact Nat.le_refl _)
      refine bodyPost_ret (results_blk1 rfl _ _ _ _ rfl hR5 Tryz.underlying69 rfl (by kernel_rfl)) rfl (Or.inl ⟨⟨1, v0, v1, v2⟩, HF.out, rfl, hf5⟩)
     ·have hnb : ((n : Int) == 3) = false := beq_eq_false_iff_ne.2 (by omega)
      go_wp2_with fail
      refine (words_is _).mono ?_
      rintro e' w3 ⟨rfl, hb3⟩
      go_wp2_with fail
      refine (kindLine_is 1 _ (by omega) (by omega)).mono ?_
      rintro e' w4 ⟨rfl, rfl⟩
      have hix := word_ix2
      go_wp2_with fail
      refine ⟨⟨2, by omega, by omega, rfl, fun i h1 h2 => ?_, fr_call hbel hb3⟩, ?_⟩
      ·by_cases h : i = 1
       ·subst h; exact fun hf => hn hf.2
       ·exact HNO.out i h1 (by omega)
      ·simp [intOf]
    ·have hwb : (wordB 2 == hd) = false := beq_eq_false_iff_ne.2 (fun e => hw e.symm)
     have HW := Lib.hid hw
     clear hw
     go_wp2_with fail
     refine (words_is _).mono ?_
     rintro e' w3 ⟨rfl, hb3⟩
     go_wp2_with fail
     refine (kindLine_is 1 _ (by omega) (by omega)).mono ?_
     rintro e' w4 ⟨rfl, rfl⟩
     have hix := word_ix2
     go_wp2_with fail
     refine ⟨⟨2, by omega, by omega, rfl, fun i h1 h2 => ?_, fr_call hbel hb3⟩, ?_⟩
     ·by_cases h : i = 1
      ·subst h; exact fun hf => HW.out hf.1
      ·exact HNO.out i h1 (by omega)
     ·simp [intOf]
   ·by_cases hw : hd = wordB 3
    ·have hwb : (wordB 3 == hd) = true := by rw [hw]; exact beq_self_eq_true _
     have HW := Lib.hid hw
     clear hw
     by_cases hn : n = 3
     ·have hnb : ((n : Int) == 3) = true := beq_iff_eq.2 (by omega)
      have HN := Lib.hid hn
      have hpos : 0 < n := by omega
      obtain ⟨ad, rfl, hab, hc0⟩ := (hrX.keep hbel).at_ hpos
      obtain ⟨ad1, e1, _, hc1⟩ := (hrX.keep hbel).at_ (show 1 < n by omega)
      obtain rfl : ad = ad1 := by injection e1
      obtain ⟨ad2, e2, _, hc2⟩ := (hrX.keep hbel).at_ (show 2 < n by omega)
      obtain rfl : ad = ad2 := by injection e2
      obtain ⟨v0, gv0⟩ : ∃ v, xs[0]?.getD 0 = v := ⟨_, rfl⟩
      rw [gv0] at hc0
      have GV0 := Lib.hid gv0
      clear gv0
      obtain ⟨v1, gv1⟩ : ∃ v, xs[1]?.getD 0 = v := ⟨_, rfl⟩
      rw [gv1] at hc1
      have GV1 := Lib.hid gv1
      clear gv1
      obtain ⟨v2, gv2⟩ : ∃ v, xs[2]?.getD 0 = v := ⟨_, rfl⟩
      rw [gv2] at hc2
      have GV2 := Lib.hid gv2
      clear gv2
      have hz : ad.add 0 = ad := by unfold Addr.add; simp
      rw [hz] at hc0
      clear hz e1 e2 hn
      have hi0 : (0 : Int) < (n : Int) := by have := HN.out; omega
      have hi1 : (1 : Int) < (n : Int) := by have := HN.out; omega
      have hi2 : (2 : Int) < (n : Int) := by have := HN.out; omega
      have HF := Lib.hid (show factB l = some ⟨2, v0, v1, v2⟩ by rw [HTS.out, HW.out, factOf_2 (HNX.out.trans HN.out), GV0.out, GV1.out, GV2.out])
      go_wp2_with fail
      refine (words_is _).mono ?_
      rintro e' w3 ⟨rfl, hb3⟩
      go_wp2_with fail
      refine (kindLine_is 2 _ (by omega) (by omega)).mono ?_
      rintro e' w4 ⟨rfl, rfl⟩
      have hix := word_ix3
      go_wp2_with fail
      have hf3 := fr_call hbel hb3
      replace hc0 := (hb3.cell (by exact hab)).trans hc0
      replace hc1 := (hb3.cell (by rw [block_of_add]; exact hab)).trans hc1
      replace hc2 := (hb3.cell (by rw [block_of_add]; exact hab)).trans hc2
      replace hab := Nat.lt_of_lt_of_le hab hb3.size
      have hR3 := hR.keep hf3
      have hab1 : (ad.add 1).block < w3.heap.size := by rw [block_of_add]; exact hab
      have hs1 := hc1
      rw [show ad.add 1 = ⟨ad.block, ad.off + 1, none⟩ by unfold Addr.add; simp] at hs1
      have hab2 : (ad.add 2).block < w3.heap.size := by rw [block_of_add]; exact hab
      have hs2 := hc2
      rw [show ad.add 2 = ⟨ad.block, ad.off + 2, none⟩ by unfold Addr.add; simp] at hs2
      have hne : ¬ ad.block = w.heap.size := by have := hfrX ad rfl; have := hf1.size; have := hR0l; omega
      refine wp_region_noPanic ?_
      refine wp_region_held_drew (S := fun W => (∀ p : Addr, ¬ p.block = w.heap.size → p.block < w3.heap.size → W.cell? p = w3.cell? p) ∧ w3.grownBy W (some w.heap.size)) (by kernel_rfl) ⟨fun _ _ _ => rfl, grown_below (World.grownBy.refl w3 _) (fr_drew (fr_refl _))⟩ (fun hHeld => ?_)
      -- the region, step by step
      refine wpAnyH_take (i := 0) (oi := ⟨some 34, .move (.tmp 7), 67, "text.go:103", #[], none⟩) (v := ?_) rfl (by kernel_rfl) (by kernel_rfl) (by kernel_rfl) (fun _ _ _ h => h) (Or.inl ⟨by rfl, fun W hSw => ?_⟩) hHeld ?_
      rotate_left
      ·(try dsimp only at hSw); go_simp; (try with_reducible rfl)
      (try simp only [Act.put, List.setIfInBounds_toArray, List.set_cons_zero, List.set_cons_succ])
      refine wpAnyH_take (i := 1) (oi := ⟨some 35, .move (.tmp 6), 22, "text.go:103", #[], none⟩) (v := ?_) rfl (by kernel_rfl) (by kernel_rfl) (by kernel_rfl) (fun _ _ _ h => h) (Or.inl ⟨by rfl, fun W hSw => ?_⟩) hHeld ?_
      rotate_left
      ·(try dsimp only at hSw); go_simp; (try with_reducible rfl)
      (try simp only [Act.put, List.setIfInBounds_toArray, List.set_cons_zero, List.set_cons_succ])
      refine wpAnyH_take (i := 2) (oi := ⟨some 36, .indexAddr 22 (.tmp 35) (.const (.int .i64 0)), 0, "text.go:103", #[⟨1, .data⟩], none⟩) (v := ?_) rfl (by kernel_rfl) (by kernel_rfl) (by kernel_rfl) (fun _ _ _ h => h) (Or.inl ⟨by rfl, fun W hSw => ?_⟩) hHeld ?_
      rotate_left
      ·(try dsimp only at hSw); go_simp; (try with_reducible rfl)
      (try simp only [Act.put, List.setIfInBounds_toArray, List.set_cons_zero, List.set_cons_succ])
      refine wpAnyH_take (i := 3) (oi := ⟨some 37, .load 3 (.tmp 36), 3, "text.go:103", #[⟨2, .data⟩], none⟩) (v := ?_) rfl (by kernel_rfl) (by kernel_rfl) (by kernel_rfl) (fun _ _ _ h => h) (Or.inl ⟨by rfl, fun W hSw => ?_⟩) hHeld ?_
      rotate_left
      ·(try dsimp only at hSw); go_simp; (try with_reducible rfl)
      (try simp only [Act.put, List.setIfInBounds_toArray, List.set_cons_zero, List.set_cons_succ])
      refine wpAnyH_take (i := 4) (oi := ⟨some 38, .move (.tmp 6), 22, "text.go:103", #[], none⟩) (v := ?_) rfl (by kernel_rfl) (by kernel_rfl) (by kernel_rfl) (fun _ _ _ h => h) (Or.inl ⟨by rfl, fun W hSw => ?_⟩) hHeld ?_
      rotate_left
      ·(try dsimp only at hSw); go_simp; (try with_reducible rfl)
      (try simp only [Act.put, List.setIfInBounds_toArray, List.set_cons_zero, List.set_cons_succ])
      refine wpAnyH_take (i := 5) (oi := ⟨some 39, .indexAddr 22 (.tmp 38) (.const (.int .i64 1)), 0, "text.go:103", #[⟨4, .data⟩], none⟩) (v := ?_) rfl (by kernel_rfl) (by kernel_rfl) (by kernel_rfl) (fun _ _ _ h => h) (Or.inl ⟨by rfl, fun W hSw => ?_⟩) hHeld ?_
      rotate_left
      ·(try dsimp only at hSw); go_simp; (try with_reducible rfl)
      (try simp only [Act.put, List.setIfInBounds_toArray, List.set_cons_zero, List.set_cons_succ])
      refine wpAnyH_take (i := 6) (oi := ⟨some 40, .load 3 (.tmp 39), 3, "text.go:103", #[⟨5, .data⟩], none⟩) (v := ?_) rfl (by kernel_rfl) (by kernel_rfl) (by kernel_rfl) (fun _ _ _ h => h) (Or.inl ⟨by rfl, fun W hSw => ?_⟩) hHeld ?_
      rotate_left
      ·(try dsimp only at hSw); go_simp; (try with_reducible rfl)
      (try simp only [Act.put, List.setIfInBounds_toArray, List.set_cons_zero, List.set_cons_succ])
      refine wpAnyH_take (i := 7) (oi := ⟨some 41, .move (.tmp 6), 22, "text.go:103", #[], none⟩) (v := ?_) rfl (by kernel_rfl) (by kernel_rfl) (by kernel_rfl) (fun _ _ _ h => h) (Or.inl ⟨by rfl, fun W hSw => ?_⟩) hHeld ?_
      rotate_left
      ·(try dsimp only at hSw); go_simp; (try with_reducible rfl)
      (try simp only [Act.put, List.setIfInBounds_toArray, List.set_cons_zero, List.set_cons_succ])
      refine wpAnyH_take (i := 8) (oi := ⟨some 42, .indexAddr 22 (.tmp 41) (.const (.int .i64 2)), 0, "text.go:103", #[⟨7, .data⟩], none⟩) (v := ?_) rfl (by kernel_rfl) (by kernel_rfl) (by kernel_rfl) (fun _ _ _ h => h) (Or.inl ⟨by rfl, fun W hSw => ?_⟩) hHeld ?_
      rotate_left
      ·(try dsimp only at hSw); go_simp; (try with_reducible rfl)
      (try simp only [Act.put, List.setIfInBounds_toArray, List.set_cons_zero, List.set_cons_succ])
      refine wpAnyH_take (i := 9) (oi := ⟨some 43, .load 3 (.tmp 42), 3, "text.go:103", #[⟨8, .data⟩], none⟩) (v := ?_) rfl (by kernel_rfl) (by kernel_rfl) (by kernel_rfl) (fun _ _ _ h => h) (Or.inl ⟨by rfl, fun W hSw => ?_⟩) hHeld ?_
      rotate_left
      ·(try dsimp only at hSw); go_simp; (try with_reducible rfl)
      (try simp only [Act.put, List.setIfInBounds_toArray, List.set_cons_zero, List.set_cons_succ])
      refine wpAnyH_take (i := 10) (oi := ⟨some 44, .build 69 #[(0, .tmp 34), (1, .tmp 37), (2, .tmp 40), (3, .tmp 43)], 69, "text.go:103", #[⟨0, .data⟩, ⟨3, .data⟩, ⟨6, .data⟩, ⟨9, .data⟩], none⟩) (v := ?_) rfl (by kernel_rfl) (by kernel_rfl) (by kernel_rfl) (fun _ _ _ h => h) (Or.inl ⟨by rfl, fun W hSw => ?_⟩) hHeld ?_
      rotate_left
      ·(try dsimp only at hSw); go_simp; (try with_reducible rfl)
      (try simp only [Act.put, List.setIfInBounds_toArray, List.set_cons_zero, List.set_cons_succ])
      refine wpAnyH_ready (rs := [11]) (by kernel_rfl) (by simp) ?_
      refine AllReadyH.cons (o := ⟨none, .store 69 (.tmp 2) (.tmp 44), 0, "text.go:103", #[⟨10, .data⟩, ⟨0, .phase⟩, ⟨1, .phase⟩, ⟨2, .phase⟩, ⟨3, .phase⟩, ⟨4, .phase⟩, ⟨5, .phase⟩, ⟨6, .phase⟩, ⟨7, .phase⟩, ⟨8, .phase⟩, ⟨9, .phase⟩, ⟨10, .phase⟩], none⟩) rfl (fun K hK => ?_) AllReadyH.nil
      rw [if_pos (by rfl)]
      refine wp_store_blk _ _ _ rfl w.heap.size 69 _ _ rfl rfl (hR3.drew) rfl (by kernel_rfl) (by simp [Value.oneCell']) ?_
      intro W5 hR5 hg5
      refine hK.out _ _ (⟨fun p hp hq => (World.cell?_of_block (hg5.block p.block (by simpa using hq) (by simpa using hp))).trans (hHeld.1 p hp hq), grown_trans hHeld.2 hg5⟩) (fun hHeld => ?_)
      clear hK K
      refine wpAnyH_done (by kernel_rfl) ?_ _
      refine NoPanic.normal ?_
      go_wp2_with fail
      have hf5 : Below w.heap.size w W5 := (fr_call hf2 hf3).grown hHeld.2 (fr_call hf2 hf3).size (by intro k hk; cases hk; exact Nat.le_refl _)
      refine bodyPost_ret (results_blk1 rfl _ _ _ _ rfl hR5 Tryz.underlying69 rfl (by kernel_rfl)) rfl (Or.inl ⟨⟨2, v0, v1, v2⟩, HF.out, rfl, hf5⟩)
     ·have hnb : ((n : Int) == 3) = false := beq_eq_false_iff_ne.2 (by omega)
      go_wp2_with fail
      refine (words_is _).mono ?_
      rintro e' w3 ⟨rfl, hb3⟩
      go_wp2_with fail
      refine (kindLine_is 2 _ (by omega) (by omega)).mono ?_
      rintro e' w4 ⟨rfl, rfl⟩
      have hix := word_ix3
      go_wp2_with fail
      refine ⟨⟨3, by omega, by omega, rfl, fun i h1 h2 => ?_, fr_call hbel hb3⟩, ?_⟩
      ·by_cases h : i = 2
       ·subst h; exact fun hf => hn hf.2
       ·exact HNO.out i h1 (by omega)
      ·simp [intOf]
    ·have hwb : (wordB 3 == hd) = false := beq_eq_false_iff_ne.2 (fun e => hw e.symm)
     have HW := Lib.hid hw
     clear hw
     go_wp2_with fail
     refine (words_is _).mono ?_
     rintro e' w3 ⟨rfl, hb3⟩
     go_wp2_with fail
     refine (kindLine_is 2 _ (by omega) (by omega)).mono ?_
     rintro e' w4 ⟨rfl, rfl⟩
     have hix := word_ix3
     go_wp2_with fail
     refine ⟨⟨3, by omega, by omega, rfl, fun i h1 h2 => ?_, fr_call hbel hb3⟩, ?_⟩
     ·by_cases h : i = 2
      ·subst h; exact fun hf => HW.out hf.1
      ·exact HNO.out i h1 (by omega)
     ·simp [intOf]
   ·by_cases hw : hd = wordB 4
    ·have hwb : (wordB 4 == hd) = true := by rw [hw]; exact beq_self_eq_true _
     have HW := Lib.hid hw
     clear hw
     by_cases hn : n = 2
     ·have hnb : ((n : Int) == 2) = true := beq_iff_eq.2 (by omega)
      have HN := Lib.hid hn
      have hpos : 0 < n := by omega
      obtain ⟨ad, rfl, hab, hc0⟩ := (hrX.keep hbel).at_ hpos
      obtain ⟨ad1, e1, _, hc1⟩ := (hrX.keep hbel).at_ (show 1 < n by omega)
      obtain rfl : ad = ad1 := by injection e1
      obtain ⟨v0, gv0⟩ : ∃ v, xs[0]?.getD 0 = v := ⟨_, rfl⟩
      rw [gv0] at hc0
      have GV0 := Lib.hid gv0
      clear gv0
      obtain ⟨v1, gv1⟩ : ∃ v, xs[1]?.getD 0 = v := ⟨_, rfl⟩
      rw [gv1] at hc1
      have GV1 := Lib.hid gv1
      clear gv1
      have hz : ad.add 0 = ad := by unfold Addr.add; simp
      rw [hz] at hc0
      clear hz e1 hn
      have hi0 : (0 : Int) < (n : Int) := by have := HN.out; omega
      have hi1 : (1 : Int) < (n : Int) := by have := HN.out; omega
      have HF := Lib.hid (show factB l = some ⟨3, v0, v1, 0⟩ by rw [HTS.out, HW.out, factOf_3 (HNX.out.trans HN.out), GV0.out, GV1.out])
      go_wp2_with fail
      refine (words_is _).mono ?_
      rintro e' w3 ⟨rfl, hb3⟩
      go_wp2_with fail
      refine (kindLine_is 3 _ (by omega) (by omega)).mono ?_
      rintro e' w4 ⟨rfl, rfl⟩
      have hix := word_ix4
      go_wp2_with fail
      have hf3 := fr_call hbel hb3
      replace hc0 := (hb3.cell (by exact hab)).trans hc0
      replace hc1 := (hb3.cell (by rw [block_of_add]; exact hab)).trans hc1
      replace hab := Nat.lt_of_lt_of_le hab hb3.size
      have hR3 := hR.keep hf3
      have hab1 : (ad.add 1).block < w3.heap.size := by rw [block_of_add]; exact hab
      have hs1 := hc1
      rw [show ad.add 1 = ⟨ad.block, ad.off + 1, none⟩ by unfold Addr.add; simp] at hs1
      have hne : ¬ ad.block = w.heap.size := by have := hfrX ad rfl; have := hf1.size; have := hR0l; omega
      refine wp_region_noPanic ?_
      refine wp_region_held_drew (S := fun W => (∀ p : Addr, ¬ p.block = w.heap.size → p.block < w3.heap.size → W.cell? p = w3.cell? p) ∧ w3.grownBy W (some w.heap.size)) (by kernel_rfl) ⟨fun _ _ _ => rfl, grown_below (World.grownBy.refl w3 _) (fr_drew (fr_refl _))⟩ (fun hHeld => ?_)
      -- the region, step by step
      refine wpAnyH_take (i := 0) (oi := ⟨some 53, .move (.tmp 7), 67, "text.go:105", #[], none⟩) (v := ?_) rfl (by kernel_rfl) (by kernel_rfl) (by kernel_rfl) (fun _ _ _ h => h) (Or.inl ⟨by rfl, fun W hSw => ?_⟩) hHeld ?_
      rotate_left
      ·(try dsimp only at hSw); go_simp; (try with_reducible rfl)
      (try simp only [Act.put, List.setIfInBounds_toArray, List.set_cons_zero, List.set_cons_succ])
      refine wpAnyH_take (i := 1) (oi := ⟨some 54, .move (.tmp 6), 22, "text.go:105", #[], none⟩) (v := ?_) rfl (by kernel_rfl) (by kernel_rfl) (by kernel_rfl) (fun _ _ _ h => h) (Or.inl ⟨by rfl, fun W hSw => ?_⟩) hHeld ?_
      rotate_left
      ·(try dsimp only at hSw); go_simp; (try with_reducible rfl)
      (try simp only [Act.put, List.setIfInBounds_toArray, List.set_cons_zero, List.set_cons_succ])
      refine wpAnyH_take (i := 2) (oi := ⟨some 55, .indexAddr 22 (.tmp 54) (.const (.int .i64 0)), 0, "text.go:105", #[⟨1, .data⟩], none⟩) (v := ?_) rfl (by kernel_rfl) (by kernel_rfl) (by kernel_rfl) (fun _ _ _ h => h) (Or.inl ⟨by rfl, fun W hSw => ?_⟩) hHeld ?_
      rotate_left
      ·(try dsimp only at hSw); go_simp; (try with_reducible rfl)
      (try simp only [Act.put, List.setIfInBounds_toArray, List.set_cons_zero, List.set_cons_succ])
      refine wpAnyH_take (i := 3) (oi := ⟨some 56, .load 3 (.tmp 55), 3, "text.go:105", #[⟨2, .data⟩], none⟩) (v := ?_) rfl (by kernel_rfl) (by kernel_rfl) (by kernel_rfl) (fun _ _ _ h => h) (Or.inl ⟨by rfl, fun W hSw => ?_⟩) hHeld ?_
      rotate_left
      ·(try dsimp only at hSw); go_simp; (try with_reducible rfl)
      (try simp only [Act.put, List.setIfInBounds_toArray, List.set_cons_zero, List.set_cons_succ])
      refine wpAnyH_take (i := 4) (oi := ⟨some 57, .move (.tmp 6), 22, "text.go:105", #[], none⟩) (v := ?_) rfl (by kernel_rfl) (by kernel_rfl) (by kernel_rfl) (fun _ _ _ h => h) (Or.inl ⟨by rfl, fun W hSw => ?_⟩) hHeld ?_
      rotate_left
      ·(try dsimp only at hSw); go_simp; (try with_reducible rfl)
      (try simp only [Act.put, List.setIfInBounds_toArray, List.set_cons_zero, List.set_cons_succ])
      refine wpAnyH_take (i := 5) (oi := ⟨some 58, .indexAddr 22 (.tmp 57) (.const (.int .i64 1)), 0, "text.go:105", #[⟨4, .data⟩], none⟩) (v := ?_) rfl (by kernel_rfl) (by kernel_rfl) (by kernel_rfl) (fun _ _ _ h => h) (Or.inl ⟨by rfl, fun W hSw => ?_⟩) hHeld ?_
      rotate_left
      ·(try dsimp only at hSw); go_simp; (try with_reducible rfl)
      (try simp only [Act.put, List.setIfInBounds_toArray, List.set_cons_zero, List.set_cons_succ])
      refine wpAnyH_take (i := 6) (oi := ⟨some 59, .load 3 (.tmp 58), 3, "text.go:105", #[⟨5, .data⟩], none⟩) (v := ?_) rfl (by kernel_rfl) (by kernel_rfl) (by kernel_rfl) (fun _ _ _ h => h) (Or.inl ⟨by rfl, fun W hSw => ?_⟩) hHeld ?_
      rotate_left
      ·(try dsimp only at hSw); go_simp; (try with_reducible rfl)
      (try simp only [Act.put, List.setIfInBounds_toArray, List.set_cons_zero, List.set_cons_succ])
      refine wpAnyH_take (i := 7) (oi := ⟨some 60, .build 69 #[(0, .tmp 53), (1, .tmp 56), (2, .tmp 59)], 69, "text.go:105", #[⟨0, .data⟩, ⟨3, .data⟩, ⟨6, .data⟩], none⟩) (v := ?_) rfl (by kernel_rfl) (by kernel_rfl) (by kernel_rfl) (fun _ _ _ h => h) (Or.inl ⟨by rfl, fun W hSw => ?_⟩) hHeld ?_
      rotate_left
      ·(try dsimp only at hSw); go_simp; (try with_reducible rfl)
      (try simp only [Act.put, List.setIfInBounds_toArray, List.set_cons_zero, List.set_cons_succ])
      refine wpAnyH_ready (rs := [8]) (by kernel_rfl) (by simp) ?_
      refine AllReadyH.cons (o := ⟨none, .store 69 (.tmp 2) (.tmp 60), 0, "text.go:105", #[⟨7, .data⟩, ⟨0, .phase⟩, ⟨1, .phase⟩, ⟨2, .phase⟩, ⟨3, .phase⟩, ⟨4, .phase⟩, ⟨5, .phase⟩, ⟨6, .phase⟩, ⟨7, .phase⟩], none⟩) rfl (fun K hK => ?_) AllReadyH.nil
      rw [if_pos (by rfl)]
      refine wp_store_blk _ _ _ rfl w.heap.size 69 _ _ rfl rfl (hR3.drew) rfl (by kernel_rfl) (by simp [Value.oneCell']) ?_
      intro W5 hR5 hg5
      refine hK.out _ _ (⟨fun p hp hq => (World.cell?_of_block (hg5.block p.block (by simpa using hq) (by simpa using hp))).trans (hHeld.1 p hp hq), grown_trans hHeld.2 hg5⟩) (fun hHeld => ?_)
      clear hK K
      refine wpAnyH_done (by kernel_rfl) ?_ _
      refine NoPanic.normal ?_
      go_wp2_with fail
      have hf5 : Below w.heap.size w W5 := (fr_call hf2 hf3).grown hHeld.2 (fr_call hf2 hf3).size (by intro k hk; cases hk; exact Nat.le_refl _)
      refine bodyPost_ret (results_blk1 rfl _ _ _ _ rfl hR5 Tryz.underlying69 rfl (by kernel_rfl)) rfl (Or.inl ⟨⟨3, v0, v1, 0⟩, HF.out, rfl, hf5⟩)
     ·have hnb : ((n : Int) == 2) = false := beq_eq_false_iff_ne.2 (by omega)
      go_wp2_with fail
      refine (words_is _).mono ?_
      rintro e' w3 ⟨rfl, hb3⟩
      go_wp2_with fail
      refine (kindLine_is 3 _ (by omega) (by omega)).mono ?_
      rintro e' w4 ⟨rfl, rfl⟩
      have hix := word_ix4
      go_wp2_with fail
      refine ⟨⟨4, by omega, by omega, rfl, fun i h1 h2 => ?_, fr_call hbel hb3⟩, ?_⟩
      ·by_cases h : i = 3
       ·subst h; exact fun hf => hn hf.2
       ·exact HNO.out i h1 (by omega)
      ·simp [intOf]
    ·have hwb : (wordB 4 == hd) = false := beq_eq_false_iff_ne.2 (fun e => hw e.symm)
     have HW := Lib.hid hw
     clear hw
     go_wp2_with fail
     refine (words_is _).mono ?_
     rintro e' w3 ⟨rfl, hb3⟩
     go_wp2_with fail
     refine (kindLine_is 3 _ (by omega) (by omega)).mono ?_
     rintro e' w4 ⟨rfl, rfl⟩
     have hix := word_ix4
     go_wp2_with fail
     refine ⟨⟨4, by omega, by omega, rfl, fun i h1 h2 => ?_, fr_call hbel hb3⟩, ?_⟩
     ·by_cases h : i = 3
      ·subst h; exact fun hf => HW.out hf.1
      ·exact HNO.out i h1 (by omega)
     ·simp [intOf]
   ·by_cases hw : hd = wordB 5
    ·have hwb : (wordB 5 == hd) = true := by rw [hw]; exact beq_self_eq_true _
     have HW := Lib.hid hw
     clear hw
     by_cases hn : n = 1
     ·have hnb : ((n : Int) == 1) = true := beq_iff_eq.2 (by omega)
      have HN := Lib.hid hn
      have hpos : 0 < n := by omega
      obtain ⟨ad, rfl, hab, hc0⟩ := (hrX.keep hbel).at_ hpos
      obtain ⟨v0, gv0⟩ : ∃ v, xs[0]?.getD 0 = v := ⟨_, rfl⟩
      rw [gv0] at hc0
      have GV0 := Lib.hid gv0
      clear gv0
      have hz : ad.add 0 = ad := by unfold Addr.add; simp
      rw [hz] at hc0
      clear hz hn
      have hi0 : (0 : Int) < (n : Int) := by have := HN.out; omega
      have HF := Lib.hid (show factB l = some ⟨4, 0, 0, v0⟩ by rw [HTS.out, HW.out, factOf_4 (HNX.out.trans HN.out), GV0.out])
      go_wp2_with fail
      refine (words_is _).mono ?_
      rintro e' w3 ⟨rfl, hb3⟩
      go_wp2_with fail
      refine (kindLine_is 4 _ (by omega) (by omega)).mono ?_
      rintro e' w4 ⟨rfl, rfl⟩
      have hix := word_ix5
      have hf3 := fr_call hbel hb3
      have hR3 := hR.keep hf3
      replace hc0 := (hb3.cell (by exact hab)).trans hc0
      replace hab := Nat.lt_of_lt_of_le hab hb3.size
      go_wp2_with (refine wpList_store_blk rfl _ _ _ rfl w.heap.size 69 _ _ rfl rfl hR3 rfl (by kernel_rfl) (by simp [Value.oneCell']) ?_; intro W5 hR5 hg5)
      have hf5 : Below w.heap.size w W5 := (fr_call hf2 hf3).grown hg5 (fr_call hf2 hf3).size (by intro k hk; cases hk; exact Nat.le_refl _)
      refine bodyPost_ret (results_blk1 rfl _ _ _ _ rfl hR5 Tryz.underlying69 rfl (by kernel_rfl)) rfl (Or.inl ⟨⟨4, 0, 0, v0⟩, HF.out, rfl, hf5⟩)
     ·have hnb : ((n : Int) == 1) = false := beq_eq_false_iff_ne.2 (by omega)
      go_wp2_with fail
      refine (words_is _).mono ?_
      rintro e' w3 ⟨rfl, hb3⟩
      go_wp2_with fail
      refine (kindLine_is 4 _ (by omega) (by omega)).mono ?_
      rintro e' w4 ⟨rfl, rfl⟩
      have hix := word_ix5
      go_wp2_with fail
      refine ⟨⟨5, by omega, by omega, rfl, fun i h1 h2 => ?_, fr_call hbel hb3⟩, ?_⟩
      ·by_cases h : i = 4
       ·subst h; exact fun hf => hn hf.2
       ·exact HNO.out i h1 (by omega)
      ·simp [intOf]
    ·have hwb : (wordB 5 == hd) = false := beq_eq_false_iff_ne.2 (fun e => hw e.symm)
     have HW := Lib.hid hw
     clear hw
     go_wp2_with fail
     refine (words_is _).mono ?_
     rintro e' w3 ⟨rfl, hb3⟩
     go_wp2_with fail
     refine (kindLine_is 4 _ (by omega) (by omega)).mono ?_
     rintro e' w4 ⟨rfl, rfl⟩
     have hix := word_ix5
     go_wp2_with fail
     refine ⟨⟨5, by omega, by omega, rfl, fun i h1 h2 => ?_, fr_call hbel hb3⟩, ?_⟩
     ·by_cases h : i = 4
      ·subst h; exact fun hf => HW.out hf.1
      ·exact HNO.out i h1 (by omega)
     ·simp [intOf]
   ·by_cases hw : hd = wordB 6
    ·have hwb : (wordB 6 == hd) = true := by rw [hw]; exact beq_self_eq_true _
     have HW := Lib.hid hw
     clear hw
     by_cases hn : n = 1
     ·have hnb : ((n : Int) == 1) = true := beq_iff_eq.2 (by omega)
      have HN := Lib.hid hn
      have hpos : 0 < n := by omega
      obtain ⟨ad, rfl, hab, hc0⟩ := (hrX.keep hbel).at_ hpos
      obtain ⟨v0, gv0⟩ : ∃ v, xs[0]?.getD 0 = v := ⟨_, rfl⟩
      rw [gv0] at hc0
      have GV0 := Lib.hid gv0
      clear gv0
      have hz : ad.add 0 = ad := by unfold Addr.add; simp
      rw [hz] at hc0
      clear hz hn
      have hi0 : (0 : Int) < (n : Int) := by have := HN.out; omega
      have HF := Lib.hid (show factB l = some ⟨5, 0, 0, v0⟩ by rw [HTS.out, HW.out, factOf_5 (HNX.out.trans HN.out), GV0.out])
      go_wp2_with fail
      refine (words_is _).mono ?_
      rintro e' w3 ⟨rfl, hb3⟩
      go_wp2_with fail
      refine (kindLine_is 5 _ (by omega) (by omega)).mono ?_
      rintro e' w4 ⟨rfl, rfl⟩
      have hix := word_ix6
      have hf3 := fr_call hbel hb3
      have hR3 := hR.keep hf3
      replace hc0 := (hb3.cell (by exact hab)).trans hc0
      replace hab := Nat.lt_of_lt_of_le hab hb3.size
      go_wp2_with (refine wpList_store_blk rfl _ _ _ rfl w.heap.size 69 _ _ rfl rfl hR3 rfl (by kernel_rfl) (by simp [Value.oneCell']) ?_; intro W5 hR5 hg5)
      have hf5 : Below w.heap.size w W5 := (fr_call hf2 hf3).grown hg5 (fr_call hf2 hf3).size (by intro k hk; cases hk; exact Nat.le_refl _)
      refine bodyPost_ret (results_blk1 rfl _ _ _ _ rfl hR5 Tryz.underlying69 rfl (by kernel_rfl)) rfl (Or.inl ⟨⟨5, 0, 0, v0⟩, HF.out, rfl, hf5⟩)
     ·have hnb : ((n : Int) == 1) = false := beq_eq_false_iff_ne.2 (by omega)
      go_wp2_with fail
      refine (words_is _).mono ?_
      rintro e' w3 ⟨rfl, hb3⟩
      go_wp2_with fail
      refine (kindLine_is 5 _ (by omega) (by omega)).mono ?_
      rintro e' w4 ⟨rfl, rfl⟩
      have hix := word_ix6
      go_wp2_with fail
      refine ⟨⟨6, by omega, by omega, rfl, fun i h1 h2 => ?_, fr_call hbel hb3⟩, ?_⟩
      ·by_cases h : i = 5
       ·subst h; exact fun hf => hn hf.2
       ·exact HNO.out i h1 (by omega)
      ·simp [intOf]
    ·have hwb : (wordB 6 == hd) = false := beq_eq_false_iff_ne.2 (fun e => hw e.symm)
     have HW := Lib.hid hw
     clear hw
     go_wp2_with fail
     refine (words_is _).mono ?_
     rintro e' w3 ⟨rfl, hb3⟩
     go_wp2_with fail
     refine (kindLine_is 5 _ (by omega) (by omega)).mono ?_
     rintro e' w4 ⟨rfl, rfl⟩
     have hix := word_ix6
     go_wp2_with fail
     refine ⟨⟨6, by omega, by omega, rfl, fun i h1 h2 => ?_, fr_call hbel hb3⟩, ?_⟩
     ·by_cases h : i = 5
      ·subst h; exact fun hf => HW.out hf.1
      ·exact HNO.out i h1 (by omega)
     ·simp [intOf]
   ·have HF := Lib.hid (show factB l = none by rw [HTS.out]; exact factOf_none (fun i h1 h2 => by rw [HNX.out]; exact HNO.out i h1 h2))
    go_wp2_with fail
    exact ⟨rfl, Or.inr ⟨HF.out, _, rfl, fr_call hf2 hbel⟩⟩
 ·exact ⟨rfl, Or.inr ⟨by unfold factB; rw [htn], s, rfl, fr_call hf1 hb2⟩⟩
end Go.Proofs.YthjblcboainknaaGreatDoor
