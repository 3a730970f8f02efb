/- Walk: guess, the note of a row (by gen_noted.py). Walk: guess, an inventory is read, or given up with. -/
import Derived.Test.YtfgghicdkcjdgaaGreatDoorMG18
import Derived.StillTailTactics
section
namespace Go.Proofs.YtfgghicdkcjdgaaGreatDoor
open Go.RowKit Go.Shelf

theorem cut_is (c : UInt8) (l : List UInt8) (w : World) (hl : l.length ≤ 1000000) (hM : MaxP w) :
  Calls Tryz.prog 133 #[.string ⟨l.toArray⟩, .string ⟨#[c]⟩] w fun e w' => ∃ x b, e = .returned (.tuple #[.string ⟨((pieces c l).headD []).toArray⟩, .string x, .bool b]) ∧ Below w.heap.size w w' := by
 obtain ⟨m, hm⟩ := hM
 have hs : (⟨l.toArray⟩ : ByteArray).size = l.length := by show l.toArray.size = _; simp
 refine (Tryz.strings_Cut ⟨l.toArray⟩ ⟨#[c]⟩ m w (by rw [hs]; omega) hm).mono ?_
 rintro e w' ⟨rfl, n, rfl⟩
 rw [← cut_head]
 exact ⟨_, _, rfl, fr_drewN (fr_refl w) n⟩
theorem noteOf_2 {xs : List Int} (h : xs.length = 4) : noteOf (wordG 2) xs = some ⟨1, xs[0]?.getD 0, xs[1]?.getD 0, xs[2]?.getD 0, xs[3]?.getD 0, 0, 0, 0, 0⟩ := by unfold noteOf; rw [if_pos ⟨rfl, h⟩]
theorem noteOf_2n {xs : List Int} (h : ¬ xs.length = 4) : noteOf (wordG 2) xs = none := by unfold noteOf; rw [if_neg (fun e => h e.2), if_neg (fun e => absurd e.1 (by decide)), if_neg (fun e => absurd e.1 (by decide)), if_neg (fun e => absurd e.1 (by decide)), if_neg (fun e => absurd e.1 (by decide))]
theorem noteOf_3 {xs : List Int} (h : xs.length = 3) : noteOf (wordG 3) xs = some ⟨2, xs[0]?.getD 0, 0, xs[1]?.getD 0, xs[2]?.getD 0, 0, 0, 0, 0⟩ := by unfold noteOf; rw [if_neg (fun e => absurd e.1 (by decide)), if_pos ⟨rfl, h⟩]
theorem noteOf_3n {xs : List Int} (h : ¬ xs.length = 3) : noteOf (wordG 3) xs = none := by unfold noteOf; rw [if_neg (fun e => absurd e.1 (by decide)), if_neg (fun e => h e.2), if_neg (fun e => absurd e.1 (by decide)), if_neg (fun e => absurd e.1 (by decide)), if_neg (fun e => absurd e.1 (by decide))]
theorem noteOf_4 {xs : List Int} (h : xs.length = 6) : noteOf (wordG 4) xs = some ⟨3, xs[0]?.getD 0, xs[1]?.getD 0, 0, 0, xs[2]?.getD 0, xs[3]?.getD 0, xs[4]?.getD 0, xs[5]?.getD 0⟩ := by unfold noteOf; rw [if_neg (fun e => absurd e.1 (by decide)), if_neg (fun e => absurd e.1 (by decide)), if_pos ⟨rfl, h⟩]
theorem noteOf_4n {xs : List Int} (h : ¬ xs.length = 6) : noteOf (wordG 4) xs = none := by unfold noteOf; rw [if_neg (fun e => absurd e.1 (by decide)), if_neg (fun e => absurd e.1 (by decide)), if_neg (fun e => h e.2), if_neg (fun e => absurd e.1 (by decide)), if_neg (fun e => absurd e.1 (by decide))]
theorem noteOf_5 {xs : List Int} (h : xs.length = 2) : noteOf (wordG 5) xs = some ⟨4, xs[0]?.getD 0, xs[1]?.getD 0, 0, 0, 0, 0, 0, 0⟩ := by unfold noteOf; rw [if_neg (fun e => absurd e.1 (by decide)), if_neg (fun e => absurd e.1 (by decide)), if_neg (fun e => absurd e.1 (by decide)), if_pos ⟨rfl, h⟩]
theorem noteOf_5n {xs : List Int} (h : ¬ xs.length = 2) : noteOf (wordG 5) xs = none := by unfold noteOf; rw [if_neg (fun e => absurd e.1 (by decide)), if_neg (fun e => absurd e.1 (by decide)), if_neg (fun e => absurd e.1 (by decide)), if_neg (fun e => h e.2), if_neg (fun e => absurd e.1 (by decide))]
theorem noteOf_6 {xs : List Int} (h : xs.length = 2) : noteOf (wordG 6) xs = some ⟨5, xs[0]?.getD 0, xs[1]?.getD 0, 0, 0, 0, 0, 0, 0⟩ := by unfold noteOf; rw [if_neg (fun e => absurd e.1 (by decide)), if_neg (fun e => absurd e.1 (by decide)), if_neg (fun e => absurd e.1 (by decide)), if_neg (fun e => absurd e.1 (by decide)), if_pos ⟨rfl, h⟩]
theorem noteOf_6n {xs : List Int} (h : ¬ xs.length = 2) : noteOf (wordG 6) xs = none := by unfold noteOf; rw [if_neg (fun e => absurd e.1 (by decide)), if_neg (fun e => absurd e.1 (by decide)), if_neg (fun e => absurd e.1 (by decide)), if_neg (fun e => absurd e.1 (by decide)), if_neg (fun e => h e.2)]
theorem noteOf_no {hd : List UInt8} {xs : List Int} (h : ¬ hd = wordG 2 ∧ ¬ hd = wordG 3 ∧ ¬ hd = wordG 4 ∧ ¬ hd = wordG 5 ∧ ¬ hd = wordG 6) : noteOf hd xs = none := by
 obtain ⟨h2, h3, h4, h5, h6⟩ := h
 unfold noteOf
 rw [if_neg (fun e => h2 e.1), if_neg (fun e => h3 e.1), if_neg (fun e => h4 e.1), if_neg (fun e => h5 e.1), if_neg (fun e => h6 e.1)]
/-- the note of a row -/
def noteR (l : List UInt8) : Option Note := match toldB l with | none => none | some x => noteOf (headG l) x
def NotedPost (l : List UInt8) (w : World) (e : Ending) (w' : World) : Prop := (∃ n : Note, noteR l = some n ∧ e = .returned (noteV n) ∧ Below w.heap.size w w') ∨ (noteR l = none ∧ Gave w e w')
theorem zero_note (w : World) : (zeroValue 70).run Tryz.prog w = .ok (.agg #[.int .i64 0, .int .i64 0, .int .i64 0, .int .i64 0, .int .i64 0, .int .i64 0, .int .i64 0, .int .i64 0, .int .i64 0]) w := by kernel_rfl
set_option maxRecDepth 100000 in
set_option maxHeartbeats 16000000 in
theorem noted_any (l : List UInt8) (w : World) (hl : l.length ≤ 1000) (hM : MaxP w) (hT : TabP w) :
  Calls Tryz.prog 136 #[.string ⟨l.toArray⟩] w fun e w' => NotedPost l w e w' := by
 have g1 := fr_alloc (fr_refl w) (.cells #[.int .i64 0, .int .i64 0, .int .i64 0, .int .i64 0, .int .i64 0, .int .i64 0, .int .i64 0, .int .i64 0, .int .i64 0] 70)
 have hR0 := Blk.new w 70 #[.int .i64 0, .int .i64 0, .int .i64 0, .int .i64 0, .int .i64 0, .int .i64 0, .int .i64 0, .int .i64 0, .int .i64 0]
 have hcu := cut_is 32 l _ (by omega) (hM.keep g1)
 obtain ⟨hd, ghd⟩ : ∃ hd, (pieces 32 l).headD [] = hd := ⟨_, rfl⟩
 rw [ghd] at hcu
 have HHD := Lib.hid (show headG l = hd from ghd)
 clear ghd
 go_enter Tryz.func136, Tryz.ntmps136
 go_wp2_with fail
 refine hcu.mono ?_
 clear hcu
 rintro e' w1 ⟨x1, b1, rfl, hb1⟩
 have hf1 := fr_call g1 hb1
 go_wp2_with fail
 refine (told_any l _ hl (hM.keep hf1) (hT.keep hf1)).mono ?_
 have hR1 := hR0.keep hb1
 have hR0l : w.heap.size < w1.heap.size := hR1.lt
 clear hR0 g1 hb1
 rintro e' w2 ht
 rcases ht with ⟨xs, A, c, hts, rfl, hrX, hcap, hfrX, hb2⟩ | ⟨htn, s, rfl, hb2⟩
 ·have hR := hR1.keep hb2
  have hf := fr_call hf1 hb2
  have HTS := Lib.hid (show noteR l = noteOf hd xs by unfold noteR; rw [hts]; simp only; rw [HHD.out])
  have hlX := hrX.len
  clear hts hR1 hb2
  generalize hnx : xs.length = n at *
  have HNX := Lib.hid hnx
  clear hnx hlX
  have hix2 := word_ix2
  have hix3 := word_ix3
  have hix4 := word_ix4
  have hix5 := word_ix5
  have hix6 := word_ix6
  by_cases hw : hd = wordG 2
  ·have hwb : (hd == wordG 2) = true := by rw [hw]; exact beq_self_eq_true _
   have hwb3 : (hd == wordG 3) = false := by rw [hw]; decide
   have hwb4 : (hd == wordG 4) = false := by rw [hw]; decide
   have hwb5 : (hd == wordG 5) = false := by rw [hw]; decide
   have hwb6 : (hd == wordG 6) = false := by rw [hw]; decide
   have HW := Lib.hid hw
   clear hw
   by_cases hn : n = 4
   ·have hpos : 0 < n := by omega
    obtain ⟨ad, rfl, _, _⟩ := hrX.at_ hpos
    clear hpos
    obtain ⟨v0, gv0⟩ : ∃ v, xs[0]?.getD 0 = v := ⟨_, rfl⟩
    have GV0 := Lib.hid gv0
    clear gv0
    obtain ⟨v1, gv1⟩ : ∃ v, xs[1]?.getD 0 = v := ⟨_, rfl⟩
    have GV1 := Lib.hid gv1
    clear gv1
    obtain ⟨v2, gv2⟩ : ∃ v, xs[2]?.getD 0 = v := ⟨_, rfl⟩
    have GV2 := Lib.hid gv2
    clear gv2
    obtain ⟨v3, gv3⟩ : ∃ v, xs[3]?.getD 0 = v := ⟨_, rfl⟩
    have GV3 := Lib.hid gv3
    clear gv3
    have HN := Lib.hid hn
    have hnb : ((n : Int) == 4) = true := beq_iff_eq.2 (by omega)
    have hi0 : (0 : Int) < (n : Int) := by omega
    have hj0 : 0 < n := by omega
    have hi1 : (1 : Int) < (n : Int) := by omega
    have hj1 : 1 < n := by omega
    have hi2 : (2 : Int) < (n : Int) := by omega
    have hj2 : 2 < n := by omega
    have hi3 : (3 : Int) < (n : Int) := by omega
    have hj3 : 3 < n := by omega
    have HF := Lib.hid (show noteR l = some ⟨1, v0, v1, v2, v3, 0, 0, 0, 0⟩ by rw [HTS.out, HW.out, noteOf_2 (HNX.out.trans HN.out), GV0.out, GV1.out, GV2.out, GV3.out])
    clear hn
    go_upto_region 4 with (refine (words_is _).mono ?_; rintro e' w3 ⟨rfl, hb3⟩; replace hR := hR.keep hb3; replace hf := fr_call hf hb3; replace hrX := hrX.keep hb3; clear hb3)
    obtain ⟨_, e0, _, hc0⟩ := hrX.at_ (show 0 < n by have := HN.out; omega)
    cases e0
    rw [GV0.out] at hc0
    rw [show ad.add 0 = ad from rfl] at hc0
    obtain ⟨_, e1, _, hc1⟩ := hrX.at_ (show 1 < n by have := HN.out; omega)
    cases e1
    rw [GV1.out] at hc1
    rw [show ad.add 1 = ⟨ad.block, ad.off + 1, none⟩ by unfold Addr.add; simp] at hc1
    obtain ⟨_, e2, _, hc2⟩ := hrX.at_ (show 2 < n by have := HN.out; omega)
    cases e2
    rw [GV2.out] at hc2
    rw [show ad.add 2 = ⟨ad.block, ad.off + 2, none⟩ by unfold Addr.add; simp] at hc2
    obtain ⟨_, e3, _, hc3⟩ := hrX.at_ (show 3 < n by have := HN.out; omega)
    cases e3
    rw [GV3.out] at hc3
    rw [show ad.add 3 = ⟨ad.block, ad.off + 3, none⟩ by unfold Addr.add; simp] at hc3
    have hRd := hR.drew
    have hfd : Below w.heap.size w (World.drew _) := fr_call hf (fr_drew (fr_refl _))
    go_still_tail 13, (by kernel_rfl)
    change wpList _ _ _ _ _ (World.drew _)
    refine wpList_store_blk rfl _ _ _ rfl w.heap.size 70 _ _ rfl rfl hRd rfl (by kernel_rfl) (by simp [Value.oneCell']) ?_
    intro W5 hR5 hg5
    go_wp2_with fail
    refine bodyPost_ret (results_blk1 rfl _ _ _ _ rfl hR5 Tryz.underlying70 rfl (by kernel_rfl)) rfl (Or.inl ⟨⟨1, v0, v1, v2, v3, 0, 0, 0, 0⟩, HF.out, rfl, hfd.grown hg5 hfd.size (by intro k hk; cases hk; exact Nat.le_refl _)⟩)
   ·have hnb : ((n : Int) == 4) = false := beq_eq_false_iff_ne.2 (by omega)
    have HN := Lib.hid hn
    clear hn
    have HNO := Lib.hid (show noteR l = none by rw [HTS.out]; exact by rw [HW.out]; exact noteOf_2n (fun e => HN.out (HNX.out.symm.trans e)))
    clear hrX hR
    go_wp2_with (refine (words_is _).mono ?_; rintro e' w3 ⟨rfl, hb3⟩; replace hf := fr_call hf hb3; clear hb3)
    exact ⟨rfl, Or.inr ⟨HNO.out, _, rfl, hf⟩⟩
  ·have hwb2 : (hd == wordG 2) = false := beq_eq_false_iff_ne.2 hw
   have HW2 := Lib.hid hw
   clear hw
   by_cases hw : hd = wordG 3
   ·have hwb : (hd == wordG 3) = true := by rw [hw]; exact beq_self_eq_true _
    have hwb4 : (hd == wordG 4) = false := by rw [hw]; decide
    have hwb5 : (hd == wordG 5) = false := by rw [hw]; decide
    have hwb6 : (hd == wordG 6) = false := by rw [hw]; decide
    have HW := Lib.hid hw
    clear hw
    by_cases hn : n = 3
    ·have hpos : 0 < n := by omega
     obtain ⟨ad, rfl, _, _⟩ := hrX.at_ hpos
     clear hpos
     obtain ⟨v0, gv0⟩ : ∃ v, xs[0]?.getD 0 = v := ⟨_, rfl⟩
     have GV0 := Lib.hid gv0
     clear gv0
     obtain ⟨v1, gv1⟩ : ∃ v, xs[1]?.getD 0 = v := ⟨_, rfl⟩
     have GV1 := Lib.hid gv1
     clear gv1
     obtain ⟨v2, gv2⟩ : ∃ v, xs[2]?.getD 0 = v := ⟨_, rfl⟩
     have GV2 := Lib.hid gv2
     clear gv2
     have HN := Lib.hid hn
     have hnb : ((n : Int) == 3) = true := beq_iff_eq.2 (by omega)
     have hi0 : (0 : Int) < (n : Int) := by omega
     have hj0 : 0 < n := by omega
     have hi1 : (1 : Int) < (n : Int) := by omega
     have hj1 : 1 < n := by omega
     have hi2 : (2 : Int) < (n : Int) := by omega
     have hj2 : 2 < n := by omega
     have HF := Lib.hid (show noteR l = some ⟨2, v0, 0, v1, v2, 0, 0, 0, 0⟩ by rw [HTS.out, HW.out, noteOf_3 (HNX.out.trans HN.out), GV0.out, GV1.out, GV2.out])
     clear hn
     go_upto_region 6 with (refine (words_is _).mono ?_; rintro e' w3 ⟨rfl, hb3⟩; replace hR := hR.keep hb3; replace hf := fr_call hf hb3; replace hrX := hrX.keep hb3; clear hb3)
     obtain ⟨_, e0, _, hc0⟩ := hrX.at_ (show 0 < n by have := HN.out; omega)
     cases e0
     rw [GV0.out] at hc0
     rw [show ad.add 0 = ad from rfl] at hc0
     obtain ⟨_, e1, _, hc1⟩ := hrX.at_ (show 1 < n by have := HN.out; omega)
     cases e1
     rw [GV1.out] at hc1
     rw [show ad.add 1 = ⟨ad.block, ad.off + 1, none⟩ by unfold Addr.add; simp] at hc1
     obtain ⟨_, e2, _, hc2⟩ := hrX.at_ (show 2 < n by have := HN.out; omega)
     cases e2
     rw [GV2.out] at hc2
     rw [show ad.add 2 = ⟨ad.block, ad.off + 2, none⟩ by unfold Addr.add; simp] at hc2
     have hRd := hR.drew
     have hfd : Below w.heap.size w (World.drew _) := fr_call hf (fr_drew (fr_refl _))
     go_still_tail 10, (by kernel_rfl)
     change wpList _ _ _ _ _ (World.drew _)
     refine wpList_store_blk rfl _ _ _ rfl w.heap.size 70 _ _ rfl rfl hRd rfl (by kernel_rfl) (by simp [Value.oneCell']) ?_
     intro W5 hR5 hg5
     go_wp2_with fail
     refine bodyPost_ret (results_blk1 rfl _ _ _ _ rfl hR5 Tryz.underlying70 rfl (by kernel_rfl)) rfl (Or.inl ⟨⟨2, v0, 0, v1, v2, 0, 0, 0, 0⟩, HF.out, rfl, hfd.grown hg5 hfd.size (by intro k hk; cases hk; exact Nat.le_refl _)⟩)
    ·have hnb : ((n : Int) == 3) = false := beq_eq_false_iff_ne.2 (by omega)
     have HN := Lib.hid hn
     clear hn
     have HNO := Lib.hid (show noteR l = none by rw [HTS.out]; exact by rw [HW.out]; exact noteOf_3n (fun e => HN.out (HNX.out.symm.trans e)))
     clear hrX hR
     go_wp2_with (refine (words_is _).mono ?_; rintro e' w3 ⟨rfl, hb3⟩; replace hf := fr_call hf hb3; clear hb3)
     exact ⟨rfl, Or.inr ⟨HNO.out, _, rfl, hf⟩⟩
   ·have hwb3 : (hd == wordG 3) = false := beq_eq_false_iff_ne.2 hw
    have HW3 := Lib.hid hw
    clear hw
    by_cases hw : hd = wordG 4
    ·have hwb : (hd == wordG 4) = true := by rw [hw]; exact beq_self_eq_true _
     have hwb5 : (hd == wordG 5) = false := by rw [hw]; decide
     have hwb6 : (hd == wordG 6) = false := by rw [hw]; decide
     have HW := Lib.hid hw
     clear hw
     by_cases hn : n = 6
     ·have hpos : 0 < n := by omega
      obtain ⟨ad, rfl, _, _⟩ := hrX.at_ hpos
      clear hpos
      obtain ⟨v0, gv0⟩ : ∃ v, xs[0]?.getD 0 = v := ⟨_, rfl⟩
      have GV0 := Lib.hid gv0
      clear gv0
      obtain ⟨v1, gv1⟩ : ∃ v, xs[1]?.getD 0 = v := ⟨_, rfl⟩
      have GV1 := Lib.hid gv1
      clear gv1
      obtain ⟨v2, gv2⟩ : ∃ v, xs[2]?.getD 0 = v := ⟨_, rfl⟩
      have GV2 := Lib.hid gv2
      clear gv2
      obtain ⟨v3, gv3⟩ : ∃ v, xs[3]?.getD 0 = v := ⟨_, rfl⟩
      have GV3 := Lib.hid gv3
      clear gv3
      obtain ⟨v4, gv4⟩ : ∃ v, xs[4]?.getD 0 = v := ⟨_, rfl⟩
      have GV4 := Lib.hid gv4
      clear gv4
      obtain ⟨v5, gv5⟩ : ∃ v, xs[5]?.getD 0 = v := ⟨_, rfl⟩
      have GV5 := Lib.hid gv5
      clear gv5
      have HN := Lib.hid hn
      have hnb : ((n : Int) == 6) = true := beq_iff_eq.2 (by omega)
      have hi0 : (0 : Int) < (n : Int) := by omega
      have hj0 : 0 < n := by omega
      have hi1 : (1 : Int) < (n : Int) := by omega
      have hj1 : 1 < n := by omega
      have hi2 : (2 : Int) < (n : Int) := by omega
      have hj2 : 2 < n := by omega
      have hi3 : (3 : Int) < (n : Int) := by omega
      have hj3 : 3 < n := by omega
      have hi4 : (4 : Int) < (n : Int) := by omega
      have hj4 : 4 < n := by omega
      have hi5 : (5 : Int) < (n : Int) := by omega
      have hj5 : 5 < n := by omega
      have HF := Lib.hid (show noteR l = some ⟨3, v0, v1, 0, 0, v2, v3, v4, v5⟩ by rw [HTS.out, HW.out, noteOf_4 (HNX.out.trans HN.out), GV0.out, GV1.out, GV2.out, GV3.out, GV4.out, GV5.out])
      clear hn
      go_upto_region 8 with (refine (words_is _).mono ?_; rintro e' w3 ⟨rfl, hb3⟩; replace hR := hR.keep hb3; replace hf := fr_call hf hb3; replace hrX := hrX.keep hb3; clear hb3)
      obtain ⟨_, e0, _, hc0⟩ := hrX.at_ (show 0 < n by have := HN.out; omega)
      cases e0
      rw [GV0.out] at hc0
      rw [show ad.add 0 = ad from rfl] at hc0
      obtain ⟨_, e1, _, hc1⟩ := hrX.at_ (show 1 < n by have := HN.out; omega)
      cases e1
      rw [GV1.out] at hc1
      rw [show ad.add 1 = ⟨ad.block, ad.off + 1, none⟩ by unfold Addr.add; simp] at hc1
      obtain ⟨_, e2, _, hc2⟩ := hrX.at_ (show 2 < n by have := HN.out; omega)
      cases e2
      rw [GV2.out] at hc2
      rw [show ad.add 2 = ⟨ad.block, ad.off + 2, none⟩ by unfold Addr.add; simp] at hc2
      obtain ⟨_, e3, _, hc3⟩ := hrX.at_ (show 3 < n by have := HN.out; omega)
      cases e3
      rw [GV3.out] at hc3
      rw [show ad.add 3 = ⟨ad.block, ad.off + 3, none⟩ by unfold Addr.add; simp] at hc3
      obtain ⟨_, e4, _, hc4⟩ := hrX.at_ (show 4 < n by have := HN.out; omega)
      cases e4
      rw [GV4.out] at hc4
      rw [show ad.add 4 = ⟨ad.block, ad.off + 4, none⟩ by unfold Addr.add; simp] at hc4
      obtain ⟨_, e5, _, hc5⟩ := hrX.at_ (show 5 < n by have := HN.out; omega)
      cases e5
      rw [GV5.out] at hc5
      rw [show ad.add 5 = ⟨ad.block, ad.off + 5, none⟩ by unfold Addr.add; simp] at hc5
      have hRd := hR.drew
      have hfd : Below w.heap.size w (World.drew _) := fr_call hf (fr_drew (fr_refl _))
      go_still_tail 21, (by kernel_rfl)
      change wpList _ _ _ _ _ (World.drew _)
      refine wpList_store_blk rfl _ _ _ rfl w.heap.size 70 _ _ rfl rfl hRd rfl (by kernel_rfl) (by simp [Value.oneCell']) ?_
      intro W5 hR5 hg5
      go_wp2_with fail
      refine bodyPost_ret (results_blk1 rfl _ _ _ _ rfl hR5 Tryz.underlying70 rfl (by kernel_rfl)) rfl (Or.inl ⟨⟨3, v0, v1, 0, 0, v2, v3, v4, v5⟩, HF.out, rfl, hfd.grown hg5 hfd.size (by intro k hk; cases hk; exact Nat.le_refl _)⟩)
     ·have hnb : ((n : Int) == 6) = false := beq_eq_false_iff_ne.2 (by omega)
      have HN := Lib.hid hn
      clear hn
      have HNO := Lib.hid (show noteR l = none by rw [HTS.out]; exact by rw [HW.out]; exact noteOf_4n (fun e => HN.out (HNX.out.symm.trans e)))
      clear hrX hR
      go_wp2_with (refine (words_is _).mono ?_; rintro e' w3 ⟨rfl, hb3⟩; replace hf := fr_call hf hb3; clear hb3)
      exact ⟨rfl, Or.inr ⟨HNO.out, _, rfl, hf⟩⟩
    ·have hwb4 : (hd == wordG 4) = false := beq_eq_false_iff_ne.2 hw
     have HW4 := Lib.hid hw
     clear hw
     by_cases hw : hd = wordG 5
     ·have hwb : (hd == wordG 5) = true := by rw [hw]; exact beq_self_eq_true _
      have hwb6 : (hd == wordG 6) = false := by rw [hw]; decide
      have HW := Lib.hid hw
      clear hw
      by_cases hn : n = 2
      ·have hpos : 0 < n := by omega
       obtain ⟨ad, rfl, _, _⟩ := hrX.at_ hpos
       clear hpos
       obtain ⟨v0, gv0⟩ : ∃ v, xs[0]?.getD 0 = v := ⟨_, rfl⟩
       have GV0 := Lib.hid gv0
       clear gv0
       obtain ⟨v1, gv1⟩ : ∃ v, xs[1]?.getD 0 = v := ⟨_, rfl⟩
       have GV1 := Lib.hid gv1
       clear gv1
       have HN := Lib.hid hn
       have hnb : ((n : Int) == 2) = true := beq_iff_eq.2 (by omega)
       have hi0 : (0 : Int) < (n : Int) := by omega
       have hj0 : 0 < n := by omega
       have hi1 : (1 : Int) < (n : Int) := by omega
       have hj1 : 1 < n := by omega
       have HF := Lib.hid (show noteR l = some ⟨4, v0, v1, 0, 0, 0, 0, 0, 0⟩ by rw [HTS.out, HW.out, noteOf_5 (HNX.out.trans HN.out), GV0.out, GV1.out])
       clear hn
       go_upto_region 10 with (refine (words_is _).mono ?_; rintro e' w3 ⟨rfl, hb3⟩; replace hR := hR.keep hb3; replace hf := fr_call hf hb3; replace hrX := hrX.keep hb3; clear hb3)
       obtain ⟨_, e0, _, hc0⟩ := hrX.at_ (show 0 < n by have := HN.out; omega)
       cases e0
       rw [GV0.out] at hc0
       rw [show ad.add 0 = ad from rfl] at hc0
       obtain ⟨_, e1, _, hc1⟩ := hrX.at_ (show 1 < n by have := HN.out; omega)
       cases e1
       rw [GV1.out] at hc1
       rw [show ad.add 1 = ⟨ad.block, ad.off + 1, none⟩ by unfold Addr.add; simp] at hc1
       have hRd := hR.drew
       have hfd : Below w.heap.size w (World.drew _) := fr_call hf (fr_drew (fr_refl _))
       go_still_tail 7, (by kernel_rfl)
       change wpList _ _ _ _ _ (World.drew _)
       refine wpList_store_blk rfl _ _ _ rfl w.heap.size 70 _ _ rfl rfl hRd rfl (by kernel_rfl) (by simp [Value.oneCell']) ?_
       intro W5 hR5 hg5
       go_wp2_with fail
       refine bodyPost_ret (results_blk1 rfl _ _ _ _ rfl hR5 Tryz.underlying70 rfl (by kernel_rfl)) rfl (Or.inl ⟨⟨4, v0, v1, 0, 0, 0, 0, 0, 0⟩, HF.out, rfl, hfd.grown hg5 hfd.size (by intro k hk; cases hk; exact Nat.le_refl _)⟩)
      ·have hnb : ((n : Int) == 2) = false := beq_eq_false_iff_ne.2 (by omega)
       have HN := Lib.hid hn
       clear hn
       have HNO := Lib.hid (show noteR l = none by rw [HTS.out]; exact by rw [HW.out]; exact noteOf_5n (fun e => HN.out (HNX.out.symm.trans e)))
       clear hrX hR
       go_wp2_with (refine (words_is _).mono ?_; rintro e' w3 ⟨rfl, hb3⟩; replace hf := fr_call hf hb3; clear hb3)
       exact ⟨rfl, Or.inr ⟨HNO.out, _, rfl, hf⟩⟩
     ·have hwb5 : (hd == wordG 5) = false := beq_eq_false_iff_ne.2 hw
      have HW5 := Lib.hid hw
      clear hw
      by_cases hw : hd = wordG 6
      ·have hwb : (hd == wordG 6) = true := by rw [hw]; exact beq_self_eq_true _
       have HW := Lib.hid hw
       clear hw
       by_cases hn : n = 2
       ·have hpos : 0 < n := by omega
        obtain ⟨ad, rfl, _, _⟩ := hrX.at_ hpos
        clear hpos
        obtain ⟨v0, gv0⟩ : ∃ v, xs[0]?.getD 0 = v := ⟨_, rfl⟩
        have GV0 := Lib.hid gv0
        clear gv0
        obtain ⟨v1, gv1⟩ : ∃ v, xs[1]?.getD 0 = v := ⟨_, rfl⟩
        have GV1 := Lib.hid gv1
        clear gv1
        have HN := Lib.hid hn
        have hnb : ((n : Int) == 2) = true := beq_iff_eq.2 (by omega)
        have hi0 : (0 : Int) < (n : Int) := by omega
        have hj0 : 0 < n := by omega
        have hi1 : (1 : Int) < (n : Int) := by omega
        have hj1 : 1 < n := by omega
        have HF := Lib.hid (show noteR l = some ⟨5, v0, v1, 0, 0, 0, 0, 0, 0⟩ by rw [HTS.out, HW.out, noteOf_6 (HNX.out.trans HN.out), GV0.out, GV1.out])
        clear hn
        go_upto_region 12 with (refine (words_is _).mono ?_; rintro e' w3 ⟨rfl, hb3⟩; replace hR := hR.keep hb3; replace hf := fr_call hf hb3; replace hrX := hrX.keep hb3; clear hb3)
        obtain ⟨_, e0, _, hc0⟩ := hrX.at_ (show 0 < n by have := HN.out; omega)
        cases e0
        rw [GV0.out] at hc0
        rw [show ad.add 0 = ad from rfl] at hc0
        obtain ⟨_, e1, _, hc1⟩ := hrX.at_ (show 1 < n by have := HN.out; omega)
        cases e1
        rw [GV1.out] at hc1
        rw [show ad.add 1 = ⟨ad.block, ad.off + 1, none⟩ by unfold Addr.add; simp] at hc1
        have hRd := hR.drew
        have hfd : Below w.heap.size w (World.drew _) := fr_call hf (fr_drew (fr_refl _))
        go_still_tail 7, (by kernel_rfl)
        change wpList _ _ _ _ _ (World.drew _)
        refine wpList_store_blk rfl _ _ _ rfl w.heap.size 70 _ _ rfl rfl hRd rfl (by kernel_rfl) (by simp [Value.oneCell']) ?_
        intro W5 hR5 hg5
        go_wp2_with fail
        refine bodyPost_ret (results_blk1 rfl _ _ _ _ rfl hR5 Tryz.underlying70 rfl (by kernel_rfl)) rfl (Or.inl ⟨⟨5, v0, v1, 0, 0, 0, 0, 0, 0⟩, HF.out, rfl, hfd.grown hg5 hfd.size (by intro k hk; cases hk; exact Nat.le_refl _)⟩)
       ·have hnb : ((n : Int) == 2) = false := beq_eq_false_iff_ne.2 (by omega)
        have HN := Lib.hid hn
        clear hn
        have HNO := Lib.hid (show noteR l = none by rw [HTS.out]; exact by rw [HW.out]; exact noteOf_6n (fun e => HN.out (HNX.out.symm.trans e)))
        clear hrX hR
        go_wp2_with (refine (words_is _).mono ?_; rintro e' w3 ⟨rfl, hb3⟩; replace hf := fr_call hf hb3; clear hb3)
        exact ⟨rfl, Or.inr ⟨HNO.out, _, rfl, hf⟩⟩
      ·have hwb6 : (hd == wordG 6) = false := beq_eq_false_iff_ne.2 hw
       have HW6 := Lib.hid hw
       clear hw
       have HNO := Lib.hid (show noteR l = none by rw [HTS.out]; exact noteOf_no ⟨HW2.out, HW3.out, HW4.out, HW5.out, HW6.out⟩)
       clear hrX hR
       go_wp2_with (refine (words_is _).mono ?_; rintro e' w3 ⟨rfl, hb3⟩; replace hf := fr_call hf hb3; clear hb3)
       exact ⟨rfl, Or.inr ⟨HNO.out, _, rfl, hf⟩⟩
 ·have HTN := Lib.hid (show noteR l = none by unfold noteR; rw [htn])
  clear htn
  go_wp2_with fail
  exact ⟨rfl, Or.inr ⟨HTN.out, s, rfl, fr_call hf1 hb2⟩⟩
end Go.Proofs.YtfgghicdkcjdgaaGreatDoor
end

section
namespace Go.Proofs.YtfgghicdkcjdgaaGreatDoor
open Go.RowKit Go.Shelf

theorem find_zero (w : World) : (zeroValue 25).run Tryz.prog w = .ok (.agg #[.slice none 0 0, .slice none 0 0]) w := by kernel_rfl
theorem info_spanG : (Tryz.prog.info? 47).map (fun i => (i.zero, i.size, i.bytes)) = some (some (.agg #[.int .i64 0, .int .i64 0]), 2, 16) := by kernel_rfl
theorem info_noteG : (Tryz.prog.info? 70).map (fun i => (i.zero, i.size, i.bytes)) = some (some (.agg #[.int .i64 0, .int .i64 0, .int .i64 0, .int .i64 0, .int .i64 0, .int .i64 0, .int .i64 0, .int .i64 0, .int .i64 0]), 9, 72) := by kernel_rfl
theorem WhSm.mid {s : Wh} (h : WhSm s) : MidW s := by
 unfold WhSm Sm at h
 unfold MidW
 omega
theorem NoteSm.mid {n : Note} (h : NoteSm n) : MidN n := by
 refine ⟨?_, fun x hx => ?_⟩
 ·obtain ⟨_, _, h⟩ := h
  omega
 ·have := noteXs_sm h x hx
  unfold Sm at this
  omega
/-- a find is returned that was read, or it was given up -/
def ParsedPost (l : List UInt8) (w : World) (e : Ending) (w' : World) : Prop :=
 (∃ (ws : List Wh) (ns : List Note) (A N : Option Addr) (wc nc : Nat), gread l = some (ws, ns) ∧ e = .returned (.agg #[.slice A ws.length wc, .slice N ns.length nc]) ∧ FindAt w' A N ws ns ∧ (Fresh w.heap.size A ∧ Fresh w.heap.size N) ∧ Below w.heap.size w w') ∨ (gread l = none ∧ Gave w e w')
/-- what holds between two rows -/
structure PInv (w1 : World) (bF : Nat) (R : List (List UInt8)) (i : Nat) (st : List Wh × List Note) (vW vN : Value) (W : World) : Prop where
 go : ggo ([], []) (R.take i) = some st
 f : Blk W bF 25 #[vW, vN]
 w : OwnS W w1.heap.size 47 2 vW (st.1.map Wh.cells)
 n : OwnS W w1.heap.size 70 9 vN (st.2.map Note.cells)
 bel : Below w1.heap.size w1 W
 len : st.1.length + st.2.length = i
 sm : StSm st
theorem PInv.below {w1 W W' : World} {bF : Nat} {R : List (List UInt8)} {i : Nat} {st : List Wh × List Note} {vW vN : Value} (h : PInv w1 bF R i st vW vN W) (hb : Below W.heap.size W W') : PInv w1 bF R i st vW vN W' :=
 ⟨h.go, h.f.keep hb, h.w.keep hb, h.n.keep hb, fr_call h.bel hb, h.len, h.sm⟩
theorem cell_grown {W W' : World} {r : Option Nat} (hg : W.grownBy W' r) {p : Addr} {v : Value} (h : W.cell? p = some v) (hne : ∀ k, r = some k → p.block ≠ k) : W'.cell? p = some v :=
 (World.cell?_of_block (hg.block p.block (World.block_lt_of_cell? _ _ h) (fun e => hne p.block e.symm rfl))).trans h
section
variable {o : Oper} {a : Act} {w : World} {K : Act → World → Prop} {Q : Exit → Act → World → Prop}
theorem wp_build_span {x : Nat} {d v : Int} (ho : o.op = .buildSlice 22 1 #[(0, .tmp x)]) (hx : a.tmps.getD x undef = .agg #[.int .i64 d, .int .i64 v])
  (h : ∀ g w', w.heap.size = g → Blk w' g 47 #[.int .i64 d, .int .i64 v] → Below w.heap.size w w' → K (a.put o.dst (.slice (some ⟨g, 0, none⟩) 1 1)) w') : o.wp Tryz.prog a w K Q := by
 have h1 := h w.heap.size (w.alloc (.cells #[.int .i64 d, .int .i64 v] 47)) rfl (Blk.new w _ _) (fr_alloc (fr_refl w) _)
 obtain ⟨dst, op, ty, pos, after, guard⟩ := o
 simp only at ho
 subst ho
 have hx' : a.tmps[x]?.getD undef = .agg #[.int .i64 d, .int .i64 v] := by simpa using hx
 go_simp
 exact h1
end
theorem OwnS.grownT {W W' : World} {base : Nat} {E : TypeId} {k : Nat} {v : Value} {rows : List (List Value)} {r : Option Nat} (h : OwnS W base E k v rows) (hg : W.grownBy W' r) (hr : ∀ g, r = some g → ∀ cs fr, W.heap[g]? ≠ some (.cells cs E fr)) : OwnS W' base E k v rows :=
 ⟨World.ownsRow.kept h.1 hg (by
  cases hv : v.ownBlock with
  | none => exact Or.inl rfl
  | some g =>
   refine Or.inr (fun e => ?_)
   obtain ⟨cs, hh⟩ := h.cellsOf g hv
   exact hr g e.symm cs _ hh), h.2⟩
theorem OwnS.notT {W : World} {base : Nat} {E E' : TypeId} {k : Nat} {v : Value} {rows : List (List Value)} (h : OwnS W base E k v rows) (hE : E ≠ E') : ∀ g, v.ownBlock = some g → ∀ cs fr, W.heap[g]? ≠ some (.cells cs E' fr) := fun g e cs fr h2 => by
 obtain ⟨cs', hh⟩ := h.cellsOf g e
 rw [hh] at h2
 cases h2
 exact hE rfl
theorem blk_notT {W : World} {g : Nat} {t E : TypeId} {cs : Array Value} (h : Blk W g t cs) (ht : t ≠ E) : ∀ g', some g = some g' → ∀ cs fr, W.heap[g']? ≠ some (.cells cs E fr) := fun g' e cs fr h2 => by
 cases e
 unfold Blk at h
 rw [h] at h2
 cases h2
 exact ht rfl
theorem PInv.addN {w1 W W' : World} {bF i n c : Nat} {R : List (List UInt8)} {st : List Wh × List Note} {vW vN : Value} {x : Note} {r : List UInt8} {A : Option Addr} (h : PInv w1 bF R i st vW vN W) (hr : R[i]? = some r) (hgs : gstep st r = some (st.1, st.2 ++ [x])) (hx : NoteSm x)
  (hown : OwnS W' w1.heap.size 70 9 (.slice A n c) (st.2.map Note.cells ++ [x.cells])) (hg : W.grownBy W' vN.ownBlock) (hbF : w1.heap.size ≤ bF) :
  PInv w1 bF R (i + 1) (st.1, st.2 ++ [x]) vW (.slice A n c) (W'.setCell ⟨bF, 1, none⟩ (.slice A n c)) := by
 have hl := (List.getElem?_eq_some_iff.1 hr).1
 have hF := h.f.grown hg (ownS_not h.n h.f (by decide))
 have hs := grown_set W' ⟨bF, 1, none⟩ (.slice A n c)
 refine ⟨?_, hF.set_ 1 _, (h.w.grownT hg (h.n.notT (by decide))).grownT hs (blk_notT hF (by decide)), ?_, ?_, by rw [List.length_append]; have := h.len; simp; omega, ⟨h.sm.1, fun y hy => ?_⟩⟩
 ·rw [List.take_add_one, hr, Option.toList_some, ggo_snoc, h.go]
  exact hgs
 ·rw [List.map_append]
  exact hown.grownT hs (blk_notT hF (by decide))
 ·exact (h.bel.grown hg h.bel.size h.n.ge).grown hs (h.bel.grown hg h.bel.size h.n.ge).size (by intro k hk; cases hk; exact hbF)
 ·rcases List.mem_append.1 hy with h1 | h1
  ·exact h.sm.2 y h1
  ·rw [List.mem_singleton.1 h1]; exact hx
theorem PInv.addW {w1 W W' : World} {bF i n c : Nat} {R : List (List UInt8)} {st : List Wh × List Note} {vW vN : Value} {x : Wh} {r : List UInt8} {A : Option Addr} (h : PInv w1 bF R i st vW vN W) (hr : R[i]? = some r) (hgs : gstep st r = some (st.1 ++ [x], st.2)) (hx : WhSm x)
  (hown : OwnS W' w1.heap.size 47 2 (.slice A n c) (st.1.map Wh.cells ++ [x.cells])) (hg : W.grownBy W' vW.ownBlock) (hbF : w1.heap.size ≤ bF) :
  PInv w1 bF R (i + 1) (st.1 ++ [x], st.2) (.slice A n c) vN (W'.setCell ⟨bF, 0, none⟩ (.slice A n c)) := by
 have hl := (List.getElem?_eq_some_iff.1 hr).1
 have hF := h.f.grown hg (ownS_not h.w h.f (by decide))
 have hs := grown_set W' ⟨bF, 0, none⟩ (.slice A n c)
 refine ⟨?_, hF.set_ 0 _, ?_, (h.n.grownT hg (h.w.notT (by decide))).grownT hs (blk_notT hF (by decide)), ?_, by rw [List.length_append]; have := h.len; simp; omega, ⟨fun y hy => ?_, h.sm.2⟩⟩
 ·rw [List.take_add_one, hr, Option.toList_some, ggo_snoc, h.go]
  exact hgs
 ·rw [List.map_append]
  exact hown.grownT hs (blk_notT hF (by decide))
 ·exact (h.bel.grown hg h.bel.size h.w.ge).grown hs (h.bel.grown hg h.bel.size h.w.ge).size (by intro k hk; cases hk; exact hbF)
 ·rcases List.mem_append.1 hy with h1 | h1
  ·exact h.sm.1 y h1
  ·rw [List.mem_singleton.1 h1]; exact hx
set_option maxRecDepth 100000 in
set_option maxHeartbeats 16000000 in
theorem parsed_any (l : List UInt8) (w : World) (hl : l.length ≤ 500) (hM : MaxP w) (hT : TabP w) :
  Calls Tryz.prog 95 #[.string ⟨l.toArray⟩] w fun e w' => ParsedPost l w e w' := by
 have hb0 := fr_alloc (fr_refl w) (.cells #[.slice none 0 0, .slice none 0 0] 25)
 have hR0 := Blk.new w 25 #[.slice none 0 0, .slice none 0 0]
 have hpl := pieces_len 10 l
 have hsml := pieces_small 10 l
 have hsp := split_is 10 l _ (by omega) (hM.keep hb0)
 have hgr : gread l = greadP (pieces 10 l) l := rfl
 generalize pieces 10 l = P at *
 have HGR := Lib.hid hgr
 have HSML := Lib.hid hsml
 clear hgr hsml
 go_enter Tryz.func95, Tryz.ntmps95
 go_wp2_with fail
 refine hsp.mono ?_
 rintro e w1 ⟨rfl, hcell, hsz, hb1⟩
 clear hsp
 replace hR0 := hR0.keep hb1
 have hbw := fr_call hb0 hb1
 simp only [World.size_alloc] at hcell hsz ⊢
 have HC := Lib.hid hcell
 clear hcell hb0 hb1
 obtain ⟨m, hm⟩ : ∃ m, P.length = m := ⟨_, rfl⟩
 have HM := Lib.hid hm
 rw [hm] at hpl ⊢
 clear hm
 by_cases h3 : m < 3
 ·have hge : decide ((3 : Int) ≤ (m : Int)) = false := decide_eq_false (by omega)
  have hno := greadP_short (P := P) (s := l) (by rw [HM.out]; exact h3)
  rw [← HGR.out] at hno
  have HNO := Lib.hid hno
  clear h3 hno
  go_wp2_with fail
  refine (sure_no _ _).mono ?_
  rintro e w2 ⟨rfl, rfl⟩
  go_wp2_with fail
  exact ⟨rfl, Or.inr ⟨HNO.out, _, rfl, hbw⟩⟩
 ·have hge : decide ((3 : Int) ≤ (m : Int)) = true := decide_eq_true (by omega)
  have hg1 : w.heap.size + 1 < w1.heap.size := by omega
  have HSZ := Lib.hid hsz
  clear hsz
  go_wp2_with fail
  refine (sure_yes _ _).mono ?_
  rintro e w2 ⟨rfl, rfl⟩
  obtain ⟨q, hq⟩ : ∃ q, m = q + 3 := ⟨m - 3, by omega⟩
  subst hq
  clear hge h3
  go_wp2_with fail
  rw [show q + 3 - 2 - 1 = q by omega]
  obtain ⟨R, hR⟩ : ∃ R, (P.drop 1).take q = R := ⟨_, rfl⟩
  have hRl : R.length = q := by rw [← hR, List.length_take, List.length_drop, HM.out]; omega
  have hRget : ∀ i, i < q → ∃ r, R[i]? = some r ∧ P[i + 1]? = some r := fun i hi => by
   have h1 : i + 1 < P.length := by rw [HM.out]; omega
   refine ⟨P[i + 1], ?_, List.getElem?_eq_getElem h1⟩
   rw [← hR, List.getElem?_take, if_pos hi, List.getElem?_drop, Nat.add_comm 1 i, List.getElem?_eq_getElem h1]
  have HRG := Lib.hid hRget
  have HRL := Lib.hid hRl
  have hgrP : ∀ f, ggo ([], []) R = f → greadP P l = match f with | none => none | some f => if findText f.1 f.2 = l then some f else none := fun f hf => by
   unfold greadP
   rw [if_neg (by rw [HM.out]; omega), HM.out, show q + 3 - 3 = q by omega, hR, hf]
   cases f <;> rfl
  have HGP := Lib.hid hgrP
  clear hR hRl hRget hgrP
  have hb3 := fr_alloc (fr_refl w1) (.cells #[.slice none 0 0, .slice none 0 0] 25)
  have hF3 := Blk.new w1 25 #[.slice none 0 0, .slice none 0 0]
  generalize w1.alloc (.cells #[.slice none 0 0, .slice none 0 0] 25) = w3 at *
  have h3P : PInv w1 w1.heap.size R 0 ([], []) (.slice none 0 0) (.slice none 0 0) w3 := ⟨rfl, hF3, OwnS.nil _ _ _ _, OwnS.nil _ _ _ _, hb3, rfl, st0⟩
  have hnone : ∀ W, (∃ s, (Gave w (.panicked (noneV s)) W)) → True := fun _ _ => trivial
  clear hb3 hF3 hnone
  go_loopw [25] (fun t wr => ∃ (i : Nat) (st : List Wh × List Note) (vW vN : Value), i ≤ q ∧ t = .int .i64 i ∧ PInv w1 w1.heap.size R i st vW vN wr) (fun t _ => q - (intOf t).toNat)
  case atStart => exact ⟨0, _, _, _, Nat.zero_le _, rfl, h3P⟩
  case round =>
   obtain ⟨i, st, vW, vN, hi, rfl, hI⟩ := hrel
   clear h3P
   obtain ⟨w4, hw4⟩ : ∃ w4, w4 = wr := ⟨_, rfl⟩
   subst hw4
   by_cases hlt : i < q
   ·obtain ⟨r, hr1, hr2⟩ := HRG.out i hlt
    have hcr := (hI.bel.cell (p := ⟨w.heap.size + 1, i + 1, none⟩) hg1).trans (HC.out (i + 1) r hr2)
    rw [show i + 1 = 1 + i by omega] at hcr
    have hrl := HSML.out r (List.mem_of_getElem? hr2)
    have HR1 := Lib.hid hr1
    have hbw4 := fr_call hbw hI.bel
    have hM4 := hM.keep hbw4
    have hT4 := hT.keep hbw4
    have hcu := cut_is 32 r w4 (by omega) hM4
    obtain ⟨hd, ghd⟩ : ∃ hd, (pieces 32 r).headD [] = hd := ⟨_, rfl⟩
    rw [ghd] at hcu
    have HHD := Lib.hid (show headG r = hd from ghd)
    unfold strV at hcr
    have hix := word_ix1
    clear ghd hr1 hr2
    go_wp2_with fail
    refine hcu.mono ?_
    rintro e' w5 ⟨x1, b1, rfl, hb5⟩
    clear hcu hcr
    have hI5 := hI.below hb5
    go_wp2_with fail
    refine (words_is _).mono ?_
    rintro e w6 ⟨rfl, hb6⟩
    have hI6 := hI5.below hb6
    have hbw6 := fr_call hbw hI6.bel
    have htold := told_any r w6 (by omega) (hM.keep hbw6) (hT.keep hbw6)
    have hnoted := noted_any r w6 (by omega) (hM.keep hbw6) (hT.keep hbw6)
    clear hI hI5 hM4 hT4 hbw4
    by_cases hw : hd = wordG 1
    ·have hwb : (hd == wordG 1) = true := by rw [hw]; exact beq_self_eq_true _
     have HW := Lib.hid (show headG r = wordG 1 from HHD.out.trans hw)
     clear hw
     go_wp2_with fail
     refine htold.mono ?_
     rintro e w7 (⟨xs, A, c, hts, rfl, hrX, hcap, hfrX, hb7⟩ | ⟨htn, s, rfl, hb7⟩)
     ·clear htold hnoted
      have hI7 := hI6.below hb7
      by_cases h2 : xs.length = 2
      ·have h2b : ((xs.length : Int) == 2) = true := beq_iff_eq.2 (by omega)
       obtain ⟨ad, rfl, hab, hc0⟩ := hrX.at_ (show 0 < xs.length by omega)
       obtain ⟨ad1, e1, _, hc1⟩ := hrX.at_ (show 1 < xs.length by omega)
       obtain rfl : ad = ad1 := by injection e1
       have hgs : gstep st r = some (st.1 ++ [⟨xs[0]?.getD 0, xs[1]?.getD 0⟩], st.2) := by
        unfold gstep
        rw [hts]
        simp only
        rw [if_pos HW.out, if_pos h2]
       have hsm : WhSm ⟨xs[0]?.getD 0, xs[1]?.getD 0⟩ := ⟨smG_get (tellG_some hts) 0, smG_get (tellG_some hts) 1⟩
       have hadge : w6.heap.size ≤ ad.block := hfrX ad rfl
       have hadne : ¬ ad.block = w1.heap.size := by have h1 := hfrX ad rfl; have h3 := hI6.f.lt; omega
       have hxl := Lib.hid h2
       have HGS := Lib.hid hgs
       have HSM := Lib.hid hsm
       rw [show ad.add 0 = ad from rfl] at hc0
       have hi0 : (0 : Int) < (xs.length : Int) := by omega
       have hi1 : (1 : Int) < (xs.length : Int) := by omega
       have hj0 : 0 < xs.length := by omega
       have hj1 : 1 < xs.length := by omega
       generalize xs[0]?.getD 0 = x at *
       generalize xs[1]?.getD 0 = y at *
       generalize xs.length = xl at *
       clear hrX hfrX hcap h2 hgs hsm hts e1
       go_wp2_with fail
       refine (sure_yes _ _).mono ?_
       rintro e w8 ⟨rfl, rfl⟩
       clear h2b
       go_upto_region 11 with (fail)
       have hc1' := hc1
       rw [show ad.add 1 = ⟨ad.block, ad.off + 1, none⟩ by unfold Addr.add; simp] at hc1'
       refine wp_region_noPanic ?_
       refine wp_region_held_drew (S := fun W => W.cell? ad = some (.int .i64 x) ∧ W.cell? ⟨ad.block, ad.off + 1, none⟩ = some (.int .i64 y)) (by kernel_rfl) ⟨hc0, hc1'⟩ (fun hHeld => ?_)
       have hIz := hI7.below (fr_drew (fr_refl _))
       have hvlt : ∀ k, vW.ownBlock = some k → k < w6.heap.size := fun k hk => (World.ownsRow.lt hI6.w.1 k hk).2
       have hsz := hI7.bel.size
       generalize w7.drew = wz at hIz hHeld ⊢
       clear hc0 hc1 hc1' hI6 hI7
       -- the region, step by step, in whatever order
       refine wpAnyH_take (i := 0) (oi := ⟨some 46, .fieldAddr 25 (.tmp 4) 0, 0, "text.go:148", #[], none⟩) (v := ?_) rfl (by kernel_rfl) (by kernel_rfl) (by kernel_rfl) (fun _ _ _ h => h) (Or.inl ⟨by rfl, fun W hSw => ?_⟩) hHeld ?_
       rotate_left
       ·(try dsimp only at hSw); go_simp; (try with_reducible rfl)
       (try simp only [Act.put, List.setIfInBounds_toArray, List.set_cons_zero, List.set_cons_succ])
       refine wpAnyH_take (i := 2) (oi := ⟨some 48, .move (.tmp 10), 34, "text.go:148", #[], none⟩) (v := ?_) rfl (by kernel_rfl) (by kernel_rfl) (by kernel_rfl) (fun _ _ _ h => h) (Or.inl ⟨by rfl, fun W hSw => ?_⟩) hHeld ?_
       rotate_left
       ·(try dsimp only at hSw); go_simp; (try with_reducible rfl)
       (try simp only [Act.put, List.setIfInBounds_toArray, List.set_cons_zero, List.set_cons_succ])
       refine wpAnyH_take (i := 3) (oi := ⟨some 49, .indexAddr 34 (.tmp 48) (.const (.int .i64 0)), 0, "text.go:148", #[⟨2, .data⟩], none⟩) (v := ?_) rfl (by kernel_rfl) (by kernel_rfl) (by kernel_rfl) (fun _ _ _ h => h) (Or.inl ⟨by rfl, fun W hSw => ?_⟩) hHeld ?_
       rotate_left
       ·(try dsimp only at hSw); go_simp; (try with_reducible rfl)
       (try simp only [Act.put, List.setIfInBounds_toArray, List.set_cons_zero, List.set_cons_succ])
       refine wpAnyH_take (i := 4) (oi := ⟨some 50, .load 3 (.tmp 49), 3, "text.go:148", #[⟨3, .data⟩], none⟩) (v := ?_) rfl (by kernel_rfl) (by kernel_rfl) (by kernel_rfl) (fun _ _ _ h => h) (Or.inl ⟨by rfl, fun W hSw => ?_⟩) hHeld ?_
       rotate_left
       ·(try dsimp only at hSw); go_simp; (try with_reducible rfl)
       (try simp only [Act.put, List.setIfInBounds_toArray, List.set_cons_zero, List.set_cons_succ])
       refine wpAnyH_take (i := 5) (oi := ⟨some 51, .move (.tmp 10), 34, "text.go:148", #[], none⟩) (v := ?_) rfl (by kernel_rfl) (by kernel_rfl) (by kernel_rfl) (fun _ _ _ h => h) (Or.inl ⟨by rfl, fun W hSw => ?_⟩) hHeld ?_
       rotate_left
       ·(try dsimp only at hSw); go_simp; (try with_reducible rfl)
       (try simp only [Act.put, List.setIfInBounds_toArray, List.set_cons_zero, List.set_cons_succ])
       refine wpAnyH_take (i := 6) (oi := ⟨some 52, .indexAddr 34 (.tmp 51) (.const (.int .i64 1)), 0, "text.go:148", #[⟨5, .data⟩], none⟩) (v := ?_) rfl (by kernel_rfl) (by kernel_rfl) (by kernel_rfl) (fun _ _ _ h => h) (Or.inl ⟨by rfl, fun W hSw => ?_⟩) hHeld ?_
       rotate_left
       ·(try dsimp only at hSw); go_simp; (try with_reducible rfl)
       (try simp only [Act.put, List.setIfInBounds_toArray, List.set_cons_zero, List.set_cons_succ])
       refine wpAnyH_take (i := 7) (oi := ⟨some 53, .load 3 (.tmp 52), 3, "text.go:148", #[⟨6, .data⟩], none⟩) (v := ?_) rfl (by kernel_rfl) (by kernel_rfl) (by kernel_rfl) (fun _ _ _ h => h) (Or.inl ⟨by rfl, fun W hSw => ?_⟩) hHeld ?_
       rotate_left
       ·(try dsimp only at hSw); go_simp; (try with_reducible rfl)
       (try simp only [Act.put, List.setIfInBounds_toArray, List.set_cons_zero, List.set_cons_succ])
       refine wpAnyH_take (i := 8) (oi := ⟨some 54, .build 47 #[(0, .tmp 50), (1, .tmp 53)], 47, "text.go:148", #[⟨4, .data⟩, ⟨7, .data⟩], none⟩) (v := ?_) rfl (by kernel_rfl) (by kernel_rfl) (by kernel_rfl) (fun _ _ _ h => h) (Or.inl ⟨by rfl, fun W hSw => ?_⟩) hHeld ?_
       rotate_left
       ·(try dsimp only at hSw); go_simp; (try with_reducible rfl)
       (try simp only [Act.put, List.setIfInBounds_toArray, List.set_cons_zero, List.set_cons_succ])
       refine wpAnyH_ready (rs := [1, 9]) (by kernel_rfl) (by simp) ?_
       refine (AllReadyH.cons (o := ⟨some 47, .load 22 (.tmp 46), 22, "text.go:148", #[⟨0, .data⟩], none⟩) rfl (fun K hK => ?_) (AllReadyH.cons (o := ⟨some 55, .buildSlice 22 1 #[(0, .tmp 54)], 22, "text.go:148", #[⟨8, .data⟩], none⟩) rfl (fun K hK => ?_) AllReadyH.nil))
       ·rw [if_pos (by rfl)]
        have hcf := hIz.f.cell 0
        go_simp
        clear hcf
        refine hK.out _ _ (hHeld) (fun hHeld => ?_)
        clear hK K
        (try simp only [Act.put, List.setIfInBounds_toArray, List.set_cons_zero, List.set_cons_succ])
        refine wpAnyH_ready (rs := [9]) (by kernel_rfl) (by simp) ?_
        refine (AllReadyH.cons (o := ⟨some 55, .buildSlice 22 1 #[(0, .tmp 54)], 22, "text.go:148", #[⟨8, .data⟩], none⟩) rfl (fun K hK => ?_) AllReadyH.nil)
        rw [if_pos (by rfl)]
        refine wp_build_span rfl rfl ?_
        intro gx wz hgz hG hb1
        replace hIz := hIz.below hb1
        refine hK.out _ _ (⟨(hb1.cell (p := ad) (World.block_lt_of_cell? _ _ hHeld.1)).trans hHeld.1, (hb1.cell (p := ⟨ad.block, ad.off + 1, none⟩) (World.block_lt_of_cell? _ _ hHeld.2)).trans hHeld.2⟩) (fun hHeld => ?_)
        clear hK K
        (try simp only [Act.put, List.setIfInBounds_toArray, List.set_cons_zero, List.set_cons_succ])
        refine wpAnyH_ready (rs := [10]) (by kernel_rfl) (by simp) ?_
        refine (AllReadyH.cons (o := ⟨some 56, .call { callee := .builtin .append, args := #[.tmp 47, .tmp 55], argTypes := #[22, 22] }, 22, "text.go:148", #[⟨1, .data⟩, ⟨9, .data⟩], none⟩) rfl (fun K hK => ?_) AllReadyH.nil)
        rw [if_pos (by rfl)]
        (try replace hG := hG)
        refine wp_app_row (.tmp 47) (.tmp 55) rfl Tryz.underlying22 info_spanG rfl (by omega) (by omega) w1.heap.size vW _ rfl hIz.w gx rfl (r := Wh.cells ⟨x, y⟩) hG rfl (by intro u hu; simp only [Wh.cells, List.mem_cons, List.not_mem_nil, or_false] at hu; rcases hu with rfl | rfl <;> rfl) (by rw [List.length_map]; have := hIz.len; omega) hIz.bel.size ?_
        intro A2 c2 wz2 hown2 hgr
        rw [List.length_map] at hown2 ⊢
        refine hK.out _ _ (⟨cell_grown hgr hHeld.1 (fun k hk => by have := hvlt k hk; have := hadge; show ad.block ≠ k; omega), cell_grown hgr hHeld.2 (fun k hk => by have := hvlt k hk; have := hadge; show ad.block ≠ k; omega)⟩) (fun hHeld => ?_)
        clear hK K
        (try simp only [Act.put, List.setIfInBounds_toArray, List.set_cons_zero, List.set_cons_succ])
        refine wpAnyH_take (i := 11) (oi := ⟨some 57, .fieldAddr 25 (.tmp 4) 0, 0, "text.go:148", #[⟨0, .phase⟩, ⟨1, .phase⟩, ⟨2, .phase⟩, ⟨3, .phase⟩, ⟨4, .phase⟩, ⟨5, .phase⟩, ⟨6, .phase⟩, ⟨7, .phase⟩, ⟨8, .phase⟩, ⟨9, .phase⟩, ⟨10, .phase⟩], none⟩) (v := ?_) rfl (by kernel_rfl) (by kernel_rfl) (by kernel_rfl) (fun _ _ _ h => h) (Or.inl ⟨by rfl, fun W hSw => ?_⟩) hHeld ?_
        rotate_left
        ·(try dsimp only at hSw); go_simp; (try with_reducible rfl)
        (try simp only [Act.put, List.setIfInBounds_toArray, List.set_cons_zero, List.set_cons_succ])
        refine wpAnyH_ready (rs := [12]) (by kernel_rfl) (by simp) ?_
        refine (AllReadyH.cons (o := ⟨none, .store 22 (.tmp 57) (.tmp 56), 0, "text.go:148", #[⟨11, .data⟩, ⟨10, .data⟩, ⟨10, .chain⟩, ⟨0, .phase⟩, ⟨1, .phase⟩, ⟨2, .phase⟩, ⟨3, .phase⟩, ⟨4, .phase⟩, ⟨5, .phase⟩, ⟨6, .phase⟩, ⟨7, .phase⟩, ⟨8, .phase⟩, ⟨9, .phase⟩, ⟨10, .phase⟩], none⟩) rfl (fun K hK => ?_) AllReadyH.nil)
        rw [if_pos (by rfl)]
        have hF2 := hIz.f.grown hgr (ownS_not hIz.w hIz.f (by decide))
        have hcF := fun j => hF2.cell j
        have hfF := fun j => hF2.frozen j
        go_simp
        clear hcF hfF
        refine hK.out _ _ (⟨cell_grown (grown_set wz2 ⟨w1.heap.size, 0, none⟩ _) hHeld.1 (fun k hk => by cases hk; exact hadne), cell_grown (grown_set wz2 ⟨w1.heap.size, 0, none⟩ _) hHeld.2 (fun k hk => by cases hk; exact hadne)⟩) (fun hHeld => ?_)
        clear hK K
        refine wpAnyH_done (by kernel_rfl) ?_ _
        refine NoPanic.normal ?_
        go_wp2_with fail
        refine ⟨⟨i + 1, _, _, _, hlt, rfl, hIz.addW HR1.out HGS.out HSM.out hown2 hgr (Nat.le_refl _)⟩, ?_⟩
        simp [intOf]; omega
       ·rw [if_pos (by rfl)]
        refine wp_build_span rfl rfl ?_
        intro gx wz hgz hG hb1
        replace hIz := hIz.below hb1
        refine hK.out _ _ (⟨(hb1.cell (p := ad) (World.block_lt_of_cell? _ _ hHeld.1)).trans hHeld.1, (hb1.cell (p := ⟨ad.block, ad.off + 1, none⟩) (World.block_lt_of_cell? _ _ hHeld.2)).trans hHeld.2⟩) (fun hHeld => ?_)
        clear hK K
        (try simp only [Act.put, List.setIfInBounds_toArray, List.set_cons_zero, List.set_cons_succ])
        refine wpAnyH_ready (rs := [1]) (by kernel_rfl) (by simp) ?_
        refine (AllReadyH.cons (o := ⟨some 47, .load 22 (.tmp 46), 22, "text.go:148", #[⟨0, .data⟩], none⟩) rfl (fun K hK => ?_) AllReadyH.nil)
        rw [if_pos (by rfl)]
        have hcf := hIz.f.cell 0
        go_simp
        clear hcf
        refine hK.out _ _ (hHeld) (fun hHeld => ?_)
        clear hK K
        (try simp only [Act.put, List.setIfInBounds_toArray, List.set_cons_zero, List.set_cons_succ])
        refine wpAnyH_ready (rs := [10]) (by kernel_rfl) (by simp) ?_
        refine (AllReadyH.cons (o := ⟨some 56, .call { callee := .builtin .append, args := #[.tmp 47, .tmp 55], argTypes := #[22, 22] }, 22, "text.go:148", #[⟨1, .data⟩, ⟨9, .data⟩], none⟩) rfl (fun K hK => ?_) AllReadyH.nil)
        rw [if_pos (by rfl)]
        (try replace hG := hG)
        refine wp_app_row (.tmp 47) (.tmp 55) rfl Tryz.underlying22 info_spanG rfl (by omega) (by omega) w1.heap.size vW _ rfl hIz.w gx rfl (r := Wh.cells ⟨x, y⟩) hG rfl (by intro u hu; simp only [Wh.cells, List.mem_cons, List.not_mem_nil, or_false] at hu; rcases hu with rfl | rfl <;> rfl) (by rw [List.length_map]; have := hIz.len; omega) hIz.bel.size ?_
        intro A2 c2 wz2 hown2 hgr
        rw [List.length_map] at hown2 ⊢
        refine hK.out _ _ (⟨cell_grown hgr hHeld.1 (fun k hk => by have := hvlt k hk; have := hadge; show ad.block ≠ k; omega), cell_grown hgr hHeld.2 (fun k hk => by have := hvlt k hk; have := hadge; show ad.block ≠ k; omega)⟩) (fun hHeld => ?_)
        clear hK K
        (try simp only [Act.put, List.setIfInBounds_toArray, List.set_cons_zero, List.set_cons_succ])
        refine wpAnyH_take (i := 11) (oi := ⟨some 57, .fieldAddr 25 (.tmp 4) 0, 0, "text.go:148", #[⟨0, .phase⟩, ⟨1, .phase⟩, ⟨2, .phase⟩, ⟨3, .phase⟩, ⟨4, .phase⟩, ⟨5, .phase⟩, ⟨6, .phase⟩, ⟨7, .phase⟩, ⟨8, .phase⟩, ⟨9, .phase⟩, ⟨10, .phase⟩], none⟩) (v := ?_) rfl (by kernel_rfl) (by kernel_rfl) (by kernel_rfl) (fun _ _ _ h => h) (Or.inl ⟨by rfl, fun W hSw => ?_⟩) hHeld ?_
        rotate_left
        ·(try dsimp only at hSw); go_simp; (try with_reducible rfl)
        (try simp only [Act.put, List.setIfInBounds_toArray, List.set_cons_zero, List.set_cons_succ])
        refine wpAnyH_ready (rs := [12]) (by kernel_rfl) (by simp) ?_
        refine (AllReadyH.cons (o := ⟨none, .store 22 (.tmp 57) (.tmp 56), 0, "text.go:148", #[⟨11, .data⟩, ⟨10, .data⟩, ⟨10, .chain⟩, ⟨0, .phase⟩, ⟨1, .phase⟩, ⟨2, .phase⟩, ⟨3, .phase⟩, ⟨4, .phase⟩, ⟨5, .phase⟩, ⟨6, .phase⟩, ⟨7, .phase⟩, ⟨8, .phase⟩, ⟨9, .phase⟩, ⟨10, .phase⟩], none⟩) rfl (fun K hK => ?_) AllReadyH.nil)
        rw [if_pos (by rfl)]
        have hF2 := hIz.f.grown hgr (ownS_not hIz.w hIz.f (by decide))
        have hcF := fun j => hF2.cell j
        have hfF := fun j => hF2.frozen j
        go_simp
        clear hcF hfF
        refine hK.out _ _ (⟨cell_grown (grown_set wz2 ⟨w1.heap.size, 0, none⟩ _) hHeld.1 (fun k hk => by cases hk; exact hadne), cell_grown (grown_set wz2 ⟨w1.heap.size, 0, none⟩ _) hHeld.2 (fun k hk => by cases hk; exact hadne)⟩) (fun hHeld => ?_)
        clear hK K
        refine wpAnyH_done (by kernel_rfl) ?_ _
        refine NoPanic.normal ?_
        go_wp2_with fail
        refine ⟨⟨i + 1, _, _, _, hlt, rfl, hIz.addW HR1.out HGS.out HSM.out hown2 hgr (Nat.le_refl _)⟩, ?_⟩
        simp [intOf]; omega
      ·have h2b : ((xs.length : Int) == 2) = false := beq_eq_false_iff_ne.2 (by omega)
       have hno := ggo_fail (R := R) (st := ([], [])) HR1.out (fun st' => gstep_two hts HW.out h2 st')
       have hno2 := HGP.out _ hno
       simp only at hno2
       rw [← HGR.out] at hno2
       have HNO := Lib.hid hno2
       have hbw7 := fr_call hbw hI7.bel
       clear h2 hno hno2 hts
       go_wp2_with fail
       refine (sure_no _ _).mono ?_
       rintro e w8 ⟨rfl, rfl⟩
       go_wp2_with fail
       exact ⟨rfl, Or.inr ⟨HNO.out, _, rfl, hbw7⟩⟩
     ·have hno := ggo_fail (R := R) (st := ([], [])) HR1.out (fun st' => gstep_told htn st')
      have hno2 := HGP.out _ hno
      simp only at hno2
      rw [← HGR.out] at hno2
      have HNO := Lib.hid hno2
      have hbw7 := fr_call hbw6 hb7
      clear hno hno2 htn htold hnoted
      go_wp2_with fail
      exact ⟨rfl, Or.inr ⟨HNO.out, s, rfl, hbw7⟩⟩
    ·have hwb : (hd == wordG 1) = false := beq_eq_false_iff_ne.2 hw
     have HW := Lib.hid (show ¬ headG r = wordG 1 from fun e => hw (HHD.out.symm.trans e))
     clear hw
     go_wp2_with fail
     refine hnoted.mono ?_
     rintro e w7 (⟨n, hnr, rfl, hb7⟩ | ⟨hnn, s, rfl, hb7⟩)
     ·clear htold hnoted
      have hI7 := hI6.below hb7
      have hsm : NoteSm n := by
       unfold noteR at hnr
       cases ht : toldB r with
       | none => rw [ht] at hnr; cases hnr
       | some x => rw [ht] at hnr; exact noteOf_ok (tellG_some ht) hnr
      have hgs : gstep st r = some (st.1, st.2 ++ [n]) := by
       unfold noteR at hnr
       unfold gstep
       cases ht : toldB r with
       | none => rw [ht] at hnr; cases hnr
       | some x =>
        rw [ht] at hnr
        simp only at hnr ⊢
        rw [if_neg HW.out, hnr]
      have HGS := Lib.hid hgs
      have HSM := Lib.hid hsm
      have hbX := fr_alloc (fr_refl w7) (.cells n.cells.toArray 70)
      have hI8 := hI7.below hbX
      have hI9 := hI8.below (fr_alloc (fr_refl _) (.cells n.cells.toArray 70))
      have hX8 := Blk.new w7 70 n.cells.toArray
      have hll : (st.2.map Note.cells).length < 1000000 := by rw [List.length_map]; have := hI7.len; omega
      have hown8 := hI8.n
      have hc1 : Blk (w7.alloc (.cells n.cells.toArray 70)) w1.heap.size 25 #[vW, vN] := hI8.f
      have hsz8 := hI8.bel.size
      clear hgs hsm hnr hbX
      obtain ⟨nk, na, nb, nlo, nhi, nln, nld, nmn, nmd⟩ := n
      unfold noteV
      simp only [Note.cells] at hI8 hI9 hX8 hown8 hc1 hsz8
      simp only
      go_upto_region 13 with (fail)
      generalize w7.alloc (.cells #[.int .i64 nk, .int .i64 na, .int .i64 nb, .int .i64 nlo, .int .i64 nhi, .int .i64 nln, .int .i64 nld, .int .i64 nmn, .int .i64 nmd] 70) = w8 at *
      generalize w7.heap.size = bX at *
      have hcf := fun j => hc1.cell j
      have hcx := fun j => hX8.cell j
      go_wp2_with (at_builtin; go_must (refine app_row rfl (.tmp 61) (.tmp 63) rfl Tryz.underlying23 info_noteG rfl (by decide) (by decide) w1.heap.size vN _ rfl rfl hown8 rfl (by simp [Value.oneCell']) hll hsz8 ?_); intro B0 cap0 wy hown9 hg9; have hF9 := hI9.f.grown hg9 (ownS_not hI9.n hI9.f (by decide)); clear hcf hcx; have hcf := fun j => hF9.cell j; have hff := fun j => hF9.frozen j)
      rw [List.length_map] at hown9
      refine ⟨⟨i + 1, _, _, _, hlt, rfl, hI9.addN HR1.out HGS.out HSM.out hown9 hg9 (Nat.le_refl _)⟩, ?_⟩
      simp [intOf]; omega
     ·have hgs : ∀ st', gstep st' r = none := fun st' => by
       unfold noteR at hnn
       cases ht : toldB r with
       | none => exact gstep_told ht st'
       | some x => rw [ht] at hnn; exact gstep_none ht HW.out hnn st'
      have hno := ggo_fail (R := R) (st := ([], [])) HR1.out hgs
      have hno2 := HGP.out _ hno
      simp only at hno2
      rw [← HGR.out] at hno2
      have HNO := Lib.hid hno2
      have hbw7 := fr_call hbw6 hb7
      clear hno hno2 hnn htold hnoted hgs
      go_wp2_with fail
      exact ⟨rfl, Or.inr ⟨HNO.out, s, rfl, hbw7⟩⟩
   ·obtain rfl : i = q := by omega
    obtain ⟨ws, ns⟩ := st
    have hgo := hI.go
    rw [List.take_of_length_le (by rw [HRL.out]; exact Nat.le_refl _)] at hgo
    have hgp := HGP.out _ hgo
    simp only at hgp
    rw [← HGR.out] at hgp
    have HGP2 := Lib.hid hgp
    obtain ⟨A, wc, rfl⟩ := hI.w.form
    obtain ⟨N, nc, rfl⟩ := hI.n.form
    have hlen : ws.length + ns.length ≤ 498 := by have := hI.len; simp only at this; omega
    have hbw4 := fr_call hbw hI.bel
    have hsz1 := hbw.size
    have hfi : FindAt w4 A N ws ns := by
     have h1 := hI.w
     have h2 := hI.n
     simp only at h1 h2
     exact ⟨h1.rd, h2.rd⟩
    have hfr : Fresh w.heap.size A ∧ Fresh w.heap.size N := ⟨fun ad e => Nat.le_trans hsz1 (hI.w.ge ad.block (by rw [e]; rfl)), fun ad e => Nat.le_trans hsz1 (hI.n.ge ad.block (by rw [e]; rfl))⟩
    have hfA : ∀ ad, A = some ad → ad.block ≠ w.heap.size := fun ad e => by have := hI.w.ge ad.block (by rw [e]; rfl); omega
    have hfN : ∀ ad, N = some ad → ad.block ≠ w.heap.size := fun ad e => by have := hI.n.ge ad.block (by rw [e]; rfl); omega
    have htx := text_any A N wc nc ws ns w4 hfi (fun s hs => (hI.sm.1 s hs).mid) (fun n hn => (hI.sm.2 n hn).mid) (by omega) (hT.keep hbw4)
    have hF := hI.f
    simp only [List.length_map] at hF ⊢
    have hR4 := (hR0.keep hI.bel)
    clear hgo hgp hI
    have hcf := fun j => hF.cell j
    go_wp2_with fail
    refine htx.mono ?_
    rintro e w5 ⟨rfl, hb5⟩
    clear htx hcf
    have hF5 := hF.keep hb5
    have hR5 := hR4.keep hb5
    have hfi5 := hfi.keep hb5
    have hbw5 := fr_call hbw4 hb5
    by_cases he : findText ws ns = l
    ·have heb : (findText ws ns == l) = true := by rw [he]; exact beq_self_eq_true _
     have hyes : gread l = some (ws, ns) := by rw [HGP2.out, if_pos he]
     have HY := Lib.hid hyes
     clear he hyes
     go_wp2_with fail
     refine (sure_yes _ _).mono ?_
     rintro e w6 ⟨rfl, rfl⟩
     have hcf := fun j => hF5.cell j
     go_wp2_with (refine wpList_store_blk rfl _ _ _ rfl w.heap.size 25 _ _ rfl rfl hR5 rfl (by kernel_rfl) (by simp [Value.oneCell']) ?_; intro W7 hR7 hg7)
     refine bodyPost_ret (results_blk1 rfl _ _ _ _ rfl hR7 Tryz.underlying25 rfl (by kernel_rfl)) rfl (Or.inl ⟨ws, ns, A, N, wc, nc, HY.out, rfl, ?_, hfr, hbw5.grown hg7 hbw5.size (by intro k hk; cases hk; exact Nat.le_refl _)⟩)
     exact ⟨hfi5.ws.far hg7 hfA, hfi5.ns.far hg7 hfN⟩
    ·have heb : (findText ws ns == l) = false := beq_eq_false_iff_ne.2 he
     have hno : gread l = none := by rw [HGP2.out, if_neg he]
     have HNO := Lib.hid hno
     clear he hno
     go_wp2_with fail
     refine (sure_no _ _).mono ?_
     rintro e w6 ⟨rfl, rfl⟩
     go_wp2_with fail
     exact ⟨rfl, Or.inr ⟨HNO.out, _, rfl, hbw5⟩⟩
end Go.Proofs.YtfgghicdkcjdgaaGreatDoor
end
