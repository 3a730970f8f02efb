/- The law GuessTrue, walked (by gen_true.py). -/
import Derived.Test.YtfgghicdkcjdgaaGreatDoorMG30
import Derived.Test.YtfgghicdkcjdgaaGreatDoorMG13
import Derived.Test.YtfgghicdkcjdgaaGreatDoorMG20
import Derived.BigRegion
namespace Go.Proofs.YtfgghicdkcjdgaaGreatDoor
open Go.RowKit Go.Shelf

theorem pair_eq (a b c d : Int) : decide ((a, b) = (c, d)) = (a == c && b == d) := by
 by_cases h : a = c
 ·by_cases h2 : b = d
  ·simp [h, h2]
  ·simp [h, h2]
 ·simp [h]
theorem Ends.two {W : World} {g M : Nat} {E E' : Nat → Bool} (h : Ends W g M E) {i : Nat} (hi : i + 1 < M) (b0 b1 : Bool) (hE : ∀ j, E' j = if j = i + 1 then b1 else if j = i then b0 else E j) :
  Ends (((W.setCell ⟨g, i, none⟩ (.bool b0)).setCell ⟨g, i + 1, none⟩ (.bool b1)).drew) g M E' :=
 Ends.congr (((h.set (by omega) b0).set hi b1).keep (fr_drew (fr_refl _))) (fun j _ => (hE j).symm)
set_option maxRecDepth 100000 in
set_option maxHeartbeats 16000000 in
theorem true_main (A N C : Option Addr) (c d i : Nat) (ws : List Wh) (ns : List Note) (x : List Wh) (w : World) (hf : FindAt w A N ws ns) (hx : RdS w C 2 (x.map Wh.cells)) (hT : TabP w) (hM : MaxP w) (s1 : (decide ((ws.length : Int) ≤ 8) && decide ((ns.length : Int) ≤ 11)) = true) (s1a : ws.length ≤ 8 ∧ ns.length ≤ 11) (k1 : x.length ≤ 5) (k1b : ¬ (5 < (x.length : Int))) (f1 : findB ws ns = true) (o1 : Fits ws (teethL x)) :
  Calls Tryz.prog 3 #[.agg #[.slice A ws.length c, .slice N ns.length d], .slice C x.length i] w fun e' w' => e' = .returned (.bool true) ∧ Below w.heap.size w w' := by
 have hfO := hf
 have hxO := hx
 have hfr := fr_alloc (fr_refl w) (.cells #[.slice A ws.length c, .slice N ns.length d] 25)
 have hX0 : Blk (w.alloc (.cells #[.slice A ws.length c, .slice N ns.length d] 25)) (w.heap.size) 25 #[.slice A ws.length c, .slice N ns.length d] := (Blk.new_at _ _ (by simp))
 replace hf := hf.keep hfr
 replace hx := hx.keep hfr
 have hc0 := fun j => hX0.cell j
 have hl0 := hX0.lt
 have hv := find_ok f1
 have F1 := Lib.hid f1
 have o1H := Lib.hid o1
 have hw6 := hv.six
 have HV := Lib.hid hv
 obtain ⟨ts, hts⟩ : ∃ ts, guessL ws ns = ts := ⟨_, rfl⟩
 obtain ⟨p, hp⟩ : ∃ p, (breaksL ns (teethL x)).length = p := ⟨_, rfl⟩
 have hpm : p = 0 → teethL x ∈ ts := fun h => by rw [← hts, mem_guess]; exact ⟨o1, List.length_eq_zero_iff.1 (hp.trans h)⟩
 have hli := fun W h => List_ok A N c d ws ns ts hts W h hv
 have hlo := fun hl W h => List_own A N c d ws ns ts hts W h hv hl
 have hbr := fun W h1 h2 => Breaks_own A N C c d i x.length ws ns x W h1 hv h2 rfl o1
 have hk0 := fun (h0 : ts = []) W h => Known_none A N c d ws ns W h hv (hts.trans h0)
 have hk1 := fun (h0 : ¬ ts = []) W h => Known_own A N c d ws ns W h hv ts hts h0
 have htu := fun W h => Turns_ok A N c d ws ns ts hts W h hv
 have hok : OkT ts := by rw [← hts]; exact guess_okT hv
 have hfit : ∀ t ∈ ts, Fits ws t := fun t ht => by rw [← hts] at ht; exact (mem_guess.1 ht).1
 have heven : ∀ t ∈ ts, t.length % 2 = 0 := fun t ht => by rw [← hts] at ht; exact guess_even hv.even t ht
 unfold ListPost at hli
 unfold RetD at hbr
 unfold RetPE at hk0
 unfold TurnPost at htu
 rw [hp] at hbr
 have HOK := Lib.hid hok
 have HFIT := Lib.hid hfit
 have HEV := Lib.hid heven
 have HPM := Lib.hid hpm
 clear hok hfit heven hpm hp hts hv f1 o1
 by_cases h200 : 200 < ts.length
 ·simp only [if_pos h200] at hli
  clear hlo hk0 hk1 htu h200
  unfold RetL at hli
  go_enter Tryz.func3, Tryz.ntmps3
  go_wp2_with fail
  refine (short_any A N ws.length ns.length c d _ _ s1).mono ?_
  rintro e' w1 ⟨rfl, hb⟩
  replace hfr := fr_call hfr hb
  replace hf := hf.keep hb
  replace hx := hx.keep hb
  replace hX0 := hX0.keep hb
  clear hb hc0
  have hc0 := fun j => hX0.cell j
  have hl0 := hX0.lt
  go_wp2_with fail
  refine (Find8_any A N ws.length ns.length c d ws ns _ hf rfl rfl (by omega) (by omega) _ F1.out).mono ?_
  rintro e' w1 ⟨rfl, hb⟩
  replace hfr := fr_call hfr hb
  replace hf := hf.keep hb
  replace hx := hx.keep hb
  replace hX0 := hX0.keep hb
  clear hb hc0
  have hc0 := fun j => hX0.cell j
  have hl0 := hX0.lt
  go_wp2_with fail
  refine (Own8_any A N C ws.length ns.length c d x.length i ws x _ hf.ws hx rfl (by omega) rfl (by omega) true (by simp [o1H.out])).mono ?_
  rintro e' w1 ⟨rfl, hb⟩
  replace hfr := fr_call hfr hb
  replace hf := hf.keep hb
  replace hx := hx.keep hb
  replace hX0 := hX0.keep hb
  clear hb hc0
  have hc0 := fun j => hX0.cell j
  have hl0 := hX0.lt
  go_wp2_with fail
  refine (hli _ hf).mono ?_
  rintro e' w1 ⟨L, lc, rfl, hL, hb⟩
  replace hfr := fr_call hfr hb
  replace hf := hf.keep hb
  replace hx := hx.keep hb
  replace hX0 := hX0.keep hb
  clear hb hc0
  have hc0 := fun j => hX0.cell j
  have hl0 := hX0.lt
  go_wp2_with fail
  refine (hbr _ hf hx).mono ?_
  rintro e' w1 ⟨P1, pc1, rfl, -, hb⟩
  replace hfr := fr_call hfr hb
  replace hf := hf.keep hb
  replace hx := hx.keep hb
  replace hL := hL.keep hb
  replace hX0 := hX0.keep hb
  clear hb hc0
  have hc0 := fun j => hX0.cell j
  have hl0 := hX0.lt
  go_wp2_with fail
  refine (known_is _ (hT.keep hfr) (hM.keep hfr)).mono ?_
  rintro e' w1 ⟨rfl, hb⟩
  replace hfr := fr_call hfr hb
  clear hb
  go_wp2_with fail
  go_ret
  exact ⟨rfl, hfr⟩
 ·have hlob := hlo h200
  have h200b : ¬ (200 < (ts.length : Int)) := by omega
  clear hli hlo
  by_cases h0 : ts = []
  ·subst h0
   have hp0 : ((p : Int) == 0) = false := beq_eq_false_iff_ne.2 (fun h => by have := HPM.out (by omega); cases this)
   have hk0b := hk0 rfl
   simp only [if_true] at htu
   unfold RetTT encF at htu
   clear hk0 hk1 h200 h200b
   go_enter Tryz.func3, Tryz.ntmps3
   go_wp2_with fail
   refine (short_any A N ws.length ns.length c d _ _ s1).mono ?_
   rintro e' w1 ⟨rfl, hb⟩
   replace hfr := fr_call hfr hb
   replace hf := hf.keep hb
   replace hx := hx.keep hb
   replace hX0 := hX0.keep hb
   clear hb hc0
   have hc0 := fun j => hX0.cell j
   have hl0 := hX0.lt
   go_wp2_with fail
   refine (Find8_any A N ws.length ns.length c d ws ns _ hf rfl rfl (by omega) (by omega) _ F1.out).mono ?_
   rintro e' w1 ⟨rfl, hb⟩
   replace hfr := fr_call hfr hb
   replace hf := hf.keep hb
   replace hx := hx.keep hb
   replace hX0 := hX0.keep hb
   clear hb hc0
   have hc0 := fun j => hX0.cell j
   have hl0 := hX0.lt
   go_wp2_with fail
   refine (Own8_any A N C ws.length ns.length c d x.length i ws x _ hf.ws hx rfl (by omega) rfl (by omega) true (by simp [o1H.out])).mono ?_
   rintro e' w1 ⟨rfl, hb⟩
   replace hfr := fr_call hfr hb
   replace hf := hf.keep hb
   replace hx := hx.keep hb
   replace hX0 := hX0.keep hb
   clear hb hc0
   have hc0 := fun j => hX0.cell j
   have hl0 := hX0.lt
   go_wp2_with fail
   refine (hlob _ hf).mono ?_
   rintro e' w1 ⟨L, lc, rfl, hL, hb⟩
   replace hfr := fr_call hfr hb
   replace hf := hf.keep hb
   replace hx := hx.keep hb
   replace hX0 := hX0.keep hb
   clear hb hc0
   have hc0 := fun j => hX0.cell j
   have hl0 := hX0.lt
   go_wp2_with fail
   refine (hbr _ hf hx).mono ?_
   rintro e' w1 ⟨P1, pc1, rfl, -, hb⟩
   replace hfr := fr_call hfr hb
   replace hf := hf.keep hb
   replace hx := hx.keep hb
   replace hL := hL.keep hb
   replace hX0 := hX0.keep hb
   clear hb hc0
   have hc0 := fun j => hX0.cell j
   have hl0 := hX0.lt
   go_wp2_with fail
   refine (hk0b _ hf).mono ?_
   rintro e' w1 ⟨K, kc, rfl, -, hb⟩
   replace hfr := fr_call hfr hb
   replace hf := hf.keep hb
   replace hx := hx.keep hb
   replace hX0 := hX0.keep hb
   clear hb hc0
   have hc0 := fun j => hX0.cell j
   have hl0 := hX0.lt
   go_wp2_with fail
   refine (htu _ hf).mono ?_
   rintro e' w1 ⟨rfl, hb⟩
   replace hfr := fr_call hfr hb
   replace hf := hf.keep hb
   replace hx := hx.keep hb
   replace hX0 := hX0.keep hb
   clear hb hc0
   have hc0 := fun j => hX0.cell j
   have hl0 := hX0.lt
   have hN1 : Blk ((w1.alloc (.cells #[.int .i64 0, .int .i64 0] 40)).alloc (.cells #[.int .i64 0, .int .i64 0] 40)) w1.heap.size 40 #[.int .i64 0, .int .i64 0] := (Blk.new w1 _ _).alloc _
   have hN2 : Blk ((w1.alloc (.cells #[.int .i64 0, .int .i64 0] 40)).alloc (.cells #[.int .i64 0, .int .i64 0] 40)) (w1.heap.size + 1) 40 #[.int .i64 0, .int .i64 0] := Blk.new_at _ _ (by simp)
   have hg2 := fr_alloc (fr_alloc (fr_refl w1) (.cells #[.int .i64 0, .int .i64 0] 40)) (.cells #[.int .i64 0, .int .i64 0] 40)
   go_wp2_with (first | (refine wpList_store_blk rfl _ _ _ rfl w1.heap.size 40 _ _ rfl rfl hN1 rfl (by kernel_rfl) (by simp [Value.oneCell']) ?_; intro Wa hLo hga; have hMa := hN2.grown hga (by simp)) | (refine wpList_store_blk rfl _ _ _ rfl (w1.heap.size + 1) 40 _ _ rfl rfl hMa rfl (by kernel_rfl) (by simp [Value.oneCell']) ?_; intro w2 hHi hgb; replace hLo := hLo.grown hgb (by simp); have hb : Below w1.heap.size w1 w2 := (hg2.grown hga hg2.size (by intro k hk; cases hk; omega)).grown hgb (hg2.grown hga hg2.size (by intro k hk; cases hk; omega)).size (by intro k hk; cases hk; omega); replace hfr := fr_call hfr hb; replace hf := hf.keep hb; replace hx := hx.keep hb; replace hX0 := hX0.keep hb; clear hc0; have hc0 := fun j => hX0.cell j; replace hl0 := hX0.lt; have hcL := fun j => hLo.cell j; have hcH := fun j => hHi.cell j; have hlL := hLo.lt; have hlH := hHi.lt; clear hN1 hN2 hg2 hMa hga hgb hb))
   refine (known_is _ (hT.keep hfr) (hM.keep hfr)).mono ?_
   rintro e' w1 ⟨rfl, hb⟩
   replace hfr := fr_call hfr hb
   clear hb
   go_wp2_with fail
   go_ret
   exact ⟨rfl, hfr⟩
  ·have hk1b := hk1 h0
   simp only [if_neg h0] at htu
   unfold RetTT encF at htu
   obtain ⟨⟨hz1, hz2⟩, hbet, hlow, hhigh⟩ := turns_law HOK.out h0
   obtain ⟨⟨la, lb⟩, hlo2⟩ : ∃ z, lowOf ts = z := ⟨_, rfl⟩
   obtain ⟨⟨ua, ub⟩, hhi2⟩ : ∃ z, highOf ts = z := ⟨_, rfl⟩
   rw [hlo2] at hz1 hbet hlow htu
   rw [hhi2] at hz2 hbet hhigh htu
   simp only at htu
   have hm0 : ((ts.length : Int) == 0) = false := beq_eq_false_iff_ne.2 (by have := List.length_pos_iff.2 h0; omega)
   have mo3 : Mo la := by have h := hz1.1; unfold Mo; simp only at h; omega
   have mo4 : Mo lb := by have h := hz1.2; unfold Mo; simp only at h; omega
   have mo5 : Mo ua := by have h := hz2.1; unfold Mo; simp only at h; omega
   have mo6 : Mo ub := by have h := hz2.2; unfold Mo; simp only at h; omega
   have HBET := Lib.hid hbet
   have HLOW := Lib.hid hlow
   have HHIGH := Lib.hid hhigh
   have c1 : ((ws.length : Int) != (ws.length : Int)) = false := by simp
   have HNE := Lib.hid h0
   have hp0 : ¬ ((p : Int) == 0) = true ∨ True := Or.inr trivial
   clear hk0 hk1 h200 hbet hlow hhigh hlo2 hhi2 h0 hp0
   go_enter Tryz.func3, Tryz.ntmps3
   go_wp2_with fail
   refine (short_any A N ws.length ns.length c d _ _ s1).mono ?_
   rintro e' w1 ⟨rfl, hb⟩
   replace hfr := fr_call hfr hb
   replace hf := hf.keep hb
   replace hx := hx.keep hb
   replace hX0 := hX0.keep hb
   clear hb hc0
   have hc0 := fun j => hX0.cell j
   have hl0 := hX0.lt
   go_wp2_with fail
   refine (Find8_any A N ws.length ns.length c d ws ns _ hf rfl rfl (by omega) (by omega) _ F1.out).mono ?_
   rintro e' w1 ⟨rfl, hb⟩
   replace hfr := fr_call hfr hb
   replace hf := hf.keep hb
   replace hx := hx.keep hb
   replace hX0 := hX0.keep hb
   clear hb hc0
   have hc0 := fun j => hX0.cell j
   have hl0 := hX0.lt
   go_wp2_with fail
   refine (Own8_any A N C ws.length ns.length c d x.length i ws x _ hf.ws hx rfl (by omega) rfl (by omega) true (by simp [o1H.out])).mono ?_
   rintro e' w1 ⟨rfl, hb⟩
   replace hfr := fr_call hfr hb
   replace hf := hf.keep hb
   replace hx := hx.keep hb
   replace hX0 := hX0.keep hb
   clear hb hc0
   have hc0 := fun j => hX0.cell j
   have hl0 := hX0.lt
   go_wp2_with fail
   refine (hlob _ hf).mono ?_
   rintro e' w1 ⟨L, lc, rfl, hL, hb⟩
   replace hL := hL.base hfr.size
   replace hfr := fr_call hfr hb
   replace hf := hf.keep hb
   replace hx := hx.keep hb
   replace hX0 := hX0.keep hb
   clear hb hc0
   have hc0 := fun j => hX0.cell j
   have hl0 := hX0.lt
   go_wp2_with fail
   refine (hbr _ hf hx).mono ?_
   rintro e' w1 ⟨P1, pc1, rfl, -, hb⟩
   replace hfr := fr_call hfr hb
   replace hf := hf.keep hb
   replace hx := hx.keep hb
   replace hL := hL.keep hb
   replace hX0 := hX0.keep hb
   clear hb hc0
   have hc0 := fun j => hX0.cell j
   have hl0 := hX0.lt
   go_upto_region 7 with (fail)
   go_cut [78] from 58 to 77 (fun s78 wc => s78 = .bool false ∧ wc = w1)
   case first =>
    by_cases hp0 : p = 0
    ·have e1 : ((p : Int) == 0) = true := by rw [hp0]; rfl
     clear hp0
     go_wp2_with fail
     go_meet
     case rel => exact ⟨by simp [h200b], rfl⟩
    ·have e1 : ((p : Int) == 0) = false := beq_eq_false_iff_ne.2 (by omega)
     clear hp0
     go_wp2_with fail
     go_meet
     case rel => exact ⟨by simp [h200b], rfl⟩
   case rest =>
   obtain ⟨rfl, rfl⟩ := hcut
   go_wp2_with fail
   refine (hk1b _ hf).mono ?_
   rintro e' w1 ⟨K, kc, rfl, hK, hb⟩
   replace hfr := fr_call hfr hb
   replace hf := hf.keep hb
   replace hx := hx.keep hb
   replace hL := hL.keep hb
   replace hX0 := hX0.keep hb
   clear hb hc0
   have hc0 := fun j => hX0.cell j
   have hl0 := hX0.lt
   go_wp2_with fail
   refine (htu _ hf).mono ?_
   rintro e' w1 ⟨rfl, hb⟩
   replace hfr := fr_call hfr hb
   replace hf := hf.keep hb
   replace hx := hx.keep hb
   replace hL := hL.keep hb
   replace hK := hK.keep hb
   replace hX0 := hX0.keep hb
   clear hb hc0
   have hc0 := fun j => hX0.cell j
   have hl0 := hX0.lt
   have hN1 : Blk ((w1.alloc (.cells #[.int .i64 0, .int .i64 0] 40)).alloc (.cells #[.int .i64 0, .int .i64 0] 40)) w1.heap.size 40 #[.int .i64 0, .int .i64 0] := (Blk.new w1 _ _).alloc _
   have hN2 : Blk ((w1.alloc (.cells #[.int .i64 0, .int .i64 0] 40)).alloc (.cells #[.int .i64 0, .int .i64 0] 40)) (w1.heap.size + 1) 40 #[.int .i64 0, .int .i64 0] := Blk.new_at _ _ (by simp)
   have hg2 := fr_alloc (fr_alloc (fr_refl w1) (.cells #[.int .i64 0, .int .i64 0] 40)) (.cells #[.int .i64 0, .int .i64 0] 40)
   go_wp2_with (first | (refine wpList_store_blk rfl _ _ _ rfl w1.heap.size 40 _ _ rfl rfl hN1 rfl (by kernel_rfl) (by simp [Value.oneCell']) ?_; intro Wa hLo hga; have hMa := hN2.grown hga (by simp)) | (refine wpList_store_blk rfl _ _ _ rfl (w1.heap.size + 1) 40 _ _ rfl rfl hMa rfl (by kernel_rfl) (by simp [Value.oneCell']) ?_; intro w2 hHi hgb; replace hLo := hLo.grown hgb (by simp); have hb : Below w1.heap.size w1 w2 := (hg2.grown hga hg2.size (by intro k hk; cases hk; omega)).grown hgb (hg2.grown hga hg2.size (by intro k hk; cases hk; omega)).size (by intro k hk; cases hk; omega); replace hfr := fr_call hfr hb; replace hf := hf.keep hb; replace hx := hx.keep hb; replace hL := hL.keep hb; replace hK := hK.keep hb; replace hX0 := hX0.keep hb; clear hc0; have hc0 := fun j => hX0.cell j; replace hl0 := hX0.lt; have hcL := fun j => hLo.cell j; have hcH := fun j => hHi.cell j; have hlL := hLo.lt; have hlH := hHi.lt; clear hN1 hN2 hg2 hMa hga hgb hb))
   refine (sized_yes la lb hz1 _).mono ?_
   rintro e' w3 ⟨rfl, hb⟩
   replace hfr := fr_call hfr hb
   replace hf := hf.keep hb
   replace hx := hx.keep hb
   replace hL := hL.keep hb
   replace hK := hK.keep hb
   replace hX0 := hX0.keep hb
   replace hLo := hLo.keep hb
   replace hHi := hHi.keep hb
   clear hb hc0 hcL hcH
   have hc0 := fun j => hX0.cell j
   have hcL := fun j => hLo.cell j
   have hcH := fun j => hHi.cell j
   have hl0 := hX0.lt
   have hlL := hLo.lt
   have hlH := hHi.lt
   go_wp2_with fail
   refine (sized_yes ua ub hz2 _).mono ?_
   rintro e' w3 ⟨rfl, hb⟩
   replace hfr := fr_call hfr hb
   replace hf := hf.keep hb
   replace hx := hx.keep hb
   replace hL := hL.keep hb
   replace hK := hK.keep hb
   replace hX0 := hX0.keep hb
   replace hLo := hLo.keep hb
   replace hHi := hHi.keep hb
   clear hb hc0 hcL hcH
   have hc0 := fun j => hX0.cell j
   have hcL := fun j => hLo.cell j
   have hcH := fun j => hHi.cell j
   have hl0 := hX0.lt
   have hlL := hLo.lt
   have hlH := hHi.lt
   go_upto_if 128 with (fail)
   go_cut [5] from 126 to 132 (fun s5 wc => ∃ (L2 : Option Addr) (lc2 : Nat) (us : List (List Wh)), s5 = .slice L2 us.length lc2 ∧ PsR wc L2 us ∧ Hid ((∀ q ∈ us, teethL q ∈ ts) ∧ (∀ t ∈ ts, ∃ q ∈ us, teethL q = t)) ∧ Hid (us.length ≤ 300) ∧ FindAt wc A N ws ns ∧ Blk wc w.heap.size 25 #[.slice A ws.length c, .slice N ns.length d] ∧ Blk wc w1.heap.size 40 #[.int .i64 la, .int .i64 lb] ∧ Blk wc (w1.heap.size + 1) 40 #[.int .i64 ua, .int .i64 ub] ∧ RdS wc K 2 ((knownL ts ws.length).map Wh.cells) ∧ Below w.heap.size w wc)
   case first =>
    by_cases hp0 : p = 0
    ·have e1 : ((p : Int) == 0) = true := by rw [hp0]; rfl
     have HX := Lib.hid (HPM.out hp0)
     clear hp0
     obtain ⟨vs, hown, hps⟩ := hL
     have hvl : vs.length = ts.length := by rw [hps.1, List.length_map]
     have HVL := Lib.hid hvl
     clear hvl
     go_wp2_with (at_builtin; go_must (refine app_val rfl (.tmp 129) (.tmp 131) rfl Tryz.underlying30 info_pairs rfl (by omega) w.heap.size _ vs (.slice C x.length i) rfl rfl hown rfl (by have := HVL.out; omega) hfr.size ?_); intro L1 lc1 w4 hown4 hg4)
     go_meet
     case rel =>
      have ha := fr_alloc (fr_refl w3) (.cells #[.slice C x.length i] 26)
      have hownA := hown.alloc (.cells #[.slice C x.length i] 26)
      have hfr4 : Below w.heap.size w w4 := (fr_call hfr ha).grown hg4 (fr_call hfr ha).size hown.ge
      have hps4 := (hps.below ha).grown hg4 (hownA.not_type (by decide))
      have hx4 := hxO.keep hfr4
      refine ⟨L1, lc1, ts.map pairsOf ++ [x], ?_, PsR.of_own hown4 (fun j hj => ?_), Lib.hid ⟨fun q hq => ?_, fun t ht => ?_⟩, Lib.hid (by simp; omega), hfO.keep hfr4, (hX0.keep ha).grown hg4 (ownS_not hownA.rows (hX0.keep ha) (by decide)), (hLo.keep ha).grown hg4 (ownS_not hownA.rows (hLo.keep ha) (by decide)), (hHi.keep ha).grown hg4 (ownS_not hownA.rows (hHi.keep ha) (by decide)), ((hK.keep ha).grownT hg4 (hownA.not_type (by decide))).rd, hfr4⟩
      ·rw [HVL.out]
       simp
      ·by_cases hjl : j < (ts.map pairsOf).length
       ·obtain ⟨A', c', h1, h2⟩ := hps4.2 j _ (List.getElem?_eq_getElem hjl)
        refine ⟨A', c', ?_, ?_⟩
        ·rw [List.getElem?_append_left (by rw [hps.1]; exact hjl), h1, List.getElem_append_left hjl]
        ·rw [List.getElem_append_left hjl]
         exact h2.1
       ·obtain rfl : j = (ts.map pairsOf).length := by simp at hj hjl ⊢; omega
        refine ⟨C, i, ?_, ?_⟩
        ·rw [List.getElem?_append_right (by rw [hps.1]; exact Nat.le_refl _), hps.1, Nat.sub_self]
         simp
        ·simp only [List.getElem_concat_length]
         exact hx4
      ·rcases List.mem_append.1 hq with hq | hq
       ·exact (mem_pairs HEV.out).1 hq
       ·rw [List.mem_singleton.1 hq]; exact HX.out
      ·exact ⟨pairsOf t, List.mem_append_left _ (List.mem_map.2 ⟨t, ht, rfl⟩), teeth_pairsOf t (HEV.out t ht)⟩
    ·have e1 : ((p : Int) == 0) = false := beq_eq_false_iff_ne.2 (by omega)
     clear hp0
     go_wp2_with fail
     go_meet
     case rel => exact ⟨L, lc, ts.map pairsOf, by simp, PsR.of_at hL.at, Lib.hid ⟨fun q hq => (mem_pairs HEV.out).1 hq, fun t ht => ⟨pairsOf t, List.mem_map.2 ⟨t, ht, rfl⟩, teeth_pairsOf t (HEV.out t ht)⟩⟩, Lib.hid (by simp; omega), hf, hX0, hLo, hHi, hK.rd, hfr⟩
   case rest =>
   obtain ⟨L2, lc2, us, rfl, hU, HUS, HUL, hf, hX0, hLo, hHi, hK, hfr⟩ := hcut
   clear hbr hlob hk1b htu hL hfO hxO
   obtain ⟨i0, hi0, hz0, hz3, hz4⟩ := info_parts info_boolE
   have hcX0 := fun j => hX0.cell j
   have zm : IntKind.i64.wrap (2 * (ws.length : Int)) = 2 * (ws.length : Int) := IntWalk.i64_in _ (by omega)
   go_wp2_with (at_make; refine wpList_make_full wc rfl (.tmp 135) (.tmp 135) 44 rfl wc.heap.size 4 i0 (.bool false) 1 Tryz.underlying44 hi0 hz0 hz3 .i64 .i64 _ _ (2 * ws.length) rfl rfl (by push_cast; rfl) (by push_cast; rfl) (by rw [hz4]; omega) (by unfold maxLen; omega) (Nat.le_refl _) ?_; intro wE hEo hgE)
   have hbE : Below wc.heap.size wc wE := (fr_refl wc).grown hgE (fr_refl wc).size (by intro k hk; cases hk)
   have hE0 : Ends wE wc.heap.size (2 * ws.length) (fun _ => false) := Ends.made (by
    have h := hEo
    rw [Nat.mul_one, show (Value.bool false).cells = #[.bool false] from rfl, toList_madeCells_one] at h
    exact h)
   obtain ⟨kn, hkn⟩ : ∃ kn, knownL ts ws.length = kn := ⟨_, rfl⟩
   have hknl : kn.length = ws.length := by rw [← hkn, knownL_len]
   rw [hkn] at hK
   have HKN := Lib.hid hkn
   have HKL := Lib.hid hknl
   have hul := HUL.out
   clear hkn hknl hEo hgE hcX0 hi0 hz0 hz3 hz4 zm
   go_wp2_with fail
   go_loopw [15, 16, 17] (fun s15 s16 s17 wr => ∃ n : Nat, n ≤ us.length ∧ s17 = .int .i64 n ∧ s15 = .bool (seenB (la, lb) (us.take n)) ∧ s16 = .bool (seenB (ua, ub) (us.take n)) ∧ Ends wr wc.heap.size (2 * ws.length) (mark ((us.take n).map teethL) kn) ∧ Below wc.heap.size wc wr) (fun _ _ s17 _ => us.length - (intOf s17).toNat)
   case atStart => exact ⟨0, Nat.zero_le _, rfl, rfl, rfl, hE0.congr (fun j _ => (mark_nil kn j).symm), hbE⟩
   case round =>
    clear hE0 hbE
    obtain ⟨n, hn, rfl, rfl, rfl, hE, hbr⟩ := hrel
    by_cases hlt : n < us.length
    ·obtain ⟨ad, Q, qc, rfl, hab, hcu, hrq⟩ := (hU.keep hbr) n hlt
     have HW := Lib.hid (hU n hlt)
     have hq := HUS.out.1 _ (List.getElem_mem hlt)
     have HTK := Lib.hid (show us.take (n + 1) = us.take n ++ [us[n]] from List.take_succ_eq_append_getElem hlt)
     generalize us[n] = q at *
     have hqT := HOK.out _ hq
     have hql := teethL_len q
     have hln := (HFIT.out _ hq).len
     have hTP : TeethP q := by have h := pairs_teeth hqT.2; rw [pairs_teethL] at h; exact h
     have hq3 : 1 ≤ q.length ∧ q.length ≤ 3 := by have := hqT.1; omega
     have hsz := turn_sized hTP hq3.2
     have hfrac : fracOf (teethL q) = ((turnD q : Int), (turnV q : Int)) := by unfold fracOf; rw [pairs_teethL]
     have hbt := HBET.out _ hq
     rw [hfrac] at hbt
     have HFR := Lib.hid hfrac
     have HQF := Lib.hid (HFIT.out _ hq)
     have hkin := fun (m : Nat) (hm : m < ws.length) => known_in (n := ws.length) HNE.out hm hq
     rw [HKN.out] at hkin
     have HKI := Lib.hid hkin
     have hte := fun W h => Teeth8_any Q q.length qc q W h rfl (by omega)
     unfold RetO at hte
     rw [hln] at hte
     have HLN := Lib.hid hln
     have htr := fun Q qc W h => tTurns_ok Q q.length qc q W h rfl hq3.1 hq3.2 hTP
     unfold RetT at htr
     obtain ⟨yd, hyd⟩ : ∃ z : Int, (turnD q : Int) = z := ⟨_, rfl⟩
     obtain ⟨yv, hyv⟩ : ∃ z : Int, (turnV q : Int) = z := ⟨_, rfl⟩
     rw [hyd, hyv] at hsz hbt htr
     have mo1 : Mo yd := by have h := hsz.1; unfold Mo; simp only at h; omega
     have mo2 : Mo yv := by have h := hsz.2; unfold Mo; simp only at h; omega
     have HYD := Lib.hid hyd
     have HYV := Lib.hid hyv
     have i1 : 0 ≤ (n : Int) := by omega
     have i2 : (n : Int) < (us.length : Int) := by omega
     clear hq hqT hql hln hTP hfrac hkin hyd hyv
     have hX := hX0.keep hbr
     go_upto_region 22 with (fail)
     refine wp_region_noPanic ?_
     have hkS : ∀ W, Below wr.heap.size wr W → (∀ j, W.cell? ⟨w.heap.size, j, none⟩ = (#[.slice A ws.length c, .slice N ns.length d] : Array Value)[j]?) ∧ W.cell? (ad.add n) = some (.slice Q q.length qc) := fun W hb => ⟨fun j => (hX.keep hb).cell j, (hb.cell (p := ad.add n) (by rw [block_of_add]; exact hab)).trans hcu⟩
     have hbz := fr_drew (fr_refl wr)
     refine wp_region_held_drew (S := fun W => (∀ j, W.cell? ⟨w.heap.size, j, none⟩ = (#[.slice A ws.length c, .slice N ns.length d] : Array Value)[j]?) ∧ W.cell? (ad.add n) = some (.slice Q q.length qc)) (by kernel_rfl) (hkS _ hbz) (fun hHeld => ?_)
     generalize wr.drew = wz at hbz hHeld ⊢
     -- the region, step by step
     refine wpAnyH_take (i := 0) (oi := ⟨some 143, .load 25 (.tmp 2), 25, "law.go:241", #[], none⟩) (v := ?_) rfl (by kernel_rfl) (by kernel_rfl) (by kernel_rfl) (fun _ _ _ h => h) (Or.inl ⟨by rfl, fun W hSw => ?_⟩) hHeld ?_
     rotate_left
     ·(try dsimp only at hSw); go_simp; (try with_reducible rfl)
     (try simp only [Act.put, List.setIfInBounds_toArray, List.set_cons_zero, List.set_cons_succ])
     refine wpAnyH_take (i := 1) (oi := ⟨some 144, .move (.tmp 5), 30, "law.go:241", #[], none⟩) (v := ?_) rfl (by kernel_rfl) (by kernel_rfl) (by kernel_rfl) (fun _ _ _ h => h) (Or.inl ⟨by rfl, fun W hSw => ?_⟩) hHeld ?_
     rotate_left
     ·(try dsimp only at hSw); go_simp; (try with_reducible rfl)
     (try simp only [Act.put, List.setIfInBounds_toArray, List.set_cons_zero, List.set_cons_succ])
     refine wpAnyH_take (i := 2) (oi := ⟨some 145, .move (.tmp 17), 3, "law.go:241", #[], none⟩) (v := ?_) rfl (by kernel_rfl) (by kernel_rfl) (by kernel_rfl) (fun _ _ _ h => h) (Or.inl ⟨by rfl, fun W hSw => ?_⟩) hHeld ?_
     rotate_left
     ·(try dsimp only at hSw); go_simp; (try with_reducible rfl)
     (try simp only [Act.put, List.setIfInBounds_toArray, List.set_cons_zero, List.set_cons_succ])
     refine wpAnyH_take (i := 3) (oi := ⟨some 146, .indexAddr 30 (.tmp 144) (.tmp 145), 0, "law.go:241", #[⟨1, .data⟩, ⟨2, .data⟩], none⟩) (v := ?_) rfl (by kernel_rfl) (by kernel_rfl) (by kernel_rfl) (fun _ _ _ h => h) (Or.inl ⟨by rfl, fun W hSw => ?_⟩) hHeld ?_
     rotate_left
     ·(try dsimp only at hSw); go_simp; (try with_reducible rfl)
     (try simp only [Act.put, List.setIfInBounds_toArray, List.set_cons_zero, List.set_cons_succ])
     refine wpAnyH_take (i := 4) (oi := ⟨some 147, .load 26 (.tmp 146), 26, "law.go:241", #[⟨3, .data⟩], none⟩) (v := ?_) rfl (by kernel_rfl) (by kernel_rfl) (by kernel_rfl) (fun _ _ _ h => h) (Or.inl ⟨by rfl, fun W hSw => ?_⟩) hHeld ?_
     rotate_left
     ·(try dsimp only at hSw); go_simp; (try with_reducible rfl)
     (try simp only [Act.put, List.setIfInBounds_toArray, List.set_cons_zero, List.set_cons_succ])
     refine wpAnyH_ready (rs := [5]) (by kernel_rfl) (by simp) ?_
     refine AllReadyH.cons (o := ⟨some 148, .call { callee := .value (.func 7), args := #[.tmp 143, .tmp 147], argTypes := #[25, 26] }, 4, "law.go:241", #[⟨0, .data⟩, ⟨4, .data⟩], none⟩) rfl (fun K hK => ?_) AllReadyH.nil
     go_simp
     refine (Own8_any A N Q ws.length ns.length c d q.length qc ws q _ ((hf.keep hbr).ws.keep hbz) (hrq.keep hbz) rfl (by omega) rfl (by omega) true (iff_of_true rfl HQF.out)).mono ?_
     rintro e' wz ⟨rfl, hb⟩
     replace hbz := fr_call hbz hb
     refine hK.out _ _ (hkS _ hbz) (fun hHeld => ?_)
     clear hK K
     (try simp only [Act.put, List.setIfInBounds_toArray, List.set_cons_zero, List.set_cons_succ])
     refine wpAnyH_take (i := 6) (oi := ⟨some 149, .unOp .not 4 (.tmp 148), 4, "law.go:241", #[⟨5, .data⟩], none⟩) (v := ?_) rfl (by kernel_rfl) (by kernel_rfl) (by kernel_rfl) (fun _ _ _ h => h) (Or.inl ⟨by rfl, fun W hSw => ?_⟩) hHeld ?_
     rotate_left
     ·(try dsimp only at hSw); go_simp; (try with_reducible rfl)
     (try simp only [Act.put, List.setIfInBounds_toArray, List.set_cons_zero, List.set_cons_succ])
     refine wpAnyH_done (by kernel_rfl) ?_ _
     refine NoPanic.normal ?_
     have hcu2 := (hkS _ hbz).2
     have hlt2 : (ad.add n).block < wz.heap.size := Nat.lt_of_lt_of_le (by rw [block_of_add]; exact hab) hbz.size
     have hrq2 := hrq.keep hbz
     have hE2 := hE.keep hbz
     have hb2 := fr_call hbr hbz
     clear hkS hHeld hX hE hrq hcu hbr hbz hab
     go_wp2_with fail
     refine (hte _ hrq2).mono ?_
     rintro e' w6 ⟨T, tc, rfl, hTo, hb⟩
     have hT6 := hTo.rd
     have hTge : ∀ at_, T = some at_ → wz.heap.size ≤ at_.block := fun at_ e => own_ge hTo at_.block (by rw [e]; rfl)
     have hEl := hE2.lt
     have hE6 := hE2.keep hb
     have hb6 := fr_call hb2 hb
     have hcu6 := (hb.cell (p := ad.add n) hlt2).trans hcu2
     have hlt6 := Nat.lt_of_lt_of_le hlt2 hb.size
     have hrq6 := hrq2.keep hb
     clear hb hTo hcu2 hlt2 hrq2 hE2 hb2 hte
     obtain ⟨tl, htl⟩ : ∃ tl, teethL q = tl := ⟨_, rfl⟩
     rw [htl] at hT6
     have HTL := Lib.hid htl
     clear htl
     go_wp2_with fail
     go_loopw [19] (fun s19 w7 => ∃ m : Nat, m ≤ ws.length ∧ s19 = .int .i64 m ∧ Ends w7 wc.heap.size (2 * ws.length) (markP ((us.take n).map teethL) tl kn m) ∧ Rd w7 T ws.length tl ∧ Below wc.heap.size wc w7 ∧ PsR w7 (some ad) us) (fun s19 _ => ws.length - (intOf s19).toNat)
     case atStart => exact ⟨0, Nat.zero_le _, rfl, hE6.congr (fun j _ => (markP_zero _ _ _ j).symm), hT6, hb6, hU.keep hb6⟩
     case round =>
      clear hE6 hT6
      obtain ⟨m, hm, rfl, hEm, hTm, hbm, hUm⟩ := hrel
      by_cases hmlt : m < ws.length
      ·obtain ⟨at_, rfl, hatb, hct⟩ := hTm.at_ hmlt
       have hmk : m < kn.length := by rw [HKL.out]; exact hmlt
       obtain ⟨ak, rfl, hakb, k0, k1⟩ := whs_at (hK.keep hbm) hmk
       obtain ⟨l1, l2⟩ := HKI.out m hmlt
       have hkg : kn[m]?.getD ⟨0, 0⟩ = kn[m] := by simp [hmk]
       have HST := Lib.hid (fun j => markP_succ ((us.take n).map teethL) tl kn m j)
       rw [hkg] at l1 l2
       rw [HTL.out] at l1 l2
       have HKG := Lib.hid hkg
       clear hkg
       obtain ⟨tv, htv⟩ : ∃ z, tl[m]?.getD 0 = z := ⟨_, rfl⟩
       obtain ⟨lo, hlo⟩ : ∃ z, kn[m].lo = z := ⟨_, rfl⟩
       obtain ⟨hi, hhi⟩ : ∃ z, kn[m].hi = z := ⟨_, rfl⟩
       rw [htv] at hct l1 l2
       rw [hlo] at k0 l1
       rw [hhi] at k1 l2
       have HTV := Lib.hid htv
       have HLO := Lib.hid hlo
       have HHI := Lib.hid hhi
       have j1 : 0 ≤ (m : Int) := by omega
       have j2 : (m : Int) < (ws.length : Int) := by omega
       have d1 : decide (tv < lo) = false := decide_eq_false (by omega)
       have d2 : decide (hi < tv) = false := decide_eq_false (by omega)
       clear htv hlo hhi l1 l2
       go_wp2_with fail
       go_quiet (fail)
       have hbq := fr_drewN (fr_refl wr) nq
       clear hct k0 k1 hatb hakb
       replace hEm := hEm.keep hbq
       replace hTm := hTm.keep hbq
       replace hUm := hUm.keep hbq
       replace hbm := fr_call hbm hbq
       clear hbq
       generalize wr.drewN nq = w8 at *
       obtain ⟨at2, e2, hatb, hct⟩ := hTm.at_ hmlt
       obtain rfl : at_ = at2 := by injection e2
       obtain ⟨ak2, e3, hakb, k0, k1⟩ := whs_at (hK.keep hbm) hmk
       obtain rfl : ak = ak2 := by injection e3
       rw [HTV.out] at hct
       rw [HLO.out] at k0
       rw [HHI.out] at k1
       clear e2 e3
       have z1 : IntKind.i64.wrap (2 * (m : Int)) = 2 * (m : Int) := IntWalk.i64_in _ (by omega)
       have z2 : IntKind.i64.wrap (2 * (m : Int) + 1) = 2 * (m : Int) + 1 := IntWalk.i64_in _ (by omega)
       have y1 : 0 ≤ 2 * (m : Int) := by omega
       have y2 : 2 * (m : Int) < 2 * (ws.length : Int) := by omega
       have y3 : 0 ≤ 2 * (m : Int) + 1 := by omega
       have y4 : 2 * (m : Int) + 1 < 2 * (ws.length : Int) := by omega
       have x1 : (2 * (m : Int)).toNat = 2 * m := by omega
       have x2 : (2 * (m : Int) + 1).toNat = 2 * m + 1 := by omega
       have b0 := hEm.cell (j := 2 * m) (by omega)
       have b1 := hEm.cell (j := 2 * m + 1) (by omega)
       rw [markP_at ((us.take n).map teethL) tl kn (show 2 * m ≤ 2 * m from Nat.le_refl _)] at b0
       rw [markP_at ((us.take n).map teethL) tl kn (show 2 * m ≤ 2 * m + 1 from Nat.le_succ _)] at b1
       have f0 := hEm.frozen (2 * m)
       have f1 := hEm.frozen (2 * m + 1)
       generalize mark ((us.take n).map teethL) kn (2 * m) = q0 at *
       generalize mark ((us.take n).map teethL) kn (2 * m + 1) = q1 at *
       have HST2 := Lib.hid (show ∀ j, markP ((us.take n).map teethL) tl kn (m + 1) j = if j = 2 * m + 1 then (q1 || tv == hi) else if j = 2 * m then (q0 || tv == lo) else markP ((us.take n).map teethL) tl kn m j from fun j => by
        have h := HST.out j
        rw [HTV.out, HKG.out, HLO.out, HHI.out] at h
        exact h)
       have hne : ∀ ad, some at_ = some ad → ad.block ≠ wc.heap.size := fun ad e => by have := hTge ad e; omega
       have hgg : ¬ at_.block = wc.heap.size := hne at_ rfl
       have hgs1 := grown_set w8 ⟨wc.heap.size, 2 * m, none⟩ (.bool (q0 || tv == lo))
       have hgs2 := grown_set (w8.setCell ⟨wc.heap.size, 2 * m, none⟩ (.bool (q0 || tv == lo))) ⟨wc.heap.size, 2 * m + 1, none⟩ (.bool (q1 || tv == hi))
       have hbs1 := hbm.grown hgs1 hbm.size (by intro k hk; cases hk; exact Nat.le_refl _)
       have hbs2 := fr_call (hbs1.grown hgs2 hbs1.size (by intro k hk; cases hk; exact Nat.le_refl _)) (fr_drew (fr_refl _))
       have HN := Lib.hid (And.intro (hEm.two (E' := markP ((us.take n).map teethL) tl kn (m + 1)) (by omega) _ _ HST2.out) (And.intro (((hTm.far hgs1 hne).far hgs2 hne).keep (fr_drew (fr_refl _))) hbs2))
       clear hgs1 hgs2 hbs1 hbs2 hEm hTm hbm hUm hne
       cases q0
       ·cases q1
        ·as_aux_lemma =>
         go_wp2_with fail
         go_region
         all_goals
          go_wp2_with fail
          refine ⟨⟨m + 1, hmlt, by go_num, HN.out.1, HN.out.2.1, HN.out.2.2, hU.keep HN.out.2.2⟩, ?_⟩
          simp [intOf]; omega
        ·as_aux_lemma =>
         go_wp2_with fail
         go_region
         all_goals
          go_wp2_with fail
          refine ⟨⟨m + 1, hmlt, by go_num, HN.out.1, HN.out.2.1, HN.out.2.2, hU.keep HN.out.2.2⟩, ?_⟩
          simp [intOf]; omega
       ·cases q1
        ·as_aux_lemma =>
         go_wp2_with fail
         go_region
         all_goals
          go_wp2_with fail
          refine ⟨⟨m + 1, hmlt, by go_num, HN.out.1, HN.out.2.1, HN.out.2.2, hU.keep HN.out.2.2⟩, ?_⟩
          simp [intOf]; omega
        ·as_aux_lemma =>
         go_wp2_with fail
         go_region
         all_goals
          go_wp2_with fail
          refine ⟨⟨m + 1, hmlt, by go_num, HN.out.1, HN.out.2.1, HN.out.2.2, hU.keep HN.out.2.2⟩, ?_⟩
          simp [intOf]; omega
      ·obtain rfl : m = ws.length := by omega
       have hE9 : Ends wr wc.heap.size (2 * ws.length) (mark ((us.take (n + 1)).map teethL) kn) := hEm.congr (fun j hj => by rw [markP_all _ _ _ hj, HTK.out, List.map_append, ← HTL.out]; rfl)
       obtain ⟨ad2, Q2, qc2, e2, hab2, hcu2, hrq2⟩ := HW.out
       cases e2
       have hlt2 : (ad.add n).block < wr.heap.size := Nat.lt_of_lt_of_le (by rw [block_of_add]; exact hab2) hbm.size
       have hcu9 := (hbm.cell (p := ad.add n) (by rw [block_of_add]; exact hab2)).trans hcu2
       have htr9 := htr Q2 qc2 _ (hrq2.keep hbm)
       have HE9 := Lib.hid hE9
       obtain ⟨sa, hsa⟩ : ∃ z, seenB (la, lb) (us.take n) = z := ⟨_, rfl⟩
       obtain ⟨sb, hsb⟩ : ∃ z, seenB (ua, ub) (us.take n) = z := ⟨_, rfl⟩
       rw [hsa, hsb]
       have HSA := Lib.hid hsa
       have HSB := Lib.hid hsb
       clear hEm hTm hUm hTge hE9 hsa hsb hcu2 hrq2 htr
       go_wp2_with fail
       refine htr9.mono ?_
       rintro e' w9 ⟨rfl, hb⟩
       go_wp2_with (refine wpList_store_blk rfl _ _ _ rfl w9.heap.size 40 _ _ rfl rfl (Blk.new w9 _ _) rfl (by kernel_rfl) (by simp [Value.oneCell']) ?_; intro wy hY hgY; have hbY : Below w9.heap.size w9 wy := (fr_alloc (fr_refl w9) _).grown hgY (fr_alloc (fr_refl w9) _).size (by intro k hk; cases hk; exact Nat.le_refl _); have hby := fr_call (fr_call hbm hb) hbY; have hLy := hLo.keep hby; have hHy := hHi.keep hby; have hcY := fun j => hY.cell j; have hcL := fun j => hLy.cell j; have hcH := fun j => hHy.cell j; have hlY := hY.lt; have hlL := hLy.lt; have hlH := hHy.lt)
       refine (sized_yes yd yv hsz _).mono ?_
       rintro e' wq ⟨rfl, hbq⟩
       have hball := fr_call (fr_call hb hbY) hbq
       replace hY := hY.keep hbq
       replace hLy := hLy.keep hbq
       replace hHy := hHy.keep hbq
       replace hby := fr_call hby hbq
       clear hcY hcL hcH hbq hgY hbY hb
       have hcY := fun j => hY.cell j
       have hcL := fun j => hLy.cell j
       have hcH := fun j => hHy.cell j
       replace hlY := hY.lt
       replace hlL := hLy.lt
       replace hlH := hHy.lt
       go_wp2_with fail
       refine (rbelow_is yd yv la lb _ mo1 mo2 mo3 mo4 _ hbt.1).mono ?_
       rintro e' wr2 ⟨rfl, hb⟩
       replace hY := hY.keep hb
       replace hLy := hLy.keep hb
       replace hHy := hHy.keep hb
       replace hby := fr_call hby hb
       replace hball := fr_call hball hb
       clear hcY hcL hcH hb
       have hcY := fun j => hY.cell j
       have hcL := fun j => hLy.cell j
       have hcH := fun j => hHy.cell j
       replace hlY := hY.lt
       replace hlL := hLy.lt
       replace hlH := hHy.lt
       go_wp2_with fail
       refine (rbelow_is ua ub yd yv _ mo5 mo6 mo1 mo2 _ hbt.2).mono ?_
       rintro e' wr3 ⟨rfl, hb⟩
       replace hY := hY.keep hb
       replace hLy := hLy.keep hb
       replace hHy := hHy.keep hb
       replace hby := fr_call hby hb
       replace hball := fr_call hball hb
       clear hcY hcL hcH hb
       have hcY := fun j => hY.cell j
       have hcL := fun j => hLy.cell j
       have hcH := fun j => hHy.cell j
       replace hlY := hY.lt
       replace hlL := hLy.lt
       replace hlH := hHy.lt
       have HSN1 := Lib.hid (show seenB (la, lb) (us.take (n + 1)) = (sa || (yd == la && yv == lb)) from by
        rw [HTK.out, seen_snoc, HSA.out, HFR.out, HYD.out, HYV.out, pair_eq])
       have HSN2 := Lib.hid (show seenB (ua, ub) (us.take (n + 1)) = (sb || (yd == ua && yv == ub)) from by
        rw [HTK.out, seen_snoc, HSB.out, HFR.out, HYD.out, HYV.out, pair_eq])
       have HE3 := Lib.hid (HE9.out.keep hball)
       have hfe1 := fun W => frac_eql yd yv la lb W
       have hfe2 := fun W => frac_eql yd yv ua ub W
       generalize (yd == la && yv == lb) = t1 at hfe1 HSN1
       generalize (yd == ua && yv == ub) = t2 at hfe2 HSN2
       clear hball
       cases sa
       ·cases sb
        ·go_wp2_with fail
         go_quiet (fail)
         go_wp2_with fail
         refine ⟨⟨n + 1, hlt, by go_num, congrArg Value.bool HSN1.out.symm, congrArg Value.bool HSN2.out.symm, HE3.out.keep (fr_drewN (fr_refl _) nq), fr_drewN hby nq⟩, ?_⟩
         simp [intOf]; omega
        ·go_wp2_with fail
         go_quiet (fail)
         go_wp2_with fail
         refine ⟨⟨n + 1, hlt, by go_num, congrArg Value.bool HSN1.out.symm, congrArg Value.bool HSN2.out.symm, HE3.out.keep (fr_drewN (fr_refl _) nq), fr_drewN hby nq⟩, ?_⟩
         simp [intOf]; omega
       ·cases sb
        ·go_wp2_with fail
         go_quiet (fail)
         go_wp2_with fail
         refine ⟨⟨n + 1, hlt, by go_num, congrArg Value.bool HSN1.out.symm, congrArg Value.bool HSN2.out.symm, HE3.out.keep (fr_drewN (fr_refl _) nq), fr_drewN hby nq⟩, ?_⟩
         simp [intOf]; omega
        ·go_wp2_with fail
         go_quiet (fail)
         go_wp2_with fail
         refine ⟨⟨n + 1, hlt, by go_num, congrArg Value.bool HSN1.out.symm, congrArg Value.bool HSN2.out.symm, HE3.out.keep (fr_drewN (fr_refl _) nq), fr_drewN hby nq⟩, ?_⟩
         simp [intOf]; omega
    ·obtain rfl : n = us.length := by omega
     rw [List.take_of_length_le (Nat.le_refl _)] at hE ⊢
     replace hfr := fr_call hfr hbr
     have hall : ∀ j, j < 2 * ws.length → mark (us.map teethL) kn j = true := fun j hj => by
      have hu : ∀ t, t ∈ ts → t ∈ us.map teethL := fun t ht => by
       obtain ⟨q, hq, e⟩ := HUS.out.2 t ht
       exact List.mem_map.2 ⟨q, hq, e⟩
      have hm := marks_law HNE.out hu (show j / 2 < ws.length by omega)
      rw [← HKN.out]
      unfold mark
      split
      ·exact hm.1
      ·exact hm.2
     have hsa : seenB (la, lb) us = true := by
      obtain ⟨t, ht, e⟩ := HLOW.out
      obtain ⟨q, hq, e2⟩ := HUS.out.2 t ht
      exact List.any_eq_true.2 ⟨q, hq, decide_eq_true (by rw [e2, e])⟩
     have hsb : seenB (ua, ub) us = true := by
      obtain ⟨t, ht, e⟩ := HHIGH.out
      obtain ⟨q, hq, e2⟩ := HUS.out.2 t ht
      exact List.any_eq_true.2 ⟨q, hq, decide_eq_true (by rw [e2, e])⟩
     rw [hsa, hsb]
     have hE1 : Ends wr wc.heap.size (2 * ws.length) (fun _ => true) := hE.congr hall
     have hlE := hE1.lt
     have HT9 := Lib.hid (hT.keep hfr)
     have HM9 := Lib.hid (hM.keep hfr)
     clear hall hsa hsb hE hbr hU hf hX0 hLo hHi hK hlt
     go_wp2_with fail
     go_loopw [23] (fun t w' => ∃ j : Nat, j ≤ 2 * ws.length ∧ t = .int .i64 j ∧ w' = wr) (fun t _ => 2 * ws.length - (intOf t).toNat)
     case atStart => exact ⟨0, Nat.zero_le _, rfl, rfl⟩
     case round =>
      obtain ⟨j, hj, rfl, rfl⟩ := hrel
      by_cases hjl : j < 2 * ws.length
      ·have hcj := hE1.cell hjl
       have i1 : 0 ≤ (j : Int) := by omega
       have i2 : (j : Int) < 2 * (ws.length : Int) := by omega
       go_wp2_with fail
       refine ⟨⟨j + 1, hjl, by go_num, trivial⟩, ?_⟩
       simp [intOf]; omega
      ·obtain rfl : j = 2 * ws.length := by omega
       go_wp2_with fail
       refine (known_is _ HT9.out HM9.out).mono ?_
       rintro e' w1 ⟨rfl, hb⟩
       replace hfr := fr_call hfr hb
       clear hb
       go_wp2_with fail
       go_ret
       exact ⟨rfl, hfr⟩
end Go.Proofs.YtfgghicdkcjdgaaGreatDoor
