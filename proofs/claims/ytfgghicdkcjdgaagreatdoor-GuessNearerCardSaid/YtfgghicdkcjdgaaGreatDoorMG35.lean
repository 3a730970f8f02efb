/- The law GuessNearer, walked (by gen_nearer.py). The law GuessNearer, walked (by gen_nearer.py). -/
import Derived.Test.YtfgghicdkcjdgaaGreatDoorMG34
import Derived.Test.YtfgghicdkcjdgaaGreatDoorMG32
import Derived.Test.YtfgghicdkcjdgaaGreatDoorMG13
import Derived.Test.YtfgghicdkcjdgaaGreatDoorMG20
section
namespace Go.Proofs.YtfgghicdkcjdgaaGreatDoor
open Go.RowKit Go.Shelf

theorem frac_ok {n d : Int} (h : fracB n d = true) : FracOk (n, d) := by
 unfold fracB at h
 rw [Bool.and_eq_true] at h
 exact ⟨inB_iff.1 h.1, inB_iff.1 h.2⟩
theorem teeth_fits {ws : List Wh} {ns : List Note} {x : List Wh} (hv : FindOk ws ns) (h : Fits ws (teethL x)) : TeethP x := by
 have h1 := pairs_teeth (fits_teeth hv.wh h)
 rwa [pairs_teethL] at h1
set_option maxRecDepth 100000 in
set_option maxHeartbeats 16000000 in
theorem near_main (A N C V : Option Addr) (c d i cv : Nat) (ws : List Wh) (ns : List Note) (x : List Wh) (fn fd r1 r2 r3 r4 : Int) (vs : List Int) (w : World) (hf : FindAt w A N ws ns) (hx : RdS w C 2 (x.map Wh.cells)) (hr : Rd w V vs.length vs) (hT : TabP w) (hM : MaxP w) (s1 : (decide ((ws.length : Int) ≤ 8) && decide ((ns.length : Int) ≤ 11)) = true) (s1a : ws.length ≤ 8 ∧ ns.length ≤ 11) (n1 : narrowB ws ns = true) (k1 : x.length ≤ 5) (k1b : ¬ (5 < (x.length : Int))) (k2 : vs.length ≤ 8) (k2b : ¬ (8 < (vs.length : Int))) (f1 : findB ws ns = true) (q1 : fracB fn fd = true) (o1 : Fits ws (teethL x)) (u1 : ruleB ⟨r1, r2, r3, r4, vs⟩ = true) :
  Calls Tryz.prog 4 #[.agg #[.slice A ws.length c, .slice N ns.length d], .agg #[.int .i64 fn, .int .i64 fd], .slice C x.length i, .agg #[.int .i64 r1, .int .i64 r2, .int .i64 r3, .int .i64 r4, .slice V vs.length cv]] w fun e' w' => e' = .returned (.bool true) ∧ Below w.heap.size w w' := by
 have hfr := fr_alloc (fr_alloc (fr_alloc (fr_refl w) (.cells #[.slice A ws.length c, .slice N ns.length d] 25)) (.cells #[.int .i64 fn, .int .i64 fd] 40)) (.cells #[.int .i64 r1, .int .i64 r2, .int .i64 r3, .int .i64 r4, .slice V vs.length cv] 53)
 have hX0 : Blk (((w.alloc (.cells #[.slice A ws.length c, .slice N ns.length d] 25)).alloc (.cells #[.int .i64 fn, .int .i64 fd] 40)).alloc (.cells #[.int .i64 r1, .int .i64 r2, .int .i64 r3, .int .i64 r4, .slice V vs.length cv] 53)) (w.heap.size) 25 #[.slice A ws.length c, .slice N ns.length d] := (((Blk.new_at _ _ (by simp)).alloc _).alloc _)
 have hX1 : Blk (((w.alloc (.cells #[.slice A ws.length c, .slice N ns.length d] 25)).alloc (.cells #[.int .i64 fn, .int .i64 fd] 40)).alloc (.cells #[.int .i64 r1, .int .i64 r2, .int .i64 r3, .int .i64 r4, .slice V vs.length cv] 53)) (w.heap.size + 1) 40 #[.int .i64 fn, .int .i64 fd] := ((Blk.new_at _ _ (by simp)).alloc _)
 have hX2 : Blk (((w.alloc (.cells #[.slice A ws.length c, .slice N ns.length d] 25)).alloc (.cells #[.int .i64 fn, .int .i64 fd] 40)).alloc (.cells #[.int .i64 r1, .int .i64 r2, .int .i64 r3, .int .i64 r4, .slice V vs.length cv] 53)) (w.heap.size + 1 + 1) 53 #[.int .i64 r1, .int .i64 r2, .int .i64 r3, .int .i64 r4, .slice V vs.length cv] := (Blk.new_at _ _ (by simp))
 replace hf := hf.keep hfr
 replace hx := hx.keep hfr
 replace hr := hr.keep hfr
 have hc0 := fun j => hX0.cell j
 have hl0 := hX0.lt
 have hc1 := fun j => hX1.cell j
 have hl1 := hX1.lt
 have hc2 := fun j => hX2.cell j
 have hl2 := hX2.lt
 have hv := find_ok f1
 have hro := rule_ok u1
 have F1 := Lib.hid f1
 have N1 := Lib.hid n1
 have Q1 := Lib.hid q1
 have U1 := Lib.hid u1
 have o1H := Lib.hid o1
 have hw6 := hv.six
 have hfo : FracOk (fn, fd) := frac_ok q1
 have hxl : x.length * 2 = ws.length := by have := o1.len; rw [teethL_len] at this; omega
 have hx3 : 1 ≤ x.length ∧ x.length ≤ 3 := by have := hv.two; omega
 have hTX : TeethP x := teeth_fits hv o1
 obtain ⟨ts, hts⟩ : ∃ ts, guessL ws ns = ts := ⟨_, rfl⟩
 obtain ⟨p, hp⟩ : ∃ p, (breaksL ns (teethL x)).length = p := ⟨_, rfl⟩
 have hpm : p = 0 → teethL x ∈ ts := fun h => by rw [← hts, mem_guess]; exact ⟨o1, List.length_eq_zero_iff.1 (hp.trans h)⟩
 have hbr := fun W h1 h2 => Breaks_own A N C c d i x.length ws ns x W h1 hv h2 rfl o1
 have hgu := fun W h => Guesses_ok A N c d ws ns W h hv
 have hru := fun W h h2 => Ruled_ok A N V c d vs.length cv ws ns ⟨r1, r2, r3, r4, vs⟩ ts hts W h hv h2 hro
 have hn0 := fun (h0 : ts = []) W h => Nearest_none A N c d ws ns (fn, fd) W h hv q1 (hts.trans h0)
 have hn1 := fun (h0 : ¬ ts = []) W h => Nearest_some A N c d ws ns (fn, fd) W h hv q1 hfo (by rw [hts]; exact h0)
 have hnl := fun (h0 : ¬ ts = []) => near_law (fn, fd) hv (by rw [hts]; exact h0)
 rw [hts] at hgu hn1 hnl
 have heven : ∀ t ∈ ts, t.length % 2 = 0 := fun t ht => by rw [← hts] at ht; exact guess_even hv.even t ht
 have hmem : ∀ t ∈ ts, Fits ws t ∧ breaksL ns t = [] := fun t ht => by rw [← hts] at ht; exact mem_guess.1 ht
 obtain ⟨ru, hrue⟩ : ∃ n, ruledN ⟨r1, r2, r3, r4, vs⟩ ts = n := ⟨_, rfl⟩
 have hrl := ruled_le ⟨r1, r2, r3, r4, vs⟩ ts
 have hry := fun (h : teethL x ∈ ts) (hF : fitsR ⟨r1, r2, r3, r4, vs⟩ (sortT x) = true) => ruled_yes h hF
 have hrn := fun (h : teethL x ∈ ts) (hF : fitsR ⟨r1, r2, r3, r4, vs⟩ (sortT x) = false) => ruled_no h hF
 rw [hrue] at hrl hry hrn hru
 dsimp only [Rule.args] at hru
 unfold RetD at hbr
 unfold RetE at hgu hru
 unfold RetPE at hn0 hn1
 rw [hp] at hbr
 have HRUE := Lib.hid hrue
 have HP := Lib.hid hp
 have HRY := Lib.hid hry
 have HRN := Lib.hid hrn
 have HPM := Lib.hid hpm
 have HNL := Lib.hid hnl
 have HEV := Lib.hid heven
 have HMEM := Lib.hid hmem
 have HTX := Lib.hid hTX
 have HFO := Lib.hid hfo
 have HV := Lib.hid hv
 have HRO := Lib.hid hro
 have HXL := Lib.hid hxl
 clear hrue hp hry hrn hpm hnl heven hmem hTX hfo hv hro hxl hts f1 q1 u1 o1 n1
 by_cases h0 : ts = []
 ·subst h0
  have hn0b := hn0 rfl
  clear hn0 hn1
  have hp0 : p ≠ 0 := fun h => by have := HPM.out h; cases this
  have b0 : ((p : Int) == 0) = false := beq_eq_false_iff_ne.2 (by omega)
  have hr0 : ru = 0 := by have := hrl; simp at this; exact this
  subst hr0
  go_enter Tryz.func4, Tryz.ntmps4
  go_wp2_with fail
  refine (short_any A N ws.length ns.length c d _ _ s1).mono ?_
  rintro e' w1 ⟨rfl, hb⟩
  replace hfr := fr_call hfr hb
  replace hf := hf.keep hb
  replace hx := hx.keep hb
  replace hr := hr.keep hb
  replace hX0 := hX0.keep hb
  replace hX1 := hX1.keep hb
  replace hX2 := hX2.keep hb
  clear hb hc0 hc1 hc2
  have hc0 := fun j => hX0.cell j
  have hl0 := hX0.lt
  have hc1 := fun j => hX1.cell j
  have hl1 := hX1.lt
  have hc2 := fun j => hX2.cell j
  have hl2 := hX2.lt
  go_wp2_with fail
  refine (narrow_any A N ws.length ns.length c d ws ns _ hf rfl rfl (by omega) (by omega) _ N1.out).mono ?_
  rintro e' w1 ⟨rfl, hb⟩
  replace hfr := fr_call hfr hb
  replace hf := hf.keep hb
  replace hx := hx.keep hb
  replace hr := hr.keep hb
  replace hX0 := hX0.keep hb
  replace hX1 := hX1.keep hb
  replace hX2 := hX2.keep hb
  clear hb hc0 hc1 hc2
  have hc0 := fun j => hX0.cell j
  have hl0 := hX0.lt
  have hc1 := fun j => hX1.cell j
  have hl1 := hX1.lt
  have hc2 := fun j => hX2.cell j
  have hl2 := hX2.lt
  go_wp2_with fail
  refine (Find8_any A N ws.length ns.length c d ws ns _ hf rfl rfl (by omega) (by omega) _ F1.out).mono ?_
  rintro e' w1 ⟨rfl, hb⟩
  replace hfr := fr_call hfr hb
  replace hf := hf.keep hb
  replace hx := hx.keep hb
  replace hr := hr.keep hb
  replace hX0 := hX0.keep hb
  replace hX1 := hX1.keep hb
  replace hX2 := hX2.keep hb
  clear hb hc0 hc1 hc2
  have hc0 := fun j => hX0.cell j
  have hl0 := hX0.lt
  have hc1 := fun j => hX1.cell j
  have hl1 := hX1.lt
  have hc2 := fun j => hX2.cell j
  have hl2 := hX2.lt
  go_wp2_with fail
  refine (rfraction_is fn fd _ _ Q1.out).mono ?_
  rintro e' w1 ⟨rfl, hb⟩
  replace hfr := fr_call hfr hb
  replace hf := hf.keep hb
  replace hx := hx.keep hb
  replace hr := hr.keep hb
  replace hX0 := hX0.keep hb
  replace hX1 := hX1.keep hb
  replace hX2 := hX2.keep hb
  clear hb hc0 hc1 hc2
  have hc0 := fun j => hX0.cell j
  have hl0 := hX0.lt
  have hc1 := fun j => hX1.cell j
  have hl1 := hX1.lt
  have hc2 := fun j => hX2.cell j
  have hl2 := hX2.lt
  go_wp2_with fail
  refine (Own8_any A N C ws.length ns.length c d x.length i ws x _ hf.ws hx rfl (by omega) rfl (by omega) true (by simp [o1H.out])).mono ?_
  rintro e' w1 ⟨rfl, hb⟩
  replace hfr := fr_call hfr hb
  replace hf := hf.keep hb
  replace hx := hx.keep hb
  replace hr := hr.keep hb
  replace hX0 := hX0.keep hb
  replace hX1 := hX1.keep hb
  replace hX2 := hX2.keep hb
  clear hb hc0 hc1 hc2
  have hc0 := fun j => hX0.cell j
  have hl0 := hX0.lt
  have hc1 := fun j => hX1.cell j
  have hl1 := hX1.lt
  have hc2 := fun j => hX2.cell j
  have hl2 := hX2.lt
  go_wp2_with fail
  refine (rRule_is V vs.length cv ⟨r1, r2, r3, r4, vs⟩ _ hr (by omega) _ U1.out).mono ?_
  rintro e' w1 ⟨rfl, hb⟩
  replace hfr := fr_call hfr hb
  replace hf := hf.keep hb
  replace hx := hx.keep hb
  replace hr := hr.keep hb
  replace hX0 := hX0.keep hb
  replace hX1 := hX1.keep hb
  replace hX2 := hX2.keep hb
  clear hb hc0 hc1 hc2
  have hc0 := fun j => hX0.cell j
  have hl0 := hX0.lt
  have hc1 := fun j => hX1.cell j
  have hl1 := hX1.lt
  have hc2 := fun j => hX2.cell j
  have hl2 := hX2.lt
  go_wp2_with fail
  refine (hn0b _ hf).mono ?_
  rintro e' w1 ⟨T, tc, rfl, -, hb⟩
  replace hfr := fr_call hfr hb
  replace hf := hf.keep hb
  replace hx := hx.keep hb
  replace hr := hr.keep hb
  replace hX0 := hX0.keep hb
  replace hX1 := hX1.keep hb
  replace hX2 := hX2.keep hb
  clear hb hc0 hc1 hc2
  have hc0 := fun j => hX0.cell j
  have hl0 := hX0.lt
  have hc1 := fun j => hX1.cell j
  have hl1 := hX1.lt
  have hc2 := fun j => hX2.cell j
  have hl2 := hX2.lt
  go_wp2_with fail
  refine (hbr _ hf hx).mono ?_
  rintro e' w1 ⟨P1, pc1, rfl, -, hb⟩
  replace hfr := fr_call hfr hb
  replace hf := hf.keep hb
  replace hx := hx.keep hb
  replace hr := hr.keep hb
  replace hX0 := hX0.keep hb
  replace hX1 := hX1.keep hb
  replace hX2 := hX2.keep hb
  clear hb hc0 hc1 hc2
  have hc0 := fun j => hX0.cell j
  have hl0 := hX0.lt
  have hc1 := fun j => hX1.cell j
  have hl1 := hX1.lt
  have hc2 := fun j => hX2.cell j
  have hl2 := hX2.lt
  go_wp2_with fail
  refine (hgu _ hf).mono ?_
  rintro e' w1 ⟨rfl, hb⟩
  replace hfr := fr_call hfr hb
  replace hf := hf.keep hb
  replace hx := hx.keep hb
  replace hr := hr.keep hb
  replace hX0 := hX0.keep hb
  replace hX1 := hX1.keep hb
  replace hX2 := hX2.keep hb
  clear hb hc0 hc1 hc2
  have hc0 := fun j => hX0.cell j
  have hl0 := hX0.lt
  have hc1 := fun j => hX1.cell j
  have hl1 := hX1.lt
  have hc2 := fun j => hX2.cell j
  have hl2 := hX2.lt
  go_wp2_with fail
  refine (hru _ hf hr).mono ?_
  rintro e' w1 ⟨rfl, hb⟩
  replace hfr := fr_call hfr hb
  replace hf := hf.keep hb
  replace hx := hx.keep hb
  replace hr := hr.keep hb
  replace hX0 := hX0.keep hb
  replace hX1 := hX1.keep hb
  replace hX2 := hX2.keep hb
  clear hb hc0 hc1 hc2
  have hc0 := fun j => hX0.cell j
  have hl0 := hX0.lt
  have hc1 := fun j => hX1.cell j
  have hl1 := hX1.lt
  have hc2 := fun j => hX2.cell j
  have hl2 := hX2.lt
  go_wp2_with fail
  refine (known_is _ (hT.keep hfr) (hM.keep hfr)).mono ?_
  rintro e' w1 ⟨rfl, hb⟩
  replace hfr := fr_call hfr hb
  clear hb
  go_wp2_with fail
  go_ret
  exact ⟨rfl, hfr⟩
 ·have hn1b := hn1 h0
  clear hn0 hn1
  obtain ⟨tp, htp⟩ : ∃ tp, nearL (fn, fd) ts = tp := ⟨_, rfl⟩
  have hnl2 := HNL.out h0
  rw [htp] at hn1b hnl2
  obtain ⟨hm1, hm2⟩ := hnl2
  obtain ⟨t0, ht0, e0⟩ := List.mem_map.1 hm1
  have et : teethL tp = t0 := by rw [← e0]; exact teeth_pairsOf _ (HEV.out _ ht0)
  obtain ⟨hFt, hBt⟩ := HMEM.out _ ht0
  rw [← et] at hFt hBt
  have htl : tp.length * 2 = ws.length := by have := hFt.len; rw [teethL_len] at this; omega
  have ht3 : 1 ≤ tp.length ∧ tp.length ≤ 3 := by have := HXL.out; omega
  have HTT := Lib.hid (teeth_fits HV.out hFt)
  have hbt := fun T tc W h1 h2 => Breaks_own A N T c d tc tp.length ws ns tp W h1 HV.out h2 rfl hFt
  have hot := fun T tc W h1 h2 => Own8_any A N T ws.length ns.length c d tp.length tc ws tp W h1 h2 rfl (by omega) rfl (by omega) true (by simp [hFt])
  unfold RetD at hbt
  rw [hBt] at hbt
  have HM2 := Lib.hid (hm2 x)
  have ha1 : 1 ≤ ts.length := List.length_pos_iff.2 h0
  obtain ⟨a, ha⟩ : ∃ a, ts.length = a := ⟨_, rfl⟩
  have HRN2 := Lib.hid (fun h hF => ha ▸ HRN.out h hF)
  rw [ha] at hgu hrl ha1
  have c1 : ¬ ((a : Int) < (ru : Int)) := by omega
  have c2 : ¬ ((ru : Int) < 0) := by omega
  have c3 : ¬ ((a : Int) < 1) := by omega
  have c4 : ((a : Int) == 0) = false := beq_eq_false_iff_ne.2 (by omega)
  have HHA := Lib.hid ha
  clear htp hm1 hm2 ht0 e0 et hFt hBt ha h0
  go_enter Tryz.func4, Tryz.ntmps4
  go_wp2_with fail
  refine (short_any A N ws.length ns.length c d _ _ s1).mono ?_
  rintro e' w1 ⟨rfl, hb⟩
  replace hfr := fr_call hfr hb
  replace hf := hf.keep hb
  replace hx := hx.keep hb
  replace hr := hr.keep hb
  replace hX0 := hX0.keep hb
  replace hX1 := hX1.keep hb
  replace hX2 := hX2.keep hb
  clear hb hc0 hc1 hc2
  have hc0 := fun j => hX0.cell j
  have hl0 := hX0.lt
  have hc1 := fun j => hX1.cell j
  have hl1 := hX1.lt
  have hc2 := fun j => hX2.cell j
  have hl2 := hX2.lt
  go_wp2_with fail
  refine (narrow_any A N ws.length ns.length c d ws ns _ hf rfl rfl (by omega) (by omega) _ N1.out).mono ?_
  rintro e' w1 ⟨rfl, hb⟩
  replace hfr := fr_call hfr hb
  replace hf := hf.keep hb
  replace hx := hx.keep hb
  replace hr := hr.keep hb
  replace hX0 := hX0.keep hb
  replace hX1 := hX1.keep hb
  replace hX2 := hX2.keep hb
  clear hb hc0 hc1 hc2
  have hc0 := fun j => hX0.cell j
  have hl0 := hX0.lt
  have hc1 := fun j => hX1.cell j
  have hl1 := hX1.lt
  have hc2 := fun j => hX2.cell j
  have hl2 := hX2.lt
  go_wp2_with fail
  refine (Find8_any A N ws.length ns.length c d ws ns _ hf rfl rfl (by omega) (by omega) _ F1.out).mono ?_
  rintro e' w1 ⟨rfl, hb⟩
  replace hfr := fr_call hfr hb
  replace hf := hf.keep hb
  replace hx := hx.keep hb
  replace hr := hr.keep hb
  replace hX0 := hX0.keep hb
  replace hX1 := hX1.keep hb
  replace hX2 := hX2.keep hb
  clear hb hc0 hc1 hc2
  have hc0 := fun j => hX0.cell j
  have hl0 := hX0.lt
  have hc1 := fun j => hX1.cell j
  have hl1 := hX1.lt
  have hc2 := fun j => hX2.cell j
  have hl2 := hX2.lt
  go_wp2_with fail
  refine (rfraction_is fn fd _ _ Q1.out).mono ?_
  rintro e' w1 ⟨rfl, hb⟩
  replace hfr := fr_call hfr hb
  replace hf := hf.keep hb
  replace hx := hx.keep hb
  replace hr := hr.keep hb
  replace hX0 := hX0.keep hb
  replace hX1 := hX1.keep hb
  replace hX2 := hX2.keep hb
  clear hb hc0 hc1 hc2
  have hc0 := fun j => hX0.cell j
  have hl0 := hX0.lt
  have hc1 := fun j => hX1.cell j
  have hl1 := hX1.lt
  have hc2 := fun j => hX2.cell j
  have hl2 := hX2.lt
  go_wp2_with fail
  refine (Own8_any A N C ws.length ns.length c d x.length i ws x _ hf.ws hx rfl (by omega) rfl (by omega) true (by simp [o1H.out])).mono ?_
  rintro e' w1 ⟨rfl, hb⟩
  replace hfr := fr_call hfr hb
  replace hf := hf.keep hb
  replace hx := hx.keep hb
  replace hr := hr.keep hb
  replace hX0 := hX0.keep hb
  replace hX1 := hX1.keep hb
  replace hX2 := hX2.keep hb
  clear hb hc0 hc1 hc2
  have hc0 := fun j => hX0.cell j
  have hl0 := hX0.lt
  have hc1 := fun j => hX1.cell j
  have hl1 := hX1.lt
  have hc2 := fun j => hX2.cell j
  have hl2 := hX2.lt
  go_wp2_with fail
  refine (rRule_is V vs.length cv ⟨r1, r2, r3, r4, vs⟩ _ hr (by omega) _ U1.out).mono ?_
  rintro e' w1 ⟨rfl, hb⟩
  replace hfr := fr_call hfr hb
  replace hf := hf.keep hb
  replace hx := hx.keep hb
  replace hr := hr.keep hb
  replace hX0 := hX0.keep hb
  replace hX1 := hX1.keep hb
  replace hX2 := hX2.keep hb
  clear hb hc0 hc1 hc2
  have hc0 := fun j => hX0.cell j
  have hl0 := hX0.lt
  have hc1 := fun j => hX1.cell j
  have hl1 := hX1.lt
  have hc2 := fun j => hX2.cell j
  have hl2 := hX2.lt
  go_wp2_with fail
  refine (hn1b _ hf).mono ?_
  rintro e' w1 ⟨T, tc, rfl, ht, hb⟩
  replace hfr := fr_call hfr hb
  replace hf := hf.keep hb
  replace hx := hx.keep hb
  replace hr := hr.keep hb
  replace hX0 := hX0.keep hb
  replace hX1 := hX1.keep hb
  replace hX2 := hX2.keep hb
  clear hb hc0 hc1 hc2
  have hc0 := fun j => hX0.cell j
  have hl0 := hX0.lt
  have hc1 := fun j => hX1.cell j
  have hl1 := hX1.lt
  have hc2 := fun j => hX2.cell j
  have hl2 := hX2.lt
  go_wp2_with fail
  refine (hbr _ hf hx).mono ?_
  rintro e' w1 ⟨P1, pc1, rfl, -, hb⟩
  replace hfr := fr_call hfr hb
  replace hf := hf.keep hb
  replace hx := hx.keep hb
  replace hr := hr.keep hb
  replace ht := ht.keep hb
  replace hX0 := hX0.keep hb
  replace hX1 := hX1.keep hb
  replace hX2 := hX2.keep hb
  clear hb hc0 hc1 hc2
  have hc0 := fun j => hX0.cell j
  have hl0 := hX0.lt
  have hc1 := fun j => hX1.cell j
  have hl1 := hX1.lt
  have hc2 := fun j => hX2.cell j
  have hl2 := hX2.lt
  go_wp2_with fail
  refine (hgu _ hf).mono ?_
  rintro e' w1 ⟨rfl, hb⟩
  replace hfr := fr_call hfr hb
  replace hf := hf.keep hb
  replace hx := hx.keep hb
  replace hr := hr.keep hb
  replace ht := ht.keep hb
  replace hX0 := hX0.keep hb
  replace hX1 := hX1.keep hb
  replace hX2 := hX2.keep hb
  clear hb hc0 hc1 hc2
  have hc0 := fun j => hX0.cell j
  have hl0 := hX0.lt
  have hc1 := fun j => hX1.cell j
  have hl1 := hX1.lt
  have hc2 := fun j => hX2.cell j
  have hl2 := hX2.lt
  go_wp2_with fail
  refine (hru _ hf hr).mono ?_
  rintro e' w1 ⟨rfl, hb⟩
  replace hfr := fr_call hfr hb
  replace hf := hf.keep hb
  replace hx := hx.keep hb
  replace hr := hr.keep hb
  replace ht := ht.keep hb
  replace hX0 := hX0.keep hb
  replace hX1 := hX1.keep hb
  replace hX2 := hX2.keep hb
  clear hb hc0 hc1 hc2
  have hc0 := fun j => hX0.cell j
  have hl0 := hX0.lt
  have hc1 := fun j => hX1.cell j
  have hl1 := hX1.lt
  have hc2 := fun j => hX2.cell j
  have hl2 := hX2.lt
  by_cases hp0 : p = 0
  ·have hin := HPM.out hp0
   subst hp0
   obtain ⟨ad, hCe, -, -⟩ := hx (by rw [List.length_map]; omega)
   subst hCe
   obtain ⟨fb, hfb⟩ : ∃ b, fitsR ⟨r1, r2, r3, r4, vs⟩ (sortT x) = b := ⟨_, rfl⟩
   have hfi := fun A2 c2 W h1 h2 => tFits_is A2 V x.length c2 vs.length cv ⟨r1, r2, r3, r4, vs⟩ (sortT x) W h1 (sort_len HTX.out) hx3 (sort_teeth _) h2 HRO.out
   rw [hfb] at hfi
   dsimp only [Rule.args] at hfi
   have HY := Lib.hid (fun h : fb = true => HRY.out hin (hfb.trans h))
   have HN2 := Lib.hid (fun h : fb = false => HRN2.out hin (hfb.trans h))
   obtain ⟨mm, hmm⟩ : ∃ m, nearI (fn, fd) tp x = m := ⟨_, rfl⟩
   have hne := fun T tc W h1 h2 => Nearer_ok (fn, fd) T (some ad) tp.length x.length tc i tp x W HFO.out h1 h2 rfl rfl ht3 hx3 HTT.out HTX.out
   rw [hmm] at hne
   have HM3 := HM2.out hin
   rw [hmm] at HM3
   have HM4 := Lib.hid HM3
   clear hin hfb hmm HM3
   go_wp2_with fail
   refine (hot _ _ _ hf.ws ht).mono ?_
   rintro e' w1 ⟨rfl, hb⟩
   replace hfr := fr_call hfr hb
   replace hf := hf.keep hb
   replace hx := hx.keep hb
   replace hr := hr.keep hb
   replace ht := ht.keep hb
   replace hX0 := hX0.keep hb
   replace hX1 := hX1.keep hb
   replace hX2 := hX2.keep hb
   clear hb hc0 hc1 hc2
   have hc0 := fun j => hX0.cell j
   have hl0 := hX0.lt
   have hc1 := fun j => hX1.cell j
   have hl1 := hX1.lt
   have hc2 := fun j => hX2.cell j
   have hl2 := hX2.lt
   go_wp2_with fail
   refine (hbt _ _ _ hf ht).mono ?_
   rintro e' w1 ⟨P2, pc2, rfl, -, hb⟩
   replace hfr := fr_call hfr hb
   replace hf := hf.keep hb
   replace hx := hx.keep hb
   replace hr := hr.keep hb
   replace ht := ht.keep hb
   replace hX0 := hX0.keep hb
   replace hX1 := hX1.keep hb
   replace hX2 := hX2.keep hb
   clear hb hc0 hc1 hc2
   have hc0 := fun j => hX0.cell j
   have hl0 := hX0.lt
   have hc1 := fun j => hX1.cell j
   have hl1 := hX1.lt
   have hc2 := fun j => hX2.cell j
   have hl2 := hX2.lt
   go_wp2_with fail
   refine (hne _ _ _ ht hx).mono ?_
   rintro e' w1 ⟨rfl, hb⟩
   replace hfr := fr_call hfr hb
   replace hf := hf.keep hb
   replace hx := hx.keep hb
   replace hr := hr.keep hb
   replace ht := ht.keep hb
   replace hX0 := hX0.keep hb
   replace hX1 := hX1.keep hb
   replace hX2 := hX2.keep hb
   clear hb hc0 hc1 hc2
   have hc0 := fun j => hX0.cell j
   have hl0 := hX0.lt
   have hc1 := fun j => hX1.cell j
   have hl1 := hX1.lt
   have hc2 := fun j => hX2.cell j
   have hl2 := hX2.lt
   go_upto_region 19 with (fail)
   refine wp_region_noPanic ?_
   have hkS : ∀ W, Below w1.heap.size w1 W → (∀ j, W.cell? ⟨w.heap.size + 1 + 1, j, none⟩ = (#[.int .i64 r1, .int .i64 r2, .int .i64 r3, .int .i64 r4, .slice V vs.length cv] : Array Value)[j]?) := fun W hb => fun j => (hX2.keep hb).cell j
   have hbz := fr_drew (fr_refl w1)
   refine wp_region_held_drew (S := fun W => (∀ j, W.cell? ⟨w.heap.size + 1 + 1, j, none⟩ = (#[.int .i64 r1, .int .i64 r2, .int .i64 r3, .int .i64 r4, .slice V vs.length cv] : Array Value)[j]?)) (by kernel_rfl) (hkS _ hbz) (fun hHeld => ?_)
   generalize w1.drew = wz at hbz hHeld ⊢
   -- the region, step by step, in whatever order
   refine wpAnyH_take (i := 0) (oi := ⟨some 155, .load 53 (.tmp 7), 53, "law.go:379", #[], none⟩) (v := ?_) rfl (by kernel_rfl) (by kernel_rfl) (by kernel_rfl) (fun _ _ _ h => h) (Or.inl ⟨by rfl, fun W hSw => ?_⟩) hHeld ?_
   rotate_left
   ·(try dsimp only at hSw); go_simp; (try with_reducible rfl)
   (try simp only [Act.put, List.setIfInBounds_toArray, List.set_cons_zero, List.set_cons_succ])
   refine wpAnyH_take (i := 1) (oi := ⟨some 156, .move (.tmp 2), 26, "law.go:379", #[], none⟩) (v := ?_) rfl (by kernel_rfl) (by kernel_rfl) (by kernel_rfl) (fun _ _ _ h => h) (Or.inl ⟨by rfl, fun W hSw => ?_⟩) hHeld ?_
   rotate_left
   ·(try dsimp only at hSw); go_simp; (try with_reducible rfl)
   (try simp only [Act.put, List.setIfInBounds_toArray, List.set_cons_zero, List.set_cons_succ])
   refine wpAnyH_ready (rs := [2]) (by kernel_rfl) (by simp) ?_
   refine (AllReadyH.cons (o := ⟨some 157, .call { callee := .value (.func 25), args := #[.tmp 156], argTypes := #[26] }, 26, "law.go:379", #[⟨1, .data⟩], none⟩) rfl (fun K hK => ?_) AllReadyH.nil)
   rw [if_pos (by rfl)]
   go_simp
   refine (ordered_any ad x.length i x _ (hx.keep hbz) rfl hx3.1 hx3.2 HTX.out).mono ?_
   rintro e' wz ⟨A2, c2, rfl, hO, hb⟩
   replace hbz := fr_call hbz hb
   refine hK.out _ _ (hkS _ hbz) (fun hHeld => ?_)
   clear hK K
   (try simp only [Act.put, List.setIfInBounds_toArray, List.set_cons_zero, List.set_cons_succ])
   refine wpAnyH_ready (rs := [3]) (by kernel_rfl) (by simp) ?_
   refine (AllReadyH.cons (o := ⟨some 158, .call { callee := .value (.func 24), args := #[.tmp 155, .tmp 157], argTypes := #[53, 26] }, 61, "law.go:379", #[⟨0, .data⟩, ⟨2, .data⟩, ⟨2, .chain⟩], none⟩) rfl (fun K hK => ?_) AllReadyH.nil)
   rw [if_pos (by rfl)]
   go_simp
   refine (hfi A2 c2 _ hO (hr.keep hbz)).mono ?_
   rintro e' wz ⟨rfl, hb⟩
   replace hbz := fr_call hbz hb
   refine hK.out _ _ (hkS _ hbz) (fun hHeld => ?_)
   clear hK K
   (try simp only [Act.put, List.setIfInBounds_toArray, List.set_cons_zero, List.set_cons_succ])
   refine wpAnyH_take (i := 4) (oi := ⟨some 154, .move (.tmp 158), 61, "law.go:379", #[⟨3, .data⟩], none⟩) (v := ?_) rfl (by kernel_rfl) (by kernel_rfl) (by kernel_rfl) (fun _ _ _ h => h) (Or.inl ⟨by rfl, fun W hSw => ?_⟩) hHeld ?_
   rotate_left
   ·(try dsimp only at hSw); go_simp; (try with_reducible rfl)
   (try simp only [Act.put, List.setIfInBounds_toArray, List.set_cons_zero, List.set_cons_succ])
   refine wpAnyH_take (i := 5) (oi := ⟨some 159, .extract (.tmp 154) 0, 4, "law.go:379", #[⟨4, .data⟩], none⟩) (v := ?_) rfl (by kernel_rfl) (by kernel_rfl) (by kernel_rfl) (fun _ _ _ h => h) (Or.inl ⟨by rfl, fun W hSw => ?_⟩) hHeld ?_
   rotate_left
   ·(try dsimp only at hSw); go_simp; (try with_reducible rfl)
   (try simp only [Act.put, List.setIfInBounds_toArray, List.set_cons_zero, List.set_cons_succ])
   refine wpAnyH_take (i := 6) (oi := ⟨some 160, .extract (.tmp 154) 1, 31, "law.go:379", #[⟨4, .data⟩, ⟨7, .gcOnly .lateStores⟩], none⟩) (v := ?_) rfl (by kernel_rfl) (by kernel_rfl) (by kernel_rfl) (fun _ _ _ h => h) (Or.inl ⟨by rfl, fun W hSw => ?_⟩) hHeld ?_
   rotate_left
   ·(try dsimp only at hSw); go_simp; (try with_reducible rfl)
   (try simp only [Act.put, List.setIfInBounds_toArray, List.set_cons_zero, List.set_cons_succ])
   refine wpAnyH_take (i := 7) (oi := ⟨some 21, .assign (.tmp 159), 4, "law.go:379", #[⟨5, .data⟩, ⟨3, .chain⟩, ⟨0, .phase⟩, ⟨1, .phase⟩, ⟨2, .phase⟩, ⟨3, .phase⟩, ⟨4, .phase⟩, ⟨5, .phase⟩, ⟨6, .textOnly .lateStores⟩], none⟩) (v := ?_) rfl (by kernel_rfl) (by kernel_rfl) (by kernel_rfl) (fun _ _ _ h => h) (Or.inl ⟨by rfl, fun W hSw => ?_⟩) hHeld ?_
   rotate_left
   ·(try dsimp only at hSw); go_simp; (try with_reducible rfl)
   (try simp only [Act.put, List.setIfInBounds_toArray, List.set_cons_zero, List.set_cons_succ])
   refine wpAnyH_take (i := 8) (oi := ⟨some 22, .assign (.tmp 160), 31, "law.go:379", #[⟨6, .data⟩, ⟨7, .chain⟩, ⟨0, .phase⟩, ⟨1, .phase⟩, ⟨2, .phase⟩, ⟨3, .phase⟩, ⟨4, .phase⟩, ⟨5, .phase⟩, ⟨6, .phase⟩, ⟨7, .phase⟩], none⟩) (v := ?_) rfl (by kernel_rfl) (by kernel_rfl) (by kernel_rfl) (fun _ _ _ h => h) (Or.inl ⟨by rfl, fun W hSw => ?_⟩) hHeld ?_
   rotate_left
   ·(try dsimp only at hSw); go_simp; (try with_reducible rfl)
   (try simp only [Act.put, List.setIfInBounds_toArray, List.set_cons_zero, List.set_cons_succ])
   refine wpAnyH_done (by kernel_rfl) ?_ _
   refine NoPanic.normal ?_
   replace hfr := fr_call hfr hbz
   replace hx := hx.keep hbz
   replace ht := ht.keep hbz
   clear hkS hHeld hbz hc0 hc1 hc2 hl0 hl1 hl2
   cases fb
   ·have n1 : ((ru : Int) == (a : Int)) = false := by have := HN2.out rfl; have := HHA.out; exact beq_eq_false_iff_ne.2 (by omega)
    rcases HM4.out with hm | ⟨hm, hso⟩
    ·go_wp2_with fail
     refine (known_is _ (hT.keep hfr) (hM.keep hfr)).mono ?_
     rintro e' w1 ⟨rfl, hb⟩
     replace hfr := fr_call hfr hb
     clear hb
     go_wp2_with fail
     go_ret
     exact ⟨rfl, hfr⟩
    ·subst hm
     have HSO := Lib.hid (fun W h1 h2 => soon_any (some ad) T x.length tp.length i tc x tp W h1 h2 rfl rfl (by omega) (by omega))
     have hs0 := HSO.out _ hx ht
     rw [hso] at hs0
     clear hso
     go_wp2_with fail
     refine hs0.mono ?_
     rintro e' w2 ⟨rfl, hb⟩
     replace hfr := fr_call hfr hb
     clear hb
     go_wp2_with fail
     refine (known_is _ (hT.keep hfr) (hM.keep hfr)).mono ?_
     rintro e' w1 ⟨rfl, hb⟩
     replace hfr := fr_call hfr hb
     clear hb
     go_wp2_with fail
     go_ret
     exact ⟨rfl, hfr⟩
   ·have n1 : ((ru : Int) == 0) = false := by have := HY.out rfl; exact beq_eq_false_iff_ne.2 (by omega)
    rcases HM4.out with hm | ⟨hm, hso⟩
    ·go_wp2_with fail
     refine (known_is _ (hT.keep hfr) (hM.keep hfr)).mono ?_
     rintro e' w1 ⟨rfl, hb⟩
     replace hfr := fr_call hfr hb
     clear hb
     go_wp2_with fail
     go_ret
     exact ⟨rfl, hfr⟩
    ·subst hm
     have HSO := Lib.hid (fun W h1 h2 => soon_any (some ad) T x.length tp.length i tc x tp W h1 h2 rfl rfl (by omega) (by omega))
     have hs0 := HSO.out _ hx ht
     rw [hso] at hs0
     clear hso
     go_wp2_with fail
     refine hs0.mono ?_
     rintro e' w2 ⟨rfl, hb⟩
     replace hfr := fr_call hfr hb
     clear hb
     go_wp2_with fail
     refine (known_is _ (hT.keep hfr) (hM.keep hfr)).mono ?_
     rintro e' w1 ⟨rfl, hb⟩
     replace hfr := fr_call hfr hb
     clear hb
     go_wp2_with fail
     go_ret
     exact ⟨rfl, hfr⟩
  ·have b0 : ((p : Int) == 0) = false := beq_eq_false_iff_ne.2 (by omega)
   have b1 : ((p : Int) != 0) = true := by simp; omega
   go_wp2_with fail
   refine (hot _ _ _ hf.ws ht).mono ?_
   rintro e' w1 ⟨rfl, hb⟩
   replace hfr := fr_call hfr hb
   replace hf := hf.keep hb
   replace hx := hx.keep hb
   replace hr := hr.keep hb
   replace ht := ht.keep hb
   replace hX0 := hX0.keep hb
   replace hX1 := hX1.keep hb
   replace hX2 := hX2.keep hb
   clear hb hc0 hc1 hc2
   have hc0 := fun j => hX0.cell j
   have hl0 := hX0.lt
   have hc1 := fun j => hX1.cell j
   have hl1 := hX1.lt
   have hc2 := fun j => hX2.cell j
   have hl2 := hX2.lt
   go_wp2_with fail
   refine (hbt _ _ _ hf ht).mono ?_
   rintro e' w1 ⟨P2, pc2, rfl, -, hb⟩
   replace hfr := fr_call hfr hb
   replace hf := hf.keep hb
   replace hx := hx.keep hb
   replace hr := hr.keep hb
   replace ht := ht.keep hb
   replace hX0 := hX0.keep hb
   replace hX1 := hX1.keep hb
   replace hX2 := hX2.keep hb
   clear hb hc0 hc1 hc2
   have hc0 := fun j => hX0.cell j
   have hl0 := hX0.lt
   have hc1 := fun j => hX1.cell j
   have hl1 := hX1.lt
   have hc2 := fun j => hX2.cell j
   have hl2 := hX2.lt
   go_wp2_with fail
   refine (known_is _ (hT.keep hfr) (hM.keep hfr)).mono ?_
   rintro e' w1 ⟨rfl, hb⟩
   replace hfr := fr_call hfr hb
   clear hb
   go_wp2_with fail
   go_ret
   exact ⟨rfl, hfr⟩
end Go.Proofs.YtfgghicdkcjdgaaGreatDoor
end

section
namespace Go.Proofs.YtfgghicdkcjdgaaGreatDoor
open Go.RowKit Go.Shelf

set_option maxRecDepth 100000 in
set_option maxHeartbeats 16000000 in
theorem near_true (A N C V : Option Addr) (c d i cv : Nat) (ws : List Wh) (ns : List Note) (x : List Wh) (fn fd r1 r2 r3 r4 : Int) (vs : List Int) (w : World) (hf0 : FindAt w A N ws ns) (hx0 : RdS w C 2 (x.map Wh.cells)) (hr0 : Rd w V vs.length vs) (hT : TabP w) (hM : MaxP w) :
  Calls Tryz.prog 4 #[.agg #[.slice A ws.length c, .slice N ns.length d], .agg #[.int .i64 fn, .int .i64 fd], .slice C x.length i, .agg #[.int .i64 r1, .int .i64 r2, .int .i64 r3, .int .i64 r4, .slice V vs.length cv]] w fun e' w' => e' = .returned (.bool true) ∧ Below w.heap.size w w' := by
 have hf := hf0
 have hx := hx0
 have hr := hr0
 have hfr := fr_alloc (fr_alloc (fr_alloc (fr_refl w) (.cells #[.slice A ws.length c, .slice N ns.length d] 25)) (.cells #[.int .i64 fn, .int .i64 fd] 40)) (.cells #[.int .i64 r1, .int .i64 r2, .int .i64 r3, .int .i64 r4, .slice V vs.length cv] 53)
 have hX0 : Blk (((w.alloc (.cells #[.slice A ws.length c, .slice N ns.length d] 25)).alloc (.cells #[.int .i64 fn, .int .i64 fd] 40)).alloc (.cells #[.int .i64 r1, .int .i64 r2, .int .i64 r3, .int .i64 r4, .slice V vs.length cv] 53)) (w.heap.size) 25 #[.slice A ws.length c, .slice N ns.length d] := (((Blk.new_at _ _ (by simp)).alloc _).alloc _)
 have hX1 : Blk (((w.alloc (.cells #[.slice A ws.length c, .slice N ns.length d] 25)).alloc (.cells #[.int .i64 fn, .int .i64 fd] 40)).alloc (.cells #[.int .i64 r1, .int .i64 r2, .int .i64 r3, .int .i64 r4, .slice V vs.length cv] 53)) (w.heap.size + 1) 40 #[.int .i64 fn, .int .i64 fd] := ((Blk.new_at _ _ (by simp)).alloc _)
 have hX2 : Blk (((w.alloc (.cells #[.slice A ws.length c, .slice N ns.length d] 25)).alloc (.cells #[.int .i64 fn, .int .i64 fd] 40)).alloc (.cells #[.int .i64 r1, .int .i64 r2, .int .i64 r3, .int .i64 r4, .slice V vs.length cv] 53)) (w.heap.size + 1 + 1) 53 #[.int .i64 r1, .int .i64 r2, .int .i64 r3, .int .i64 r4, .slice V vs.length cv] := (Blk.new_at _ _ (by simp))
 replace hf := hf.keep hfr
 replace hx := hx.keep hfr
 replace hr := hr.keep hfr
 have hc0 := fun j => hX0.cell j
 have hl0 := hX0.lt
 have hc1 := fun j => hX1.cell j
 have hl1 := hX1.lt
 have hc2 := fun j => hX2.cell j
 have hl2 := hX2.lt
 cases s1 : (decide ((ws.length : Int) ≤ 8) && decide ((ns.length : Int) ≤ 11))
 ·go_enter Tryz.func4, Tryz.ntmps4
  go_wp2_with fail
  refine (short_any A N ws.length ns.length c d _ _ s1).mono ?_
  rintro e' w1 ⟨rfl, hb⟩
  replace hfr := fr_call hfr hb
  replace hf := hf.keep hb
  replace hx := hx.keep hb
  replace hr := hr.keep hb
  replace hX0 := hX0.keep hb
  replace hX1 := hX1.keep hb
  replace hX2 := hX2.keep hb
  clear hb hc0 hc1 hc2
  have hc0 := fun j => hX0.cell j
  have hl0 := hX0.lt
  have hc1 := fun j => hX1.cell j
  have hl1 := hX1.lt
  have hc2 := fun j => hX2.cell j
  have hl2 := hX2.lt
  go_wp2_with fail
  refine (known_is _ (hT.keep hfr) (hM.keep hfr)).mono ?_
  rintro e' w1 ⟨rfl, hb⟩
  replace hfr := fr_call hfr hb
  clear hb
  go_wp2_with fail
  go_ret
  exact ⟨rfl, hfr⟩
 ·have s1a : ws.length ≤ 8 ∧ ns.length ≤ 11 := by simp at s1; omega
  cases n1 : narrowB ws ns
  ·go_enter Tryz.func4, Tryz.ntmps4
   go_wp2_with fail
   refine (short_any A N ws.length ns.length c d _ _ s1).mono ?_
   rintro e' w1 ⟨rfl, hb⟩
   replace hfr := fr_call hfr hb
   replace hf := hf.keep hb
   replace hx := hx.keep hb
   replace hr := hr.keep hb
   replace hX0 := hX0.keep hb
   replace hX1 := hX1.keep hb
   replace hX2 := hX2.keep hb
   clear hb hc0 hc1 hc2
   have hc0 := fun j => hX0.cell j
   have hl0 := hX0.lt
   have hc1 := fun j => hX1.cell j
   have hl1 := hX1.lt
   have hc2 := fun j => hX2.cell j
   have hl2 := hX2.lt
   go_wp2_with fail
   refine (narrow_any A N ws.length ns.length c d ws ns _ hf rfl rfl (by omega) (by omega) _ n1).mono ?_
   rintro e' w1 ⟨rfl, hb⟩
   replace hfr := fr_call hfr hb
   replace hf := hf.keep hb
   replace hx := hx.keep hb
   replace hr := hr.keep hb
   replace hX0 := hX0.keep hb
   replace hX1 := hX1.keep hb
   replace hX2 := hX2.keep hb
   clear hb hc0 hc1 hc2
   have hc0 := fun j => hX0.cell j
   have hl0 := hX0.lt
   have hc1 := fun j => hX1.cell j
   have hl1 := hX1.lt
   have hc2 := fun j => hX2.cell j
   have hl2 := hX2.lt
   go_wp2_with fail
   refine (known_is _ (hT.keep hfr) (hM.keep hfr)).mono ?_
   rintro e' w1 ⟨rfl, hb⟩
   replace hfr := fr_call hfr hb
   clear hb
   go_wp2_with fail
   go_ret
   exact ⟨rfl, hfr⟩
  ·by_cases k1 : x.length ≤ 5
   ·have k1b : ¬ (5 < (x.length : Int)) := by omega
    by_cases k2 : vs.length ≤ 8
    ·have k2b : ¬ (8 < (vs.length : Int)) := by omega
     cases f1 : findB ws ns
     ·go_enter Tryz.func4, Tryz.ntmps4
      go_wp2_with fail
      refine (short_any A N ws.length ns.length c d _ _ s1).mono ?_
      rintro e' w1 ⟨rfl, hb⟩
      replace hfr := fr_call hfr hb
      replace hf := hf.keep hb
      replace hx := hx.keep hb
      replace hr := hr.keep hb
      replace hX0 := hX0.keep hb
      replace hX1 := hX1.keep hb
      replace hX2 := hX2.keep hb
      clear hb hc0 hc1 hc2
      have hc0 := fun j => hX0.cell j
      have hl0 := hX0.lt
      have hc1 := fun j => hX1.cell j
      have hl1 := hX1.lt
      have hc2 := fun j => hX2.cell j
      have hl2 := hX2.lt
      go_wp2_with fail
      refine (narrow_any A N ws.length ns.length c d ws ns _ hf rfl rfl (by omega) (by omega) _ n1).mono ?_
      rintro e' w1 ⟨rfl, hb⟩
      replace hfr := fr_call hfr hb
      replace hf := hf.keep hb
      replace hx := hx.keep hb
      replace hr := hr.keep hb
      replace hX0 := hX0.keep hb
      replace hX1 := hX1.keep hb
      replace hX2 := hX2.keep hb
      clear hb hc0 hc1 hc2
      have hc0 := fun j => hX0.cell j
      have hl0 := hX0.lt
      have hc1 := fun j => hX1.cell j
      have hl1 := hX1.lt
      have hc2 := fun j => hX2.cell j
      have hl2 := hX2.lt
      go_wp2_with fail
      refine (Find8_any A N ws.length ns.length c d ws ns _ hf rfl rfl (by omega) (by omega) _ f1).mono ?_
      rintro e' w1 ⟨rfl, hb⟩
      replace hfr := fr_call hfr hb
      replace hf := hf.keep hb
      replace hx := hx.keep hb
      replace hr := hr.keep hb
      replace hX0 := hX0.keep hb
      replace hX1 := hX1.keep hb
      replace hX2 := hX2.keep hb
      clear hb hc0 hc1 hc2
      have hc0 := fun j => hX0.cell j
      have hl0 := hX0.lt
      have hc1 := fun j => hX1.cell j
      have hl1 := hX1.lt
      have hc2 := fun j => hX2.cell j
      have hl2 := hX2.lt
      go_wp2_with fail
      refine (known_is _ (hT.keep hfr) (hM.keep hfr)).mono ?_
      rintro e' w1 ⟨rfl, hb⟩
      replace hfr := fr_call hfr hb
      clear hb
      go_wp2_with fail
      go_ret
      exact ⟨rfl, hfr⟩
     ·cases q1 : fracB fn fd
      ·go_enter Tryz.func4, Tryz.ntmps4
       go_wp2_with fail
       refine (short_any A N ws.length ns.length c d _ _ s1).mono ?_
       rintro e' w1 ⟨rfl, hb⟩
       replace hfr := fr_call hfr hb
       replace hf := hf.keep hb
       replace hx := hx.keep hb
       replace hr := hr.keep hb
       replace hX0 := hX0.keep hb
       replace hX1 := hX1.keep hb
       replace hX2 := hX2.keep hb
       clear hb hc0 hc1 hc2
       have hc0 := fun j => hX0.cell j
       have hl0 := hX0.lt
       have hc1 := fun j => hX1.cell j
       have hl1 := hX1.lt
       have hc2 := fun j => hX2.cell j
       have hl2 := hX2.lt
       go_wp2_with fail
       refine (narrow_any A N ws.length ns.length c d ws ns _ hf rfl rfl (by omega) (by omega) _ n1).mono ?_
       rintro e' w1 ⟨rfl, hb⟩
       replace hfr := fr_call hfr hb
       replace hf := hf.keep hb
       replace hx := hx.keep hb
       replace hr := hr.keep hb
       replace hX0 := hX0.keep hb
       replace hX1 := hX1.keep hb
       replace hX2 := hX2.keep hb
       clear hb hc0 hc1 hc2
       have hc0 := fun j => hX0.cell j
       have hl0 := hX0.lt
       have hc1 := fun j => hX1.cell j
       have hl1 := hX1.lt
       have hc2 := fun j => hX2.cell j
       have hl2 := hX2.lt
       go_wp2_with fail
       refine (Find8_any A N ws.length ns.length c d ws ns _ hf rfl rfl (by omega) (by omega) _ f1).mono ?_
       rintro e' w1 ⟨rfl, hb⟩
       replace hfr := fr_call hfr hb
       replace hf := hf.keep hb
       replace hx := hx.keep hb
       replace hr := hr.keep hb
       replace hX0 := hX0.keep hb
       replace hX1 := hX1.keep hb
       replace hX2 := hX2.keep hb
       clear hb hc0 hc1 hc2
       have hc0 := fun j => hX0.cell j
       have hl0 := hX0.lt
       have hc1 := fun j => hX1.cell j
       have hl1 := hX1.lt
       have hc2 := fun j => hX2.cell j
       have hl2 := hX2.lt
       go_wp2_with fail
       refine (rfraction_is fn fd _ _ q1).mono ?_
       rintro e' w1 ⟨rfl, hb⟩
       replace hfr := fr_call hfr hb
       replace hf := hf.keep hb
       replace hx := hx.keep hb
       replace hr := hr.keep hb
       replace hX0 := hX0.keep hb
       replace hX1 := hX1.keep hb
       replace hX2 := hX2.keep hb
       clear hb hc0 hc1 hc2
       have hc0 := fun j => hX0.cell j
       have hl0 := hX0.lt
       have hc1 := fun j => hX1.cell j
       have hl1 := hX1.lt
       have hc2 := fun j => hX2.cell j
       have hl2 := hX2.lt
       go_wp2_with fail
       refine (known_is _ (hT.keep hfr) (hM.keep hfr)).mono ?_
       rintro e' w1 ⟨rfl, hb⟩
       replace hfr := fr_call hfr hb
       clear hb
       go_wp2_with fail
       go_ret
       exact ⟨rfl, hfr⟩
      ·by_cases o1 : Fits ws (teethL x)
       ·have o1H := Lib.hid o1
        cases u1 : ruleB ⟨r1, r2, r3, r4, vs⟩
        ·go_enter Tryz.func4, Tryz.ntmps4
         go_wp2_with fail
         refine (short_any A N ws.length ns.length c d _ _ s1).mono ?_
         rintro e' w1 ⟨rfl, hb⟩
         replace hfr := fr_call hfr hb
         replace hf := hf.keep hb
         replace hx := hx.keep hb
         replace hr := hr.keep hb
         replace hX0 := hX0.keep hb
         replace hX1 := hX1.keep hb
         replace hX2 := hX2.keep hb
         clear hb hc0 hc1 hc2
         have hc0 := fun j => hX0.cell j
         have hl0 := hX0.lt
         have hc1 := fun j => hX1.cell j
         have hl1 := hX1.lt
         have hc2 := fun j => hX2.cell j
         have hl2 := hX2.lt
         go_wp2_with fail
         refine (narrow_any A N ws.length ns.length c d ws ns _ hf rfl rfl (by omega) (by omega) _ n1).mono ?_
         rintro e' w1 ⟨rfl, hb⟩
         replace hfr := fr_call hfr hb
         replace hf := hf.keep hb
         replace hx := hx.keep hb
         replace hr := hr.keep hb
         replace hX0 := hX0.keep hb
         replace hX1 := hX1.keep hb
         replace hX2 := hX2.keep hb
         clear hb hc0 hc1 hc2
         have hc0 := fun j => hX0.cell j
         have hl0 := hX0.lt
         have hc1 := fun j => hX1.cell j
         have hl1 := hX1.lt
         have hc2 := fun j => hX2.cell j
         have hl2 := hX2.lt
         go_wp2_with fail
         refine (Find8_any A N ws.length ns.length c d ws ns _ hf rfl rfl (by omega) (by omega) _ f1).mono ?_
         rintro e' w1 ⟨rfl, hb⟩
         replace hfr := fr_call hfr hb
         replace hf := hf.keep hb
         replace hx := hx.keep hb
         replace hr := hr.keep hb
         replace hX0 := hX0.keep hb
         replace hX1 := hX1.keep hb
         replace hX2 := hX2.keep hb
         clear hb hc0 hc1 hc2
         have hc0 := fun j => hX0.cell j
         have hl0 := hX0.lt
         have hc1 := fun j => hX1.cell j
         have hl1 := hX1.lt
         have hc2 := fun j => hX2.cell j
         have hl2 := hX2.lt
         go_wp2_with fail
         refine (rfraction_is fn fd _ _ q1).mono ?_
         rintro e' w1 ⟨rfl, hb⟩
         replace hfr := fr_call hfr hb
         replace hf := hf.keep hb
         replace hx := hx.keep hb
         replace hr := hr.keep hb
         replace hX0 := hX0.keep hb
         replace hX1 := hX1.keep hb
         replace hX2 := hX2.keep hb
         clear hb hc0 hc1 hc2
         have hc0 := fun j => hX0.cell j
         have hl0 := hX0.lt
         have hc1 := fun j => hX1.cell j
         have hl1 := hX1.lt
         have hc2 := fun j => hX2.cell j
         have hl2 := hX2.lt
         go_wp2_with fail
         refine (Own8_any A N C ws.length ns.length c d x.length i ws x _ hf.ws hx rfl (by omega) rfl (by omega) true (by simp [o1H.out])).mono ?_
         rintro e' w1 ⟨rfl, hb⟩
         replace hfr := fr_call hfr hb
         replace hf := hf.keep hb
         replace hx := hx.keep hb
         replace hr := hr.keep hb
         replace hX0 := hX0.keep hb
         replace hX1 := hX1.keep hb
         replace hX2 := hX2.keep hb
         clear hb hc0 hc1 hc2
         have hc0 := fun j => hX0.cell j
         have hl0 := hX0.lt
         have hc1 := fun j => hX1.cell j
         have hl1 := hX1.lt
         have hc2 := fun j => hX2.cell j
         have hl2 := hX2.lt
         go_wp2_with fail
         refine (rRule_is V vs.length cv ⟨r1, r2, r3, r4, vs⟩ _ hr (by omega) _ u1).mono ?_
         rintro e' w1 ⟨rfl, hb⟩
         replace hfr := fr_call hfr hb
         replace hf := hf.keep hb
         replace hx := hx.keep hb
         replace hr := hr.keep hb
         replace hX0 := hX0.keep hb
         replace hX1 := hX1.keep hb
         replace hX2 := hX2.keep hb
         clear hb hc0 hc1 hc2
         have hc0 := fun j => hX0.cell j
         have hl0 := hX0.lt
         have hc1 := fun j => hX1.cell j
         have hl1 := hX1.lt
         have hc2 := fun j => hX2.cell j
         have hl2 := hX2.lt
         go_wp2_with fail
         refine (known_is _ (hT.keep hfr) (hM.keep hfr)).mono ?_
         rintro e' w1 ⟨rfl, hb⟩
         replace hfr := fr_call hfr hb
         clear hb
         go_wp2_with fail
         go_ret
         exact ⟨rfl, hfr⟩
        ·exact near_main A N C V c d i cv ws ns x fn fd r1 r2 r3 r4 vs w hf0 hx0 hr0 hT hM s1 s1a n1 k1 k1b k2 k2b f1 q1 o1 u1
       ·go_enter Tryz.func4, Tryz.ntmps4
        go_wp2_with fail
        refine (short_any A N ws.length ns.length c d _ _ s1).mono ?_
        rintro e' w1 ⟨rfl, hb⟩
        replace hfr := fr_call hfr hb
        replace hf := hf.keep hb
        replace hx := hx.keep hb
        replace hr := hr.keep hb
        replace hX0 := hX0.keep hb
        replace hX1 := hX1.keep hb
        replace hX2 := hX2.keep hb
        clear hb hc0 hc1 hc2
        have hc0 := fun j => hX0.cell j
        have hl0 := hX0.lt
        have hc1 := fun j => hX1.cell j
        have hl1 := hX1.lt
        have hc2 := fun j => hX2.cell j
        have hl2 := hX2.lt
        go_wp2_with fail
        refine (narrow_any A N ws.length ns.length c d ws ns _ hf rfl rfl (by omega) (by omega) _ n1).mono ?_
        rintro e' w1 ⟨rfl, hb⟩
        replace hfr := fr_call hfr hb
        replace hf := hf.keep hb
        replace hx := hx.keep hb
        replace hr := hr.keep hb
        replace hX0 := hX0.keep hb
        replace hX1 := hX1.keep hb
        replace hX2 := hX2.keep hb
        clear hb hc0 hc1 hc2
        have hc0 := fun j => hX0.cell j
        have hl0 := hX0.lt
        have hc1 := fun j => hX1.cell j
        have hl1 := hX1.lt
        have hc2 := fun j => hX2.cell j
        have hl2 := hX2.lt
        go_wp2_with fail
        refine (Find8_any A N ws.length ns.length c d ws ns _ hf rfl rfl (by omega) (by omega) _ f1).mono ?_
        rintro e' w1 ⟨rfl, hb⟩
        replace hfr := fr_call hfr hb
        replace hf := hf.keep hb
        replace hx := hx.keep hb
        replace hr := hr.keep hb
        replace hX0 := hX0.keep hb
        replace hX1 := hX1.keep hb
        replace hX2 := hX2.keep hb
        clear hb hc0 hc1 hc2
        have hc0 := fun j => hX0.cell j
        have hl0 := hX0.lt
        have hc1 := fun j => hX1.cell j
        have hl1 := hX1.lt
        have hc2 := fun j => hX2.cell j
        have hl2 := hX2.lt
        go_wp2_with fail
        refine (rfraction_is fn fd _ _ q1).mono ?_
        rintro e' w1 ⟨rfl, hb⟩
        replace hfr := fr_call hfr hb
        replace hf := hf.keep hb
        replace hx := hx.keep hb
        replace hr := hr.keep hb
        replace hX0 := hX0.keep hb
        replace hX1 := hX1.keep hb
        replace hX2 := hX2.keep hb
        clear hb hc0 hc1 hc2
        have hc0 := fun j => hX0.cell j
        have hl0 := hX0.lt
        have hc1 := fun j => hX1.cell j
        have hl1 := hX1.lt
        have hc2 := fun j => hX2.cell j
        have hl2 := hX2.lt
        go_wp2_with fail
        refine (Own8_any A N C ws.length ns.length c d x.length i ws x _ hf.ws hx rfl (by omega) rfl (by omega) false (by simp [o1])).mono ?_
        rintro e' w1 ⟨rfl, hb⟩
        replace hfr := fr_call hfr hb
        replace hf := hf.keep hb
        replace hx := hx.keep hb
        replace hr := hr.keep hb
        replace hX0 := hX0.keep hb
        replace hX1 := hX1.keep hb
        replace hX2 := hX2.keep hb
        clear hb hc0 hc1 hc2
        have hc0 := fun j => hX0.cell j
        have hl0 := hX0.lt
        have hc1 := fun j => hX1.cell j
        have hl1 := hX1.lt
        have hc2 := fun j => hX2.cell j
        have hl2 := hX2.lt
        go_wp2_with fail
        refine (known_is _ (hT.keep hfr) (hM.keep hfr)).mono ?_
        rintro e' w1 ⟨rfl, hb⟩
        replace hfr := fr_call hfr hb
        clear hb
        go_wp2_with fail
        go_ret
        exact ⟨rfl, hfr⟩
    ·have k2b : 8 < (vs.length : Int) := by omega
     go_enter Tryz.func4, Tryz.ntmps4
     go_wp2_with fail
     refine (short_any A N ws.length ns.length c d _ _ s1).mono ?_
     rintro e' w1 ⟨rfl, hb⟩
     replace hfr := fr_call hfr hb
     replace hf := hf.keep hb
     replace hx := hx.keep hb
     replace hr := hr.keep hb
     replace hX0 := hX0.keep hb
     replace hX1 := hX1.keep hb
     replace hX2 := hX2.keep hb
     clear hb hc0 hc1 hc2
     have hc0 := fun j => hX0.cell j
     have hl0 := hX0.lt
     have hc1 := fun j => hX1.cell j
     have hl1 := hX1.lt
     have hc2 := fun j => hX2.cell j
     have hl2 := hX2.lt
     go_wp2_with fail
     refine (narrow_any A N ws.length ns.length c d ws ns _ hf rfl rfl (by omega) (by omega) _ n1).mono ?_
     rintro e' w1 ⟨rfl, hb⟩
     replace hfr := fr_call hfr hb
     replace hf := hf.keep hb
     replace hx := hx.keep hb
     replace hr := hr.keep hb
     replace hX0 := hX0.keep hb
     replace hX1 := hX1.keep hb
     replace hX2 := hX2.keep hb
     clear hb hc0 hc1 hc2
     have hc0 := fun j => hX0.cell j
     have hl0 := hX0.lt
     have hc1 := fun j => hX1.cell j
     have hl1 := hX1.lt
     have hc2 := fun j => hX2.cell j
     have hl2 := hX2.lt
     go_wp2_with fail
     refine (known_is _ (hT.keep hfr) (hM.keep hfr)).mono ?_
     rintro e' w1 ⟨rfl, hb⟩
     replace hfr := fr_call hfr hb
     clear hb
     go_wp2_with fail
     go_ret
     exact ⟨rfl, hfr⟩
   ·have k1b : 5 < (x.length : Int) := by omega
    go_enter Tryz.func4, Tryz.ntmps4
    go_wp2_with fail
    refine (short_any A N ws.length ns.length c d _ _ s1).mono ?_
    rintro e' w1 ⟨rfl, hb⟩
    replace hfr := fr_call hfr hb
    replace hf := hf.keep hb
    replace hx := hx.keep hb
    replace hr := hr.keep hb
    replace hX0 := hX0.keep hb
    replace hX1 := hX1.keep hb
    replace hX2 := hX2.keep hb
    clear hb hc0 hc1 hc2
    have hc0 := fun j => hX0.cell j
    have hl0 := hX0.lt
    have hc1 := fun j => hX1.cell j
    have hl1 := hX1.lt
    have hc2 := fun j => hX2.cell j
    have hl2 := hX2.lt
    go_wp2_with fail
    refine (narrow_any A N ws.length ns.length c d ws ns _ hf rfl rfl (by omega) (by omega) _ n1).mono ?_
    rintro e' w1 ⟨rfl, hb⟩
    replace hfr := fr_call hfr hb
    replace hf := hf.keep hb
    replace hx := hx.keep hb
    replace hr := hr.keep hb
    replace hX0 := hX0.keep hb
    replace hX1 := hX1.keep hb
    replace hX2 := hX2.keep hb
    clear hb hc0 hc1 hc2
    have hc0 := fun j => hX0.cell j
    have hl0 := hX0.lt
    have hc1 := fun j => hX1.cell j
    have hl1 := hX1.lt
    have hc2 := fun j => hX2.cell j
    have hl2 := hX2.lt
    go_wp2_with fail
    refine (known_is _ (hT.keep hfr) (hM.keep hfr)).mono ?_
    rintro e' w1 ⟨rfl, hb⟩
    replace hfr := fr_call hfr hb
    clear hb
    go_wp2_with fail
    go_ret
    exact ⟨rfl, hfr⟩
end Go.Proofs.YtfgghicdkcjdgaaGreatDoor
end
