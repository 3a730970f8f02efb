/- The law GuessAll, walked (by gen_all.py). The statement of GuessAll: for every input the law returns true, and the input reads behind the call as it did; the listed table is tied to the program's text. No condition of its own. -/
import Derived.Test.YthenlopnlaiodaaGreatDoorMG11
import Derived.Test.YthenlopnlaiodaaGreatDoorMG13
import Derived.Test.YthenlopnlaiodaaGreatDoorMG20
import Derived.Test.YthenlopnlaiodaaGreatDoorMG21
import Derived.Test.YthenlopnlaiodaaGreatDoorRows
import Derived.Test.YthenlopnlaiodaaGreatDoorCards
import Derived.Test.YthenlopnlaiodaaGreatDoorTie
import Derived.SevenTiedAt
section
namespace Go.Proofs.YthenlopnlaiodaaGreatDoor
open Go.RowKit Go.Shelf

set_option maxRecDepth 100000 in
set_option maxHeartbeats 16000000 in
theorem all_true (A N C : Option Addr) (c d k : Nat) (ws : List Wh) (ns : List Note) (x : List Wh) (w : World) (hf0 : FindAt w A N ws ns) (hx0 : RdS w C 2 (x.map Wh.cells)) (hn : ws.length ≤ 9223372036854775807) (hm : ns.length ≤ 9223372036854775807) (hk : x.length ≤ 9223372036854775807) (hT : TabP w) (hM : MaxP w) :
  Calls Tryz.prog 5 #[.agg #[.slice A ws.length c, .slice N ns.length d], .slice C x.length k] w fun e' w' => e' = .returned (.bool true) ∧ Below w.heap.size w w' := by
 have hfr := fr_alloc (fr_refl w) (.cells #[.slice A ws.length c, .slice N ns.length d] 25)
 have hX := Blk.new w 25 #[.slice A ws.length c, .slice N ns.length d]
 have hcX := fun j => hX.cell j
 have hxl := hX.lt
 have hf := hf0.keep hfr
 have hx := hx0.keep hfr
 clear hf0 hx0
 by_cases hs : ws.length ≤ 8 ∧ ns.length ≤ 11
 ·obtain ⟨hs1, hs2⟩ := hs
  have hsb : (decide ((ws.length : Int) ≤ 8) && decide ((ns.length : Int) ≤ 11)) = true := by simp; omega
  by_cases hk5 : x.length ≤ 5
  ·have hk5' : ¬ (5 < (x.length : Int)) := by omega
   cases hfb : findB ws ns
   ·go_enter Tryz.func5, Tryz.ntmps5
    go_wp2_with fail
    refine (short_any A N ws.length ns.length c d _ _ hsb).mono ?_
    rintro e' w1 ⟨rfl, hb⟩
    replace hfr := fr_call hfr hb
    replace hf := hf.keep hb
    replace hX := hX.keep hb
    replace hx := hx.keep hb
    clear hb hcX
    have hcX := fun j => hX.cell j
    have hxl := hX.lt
    go_wp2_with fail
    refine (Find8_any A N ws.length ns.length c d ws ns _ hf rfl rfl (by omega) (by omega) _ hfb).mono ?_
    rintro e' w1 ⟨rfl, hb⟩
    replace hfr := fr_call hfr hb
    replace hf := hf.keep hb
    replace hX := hX.keep hb
    replace hx := hx.keep hb
    clear hb hcX
    have hcX := fun j => hX.cell j
    have hxl := hX.lt
    go_wp2_with fail
    refine (known_is _ (hT.keep hfr) (hM.keep hfr)).mono ?_
    rintro e' w1 ⟨rfl, hb⟩
    replace hfr := fr_call hfr hb
    go_wp2_with fail
    go_ret
    exact ⟨rfl, hfr⟩
   by_cases hfit : Fits ws (teethL x)
   ·have hv := find_ok hfb
    have hao := Lib.hid (all_ok hv)
    have hmg : breaksL ns (teethL x) = [] ↔ x ∈ (guessL ws ns).map pairsOf := by
     rw [mem_pairs (guess_even hv.even), mem_guess]
     exact ⟨fun h => ⟨hfit, h⟩, fun h => h.2⟩
    have hpl : ((guessL ws ns).map pairsOf).length = (guessL ws ns).length := List.length_map _
    obtain ⟨ts, hts⟩ : ∃ ts, guessL ws ns = ts := ⟨_, rfl⟩
    obtain ⟨bs, hbs⟩ : ∃ bs, breaksL ns (teethL x) = bs := ⟨_, rfl⟩
    rw [hts] at hmg hpl hao
    rw [hbs] at hmg
    have hgs := fun W h => Guesses_ok A N c d ws ns W h hv
    have hli := fun W h => List_ok A N c d ws ns ts hts W h hv
    have hbr := fun W h hx => Breaks_own A N C c d k x.length ws ns x W h hv hx rfl hfit
    rw [hts] at hgs
    rw [hbs] at hbr
    have HFB := Lib.hid hfb
    have HFI := Lib.hid hfit
    unfold ListPost at hli
    obtain ⟨q, hq⟩ : ∃ q, ts.length = q := ⟨_, rfl⟩
    obtain ⟨ps, hps⟩ : ∃ ps, ts.map pairsOf = ps := ⟨_, rfl⟩
    rw [hps] at hmg hpl hao hli
    rw [hq] at hpl hgs hli
    obtain ⟨r, hr⟩ : ∃ r, bs.length = r := ⟨_, rfl⟩
    rw [← List.length_eq_zero_iff, hr] at hmg
    have hbr' : ∀ W, FindAt W A N ws ns → RdS W C 2 (x.map Wh.cells) → Calls Tryz.prog 17 #[.agg #[.slice A ws.length c, .slice N ns.length d], .slice C x.length k] W fun e w' => ∃ B b, e = .returned (.tuple #[.slice B r b, .int .i64 0]) ∧ Below W.heap.size W w' := fun W h hx => by
     refine (hbr W h hx).mono ?_
     rintro e w' ⟨B, b, rfl, _, h2⟩
     rw [hr]
     exact ⟨B, b, rfl, h2⟩
    clear hbr hbs hps hts hr hq
    by_cases hq2 : 200 < q
    ·simp only [if_pos hq2] at hli
     have hq3 : 200 < (q : Int) := by omega
     have hq4 : ((q : Int) == 0) = false := beq_eq_false_iff_ne.2 (by omega)
     clear hfb hfit hpl hmg
     by_cases hr0 : r = 0
     ·have hr1 : ((r : Int) == 0) = true := by rw [hr0]; rfl
      clear hr0
      go_enter Tryz.func5, Tryz.ntmps5
      go_wp2_with fail
      refine (short_any A N ws.length ns.length c d _ _ hsb).mono ?_
      rintro e' w1 ⟨rfl, hb⟩
      replace hfr := fr_call hfr hb
      replace hf := hf.keep hb
      replace hX := hX.keep hb
      replace hx := hx.keep hb
      clear hb hcX
      have hcX := fun j => hX.cell j
      have hxl := hX.lt
      go_wp2_with fail
      refine (Find8_any A N ws.length ns.length c d ws ns _ hf rfl rfl (by omega) (by omega) _ HFB.out).mono ?_
      rintro e' w1 ⟨rfl, hb⟩
      replace hfr := fr_call hfr hb
      replace hf := hf.keep hb
      replace hX := hX.keep hb
      replace hx := hx.keep hb
      clear hb hcX
      have hcX := fun j => hX.cell j
      have hxl := hX.lt
      go_wp2_with fail
      refine (Own8_any A N C ws.length ns.length c d x.length k ws x _ hf.ws hx rfl (by omega) rfl (by omega) true (by simp [HFI.out])).mono ?_
      rintro e' w1 ⟨rfl, hb⟩
      replace hfr := fr_call hfr hb
      replace hf := hf.keep hb
      replace hX := hX.keep hb
      replace hx := hx.keep hb
      clear hb hcX
      have hcX := fun j => hX.cell j
      have hxl := hX.lt
      go_wp2_with fail
      refine (hgs _ hf).mono ?_
      rintro e' w1 ⟨rfl, hb⟩
      replace hfr := fr_call hfr hb
      replace hf := hf.keep hb
      replace hX := hX.keep hb
      replace hx := hx.keep hb
      clear hb hcX
      have hcX := fun j => hX.cell j
      have hxl := hX.lt
      go_wp2_with fail
      refine (hli _ hf).mono ?_
      rintro e' w1 ⟨L, lc, rfl, hL, hb⟩
      replace hfr := fr_call hfr hb
      replace hf := hf.keep hb
      replace hX := hX.keep hb
      replace hx := hx.keep hb
      clear hb hcX
      have hcX := fun j => hX.cell j
      have hxl := hX.lt
      go_wp2_with fail
      refine (hbr' _ hf hx).mono ?_
      rintro e' w1 ⟨B, bc, rfl, hb⟩
      replace hfr := fr_call hfr hb
      replace hf := hf.keep hb
      replace hX := hX.keep hb
      replace hx := hx.keep hb
      clear hb hcX
      have hcX := fun j => hX.cell j
      have hxl := hX.lt
      go_wp2_with fail
      refine (known_is _ (hT.keep hfr) (hM.keep hfr)).mono ?_
      rintro e' w1 ⟨rfl, hb⟩
      replace hfr := fr_call hfr hb
      go_wp2_with fail
      go_ret
      exact ⟨rfl, hfr⟩
     ·have hr1 : ((r : Int) == 0) = false := beq_eq_false_iff_ne.2 (by omega)
      clear hr0
      go_enter Tryz.func5, Tryz.ntmps5
      go_wp2_with fail
      refine (short_any A N ws.length ns.length c d _ _ hsb).mono ?_
      rintro e' w1 ⟨rfl, hb⟩
      replace hfr := fr_call hfr hb
      replace hf := hf.keep hb
      replace hX := hX.keep hb
      replace hx := hx.keep hb
      clear hb hcX
      have hcX := fun j => hX.cell j
      have hxl := hX.lt
      go_wp2_with fail
      refine (Find8_any A N ws.length ns.length c d ws ns _ hf rfl rfl (by omega) (by omega) _ HFB.out).mono ?_
      rintro e' w1 ⟨rfl, hb⟩
      replace hfr := fr_call hfr hb
      replace hf := hf.keep hb
      replace hX := hX.keep hb
      replace hx := hx.keep hb
      clear hb hcX
      have hcX := fun j => hX.cell j
      have hxl := hX.lt
      go_wp2_with fail
      refine (Own8_any A N C ws.length ns.length c d x.length k ws x _ hf.ws hx rfl (by omega) rfl (by omega) true (by simp [HFI.out])).mono ?_
      rintro e' w1 ⟨rfl, hb⟩
      replace hfr := fr_call hfr hb
      replace hf := hf.keep hb
      replace hX := hX.keep hb
      replace hx := hx.keep hb
      clear hb hcX
      have hcX := fun j => hX.cell j
      have hxl := hX.lt
      go_wp2_with fail
      refine (hgs _ hf).mono ?_
      rintro e' w1 ⟨rfl, hb⟩
      replace hfr := fr_call hfr hb
      replace hf := hf.keep hb
      replace hX := hX.keep hb
      replace hx := hx.keep hb
      clear hb hcX
      have hcX := fun j => hX.cell j
      have hxl := hX.lt
      go_wp2_with fail
      refine (hli _ hf).mono ?_
      rintro e' w1 ⟨L, lc, rfl, hL, hb⟩
      replace hfr := fr_call hfr hb
      replace hf := hf.keep hb
      replace hX := hX.keep hb
      replace hx := hx.keep hb
      clear hb hcX
      have hcX := fun j => hX.cell j
      have hxl := hX.lt
      go_wp2_with fail
      refine (hbr' _ hf hx).mono ?_
      rintro e' w1 ⟨B, bc, rfl, hb⟩
      replace hfr := fr_call hfr hb
      replace hf := hf.keep hb
      replace hX := hX.keep hb
      replace hx := hx.keep hb
      clear hb hcX
      have hcX := fun j => hX.cell j
      have hxl := hX.lt
      go_wp2_with fail
      refine (known_is _ (hT.keep hfr) (hM.keep hfr)).mono ?_
      rintro e' w1 ⟨rfl, hb⟩
      replace hfr := fr_call hfr hb
      go_wp2_with fail
      go_ret
      exact ⟨rfl, hfr⟩
    ·simp only [if_neg hq2] at hli
     have hq3 : ¬ (200 < (q : Int)) := by omega
     by_cases hr0 : r = 0
     ·have hr1 : ((r : Int) == 0) = true := by rw [hr0]; rfl
      have hmd := Lib.hid (decide_eq_true (hmg.1 hr0))
      have hq4 : ((q : Int) == 0) = false := beq_eq_false_iff_ne.2 (by
       have := List.length_pos_of_mem (hmg.1 hr0)
       omega)
      clear hfb hfit hmg hr0
      go_enter Tryz.func5, Tryz.ntmps5
      go_wp2_with fail
      refine (short_any A N ws.length ns.length c d _ _ hsb).mono ?_
      rintro e' w1 ⟨rfl, hb⟩
      replace hfr := fr_call hfr hb
      replace hf := hf.keep hb
      replace hX := hX.keep hb
      replace hx := hx.keep hb
      clear hb hcX
      have hcX := fun j => hX.cell j
      have hxl := hX.lt
      go_wp2_with fail
      refine (Find8_any A N ws.length ns.length c d ws ns _ hf rfl rfl (by omega) (by omega) _ HFB.out).mono ?_
      rintro e' w1 ⟨rfl, hb⟩
      replace hfr := fr_call hfr hb
      replace hf := hf.keep hb
      replace hX := hX.keep hb
      replace hx := hx.keep hb
      clear hb hcX
      have hcX := fun j => hX.cell j
      have hxl := hX.lt
      go_wp2_with fail
      refine (Own8_any A N C ws.length ns.length c d x.length k ws x _ hf.ws hx rfl (by omega) rfl (by omega) true (by simp [HFI.out])).mono ?_
      rintro e' w1 ⟨rfl, hb⟩
      replace hfr := fr_call hfr hb
      replace hf := hf.keep hb
      replace hX := hX.keep hb
      replace hx := hx.keep hb
      clear hb hcX
      have hcX := fun j => hX.cell j
      have hxl := hX.lt
      go_wp2_with fail
      refine (hgs _ hf).mono ?_
      rintro e' w1 ⟨rfl, hb⟩
      replace hfr := fr_call hfr hb
      replace hf := hf.keep hb
      replace hX := hX.keep hb
      replace hx := hx.keep hb
      clear hb hcX
      have hcX := fun j => hX.cell j
      have hxl := hX.lt
      go_wp2_with fail
      refine (hli _ hf).mono ?_
      rintro e' w1 ⟨L, lc, rfl, hL, hb⟩
      replace hfr := fr_call hfr hb
      replace hf := hf.keep hb
      replace hX := hX.keep hb
      replace hx := hx.keep hb
      clear hb hcX
      have hcX := fun j => hX.cell j
      have hxl := hX.lt
      rw [hpl]
      go_wp2_with fail
      refine (hbr' _ hf hx).mono ?_
      rintro e' w1 ⟨B, bc, rfl, hb⟩
      replace hfr := fr_call hfr hb
      replace hf := hf.keep hb
      replace hX := hX.keep hb
      replace hx := hx.keep hb
      replace hL := hL.keep hb
      clear hb hcX
      have hcX := fun j => hX.cell j
      have hxl := hX.lt
      go_wp2_with fail
      refine (listed_any L C q x.length lc k ps x _ hL hx hpl rfl (by omega) (by omega) (fun p hp => by have := hao.out.len p hp; omega)).mono ?_
      rw [hmd.out]
      rintro e' w1 ⟨rfl, hb⟩
      replace hfr := fr_call hfr hb
      replace hf := hf.keep hb
      replace hX := hX.keep hb
      replace hx := hx.keep hb
      replace hL := hL.keep hb
      clear hb hcX
      have hcX := fun j => hX.cell j
      have hxl := hX.lt
      go_wp2_with fail
      obtain ⟨w4, hw4⟩ : ∃ w4, w4 = w1 := ⟨_, rfl⟩
      subst hw4
      have HPL := Lib.hid hpl
      clear hcX hx hgs hbr' hpl
      go_loopw [11] (fun i wr => ∃ j : Nat, j ≤ q ∧ i = .int .i64 j ∧ Below w4.heap.size w4 wr) (fun i _ => q - (intOf i).toNat)
      case atStart => exact ⟨0, Nat.zero_le _, rfl, fr_refl _⟩
      case round =>
       obtain ⟨j, hj, rfl, hbr⟩ := hrel
       have hXr := hX.keep hbr
       have hcX := fun j => hXr.cell j
       have hxl := hXr.lt
       by_cases hlt : j < q
       ·have hjl : j < ps.length := by rw [HPL.out]; exact hlt
        obtain ⟨ad, A1, c1, rfl, hab, hc, hrx⟩ := (hL.keep hbr).at_ hjl
        have hpm := List.getElem_mem hjl
        have hfp := Lib.hid (hao.out.fit _ hpm)
        have hnp := Lib.hid (hao.out.none _ hpm)
        have hlp := hao.out.len _ hpm
        have i1 : 0 ≤ (j : Int) := by omega
        have i2 : (j : Int) < (q : Int) := by omega
        have hfw := hf.keep hbr
        have hLr := hL.keep hbr
        have hab' : (ad.add j).block < wr.heap.size := by rw [block_of_add]; exact hab
        have hz0 : wr.cell? ⟨w.heap.size, 0, none⟩ = some (.slice A ws.length c) := hcX 0
        have hz1 : wr.cell? ⟨w.heap.size, 1, none⟩ = some (.slice N ns.length d) := hcX 1
        by_cases hj0 : j = 0
        ·have hgt2 : decide (0 < (j : Int)) = false := decide_eq_false (by omega)
         have hgt3 : decide (0 < j) = false := decide_eq_false (by omega)
         clear hj0
         generalize ps[j] = p at *
         go_upto_region 15 with (fail)
         refine wp_region_noPanic ?_
         have hkS := fun W (hb : Below wr.heap.size wr W) => (⟨(hb.cell (p := ⟨w.heap.size, 0, none⟩) hxl).trans hz0, (hb.cell (p := ⟨w.heap.size, 1, none⟩) hxl).trans hz1, (hb.cell (p := ad.add j) hab').trans hc, hb⟩ : W.cell? ⟨w.heap.size, 0, none⟩ = some (.slice A ws.length c) ∧ W.cell? ⟨w.heap.size, 1, none⟩ = some (.slice N ns.length d) ∧ W.cell? (ad.add j) = some (.slice A1 p.length c1) ∧ Below wr.heap.size wr W)
         refine wp_region_held_drew (S := fun W => W.cell? ⟨w.heap.size, 0, none⟩ = some (.slice A ws.length c) ∧ W.cell? ⟨w.heap.size, 1, none⟩ = some (.slice N ns.length d) ∧ W.cell? (ad.add j) = some (.slice A1 p.length c1) ∧ Below wr.heap.size wr W) (by kernel_rfl) (hkS _ (fr_drew (fr_refl _))) (fun hHeld => ?_)
         clear hcX
         -- the region, step by step
         refine wpAnyH_take (i := 0) (oi := ⟨some 99, .load 25 (.tmp 2), 25, "law.go:137", #[], none⟩) (v := ?_) rfl (by kernel_rfl) (by kernel_rfl) (by kernel_rfl) (fun _ _ _ h => h) (Or.inl ⟨by rfl, fun W hSw => ?_⟩) hHeld ?_
         rotate_left
         ·(try dsimp only at hSw); go_simp; (try with_reducible rfl)
         (try simp only [Act.put, List.setIfInBounds_toArray, List.set_cons_zero, List.set_cons_succ])
         refine wpAnyH_take (i := 1) (oi := ⟨some 100, .move (.tmp 7), 30, "law.go:137", #[], none⟩) (v := ?_) rfl (by kernel_rfl) (by kernel_rfl) (by kernel_rfl) (fun _ _ _ h => h) (Or.inl ⟨by rfl, fun W hSw => ?_⟩) hHeld ?_
         rotate_left
         ·(try dsimp only at hSw); go_simp; (try with_reducible rfl)
         (try simp only [Act.put, List.setIfInBounds_toArray, List.set_cons_zero, List.set_cons_succ])
         refine wpAnyH_take (i := 2) (oi := ⟨some 101, .move (.tmp 11), 3, "law.go:137", #[], none⟩) (v := ?_) rfl (by kernel_rfl) (by kernel_rfl) (by kernel_rfl) (fun _ _ _ h => h) (Or.inl ⟨by rfl, fun W hSw => ?_⟩) hHeld ?_
         rotate_left
         ·(try dsimp only at hSw); go_simp; (try with_reducible rfl)
         (try simp only [Act.put, List.setIfInBounds_toArray, List.set_cons_zero, List.set_cons_succ])
         refine wpAnyH_take (i := 3) (oi := ⟨some 102, .indexAddr 30 (.tmp 100) (.tmp 101), 0, "law.go:137", #[⟨1, .data⟩, ⟨2, .data⟩], none⟩) (v := ?_) rfl (by kernel_rfl) (by kernel_rfl) (by kernel_rfl) (fun _ _ _ h => h) (Or.inl ⟨by rfl, fun W hSw => ?_⟩) hHeld ?_
         rotate_left
         ·(try dsimp only at hSw); go_simp; (try with_reducible rfl)
         (try simp only [Act.put, List.setIfInBounds_toArray, List.set_cons_zero, List.set_cons_succ])
         refine wpAnyH_take (i := 4) (oi := ⟨some 103, .load 26 (.tmp 102), 26, "law.go:137", #[⟨3, .data⟩], none⟩) (v := ?_) rfl (by kernel_rfl) (by kernel_rfl) (by kernel_rfl) (fun _ _ _ h => h) (Or.inl ⟨by rfl, fun W hSw => ?_⟩) hHeld ?_
         rotate_left
         ·(try dsimp only at hSw); go_simp; (try with_reducible rfl)
         (try simp only [Act.put, List.setIfInBounds_toArray, List.set_cons_zero, List.set_cons_succ])
         refine wpAnyH_ready (rs := [5]) (by kernel_rfl) (by simp) ?_
         refine AllReadyH.cons (o := ⟨some 104, .call { callee := .value (.func 14), args := #[.tmp 99, .tmp 103], argTypes := #[25, 26] }, 4, "law.go:137", #[⟨0, .data⟩, ⟨4, .data⟩], none⟩) rfl (fun K hK => ?_) AllReadyH.nil
         go_simp
         refine (Own8_any A N A1 ws.length ns.length c d p.length c1 ws p _ (hfw.ws.keep hHeld.2.2.2) (hrx.1.keep hHeld.2.2.2) rfl (by omega) rfl (by omega) true (by simp [hfp.out])).mono ?_
         rintro e' WZ ⟨rfl, hbA⟩
         refine hK.out _ _ (hkS _ (fr_call hHeld.2.2.2 hbA)) (fun hHeld => ?_)
         clear hK K
         (try simp only [Act.put, List.setIfInBounds_toArray, List.set_cons_zero, List.set_cons_succ])
         refine wpAnyH_take (i := 6) (oi := ⟨some 105, .unOp .not 4 (.tmp 104), 4, "law.go:137", #[⟨5, .data⟩], none⟩) (v := ?_) rfl (by kernel_rfl) (by kernel_rfl) (by kernel_rfl) (fun _ _ _ h => h) (Or.inl ⟨by rfl, fun W hSw => ?_⟩) hHeld ?_
         rotate_left
         ·(try dsimp only at hSw); go_simp; (try with_reducible rfl)
         (try simp only [Act.put, List.setIfInBounds_toArray, List.set_cons_zero, List.set_cons_succ])
         refine wpAnyH_take (i := 7) (oi := ⟨some 106, .move (.tmp 105), 4, "law.go:137", #[⟨6, .data⟩, ⟨5, .chain⟩], none⟩) (v := ?_) rfl (by kernel_rfl) (by kernel_rfl) (by kernel_rfl) (fun _ _ _ h => h) (Or.inl ⟨by rfl, fun W hSw => ?_⟩) hHeld ?_
         rotate_left
         ·(try dsimp only at hSw); go_simp; (try with_reducible rfl)
         (try simp only [Act.put, List.setIfInBounds_toArray, List.set_cons_zero, List.set_cons_succ])
         refine wpAnyH_take (i := 8) (oi := ⟨some 107, .move (.tmp 11), 3, "law.go:137", #[⟨7, .guard⟩], some (7, false)⟩) (v := ?_) rfl (by kernel_rfl) (by kernel_rfl) (by kernel_rfl) (fun _ _ _ h => h) (Or.inl ⟨by rfl, fun W hSw => ?_⟩) hHeld ?_
         rotate_left
         ·(try dsimp only at hSw); go_simp; (try with_reducible rfl)
         (try simp only [Act.put, List.setIfInBounds_toArray, List.set_cons_zero, List.set_cons_succ])
         refine wpAnyH_take (i := 9) (oi := ⟨some 108, .binOp .gtr 3 (.tmp 107) (.const (.int .i64 0)) 3, 4, "law.go:137", #[⟨8, .data⟩, ⟨7, .guard⟩], some (7, false)⟩) (v := ?_) rfl (by kernel_rfl) (by kernel_rfl) (by kernel_rfl) (fun _ _ _ h => h) (Or.inl ⟨by rfl, fun W hSw => ?_⟩) hHeld ?_
         rotate_left
         ·(try dsimp only at hSw); go_simp; (try with_reducible rfl)
         (try simp only [Act.put, List.setIfInBounds_toArray, List.set_cons_zero, List.set_cons_succ])
         refine wpAnyH_take (i := 10) (oi := ⟨some 109, .move (.tmp 108), 4, "law.go:137", #[⟨9, .data⟩, ⟨7, .chain⟩, ⟨7, .guard⟩], some (7, false)⟩) (v := ?_) rfl (by kernel_rfl) (by kernel_rfl) (by kernel_rfl) (fun _ _ _ h => h) (Or.inl ⟨by rfl, fun W hSw => ?_⟩) hHeld ?_
         rotate_left
         ·(try dsimp only at hSw); go_simp; (try with_reducible rfl)
         (try simp only [Act.put, List.setIfInBounds_toArray, List.set_cons_zero, List.set_cons_succ])
         refine wpAnyH_take (i := 11) (oi := ⟨some 110, .move (.tmp 7), 30, "law.go:137", #[⟨10, .guard⟩], some (10, true)⟩) (v := undef) rfl (by kernel_rfl) (by kernel_rfl) (by kernel_rfl) (fun _ _ _ h => h) (Or.inr ⟨by rfl, rfl⟩) hHeld ?_
         (try simp only [Act.put, List.setIfInBounds_toArray, List.set_cons_zero, List.set_cons_succ])
         refine wpAnyH_take (i := 12) (oi := ⟨some 111, .move (.tmp 11), 3, "law.go:137", #[⟨10, .guard⟩], some (10, true)⟩) (v := undef) rfl (by kernel_rfl) (by kernel_rfl) (by kernel_rfl) (fun _ _ _ h => h) (Or.inr ⟨by rfl, rfl⟩) hHeld ?_
         (try simp only [Act.put, List.setIfInBounds_toArray, List.set_cons_zero, List.set_cons_succ])
         refine wpAnyH_take (i := 13) (oi := ⟨some 112, .binOp .sub 3 (.tmp 111) (.const (.int .i64 1)) 3, 3, "law.go:137", #[⟨12, .data⟩, ⟨10, .guard⟩], some (10, true)⟩) (v := undef) rfl (by kernel_rfl) (by kernel_rfl) (by kernel_rfl) (fun _ _ _ h => h) (Or.inr ⟨by rfl, rfl⟩) hHeld ?_
         (try simp only [Act.put, List.setIfInBounds_toArray, List.set_cons_zero, List.set_cons_succ])
         refine wpAnyH_take (i := 14) (oi := ⟨some 113, .indexAddr 30 (.tmp 110) (.tmp 112), 0, "law.go:137", #[⟨11, .data⟩, ⟨13, .data⟩, ⟨10, .guard⟩], some (10, true)⟩) (v := undef) rfl (by kernel_rfl) (by kernel_rfl) (by kernel_rfl) (fun _ _ _ h => h) (Or.inr ⟨by rfl, rfl⟩) hHeld ?_
         (try simp only [Act.put, List.setIfInBounds_toArray, List.set_cons_zero, List.set_cons_succ])
         refine wpAnyH_take (i := 15) (oi := ⟨some 114, .load 26 (.tmp 113), 26, "law.go:137", #[⟨14, .data⟩, ⟨10, .guard⟩], some (10, true)⟩) (v := undef) rfl (by kernel_rfl) (by kernel_rfl) (by kernel_rfl) (fun _ _ _ h => h) (Or.inr ⟨by rfl, rfl⟩) hHeld ?_
         (try simp only [Act.put, List.setIfInBounds_toArray, List.set_cons_zero, List.set_cons_succ])
         refine wpAnyH_take (i := 16) (oi := ⟨some 115, .move (.tmp 7), 30, "law.go:137", #[⟨10, .guard⟩], some (10, true)⟩) (v := undef) rfl (by kernel_rfl) (by kernel_rfl) (by kernel_rfl) (fun _ _ _ h => h) (Or.inr ⟨by rfl, rfl⟩) hHeld ?_
         (try simp only [Act.put, List.setIfInBounds_toArray, List.set_cons_zero, List.set_cons_succ])
         refine wpAnyH_take (i := 17) (oi := ⟨some 116, .move (.tmp 11), 3, "law.go:137", #[⟨10, .guard⟩], some (10, true)⟩) (v := undef) rfl (by kernel_rfl) (by kernel_rfl) (by kernel_rfl) (fun _ _ _ h => h) (Or.inr ⟨by rfl, rfl⟩) hHeld ?_
         (try simp only [Act.put, List.setIfInBounds_toArray, List.set_cons_zero, List.set_cons_succ])
         refine wpAnyH_take (i := 18) (oi := ⟨some 117, .indexAddr 30 (.tmp 115) (.tmp 116), 0, "law.go:137", #[⟨16, .data⟩, ⟨17, .data⟩, ⟨10, .guard⟩], some (10, true)⟩) (v := undef) rfl (by kernel_rfl) (by kernel_rfl) (by kernel_rfl) (fun _ _ _ h => h) (Or.inr ⟨by rfl, rfl⟩) hHeld ?_
         (try simp only [Act.put, List.setIfInBounds_toArray, List.set_cons_zero, List.set_cons_succ])
         refine wpAnyH_take (i := 19) (oi := ⟨some 118, .load 26 (.tmp 117), 26, "law.go:137", #[⟨18, .data⟩, ⟨10, .guard⟩], some (10, true)⟩) (v := undef) rfl (by kernel_rfl) (by kernel_rfl) (by kernel_rfl) (fun _ _ _ h => h) (Or.inr ⟨by rfl, rfl⟩) hHeld ?_
         (try simp only [Act.put, List.setIfInBounds_toArray, List.set_cons_zero, List.set_cons_succ])
         refine wpAnyH_take (i := 20) (oi := ⟨some 119, .call { callee := .value (.func 29), args := #[.tmp 114, .tmp 118], argTypes := #[26, 26] }, 4, "law.go:137", #[⟨15, .data⟩, ⟨19, .data⟩, ⟨10, .chain⟩, ⟨10, .guard⟩], some (10, true)⟩) (v := undef) rfl (by kernel_rfl) (by kernel_rfl) (by kernel_rfl) (fun _ _ _ h => h) (Or.inr ⟨by rfl, rfl⟩) hHeld ?_
         (try simp only [Act.put, List.setIfInBounds_toArray, List.set_cons_zero, List.set_cons_succ])
         refine wpAnyH_take (i := 21) (oi := ⟨some 120, .unOp .not 4 (.tmp 119), 4, "law.go:137", #[⟨20, .data⟩, ⟨10, .guard⟩], some (10, true)⟩) (v := undef) rfl (by kernel_rfl) (by kernel_rfl) (by kernel_rfl) (fun _ _ _ h => h) (Or.inr ⟨by rfl, rfl⟩) hHeld ?_
         (try simp only [Act.put, List.setIfInBounds_toArray, List.set_cons_zero, List.set_cons_succ])
         refine wpAnyH_take (i := 22) (oi := ⟨some 121, .pick (.tmp 109) (.tmp 120) (.const (.bool false)), 4, "law.go:137", #[⟨10, .data⟩, ⟨21, .data⟩, ⟨7, .guard⟩], some (7, false)⟩) (v := ?_) rfl (by kernel_rfl) (by kernel_rfl) (by kernel_rfl) (fun _ _ _ h => h) (Or.inl ⟨by rfl, fun W hSw => ?_⟩) hHeld ?_
         rotate_left
         ·(try dsimp only at hSw); go_simp; (try with_reducible rfl)
         (try simp only [Act.put, List.setIfInBounds_toArray, List.set_cons_zero, List.set_cons_succ])
         refine wpAnyH_take (i := 23) (oi := ⟨some 122, .pick (.tmp 106) (.const (.bool true)) (.tmp 121), 4, "law.go:137", #[⟨7, .data⟩, ⟨22, .data⟩], none⟩) (v := ?_) rfl (by kernel_rfl) (by kernel_rfl) (by kernel_rfl) (fun _ _ _ h => h) (Or.inl ⟨by rfl, fun W hSw => ?_⟩) hHeld ?_
         rotate_left
         ·(try dsimp only at hSw); go_simp; (try with_reducible rfl)
         (try simp only [Act.put, List.setIfInBounds_toArray, List.set_cons_zero, List.set_cons_succ])
         refine wpAnyH_done (by kernel_rfl) ?_ _
         refine NoPanic.normal ?_
         replace hbr := fr_call hbr hHeld.2.2.2
         have hX2 := hXr.keep hHeld.2.2.2
         have hc2 := hHeld.2.2.1
         have hab2 := Nat.lt_of_lt_of_le hab hHeld.2.2.2.size
         replace hrx := hrx.1.keep hHeld.2.2.2
         replace hfw := hfw.keep hHeld.2.2.2
         clear hHeld hxl hXr hc hab hLr hkS hab' hz0 hz1
         have hcX := fun j => hX2.cell j
         have hxl := hX2.lt
         go_upto_region 17 with (fail)
         have hz0 : WZ.cell? ⟨w.heap.size, 0, none⟩ = some (.slice A ws.length c) := hcX 0
         have hz1 : WZ.cell? ⟨w.heap.size, 1, none⟩ = some (.slice N ns.length d) := hcX 1
         have hab' : (ad.add j).block < WZ.heap.size := by rw [block_of_add]; exact hab2
         have hkS := fun W (hb : Below WZ.heap.size WZ W) => (⟨(hb.cell (p := ⟨w.heap.size, 0, none⟩) hxl).trans hz0, (hb.cell (p := ⟨w.heap.size, 1, none⟩) hxl).trans hz1, (hb.cell (p := ad.add j) hab').trans hc2, hb⟩ : W.cell? ⟨w.heap.size, 0, none⟩ = some (.slice A ws.length c) ∧ W.cell? ⟨w.heap.size, 1, none⟩ = some (.slice N ns.length d) ∧ W.cell? (ad.add j) = some (.slice A1 p.length c1) ∧ Below WZ.heap.size WZ W)
         refine wp_region_noPanic ?_
         refine wp_region_held_drew (S := fun W => W.cell? ⟨w.heap.size, 0, none⟩ = some (.slice A ws.length c) ∧ W.cell? ⟨w.heap.size, 1, none⟩ = some (.slice N ns.length d) ∧ W.cell? (ad.add j) = some (.slice A1 p.length c1) ∧ Below WZ.heap.size WZ W) (by kernel_rfl) (hkS _ (fr_drew (fr_refl _))) (fun hHeld => ?_)
         clear hcX
         -- the region, step by step
         refine wpAnyH_take (i := 0) (oi := ⟨some 124, .load 25 (.tmp 2), 25, "law.go:140", #[], none⟩) (v := ?_) rfl (by kernel_rfl) (by kernel_rfl) (by kernel_rfl) (fun _ _ _ h => h) (Or.inl ⟨by rfl, fun W hSw => ?_⟩) hHeld ?_
         rotate_left
         ·(try dsimp only at hSw); go_simp; (try with_reducible rfl)
         (try simp only [Act.put, List.setIfInBounds_toArray, List.set_cons_zero, List.set_cons_succ])
         refine wpAnyH_take (i := 1) (oi := ⟨some 125, .move (.tmp 7), 30, "law.go:140", #[], none⟩) (v := ?_) rfl (by kernel_rfl) (by kernel_rfl) (by kernel_rfl) (fun _ _ _ h => h) (Or.inl ⟨by rfl, fun W hSw => ?_⟩) hHeld ?_
         rotate_left
         ·(try dsimp only at hSw); go_simp; (try with_reducible rfl)
         (try simp only [Act.put, List.setIfInBounds_toArray, List.set_cons_zero, List.set_cons_succ])
         refine wpAnyH_take (i := 2) (oi := ⟨some 126, .move (.tmp 11), 3, "law.go:140", #[], none⟩) (v := ?_) rfl (by kernel_rfl) (by kernel_rfl) (by kernel_rfl) (fun _ _ _ h => h) (Or.inl ⟨by rfl, fun W hSw => ?_⟩) hHeld ?_
         rotate_left
         ·(try dsimp only at hSw); go_simp; (try with_reducible rfl)
         (try simp only [Act.put, List.setIfInBounds_toArray, List.set_cons_zero, List.set_cons_succ])
         refine wpAnyH_take (i := 3) (oi := ⟨some 127, .indexAddr 30 (.tmp 125) (.tmp 126), 0, "law.go:140", #[⟨1, .data⟩, ⟨2, .data⟩], none⟩) (v := ?_) rfl (by kernel_rfl) (by kernel_rfl) (by kernel_rfl) (fun _ _ _ h => h) (Or.inl ⟨by rfl, fun W hSw => ?_⟩) hHeld ?_
         rotate_left
         ·(try dsimp only at hSw); go_simp; (try with_reducible rfl)
         (try simp only [Act.put, List.setIfInBounds_toArray, List.set_cons_zero, List.set_cons_succ])
         refine wpAnyH_take (i := 4) (oi := ⟨some 128, .load 26 (.tmp 127), 26, "law.go:140", #[⟨3, .data⟩], none⟩) (v := ?_) rfl (by kernel_rfl) (by kernel_rfl) (by kernel_rfl) (fun _ _ _ h => h) (Or.inl ⟨by rfl, fun W hSw => ?_⟩) hHeld ?_
         rotate_left
         ·(try dsimp only at hSw); go_simp; (try with_reducible rfl)
         (try simp only [Act.put, List.setIfInBounds_toArray, List.set_cons_zero, List.set_cons_succ])
         refine wpAnyH_ready (rs := [5]) (by kernel_rfl) (by simp) ?_
         refine AllReadyH.cons (o := ⟨some 129, .call { callee := .value (.func 17), args := #[.tmp 124, .tmp 128], argTypes := #[25, 26] }, 35, "law.go:140", #[⟨0, .data⟩, ⟨4, .data⟩], none⟩) rfl (fun K hK => ?_) AllReadyH.nil
         go_simp
         refine (Breaks_own A N A1 c d c1 p.length ws ns p _ (hfw.keep hHeld.2.2.2) hv (hrx.keep hHeld.2.2.2) rfl hfp.out).mono ?_
         rw [hnp.out]
         rintro e' w5 ⟨B5, b5, rfl, _, hb5⟩
         refine hK.out _ _ (hkS _ (fr_call hHeld.2.2.2 hb5)) (fun hHeld => ?_)
         clear hK K
         (try simp only [Act.put, List.setIfInBounds_toArray, List.set_cons_zero, List.set_cons_succ])
         refine wpAnyH_take (i := 6) (oi := ⟨some 123, .move (.tmp 129), 35, "law.go:140", #[⟨5, .data⟩], none⟩) (v := ?_) rfl (by kernel_rfl) (by kernel_rfl) (by kernel_rfl) (fun _ _ _ h => h) (Or.inl ⟨by rfl, fun W hSw => ?_⟩) hHeld ?_
         rotate_left
         ·(try dsimp only at hSw); go_simp; (try with_reducible rfl)
         (try simp only [Act.put, List.setIfInBounds_toArray, List.set_cons_zero, List.set_cons_succ])
         refine wpAnyH_take (i := 7) (oi := ⟨some 130, .extract (.tmp 123) 0, 34, "law.go:140", #[⟨6, .data⟩], none⟩) (v := ?_) rfl (by kernel_rfl) (by kernel_rfl) (by kernel_rfl) (fun _ _ _ h => h) (Or.inl ⟨by rfl, fun W hSw => ?_⟩) hHeld ?_
         rotate_left
         ·(try dsimp only at hSw); go_simp; (try with_reducible rfl)
         (try simp only [Act.put, List.setIfInBounds_toArray, List.set_cons_zero, List.set_cons_succ])
         refine wpAnyH_take (i := 8) (oi := ⟨some 131, .extract (.tmp 123) 1, 31, "law.go:140", #[⟨6, .data⟩, ⟨9, .gcOnly .lateStores⟩], none⟩) (v := ?_) rfl (by kernel_rfl) (by kernel_rfl) (by kernel_rfl) (fun _ _ _ h => h) (Or.inl ⟨by rfl, fun W hSw => ?_⟩) hHeld ?_
         rotate_left
         ·(try dsimp only at hSw); go_simp; (try with_reducible rfl)
         (try simp only [Act.put, List.setIfInBounds_toArray, List.set_cons_zero, List.set_cons_succ])
         refine wpAnyH_take (i := 9) (oi := ⟨some 12, .assign (.tmp 130), 34, "law.go:140", #[⟨7, .data⟩, ⟨5, .chain⟩, ⟨0, .phase⟩, ⟨1, .phase⟩, ⟨2, .phase⟩, ⟨3, .phase⟩, ⟨4, .phase⟩, ⟨5, .phase⟩, ⟨6, .phase⟩, ⟨7, .phase⟩, ⟨8, .textOnly .lateStores⟩], none⟩) (v := ?_) rfl (by kernel_rfl) (by kernel_rfl) (by kernel_rfl) (fun _ _ _ h => h) (Or.inl ⟨by rfl, fun W hSw => ?_⟩) hHeld ?_
         rotate_left
         ·(try dsimp only at hSw); go_simp; (try with_reducible rfl)
         (try simp only [Act.put, List.setIfInBounds_toArray, List.set_cons_zero, List.set_cons_succ])
         refine wpAnyH_take (i := 10) (oi := ⟨some 13, .assign (.tmp 131), 31, "law.go:140", #[⟨8, .data⟩, ⟨9, .chain⟩, ⟨0, .phase⟩, ⟨1, .phase⟩, ⟨2, .phase⟩, ⟨3, .phase⟩, ⟨4, .phase⟩, ⟨5, .phase⟩, ⟨6, .phase⟩, ⟨7, .phase⟩, ⟨8, .phase⟩, ⟨9, .phase⟩], none⟩) (v := ?_) rfl (by kernel_rfl) (by kernel_rfl) (by kernel_rfl) (fun _ _ _ h => h) (Or.inl ⟨by rfl, fun W hSw => ?_⟩) hHeld ?_
         rotate_left
         ·(try dsimp only at hSw); go_simp; (try with_reducible rfl)
         (try simp only [Act.put, List.setIfInBounds_toArray, List.set_cons_zero, List.set_cons_succ])
         refine wpAnyH_done (by kernel_rfl) ?_ _
         refine NoPanic.normal ?_
         go_wp2_with fail
         refine ⟨⟨j + 1, hlt, rfl, fr_call hbr hHeld.2.2.2⟩, ?_⟩
         simp [intOf]; omega
        ·obtain ⟨i, hi⟩ : ∃ i, j = i + 1 := ⟨j - 1, by omega⟩
         have hgt2 : decide (0 < (j : Int)) = true := decide_eq_true (by omega)
         have hgt3 : decide (0 < j) = true := decide_eq_true (by omega)
         have hil : i < ps.length := by omega
         obtain ⟨ad', A2, c2, e2, _, hd, hry⟩ := hLr.at_ hil
         cases e2
         have hsn := hao.out.soon i (by rw [← hi]; exact hjl)
         have hlp2 := hao.out.len _ (List.getElem_mem hil)
         have hsn2 := Lib.hid (show soonB ps[i] ps[j] = true by rw [← hsn]; congr 2)
         have hwi : IntKind.i64.wrap ((j : Int) - 1) = (i : Int) := by rw [show (j : Int) - 1 = (i : Int) by omega]; exact IntWalk.i64_in _ (by omega)
         have k1 : 0 ≤ (i : Int) := by omega
         have k2 : (i : Int) < (q : Int) := by omega
         have habi : (ad.add i).block < wr.heap.size := by rw [block_of_add]; exact hab
         clear hj0 hi hsn
         generalize ps[j] = p at *
         generalize ps[i] = p2 at *
         go_upto_region 15 with (fail)
         refine wp_region_noPanic ?_
         have hkS := fun W (hb : Below wr.heap.size wr W) => (⟨(hb.cell (p := ⟨w.heap.size, 0, none⟩) hxl).trans hz0, (hb.cell (p := ⟨w.heap.size, 1, none⟩) hxl).trans hz1, (hb.cell (p := ad.add j) hab').trans hc, (hb.cell (p := ad.add i) habi).trans hd, hb⟩ : W.cell? ⟨w.heap.size, 0, none⟩ = some (.slice A ws.length c) ∧ W.cell? ⟨w.heap.size, 1, none⟩ = some (.slice N ns.length d) ∧ W.cell? (ad.add j) = some (.slice A1 p.length c1) ∧ W.cell? (ad.add i) = some (.slice A2 p2.length c2) ∧ Below wr.heap.size wr W)
         refine wp_region_held_drew (S := fun W => W.cell? ⟨w.heap.size, 0, none⟩ = some (.slice A ws.length c) ∧ W.cell? ⟨w.heap.size, 1, none⟩ = some (.slice N ns.length d) ∧ W.cell? (ad.add j) = some (.slice A1 p.length c1) ∧ W.cell? (ad.add i) = some (.slice A2 p2.length c2) ∧ Below wr.heap.size wr W) (by kernel_rfl) (hkS _ (fr_drew (fr_refl _))) (fun hHeld => ?_)
         clear hcX
         -- the region, step by step
         refine wpAnyH_take (i := 0) (oi := ⟨some 99, .load 25 (.tmp 2), 25, "law.go:137", #[], none⟩) (v := ?_) rfl (by kernel_rfl) (by kernel_rfl) (by kernel_rfl) (fun _ _ _ h => h) (Or.inl ⟨by rfl, fun W hSw => ?_⟩) hHeld ?_
         rotate_left
         ·(try dsimp only at hSw); go_simp; (try with_reducible rfl)
         (try simp only [Act.put, List.setIfInBounds_toArray, List.set_cons_zero, List.set_cons_succ])
         refine wpAnyH_take (i := 1) (oi := ⟨some 100, .move (.tmp 7), 30, "law.go:137", #[], none⟩) (v := ?_) rfl (by kernel_rfl) (by kernel_rfl) (by kernel_rfl) (fun _ _ _ h => h) (Or.inl ⟨by rfl, fun W hSw => ?_⟩) hHeld ?_
         rotate_left
         ·(try dsimp only at hSw); go_simp; (try with_reducible rfl)
         (try simp only [Act.put, List.setIfInBounds_toArray, List.set_cons_zero, List.set_cons_succ])
         refine wpAnyH_take (i := 2) (oi := ⟨some 101, .move (.tmp 11), 3, "law.go:137", #[], none⟩) (v := ?_) rfl (by kernel_rfl) (by kernel_rfl) (by kernel_rfl) (fun _ _ _ h => h) (Or.inl ⟨by rfl, fun W hSw => ?_⟩) hHeld ?_
         rotate_left
         ·(try dsimp only at hSw); go_simp; (try with_reducible rfl)
         (try simp only [Act.put, List.setIfInBounds_toArray, List.set_cons_zero, List.set_cons_succ])
         refine wpAnyH_take (i := 3) (oi := ⟨some 102, .indexAddr 30 (.tmp 100) (.tmp 101), 0, "law.go:137", #[⟨1, .data⟩, ⟨2, .data⟩], none⟩) (v := ?_) rfl (by kernel_rfl) (by kernel_rfl) (by kernel_rfl) (fun _ _ _ h => h) (Or.inl ⟨by rfl, fun W hSw => ?_⟩) hHeld ?_
         rotate_left
         ·(try dsimp only at hSw); go_simp; (try with_reducible rfl)
         (try simp only [Act.put, List.setIfInBounds_toArray, List.set_cons_zero, List.set_cons_succ])
         refine wpAnyH_take (i := 4) (oi := ⟨some 103, .load 26 (.tmp 102), 26, "law.go:137", #[⟨3, .data⟩], none⟩) (v := ?_) rfl (by kernel_rfl) (by kernel_rfl) (by kernel_rfl) (fun _ _ _ h => h) (Or.inl ⟨by rfl, fun W hSw => ?_⟩) hHeld ?_
         rotate_left
         ·(try dsimp only at hSw); go_simp; (try with_reducible rfl)
         (try simp only [Act.put, List.setIfInBounds_toArray, List.set_cons_zero, List.set_cons_succ])
         refine wpAnyH_ready (rs := [5]) (by kernel_rfl) (by simp) ?_
         refine AllReadyH.cons (o := ⟨some 104, .call { callee := .value (.func 14), args := #[.tmp 99, .tmp 103], argTypes := #[25, 26] }, 4, "law.go:137", #[⟨0, .data⟩, ⟨4, .data⟩], none⟩) rfl (fun K hK => ?_) AllReadyH.nil
         go_simp
         refine (Own8_any A N A1 ws.length ns.length c d p.length c1 ws p _ (hfw.ws.keep hHeld.2.2.2.2) (hrx.1.keep hHeld.2.2.2.2) rfl (by omega) rfl (by omega) true (by simp [hfp.out])).mono ?_
         rintro e' WY ⟨rfl, hbA⟩
         refine hK.out _ _ (hkS _ (fr_call hHeld.2.2.2.2 hbA)) (fun hHeld => ?_)
         clear hK K
         (try simp only [Act.put, List.setIfInBounds_toArray, List.set_cons_zero, List.set_cons_succ])
         refine wpAnyH_take (i := 6) (oi := ⟨some 105, .unOp .not 4 (.tmp 104), 4, "law.go:137", #[⟨5, .data⟩], none⟩) (v := ?_) rfl (by kernel_rfl) (by kernel_rfl) (by kernel_rfl) (fun _ _ _ h => h) (Or.inl ⟨by rfl, fun W hSw => ?_⟩) hHeld ?_
         rotate_left
         ·(try dsimp only at hSw); go_simp; (try with_reducible rfl)
         (try simp only [Act.put, List.setIfInBounds_toArray, List.set_cons_zero, List.set_cons_succ])
         refine wpAnyH_take (i := 7) (oi := ⟨some 106, .move (.tmp 105), 4, "law.go:137", #[⟨6, .data⟩, ⟨5, .chain⟩], none⟩) (v := ?_) rfl (by kernel_rfl) (by kernel_rfl) (by kernel_rfl) (fun _ _ _ h => h) (Or.inl ⟨by rfl, fun W hSw => ?_⟩) hHeld ?_
         rotate_left
         ·(try dsimp only at hSw); go_simp; (try with_reducible rfl)
         (try simp only [Act.put, List.setIfInBounds_toArray, List.set_cons_zero, List.set_cons_succ])
         refine wpAnyH_take (i := 8) (oi := ⟨some 107, .move (.tmp 11), 3, "law.go:137", #[⟨7, .guard⟩], some (7, false)⟩) (v := ?_) rfl (by kernel_rfl) (by kernel_rfl) (by kernel_rfl) (fun _ _ _ h => h) (Or.inl ⟨by rfl, fun W hSw => ?_⟩) hHeld ?_
         rotate_left
         ·(try dsimp only at hSw); go_simp; (try with_reducible rfl)
         (try simp only [Act.put, List.setIfInBounds_toArray, List.set_cons_zero, List.set_cons_succ])
         refine wpAnyH_take (i := 9) (oi := ⟨some 108, .binOp .gtr 3 (.tmp 107) (.const (.int .i64 0)) 3, 4, "law.go:137", #[⟨8, .data⟩, ⟨7, .guard⟩], some (7, false)⟩) (v := ?_) rfl (by kernel_rfl) (by kernel_rfl) (by kernel_rfl) (fun _ _ _ h => h) (Or.inl ⟨by rfl, fun W hSw => ?_⟩) hHeld ?_
         rotate_left
         ·(try dsimp only at hSw); go_simp; (try with_reducible rfl)
         (try simp only [Act.put, List.setIfInBounds_toArray, List.set_cons_zero, List.set_cons_succ])
         refine wpAnyH_take (i := 10) (oi := ⟨some 109, .move (.tmp 108), 4, "law.go:137", #[⟨9, .data⟩, ⟨7, .chain⟩, ⟨7, .guard⟩], some (7, false)⟩) (v := ?_) rfl (by kernel_rfl) (by kernel_rfl) (by kernel_rfl) (fun _ _ _ h => h) (Or.inl ⟨by rfl, fun W hSw => ?_⟩) hHeld ?_
         rotate_left
         ·(try dsimp only at hSw); go_simp; (try with_reducible rfl)
         (try simp only [Act.put, List.setIfInBounds_toArray, List.set_cons_zero, List.set_cons_succ])
         refine wpAnyH_take (i := 11) (oi := ⟨some 110, .move (.tmp 7), 30, "law.go:137", #[⟨10, .guard⟩], some (10, true)⟩) (v := ?_) rfl (by kernel_rfl) (by kernel_rfl) (by kernel_rfl) (fun _ _ _ h => h) (Or.inl ⟨by rfl, fun W hSw => ?_⟩) hHeld ?_
         rotate_left
         ·(try dsimp only at hSw); go_simp; (try with_reducible rfl)
         (try simp only [Act.put, List.setIfInBounds_toArray, List.set_cons_zero, List.set_cons_succ])
         refine wpAnyH_take (i := 12) (oi := ⟨some 111, .move (.tmp 11), 3, "law.go:137", #[⟨10, .guard⟩], some (10, true)⟩) (v := ?_) rfl (by kernel_rfl) (by kernel_rfl) (by kernel_rfl) (fun _ _ _ h => h) (Or.inl ⟨by rfl, fun W hSw => ?_⟩) hHeld ?_
         rotate_left
         ·(try dsimp only at hSw); go_simp; (try with_reducible rfl)
         (try simp only [Act.put, List.setIfInBounds_toArray, List.set_cons_zero, List.set_cons_succ])
         refine wpAnyH_take (i := 13) (oi := ⟨some 112, .binOp .sub 3 (.tmp 111) (.const (.int .i64 1)) 3, 3, "law.go:137", #[⟨12, .data⟩, ⟨10, .guard⟩], some (10, true)⟩) (v := ?_) rfl (by kernel_rfl) (by kernel_rfl) (by kernel_rfl) (fun _ _ _ h => h) (Or.inl ⟨by rfl, fun W hSw => ?_⟩) hHeld ?_
         rotate_left
         ·(try dsimp only at hSw); go_simp; (try with_reducible rfl)
         (try simp only [Act.put, List.setIfInBounds_toArray, List.set_cons_zero, List.set_cons_succ])
         refine wpAnyH_take (i := 14) (oi := ⟨some 113, .indexAddr 30 (.tmp 110) (.tmp 112), 0, "law.go:137", #[⟨11, .data⟩, ⟨13, .data⟩, ⟨10, .guard⟩], some (10, true)⟩) (v := ?_) rfl (by kernel_rfl) (by kernel_rfl) (by kernel_rfl) (fun _ _ _ h => h) (Or.inl ⟨by rfl, fun W hSw => ?_⟩) hHeld ?_
         rotate_left
         ·(try dsimp only at hSw); go_simp; (try with_reducible rfl)
         (try simp only [Act.put, List.setIfInBounds_toArray, List.set_cons_zero, List.set_cons_succ])
         refine wpAnyH_take (i := 15) (oi := ⟨some 114, .load 26 (.tmp 113), 26, "law.go:137", #[⟨14, .data⟩, ⟨10, .guard⟩], some (10, true)⟩) (v := ?_) rfl (by kernel_rfl) (by kernel_rfl) (by kernel_rfl) (fun _ _ _ h => h) (Or.inl ⟨by rfl, fun W hSw => ?_⟩) hHeld ?_
         rotate_left
         ·(try dsimp only at hSw); go_simp; (try with_reducible rfl)
         (try simp only [Act.put, List.setIfInBounds_toArray, List.set_cons_zero, List.set_cons_succ])
         refine wpAnyH_take (i := 16) (oi := ⟨some 115, .move (.tmp 7), 30, "law.go:137", #[⟨10, .guard⟩], some (10, true)⟩) (v := ?_) rfl (by kernel_rfl) (by kernel_rfl) (by kernel_rfl) (fun _ _ _ h => h) (Or.inl ⟨by rfl, fun W hSw => ?_⟩) hHeld ?_
         rotate_left
         ·(try dsimp only at hSw); go_simp; (try with_reducible rfl)
         (try simp only [Act.put, List.setIfInBounds_toArray, List.set_cons_zero, List.set_cons_succ])
         refine wpAnyH_take (i := 17) (oi := ⟨some 116, .move (.tmp 11), 3, "law.go:137", #[⟨10, .guard⟩], some (10, true)⟩) (v := ?_) rfl (by kernel_rfl) (by kernel_rfl) (by kernel_rfl) (fun _ _ _ h => h) (Or.inl ⟨by rfl, fun W hSw => ?_⟩) hHeld ?_
         rotate_left
         ·(try dsimp only at hSw); go_simp; (try with_reducible rfl)
         (try simp only [Act.put, List.setIfInBounds_toArray, List.set_cons_zero, List.set_cons_succ])
         refine wpAnyH_take (i := 18) (oi := ⟨some 117, .indexAddr 30 (.tmp 115) (.tmp 116), 0, "law.go:137", #[⟨16, .data⟩, ⟨17, .data⟩, ⟨10, .guard⟩], some (10, true)⟩) (v := ?_) rfl (by kernel_rfl) (by kernel_rfl) (by kernel_rfl) (fun _ _ _ h => h) (Or.inl ⟨by rfl, fun W hSw => ?_⟩) hHeld ?_
         rotate_left
         ·(try dsimp only at hSw); go_simp; (try with_reducible rfl)
         (try simp only [Act.put, List.setIfInBounds_toArray, List.set_cons_zero, List.set_cons_succ])
         refine wpAnyH_take (i := 19) (oi := ⟨some 118, .load 26 (.tmp 117), 26, "law.go:137", #[⟨18, .data⟩, ⟨10, .guard⟩], some (10, true)⟩) (v := ?_) rfl (by kernel_rfl) (by kernel_rfl) (by kernel_rfl) (fun _ _ _ h => h) (Or.inl ⟨by rfl, fun W hSw => ?_⟩) hHeld ?_
         rotate_left
         ·(try dsimp only at hSw); go_simp; (try with_reducible rfl)
         (try simp only [Act.put, List.setIfInBounds_toArray, List.set_cons_zero, List.set_cons_succ])
         refine wpAnyH_ready (rs := [20]) (by kernel_rfl) (by simp) ?_
         refine AllReadyH.cons (o := ⟨some 119, .call { callee := .value (.func 29), args := #[.tmp 114, .tmp 118], argTypes := #[26, 26] }, 4, "law.go:137", #[⟨15, .data⟩, ⟨19, .data⟩, ⟨10, .chain⟩, ⟨10, .guard⟩], some (10, true)⟩) rfl (fun K hK => ?_) AllReadyH.nil
         go_simp
         refine (soon_any A2 A1 p2.length p.length c2 c1 p2 p _ (hry.1.keep hHeld.2.2.2.2) (hrx.1.keep hHeld.2.2.2.2) rfl rfl (by omega) (by omega)).mono ?_
         rw [hsn2.out]
         rintro e' WZ ⟨rfl, hbB⟩
         refine hK.out _ _ (hkS _ (fr_call hHeld.2.2.2.2 hbB)) (fun hHeld => ?_)
         clear hK K
         (try simp only [Act.put, List.setIfInBounds_toArray, List.set_cons_zero, List.set_cons_succ])
         refine wpAnyH_take (i := 21) (oi := ⟨some 120, .unOp .not 4 (.tmp 119), 4, "law.go:137", #[⟨20, .data⟩, ⟨10, .guard⟩], some (10, true)⟩) (v := ?_) rfl (by kernel_rfl) (by kernel_rfl) (by kernel_rfl) (fun _ _ _ h => h) (Or.inl ⟨by rfl, fun W hSw => ?_⟩) hHeld ?_
         rotate_left
         ·(try dsimp only at hSw); go_simp; (try with_reducible rfl)
         (try simp only [Act.put, List.setIfInBounds_toArray, List.set_cons_zero, List.set_cons_succ])
         refine wpAnyH_take (i := 22) (oi := ⟨some 121, .pick (.tmp 109) (.tmp 120) (.const (.bool false)), 4, "law.go:137", #[⟨10, .data⟩, ⟨21, .data⟩, ⟨7, .guard⟩], some (7, false)⟩) (v := ?_) rfl (by kernel_rfl) (by kernel_rfl) (by kernel_rfl) (fun _ _ _ h => h) (Or.inl ⟨by rfl, fun W hSw => ?_⟩) hHeld ?_
         rotate_left
         ·(try dsimp only at hSw); go_simp; (try with_reducible rfl)
         (try simp only [Act.put, List.setIfInBounds_toArray, List.set_cons_zero, List.set_cons_succ])
         refine wpAnyH_take (i := 23) (oi := ⟨some 122, .pick (.tmp 106) (.const (.bool true)) (.tmp 121), 4, "law.go:137", #[⟨7, .data⟩, ⟨22, .data⟩], none⟩) (v := ?_) rfl (by kernel_rfl) (by kernel_rfl) (by kernel_rfl) (fun _ _ _ h => h) (Or.inl ⟨by rfl, fun W hSw => ?_⟩) hHeld ?_
         rotate_left
         ·(try dsimp only at hSw); go_simp; (try with_reducible rfl)
         (try simp only [Act.put, List.setIfInBounds_toArray, List.set_cons_zero, List.set_cons_succ])
         refine wpAnyH_done (by kernel_rfl) ?_ _
         refine NoPanic.normal ?_
         clear hry hd k1 k2 hwi
         replace hbr := fr_call hbr hHeld.2.2.2.2
         have hX2 := hXr.keep hHeld.2.2.2.2
         have hc2 := hHeld.2.2.1
         have hab2 := Nat.lt_of_lt_of_le hab hHeld.2.2.2.2.size
         replace hrx := hrx.1.keep hHeld.2.2.2.2
         replace hfw := hfw.keep hHeld.2.2.2.2
         clear hHeld hxl hXr hc hab hLr hkS hab' hz0 hz1
         have hcX := fun j => hX2.cell j
         have hxl := hX2.lt
         go_upto_region 17 with (fail)
         have hz0 : WZ.cell? ⟨w.heap.size, 0, none⟩ = some (.slice A ws.length c) := hcX 0
         have hz1 : WZ.cell? ⟨w.heap.size, 1, none⟩ = some (.slice N ns.length d) := hcX 1
         have hab' : (ad.add j).block < WZ.heap.size := by rw [block_of_add]; exact hab2
         have hkS := fun W (hb : Below WZ.heap.size WZ W) => (⟨(hb.cell (p := ⟨w.heap.size, 0, none⟩) hxl).trans hz0, (hb.cell (p := ⟨w.heap.size, 1, none⟩) hxl).trans hz1, (hb.cell (p := ad.add j) hab').trans hc2, hb⟩ : W.cell? ⟨w.heap.size, 0, none⟩ = some (.slice A ws.length c) ∧ W.cell? ⟨w.heap.size, 1, none⟩ = some (.slice N ns.length d) ∧ W.cell? (ad.add j) = some (.slice A1 p.length c1) ∧ Below WZ.heap.size WZ W)
         refine wp_region_noPanic ?_
         refine wp_region_held_drew (S := fun W => W.cell? ⟨w.heap.size, 0, none⟩ = some (.slice A ws.length c) ∧ W.cell? ⟨w.heap.size, 1, none⟩ = some (.slice N ns.length d) ∧ W.cell? (ad.add j) = some (.slice A1 p.length c1) ∧ Below WZ.heap.size WZ W) (by kernel_rfl) (hkS _ (fr_drew (fr_refl _))) (fun hHeld => ?_)
         clear hcX
         -- the region, step by step
         refine wpAnyH_take (i := 0) (oi := ⟨some 124, .load 25 (.tmp 2), 25, "law.go:140", #[], none⟩) (v := ?_) rfl (by kernel_rfl) (by kernel_rfl) (by kernel_rfl) (fun _ _ _ h => h) (Or.inl ⟨by rfl, fun W hSw => ?_⟩) hHeld ?_
         rotate_left
         ·(try dsimp only at hSw); go_simp; (try with_reducible rfl)
         (try simp only [Act.put, List.setIfInBounds_toArray, List.set_cons_zero, List.set_cons_succ])
         refine wpAnyH_take (i := 1) (oi := ⟨some 125, .move (.tmp 7), 30, "law.go:140", #[], none⟩) (v := ?_) rfl (by kernel_rfl) (by kernel_rfl) (by kernel_rfl) (fun _ _ _ h => h) (Or.inl ⟨by rfl, fun W hSw => ?_⟩) hHeld ?_
         rotate_left
         ·(try dsimp only at hSw); go_simp; (try with_reducible rfl)
         (try simp only [Act.put, List.setIfInBounds_toArray, List.set_cons_zero, List.set_cons_succ])
         refine wpAnyH_take (i := 2) (oi := ⟨some 126, .move (.tmp 11), 3, "law.go:140", #[], none⟩) (v := ?_) rfl (by kernel_rfl) (by kernel_rfl) (by kernel_rfl) (fun _ _ _ h => h) (Or.inl ⟨by rfl, fun W hSw => ?_⟩) hHeld ?_
         rotate_left
         ·(try dsimp only at hSw); go_simp; (try with_reducible rfl)
         (try simp only [Act.put, List.setIfInBounds_toArray, List.set_cons_zero, List.set_cons_succ])
         refine wpAnyH_take (i := 3) (oi := ⟨some 127, .indexAddr 30 (.tmp 125) (.tmp 126), 0, "law.go:140", #[⟨1, .data⟩, ⟨2, .data⟩], none⟩) (v := ?_) rfl (by kernel_rfl) (by kernel_rfl) (by kernel_rfl) (fun _ _ _ h => h) (Or.inl ⟨by rfl, fun W hSw => ?_⟩) hHeld ?_
         rotate_left
         ·(try dsimp only at hSw); go_simp; (try with_reducible rfl)
         (try simp only [Act.put, List.setIfInBounds_toArray, List.set_cons_zero, List.set_cons_succ])
         refine wpAnyH_take (i := 4) (oi := ⟨some 128, .load 26 (.tmp 127), 26, "law.go:140", #[⟨3, .data⟩], none⟩) (v := ?_) rfl (by kernel_rfl) (by kernel_rfl) (by kernel_rfl) (fun _ _ _ h => h) (Or.inl ⟨by rfl, fun W hSw => ?_⟩) hHeld ?_
         rotate_left
         ·(try dsimp only at hSw); go_simp; (try with_reducible rfl)
         (try simp only [Act.put, List.setIfInBounds_toArray, List.set_cons_zero, List.set_cons_succ])
         refine wpAnyH_ready (rs := [5]) (by kernel_rfl) (by simp) ?_
         refine AllReadyH.cons (o := ⟨some 129, .call { callee := .value (.func 17), args := #[.tmp 124, .tmp 128], argTypes := #[25, 26] }, 35, "law.go:140", #[⟨0, .data⟩, ⟨4, .data⟩], none⟩) rfl (fun K hK => ?_) AllReadyH.nil
         go_simp
         refine (Breaks_own A N A1 c d c1 p.length ws ns p _ (hfw.keep hHeld.2.2.2) hv (hrx.keep hHeld.2.2.2) rfl hfp.out).mono ?_
         rw [hnp.out]
         rintro e' w5 ⟨B5, b5, rfl, _, hb5⟩
         refine hK.out _ _ (hkS _ (fr_call hHeld.2.2.2 hb5)) (fun hHeld => ?_)
         clear hK K
         (try simp only [Act.put, List.setIfInBounds_toArray, List.set_cons_zero, List.set_cons_succ])
         refine wpAnyH_take (i := 6) (oi := ⟨some 123, .move (.tmp 129), 35, "law.go:140", #[⟨5, .data⟩], none⟩) (v := ?_) rfl (by kernel_rfl) (by kernel_rfl) (by kernel_rfl) (fun _ _ _ h => h) (Or.inl ⟨by rfl, fun W hSw => ?_⟩) hHeld ?_
         rotate_left
         ·(try dsimp only at hSw); go_simp; (try with_reducible rfl)
         (try simp only [Act.put, List.setIfInBounds_toArray, List.set_cons_zero, List.set_cons_succ])
         refine wpAnyH_take (i := 7) (oi := ⟨some 130, .extract (.tmp 123) 0, 34, "law.go:140", #[⟨6, .data⟩], none⟩) (v := ?_) rfl (by kernel_rfl) (by kernel_rfl) (by kernel_rfl) (fun _ _ _ h => h) (Or.inl ⟨by rfl, fun W hSw => ?_⟩) hHeld ?_
         rotate_left
         ·(try dsimp only at hSw); go_simp; (try with_reducible rfl)
         (try simp only [Act.put, List.setIfInBounds_toArray, List.set_cons_zero, List.set_cons_succ])
         refine wpAnyH_take (i := 8) (oi := ⟨some 131, .extract (.tmp 123) 1, 31, "law.go:140", #[⟨6, .data⟩, ⟨9, .gcOnly .lateStores⟩], none⟩) (v := ?_) rfl (by kernel_rfl) (by kernel_rfl) (by kernel_rfl) (fun _ _ _ h => h) (Or.inl ⟨by rfl, fun W hSw => ?_⟩) hHeld ?_
         rotate_left
         ·(try dsimp only at hSw); go_simp; (try with_reducible rfl)
         (try simp only [Act.put, List.setIfInBounds_toArray, List.set_cons_zero, List.set_cons_succ])
         refine wpAnyH_take (i := 9) (oi := ⟨some 12, .assign (.tmp 130), 34, "law.go:140", #[⟨7, .data⟩, ⟨5, .chain⟩, ⟨0, .phase⟩, ⟨1, .phase⟩, ⟨2, .phase⟩, ⟨3, .phase⟩, ⟨4, .phase⟩, ⟨5, .phase⟩, ⟨6, .phase⟩, ⟨7, .phase⟩, ⟨8, .textOnly .lateStores⟩], none⟩) (v := ?_) rfl (by kernel_rfl) (by kernel_rfl) (by kernel_rfl) (fun _ _ _ h => h) (Or.inl ⟨by rfl, fun W hSw => ?_⟩) hHeld ?_
         rotate_left
         ·(try dsimp only at hSw); go_simp; (try with_reducible rfl)
         (try simp only [Act.put, List.setIfInBounds_toArray, List.set_cons_zero, List.set_cons_succ])
         refine wpAnyH_take (i := 10) (oi := ⟨some 13, .assign (.tmp 131), 31, "law.go:140", #[⟨8, .data⟩, ⟨9, .chain⟩, ⟨0, .phase⟩, ⟨1, .phase⟩, ⟨2, .phase⟩, ⟨3, .phase⟩, ⟨4, .phase⟩, ⟨5, .phase⟩, ⟨6, .phase⟩, ⟨7, .phase⟩, ⟨8, .phase⟩, ⟨9, .phase⟩], none⟩) (v := ?_) rfl (by kernel_rfl) (by kernel_rfl) (by kernel_rfl) (fun _ _ _ h => h) (Or.inl ⟨by rfl, fun W hSw => ?_⟩) hHeld ?_
         rotate_left
         ·(try dsimp only at hSw); go_simp; (try with_reducible rfl)
         (try simp only [Act.put, List.setIfInBounds_toArray, List.set_cons_zero, List.set_cons_succ])
         refine wpAnyH_done (by kernel_rfl) ?_ _
         refine NoPanic.normal ?_
         go_wp2_with fail
         refine ⟨⟨j + 1, hlt, rfl, fr_call hbr hHeld.2.2.2⟩, ?_⟩
         simp [intOf]; omega
       ·have hlt' : ¬ ((j : Int) < (q : Int)) := by omega
        replace hfr := fr_call hfr hbr
        clear hL hf hX
        go_wp2_with fail
        refine (known_is _ (hT.keep hfr) (hM.keep hfr)).mono ?_
        rintro e' w1 ⟨rfl, hb⟩
        replace hfr := fr_call hfr hb
        go_wp2_with fail
        go_ret
        exact ⟨rfl, hfr⟩
     ·have hr1 : ((r : Int) == 0) = false := beq_eq_false_iff_ne.2 (by omega)
      have hmd := Lib.hid (decide_eq_false (fun h => hr0 (hmg.2 h)))
      clear hfb hfit hmg hr0
      go_enter Tryz.func5, Tryz.ntmps5
      go_wp2_with fail
      refine (short_any A N ws.length ns.length c d _ _ hsb).mono ?_
      rintro e' w1 ⟨rfl, hb⟩
      replace hfr := fr_call hfr hb
      replace hf := hf.keep hb
      replace hX := hX.keep hb
      replace hx := hx.keep hb
      clear hb hcX
      have hcX := fun j => hX.cell j
      have hxl := hX.lt
      go_wp2_with fail
      refine (Find8_any A N ws.length ns.length c d ws ns _ hf rfl rfl (by omega) (by omega) _ HFB.out).mono ?_
      rintro e' w1 ⟨rfl, hb⟩
      replace hfr := fr_call hfr hb
      replace hf := hf.keep hb
      replace hX := hX.keep hb
      replace hx := hx.keep hb
      clear hb hcX
      have hcX := fun j => hX.cell j
      have hxl := hX.lt
      go_wp2_with fail
      refine (Own8_any A N C ws.length ns.length c d x.length k ws x _ hf.ws hx rfl (by omega) rfl (by omega) true (by simp [HFI.out])).mono ?_
      rintro e' w1 ⟨rfl, hb⟩
      replace hfr := fr_call hfr hb
      replace hf := hf.keep hb
      replace hX := hX.keep hb
      replace hx := hx.keep hb
      clear hb hcX
      have hcX := fun j => hX.cell j
      have hxl := hX.lt
      go_wp2_with fail
      refine (hgs _ hf).mono ?_
      rintro e' w1 ⟨rfl, hb⟩
      replace hfr := fr_call hfr hb
      replace hf := hf.keep hb
      replace hX := hX.keep hb
      replace hx := hx.keep hb
      clear hb hcX
      have hcX := fun j => hX.cell j
      have hxl := hX.lt
      go_wp2_with fail
      refine (hli _ hf).mono ?_
      rintro e' w1 ⟨L, lc, rfl, hL, hb⟩
      replace hfr := fr_call hfr hb
      replace hf := hf.keep hb
      replace hX := hX.keep hb
      replace hx := hx.keep hb
      clear hb hcX
      have hcX := fun j => hX.cell j
      have hxl := hX.lt
      rw [hpl]
      go_wp2_with fail
      refine (hbr' _ hf hx).mono ?_
      rintro e' w1 ⟨B, bc, rfl, hb⟩
      replace hfr := fr_call hfr hb
      replace hf := hf.keep hb
      replace hX := hX.keep hb
      replace hx := hx.keep hb
      replace hL := hL.keep hb
      clear hb hcX
      have hcX := fun j => hX.cell j
      have hxl := hX.lt
      go_wp2_with fail
      refine (listed_any L C q x.length lc k ps x _ hL hx hpl rfl (by omega) (by omega) (fun p hp => by have := hao.out.len p hp; omega)).mono ?_
      rw [hmd.out]
      rintro e' w1 ⟨rfl, hb⟩
      replace hfr := fr_call hfr hb
      replace hf := hf.keep hb
      replace hX := hX.keep hb
      replace hx := hx.keep hb
      replace hL := hL.keep hb
      clear hb hcX
      have hcX := fun j => hX.cell j
      have hxl := hX.lt
      go_wp2_with fail
      obtain ⟨w4, hw4⟩ : ∃ w4, w4 = w1 := ⟨_, rfl⟩
      subst hw4
      have HPL := Lib.hid hpl
      clear hcX hx hgs hbr' hpl
      go_loopw [11] (fun i wr => ∃ j : Nat, j ≤ q ∧ i = .int .i64 j ∧ Below w4.heap.size w4 wr) (fun i _ => q - (intOf i).toNat)
      case atStart => exact ⟨0, Nat.zero_le _, rfl, fr_refl _⟩
      case round =>
       obtain ⟨j, hj, rfl, hbr⟩ := hrel
       have hXr := hX.keep hbr
       have hcX := fun j => hXr.cell j
       have hxl := hXr.lt
       by_cases hlt : j < q
       ·have hjl : j < ps.length := by rw [HPL.out]; exact hlt
        obtain ⟨ad, A1, c1, rfl, hab, hc, hrx⟩ := (hL.keep hbr).at_ hjl
        have hpm := List.getElem_mem hjl
        have hfp := Lib.hid (hao.out.fit _ hpm)
        have hnp := Lib.hid (hao.out.none _ hpm)
        have hlp := hao.out.len _ hpm
        have i1 : 0 ≤ (j : Int) := by omega
        have i2 : (j : Int) < (q : Int) := by omega
        have hfw := hf.keep hbr
        have hLr := hL.keep hbr
        have hab' : (ad.add j).block < wr.heap.size := by rw [block_of_add]; exact hab
        have hz0 : wr.cell? ⟨w.heap.size, 0, none⟩ = some (.slice A ws.length c) := hcX 0
        have hz1 : wr.cell? ⟨w.heap.size, 1, none⟩ = some (.slice N ns.length d) := hcX 1
        by_cases hj0 : j = 0
        ·have hgt2 : decide (0 < (j : Int)) = false := decide_eq_false (by omega)
         have hgt3 : decide (0 < j) = false := decide_eq_false (by omega)
         clear hj0
         generalize ps[j] = p at *
         go_upto_region 15 with (fail)
         refine wp_region_noPanic ?_
         have hkS := fun W (hb : Below wr.heap.size wr W) => (⟨(hb.cell (p := ⟨w.heap.size, 0, none⟩) hxl).trans hz0, (hb.cell (p := ⟨w.heap.size, 1, none⟩) hxl).trans hz1, (hb.cell (p := ad.add j) hab').trans hc, hb⟩ : W.cell? ⟨w.heap.size, 0, none⟩ = some (.slice A ws.length c) ∧ W.cell? ⟨w.heap.size, 1, none⟩ = some (.slice N ns.length d) ∧ W.cell? (ad.add j) = some (.slice A1 p.length c1) ∧ Below wr.heap.size wr W)
         refine wp_region_held_drew (S := fun W => W.cell? ⟨w.heap.size, 0, none⟩ = some (.slice A ws.length c) ∧ W.cell? ⟨w.heap.size, 1, none⟩ = some (.slice N ns.length d) ∧ W.cell? (ad.add j) = some (.slice A1 p.length c1) ∧ Below wr.heap.size wr W) (by kernel_rfl) (hkS _ (fr_drew (fr_refl _))) (fun hHeld => ?_)
         clear hcX
         -- the region, step by step
         refine wpAnyH_take (i := 0) (oi := ⟨some 99, .load 25 (.tmp 2), 25, "law.go:137", #[], none⟩) (v := ?_) rfl (by kernel_rfl) (by kernel_rfl) (by kernel_rfl) (fun _ _ _ h => h) (Or.inl ⟨by rfl, fun W hSw => ?_⟩) hHeld ?_
         rotate_left
         ·(try dsimp only at hSw); go_simp; (try with_reducible rfl)
         (try simp only [Act.put, List.setIfInBounds_toArray, List.set_cons_zero, List.set_cons_succ])
         refine wpAnyH_take (i := 1) (oi := ⟨some 100, .move (.tmp 7), 30, "law.go:137", #[], none⟩) (v := ?_) rfl (by kernel_rfl) (by kernel_rfl) (by kernel_rfl) (fun _ _ _ h => h) (Or.inl ⟨by rfl, fun W hSw => ?_⟩) hHeld ?_
         rotate_left
         ·(try dsimp only at hSw); go_simp; (try with_reducible rfl)
         (try simp only [Act.put, List.setIfInBounds_toArray, List.set_cons_zero, List.set_cons_succ])
         refine wpAnyH_take (i := 2) (oi := ⟨some 101, .move (.tmp 11), 3, "law.go:137", #[], none⟩) (v := ?_) rfl (by kernel_rfl) (by kernel_rfl) (by kernel_rfl) (fun _ _ _ h => h) (Or.inl ⟨by rfl, fun W hSw => ?_⟩) hHeld ?_
         rotate_left
         ·(try dsimp only at hSw); go_simp; (try with_reducible rfl)
         (try simp only [Act.put, List.setIfInBounds_toArray, List.set_cons_zero, List.set_cons_succ])
         refine wpAnyH_take (i := 3) (oi := ⟨some 102, .indexAddr 30 (.tmp 100) (.tmp 101), 0, "law.go:137", #[⟨1, .data⟩, ⟨2, .data⟩], none⟩) (v := ?_) rfl (by kernel_rfl) (by kernel_rfl) (by kernel_rfl) (fun _ _ _ h => h) (Or.inl ⟨by rfl, fun W hSw => ?_⟩) hHeld ?_
         rotate_left
         ·(try dsimp only at hSw); go_simp; (try with_reducible rfl)
         (try simp only [Act.put, List.setIfInBounds_toArray, List.set_cons_zero, List.set_cons_succ])
         refine wpAnyH_take (i := 4) (oi := ⟨some 103, .load 26 (.tmp 102), 26, "law.go:137", #[⟨3, .data⟩], none⟩) (v := ?_) rfl (by kernel_rfl) (by kernel_rfl) (by kernel_rfl) (fun _ _ _ h => h) (Or.inl ⟨by rfl, fun W hSw => ?_⟩) hHeld ?_
         rotate_left
         ·(try dsimp only at hSw); go_simp; (try with_reducible rfl)
         (try simp only [Act.put, List.setIfInBounds_toArray, List.set_cons_zero, List.set_cons_succ])
         refine wpAnyH_ready (rs := [5]) (by kernel_rfl) (by simp) ?_
         refine AllReadyH.cons (o := ⟨some 104, .call { callee := .value (.func 14), args := #[.tmp 99, .tmp 103], argTypes := #[25, 26] }, 4, "law.go:137", #[⟨0, .data⟩, ⟨4, .data⟩], none⟩) rfl (fun K hK => ?_) AllReadyH.nil
         go_simp
         refine (Own8_any A N A1 ws.length ns.length c d p.length c1 ws p _ (hfw.ws.keep hHeld.2.2.2) (hrx.1.keep hHeld.2.2.2) rfl (by omega) rfl (by omega) true (by simp [hfp.out])).mono ?_
         rintro e' WZ ⟨rfl, hbA⟩
         refine hK.out _ _ (hkS _ (fr_call hHeld.2.2.2 hbA)) (fun hHeld => ?_)
         clear hK K
         (try simp only [Act.put, List.setIfInBounds_toArray, List.set_cons_zero, List.set_cons_succ])
         refine wpAnyH_take (i := 6) (oi := ⟨some 105, .unOp .not 4 (.tmp 104), 4, "law.go:137", #[⟨5, .data⟩], none⟩) (v := ?_) rfl (by kernel_rfl) (by kernel_rfl) (by kernel_rfl) (fun _ _ _ h => h) (Or.inl ⟨by rfl, fun W hSw => ?_⟩) hHeld ?_
         rotate_left
         ·(try dsimp only at hSw); go_simp; (try with_reducible rfl)
         (try simp only [Act.put, List.setIfInBounds_toArray, List.set_cons_zero, List.set_cons_succ])
         refine wpAnyH_take (i := 7) (oi := ⟨some 106, .move (.tmp 105), 4, "law.go:137", #[⟨6, .data⟩, ⟨5, .chain⟩], none⟩) (v := ?_) rfl (by kernel_rfl) (by kernel_rfl) (by kernel_rfl) (fun _ _ _ h => h) (Or.inl ⟨by rfl, fun W hSw => ?_⟩) hHeld ?_
         rotate_left
         ·(try dsimp only at hSw); go_simp; (try with_reducible rfl)
         (try simp only [Act.put, List.setIfInBounds_toArray, List.set_cons_zero, List.set_cons_succ])
         refine wpAnyH_take (i := 8) (oi := ⟨some 107, .move (.tmp 11), 3, "law.go:137", #[⟨7, .guard⟩], some (7, false)⟩) (v := ?_) rfl (by kernel_rfl) (by kernel_rfl) (by kernel_rfl) (fun _ _ _ h => h) (Or.inl ⟨by rfl, fun W hSw => ?_⟩) hHeld ?_
         rotate_left
         ·(try dsimp only at hSw); go_simp; (try with_reducible rfl)
         (try simp only [Act.put, List.setIfInBounds_toArray, List.set_cons_zero, List.set_cons_succ])
         refine wpAnyH_take (i := 9) (oi := ⟨some 108, .binOp .gtr 3 (.tmp 107) (.const (.int .i64 0)) 3, 4, "law.go:137", #[⟨8, .data⟩, ⟨7, .guard⟩], some (7, false)⟩) (v := ?_) rfl (by kernel_rfl) (by kernel_rfl) (by kernel_rfl) (fun _ _ _ h => h) (Or.inl ⟨by rfl, fun W hSw => ?_⟩) hHeld ?_
         rotate_left
         ·(try dsimp only at hSw); go_simp; (try with_reducible rfl)
         (try simp only [Act.put, List.setIfInBounds_toArray, List.set_cons_zero, List.set_cons_succ])
         refine wpAnyH_take (i := 10) (oi := ⟨some 109, .move (.tmp 108), 4, "law.go:137", #[⟨9, .data⟩, ⟨7, .chain⟩, ⟨7, .guard⟩], some (7, false)⟩) (v := ?_) rfl (by kernel_rfl) (by kernel_rfl) (by kernel_rfl) (fun _ _ _ h => h) (Or.inl ⟨by rfl, fun W hSw => ?_⟩) hHeld ?_
         rotate_left
         ·(try dsimp only at hSw); go_simp; (try with_reducible rfl)
         (try simp only [Act.put, List.setIfInBounds_toArray, List.set_cons_zero, List.set_cons_succ])
         refine wpAnyH_take (i := 11) (oi := ⟨some 110, .move (.tmp 7), 30, "law.go:137", #[⟨10, .guard⟩], some (10, true)⟩) (v := undef) rfl (by kernel_rfl) (by kernel_rfl) (by kernel_rfl) (fun _ _ _ h => h) (Or.inr ⟨by rfl, rfl⟩) hHeld ?_
         (try simp only [Act.put, List.setIfInBounds_toArray, List.set_cons_zero, List.set_cons_succ])
         refine wpAnyH_take (i := 12) (oi := ⟨some 111, .move (.tmp 11), 3, "law.go:137", #[⟨10, .guard⟩], some (10, true)⟩) (v := undef) rfl (by kernel_rfl) (by kernel_rfl) (by kernel_rfl) (fun _ _ _ h => h) (Or.inr ⟨by rfl, rfl⟩) hHeld ?_
         (try simp only [Act.put, List.setIfInBounds_toArray, List.set_cons_zero, List.set_cons_succ])
         refine wpAnyH_take (i := 13) (oi := ⟨some 112, .binOp .sub 3 (.tmp 111) (.const (.int .i64 1)) 3, 3, "law.go:137", #[⟨12, .data⟩, ⟨10, .guard⟩], some (10, true)⟩) (v := undef) rfl (by kernel_rfl) (by kernel_rfl) (by kernel_rfl) (fun _ _ _ h => h) (Or.inr ⟨by rfl, rfl⟩) hHeld ?_
         (try simp only [Act.put, List.setIfInBounds_toArray, List.set_cons_zero, List.set_cons_succ])
         refine wpAnyH_take (i := 14) (oi := ⟨some 113, .indexAddr 30 (.tmp 110) (.tmp 112), 0, "law.go:137", #[⟨11, .data⟩, ⟨13, .data⟩, ⟨10, .guard⟩], some (10, true)⟩) (v := undef) rfl (by kernel_rfl) (by kernel_rfl) (by kernel_rfl) (fun _ _ _ h => h) (Or.inr ⟨by rfl, rfl⟩) hHeld ?_
         (try simp only [Act.put, List.setIfInBounds_toArray, List.set_cons_zero, List.set_cons_succ])
         refine wpAnyH_take (i := 15) (oi := ⟨some 114, .load 26 (.tmp 113), 26, "law.go:137", #[⟨14, .data⟩, ⟨10, .guard⟩], some (10, true)⟩) (v := undef) rfl (by kernel_rfl) (by kernel_rfl) (by kernel_rfl) (fun _ _ _ h => h) (Or.inr ⟨by rfl, rfl⟩) hHeld ?_
         (try simp only [Act.put, List.setIfInBounds_toArray, List.set_cons_zero, List.set_cons_succ])
         refine wpAnyH_take (i := 16) (oi := ⟨some 115, .move (.tmp 7), 30, "law.go:137", #[⟨10, .guard⟩], some (10, true)⟩) (v := undef) rfl (by kernel_rfl) (by kernel_rfl) (by kernel_rfl) (fun _ _ _ h => h) (Or.inr ⟨by rfl, rfl⟩) hHeld ?_
         (try simp only [Act.put, List.setIfInBounds_toArray, List.set_cons_zero, List.set_cons_succ])
         refine wpAnyH_take (i := 17) (oi := ⟨some 116, .move (.tmp 11), 3, "law.go:137", #[⟨10, .guard⟩], some (10, true)⟩) (v := undef) rfl (by kernel_rfl) (by kernel_rfl) (by kernel_rfl) (fun _ _ _ h => h) (Or.inr ⟨by rfl, rfl⟩) hHeld ?_
         (try simp only [Act.put, List.setIfInBounds_toArray, List.set_cons_zero, List.set_cons_succ])
         refine wpAnyH_take (i := 18) (oi := ⟨some 117, .indexAddr 30 (.tmp 115) (.tmp 116), 0, "law.go:137", #[⟨16, .data⟩, ⟨17, .data⟩, ⟨10, .guard⟩], some (10, true)⟩) (v := undef) rfl (by kernel_rfl) (by kernel_rfl) (by kernel_rfl) (fun _ _ _ h => h) (Or.inr ⟨by rfl, rfl⟩) hHeld ?_
         (try simp only [Act.put, List.setIfInBounds_toArray, List.set_cons_zero, List.set_cons_succ])
         refine wpAnyH_take (i := 19) (oi := ⟨some 118, .load 26 (.tmp 117), 26, "law.go:137", #[⟨18, .data⟩, ⟨10, .guard⟩], some (10, true)⟩) (v := undef) rfl (by kernel_rfl) (by kernel_rfl) (by kernel_rfl) (fun _ _ _ h => h) (Or.inr ⟨by rfl, rfl⟩) hHeld ?_
         (try simp only [Act.put, List.setIfInBounds_toArray, List.set_cons_zero, List.set_cons_succ])
         refine wpAnyH_take (i := 20) (oi := ⟨some 119, .call { callee := .value (.func 29), args := #[.tmp 114, .tmp 118], argTypes := #[26, 26] }, 4, "law.go:137", #[⟨15, .data⟩, ⟨19, .data⟩, ⟨10, .chain⟩, ⟨10, .guard⟩], some (10, true)⟩) (v := undef) rfl (by kernel_rfl) (by kernel_rfl) (by kernel_rfl) (fun _ _ _ h => h) (Or.inr ⟨by rfl, rfl⟩) hHeld ?_
         (try simp only [Act.put, List.setIfInBounds_toArray, List.set_cons_zero, List.set_cons_succ])
         refine wpAnyH_take (i := 21) (oi := ⟨some 120, .unOp .not 4 (.tmp 119), 4, "law.go:137", #[⟨20, .data⟩, ⟨10, .guard⟩], some (10, true)⟩) (v := undef) rfl (by kernel_rfl) (by kernel_rfl) (by kernel_rfl) (fun _ _ _ h => h) (Or.inr ⟨by rfl, rfl⟩) hHeld ?_
         (try simp only [Act.put, List.setIfInBounds_toArray, List.set_cons_zero, List.set_cons_succ])
         refine wpAnyH_take (i := 22) (oi := ⟨some 121, .pick (.tmp 109) (.tmp 120) (.const (.bool false)), 4, "law.go:137", #[⟨10, .data⟩, ⟨21, .data⟩, ⟨7, .guard⟩], some (7, false)⟩) (v := ?_) rfl (by kernel_rfl) (by kernel_rfl) (by kernel_rfl) (fun _ _ _ h => h) (Or.inl ⟨by rfl, fun W hSw => ?_⟩) hHeld ?_
         rotate_left
         ·(try dsimp only at hSw); go_simp; (try with_reducible rfl)
         (try simp only [Act.put, List.setIfInBounds_toArray, List.set_cons_zero, List.set_cons_succ])
         refine wpAnyH_take (i := 23) (oi := ⟨some 122, .pick (.tmp 106) (.const (.bool true)) (.tmp 121), 4, "law.go:137", #[⟨7, .data⟩, ⟨22, .data⟩], none⟩) (v := ?_) rfl (by kernel_rfl) (by kernel_rfl) (by kernel_rfl) (fun _ _ _ h => h) (Or.inl ⟨by rfl, fun W hSw => ?_⟩) hHeld ?_
         rotate_left
         ·(try dsimp only at hSw); go_simp; (try with_reducible rfl)
         (try simp only [Act.put, List.setIfInBounds_toArray, List.set_cons_zero, List.set_cons_succ])
         refine wpAnyH_done (by kernel_rfl) ?_ _
         refine NoPanic.normal ?_
         replace hbr := fr_call hbr hHeld.2.2.2
         have hX2 := hXr.keep hHeld.2.2.2
         have hc2 := hHeld.2.2.1
         have hab2 := Nat.lt_of_lt_of_le hab hHeld.2.2.2.size
         replace hrx := hrx.1.keep hHeld.2.2.2
         replace hfw := hfw.keep hHeld.2.2.2
         clear hHeld hxl hXr hc hab hLr hkS hab' hz0 hz1
         have hcX := fun j => hX2.cell j
         have hxl := hX2.lt
         go_upto_region 17 with (fail)
         have hz0 : WZ.cell? ⟨w.heap.size, 0, none⟩ = some (.slice A ws.length c) := hcX 0
         have hz1 : WZ.cell? ⟨w.heap.size, 1, none⟩ = some (.slice N ns.length d) := hcX 1
         have hab' : (ad.add j).block < WZ.heap.size := by rw [block_of_add]; exact hab2
         have hkS := fun W (hb : Below WZ.heap.size WZ W) => (⟨(hb.cell (p := ⟨w.heap.size, 0, none⟩) hxl).trans hz0, (hb.cell (p := ⟨w.heap.size, 1, none⟩) hxl).trans hz1, (hb.cell (p := ad.add j) hab').trans hc2, hb⟩ : W.cell? ⟨w.heap.size, 0, none⟩ = some (.slice A ws.length c) ∧ W.cell? ⟨w.heap.size, 1, none⟩ = some (.slice N ns.length d) ∧ W.cell? (ad.add j) = some (.slice A1 p.length c1) ∧ Below WZ.heap.size WZ W)
         refine wp_region_noPanic ?_
         refine wp_region_held_drew (S := fun W => W.cell? ⟨w.heap.size, 0, none⟩ = some (.slice A ws.length c) ∧ W.cell? ⟨w.heap.size, 1, none⟩ = some (.slice N ns.length d) ∧ W.cell? (ad.add j) = some (.slice A1 p.length c1) ∧ Below WZ.heap.size WZ W) (by kernel_rfl) (hkS _ (fr_drew (fr_refl _))) (fun hHeld => ?_)
         clear hcX
         -- the region, step by step
         refine wpAnyH_take (i := 0) (oi := ⟨some 124, .load 25 (.tmp 2), 25, "law.go:140", #[], none⟩) (v := ?_) rfl (by kernel_rfl) (by kernel_rfl) (by kernel_rfl) (fun _ _ _ h => h) (Or.inl ⟨by rfl, fun W hSw => ?_⟩) hHeld ?_
         rotate_left
         ·(try dsimp only at hSw); go_simp; (try with_reducible rfl)
         (try simp only [Act.put, List.setIfInBounds_toArray, List.set_cons_zero, List.set_cons_succ])
         refine wpAnyH_take (i := 1) (oi := ⟨some 125, .move (.tmp 7), 30, "law.go:140", #[], none⟩) (v := ?_) rfl (by kernel_rfl) (by kernel_rfl) (by kernel_rfl) (fun _ _ _ h => h) (Or.inl ⟨by rfl, fun W hSw => ?_⟩) hHeld ?_
         rotate_left
         ·(try dsimp only at hSw); go_simp; (try with_reducible rfl)
         (try simp only [Act.put, List.setIfInBounds_toArray, List.set_cons_zero, List.set_cons_succ])
         refine wpAnyH_take (i := 2) (oi := ⟨some 126, .move (.tmp 11), 3, "law.go:140", #[], none⟩) (v := ?_) rfl (by kernel_rfl) (by kernel_rfl) (by kernel_rfl) (fun _ _ _ h => h) (Or.inl ⟨by rfl, fun W hSw => ?_⟩) hHeld ?_
         rotate_left
         ·(try dsimp only at hSw); go_simp; (try with_reducible rfl)
         (try simp only [Act.put, List.setIfInBounds_toArray, List.set_cons_zero, List.set_cons_succ])
         refine wpAnyH_take (i := 3) (oi := ⟨some 127, .indexAddr 30 (.tmp 125) (.tmp 126), 0, "law.go:140", #[⟨1, .data⟩, ⟨2, .data⟩], none⟩) (v := ?_) rfl (by kernel_rfl) (by kernel_rfl) (by kernel_rfl) (fun _ _ _ h => h) (Or.inl ⟨by rfl, fun W hSw => ?_⟩) hHeld ?_
         rotate_left
         ·(try dsimp only at hSw); go_simp; (try with_reducible rfl)
         (try simp only [Act.put, List.setIfInBounds_toArray, List.set_cons_zero, List.set_cons_succ])
         refine wpAnyH_take (i := 4) (oi := ⟨some 128, .load 26 (.tmp 127), 26, "law.go:140", #[⟨3, .data⟩], none⟩) (v := ?_) rfl (by kernel_rfl) (by kernel_rfl) (by kernel_rfl) (fun _ _ _ h => h) (Or.inl ⟨by rfl, fun W hSw => ?_⟩) hHeld ?_
         rotate_left
         ·(try dsimp only at hSw); go_simp; (try with_reducible rfl)
         (try simp only [Act.put, List.setIfInBounds_toArray, List.set_cons_zero, List.set_cons_succ])
         refine wpAnyH_ready (rs := [5]) (by kernel_rfl) (by simp) ?_
         refine AllReadyH.cons (o := ⟨some 129, .call { callee := .value (.func 17), args := #[.tmp 124, .tmp 128], argTypes := #[25, 26] }, 35, "law.go:140", #[⟨0, .data⟩, ⟨4, .data⟩], none⟩) rfl (fun K hK => ?_) AllReadyH.nil
         go_simp
         refine (Breaks_own A N A1 c d c1 p.length ws ns p _ (hfw.keep hHeld.2.2.2) hv (hrx.keep hHeld.2.2.2) rfl hfp.out).mono ?_
         rw [hnp.out]
         rintro e' w5 ⟨B5, b5, rfl, _, hb5⟩
         refine hK.out _ _ (hkS _ (fr_call hHeld.2.2.2 hb5)) (fun hHeld => ?_)
         clear hK K
         (try simp only [Act.put, List.setIfInBounds_toArray, List.set_cons_zero, List.set_cons_succ])
         refine wpAnyH_take (i := 6) (oi := ⟨some 123, .move (.tmp 129), 35, "law.go:140", #[⟨5, .data⟩], none⟩) (v := ?_) rfl (by kernel_rfl) (by kernel_rfl) (by kernel_rfl) (fun _ _ _ h => h) (Or.inl ⟨by rfl, fun W hSw => ?_⟩) hHeld ?_
         rotate_left
         ·(try dsimp only at hSw); go_simp; (try with_reducible rfl)
         (try simp only [Act.put, List.setIfInBounds_toArray, List.set_cons_zero, List.set_cons_succ])
         refine wpAnyH_take (i := 7) (oi := ⟨some 130, .extract (.tmp 123) 0, 34, "law.go:140", #[⟨6, .data⟩], none⟩) (v := ?_) rfl (by kernel_rfl) (by kernel_rfl) (by kernel_rfl) (fun _ _ _ h => h) (Or.inl ⟨by rfl, fun W hSw => ?_⟩) hHeld ?_
         rotate_left
         ·(try dsimp only at hSw); go_simp; (try with_reducible rfl)
         (try simp only [Act.put, List.setIfInBounds_toArray, List.set_cons_zero, List.set_cons_succ])
         refine wpAnyH_take (i := 8) (oi := ⟨some 131, .extract (.tmp 123) 1, 31, "law.go:140", #[⟨6, .data⟩, ⟨9, .gcOnly .lateStores⟩], none⟩) (v := ?_) rfl (by kernel_rfl) (by kernel_rfl) (by kernel_rfl) (fun _ _ _ h => h) (Or.inl ⟨by rfl, fun W hSw => ?_⟩) hHeld ?_
         rotate_left
         ·(try dsimp only at hSw); go_simp; (try with_reducible rfl)
         (try simp only [Act.put, List.setIfInBounds_toArray, List.set_cons_zero, List.set_cons_succ])
         refine wpAnyH_take (i := 9) (oi := ⟨some 12, .assign (.tmp 130), 34, "law.go:140", #[⟨7, .data⟩, ⟨5, .chain⟩, ⟨0, .phase⟩, ⟨1, .phase⟩, ⟨2, .phase⟩, ⟨3, .phase⟩, ⟨4, .phase⟩, ⟨5, .phase⟩, ⟨6, .phase⟩, ⟨7, .phase⟩, ⟨8, .textOnly .lateStores⟩], none⟩) (v := ?_) rfl (by kernel_rfl) (by kernel_rfl) (by kernel_rfl) (fun _ _ _ h => h) (Or.inl ⟨by rfl, fun W hSw => ?_⟩) hHeld ?_
         rotate_left
         ·(try dsimp only at hSw); go_simp; (try with_reducible rfl)
         (try simp only [Act.put, List.setIfInBounds_toArray, List.set_cons_zero, List.set_cons_succ])
         refine wpAnyH_take (i := 10) (oi := ⟨some 13, .assign (.tmp 131), 31, "law.go:140", #[⟨8, .data⟩, ⟨9, .chain⟩, ⟨0, .phase⟩, ⟨1, .phase⟩, ⟨2, .phase⟩, ⟨3, .phase⟩, ⟨4, .phase⟩, ⟨5, .phase⟩, ⟨6, .phase⟩, ⟨7, .phase⟩, ⟨8, .phase⟩, ⟨9, .phase⟩], none⟩) (v := ?_) rfl (by kernel_rfl) (by kernel_rfl) (by kernel_rfl) (fun _ _ _ h => h) (Or.inl ⟨by rfl, fun W hSw => ?_⟩) hHeld ?_
         rotate_left
         ·(try dsimp only at hSw); go_simp; (try with_reducible rfl)
         (try simp only [Act.put, List.setIfInBounds_toArray, List.set_cons_zero, List.set_cons_succ])
         refine wpAnyH_done (by kernel_rfl) ?_ _
         refine NoPanic.normal ?_
         go_wp2_with fail
         refine ⟨⟨j + 1, hlt, rfl, fr_call hbr hHeld.2.2.2⟩, ?_⟩
         simp [intOf]; omega
        ·obtain ⟨i, hi⟩ : ∃ i, j = i + 1 := ⟨j - 1, by omega⟩
         have hgt2 : decide (0 < (j : Int)) = true := decide_eq_true (by omega)
         have hgt3 : decide (0 < j) = true := decide_eq_true (by omega)
         have hil : i < ps.length := by omega
         obtain ⟨ad', A2, c2, e2, _, hd, hry⟩ := hLr.at_ hil
         cases e2
         have hsn := hao.out.soon i (by rw [← hi]; exact hjl)
         have hlp2 := hao.out.len _ (List.getElem_mem hil)
         have hsn2 := Lib.hid (show soonB ps[i] ps[j] = true by rw [← hsn]; congr 2)
         have hwi : IntKind.i64.wrap ((j : Int) - 1) = (i : Int) := by rw [show (j : Int) - 1 = (i : Int) by omega]; exact IntWalk.i64_in _ (by omega)
         have k1 : 0 ≤ (i : Int) := by omega
         have k2 : (i : Int) < (q : Int) := by omega
         have habi : (ad.add i).block < wr.heap.size := by rw [block_of_add]; exact hab
         clear hj0 hi hsn
         generalize ps[j] = p at *
         generalize ps[i] = p2 at *
         go_upto_region 15 with (fail)
         refine wp_region_noPanic ?_
         have hkS := fun W (hb : Below wr.heap.size wr W) => (⟨(hb.cell (p := ⟨w.heap.size, 0, none⟩) hxl).trans hz0, (hb.cell (p := ⟨w.heap.size, 1, none⟩) hxl).trans hz1, (hb.cell (p := ad.add j) hab').trans hc, (hb.cell (p := ad.add i) habi).trans hd, hb⟩ : W.cell? ⟨w.heap.size, 0, none⟩ = some (.slice A ws.length c) ∧ W.cell? ⟨w.heap.size, 1, none⟩ = some (.slice N ns.length d) ∧ W.cell? (ad.add j) = some (.slice A1 p.length c1) ∧ W.cell? (ad.add i) = some (.slice A2 p2.length c2) ∧ Below wr.heap.size wr W)
         refine wp_region_held_drew (S := fun W => W.cell? ⟨w.heap.size, 0, none⟩ = some (.slice A ws.length c) ∧ W.cell? ⟨w.heap.size, 1, none⟩ = some (.slice N ns.length d) ∧ W.cell? (ad.add j) = some (.slice A1 p.length c1) ∧ W.cell? (ad.add i) = some (.slice A2 p2.length c2) ∧ Below wr.heap.size wr W) (by kernel_rfl) (hkS _ (fr_drew (fr_refl _))) (fun hHeld => ?_)
         clear hcX
         -- the region, step by step
         refine wpAnyH_take (i := 0) (oi := ⟨some 99, .load 25 (.tmp 2), 25, "law.go:137", #[], none⟩) (v := ?_) rfl (by kernel_rfl) (by kernel_rfl) (by kernel_rfl) (fun _ _ _ h => h) (Or.inl ⟨by rfl, fun W hSw => ?_⟩) hHeld ?_
         rotate_left
         ·(try dsimp only at hSw); go_simp; (try with_reducible rfl)
         (try simp only [Act.put, List.setIfInBounds_toArray, List.set_cons_zero, List.set_cons_succ])
         refine wpAnyH_take (i := 1) (oi := ⟨some 100, .move (.tmp 7), 30, "law.go:137", #[], none⟩) (v := ?_) rfl (by kernel_rfl) (by kernel_rfl) (by kernel_rfl) (fun _ _ _ h => h) (Or.inl ⟨by rfl, fun W hSw => ?_⟩) hHeld ?_
         rotate_left
         ·(try dsimp only at hSw); go_simp; (try with_reducible rfl)
         (try simp only [Act.put, List.setIfInBounds_toArray, List.set_cons_zero, List.set_cons_succ])
         refine wpAnyH_take (i := 2) (oi := ⟨some 101, .move (.tmp 11), 3, "law.go:137", #[], none⟩) (v := ?_) rfl (by kernel_rfl) (by kernel_rfl) (by kernel_rfl) (fun _ _ _ h => h) (Or.inl ⟨by rfl, fun W hSw => ?_⟩) hHeld ?_
         rotate_left
         ·(try dsimp only at hSw); go_simp; (try with_reducible rfl)
         (try simp only [Act.put, List.setIfInBounds_toArray, List.set_cons_zero, List.set_cons_succ])
         refine wpAnyH_take (i := 3) (oi := ⟨some 102, .indexAddr 30 (.tmp 100) (.tmp 101), 0, "law.go:137", #[⟨1, .data⟩, ⟨2, .data⟩], none⟩) (v := ?_) rfl (by kernel_rfl) (by kernel_rfl) (by kernel_rfl) (fun _ _ _ h => h) (Or.inl ⟨by rfl, fun W hSw => ?_⟩) hHeld ?_
         rotate_left
         ·(try dsimp only at hSw); go_simp; (try with_reducible rfl)
         (try simp only [Act.put, List.setIfInBounds_toArray, List.set_cons_zero, List.set_cons_succ])
         refine wpAnyH_take (i := 4) (oi := ⟨some 103, .load 26 (.tmp 102), 26, "law.go:137", #[⟨3, .data⟩], none⟩) (v := ?_) rfl (by kernel_rfl) (by kernel_rfl) (by kernel_rfl) (fun _ _ _ h => h) (Or.inl ⟨by rfl, fun W hSw => ?_⟩) hHeld ?_
         rotate_left
         ·(try dsimp only at hSw); go_simp; (try with_reducible rfl)
         (try simp only [Act.put, List.setIfInBounds_toArray, List.set_cons_zero, List.set_cons_succ])
         refine wpAnyH_ready (rs := [5]) (by kernel_rfl) (by simp) ?_
         refine AllReadyH.cons (o := ⟨some 104, .call { callee := .value (.func 14), args := #[.tmp 99, .tmp 103], argTypes := #[25, 26] }, 4, "law.go:137", #[⟨0, .data⟩, ⟨4, .data⟩], none⟩) rfl (fun K hK => ?_) AllReadyH.nil
         go_simp
         refine (Own8_any A N A1 ws.length ns.length c d p.length c1 ws p _ (hfw.ws.keep hHeld.2.2.2.2) (hrx.1.keep hHeld.2.2.2.2) rfl (by omega) rfl (by omega) true (by simp [hfp.out])).mono ?_
         rintro e' WY ⟨rfl, hbA⟩
         refine hK.out _ _ (hkS _ (fr_call hHeld.2.2.2.2 hbA)) (fun hHeld => ?_)
         clear hK K
         (try simp only [Act.put, List.setIfInBounds_toArray, List.set_cons_zero, List.set_cons_succ])
         refine wpAnyH_take (i := 6) (oi := ⟨some 105, .unOp .not 4 (.tmp 104), 4, "law.go:137", #[⟨5, .data⟩], none⟩) (v := ?_) rfl (by kernel_rfl) (by kernel_rfl) (by kernel_rfl) (fun _ _ _ h => h) (Or.inl ⟨by rfl, fun W hSw => ?_⟩) hHeld ?_
         rotate_left
         ·(try dsimp only at hSw); go_simp; (try with_reducible rfl)
         (try simp only [Act.put, List.setIfInBounds_toArray, List.set_cons_zero, List.set_cons_succ])
         refine wpAnyH_take (i := 7) (oi := ⟨some 106, .move (.tmp 105), 4, "law.go:137", #[⟨6, .data⟩, ⟨5, .chain⟩], none⟩) (v := ?_) rfl (by kernel_rfl) (by kernel_rfl) (by kernel_rfl) (fun _ _ _ h => h) (Or.inl ⟨by rfl, fun W hSw => ?_⟩) hHeld ?_
         rotate_left
         ·(try dsimp only at hSw); go_simp; (try with_reducible rfl)
         (try simp only [Act.put, List.setIfInBounds_toArray, List.set_cons_zero, List.set_cons_succ])
         refine wpAnyH_take (i := 8) (oi := ⟨some 107, .move (.tmp 11), 3, "law.go:137", #[⟨7, .guard⟩], some (7, false)⟩) (v := ?_) rfl (by kernel_rfl) (by kernel_rfl) (by kernel_rfl) (fun _ _ _ h => h) (Or.inl ⟨by rfl, fun W hSw => ?_⟩) hHeld ?_
         rotate_left
         ·(try dsimp only at hSw); go_simp; (try with_reducible rfl)
         (try simp only [Act.put, List.setIfInBounds_toArray, List.set_cons_zero, List.set_cons_succ])
         refine wpAnyH_take (i := 9) (oi := ⟨some 108, .binOp .gtr 3 (.tmp 107) (.const (.int .i64 0)) 3, 4, "law.go:137", #[⟨8, .data⟩, ⟨7, .guard⟩], some (7, false)⟩) (v := ?_) rfl (by kernel_rfl) (by kernel_rfl) (by kernel_rfl) (fun _ _ _ h => h) (Or.inl ⟨by rfl, fun W hSw => ?_⟩) hHeld ?_
         rotate_left
         ·(try dsimp only at hSw); go_simp; (try with_reducible rfl)
         (try simp only [Act.put, List.setIfInBounds_toArray, List.set_cons_zero, List.set_cons_succ])
         refine wpAnyH_take (i := 10) (oi := ⟨some 109, .move (.tmp 108), 4, "law.go:137", #[⟨9, .data⟩, ⟨7, .chain⟩, ⟨7, .guard⟩], some (7, false)⟩) (v := ?_) rfl (by kernel_rfl) (by kernel_rfl) (by kernel_rfl) (fun _ _ _ h => h) (Or.inl ⟨by rfl, fun W hSw => ?_⟩) hHeld ?_
         rotate_left
         ·(try dsimp only at hSw); go_simp; (try with_reducible rfl)
         (try simp only [Act.put, List.setIfInBounds_toArray, List.set_cons_zero, List.set_cons_succ])
         refine wpAnyH_take (i := 11) (oi := ⟨some 110, .move (.tmp 7), 30, "law.go:137", #[⟨10, .guard⟩], some (10, true)⟩) (v := ?_) rfl (by kernel_rfl) (by kernel_rfl) (by kernel_rfl) (fun _ _ _ h => h) (Or.inl ⟨by rfl, fun W hSw => ?_⟩) hHeld ?_
         rotate_left
         ·(try dsimp only at hSw); go_simp; (try with_reducible rfl)
         (try simp only [Act.put, List.setIfInBounds_toArray, List.set_cons_zero, List.set_cons_succ])
         refine wpAnyH_take (i := 12) (oi := ⟨some 111, .move (.tmp 11), 3, "law.go:137", #[⟨10, .guard⟩], some (10, true)⟩) (v := ?_) rfl (by kernel_rfl) (by kernel_rfl) (by kernel_rfl) (fun _ _ _ h => h) (Or.inl ⟨by rfl, fun W hSw => ?_⟩) hHeld ?_
         rotate_left
         ·(try dsimp only at hSw); go_simp; (try with_reducible rfl)
         (try simp only [Act.put, List.setIfInBounds_toArray, List.set_cons_zero, List.set_cons_succ])
         refine wpAnyH_take (i := 13) (oi := ⟨some 112, .binOp .sub 3 (.tmp 111) (.const (.int .i64 1)) 3, 3, "law.go:137", #[⟨12, .data⟩, ⟨10, .guard⟩], some (10, true)⟩) (v := ?_) rfl (by kernel_rfl) (by kernel_rfl) (by kernel_rfl) (fun _ _ _ h => h) (Or.inl ⟨by rfl, fun W hSw => ?_⟩) hHeld ?_
         rotate_left
         ·(try dsimp only at hSw); go_simp; (try with_reducible rfl)
         (try simp only [Act.put, List.setIfInBounds_toArray, List.set_cons_zero, List.set_cons_succ])
         refine wpAnyH_take (i := 14) (oi := ⟨some 113, .indexAddr 30 (.tmp 110) (.tmp 112), 0, "law.go:137", #[⟨11, .data⟩, ⟨13, .data⟩, ⟨10, .guard⟩], some (10, true)⟩) (v := ?_) rfl (by kernel_rfl) (by kernel_rfl) (by kernel_rfl) (fun _ _ _ h => h) (Or.inl ⟨by rfl, fun W hSw => ?_⟩) hHeld ?_
         rotate_left
         ·(try dsimp only at hSw); go_simp; (try with_reducible rfl)
         (try simp only [Act.put, List.setIfInBounds_toArray, List.set_cons_zero, List.set_cons_succ])
         refine wpAnyH_take (i := 15) (oi := ⟨some 114, .load 26 (.tmp 113), 26, "law.go:137", #[⟨14, .data⟩, ⟨10, .guard⟩], some (10, true)⟩) (v := ?_) rfl (by kernel_rfl) (by kernel_rfl) (by kernel_rfl) (fun _ _ _ h => h) (Or.inl ⟨by rfl, fun W hSw => ?_⟩) hHeld ?_
         rotate_left
         ·(try dsimp only at hSw); go_simp; (try with_reducible rfl)
         (try simp only [Act.put, List.setIfInBounds_toArray, List.set_cons_zero, List.set_cons_succ])
         refine wpAnyH_take (i := 16) (oi := ⟨some 115, .move (.tmp 7), 30, "law.go:137", #[⟨10, .guard⟩], some (10, true)⟩) (v := ?_) rfl (by kernel_rfl) (by kernel_rfl) (by kernel_rfl) (fun _ _ _ h => h) (Or.inl ⟨by rfl, fun W hSw => ?_⟩) hHeld ?_
         rotate_left
         ·(try dsimp only at hSw); go_simp; (try with_reducible rfl)
         (try simp only [Act.put, List.setIfInBounds_toArray, List.set_cons_zero, List.set_cons_succ])
         refine wpAnyH_take (i := 17) (oi := ⟨some 116, .move (.tmp 11), 3, "law.go:137", #[⟨10, .guard⟩], some (10, true)⟩) (v := ?_) rfl (by kernel_rfl) (by kernel_rfl) (by kernel_rfl) (fun _ _ _ h => h) (Or.inl ⟨by rfl, fun W hSw => ?_⟩) hHeld ?_
         rotate_left
         ·(try dsimp only at hSw); go_simp; (try with_reducible rfl)
         (try simp only [Act.put, List.setIfInBounds_toArray, List.set_cons_zero, List.set_cons_succ])
         refine wpAnyH_take (i := 18) (oi := ⟨some 117, .indexAddr 30 (.tmp 115) (.tmp 116), 0, "law.go:137", #[⟨16, .data⟩, ⟨17, .data⟩, ⟨10, .guard⟩], some (10, true)⟩) (v := ?_) rfl (by kernel_rfl) (by kernel_rfl) (by kernel_rfl) (fun _ _ _ h => h) (Or.inl ⟨by rfl, fun W hSw => ?_⟩) hHeld ?_
         rotate_left
         ·(try dsimp only at hSw); go_simp; (try with_reducible rfl)
         (try simp only [Act.put, List.setIfInBounds_toArray, List.set_cons_zero, List.set_cons_succ])
         refine wpAnyH_take (i := 19) (oi := ⟨some 118, .load 26 (.tmp 117), 26, "law.go:137", #[⟨18, .data⟩, ⟨10, .guard⟩], some (10, true)⟩) (v := ?_) rfl (by kernel_rfl) (by kernel_rfl) (by kernel_rfl) (fun _ _ _ h => h) (Or.inl ⟨by rfl, fun W hSw => ?_⟩) hHeld ?_
         rotate_left
         ·(try dsimp only at hSw); go_simp; (try with_reducible rfl)
         (try simp only [Act.put, List.setIfInBounds_toArray, List.set_cons_zero, List.set_cons_succ])
         refine wpAnyH_ready (rs := [20]) (by kernel_rfl) (by simp) ?_
         refine AllReadyH.cons (o := ⟨some 119, .call { callee := .value (.func 29), args := #[.tmp 114, .tmp 118], argTypes := #[26, 26] }, 4, "law.go:137", #[⟨15, .data⟩, ⟨19, .data⟩, ⟨10, .chain⟩, ⟨10, .guard⟩], some (10, true)⟩) rfl (fun K hK => ?_) AllReadyH.nil
         go_simp
         refine (soon_any A2 A1 p2.length p.length c2 c1 p2 p _ (hry.1.keep hHeld.2.2.2.2) (hrx.1.keep hHeld.2.2.2.2) rfl rfl (by omega) (by omega)).mono ?_
         rw [hsn2.out]
         rintro e' WZ ⟨rfl, hbB⟩
         refine hK.out _ _ (hkS _ (fr_call hHeld.2.2.2.2 hbB)) (fun hHeld => ?_)
         clear hK K
         (try simp only [Act.put, List.setIfInBounds_toArray, List.set_cons_zero, List.set_cons_succ])
         refine wpAnyH_take (i := 21) (oi := ⟨some 120, .unOp .not 4 (.tmp 119), 4, "law.go:137", #[⟨20, .data⟩, ⟨10, .guard⟩], some (10, true)⟩) (v := ?_) rfl (by kernel_rfl) (by kernel_rfl) (by kernel_rfl) (fun _ _ _ h => h) (Or.inl ⟨by rfl, fun W hSw => ?_⟩) hHeld ?_
         rotate_left
         ·(try dsimp only at hSw); go_simp; (try with_reducible rfl)
         (try simp only [Act.put, List.setIfInBounds_toArray, List.set_cons_zero, List.set_cons_succ])
         refine wpAnyH_take (i := 22) (oi := ⟨some 121, .pick (.tmp 109) (.tmp 120) (.const (.bool false)), 4, "law.go:137", #[⟨10, .data⟩, ⟨21, .data⟩, ⟨7, .guard⟩], some (7, false)⟩) (v := ?_) rfl (by kernel_rfl) (by kernel_rfl) (by kernel_rfl) (fun _ _ _ h => h) (Or.inl ⟨by rfl, fun W hSw => ?_⟩) hHeld ?_
         rotate_left
         ·(try dsimp only at hSw); go_simp; (try with_reducible rfl)
         (try simp only [Act.put, List.setIfInBounds_toArray, List.set_cons_zero, List.set_cons_succ])
         refine wpAnyH_take (i := 23) (oi := ⟨some 122, .pick (.tmp 106) (.const (.bool true)) (.tmp 121), 4, "law.go:137", #[⟨7, .data⟩, ⟨22, .data⟩], none⟩) (v := ?_) rfl (by kernel_rfl) (by kernel_rfl) (by kernel_rfl) (fun _ _ _ h => h) (Or.inl ⟨by rfl, fun W hSw => ?_⟩) hHeld ?_
         rotate_left
         ·(try dsimp only at hSw); go_simp; (try with_reducible rfl)
         (try simp only [Act.put, List.setIfInBounds_toArray, List.set_cons_zero, List.set_cons_succ])
         refine wpAnyH_done (by kernel_rfl) ?_ _
         refine NoPanic.normal ?_
         clear hry hd k1 k2 hwi
         replace hbr := fr_call hbr hHeld.2.2.2.2
         have hX2 := hXr.keep hHeld.2.2.2.2
         have hc2 := hHeld.2.2.1
         have hab2 := Nat.lt_of_lt_of_le hab hHeld.2.2.2.2.size
         replace hrx := hrx.1.keep hHeld.2.2.2.2
         replace hfw := hfw.keep hHeld.2.2.2.2
         clear hHeld hxl hXr hc hab hLr hkS hab' hz0 hz1
         have hcX := fun j => hX2.cell j
         have hxl := hX2.lt
         go_upto_region 17 with (fail)
         have hz0 : WZ.cell? ⟨w.heap.size, 0, none⟩ = some (.slice A ws.length c) := hcX 0
         have hz1 : WZ.cell? ⟨w.heap.size, 1, none⟩ = some (.slice N ns.length d) := hcX 1
         have hab' : (ad.add j).block < WZ.heap.size := by rw [block_of_add]; exact hab2
         have hkS := fun W (hb : Below WZ.heap.size WZ W) => (⟨(hb.cell (p := ⟨w.heap.size, 0, none⟩) hxl).trans hz0, (hb.cell (p := ⟨w.heap.size, 1, none⟩) hxl).trans hz1, (hb.cell (p := ad.add j) hab').trans hc2, hb⟩ : W.cell? ⟨w.heap.size, 0, none⟩ = some (.slice A ws.length c) ∧ W.cell? ⟨w.heap.size, 1, none⟩ = some (.slice N ns.length d) ∧ W.cell? (ad.add j) = some (.slice A1 p.length c1) ∧ Below WZ.heap.size WZ W)
         refine wp_region_noPanic ?_
         refine wp_region_held_drew (S := fun W => W.cell? ⟨w.heap.size, 0, none⟩ = some (.slice A ws.length c) ∧ W.cell? ⟨w.heap.size, 1, none⟩ = some (.slice N ns.length d) ∧ W.cell? (ad.add j) = some (.slice A1 p.length c1) ∧ Below WZ.heap.size WZ W) (by kernel_rfl) (hkS _ (fr_drew (fr_refl _))) (fun hHeld => ?_)
         clear hcX
         -- the region, step by step
         refine wpAnyH_take (i := 0) (oi := ⟨some 124, .load 25 (.tmp 2), 25, "law.go:140", #[], none⟩) (v := ?_) rfl (by kernel_rfl) (by kernel_rfl) (by kernel_rfl) (fun _ _ _ h => h) (Or.inl ⟨by rfl, fun W hSw => ?_⟩) hHeld ?_
         rotate_left
         ·(try dsimp only at hSw); go_simp; (try with_reducible rfl)
         (try simp only [Act.put, List.setIfInBounds_toArray, List.set_cons_zero, List.set_cons_succ])
         refine wpAnyH_take (i := 1) (oi := ⟨some 125, .move (.tmp 7), 30, "law.go:140", #[], none⟩) (v := ?_) rfl (by kernel_rfl) (by kernel_rfl) (by kernel_rfl) (fun _ _ _ h => h) (Or.inl ⟨by rfl, fun W hSw => ?_⟩) hHeld ?_
         rotate_left
         ·(try dsimp only at hSw); go_simp; (try with_reducible rfl)
         (try simp only [Act.put, List.setIfInBounds_toArray, List.set_cons_zero, List.set_cons_succ])
         refine wpAnyH_take (i := 2) (oi := ⟨some 126, .move (.tmp 11), 3, "law.go:140", #[], none⟩) (v := ?_) rfl (by kernel_rfl) (by kernel_rfl) (by kernel_rfl) (fun _ _ _ h => h) (Or.inl ⟨by rfl, fun W hSw => ?_⟩) hHeld ?_
         rotate_left
         ·(try dsimp only at hSw); go_simp; (try with_reducible rfl)
         (try simp only [Act.put, List.setIfInBounds_toArray, List.set_cons_zero, List.set_cons_succ])
         refine wpAnyH_take (i := 3) (oi := ⟨some 127, .indexAddr 30 (.tmp 125) (.tmp 126), 0, "law.go:140", #[⟨1, .data⟩, ⟨2, .data⟩], none⟩) (v := ?_) rfl (by kernel_rfl) (by kernel_rfl) (by kernel_rfl) (fun _ _ _ h => h) (Or.inl ⟨by rfl, fun W hSw => ?_⟩) hHeld ?_
         rotate_left
         ·(try dsimp only at hSw); go_simp; (try with_reducible rfl)
         (try simp only [Act.put, List.setIfInBounds_toArray, List.set_cons_zero, List.set_cons_succ])
         refine wpAnyH_take (i := 4) (oi := ⟨some 128, .load 26 (.tmp 127), 26, "law.go:140", #[⟨3, .data⟩], none⟩) (v := ?_) rfl (by kernel_rfl) (by kernel_rfl) (by kernel_rfl) (fun _ _ _ h => h) (Or.inl ⟨by rfl, fun W hSw => ?_⟩) hHeld ?_
         rotate_left
         ·(try dsimp only at hSw); go_simp; (try with_reducible rfl)
         (try simp only [Act.put, List.setIfInBounds_toArray, List.set_cons_zero, List.set_cons_succ])
         refine wpAnyH_ready (rs := [5]) (by kernel_rfl) (by simp) ?_
         refine AllReadyH.cons (o := ⟨some 129, .call { callee := .value (.func 17), args := #[.tmp 124, .tmp 128], argTypes := #[25, 26] }, 35, "law.go:140", #[⟨0, .data⟩, ⟨4, .data⟩], none⟩) rfl (fun K hK => ?_) AllReadyH.nil
         go_simp
         refine (Breaks_own A N A1 c d c1 p.length ws ns p _ (hfw.keep hHeld.2.2.2) hv (hrx.keep hHeld.2.2.2) rfl hfp.out).mono ?_
         rw [hnp.out]
         rintro e' w5 ⟨B5, b5, rfl, _, hb5⟩
         refine hK.out _ _ (hkS _ (fr_call hHeld.2.2.2 hb5)) (fun hHeld => ?_)
         clear hK K
         (try simp only [Act.put, List.setIfInBounds_toArray, List.set_cons_zero, List.set_cons_succ])
         refine wpAnyH_take (i := 6) (oi := ⟨some 123, .move (.tmp 129), 35, "law.go:140", #[⟨5, .data⟩], none⟩) (v := ?_) rfl (by kernel_rfl) (by kernel_rfl) (by kernel_rfl) (fun _ _ _ h => h) (Or.inl ⟨by rfl, fun W hSw => ?_⟩) hHeld ?_
         rotate_left
         ·(try dsimp only at hSw); go_simp; (try with_reducible rfl)
         (try simp only [Act.put, List.setIfInBounds_toArray, List.set_cons_zero, List.set_cons_succ])
         refine wpAnyH_take (i := 7) (oi := ⟨some 130, .extract (.tmp 123) 0, 34, "law.go:140", #[⟨6, .data⟩], none⟩) (v := ?_) rfl (by kernel_rfl) (by kernel_rfl) (by kernel_rfl) (fun _ _ _ h => h) (Or.inl ⟨by rfl, fun W hSw => ?_⟩) hHeld ?_
         rotate_left
         ·(try dsimp only at hSw); go_simp; (try with_reducible rfl)
         (try simp only [Act.put, List.setIfInBounds_toArray, List.set_cons_zero, List.set_cons_succ])
         refine wpAnyH_take (i := 8) (oi := ⟨some 131, .extract (.tmp 123) 1, 31, "law.go:140", #[⟨6, .data⟩, ⟨9, .gcOnly .lateStores⟩], none⟩) (v := ?_) rfl (by kernel_rfl) (by kernel_rfl) (by kernel_rfl) (fun _ _ _ h => h) (Or.inl ⟨by rfl, fun W hSw => ?_⟩) hHeld ?_
         rotate_left
         ·(try dsimp only at hSw); go_simp; (try with_reducible rfl)
         (try simp only [Act.put, List.setIfInBounds_toArray, List.set_cons_zero, List.set_cons_succ])
         refine wpAnyH_take (i := 9) (oi := ⟨some 12, .assign (.tmp 130), 34, "law.go:140", #[⟨7, .data⟩, ⟨5, .chain⟩, ⟨0, .phase⟩, ⟨1, .phase⟩, ⟨2, .phase⟩, ⟨3, .phase⟩, ⟨4, .phase⟩, ⟨5, .phase⟩, ⟨6, .phase⟩, ⟨7, .phase⟩, ⟨8, .textOnly .lateStores⟩], none⟩) (v := ?_) rfl (by kernel_rfl) (by kernel_rfl) (by kernel_rfl) (fun _ _ _ h => h) (Or.inl ⟨by rfl, fun W hSw => ?_⟩) hHeld ?_
         rotate_left
         ·(try dsimp only at hSw); go_simp; (try with_reducible rfl)
         (try simp only [Act.put, List.setIfInBounds_toArray, List.set_cons_zero, List.set_cons_succ])
         refine wpAnyH_take (i := 10) (oi := ⟨some 13, .assign (.tmp 131), 31, "law.go:140", #[⟨8, .data⟩, ⟨9, .chain⟩, ⟨0, .phase⟩, ⟨1, .phase⟩, ⟨2, .phase⟩, ⟨3, .phase⟩, ⟨4, .phase⟩, ⟨5, .phase⟩, ⟨6, .phase⟩, ⟨7, .phase⟩, ⟨8, .phase⟩, ⟨9, .phase⟩], none⟩) (v := ?_) rfl (by kernel_rfl) (by kernel_rfl) (by kernel_rfl) (fun _ _ _ h => h) (Or.inl ⟨by rfl, fun W hSw => ?_⟩) hHeld ?_
         rotate_left
         ·(try dsimp only at hSw); go_simp; (try with_reducible rfl)
         (try simp only [Act.put, List.setIfInBounds_toArray, List.set_cons_zero, List.set_cons_succ])
         refine wpAnyH_done (by kernel_rfl) ?_ _
         refine NoPanic.normal ?_
         go_wp2_with fail
         refine ⟨⟨j + 1, hlt, rfl, fr_call hbr hHeld.2.2.2⟩, ?_⟩
         simp [intOf]; omega
       ·have hlt' : ¬ ((j : Int) < (q : Int)) := by omega
        replace hfr := fr_call hfr hbr
        clear hL hf hX
        go_wp2_with fail
        refine (known_is _ (hT.keep hfr) (hM.keep hfr)).mono ?_
        rintro e' w1 ⟨rfl, hb⟩
        replace hfr := fr_call hfr hb
        go_wp2_with fail
        go_ret
        exact ⟨rfl, hfr⟩
   ·go_enter Tryz.func5, Tryz.ntmps5
    go_wp2_with fail
    refine (short_any A N ws.length ns.length c d _ _ hsb).mono ?_
    rintro e' w1 ⟨rfl, hb⟩
    replace hfr := fr_call hfr hb
    replace hf := hf.keep hb
    replace hX := hX.keep hb
    replace hx := hx.keep hb
    clear hb hcX
    have hcX := fun j => hX.cell j
    have hxl := hX.lt
    go_wp2_with fail
    refine (Find8_any A N ws.length ns.length c d ws ns _ hf rfl rfl (by omega) (by omega) _ hfb).mono ?_
    rintro e' w1 ⟨rfl, hb⟩
    replace hfr := fr_call hfr hb
    replace hf := hf.keep hb
    replace hX := hX.keep hb
    replace hx := hx.keep hb
    clear hb hcX
    have hcX := fun j => hX.cell j
    have hxl := hX.lt
    go_wp2_with fail
    refine (Own8_any A N C ws.length ns.length c d x.length k ws x _ hf.ws hx rfl (by omega) rfl (by omega) false (by simp [hfit])).mono ?_
    rintro e' w1 ⟨rfl, hb⟩
    replace hfr := fr_call hfr hb
    replace hf := hf.keep hb
    replace hX := hX.keep hb
    replace hx := hx.keep hb
    clear hb hcX
    have hcX := fun j => hX.cell j
    have hxl := hX.lt
    go_wp2_with fail
    refine (known_is _ (hT.keep hfr) (hM.keep hfr)).mono ?_
    rintro e' w1 ⟨rfl, hb⟩
    replace hfr := fr_call hfr hb
    go_wp2_with fail
    go_ret
    exact ⟨rfl, hfr⟩
  ·have hk5' : 5 < (x.length : Int) := by omega
   go_enter Tryz.func5, Tryz.ntmps5
   go_wp2_with fail
   refine (short_any A N ws.length ns.length c d _ _ hsb).mono ?_
   rintro e' w1 ⟨rfl, hb⟩
   replace hfr := fr_call hfr hb
   replace hf := hf.keep hb
   replace hX := hX.keep hb
   replace hx := hx.keep hb
   clear hb hcX
   have hcX := fun j => hX.cell j
   have hxl := hX.lt
   go_wp2_with fail
   refine (known_is _ (hT.keep hfr) (hM.keep hfr)).mono ?_
   rintro e' w1 ⟨rfl, hb⟩
   replace hfr := fr_call hfr hb
   go_wp2_with fail
   go_ret
   exact ⟨rfl, hfr⟩
 ·have hsb : (decide ((ws.length : Int) ≤ 8) && decide ((ns.length : Int) ≤ 11)) = false := by
   cases h1 : decide ((ws.length : Int) ≤ 8)
   ·rfl
   ·simp at h1 ⊢; omega
  go_enter Tryz.func5, Tryz.ntmps5
  go_wp2_with fail
  refine (short_any A N ws.length ns.length c d _ _ hsb).mono ?_
  rintro e' w1 ⟨rfl, hb⟩
  replace hfr := fr_call hfr hb
  replace hf := hf.keep hb
  replace hX := hX.keep hb
  replace hx := hx.keep hb
  clear hb hcX
  have hcX := fun j => hX.cell j
  have hxl := hX.lt
  go_wp2_with fail
  refine (known_is _ (hT.keep hfr) (hM.keep hfr)).mono ?_
  rintro e' w1 ⟨rfl, hb⟩
  replace hfr := fr_call hfr hb
  go_wp2_with fail
  go_ret
  exact ⟨rfl, hfr⟩
end Go.Proofs.YthenlopnlaiodaaGreatDoor
end

section
namespace Go.Proofs.YthenlopnlaiodaaGreatDoor.cGuessAll
open Go.ChangeShapes Go.WideShapes Go.ChangeAt Go.WideMaps Go.WideElems Go.RowKit
set_option maxRecDepth 100000

theorem lifted (os : Os) (started : os.Started) (H : Type) (enc : TypeId × Value → H) :
  ReturnsInHanded {} Tryz.checked os 5 .any (fun w args => (Rows.guessAllSpec.pre enc Tryz.prog Tryz.f5 [] false w args ∧ laidMetH Tryz.prog laidT w) ∧ sizedMet enc Tryz.prog Tryz.f5 (OpenSpec.ofChange Rows.guessAllSpec) false w args)
   (Rows.guessAllSpec.post enc Tryz.prog Tryz.f5 false true false false) := by
 refine change_and_shaped (C := Tryz.checked) (X := fun w _ => laidMetH Tryz.prog laidT w) (fun _ _ _ hh h => h.of_heap hh) own_none started (by kernel_rfl) Tryz.func5
  (ChangeSpec.witness_shaped (enc := enc) (C := Tryz.checked) (os := os) (X := fun w _ => laidMetH Tryz.prog laidT w) false (doorT os) #[.agg #[.slice none 0 0, .slice none 0 0], .slice none 0 0] 8 rfl (World.shaped_of_RefB (by kernel_rfl) (by kernel_rfl)) (by kernel_rfl) (by kernel_rfl) (by kernel_rfl) (doorT_met os _)) ?_
 intro W base args ds gs before hval0 hW hL hsh
 have hval : ∀ (j : Nat) t v, Tryz.f5.params[j]? = some t → args[j]? = some v → Value.okWide Tryz.prog W .any base t v := hval0
 have hW' := hW
 obtain ⟨p, q, hA0, _, _, _, _⟩ := hW
 have hA : DataW.TrodAll enc Tryz.prog W 0 (fun _ => true) true Tryz.f5.params.toList args.toList ds p := hA0
 rw [Tryz.params5] at hA hval
 clear hA0 hval0
 obtain ⟨v0, vs0, d0, ds0, p0, q0, hargs, rfl, rfl, h0, r0⟩ := trodAll_cons hA
 obtain ⟨v1, vs1, d1, ds1, p1, q1, rfl, rfl, rfl, h1, r1⟩ := trodAll_cons r0
 obtain ⟨rfl, rfl, rfl⟩ := trodAll_nil r1
 obtain rfl : args = #[v0, v1] := by cases args; simp_all
 obtain ⟨A0, N0, ws0, ns0, c0, m0, rfl, hf0, hn0, hm0⟩ := find_open (hval 0 25 v0 rfl rfl) h0
 obtain ⟨A1, x1, c1, rfl, hf1, hn1⟩ := train_open (hval 1 26 v1 rfl rfl) h1
 refine (all_true A0 N0 A1 c0 m0 c1 ws0 ns0 x1 W hf0 hf1 hn0 hm0 hn1 (tabT_of_laid hL) (maxP_of hsh)).mono fun e W' ⟨he, hb⟩ => ?_
 subst he
 exact ⟨_, rfl, law_post (by kernel_rfl) (by kernel_rfl) rfl hW' rfl rfl rfl hb⟩

theorem row_holds : Rows.GuessAllSaid :=
 OpenClaim.holds_of_wide 5 Tryz.f5 rfl rfl rfl rfl rfl rfl rfl ⟨rfl, rfl, rfl, rfl, rfl⟩ rfl rfl rfl rfl rfl (by kernel_rfl) Tryz.func5 (by kernel_rfl)
  (of_decide_eq_true (by kernel_rfl)) (by unfold Func.isWrapper; rw [if_neg (of_decide_eq_false (by kernel_rfl))]; exact ⟨rfl, rfl⟩)
  (fun os started H enc _ => lifted os started H enc)

theorem card_holds : Rows.GuessAllCardSaid :=
 Claim7.holds_tied_plain_at .later [] [.data, .data, .data, .data, .pinned] true _ _ row_holds (fun _ h => by cases h) (by kernel_rfl) (fun _ h => by cases h) guessAll_row_tie rfl ⟨rfl, rfl⟩ (by kernel_rfl) rfl
  (fun f fn hf hfn => by
   obtain rfl : f = 5 := Option.some.inj ((show Tryz.prog.funcNamed "tellurion/tellurionlaw08.GuessAll" = some 5 by kernel_rfl).symm.trans hf) |>.symm
   obtain rfl : fn = Tryz.f5 := (Option.some.inj (Tryz.func5.symm.trans hfn)).symm
   exact ⟨by kernel_rfl, fun j t ht => by
    rw [Tryz.params5] at ht
    have hm : t ∈ [25, 26] := by simpa using Array.mem_of_getElem? ht
    have hall : ([25, 26].all fun u => !Tryz.prog.wantsStandIn u) = true := by kernel_rfl
    exact (show Tryz.prog.wantsStandIn t = false by simpa using List.all_eq_true.1 hall t hm)⟩)
  (by kernel_rfl)
end Go.Proofs.YthenlopnlaiodaaGreatDoor.cGuessAll
end
