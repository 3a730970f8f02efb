/- The law GuessFewest, walked (by gen_fewest.py). The statement of GuessFewest: for every input the law returns true, and the input reads behind the call as it did; the listed table is tied to the program's text. No condition of its own. -/
import Derived.Test.YthenlopnlaiodaaGreatDoorMG26
import Derived.Test.YthenlopnlaiodaaGreatDoorMG13
import Derived.Test.YthenlopnlaiodaaGreatDoorMG20
import Derived.Test.YthenlopnlaiodaaGreatDoorMG27
import Derived.Test.YthenlopnlaiodaaGreatDoorRows
import Derived.Test.YthenlopnlaiodaaGreatDoorCards
import Derived.Test.YthenlopnlaiodaaGreatDoorTie
import Derived.SevenTiedAt
section
namespace Go.Proofs.YthenlopnlaiodaaGreatDoor
open Go.RowKit Go.Shelf

set_option maxRecDepth 100000 in
set_option maxHeartbeats 16000000 in
theorem fewest_true (A N B : Option Addr) (c d e k : Nat) (ws : List Wh) (ns : List Note) (o : List Int) (x0 x1 x2 x3 x4 x5 x6 x7 x8 : Int) (w : World) (hf : FindAt w A N ws ns) (ho : Rd w B k o) (hT : TabP w) (hM : MaxP w) :
  Calls Tryz.prog 6 #[.agg #[.slice A ws.length c, .slice N ns.length d], .slice B k e, .agg #[.int .i64 x0, .int .i64 x1, .int .i64 x2, .int .i64 x3, .int .i64 x4, .int .i64 x5, .int .i64 x6, .int .i64 x7, .int .i64 x8]] w fun e' w' => e' = .returned (.bool true) ∧ Below w.heap.size w w' := by
 have hfr := fr_alloc (fr_alloc (fr_refl w) (.cells #[.slice A ws.length c, .slice N ns.length d] 25)) (.cells #[.int .i64 x0, .int .i64 x1, .int .i64 x2, .int .i64 x3, .int .i64 x4, .int .i64 x5, .int .i64 x6, .int .i64 x7, .int .i64 x8] 61)
 have hX0 : Blk ((w.alloc (.cells #[.slice A ws.length c, .slice N ns.length d] 25)).alloc (.cells #[.int .i64 x0, .int .i64 x1, .int .i64 x2, .int .i64 x3, .int .i64 x4, .int .i64 x5, .int .i64 x6, .int .i64 x7, .int .i64 x8] 61)) (w.heap.size) 25 #[.slice A ws.length c, .slice N ns.length d] := ((Blk.new_at _ _ (by simp)).alloc _)
 have hX1 : Blk ((w.alloc (.cells #[.slice A ws.length c, .slice N ns.length d] 25)).alloc (.cells #[.int .i64 x0, .int .i64 x1, .int .i64 x2, .int .i64 x3, .int .i64 x4, .int .i64 x5, .int .i64 x6, .int .i64 x7, .int .i64 x8] 61)) (w.heap.size + 1) 61 #[.int .i64 x0, .int .i64 x1, .int .i64 x2, .int .i64 x3, .int .i64 x4, .int .i64 x5, .int .i64 x6, .int .i64 x7, .int .i64 x8] := (Blk.new_at _ _ (by simp))
 replace hf := hf.keep hfr
 replace ho := ho.keep hfr
 have hc0 := fun j => hX0.cell j
 have hl0 := hX0.lt
 have hc1 := fun j => hX1.cell j
 have hl1 := hX1.lt
 cases s1 : (decide ((ws.length : Int) ≤ 8) && decide ((ns.length : Int) ≤ 11))
 ·go_enter Tryz.func6, Tryz.ntmps6
  go_wp2_with fail
  refine (short_any A N ws.length ns.length c d _ _ s1).mono ?_
  rintro e' w1 ⟨rfl, hb⟩
  replace hfr := fr_call hfr hb
  replace hf := hf.keep hb
  replace ho := ho.keep hb
  replace hX0 := hX0.keep hb
  replace hX1 := hX1.keep hb
  clear hb hc0 hc1
  have hc0 := fun j => hX0.cell j
  have hl0 := hX0.lt
  have hc1 := fun j => hX1.cell j
  have hl1 := hX1.lt
  go_wp2_with fail
  refine (known_is _ (hT.keep hfr) (hM.keep hfr)).mono ?_
  rintro e' w1 ⟨rfl, hb⟩
  replace hfr := fr_call hfr hb
  clear hb
  go_wp2_with fail
  go_ret
  exact ⟨rfl, hfr⟩
 ·have s1a : ws.length ≤ 8 ∧ ns.length ≤ 11 := by simp at s1; omega
  cases n1 : narrowB ws ns
  ·go_enter Tryz.func6, Tryz.ntmps6
   go_wp2_with fail
   refine (short_any A N ws.length ns.length c d _ _ s1).mono ?_
   rintro e' w1 ⟨rfl, hb⟩
   replace hfr := fr_call hfr hb
   replace hf := hf.keep hb
   replace ho := ho.keep hb
   replace hX0 := hX0.keep hb
   replace hX1 := hX1.keep hb
   clear hb hc0 hc1
   have hc0 := fun j => hX0.cell j
   have hl0 := hX0.lt
   have hc1 := fun j => hX1.cell j
   have hl1 := hX1.lt
   go_wp2_with fail
   refine (narrow_any A N ws.length ns.length c d ws ns _ hf rfl rfl (by omega) (by omega) _ n1).mono ?_
   rintro e' w1 ⟨rfl, hb⟩
   replace hfr := fr_call hfr hb
   replace hf := hf.keep hb
   replace ho := ho.keep hb
   replace hX0 := hX0.keep hb
   replace hX1 := hX1.keep hb
   clear hb hc0 hc1
   have hc0 := fun j => hX0.cell j
   have hl0 := hX0.lt
   have hc1 := fun j => hX1.cell j
   have hl1 := hX1.lt
   go_wp2_with fail
   refine (known_is _ (hT.keep hfr) (hM.keep hfr)).mono ?_
   rintro e' w1 ⟨rfl, hb⟩
   replace hfr := fr_call hfr hb
   clear hb
   go_wp2_with fail
   go_ret
   exact ⟨rfl, hfr⟩
  ·by_cases k1 : k ≤ 9
   ·have k1b : ¬ (9 < (k : Int)) := by omega
    cases f1 : findB ws ns
    ·go_enter Tryz.func6, Tryz.ntmps6
     go_wp2_with fail
     refine (short_any A N ws.length ns.length c d _ _ s1).mono ?_
     rintro e' w1 ⟨rfl, hb⟩
     replace hfr := fr_call hfr hb
     replace hf := hf.keep hb
     replace ho := ho.keep hb
     replace hX0 := hX0.keep hb
     replace hX1 := hX1.keep hb
     clear hb hc0 hc1
     have hc0 := fun j => hX0.cell j
     have hl0 := hX0.lt
     have hc1 := fun j => hX1.cell j
     have hl1 := hX1.lt
     go_wp2_with fail
     refine (narrow_any A N ws.length ns.length c d ws ns _ hf rfl rfl (by omega) (by omega) _ n1).mono ?_
     rintro e' w1 ⟨rfl, hb⟩
     replace hfr := fr_call hfr hb
     replace hf := hf.keep hb
     replace ho := ho.keep hb
     replace hX0 := hX0.keep hb
     replace hX1 := hX1.keep hb
     clear hb hc0 hc1
     have hc0 := fun j => hX0.cell j
     have hl0 := hX0.lt
     have hc1 := fun j => hX1.cell j
     have hl1 := hX1.lt
     go_wp2_with fail
     refine (Find8_any A N ws.length ns.length c d ws ns _ hf rfl rfl (by omega) (by omega) _ f1).mono ?_
     rintro e' w1 ⟨rfl, hb⟩
     replace hfr := fr_call hfr hb
     replace hf := hf.keep hb
     replace ho := ho.keep hb
     replace hX0 := hX0.keep hb
     replace hX1 := hX1.keep hb
     clear hb hc0 hc1
     have hc0 := fun j => hX0.cell j
     have hl0 := hX0.lt
     have hc1 := fun j => hX1.cell j
     have hl1 := hX1.lt
     go_wp2_with fail
     refine (known_is _ (hT.keep hfr) (hM.keep hfr)).mono ?_
     rintro e' w1 ⟨rfl, hb⟩
     replace hfr := fr_call hfr hb
     clear hb
     go_wp2_with fail
     go_ret
     exact ⟨rfl, hfr⟩
    ·by_cases r1 : RisesL (ns.length : Int) o
     ·have r1H := Lib.hid r1
      have hv := find_ok f1
      obtain ⟨hd1, hd2, hd3, hd4⟩ := doubts_law hv
      have F1 := Lib.hid f1
      have hor := r1.2
      have hdo := fun W h => Doubts_ok A N c d ws ns W h hv
      have hgw1 := fun M q W h => Guesses_ok A M c q ws (withoutL ns (doubtsL ws ns)) W h (ok_without hv (doubtsL ws ns))
      have hgw2 := fun M q W h => Guesses_ok A M c q ws (withoutL ns o) W h (ok_without hv o)
      have hwo1 := fun D dc W h1 h2 => Without8_any A N D c d (doubtsL ws ns).length dc ws ns (doubtsL ws ns) W h1 h2 (by omega) (by omega)
      have hwo2 := fun W h1 h2 => Without8_any A N B c d k e ws ns o W h1 h2 (by omega) (by omega)
      have hmo := fun (h : findB ws (ns ++ [⟨x0, x1, x2, x3, x4, x5, x6, x7, x8⟩]) = true) => doubts_more hv (find_ok h)
      obtain ⟨nx, hnx⟩ : ∃ nx, ns ++ [⟨x0, x1, x2, x3, x4, x5, x6, x7, x8⟩] = nx := ⟨_, rfl⟩
      have hnle : nx.length ≤ 1000 := by rw [← hnx]; simp; omega
      rw [hnx] at hmo
      have HNX := Lib.hid hnx
      clear hnx
      have hn1 : 1 ≤ (guessL ws (withoutL ns (doubtsL ws ns))).length := List.length_pos_iff.2 hd3
      obtain ⟨m1, hn1e⟩ : ∃ n, (guessL ws (withoutL ns (doubtsL ws ns))).length = n := ⟨_, rfl⟩
      obtain ⟨m2, hn2e⟩ : ∃ n, (guessL ws (withoutL ns o)).length = n := ⟨_, rfl⟩
      have hz2 : ltD o (doubtsL ws ns) = true → m2 = 0 := fun h => by rw [← hn2e, hd4 o hor h]; rfl
      rw [hn1e] at hgw1 hn1
      rw [hn2e] at hgw2
      obtain ⟨ds, hds⟩ : ∃ ds, doubtsL ws ns = ds := ⟨_, rfl⟩
      rw [hds] at hd1 hd2 hdo hgw1 hwo1 hz2 hmo
      have HD1 := Lib.hid hd1
      have hds1000 : ds.length ≤ 1000000 := by omega
      have hshort := fun D dc W h1 h2 => Shorter8_any B D k ds.length e dc o ds W h1 h2 (by omega) (by omega)
      have HMO := Lib.hid hmo
      unfold RetE at hgw1 hgw2
      unfold RetD at hdo
      obtain ⟨p, hp⟩ : ∃ p, ds.length = p := ⟨_, rfl⟩
      rw [hp] at hd2 hds1000 hdo hwo1 hshort
      have HP := Lib.hid hp
      have b1 : ¬ ((ns.length : Int) < (p : Int)) := by omega
      have b2 : ¬ ((m1 : Int) < 1) := by omega
      obtain ⟨lt, hlt⟩ : ∃ lt, ltD o ds = lt := ⟨_, rfl⟩
      rw [hlt] at hz2 hshort
      clear hd1 hd2 hd3 hd4 hn1e hn2e hds hor hv f1 r1 hmo hp hlt hn1
      by_cases hlf : lt = true
      ·have hz := hz2 hlf
       subst hlf
       have hz3 : ((m2 : Int) != 0) = false := by rw [hz]; rfl
       clear hz hz2
       go_enter Tryz.func6, Tryz.ntmps6
       go_wp2_with fail
       refine (short_any A N ws.length ns.length c d _ _ s1).mono ?_
       rintro e' w1 ⟨rfl, hb⟩
       replace hfr := fr_call hfr hb
       replace hf := hf.keep hb
       replace ho := ho.keep hb
       replace hX0 := hX0.keep hb
       replace hX1 := hX1.keep hb
       clear hb hc0 hc1
       have hc0 := fun j => hX0.cell j
       have hl0 := hX0.lt
       have hc1 := fun j => hX1.cell j
       have hl1 := hX1.lt
       go_wp2_with fail
       refine (narrow_any A N ws.length ns.length c d ws ns _ hf rfl rfl (by omega) (by omega) _ n1).mono ?_
       rintro e' w1 ⟨rfl, hb⟩
       replace hfr := fr_call hfr hb
       replace hf := hf.keep hb
       replace ho := ho.keep hb
       replace hX0 := hX0.keep hb
       replace hX1 := hX1.keep hb
       clear hb hc0 hc1
       have hc0 := fun j => hX0.cell j
       have hl0 := hX0.lt
       have hc1 := fun j => hX1.cell j
       have hl1 := hX1.lt
       go_wp2_with fail
       refine (Find8_any A N ws.length ns.length c d ws ns _ hf rfl rfl (by omega) (by omega) _ F1.out).mono ?_
       rintro e' w1 ⟨rfl, hb⟩
       replace hfr := fr_call hfr hb
       replace hf := hf.keep hb
       replace ho := ho.keep hb
       replace hX0 := hX0.keep hb
       replace hX1 := hX1.keep hb
       clear hb hc0 hc1
       have hc0 := fun j => hX0.cell j
       have hl0 := hX0.lt
       have hc1 := fun j => hX1.cell j
       have hl1 := hX1.lt
       go_wp2_with fail
       refine (Rising8_any A N B ws.length ns.length k c d e o _ ho (by omega) (by omega) true (iff_of_true rfl r1H.out)).mono ?_
       rintro e' w1 ⟨rfl, hb⟩
       replace hfr := fr_call hfr hb
       replace hf := hf.keep hb
       replace ho := ho.keep hb
       replace hX0 := hX0.keep hb
       replace hX1 := hX1.keep hb
       clear hb hc0 hc1
       have hc0 := fun j => hX0.cell j
       have hl0 := hX0.lt
       have hc1 := fun j => hX1.cell j
       have hl1 := hX1.lt
       go_wp2_with fail
       refine (hdo _ hf).mono ?_
       rintro e' w1 ⟨D, dc, rfl, hD, hb⟩
       replace hfr := fr_call hfr hb
       replace hf := hf.keep hb
       replace ho := ho.keep hb
       replace hX0 := hX0.keep hb
       replace hX1 := hX1.keep hb
       clear hb hc0 hc1
       have hc0 := fun j => hX0.cell j
       have hl0 := hX0.lt
       have hc1 := fun j => hX1.cell j
       have hl1 := hX1.lt
       go_wp2_with fail
       refine (Rising8_any A N D ws.length ns.length p c d dc ds _ hD (by omega) (by omega) true (iff_of_true rfl HD1.out)).mono ?_
       rintro e' w1 ⟨rfl, hb⟩
       replace hfr := fr_call hfr hb
       replace hf := hf.keep hb
       replace ho := ho.keep hb
       replace hD := hD.keep hb
       replace hX0 := hX0.keep hb
       replace hX1 := hX1.keep hb
       clear hb hc0 hc1
       have hc0 := fun j => hX0.cell j
       have hl0 := hX0.lt
       have hc1 := fun j => hX1.cell j
       have hl1 := hX1.lt
       go_wp2_with fail
       refine (hwo1 _ _ _ hf hD).mono ?_
       rintro e' w1 ⟨M1, q1, rfl, hm1, hb⟩
       replace hfr := fr_call hfr hb
       replace hf := hf.keep hb
       replace ho := ho.keep hb
       replace hD := hD.keep hb
       replace hX0 := hX0.keep hb
       replace hX1 := hX1.keep hb
       clear hb hc0 hc1
       have hc0 := fun j => hX0.cell j
       have hl0 := hX0.lt
       have hc1 := fun j => hX1.cell j
       have hl1 := hX1.lt
       go_wp2_with fail
       refine (hgw1 _ _ _ hm1).mono ?_
       rintro e' w1 ⟨rfl, hb⟩
       clear hm1
       replace hfr := fr_call hfr hb
       replace hf := hf.keep hb
       replace ho := ho.keep hb
       replace hD := hD.keep hb
       replace hX0 := hX0.keep hb
       replace hX1 := hX1.keep hb
       clear hb hc0 hc1
       have hc0 := fun j => hX0.cell j
       have hl0 := hX0.lt
       have hc1 := fun j => hX1.cell j
       have hl1 := hX1.lt
       go_wp2_with fail
       refine (hwo2 _ hf ho).mono ?_
       rintro e' w1 ⟨M2, q2, rfl, hm2, hb⟩
       replace hfr := fr_call hfr hb
       replace hf := hf.keep hb
       replace ho := ho.keep hb
       replace hD := hD.keep hb
       replace hX0 := hX0.keep hb
       replace hX1 := hX1.keep hb
       clear hb hc0 hc1
       have hc0 := fun j => hX0.cell j
       have hl0 := hX0.lt
       have hc1 := fun j => hX1.cell j
       have hl1 := hX1.lt
       go_wp2_with fail
       refine (hgw2 _ _ _ hm2).mono ?_
       rintro e' w1 ⟨rfl, hb⟩
       clear hm2
       replace hfr := fr_call hfr hb
       replace hf := hf.keep hb
       replace ho := ho.keep hb
       replace hD := hD.keep hb
       replace hX0 := hX0.keep hb
       replace hX1 := hX1.keep hb
       clear hb hc0 hc1
       have hc0 := fun j => hX0.cell j
       have hl0 := hX0.lt
       have hc1 := fun j => hX1.cell j
       have hl1 := hX1.lt
       go_wp2_with fail
       refine (hshort _ _ _ ho hD).mono ?_
       rintro e' w1 ⟨rfl, hb⟩
       replace hfr := fr_call hfr hb
       replace hf := hf.keep hb
       replace ho := ho.keep hb
       replace hD := hD.keep hb
       replace hX0 := hX0.keep hb
       replace hX1 := hX1.keep hb
       clear hb hc0 hc1
       have hc0 := fun j => hX0.cell j
       have hl0 := hX0.lt
       have hc1 := fun j => hX1.cell j
       have hl1 := hX1.lt
       go_upto_region 13 with (refine wpList_store_blk rfl _ _ _ rfl w1.heap.size 25 _ _ rfl rfl (Blk.new w1 _ _) rfl (by kernel_rfl) (by simp [Value.oneCell']) ?_; intro w2 hY hgr; have h12 : Below w1.heap.size w1 w2 := (fr_alloc (fr_refl w1) _).grown hgr (fr_alloc (fr_refl w1) _).size (by intro k hk; cases hk; exact Nat.le_refl _); clear hgr hc0 hc1)
       dsimp only [Act.put]
       have hlY := hY.lt
       clear hl0 hl1
       go_cut [] from 94 to 100 (fun wc => ∃ M q, Blk wc w1.heap.size 25 #[.slice A ws.length c, .slice M nx.length q] ∧ RdS wc M 9 (nx.map Note.cells) ∧ Below w1.heap.size w1 wc)
       case first =>
        refine wp_region_noPanic ?_
        refine wp_region_held_drew (S := fun _ => True) (by kernel_rfl) trivial (fun hHeld => ?_)
        have hbz := fr_drew (fr_refl w2)
        generalize w2.drew = wz at hbz hHeld ⊢
        -- the region, step by step, in whatever order
        refine wpAnyH_take (i := 0) (oi := ⟨some 94, .fieldAddr 25 (.tmp 3) 1, 0, "law.go:175", #[], none⟩) (v := ?_) rfl (by kernel_rfl) (by kernel_rfl) (by kernel_rfl) (fun _ _ _ h => h) (Or.inl ⟨by rfl, fun W hSw => ?_⟩) hHeld ?_
        rotate_left
        ·(try dsimp only at hSw); go_simp; (try with_reducible rfl)
        (try simp only [Act.put, List.setIfInBounds_toArray, List.set_cons_zero, List.set_cons_succ])
        refine wpAnyH_ready (rs := [1, 3]) (by kernel_rfl) (by simp) ?_
        refine (AllReadyH.cons (o := ⟨some 95, .load 23 (.tmp 94), 23, "law.go:175", #[⟨0, .data⟩], none⟩) rfl (fun K hK => ?_) (AllReadyH.cons (o := ⟨some 97, .load 61 (.tmp 5), 61, "law.go:175", #[], none⟩) rfl (fun K hK => ?_) AllReadyH.nil))
        ·rw [if_pos (by rfl)]
         have hcf := (hX0.keep (h12.trans (hbz.mono h12.size))).cell 1
         go_simp
         clear hcf
         refine hK.out _ _ (trivial) (fun hHeld => ?_)
         clear hK K
         (try simp only [Act.put, List.setIfInBounds_toArray, List.set_cons_zero, List.set_cons_succ])
         refine wpAnyH_ready (rs := [2, 3]) (by kernel_rfl) (by simp) ?_
         refine (AllReadyH.cons (o := ⟨some 96, .call { callee := .builtin .append, args := #[.const (.slice none 0 0), .tmp 95], argTypes := #[23, 23] }, 23, "law.go:175", #[⟨1, .data⟩], none⟩) rfl (fun K hK => ?_) (AllReadyH.cons (o := ⟨some 97, .load 61 (.tmp 5), 61, "law.go:175", #[], none⟩) rfl (fun K hK => ?_) AllReadyH.nil))
         ·rw [if_pos (by rfl)]
          refine wp_app_notes (.tmp 95) rfl w2.heap.size N ns.length d ns rfl rfl (hf.ns.keep (h12.trans (hbz.mono h12.size))) (by omega) hbz.size ?_
          intro M1 q1 wz hown hb1
          replace hbz := fr_call hbz hb1
          (try replace hG := hG.keep hb1)
          refine hK.out _ _ (trivial) (fun hHeld => ?_)
          clear hK K
          (try simp only [Act.put, List.setIfInBounds_toArray, List.set_cons_zero, List.set_cons_succ])
          refine wpAnyH_ready (rs := [3]) (by kernel_rfl) (by simp) ?_
          refine (AllReadyH.cons (o := ⟨some 97, .load 61 (.tmp 5), 61, "law.go:175", #[], none⟩) rfl (fun K hK => ?_) AllReadyH.nil)
          rw [if_pos (by rfl)]
          have hcx := fun j => (hX1.keep (h12.trans (hbz.mono h12.size))).cell j
          go_simp
          clear hcx
          refine hK.out _ _ (trivial) (fun hHeld => ?_)
          clear hK K
          (try simp only [Act.put, List.setIfInBounds_toArray, List.set_cons_zero, List.set_cons_succ])
          refine wpAnyH_ready (rs := [4]) (by kernel_rfl) (by simp) ?_
          refine (AllReadyH.cons (o := ⟨some 98, .buildSlice 23 1 #[(0, .tmp 97)], 23, "law.go:175", #[⟨3, .data⟩], none⟩) rfl (fun K hK => ?_) AllReadyH.nil)
          rw [if_pos (by rfl)]
          refine wp_build_note rfl rfl ?_
          intro gx wz hgz hG hb1
          replace hbz := fr_call hbz hb1
          (try replace hown := hown.keep hb1)
          refine hK.out _ _ (trivial) (fun hHeld => ?_)
          clear hK K
          (try simp only [Act.put, List.setIfInBounds_toArray, List.set_cons_zero, List.set_cons_succ])
          refine wpAnyH_ready (rs := [5]) (by kernel_rfl) (by simp) ?_
          refine (AllReadyH.cons (o := ⟨some 99, .call { callee := .builtin .append, args := #[.tmp 96, .tmp 98], argTypes := #[23, 23] }, 23, "law.go:175", #[⟨2, .data⟩, ⟨4, .data⟩, ⟨2, .chain⟩], none⟩) rfl (fun K hK => ?_) AllReadyH.nil)
          rw [if_pos (by rfl)]
          refine wp_app_row (.tmp 96) (.tmp 98) rfl Tryz.underlying23 info_noteG rfl (by omega) (by omega) w2.heap.size (.slice M1 ns.length q1) _ rfl hown gx rfl (r := Note.cells ⟨x0, x1, x2, x3, x4, x5, x6, x7, x8⟩) hG rfl (by intro u hu; simp only [Note.cells, List.mem_cons, List.not_mem_nil, or_false] at hu; rcases hu with rfl | rfl | rfl | rfl | rfl | rfl | rfl | rfl | rfl <;> rfl) (by rw [List.length_map]; omega) hbz.size ?_
          intro A2 c2 wz2 hown2 hgr
          have hbz2 := hbz.grown hgr hbz.size hown.ge
          have hY2 := hY.keep hbz2
          rw [List.length_map] at hown2 ⊢
          refine hK.out _ _ (trivial) (fun hHeld => ?_)
          clear hK K
          (try simp only [Act.put, List.setIfInBounds_toArray, List.set_cons_zero, List.set_cons_succ])
          refine wpAnyH_take (i := 6) (oi := ⟨some 100, .fieldAddr 25 (.tmp 13) 1, 0, "law.go:175", #[⟨0, .phase⟩, ⟨1, .phase⟩, ⟨2, .phase⟩, ⟨3, .phase⟩, ⟨4, .phase⟩, ⟨5, .phase⟩], none⟩) (v := ?_) rfl (by kernel_rfl) (by kernel_rfl) (by kernel_rfl) (fun _ _ _ h => h) (Or.inl ⟨by rfl, fun W hSw => ?_⟩) hHeld ?_
          rotate_left
          ·(try dsimp only at hSw); go_simp; (try with_reducible rfl)
          (try simp only [Act.put, List.setIfInBounds_toArray, List.set_cons_zero, List.set_cons_succ])
          refine wpAnyH_ready (rs := [7]) (by kernel_rfl) (by simp) ?_
          refine (AllReadyH.cons (o := ⟨none, .store 23 (.tmp 100) (.tmp 99), 0, "law.go:175", #[⟨6, .data⟩, ⟨5, .data⟩, ⟨5, .chain⟩, ⟨0, .phase⟩, ⟨1, .phase⟩, ⟨2, .phase⟩, ⟨3, .phase⟩, ⟨4, .phase⟩, ⟨5, .phase⟩], none⟩) rfl (fun K hK => ?_) AllReadyH.nil)
          rw [if_pos (by rfl)]
          have hcF := fun j => hY2.cell j
          have hfF := fun j => hY2.frozen j
          go_simp
          clear hcF hfF
          refine hK.out _ _ (trivial) (fun hHeld => ?_)
          clear hK K
          refine wpAnyH_done (by kernel_rfl) ?_ _
          refine NoPanic.normal ?_
          go_wp2_with fail
          go_meet
          case rel =>
           have hs := grown_set wz2 ⟨w1.heap.size, 1, none⟩ (.slice A2 (ns.length + 1) c2)
           have hbf := h12.trans (hbz2.mono h12.size)
           have hrd := (hown2.grownT hs (blk_notT hY2 (by decide))).rd
           have hblk := hY2.set_ 1 (.slice A2 (ns.length + 1) c2)
           have he := HNX.out
           refine ⟨A2, c2, ?_, ?_, hbf.grown hs hbf.size (by intro k hk; cases hk; exact Nat.le_refl _)⟩
           ·rw [← he, List.length_append]
            exact hblk
           ·rw [← he, List.map_append]
            exact hrd
         ·rw [if_pos (by rfl)]
          have hcx := fun j => (hX1.keep (h12.trans (hbz.mono h12.size))).cell j
          go_simp
          clear hcx
          refine hK.out _ _ (trivial) (fun hHeld => ?_)
          clear hK K
          (try simp only [Act.put, List.setIfInBounds_toArray, List.set_cons_zero, List.set_cons_succ])
          refine wpAnyH_ready (rs := [2, 4]) (by kernel_rfl) (by simp) ?_
          refine (AllReadyH.cons (o := ⟨some 96, .call { callee := .builtin .append, args := #[.const (.slice none 0 0), .tmp 95], argTypes := #[23, 23] }, 23, "law.go:175", #[⟨1, .data⟩], none⟩) rfl (fun K hK => ?_) (AllReadyH.cons (o := ⟨some 98, .buildSlice 23 1 #[(0, .tmp 97)], 23, "law.go:175", #[⟨3, .data⟩], none⟩) rfl (fun K hK => ?_) AllReadyH.nil))
          ·rw [if_pos (by rfl)]
           refine wp_app_notes (.tmp 95) rfl w2.heap.size N ns.length d ns rfl rfl (hf.ns.keep (h12.trans (hbz.mono h12.size))) (by omega) hbz.size ?_
           intro M1 q1 wz hown hb1
           replace hbz := fr_call hbz hb1
           (try replace hG := hG.keep hb1)
           refine hK.out _ _ (trivial) (fun hHeld => ?_)
           clear hK K
           (try simp only [Act.put, List.setIfInBounds_toArray, List.set_cons_zero, List.set_cons_succ])
           refine wpAnyH_ready (rs := [4]) (by kernel_rfl) (by simp) ?_
           refine (AllReadyH.cons (o := ⟨some 98, .buildSlice 23 1 #[(0, .tmp 97)], 23, "law.go:175", #[⟨3, .data⟩], none⟩) rfl (fun K hK => ?_) AllReadyH.nil)
           rw [if_pos (by rfl)]
           refine wp_build_note rfl rfl ?_
           intro gx wz hgz hG hb1
           replace hbz := fr_call hbz hb1
           (try replace hown := hown.keep hb1)
           refine hK.out _ _ (trivial) (fun hHeld => ?_)
           clear hK K
           (try simp only [Act.put, List.setIfInBounds_toArray, List.set_cons_zero, List.set_cons_succ])
           refine wpAnyH_ready (rs := [5]) (by kernel_rfl) (by simp) ?_
           refine (AllReadyH.cons (o := ⟨some 99, .call { callee := .builtin .append, args := #[.tmp 96, .tmp 98], argTypes := #[23, 23] }, 23, "law.go:175", #[⟨2, .data⟩, ⟨4, .data⟩, ⟨2, .chain⟩], none⟩) rfl (fun K hK => ?_) AllReadyH.nil)
           rw [if_pos (by rfl)]
           refine wp_app_row (.tmp 96) (.tmp 98) rfl Tryz.underlying23 info_noteG rfl (by omega) (by omega) w2.heap.size (.slice M1 ns.length q1) _ rfl hown gx rfl (r := Note.cells ⟨x0, x1, x2, x3, x4, x5, x6, x7, x8⟩) hG rfl (by intro u hu; simp only [Note.cells, List.mem_cons, List.not_mem_nil, or_false] at hu; rcases hu with rfl | rfl | rfl | rfl | rfl | rfl | rfl | rfl | rfl <;> rfl) (by rw [List.length_map]; omega) hbz.size ?_
           intro A2 c2 wz2 hown2 hgr
           have hbz2 := hbz.grown hgr hbz.size hown.ge
           have hY2 := hY.keep hbz2
           rw [List.length_map] at hown2 ⊢
           refine hK.out _ _ (trivial) (fun hHeld => ?_)
           clear hK K
           (try simp only [Act.put, List.setIfInBounds_toArray, List.set_cons_zero, List.set_cons_succ])
           refine wpAnyH_take (i := 6) (oi := ⟨some 100, .fieldAddr 25 (.tmp 13) 1, 0, "law.go:175", #[⟨0, .phase⟩, ⟨1, .phase⟩, ⟨2, .phase⟩, ⟨3, .phase⟩, ⟨4, .phase⟩, ⟨5, .phase⟩], none⟩) (v := ?_) rfl (by kernel_rfl) (by kernel_rfl) (by kernel_rfl) (fun _ _ _ h => h) (Or.inl ⟨by rfl, fun W hSw => ?_⟩) hHeld ?_
           rotate_left
           ·(try dsimp only at hSw); go_simp; (try with_reducible rfl)
           (try simp only [Act.put, List.setIfInBounds_toArray, List.set_cons_zero, List.set_cons_succ])
           refine wpAnyH_ready (rs := [7]) (by kernel_rfl) (by simp) ?_
           refine (AllReadyH.cons (o := ⟨none, .store 23 (.tmp 100) (.tmp 99), 0, "law.go:175", #[⟨6, .data⟩, ⟨5, .data⟩, ⟨5, .chain⟩, ⟨0, .phase⟩, ⟨1, .phase⟩, ⟨2, .phase⟩, ⟨3, .phase⟩, ⟨4, .phase⟩, ⟨5, .phase⟩], none⟩) rfl (fun K hK => ?_) AllReadyH.nil)
           rw [if_pos (by rfl)]
           have hcF := fun j => hY2.cell j
           have hfF := fun j => hY2.frozen j
           go_simp
           clear hcF hfF
           refine hK.out _ _ (trivial) (fun hHeld => ?_)
           clear hK K
           refine wpAnyH_done (by kernel_rfl) ?_ _
           refine NoPanic.normal ?_
           go_wp2_with fail
           go_meet
           case rel =>
            have hs := grown_set wz2 ⟨w1.heap.size, 1, none⟩ (.slice A2 (ns.length + 1) c2)
            have hbf := h12.trans (hbz2.mono h12.size)
            have hrd := (hown2.grownT hs (blk_notT hY2 (by decide))).rd
            have hblk := hY2.set_ 1 (.slice A2 (ns.length + 1) c2)
            have he := HNX.out
            refine ⟨A2, c2, ?_, ?_, hbf.grown hs hbf.size (by intro k hk; cases hk; exact Nat.le_refl _)⟩
            ·rw [← he, List.length_append]
             exact hblk
            ·rw [← he, List.map_append]
             exact hrd
          ·rw [if_pos (by rfl)]
           refine wp_build_note rfl rfl ?_
           intro gx wz hgz hG hb1
           replace hbz := fr_call hbz hb1
           (try replace hown := hown.keep hb1)
           refine hK.out _ _ (trivial) (fun hHeld => ?_)
           clear hK K
           (try simp only [Act.put, List.setIfInBounds_toArray, List.set_cons_zero, List.set_cons_succ])
           refine wpAnyH_ready (rs := [2]) (by kernel_rfl) (by simp) ?_
           refine (AllReadyH.cons (o := ⟨some 96, .call { callee := .builtin .append, args := #[.const (.slice none 0 0), .tmp 95], argTypes := #[23, 23] }, 23, "law.go:175", #[⟨1, .data⟩], none⟩) rfl (fun K hK => ?_) AllReadyH.nil)
           rw [if_pos (by rfl)]
           refine wp_app_notes (.tmp 95) rfl w2.heap.size N ns.length d ns rfl rfl (hf.ns.keep (h12.trans (hbz.mono h12.size))) (by omega) hbz.size ?_
           intro M1 q1 wz hown hb1
           replace hbz := fr_call hbz hb1
           (try replace hG := hG.keep hb1)
           refine hK.out _ _ (trivial) (fun hHeld => ?_)
           clear hK K
           (try simp only [Act.put, List.setIfInBounds_toArray, List.set_cons_zero, List.set_cons_succ])
           refine wpAnyH_ready (rs := [5]) (by kernel_rfl) (by simp) ?_
           refine (AllReadyH.cons (o := ⟨some 99, .call { callee := .builtin .append, args := #[.tmp 96, .tmp 98], argTypes := #[23, 23] }, 23, "law.go:175", #[⟨2, .data⟩, ⟨4, .data⟩, ⟨2, .chain⟩], none⟩) rfl (fun K hK => ?_) AllReadyH.nil)
           rw [if_pos (by rfl)]
           refine wp_app_row (.tmp 96) (.tmp 98) rfl Tryz.underlying23 info_noteG rfl (by omega) (by omega) w2.heap.size (.slice M1 ns.length q1) _ rfl hown gx rfl (r := Note.cells ⟨x0, x1, x2, x3, x4, x5, x6, x7, x8⟩) hG rfl (by intro u hu; simp only [Note.cells, List.mem_cons, List.not_mem_nil, or_false] at hu; rcases hu with rfl | rfl | rfl | rfl | rfl | rfl | rfl | rfl | rfl <;> rfl) (by rw [List.length_map]; omega) hbz.size ?_
           intro A2 c2 wz2 hown2 hgr
           have hbz2 := hbz.grown hgr hbz.size hown.ge
           have hY2 := hY.keep hbz2
           rw [List.length_map] at hown2 ⊢
           refine hK.out _ _ (trivial) (fun hHeld => ?_)
           clear hK K
           (try simp only [Act.put, List.setIfInBounds_toArray, List.set_cons_zero, List.set_cons_succ])
           refine wpAnyH_take (i := 6) (oi := ⟨some 100, .fieldAddr 25 (.tmp 13) 1, 0, "law.go:175", #[⟨0, .phase⟩, ⟨1, .phase⟩, ⟨2, .phase⟩, ⟨3, .phase⟩, ⟨4, .phase⟩, ⟨5, .phase⟩], none⟩) (v := ?_) rfl (by kernel_rfl) (by kernel_rfl) (by kernel_rfl) (fun _ _ _ h => h) (Or.inl ⟨by rfl, fun W hSw => ?_⟩) hHeld ?_
           rotate_left
           ·(try dsimp only at hSw); go_simp; (try with_reducible rfl)
           (try simp only [Act.put, List.setIfInBounds_toArray, List.set_cons_zero, List.set_cons_succ])
           refine wpAnyH_ready (rs := [7]) (by kernel_rfl) (by simp) ?_
           refine (AllReadyH.cons (o := ⟨none, .store 23 (.tmp 100) (.tmp 99), 0, "law.go:175", #[⟨6, .data⟩, ⟨5, .data⟩, ⟨5, .chain⟩, ⟨0, .phase⟩, ⟨1, .phase⟩, ⟨2, .phase⟩, ⟨3, .phase⟩, ⟨4, .phase⟩, ⟨5, .phase⟩], none⟩) rfl (fun K hK => ?_) AllReadyH.nil)
           rw [if_pos (by rfl)]
           have hcF := fun j => hY2.cell j
           have hfF := fun j => hY2.frozen j
           go_simp
           clear hcF hfF
           refine hK.out _ _ (trivial) (fun hHeld => ?_)
           clear hK K
           refine wpAnyH_done (by kernel_rfl) ?_ _
           refine NoPanic.normal ?_
           go_wp2_with fail
           go_meet
           case rel =>
            have hs := grown_set wz2 ⟨w1.heap.size, 1, none⟩ (.slice A2 (ns.length + 1) c2)
            have hbf := h12.trans (hbz2.mono h12.size)
            have hrd := (hown2.grownT hs (blk_notT hY2 (by decide))).rd
            have hblk := hY2.set_ 1 (.slice A2 (ns.length + 1) c2)
            have he := HNX.out
            refine ⟨A2, c2, ?_, ?_, hbf.grown hs hbf.size (by intro k hk; cases hk; exact Nat.le_refl _)⟩
            ·rw [← he, List.length_append]
             exact hblk
            ·rw [← he, List.map_append]
             exact hrd
        ·rw [if_pos (by rfl)]
         have hcx := fun j => (hX1.keep (h12.trans (hbz.mono h12.size))).cell j
         go_simp
         clear hcx
         refine hK.out _ _ (trivial) (fun hHeld => ?_)
         clear hK K
         (try simp only [Act.put, List.setIfInBounds_toArray, List.set_cons_zero, List.set_cons_succ])
         refine wpAnyH_ready (rs := [1, 4]) (by kernel_rfl) (by simp) ?_
         refine (AllReadyH.cons (o := ⟨some 95, .load 23 (.tmp 94), 23, "law.go:175", #[⟨0, .data⟩], none⟩) rfl (fun K hK => ?_) (AllReadyH.cons (o := ⟨some 98, .buildSlice 23 1 #[(0, .tmp 97)], 23, "law.go:175", #[⟨3, .data⟩], none⟩) rfl (fun K hK => ?_) AllReadyH.nil))
         ·rw [if_pos (by rfl)]
          have hcf := (hX0.keep (h12.trans (hbz.mono h12.size))).cell 1
          go_simp
          clear hcf
          refine hK.out _ _ (trivial) (fun hHeld => ?_)
          clear hK K
          (try simp only [Act.put, List.setIfInBounds_toArray, List.set_cons_zero, List.set_cons_succ])
          refine wpAnyH_ready (rs := [2, 4]) (by kernel_rfl) (by simp) ?_
          refine (AllReadyH.cons (o := ⟨some 96, .call { callee := .builtin .append, args := #[.const (.slice none 0 0), .tmp 95], argTypes := #[23, 23] }, 23, "law.go:175", #[⟨1, .data⟩], none⟩) rfl (fun K hK => ?_) (AllReadyH.cons (o := ⟨some 98, .buildSlice 23 1 #[(0, .tmp 97)], 23, "law.go:175", #[⟨3, .data⟩], none⟩) rfl (fun K hK => ?_) AllReadyH.nil))
          ·rw [if_pos (by rfl)]
           refine wp_app_notes (.tmp 95) rfl w2.heap.size N ns.length d ns rfl rfl (hf.ns.keep (h12.trans (hbz.mono h12.size))) (by omega) hbz.size ?_
           intro M1 q1 wz hown hb1
           replace hbz := fr_call hbz hb1
           (try replace hG := hG.keep hb1)
           refine hK.out _ _ (trivial) (fun hHeld => ?_)
           clear hK K
           (try simp only [Act.put, List.setIfInBounds_toArray, List.set_cons_zero, List.set_cons_succ])
           refine wpAnyH_ready (rs := [4]) (by kernel_rfl) (by simp) ?_
           refine (AllReadyH.cons (o := ⟨some 98, .buildSlice 23 1 #[(0, .tmp 97)], 23, "law.go:175", #[⟨3, .data⟩], none⟩) rfl (fun K hK => ?_) AllReadyH.nil)
           rw [if_pos (by rfl)]
           refine wp_build_note rfl rfl ?_
           intro gx wz hgz hG hb1
           replace hbz := fr_call hbz hb1
           (try replace hown := hown.keep hb1)
           refine hK.out _ _ (trivial) (fun hHeld => ?_)
           clear hK K
           (try simp only [Act.put, List.setIfInBounds_toArray, List.set_cons_zero, List.set_cons_succ])
           refine wpAnyH_ready (rs := [5]) (by kernel_rfl) (by simp) ?_
           refine (AllReadyH.cons (o := ⟨some 99, .call { callee := .builtin .append, args := #[.tmp 96, .tmp 98], argTypes := #[23, 23] }, 23, "law.go:175", #[⟨2, .data⟩, ⟨4, .data⟩, ⟨2, .chain⟩], none⟩) rfl (fun K hK => ?_) AllReadyH.nil)
           rw [if_pos (by rfl)]
           refine wp_app_row (.tmp 96) (.tmp 98) rfl Tryz.underlying23 info_noteG rfl (by omega) (by omega) w2.heap.size (.slice M1 ns.length q1) _ rfl hown gx rfl (r := Note.cells ⟨x0, x1, x2, x3, x4, x5, x6, x7, x8⟩) hG rfl (by intro u hu; simp only [Note.cells, List.mem_cons, List.not_mem_nil, or_false] at hu; rcases hu with rfl | rfl | rfl | rfl | rfl | rfl | rfl | rfl | rfl <;> rfl) (by rw [List.length_map]; omega) hbz.size ?_
           intro A2 c2 wz2 hown2 hgr
           have hbz2 := hbz.grown hgr hbz.size hown.ge
           have hY2 := hY.keep hbz2
           rw [List.length_map] at hown2 ⊢
           refine hK.out _ _ (trivial) (fun hHeld => ?_)
           clear hK K
           (try simp only [Act.put, List.setIfInBounds_toArray, List.set_cons_zero, List.set_cons_succ])
           refine wpAnyH_take (i := 6) (oi := ⟨some 100, .fieldAddr 25 (.tmp 13) 1, 0, "law.go:175", #[⟨0, .phase⟩, ⟨1, .phase⟩, ⟨2, .phase⟩, ⟨3, .phase⟩, ⟨4, .phase⟩, ⟨5, .phase⟩], none⟩) (v := ?_) rfl (by kernel_rfl) (by kernel_rfl) (by kernel_rfl) (fun _ _ _ h => h) (Or.inl ⟨by rfl, fun W hSw => ?_⟩) hHeld ?_
           rotate_left
           ·(try dsimp only at hSw); go_simp; (try with_reducible rfl)
           (try simp only [Act.put, List.setIfInBounds_toArray, List.set_cons_zero, List.set_cons_succ])
           refine wpAnyH_ready (rs := [7]) (by kernel_rfl) (by simp) ?_
           refine (AllReadyH.cons (o := ⟨none, .store 23 (.tmp 100) (.tmp 99), 0, "law.go:175", #[⟨6, .data⟩, ⟨5, .data⟩, ⟨5, .chain⟩, ⟨0, .phase⟩, ⟨1, .phase⟩, ⟨2, .phase⟩, ⟨3, .phase⟩, ⟨4, .phase⟩, ⟨5, .phase⟩], none⟩) rfl (fun K hK => ?_) AllReadyH.nil)
           rw [if_pos (by rfl)]
           have hcF := fun j => hY2.cell j
           have hfF := fun j => hY2.frozen j
           go_simp
           clear hcF hfF
           refine hK.out _ _ (trivial) (fun hHeld => ?_)
           clear hK K
           refine wpAnyH_done (by kernel_rfl) ?_ _
           refine NoPanic.normal ?_
           go_wp2_with fail
           go_meet
           case rel =>
            have hs := grown_set wz2 ⟨w1.heap.size, 1, none⟩ (.slice A2 (ns.length + 1) c2)
            have hbf := h12.trans (hbz2.mono h12.size)
            have hrd := (hown2.grownT hs (blk_notT hY2 (by decide))).rd
            have hblk := hY2.set_ 1 (.slice A2 (ns.length + 1) c2)
            have he := HNX.out
            refine ⟨A2, c2, ?_, ?_, hbf.grown hs hbf.size (by intro k hk; cases hk; exact Nat.le_refl _)⟩
            ·rw [← he, List.length_append]
             exact hblk
            ·rw [← he, List.map_append]
             exact hrd
          ·rw [if_pos (by rfl)]
           refine wp_build_note rfl rfl ?_
           intro gx wz hgz hG hb1
           replace hbz := fr_call hbz hb1
           (try replace hown := hown.keep hb1)
           refine hK.out _ _ (trivial) (fun hHeld => ?_)
           clear hK K
           (try simp only [Act.put, List.setIfInBounds_toArray, List.set_cons_zero, List.set_cons_succ])
           refine wpAnyH_ready (rs := [2]) (by kernel_rfl) (by simp) ?_
           refine (AllReadyH.cons (o := ⟨some 96, .call { callee := .builtin .append, args := #[.const (.slice none 0 0), .tmp 95], argTypes := #[23, 23] }, 23, "law.go:175", #[⟨1, .data⟩], none⟩) rfl (fun K hK => ?_) AllReadyH.nil)
           rw [if_pos (by rfl)]
           refine wp_app_notes (.tmp 95) rfl w2.heap.size N ns.length d ns rfl rfl (hf.ns.keep (h12.trans (hbz.mono h12.size))) (by omega) hbz.size ?_
           intro M1 q1 wz hown hb1
           replace hbz := fr_call hbz hb1
           (try replace hG := hG.keep hb1)
           refine hK.out _ _ (trivial) (fun hHeld => ?_)
           clear hK K
           (try simp only [Act.put, List.setIfInBounds_toArray, List.set_cons_zero, List.set_cons_succ])
           refine wpAnyH_ready (rs := [5]) (by kernel_rfl) (by simp) ?_
           refine (AllReadyH.cons (o := ⟨some 99, .call { callee := .builtin .append, args := #[.tmp 96, .tmp 98], argTypes := #[23, 23] }, 23, "law.go:175", #[⟨2, .data⟩, ⟨4, .data⟩, ⟨2, .chain⟩], none⟩) rfl (fun K hK => ?_) AllReadyH.nil)
           rw [if_pos (by rfl)]
           refine wp_app_row (.tmp 96) (.tmp 98) rfl Tryz.underlying23 info_noteG rfl (by omega) (by omega) w2.heap.size (.slice M1 ns.length q1) _ rfl hown gx rfl (r := Note.cells ⟨x0, x1, x2, x3, x4, x5, x6, x7, x8⟩) hG rfl (by intro u hu; simp only [Note.cells, List.mem_cons, List.not_mem_nil, or_false] at hu; rcases hu with rfl | rfl | rfl | rfl | rfl | rfl | rfl | rfl | rfl <;> rfl) (by rw [List.length_map]; omega) hbz.size ?_
           intro A2 c2 wz2 hown2 hgr
           have hbz2 := hbz.grown hgr hbz.size hown.ge
           have hY2 := hY.keep hbz2
           rw [List.length_map] at hown2 ⊢
           refine hK.out _ _ (trivial) (fun hHeld => ?_)
           clear hK K
           (try simp only [Act.put, List.setIfInBounds_toArray, List.set_cons_zero, List.set_cons_succ])
           refine wpAnyH_take (i := 6) (oi := ⟨some 100, .fieldAddr 25 (.tmp 13) 1, 0, "law.go:175", #[⟨0, .phase⟩, ⟨1, .phase⟩, ⟨2, .phase⟩, ⟨3, .phase⟩, ⟨4, .phase⟩, ⟨5, .phase⟩], none⟩) (v := ?_) rfl (by kernel_rfl) (by kernel_rfl) (by kernel_rfl) (fun _ _ _ h => h) (Or.inl ⟨by rfl, fun W hSw => ?_⟩) hHeld ?_
           rotate_left
           ·(try dsimp only at hSw); go_simp; (try with_reducible rfl)
           (try simp only [Act.put, List.setIfInBounds_toArray, List.set_cons_zero, List.set_cons_succ])
           refine wpAnyH_ready (rs := [7]) (by kernel_rfl) (by simp) ?_
           refine (AllReadyH.cons (o := ⟨none, .store 23 (.tmp 100) (.tmp 99), 0, "law.go:175", #[⟨6, .data⟩, ⟨5, .data⟩, ⟨5, .chain⟩, ⟨0, .phase⟩, ⟨1, .phase⟩, ⟨2, .phase⟩, ⟨3, .phase⟩, ⟨4, .phase⟩, ⟨5, .phase⟩], none⟩) rfl (fun K hK => ?_) AllReadyH.nil)
           rw [if_pos (by rfl)]
           have hcF := fun j => hY2.cell j
           have hfF := fun j => hY2.frozen j
           go_simp
           clear hcF hfF
           refine hK.out _ _ (trivial) (fun hHeld => ?_)
           clear hK K
           refine wpAnyH_done (by kernel_rfl) ?_ _
           refine NoPanic.normal ?_
           go_wp2_with fail
           go_meet
           case rel =>
            have hs := grown_set wz2 ⟨w1.heap.size, 1, none⟩ (.slice A2 (ns.length + 1) c2)
            have hbf := h12.trans (hbz2.mono h12.size)
            have hrd := (hown2.grownT hs (blk_notT hY2 (by decide))).rd
            have hblk := hY2.set_ 1 (.slice A2 (ns.length + 1) c2)
            have he := HNX.out
            refine ⟨A2, c2, ?_, ?_, hbf.grown hs hbf.size (by intro k hk; cases hk; exact Nat.le_refl _)⟩
            ·rw [← he, List.length_append]
             exact hblk
            ·rw [← he, List.map_append]
             exact hrd
         ·rw [if_pos (by rfl)]
          refine wp_build_note rfl rfl ?_
          intro gx wz hgz hG hb1
          replace hbz := fr_call hbz hb1
          (try replace hown := hown.keep hb1)
          refine hK.out _ _ (trivial) (fun hHeld => ?_)
          clear hK K
          (try simp only [Act.put, List.setIfInBounds_toArray, List.set_cons_zero, List.set_cons_succ])
          refine wpAnyH_ready (rs := [1]) (by kernel_rfl) (by simp) ?_
          refine (AllReadyH.cons (o := ⟨some 95, .load 23 (.tmp 94), 23, "law.go:175", #[⟨0, .data⟩], none⟩) rfl (fun K hK => ?_) AllReadyH.nil)
          rw [if_pos (by rfl)]
          have hcf := (hX0.keep (h12.trans (hbz.mono h12.size))).cell 1
          go_simp
          clear hcf
          refine hK.out _ _ (trivial) (fun hHeld => ?_)
          clear hK K
          (try simp only [Act.put, List.setIfInBounds_toArray, List.set_cons_zero, List.set_cons_succ])
          refine wpAnyH_ready (rs := [2]) (by kernel_rfl) (by simp) ?_
          refine (AllReadyH.cons (o := ⟨some 96, .call { callee := .builtin .append, args := #[.const (.slice none 0 0), .tmp 95], argTypes := #[23, 23] }, 23, "law.go:175", #[⟨1, .data⟩], none⟩) rfl (fun K hK => ?_) AllReadyH.nil)
          rw [if_pos (by rfl)]
          refine wp_app_notes (.tmp 95) rfl w2.heap.size N ns.length d ns rfl rfl (hf.ns.keep (h12.trans (hbz.mono h12.size))) (by omega) hbz.size ?_
          intro M1 q1 wz hown hb1
          replace hbz := fr_call hbz hb1
          (try replace hG := hG.keep hb1)
          refine hK.out _ _ (trivial) (fun hHeld => ?_)
          clear hK K
          (try simp only [Act.put, List.setIfInBounds_toArray, List.set_cons_zero, List.set_cons_succ])
          refine wpAnyH_ready (rs := [5]) (by kernel_rfl) (by simp) ?_
          refine (AllReadyH.cons (o := ⟨some 99, .call { callee := .builtin .append, args := #[.tmp 96, .tmp 98], argTypes := #[23, 23] }, 23, "law.go:175", #[⟨2, .data⟩, ⟨4, .data⟩, ⟨2, .chain⟩], none⟩) rfl (fun K hK => ?_) AllReadyH.nil)
          rw [if_pos (by rfl)]
          refine wp_app_row (.tmp 96) (.tmp 98) rfl Tryz.underlying23 info_noteG rfl (by omega) (by omega) w2.heap.size (.slice M1 ns.length q1) _ rfl hown gx rfl (r := Note.cells ⟨x0, x1, x2, x3, x4, x5, x6, x7, x8⟩) hG rfl (by intro u hu; simp only [Note.cells, List.mem_cons, List.not_mem_nil, or_false] at hu; rcases hu with rfl | rfl | rfl | rfl | rfl | rfl | rfl | rfl | rfl <;> rfl) (by rw [List.length_map]; omega) hbz.size ?_
          intro A2 c2 wz2 hown2 hgr
          have hbz2 := hbz.grown hgr hbz.size hown.ge
          have hY2 := hY.keep hbz2
          rw [List.length_map] at hown2 ⊢
          refine hK.out _ _ (trivial) (fun hHeld => ?_)
          clear hK K
          (try simp only [Act.put, List.setIfInBounds_toArray, List.set_cons_zero, List.set_cons_succ])
          refine wpAnyH_take (i := 6) (oi := ⟨some 100, .fieldAddr 25 (.tmp 13) 1, 0, "law.go:175", #[⟨0, .phase⟩, ⟨1, .phase⟩, ⟨2, .phase⟩, ⟨3, .phase⟩, ⟨4, .phase⟩, ⟨5, .phase⟩], none⟩) (v := ?_) rfl (by kernel_rfl) (by kernel_rfl) (by kernel_rfl) (fun _ _ _ h => h) (Or.inl ⟨by rfl, fun W hSw => ?_⟩) hHeld ?_
          rotate_left
          ·(try dsimp only at hSw); go_simp; (try with_reducible rfl)
          (try simp only [Act.put, List.setIfInBounds_toArray, List.set_cons_zero, List.set_cons_succ])
          refine wpAnyH_ready (rs := [7]) (by kernel_rfl) (by simp) ?_
          refine (AllReadyH.cons (o := ⟨none, .store 23 (.tmp 100) (.tmp 99), 0, "law.go:175", #[⟨6, .data⟩, ⟨5, .data⟩, ⟨5, .chain⟩, ⟨0, .phase⟩, ⟨1, .phase⟩, ⟨2, .phase⟩, ⟨3, .phase⟩, ⟨4, .phase⟩, ⟨5, .phase⟩], none⟩) rfl (fun K hK => ?_) AllReadyH.nil)
          rw [if_pos (by rfl)]
          have hcF := fun j => hY2.cell j
          have hfF := fun j => hY2.frozen j
          go_simp
          clear hcF hfF
          refine hK.out _ _ (trivial) (fun hHeld => ?_)
          clear hK K
          refine wpAnyH_done (by kernel_rfl) ?_ _
          refine NoPanic.normal ?_
          go_wp2_with fail
          go_meet
          case rel =>
           have hs := grown_set wz2 ⟨w1.heap.size, 1, none⟩ (.slice A2 (ns.length + 1) c2)
           have hbf := h12.trans (hbz2.mono h12.size)
           have hrd := (hown2.grownT hs (blk_notT hY2 (by decide))).rd
           have hblk := hY2.set_ 1 (.slice A2 (ns.length + 1) c2)
           have he := HNX.out
           refine ⟨A2, c2, ?_, ?_, hbf.grown hs hbf.size (by intro k hk; cases hk; exact Nat.le_refl _)⟩
           ·rw [← he, List.length_append]
            exact hblk
           ·rw [← he, List.map_append]
            exact hrd
       case rest =>
        obtain ⟨M, q, hY, hrM, hb⟩ := hcut
        replace hfr := fr_call hfr hb
        replace hf := hf.keep hb
        replace ho := ho.keep hb
        replace hD := hD.keep hb
        replace hX0 := hX0.keep hb
        replace hX1 := hX1.keep hb
        clear hb
        have hc0 := fun j => hX0.cell j
        have hl0 := hX0.lt
        have hc1 := fun j => hX1.cell j
        have hl1 := hX1.lt
        have hfx : FindAt wc A M ws nx := ⟨hf.ws, hrM⟩
        clear hrM h12
        have hcY := fun j => hY.cell j
        have hlY := hY.lt
        cases hfb : findB ws nx
        ·go_wp2_with fail
         refine (Find8_any A M ws.length nx.length c q ws nx _ hfx rfl rfl (by omega) (by omega) _ hfb).mono ?_
         rintro e' w3 ⟨rfl, hb⟩
         replace hfr := fr_call hfr hb
         clear hb
         go_wp2_with fail
         refine (known_is _ (hT.keep hfr) (hM.keep hfr)).mono ?_
         rintro e' w1 ⟨rfl, hb⟩
         replace hfr := fr_call hfr hb
         clear hb
         go_wp2_with fail
         go_ret
         exact ⟨rfl, hfr⟩
        ·obtain ⟨hle1, hle2⟩ := HMO.out hfb
         have hvx := find_ok hfb
         have HFB := Lib.hid hfb
         have hdx := fun W h => Doubts_ok A M c q ws nx W h hvx
         unfold RetD at hdx
         obtain ⟨p2, hp2⟩ : ∃ p, (doubtsL ws nx).length = p := ⟨_, rfl⟩
         have hpp := HP.out
         rw [hp2] at hle1 hle2 hdx
         rw [hpp] at hle1 hle2
         have a1 : (p : Int) ≤ (p2 : Int) := by omega
         have a2 : (p2 : Int) ≤ (p : Int) + 1 := by omega
         clear hvx hp2 hpp hle1 hle2 hfb
         go_wp2_with fail
         refine (Find8_any A M ws.length nx.length c q ws nx _ hfx rfl rfl (by omega) (by omega) _ HFB.out).mono ?_
         rintro e' w3 ⟨rfl, hb⟩
         replace hfr := fr_call hfr hb
         replace hfx := hfx.keep hb
         replace hY := hY.keep hb
         clear hb hcY hlY
         have hcY := fun j => hY.cell j
         have hlY := hY.lt
         go_wp2_with fail
         refine (hdx _ hfx).mono ?_
         rintro e' w4 ⟨D2, dc2, rfl, _, hb⟩
         replace hfr := fr_call hfr hb
         clear hb
         go_wp2_with fail
         refine (known_is _ (hT.keep hfr) (hM.keep hfr)).mono ?_
         rintro e' w1 ⟨rfl, hb⟩
         replace hfr := fr_call hfr hb
         clear hb
         go_wp2_with fail
         go_ret
         exact ⟨rfl, hfr⟩
      ·obtain rfl : lt = false := by simpa using hlf
       clear hz2 hlf
       go_enter Tryz.func6, Tryz.ntmps6
       go_wp2_with fail
       refine (short_any A N ws.length ns.length c d _ _ s1).mono ?_
       rintro e' w1 ⟨rfl, hb⟩
       replace hfr := fr_call hfr hb
       replace hf := hf.keep hb
       replace ho := ho.keep hb
       replace hX0 := hX0.keep hb
       replace hX1 := hX1.keep hb
       clear hb hc0 hc1
       have hc0 := fun j => hX0.cell j
       have hl0 := hX0.lt
       have hc1 := fun j => hX1.cell j
       have hl1 := hX1.lt
       go_wp2_with fail
       refine (narrow_any A N ws.length ns.length c d ws ns _ hf rfl rfl (by omega) (by omega) _ n1).mono ?_
       rintro e' w1 ⟨rfl, hb⟩
       replace hfr := fr_call hfr hb
       replace hf := hf.keep hb
       replace ho := ho.keep hb
       replace hX0 := hX0.keep hb
       replace hX1 := hX1.keep hb
       clear hb hc0 hc1
       have hc0 := fun j => hX0.cell j
       have hl0 := hX0.lt
       have hc1 := fun j => hX1.cell j
       have hl1 := hX1.lt
       go_wp2_with fail
       refine (Find8_any A N ws.length ns.length c d ws ns _ hf rfl rfl (by omega) (by omega) _ F1.out).mono ?_
       rintro e' w1 ⟨rfl, hb⟩
       replace hfr := fr_call hfr hb
       replace hf := hf.keep hb
       replace ho := ho.keep hb
       replace hX0 := hX0.keep hb
       replace hX1 := hX1.keep hb
       clear hb hc0 hc1
       have hc0 := fun j => hX0.cell j
       have hl0 := hX0.lt
       have hc1 := fun j => hX1.cell j
       have hl1 := hX1.lt
       go_wp2_with fail
       refine (Rising8_any A N B ws.length ns.length k c d e o _ ho (by omega) (by omega) true (iff_of_true rfl r1H.out)).mono ?_
       rintro e' w1 ⟨rfl, hb⟩
       replace hfr := fr_call hfr hb
       replace hf := hf.keep hb
       replace ho := ho.keep hb
       replace hX0 := hX0.keep hb
       replace hX1 := hX1.keep hb
       clear hb hc0 hc1
       have hc0 := fun j => hX0.cell j
       have hl0 := hX0.lt
       have hc1 := fun j => hX1.cell j
       have hl1 := hX1.lt
       go_wp2_with fail
       refine (hdo _ hf).mono ?_
       rintro e' w1 ⟨D, dc, rfl, hD, hb⟩
       replace hfr := fr_call hfr hb
       replace hf := hf.keep hb
       replace ho := ho.keep hb
       replace hX0 := hX0.keep hb
       replace hX1 := hX1.keep hb
       clear hb hc0 hc1
       have hc0 := fun j => hX0.cell j
       have hl0 := hX0.lt
       have hc1 := fun j => hX1.cell j
       have hl1 := hX1.lt
       go_wp2_with fail
       refine (Rising8_any A N D ws.length ns.length p c d dc ds _ hD (by omega) (by omega) true (iff_of_true rfl HD1.out)).mono ?_
       rintro e' w1 ⟨rfl, hb⟩
       replace hfr := fr_call hfr hb
       replace hf := hf.keep hb
       replace ho := ho.keep hb
       replace hD := hD.keep hb
       replace hX0 := hX0.keep hb
       replace hX1 := hX1.keep hb
       clear hb hc0 hc1
       have hc0 := fun j => hX0.cell j
       have hl0 := hX0.lt
       have hc1 := fun j => hX1.cell j
       have hl1 := hX1.lt
       go_wp2_with fail
       refine (hwo1 _ _ _ hf hD).mono ?_
       rintro e' w1 ⟨M1, q1, rfl, hm1, hb⟩
       replace hfr := fr_call hfr hb
       replace hf := hf.keep hb
       replace ho := ho.keep hb
       replace hD := hD.keep hb
       replace hX0 := hX0.keep hb
       replace hX1 := hX1.keep hb
       clear hb hc0 hc1
       have hc0 := fun j => hX0.cell j
       have hl0 := hX0.lt
       have hc1 := fun j => hX1.cell j
       have hl1 := hX1.lt
       go_wp2_with fail
       refine (hgw1 _ _ _ hm1).mono ?_
       rintro e' w1 ⟨rfl, hb⟩
       clear hm1
       replace hfr := fr_call hfr hb
       replace hf := hf.keep hb
       replace ho := ho.keep hb
       replace hD := hD.keep hb
       replace hX0 := hX0.keep hb
       replace hX1 := hX1.keep hb
       clear hb hc0 hc1
       have hc0 := fun j => hX0.cell j
       have hl0 := hX0.lt
       have hc1 := fun j => hX1.cell j
       have hl1 := hX1.lt
       go_wp2_with fail
       refine (hwo2 _ hf ho).mono ?_
       rintro e' w1 ⟨M2, q2, rfl, hm2, hb⟩
       replace hfr := fr_call hfr hb
       replace hf := hf.keep hb
       replace ho := ho.keep hb
       replace hD := hD.keep hb
       replace hX0 := hX0.keep hb
       replace hX1 := hX1.keep hb
       clear hb hc0 hc1
       have hc0 := fun j => hX0.cell j
       have hl0 := hX0.lt
       have hc1 := fun j => hX1.cell j
       have hl1 := hX1.lt
       go_wp2_with fail
       refine (hgw2 _ _ _ hm2).mono ?_
       rintro e' w1 ⟨rfl, hb⟩
       clear hm2
       replace hfr := fr_call hfr hb
       replace hf := hf.keep hb
       replace ho := ho.keep hb
       replace hD := hD.keep hb
       replace hX0 := hX0.keep hb
       replace hX1 := hX1.keep hb
       clear hb hc0 hc1
       have hc0 := fun j => hX0.cell j
       have hl0 := hX0.lt
       have hc1 := fun j => hX1.cell j
       have hl1 := hX1.lt
       go_wp2_with fail
       refine (hshort _ _ _ ho hD).mono ?_
       rintro e' w1 ⟨rfl, hb⟩
       replace hfr := fr_call hfr hb
       replace hf := hf.keep hb
       replace ho := ho.keep hb
       replace hD := hD.keep hb
       replace hX0 := hX0.keep hb
       replace hX1 := hX1.keep hb
       clear hb hc0 hc1
       have hc0 := fun j => hX0.cell j
       have hl0 := hX0.lt
       have hc1 := fun j => hX1.cell j
       have hl1 := hX1.lt
       go_upto_region 13 with (refine wpList_store_blk rfl _ _ _ rfl w1.heap.size 25 _ _ rfl rfl (Blk.new w1 _ _) rfl (by kernel_rfl) (by simp [Value.oneCell']) ?_; intro w2 hY hgr; have h12 : Below w1.heap.size w1 w2 := (fr_alloc (fr_refl w1) _).grown hgr (fr_alloc (fr_refl w1) _).size (by intro k hk; cases hk; exact Nat.le_refl _); clear hgr hc0 hc1)
       dsimp only [Act.put]
       have hlY := hY.lt
       clear hl0 hl1
       go_cut [] from 94 to 100 (fun wc => ∃ M q, Blk wc w1.heap.size 25 #[.slice A ws.length c, .slice M nx.length q] ∧ RdS wc M 9 (nx.map Note.cells) ∧ Below w1.heap.size w1 wc)
       case first =>
        refine wp_region_noPanic ?_
        refine wp_region_held_drew (S := fun _ => True) (by kernel_rfl) trivial (fun hHeld => ?_)
        have hbz := fr_drew (fr_refl w2)
        generalize w2.drew = wz at hbz hHeld ⊢
        -- the region, step by step, in whatever order
        refine wpAnyH_take (i := 0) (oi := ⟨some 94, .fieldAddr 25 (.tmp 3) 1, 0, "law.go:175", #[], none⟩) (v := ?_) rfl (by kernel_rfl) (by kernel_rfl) (by kernel_rfl) (fun _ _ _ h => h) (Or.inl ⟨by rfl, fun W hSw => ?_⟩) hHeld ?_
        rotate_left
        ·(try dsimp only at hSw); go_simp; (try with_reducible rfl)
        (try simp only [Act.put, List.setIfInBounds_toArray, List.set_cons_zero, List.set_cons_succ])
        refine wpAnyH_ready (rs := [1, 3]) (by kernel_rfl) (by simp) ?_
        refine (AllReadyH.cons (o := ⟨some 95, .load 23 (.tmp 94), 23, "law.go:175", #[⟨0, .data⟩], none⟩) rfl (fun K hK => ?_) (AllReadyH.cons (o := ⟨some 97, .load 61 (.tmp 5), 61, "law.go:175", #[], none⟩) rfl (fun K hK => ?_) AllReadyH.nil))
        ·rw [if_pos (by rfl)]
         have hcf := (hX0.keep (h12.trans (hbz.mono h12.size))).cell 1
         go_simp
         clear hcf
         refine hK.out _ _ (trivial) (fun hHeld => ?_)
         clear hK K
         (try simp only [Act.put, List.setIfInBounds_toArray, List.set_cons_zero, List.set_cons_succ])
         refine wpAnyH_ready (rs := [2, 3]) (by kernel_rfl) (by simp) ?_
         refine (AllReadyH.cons (o := ⟨some 96, .call { callee := .builtin .append, args := #[.const (.slice none 0 0), .tmp 95], argTypes := #[23, 23] }, 23, "law.go:175", #[⟨1, .data⟩], none⟩) rfl (fun K hK => ?_) (AllReadyH.cons (o := ⟨some 97, .load 61 (.tmp 5), 61, "law.go:175", #[], none⟩) rfl (fun K hK => ?_) AllReadyH.nil))
         ·rw [if_pos (by rfl)]
          refine wp_app_notes (.tmp 95) rfl w2.heap.size N ns.length d ns rfl rfl (hf.ns.keep (h12.trans (hbz.mono h12.size))) (by omega) hbz.size ?_
          intro M1 q1 wz hown hb1
          replace hbz := fr_call hbz hb1
          (try replace hG := hG.keep hb1)
          refine hK.out _ _ (trivial) (fun hHeld => ?_)
          clear hK K
          (try simp only [Act.put, List.setIfInBounds_toArray, List.set_cons_zero, List.set_cons_succ])
          refine wpAnyH_ready (rs := [3]) (by kernel_rfl) (by simp) ?_
          refine (AllReadyH.cons (o := ⟨some 97, .load 61 (.tmp 5), 61, "law.go:175", #[], none⟩) rfl (fun K hK => ?_) AllReadyH.nil)
          rw [if_pos (by rfl)]
          have hcx := fun j => (hX1.keep (h12.trans (hbz.mono h12.size))).cell j
          go_simp
          clear hcx
          refine hK.out _ _ (trivial) (fun hHeld => ?_)
          clear hK K
          (try simp only [Act.put, List.setIfInBounds_toArray, List.set_cons_zero, List.set_cons_succ])
          refine wpAnyH_ready (rs := [4]) (by kernel_rfl) (by simp) ?_
          refine (AllReadyH.cons (o := ⟨some 98, .buildSlice 23 1 #[(0, .tmp 97)], 23, "law.go:175", #[⟨3, .data⟩], none⟩) rfl (fun K hK => ?_) AllReadyH.nil)
          rw [if_pos (by rfl)]
          refine wp_build_note rfl rfl ?_
          intro gx wz hgz hG hb1
          replace hbz := fr_call hbz hb1
          (try replace hown := hown.keep hb1)
          refine hK.out _ _ (trivial) (fun hHeld => ?_)
          clear hK K
          (try simp only [Act.put, List.setIfInBounds_toArray, List.set_cons_zero, List.set_cons_succ])
          refine wpAnyH_ready (rs := [5]) (by kernel_rfl) (by simp) ?_
          refine (AllReadyH.cons (o := ⟨some 99, .call { callee := .builtin .append, args := #[.tmp 96, .tmp 98], argTypes := #[23, 23] }, 23, "law.go:175", #[⟨2, .data⟩, ⟨4, .data⟩, ⟨2, .chain⟩], none⟩) rfl (fun K hK => ?_) AllReadyH.nil)
          rw [if_pos (by rfl)]
          refine wp_app_row (.tmp 96) (.tmp 98) rfl Tryz.underlying23 info_noteG rfl (by omega) (by omega) w2.heap.size (.slice M1 ns.length q1) _ rfl hown gx rfl (r := Note.cells ⟨x0, x1, x2, x3, x4, x5, x6, x7, x8⟩) hG rfl (by intro u hu; simp only [Note.cells, List.mem_cons, List.not_mem_nil, or_false] at hu; rcases hu with rfl | rfl | rfl | rfl | rfl | rfl | rfl | rfl | rfl <;> rfl) (by rw [List.length_map]; omega) hbz.size ?_
          intro A2 c2 wz2 hown2 hgr
          have hbz2 := hbz.grown hgr hbz.size hown.ge
          have hY2 := hY.keep hbz2
          rw [List.length_map] at hown2 ⊢
          refine hK.out _ _ (trivial) (fun hHeld => ?_)
          clear hK K
          (try simp only [Act.put, List.setIfInBounds_toArray, List.set_cons_zero, List.set_cons_succ])
          refine wpAnyH_take (i := 6) (oi := ⟨some 100, .fieldAddr 25 (.tmp 13) 1, 0, "law.go:175", #[⟨0, .phase⟩, ⟨1, .phase⟩, ⟨2, .phase⟩, ⟨3, .phase⟩, ⟨4, .phase⟩, ⟨5, .phase⟩], none⟩) (v := ?_) rfl (by kernel_rfl) (by kernel_rfl) (by kernel_rfl) (fun _ _ _ h => h) (Or.inl ⟨by rfl, fun W hSw => ?_⟩) hHeld ?_
          rotate_left
          ·(try dsimp only at hSw); go_simp; (try with_reducible rfl)
          (try simp only [Act.put, List.setIfInBounds_toArray, List.set_cons_zero, List.set_cons_succ])
          refine wpAnyH_ready (rs := [7]) (by kernel_rfl) (by simp) ?_
          refine (AllReadyH.cons (o := ⟨none, .store 23 (.tmp 100) (.tmp 99), 0, "law.go:175", #[⟨6, .data⟩, ⟨5, .data⟩, ⟨5, .chain⟩, ⟨0, .phase⟩, ⟨1, .phase⟩, ⟨2, .phase⟩, ⟨3, .phase⟩, ⟨4, .phase⟩, ⟨5, .phase⟩], none⟩) rfl (fun K hK => ?_) AllReadyH.nil)
          rw [if_pos (by rfl)]
          have hcF := fun j => hY2.cell j
          have hfF := fun j => hY2.frozen j
          go_simp
          clear hcF hfF
          refine hK.out _ _ (trivial) (fun hHeld => ?_)
          clear hK K
          refine wpAnyH_done (by kernel_rfl) ?_ _
          refine NoPanic.normal ?_
          go_wp2_with fail
          go_meet
          case rel =>
           have hs := grown_set wz2 ⟨w1.heap.size, 1, none⟩ (.slice A2 (ns.length + 1) c2)
           have hbf := h12.trans (hbz2.mono h12.size)
           have hrd := (hown2.grownT hs (blk_notT hY2 (by decide))).rd
           have hblk := hY2.set_ 1 (.slice A2 (ns.length + 1) c2)
           have he := HNX.out
           refine ⟨A2, c2, ?_, ?_, hbf.grown hs hbf.size (by intro k hk; cases hk; exact Nat.le_refl _)⟩
           ·rw [← he, List.length_append]
            exact hblk
           ·rw [← he, List.map_append]
            exact hrd
         ·rw [if_pos (by rfl)]
          have hcx := fun j => (hX1.keep (h12.trans (hbz.mono h12.size))).cell j
          go_simp
          clear hcx
          refine hK.out _ _ (trivial) (fun hHeld => ?_)
          clear hK K
          (try simp only [Act.put, List.setIfInBounds_toArray, List.set_cons_zero, List.set_cons_succ])
          refine wpAnyH_ready (rs := [2, 4]) (by kernel_rfl) (by simp) ?_
          refine (AllReadyH.cons (o := ⟨some 96, .call { callee := .builtin .append, args := #[.const (.slice none 0 0), .tmp 95], argTypes := #[23, 23] }, 23, "law.go:175", #[⟨1, .data⟩], none⟩) rfl (fun K hK => ?_) (AllReadyH.cons (o := ⟨some 98, .buildSlice 23 1 #[(0, .tmp 97)], 23, "law.go:175", #[⟨3, .data⟩], none⟩) rfl (fun K hK => ?_) AllReadyH.nil))
          ·rw [if_pos (by rfl)]
           refine wp_app_notes (.tmp 95) rfl w2.heap.size N ns.length d ns rfl rfl (hf.ns.keep (h12.trans (hbz.mono h12.size))) (by omega) hbz.size ?_
           intro M1 q1 wz hown hb1
           replace hbz := fr_call hbz hb1
           (try replace hG := hG.keep hb1)
           refine hK.out _ _ (trivial) (fun hHeld => ?_)
           clear hK K
           (try simp only [Act.put, List.setIfInBounds_toArray, List.set_cons_zero, List.set_cons_succ])
           refine wpAnyH_ready (rs := [4]) (by kernel_rfl) (by simp) ?_
           refine (AllReadyH.cons (o := ⟨some 98, .buildSlice 23 1 #[(0, .tmp 97)], 23, "law.go:175", #[⟨3, .data⟩], none⟩) rfl (fun K hK => ?_) AllReadyH.nil)
           rw [if_pos (by rfl)]
           refine wp_build_note rfl rfl ?_
           intro gx wz hgz hG hb1
           replace hbz := fr_call hbz hb1
           (try replace hown := hown.keep hb1)
           refine hK.out _ _ (trivial) (fun hHeld => ?_)
           clear hK K
           (try simp only [Act.put, List.setIfInBounds_toArray, List.set_cons_zero, List.set_cons_succ])
           refine wpAnyH_ready (rs := [5]) (by kernel_rfl) (by simp) ?_
           refine (AllReadyH.cons (o := ⟨some 99, .call { callee := .builtin .append, args := #[.tmp 96, .tmp 98], argTypes := #[23, 23] }, 23, "law.go:175", #[⟨2, .data⟩, ⟨4, .data⟩, ⟨2, .chain⟩], none⟩) rfl (fun K hK => ?_) AllReadyH.nil)
           rw [if_pos (by rfl)]
           refine wp_app_row (.tmp 96) (.tmp 98) rfl Tryz.underlying23 info_noteG rfl (by omega) (by omega) w2.heap.size (.slice M1 ns.length q1) _ rfl hown gx rfl (r := Note.cells ⟨x0, x1, x2, x3, x4, x5, x6, x7, x8⟩) hG rfl (by intro u hu; simp only [Note.cells, List.mem_cons, List.not_mem_nil, or_false] at hu; rcases hu with rfl | rfl | rfl | rfl | rfl | rfl | rfl | rfl | rfl <;> rfl) (by rw [List.length_map]; omega) hbz.size ?_
           intro A2 c2 wz2 hown2 hgr
           have hbz2 := hbz.grown hgr hbz.size hown.ge
           have hY2 := hY.keep hbz2
           rw [List.length_map] at hown2 ⊢
           refine hK.out _ _ (trivial) (fun hHeld => ?_)
           clear hK K
           (try simp only [Act.put, List.setIfInBounds_toArray, List.set_cons_zero, List.set_cons_succ])
           refine wpAnyH_take (i := 6) (oi := ⟨some 100, .fieldAddr 25 (.tmp 13) 1, 0, "law.go:175", #[⟨0, .phase⟩, ⟨1, .phase⟩, ⟨2, .phase⟩, ⟨3, .phase⟩, ⟨4, .phase⟩, ⟨5, .phase⟩], none⟩) (v := ?_) rfl (by kernel_rfl) (by kernel_rfl) (by kernel_rfl) (fun _ _ _ h => h) (Or.inl ⟨by rfl, fun W hSw => ?_⟩) hHeld ?_
           rotate_left
           ·(try dsimp only at hSw); go_simp; (try with_reducible rfl)
           (try simp only [Act.put, List.setIfInBounds_toArray, List.set_cons_zero, List.set_cons_succ])
           refine wpAnyH_ready (rs := [7]) (by kernel_rfl) (by simp) ?_
           refine (AllReadyH.cons (o := ⟨none, .store 23 (.tmp 100) (.tmp 99), 0, "law.go:175", #[⟨6, .data⟩, ⟨5, .data⟩, ⟨5, .chain⟩, ⟨0, .phase⟩, ⟨1, .phase⟩, ⟨2, .phase⟩, ⟨3, .phase⟩, ⟨4, .phase⟩, ⟨5, .phase⟩], none⟩) rfl (fun K hK => ?_) AllReadyH.nil)
           rw [if_pos (by rfl)]
           have hcF := fun j => hY2.cell j
           have hfF := fun j => hY2.frozen j
           go_simp
           clear hcF hfF
           refine hK.out _ _ (trivial) (fun hHeld => ?_)
           clear hK K
           refine wpAnyH_done (by kernel_rfl) ?_ _
           refine NoPanic.normal ?_
           go_wp2_with fail
           go_meet
           case rel =>
            have hs := grown_set wz2 ⟨w1.heap.size, 1, none⟩ (.slice A2 (ns.length + 1) c2)
            have hbf := h12.trans (hbz2.mono h12.size)
            have hrd := (hown2.grownT hs (blk_notT hY2 (by decide))).rd
            have hblk := hY2.set_ 1 (.slice A2 (ns.length + 1) c2)
            have he := HNX.out
            refine ⟨A2, c2, ?_, ?_, hbf.grown hs hbf.size (by intro k hk; cases hk; exact Nat.le_refl _)⟩
            ·rw [← he, List.length_append]
             exact hblk
            ·rw [← he, List.map_append]
             exact hrd
          ·rw [if_pos (by rfl)]
           refine wp_build_note rfl rfl ?_
           intro gx wz hgz hG hb1
           replace hbz := fr_call hbz hb1
           (try replace hown := hown.keep hb1)
           refine hK.out _ _ (trivial) (fun hHeld => ?_)
           clear hK K
           (try simp only [Act.put, List.setIfInBounds_toArray, List.set_cons_zero, List.set_cons_succ])
           refine wpAnyH_ready (rs := [2]) (by kernel_rfl) (by simp) ?_
           refine (AllReadyH.cons (o := ⟨some 96, .call { callee := .builtin .append, args := #[.const (.slice none 0 0), .tmp 95], argTypes := #[23, 23] }, 23, "law.go:175", #[⟨1, .data⟩], none⟩) rfl (fun K hK => ?_) AllReadyH.nil)
           rw [if_pos (by rfl)]
           refine wp_app_notes (.tmp 95) rfl w2.heap.size N ns.length d ns rfl rfl (hf.ns.keep (h12.trans (hbz.mono h12.size))) (by omega) hbz.size ?_
           intro M1 q1 wz hown hb1
           replace hbz := fr_call hbz hb1
           (try replace hG := hG.keep hb1)
           refine hK.out _ _ (trivial) (fun hHeld => ?_)
           clear hK K
           (try simp only [Act.put, List.setIfInBounds_toArray, List.set_cons_zero, List.set_cons_succ])
           refine wpAnyH_ready (rs := [5]) (by kernel_rfl) (by simp) ?_
           refine (AllReadyH.cons (o := ⟨some 99, .call { callee := .builtin .append, args := #[.tmp 96, .tmp 98], argTypes := #[23, 23] }, 23, "law.go:175", #[⟨2, .data⟩, ⟨4, .data⟩, ⟨2, .chain⟩], none⟩) rfl (fun K hK => ?_) AllReadyH.nil)
           rw [if_pos (by rfl)]
           refine wp_app_row (.tmp 96) (.tmp 98) rfl Tryz.underlying23 info_noteG rfl (by omega) (by omega) w2.heap.size (.slice M1 ns.length q1) _ rfl hown gx rfl (r := Note.cells ⟨x0, x1, x2, x3, x4, x5, x6, x7, x8⟩) hG rfl (by intro u hu; simp only [Note.cells, List.mem_cons, List.not_mem_nil, or_false] at hu; rcases hu with rfl | rfl | rfl | rfl | rfl | rfl | rfl | rfl | rfl <;> rfl) (by rw [List.length_map]; omega) hbz.size ?_
           intro A2 c2 wz2 hown2 hgr
           have hbz2 := hbz.grown hgr hbz.size hown.ge
           have hY2 := hY.keep hbz2
           rw [List.length_map] at hown2 ⊢
           refine hK.out _ _ (trivial) (fun hHeld => ?_)
           clear hK K
           (try simp only [Act.put, List.setIfInBounds_toArray, List.set_cons_zero, List.set_cons_succ])
           refine wpAnyH_take (i := 6) (oi := ⟨some 100, .fieldAddr 25 (.tmp 13) 1, 0, "law.go:175", #[⟨0, .phase⟩, ⟨1, .phase⟩, ⟨2, .phase⟩, ⟨3, .phase⟩, ⟨4, .phase⟩, ⟨5, .phase⟩], none⟩) (v := ?_) rfl (by kernel_rfl) (by kernel_rfl) (by kernel_rfl) (fun _ _ _ h => h) (Or.inl ⟨by rfl, fun W hSw => ?_⟩) hHeld ?_
           rotate_left
           ·(try dsimp only at hSw); go_simp; (try with_reducible rfl)
           (try simp only [Act.put, List.setIfInBounds_toArray, List.set_cons_zero, List.set_cons_succ])
           refine wpAnyH_ready (rs := [7]) (by kernel_rfl) (by simp) ?_
           refine (AllReadyH.cons (o := ⟨none, .store 23 (.tmp 100) (.tmp 99), 0, "law.go:175", #[⟨6, .data⟩, ⟨5, .data⟩, ⟨5, .chain⟩, ⟨0, .phase⟩, ⟨1, .phase⟩, ⟨2, .phase⟩, ⟨3, .phase⟩, ⟨4, .phase⟩, ⟨5, .phase⟩], none⟩) rfl (fun K hK => ?_) AllReadyH.nil)
           rw [if_pos (by rfl)]
           have hcF := fun j => hY2.cell j
           have hfF := fun j => hY2.frozen j
           go_simp
           clear hcF hfF
           refine hK.out _ _ (trivial) (fun hHeld => ?_)
           clear hK K
           refine wpAnyH_done (by kernel_rfl) ?_ _
           refine NoPanic.normal ?_
           go_wp2_with fail
           go_meet
           case rel =>
            have hs := grown_set wz2 ⟨w1.heap.size, 1, none⟩ (.slice A2 (ns.length + 1) c2)
            have hbf := h12.trans (hbz2.mono h12.size)
            have hrd := (hown2.grownT hs (blk_notT hY2 (by decide))).rd
            have hblk := hY2.set_ 1 (.slice A2 (ns.length + 1) c2)
            have he := HNX.out
            refine ⟨A2, c2, ?_, ?_, hbf.grown hs hbf.size (by intro k hk; cases hk; exact Nat.le_refl _)⟩
            ·rw [← he, List.length_append]
             exact hblk
            ·rw [← he, List.map_append]
             exact hrd
        ·rw [if_pos (by rfl)]
         have hcx := fun j => (hX1.keep (h12.trans (hbz.mono h12.size))).cell j
         go_simp
         clear hcx
         refine hK.out _ _ (trivial) (fun hHeld => ?_)
         clear hK K
         (try simp only [Act.put, List.setIfInBounds_toArray, List.set_cons_zero, List.set_cons_succ])
         refine wpAnyH_ready (rs := [1, 4]) (by kernel_rfl) (by simp) ?_
         refine (AllReadyH.cons (o := ⟨some 95, .load 23 (.tmp 94), 23, "law.go:175", #[⟨0, .data⟩], none⟩) rfl (fun K hK => ?_) (AllReadyH.cons (o := ⟨some 98, .buildSlice 23 1 #[(0, .tmp 97)], 23, "law.go:175", #[⟨3, .data⟩], none⟩) rfl (fun K hK => ?_) AllReadyH.nil))
         ·rw [if_pos (by rfl)]
          have hcf := (hX0.keep (h12.trans (hbz.mono h12.size))).cell 1
          go_simp
          clear hcf
          refine hK.out _ _ (trivial) (fun hHeld => ?_)
          clear hK K
          (try simp only [Act.put, List.setIfInBounds_toArray, List.set_cons_zero, List.set_cons_succ])
          refine wpAnyH_ready (rs := [2, 4]) (by kernel_rfl) (by simp) ?_
          refine (AllReadyH.cons (o := ⟨some 96, .call { callee := .builtin .append, args := #[.const (.slice none 0 0), .tmp 95], argTypes := #[23, 23] }, 23, "law.go:175", #[⟨1, .data⟩], none⟩) rfl (fun K hK => ?_) (AllReadyH.cons (o := ⟨some 98, .buildSlice 23 1 #[(0, .tmp 97)], 23, "law.go:175", #[⟨3, .data⟩], none⟩) rfl (fun K hK => ?_) AllReadyH.nil))
          ·rw [if_pos (by rfl)]
           refine wp_app_notes (.tmp 95) rfl w2.heap.size N ns.length d ns rfl rfl (hf.ns.keep (h12.trans (hbz.mono h12.size))) (by omega) hbz.size ?_
           intro M1 q1 wz hown hb1
           replace hbz := fr_call hbz hb1
           (try replace hG := hG.keep hb1)
           refine hK.out _ _ (trivial) (fun hHeld => ?_)
           clear hK K
           (try simp only [Act.put, List.setIfInBounds_toArray, List.set_cons_zero, List.set_cons_succ])
           refine wpAnyH_ready (rs := [4]) (by kernel_rfl) (by simp) ?_
           refine (AllReadyH.cons (o := ⟨some 98, .buildSlice 23 1 #[(0, .tmp 97)], 23, "law.go:175", #[⟨3, .data⟩], none⟩) rfl (fun K hK => ?_) AllReadyH.nil)
           rw [if_pos (by rfl)]
           refine wp_build_note rfl rfl ?_
           intro gx wz hgz hG hb1
           replace hbz := fr_call hbz hb1
           (try replace hown := hown.keep hb1)
           refine hK.out _ _ (trivial) (fun hHeld => ?_)
           clear hK K
           (try simp only [Act.put, List.setIfInBounds_toArray, List.set_cons_zero, List.set_cons_succ])
           refine wpAnyH_ready (rs := [5]) (by kernel_rfl) (by simp) ?_
           refine (AllReadyH.cons (o := ⟨some 99, .call { callee := .builtin .append, args := #[.tmp 96, .tmp 98], argTypes := #[23, 23] }, 23, "law.go:175", #[⟨2, .data⟩, ⟨4, .data⟩, ⟨2, .chain⟩], none⟩) rfl (fun K hK => ?_) AllReadyH.nil)
           rw [if_pos (by rfl)]
           refine wp_app_row (.tmp 96) (.tmp 98) rfl Tryz.underlying23 info_noteG rfl (by omega) (by omega) w2.heap.size (.slice M1 ns.length q1) _ rfl hown gx rfl (r := Note.cells ⟨x0, x1, x2, x3, x4, x5, x6, x7, x8⟩) hG rfl (by intro u hu; simp only [Note.cells, List.mem_cons, List.not_mem_nil, or_false] at hu; rcases hu with rfl | rfl | rfl | rfl | rfl | rfl | rfl | rfl | rfl <;> rfl) (by rw [List.length_map]; omega) hbz.size ?_
           intro A2 c2 wz2 hown2 hgr
           have hbz2 := hbz.grown hgr hbz.size hown.ge
           have hY2 := hY.keep hbz2
           rw [List.length_map] at hown2 ⊢
           refine hK.out _ _ (trivial) (fun hHeld => ?_)
           clear hK K
           (try simp only [Act.put, List.setIfInBounds_toArray, List.set_cons_zero, List.set_cons_succ])
           refine wpAnyH_take (i := 6) (oi := ⟨some 100, .fieldAddr 25 (.tmp 13) 1, 0, "law.go:175", #[⟨0, .phase⟩, ⟨1, .phase⟩, ⟨2, .phase⟩, ⟨3, .phase⟩, ⟨4, .phase⟩, ⟨5, .phase⟩], none⟩) (v := ?_) rfl (by kernel_rfl) (by kernel_rfl) (by kernel_rfl) (fun _ _ _ h => h) (Or.inl ⟨by rfl, fun W hSw => ?_⟩) hHeld ?_
           rotate_left
           ·(try dsimp only at hSw); go_simp; (try with_reducible rfl)
           (try simp only [Act.put, List.setIfInBounds_toArray, List.set_cons_zero, List.set_cons_succ])
           refine wpAnyH_ready (rs := [7]) (by kernel_rfl) (by simp) ?_
           refine (AllReadyH.cons (o := ⟨none, .store 23 (.tmp 100) (.tmp 99), 0, "law.go:175", #[⟨6, .data⟩, ⟨5, .data⟩, ⟨5, .chain⟩, ⟨0, .phase⟩, ⟨1, .phase⟩, ⟨2, .phase⟩, ⟨3, .phase⟩, ⟨4, .phase⟩, ⟨5, .phase⟩], none⟩) rfl (fun K hK => ?_) AllReadyH.nil)
           rw [if_pos (by rfl)]
           have hcF := fun j => hY2.cell j
           have hfF := fun j => hY2.frozen j
           go_simp
           clear hcF hfF
           refine hK.out _ _ (trivial) (fun hHeld => ?_)
           clear hK K
           refine wpAnyH_done (by kernel_rfl) ?_ _
           refine NoPanic.normal ?_
           go_wp2_with fail
           go_meet
           case rel =>
            have hs := grown_set wz2 ⟨w1.heap.size, 1, none⟩ (.slice A2 (ns.length + 1) c2)
            have hbf := h12.trans (hbz2.mono h12.size)
            have hrd := (hown2.grownT hs (blk_notT hY2 (by decide))).rd
            have hblk := hY2.set_ 1 (.slice A2 (ns.length + 1) c2)
            have he := HNX.out
            refine ⟨A2, c2, ?_, ?_, hbf.grown hs hbf.size (by intro k hk; cases hk; exact Nat.le_refl _)⟩
            ·rw [← he, List.length_append]
             exact hblk
            ·rw [← he, List.map_append]
             exact hrd
          ·rw [if_pos (by rfl)]
           refine wp_build_note rfl rfl ?_
           intro gx wz hgz hG hb1
           replace hbz := fr_call hbz hb1
           (try replace hown := hown.keep hb1)
           refine hK.out _ _ (trivial) (fun hHeld => ?_)
           clear hK K
           (try simp only [Act.put, List.setIfInBounds_toArray, List.set_cons_zero, List.set_cons_succ])
           refine wpAnyH_ready (rs := [2]) (by kernel_rfl) (by simp) ?_
           refine (AllReadyH.cons (o := ⟨some 96, .call { callee := .builtin .append, args := #[.const (.slice none 0 0), .tmp 95], argTypes := #[23, 23] }, 23, "law.go:175", #[⟨1, .data⟩], none⟩) rfl (fun K hK => ?_) AllReadyH.nil)
           rw [if_pos (by rfl)]
           refine wp_app_notes (.tmp 95) rfl w2.heap.size N ns.length d ns rfl rfl (hf.ns.keep (h12.trans (hbz.mono h12.size))) (by omega) hbz.size ?_
           intro M1 q1 wz hown hb1
           replace hbz := fr_call hbz hb1
           (try replace hG := hG.keep hb1)
           refine hK.out _ _ (trivial) (fun hHeld => ?_)
           clear hK K
           (try simp only [Act.put, List.setIfInBounds_toArray, List.set_cons_zero, List.set_cons_succ])
           refine wpAnyH_ready (rs := [5]) (by kernel_rfl) (by simp) ?_
           refine (AllReadyH.cons (o := ⟨some 99, .call { callee := .builtin .append, args := #[.tmp 96, .tmp 98], argTypes := #[23, 23] }, 23, "law.go:175", #[⟨2, .data⟩, ⟨4, .data⟩, ⟨2, .chain⟩], none⟩) rfl (fun K hK => ?_) AllReadyH.nil)
           rw [if_pos (by rfl)]
           refine wp_app_row (.tmp 96) (.tmp 98) rfl Tryz.underlying23 info_noteG rfl (by omega) (by omega) w2.heap.size (.slice M1 ns.length q1) _ rfl hown gx rfl (r := Note.cells ⟨x0, x1, x2, x3, x4, x5, x6, x7, x8⟩) hG rfl (by intro u hu; simp only [Note.cells, List.mem_cons, List.not_mem_nil, or_false] at hu; rcases hu with rfl | rfl | rfl | rfl | rfl | rfl | rfl | rfl | rfl <;> rfl) (by rw [List.length_map]; omega) hbz.size ?_
           intro A2 c2 wz2 hown2 hgr
           have hbz2 := hbz.grown hgr hbz.size hown.ge
           have hY2 := hY.keep hbz2
           rw [List.length_map] at hown2 ⊢
           refine hK.out _ _ (trivial) (fun hHeld => ?_)
           clear hK K
           (try simp only [Act.put, List.setIfInBounds_toArray, List.set_cons_zero, List.set_cons_succ])
           refine wpAnyH_take (i := 6) (oi := ⟨some 100, .fieldAddr 25 (.tmp 13) 1, 0, "law.go:175", #[⟨0, .phase⟩, ⟨1, .phase⟩, ⟨2, .phase⟩, ⟨3, .phase⟩, ⟨4, .phase⟩, ⟨5, .phase⟩], none⟩) (v := ?_) rfl (by kernel_rfl) (by kernel_rfl) (by kernel_rfl) (fun _ _ _ h => h) (Or.inl ⟨by rfl, fun W hSw => ?_⟩) hHeld ?_
           rotate_left
           ·(try dsimp only at hSw); go_simp; (try with_reducible rfl)
           (try simp only [Act.put, List.setIfInBounds_toArray, List.set_cons_zero, List.set_cons_succ])
           refine wpAnyH_ready (rs := [7]) (by kernel_rfl) (by simp) ?_
           refine (AllReadyH.cons (o := ⟨none, .store 23 (.tmp 100) (.tmp 99), 0, "law.go:175", #[⟨6, .data⟩, ⟨5, .data⟩, ⟨5, .chain⟩, ⟨0, .phase⟩, ⟨1, .phase⟩, ⟨2, .phase⟩, ⟨3, .phase⟩, ⟨4, .phase⟩, ⟨5, .phase⟩], none⟩) rfl (fun K hK => ?_) AllReadyH.nil)
           rw [if_pos (by rfl)]
           have hcF := fun j => hY2.cell j
           have hfF := fun j => hY2.frozen j
           go_simp
           clear hcF hfF
           refine hK.out _ _ (trivial) (fun hHeld => ?_)
           clear hK K
           refine wpAnyH_done (by kernel_rfl) ?_ _
           refine NoPanic.normal ?_
           go_wp2_with fail
           go_meet
           case rel =>
            have hs := grown_set wz2 ⟨w1.heap.size, 1, none⟩ (.slice A2 (ns.length + 1) c2)
            have hbf := h12.trans (hbz2.mono h12.size)
            have hrd := (hown2.grownT hs (blk_notT hY2 (by decide))).rd
            have hblk := hY2.set_ 1 (.slice A2 (ns.length + 1) c2)
            have he := HNX.out
            refine ⟨A2, c2, ?_, ?_, hbf.grown hs hbf.size (by intro k hk; cases hk; exact Nat.le_refl _)⟩
            ·rw [← he, List.length_append]
             exact hblk
            ·rw [← he, List.map_append]
             exact hrd
         ·rw [if_pos (by rfl)]
          refine wp_build_note rfl rfl ?_
          intro gx wz hgz hG hb1
          replace hbz := fr_call hbz hb1
          (try replace hown := hown.keep hb1)
          refine hK.out _ _ (trivial) (fun hHeld => ?_)
          clear hK K
          (try simp only [Act.put, List.setIfInBounds_toArray, List.set_cons_zero, List.set_cons_succ])
          refine wpAnyH_ready (rs := [1]) (by kernel_rfl) (by simp) ?_
          refine (AllReadyH.cons (o := ⟨some 95, .load 23 (.tmp 94), 23, "law.go:175", #[⟨0, .data⟩], none⟩) rfl (fun K hK => ?_) AllReadyH.nil)
          rw [if_pos (by rfl)]
          have hcf := (hX0.keep (h12.trans (hbz.mono h12.size))).cell 1
          go_simp
          clear hcf
          refine hK.out _ _ (trivial) (fun hHeld => ?_)
          clear hK K
          (try simp only [Act.put, List.setIfInBounds_toArray, List.set_cons_zero, List.set_cons_succ])
          refine wpAnyH_ready (rs := [2]) (by kernel_rfl) (by simp) ?_
          refine (AllReadyH.cons (o := ⟨some 96, .call { callee := .builtin .append, args := #[.const (.slice none 0 0), .tmp 95], argTypes := #[23, 23] }, 23, "law.go:175", #[⟨1, .data⟩], none⟩) rfl (fun K hK => ?_) AllReadyH.nil)
          rw [if_pos (by rfl)]
          refine wp_app_notes (.tmp 95) rfl w2.heap.size N ns.length d ns rfl rfl (hf.ns.keep (h12.trans (hbz.mono h12.size))) (by omega) hbz.size ?_
          intro M1 q1 wz hown hb1
          replace hbz := fr_call hbz hb1
          (try replace hG := hG.keep hb1)
          refine hK.out _ _ (trivial) (fun hHeld => ?_)
          clear hK K
          (try simp only [Act.put, List.setIfInBounds_toArray, List.set_cons_zero, List.set_cons_succ])
          refine wpAnyH_ready (rs := [5]) (by kernel_rfl) (by simp) ?_
          refine (AllReadyH.cons (o := ⟨some 99, .call { callee := .builtin .append, args := #[.tmp 96, .tmp 98], argTypes := #[23, 23] }, 23, "law.go:175", #[⟨2, .data⟩, ⟨4, .data⟩, ⟨2, .chain⟩], none⟩) rfl (fun K hK => ?_) AllReadyH.nil)
          rw [if_pos (by rfl)]
          refine wp_app_row (.tmp 96) (.tmp 98) rfl Tryz.underlying23 info_noteG rfl (by omega) (by omega) w2.heap.size (.slice M1 ns.length q1) _ rfl hown gx rfl (r := Note.cells ⟨x0, x1, x2, x3, x4, x5, x6, x7, x8⟩) hG rfl (by intro u hu; simp only [Note.cells, List.mem_cons, List.not_mem_nil, or_false] at hu; rcases hu with rfl | rfl | rfl | rfl | rfl | rfl | rfl | rfl | rfl <;> rfl) (by rw [List.length_map]; omega) hbz.size ?_
          intro A2 c2 wz2 hown2 hgr
          have hbz2 := hbz.grown hgr hbz.size hown.ge
          have hY2 := hY.keep hbz2
          rw [List.length_map] at hown2 ⊢
          refine hK.out _ _ (trivial) (fun hHeld => ?_)
          clear hK K
          (try simp only [Act.put, List.setIfInBounds_toArray, List.set_cons_zero, List.set_cons_succ])
          refine wpAnyH_take (i := 6) (oi := ⟨some 100, .fieldAddr 25 (.tmp 13) 1, 0, "law.go:175", #[⟨0, .phase⟩, ⟨1, .phase⟩, ⟨2, .phase⟩, ⟨3, .phase⟩, ⟨4, .phase⟩, ⟨5, .phase⟩], none⟩) (v := ?_) rfl (by kernel_rfl) (by kernel_rfl) (by kernel_rfl) (fun _ _ _ h => h) (Or.inl ⟨by rfl, fun W hSw => ?_⟩) hHeld ?_
          rotate_left
          ·(try dsimp only at hSw); go_simp; (try with_reducible rfl)
          (try simp only [Act.put, List.setIfInBounds_toArray, List.set_cons_zero, List.set_cons_succ])
          refine wpAnyH_ready (rs := [7]) (by kernel_rfl) (by simp) ?_
          refine (AllReadyH.cons (o := ⟨none, .store 23 (.tmp 100) (.tmp 99), 0, "law.go:175", #[⟨6, .data⟩, ⟨5, .data⟩, ⟨5, .chain⟩, ⟨0, .phase⟩, ⟨1, .phase⟩, ⟨2, .phase⟩, ⟨3, .phase⟩, ⟨4, .phase⟩, ⟨5, .phase⟩], none⟩) rfl (fun K hK => ?_) AllReadyH.nil)
          rw [if_pos (by rfl)]
          have hcF := fun j => hY2.cell j
          have hfF := fun j => hY2.frozen j
          go_simp
          clear hcF hfF
          refine hK.out _ _ (trivial) (fun hHeld => ?_)
          clear hK K
          refine wpAnyH_done (by kernel_rfl) ?_ _
          refine NoPanic.normal ?_
          go_wp2_with fail
          go_meet
          case rel =>
           have hs := grown_set wz2 ⟨w1.heap.size, 1, none⟩ (.slice A2 (ns.length + 1) c2)
           have hbf := h12.trans (hbz2.mono h12.size)
           have hrd := (hown2.grownT hs (blk_notT hY2 (by decide))).rd
           have hblk := hY2.set_ 1 (.slice A2 (ns.length + 1) c2)
           have he := HNX.out
           refine ⟨A2, c2, ?_, ?_, hbf.grown hs hbf.size (by intro k hk; cases hk; exact Nat.le_refl _)⟩
           ·rw [← he, List.length_append]
            exact hblk
           ·rw [← he, List.map_append]
            exact hrd
       case rest =>
        obtain ⟨M, q, hY, hrM, hb⟩ := hcut
        replace hfr := fr_call hfr hb
        replace hf := hf.keep hb
        replace ho := ho.keep hb
        replace hD := hD.keep hb
        replace hX0 := hX0.keep hb
        replace hX1 := hX1.keep hb
        clear hb
        have hc0 := fun j => hX0.cell j
        have hl0 := hX0.lt
        have hc1 := fun j => hX1.cell j
        have hl1 := hX1.lt
        have hfx : FindAt wc A M ws nx := ⟨hf.ws, hrM⟩
        clear hrM h12
        have hcY := fun j => hY.cell j
        have hlY := hY.lt
        cases hfb : findB ws nx
        ·go_wp2_with fail
         refine (Find8_any A M ws.length nx.length c q ws nx _ hfx rfl rfl (by omega) (by omega) _ hfb).mono ?_
         rintro e' w3 ⟨rfl, hb⟩
         replace hfr := fr_call hfr hb
         clear hb
         go_wp2_with fail
         refine (known_is _ (hT.keep hfr) (hM.keep hfr)).mono ?_
         rintro e' w1 ⟨rfl, hb⟩
         replace hfr := fr_call hfr hb
         clear hb
         go_wp2_with fail
         go_ret
         exact ⟨rfl, hfr⟩
        ·obtain ⟨hle1, hle2⟩ := HMO.out hfb
         have hvx := find_ok hfb
         have HFB := Lib.hid hfb
         have hdx := fun W h => Doubts_ok A M c q ws nx W h hvx
         unfold RetD at hdx
         obtain ⟨p2, hp2⟩ : ∃ p, (doubtsL ws nx).length = p := ⟨_, rfl⟩
         have hpp := HP.out
         rw [hp2] at hle1 hle2 hdx
         rw [hpp] at hle1 hle2
         have a1 : (p : Int) ≤ (p2 : Int) := by omega
         have a2 : (p2 : Int) ≤ (p : Int) + 1 := by omega
         clear hvx hp2 hpp hle1 hle2 hfb
         go_wp2_with fail
         refine (Find8_any A M ws.length nx.length c q ws nx _ hfx rfl rfl (by omega) (by omega) _ HFB.out).mono ?_
         rintro e' w3 ⟨rfl, hb⟩
         replace hfr := fr_call hfr hb
         replace hfx := hfx.keep hb
         replace hY := hY.keep hb
         clear hb hcY hlY
         have hcY := fun j => hY.cell j
         have hlY := hY.lt
         go_wp2_with fail
         refine (hdx _ hfx).mono ?_
         rintro e' w4 ⟨D2, dc2, rfl, _, hb⟩
         replace hfr := fr_call hfr hb
         clear hb
         go_wp2_with fail
         refine (known_is _ (hT.keep hfr) (hM.keep hfr)).mono ?_
         rintro e' w1 ⟨rfl, hb⟩
         replace hfr := fr_call hfr hb
         clear hb
         go_wp2_with fail
         go_ret
         exact ⟨rfl, hfr⟩
     ·go_enter Tryz.func6, Tryz.ntmps6
      go_wp2_with fail
      refine (short_any A N ws.length ns.length c d _ _ s1).mono ?_
      rintro e' w1 ⟨rfl, hb⟩
      replace hfr := fr_call hfr hb
      replace hf := hf.keep hb
      replace ho := ho.keep hb
      replace hX0 := hX0.keep hb
      replace hX1 := hX1.keep hb
      clear hb hc0 hc1
      have hc0 := fun j => hX0.cell j
      have hl0 := hX0.lt
      have hc1 := fun j => hX1.cell j
      have hl1 := hX1.lt
      go_wp2_with fail
      refine (narrow_any A N ws.length ns.length c d ws ns _ hf rfl rfl (by omega) (by omega) _ n1).mono ?_
      rintro e' w1 ⟨rfl, hb⟩
      replace hfr := fr_call hfr hb
      replace hf := hf.keep hb
      replace ho := ho.keep hb
      replace hX0 := hX0.keep hb
      replace hX1 := hX1.keep hb
      clear hb hc0 hc1
      have hc0 := fun j => hX0.cell j
      have hl0 := hX0.lt
      have hc1 := fun j => hX1.cell j
      have hl1 := hX1.lt
      go_wp2_with fail
      refine (Find8_any A N ws.length ns.length c d ws ns _ hf rfl rfl (by omega) (by omega) _ f1).mono ?_
      rintro e' w1 ⟨rfl, hb⟩
      replace hfr := fr_call hfr hb
      replace hf := hf.keep hb
      replace ho := ho.keep hb
      replace hX0 := hX0.keep hb
      replace hX1 := hX1.keep hb
      clear hb hc0 hc1
      have hc0 := fun j => hX0.cell j
      have hl0 := hX0.lt
      have hc1 := fun j => hX1.cell j
      have hl1 := hX1.lt
      go_wp2_with fail
      refine (Rising8_any A N B ws.length ns.length k c d e o _ ho (by omega) (by omega) false (iff_of_false (by simp) r1)).mono ?_
      rintro e' w1 ⟨rfl, hb⟩
      replace hfr := fr_call hfr hb
      replace hf := hf.keep hb
      replace ho := ho.keep hb
      replace hX0 := hX0.keep hb
      replace hX1 := hX1.keep hb
      clear hb hc0 hc1
      have hc0 := fun j => hX0.cell j
      have hl0 := hX0.lt
      have hc1 := fun j => hX1.cell j
      have hl1 := hX1.lt
      go_wp2_with fail
      refine (known_is _ (hT.keep hfr) (hM.keep hfr)).mono ?_
      rintro e' w1 ⟨rfl, hb⟩
      replace hfr := fr_call hfr hb
      clear hb
      go_wp2_with fail
      go_ret
      exact ⟨rfl, hfr⟩
   ·have k1b : 9 < (k : Int) := by omega
    go_enter Tryz.func6, Tryz.ntmps6
    go_wp2_with fail
    refine (short_any A N ws.length ns.length c d _ _ s1).mono ?_
    rintro e' w1 ⟨rfl, hb⟩
    replace hfr := fr_call hfr hb
    replace hf := hf.keep hb
    replace ho := ho.keep hb
    replace hX0 := hX0.keep hb
    replace hX1 := hX1.keep hb
    clear hb hc0 hc1
    have hc0 := fun j => hX0.cell j
    have hl0 := hX0.lt
    have hc1 := fun j => hX1.cell j
    have hl1 := hX1.lt
    go_wp2_with fail
    refine (narrow_any A N ws.length ns.length c d ws ns _ hf rfl rfl (by omega) (by omega) _ n1).mono ?_
    rintro e' w1 ⟨rfl, hb⟩
    replace hfr := fr_call hfr hb
    replace hf := hf.keep hb
    replace ho := ho.keep hb
    replace hX0 := hX0.keep hb
    replace hX1 := hX1.keep hb
    clear hb hc0 hc1
    have hc0 := fun j => hX0.cell j
    have hl0 := hX0.lt
    have hc1 := fun j => hX1.cell j
    have hl1 := hX1.lt
    go_wp2_with fail
    refine (known_is _ (hT.keep hfr) (hM.keep hfr)).mono ?_
    rintro e' w1 ⟨rfl, hb⟩
    replace hfr := fr_call hfr hb
    clear hb
    go_wp2_with fail
    go_ret
    exact ⟨rfl, hfr⟩
end Go.Proofs.YthenlopnlaiodaaGreatDoor
end

section
namespace Go.Proofs.YthenlopnlaiodaaGreatDoor.cGuessFewest
open Go.ChangeShapes Go.WideShapes Go.ChangeAt Go.WideMaps Go.WideElems Go.RowKit
set_option maxRecDepth 100000

theorem lifted (os : Os) (started : os.Started) (H : Type) (enc : TypeId × Value → H) :
  ReturnsInHanded {} Tryz.checked os 6 .any (fun w args => (Rows.guessFewestSpec.pre enc Tryz.prog Tryz.f6 [] false w args ∧ laidMetH Tryz.prog laidT w) ∧ sizedMet enc Tryz.prog Tryz.f6 (OpenSpec.ofChange Rows.guessFewestSpec) false w args)
   (Rows.guessFewestSpec.post enc Tryz.prog Tryz.f6 false true false false) := by
 refine change_and_shaped (C := Tryz.checked) (X := fun w _ => laidMetH Tryz.prog laidT w) (fun _ _ _ hh h => h.of_heap hh) own_none started (by kernel_rfl) Tryz.func6
  (ChangeSpec.witness_shaped (enc := enc) (C := Tryz.checked) (os := os) (X := fun w _ => laidMetH Tryz.prog laidT w) false (doorT os) #[.agg #[.slice none 0 0, .slice none 0 0], .slice none 0 0, .agg #[.int .i64 0, .int .i64 0, .int .i64 0, .int .i64 0, .int .i64 0, .int .i64 0, .int .i64 0, .int .i64 0, .int .i64 0]] 8 rfl (World.shaped_of_RefB (by kernel_rfl) (by kernel_rfl)) (by kernel_rfl) (by kernel_rfl) (by kernel_rfl) (doorT_met os _)) ?_
 intro W base args ds gs before hval0 hW hL hsh
 have hval : ∀ (j : Nat) t v, Tryz.f6.params[j]? = some t → args[j]? = some v → Value.okWide Tryz.prog W .any base t v := hval0
 have hW' := hW
 obtain ⟨p, q, hA0, _, _, _, _⟩ := hW
 have hA : DataW.TrodAll enc Tryz.prog W 0 (fun _ => true) true Tryz.f6.params.toList args.toList ds p := hA0
 rw [Tryz.params6] at hA hval
 clear hA0 hval0
 obtain ⟨v0, vs0, d0, ds0, p0, q0, hargs, rfl, rfl, h0, r0⟩ := trodAll_cons hA
 obtain ⟨v1, vs1, d1, ds1, p1, q1, rfl, rfl, rfl, h1, r1⟩ := trodAll_cons r0
 obtain ⟨v2, vs2, d2, ds2, p2, q2, rfl, rfl, rfl, h2, r2⟩ := trodAll_cons r1
 obtain ⟨rfl, rfl, rfl⟩ := trodAll_nil r2
 obtain rfl : args = #[v0, v1, v2] := by cases args; simp_all
 obtain ⟨A0, N0, ws0, ns0, c0, m0, rfl, hf0, hn0, hm0⟩ := find_open (hval 0 25 v0 rfl rfl) h0
 obtain ⟨A1, n1, c1, xs1, rfl, hf1, hn1⟩ := ints_open (hval 1 34 v1 rfl rfl) h1
 obtain ⟨x2, rfl⟩ := note_open (hval 2 61 v2 rfl rfl) h2
 refine (fewest_true A0 N0 A1 c0 m0 c1 n1 ws0 ns0 xs1 x2.k x2.a x2.b x2.lo x2.hi x2.ln x2.ld x2.mn x2.md W hf0 hf1 (tabT_of_laid hL) (maxP_of hsh)).mono fun e W' ⟨he, hb⟩ => ?_
 subst he
 exact ⟨_, rfl, law_post (by kernel_rfl) (by kernel_rfl) rfl hW' rfl rfl rfl hb⟩

theorem row_holds : Rows.GuessFewestSaid :=
 OpenClaim.holds_of_wide 6 Tryz.f6 rfl rfl rfl rfl rfl rfl rfl ⟨rfl, rfl, rfl, rfl, rfl⟩ rfl rfl rfl rfl rfl (by kernel_rfl) Tryz.func6 (by kernel_rfl)
  (of_decide_eq_true (by kernel_rfl)) (by unfold Func.isWrapper; rw [if_neg (of_decide_eq_false (by kernel_rfl))]; exact ⟨rfl, rfl⟩)
  (fun os started H enc _ => lifted os started H enc)

theorem card_holds : Rows.GuessFewestCardSaid :=
 Claim7.holds_tied_plain_at .later [] [.data, .data, .data, .data, .pinned] true _ _ row_holds (fun _ h => by cases h) (by kernel_rfl) (fun _ h => by cases h) guessFewest_row_tie rfl ⟨rfl, rfl⟩ (by kernel_rfl) rfl
  (fun f fn hf hfn => by
   obtain rfl : f = 6 := Option.some.inj ((show Tryz.prog.funcNamed "tellurion/tellurionlaw08.GuessFewest" = some 6 by kernel_rfl).symm.trans hf) |>.symm
   obtain rfl : fn = Tryz.f6 := (Option.some.inj (Tryz.func6.symm.trans hfn)).symm
   exact ⟨by kernel_rfl, fun j t ht => by
    rw [Tryz.params6] at ht
    have hm : t ∈ [25, 34, 61] := by simpa using Array.mem_of_getElem? ht
    have hall : ([25, 34, 61].all fun u => !Tryz.prog.wantsStandIn u) = true := by kernel_rfl
    exact (show Tryz.prog.wantsStandIn t = false by simpa using List.all_eq_true.1 hall t hm)⟩)
  (by kernel_rfl)
end Go.Proofs.YthenlopnlaiodaaGreatDoor.cGuessFewest
end
