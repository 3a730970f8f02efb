/- Reference: SameFinds of two finds that are the same. The law GuessReads, walked (by gen_reads8.py). -/
import Derived.Test.YthenlopnlaiodaaGreatDoorMG11
import Derived.Test.YthenlopnlaiodaaGreatDoorMG2
import Derived.BigQuiet
import Derived.Test.YthenlopnlaiodaaGreatDoorMG23
import Derived.Test.YthenlopnlaiodaaGreatDoorMG13
import Derived.Test.YthenlopnlaiodaaGreatDoorMG20
section
namespace Go.Proofs.YthenlopnlaiodaaGreatDoor
open Go.RowKit Go.Shelf

set_option maxRecDepth 100000 in
set_option maxHeartbeats 8000000 in
theorem SameFinds_same (A N B M : Option Addr) (c d e k : Nat) (ws : List Wh) (ns : List Note) (w : World) (hf : FindAt w A N ws ns) (hg : FindAt w B M ws ns) (hn : ws.length ≤ 1000000) (hnm : ns.length ≤ 1000000) :
  Calls Tryz.prog 39 #[.agg #[.slice A ws.length c, .slice N ns.length d], .agg #[.slice B ws.length e, .slice M ns.length k]] w fun e' w' => e' = .returned (.bool true) ∧ Below w.heap.size w w' := by
 have hfr := fr_alloc (fr_alloc (fr_refl w) (.cells #[.slice A ws.length c, .slice N ns.length d] 25)) (.cells #[.slice B ws.length e, .slice M ns.length k] 25)
 have hX := (Blk.new w 25 #[.slice A ws.length c, .slice N ns.length d]).alloc (.cells #[.slice B ws.length e, .slice M ns.length k] 25)
 have hY : Blk ((w.alloc (.cells #[.slice A ws.length c, .slice N ns.length d] 25)).alloc (.cells #[.slice B ws.length e, .slice M ns.length k] 25)) (w.heap.size + 1) 25 #[.slice B ws.length e, .slice M ns.length k] := Blk.new_at _ _ (by simp)
 have hss := fun W h1 h2 => same_ref8.SameSpans A B ws.length ws.length c e ws ws W h1 h2 rfl rfl hn hn
 rw [show decide (ws = ws) = true from decide_eq_true rfl] at hss
 replace hf := hf.keep hfr
 replace hg := hg.keep hfr
 have hcX := fun j => hX.cell j
 have hcY := fun j => hY.cell j
 have hlX := hX.lt
 have hlY := hY.lt
 obtain ⟨m, hm⟩ : ∃ m, ns.length = m := ⟨_, rfl⟩
 have HM := Lib.hid hm
 rw [hm] at hnm hX hY hfr hcX hcY hlX hlY hf hg ⊢
 have hmm : ((m : Int) != (m : Int)) = false := by simp
 clear hm
 go_enter Tryz.func39, Tryz.ntmps39
 go_wp2_with fail
 refine (hss _ hf.ws hg.ws).mono ?_
 rintro e' w1 ⟨rfl, hb⟩
 replace hfr := fr_call hfr hb
 replace hX := hX.keep hb
 replace hY := hY.keep hb
 replace hf := hf.keep hb
 replace hg := hg.keep hb
 clear hb hcX hcY hss
 have hcX := fun j => hX.cell j
 have hcY := fun j => hY.cell j
 have hlX := hX.lt
 have hlY := hY.lt
 go_wp2_with fail
 go_loopw [5] (fun i wr => ∃ k : Nat, k ≤ m ∧ i = .int .i64 k ∧ Below w1.heap.size w1 wr) (fun i _ => m - (intOf i).toNat)
 case atStart => exact ⟨0, Nat.zero_le _, rfl, fr_refl _⟩
 case round =>
  obtain ⟨j, hj, rfl, hbr⟩ := hrel
  replace hX := hX.keep hbr
  replace hY := hY.keep hbr
  clear hcX hcY
  have hcX := fun j => hX.cell j
  have hcY := fun j => hY.cell j
  have hlX := hX.lt
  have hlY := hY.lt
  by_cases hlt : j < m
  ·have hjl : j < ns.length := by rw [HM.out]; exact hlt
   obtain ⟨ad, rfl, hab, hc0, hc1, hc2, hc3, hc4, hc5, hc6, hc7, hc8⟩ := notes_at (hf.ns.keep hbr) hjl
   obtain ⟨ae, rfl, hae, hd0, hd1, hd2, hd3, hd4, hd5, hd6, hd7, hd8⟩ := notes_at (hg.ns.keep hbr) hjl
   have i1 : 0 ≤ (j : Int) := by omega
   have i2 : (j : Int) < (m : Int) := by omega
   generalize ns[j] = x at *
   obtain ⟨x0, x1, x2, x3, x4, x5, x6, x7, x8⟩ := x
   simp only at hc0 hc1 hc2 hc3 hc4 hc5 hc6 hc7 hc8 hd0 hd1 hd2 hd3 hd4 hd5 hd6 hd7 hd8
   clear hf hg
   go_wp2_with fail
   go_quiet (fail)
   go_wp2_with fail
   go_roundw
   case rel => exact ⟨j + 1, hlt, by go_num, fr_drewN hbr _⟩
   case measure => simp [intOf]; omega
  ·obtain rfl : j = m := by omega
   clear hf hg
   go_wp2_with fail
   go_ret
   exact ⟨rfl, fr_call hfr hbr⟩
end Go.Proofs.YthenlopnlaiodaaGreatDoor
end

section
namespace Go.Proofs.YthenlopnlaiodaaGreatDoor
open Go.RowKit Go.Shelf

theorem FindAt.nil (w : World) : FindAt w none none [] [] := ⟨fun hn => absurd hn (by simp), fun hn => absurd hn (by simp)⟩
theorem rread_few {s : List UInt8} {ws : List Wh} {ns : List Note} (hs : s.length ≤ 600) (h : rreadG s = some (ws, ns)) : ws.length + ns.length ≤ 300 := by
 rw [rreadG_of] at h
 unfold readOfG at h
 split at h
 ·cases h
 ·rename_i f hf
  split at h
  ·cases h
   refine rgoG_few (R := pieces 10 s) (Nat.le_trans (pieces_sum 10 s) hs) hf
  ·cases h
set_option maxRecDepth 100000 in
set_option maxHeartbeats 16000000 in
theorem reads_none (s : List UInt8) (w : World) (hT : TabP w) (hM : MaxP w) (hs : s.length ≤ 600) (h5 : s.length ≤ 500) (HG : Hid (rreadG s = none)) (HG2 : Hid (gread s = none)) :
  Calls Tryz.prog 9 #[.string ⟨s.toArray⟩] w fun e' w' => e' = .returned (.bool true) ∧ Below w.heap.size w w' := by
 have hs1 : ¬ (600 < (s.length : Int)) := by omega
 have hfr := fr_refl w
 have hs2 : ¬ (500 < (s.length : Int)) := by omega
 go_enter Tryz.func9, Tryz.ntmps9
 go_wp2_with fail
 refine (Read_none s _ h5 hM hT HG2.out).mono ?_
 rintro e' w1 ⟨A, N, wc, nc, rfl, hF, hb⟩
 replace hfr := fr_call hfr hb
 clear hb
 go_wp2_with (refine wpList_store_blk rfl _ _ _ rfl w1.heap.size 25 _ _ rfl rfl (Blk.new w1 _ _) rfl (by kernel_rfl) (by simp [Value.oneCell']) ?_; intro w2 hS1 hgr; have hb : Below w1.heap.size w1 w2 := (fr_alloc (fr_refl w1) _).grown hgr (fr_alloc (fr_refl w1) _).size (by intro k hk; cases hk; exact Nat.le_refl _); replace hfr := fr_call hfr hb; replace hF := hF.keep hb; clear hb hgr; have hc1 := fun j => hS1.cell j; have hl1 := hS1.lt)
 refine (rRead8_any s _ hs).mono ?_
 rintro e' w3 ⟨hb, hrr⟩
 replace hfr := fr_call hfr hb
 replace hF := hF.keep hb
 replace hS1 := hS1.keep hb
 clear hc1
 have hc1 := fun j => hS1.cell j
 have hl1 := hS1.lt
 clear hb
 rcases hrr with ⟨hrn, rfl⟩ | ⟨vs, ms, B, M, vc, mc, hrs, rfl, hG⟩
 ·unfold readNo
  go_wp2_with (refine wpList_store_blk rfl _ _ _ rfl w3.heap.size 25 _ _ rfl rfl (Blk.new w3 _ _) rfl (by kernel_rfl) (by simp [Value.oneCell']) ?_; intro w4 hS2 hgr; have hb : Below w3.heap.size w3 w4 := (fr_alloc (fr_refl w3) _).grown hgr (fr_alloc (fr_refl w3) _).size (by intro k hk; cases hk; exact Nat.le_refl _); replace hfr := fr_call hfr hb; replace hF := hF.keep hb; replace hS1 := hS1.keep hb; clear hc1; have hc1 := fun j => hS1.cell j; replace hl1 := hS1.lt; clear hb hgr; have hc2 := fun j => hS2.cell j; have hl2 := hS2.lt)
  go_wp2_with fail
  refine (SameFinds_same _ _ none none _ _ 0 0 [] [] _ hF (FindAt.nil _) (by simp) (by simp)).mono ?_
  rintro e' w5 ⟨rfl, hb⟩
  replace hfr := fr_call hfr hb
  clear hb
  go_wp2_with fail
  refine (known_is _ (hT.keep hfr) (hM.keep hfr)).mono ?_
  rintro e' w9 ⟨rfl, hb⟩
  replace hfr := fr_call hfr hb
  clear hb
  go_wp2_with fail
  go_ret
  exact ⟨rfl, hfr⟩
 ·rw [HG.out] at hrs
  cases hrs
set_option maxRecDepth 100000 in
set_option maxHeartbeats 16000000 in
theorem reads_bad (s : List UInt8) (w : World) (hT : TabP w) (hM : MaxP w) (hs : s.length ≤ 600) (h5 : s.length ≤ 500) (ws : List Wh) (ns : List Note) (HG : Hid (rreadG s = some (ws, ns))) (HG2 : Hid (gread s = some (ws, ns))) (hvl : ws.length + ns.length ≤ 300) (HB : Hid (findB ws ns = false)) :
  Calls Tryz.prog 9 #[.string ⟨s.toArray⟩] w fun e' w' => e' = .returned (.bool true) ∧ Below w.heap.size w w' := by
 have hs1 : ¬ (600 < (s.length : Int)) := by omega
 have hfr := fr_refl w
 have hs2 : ¬ (500 < (s.length : Int)) := by omega
 go_enter Tryz.func9, Tryz.ntmps9
 go_wp2_with fail
 refine (Read_some s _ h5 hM hT ws ns HG2.out false HB.out (by omega)).mono ?_
 rintro e' w1 hp
 unfold ReadP at hp
 rcases hp with ⟨hp, _⟩ | ⟨_, A, N, wc, nc, rfl, hF, hb⟩
 ·cases hp
 ·replace hfr := fr_call hfr hb
  clear hb
  go_wp2_with (refine wpList_store_blk rfl _ _ _ rfl w1.heap.size 25 _ _ rfl rfl (Blk.new w1 _ _) rfl (by kernel_rfl) (by simp [Value.oneCell']) ?_; intro w2 hS1 hgr; have hb : Below w1.heap.size w1 w2 := (fr_alloc (fr_refl w1) _).grown hgr (fr_alloc (fr_refl w1) _).size (by intro k hk; cases hk; exact Nat.le_refl _); replace hfr := fr_call hfr hb; replace hF := hF.keep hb; clear hb hgr; have hc1 := fun j => hS1.cell j; have hl1 := hS1.lt)
  refine (rRead8_any s _ hs).mono ?_
  rintro e' w3 ⟨hb, hrr⟩
  replace hfr := fr_call hfr hb
  replace hF := hF.keep hb
  replace hS1 := hS1.keep hb
  clear hc1
  have hc1 := fun j => hS1.cell j
  have hl1 := hS1.lt
  clear hb
  rcases hrr with ⟨hrn, rfl⟩ | ⟨vs, ms, B, M, vc, mc, hrs, rfl, hG⟩
  ·unfold readNo
   rw [HG.out] at hrn
   cases hrn
  ·rw [HG.out] at hrs
   cases hrs
   go_wp2_with (refine wpList_store_blk rfl _ _ _ rfl w3.heap.size 25 _ _ rfl rfl (Blk.new w3 _ _) rfl (by kernel_rfl) (by simp [Value.oneCell']) ?_; intro w4 hS2 hgr; have hb : Below w3.heap.size w3 w4 := (fr_alloc (fr_refl w3) _).grown hgr (fr_alloc (fr_refl w3) _).size (by intro k hk; cases hk; exact Nat.le_refl _); replace hfr := fr_call hfr hb; replace hF := hF.keep hb; replace hG := hG.keep hb; replace hS1 := hS1.keep hb; clear hc1; have hc1 := fun j => hS1.cell j; replace hl1 := hS1.lt; clear hb hgr; have hc2 := fun j => hS2.cell j; have hl2 := hS2.lt)
   refine (Find8_any B M ws.length ns.length vc mc ws ns _ hG rfl rfl (by omega) (by omega) false HB.out).mono ?_
   rintro e' w6 ⟨rfl, hb⟩
   replace hfr := fr_call hfr hb
   replace hF := hF.keep hb
   replace hG := hG.keep hb
   replace hS1 := hS1.keep hb
   clear hc1
   have hc1 := fun j => hS1.cell j
   have hl1 := hS1.lt
   replace hS2 := hS2.keep hb
   clear hc2
   have hc2 := fun j => hS2.cell j
   have hl2 := hS2.lt
   clear hb
   go_wp2_with fail
   refine (SameFinds_same _ _ none none _ _ 0 0 [] [] _ hF (FindAt.nil _) (by simp) (by simp)).mono ?_
   rintro e' w5 ⟨rfl, hb⟩
   replace hfr := fr_call hfr hb
   clear hb
   go_wp2_with fail
   refine (known_is _ (hT.keep hfr) (hM.keep hfr)).mono ?_
   rintro e' w9 ⟨rfl, hb⟩
   replace hfr := fr_call hfr hb
   clear hb
   go_wp2_with fail
   go_ret
   exact ⟨rfl, hfr⟩
set_option maxRecDepth 100000 in
set_option maxHeartbeats 16000000 in
theorem reads_good (s : List UInt8) (w : World) (hT : TabP w) (hM : MaxP w) (hs : s.length ≤ 600) (h5 : s.length ≤ 500) (ws : List Wh) (ns : List Note) (HG : Hid (rreadG s = some (ws, ns))) (HG2 : Hid (gread s = some (ws, ns))) (hvl : ws.length + ns.length ≤ 300) (HB : Hid (findB ws ns = true)) (hv : Hid (FindOk ws ns)) (HTX : Hid (s = findText ws ns)) :
  Calls Tryz.prog 9 #[.string ⟨s.toArray⟩] w fun e' w' => e' = .returned (.bool true) ∧ Below w.heap.size w w' := by
 have hs1 : ¬ (600 < (s.length : Int)) := by omega
 have hfr := fr_refl w
 have hs2 : ¬ (500 < (s.length : Int)) := by omega
 go_enter Tryz.func9, Tryz.ntmps9
 go_wp2_with fail
 refine (Read_some s _ h5 hM hT ws ns HG2.out true HB.out (by omega)).mono ?_
 rintro e' w1 hp
 unfold ReadP at hp
 rcases hp with ⟨_, A, N, wc, nc, rfl, hF, hb⟩ | ⟨hp, _⟩
 ·replace hfr := fr_call hfr hb
  clear hb
  go_wp2_with (refine wpList_store_blk rfl _ _ _ rfl w1.heap.size 25 _ _ rfl rfl (Blk.new w1 _ _) rfl (by kernel_rfl) (by simp [Value.oneCell']) ?_; intro w2 hS1 hgr; have hb : Below w1.heap.size w1 w2 := (fr_alloc (fr_refl w1) _).grown hgr (fr_alloc (fr_refl w1) _).size (by intro k hk; cases hk; exact Nat.le_refl _); replace hfr := fr_call hfr hb; replace hF := hF.keep hb; clear hb hgr; have hc1 := fun j => hS1.cell j; have hl1 := hS1.lt)
  refine (rRead8_any s _ hs).mono ?_
  rintro e' w3 ⟨hb, hrr⟩
  replace hfr := fr_call hfr hb
  replace hF := hF.keep hb
  replace hS1 := hS1.keep hb
  clear hc1
  have hc1 := fun j => hS1.cell j
  have hl1 := hS1.lt
  clear hb
  rcases hrr with ⟨hrn, rfl⟩ | ⟨vs, ms, B, M, vc, mc, hrs, rfl, hG⟩
  ·unfold readNo
   rw [HG.out] at hrn
   cases hrn
  ·rw [HG.out] at hrs
   cases hrs
   go_wp2_with (refine wpList_store_blk rfl _ _ _ rfl w3.heap.size 25 _ _ rfl rfl (Blk.new w3 _ _) rfl (by kernel_rfl) (by simp [Value.oneCell']) ?_; intro w4 hS2 hgr; have hb : Below w3.heap.size w3 w4 := (fr_alloc (fr_refl w3) _).grown hgr (fr_alloc (fr_refl w3) _).size (by intro k hk; cases hk; exact Nat.le_refl _); replace hfr := fr_call hfr hb; replace hF := hF.keep hb; replace hG := hG.keep hb; replace hS1 := hS1.keep hb; clear hc1; have hc1 := fun j => hS1.cell j; replace hl1 := hS1.lt; clear hb hgr; have hc2 := fun j => hS2.cell j; have hl2 := hS2.lt)
   refine (Find8_any B M ws.length ns.length vc mc ws ns _ hG rfl rfl (by omega) (by omega) true HB.out).mono ?_
   rintro e' w6 ⟨rfl, hb⟩
   replace hfr := fr_call hfr hb
   replace hF := hF.keep hb
   replace hG := hG.keep hb
   replace hS1 := hS1.keep hb
   clear hc1
   have hc1 := fun j => hS1.cell j
   have hl1 := hS1.lt
   replace hS2 := hS2.keep hb
   clear hc2
   have hc2 := fun j => hS2.cell j
   have hl2 := hS2.lt
   clear hb
   go_wp2_with fail
   refine (Print_ok A N wc nc ws ns _ hF hv.out (hT.keep hfr)).mono ?_
   rw [← HTX.out]
   rintro e' w7 ⟨rfl, hb⟩
   replace hfr := fr_call hfr hb
   replace hF := hF.keep hb
   replace hG := hG.keep hb
   replace hS1 := hS1.keep hb
   clear hc1
   have hc1 := fun j => hS1.cell j
   have hl1 := hS1.lt
   replace hS2 := hS2.keep hb
   clear hc2
   have hc2 := fun j => hS2.cell j
   have hl2 := hS2.lt
   clear hb
   go_wp2_with fail
   refine (SameFinds_same A N B M wc nc vc mc ws ns _ hF hG (by omega) (by omega)).mono ?_
   rintro e' w8 ⟨rfl, hb⟩
   replace hfr := fr_call hfr hb
   clear hb
   go_wp2_with fail
   refine (known_is _ (hT.keep hfr) (hM.keep hfr)).mono ?_
   rintro e' w9 ⟨rfl, hb⟩
   replace hfr := fr_call hfr hb
   clear hb
   go_wp2_with fail
   go_ret
   exact ⟨rfl, hfr⟩
 ·cases hp
set_option maxRecDepth 100000 in
set_option maxHeartbeats 16000000 in
theorem reads_long (s : List UInt8) (w : World) (hT : TabP w) (hM : MaxP w) (hs : s.length ≤ 600) (h5 : ¬ s.length ≤ 500) :
  Calls Tryz.prog 9 #[.string ⟨s.toArray⟩] w fun e' w' => e' = .returned (.bool true) ∧ Below w.heap.size w w' := by
 have hs1 : ¬ (600 < (s.length : Int)) := by omega
 have hfr := fr_refl w
 have hs2 : 500 < (s.length : Int) := by omega
 go_enter Tryz.func9, Tryz.ntmps9
 go_wp2_with fail
 refine (Read_long s _ (by omega)).mono ?_
 rintro e' w1 ⟨A, N, wc, nc, rfl, hF, hb⟩
 replace hfr := fr_call hfr hb
 clear hb
 go_wp2_with (refine wpList_store_blk rfl _ _ _ rfl w1.heap.size 25 _ _ rfl rfl (Blk.new w1 _ _) rfl (by kernel_rfl) (by simp [Value.oneCell']) ?_; intro w2 hS1 hgr; have hb : Below w1.heap.size w1 w2 := (fr_alloc (fr_refl w1) _).grown hgr (fr_alloc (fr_refl w1) _).size (by intro k hk; cases hk; exact Nat.le_refl _); replace hfr := fr_call hfr hb; replace hF := hF.keep hb; clear hb hgr; have hc1 := fun j => hS1.cell j; have hl1 := hS1.lt)
 refine (rRead8_any s _ hs).mono ?_
 rintro e' w3 ⟨hb, hrr⟩
 replace hfr := fr_call hfr hb
 replace hF := hF.keep hb
 replace hS1 := hS1.keep hb
 clear hc1
 have hc1 := fun j => hS1.cell j
 have hl1 := hS1.lt
 clear hb
 rcases hrr with ⟨hrn, rfl⟩ | ⟨vs, ms, B, M, vc, mc, hrs, rfl, hG⟩
 ·unfold readNo
  go_wp2_with (refine wpList_store_blk rfl _ _ _ rfl w3.heap.size 25 _ _ rfl rfl (Blk.new w3 _ _) rfl (by kernel_rfl) (by simp [Value.oneCell']) ?_; intro w4 hS2 hgr; have hb : Below w3.heap.size w3 w4 := (fr_alloc (fr_refl w3) _).grown hgr (fr_alloc (fr_refl w3) _).size (by intro k hk; cases hk; exact Nat.le_refl _); replace hfr := fr_call hfr hb; replace hF := hF.keep hb; replace hS1 := hS1.keep hb; clear hc1; have hc1 := fun j => hS1.cell j; replace hl1 := hS1.lt; clear hb hgr; have hc2 := fun j => hS2.cell j; have hl2 := hS2.lt)
  go_wp2_with fail
  refine (SameFinds_same _ _ none none _ _ 0 0 [] [] _ hF (FindAt.nil _) (by simp) (by simp)).mono ?_
  rintro e' w5 ⟨rfl, hb⟩
  replace hfr := fr_call hfr hb
  clear hb
  go_wp2_with fail
  refine (known_is _ (hT.keep hfr) (hM.keep hfr)).mono ?_
  rintro e' w9 ⟨rfl, hb⟩
  replace hfr := fr_call hfr hb
  clear hb
  go_wp2_with fail
  go_ret
  exact ⟨rfl, hfr⟩
 ·go_wp2_with (refine wpList_store_blk rfl _ _ _ rfl w3.heap.size 25 _ _ rfl rfl (Blk.new w3 _ _) rfl (by kernel_rfl) (by simp [Value.oneCell']) ?_; intro w4 hS2 hgr; have hb : Below w3.heap.size w3 w4 := (fr_alloc (fr_refl w3) _).grown hgr (fr_alloc (fr_refl w3) _).size (by intro k hk; cases hk; exact Nat.le_refl _); replace hfr := fr_call hfr hb; replace hF := hF.keep hb; replace hG := hG.keep hb; replace hS1 := hS1.keep hb; clear hc1; have hc1 := fun j => hS1.cell j; replace hl1 := hS1.lt; clear hb hgr; have hc2 := fun j => hS2.cell j; have hl2 := hS2.lt)
  go_wp2_with fail
  refine (SameFinds_same _ _ none none _ _ 0 0 [] [] _ hF (FindAt.nil _) (by simp) (by simp)).mono ?_
  rintro e' w5 ⟨rfl, hb⟩
  replace hfr := fr_call hfr hb
  clear hb
  go_wp2_with fail
  refine (known_is _ (hT.keep hfr) (hM.keep hfr)).mono ?_
  rintro e' w9 ⟨rfl, hb⟩
  replace hfr := fr_call hfr hb
  clear hb
  go_wp2_with fail
  go_ret
  exact ⟨rfl, hfr⟩
set_option maxRecDepth 100000 in
set_option maxHeartbeats 16000000 in
theorem reads_true (s : List UInt8) (w : World) (hT : TabP w) (hM : MaxP w) :
  Calls Tryz.prog 9 #[.string ⟨s.toArray⟩] w fun e' w' => e' = .returned (.bool true) ∧ Below w.heap.size w w' := by
 by_cases hs : s.length ≤ 600
 ·by_cases h5 : s.length ≤ 500
  ·have hsame := readG_same s (by omega)
   cases hg : gread s with
   | none => exact reads_none s w hT hM hs h5 (Lib.hid (hsame.trans hg)) (Lib.hid hg)
   | some f =>
    obtain ⟨ws, ns⟩ := f
    have HG := Lib.hid (hsame.trans hg)
    have hvl := rread_few hs HG.out
    cases hb0 : findB ws ns with
    | false => exact reads_bad s w hT hM hs h5 ws ns HG (Lib.hid hg) hvl (Lib.hid hb0)
    | true => exact reads_good s w hT hM hs h5 ws ns HG (Lib.hid hg) hvl (Lib.hid hb0) (Lib.hid (find_ok hb0)) (Lib.hid (gread_some hg).1)
  ·exact reads_long s w hT hM hs h5
 ·have hs1 : 600 < (s.length : Int) := by omega
  have hfr := fr_refl w
  go_enter Tryz.func9, Tryz.ntmps9
  go_wp2_with fail
  refine (known_is _ (hT.keep hfr) (hM.keep hfr)).mono ?_
  rintro e' w9 ⟨rfl, hb⟩
  replace hfr := fr_call hfr hb
  clear hb
  go_wp2_with fail
  go_ret
  exact ⟨rfl, hfr⟩
end Go.Proofs.YthenlopnlaiodaaGreatDoor
end
