/- Reference: lists that are the same; the pairs and the teeth of trains. Reference: lists of trains that are the same; the pairs and the teeth of trains; trains of a find. Reference: which train comes before. Plain: guesses and trains, for the laws. -/
import Derived.Test.YtfgghicdkcjdgaaGreatDoorMG10
import Derived.StillTailTactics
import Derived.Test.YtfgghicdkcjdgaaGreatDoorMG4
section
namespace Go.Proofs.YtfgghicdkcjdgaaGreatDoor
open Go.RowKit Go.Shelf

instance : DecidableEq Wh := fun a b =>
 if h : a.lo = b.lo ∧ a.hi = b.hi then isTrue (by cases a; cases b; simp_all) else isFalse (fun e => h (by rw [e]; exact ⟨rfl, rfl⟩))
theorem take_eq_succ {α : Type} {xs ys : List α} {i : Nat} (h : xs.take i = ys.take i) (h1 : i < xs.length) (h2 : i < ys.length) (he : xs[i] = ys[i]) : xs.take (i + 1) = ys.take (i + 1) := by
 rw [List.take_succ_eq_append_getElem h1, List.take_succ_eq_append_getElem h2, h, he]
theorem ne_at {α : Type} {xs ys : List α} {i : Nat} (h1 : i < xs.length) (h2 : i < ys.length) (he : xs[i] ≠ ys[i]) : ¬ xs = ys := fun e => by subst e; exact he rfl
set_option maxRecDepth 100000 in
set_option maxHeartbeats 4000000 in
theorem same1_any (A B : Option Addr) (n m c d : Nat) (xs ys : List Int) (w : World) (hx : Rd w A n xs) (hy : Rd w B m ys) (hn : n ≤ 1000000) (hm : m ≤ 1000000) :
  Calls Tryz.prog 96 #[.slice A n c, .slice B m d] w fun e w' => e = .returned (.bool (decide (xs = ys))) ∧ Below w.heap.size w w' := by
 have hxl := hx.len
 have hyl := hy.len
 by_cases hl : n = m
 ·subst hl
  have hlb : ((n : Int) == (n : Int)) = true := by simp
  have HX := Lib.hid hxl
  have HY := Lib.hid hyl
  clear hxl hyl
  go_enter Tryz.func96, Tryz.ntmps96
  go_wp2_with fail
  go_loopw [5] (fun t wr => ∃ i : Nat, i ≤ n ∧ t = .int .i64 i ∧ Hid (xs.take i = ys.take i) ∧ Below w.heap.size w wr) (fun t _ => n - (intOf t).toNat)
  case atStart => exact ⟨0, Nat.zero_le _, rfl, Lib.hid rfl, fr_refl _⟩
  case round =>
   obtain ⟨i, hi, rfl, heq, hbr⟩ := hrel
   by_cases hlt : i < n
   ·obtain ⟨ad, rfl, hab, hc⟩ := (hx.keep hbr).at_ hlt
    obtain ⟨ae, rfl, hae, hd⟩ := (hy.keep hbr).at_ hlt
    have h1 : i < xs.length := by rw [HX.out]; exact hlt
    have h2 : i < ys.length := by rw [HY.out]; exact hlt
    have g1 : xs[i]?.getD 0 = xs[i] := by rw [List.getElem?_eq_getElem h1]; rfl
    have g2 : ys[i]?.getD 0 = ys[i] := by rw [List.getElem?_eq_getElem h2]; rfl
    rw [g1] at hc
    rw [g2] at hd
    have hne := fun h => ne_at (xs := xs) (ys := ys) h1 h2 h
    have heq2 := fun h => take_eq_succ heq.out h1 h2 h
    have q1 : 0 ≤ (i : Int) := by omega
    have q2 : (i : Int) < (n : Int) := by omega
    clear g1 g2 hx hy
    generalize xs[i] = x at *
    generalize ys[i] = y at *
    by_cases hxy : x = y
    ·have hb : (x == y) = true := beq_iff_eq.2 hxy
     have HE := Lib.hid (heq2 hxy)
     clear hxy hne heq2
     go_wp2_with fail
     go_still (by kernel_rfl)
     go_wp2_with fail
     refine ⟨⟨i + 1, hlt, rfl, HE, fr_call hbr (fr_drew (fr_refl _))⟩, ?_⟩
     simp [intOf]; omega
    ·have hb : (x == y) = false := beq_eq_false_iff_ne.2 hxy
     have HE := Lib.hid (hne hxy)
     clear hxy hne heq2
     go_wp2_with fail
     go_still (by kernel_rfl)
     go_wp2_with fail
     go_ret
     exact ⟨ret_bool (by rw [decide_eq_false HE.out]), fr_call hbr (fr_drew (fr_refl _))⟩
   ·obtain rfl : i = n := by omega
    go_wp2_with fail
    go_ret
    refine ⟨ret_bool ?_, hbr⟩
    have := heq.out
    rw [List.take_of_length_le (by rw [HX.out]; exact Nat.le_refl _), List.take_of_length_le (by rw [HY.out]; exact Nat.le_refl _)] at this
    rw [decide_eq_true this]
 ·have hlb : ((n : Int) == (m : Int)) = false := beq_eq_false_iff_ne.2 (by omega)
  have HE := Lib.hid (show ¬ xs = ys from fun e => hl (by rw [← hxl, ← hyl, e]))
  clear hl hxl hyl
  go_enter Tryz.func96, Tryz.ntmps96
  go_wp2_with fail
  go_ret
  exact ⟨ret_bool (by rw [decide_eq_false HE.out]), fr_refl _⟩
set_option maxHeartbeats 1000000 in
theorem same_any (A B : Option Addr) (n m c d : Nat) (xs ys : List Int) (w : World) (hx : Rd w A n xs) (hy : Rd w B m ys) (hn : n ≤ 1000000) (hm : m ≤ 1000000) :
  Calls Tryz.prog 41 #[.slice A n c, .slice B m d] w fun e w' => e = .returned (.bool (decide (xs = ys))) ∧ Below w.heap.size w w' := by
 have h := same1_any A B n m c d xs ys w hx hy hn hm
 go_enter Tryz.func41, Tryz.ntmps41
 go_wp2_with fail
 refine h.mono ?_
 rintro e w' ⟨rfl, hb⟩
 go_wp2_with fail
 go_ret
 exact ⟨rfl, hb⟩
set_option maxRecDepth 100000 in
set_option maxHeartbeats 4000000 in
theorem same_ref8.SameSpans (A B : Option Addr) (n m c d : Nat) (xs ys : List Wh) (w : World) (hx : RdS w A 2 (xs.map Wh.cells)) (hy : RdS w B 2 (ys.map Wh.cells)) (hxl : xs.length = n) (hyl : ys.length = m) (hn : n ≤ 1000000) (hm : m ≤ 1000000) :
  Calls Tryz.prog 42 #[.slice A n c, .slice B m d] w fun e w' => e = .returned (.bool (decide (xs = ys))) ∧ Below w.heap.size w w' := by
 by_cases hl : n = m
 ·subst hl
  have hlb : ((n : Int) == (n : Int)) = true := by simp
  have HX := Lib.hid hxl
  have HY := Lib.hid hyl
  clear hxl hyl
  go_enter Tryz.func42, Tryz.ntmps42
  go_wp2_with fail
  go_loopw [5] (fun t wr => ∃ i : Nat, i ≤ n ∧ t = .int .i64 i ∧ Hid (xs.take i = ys.take i) ∧ Below w.heap.size w wr) (fun t _ => n - (intOf t).toNat)
  case atStart => exact ⟨0, Nat.zero_le _, rfl, Lib.hid rfl, fr_refl _⟩
  case round =>
   obtain ⟨i, hi, rfl, heq, hbr⟩ := hrel
   by_cases hlt : i < n
   ·have h1 : i < xs.length := by rw [HX.out]; exact hlt
    have h2 : i < ys.length := by rw [HY.out]; exact hlt
    obtain ⟨ad, rfl, hab, hc0, hc1⟩ := whs_at (hx.keep hbr) h1
    obtain ⟨ae, rfl, hae, hd0, hd1⟩ := whs_at (hy.keep hbr) h2
    have hne := fun h => ne_at (xs := xs) (ys := ys) h1 h2 h
    have heq2 := fun h => take_eq_succ heq.out h1 h2 h
    have q1 : 0 ≤ (i : Int) := by omega
    have q2 : (i : Int) < (n : Int) := by omega
    clear hx hy
    generalize xs[i] = x at *
    generalize ys[i] = y at *
    obtain ⟨x1, x2⟩ := x
    obtain ⟨y1, y2⟩ := y
    simp only at hc0 hc1 hd0 hd1
    by_cases hxy : x1 = y1
    ·subst hxy
     by_cases hxz : x2 = y2
     ·subst hxz
      have HE := Lib.hid (heq2 rfl)
      have hb1 : (x1 == x1) = true := beq_self_eq_true _
      have hb2 : (x2 == x2) = true := beq_self_eq_true _
      clear hne heq2
      go_wp2_with fail
      go_still (by kernel_rfl)
      go_wp2_with fail
      refine ⟨⟨i + 1, hlt, rfl, HE, fr_call hbr (fr_drew (fr_refl _))⟩, ?_⟩
      simp [intOf]; omega
     ·have HE := Lib.hid (hne (fun e => hxz (congrArg Wh.hi e)))
      have hb1 : (x1 == x1) = true := beq_self_eq_true _
      have hb2 : (x2 == y2) = false := beq_eq_false_iff_ne.2 hxz
      clear hxz hne heq2
      go_wp2_with fail
      go_still (by kernel_rfl)
      go_wp2_with fail
      go_ret
      exact ⟨ret_bool (by rw [decide_eq_false HE.out]), fr_call hbr (fr_drew (fr_refl _))⟩
    ·have HE := Lib.hid (hne (fun e => hxy (congrArg Wh.lo e)))
     have hb1 : (x1 == y1) = false := beq_eq_false_iff_ne.2 hxy
     clear hxy hne heq2
     go_wp2_with fail
     go_still (by kernel_rfl)
     go_wp2_with fail
     go_ret
     exact ⟨ret_bool (by rw [decide_eq_false HE.out]), fr_call hbr (fr_drew (fr_refl _))⟩
   ·obtain rfl : i = n := by omega
    go_wp2_with fail
    go_ret
    refine ⟨ret_bool ?_, hbr⟩
    have := heq.out
    rw [List.take_of_length_le (by rw [HX.out]; exact Nat.le_refl _), List.take_of_length_le (by rw [HY.out]; exact Nat.le_refl _)] at this
    rw [decide_eq_true this]
 ·have hlb : ((n : Int) == (m : Int)) = false := beq_eq_false_iff_ne.2 (by omega)
  have HE := Lib.hid (show ¬ xs = ys from fun e => hl (by rw [← hxl, ← hyl, e]))
  clear hl hxl hyl
  go_enter Tryz.func42, Tryz.ntmps42
  go_wp2_with fail
  go_ret
  exact ⟨ret_bool (by rw [decide_eq_false HE.out]), fr_refl _⟩
set_option maxRecDepth 100000 in
set_option maxHeartbeats 4000000 in
theorem same_ref1.SameTrains (A B : Option Addr) (n m c d : Nat) (xs ys : List Wh) (w : World) (hx : RdS w A 2 (xs.map Wh.cells)) (hy : RdS w B 2 (ys.map Wh.cells)) (hxl : xs.length = n) (hyl : ys.length = m) (hn : n ≤ 1000000) (hm : m ≤ 1000000) :
  Calls Tryz.prog 43 #[.slice A n c, .slice B m d] w fun e w' => e = .returned (.bool (decide (xs = ys))) ∧ Below w.heap.size w w' := by
 by_cases hl : n = m
 ·subst hl
  have hlb : ((n : Int) == (n : Int)) = true := by simp
  have HX := Lib.hid hxl
  have HY := Lib.hid hyl
  clear hxl hyl
  go_enter Tryz.func43, Tryz.ntmps43
  go_wp2_with fail
  go_loopw [5] (fun t wr => ∃ i : Nat, i ≤ n ∧ t = .int .i64 i ∧ Hid (xs.take i = ys.take i) ∧ Below w.heap.size w wr) (fun t _ => n - (intOf t).toNat)
  case atStart => exact ⟨0, Nat.zero_le _, rfl, Lib.hid rfl, fr_refl _⟩
  case round =>
   obtain ⟨i, hi, rfl, heq, hbr⟩ := hrel
   by_cases hlt : i < n
   ·have h1 : i < xs.length := by rw [HX.out]; exact hlt
    have h2 : i < ys.length := by rw [HY.out]; exact hlt
    obtain ⟨ad, rfl, hab, hc0, hc1⟩ := whs_at (hx.keep hbr) h1
    obtain ⟨ae, rfl, hae, hd0, hd1⟩ := whs_at (hy.keep hbr) h2
    have hne := fun h => ne_at (xs := xs) (ys := ys) h1 h2 h
    have heq2 := fun h => take_eq_succ heq.out h1 h2 h
    have q1 : 0 ≤ (i : Int) := by omega
    have q2 : (i : Int) < (n : Int) := by omega
    clear hx hy
    generalize xs[i] = x at *
    generalize ys[i] = y at *
    obtain ⟨x1, x2⟩ := x
    obtain ⟨y1, y2⟩ := y
    simp only at hc0 hc1 hd0 hd1
    by_cases hxy : x1 = y1
    ·subst hxy
     by_cases hxz : x2 = y2
     ·subst hxz
      have HE := Lib.hid (heq2 rfl)
      have hb1 : (x1 == x1) = true := beq_self_eq_true _
      have hb2 : (x2 == x2) = true := beq_self_eq_true _
      clear hne heq2
      go_wp2_with fail
      go_still (by kernel_rfl)
      go_wp2_with fail
      refine ⟨⟨i + 1, hlt, rfl, HE, fr_call hbr (fr_drew (fr_refl _))⟩, ?_⟩
      simp [intOf]; omega
     ·have HE := Lib.hid (hne (fun e => hxz (congrArg Wh.hi e)))
      have hb1 : (x1 == x1) = true := beq_self_eq_true _
      have hb2 : (x2 == y2) = false := beq_eq_false_iff_ne.2 hxz
      clear hxz hne heq2
      go_wp2_with fail
      go_still (by kernel_rfl)
      go_wp2_with fail
      go_ret
      exact ⟨ret_bool (by rw [decide_eq_false HE.out]), fr_call hbr (fr_drew (fr_refl _))⟩
    ·have HE := Lib.hid (hne (fun e => hxy (congrArg Wh.lo e)))
     have hb1 : (x1 == y1) = false := beq_eq_false_iff_ne.2 hxy
     clear hxy hne heq2
     go_wp2_with fail
     go_still (by kernel_rfl)
     go_wp2_with fail
     go_ret
     exact ⟨ret_bool (by rw [decide_eq_false HE.out]), fr_call hbr (fr_drew (fr_refl _))⟩
   ·obtain rfl : i = n := by omega
    go_wp2_with fail
    go_ret
    refine ⟨ret_bool ?_, hbr⟩
    have := heq.out
    rw [List.take_of_length_le (by rw [HX.out]; exact Nat.le_refl _), List.take_of_length_le (by rw [HY.out]; exact Nat.le_refl _)] at this
    rw [decide_eq_true this]
 ·have hlb : ((n : Int) == (m : Int)) = false := beq_eq_false_iff_ne.2 (by omega)
  have HE := Lib.hid (show ¬ xs = ys from fun e => hl (by rw [← hxl, ← hyl, e]))
  clear hl hxl hyl
  go_enter Tryz.func43, Tryz.ntmps43
  go_wp2_with fail
  go_ret
  exact ⟨ret_bool (by rw [decide_eq_false HE.out]), fr_refl _⟩
end Go.Proofs.YtfgghicdkcjdgaaGreatDoor
end

section
namespace Go.Proofs.YtfgghicdkcjdgaaGreatDoor
open Go.RowKit Go.Shelf

set_option maxRecDepth 100000 in
set_option maxHeartbeats 4000000 in
theorem lists_any (A B : Option Addr) (n m c d : Nat) (ps qs : List (List Wh)) (w : World) (hx : PsAt w A ps) (hy : PsAt w B qs) (hxl : ps.length = n) (hyl : qs.length = m) (hn : n ≤ 1000000) (hm : m ≤ 1000000) (hpl : ∀ p ∈ ps, p.length ≤ 1000000) (hql : ∀ p ∈ qs, p.length ≤ 1000000) :
  Calls Tryz.prog 40 #[.slice A n c, .slice B m d] w fun e w' => e = .returned (.bool (decide (ps = qs))) ∧ Below w.heap.size w w' := by
 by_cases hl : n = m
 ·subst hl
  have hlb : ((n : Int) == (n : Int)) = true := by simp
  have HX := Lib.hid hxl
  have HY := Lib.hid hyl
  clear hxl hyl
  go_enter Tryz.func40, Tryz.ntmps40
  go_wp2_with fail
  go_loopw [5] (fun t wr => ∃ i : Nat, i ≤ n ∧ t = .int .i64 i ∧ Hid (ps.take i = qs.take i) ∧ Below w.heap.size w wr) (fun t _ => n - (intOf t).toNat)
  case atStart => exact ⟨0, Nat.zero_le _, rfl, Lib.hid rfl, fr_refl _⟩
  case round =>
   obtain ⟨i, hi, rfl, heq, hbr⟩ := hrel
   by_cases hlt : i < n
   ·have h1 : i < ps.length := by rw [HX.out]; exact hlt
    have h2 : i < qs.length := by rw [HY.out]; exact hlt
    obtain ⟨ad, A1, c1, rfl, hab, hc, hrx⟩ := (hx.keep hbr).at_ h1
    obtain ⟨ae, B1, d1, rfl, hae, hd, hry⟩ := (hy.keep hbr).at_ h2
    have hne := fun h => ne_at (xs := ps) (ys := qs) h1 h2 h
    have heq2 := fun h => take_eq_succ heq.out h1 h2 h
    have q1 : 0 ≤ (i : Int) := by omega
    have q2 : (i : Int) < (n : Int) := by omega
    have hst := same_ref1.SameTrains A1 B1 _ _ c1 d1 ps[i] qs[i] (World.drew wr) hrx.1 hry.1 rfl rfl (hpl _ (List.getElem_mem h1)) (hql _ (List.getElem_mem h2))
    clear hx hy hrx hry hpl hql
    generalize ps[i] = x at *
    generalize qs[i] = y at *
    by_cases hxy : x = y
    ·have HE := Lib.hid (heq2 hxy)
     rw [decide_eq_true hxy] at hst
     clear hxy hne heq2
     go_wp2_with fail
     go_still_tail 8, (by kernel_rfl)
     change wpList _ _ _ _ _ (World.drew wr)
     go_wp2_with fail
     refine hst.mono ?_
     rintro e w3 ⟨rfl, hb3⟩
     go_wp2_with fail
     refine ⟨⟨i + 1, hlt, rfl, HE, hbr.trans ((⟨hb3.os, hb3.tape, hb3.output, hb3.size, hb3.block⟩ : Below wr.heap.size wr w3).mono hbr.size)⟩, ?_⟩
     simp [intOf]; omega
    ·have HE := Lib.hid (hne hxy)
     rw [decide_eq_false hxy] at hst
     clear hxy hne heq2
     go_wp2_with fail
     go_still_tail 8, (by kernel_rfl)
     change wpList _ _ _ _ _ (World.drew wr)
     go_wp2_with fail
     refine hst.mono ?_
     rintro e w3 ⟨rfl, hb3⟩
     go_wp2_with fail
     go_ret
     exact ⟨ret_bool (by rw [decide_eq_false HE.out]), hbr.trans ((⟨hb3.os, hb3.tape, hb3.output, hb3.size, hb3.block⟩ : Below wr.heap.size wr w3).mono hbr.size)⟩
   ·obtain rfl : i = n := by omega
    go_wp2_with fail
    go_ret
    refine ⟨ret_bool ?_, hbr⟩
    have := heq.out
    rw [List.take_of_length_le (by rw [HX.out]; exact Nat.le_refl _), List.take_of_length_le (by rw [HY.out]; exact Nat.le_refl _)] at this
    rw [decide_eq_true this]
 ·have hlb : ((n : Int) == (m : Int)) = false := beq_eq_false_iff_ne.2 (by omega)
  have HE := Lib.hid (show ¬ ps = qs from fun e => hl (by rw [← hxl, ← hyl, e]))
  clear hl hxl hyl
  go_enter Tryz.func40, Tryz.ntmps40
  go_wp2_with fail
  go_ret
  exact ⟨ret_bool (by rw [decide_eq_false HE.out]), fr_refl _⟩
set_option maxRecDepth 100000 in
set_option maxHeartbeats 8000000 in
theorem Train8_any (A : Option Addr) (n c : Nat) (t : List Int) (w : World) (hr : Rd w A n t) (hn : n ≤ 1000) :
  Calls Tryz.prog 31 #[.slice A n c] w (RetP w (pairsOf t)) := by
 have hlen := Lib.hid hr.len
 go_enter Tryz.func31, Tryz.ntmps31
 go_wp2_with fail
 go_loopw [3, 4] (fun v i wr => ∃ k : Nat, 2 * k ≤ n ∧ i = .int .i64 (2 * k : Nat) ∧ OwnS wr w.heap.size 98 2 v ((pairK t k).map Wh.cells) ∧ Below w.heap.size w wr) (fun _ i _ => n - (intOf i).toNat)
 case atStart => exact ⟨0, Nat.zero_le _, rfl, OwnS.nil _ _ _ _, fr_refl _⟩
 case round =>
  obtain ⟨k, hk, rfl, hown, hbel⟩ := hrel
  obtain ⟨q, hq⟩ : ∃ q, 2 * k = q := ⟨_, rfl⟩
  have HQ := Lib.hid hq
  rw [hq] at hk ⊢
  by_cases hlt : q + 1 < n
  ·have hsz := hbel.size
   have hkn : k < 1000 := by omega
   obtain ⟨ad, rfl, hab, hw1⟩ := hr.at_ (show q < n by omega)
   obtain ⟨ad', e, _, hw2⟩ := hr.at_ hlt
   cases e
   have hc1 := (hbel.cell (p := ad.add q) (by rw [block_of_add]; exact hab)).trans hw1
   have hc2 := (hbel.cell (p := ad.add (q + 1)) (by rw [block_of_add]; exact hab)).trans hw2
   obtain ⟨q', hq'⟩ : ∃ q', q + 1 = q' := ⟨_, rfl⟩
   have HQ' := Lib.hid hq'
   have hq1 : (q : Int) + 1 = (q' : Int) := by omega
   rw [hq'] at hc2 hw2 hlt
   have i1 : 0 ≤ (q : Int) := by omega
   have i2 : (q : Int) < (n : Int) := by omega
   have i3 : 0 ≤ (q' : Int) := by omega
   have i4 : (q' : Int) < (n : Int) := by omega
   have q0 : IntKind.i64.wrap (q : Int) = (q : Int) := IntWalk.i64_in _ (by omega)
   have q2 : IntKind.i64.wrap (q' : Int) = (q' : Int) := IntWalk.i64_in _ (by omega)
   have hps := pairK_succ t k
   rw [hq, hq'] at hps
   have HPS := Lib.hid hps
   generalize t[q]?.getD 0 = x at *
   generalize t[q']?.getD 0 = y at *
   have hbz := fr_drew (fr_refl wr)
   have hownz := hown.keep hbz
   have HW1 := Lib.hid hw1
   have HW2 := Lib.hid hw2
   clear hq hq' hr hps hw1 hw2
   go_wp2_with fail
   refine wp_region_noPanic ?_
   refine wp_region_held_drew (S := fun W => W.cell? (ad.add q) = some (.int .i64 x) ∧ W.cell? (ad.add q') = some (.int .i64 y)) (by kernel_rfl) ⟨hc1, hc2⟩ (fun hHeld => ?_)
   generalize wr.drew = wz at hbz hHeld hownz ⊢
   -- the region, step by step, in whatever order
   refine wpAnyH_take (i := 0) (oi := ⟨some 12, .move (.tmp 3), 26, "ref.go:72", #[], none⟩) (v := ?_) rfl (by kernel_rfl) (by kernel_rfl) (by kernel_rfl) (fun _ _ _ h => h) (Or.inl ⟨by rfl, fun W hSw => ?_⟩) hHeld ?_
   rotate_left
   ·(try dsimp only at hSw); go_simp; (try with_reducible rfl)
   (try simp only [Act.put, List.setIfInBounds_toArray, List.set_cons_zero, List.set_cons_succ])
   refine wpAnyH_take (i := 1) (oi := ⟨some 13, .move (.tmp 0), 34, "ref.go:72", #[], none⟩) (v := ?_) rfl (by kernel_rfl) (by kernel_rfl) (by kernel_rfl) (fun _ _ _ h => h) (Or.inl ⟨by rfl, fun W hSw => ?_⟩) hHeld ?_
   rotate_left
   ·(try dsimp only at hSw); go_simp; (try with_reducible rfl)
   (try simp only [Act.put, List.setIfInBounds_toArray, List.set_cons_zero, List.set_cons_succ])
   refine wpAnyH_take (i := 2) (oi := ⟨some 14, .move (.tmp 4), 3, "ref.go:72", #[], none⟩) (v := ?_) rfl (by kernel_rfl) (by kernel_rfl) (by kernel_rfl) (fun _ _ _ h => h) (Or.inl ⟨by rfl, fun W hSw => ?_⟩) hHeld ?_
   rotate_left
   ·(try dsimp only at hSw); go_simp; (try with_reducible rfl)
   (try simp only [Act.put, List.setIfInBounds_toArray, List.set_cons_zero, List.set_cons_succ])
   refine wpAnyH_take (i := 3) (oi := ⟨some 15, .indexAddr 34 (.tmp 13) (.tmp 14), 0, "ref.go:72", #[⟨1, .data⟩, ⟨2, .data⟩], none⟩) (v := ?_) rfl (by kernel_rfl) (by kernel_rfl) (by kernel_rfl) (fun _ _ _ h => h) (Or.inl ⟨by rfl, fun W hSw => ?_⟩) hHeld ?_
   rotate_left
   ·(try dsimp only at hSw); go_simp; (try with_reducible rfl)
   (try simp only [Act.put, List.setIfInBounds_toArray, List.set_cons_zero, List.set_cons_succ])
   refine wpAnyH_take (i := 4) (oi := ⟨some 16, .load 3 (.tmp 15), 3, "ref.go:72", #[⟨3, .data⟩], none⟩) (v := ?_) rfl (by kernel_rfl) (by kernel_rfl) (by kernel_rfl) (fun _ _ _ h => h) (Or.inl ⟨by rfl, fun W hSw => ?_⟩) hHeld ?_
   rotate_left
   ·(try dsimp only at hSw); go_simp; (try with_reducible rfl)
   (try simp only [Act.put, List.setIfInBounds_toArray, List.set_cons_zero, List.set_cons_succ])
   refine wpAnyH_take (i := 5) (oi := ⟨some 17, .move (.tmp 0), 34, "ref.go:72", #[], none⟩) (v := ?_) rfl (by kernel_rfl) (by kernel_rfl) (by kernel_rfl) (fun _ _ _ h => h) (Or.inl ⟨by rfl, fun W hSw => ?_⟩) hHeld ?_
   rotate_left
   ·(try dsimp only at hSw); go_simp; (try with_reducible rfl)
   (try simp only [Act.put, List.setIfInBounds_toArray, List.set_cons_zero, List.set_cons_succ])
   refine wpAnyH_take (i := 6) (oi := ⟨some 18, .move (.tmp 4), 3, "ref.go:72", #[], none⟩) (v := ?_) rfl (by kernel_rfl) (by kernel_rfl) (by kernel_rfl) (fun _ _ _ h => h) (Or.inl ⟨by rfl, fun W hSw => ?_⟩) hHeld ?_
   rotate_left
   ·(try dsimp only at hSw); go_simp; (try with_reducible rfl)
   (try simp only [Act.put, List.setIfInBounds_toArray, List.set_cons_zero, List.set_cons_succ])
   refine wpAnyH_take (i := 7) (oi := ⟨some 19, .binOp .add 3 (.tmp 18) (.const (.int .i64 1)) 3, 3, "ref.go:72", #[⟨6, .data⟩], none⟩) (v := ?_) rfl (by kernel_rfl) (by kernel_rfl) (by kernel_rfl) (fun _ _ _ h => h) (Or.inl ⟨by rfl, fun W hSw => ?_⟩) hHeld ?_
   rotate_left
   ·(try dsimp only at hSw); go_simp; (try with_reducible rfl)
   (try simp only [Act.put, List.setIfInBounds_toArray, List.set_cons_zero, List.set_cons_succ])
   refine wpAnyH_take (i := 8) (oi := ⟨some 20, .indexAddr 34 (.tmp 17) (.tmp 19), 0, "ref.go:72", #[⟨5, .data⟩, ⟨7, .data⟩], none⟩) (v := ?_) rfl (by kernel_rfl) (by kernel_rfl) (by kernel_rfl) (fun _ _ _ h => h) (Or.inl ⟨by rfl, fun W hSw => ?_⟩) hHeld ?_
   rotate_left
   ·(try dsimp only at hSw); go_simp; (try with_reducible rfl)
   (try simp only [Act.put, List.setIfInBounds_toArray, List.set_cons_zero, List.set_cons_succ])
   refine wpAnyH_take (i := 9) (oi := ⟨some 21, .load 3 (.tmp 20), 3, "ref.go:72", #[⟨8, .data⟩], none⟩) (v := ?_) rfl (by kernel_rfl) (by kernel_rfl) (by kernel_rfl) (fun _ _ _ h => h) (Or.inl ⟨by rfl, fun W hSw => ?_⟩) hHeld ?_
   rotate_left
   ·(try dsimp only at hSw); go_simp; (try with_reducible rfl)
   (try simp only [Act.put, List.setIfInBounds_toArray, List.set_cons_zero, List.set_cons_succ])
   refine wpAnyH_take (i := 10) (oi := ⟨some 22, .build 98 #[(0, .tmp 16), (1, .tmp 21)], 98, "ref.go:72", #[⟨4, .data⟩, ⟨9, .data⟩], none⟩) (v := ?_) rfl (by kernel_rfl) (by kernel_rfl) (by kernel_rfl) (fun _ _ _ h => h) (Or.inl ⟨by rfl, fun W hSw => ?_⟩) hHeld ?_
   rotate_left
   ·(try dsimp only at hSw); go_simp; (try with_reducible rfl)
   (try simp only [Act.put, List.setIfInBounds_toArray, List.set_cons_zero, List.set_cons_succ])
   refine wpAnyH_ready (rs := [11]) (by kernel_rfl) (by simp) ?_
   refine (AllReadyH.cons (o := ⟨some 23, .buildSlice 26 1 #[(0, .tmp 22)], 26, "ref.go:72", #[⟨10, .data⟩], none⟩) rfl (fun K hK => ?_) AllReadyH.nil)
   rw [if_pos (by rfl)]
   refine wp_build_pair rfl rfl ?_
   intro g wz hgz hG hb1
   replace hbz := fr_call hbz hb1
   replace hownz := hownz.keep hb1
   refine hK.out _ _ (⟨(hbz.cell (p := ad.add q) (by rw [block_of_add]; omega)).trans hc1, (hbz.cell (p := ad.add q') (by rw [block_of_add]; omega)).trans hc2⟩) (fun hHeld => ?_)
   clear hK K
   (try simp only [Act.put, List.setIfInBounds_toArray, List.set_cons_zero, List.set_cons_succ])
   refine wpAnyH_ready (rs := [12]) (by kernel_rfl) (by simp) ?_
   refine (AllReadyH.cons (o := ⟨some 24, .call { callee := .builtin .append, args := #[.tmp 12, .tmp 23], argTypes := #[26, 26] }, 26, "ref.go:72", #[⟨0, .data⟩, ⟨11, .data⟩], none⟩) rfl (fun K hK => ?_) AllReadyH.nil)
   rw [if_pos (by rfl)]
   refine wp_app_row (.tmp 12) (.tmp 23) rfl Tryz.underlying26 info_pair rfl (by omega) (by omega) w.heap.size _ ((pairK t k).map Wh.cells) rfl hownz g rfl (r := Wh.cells ⟨x, y⟩) hG rfl (by intro u hu; simp only [Wh.cells, List.mem_cons, List.not_mem_nil, or_false] at hu; rcases hu with rfl | rfl <;> rfl) (by rw [List.length_map, pairK_len]; omega) (by have := hbz.size; omega) ?_
   intro A1 c1 wz hown1 hgr
   rw [List.length_map, pairK_len] at hown1 ⊢
   have hbf : Below w.heap.size w wz := (fr_call hbel hbz).grown hgr (by have := hbz.size; omega) hownz.ge
   refine hK.out _ _ (⟨(hbf.cell (p := ad.add q) (by rw [block_of_add]; exact hab)).trans HW1.out, (hbf.cell (p := ad.add q') (by rw [block_of_add]; exact hab)).trans HW2.out⟩) (fun hHeld => ?_)
   clear hK K
   (try simp only [Act.put, List.setIfInBounds_toArray, List.set_cons_zero, List.set_cons_succ])
   refine wpAnyH_take (i := 13) (oi := ⟨some 3, .assign (.tmp 24), 26, "ref.go:72", #[⟨12, .data⟩, ⟨12, .chain⟩, ⟨0, .phase⟩, ⟨1, .phase⟩, ⟨2, .phase⟩, ⟨3, .phase⟩, ⟨4, .phase⟩, ⟨5, .phase⟩, ⟨6, .phase⟩, ⟨7, .phase⟩, ⟨8, .phase⟩, ⟨9, .phase⟩, ⟨10, .phase⟩, ⟨11, .phase⟩, ⟨12, .phase⟩], none⟩) (v := ?_) rfl (by kernel_rfl) (by kernel_rfl) (by kernel_rfl) (fun _ _ _ h => h) (Or.inl ⟨by rfl, fun W hSw => ?_⟩) hHeld ?_
   rotate_left
   ·(try dsimp only at hSw); go_simp; (try with_reducible rfl)
   (try simp only [Act.put, List.setIfInBounds_toArray, List.set_cons_zero, List.set_cons_succ])
   refine wpAnyH_done (by kernel_rfl) ?_ _
   refine NoPanic.normal ?_
   go_wp2_with fail
   refine ⟨⟨k + 1, by have := HQ.out; have := HQ'.out; omega, ?_, by rw [HPS.out, List.map_append]; exact hown1, hbf⟩, ?_⟩
   ·have := HQ.out
    have e : (q : Int) + 2 = ((2 * (k + 1) : Nat) : Int) := by omega
    rw [e]
   ·simp [intOf]; omega
  ·obtain ⟨A1, c1, rfl⟩ := hown.form
   have hps : pairsOf t = pairK t k := by
    unfold pairsOf
    rw [hlen.out]
    congr 1
    omega
   have HPS := Lib.hid hps
   have hlb : ¬ ((q : Int) + 1 < (n : Int)) := by omega
   clear hps hq
   go_wp2_with fail
   go_ret
   rw [HPS.out]
   rw [List.length_map] at hown
   exact ⟨A1, c1, rfl, hown, hbel⟩
section
variable {o : Oper} {a : Act} {w : World} {K : Act → World → Prop} {Q : Exit → Act → World → Prop}
theorem wp_build2 {p q : Nat} {x y : Int} (ho : o.op = .buildSlice 34 2 #[(0, .tmp p), (1, .tmp q)]) (hx : a.tmps.getD p undef = .int .i64 x) (hy : a.tmps.getD q undef = .int .i64 y)
  (h : ∀ g w', w.heap.size = g → Blk w' g 3 #[.int .i64 x, .int .i64 y] → Below w.heap.size w w' → K (a.put o.dst (.slice (some ⟨g, 0, none⟩) 2 2)) w') : o.wp Tryz.prog a w K Q := by
 have h1 := h w.heap.size (w.alloc (.cells #[.int .i64 x, .int .i64 y] 3)) rfl (Blk.new w _ _) (fr_alloc (fr_refl w) _)
 obtain ⟨dst, op, ty, pos, after, guard⟩ := o
 simp only at ho
 subst ho
 have hx' : a.tmps[p]?.getD undef = .int .i64 x := by simpa using hx
 have hy' : a.tmps[q]?.getD undef = .int .i64 y := by simpa using hy
 go_simp
 exact h1
theorem wp_app_two (s x : Operand) (ho : o.op = .call { callee := .builtin .append, args := #[s, x], argTypes := #[34, 34] }) (base : Nat) (v : Value) (xs : List Int) (hs : a.eval s = v) (hown : Own w base v xs)
  (g : Nat) (y z : Int) (hx : a.eval x = .slice (some ⟨g, 0, none⟩) 2 2) (hg : Blk w g 3 #[.int .i64 y, .int .i64 z]) (hn : xs.length < 1000000) (hbase : base ≤ w.heap.size)
  (h : ∀ A c w', Own w' base (.slice A (xs.length + 2) c) (xs ++ [y, z]) → w.grownBy w' v.ownBlock → K (a.put o.dst (.slice A (xs.length + 2) c)) w') : o.wp Tryz.prog a w K Q := by
 obtain ⟨i0, hi, hz0, hz1, hz2⟩ := info_parts info_int
 refine wp_append_own w s x _ ho base _ i0 _ 1 8 Tryz.underlying34 hi hz0 hz1 hz2 rfl (by omega) v _ _ hs hown ⟨g, 0, none⟩ 2 2 [.int .i64 y, .int .i64 z] hx rfl ?_ (by simp [Value.oneCell'])
  (by unfold maxLen; omega) (by omega) hbase ?_
 ·intro j u hj
  rw [add_lit, hg.cell]
  simpa using hj
 ·intro v' w' hown' hgr _
  have hown2 : Own w' base v' (xs ++ [y, z]) := by
   unfold Own
   rw [List.length_append, List.map_append]
   exact hown'
  obtain ⟨A, c, rfl⟩ := hown2.form
  rw [List.length_append] at hown2 ⊢
  exact h A c w' hown2 hgr
end
set_option maxRecDepth 100000 in
set_option maxHeartbeats 8000000 in
theorem Teeth8_any (A : Option Addr) (n c : Nat) (ps : List Wh) (w : World) (hr : RdS w A 2 (ps.map Wh.cells)) (hn : ps.length = n) (hn2 : n ≤ 1000) :
  Calls Tryz.prog 14 #[.slice A n c] w (RetO w (teethL ps)) := by
 have HN := Lib.hid hn
 clear hn
 go_enter Tryz.func14, Tryz.ntmps14
 go_wp2_with fail
 go_loopw [3, 4] (fun v i wr => ∃ k : Nat, k ≤ n ∧ i = .int .i64 k ∧ Own wr w.heap.size v (teethL (ps.take k)) ∧ Below w.heap.size w wr) (fun _ i _ => n - (intOf i).toNat)
 case atStart => exact ⟨0, Nat.zero_le _, rfl, Own.nil _ _, fr_refl _⟩
 case round =>
  obtain ⟨k, hk, rfl, hown, hbel⟩ := hrel
  by_cases hlt : k < n
  ·have hkl : k < ps.length := by rw [HN.out]; exact hlt
   have hsz := hbel.size
   obtain ⟨ad, e0, hab0, hw1, hw2⟩ := whs_at hr hkl
   obtain ⟨ad', rfl, hab, hc0, hc1⟩ := whs_at (hr.keep hbel) hkl
   cases e0
   have HW1 := Lib.hid hw1
   have HW2 := Lib.hid hw2
   have hbw : (ad.add (k * 2)).block < w.heap.size := by rw [block_of_add]; exact hab0
   have htk := teethL_take hkl
   have HTK := Lib.hid htk
   have hlk : (teethL (ps.take k)).length < 1000000 := by rw [teethL_len, List.length_take]; omega
   have q1 : 0 ≤ (k : Int) := by omega
   have q2 : (k : Int) < (n : Int) := by omega
   generalize ps[k].lo = x at *
   generalize ps[k].hi = y at *
   have hbz := fr_drew (fr_refl wr)
   have hownz := hown.keep hbz
   generalize teethL (ps.take k) = z at *
   have hblk : (ad.add (k * 2)).block < wr.heap.size := by rw [block_of_add]; exact hab
   clear htk hr hw1 hw2
   go_wp2_with fail
   refine wp_region_noPanic ?_
   refine wp_region_held_drew (S := fun W => W.cell? (ad.add (k * 2)) = some (.int .i64 x) ∧ W.cell? ⟨(ad.add (k * 2)).block, (ad.add (k * 2)).off + 1, none⟩ = some (.int .i64 y)) (by kernel_rfl) ⟨hc0, hc1⟩ (fun hHeld => ?_)
   generalize wr.drew = wz at hbz hHeld hownz ⊢
   -- the region, step by step, in whatever order
   refine wpAnyH_take (i := 0) (oi := ⟨some 11, .move (.tmp 3), 34, "ref.go:81", #[], none⟩) (v := ?_) rfl (by kernel_rfl) (by kernel_rfl) (by kernel_rfl) (fun _ _ _ h => h) (Or.inl ⟨by rfl, fun W hSw => ?_⟩) hHeld ?_
   rotate_left
   ·(try dsimp only at hSw); go_simp; (try with_reducible rfl)
   (try simp only [Act.put, List.setIfInBounds_toArray, List.set_cons_zero, List.set_cons_succ])
   refine wpAnyH_take (i := 1) (oi := ⟨some 12, .move (.tmp 0), 26, "ref.go:81", #[], none⟩) (v := ?_) rfl (by kernel_rfl) (by kernel_rfl) (by kernel_rfl) (fun _ _ _ h => h) (Or.inl ⟨by rfl, fun W hSw => ?_⟩) hHeld ?_
   rotate_left
   ·(try dsimp only at hSw); go_simp; (try with_reducible rfl)
   (try simp only [Act.put, List.setIfInBounds_toArray, List.set_cons_zero, List.set_cons_succ])
   refine wpAnyH_take (i := 2) (oi := ⟨some 13, .move (.tmp 4), 3, "ref.go:81", #[], none⟩) (v := ?_) rfl (by kernel_rfl) (by kernel_rfl) (by kernel_rfl) (fun _ _ _ h => h) (Or.inl ⟨by rfl, fun W hSw => ?_⟩) hHeld ?_
   rotate_left
   ·(try dsimp only at hSw); go_simp; (try with_reducible rfl)
   (try simp only [Act.put, List.setIfInBounds_toArray, List.set_cons_zero, List.set_cons_succ])
   refine wpAnyH_take (i := 3) (oi := ⟨some 14, .indexAddr 26 (.tmp 12) (.tmp 13), 0, "ref.go:81", #[⟨1, .data⟩, ⟨2, .data⟩], none⟩) (v := ?_) rfl (by kernel_rfl) (by kernel_rfl) (by kernel_rfl) (fun _ _ _ h => h) (Or.inl ⟨by rfl, fun W hSw => ?_⟩) hHeld ?_
   rotate_left
   ·(try dsimp only at hSw); go_simp; (try with_reducible rfl)
   (try simp only [Act.put, List.setIfInBounds_toArray, List.set_cons_zero, List.set_cons_succ])
   refine wpAnyH_take (i := 4) (oi := ⟨some 15, .fieldAddr 98 (.tmp 14) 0, 0, "ref.go:81", #[⟨3, .data⟩], none⟩) (v := ?_) rfl (by kernel_rfl) (by kernel_rfl) (by kernel_rfl) (fun _ _ _ h => h) (Or.inl ⟨by rfl, fun W hSw => ?_⟩) hHeld ?_
   rotate_left
   ·(try dsimp only at hSw); go_simp; (try with_reducible rfl)
   (try simp only [Act.put, List.setIfInBounds_toArray, List.set_cons_zero, List.set_cons_succ])
   refine wpAnyH_take (i := 5) (oi := ⟨some 16, .load 3 (.tmp 15), 3, "ref.go:81", #[⟨4, .data⟩], none⟩) (v := ?_) rfl (by kernel_rfl) (by kernel_rfl) (by kernel_rfl) (fun _ _ _ h => h) (Or.inl ⟨by rfl, fun W hSw => ?_⟩) hHeld ?_
   rotate_left
   ·(try dsimp only at hSw); go_simp; (try with_reducible rfl)
   (try simp only [Act.put, List.setIfInBounds_toArray, List.set_cons_zero, List.set_cons_succ])
   refine wpAnyH_take (i := 6) (oi := ⟨some 17, .move (.tmp 0), 26, "ref.go:81", #[], none⟩) (v := ?_) rfl (by kernel_rfl) (by kernel_rfl) (by kernel_rfl) (fun _ _ _ h => h) (Or.inl ⟨by rfl, fun W hSw => ?_⟩) hHeld ?_
   rotate_left
   ·(try dsimp only at hSw); go_simp; (try with_reducible rfl)
   (try simp only [Act.put, List.setIfInBounds_toArray, List.set_cons_zero, List.set_cons_succ])
   refine wpAnyH_take (i := 7) (oi := ⟨some 18, .move (.tmp 4), 3, "ref.go:81", #[], none⟩) (v := ?_) rfl (by kernel_rfl) (by kernel_rfl) (by kernel_rfl) (fun _ _ _ h => h) (Or.inl ⟨by rfl, fun W hSw => ?_⟩) hHeld ?_
   rotate_left
   ·(try dsimp only at hSw); go_simp; (try with_reducible rfl)
   (try simp only [Act.put, List.setIfInBounds_toArray, List.set_cons_zero, List.set_cons_succ])
   refine wpAnyH_take (i := 8) (oi := ⟨some 19, .indexAddr 26 (.tmp 17) (.tmp 18), 0, "ref.go:81", #[⟨6, .data⟩, ⟨7, .data⟩], none⟩) (v := ?_) rfl (by kernel_rfl) (by kernel_rfl) (by kernel_rfl) (fun _ _ _ h => h) (Or.inl ⟨by rfl, fun W hSw => ?_⟩) hHeld ?_
   rotate_left
   ·(try dsimp only at hSw); go_simp; (try with_reducible rfl)
   (try simp only [Act.put, List.setIfInBounds_toArray, List.set_cons_zero, List.set_cons_succ])
   refine wpAnyH_take (i := 9) (oi := ⟨some 20, .fieldAddr 98 (.tmp 19) 1, 0, "ref.go:81", #[⟨8, .data⟩], none⟩) (v := ?_) rfl (by kernel_rfl) (by kernel_rfl) (by kernel_rfl) (fun _ _ _ h => h) (Or.inl ⟨by rfl, fun W hSw => ?_⟩) hHeld ?_
   rotate_left
   ·(try dsimp only at hSw); go_simp; (try with_reducible rfl)
   (try simp only [Act.put, List.setIfInBounds_toArray, List.set_cons_zero, List.set_cons_succ])
   refine wpAnyH_take (i := 10) (oi := ⟨some 21, .load 3 (.tmp 20), 3, "ref.go:81", #[⟨9, .data⟩], none⟩) (v := ?_) rfl (by kernel_rfl) (by kernel_rfl) (by kernel_rfl) (fun _ _ _ h => h) (Or.inl ⟨by rfl, fun W hSw => ?_⟩) hHeld ?_
   rotate_left
   ·(try dsimp only at hSw); go_simp; (try with_reducible rfl)
   (try simp only [Act.put, List.setIfInBounds_toArray, List.set_cons_zero, List.set_cons_succ])
   refine wpAnyH_ready (rs := [11]) (by kernel_rfl) (by simp) ?_
   refine (AllReadyH.cons (o := ⟨some 22, .buildSlice 34 2 #[(0, .tmp 16), (1, .tmp 21)], 34, "ref.go:81", #[⟨5, .data⟩, ⟨10, .data⟩], none⟩) rfl (fun K hK => ?_) AllReadyH.nil)
   rw [if_pos (by rfl)]
   refine wp_build2 rfl rfl rfl ?_
   intro g wz hgz hG hb1
   replace hbz := fr_call hbz hb1
   replace hownz := hownz.keep hb1
   refine hK.out _ _ (⟨(hbz.cell (p := ad.add (k * 2)) hblk).trans hc0, (hbz.cell (p := ⟨(ad.add (k * 2)).block, (ad.add (k * 2)).off + 1, none⟩) hblk).trans hc1⟩) (fun hHeld => ?_)
   clear hK K
   (try simp only [Act.put, List.setIfInBounds_toArray, List.set_cons_zero, List.set_cons_succ])
   refine wpAnyH_ready (rs := [12]) (by kernel_rfl) (by simp) ?_
   refine (AllReadyH.cons (o := ⟨some 23, .call { callee := .builtin .append, args := #[.tmp 11, .tmp 22], argTypes := #[34, 34] }, 34, "ref.go:81", #[⟨0, .data⟩, ⟨11, .data⟩], none⟩) rfl (fun K hK => ?_) AllReadyH.nil)
   rw [if_pos (by rfl)]
   refine wp_app_two (.tmp 11) (.tmp 22) rfl w.heap.size _ z rfl hownz g x y rfl hG hlk (by have := hbz.size; omega) ?_
   intro A1 c1 wz1 hown1 hgr
   have hbf : Below w.heap.size w wz1 := (fr_call hbel hbz).grown hgr (by have := hbz.size; omega) (fun i hi => (World.ownsRow.lt hownz i hi).1)
   refine hK.out _ _ (⟨(hbf.cell (p := ad.add (k * 2)) hbw).trans HW1.out, (hbf.cell (p := ⟨(ad.add (k * 2)).block, (ad.add (k * 2)).off + 1, none⟩) hbw).trans HW2.out⟩) (fun hHeld => ?_)
   clear hK K
   (try simp only [Act.put, List.setIfInBounds_toArray, List.set_cons_zero, List.set_cons_succ])
   refine wpAnyH_take (i := 13) (oi := ⟨some 3, .assign (.tmp 23), 34, "ref.go:81", #[⟨12, .data⟩, ⟨12, .chain⟩, ⟨0, .phase⟩, ⟨1, .phase⟩, ⟨2, .phase⟩, ⟨3, .phase⟩, ⟨4, .phase⟩, ⟨5, .phase⟩, ⟨6, .phase⟩, ⟨7, .phase⟩, ⟨8, .phase⟩, ⟨9, .phase⟩, ⟨10, .phase⟩, ⟨11, .phase⟩, ⟨12, .phase⟩], none⟩) (v := ?_) rfl (by kernel_rfl) (by kernel_rfl) (by kernel_rfl) (fun _ _ _ h => h) (Or.inl ⟨by rfl, fun W hSw => ?_⟩) hHeld ?_
   rotate_left
   ·(try dsimp only at hSw); go_simp; (try with_reducible rfl)
   (try simp only [Act.put, List.setIfInBounds_toArray, List.set_cons_zero, List.set_cons_succ])
   refine wpAnyH_done (by kernel_rfl) ?_ _
   refine NoPanic.normal ?_
   go_wp2_with fail
   refine ⟨⟨k + 1, hlt, rfl, by rw [HTK.out]; exact hown1, hbf⟩, ?_⟩
   simp [intOf]; omega
  ·obtain rfl : k = n := by omega
   have hps : ps.take k = ps := List.take_of_length_le (by rw [HN.out]; exact Nat.le_refl _)
   rw [hps] at hown
   obtain ⟨A1, c1, rfl⟩ := hown.form
   clear hps
   go_wp2_with fail
   go_ret
   exact ⟨A1, c1, rfl, hown, hbel⟩
end Go.Proofs.YtfgghicdkcjdgaaGreatDoor
end

section
namespace Go.Proofs.YtfgghicdkcjdgaaGreatDoor
open Go.RowKit Go.Shelf

def befB (a b : Wh) : Bool := decide (a.lo < b.lo) || (a.lo == b.lo && decide (a.hi < b.hi))
def soonB : List Wh → List Wh → Bool
 | [], [] => false
 | [], _ :: _ => true
 | _ :: _, [] => false
 | a :: r, b :: s => if a = b then soonB r s else befB a b
set_option maxHeartbeats 4000000 in
theorem bef_any (x1 x2 y1 y2 : Int) (w : World) : Calls Tryz.prog 81 #[.agg #[.int .i64 x1, .int .i64 x2], .agg #[.int .i64 y1, .int .i64 y2]] w fun e w' => e = .returned (.bool (befB ⟨x1, x2⟩ ⟨y1, y2⟩)) ∧ Below w.heap.size w w' := by
 have HB := Lib.hid (show befB ⟨x1, x2⟩ ⟨y1, y2⟩ = (decide (x1 < y1) || (x1 == y1 && decide (x2 < y2))) from rfl)
 by_cases h1 : x1 < y1
 ·go_enter Tryz.func81, Tryz.ntmps81
  go_wp2_with fail
  go_ret
  exact ⟨ret_bool (by rw [HB.out]; simp [h1]), fr_alloc (fr_alloc (fr_refl _) _) _⟩
 ·by_cases h2 : x1 = y1
  ·subst h2
   go_enter Tryz.func81, Tryz.ntmps81
   go_wp2_with fail
   go_ret
   exact ⟨ret_bool (by rw [HB.out]; simp), fr_alloc (fr_alloc (fr_refl _) _) _⟩
  ·have h3 : (x1 == y1) = false := beq_eq_false_iff_ne.2 h2
   have H1 := Lib.hid h1
   clear h2
   go_enter Tryz.func81, Tryz.ntmps81
   go_wp2_with fail
   go_ret
   exact ⟨ret_bool (by rw [HB.out, h3, decide_eq_false (Int.not_lt.2 (by first | exact H1.out | exact Int.not_lt.1 H1.out))]; rfl), fr_alloc (fr_alloc (fr_refl _) _) _⟩
theorem soon_drop {a b : List Wh} {i : Nat} (h : a.take i = b.take i) (ha : i ≤ a.length) (hb : i ≤ b.length) : soonB a b = soonB (a.drop i) (b.drop i) := by
 induction i generalizing a b with
 | zero => rfl
 | succ i ih =>
  cases a with
  | nil => simp at ha
  | cons x a =>
   cases b with
   | nil => simp at hb
   | cons y b =>
    simp only [List.take_succ_cons, List.cons.injEq] at h
    obtain ⟨rfl, h⟩ := h
    simp only [List.drop_succ_cons]
    rw [← ih h (by simpa using ha) (by simpa using hb)]
    simp [soonB]
theorem soon_ne {a b : List Wh} {i : Nat} (h : a.take i = b.take i) (ha : i < a.length) (hb : i < b.length) (hne : a[i] ≠ b[i]) : soonB a b = befB a[i] b[i] := by
 rw [soon_drop h (Nat.le_of_lt ha) (Nat.le_of_lt hb), List.drop_eq_getElem_cons ha, List.drop_eq_getElem_cons hb]
 simp [soonB, hne]
theorem soon_end {a b : List Wh} {i : Nat} (h : a.take i = b.take i) (ha : i ≤ a.length) (hb : i ≤ b.length) (he : i = a.length ∨ i = b.length) : soonB a b = decide (a.length < b.length) := by
 rw [soon_drop h ha hb]
 rcases he with rfl | rfl
 ·rw [List.drop_length]
  cases hd : b.drop a.length with
  | nil =>
   have := congrArg List.length hd
   simp at this
   simp [soonB]; omega
  | cons y r =>
   have := congrArg List.length hd
   simp at this
   simp [soonB]; omega
 ·rw [List.drop_length]
  cases hd : a.drop b.length with
  | nil =>
   have := congrArg List.length hd
   simp at this
   simp [soonB]; omega
  | cons y r =>
   simp [soonB]; omega
set_option maxRecDepth 100000 in
set_option maxHeartbeats 8000000 in
theorem soon_any (A B : Option Addr) (n m c d : Nat) (xs ys : List Wh) (w : World) (hx : RdS w A 2 (xs.map Wh.cells)) (hy : RdS w B 2 (ys.map Wh.cells)) (hxl : xs.length = n) (hyl : ys.length = m) (hn : n ≤ 1000000) (_ : m ≤ 1000000) :
  Calls Tryz.prog 26 #[.slice A n c, .slice B m d] w fun e w' => e = .returned (.bool (soonB xs ys)) ∧ Below w.heap.size w w' := by
 have HX := Lib.hid hxl
 have HY := Lib.hid hyl
 clear hxl hyl
 go_enter Tryz.func26, Tryz.ntmps26
 go_wp2_with fail
 go_loopw [5] (fun t wr => ∃ i : Nat, (i ≤ n ∧ i ≤ m) ∧ t = .int .i64 i ∧ Hid (xs.take i = ys.take i) ∧ Below w.heap.size w wr) (fun t _ => n - (intOf t).toNat)
 case atStart => exact ⟨0, ⟨Nat.zero_le _, Nat.zero_le _⟩, rfl, Lib.hid rfl, fr_refl _⟩
 case round =>
  obtain ⟨i, ⟨hi, hi2⟩, rfl, heq, hbr⟩ := hrel
  by_cases hlt : i < n
  ·have q2 : (i : Int) < (n : Int) := by omega
   by_cases hlt2 : i < m
   ·have h1 : i < xs.length := by rw [HX.out]; exact hlt
    have h2 : i < ys.length := by rw [HY.out]; exact hlt2
    obtain ⟨ad, rfl, hab, hc0, hc1⟩ := whs_at (hx.keep hbr) h1
    obtain ⟨ae, rfl, hae, hd0, hd1⟩ := whs_at (hy.keep hbr) h2
    have heq2 := fun h => take_eq_succ heq.out h1 h2 h
    have hsn := Lib.hid (fun h => soon_ne heq.out h1 h2 h)
    have q1 : 0 ≤ (i : Int) := by omega
    have q3 : (i : Int) < (m : Int) := by omega
    clear hx hy
    generalize xs[i] = x at *
    generalize ys[i] = y at *
    obtain ⟨x1, x2⟩ := x
    obtain ⟨y1, y2⟩ := y
    simp only at hc0 hc1 hd0 hd1
    by_cases hxy : x1 = y1 ∧ x2 = y2
    ·obtain ⟨rfl, rfl⟩ := hxy
     have HE := Lib.hid (heq2 rfl)
     have hb1 : (x1 == x1) = true := beq_self_eq_true _
     have hb2 : (x2 == x2) = true := beq_self_eq_true _
     clear heq2
     go_wp2_with fail
     go_still (by kernel_rfl)
     go_wp2_with fail
     refine ⟨⟨i + 1, ⟨hlt, hlt2⟩, rfl, HE, fr_call hbr (fr_drew (fr_refl _))⟩, ?_⟩
     simp [intOf]; omega
    ·have HE := Lib.hid (hsn.out (fun e => hxy ⟨congrArg Wh.lo e, congrArg Wh.hi e⟩))
     have hbe := fun W => bef_any x1 x2 y1 y2 W
     generalize befB ⟨x1, x2⟩ ⟨y1, y2⟩ = be at *
     clear heq2 hsn
     by_cases h1 : x1 = y1
     ·subst h1
      have hb1 : (x1 == x1) = true := beq_self_eq_true _
      have hb2 : (x2 == y2) = false := beq_eq_false_iff_ne.2 (fun e => hxy ⟨rfl, e⟩)
      clear hxy
      go_wp2_with fail
      go_still (by kernel_rfl)
      go_upto_region 5 with (fail)
      have hdr := fr_drew (fr_refl wr)
      have hab2 : (ad.add (i * 2)).block < wr.heap.size := by rw [block_of_add]; exact hab
      have hae2 : (ae.add (i * 2)).block < wr.heap.size := by rw [block_of_add]; exact hae
      replace hc0 := (hdr.cell (p := ad.add (i * 2)) hab2).trans hc0
      replace hc1 := (hdr.cell (p := ⟨(ad.add (i * 2)).block, (ad.add (i * 2)).off + 1, none⟩) hab2).trans hc1
      replace hd0 := (hdr.cell (p := ae.add (i * 2)) hae2).trans hd0
      replace hd1 := (hdr.cell (p := ⟨(ae.add (i * 2)).block, (ae.add (i * 2)).off + 1, none⟩) hae2).trans hd1
      replace hbr := fr_call hbr hdr
      change Code.wp _ _ _ _ (World.drew wr)
      generalize World.drew wr = wd at *
      go_wp2_with fail
      go_still_tail 8, (by kernel_rfl)
      change wpList _ _ _ _ _ (World.drew wd)
      go_wp2_with fail
      refine (hbe _).mono ?_
      rintro e w3 ⟨rfl, hb3⟩
      go_wp2_with fail
      go_ret
      exact ⟨ret_bool HE.out.symm, fr_call hbr (fr_call (fr_drew (fr_refl wd)) hb3)⟩
     ·have hb1 : (x1 == y1) = false := beq_eq_false_iff_ne.2 h1
      clear hxy h1
      go_wp2_with fail
      go_still (by kernel_rfl)
      go_upto_region 5 with (fail)
      have hdr := fr_drew (fr_refl wr)
      have hab2 : (ad.add (i * 2)).block < wr.heap.size := by rw [block_of_add]; exact hab
      have hae2 : (ae.add (i * 2)).block < wr.heap.size := by rw [block_of_add]; exact hae
      replace hc0 := (hdr.cell (p := ad.add (i * 2)) hab2).trans hc0
      replace hc1 := (hdr.cell (p := ⟨(ad.add (i * 2)).block, (ad.add (i * 2)).off + 1, none⟩) hab2).trans hc1
      replace hd0 := (hdr.cell (p := ae.add (i * 2)) hae2).trans hd0
      replace hd1 := (hdr.cell (p := ⟨(ae.add (i * 2)).block, (ae.add (i * 2)).off + 1, none⟩) hae2).trans hd1
      replace hbr := fr_call hbr hdr
      change Code.wp _ _ _ _ (World.drew wr)
      generalize World.drew wr = wd at *
      go_wp2_with fail
      go_still_tail 8, (by kernel_rfl)
      change wpList _ _ _ _ _ (World.drew wd)
      go_wp2_with fail
      refine (hbe _).mono ?_
      rintro e w3 ⟨rfl, hb3⟩
      go_wp2_with fail
      go_ret
      exact ⟨ret_bool HE.out.symm, fr_call hbr (fr_call (fr_drew (fr_refl wd)) hb3)⟩
   ·have HE := Lib.hid (soon_end heq.out (by rw [HX.out]; omega) (by rw [HY.out]; omega) (Or.inr (by rw [HY.out]; omega)))
    rw [HX.out, HY.out] at HE
    have q3 : ¬ ((i : Int) < (m : Int)) := by omega
    go_wp2_with fail
    go_ret
    exact ⟨ret_bool (by rw [HE.out]), hbr⟩
  ·have HE := Lib.hid (soon_end heq.out (by rw [HX.out]; omega) (by rw [HY.out]; omega) (Or.inl (by rw [HX.out]; omega)))
   rw [HX.out, HY.out] at HE
   have q3 : ¬ ((i : Int) < (n : Int)) := by omega
   go_wp2_with fail
   go_ret
   exact ⟨ret_bool (by rw [HE.out]), hbr⟩
end Go.Proofs.YtfgghicdkcjdgaaGreatDoor
end

section
namespace Go.Proofs.YtfgghicdkcjdgaaGreatDoor

/- numbers and pairs -/
theorem pairsOf_cons (x y : Int) (t : List Int) : pairsOf (x :: y :: t) = ⟨x, y⟩ :: pairsOf t := by
 unfold pairsOf
 rw [show (x :: y :: t).length / 2 = t.length / 2 + 1 by simp only [List.length_cons]; omega, pairK_cons]
theorem teeth_pairsOf : ∀ t : List Int, t.length % 2 = 0 → teethL (pairsOf t) = t
 | [], _ => rfl
 | [x], h => by simp at h
 | x :: y :: t, h => by
  rw [pairsOf_cons, teethL, teeth_pairsOf t (by simp only [List.length_cons] at h; omega)]
theorem mem_pairs {ts : List (List Int)} (he : ∀ t ∈ ts, t.length % 2 = 0) {x : List Wh} : x ∈ ts.map pairsOf ↔ teethL x ∈ ts := by
 rw [List.mem_map]
 constructor
 ·rintro ⟨t, ht, rfl⟩
  rw [teeth_pairsOf t (he t ht)]
  exact ht
 ·intro h
  exact ⟨teethL x, h, pairs_teethL x⟩
theorem mem_guess {ws : List Wh} {ns : List Note} {t : List Int} : t ∈ guessL ws ns ↔ Fits ws t ∧ breaksL ns t = [] := by
 unfold guessL
 rw [List.mem_filter, mem_allT]
 simp [List.isEmpty_iff]
theorem guess_even {ws : List Wh} {ns : List Note} (h : ws.length % 2 = 0) : ∀ t ∈ guessL ws ns, t.length % 2 = 0 := fun t ht => by
 rw [(mem_guess.1 ht).1.len]; exact h
/- the order of trains -/
def lexL : List Int → List Int → Bool
 | [], [] => false
 | [], _ :: _ => true
 | _ :: _, [] => false
 | x :: a, y :: b => if x = y then lexL a b else decide (x < y)
theorem lex_soon : ∀ ps qs : List Wh, lexL (teethL ps) (teethL qs) = soonB ps qs
 | [], [] => rfl
 | [], _ :: _ => rfl
 | _ :: _, [] => rfl
 | ⟨a, b⟩ :: ps, ⟨c, d⟩ :: qs => by
  have ih := lex_soon ps qs
  simp only [teethL, lexL, soonB, befB]
  by_cases h1 : a = c
  ·subst h1
   by_cases h2 : b = d
   ·subst h2; simp [ih]
   ·have h3 : ¬ ((⟨a, b⟩ : Wh) = ⟨a, d⟩) := fun e => h2 (congrArg Wh.hi e)
    simp [h2, h3]
  ·have h3 : ¬ ((⟨a, b⟩ : Wh) = ⟨c, d⟩) := fun e => h1 (congrArg Wh.lo e)
   have h4 : (a == c) = false := beq_eq_false_iff_ne.2 h1
   simp [h1, h3, h4]
theorem lex_cons_lt {x y : Int} {a b : List Int} (h : x < y) : lexL (x :: a) (y :: b) = true := by
 unfold lexL
 rw [if_neg (by omega)]
 simpa using h
theorem lex_cons_eq {x : Int} {a b : List Int} : lexL (x :: a) (x :: b) = lexL a b := by simp [lexL]
theorem upTo_lt : ∀ (k : Nat) (lo hi : Int), (hi + 1 - lo).toNat = k → (upTo lo hi).Pairwise (· < ·)
 | 0, lo, hi, h => by rw [upTo_nil (by omega)]; exact List.Pairwise.nil
 | k + 1, lo, hi, h => by
  rw [upTo_cons (by omega)]
  exact List.Pairwise.cons (fun x hx => by have := mem_upTo.1 hx; omega) (upTo_lt k (lo + 1) hi (by omega))
theorem pairwise_flat {α β : Type} {R : β → β → Prop} {f : α → List β} : ∀ {l : List α}, (∀ a ∈ l, (f a).Pairwise R) → l.Pairwise (fun a b => ∀ x ∈ f a, ∀ y ∈ f b, R x y) → (l.flatMap f).Pairwise R
 | [], _, _ => List.Pairwise.nil
 | a :: l, h1, h2 => by
  rw [List.flatMap_cons, List.pairwise_append]
  rw [List.pairwise_cons] at h2
  refine ⟨h1 a (by simp), pairwise_flat (fun b hb => h1 b (by simp [hb])) h2.2, fun x hx y hy => ?_⟩
  obtain ⟨b, hb, hy⟩ := List.mem_flatMap.1 hy
  exact h2.1 b hb x hx y hy
theorem allT_lex : ∀ ws : List Wh, (allT ws).Pairwise (fun a b => lexL a b = true)
 | [] => List.pairwise_singleton ..
 | s :: ws => by
  unfold allT
  refine pairwise_flat (fun x _ => ?_) ?_
  ·rw [List.pairwise_map]
   exact (allT_lex ws).imp (fun h => by rw [lex_cons_eq]; exact h)
  ·refine (upTo_lt _ s.lo s.hi rfl).imp ?_
   intro x y hxy a ha b hb
   obtain ⟨a', _, rfl⟩ := List.mem_map.1 ha
   obtain ⟨b', _, rfl⟩ := List.mem_map.1 hb
   exact lex_cons_lt hxy
theorem guess_lex (ws : List Wh) (ns : List Note) : (guessL ws ns).Pairwise (fun a b => lexL a b = true) := (allT_lex ws).filter _
theorem guess_soon {ws : List Wh} {ns : List Note} (he : ws.length % 2 = 0) : ((guessL ws ns).map pairsOf).Pairwise (fun a b => soonB a b = true) := by
 rw [List.pairwise_map]
 refine (guess_lex ws ns).imp_of_mem ?_
 intro a b ha hb h
 rw [← lex_soon, teeth_pairsOf a (guess_even he a ha), teeth_pairsOf b (guess_even he b hb)]
 exact h
/-- what the theorem of guesses says of the list -/
structure AllOk (ws : List Wh) (ns : List Note) (ps : List (List Wh)) : Prop where
 fit : ∀ p ∈ ps, Fits ws (teethL p)
 len : ∀ p ∈ ps, p.length ≤ 3
 none : ∀ p ∈ ps, breaksL ns (teethL p) = []
 soon : ∀ i, (h : i + 1 < ps.length) → soonB ps[i] ps[i + 1] = true
theorem all_ok {ws : List Wh} {ns : List Note} (hv : FindOk ws ns) : AllOk ws ns ((guessL ws ns).map pairsOf) := by
 have key : ∀ p ∈ (guessL ws ns).map pairsOf, teethL p ∈ guessL ws ns := fun p hp => (mem_pairs (guess_even hv.even)).1 hp
 refine ⟨fun p hp => (mem_guess.1 (key p hp)).1, fun p hp => ?_, fun p hp => (mem_guess.1 (key p hp)).2, fun i h => ?_⟩
 ·have h1 := (mem_guess.1 (key p hp)).1.len
  rw [teethL_len] at h1
  have := hv.six
  omega
 ·exact List.pairwise_iff_getElem.1 (guess_soon hv.even) i (i + 1) (by omega) h (by omega)
end Go.Proofs.YtfgghicdkcjdgaaGreatDoor
end
