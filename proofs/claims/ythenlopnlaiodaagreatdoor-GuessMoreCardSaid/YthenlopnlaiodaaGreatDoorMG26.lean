/- Reference: Rising, Listed, Shorter. Reference: Without. Walk: append of rows, all at once. Walk: a copy of a find's notes by append; the notes with one more. -/
import Derived.Test.YthenlopnlaiodaaGreatDoorMG25
import Derived.Test.YthenlopnlaiodaaGreatDoorMG12
import Derived.BigQuiet
import Derived.Test.YthenlopnlaiodaaGreatDoorMG19
import Derived.Test.YthenlopnlaiodaaGreatDoorMG2
import Derived.Test.YthenlopnlaiodaaGreatDoorMG17
import Derived.Deep.Upon
section
namespace Go.Proofs.YthenlopnlaiodaaGreatDoor
open Go.RowKit Go.Shelf

theorem mem_take_succ {xs : List Int} {i : Nat} {x : Int} (h : ¬ x ∈ xs.take i) (hi : i < xs.length) (hx : ¬ xs[i] = x) : ¬ x ∈ xs.take (i + 1) := by
 rw [List.take_succ_eq_append_getElem hi, List.mem_append]
 rintro (h1 | h1)
 ·exact h h1
 ·exact hx (List.mem_singleton.1 h1).symm
set_option maxRecDepth 100000 in
set_option maxHeartbeats 4000000 in
theorem Listed8_any (A : Option Addr) (n c : Nat) (xs : List Int) (x : Int) (w : World) (hr : Rd w A n xs) (hn : n ≤ 1000000) :
  Calls Tryz.prog 84 #[.slice A n c, .int .i64 x] w fun e w' => e = .returned (.bool (decide (x ∈ xs))) ∧ Below w.heap.size w w' := by
 have HX := Lib.hid hr.len
 go_enter Tryz.func84, Tryz.ntmps84
 go_wp2_with fail
 go_loopw [5] (fun t wr => ∃ i : Nat, i ≤ n ∧ t = .int .i64 i ∧ Hid (¬ x ∈ xs.take i) ∧ Below w.heap.size w wr) (fun t _ => n - (intOf t).toNat)
 case atStart => exact ⟨0, Nat.zero_le _, rfl, Lib.hid (by simp), fr_refl _⟩
 case round =>
  obtain ⟨i, hi, rfl, hno, hbr⟩ := hrel
  by_cases hlt : i < n
  ·obtain ⟨ad, rfl, hab, hc⟩ := (hr.keep hbr).at_ hlt
   have h1 : i < xs.length := by rw [HX.out]; exact hlt
   have g1 : xs[i]?.getD 0 = xs[i] := by rw [List.getElem?_eq_getElem h1]; rfl
   rw [g1] at hc
   have hst := fun h => mem_take_succ hno.out h1 h
   have hin := fun h : xs[i] = x => (show x ∈ xs from h ▸ List.getElem_mem h1)
   have q1 : 0 ≤ (i : Int) := by omega
   have q2 : (i : Int) < (n : Int) := by omega
   clear g1 hr
   generalize xs[i] = y at *
   by_cases hxy : y = x
   ·have hb : (y == x) = true := beq_iff_eq.2 hxy
    have HE := Lib.hid (hin hxy)
    clear hxy hst hin
    go_wp2_with fail
    go_ret
    exact ⟨ret_bool (by rw [decide_eq_true HE.out]), hbr⟩
   ·have hb : (y == x) = false := beq_eq_false_iff_ne.2 hxy
    have HE := Lib.hid (hst hxy)
    clear hxy hst hin
    go_wp2_with fail
    refine ⟨⟨i + 1, hlt, by go_num, HE, hbr⟩, ?_⟩
    simp [intOf]; omega
  ·obtain rfl : i = n := by omega
   go_wp2_with fail
   go_ret
   refine ⟨ret_bool ?_, hbr⟩
   have := hno.out
   rw [List.take_of_length_le (by rw [HX.out]; exact Nat.le_refl _)] at this
   rw [decide_eq_false this]
set_option maxRecDepth 100000 in
set_option maxHeartbeats 4000000 in
theorem Shorter8_any (A B : Option Addr) (n m c d : Nat) (xs ys : List Int) (w : World) (hx : Rd w A n xs) (hy : Rd w B m ys) (hn : n ≤ 1000000) (hm : m ≤ 1000000) :
  Calls Tryz.prog 33 #[.slice A n c, .slice B m d] w fun e w' => e = .returned (.bool (ltD xs ys)) ∧ Below w.heap.size w w' := by
 have hxl := hx.len
 have hyl := hy.len
 by_cases hl : n = m
 ·subst hl
  have hlb : ((n : Int) == (n : Int)) = true := by simp
  have hlb2 : ((n : Int) != (n : Int)) = false := by simp
  have HR := Lib.hid (show ltD xs ys = decide (cmpL xs ys < 0) by unfold ltD; rw [hxl, hyl]; simp)
  have HX := Lib.hid hxl
  have HY := Lib.hid hyl
  clear hxl hyl
  go_enter Tryz.func33, Tryz.ntmps33
  go_wp2_with fail
  go_loopw [5] (fun t wr => ∃ i : Nat, i ≤ n ∧ t = .int .i64 i ∧ Hid (cmpL (xs.drop i) (ys.drop i) = cmpL xs ys) ∧ Below w.heap.size w wr) (fun t _ => n - (intOf t).toNat)
  case atStart => exact ⟨0, Nat.zero_le _, rfl, Lib.hid rfl, fr_refl _⟩
  case round =>
   obtain ⟨i, hi, rfl, heq, hbr⟩ := hrel
   by_cases hlt : i < n
   ·obtain ⟨ad, rfl, hab, hc⟩ := (hx.keep hbr).at_ hlt
    obtain ⟨ae, rfl, hae, hd⟩ := (hy.keep hbr).at_ hlt
    have h1 : i < xs.length := by rw [HX.out]; exact hlt
    have h2 : i < ys.length := by rw [HY.out]; exact hlt
    have g1 : xs[i]?.getD 0 = xs[i] := by rw [List.getElem?_eq_getElem h1]; rfl
    have g2 : ys[i]?.getD 0 = ys[i] := by rw [List.getElem?_eq_getElem h2]; rfl
    rw [g1] at hc
    rw [g2] at hd
    have hst := (cmpL_drop h1 h2).symm.trans heq.out
    have q1 : 0 ≤ (i : Int) := by omega
    have q2 : (i : Int) < (n : Int) := by omega
    clear g1 g2 hx hy
    generalize xs[i] = x at *
    generalize ys[i] = y at *
    by_cases hxy : x = y
    ·have hb : (x == y) = true := beq_iff_eq.2 hxy
     have hb2 : (x != y) = false := by simp [hxy]
     have hz : cmpI x y = 0 := by rw [hxy]; unfold cmpI; simp
     rw [if_pos hz] at hst
     have HE := Lib.hid hst
     clear hxy hst hz
     go_wp2_with fail
     go_still (by kernel_rfl)
     go_wp2_with fail
     refine ⟨⟨i + 1, hlt, by go_num, HE, fr_call hbr (fr_drew (fr_refl _))⟩, ?_⟩
     simp [intOf]; omega
    ·have hb : (x == y) = false := beq_eq_false_iff_ne.2 hxy
     have hb2 : (x != y) = true := by simp [hxy]
     have hv : decide (x < y) = ltD xs ys := by
      rw [HR.out, ← hst]
      rcases cmpI_cases x y with ⟨h1, e1⟩ | ⟨h1, e1⟩ | ⟨h1, e1⟩
      ·rw [e1, decide_eq_true h1]; rfl
      ·exact absurd h1 hxy
      ·rw [e1, decide_eq_false (by omega)]; rfl
     have HE := Lib.hid hv
     clear hxy hst hv
     go_wp2_with fail
     go_still (by kernel_rfl)
     have hbz := fr_drew (fr_refl wr)
     have hc' := (hbz.cell (p := ad.add i) (by rw [block_of_add]; exact hab)).trans hc
     have hd' := (hbz.cell (p := ae.add i) (by rw [block_of_add]; exact hae)).trans hd
     go_wp2_with fail
     change Code.wp _ _ _ _ (World.drew wr)
     generalize World.drew wr = wz at *
     go_still (by kernel_rfl)
     go_wp2_with fail
     go_ret
     exact ⟨ret_bool (by rw [← HE.out]), fr_call (fr_call hbr hbz) (fr_drew (fr_refl _))⟩
   ·obtain rfl : i = n := by omega
    have hv : ltD xs ys = false := by
     rw [HR.out, ← heq.out, List.drop_of_length_le (by rw [HX.out]; exact Nat.le_refl _)]
     simp [cmpL]
    have HE := Lib.hid hv
    clear hv
    go_wp2_with fail
    go_ret
    exact ⟨ret_bool (by rw [HE.out]), hbr⟩
 ·have hlb : ((n : Int) == (m : Int)) = false := beq_eq_false_iff_ne.2 (by omega)
  have hlb2 : ((n : Int) != (m : Int)) = true := by simp; omega
  have hv : decide ((n : Int) < (m : Int)) = ltD xs ys := by
   unfold ltD
   rw [hxl, hyl, decide_eq_false hl, Bool.false_and, Bool.or_false]
   exact decide_eq_decide.2 (by omega)
  have HE := Lib.hid hv
  clear hl hxl hyl hv
  go_enter Tryz.func33, Tryz.ntmps33
  go_wp2_with fail
  go_ret
  exact ⟨ret_bool (by rw [← HE.out]; exact decide_eq_decide.2 (by omega)), fr_refl _⟩
theorem rises_succ {m : Int} {xs : List Int} {i : Nat} (hi : i < xs.length) (h : RisesL m (xs.take i)) (hx : 0 ≤ xs[i] ∧ xs[i] < m) (hl : 0 < i → xs[i - 1]?.getD 0 < xs[i]) : RisesL m (xs.take (i + 1)) := by
 rw [List.take_succ_eq_append_getElem hi]
 refine ⟨fun y hy => ?_, ?_⟩
 ·rcases List.mem_append.1 hy with hy | hy
  ·exact h.1 y hy
  ·rw [List.mem_singleton.1 hy]; exact hx
 ·rw [List.pairwise_append]
  refine ⟨h.2, List.pairwise_singleton _ _, fun y hy z hz => ?_⟩
  rw [List.mem_singleton.1 hz]
  obtain ⟨j, hj, rfl⟩ := List.mem_iff_getElem.1 hy
  have hji : j < i := by rw [List.length_take] at hj; omega
  have h0 := hl (by omega)
  rw [List.getElem?_eq_getElem (show i - 1 < xs.length by omega), Option.getD_some] at h0
  rw [List.getElem_take]
  by_cases e : j = i - 1
  ·subst e; exact h0
  ·have := List.pairwise_iff_getElem.1 h.2 j (i - 1) hj (by rw [List.length_take]; omega) (by omega)
   rw [List.getElem_take, List.getElem_take] at this
   omega
theorem rises_in {m : Int} {xs : List Int} (h : RisesL m xs) {i : Nat} (hi : i < xs.length) : (0 ≤ xs[i] ∧ xs[i] < m) ∧ (0 < i → xs[i - 1]?.getD 0 < xs[i]) := by
 refine ⟨h.1 _ (List.getElem_mem hi), fun h0 => ?_⟩
 rw [List.getElem?_eq_getElem (show i - 1 < xs.length by omega), Option.getD_some]
 exact List.pairwise_iff_getElem.1 h.2 (i - 1) i (by omega) hi (by omega)
set_option maxRecDepth 100000 in
set_option maxHeartbeats 8000000 in
theorem Rising8_any (A N B : Option Addr) (n m k c d e : Nat) (xs : List Int) (w : World) (hx : Rd w B k xs) (hm : m ≤ 1000000) (hk : k ≤ 1000000) (b : Bool) (hb : b = true ↔ RisesL (m : Int) xs) :
  Calls Tryz.prog 30 #[.agg #[.slice A n c, .slice N m d], .slice B k e] w fun e' w' => e' = .returned (.bool b) ∧ Below w.heap.size w w' := by
 have HB := Lib.hid hb
 have hfr := fr_alloc (fr_refl w) (.cells #[.slice A n c, .slice N m d] 25)
 have hX := Blk.new w 25 #[.slice A n c, .slice N m d]
 replace hx := hx.keep hfr
 have HX := Lib.hid hx.len
 clear hb
 go_enter Tryz.func30, Tryz.ntmps30
 go_wp2_with fail
 generalize w.alloc (.cells #[.slice A n c, .slice N m d] 25) = w1 at *
 go_loopw [5] (fun t wr => ∃ i : Nat, i ≤ k ∧ t = .int .i64 i ∧ Hid (RisesL (m : Int) (xs.take i)) ∧ Below w1.heap.size w1 wr) (fun t _ => k - (intOf t).toNat)
 case atStart => exact ⟨0, Nat.zero_le _, rfl, Lib.hid ⟨fun x hx => absurd hx (by simp), by simp⟩, fr_refl _⟩
 case round =>
  obtain ⟨i, hi, rfl, hri, hbr⟩ := hrel
  have hXr := hX.keep hbr
  have hcX := fun j => hXr.cell j
  have hlX := hXr.lt
  by_cases hlt : i < k
  ·obtain ⟨ad, rfl, hab, hc⟩ := (hx.keep hbr).at_ hlt
   have h1 : i < xs.length := by rw [HX.out]; exact hlt
   have g1 : xs[i]?.getD 0 = xs[i] := by rw [List.getElem?_eq_getElem h1]; rfl
   rw [g1] at hc
   have hst := Lib.hid (fun a b => rises_succ h1 hri.out a b)
   have hno := Lib.hid (fun h : RisesL (m : Int) xs => rises_in h h1)
   have q1 : 0 ≤ (i : Int) := by omega
   have q2 : (i : Int) < (k : Int) := by omega
   by_cases hin : 0 ≤ xs[i] ∧ xs[i] < (m : Int)
   ·have hib : inB xs[i] 0 ((m : Int) - 1) = true := inB_yes (by omega)
    by_cases h0 : 0 < i
    ·obtain ⟨j, rfl⟩ : ∃ j, i = j + 1 := ⟨i - 1, by omega⟩
     obtain ⟨ad', e', hab', hc'⟩ := (hx.keep hbr).at_ (show j < k by omega)
     cases e'
     have r1 : decide ((0 : Int) < ((j + 1 : Nat) : Int)) = true := decide_eq_true (by omega)
     have r2 : (((j + 1 : Nat) : Int)) - 1 = (j : Int) := by omega
     have r3 : 0 ≤ (j : Int) := by omega
     have hcb := hc
     rw [show ad.add (j + 1) = ⟨ad.block, ad.off + (j + 1), none⟩ by unfold Addr.add; simp] at hcb
     have p1 : 0 ≤ (j : Int) + 1 := by omega
     have p2 : (j : Int) + 1 < (k : Int) := by omega
     have p3 : decide ((0 : Int) < (j : Int) + 1) = true := decide_eq_true (by omega)
     have p4 : (0 : Int) < (j : Int) + 1 := by omega
     have r4 : (j : Int) < (k : Int) := by omega
     have r5 : IntKind.i64.wrap (((j + 1 : Nat) : Int) - 1) = (j : Int) := by rw [r2]; exact IntWalk.i64_in _ (by omega)
     have hpre : xs[j + 1 - 1]?.getD 0 = xs[j]?.getD 0 := rfl
     by_cases hle : xs[j + 1] ≤ xs[j]?.getD 0
     ·have r6 : decide (xs[j + 1] ≤ xs[j]?.getD 0) = true := decide_eq_true hle
      have HE1 : b = false := by
       cases hbb : b
       ·rfl
       ·have := (hno.out (HB.out.1 hbb)).2 (by omega)
        rw [hpre] at this
        omega
      clear hst hno hin hle hx hpre g1 hri HB
      generalize xs[j + 1] = x at *
      generalize xs[j]?.getD 0 = y at *
      subst HE1
      go_wp2_with fail
      go_quiet ((go_at_call 50; exact quiet_left (rin_is _ _ _ _ _ hib)))
      go_wp2_with fail
      go_ret
      exact ⟨rfl, fr_drewN (hfr.trans (hbr.mono hfr.size)) _⟩
     ·have r6 : decide (xs[j + 1] ≤ xs[j]?.getD 0) = false := decide_eq_false hle
      have HE := Lib.hid (hst.out hin (fun _ => by rw [hpre]; omega))
      clear hst hno hin hle hpre g1 hri
      generalize xs[j + 1] = x at *
      generalize xs[j]?.getD 0 = y at *
      go_wp2_with fail
      go_quiet ((go_at_call 50; exact quiet_left (rin_is _ _ _ _ _ hib)))
      go_wp2_with fail
      go_roundw
      case rel => exact ⟨j + 2, by omega, by go_num, HE, fr_drewN hbr _⟩
      case measure => simp [intOf]; omega
    ·obtain rfl : i = 0 := by omega
     have r1 : decide ((0 : Int) < ((0 : Nat) : Int)) = false := rfl
     rw [show ad.add 0 = ad from rfl] at hc
     have p1 : (0 : Int) < (k : Int) := by omega
     have p2 : 0 < k := by omega
     have HE := Lib.hid (hst.out hin (fun h => absurd h h0))
     clear hst hno hin g1 hri
     generalize xs[0] = x at *
     go_wp2_with fail
     go_quiet ((go_at_call 50; exact quiet_left (rin_is _ _ _ _ _ hib)))
     go_wp2_with fail
     go_roundw
     case rel => exact ⟨1, by omega, by go_num, HE, fr_drewN hbr _⟩
     case measure => simp [intOf]; omega
   ·have hib : inB xs[i] 0 ((m : Int) - 1) = false := inB_no (by omega)
    have HE1 : b = false := by
     cases hbb : b
     ·rfl
     ·exact absurd (hno.out (HB.out.1 hbb)).1 hin
    clear hst hno hin g1 hri hx HB
    generalize xs[i] = x at *
    subst HE1
    go_wp2_with fail
    go_quiet ((go_at_call 50; exact quiet_left (rin_is _ _ _ _ _ hib)))
    go_wp2_with fail
    go_ret
    exact ⟨rfl, fr_drewN (hfr.trans (hbr.mono hfr.size)) _⟩
  ·obtain rfl : i = k := by omega
   have hE := HB.out.2 (by
    have := hri.out
    rw [List.take_of_length_le (by rw [HX.out]; exact Nat.le_refl _)] at this
    exact this)
   subst hE
   go_wp2_with fail
   go_ret
   exact ⟨rfl, hfr.trans (hbr.mono hfr.size)⟩
end Go.Proofs.YthenlopnlaiodaaGreatDoor
end

section
namespace Go.Proofs.YthenlopnlaiodaaGreatDoor
open Go.RowKit Go.Shelf

section
variable {o : Oper} {a : Act} {w : World} {K : Act → World → Prop} {Q : Exit → Act → World → Prop}
theorem wp_build_note {x : Nat} {v0 v1 v2 v3 v4 v5 v6 v7 v8 : Int} (ho : o.op = .buildSlice 23 1 #[(0, .tmp x)]) (hx : a.tmps.getD x undef = .agg #[.int .i64 v0, .int .i64 v1, .int .i64 v2, .int .i64 v3, .int .i64 v4, .int .i64 v5, .int .i64 v6, .int .i64 v7, .int .i64 v8])
  (h : ∀ g w', w.heap.size = g → Blk w' g 61 #[.int .i64 v0, .int .i64 v1, .int .i64 v2, .int .i64 v3, .int .i64 v4, .int .i64 v5, .int .i64 v6, .int .i64 v7, .int .i64 v8] → Below w.heap.size w w' → K (a.put o.dst (.slice (some ⟨g, 0, none⟩) 1 1)) w') : o.wp Tryz.prog a w K Q := by
 have h1 := h w.heap.size (w.alloc (.cells #[.int .i64 v0, .int .i64 v1, .int .i64 v2, .int .i64 v3, .int .i64 v4, .int .i64 v5, .int .i64 v6, .int .i64 v7, .int .i64 v8] 61)) rfl (Blk.new w _ _) (fr_alloc (fr_refl w) _)
 obtain ⟨dst, op, ty, pos, after, guard⟩ := o
 simp only at ho
 subst ho
 have hx' : a.tmps[x]?.getD undef = .agg #[.int .i64 v0, .int .i64 v1, .int .i64 v2, .int .i64 v3, .int .i64 v4, .int .i64 v5, .int .i64 v6, .int .i64 v7, .int .i64 v8] := by simpa using hx
 go_simp
 exact h1
end
/-- a find whose notes are gathered: what holds between two notes -/
structure WI (w0 : World) (bx br bf : Nat) (X : Array Value) (u : Value) (R : List Note) (v : Value) (W : World) : Prop where
 x : Blk W bx 25 X
 r : Blk W br 25 #[.slice none 0 0, .slice none 0 0]
 f : Blk W bf 25 #[u, v]
 nn : OwnS W w0.heap.size 61 9 v (R.map Note.cells)
 bel : Below w0.heap.size w0 W
theorem WI.below {w0 W W' : World} {bx br bf : Nat} {X : Array Value} {u v : Value} {R : List Note} (h : WI w0 bx br bf X u R v W) (hb : Below W.heap.size W W') : WI w0 bx br bf X u R v W' :=
 ⟨h.x.keep hb, h.r.keep hb, h.f.keep hb, h.nn.keep hb, fr_call h.bel hb⟩
theorem WI.add {w0 W W' : World} {bx br bf n c : Nat} {X : Array Value} {u v : Value} {R : List Note} {x : Note} {A : Option Addr} (h : WI w0 bx br bf X u R v W) (hx : bx ≠ bf) (hr : br ≠ bf) (hf : w0.heap.size ≤ bf)
  (hown : OwnS W' w0.heap.size 61 9 (.slice A n c) (R.map Note.cells ++ [x.cells])) (hg : W.grownBy W' v.ownBlock) :
  WI w0 bx br bf X u (R ++ [x]) (.slice A n c) (W'.setCell ⟨bf, 1, none⟩ (.slice A n c)) := by
 have hF := h.f.grown hg (ownS_not h.nn h.f (by decide))
 have hX := h.x.grown hg (ownS_not h.nn h.x (by decide))
 have hR := h.r.grown hg (ownS_not h.nn h.r (by decide))
 have hs := grown_set W' ⟨bf, 1, none⟩ (.slice A n c)
 refine ⟨hX.grown hs (by intro e; cases e; exact hx rfl), hR.grown hs (by intro e; cases e; exact hr rfl), hF.set_ 1 _, ?_, ?_⟩
 ·rw [List.map_append]
  exact hown.grownT hs (blk_notT hF (by decide))
 ·have h1 := h.bel.grown hg h.bel.size h.nn.ge
  exact h1.grown hs h1.size (by intro k hk; cases hk; exact hf)
set_option maxRecDepth 100000 in
set_option maxHeartbeats 8000000 in
theorem Without8_any (A N B : Option Addr) (c d k e : Nat) (ws : List Wh) (ns : List Note) (gone : List Int) (w : World) (hf : FindAt w A N ws ns) (hgo : Rd w B k gone) (hk : k ≤ 1000000) (hm : ns.length ≤ 1000) :
  Calls Tryz.prog 32 #[.agg #[.slice A ws.length c, .slice N ns.length d], .slice B k e] w fun e' w' => ∃ M q, e' = .returned (.agg #[.slice A ws.length c, .slice M (withoutL ns gone).length q]) ∧ FindAt w' A M ws (withoutL ns gone) ∧ Below w.heap.size w w' := by
 have hfr := fr_alloc (fr_alloc (fr_refl w) (.cells #[.slice A ws.length c, .slice N ns.length d] 25)) (.cells #[.slice none 0 0, .slice none 0 0] 25)
 have hX := (Blk.new w 25 #[.slice A ws.length c, .slice N ns.length d]).alloc (.cells #[.slice none 0 0, .slice none 0 0] 25)
 have hR : Blk ((w.alloc (.cells #[.slice A ws.length c, .slice N ns.length d] 25)).alloc (.cells #[.slice none 0 0, .slice none 0 0] 25)) (w.heap.size + 1) 25 #[.slice none 0 0, .slice none 0 0] := Blk.new_at _ _ (by simp)
 obtain ⟨m, hmm⟩ : ∃ m, ns.length = m := ⟨_, rfl⟩
 have HM := Lib.hid hmm
 rw [hmm] at hfr hX hR hm ⊢
 clear hmm
 go_enter Tryz.func32, Tryz.ntmps32
 go_upto_region 1 with (fail)
 generalize (w.alloc (.cells #[.slice A ws.length c, .slice N m d] 25)).alloc (.cells #[.slice none 0 0, .slice none 0 0] 25) = w1 at *
 have hcX := fun j => hX.cell j
 have hlX := hX.lt
 have hlR := hR.lt
 go_wp2_with (refine wpList_store_blk rfl _ _ _ rfl w1.heap.size 25 _ _ rfl rfl (Blk.new w1 _ _) rfl (by kernel_rfl) (by simp [Value.oneCell']) ?_; intro w2 hF2 hg2)
 have hb12 : Below w1.heap.size w1 w2 := (fr_alloc (fr_refl w1) _).grown hg2 (fr_alloc (fr_refl w1) _).size (by intro k hk; cases hk; exact Nat.le_refl _)
 have hI0 : WI w1 w.heap.size (w.heap.size + 1) w1.heap.size #[.slice A ws.length c, .slice N m d] (.slice A ws.length c) [] (.slice none 0 0) w2 := ⟨hX.keep hb12, hR.keep hb12, hF2, OwnS.nil _ _ _ _, hb12⟩
 clear hcX hX hR hF2 hg2 hb12
 go_loopw [6] (fun t wr => ∃ (i : Nat) (v : Value), i ≤ m ∧ t = .int .i64 i ∧ WI w1 w.heap.size (w.heap.size + 1) w1.heap.size #[.slice A ws.length c, .slice N m d] (.slice A ws.length c) (woN ns gone i) v wr) (fun t _ => m - (intOf t).toNat)
 case atStart => exact ⟨0, _, Nat.zero_le _, rfl, hI0⟩
 case round =>
  clear hI0
  obtain ⟨i, v, hi, rfl, hI⟩ := hrel
  have hcX := fun j => hI.x.cell j
  have hlt0 := hI.x.lt
  by_cases hlt : i < m
  ·have hil : i < ns.length := by rw [HM.out]; exact hlt
   have hli := Listed8_any B k e gone (i : Int) _ (hgo.keep (fr_call hfr hI.bel)) hk
   have i1 : 0 ≤ (i : Int) := by omega
   have i2 : (i : Int) < (m : Int) := by omega
   by_cases hg : (i : Int) ∈ gone
   ·rw [decide_eq_true hg] at hli
    have HST := Lib.hid (woN_yes hil hg)
    clear hg
    go_wp2_with fail
    refine hli.mono ?_
    rintro e' w3 ⟨rfl, hb3⟩
    have hI3 := hI.below hb3
    rw [← HST.out] at hI3
    clear hli hb3 hI
    go_wp2_with fail
    refine ⟨⟨i + 1, v, hlt, by go_num, hI3⟩, ?_⟩
    simp [intOf]; omega
   ·rw [decide_eq_false hg] at hli
    have HST := Lib.hid (woN_no hil hg)
    have hwl := woN_len ns gone i
    clear hg
    go_wp2_with fail
    refine hli.mono ?_
    rintro e' w3 ⟨rfl, hb3⟩
    have hI3 := hI.below hb3
    clear hli hb3 hI hcX
    obtain ⟨ad, rfl, _⟩ := notes_at hf.ns hil
    go_upto_region 6 with (fail)
    refine wp_region_noPanic ?_
    refine wp_region_held_drew (S := fun _ => True) (by kernel_rfl) trivial (fun hHeld => ?_)
    have hIz := hI3.below (fr_drew (fr_refl _))
    generalize w3.drew = wz at hIz hHeld ⊢
    clear hI3
    have hll : ((woN ns gone i).map Note.cells).length < 1000000 := by rw [List.length_map]; omega
    obtain ⟨x, hx⟩ : ∃ x, ns[i] = x := ⟨_, rfl⟩
    rw [hx] at HST
    have HX := Lib.hid hx
    clear hx
    obtain ⟨x0, x1, x2, x3, x4, x5, x6, x7, x8⟩ := x
    -- the region, step by step, in whatever order
    refine wpAnyH_take (i := 0) (oi := ⟨some 21, .fieldAddr 25 (.tmp 5) 1, 0, "ref.go:192", #[], none⟩) (v := ?_) rfl (by kernel_rfl) (by kernel_rfl) (by kernel_rfl) (fun _ _ _ h => h) (Or.inl ⟨by rfl, fun W hSw => ?_⟩) hHeld ?_
    rotate_left
    ·(try dsimp only at hSw); go_simp; (try with_reducible rfl)
    (try simp only [Act.put, List.setIfInBounds_toArray, List.set_cons_zero, List.set_cons_succ])
    refine wpAnyH_take (i := 2) (oi := ⟨some 23, .fieldAddr 25 (.tmp 2) 1, 0, "ref.go:192", #[], none⟩) (v := ?_) rfl (by kernel_rfl) (by kernel_rfl) (by kernel_rfl) (fun _ _ _ h => h) (Or.inl ⟨by rfl, fun W hSw => ?_⟩) hHeld ?_
    rotate_left
    ·(try dsimp only at hSw); go_simp; (try with_reducible rfl)
    (try simp only [Act.put, List.setIfInBounds_toArray, List.set_cons_zero, List.set_cons_succ])
    refine wpAnyH_take (i := 4) (oi := ⟨some 25, .move (.tmp 6), 3, "ref.go:192", #[], none⟩) (v := ?_) rfl (by kernel_rfl) (by kernel_rfl) (by kernel_rfl) (fun _ _ _ h => h) (Or.inl ⟨by rfl, fun W hSw => ?_⟩) hHeld ?_
    rotate_left
    ·(try dsimp only at hSw); go_simp; (try with_reducible rfl)
    (try simp only [Act.put, List.setIfInBounds_toArray, List.set_cons_zero, List.set_cons_succ])
    refine wpAnyH_ready (rs := [1, 3]) (by kernel_rfl) (by simp) ?_
    refine (AllReadyH.cons (o := ⟨some 22, .load 23 (.tmp 21), 23, "ref.go:192", #[⟨0, .data⟩], none⟩) rfl (fun K hK => ?_) (AllReadyH.cons (o := ⟨some 24, .load 23 (.tmp 23), 23, "ref.go:192", #[⟨2, .data⟩], none⟩) rfl (fun K hK => ?_) AllReadyH.nil))
    ·rw [if_pos (by rfl)]
     have hcf := hIz.f.cell 1
     go_simp
     clear hcf
     refine hK.out _ _ (trivial) (fun hHeld => ?_)
     clear hK K
     (try simp only [Act.put, List.setIfInBounds_toArray, List.set_cons_zero, List.set_cons_succ])
     refine wpAnyH_ready (rs := [3]) (by kernel_rfl) (by simp) ?_
     refine (AllReadyH.cons (o := ⟨some 24, .load 23 (.tmp 23), 23, "ref.go:192", #[⟨2, .data⟩], none⟩) rfl (fun K hK => ?_) AllReadyH.nil)
     rw [if_pos (by rfl)]
     have hcx := hIz.x.cell 1
     go_simp
     clear hcx
     refine hK.out _ _ (trivial) (fun hHeld => ?_)
     clear hK K
     (try simp only [Act.put, List.setIfInBounds_toArray, List.set_cons_zero, List.set_cons_succ])
     refine wpAnyH_take (i := 5) (oi := ⟨some 26, .indexAddr 23 (.tmp 24) (.tmp 25), 0, "ref.go:192", #[⟨3, .data⟩, ⟨4, .data⟩], none⟩) (v := ?_) rfl (by kernel_rfl) (by kernel_rfl) (by kernel_rfl) (fun _ _ _ h => h) (Or.inl ⟨by rfl, fun W hSw => ?_⟩) hHeld ?_
     rotate_left
     ·(try dsimp only at hSw); go_simp; (try with_reducible rfl)
     (try simp only [Act.put, List.setIfInBounds_toArray, List.set_cons_zero, List.set_cons_succ])
     refine wpAnyH_ready (rs := [6]) (by kernel_rfl) (by simp) ?_
     refine (AllReadyH.cons (o := ⟨some 27, .load 61 (.tmp 26), 61, "ref.go:192", #[⟨5, .data⟩], none⟩) rfl (fun K hK => ?_) AllReadyH.nil)
     rw [if_pos (by rfl)]
     obtain ⟨ad', e1, _, c0, c1, c2, c3, c4, c5, c6, c7, c8⟩ := notes_at (hf.ns.keep (fr_call hfr hIz.bel)) hil
     rw [HX.out] at c0 c1 c2 c3 c4 c5 c6 c7 c8
     cases e1
     go_simp
     clear c0 c1 c2 c3 c4 c5 c6 c7 c8
     refine hK.out _ _ (trivial) (fun hHeld => ?_)
     clear hK K
     (try simp only [Act.put, List.setIfInBounds_toArray, List.set_cons_zero, List.set_cons_succ])
     refine wpAnyH_ready (rs := [7]) (by kernel_rfl) (by simp) ?_
     refine (AllReadyH.cons (o := ⟨some 28, .buildSlice 23 1 #[(0, .tmp 27)], 23, "ref.go:192", #[⟨6, .data⟩], none⟩) rfl (fun K hK => ?_) AllReadyH.nil)
     rw [if_pos (by rfl)]
     refine wp_build_note rfl rfl ?_
     intro gx wz hgz hG hb1
     replace hIz := hIz.below hb1
     refine hK.out _ _ (trivial) (fun hHeld => ?_)
     clear hK K
     (try simp only [Act.put, List.setIfInBounds_toArray, List.set_cons_zero, List.set_cons_succ])
     refine wpAnyH_ready (rs := [8]) (by kernel_rfl) (by simp) ?_
     refine (AllReadyH.cons (o := ⟨some 29, .call { callee := .builtin .append, args := #[.tmp 22, .tmp 28], argTypes := #[23, 23] }, 23, "ref.go:192", #[⟨1, .data⟩, ⟨7, .data⟩], none⟩) rfl (fun K hK => ?_) AllReadyH.nil)
     rw [if_pos (by rfl)]
     (try replace hG := hG)
     refine wp_app_row (.tmp 22) (.tmp 28) rfl Tryz.underlying23 info_noteG rfl (by omega) (by omega) w1.heap.size v _ rfl hIz.nn gx rfl (r := Note.cells ⟨x0, x1, x2, x3, x4, x5, x6, x7, x8⟩) hG rfl (by intro u hu; simp only [Note.cells, List.mem_cons, List.not_mem_nil, or_false] at hu; rcases hu with rfl | rfl | rfl | rfl | rfl | rfl | rfl | rfl | rfl <;> rfl) hll hIz.bel.size ?_
     intro A2 c2 wz2 hown2 hgr
     rw [List.length_map] at hown2 ⊢
     refine hK.out _ _ (trivial) (fun hHeld => ?_)
     clear hK K
     (try simp only [Act.put, List.setIfInBounds_toArray, List.set_cons_zero, List.set_cons_succ])
     refine wpAnyH_take (i := 9) (oi := ⟨some 30, .fieldAddr 25 (.tmp 5) 1, 0, "ref.go:192", #[⟨0, .phase⟩, ⟨1, .phase⟩, ⟨2, .phase⟩, ⟨3, .phase⟩, ⟨4, .phase⟩, ⟨5, .phase⟩, ⟨6, .phase⟩, ⟨7, .phase⟩, ⟨8, .phase⟩], none⟩) (v := ?_) rfl (by kernel_rfl) (by kernel_rfl) (by kernel_rfl) (fun _ _ _ h => h) (Or.inl ⟨by rfl, fun W hSw => ?_⟩) hHeld ?_
     rotate_left
     ·(try dsimp only at hSw); go_simp; (try with_reducible rfl)
     (try simp only [Act.put, List.setIfInBounds_toArray, List.set_cons_zero, List.set_cons_succ])
     refine wpAnyH_ready (rs := [10]) (by kernel_rfl) (by simp) ?_
     refine (AllReadyH.cons (o := ⟨none, .store 23 (.tmp 30) (.tmp 29), 0, "ref.go:192", #[⟨9, .data⟩, ⟨8, .data⟩, ⟨8, .chain⟩, ⟨0, .phase⟩, ⟨1, .phase⟩, ⟨2, .phase⟩, ⟨3, .phase⟩, ⟨4, .phase⟩, ⟨5, .phase⟩, ⟨6, .phase⟩, ⟨7, .phase⟩, ⟨8, .phase⟩], none⟩) rfl (fun K hK => ?_) AllReadyH.nil)
     rw [if_pos (by rfl)]
     have hF2 := hIz.f.grown hgr (ownS_not hIz.nn hIz.f (by decide))
     have hcF := fun j => hF2.cell j
     have hfF := fun j => hF2.frozen j
     go_simp
     clear hcF hfF
     refine hK.out _ _ (trivial) (fun hHeld => ?_)
     clear hK K
     refine wpAnyH_done (by kernel_rfl) ?_ _
     refine NoPanic.normal ?_
     have hIn := hIz.add (by omega) (by omega) (Nat.le_refl _) hown2 hgr
     rw [← HST.out] at hIn
     go_wp2_with fail
     refine ⟨⟨i + 1, _, hlt, by go_num, hIn⟩, ?_⟩
     simp [intOf]; omega
    ·rw [if_pos (by rfl)]
     have hcx := hIz.x.cell 1
     go_simp
     clear hcx
     refine hK.out _ _ (trivial) (fun hHeld => ?_)
     clear hK K
     (try simp only [Act.put, List.setIfInBounds_toArray, List.set_cons_zero, List.set_cons_succ])
     refine wpAnyH_take (i := 5) (oi := ⟨some 26, .indexAddr 23 (.tmp 24) (.tmp 25), 0, "ref.go:192", #[⟨3, .data⟩, ⟨4, .data⟩], none⟩) (v := ?_) rfl (by kernel_rfl) (by kernel_rfl) (by kernel_rfl) (fun _ _ _ h => h) (Or.inl ⟨by rfl, fun W hSw => ?_⟩) hHeld ?_
     rotate_left
     ·(try dsimp only at hSw); go_simp; (try with_reducible rfl)
     (try simp only [Act.put, List.setIfInBounds_toArray, List.set_cons_zero, List.set_cons_succ])
     refine wpAnyH_ready (rs := [1, 6]) (by kernel_rfl) (by simp) ?_
     refine (AllReadyH.cons (o := ⟨some 22, .load 23 (.tmp 21), 23, "ref.go:192", #[⟨0, .data⟩], none⟩) rfl (fun K hK => ?_) (AllReadyH.cons (o := ⟨some 27, .load 61 (.tmp 26), 61, "ref.go:192", #[⟨5, .data⟩], none⟩) rfl (fun K hK => ?_) AllReadyH.nil))
     ·rw [if_pos (by rfl)]
      have hcf := hIz.f.cell 1
      go_simp
      clear hcf
      refine hK.out _ _ (trivial) (fun hHeld => ?_)
      clear hK K
      (try simp only [Act.put, List.setIfInBounds_toArray, List.set_cons_zero, List.set_cons_succ])
      refine wpAnyH_ready (rs := [6]) (by kernel_rfl) (by simp) ?_
      refine (AllReadyH.cons (o := ⟨some 27, .load 61 (.tmp 26), 61, "ref.go:192", #[⟨5, .data⟩], none⟩) rfl (fun K hK => ?_) AllReadyH.nil)
      rw [if_pos (by rfl)]
      obtain ⟨ad', e1, _, c0, c1, c2, c3, c4, c5, c6, c7, c8⟩ := notes_at (hf.ns.keep (fr_call hfr hIz.bel)) hil
      rw [HX.out] at c0 c1 c2 c3 c4 c5 c6 c7 c8
      cases e1
      go_simp
      clear c0 c1 c2 c3 c4 c5 c6 c7 c8
      refine hK.out _ _ (trivial) (fun hHeld => ?_)
      clear hK K
      (try simp only [Act.put, List.setIfInBounds_toArray, List.set_cons_zero, List.set_cons_succ])
      refine wpAnyH_ready (rs := [7]) (by kernel_rfl) (by simp) ?_
      refine (AllReadyH.cons (o := ⟨some 28, .buildSlice 23 1 #[(0, .tmp 27)], 23, "ref.go:192", #[⟨6, .data⟩], none⟩) rfl (fun K hK => ?_) AllReadyH.nil)
      rw [if_pos (by rfl)]
      refine wp_build_note rfl rfl ?_
      intro gx wz hgz hG hb1
      replace hIz := hIz.below hb1
      refine hK.out _ _ (trivial) (fun hHeld => ?_)
      clear hK K
      (try simp only [Act.put, List.setIfInBounds_toArray, List.set_cons_zero, List.set_cons_succ])
      refine wpAnyH_ready (rs := [8]) (by kernel_rfl) (by simp) ?_
      refine (AllReadyH.cons (o := ⟨some 29, .call { callee := .builtin .append, args := #[.tmp 22, .tmp 28], argTypes := #[23, 23] }, 23, "ref.go:192", #[⟨1, .data⟩, ⟨7, .data⟩], none⟩) rfl (fun K hK => ?_) AllReadyH.nil)
      rw [if_pos (by rfl)]
      (try replace hG := hG)
      refine wp_app_row (.tmp 22) (.tmp 28) rfl Tryz.underlying23 info_noteG rfl (by omega) (by omega) w1.heap.size v _ rfl hIz.nn gx rfl (r := Note.cells ⟨x0, x1, x2, x3, x4, x5, x6, x7, x8⟩) hG rfl (by intro u hu; simp only [Note.cells, List.mem_cons, List.not_mem_nil, or_false] at hu; rcases hu with rfl | rfl | rfl | rfl | rfl | rfl | rfl | rfl | rfl <;> rfl) hll hIz.bel.size ?_
      intro A2 c2 wz2 hown2 hgr
      rw [List.length_map] at hown2 ⊢
      refine hK.out _ _ (trivial) (fun hHeld => ?_)
      clear hK K
      (try simp only [Act.put, List.setIfInBounds_toArray, List.set_cons_zero, List.set_cons_succ])
      refine wpAnyH_take (i := 9) (oi := ⟨some 30, .fieldAddr 25 (.tmp 5) 1, 0, "ref.go:192", #[⟨0, .phase⟩, ⟨1, .phase⟩, ⟨2, .phase⟩, ⟨3, .phase⟩, ⟨4, .phase⟩, ⟨5, .phase⟩, ⟨6, .phase⟩, ⟨7, .phase⟩, ⟨8, .phase⟩], none⟩) (v := ?_) rfl (by kernel_rfl) (by kernel_rfl) (by kernel_rfl) (fun _ _ _ h => h) (Or.inl ⟨by rfl, fun W hSw => ?_⟩) hHeld ?_
      rotate_left
      ·(try dsimp only at hSw); go_simp; (try with_reducible rfl)
      (try simp only [Act.put, List.setIfInBounds_toArray, List.set_cons_zero, List.set_cons_succ])
      refine wpAnyH_ready (rs := [10]) (by kernel_rfl) (by simp) ?_
      refine (AllReadyH.cons (o := ⟨none, .store 23 (.tmp 30) (.tmp 29), 0, "ref.go:192", #[⟨9, .data⟩, ⟨8, .data⟩, ⟨8, .chain⟩, ⟨0, .phase⟩, ⟨1, .phase⟩, ⟨2, .phase⟩, ⟨3, .phase⟩, ⟨4, .phase⟩, ⟨5, .phase⟩, ⟨6, .phase⟩, ⟨7, .phase⟩, ⟨8, .phase⟩], none⟩) rfl (fun K hK => ?_) AllReadyH.nil)
      rw [if_pos (by rfl)]
      have hF2 := hIz.f.grown hgr (ownS_not hIz.nn hIz.f (by decide))
      have hcF := fun j => hF2.cell j
      have hfF := fun j => hF2.frozen j
      go_simp
      clear hcF hfF
      refine hK.out _ _ (trivial) (fun hHeld => ?_)
      clear hK K
      refine wpAnyH_done (by kernel_rfl) ?_ _
      refine NoPanic.normal ?_
      have hIn := hIz.add (by omega) (by omega) (Nat.le_refl _) hown2 hgr
      rw [← HST.out] at hIn
      go_wp2_with fail
      refine ⟨⟨i + 1, _, hlt, by go_num, hIn⟩, ?_⟩
      simp [intOf]; omega
     ·rw [if_pos (by rfl)]
      obtain ⟨ad', e1, _, c0, c1, c2, c3, c4, c5, c6, c7, c8⟩ := notes_at (hf.ns.keep (fr_call hfr hIz.bel)) hil
      rw [HX.out] at c0 c1 c2 c3 c4 c5 c6 c7 c8
      cases e1
      go_simp
      clear c0 c1 c2 c3 c4 c5 c6 c7 c8
      refine hK.out _ _ (trivial) (fun hHeld => ?_)
      clear hK K
      (try simp only [Act.put, List.setIfInBounds_toArray, List.set_cons_zero, List.set_cons_succ])
      refine wpAnyH_ready (rs := [1, 7]) (by kernel_rfl) (by simp) ?_
      refine (AllReadyH.cons (o := ⟨some 22, .load 23 (.tmp 21), 23, "ref.go:192", #[⟨0, .data⟩], none⟩) rfl (fun K hK => ?_) (AllReadyH.cons (o := ⟨some 28, .buildSlice 23 1 #[(0, .tmp 27)], 23, "ref.go:192", #[⟨6, .data⟩], none⟩) rfl (fun K hK => ?_) AllReadyH.nil))
      ·rw [if_pos (by rfl)]
       have hcf := hIz.f.cell 1
       go_simp
       clear hcf
       refine hK.out _ _ (trivial) (fun hHeld => ?_)
       clear hK K
       (try simp only [Act.put, List.setIfInBounds_toArray, List.set_cons_zero, List.set_cons_succ])
       refine wpAnyH_ready (rs := [7]) (by kernel_rfl) (by simp) ?_
       refine (AllReadyH.cons (o := ⟨some 28, .buildSlice 23 1 #[(0, .tmp 27)], 23, "ref.go:192", #[⟨6, .data⟩], none⟩) rfl (fun K hK => ?_) AllReadyH.nil)
       rw [if_pos (by rfl)]
       refine wp_build_note rfl rfl ?_
       intro gx wz hgz hG hb1
       replace hIz := hIz.below hb1
       refine hK.out _ _ (trivial) (fun hHeld => ?_)
       clear hK K
       (try simp only [Act.put, List.setIfInBounds_toArray, List.set_cons_zero, List.set_cons_succ])
       refine wpAnyH_ready (rs := [8]) (by kernel_rfl) (by simp) ?_
       refine (AllReadyH.cons (o := ⟨some 29, .call { callee := .builtin .append, args := #[.tmp 22, .tmp 28], argTypes := #[23, 23] }, 23, "ref.go:192", #[⟨1, .data⟩, ⟨7, .data⟩], none⟩) rfl (fun K hK => ?_) AllReadyH.nil)
       rw [if_pos (by rfl)]
       (try replace hG := hG)
       refine wp_app_row (.tmp 22) (.tmp 28) rfl Tryz.underlying23 info_noteG rfl (by omega) (by omega) w1.heap.size v _ rfl hIz.nn gx rfl (r := Note.cells ⟨x0, x1, x2, x3, x4, x5, x6, x7, x8⟩) hG rfl (by intro u hu; simp only [Note.cells, List.mem_cons, List.not_mem_nil, or_false] at hu; rcases hu with rfl | rfl | rfl | rfl | rfl | rfl | rfl | rfl | rfl <;> rfl) hll hIz.bel.size ?_
       intro A2 c2 wz2 hown2 hgr
       rw [List.length_map] at hown2 ⊢
       refine hK.out _ _ (trivial) (fun hHeld => ?_)
       clear hK K
       (try simp only [Act.put, List.setIfInBounds_toArray, List.set_cons_zero, List.set_cons_succ])
       refine wpAnyH_take (i := 9) (oi := ⟨some 30, .fieldAddr 25 (.tmp 5) 1, 0, "ref.go:192", #[⟨0, .phase⟩, ⟨1, .phase⟩, ⟨2, .phase⟩, ⟨3, .phase⟩, ⟨4, .phase⟩, ⟨5, .phase⟩, ⟨6, .phase⟩, ⟨7, .phase⟩, ⟨8, .phase⟩], none⟩) (v := ?_) rfl (by kernel_rfl) (by kernel_rfl) (by kernel_rfl) (fun _ _ _ h => h) (Or.inl ⟨by rfl, fun W hSw => ?_⟩) hHeld ?_
       rotate_left
       ·(try dsimp only at hSw); go_simp; (try with_reducible rfl)
       (try simp only [Act.put, List.setIfInBounds_toArray, List.set_cons_zero, List.set_cons_succ])
       refine wpAnyH_ready (rs := [10]) (by kernel_rfl) (by simp) ?_
       refine (AllReadyH.cons (o := ⟨none, .store 23 (.tmp 30) (.tmp 29), 0, "ref.go:192", #[⟨9, .data⟩, ⟨8, .data⟩, ⟨8, .chain⟩, ⟨0, .phase⟩, ⟨1, .phase⟩, ⟨2, .phase⟩, ⟨3, .phase⟩, ⟨4, .phase⟩, ⟨5, .phase⟩, ⟨6, .phase⟩, ⟨7, .phase⟩, ⟨8, .phase⟩], none⟩) rfl (fun K hK => ?_) AllReadyH.nil)
       rw [if_pos (by rfl)]
       have hF2 := hIz.f.grown hgr (ownS_not hIz.nn hIz.f (by decide))
       have hcF := fun j => hF2.cell j
       have hfF := fun j => hF2.frozen j
       go_simp
       clear hcF hfF
       refine hK.out _ _ (trivial) (fun hHeld => ?_)
       clear hK K
       refine wpAnyH_done (by kernel_rfl) ?_ _
       refine NoPanic.normal ?_
       have hIn := hIz.add (by omega) (by omega) (Nat.le_refl _) hown2 hgr
       rw [← HST.out] at hIn
       go_wp2_with fail
       refine ⟨⟨i + 1, _, hlt, by go_num, hIn⟩, ?_⟩
       simp [intOf]; omega
      ·rw [if_pos (by rfl)]
       refine wp_build_note rfl rfl ?_
       intro gx wz hgz hG hb1
       replace hIz := hIz.below hb1
       refine hK.out _ _ (trivial) (fun hHeld => ?_)
       clear hK K
       (try simp only [Act.put, List.setIfInBounds_toArray, List.set_cons_zero, List.set_cons_succ])
       refine wpAnyH_ready (rs := [1]) (by kernel_rfl) (by simp) ?_
       refine (AllReadyH.cons (o := ⟨some 22, .load 23 (.tmp 21), 23, "ref.go:192", #[⟨0, .data⟩], none⟩) rfl (fun K hK => ?_) AllReadyH.nil)
       rw [if_pos (by rfl)]
       have hcf := hIz.f.cell 1
       go_simp
       clear hcf
       refine hK.out _ _ (trivial) (fun hHeld => ?_)
       clear hK K
       (try simp only [Act.put, List.setIfInBounds_toArray, List.set_cons_zero, List.set_cons_succ])
       refine wpAnyH_ready (rs := [8]) (by kernel_rfl) (by simp) ?_
       refine (AllReadyH.cons (o := ⟨some 29, .call { callee := .builtin .append, args := #[.tmp 22, .tmp 28], argTypes := #[23, 23] }, 23, "ref.go:192", #[⟨1, .data⟩, ⟨7, .data⟩], none⟩) rfl (fun K hK => ?_) AllReadyH.nil)
       rw [if_pos (by rfl)]
       (try replace hG := hG)
       refine wp_app_row (.tmp 22) (.tmp 28) rfl Tryz.underlying23 info_noteG rfl (by omega) (by omega) w1.heap.size v _ rfl hIz.nn gx rfl (r := Note.cells ⟨x0, x1, x2, x3, x4, x5, x6, x7, x8⟩) hG rfl (by intro u hu; simp only [Note.cells, List.mem_cons, List.not_mem_nil, or_false] at hu; rcases hu with rfl | rfl | rfl | rfl | rfl | rfl | rfl | rfl | rfl <;> rfl) hll hIz.bel.size ?_
       intro A2 c2 wz2 hown2 hgr
       rw [List.length_map] at hown2 ⊢
       refine hK.out _ _ (trivial) (fun hHeld => ?_)
       clear hK K
       (try simp only [Act.put, List.setIfInBounds_toArray, List.set_cons_zero, List.set_cons_succ])
       refine wpAnyH_take (i := 9) (oi := ⟨some 30, .fieldAddr 25 (.tmp 5) 1, 0, "ref.go:192", #[⟨0, .phase⟩, ⟨1, .phase⟩, ⟨2, .phase⟩, ⟨3, .phase⟩, ⟨4, .phase⟩, ⟨5, .phase⟩, ⟨6, .phase⟩, ⟨7, .phase⟩, ⟨8, .phase⟩], none⟩) (v := ?_) rfl (by kernel_rfl) (by kernel_rfl) (by kernel_rfl) (fun _ _ _ h => h) (Or.inl ⟨by rfl, fun W hSw => ?_⟩) hHeld ?_
       rotate_left
       ·(try dsimp only at hSw); go_simp; (try with_reducible rfl)
       (try simp only [Act.put, List.setIfInBounds_toArray, List.set_cons_zero, List.set_cons_succ])
       refine wpAnyH_ready (rs := [10]) (by kernel_rfl) (by simp) ?_
       refine (AllReadyH.cons (o := ⟨none, .store 23 (.tmp 30) (.tmp 29), 0, "ref.go:192", #[⟨9, .data⟩, ⟨8, .data⟩, ⟨8, .chain⟩, ⟨0, .phase⟩, ⟨1, .phase⟩, ⟨2, .phase⟩, ⟨3, .phase⟩, ⟨4, .phase⟩, ⟨5, .phase⟩, ⟨6, .phase⟩, ⟨7, .phase⟩, ⟨8, .phase⟩], none⟩) rfl (fun K hK => ?_) AllReadyH.nil)
       rw [if_pos (by rfl)]
       have hF2 := hIz.f.grown hgr (ownS_not hIz.nn hIz.f (by decide))
       have hcF := fun j => hF2.cell j
       have hfF := fun j => hF2.frozen j
       go_simp
       clear hcF hfF
       refine hK.out _ _ (trivial) (fun hHeld => ?_)
       clear hK K
       refine wpAnyH_done (by kernel_rfl) ?_ _
       refine NoPanic.normal ?_
       have hIn := hIz.add (by omega) (by omega) (Nat.le_refl _) hown2 hgr
       rw [← HST.out] at hIn
       go_wp2_with fail
       refine ⟨⟨i + 1, _, hlt, by go_num, hIn⟩, ?_⟩
       simp [intOf]; omega
  ·obtain rfl : i = m := by omega
   have hw : woN ns gone i = withoutL ns gone := by unfold withoutL; rw [HM.out]
   rw [hw] at hI
   have hcF := fun j => hI.f.cell j
   have hR4 := hI.r
   have hlF := hI.f.lt
   obtain ⟨M, q, rfl⟩ := hI.nn.form
   have hne : ∀ ad, M = some ad → ad.block ≠ w.heap.size + 1 := fun ad e => by have := hI.nn.ge ad.block (by rw [e]; rfl); omega
   have hrd := hI.nn.rd
   have hbw := fr_call hfr hI.bel
   rw [List.length_map] at hcF
   clear hw hI
   go_wp2_with (refine wpList_store_blk rfl _ _ _ rfl (w.heap.size + 1) 25 _ _ rfl rfl hR4 rfl (by kernel_rfl) (by simp [Value.oneCell']) ?_; intro W7 hR7 hg7)
   have hfin := hbw.grown hg7 hbw.size (by intro k hk; cases hk; exact Nat.le_succ _)
   exact bodyPost_ret (results_blk1 rfl _ _ _ _ rfl hR7 Tryz.underlying25 rfl (by kernel_rfl)) rfl ⟨M, q, rfl, ⟨hf.ws.keep hfin, hrd.far hg7 hne⟩, hfin⟩
end Go.Proofs.YthenlopnlaiodaaGreatDoor
end

section
namespace Go.Proofs.YthenlopnlaiodaaGreatDoor
open Go.RowKit Go.Shelf

theorem flat_at {k : Nat} : ∀ {rows : List (List Value)} (_ : ∀ r ∈ rows, r.length = k) (j : Nat) (u : Value), rows.flatten[j]? = some u → ∃ i r t, rows[i]? = some r ∧ r[t]? = some u ∧ j = i * k + t
 | [], _, j, u, h => by simp at h
 | r0 :: rows, hk, j, u, h => by
  rw [List.flatten_cons] at h
  by_cases hj : j < r0.length
  ·rw [List.getElem?_append_left hj] at h
   exact ⟨0, r0, j, rfl, h, by omega⟩
  ·rw [List.getElem?_append_right (by omega)] at h
   obtain ⟨i, r, t, h1, h2, h3⟩ := flat_at (fun r hr => hk r (by simp [hr])) _ u h
   have h0 := hk r0 (by simp)
   exact ⟨i + 1, r, t, by simpa using h1, h2, by rw [Nat.add_mul]; omega⟩
section
variable {o : Oper} {a : Act} {w : World} {K : Act → World → Prop} {Q : Exit → Act → World → Prop}
/-- 'append(s, l...)' of rows of k cells -/
theorem wp_app_rows {T E : TypeId} {z : Value} {k bytes : Nat} (s x : Operand)
  (ho : o.op = .call { callee := .builtin .append, args := #[s, x], argTypes := #[T, T] }) (hu : Tryz.prog.underlying T = some (.slice E)) (hinfo : (Tryz.prog.info? E).map (fun i => (i.zero, i.size, i.bytes)) = some (some z, k, bytes)) (hzk : z.cells.size = k) (hk : 0 < k) (hby : bytes ≤ 1000)
  (base : Nat) (v : Value) (rows : List (List Value)) (hs : a.eval s = v) (hown : OwnS w base E k v rows) (ad : Addr) (n c : Nat) (news : List (List Value)) (hx : a.eval x = .slice (some ad) n c) (hnl : news.length = n) (hrd : RdS w (some ad) k news) (hrl : ∀ r ∈ news, r.length = k) (h1 : ∀ r ∈ news, ∀ u ∈ r, u.oneCell' = true) (hn : rows.length + n < 1000000) (hbase : base ≤ w.heap.size)
  (h : ∀ A c w', OwnS w' base E k (.slice A (rows.length + n) c) (rows ++ news) → w.grownBy w' v.ownBlock → K (a.put o.dst (.slice A (rows.length + n) c)) w') : o.wp Tryz.prog a w K Q := by
 obtain ⟨i0, hi, hz0, hz1, hz2⟩ := info_parts hinfo
 have hb : (rows.length + n) * bytes ≤ 1000000 * 1000 := Nat.mul_le_mul (by omega) hby
 refine wp_append_own w s x _ ho base _ i0 _ k bytes hu hi hz0 hz1 hz2 hzk hk v _ _ hs hown.1 ad n c news.flatten hx (by rw [flat_len hrl, hnl]) ?_ (fun u hu => by
   obtain ⟨r, hr, hur⟩ := List.mem_flatten.1 hu
   exact h1 r hr u hur)
  (by unfold maxLen; omega) (by omega) hbase ?_
 ·intro j u hj
  obtain ⟨i, r, t, e1, e2, rfl⟩ := flat_at hrl j u hj
  obtain ⟨ad', e, _, _, hc⟩ := hrd.at_ e1
  cases e
  exact hc t u e2
 ·intro v' w' hown' hgr _
  have hown2 : OwnS w' base E k v' (rows ++ news) := by
   refine ⟨?_, fun q hq => ?_⟩
   ·rw [List.length_append, List.flatten_append, hnl]
    exact hown'
   ·rcases List.mem_append.1 hq with h2 | h2
    ·exact hown.2 q h2
    ·exact hrl q h2
  obtain ⟨A, c, rfl⟩ := hown2.form
  rw [List.length_append, hnl] at hown2 ⊢
  exact h A c w' hown2 hgr
end
end Go.Proofs.YthenlopnlaiodaaGreatDoor
end

section
namespace Go.Proofs.YthenlopnlaiodaaGreatDoor
open Go.RowKit Go.Shelf

section
variable {o : Oper} {a : Act} {w : World} {K : Act → World → Prop} {Q : Exit → Act → World → Prop}
/-- 'append([]api.GuessNote(nil), l...)' -/
theorem wp_app_notes (x : Operand)
  (ho : o.op = .call { callee := .builtin .append, args := #[.const (.slice none 0 0), x], argTypes := #[23, 23] })
  (base : Nat) (N : Option Addr) (n d : Nat) (ns : List Note) (hx : a.eval x = .slice N n d) (hn : ns.length = n) (hrd : RdS w N 9 (ns.map Note.cells)) (hl : n ≤ 1000) (hbase : base ≤ w.heap.size)
  (h : ∀ A c w', OwnS w' base 61 9 (.slice A n c) (ns.map Note.cells) → Below w.heap.size w w' → K (a.put o.dst (.slice A n c)) w') : o.wp Tryz.prog a w K Q := by
 cases N with
 | none =>
  have h0 : ns = [] := by
   cases ns with
   | nil => rfl
   | cons y l =>
    obtain ⟨ad, e, _⟩ := hrd (by simp)
    cases e
  subst h0
  subst hn
  obtain ⟨i0, hi, hz0, hz1, hz2⟩ := info_parts info_noteG
  have hr := run_append_nothing (P := Tryz.prog) w 23 23 o.type 61 i0 Tryz.underlying23 hi none 0 0 (Nat.le_refl _) (.slice none 0 d) (Src.ofNil w Tryz.underlying23 d)
  have h1 := h none 0 w (OwnS.nil _ _ _ _) (fr_refl w)
  have hc : a.eval (.const (.slice none 0 0)) = .slice none 0 0 := rfl
  unfold Oper.wp execOp
  simp only [ho, resolve, invoke, builtin, Sem.run_bind, Sem.run_pure, Result.andThen_ok, List.map_toArray, List.map_cons, List.map_nil, hx, hc, List.length_nil, hr]
  exact h1
 | some ad =>
  refine wp_app_rows (z := .agg #[.int .i64 0, .int .i64 0, .int .i64 0, .int .i64 0, .int .i64 0, .int .i64 0, .int .i64 0, .int .i64 0, .int .i64 0]) (k := 9) (bytes := 72) (.const (.slice none 0 0)) x ho Tryz.underlying23 info_noteG rfl (by omega) (by omega) base (.slice none 0 0) [] rfl (OwnS.nil _ _ _ _) ad n d (ns.map Note.cells) hx (by rw [List.length_map]; exact hn) hrd (by intro r hr; obtain ⟨s, _, rfl⟩ := List.mem_map.1 hr; rfl) (by intro r hr u hu; obtain ⟨s, _, rfl⟩ := List.mem_map.1 hr; simp only [Note.cells, List.mem_cons, List.not_mem_nil, or_false] at hu; rcases hu with rfl | rfl | rfl | rfl | rfl | rfl | rfl | rfl | rfl <;> rfl) (by simp; omega) hbase ?_
  intro A1 k1 wA hown hgA
  simp only [List.length_nil, Nat.zero_add, List.nil_append] at hown ⊢
  exact h A1 k1 wA hown ((fr_refl w).grown hgA (fr_refl w).size (by intro q hq; cases hq))
end
end Go.Proofs.YthenlopnlaiodaaGreatDoor
end
