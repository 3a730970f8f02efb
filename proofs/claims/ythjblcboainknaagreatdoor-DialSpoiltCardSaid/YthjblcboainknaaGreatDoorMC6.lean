/- Walks: the best of some questions; a map that counts. Walk: Ask. -/
import Derived.Test.YthjblcboainknaaGreatDoorMB1
import Derived.Test.YthjblcboainknaaGreatDoorMB6
import Derived.Test.YthjblcboainknaaGreatDoorProg
import Derived.WalkKit
import Derived.WalkSpells
import Derived.WalkLawsBesides
import Derived.LoopTactic
import Derived.Deep.LoopGhost
import Derived.Lib.Hide
import Derived.Deep.Draws
import Derived.Deep.QuietTactic
import Derived.BigQuiet
import Derived.Deep.RegionHeld3
import Derived.OwnWalk
import Derived.Laws.Rows
import Derived.Deep.DeepMust
import Derived.Defers
import Derived.Recover
import Derived.Laws.Pointers
import Derived.Laws.EntriesVeiled
import Derived.Outline
import Derived.Deep.MidRow
import Derived.RangeFuncNested
import Derived.RangeFuncBound
import Derived.OwnWalkIn
import Derived.TacticsInMore
import Derived.LoopIn
import Derived.Shelf.RegionOpen
import Derived.Sort.CutIn
import Derived.Deep.Cut
import Derived.Maps.OwnOps
import Derived.Maps.OwnSet
import Derived.IntWalk
import Derived.Test.YthjblcboainknaaGreatDoorMC5
section
namespace Go.Proofs.YthjblcboainknaaGreatDoor
open Go.RowKit Dl Go.Maps

/-- the first of some numbers than which none is less, after k of them -/
def bestN (f : Nat → Int) : Nat → Nat × Int
 | 0 => (0, f 0)
 | k + 1 => if f k < (bestN f k).2 then (k, f k) else bestN f k
def qrow (f : Nat → Int) (i : Nat) : List Value := [.int .i64 (i : Int), .int .i64 (f i)]

set_option maxHeartbeats 2000000 in
theorem better_is (a b c d : Int) (w : World) : Calls Tryz.prog 73 #[.agg #[.int .i64 a, .int .i64 b], .agg #[.int .i64 c, .int .i64 d]] w fun e w' => e = .returned (.bool (decide (b < d))) ∧ Below w.heap.size w w' := by
 go_enter Tryz.func73, Tryz.ntmps73
 go_wp2_with fail
 go_ret
 exact ⟨rfl, fr_alloc (fr_alloc (fr_refl _) _) _⟩

set_option maxRecDepth 100000 in
set_option maxHeartbeats 4000000 in
theorem best_any (B : Option Addr) (nl b : Nat) (f : Nat → Int) (w : World) (hB : RdS w B 2 ((List.range nl).map (qrow f))) (hn : 0 < nl) (hnl : nl ≤ 1000) :
  Calls Tryz.prog 72 #[.slice B nl b, .func (.func 73) #[] #[]] w fun e w' => e = .returned (.agg #[.int .i64 ((bestN f nl).1 : Int), .int .i64 (bestN f nl).2]) ∧ Below w.heap.size w w' := by
 have hrow : ∀ k, k < nl → ((List.range nl).map (qrow f))[k]? = some (qrow f k) := fun k hk => by simp [hk]
 obtain ⟨ad0, rfl, hab0, _, hca⟩ := hB.at_ (hrow 0 hn)
 have hz := Blk.new w 117 #[.int .i64 0, .int .i64 0]
 have ga := fr_alloc (fr_refl w) (.cells #[.int .i64 0, .int .i64 0] 117)
 have hd0 : (w.alloc (.cells #[.int .i64 0, .int .i64 0] 117)).cell? ad0 = some (.int .i64 0) := by
  have := (ga.cell (p := ad0.add (0 * 2 + 0)) (by rw [block_of_add]; exact hab0)).trans (hca 0 _ rfl)
  simpa [Addr.add] using this
 have hd1 : (w.alloc (.cells #[.int .i64 0, .int .i64 0] 117)).cell? ⟨ad0.block, ad0.off + 1, none⟩ = some (.int .i64 (f 0)) := by
  have := (ga.cell (p := ad0.add (0 * 2 + 1)) (by rw [block_of_add]; exact hab0)).trans (hca 1 _ rfl)
  simpa [Addr.add] using this
 go_enter Tryz.func72, Tryz.ntmps72
 go_wp2_with fail
 have hzw := ((hz.alloc (.cells #[.int .i64 0, .int .i64 (f 0)] 117)))
 have hQw : Blk ((w.alloc (.cells #[.int .i64 0, .int .i64 0] 117)).alloc (.cells #[.int .i64 0, .int .i64 (f 0)] 117)) (w.heap.size + 1) 117 #[.int .i64 0, .int .i64 (f 0)] := Blk.new_at _ _ (by simp)
 have gb := fr_alloc ga (.cells #[.int .i64 0, .int .i64 (f 0)] 117)
 clear hd0 hd1 hz ga
 go_loopw [13] (fun i wr => ∃ k : Nat, k ≤ nl ∧ i = .int .i64 k ∧ Blk wr (w.heap.size + 1) 117 #[.int .i64 ((bestN f k).1 : Int), .int .i64 (bestN f k).2] ∧ Blk wr w.heap.size 117 #[.int .i64 0, .int .i64 0] ∧ Below w.heap.size w wr) (fun i _ => nl - (intOf i).toNat)
 case atStart => exact ⟨0, Nat.zero_le _, rfl, hQw, hzw, gb⟩
 case round =>
  obtain ⟨k, hk, rfl, hQ, hZ, hbel⟩ := hrel
  by_cases hlt : k < nl
  ·obtain ⟨ad, e0, hab, _, hc⟩ := (hB.keep hbel).at_ (hrow k hlt)
   cases e0
   have hq : ∀ j, ad0.add (k * 2 + (j + 1)) = (ad0.add (k * 2)).add (j + 1) := fun j => by
    unfold Addr.add; by_cases h0 : k * 2 = 0 <;> simp [h0, Nat.add_assoc]
   have hc0 : wr.cell? (ad0.add (k * 2)) = some (.int .i64 (k : Int)) := hc 0 _ rfl
   have hc1 : wr.cell? ⟨(ad0.add (k * 2)).block, (ad0.add (k * 2)).off + 1, none⟩ = some (.int .i64 (f k)) := (congrArg wr.cell? (hq 0)).symm.trans (hc 1 _ rfl)
   have hcQ := fun j => hQ.cell j
   have hsz := hQ.lt
   clear hc hq hrow hB
   have gx := fr_alloc (fr_refl wr) (.cells #[.int .i64 (k : Int), .int .i64 (f k)] 117)
   have hXw := Blk.new wr 117 #[.int .i64 (k : Int), .int .i64 (f k)]
   have hb1 : bestN f (k + 1) = if f k < (bestN f k).2 then (k, f k) else bestN f k := rfl
   have HB1 := Lib.hid hb1
   clear hb1
   generalize bestN f k = bk at *
   by_cases hl : f k < bk.2
   ·have hd : decide (f k < bk.2) = true := by simpa using hl
    go_wp2_with fail
    refine (better_is _ _ _ _ _).mono ?_
    rintro e w1 ⟨rfl, hb⟩
    have hX1 := hXw.keep hb
    have hQ1 := (hQ.keep gx).keep hb
    have hZ1 := (hZ.keep gx).keep hb
    have hcX := fun j => hX1.cell j
    have hcQ1 := fun j => hQ1.cell j
    have hfQ1 := fun j => hQ1.frozen j
    clear hcQ hc0 hc1
    go_wp2_with fail
    have h1 : bestN f (k + 1) = (k, f k) := by rw [HB1.out, if_pos hl]
    refine ⟨⟨k + 1, hlt, rfl, ?_, (hZ1.far (p := ⟨w.heap.size + 1, 0, none⟩) (by simp) _).far (p := ⟨w.heap.size + 1, 1, none⟩) (by simp) _, fr_set (fr_set (fr_call (fr_call hbel gx) hb) (by simp) _) (by simp) _⟩, ?_⟩
    ·rw [h1]
     exact (hQ1.set_ 0 (.int .i64 (k : Int))).set_ 1 (.int .i64 (f k))
    ·simp [intOf]; omega
   ·have hd : decide (f k < bk.2) = false := by simpa using hl
    go_wp2_with fail
    refine (better_is _ _ _ _ _).mono ?_
    rintro e w1 ⟨rfl, hb⟩
    have hQ1 := (hQ.keep gx).keep hb
    have hZ1 := (hZ.keep gx).keep hb
    clear hcQ hc0 hc1
    go_wp2_with fail
    have h1 : bestN f (k + 1) = bk := by rw [HB1.out, if_neg (by omega)]
    refine ⟨⟨k + 1, hlt, rfl, by rw [h1]; exact hQ1, hZ1, fr_call (fr_call hbel gx) hb⟩, ?_⟩
    simp [intOf]; omega
  ·obtain rfl : k = nl := by omega
   have hcQ := fun j => hQ.cell j
   go_wp2_with (refine wpList_store_blk rfl _ _ _ rfl w.heap.size 117 _ _ rfl rfl hZ rfl (by kernel_rfl) (by simp [Value.oneCell']) ?_; intro w3 hZ3 hg3)
   refine bodyPost_ret (results_blk1 rfl _ _ _ _ rfl hZ3 Tryz.underlying117 rfl (by kernel_rfl)) rfl ⟨rfl, hbel.grown hg3 hbel.size (by intro i hi; cases hi; exact Nat.le_refl _)⟩

/-- a map that counts -/
def Cnt (w : World) (m n : Nat) (xs : List Int) : Prop :=
 ∃ D : DataW Unit, w.ownsMap Tryz.prog 3 (plainElem Tryz.prog 3) m n D ∧ ∀ x : Int, D.atKey (.int .i64 x) (.lit (.int .i64 0)) = .lit (.int .i64 (xs.count x : Int))
theorem Cnt.kept {w w' : World} {m n : Nat} {xs : List Int} {r : Option Nat} (h : Cnt w m n xs) (hg : w.grownBy w' r) (hne : some m ≠ r) : Cnt w' m n xs := by
 obtain ⟨D, h1, h2⟩ := h
 exact ⟨D, h1.kept hg hne, h2⟩
theorem Cnt.below {w w' : World} {m n : Nat} {xs : List Int} (h : Cnt w m n xs) (hb : Below w.heap.size w w') : Cnt w' m n xs := h.kept (grown_of_below hb) (by simp)
theorem Cnt.lt {w : World} {m n : Nat} {xs : List Int} (h : Cnt w m n xs) : m < w.heap.size := by obtain ⟨D, h1, _⟩ := h; exact h1.lt
theorem Cnt.made (w : World) : Cnt (w.alloc (.map #[] 0)) w.heap.size 0 [] := ⟨.map [], World.ownsMap_made _ _ _ _, fun x => by rfl⟩
theorem law_int : Keyed Tryz.prog 3 := int_keyed Tryz.underlying3
theorem wf_small {a : Int} (h1 : -1000000000 ≤ a) (h2 : a ≤ 1000000000) : (Lit.int .i64 a).wf = true := by
 have h := wrap64_wf a
 rwa [IntWalk.wrap64_in a (by omega)] at h
theorem lit_inj {a b : Int} (h : (DataW.lit (Lit.int .i64 a) : DataW Unit) = .lit (.int .i64 b)) : a = b := by
 injection h with h
 injection h
theorem Cnt.step {w w1 : World} {m n : Nat} {xs : List Int} {a : Int} {D : DataW Unit} (h1 : w.ownsMap Tryz.prog 3 (plainElem Tryz.prog 3) m n D) (h2 : ∀ x : Int, D.atKey (.int .i64 x) (.lit (.int .i64 0)) = .lit (.int .i64 (xs.count x : Int)))
  (h3 : w1.ownsMap Tryz.prog 3 (plainElem Tryz.prog 3) m (n + 1) (D.put (.int .i64 a) (.lit (.int .i64 ((xs.count a : Int) + 1))))) : Cnt w1 m (n + 1) (xs ++ [a]) := by
 refine ⟨_, h3, fun x => ?_⟩
 by_cases hx : x = a
 ·subst hx
  rw [atKey_put_same (k := .int .i64 x) h1.isMap trivial]
  simp [List.count_append]
 ·rw [atKey_put_other (by intro e; injection e with _ e; exact hx e), h2 x]
  have : ([a] : List Int).count x = 0 := by simp [List.count_cons]; exact fun e => hx e.symm
  rw [List.count_append, this, Nat.add_zero]
end Go.Proofs.YthjblcboainknaaGreatDoor
end

section
namespace Go.Proofs.YthjblcboainknaaGreatDoor
open Go.RowKit Dl Go.Maps

/-- how many of the first k are the most that have the last one's answer -/
def mostPre (xs : List Int) : Nat → Int
 | 0 => 0
 | k + 1 => max (mostPre xs k) (((xs.take (k + 1)).count (xs[k]?.getD 0) : Nat) : Int)
def leftOf (e : Int) (cs : List Int) (num den add : Int) (ys : List Int) (f : Fact) : Int := mostPre (ys.map (fun y => ansOf e cs num den add y f)) ys.length
theorem mostPre_bounds (xs : List Int) : ∀ k, 0 ≤ mostPre xs k ∧ mostPre xs k ≤ k := by
 intro k
 induction k with
 | zero => exact ⟨Int.le_refl _, Int.le_refl _⟩
 | succ k ih =>
  have h1 : (xs.take (k + 1)).count (xs[k]?.getD 0) ≤ (xs.take (k + 1)).length := List.count_le_length
  have h2 : (xs.take (k + 1)).length ≤ k + 1 := List.length_take_le _ _
  unfold mostPre
  omega
theorem ans_bounds (e num den add y : Int) (cs : List Int) (f : Fact) (hm : MoonOk num den add) : -1 ≤ ansOf e cs num den add y f ∧ ansOf e cs num den add y f ≤ 366 := by
 unfold ansOf
 have h1 : -1 ≤ ans1 e cs y f.m f.d ∧ ans1 e cs y f.m f.d ≤ 366 := by
  unfold ans1 wkd
  by_cases h : realB cs y f.m f.d = true
  ·rw [if_pos h]; omega
  ·rw [if_neg h]; omega
 have h2 : -1 ≤ ans2 e cs num den add y f.m f.d ∧ ans2 e cs num den add y f.m f.d ≤ 366 := by
  unfold ans2
  by_cases h : realB cs y f.m f.d = true
  ·rw [if_pos h]; have := age_range hm (dayOf e cs ⟨y, f.m, f.d⟩); omega
  ·rw [if_neg h]; omega
 have h3 : -1 ≤ ans3 e cs num den add y f.m f.d ∧ ans3 e cs num den add y f.m f.d ≤ 366 := by
  unfold ans3
  by_cases h : (realB cs y f.m f.d && (dayOf e cs ⟨y, f.m, f.d⟩ == easterDay e cs num den add y)) = true
  ·rw [if_pos h]; omega
  ·rw [if_neg h]; omega
 have h5 := yearLen_pos cs y
 by_cases k1 : f.k = 1
 ·rw [if_pos k1]; exact h1
 rw [if_neg k1]
 by_cases k2 : f.k = 2
 ·rw [if_pos k2]; exact h2
 rw [if_neg k2]
 by_cases k3 : f.k = 3
 ·rw [if_pos k3]; exact h3
 rw [if_neg k3]
 by_cases k4 : f.k = 4
 ·rw [if_pos k4]; omega
 rw [if_neg k4]
 omega
theorem Rd.ne_map {w : World} {A : Option Addr} {n M : Nat} {xs : List Int} {f : Int → Int} (h : Rd w A n xs) (hn : 0 < n) (hE : EMap w M f) : ∀ ad, A = some ad → ad.block ≠ M := by
 rintro ad rfl rfl
 obtain ⟨ad', e, _, hc⟩ := h.2 hn
 cases e
 obtain ⟨es, clock, hm, _⟩ := hE
 have h0 := hc 0 hn
 unfold World.cell? at h0
 rw [block_of_add, hm] at h0
 cases h0
theorem RdS.ne_map {w : World} {A : Option Addr} {k M : Nat} {rows : List (List Value)} {f : Int → Int} (h : RdS w A k rows) (hn : 0 < rows.length) (hk : 0 < k) (hE : EMap w M f) : ∀ ad, A = some ad → ad.block ≠ M := by
 rintro ad rfl rfl
 obtain ⟨ad', e, _, hc⟩ := h hn
 cases e
 obtain ⟨es, clock, hm, _⟩ := hE
 have h0 := hc 0 rows[0] (by simp [hn])
 have h1 := h0.2 0 (rows[0][0]'(by rw [h0.1]; exact hk)) (by rw [List.getElem?_eq_getElem])
 unfold World.cell? at h1
 rw [block_of_add, hm] at h1
 cases h1
theorem Exc.toGrown {M : Nat} {w W : World} (h : Exc (fun b => b = M) w W) : w.grownBy W (some M) := ⟨h.os, h.tape, h.output, h.size, fun i hi hne => h.block i hi (fun e => hne (by rw [e]))⟩
theorem grownToB {N M : Nat} {w W : World} (h : w.grownBy W (some M)) (hN : N ≤ w.heap.size) (hM : N ≤ M) : Below N w W := ⟨h.os, h.tape, h.output, h.size, fun i hi => h.block i (by omega) (by intro e; injection e with e; omega)⟩
theorem info_question : (Tryz.prog.info? 117).map (fun i => (i.zero, i.size, i.bytes)) = some (some (.agg #[.int .i64 0, .int .i64 0]), 2, 16) := by kernel_rfl

set_option maxRecDepth 100000 in
set_option maxHeartbeats 8000000 in
theorem Ask_ok (A L Q : Option Addr) (n c lc qc : Nat) (cs : List Int) (e num den add y z : Int) (l q : List Fact) (w : World) (hr : Rd w A n cs) (hn : n ≤ 9223372036854775807) (hL : RdS w L 4 (l.map Fact.row)) (hln : l.length ≤ 9223372036854775807) (hQ : RdS w Q 4 (q.map Fact.row)) (hqn : q.length ≤ 9223372036854775807) (hok : calOk e cs = true) (hmb : moonB num den add = true) (hl : factsB l = true) (hq : asksB q = true) (hyb : rangeB y z = true) (hlen : 2 ≤ (yearsOf e cs num den add l y (z - y + 1).toNat).length) :
  Calls Tryz.prog 33 #[.agg #[.int .i64 e, .slice A n c], .agg #[.int .i64 num, .int .i64 den, .int .i64 add], .slice L l.length lc, .slice Q q.length qc, .int .i64 y, .int .i64 z] w fun e' w' =>
   e' = .returned (.tuple #[.int .i64 ((bestN (fun i => leftOf e cs num den add (yearsOf e cs num den add l y (z - y + 1).toNat) (q[i]?.getD ⟨0, 0, 0, 0⟩)) q.length).1 : Int), .int .i64 (bestN (fun i => leftOf e cs num den add (yearsOf e cs num den add l y (z - y + 1).toNat) (q[i]?.getD ⟨0, 0, 0, 0⟩)) q.length).2, .int .i64 0]) ∧ Below w.heap.size w w' := by
 have hmm := @run_makeMap Tryz.prog
 obtain ⟨he, ⟨hn1, hn2⟩, hpos⟩ := calOk_parts hok
 rw [hr.len] at hn1 hn2
 have hm := moonB_ok hmb
 have hyz := range_parts hyb
 have hkinds := facts_kinds hl
 have hqk := asks_kinds hq
 have g1 := fr_alloc (fr_alloc (fr_refl w) (.cells #[.int .i64 e, .slice A n c] 24)) (.cells #[.int .i64 num, .int .i64 den, .int .i64 add] 26)
 go_enter Tryz.func33, Tryz.ntmps33
 go_wp2_with fail
 refine (isCalendar_is A n c cs e _ (hr.keep g1) hn _ hok).mono ?_
 rintro e' w1 ⟨rfl, hb1⟩
 obtain ⟨hc_w1, hf_w1⟩ := bcell hb1
 have hz0_w1 : w.heap.size < w1.heap.size := Nat.lt_of_lt_of_le (by first | omega | (simp; done) | (simp; omega)) hb1.size
 have hz1_w1 : w.heap.size + 1 < w1.heap.size := Nat.lt_of_lt_of_le (by first | omega | (simp; done) | (simp; omega)) hb1.size
 go_wp2_with fail
 refine (isMoon_is _ _ _ _ _ hmb).mono ?_
 rintro e' w2 ⟨rfl, hb2⟩
 obtain ⟨hc_w2, hf_w2⟩ := bcell hb2
 have hz0_w2 : w.heap.size < w2.heap.size := Nat.lt_of_lt_of_le (by first | omega | (simp; done) | (simp; omega)) hb2.size
 have hz1_w2 : w.heap.size + 1 < w2.heap.size := Nat.lt_of_lt_of_le (by first | omega | (simp; done) | (simp; omega)) hb2.size
 go_wp2_with fail
 refine (areFacts_is L lc l _ (((hL.keep g1).keep hb1).keep hb2) hln).mono ?_
 rintro e' w3 ⟨rfl, hb3⟩
 rw [hl]
 obtain ⟨hc_w3, hf_w3⟩ := bcell hb3
 have hz0_w3 : w.heap.size < w3.heap.size := Nat.lt_of_lt_of_le (by first | omega | (simp; done) | (simp; omega)) hb3.size
 have hz1_w3 : w.heap.size + 1 < w3.heap.size := Nat.lt_of_lt_of_le (by first | omega | (simp; done) | (simp; omega)) hb3.size
 go_wp2_with fail
 refine (areQuestions_is Q qc q _ ((((hQ.keep g1).keep hb1).keep hb2).keep hb3) hqn).mono ?_
 rintro e' w3q ⟨rfl, hb3q⟩
 rw [hq]
 obtain ⟨hc_w3q, hf_w3q⟩ := bcell hb3q
 have hz0_w3q : w.heap.size < w3q.heap.size := Nat.lt_of_lt_of_le (by first | omega | (simp; done) | (simp; omega)) hb3q.size
 have hz1_w3q : w.heap.size + 1 < w3q.heap.size := Nat.lt_of_lt_of_le (by first | omega | (simp; done) | (simp; omega)) hb3q.size
 go_wp2_with fail
 refine (isRange_is _ _ _ _ hyb).mono ?_
 rintro e' w3' ⟨rfl, rfl⟩
 go_wp2_with fail
 have hb := fr_call (fr_call (fr_call (fr_call g1 hb1) hb2) hb3) hb3q
 refine (open_any A n c cs e num den add _ (hr.keep hb) hok).mono ?_
 rintro e' w4 ⟨F, fc, M, rfl, hF, hM1, hM2, hb4, hFf⟩
 go_wp2_with fail
 have hMw : w.heap.size ≤ M := Nat.le_trans hb.size hM1
 have hr5 := (hr.keep hb).keep hb4
 have hE4 := EMap.empty (easterDay e cs num den add) hM2
 refine (years_any A F L n c fc M lc cs e num den add y z l _ hr5 hn2 hpos hF he hm hyz hE4 hkinds ((hL.keep hb).keep hb4) hln).mono ?_
 rintro e' w5 ⟨B, b, rfl, hB, hBf, hE5, hg5⟩
 have hfr5 : Below w.heap.size w w5 := (fr_call hb hb4).grown hg5 (fr_call hb hb4).size (by intro k hk; cases hk; exact hMw)
 have hYle := yearsOf_len e num den add y cs l (z - y + 1).toNat
 have hq6 : 1 ≤ q.length ∧ q.length ≤ 6 := by
  have h6 := hq
  unfold asksB at h6
  simp only [Bool.and_eq_true] at h6
  have := inB_iff.1 h6.1
  omega
 have hQw : ∀ ad, Q = some ad → ad.block < w.heap.size := fun ad e0 => by
  obtain ⟨ad', e1, h1, _⟩ := hQ (by rw [List.length_map]; omega)
  rw [e0] at e1; cases e1; exact h1
 have hAw : ∀ ad, A = some ad → ad.block < w.heap.size := fun ad e0 => by
  obtain ⟨ad', e1, h1, _⟩ := hr.2 hn1
  rw [e0] at e1; cases e1; exact h1
 have hFM := hF.ne_map (by decide) hE4
 have hBM := hB.ne_map (by rw [List.length_map]; omega) (by decide) hE5
 have hr5' := hr5.farM hE4 hg5
 have hF5' := hF.farM hE4 hg5
 have hQ5 := (((hQ.keep hb).keep hb4)).farM (by decide) hE4 hg5
 have hyr : ∀ y' ∈ yearsOf e cs num den add l y (z - y + 1).toNat, 0 ≤ y' ∧ y' ≤ 4000 := fun y' hy' => by
  have := yearsOf_mem hy'
  omega
 generalize hys : yearsOf e cs num den add l y (z - y + 1).toNat = ys at *
 have HYS := Lib.hid hys
 have HFR := Lib.hid hfr5
 have hny : ys.length ≤ 1000 := by omega
 have hMl := hE5.lt
 clear hys hc_w1 hf_w1 hz0_w1 hz1_w1 hc_w2 hf_w2 hz0_w2 hz1_w2 hc_w3 hf_w3 hz0_w3 hz1_w3 hc_w3q hf_w3q hz0_w3q hz1_w3q hb1 hb2 hb3 hb3q hb hM1 hM2 hb4 hFf hF g1 hr hL hQ hE4 hg5 hBf hfr5 hYle hr5
 have hl0 : ((ys.length : Int) == 0) = false := beq_eq_false_iff_ne.2 (by omega)
 have hl1 : ((ys.length : Int) == 1) = false := beq_eq_false_iff_ne.2 (by omega)
 go_wp2_with fail
 clear hl0 hl1
 obtain ⟨lf, hlf⟩ : ∃ lf : Nat → Int, (fun i => leftOf e cs num den add ys (q[i]?.getD ⟨0, 0, 0, 0⟩)) = lf := ⟨_, rfl⟩
 have HLF := Lib.hid hlf
 clear hlf
 generalize hnq : q.length = nq at *
 have HNQ := Lib.hid hnq
 clear hnq
 generalize hnl : ys.length = nl at *
 have HNL := Lib.hid hnl
 clear hnl
 have hnlB : 0 < ((ys.map (askRow e A n c num den add F fc M))).length := by rw [List.length_map]; have := HNL.out; omega
 obtain ⟨bd, rfl, hBl, _⟩ := hB hnlB
 clear hnlB
 go_loopw [16, 64] (fun v i wr => ∃ k : Nat, k ≤ nq ∧ i = .int .i64 k ∧ OwnS wr w5.heap.size 117 2 v ((List.range k).map (qrow lf)) ∧ EMap wr M (easterDay e cs num den add) ∧ Exc (fun b => b = M) w5 wr) (fun _ i _ => nq - (intOf i).toNat)
 case atStart => exact ⟨0, Nat.zero_le _, rfl, OwnS.nil _ _ _ _, hE5, Exc.refl _ _⟩
 case round =>
  obtain ⟨k, hk, rfl, hown, hEr, hex⟩ := hrel
  by_cases hlt : k < nq
  ·have hkl : k < q.length := by have := HNQ.out; omega
   have hrow : (q.map Fact.row)[k]? = some (q[k].row) := by simp [hkl]
   have hgq : q[k]?.getD ⟨0, 0, 0, 0⟩ = q[k] := by simp [hkl]
   have hlk : lf k = leftOf e cs num den add ys q[k] := by rw [← HLF.out]; simp only [hgq]
   have hqkk := hqk q[k] (List.getElem_mem hkl)
   obtain ⟨ad, rfl, hab, _, hc⟩ := (hex.rds hQ5 (fun ad e0 h0 => by have := hQw ad e0; omega)).at_ hrow
   have hqa : ∀ j, ad.add (k * 4 + (j + 1)) = (ad.add (k * 4)).add (j + 1) := fun j => by
    unfold Addr.add; by_cases h0 : k * 4 = 0 <;> simp [h0, Nat.add_assoc]
   have hc0 : wr.cell? (ad.add (k * 4)) = some (.int .i64 q[k].k) := hc 0 _ rfl
   have hc1 : wr.cell? ⟨(ad.add (k * 4)).block, (ad.add (k * 4)).off + 1, none⟩ = some (.int .i64 q[k].m) := (congrArg wr.cell? (hqa 0)).symm.trans (hc 1 _ rfl)
   have hc2 : wr.cell? ⟨(ad.add (k * 4)).block, (ad.add (k * 4)).off + 2, none⟩ = some (.int .i64 q[k].d) := (congrArg wr.cell? (hqa 1)).symm.trans (hc 2 _ rfl)
   have hc3 : wr.cell? ⟨(ad.add (k * 4)).block, (ad.add (k * 4)).off + 3, none⟩ = some (.int .i64 q[k].v) := (congrArg wr.cell? (hqa 2)).symm.trans (hc 3 _ rfl)
   have HLK := Lib.hid hlk
   clear hlk hgq
   generalize q[k] = qk at *
   obtain ⟨qa, qm, qd, qv⟩ := qk
   simp only at hc0 hc1 hc2 hc3 hqkk
   clear hc hrow hqa
   have hrx : Rd wr A n cs := hex.rd hr5' (fun ad e0 h0 => by have := hAw ad e0; omega)
   have hFx : Rd wr F 4002 (firsts e cs) := hex.rd hF5' (fun ad e0 h0 => hFM ad e0 h0)
   have hBx := hex.rds hB (fun ad e0 h0 => hBM ad e0 h0)
   have hz5 := hex.size
   go_wp2_with fail
   have hbF := ((Blk.new wr 69 #[.int .i64 qa, .int .i64 qm, .int .i64 qd, .int .i64 qv]).alloc (.map #[] 0)).alloc (.cells #[.int .i64 k, .int .i64 0] 117)
   have hcn : Cnt (((wr.alloc (.cells #[.int .i64 qa, .int .i64 qm, .int .i64 qd, .int .i64 qv] 69)).alloc (.map #[] 0)).alloc (.cells #[.int .i64 k, .int .i64 0] 117)) (wr.heap.size + 1) 0 [] := by
    have := (Cnt.made (wr.alloc (.cells #[.int .i64 qa, .int .i64 qm, .int .i64 qd, .int .i64 qv] 69))).below (fr_alloc (fr_refl _) (.cells #[.int .i64 k, .int .i64 0] 117))
    simpa using this
   have hbq : Blk (((wr.alloc (.cells #[.int .i64 qa, .int .i64 qm, .int .i64 qd, .int .i64 qv] 69)).alloc (.map #[] 0)).alloc (.cells #[.int .i64 k, .int .i64 0] 117)) (wr.heap.size + 1 + 1) 117 #[.int .i64 k, .int .i64 0] := Blk.new_at _ _ (by simp)
   have gA := fr_alloc (fr_alloc (fr_alloc (fr_refl wr) (.cells #[.int .i64 qa, .int .i64 qm, .int .i64 qd, .int .i64 qv] 69)) (.map #[] 0)) (.cells #[.int .i64 k, .int .i64 0] 117)
   have hzA : (((wr.alloc (.cells #[.int .i64 qa, .int .i64 qm, .int .i64 qd, .int .i64 qv] 69)).alloc (.map #[] 0)).alloc (.cells #[.int .i64 k, .int .i64 0] 117)).heap.size = wr.heap.size + 1 + 1 + 1 := by simp
   have hrA := hrx.keep gA
   have hFA := hFx.keep gA
   have hBA := hBx.keep gA
   have hEA := hEr.keep gA
   clear hc0 hc1 hc2 hc3
   generalize ((wr.alloc (.cells #[.int .i64 qa, .int .i64 qm, .int .i64 qd, .int .i64 qv] 69)).alloc (.map #[] 0)).alloc (.cells #[.int .i64 k, .int .i64 0] 117) = WA at *
   obtain ⟨wo, rfl⟩ : ∃ wo : World, wo = wr := ⟨_, rfl⟩
   have hMo := hEr.lt
   have hFl := hFx.2 (by decide)
   have hbdl := Nat.lt_of_lt_of_le hBl hz5
   obtain ⟨xs, hxs⟩ : ∃ xs : List Int, ys.map (fun y => ansOf e cs num den add y ⟨qa, qm, qd, qv⟩) = xs := ⟨_, rfl⟩
   have hxl : xs.length = nl := by rw [← hxs, List.length_map]; exact HNL.out
   have HXS := Lib.hid hxs
   have HXL := Lib.hid hxl
   clear hxs hxl
   go_loopw [74] (fun i wx => ∃ j : Nat, j ≤ nl ∧ i = .int .i64 j ∧ Blk wx (wo.heap.size + 1 + 1) 117 #[.int .i64 k, .int .i64 (mostPre xs j)] ∧ Cnt wx (wo.heap.size + 1) j (xs.take j) ∧ EMap wx M (easterDay e cs num den add) ∧ Exc (fun b => b = M ∨ b = wo.heap.size + 1 ∨ b = wo.heap.size + 1 + 1) WA wx) (fun i _ => nl - (intOf i).toNat)
   case atStart => exact ⟨0, Nat.zero_le _, rfl, hbq, hcn, hEA, Exc.refl _ _⟩
   case round =>
    obtain ⟨j, hj, rfl, hQb, hCn, hEx, hexx⟩ := hrel
    by_cases hltj : j < nl
    ·have hjl : j < ys.length := by have := HNL.out; omega
     have hrowj : (ys.map (askRow e A n c num den add F fc M))[j]? = some (askRow e A n c num den add F fc M ys[j]) := by simp [hjl]
     obtain ⟨ad2, ead, hab2, _, hcc⟩ := (hexx.rds hBA (fun ad0 e0 h0 => by cases e0; have := hBM _ rfl; rcases h0 with h0 | h0 | h0 <;> omega)).at_ hrowj
     cases ead
     have hqb : ∀ i, bd.add (j * 8 + (i + 1)) = (bd.add (j * 8)).add (i + 1) := fun i => by
      unfold Addr.add; by_cases h0 : j * 8 = 0 <;> simp [h0, Nat.add_assoc]
     have hd0 : wr.cell? (bd.add (j * 8)) = some (.int .i64 e) := hcc 0 _ rfl
     have hd1 : wr.cell? ⟨(bd.add (j * 8)).block, (bd.add (j * 8)).off + 1, none⟩ = some (.slice A n c) := (congrArg wr.cell? (hqb 0)).symm.trans (hcc 1 _ rfl)
     have hd2 : wr.cell? ⟨(bd.add (j * 8)).block, (bd.add (j * 8)).off + 2, none⟩ = some (.int .i64 num) := (congrArg wr.cell? (hqb 1)).symm.trans (hcc 2 _ rfl)
     have hd3 : wr.cell? ⟨(bd.add (j * 8)).block, (bd.add (j * 8)).off + 3, none⟩ = some (.int .i64 den) := (congrArg wr.cell? (hqb 2)).symm.trans (hcc 3 _ rfl)
     have hd4 : wr.cell? ⟨(bd.add (j * 8)).block, (bd.add (j * 8)).off + 4, none⟩ = some (.int .i64 add) := (congrArg wr.cell? (hqb 3)).symm.trans (hcc 4 _ rfl)
     have hd5 : wr.cell? ⟨(bd.add (j * 8)).block, (bd.add (j * 8)).off + 5, none⟩ = some (.slice F 4002 fc) := (congrArg wr.cell? (hqb 4)).symm.trans (hcc 5 _ rfl)
     have hd6 : wr.cell? ⟨(bd.add (j * 8)).block, (bd.add (j * 8)).off + 6, none⟩ = some (.map (some M)) := (congrArg wr.cell? (hqb 5)).symm.trans (hcc 6 _ rfl)
     have hd7 : wr.cell? ⟨(bd.add (j * 8)).block, (bd.add (j * 8)).off + 7, none⟩ = some (.int .i64 ys[j]) := (congrArg wr.cell? (hqb 6)).symm.trans (hcc 7 _ rfl)
     have hya := hyr ys[j] (List.getElem_mem hjl)
     have hxj : xs[j]?.getD 0 = ansOf e cs num den add ys[j] ⟨qa, qm, qd, qv⟩ := by rw [← HXS.out]; simp [hjl]
     have hst : xs.take (j + 1) = xs.take j ++ [ansOf e cs num den add ys[j] ⟨qa, qm, qd, qv⟩] := by rw [take_snoc' xs j (by rw [HXL.out]; exact hltj), hxj]
     have hab3 := ans_bounds e num den add ys[j] cs ⟨qa, qm, qd, qv⟩ hm
     generalize ys[j] = yj at *
     have hrz := hexx.rd hrA (fun ad0 e0 h0 => by have := hAw ad0 e0; rcases h0 with h0 | h0 | h0 <;> omega)
     have hFz := hexx.rd hFA (fun ad0 e0 h0 => by
      obtain ⟨ad', e1, h1, _⟩ := hFl
      have h2 := hFM ad0 e0
      rw [e0] at e1; cases e1
      rcases h0 with h0 | h0 | h0
      ·exact h2 h0
      ·omega
      ·omega)
     have hbFz := hexx.blk hbF (by intro h0; rcases h0 with h0 | h0 | h0 <;> omega)
     have g7 := fr_alloc (fr_refl wr) (.cells #[.int .i64 e, .slice A n c, .int .i64 num, .int .i64 den, .int .i64 add, .slice F 4002 fc, .map (some M), .int .i64 yj] 113)
     have hcF := fun i => hbFz.cell i
     have hcF2 := fun i => (hbFz.keep g7).cell i
     have hszx := hexx.size
     clear hcc hrowj hqb
     go_wp2_with fail
     refine (answer_is A F n c fc M cs e num den add yj qa qm qd qv _ (hrz.keep g7) hn2 hpos (hFz.keep g7) he hm hya (hEx.keep g7) hqkk).mono ?_
     rintro e' w7 ⟨rfl, hE7, hg7⟩
     have hcn7 := (hCn.below g7).kept hg7 (by intro e0; cases e0; omega)
     obtain ⟨D, hD, hDx⟩ := hcn7
     have hcx7 := hexx.below g7
     have hQ7 := (hEx.keep g7).blk (hQb.keep g7) hg7
     have hcQ := fun i => hQ7.cell i
     have hfQ := fun i => hQ7.frozen i
     have hmp := mostPre_bounds xs j
     have hst2 : mostPre xs (j + 1) = max (mostPre xs j) (((xs.take j ++ [ansOf e cs num den add yj ⟨qa, qm, qd, qv⟩]).count (ansOf e cs num den add yj ⟨qa, qm, qd, qv⟩) : Nat) : Int) := by
      rw [← hst, ← hxj]; rfl
     have HST := Lib.hid hst
     have HXJ := Lib.hid hxj
     clear hst hxj hd0 hd1 hd2 hd3 hd4 hd5 hd6 hd7 hcF hcF2
     generalize ansOf e cs num den add yj ⟨qa, qm, qd, qv⟩ = an at *
     have hcl : (xs.take j).count an ≤ j := Nat.le_trans List.count_le_length (List.length_take_le _ _)
     have hkey : keyOf Tryz.prog 3 (.int .i64 an) = some (.int .i64 an) := keyOf_int_mk Tryz.underlying3 (wf_small (by omega) (by omega))
     have hc1 : ((xs.take j ++ [an]).count an : Nat) = (xs.take j).count an + 1 := by simp [List.count_append]
     rw [hc1] at hst2
     have HST2 := Lib.hid hst2
     have HC1 := Lib.hid hc1
     clear hst2 hc1
     have hDa := hDx an
     have hstep := fun w1 h3 => Cnt.step (w1 := w1) (a := an) hD hDx h3
     have HSTEP := Lib.hid hstep
     clear hstep
     generalize hct : (xs.take j).count an = ct at *
     clear hct
     have hwc1 : IntKind.i64.wrap ((ct : Int) + 1) = (ct : Int) + 1 := IntWalk.i64_in _ (by omega)
     have HDA := Lib.hid hDa
     clear hDa hDx
     go_wp2_with (first | (at_lookup; refine wpList_lookup_own_int _ rfl _ _ 115 rfl 3 3 .i64 law_int Tryz.underlying115 Tryz.underlying3 (zero_int _) (wo.heap.size + 1) (j + 1) _ rfl hD2 _ _ rfl hkey ?_; intro c2 hat2 hwf2; obtain rfl : c2 = (ct : Int) + 1 := lit_inj (hat2.symm.trans (atKey_put_same (k := .int .i64 an) hD.isMap trivial _ _))) | (at_lookup; refine wpList_lookup_own_int _ rfl _ _ 115 rfl 3 3 .i64 law_int Tryz.underlying115 Tryz.underlying3 (zero_int _) (wo.heap.size + 1) j _ rfl hD _ _ rfl hkey ?_; intro c1 hat1 hwf1; obtain rfl : c1 = (ct : Int) := lit_inj (hat1.symm.trans HDA.out); clear hat1) | (at_mapUpdate; refine wpList_mapUpdate_own _ rfl _ _ _ 115 rfl 3 3 law_int Tryz.underlying115 _ (wo.heap.size + 1) j _ rfl hD (by unfold maxLen; omega) _ _ _ rfl rfl hkey _ [] (plainElem_int Tryz.underlying3 (wf_small (by omega) (by omega))) ?_; intro w8 hD2 hg8; have hQ8 := hQ7.grown hg8 (by intro e0; injection e0 with e0; omega); have hcQ8 := fun i => hQ8.cell i; have hfQ8 := fun i => hQ8.frozen i; clear hcQ hfQ))
     have hCz := HSTEP.out w8 hD2
     have hE8 := hE7.far hg8 (by intro e0; injection e0 with e0; omega)
     have hx8 := (hcx7.grown hg7 (fun i hi => by cases hi; exact Or.inl (Or.inl rfl))).grown hg8 (fun i hi => by cases hi; exact Or.inl (Or.inr (Or.inl rfl)))
     refine ⟨⟨j + 1, hltj, rfl, ?_, ?_, ?_, ?_⟩, ?_⟩
     ·rw [HST2.out]
      exact hQ8.set_ 1 _
     ·rw [HST.out]
      exact hCz.kept (grown_set _ _ _) (by simp)
     ·exact hE8.far (grown_set _ _ _) (by simp; omega)
     ·exact hx8.set (Or.inl (Or.inr (Or.inr rfl))) _
     ·simp [intOf]; omega
    ·obtain rfl : j = nl := by omega
     have hcQ := fun i => hQb.cell i
     have hlfk : mostPre xs j = lf k := by
      rw [HLK.out]; unfold leftOf
      rw [HXS.out, HNL.out]
     rw [hlfk] at hQb hcQ
     have hexo : Exc (fun b => b = M) wo wr := ⟨hexx.os.trans gA.os, hexx.tape.trans gA.tape, hexx.output.trans gA.output, Nat.le_trans gA.size hexx.size, fun i hi hn => (hexx.block i (by omega) (by intro h0; rcases h0 with h0 | h0 | h0 <;> omega)).trans (gA.block i hi)⟩
     have hex2 : Exc (fun b => b = M) w5 wr := hex.trans_ hexo (fun i hi => Or.inl hi)
     have hown2 := hown.far hexo.toGrown hMl
     have hlr : ((List.range k).map (qrow lf)).length < 1000000 := by simp; omega
     have hsz2 := hex2.size
     go_wp2_with (at_builtin; refine app_row rfl (.tmp 93) (.tmp 95) rfl Tryz.underlying114 info_question rfl (by decide) (by decide) w5.heap.size _ _ rfl rfl hown2 rfl (by simp [Value.oneCell']) hlr hsz2 ?_; intro B0 cap0 wy hown3 hg3)
     have ha := fr_alloc (fr_refl wr) (.cells #[.int .i64 k, .int .i64 (lf k)] 117)
     have hge := hown2.ge
     refine ⟨⟨k + 1, hlt, rfl, by rw [List.range_succ, List.map_append]; simp only [List.length_map, List.length_range] at hown3; exact hown3, (hEx.keep ha).far hg3 (fun e0 => by have := hge M e0.symm; omega), (hex2.alloc _).grown hg3 (fun i hi => Or.inr (hge i hi))⟩, ?_⟩
     simp [intOf]; omega
  ·obtain rfl : k = nq := by omega
   obtain ⟨B, b2, rfl⟩ := hown.form
   have hrows := hown.rd
   go_wp2_with fail
   refine (best_any B k b2 lf _ hrows (by omega) (by omega)).mono ?_
   rintro e' w9 ⟨rfl, hb9⟩
   have hfin : Below w.heap.size w w9 := (HFR.out.trans (grownToB hex.toGrown HFR.out.size hMw)).trans (hb9.mono (by have := hex.size; have := HFR.out.size; omega))
   go_wp2_with fail
   go_quiet (fail)
   go_wp2
   go_ret3
   rw [HYS.out, HLF.out, HNQ.out]
   exact ⟨rfl, fr_drewN (fr_alloc hfin _) _⟩
end Go.Proofs.YthjblcboainknaaGreatDoor
end
