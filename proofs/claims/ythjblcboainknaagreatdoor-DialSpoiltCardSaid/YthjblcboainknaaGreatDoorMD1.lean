/- Reference: ranges, calendars, moons, leap years, lengths, first days. Reference: moons, calendars, realms, spans, ranges, lists that are the same. Reference: realms, dials, spans, ranges, lists that are the same. -/
import Derived.Test.YthjblcboainknaaGreatDoorMB2
import Derived.Test.YthjblcboainknaaGreatDoorProg
import Derived.WalkKit
import Derived.WalkSpells
import Derived.WalkLawsBesides
import Derived.LoopTactic
import Derived.Deep.LoopGhost
import Derived.Lib.Hide
import Derived.Deep.Draws
import Derived.Deep.QuietTactic
import Derived.BigQuiet
import Derived.Deep.RegionHeld3
import Derived.Test.YthjblcboainknaaGreatDoorMB1
import Derived.OwnWalk
import Derived.Laws.Rows
import Derived.Deep.DeepMust
import Derived.Defers
import Derived.Recover
import Derived.Laws.Pointers
import Derived.Laws.EntriesVeiled
import Derived.Outline
import Derived.Deep.MidRow
import Derived.RangeFuncNested
import Derived.RangeFuncBound
import Derived.OwnWalkIn
import Derived.TacticsInMore
import Derived.LoopIn
import Derived.Shelf.RegionOpen
import Derived.Sort.CutIn
import Derived.Test.YthjblcboainknaaGreatDoorMB6
import Derived.Test.YthjblcboainknaaGreatDoorMC2
section
namespace Go.Proofs.YthjblcboainknaaGreatDoor
open Go.RowKit Dl

set_option maxHeartbeats 400000 in
theorem rin_is (x lo hi : Int) (w : World) (b : Bool) (hb : inB x lo hi = b) :
  Calls Tryz.prog 39 #[.int .i64 x, .int .i64 lo, .int .i64 hi] w fun e w' => e = .returned (.bool b) ∧ w = w' := by
 subst hb
 by_cases h : lo ≤ x
 ·go_enter Tryz.func39, Tryz.ntmps39
  go_wp2
  go_ret
  exact ⟨ret_bool (by simp [inB, h]), rfl⟩
 ·go_enter Tryz.func39, Tryz.ntmps39
  go_wp2
  go_ret
  exact ⟨ret_bool (by simp only [inB]; rw [eq_comm, decide_eq_false_iff_not]; omega), rfl⟩

def divN (cs : List Int) (y : Int) : Int := cs.foldl (fun b n => if y % n = 0 then b + 1 else b) 0
theorem divN_snoc (cs : List Int) (x y : Int) : divN (cs ++ [x]) y = (if y % x = 0 then divN cs y + 1 else divN cs y) := by
 simp [divN]
theorem divN_leap (cs : List Int) (y : Int) : 0 ≤ divN cs y ∧ divN cs y ≤ cs.length ∧ leapB cs y = decide (divN cs y % 2 = 1) := by
 rw [← List.reverse_reverse cs]
 generalize cs.reverse = ds
 induction ds with
 | nil => simp [divN, leapB]
 | cons x ds ih =>
  rw [List.reverse_cons, divN_snoc, leapB_snoc, List.length_append]
  generalize ds.reverse = cs at *
  obtain ⟨h1, h2, h3⟩ := ih
  split
  ·refine ⟨by omega, by simp; omega, ?_⟩
   rw [h3]
   by_cases h : divN cs y % 2 = 1
   ·have : ¬ (divN cs y + 1) % 2 = 1 := by omega
    simp [h, this]
   ·have : (divN cs y + 1) % 2 = 1 := by omega
    simp [h, this]
  ·exact ⟨h1, by simp; omega, h3⟩

theorem firstN_at (e : Int) (cs : List Int) (k : Nat) : firstN e cs (k + 1) = firstN e cs k + 365 + (if leapB cs k then 1 else 0) := by
 simp only [firstN, yearLen]; split <;> omega

end Go.Proofs.YthjblcboainknaaGreatDoor
end

section
namespace Go.Proofs.YthjblcboainknaaGreatDoor
open Go.RowKit Dl

set_option maxHeartbeats 1000000 in
theorem rMoon_is (num den add : Int) (w : World) (b : Bool) (hb : moonB num den add = b) :
  Calls Tryz.prog 11 #[.agg #[.int .i64 num, .int .i64 den, .int .i64 add]] w fun e' w' => e' = .returned (.bool b) ∧ Below w.heap.size w w' := by
 subst hb
 by_cases h1 : inB den 1 1000 = true
 ·have h1' := inB_iff.1 h1
  by_cases h2 : inB num (29 * den) (30 * den) = true
  ·have h2' := inB_iff.1 h2
   have hc : moonB num den add = inB add 0 (num - 1) := by unfold moonB; rw [h1, h2]; rfl
   rw [hc]
   go_enter Tryz.func11, Tryz.ntmps11
   go_wp2_with fail
   refine (rin_is _ _ _ _ _ h1).mono ?_
   rintro e w' ⟨rfl, rfl⟩
   go_wp2_with fail
   refine (rin_is _ _ _ _ _ h2).mono ?_
   rintro e w' ⟨rfl, rfl⟩
   go_wp2_with fail
   refine (rin_is _ _ _ _ _ rfl).mono ?_
   rintro e w' ⟨rfl, rfl⟩
   go_wp2_with fail
   go_ret
   exact ⟨rfl, fr_alloc (fr_refl _) _⟩
  ·have h2' : inB num (29 * den) (30 * den) = false := by simpa using h2
   have hc : moonB num den add = false := by unfold moonB; rw [h2']; simp
   rw [hc]
   go_enter Tryz.func11, Tryz.ntmps11
   go_wp2_with fail
   refine (rin_is _ _ _ _ _ h1).mono ?_
   rintro e w' ⟨rfl, rfl⟩
   go_wp2_with fail
   refine (rin_is _ _ _ _ _ h2').mono ?_
   rintro e w' ⟨rfl, rfl⟩
   go_wp2_with fail
   go_ret
   exact ⟨rfl, fr_alloc (fr_refl _) _⟩
 ·have h1' : inB den 1 1000 = false := by simpa using h1
  have hc : moonB num den add = false := by unfold moonB; rw [h1']; simp
  rw [hc]
  go_enter Tryz.func11, Tryz.ntmps11
  go_wp2_with fail
  refine (rin_is _ _ _ _ _ h1').mono ?_
  rintro e w' ⟨rfl, rfl⟩
  go_wp2_with fail
  go_ret
  exact ⟨rfl, fr_alloc (fr_refl _) _⟩

/- calendars: 'greater than the one before' -/
def befC (cs : List Int) (k : Nat) : Int := if k = 0 then 1 else cs[k - 1]?.getD 0

theorem okCyc_bef (cs : List Int) (k : Nat) (hk : k < cs.length) (hq : okCyc 1 cs = okCyc (befC cs k) (cs.drop k)) (hb : inB (cs[k]?.getD 0) (befC cs k + 1) 1000 = true) : okCyc 1 cs = okCyc (befC cs (k + 1)) (cs.drop (k + 1)) := by
 rw [hq, okCyc_drop cs _ k hk hb]
 simp [befC]
theorem okCyc_bef_no (cs : List Int) (k : Nat) (hk : k < cs.length) (hq : okCyc 1 cs = okCyc (befC cs k) (cs.drop k)) (hb : inB (cs[k]?.getD 0) (befC cs k + 1) 1000 = false) : okCyc 1 cs = false := by
 rw [hq, okCyc_drop_no cs _ k hk hb]

set_option maxRecDepth 100000 in
set_option maxHeartbeats 2000000 in
theorem rCalendar_is (A : Option Addr) (n c : Nat) (cs : List Int) (e : Int) (w : World) (hr : Rd w A n cs) (hn : n ≤ 9223372036854775807) (b : Bool) (hb : calOk e cs = b) :
  Calls Tryz.prog 10 #[.agg #[.int .i64 e, .slice A n c]] w fun e' w' => e' = .returned (.bool b) ∧ Below w.heap.size w w' := by
 subst hb
 have hlen := hr.len
 go_enter Tryz.func10, Tryz.ntmps10
 go_wp2
 go_loopw [3] (fun i wr => ∃ k : Nat, k ≤ n ∧ i = .int .i64 k ∧ 1 ≤ befC cs k ∧ befC cs k ≤ 1000 ∧ okCyc 1 cs = okCyc (befC cs k) (cs.drop k) ∧ Blk wr w.heap.size 24 #[.int .i64 e, .slice A n c] ∧ Below w.heap.size w wr) (fun i _ => n - (intOf i).toNat)
 case atStart => exact ⟨0, Nat.zero_le _, rfl, by simp [befC], by simp [befC], by simp [befC], Blk.new_at _ _ (by simp), fr_alloc (fr_refl _) _⟩
 case round =>
  obtain ⟨k, hk, rfl, hb1, hb2, hq, hB, hbel⟩ := hrel
  have hBc := fun j => hB.cell j
  have hBf := fun j => hB.frozen j
  by_cases hlt : k < n
  ·obtain ⟨ad, rfl, hb, hc⟩ := (hr.keep hbel).at_ hlt
   have hlt' : (k : Int) < (n : Int) := by omega
   have H1 := Lib.hid (okCyc_bef cs k (by omega) hq)
   have H2 := Lib.hid (okCyc_bef_no cs k (by omega) hq)
   clear hq
   by_cases hk0 : k = 0
   ·subst hk0
    have hbf : befC cs 0 = 1 := by simp [befC]
    rw [hbf] at H1 H2 hb1 hb2
    have hx1 : befC cs 1 = cs[0]?.getD 0 := by simp [befC]
    have HX := Lib.hid hx1
    clear hx1 hbf
    generalize hx : cs[0]?.getD 0 = x at *
    have hc0 : wr.cell? ad = some (.int .i64 x) := by
     have h := hc
     rw [show ad.add 0 = ad from rfl] at h
     exact h
    cases hi : inB x 2 1000
    ·go_wp2_with fail
     go_quiet ((go_at_call 39; exact quiet_left (rin_is _ _ _ _ _ hi)))
     go_wp2
     go_ret
     refine ⟨ret_bool ?_, fr_drewN hbel _⟩
     unfold calOk
     rw [H2.out hi]
     simp
    ·have hi2 := inB_iff.1 hi
     go_wp2_with fail
     go_quiet ((go_at_call 39; exact quiet_left (rin_is _ _ _ _ _ hi)))
     go_wp2
     go_roundw
     case rel => exact ⟨1, by omega, by go_num, by rw [HX.out]; omega, by rw [HX.out]; omega, H1.out hi, hB, fr_drewN hbel _⟩
     case measure => simp [intOf]; omega
   ·obtain ⟨ad', had, hb', hc'⟩ := (hr.keep hbel).at_ (show k - 1 < n by omega)
    cases had
    have hbf : befC cs k = cs[k - 1]?.getD 0 := by simp [befC, hk0]
    have hx1 : befC cs (k + 1) = cs[k]?.getD 0 := by simp [befC]
    have HX := Lib.hid hx1
    rw [hbf] at H1 H2 hb1 hb2
    clear hx1 hbf
    generalize hx : cs[k]?.getD 0 = x at *
    generalize hy : cs[k - 1]?.getD 0 = z at *
    have hk1 : (0 : Int) < (k : Int) := by omega
    have hkN : 0 < k := by omega
    have hkd : decide (0 < k) = true := decide_eq_true hkN
    cases hi : inB x 2 1000
    ·go_wp2_with fail
     go_quiet ((go_at_call 39; exact quiet_left (rin_is _ _ _ _ _ hi)))
     go_wp2
     go_ret
     refine ⟨ret_bool ?_, fr_drewN hbel _⟩
     unfold calOk
     rw [H2.out (by apply inB_no; intro h; rw [inB_yes (by omega)] at hi; cases hi)]
     simp
    ·have hi2 := inB_iff.1 hi
     by_cases hle : x ≤ z
     ·have HN := Lib.hid (H2.out (by apply inB_no; omega))
      have hkw : IntKind.i64.wrap ((k : Int) - 1) = (k : Int) - 1 := IntWalk.i64_in _ (by omega)
      have hkz : 0 ≤ (k : Int) - 1 := by omega
      have hkl : (k : Int) - 1 < (n : Int) := by omega
      have hkn : ((k : Int) - 1).toNat = k - 1 := by omega
      go_wp2_with fail
      go_quiet ((go_at_call 39; exact quiet_left (rin_is _ _ _ _ _ hi)))
      go_wp2
      go_ret
      refine ⟨ret_bool ?_, fr_drewN hbel _⟩
      unfold calOk
      rw [HN.out]
      simp
     ·have HY := Lib.hid (H1.out (inB_yes (by omega)))
      have hk2 : k + 1 ≤ n := by omega
      have hd : decide (x ≤ z) = false := decide_eq_false hle
      have hkw : IntKind.i64.wrap ((k : Int) - 1) = (k : Int) - 1 := IntWalk.i64_in _ (by omega)
      have hkz : 0 ≤ (k : Int) - 1 := by omega
      have hkl : (k : Int) - 1 < (n : Int) := by omega
      have hkn : ((k : Int) - 1).toNat = k - 1 := by omega
      go_wp2_with fail
      go_quiet ((go_at_call 39; exact quiet_left (rin_is _ _ _ _ _ hi)))
      clear hkw hkz hkl hkn
      go_wp2
      go_roundw
      case rel => exact ⟨k + 1, hk2, by go_num, by rw [HX.out]; omega, by rw [HX.out]; omega, HY.out, hB, fr_drewN hbel _⟩
      case measure => simp [intOf]; omega
  ·obtain rfl : k = n := by omega
   have hok : okCyc 1 cs = true := by rw [hq, List.drop_of_length_le (by omega)]; rfl
   have hc : calOk e cs = (inB e 0 1000 && inB (k : Int) 1 3) := by unfold calOk; rw [hok, hlen]; simp
   have HC := Lib.hid hc
   clear hc hok hq
   cases he : inB e 0 1000
   ·go_wp2_with fail
    refine (rin_is _ _ _ _ _ he).mono ?_
    rintro e' w' ⟨rfl, rfl⟩
    go_wp2_with fail
    go_ret
    exact ⟨ret_bool (by rw [HC.out, he]; rfl), hbel⟩
   ·go_wp2_with fail
    refine (rin_is _ _ _ _ _ he).mono ?_
    rintro e' w' ⟨rfl, rfl⟩
    go_wp2_with fail
    refine (rin_is _ _ _ _ _ rfl).mono ?_
    rintro e' w' ⟨rfl, rfl⟩
    go_wp2_with fail
    go_ret
    exact ⟨ret_bool (by rw [HC.out, he]; rfl), hbel⟩
end Go.Proofs.YthjblcboainknaaGreatDoor
end

section
namespace Go.Proofs.YthjblcboainknaaGreatDoor
open Go.RowKit Dl

theorem same_take (xs ys : List Int) (h : xs.length = ys.length) : ∀ k, k ≤ xs.length → (∀ j, j < k → xs[j]?.getD 0 = ys[j]?.getD 0) → xs.take k = ys.take k := by
 intro k
 induction k with
 | zero => intro _ _; simp
 | succ k ih =>
  intro hk hj
  rw [take_snoc' xs k (by omega), take_snoc' ys k (by omega), ih (by omega) (fun j hj' => hj j (by omega)), hj k (by omega)]

set_option maxHeartbeats 1000000 in
theorem rSame_is (A1 A2 : Option Addr) (n1 k1 n2 k2 : Nat) (c1 c2 : List Int) (w : World) (hr1 : Rd w A1 n1 c1) (hr2 : Rd w A2 n2 c2) (hn1 : n1 ≤ 9223372036854775807) (hn2 : n2 ≤ 9223372036854775807)
  (b : Bool) (hb : decide (c1 = c2) = b) :
  Calls Tryz.prog 34 #[.slice A1 n1 k1, .slice A2 n2 k2] w fun e' w' => e' = .returned (.bool b) ∧ Below w.heap.size w w' := by
 subst hb
 have hl1 := hr1.len
 have hl2 := hr2.len
 by_cases hnn : n1 = n2
 ·subst hnn
  go_enter Tryz.func34, Tryz.ntmps34
  go_wp2
  go_loopw [5] (fun i wr => ∃ k : Nat, k ≤ n1 ∧ i = .int .i64 k ∧ (∀ j, j < k → c1[j]?.getD 0 = c2[j]?.getD 0) ∧ Below w.heap.size w wr) (fun i _ => n1 - (intOf i).toNat)
  case atStart => exact ⟨0, Nat.zero_le _, rfl, fun j hj => absurd hj (by omega), fr_refl _⟩
  case round =>
   obtain ⟨k, hk, rfl, hj, hbel⟩ := hrel
   have HJ := Lib.hid hj
   clear hj
   by_cases hlt : k < n1
   ·obtain ⟨ad1, rfl, hb1, hc1⟩ := (hr1.keep hbel).at_ hlt
    obtain ⟨ad2, rfl, hb2, hc2⟩ := (hr2.keep hbel).at_ hlt
    have hlt' : (k : Int) < (n1 : Int) := by omega
    have hlt2 : (k : Int) + 1 ≤ (n1 : Int) := by omega
    generalize hx : c1[k]?.getD 0 = x at *
    generalize hy : c2[k]?.getD 0 = y at *
    have HX := Lib.hid hx
    have HY := Lib.hid hy
    clear hx hy
    by_cases hxy : x = y
    ·have hdx : decide (x = y) = true := decide_eq_true hxy
     go_wp2_with fail
     go_quiet (fail)
     go_wp2
     go_roundw
     case rel =>
      refine ⟨k + 1, by omega, by go_num, fun j hj => ?_, fr_drewN hbel _⟩
      by_cases h : j = k
      ·subst h; rw [HX.out, HY.out, hxy]
      ·exact HJ.out j (by omega)
     case measure => simp [intOf]; omega
    ·have hdx : decide (x = y) = false := decide_eq_false hxy
     go_wp2_with fail
     go_quiet (fail)
     go_wp2
     go_ret
     refine ⟨ret_bool ?_, fr_drewN hbel _⟩
     rw [eq_comm, decide_eq_false_iff_not]
     intro h
     rw [h, HY.out] at HX
     exact hxy HX.out.symm
   ·go_wp2
    go_ret
    refine ⟨ret_bool ?_, hbel⟩
    rw [eq_comm, decide_eq_true_iff]
    obtain rfl : k = n1 := by omega
    have := same_take c1 c2 (by omega) k (by omega) HJ.out
    rw [List.take_of_length_le (by omega), List.take_of_length_le (by omega)] at this
    exact this
 ·have hne : (n1 : Int) ≠ (n2 : Int) := by omega
  have hde : decide (c1 = c2) = false := decide_eq_false (fun h => hnn (by rw [← hl1, ← hl2, h]))
  rw [hde]
  go_enter Tryz.func34, Tryz.ntmps34
  go_wp2
  go_ret
  exact ⟨rfl, fr_refl _⟩

set_option maxHeartbeats 1000000 in
theorem rSameCalendar_is (A1 A2 : Option Addr) (n1 k1 n2 k2 : Nat) (c1 c2 : List Int) (e1 e2 : Int) (w : World) (hr1 : Rd w A1 n1 c1) (hr2 : Rd w A2 n2 c2) (hn1 : n1 ≤ 9223372036854775807) (hn2 : n2 ≤ 9223372036854775807)
  (b : Bool) (hb : (decide (e1 = e2) && decide (c1 = c2)) = b) :
  Calls Tryz.prog 15 #[.agg #[.int .i64 e1, .slice A1 n1 k1], .agg #[.int .i64 e2, .slice A2 n2 k2]] w fun e' w' => e' = .returned (.bool b) ∧ Below w.heap.size w w' := by
 subst hb
 have hfr := fr_alloc (fr_alloc (fr_refl w) (.cells #[.int .i64 e1, .slice A1 n1 k1] 24)) (.cells #[.int .i64 e2, .slice A2 n2 k2] 24)
 by_cases he : e1 = e2
 ·subst he
  have hde : decide (e1 = e1) = true := decide_eq_true rfl
  rw [hde, Bool.true_and]
  go_enter Tryz.func15, Tryz.ntmps15
  go_wp2_with fail
  refine (rSame_is A1 A2 n1 k1 n2 k2 c1 c2 _ (hr1.keep hfr) (hr2.keep hfr) hn1 hn2 _ rfl).mono ?_
  rintro e' w1 ⟨rfl, hb1⟩
  go_wp2_with fail
  go_ret
  exact ⟨rfl, fr_call hfr hb1⟩
 ·have hde : decide (e1 = e2) = false := decide_eq_false he
  rw [hde, Bool.false_and]
  go_enter Tryz.func15, Tryz.ntmps15
  go_wp2_with fail
  go_ret
  exact ⟨rfl, hfr⟩
end Go.Proofs.YthjblcboainknaaGreatDoor
end
