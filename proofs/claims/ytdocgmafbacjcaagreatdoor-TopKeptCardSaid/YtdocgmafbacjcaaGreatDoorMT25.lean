/- Ported by port.py: Reference: ranges, calendars, moons, leap years, lengths, first days. Reference: moons, calendars, realms, spans, ranges, lists that are the same. Reference: feasts as defined. Walk, the reference of layer 10: whether a suite is as defined, of any numbers (by gen_zm.py). -/
import Derived.Test.YtdocgmafbacjcaaGreatDoorMT24
import Derived.WalkKit
import Derived.WalkSpells
import Derived.WalkLawsBesides
import Derived.LoopTactic
import Derived.Deep.LoopGhost
import Derived.Lib.Hide
import Derived.Deep.Draws
import Derived.Deep.QuietTactic
import Derived.BigQuiet
import Derived.Deep.RegionHeld3
import Derived.OwnWalk
import Derived.Laws.Rows
import Derived.Deep.DeepMust
import Derived.Defers
import Derived.Recover
import Derived.Laws.Pointers
import Derived.Laws.EntriesVeiled
import Derived.Outline
import Derived.Deep.MidRow
import Derived.RangeFuncNested
import Derived.RangeFuncBound
import Derived.OwnWalkIn
import Derived.TacticsInMore
import Derived.LoopIn
import Derived.Shelf.RegionOpen
import Derived.Sort.CutIn
section
namespace Go.Proofs.YtdocgmafbacjcaaGreatDoor

section
open Go.RowKit Dl

set_option maxHeartbeats 400000 in
theorem rin_is (x lo hi : Int) (w : World) (b : Bool) (hb : inB x lo hi = b) :
  Calls Tryz.prog 73 #[.int .i64 x, .int .i64 lo, .int .i64 hi] w fun e w' => e = .returned (.bool b) ∧ w = w' := by
 subst hb
 by_cases h : lo ≤ x
 ·go_enter Tryz.func73, Tryz.ntmps73
  go_wp2
  go_ret
  exact ⟨ret_bool (by simp [inB, h]), rfl⟩
 ·go_enter Tryz.func73, Tryz.ntmps73
  go_wp2
  go_ret
  exact ⟨ret_bool (by simp only [inB]; rw [eq_comm, decide_eq_false_iff_not]; omega), rfl⟩

set_option maxHeartbeats 400000 in
theorem rYear_is (x : Int) (w : World) (b : Bool) (hb : inB x 0 4000 = b) :
  Calls Tryz.prog 20 #[.int .i64 x] w fun e w' => e = .returned (.bool b) ∧ w = w' := by
 go_enter Tryz.func20, Tryz.ntmps20
 go_wp2_with (go_at_call 73; refine (rin_is _ _ _ _ _ hb).mono ?_; rintro e w' ⟨rfl, rfl⟩)
 go_ret
 exact ⟨rfl, rfl⟩

def divN (cs : List Int) (y : Int) : Int := cs.foldl (fun b n => if y % n = 0 then b + 1 else b) 0
theorem divN_snoc (cs : List Int) (x y : Int) : divN (cs ++ [x]) y = (if y % x = 0 then divN cs y + 1 else divN cs y) := by
 simp [divN]
theorem divN_leap (cs : List Int) (y : Int) : 0 ≤ divN cs y ∧ divN cs y ≤ cs.length ∧ leapB cs y = decide (divN cs y % 2 = 1) := by
 rw [← List.reverse_reverse cs]
 generalize cs.reverse = ds
 induction ds with
 | nil => simp [divN, leapB]
 | cons x ds ih =>
  rw [List.reverse_cons, divN_snoc, leapB_snoc, List.length_append]
  generalize ds.reverse = cs at *
  obtain ⟨h1, h2, h3⟩ := ih
  split
  ·refine ⟨by omega, by simp; omega, ?_⟩
   rw [h3]
   by_cases h : divN cs y % 2 = 1
   ·have : ¬ (divN cs y + 1) % 2 = 1 := by omega
    simp [h, this]
   ·have : (divN cs y + 1) % 2 = 1 := by omega
    simp [h, this]
  ·exact ⟨h1, by simp; omega, h3⟩

set_option maxHeartbeats 1000000 in
theorem rLeap_any (A : Option Addr) (n c : Nat) (cs : List Int) (e : Int) (yr : Int) (w : World) (hr : Rd w A n cs) (hn : n ≤ 3) (hpos : Cyc cs) (h0 : 0 ≤ yr) (h1 : yr ≤ 5000) :
  Calls Tryz.prog 51 #[.agg #[.int .i64 e, .slice A n c], .int .i64 yr] w fun e w' => e = .returned (.bool (leapB cs yr)) ∧ Below w.heap.size w w' := by
 go_enter Tryz.func51, Tryz.ntmps51
 go_wp2
 go_loop [5, 6] (fun b i => ∃ k : Nat, k ≤ n ∧ i = .int .i64 k ∧ b = .int .i64 (divN (cs.take k) yr)) (fun _ i => n - (intOf i).toNat)
 case atStart => exact ⟨0, Nat.zero_le _, rfl, rfl⟩
 case round =>
  obtain ⟨k, hk, rfl, rfl⟩ := hrel
  have hd := divN_leap (cs.take k) yr
  have hdl : (cs.take k).length ≤ 3 := by rw [List.length_take]; omega
  obtain ⟨hd1, hd2, hd3⟩ := hd
  have HD := Lib.hid hd3
  clear hd3
  by_cases hlt : k < n
  ·obtain ⟨ad, rfl, hb, hc⟩ := (hr.alloc (Obj.cells #[.int .i64 e, Value.slice A n c] 30)).at_ hlt
   have hp := hpos k (by rw [hr.len]; exact hlt)
   have HS := Lib.hid (take_snoc' cs k (by rw [hr.len]; exact hlt))
   generalize hx : cs[k]?.getD 0 = x at *
   clear hx
   go_wp2
   all_goals
    go_round
    case rel => exact ⟨k + 1, by omega, by go_num, by rw [HS.out, divN_snoc]; simp_all⟩
    case measure => simp [intOf]; omega
  ·go_wp2
   go_ret
   obtain rfl : k = n := by omega
   rw [List.take_of_length_le (by have := hr.1; omega)] at *
   refine ⟨ret_bool ?_, fr_alloc (fr_refl _) _⟩
   rw [HD.out]
   by_cases h : divN cs yr % 2 = 1 <;> simp [h]

set_option maxHeartbeats 1000000 in
theorem rLong_any (A : Option Addr) (n c : Nat) (cs : List Int) (e : Int) (yr : Int) (w : World) (hr : Rd w A n cs) (hn : n ≤ 3) (hpos : Cyc cs) (h0 : 0 ≤ yr) (h1 : yr ≤ 5000) :
  Calls Tryz.prog 11 #[.agg #[.int .i64 e, .slice A n c], .int .i64 yr] w fun e w' => e = .returned (.int .i64 (yearLen cs yr)) ∧ Below w.heap.size w w' := by
 go_enter Tryz.func11, Tryz.ntmps11
 go_wp2_with fail
 refine (rLeap_any A n c cs e yr _ (hr.alloc _) hn hpos h0 h1).mono ?_
 rintro e1 w1 ⟨rfl, hb1⟩
 cases hl : leapB cs yr
 ·go_wp2_with fail
  go_ret
  exact ⟨ret_int (by unfold yearLen; rw [hl]; rfl), fr_call (fr_alloc (fr_refl _) _) hb1⟩
 ·go_wp2_with fail
  go_ret
  exact ⟨ret_int (by unfold yearLen; rw [hl]; rfl), fr_call (fr_alloc (fr_refl _) _) hb1⟩

end

section
open Go.RowKit Dl

set_option maxHeartbeats 1000000 in
theorem rMoon_is (num den add : Int) (w : World) (b : Bool) (hb : moonB num den add = b) :
  Calls Tryz.prog 18 #[.agg #[.int .i64 num, .int .i64 den, .int .i64 add]] w fun e' w' => e' = .returned (.bool b) ∧ Below w.heap.size w w' := by
 subst hb
 by_cases h1 : inB den 1 1000 = true
 ·have h1' := inB_iff.1 h1
  by_cases h2 : inB num (29 * den) (30 * den) = true
  ·have h2' := inB_iff.1 h2
   have hc : moonB num den add = inB add 0 (num - 1) := by unfold moonB; rw [h1, h2]; rfl
   rw [hc]
   go_enter Tryz.func18, Tryz.ntmps18
   go_wp2_with fail
   refine (rin_is _ _ _ _ _ h1).mono ?_
   rintro e w' ⟨rfl, rfl⟩
   go_wp2_with fail
   refine (rin_is _ _ _ _ _ h2).mono ?_
   rintro e w' ⟨rfl, rfl⟩
   go_wp2_with fail
   refine (rin_is _ _ _ _ _ rfl).mono ?_
   rintro e w' ⟨rfl, rfl⟩
   go_wp2_with fail
   go_ret
   exact ⟨rfl, fr_alloc (fr_refl _) _⟩
  ·have h2' : inB num (29 * den) (30 * den) = false := by simpa using h2
   have hc : moonB num den add = false := by unfold moonB; rw [h2']; simp
   rw [hc]
   go_enter Tryz.func18, Tryz.ntmps18
   go_wp2_with fail
   refine (rin_is _ _ _ _ _ h1).mono ?_
   rintro e w' ⟨rfl, rfl⟩
   go_wp2_with fail
   refine (rin_is _ _ _ _ _ h2').mono ?_
   rintro e w' ⟨rfl, rfl⟩
   go_wp2_with fail
   go_ret
   exact ⟨rfl, fr_alloc (fr_refl _) _⟩
 ·have h1' : inB den 1 1000 = false := by simpa using h1
  have hc : moonB num den add = false := by unfold moonB; rw [h1']; simp
  rw [hc]
  go_enter Tryz.func18, Tryz.ntmps18
  go_wp2_with fail
  refine (rin_is _ _ _ _ _ h1').mono ?_
  rintro e w' ⟨rfl, rfl⟩
  go_wp2_with fail
  go_ret
  exact ⟨rfl, fr_alloc (fr_refl _) _⟩

/- calendars: 'greater than the one before' -/
def befC (cs : List Int) (k : Nat) : Int := if k = 0 then 1 else cs[k - 1]?.getD 0

theorem okCyc_bef (cs : List Int) (k : Nat) (hk : k < cs.length) (hq : okCyc 1 cs = okCyc (befC cs k) (cs.drop k)) (hb : inB (cs[k]?.getD 0) (befC cs k + 1) 1000 = true) : okCyc 1 cs = okCyc (befC cs (k + 1)) (cs.drop (k + 1)) := by
 rw [hq, okCyc_drop cs _ k hk hb]
 simp [befC]
theorem okCyc_bef_no (cs : List Int) (k : Nat) (hk : k < cs.length) (hq : okCyc 1 cs = okCyc (befC cs k) (cs.drop k)) (hb : inB (cs[k]?.getD 0) (befC cs k + 1) 1000 = false) : okCyc 1 cs = false := by
 rw [hq, okCyc_drop_no cs _ k hk hb]

set_option maxRecDepth 100000 in
set_option maxHeartbeats 2000000 in
theorem rCalendar_is (A : Option Addr) (n c : Nat) (cs : List Int) (e : Int) (w : World) (hr : Rd w A n cs) (hn : n ≤ 9223372036854775807) (b : Bool) (hb : calOk e cs = b) :
  Calls Tryz.prog 17 #[.agg #[.int .i64 e, .slice A n c]] w fun e' w' => e' = .returned (.bool b) ∧ Below w.heap.size w w' := by
 subst hb
 have hlen := hr.len
 go_enter Tryz.func17, Tryz.ntmps17
 go_wp2
 go_loopw [3] (fun i wr => ∃ k : Nat, k ≤ n ∧ i = .int .i64 k ∧ 1 ≤ befC cs k ∧ befC cs k ≤ 1000 ∧ okCyc 1 cs = okCyc (befC cs k) (cs.drop k) ∧ Blk wr w.heap.size 30 #[.int .i64 e, .slice A n c] ∧ Below w.heap.size w wr) (fun i _ => n - (intOf i).toNat)
 case atStart => exact ⟨0, Nat.zero_le _, rfl, by simp [befC], by simp [befC], by simp [befC], Blk.new_at _ _ (by simp), fr_alloc (fr_refl _) _⟩
 case round =>
  obtain ⟨k, hk, rfl, hb1, hb2, hq, hB, hbel⟩ := hrel
  have hBc := fun j => hB.cell j
  have hBf := fun j => hB.frozen j
  by_cases hlt : k < n
  ·obtain ⟨ad, rfl, hb, hc⟩ := (hr.keep hbel).at_ hlt
   have hlt' : (k : Int) < (n : Int) := by omega
   have H1 := Lib.hid (okCyc_bef cs k (by omega) hq)
   have H2 := Lib.hid (okCyc_bef_no cs k (by omega) hq)
   clear hq
   by_cases hk0 : k = 0
   ·subst hk0
    have hbf : befC cs 0 = 1 := by simp [befC]
    rw [hbf] at H1 H2 hb1 hb2
    have hx1 : befC cs 1 = cs[0]?.getD 0 := by simp [befC]
    have HX := Lib.hid hx1
    clear hx1 hbf
    generalize hx : cs[0]?.getD 0 = x at *
    have hc0 : wr.cell? ad = some (.int .i64 x) := by
     have h := hc
     rw [show ad.add 0 = ad from rfl] at h
     exact h
    cases hi : inB x 2 1000
    ·go_wp2_with fail
     go_quiet ((go_at_call 73; exact quiet_left (rin_is _ _ _ _ _ hi)))
     go_wp2
     go_ret
     refine ⟨ret_bool ?_, fr_drewN hbel _⟩
     unfold calOk
     rw [H2.out hi]
     simp
    ·have hi2 := inB_iff.1 hi
     go_wp2_with fail
     go_quiet ((go_at_call 73; exact quiet_left (rin_is _ _ _ _ _ hi)))
     go_wp2
     go_roundw
     case rel => exact ⟨1, by omega, by go_num, by rw [HX.out]; omega, by rw [HX.out]; omega, H1.out hi, hB, fr_drewN hbel _⟩
     case measure => simp [intOf]; omega
   ·obtain ⟨ad', had, hb', hc'⟩ := (hr.keep hbel).at_ (show k - 1 < n by omega)
    cases had
    have hbf : befC cs k = cs[k - 1]?.getD 0 := by simp [befC, hk0]
    have hx1 : befC cs (k + 1) = cs[k]?.getD 0 := by simp [befC]
    have HX := Lib.hid hx1
    rw [hbf] at H1 H2 hb1 hb2
    clear hx1 hbf
    generalize hx : cs[k]?.getD 0 = x at *
    generalize hy : cs[k - 1]?.getD 0 = z at *
    have hk1 : (0 : Int) < (k : Int) := by omega
    have hkN : 0 < k := by omega
    have hkd : decide (0 < k) = true := decide_eq_true hkN
    cases hi : inB x 2 1000
    ·go_wp2_with fail
     go_quiet ((go_at_call 73; exact quiet_left (rin_is _ _ _ _ _ hi)))
     go_wp2
     go_ret
     refine ⟨ret_bool ?_, fr_drewN hbel _⟩
     unfold calOk
     rw [H2.out (by apply inB_no; intro h; rw [inB_yes (by omega)] at hi; cases hi)]
     simp
    ·have hi2 := inB_iff.1 hi
     by_cases hle : x ≤ z
     ·have HN := Lib.hid (H2.out (by apply inB_no; omega))
      have hkw : IntKind.i64.wrap ((k : Int) - 1) = (k : Int) - 1 := IntWalk.i64_in _ (by omega)
      have hkz : 0 ≤ (k : Int) - 1 := by omega
      have hkl : (k : Int) - 1 < (n : Int) := by omega
      have hkn : ((k : Int) - 1).toNat = k - 1 := by omega
      go_wp2_with fail
      go_quiet ((go_at_call 73; exact quiet_left (rin_is _ _ _ _ _ hi)))
      go_wp2
      go_ret
      refine ⟨ret_bool ?_, fr_drewN hbel _⟩
      unfold calOk
      rw [HN.out]
      simp
     ·have HY := Lib.hid (H1.out (inB_yes (by omega)))
      have hk2 : k + 1 ≤ n := by omega
      have hd : decide (x ≤ z) = false := decide_eq_false hle
      have hkw : IntKind.i64.wrap ((k : Int) - 1) = (k : Int) - 1 := IntWalk.i64_in _ (by omega)
      have hkz : 0 ≤ (k : Int) - 1 := by omega
      have hkl : (k : Int) - 1 < (n : Int) := by omega
      have hkn : ((k : Int) - 1).toNat = k - 1 := by omega
      go_wp2_with fail
      go_quiet ((go_at_call 73; exact quiet_left (rin_is _ _ _ _ _ hi)))
      clear hkw hkz hkl hkn
      go_wp2
      go_roundw
      case rel => exact ⟨k + 1, hk2, by go_num, by rw [HX.out]; omega, by rw [HX.out]; omega, HY.out, hB, fr_drewN hbel _⟩
      case measure => simp [intOf]; omega
  ·obtain rfl : k = n := by omega
   have hok : okCyc 1 cs = true := by rw [hq, List.drop_of_length_le (by omega)]; rfl
   have hc : calOk e cs = (inB e 0 1000 && inB (k : Int) 1 3) := by unfold calOk; rw [hok, hlen]; simp
   have HC := Lib.hid hc
   clear hc hok hq
   cases he : inB e 0 1000
   ·go_wp2_with fail
    refine (rin_is _ _ _ _ _ he).mono ?_
    rintro e' w' ⟨rfl, rfl⟩
    go_wp2_with fail
    go_ret
    exact ⟨ret_bool (by rw [HC.out, he]; rfl), hbel⟩
   ·go_wp2_with fail
    refine (rin_is _ _ _ _ _ he).mono ?_
    rintro e' w' ⟨rfl, rfl⟩
    go_wp2_with fail
    refine (rin_is _ _ _ _ _ rfl).mono ?_
    rintro e' w' ⟨rfl, rfl⟩
    go_wp2_with fail
    go_ret
    exact ⟨ret_bool (by rw [HC.out, he]; rfl), hbel⟩
end

section
open Go.RowKit Dl

set_option maxRecDepth 100000 in
set_option maxHeartbeats 4000000 in
theorem rFeast_is (f : Feast) (w : World) (b : Bool) (hb : feastB f = b) :
  Calls Tryz.prog 74 #[.agg #[.bool f.mv, .int .i64 f.m, .int .i64 f.d, .int .i64 f.a]] w fun e' w' => e' = .returned (.bool b) ∧ Below w.heap.size w w' := by
 subst hb
 obtain ⟨mv, m, d, a⟩ := f
 cases mv
 ·cases hm : inB m 1 12
  ·have hv : feastB ⟨false, m, d, a⟩ = false := by simp only [feastB, Bool.false_eq_true, if_false, hm, Bool.false_and, Bool.and_false]
   rw [hv]
   go_enter Tryz.func74, Tryz.ntmps74
   go_wp2_with fail
   refine (rin_is _ _ _ _ _ hm).mono ?_
   rintro e w' ⟨rfl, rfl⟩
   go_wp2_with fail
   go_ret
   exact ⟨rfl, fr_alloc (fr_refl _) _⟩
  ·cases hd : inB d 1 31
   ·have hv : feastB ⟨false, m, d, a⟩ = false := by simp only [feastB, Bool.false_eq_true, if_false, hd, Bool.and_false]
    rw [hv]
    go_enter Tryz.func74, Tryz.ntmps74
    go_wp2_with fail
    refine (rin_is _ _ _ _ _ hm).mono ?_
    rintro e w' ⟨rfl, rfl⟩
    go_wp2_with fail
    refine (rin_is _ _ _ _ _ hd).mono ?_
    rintro e w' ⟨rfl, rfl⟩
    go_wp2_with fail
    go_ret
    exact ⟨rfl, fr_alloc (fr_refl _) _⟩
   ·have hv : feastB ⟨false, m, d, a⟩ = (a == 0) := by simp only [feastB, Bool.false_eq_true, if_false, hm, hd, Bool.and_true]
    rw [hv]
    go_enter Tryz.func74, Tryz.ntmps74
    go_wp2_with fail
    refine (rin_is _ _ _ _ _ hm).mono ?_
    rintro e w' ⟨rfl, rfl⟩
    go_wp2_with fail
    refine (rin_is _ _ _ _ _ hd).mono ?_
    rintro e w' ⟨rfl, rfl⟩
    go_wp2_with fail
    go_ret
    exact ⟨rfl, fr_alloc (fr_refl _) _⟩
 ·cases hm : (m == 0)
  ·have hv : feastB ⟨true, m, d, a⟩ = false := by simp only [feastB, if_true, hm, Bool.false_and]
   rw [hv]
   go_enter Tryz.func74, Tryz.ntmps74
   go_wp2_with fail
   go_ret
   exact ⟨rfl, fr_alloc (fr_refl _) _⟩
  ·cases hd : (d == 0)
   ·have hv : feastB ⟨true, m, d, a⟩ = false := by simp only [feastB, if_true, hm, hd, Bool.false_and, Bool.and_false]
    rw [hv]
    go_enter Tryz.func74, Tryz.ntmps74
    go_wp2_with fail
    go_ret
    exact ⟨rfl, fr_alloc (fr_refl _) _⟩
   ·have hv : feastB ⟨true, m, d, a⟩ = inB a (-60) 60 := by simp only [feastB, if_true, hm, hd, Bool.true_and]
    rw [hv]
    go_enter Tryz.func74, Tryz.ntmps74
    go_wp2_with fail
    refine (rin_is _ _ _ _ _ rfl).mono ?_
    rintro e w' ⟨rfl, rfl⟩
    go_wp2_with fail
    go_ret
    exact ⟨rfl, fr_alloc (fr_refl _) _⟩

set_option maxRecDepth 100000 in
set_option maxHeartbeats 2000000 in
theorem rFeasts_is (A : Option Addr) (c : Nat) (l : List Feast) (w : World) (hr : RdS w A 4 (l.map Feast.row)) (hn : l.length ≤ 9223372036854775807) (b : Bool) (hb : feastsB l = b) :
  Calls Tryz.prog 19 #[.slice A l.length c] w fun e' w' => e' = .returned (.bool b) ∧ Below w.heap.size w w' := by
 subst hb
 go_enter Tryz.func19, Tryz.ntmps19
 go_wp2
 generalize hlen : l.length = n at *
 have HL := Lib.hid hlen
 have HF := Lib.hid (show feastsB l = (decide (l.length ≤ 6) && l.all feastB) from rfl)
 clear hlen
 go_loopw [3] (fun i wr => ∃ k : Nat, k ≤ n ∧ i = .int .i64 k ∧ (l.take k).all feastB = true ∧ Below w.heap.size w wr) (fun i _ => n - (intOf i).toNat)
 case atStart => exact ⟨0, Nat.zero_le _, rfl, by simp, fr_refl _⟩
 case round =>
  obtain ⟨k, hk, rfl, hall, hbel⟩ := hrel
  by_cases hlt : k < n
  ·have hkl : k < l.length := by have := HL.out; omega
   have hrow : (l.map Feast.row)[k]? = some (l[k].row) := by simp [hkl]
   obtain ⟨ad, rfl, hab, _, hc⟩ := (hr.keep hbel).at_ hrow
   have hq : ∀ j, ad.add (k * 4 + (j + 1)) = (ad.add (k * 4)).add (j + 1) := fun j => by
    unfold Addr.add; by_cases h0 : k * 4 = 0 <;> simp [h0, Nat.add_assoc]
   have hc0 : wr.cell? (ad.add (k * 4)) = some (.bool l[k].mv) := hc 0 _ rfl
   have hc1 : wr.cell? ⟨(ad.add (k * 4)).block, (ad.add (k * 4)).off + 1, none⟩ = _ := (congrArg wr.cell? (hq 0)).symm.trans (hc 1 _ rfl)
   have hc2 : wr.cell? ⟨(ad.add (k * 4)).block, (ad.add (k * 4)).off + 2, none⟩ = _ := (congrArg wr.cell? (hq 1)).symm.trans (hc 2 _ rfl)
   have hc3 : wr.cell? ⟨(ad.add (k * 4)).block, (ad.add (k * 4)).off + 3, none⟩ = _ := (congrArg wr.cell? (hq 2)).symm.trans (hc 3 _ rfl)
   clear hc hrow hr hq
   cases hf : feastB l[k]
   ·have hno := Lib.hid (show feastsB l = false by rw [HF.out]; rw [show l.all feastB = false from all_no hkl hf]; simp)
    go_wp2_with fail
    refine (rFeast_is _ _ false hf).mono ?_
    rintro e w1 ⟨rfl, hb1⟩
    go_wp2_with fail
    go_ret
    exact ⟨ret_bool (by rw [hno.out]), fr_call hbel hb1⟩
   ·have hst := Lib.hid (all_step hkl hall hf)
    go_wp2_with fail
    refine (rFeast_is _ _ true hf).mono ?_
    rintro e w1 ⟨rfl, hb1⟩
    go_wp2_with fail
    go_roundw
    case rel => exact ⟨k + 1, hlt, by go_num, hst.out, fr_call hbel hb1⟩
    case measure => simp [intOf]; omega
  ·have hfin := Lib.hid (show feastsB l = decide (n ≤ 6) by
    rw [HF.out, HL.out]
    rw [List.take_of_length_le (by have := HL.out; omega)] at hall
    rw [hall, Bool.and_true])
   go_wp2_with fail
   go_ret
   exact ⟨ret_bool (by rw [hfin.out]; simp; omega), hbel⟩
end
end Go.Proofs.YtdocgmafbacjcaaGreatDoor
end

section
namespace Go.Proofs.YtdocgmafbacjcaaGreatDoor
open Go.RowKit Go.Shelf Dl

/-- a load of a whole struct behind a guard that lets it through -/
theorem wpList_load_blkG {P : Program} {ops : Array Oper} {rest : List Oper} {o : Oper} {a : Act} {w : World} {Q : Exit → Act → World → Prop} (hw : Region.wanted o (yielded ops a.tmps) = true) (ty : TypeId) (x : Operand) (ho : o.op = .load ty x)
  (g : Nat) (hx : a.eval x = .pointer (some ⟨g, 0, none⟩)) (t : TypeId) (cs : Array Value) (hB : Blk w g t cs) {d : TypeDesc} (hu : P.underlying ty = some d) (hd : (match d with | .struct _ | .array _ _ => true | _ => false) = true) (hi : (P.info? ty).map (·.size) = some cs.size)
  (h : wpList P ops Q rest (a.put o.dst (.agg cs)) w) : wpList P ops Q (o :: rest) a w :=
 wpList_step fun K hK => by
  rw [if_pos hw]
  exact wp_load_blk ty x ho g hx t cs hB hu hd hi (hK _ _ h)
/-- what a suite of any numbers reads as -/
structure SuAny (w : World) (A1 A2 A3 A4 A5 A6 : Option Addr) (n1 n2 n3 n4 n5 n6 : Nat) (rows : List (Int × Int × Int)) (hs : List Int) (tg : List (Int × Int)) (ho cy : List Int) (fe : List Feast) : Prop where
 r1 : RdS w A1 3 (rows.map LiC)
 l1 : rows.length = n1
 r2 : Rd w A2 n2 hs
 r3 : RdS w A3 2 (tg.map ptC)
 l3 : tg.length = n3
 r4 : Rd w A4 n4 ho
 r5 : Rd w A5 n5 cy
 r6 : RdS w A6 4 (fe.map Feast.row)
 l6 : fe.length = n6
theorem SuAny.keep {w w' : World} {A1 A2 A3 A4 A5 A6 : Option Addr} {n1 n2 n3 n4 n5 n6 : Nat} {rows : List (Int × Int × Int)} {hs : List Int} {tg : List (Int × Int)} {ho cy : List Int} {fe : List Feast} (h : SuAny w A1 A2 A3 A4 A5 A6 n1 n2 n3 n4 n5 n6 rows hs tg ho cy fe) (hb : Below w.heap.size w w') : SuAny w' A1 A2 A3 A4 A5 A6 n1 n2 n3 n4 n5 n6 rows hs tg ho cy fe :=
 ⟨h.r1.keep hb, h.l1, h.r2.keep hb, h.r3.keep hb, h.l3, h.r4.keep hb, h.r5.keep hb, h.r6.keep hb, h.l6⟩
/-- a suite is as defined -/
structure SuFine (n2 n3 n4 : Nat) (lim wm ep mn md ma yr br hr wg pc : Int) (rows : List (Int × Int × Int)) (hs : List Int) (tg : List (Int × Int)) (ho cy : List Int) (fe : List Feast) : Prop where
 piece : ∃ ls, ls.map Lk.cells = rows.map LiC ∧ ShopOk ls hs
 n3 : n3 = n2
 lim : 0 ≤ lim ∧ lim ≤ 10800
 div : HolesOk ho ∧ (1 ≤ wm ∧ wm ≤ 60) ∧ 1 ≤ n4 ∧ n4 ≤ 6
 tg : ∀ f ∈ tg, FrOk f
 cal : calOk ep cy = true
 moon : moonB mn md ma = true
 fe : feastsB fe = true
 yr : inB yr 0 4000 = true
 bill : (0 ≤ br ∧ br ≤ 1000) ∧ (0 ≤ hr ∧ hr ≤ 40) ∧ (0 ≤ wg ∧ wg ≤ 100) ∧ 0 ≤ pc ∧ pc ≤ 100
set_option maxRecDepth 100000 in
set_option maxHeartbeats 16000000 in
theorem rSuite_any (A1 A2 A3 A4 A5 A6 : Option Addr) (n1 c1 n2 c2 n3 c3 n4 c4 n5 c5 n6 c6 : Nat) (lim wm ep mn md ma yr br hr wg pc : Int) (rows : List (Int × Int × Int)) (hs : List Int) (tg : List (Int × Int)) (ho cy : List Int) (fe : List Feast) (w : World) (h : SuAny w A1 A2 A3 A4 A5 A6 n1 n2 n3 n4 n5 n6 rows hs tg ho cy fe) (hbd : n1 ≤ 1000 ∧ n2 ≤ 1000 ∧ n3 ≤ 1000 ∧ n4 ≤ 1000 ∧ n5 ≤ 1000 ∧ n6 ≤ 1000) :
  Calls Tryz.prog 5 #[.agg #[.slice A1 n1 c1, .slice A2 n2 c2, .slice A3 n3 c3, .int .i64 lim, .int .i64 wm, .slice A4 n4 c4, .int .i64 ep, .slice A5 n5 c5, .int .i64 mn, .int .i64 md, .int .i64 ma, .slice A6 n6 c6, .int .i64 yr, .int .i64 br, .int .i64 hr, .int .i64 wg, .int .i64 pc]] w (RetB w (SuFine n2 n3 n4 lim wm ep mn md ma yr br hr wg pc rows hs tg ho cy fe)) := by
 have hb0 := fr_alloc (fr_refl w) (.cells #[.slice A1 n1 c1, .slice A2 n2 c2, .slice A3 n3 c3, .int .i64 lim, .int .i64 wm, .slice A4 n4 c4, .int .i64 ep, .slice A5 n5 c5, .int .i64 mn, .int .i64 md, .int .i64 ma, .slice A6 n6 c6, .int .i64 yr, .int .i64 br, .int .i64 hr, .int .i64 wg, .int .i64 pc] 35)
 have hX := Blk.new w 35 #[.slice A1 n1 c1, .slice A2 n2 c2, .slice A3 n3 c3, .int .i64 lim, .int .i64 wm, .slice A4 n4 c4, .int .i64 ep, .slice A5 n5 c5, .int .i64 mn, .int .i64 md, .int .i64 ma, .slice A6 n6 c6, .int .i64 yr, .int .i64 br, .int .i64 hr, .int .i64 wg, .int .i64 pc]
 obtain ⟨w1, hw1⟩ : ∃ w1, w.alloc (.cells #[.slice A1 n1 c1, .slice A2 n2 c2, .slice A3 n3 c3, .int .i64 lim, .int .i64 wm, .slice A4 n4 c4, .int .i64 ep, .slice A5 n5 c5, .int .i64 mn, .int .i64 md, .int .i64 ma, .slice A6 n6 c6, .int .i64 yr, .int .i64 br, .int .i64 hr, .int .i64 wg, .int .i64 pc] 35) = w1 := ⟨_, rfl⟩
 rw [hw1] at hb0 hX
 replace h := h.keep hb0
 have hlX := hX.lt
 have no : ∀ (W : World), Below w1.heap.size w1 W → RetB w (SuFine n2 n3 n4 lim wm ep mn md ma yr br hr wg pc rows hs tg ho cy fe) (.returned (.bool false)) W := fun W hb => ⟨false, rfl, (fun h => by cases h), fr_call hb0 hb⟩
 have HNO := Lib.hid no
 have K1 := fun W (hb : Below w1.heap.size w1 W) => rPiece_any A1 A2 n1 c1 n2 c2 rows hs W (h.keep hb).r1 h.l1 (h.keep hb).r2 hbd.1 hbd.2.1
 have K2 := fun W (hb : Below w1.heap.size w1 W) => rDivider_any wm A4 n4 c4 ho W (h.keep hb).r4 hbd.2.2.2.1
 have K3 := fun W (hb : Below w1.heap.size w1 W) (b : Bool) hq => rCalendar_is A5 n5 c5 cy ep W (h.keep hb).r5 (by omega) b hq
 have K4 := fun W (b : Bool) hq => rMoon_is mn md ma W b hq
 have K5 := fun W (hb : Below w1.heap.size w1 W) (b : Bool) hq => rFeasts_is A6 c6 fe W (h.keep hb).r6 (by have := h.l6; omega) b hq
 rw [h.l6] at K5
 have K6 := fun W (b : Bool) hq => rYear_is yr W b hq
 have K7 := fun W => rbill_is A1 A2 A3 A4 A5 A6 n1 c1 n2 c2 n3 c3 n4 c4 n5 c5 n6 c6 lim wm ep mn md ma yr br hr wg pc _ W rfl
 have K8 := fun W => rBill_any br hr wg pc W
 have HR3 := Lib.hid h.r3
 have HL3 := Lib.hid h.l3
 obtain ⟨b3, e3⟩ : ∃ b, calOk ep cy = b := ⟨_, rfl⟩
 obtain ⟨b4, e4⟩ : ∃ b, moonB mn md ma = b := ⟨_, rfl⟩
 obtain ⟨b5, e5⟩ : ∃ b, feastsB fe = b := ⟨_, rfl⟩
 obtain ⟨b6, e6⟩ : ∃ b, inB yr 0 4000 = b := ⟨_, rfl⟩
 obtain ⟨bl, el⟩ : ∃ b, inB lim 0 10800 = b := ⟨_, rfl⟩
 replace K3 := fun W hb => K3 W hb b3 e3
 replace K4 := fun W => K4 W b4 e4
 replace K5 := fun W hb => K5 W hb b5 e5
 replace K6 := fun W => K6 W b6 e6
 have KL := fun W => rLimit_is lim W bl el
 have E3 := Lib.hid e3
 have E4 := Lib.hid e4
 have E5 := Lib.hid e5
 have E6 := Lib.hid e6
 have EL := Lib.hid el
 clear h no e3 e4 e5 e6 el
 have hcX := fun j => hX.cell j
 go_enter Tryz.func5, Tryz.ntmps5
 go_upto_region 1 with (fail)
 (try rw [hw1])
 clear hw1
 go_wp2_with fail
 refine (K1 _ (fr_refl _)).mono ?_
 rintro e w2 ⟨ba, rfl, hba, hb2⟩
 have HBA := Lib.hid hba
 clear K1 hcX hba
 have hX2 := hX.keep hb2
 have hcX := fun j => hX2.cell j
 have hlX2 := hX2.lt
 cases ba with
 | false =>
  go_wp2_with fail
  go_ret
  exact HNO.out _ hb2
 | true =>
 by_cases h32 : n3 = n2
 case neg =>
  have q0 : ((n3 : Int) != (n2 : Int)) = true := by rw [bne_iff_ne]; omega
  have q1 : ((n3 : Int) == (n2 : Int)) = false := by rw [beq_eq_false_iff_ne]; omega
  clear h32
  go_wp2_with fail
  go_ret
  exact HNO.out _ hb2
 case pos =>
 subst h32
 have q0 : ((n3 : Int) != (n3 : Int)) = false := by simp
 cases bl with
 | false =>
  go_wp2_with fail
  refine (KL _).mono ?_
  rintro e w' ⟨rfl, rfl⟩
  go_wp2_with fail
  go_ret
  exact HNO.out _ hb2
 | true =>
 go_wp2_with fail
 refine (KL _).mono ?_
 rintro e w' ⟨rfl, rfl⟩
 go_wp2_with fail
 refine (K2 _ hb2).mono ?_
 rintro e w3 ⟨bb, rfl, hbb, hb3⟩
 have HBB := Lib.hid hbb
 replace hb3 := fr_call hb2 hb3
 clear K2 hcX hbb KL
 have hX3 := hX.keep hb3
 have hlX3 := hX3.lt
 cases bb with
 | false =>
  go_wp2_with fail
  go_ret
  exact HNO.out _ hb3
 | true =>
 go_wp2_with fail
 go_loopw [3] (fun u wr => ∃ j : Nat, j ≤ n3 ∧ u = .int .i64 j ∧ (∀ f ∈ tg.take j, FrOk f) ∧ Below w1.heap.size w1 wr) (fun u _ => n3 - (intOf u).toNat)
 case atStart => exact ⟨0, Nat.zero_le _, rfl, (fun x h => by cases h), hb3⟩
 case round =>
  obtain ⟨j, hj, rfl, hall, hbr⟩ := hrel
  have hXr := hX.keep hbr
  have hlXr := hXr.lt
  have HA := Lib.hid hall
  clear hall
  by_cases hlt : j < n3
  ·have hjl : j < tg.length := by have := HL3.out; omega
   obtain ⟨⟨x, y⟩, hx⟩ : ∃ f, tg[j]? = some f := ⟨tg[j], List.getElem?_eq_getElem hjl⟩
   obtain ⟨ad, rfl, hab, h0, h1⟩ := (HR3.out.keep hbr).nth (i := j) (r := ptC (x, y)) (by simp [hx])
   have c0 := h0 _ rfl
   have c1 := h1 0 _ rfl
   simp only [Nat.zero_add] at c1
   have HT := Lib.hid (show tg.take (j + 1) = tg.take j ++ [(x, y)] by rw [List.take_succ_eq_append_getElem hjl, (List.getElem?_eq_some_iff.1 hx).2])
   have i1 : (0 : Int) ≤ (j : Int) := Int.natCast_nonneg j
   have i2 : (j : Int) < (n3 : Int) := by omega
   have i3 : IntKind.i64.wrap ((j : Int) + 1) = ((j + 1 : Nat) : Int) := by rw [IntWalk.i64_in _ (by omega)]; omega
   obtain ⟨bf, hbf⟩ : ∃ b, (inB x 0 50000 && inB y 1 50000) = b := ⟨_, rfl⟩
   have k1 := hXr.cell 2
   clear h0 h1 hx
   go_wp2_with fail
   refine (rFraction_is x y _ bf hbf).mono ?_
   rintro e w4 ⟨rfl, hb4⟩
   replace hb4 := fr_call hbr hb4
   cases bf with
   | false =>
    go_wp2_with fail
    go_ret
    exact HNO.out _ hb4
   | true =>
    have hxy := Bool.and_eq_true_iff.1 hbf
    have hfx : FrOk (x, y) := ⟨of_decide_eq_true hxy.1, of_decide_eq_true hxy.2⟩
    have HFX := Lib.hid hfx
    clear hxy hfx
    go_wp2_with fail
    refine ⟨⟨j + 1, hlt, by go_num, fun u hu => ?_, hb4⟩, ?_⟩
    ·rw [HT.out] at hu
     rcases List.mem_append.1 hu with h | h
     ·exact HA.out u h
     ·rw [List.mem_singleton.1 h]; exact HFX.out
    ·simp [intOf]; omega
  ·obtain rfl : j = n3 := by omega
   have k1 := hXr.cell 2
   have hcX := fun j => hXr.cell j
   go_wp2_with fail
   refine (K3 _ hbr).mono ?_
   rintro e w5 ⟨rfl, hb5⟩
   replace hb5 := fr_call hbr hb5
   clear hcX k1 K3
   cases b3 with
   | false =>
    go_wp2_with fail
    go_ret
    exact HNO.out _ hb5
   | true =>
   have hX5 := hX.keep hb5
   have hcX := fun j => hX5.cell j
   go_wp2_with fail
   refine (K4 _).mono ?_
   rintro e w6 ⟨rfl, hb6⟩
   replace hb6 := fr_call hb5 hb6
   clear hcX K4
   cases b4 with
   | false =>
    go_wp2_with fail
    go_ret
    exact HNO.out _ hb6
   | true =>
   have hX6 := hX.keep hb6
   have hcX := fun j => hX6.cell j
   go_wp2_with fail
   refine (K5 _ hb6).mono ?_
   rintro e w7 ⟨rfl, hb7⟩
   replace hb7 := fr_call hb6 hb7
   clear hcX K5
   cases b5 with
   | false =>
    go_wp2_with fail
    go_ret
    exact HNO.out _ hb7
   | true =>
   have hX7 := hX.keep hb7
   have hcX := hX7.cell 12
   go_wp2_with fail
   refine (K6 _).mono ?_
   rintro e w' ⟨rfl, rfl⟩
   clear hcX K6
   cases b6 with
   | false =>
    go_wp2_with fail
    go_ret
    exact HNO.out _ hb7
   | true =>
   have hlX7 := hX7.lt
   go_wp2_with (refine wpList_load_blkG (by rfl) _ _ rfl w.heap.size rfl _ _ hX7 Tryz.underlying35 rfl (by kernel_rfl) ?_)
   refine (K7 _).mono ?_
   rintro e w8 ⟨rfl, hb8⟩
   replace hb8 := fr_call hb7 hb8
   clear K7
   go_wp2_with fail
   refine (K8 _).mono ?_
   rintro e w9 ⟨b9, rfl, hb9f, hb9⟩
   replace hb9 := fr_call hb8 hb9
   have HB9 := Lib.hid hb9f
   clear hb9f K8
   go_wp2_with fail
   go_ret
   refine ⟨b9, rfl, fun hb => ?_, fr_call hb0 hb9⟩
   have hall := HA.out
   rw [List.take_of_length_le (by have := HL3.out; omega)] at hall
   exact ⟨HBA.out trivial, rfl, of_decide_eq_true EL.out, HBB.out trivial, hall, E3.out, E4.out, E5.out, E6.out, HB9.out hb⟩
end Go.Proofs.YtdocgmafbacjcaaGreatDoor
end
