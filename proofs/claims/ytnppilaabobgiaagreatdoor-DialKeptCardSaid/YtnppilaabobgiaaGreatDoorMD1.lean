/- Reference: ranges, calendars, moons, leap years, lengths, first days. Reference: moons, calendars, realms, spans, ranges, lists that are the same. Reference: realms, dials, spans, ranges, lists that are the same. Reference: dates that are written, real; the day of a date. -/
import Derived.Test.YtnppilaabobgiaaGreatDoorMB2
import Derived.Test.YtnppilaabobgiaaGreatDoorProg
import Derived.WalkKit
import Derived.WalkSpells
import Derived.WalkLawsBesides
import Derived.LoopTactic
import Derived.Deep.LoopGhost
import Derived.Lib.Hide
import Derived.Deep.Draws
import Derived.Deep.QuietTactic
import Derived.BigQuiet
import Derived.Deep.RegionHeld3
import Derived.Test.YtnppilaabobgiaaGreatDoorMB1
import Derived.OwnWalk
import Derived.Laws.Rows
import Derived.Deep.DeepMust
import Derived.Defers
import Derived.Recover
import Derived.Laws.Pointers
import Derived.Laws.EntriesVeiled
import Derived.Outline
import Derived.Deep.MidRow
import Derived.RangeFuncNested
import Derived.RangeFuncBound
import Derived.OwnWalkIn
import Derived.TacticsInMore
import Derived.LoopIn
import Derived.Shelf.RegionOpen
import Derived.Sort.CutIn
import Derived.Test.YtnppilaabobgiaaGreatDoorMB6
import Derived.Test.YtnppilaabobgiaaGreatDoorMC2
section
namespace Go.Proofs.YtnppilaabobgiaaGreatDoor
open Go.RowKit Dl

set_option maxHeartbeats 400000 in
theorem rin_is (x lo hi : Int) (w : World) (b : Bool) (hb : inB x lo hi = b) :
    Calls Tryz.prog 57 #[.int .i64 x, .int .i64 lo, .int .i64 hi] w fun e w' => e = .returned (.bool b) ∧ w = w' := by
  subst hb
  by_cases h : lo ≤ x
  · go_enter Tryz.func57, Tryz.ntmps57
    go_wp2
    go_ret
    exact ⟨ret_bool (by simp [inB, h]), rfl⟩
  · go_enter Tryz.func57, Tryz.ntmps57
    go_wp2
    go_ret
    exact ⟨ret_bool (by simp only [inB]; rw [eq_comm, decide_eq_false_iff_not]; omega), rfl⟩

set_option maxHeartbeats 400000 in
theorem rYear_is (x : Int) (w : World) (b : Bool) (hb : inB x 0 4000 = b) :
    Calls Tryz.prog 30 #[.int .i64 x] w fun e w' => e = .returned (.bool b) ∧ w = w' := by
  go_enter Tryz.func30, Tryz.ntmps30
  go_wp2_with (go_at_call 57; refine (rin_is _ _ _ _ _ hb).mono ?_; rintro e w' ⟨rfl, rfl⟩)
  go_ret
  exact ⟨rfl, rfl⟩

set_option maxHeartbeats 400000 in
theorem rNumber_is (x : Int) (w : World) (b : Bool) (hb : inB x 0 2000000 = b) :
    Calls Tryz.prog 25 #[.int .i64 x] w fun e w' => e = .returned (.bool b) ∧ w = w' := by
  go_enter Tryz.func25, Tryz.ntmps25
  go_wp2_with (go_at_call 57; refine (rin_is _ _ _ _ _ hb).mono ?_; rintro e w' ⟨rfl, rfl⟩)
  go_ret
  exact ⟨rfl, rfl⟩

set_option maxHeartbeats 400000 in
theorem rWeekday_any (d : Int) (w : World) (h0 : -4 ≤ d) (h1 : d ≤ 100000000) :
    Calls Tryz.prog 20 #[.int .i64 d] w fun e w' => e = .returned (.int .i64 (wkd d)) ∧ w = w' := by
  go_enter Tryz.func20, Tryz.ntmps20
  go_wp2
  go_ret
  exact ⟨rfl, rfl⟩

def divN (cs : List Int) (y : Int) : Int := cs.foldl (fun b n => if y % n = 0 then b + 1 else b) 0
theorem divN_snoc (cs : List Int) (x y : Int) : divN (cs ++ [x]) y = (if y % x = 0 then divN cs y + 1 else divN cs y) := by
  simp [divN]
theorem divN_leap (cs : List Int) (y : Int) : 0 ≤ divN cs y ∧ divN cs y ≤ cs.length ∧ leapB cs y = decide (divN cs y % 2 = 1) := by
  rw [← List.reverse_reverse cs]
  generalize cs.reverse = ds
  induction ds with
  | nil => simp [divN, leapB]
  | cons x ds ih =>
    rw [List.reverse_cons, divN_snoc, leapB_snoc, List.length_append]
    generalize ds.reverse = cs at *
    obtain ⟨h1, h2, h3⟩ := ih
    split
    · refine ⟨by omega, by simp; omega, ?_⟩
      rw [h3]
      by_cases h : divN cs y % 2 = 1
      · have : ¬ (divN cs y + 1) % 2 = 1 := by omega
        simp [h, this]
      · have : (divN cs y + 1) % 2 = 1 := by omega
        simp [h, this]
    · exact ⟨h1, by simp; omega, h3⟩

set_option maxHeartbeats 1000000 in
theorem rLeap_any (A : Option Addr) (n c : Nat) (cs : List Int) (e : Int) (yr : Int) (w : World) (hr : Rd w A n cs) (hn : n ≤ 3) (hpos : Cyc cs) (h0 : 0 ≤ yr) (h1 : yr ≤ 5000) :
    Calls Tryz.prog 80 #[.agg #[.int .i64 e, .slice A n c], .int .i64 yr] w fun e w' => e = .returned (.bool (leapB cs yr)) ∧ Below w.heap.size w w' := by
  go_enter Tryz.func80, Tryz.ntmps80
  go_wp2
  go_loop [5, 6] (fun b i => ∃ k : Nat, k ≤ n ∧ i = .int .i64 k ∧ b = .int .i64 (divN (cs.take k) yr)) (fun _ i => n - (intOf i).toNat)
  case atStart => exact ⟨0, Nat.zero_le _, rfl, rfl⟩
  case round =>
    obtain ⟨k, hk, rfl, rfl⟩ := hrel
    have hd := divN_leap (cs.take k) yr
    have hdl : (cs.take k).length ≤ 3 := by rw [List.length_take]; omega
    obtain ⟨hd1, hd2, hd3⟩ := hd
    have HD := Lib.hid hd3
    clear hd3
    by_cases hlt : k < n
    · obtain ⟨ad, rfl, hb, hc⟩ := (hr.alloc (Obj.cells #[.int .i64 e, Value.slice A n c] 24)).at_ hlt
      have hp := hpos k (by rw [hr.len]; exact hlt)
      have HS := Lib.hid (take_snoc' cs k (by rw [hr.len]; exact hlt))
      generalize hx : cs[k]?.getD 0 = x at *
      clear hx
      go_wp2
      all_goals
        go_round
        case rel => exact ⟨k + 1, by omega, by go_num, by rw [HS.out, divN_snoc]; simp_all⟩
        case measure => simp [intOf]; omega
    · go_wp2
      go_ret
      obtain rfl : k = n := by omega
      rw [List.take_of_length_le (by have := hr.1; omega)] at *
      refine ⟨ret_bool ?_, fr_alloc (fr_refl _) _⟩
      rw [HD.out]
      by_cases h : divN cs yr % 2 = 1 <;> simp [h]

set_option maxHeartbeats 1000000 in
theorem rLong_any (A : Option Addr) (n c : Nat) (cs : List Int) (e : Int) (yr : Int) (w : World) (hr : Rd w A n cs) (hn : n ≤ 3) (hpos : Cyc cs) (h0 : 0 ≤ yr) (h1 : yr ≤ 5000) :
    Calls Tryz.prog 92 #[.agg #[.int .i64 e, .slice A n c], .int .i64 yr] w fun e w' => e = .returned (.int .i64 (yearLen cs yr)) ∧ Below w.heap.size w w' := by
  go_enter Tryz.func92, Tryz.ntmps92
  go_wp2_with fail
  refine (rLeap_any A n c cs e yr _ (hr.alloc _) hn hpos h0 h1).mono ?_
  rintro e1 w1 ⟨rfl, hb1⟩
  cases hl : leapB cs yr
  · go_wp2_with fail
    go_ret
    exact ⟨ret_int (by unfold yearLen; rw [hl]; rfl), fr_call (fr_alloc (fr_refl _) _) hb1⟩
  · go_wp2_with fail
    go_ret
    exact ⟨ret_int (by unfold yearLen; rw [hl]; rfl), fr_call (fr_alloc (fr_refl _) _) hb1⟩

set_option maxHeartbeats 1000000 in
theorem rLength_any (m : Int) (b : Bool) (w : World) (h1 : 1 ≤ m) (h2 : m ≤ 12) :
    Calls Tryz.prog 79 #[.int .i64 m, .bool b] w fun e w' => e = .returned (.int .i64 (mlen b m)) ∧ Below w.heap.size w w' := by
  by_cases h : m = 2 ∧ b = true
  · obtain ⟨rfl, rfl⟩ := h
    go_enter Tryz.func79, Tryz.ntmps79
    go_wp2
    go_ret
    exact ⟨rfl, fr_refl _⟩
  · have hrow : (w.alloc (.cells #[.int .i64 31, .int .i64 28, .int .i64 31, .int .i64 30, .int .i64 31, .int .i64 30, .int .i64 31, .int .i64 31, .int .i64 30, .int .i64 31, .int .i64 30, .int .i64 31] 3)).cell? ⟨w.heap.size, m.toNat - 1, none⟩ = some (.int .i64 ((mtab false)[m.toNat - 1]?.getD 0)) := (Rd.new w 3 (mtab false)).row (m.toNat - 1) (by rw [mtab_len]; omega)
    rw [mtab_at false _ h1 h2] at hrow
    have hm : mlen false m = mlen b m := by
      unfold mlen
      cases b
      · rfl
      · have : m ≠ 2 := fun e => h ⟨e, rfl⟩
        simp [this]
    rw [hm] at hrow
    have HM := Lib.hid hm
    clear hm
    have hi1 : m - 1 < 12 := by omega
    have hi0 : 0 ≤ m - 1 := by omega
    have hwm : IntKind.i64.wrap (m - 1) = m - 1 := IntWalk.i64_in _ (by omega)
    by_cases hm2 : m = 2
    · subst hm2
      obtain rfl : b = false := by simpa using h
      go_enter Tryz.func79, Tryz.ntmps79
      go_wp2
      go_ret
      exact ⟨rfl, fr_alloc (fr_refl _) _⟩
    · go_enter Tryz.func79, Tryz.ntmps79
      go_wp2
      go_ret
      exact ⟨rfl, fr_alloc (fr_refl _) _⟩

theorem firstN_at (e : Int) (cs : List Int) (k : Nat) : firstN e cs (k + 1) = firstN e cs k + 365 + (if leapB cs k then 1 else 0) := by
  simp only [firstN, yearLen]; split <;> omega

set_option maxHeartbeats 1000000 in
theorem rFirst_any (A : Option Addr) (n c : Nat) (cs : List Int) (e : Int) (yr : Int) (w : World) (hr : Rd w A n cs) (hn : n ≤ 3) (hpos : Cyc cs) (he0 : 0 ≤ e) (he1 : e ≤ 1000) (h0 : 0 ≤ yr) (h1 : yr ≤ 5000) :
    Calls Tryz.prog 90 #[.agg #[.int .i64 e, .slice A n c], .int .i64 yr] w fun e' w' => e' = .returned (.int .i64 (firstDay e cs yr)) ∧ Below w.heap.size w w' := by
  go_enter Tryz.func90, Tryz.ntmps90
  go_wp2
  go_loopw [5, 6] (fun b i wr => ∃ k : Nat, (k : Int) ≤ yr ∧ i = .int .i64 k ∧ b = .int .i64 (firstN e cs k + 365 * (yr - k)) ∧ Below (w.alloc (Obj.cells #[.int .i64 e, Value.slice A n c] 24)).heap.size (w.alloc (Obj.cells #[.int .i64 e, Value.slice A n c] 24)) wr) (fun _ i _ => yr.toNat - (intOf i).toNat)
  case atStart => exact ⟨0, by omega, rfl, by simp [firstN], fr_refl _⟩
  case round =>
    obtain ⟨k, hk, rfl, rfl, hbel⟩ := hrel
    obtain ⟨hc1, hf1⟩ := bcell hbel
    have hz := hbel.size
    have hz2 : (w.alloc (Obj.cells #[.int .i64 e, Value.slice A n c] 24)).heap.size = w.heap.size + 1 := by simp
    rw [hz2] at hz
    have hfb := firstN_bounds e cs k
    by_cases hlt : (k : Int) < yr
    · have HN := Lib.hid (firstN_at e cs k)
      generalize hfk : firstN e cs k = fk at *
      clear hfk
      go_wp2_with fail
      refine (rLeap_any A n c cs e k _ ((hr.alloc _).keep hbel) hn hpos (by omega) (by omega)).mono ?_
      rintro e1 w1 ⟨rfl, hb1⟩
      cases hl : leapB cs k
      · go_wp2_with fail
        go_roundw
        case rel => exact ⟨k + 1, by omega, by go_num, by rw [HN.out, hl]; go_num, fr_call hbel hb1⟩
        case measure => simp [intOf]; omega
      · go_wp2_with fail
        go_roundw
        case rel => exact ⟨k + 1, by omega, by go_num, by rw [HN.out, hl]; go_num, fr_call hbel hb1⟩
        case measure => simp [intOf]; omega
    · go_wp2
      go_ret
      refine ⟨ret_int ?_, fr_call (fr_alloc (fr_refl _) _) hbel⟩
      have : (k : Int) = yr := by omega
      subst this
      simp [firstDay]
end Go.Proofs.YtnppilaabobgiaaGreatDoor
end

section
namespace Go.Proofs.YtnppilaabobgiaaGreatDoor
open Go.RowKit Dl

set_option maxHeartbeats 1000000 in
theorem rMoon_is (num den add : Int) (w : World) (b : Bool) (hb : moonB num den add = b) :
    Calls Tryz.prog 42 #[.agg #[.int .i64 num, .int .i64 den, .int .i64 add]] w fun e' w' => e' = .returned (.bool b) ∧ Below w.heap.size w w' := by
  subst hb
  by_cases h1 : inB den 1 1000 = true
  · have h1' := inB_iff.1 h1
    by_cases h2 : inB num (29 * den) (30 * den) = true
    · have h2' := inB_iff.1 h2
      have hc : moonB num den add = inB add 0 (num - 1) := by unfold moonB; rw [h1, h2]; rfl
      rw [hc]
      go_enter Tryz.func42, Tryz.ntmps42
      go_wp2_with fail
      refine (rin_is _ _ _ _ _ h1).mono ?_
      rintro e w' ⟨rfl, rfl⟩
      go_wp2_with fail
      refine (rin_is _ _ _ _ _ h2).mono ?_
      rintro e w' ⟨rfl, rfl⟩
      go_wp2_with fail
      refine (rin_is _ _ _ _ _ rfl).mono ?_
      rintro e w' ⟨rfl, rfl⟩
      go_wp2_with fail
      go_ret
      exact ⟨rfl, fr_alloc (fr_refl _) _⟩
    · have h2' : inB num (29 * den) (30 * den) = false := by simpa using h2
      have hc : moonB num den add = false := by unfold moonB; rw [h2']; simp
      rw [hc]
      go_enter Tryz.func42, Tryz.ntmps42
      go_wp2_with fail
      refine (rin_is _ _ _ _ _ h1).mono ?_
      rintro e w' ⟨rfl, rfl⟩
      go_wp2_with fail
      refine (rin_is _ _ _ _ _ h2').mono ?_
      rintro e w' ⟨rfl, rfl⟩
      go_wp2_with fail
      go_ret
      exact ⟨rfl, fr_alloc (fr_refl _) _⟩
  · have h1' : inB den 1 1000 = false := by simpa using h1
    have hc : moonB num den add = false := by unfold moonB; rw [h1']; simp
    rw [hc]
    go_enter Tryz.func42, Tryz.ntmps42
    go_wp2_with fail
    refine (rin_is _ _ _ _ _ h1').mono ?_
    rintro e w' ⟨rfl, rfl⟩
    go_wp2_with fail
    go_ret
    exact ⟨rfl, fr_alloc (fr_refl _) _⟩

/- calendars: 'greater than the one before' -/
def befC (cs : List Int) (k : Nat) : Int := if k = 0 then 1 else cs[k - 1]?.getD 0

theorem okCyc_bef (cs : List Int) (k : Nat) (hk : k < cs.length) (hq : okCyc 1 cs = okCyc (befC cs k) (cs.drop k)) (hb : inB (cs[k]?.getD 0) (befC cs k + 1) 1000 = true) : okCyc 1 cs = okCyc (befC cs (k + 1)) (cs.drop (k + 1)) := by
  rw [hq, okCyc_drop cs _ k hk hb]
  simp [befC]
theorem okCyc_bef_no (cs : List Int) (k : Nat) (hk : k < cs.length) (hq : okCyc 1 cs = okCyc (befC cs k) (cs.drop k)) (hb : inB (cs[k]?.getD 0) (befC cs k + 1) 1000 = false) : okCyc 1 cs = false := by
  rw [hq, okCyc_drop_no cs _ k hk hb]

set_option maxRecDepth 100000 in
set_option maxHeartbeats 2000000 in
theorem rCalendar_is (A : Option Addr) (n c : Nat) (cs : List Int) (e : Int) (w : World) (hr : Rd w A n cs) (hn : n ≤ 9223372036854775807) (b : Bool) (hb : calOk e cs = b) :
    Calls Tryz.prog 24 #[.agg #[.int .i64 e, .slice A n c]] w fun e' w' => e' = .returned (.bool b) ∧ Below w.heap.size w w' := by
  subst hb
  have hlen := hr.len
  go_enter Tryz.func24, Tryz.ntmps24
  go_wp2
  go_loopw [3] (fun i wr => ∃ k : Nat, k ≤ n ∧ i = .int .i64 k ∧ 1 ≤ befC cs k ∧ befC cs k ≤ 1000 ∧ okCyc 1 cs = okCyc (befC cs k) (cs.drop k) ∧ Blk wr w.heap.size 24 #[.int .i64 e, .slice A n c] ∧ Below w.heap.size w wr) (fun i _ => n - (intOf i).toNat)
  case atStart => exact ⟨0, Nat.zero_le _, rfl, by simp [befC], by simp [befC], by simp [befC], Blk.new_at _ _ (by simp), fr_alloc (fr_refl _) _⟩
  case round =>
    obtain ⟨k, hk, rfl, hb1, hb2, hq, hB, hbel⟩ := hrel
    have hBc := fun j => hB.cell j
    have hBf := fun j => hB.frozen j
    by_cases hlt : k < n
    · obtain ⟨ad, rfl, hb, hc⟩ := (hr.keep hbel).at_ hlt
      have hlt' : (k : Int) < (n : Int) := by omega
      have H1 := Lib.hid (okCyc_bef cs k (by omega) hq)
      have H2 := Lib.hid (okCyc_bef_no cs k (by omega) hq)
      clear hq
      by_cases hk0 : k = 0
      · subst hk0
        have hbf : befC cs 0 = 1 := by simp [befC]
        rw [hbf] at H1 H2 hb1 hb2
        have hx1 : befC cs 1 = cs[0]?.getD 0 := by simp [befC]
        have HX := Lib.hid hx1
        clear hx1 hbf
        generalize hx : cs[0]?.getD 0 = x at *
        have hc0 : wr.cell? ad = some (.int .i64 x) := by
          have h := hc
          rw [show ad.add 0 = ad from rfl] at h
          exact h
        cases hi : inB x 2 1000
        · go_wp2_with fail
          go_quiet ((go_at_call 57; exact quiet_left (rin_is _ _ _ _ _ hi)))
          go_wp2
          go_ret
          refine ⟨ret_bool ?_, fr_drewN hbel _⟩
          unfold calOk
          rw [H2.out hi]
          simp
        · have hi2 := inB_iff.1 hi
          go_wp2_with fail
          go_quiet ((go_at_call 57; exact quiet_left (rin_is _ _ _ _ _ hi)))
          go_wp2
          go_roundw
          case rel => exact ⟨1, by omega, by go_num, by rw [HX.out]; omega, by rw [HX.out]; omega, H1.out hi, hB, fr_drewN hbel _⟩
          case measure => simp [intOf]; omega
      · obtain ⟨ad', had, hb', hc'⟩ := (hr.keep hbel).at_ (show k - 1 < n by omega)
        cases had
        have hbf : befC cs k = cs[k - 1]?.getD 0 := by simp [befC, hk0]
        have hx1 : befC cs (k + 1) = cs[k]?.getD 0 := by simp [befC]
        have HX := Lib.hid hx1
        rw [hbf] at H1 H2 hb1 hb2
        clear hx1 hbf
        generalize hx : cs[k]?.getD 0 = x at *
        generalize hy : cs[k - 1]?.getD 0 = z at *
        have hk1 : (0 : Int) < (k : Int) := by omega
        have hkN : 0 < k := by omega
        have hkd : decide (0 < k) = true := decide_eq_true hkN
        cases hi : inB x 2 1000
        · go_wp2_with fail
          go_quiet ((go_at_call 57; exact quiet_left (rin_is _ _ _ _ _ hi)))
          go_wp2
          go_ret
          refine ⟨ret_bool ?_, fr_drewN hbel _⟩
          unfold calOk
          rw [H2.out (by apply inB_no; intro h; rw [inB_yes (by omega)] at hi; cases hi)]
          simp
        · have hi2 := inB_iff.1 hi
          by_cases hle : x ≤ z
          · have HN := Lib.hid (H2.out (by apply inB_no; omega))
            have hkw : IntKind.i64.wrap ((k : Int) - 1) = (k : Int) - 1 := IntWalk.i64_in _ (by omega)
            have hkz : 0 ≤ (k : Int) - 1 := by omega
            have hkl : (k : Int) - 1 < (n : Int) := by omega
            have hkn : ((k : Int) - 1).toNat = k - 1 := by omega
            go_wp2_with fail
            go_quiet ((go_at_call 57; exact quiet_left (rin_is _ _ _ _ _ hi)))
            go_wp2
            go_ret
            refine ⟨ret_bool ?_, fr_drewN hbel _⟩
            unfold calOk
            rw [HN.out]
            simp
          · have HY := Lib.hid (H1.out (inB_yes (by omega)))
            have hk2 : k + 1 ≤ n := by omega
            have hd : decide (x ≤ z) = false := decide_eq_false hle
            have hkw : IntKind.i64.wrap ((k : Int) - 1) = (k : Int) - 1 := IntWalk.i64_in _ (by omega)
            have hkz : 0 ≤ (k : Int) - 1 := by omega
            have hkl : (k : Int) - 1 < (n : Int) := by omega
            have hkn : ((k : Int) - 1).toNat = k - 1 := by omega
            go_wp2_with fail
            go_quiet ((go_at_call 57; exact quiet_left (rin_is _ _ _ _ _ hi)))
            clear hkw hkz hkl hkn
            go_wp2
            go_roundw
            case rel => exact ⟨k + 1, hk2, by go_num, by rw [HX.out]; omega, by rw [HX.out]; omega, HY.out, hB, fr_drewN hbel _⟩
            case measure => simp [intOf]; omega
    · obtain rfl : k = n := by omega
      have hok : okCyc 1 cs = true := by rw [hq, List.drop_of_length_le (by omega)]; rfl
      have hc : calOk e cs = (inB e 0 1000 && inB (k : Int) 1 3) := by unfold calOk; rw [hok, hlen]; simp
      have HC := Lib.hid hc
      clear hc hok hq
      cases he : inB e 0 1000
      · go_wp2_with fail
        refine (rin_is _ _ _ _ _ he).mono ?_
        rintro e' w' ⟨rfl, rfl⟩
        go_wp2_with fail
        go_ret
        exact ⟨ret_bool (by rw [HC.out, he]; rfl), hbel⟩
      · go_wp2_with fail
        refine (rin_is _ _ _ _ _ he).mono ?_
        rintro e' w' ⟨rfl, rfl⟩
        go_wp2_with fail
        refine (rin_is _ _ _ _ _ rfl).mono ?_
        rintro e' w' ⟨rfl, rfl⟩
        go_wp2_with fail
        go_ret
        exact ⟨ret_bool (by rw [HC.out, he]; rfl), hbel⟩
end Go.Proofs.YtnppilaabobgiaaGreatDoor
end

section
namespace Go.Proofs.YtnppilaabobgiaaGreatDoor
open Go.RowKit Dl

set_option maxRecDepth 100000 in
set_option maxHeartbeats 2000000 in
theorem rRealm_is (A1 A2 : Option Addr) (n1 k1 n2 k2 : Nat) (c1 c2 : List Int) (e1 e2 last : Int) (w : World) (hr1 : Rd w A1 n1 c1) (hr2 : Rd w A2 n2 c2) (hn1 : n1 ≤ 9223372036854775807) (hn2 : n2 ≤ 9223372036854775807)
    (b : Bool) (hb : realmOk e1 c1 e2 c2 last = b) :
    Calls Tryz.prog 14 #[.agg #[.int .i64 e1, .slice A1 n1 k1, .int .i64 e2, .slice A2 n2 k2, .int .i64 last]] w fun e' w' => e' = .returned (.bool b) ∧ Below w.heap.size w w' := by
  subst hb
  have hr10 := hr1.alloc (.cells #[.int .i64 e1, .slice A1 n1 k1, .int .i64 e2, .slice A2 n2 k2, .int .i64 last] 26)
  have hr20 := hr2.alloc (.cells #[.int .i64 e1, .slice A1 n1 k1, .int .i64 e2, .slice A2 n2 k2, .int .i64 last] 26)
  have hfr := fr_alloc (fr_refl w) (.cells #[.int .i64 e1, .slice A1 n1 k1, .int .i64 e2, .slice A2 n2 k2, .int .i64 last] 26)
  unfold realmOk
  cases h1 : calOk e1 c1
  · simp only [Bool.false_and]
    go_enter Tryz.func14, Tryz.ntmps14
    go_wp2_with fail
    refine (rCalendar_is A1 n1 k1 c1 e1 _ hr10 hn1 _ h1).mono ?_
    rintro e' w1 ⟨rfl, hb1⟩
    go_wp2_with fail
    go_ret
    exact ⟨rfl, fr_call hfr hb1⟩
  · cases h2 : calOk e2 c2
    · simp only [Bool.and_false, Bool.false_and]
      go_enter Tryz.func14, Tryz.ntmps14
      go_wp2_with fail
      refine (rCalendar_is A1 n1 k1 c1 e1 _ hr10 hn1 _ h1).mono ?_
      rintro e' w1 ⟨rfl, hb1⟩
      obtain ⟨hc_w1, hf_w1⟩ := bcell hb1
      have hz0_w1 : w.heap.size < w1.heap.size := Nat.lt_of_lt_of_le (by first | omega | (simp; done) | (simp; omega)) hb1.size
      go_wp2_with fail
      refine (rCalendar_is A2 n2 k2 c2 e2 _ (hr20.keep hb1) hn2 _ h2).mono ?_
      rintro e' w2 ⟨rfl, hb2⟩
      go_wp2_with fail
      go_ret
      exact ⟨rfl, fr_call (fr_call hfr hb1) hb2⟩
    · simp only [Bool.and_self, Bool.true_and]
      go_enter Tryz.func14, Tryz.ntmps14
      go_wp2_with fail
      refine (rCalendar_is A1 n1 k1 c1 e1 _ hr10 hn1 _ h1).mono ?_
      rintro e' w1 ⟨rfl, hb1⟩
      obtain ⟨hc_w1, hf_w1⟩ := bcell hb1
      have hz0_w1 : w.heap.size < w1.heap.size := Nat.lt_of_lt_of_le (by first | omega | (simp; done) | (simp; omega)) hb1.size
      go_wp2_with fail
      refine (rCalendar_is A2 n2 k2 c2 e2 _ (hr20.keep hb1) hn2 _ h2).mono ?_
      rintro e' w2 ⟨rfl, hb2⟩
      obtain ⟨hc_w2, hf_w2⟩ := bcell hb2
      have hz0_w2 : w.heap.size < w2.heap.size := Nat.lt_of_lt_of_le (by first | omega | (simp; done) | (simp; omega)) hb2.size
      go_wp2_with fail
      refine (rNumber_is _ _ _ rfl).mono ?_
      rintro e' w3 ⟨rfl, rfl⟩
      go_wp2_with fail
      go_ret
      exact ⟨rfl, fr_call (fr_call hfr hb1) hb2⟩

set_option maxHeartbeats 1000000 in
theorem rDial_is (x : Int) (w : World) (b : Bool) (hb : inB x 1 3 = b) :
    Calls Tryz.prog 15 #[.int .i64 x] w fun e w' => e = .returned (.bool b) ∧ w = w' := by
  subst hb
  by_cases h : 1 ≤ x
  · go_enter Tryz.func15, Tryz.ntmps15
    go_wp2
    go_ret
    exact ⟨ret_bool (by simp [inB, h]), rfl⟩
  · go_enter Tryz.func15, Tryz.ntmps15
    go_wp2
    go_ret
    exact ⟨ret_bool (by simp only [inB]; rw [eq_comm, decide_eq_false_iff_not]; omega), rfl⟩

set_option maxHeartbeats 1000000 in
theorem rComes_is (x : Int) (w : World) (b : Bool) (hb : inB x (-1) 6 = b) :
    Calls Tryz.prog 16 #[.int .i64 x] w fun e w' => e = .returned (.bool b) ∧ w = w' := by
  go_enter Tryz.func16, Tryz.ntmps16
  go_wp2_with (go_at_call 57; refine (rin_is _ _ _ _ _ hb).mono ?_; rintro e w' ⟨rfl, rfl⟩)
  go_ret
  exact ⟨rfl, rfl⟩

set_option maxHeartbeats 1000000 in
theorem rSpan_is (a b : Int) (w : World) (v : Bool) (hv : spanB a b = v) : Calls Tryz.prog 17 #[.int .i64 a, .int .i64 b] w fun e' w' => e' = .returned (.bool v) ∧ w' = w := by
  subst hv
  unfold spanB
  cases ha : inB a 0 2000000
  · go_enter Tryz.func17, Tryz.ntmps17
    go_wp2_with fail
    refine (rNumber_is _ _ _ ha).mono ?_
    rintro e' w' ⟨rfl, rfl⟩
    go_wp2_with fail
    go_ret
    exact ⟨rfl, rfl⟩
  · cases hb : inB b 0 2000000
    · go_enter Tryz.func17, Tryz.ntmps17
      go_wp2_with fail
      refine (rNumber_is _ _ _ ha).mono ?_
      rintro e' w' ⟨rfl, rfl⟩
      go_wp2_with fail
      refine (rNumber_is _ _ _ hb).mono ?_
      rintro e' w' ⟨rfl, rfl⟩
      go_wp2_with fail
      go_ret
      exact ⟨rfl, rfl⟩
    · have h1 := inB_iff.1 ha
      have h2 := inB_iff.1 hb
      have hw : IntKind.i64.wrap (b - a) = b - a := IntWalk.i64_in _ (by omega)
      by_cases hab : a ≤ b
      · go_enter Tryz.func17, Tryz.ntmps17
        go_wp2_with fail
        refine (rNumber_is _ _ _ ha).mono ?_
        rintro e' w' ⟨rfl, rfl⟩
        go_wp2_with fail
        refine (rNumber_is _ _ _ hb).mono ?_
        rintro e' w' ⟨rfl, rfl⟩
        go_wp2_with fail
        go_ret
        refine ⟨ret_bool ?_, rfl⟩
        simp [inB]
        omega
      · have hno : inB (b - a) 0 1500 = false := inB_no (by omega)
        rw [hno]
        go_enter Tryz.func17, Tryz.ntmps17
        go_wp2_with fail
        refine (rNumber_is _ _ _ ha).mono ?_
        rintro e' w' ⟨rfl, rfl⟩
        go_wp2_with fail
        refine (rNumber_is _ _ _ hb).mono ?_
        rintro e' w' ⟨rfl, rfl⟩
        go_wp2_with fail
        go_ret
        exact ⟨rfl, rfl⟩

set_option maxHeartbeats 1000000 in
theorem rRange_is (a b : Int) (w : World) (v : Bool) (hv : rangeB a b = v) : Calls Tryz.prog 46 #[.int .i64 a, .int .i64 b] w fun e' w' => e' = .returned (.bool v) ∧ w' = w := by
  subst hv
  unfold rangeB
  cases ha : inB a 0 4000
  · go_enter Tryz.func46, Tryz.ntmps46
    go_wp2_with fail
    refine (rYear_is _ _ _ ha).mono ?_
    rintro e' w' ⟨rfl, rfl⟩
    go_wp2_with fail
    go_ret
    exact ⟨rfl, rfl⟩
  · cases hb : inB b 0 4000
    · go_enter Tryz.func46, Tryz.ntmps46
      go_wp2_with fail
      refine (rYear_is _ _ _ ha).mono ?_
      rintro e' w' ⟨rfl, rfl⟩
      go_wp2_with fail
      refine (rYear_is _ _ _ hb).mono ?_
      rintro e' w' ⟨rfl, rfl⟩
      go_wp2_with fail
      go_ret
      exact ⟨rfl, rfl⟩
    · have h1 := inB_iff.1 ha
      have h2 := inB_iff.1 hb
      have hw : IntKind.i64.wrap (b - a) = b - a := IntWalk.i64_in _ (by omega)
      by_cases hab : a ≤ b
      · go_enter Tryz.func46, Tryz.ntmps46
        go_wp2_with fail
        refine (rYear_is _ _ _ ha).mono ?_
        rintro e' w' ⟨rfl, rfl⟩
        go_wp2_with fail
        refine (rYear_is _ _ _ hb).mono ?_
        rintro e' w' ⟨rfl, rfl⟩
        go_wp2_with fail
        go_ret
        refine ⟨ret_bool ?_, rfl⟩
        simp [inB]
        omega
      · have hno : inB (b - a) 0 400 = false := inB_no (by omega)
        rw [hno]
        go_enter Tryz.func46, Tryz.ntmps46
        go_wp2_with fail
        refine (rYear_is _ _ _ ha).mono ?_
        rintro e' w' ⟨rfl, rfl⟩
        go_wp2_with fail
        refine (rYear_is _ _ _ hb).mono ?_
        rintro e' w' ⟨rfl, rfl⟩
        go_wp2_with fail
        go_ret
        exact ⟨rfl, rfl⟩

theorem same_take (xs ys : List Int) (h : xs.length = ys.length) : ∀ k, k ≤ xs.length → (∀ j, j < k → xs[j]?.getD 0 = ys[j]?.getD 0) → xs.take k = ys.take k := by
  intro k
  induction k with
  | zero => intro _ _; simp
  | succ k ih =>
    intro hk hj
    rw [take_snoc' xs k (by omega), take_snoc' ys k (by omega), ih (by omega) (fun j hj' => hj j (by omega)), hj k (by omega)]

set_option maxHeartbeats 1000000 in
theorem rSame_is (A1 A2 : Option Addr) (n1 k1 n2 k2 : Nat) (c1 c2 : List Int) (w : World) (hr1 : Rd w A1 n1 c1) (hr2 : Rd w A2 n2 c2) (hn1 : n1 ≤ 9223372036854775807) (hn2 : n2 ≤ 9223372036854775807)
    (b : Bool) (hb : decide (c1 = c2) = b) :
    Calls Tryz.prog 22 #[.slice A1 n1 k1, .slice A2 n2 k2] w fun e' w' => e' = .returned (.bool b) ∧ Below w.heap.size w w' := by
  subst hb
  have hl1 := hr1.len
  have hl2 := hr2.len
  by_cases hnn : n1 = n2
  · subst hnn
    go_enter Tryz.func22, Tryz.ntmps22
    go_wp2
    go_loopw [5] (fun i wr => ∃ k : Nat, k ≤ n1 ∧ i = .int .i64 k ∧ (∀ j, j < k → c1[j]?.getD 0 = c2[j]?.getD 0) ∧ Below w.heap.size w wr) (fun i _ => n1 - (intOf i).toNat)
    case atStart => exact ⟨0, Nat.zero_le _, rfl, fun j hj => absurd hj (by omega), fr_refl _⟩
    case round =>
      obtain ⟨k, hk, rfl, hj, hbel⟩ := hrel
      have HJ := Lib.hid hj
      clear hj
      by_cases hlt : k < n1
      · obtain ⟨ad1, rfl, hb1, hc1⟩ := (hr1.keep hbel).at_ hlt
        obtain ⟨ad2, rfl, hb2, hc2⟩ := (hr2.keep hbel).at_ hlt
        have hlt' : (k : Int) < (n1 : Int) := by omega
        have hlt2 : (k : Int) + 1 ≤ (n1 : Int) := by omega
        generalize hx : c1[k]?.getD 0 = x at *
        generalize hy : c2[k]?.getD 0 = y at *
        have HX := Lib.hid hx
        have HY := Lib.hid hy
        clear hx hy
        by_cases hxy : x = y
        · have hdx : decide (x = y) = true := decide_eq_true hxy
          go_wp2_with fail
          go_quiet (fail)
          go_wp2
          go_roundw
          case rel =>
            refine ⟨k + 1, by omega, by go_num, fun j hj => ?_, fr_drewN hbel _⟩
            by_cases h : j = k
            · subst h; rw [HX.out, HY.out, hxy]
            · exact HJ.out j (by omega)
          case measure => simp [intOf]; omega
        · have hdx : decide (x = y) = false := decide_eq_false hxy
          go_wp2_with fail
          go_quiet (fail)
          go_wp2
          go_ret
          refine ⟨ret_bool ?_, fr_drewN hbel _⟩
          rw [eq_comm, decide_eq_false_iff_not]
          intro h
          rw [h, HY.out] at HX
          exact hxy HX.out.symm
      · go_wp2
        go_ret
        refine ⟨ret_bool ?_, hbel⟩
        rw [eq_comm, decide_eq_true_iff]
        obtain rfl : k = n1 := by omega
        have := same_take c1 c2 (by omega) k (by omega) HJ.out
        rw [List.take_of_length_le (by omega), List.take_of_length_le (by omega)] at this
        exact this
  · have hne : (n1 : Int) ≠ (n2 : Int) := by omega
    have hde : decide (c1 = c2) = false := decide_eq_false (fun h => hnn (by rw [← hl1, ← hl2, h]))
    rw [hde]
    go_enter Tryz.func22, Tryz.ntmps22
    go_wp2
    go_ret
    exact ⟨rfl, fr_refl _⟩

set_option maxHeartbeats 1000000 in
theorem rSameCalendar_is (A1 A2 : Option Addr) (n1 k1 n2 k2 : Nat) (c1 c2 : List Int) (e1 e2 : Int) (w : World) (hr1 : Rd w A1 n1 c1) (hr2 : Rd w A2 n2 c2) (hn1 : n1 ≤ 9223372036854775807) (hn2 : n2 ≤ 9223372036854775807)
    (b : Bool) (hb : (decide (e1 = e2) && decide (c1 = c2)) = b) :
    Calls Tryz.prog 21 #[.agg #[.int .i64 e1, .slice A1 n1 k1], .agg #[.int .i64 e2, .slice A2 n2 k2]] w fun e' w' => e' = .returned (.bool b) ∧ Below w.heap.size w w' := by
  subst hb
  have hfr := fr_alloc (fr_alloc (fr_refl w) (.cells #[.int .i64 e1, .slice A1 n1 k1] 24)) (.cells #[.int .i64 e2, .slice A2 n2 k2] 24)
  by_cases he : e1 = e2
  · subst he
    have hde : decide (e1 = e1) = true := decide_eq_true rfl
    rw [hde, Bool.true_and]
    go_enter Tryz.func21, Tryz.ntmps21
    go_wp2_with fail
    refine (rSame_is A1 A2 n1 k1 n2 k2 c1 c2 _ (hr1.keep hfr) (hr2.keep hfr) hn1 hn2 _ rfl).mono ?_
    rintro e' w1 ⟨rfl, hb1⟩
    go_wp2_with fail
    go_ret
    exact ⟨rfl, fr_call hfr hb1⟩
  · have hde : decide (e1 = e2) = false := decide_eq_false he
    rw [hde, Bool.false_and]
    go_enter Tryz.func21, Tryz.ntmps21
    go_wp2_with fail
    go_ret
    exact ⟨rfl, hfr⟩
end Go.Proofs.YtnppilaabobgiaaGreatDoor
end

section
namespace Go.Proofs.YtnppilaabobgiaaGreatDoor
open Go.RowKit Dl

def wrB (y m d : Int) : Bool := inB y 0 4000 && inB m 1 12 && inB d 1 31

set_option maxHeartbeats 1000000 in
theorem rWritten_is (y m d : Int) (w : World) (b : Bool) (hb : wrB y m d = b) :
    Calls Tryz.prog 31 #[.agg #[.int .i64 y, .int .i64 m, .int .i64 d]] w fun e' w' => e' = .returned (.bool b) ∧ Below w.heap.size w w' := by
  subst hb
  unfold wrB
  cases h1 : inB y 0 4000
  · go_enter Tryz.func31, Tryz.ntmps31
    go_wp2_with fail
    refine (rYear_is _ _ _ h1).mono ?_
    rintro e' w' ⟨rfl, rfl⟩
    go_wp2_with fail
    go_ret
    exact ⟨rfl, fr_alloc (fr_refl _) _⟩
  · cases h2 : inB m 1 12
    · go_enter Tryz.func31, Tryz.ntmps31
      go_wp2_with fail
      refine (rYear_is _ _ _ h1).mono ?_
      rintro e' w' ⟨rfl, rfl⟩
      go_wp2_with fail
      refine (rin_is _ _ _ _ _ h2).mono ?_
      rintro e' w' ⟨rfl, rfl⟩
      go_wp2_with fail
      go_ret
      exact ⟨rfl, fr_alloc (fr_refl _) _⟩
    · go_enter Tryz.func31, Tryz.ntmps31
      go_wp2_with fail
      refine (rYear_is _ _ _ h1).mono ?_
      rintro e' w' ⟨rfl, rfl⟩
      go_wp2_with fail
      refine (rin_is _ _ _ _ _ h2).mono ?_
      rintro e' w' ⟨rfl, rfl⟩
      go_wp2_with fail
      refine (rin_is _ _ _ _ _ rfl).mono ?_
      rintro e' w' ⟨rfl, rfl⟩
      go_wp2_with fail
      go_ret
      exact ⟨rfl, fr_alloc (fr_refl _) _⟩

theorem realB_no {cs : List Int} {y m d : Int} (h : wrB y m d = false) : realB cs y m d = false := by
  cases hr : realB cs y m d
  · rfl
  · unfold realB at hr
    unfold wrB at h
    simp only [Bool.and_eq_true] at hr
    obtain ⟨⟨h1, h2⟩, h3⟩ := hr
    have h3' := inB_iff.1 h3
    have := mlen_pos (leapB cs y) m
    rw [h1, h2, inB_yes (by omega : 1 ≤ d ∧ d ≤ 31)] at h
    exact h
theorem realB_yes {cs : List Int} {y m d : Int} (h : wrB y m d = true) : (0 ≤ y ∧ y ≤ 4000) ∧ (1 ≤ m ∧ m ≤ 12) ∧ (1 ≤ d ∧ d ≤ 31) ∧ realB cs y m d = decide (d ≤ mlen (leapB cs y) m) := by
  unfold wrB at h
  simp only [Bool.and_eq_true] at h
  obtain ⟨⟨h1, h2⟩, h3⟩ := h
  refine ⟨inB_iff.1 h1, inB_iff.1 h2, inB_iff.1 h3, ?_⟩
  have h3' := inB_iff.1 h3
  unfold realB
  rw [h1, h2]
  simp [inB, h3'.1]

set_option maxRecDepth 100000 in
set_option maxHeartbeats 2000000 in
theorem rReal_is (A : Option Addr) (n c : Nat) (cs : List Int) (e y m d : Int) (w : World) (hr : Rd w A n cs) (hok : calOk e cs = true) (b : Bool) (hb : realB cs y m d = b) :
    Calls Tryz.prog 26 #[.agg #[.int .i64 e, .slice A n c], .agg #[.int .i64 y, .int .i64 m, .int .i64 d]] w fun e' w' => e' = .returned (.bool b) ∧ Below w.heap.size w w' := by
  subst hb
  obtain ⟨⟨he1, he2⟩, ⟨hn1, hn2⟩, hpos⟩ := calOk_parts hok
  rw [hr.len] at hn1 hn2
  have hr0 := (hr.alloc (.cells #[.int .i64 e, .slice A n c] 24)).alloc (.cells #[.int .i64 y, .int .i64 m, .int .i64 d] 41)
  cases hw : wrB y m d
  · rw [realB_no hw]
    go_enter Tryz.func26, Tryz.ntmps26
    go_wp2_with fail
    refine wp_region_noPanic ?_
    refine wp_region_held_drew (S := fun W => (∀ p : Addr, p.block < ((w.alloc (.cells #[.int .i64 e, .slice A n c] 24)).alloc (.cells #[.int .i64 y, .int .i64 m, .int .i64 d] 41)).heap.size → W.cell? p = ((w.alloc (.cells #[.int .i64 e, .slice A n c] 24)).alloc (.cells #[.int .i64 y, .int .i64 m, .int .i64 d] 41)).cell? p) ∧ Below ((w.alloc (.cells #[.int .i64 e, .slice A n c] 24)).alloc (.cells #[.int .i64 y, .int .i64 m, .int .i64 d] 41)).heap.size ((w.alloc (.cells #[.int .i64 e, .slice A n c] 24)).alloc (.cells #[.int .i64 y, .int .i64 m, .int .i64 d] 41)) W) (by kernel_rfl) ⟨fun _ _ => rfl, fr_drew (fr_refl _)⟩ (fun hHeld => ?_)
    -- the region, step by step
    refine wpAnyH_take (i := 0) (oi := ⟨some 5, .load 41 (.tmp 3), 41, "ref.go:75", #[], none⟩) (v := ?_) rfl (by kernel_rfl) (by kernel_rfl) (by kernel_rfl) (fun _ _ _ h => h) (Or.inl ⟨by rfl, fun W hSw => ?_⟩) hHeld ?_
    rotate_left
    · (try dsimp only at hSw); go_simp; (try with_reducible rfl)
    (try simp only [Act.put, List.setIfInBounds_toArray, List.set_cons_zero, List.set_cons_succ])
    refine wpAnyH_ready (rs := [1]) (by kernel_rfl) (by simp) ?_
    refine AllReadyH.cons (o := ⟨some 6, .call { callee := .value (.func 31), args := #[.tmp 5], argTypes := #[41] }, 4, "ref.go:75", #[⟨0, .data⟩], none⟩) rfl (fun K hK => ?_) AllReadyH.nil
    go_simp
    refine (rWritten_is _ _ _ _ _ hw).mono ?_
    rintro e' w1 ⟨rfl, hb⟩
    refine hK.out _ _ (kp_step hb hHeld) (fun hHeld => ?_)
    clear hK K
    (try simp only [Act.put, List.setIfInBounds_toArray, List.set_cons_zero, List.set_cons_succ])
    refine wpAnyH_take (i := 2) (oi := ⟨some 7, .move (.tmp 6), 4, "ref.go:75", #[⟨1, .data⟩, ⟨1, .chain⟩], none⟩) (v := ?_) rfl (by kernel_rfl) (by kernel_rfl) (by kernel_rfl) (fun _ _ _ h => h) (Or.inl ⟨by rfl, fun W hSw => ?_⟩) hHeld ?_
    rotate_left
    · (try dsimp only at hSw); go_simp; (try with_reducible rfl)
    (try simp only [Act.put, List.setIfInBounds_toArray, List.set_cons_zero, List.set_cons_succ])
    refine wpAnyH_take (i := 3) (oi := ⟨some 8, .fieldAddr 41 (.tmp 3) 2, 0, "ref.go:75", #[⟨2, .guard⟩], some (2, true)⟩) (v := undef) rfl (by kernel_rfl) (by kernel_rfl) (by kernel_rfl) (fun _ _ _ h => h) (Or.inr ⟨by rfl, rfl⟩) hHeld ?_
    (try simp only [Act.put, List.setIfInBounds_toArray, List.set_cons_zero, List.set_cons_succ])
    refine wpAnyH_take (i := 4) (oi := ⟨some 9, .load 3 (.tmp 8), 3, "ref.go:75", #[⟨3, .data⟩, ⟨2, .guard⟩], some (2, true)⟩) (v := undef) rfl (by kernel_rfl) (by kernel_rfl) (by kernel_rfl) (fun _ _ _ h => h) (Or.inr ⟨by rfl, rfl⟩) hHeld ?_
    (try simp only [Act.put, List.setIfInBounds_toArray, List.set_cons_zero, List.set_cons_succ])
    refine wpAnyH_take (i := 5) (oi := ⟨some 10, .fieldAddr 41 (.tmp 3) 1, 0, "ref.go:75", #[⟨2, .guard⟩], some (2, true)⟩) (v := undef) rfl (by kernel_rfl) (by kernel_rfl) (by kernel_rfl) (fun _ _ _ h => h) (Or.inr ⟨by rfl, rfl⟩) hHeld ?_
    (try simp only [Act.put, List.setIfInBounds_toArray, List.set_cons_zero, List.set_cons_succ])
    refine wpAnyH_take (i := 6) (oi := ⟨some 11, .load 3 (.tmp 10), 3, "ref.go:75", #[⟨5, .data⟩, ⟨2, .guard⟩], some (2, true)⟩) (v := undef) rfl (by kernel_rfl) (by kernel_rfl) (by kernel_rfl) (fun _ _ _ h => h) (Or.inr ⟨by rfl, rfl⟩) hHeld ?_
    (try simp only [Act.put, List.setIfInBounds_toArray, List.set_cons_zero, List.set_cons_succ])
    refine wpAnyH_take (i := 7) (oi := ⟨some 12, .load 24 (.tmp 2), 24, "ref.go:75", #[⟨2, .guard⟩], some (2, true)⟩) (v := undef) rfl (by kernel_rfl) (by kernel_rfl) (by kernel_rfl) (fun _ _ _ h => h) (Or.inr ⟨by rfl, rfl⟩) hHeld ?_
    (try simp only [Act.put, List.setIfInBounds_toArray, List.set_cons_zero, List.set_cons_succ])
    refine wpAnyH_take (i := 8) (oi := ⟨some 13, .fieldAddr 41 (.tmp 3) 0, 0, "ref.go:75", #[⟨2, .guard⟩], some (2, true)⟩) (v := undef) rfl (by kernel_rfl) (by kernel_rfl) (by kernel_rfl) (fun _ _ _ h => h) (Or.inr ⟨by rfl, rfl⟩) hHeld ?_
    (try simp only [Act.put, List.setIfInBounds_toArray, List.set_cons_zero, List.set_cons_succ])
    refine wpAnyH_take (i := 9) (oi := ⟨some 14, .load 3 (.tmp 13), 3, "ref.go:75", #[⟨8, .data⟩, ⟨2, .guard⟩], some (2, true)⟩) (v := undef) rfl (by kernel_rfl) (by kernel_rfl) (by kernel_rfl) (fun _ _ _ h => h) (Or.inr ⟨by rfl, rfl⟩) hHeld ?_
    (try simp only [Act.put, List.setIfInBounds_toArray, List.set_cons_zero, List.set_cons_succ])
    refine wpAnyH_take (i := 10) (oi := ⟨some 15, .call { callee := .value (.func 80), args := #[.tmp 12, .tmp 14], argTypes := #[24, 3] }, 4, "ref.go:75", #[⟨7, .data⟩, ⟨9, .data⟩, ⟨2, .chain⟩, ⟨2, .guard⟩], some (2, true)⟩) (v := undef) rfl (by kernel_rfl) (by kernel_rfl) (by kernel_rfl) (fun _ _ _ h => h) (Or.inr ⟨by rfl, rfl⟩) hHeld ?_
    (try simp only [Act.put, List.setIfInBounds_toArray, List.set_cons_zero, List.set_cons_succ])
    refine wpAnyH_take (i := 11) (oi := ⟨some 16, .call { callee := .value (.func 79), args := #[.tmp 11, .tmp 15], argTypes := #[3, 4] }, 3, "ref.go:75", #[⟨6, .data⟩, ⟨10, .data⟩, ⟨10, .chain⟩, ⟨2, .guard⟩], some (2, true)⟩) (v := undef) rfl (by kernel_rfl) (by kernel_rfl) (by kernel_rfl) (fun _ _ _ h => h) (Or.inr ⟨by rfl, rfl⟩) hHeld ?_
    (try simp only [Act.put, List.setIfInBounds_toArray, List.set_cons_zero, List.set_cons_succ])
    refine wpAnyH_take (i := 12) (oi := ⟨some 17, .binOp .leq 3 (.tmp 9) (.tmp 16) 3, 4, "ref.go:75", #[⟨4, .data⟩, ⟨11, .data⟩, ⟨2, .guard⟩], some (2, true)⟩) (v := undef) rfl (by kernel_rfl) (by kernel_rfl) (by kernel_rfl) (fun _ _ _ h => h) (Or.inr ⟨by rfl, rfl⟩) hHeld ?_
    (try simp only [Act.put, List.setIfInBounds_toArray, List.set_cons_zero, List.set_cons_succ])
    refine wpAnyH_take (i := 13) (oi := ⟨some 18, .pick (.tmp 7) (.tmp 17) (.const (.bool false)), 4, "ref.go:75", #[⟨2, .data⟩, ⟨12, .data⟩], none⟩) (v := ?_) rfl (by kernel_rfl) (by kernel_rfl) (by kernel_rfl) (fun _ _ _ h => h) (Or.inl ⟨by rfl, fun W hSw => ?_⟩) hHeld ?_
    rotate_left
    · (try dsimp only at hSw); go_simp; (try with_reducible rfl)
    (try simp only [Act.put, List.setIfInBounds_toArray, List.set_cons_zero, List.set_cons_succ])
    refine wpAnyH_take (i := 14) (oi := ⟨some 4, .assign (.tmp 18), 4, "ref.go:75", #[⟨13, .data⟩, ⟨11, .chain⟩, ⟨0, .phase⟩, ⟨1, .phase⟩, ⟨2, .phase⟩, ⟨3, .phase⟩, ⟨4, .phase⟩, ⟨5, .phase⟩, ⟨6, .phase⟩, ⟨7, .phase⟩, ⟨8, .phase⟩, ⟨9, .phase⟩, ⟨10, .phase⟩, ⟨11, .phase⟩, ⟨12, .phase⟩, ⟨13, .phase⟩], none⟩) (v := ?_) rfl (by kernel_rfl) (by kernel_rfl) (by kernel_rfl) (fun _ _ _ h => h) (Or.inl ⟨by rfl, fun W hSw => ?_⟩) hHeld ?_
    rotate_left
    · (try dsimp only at hSw); go_simp; (try with_reducible rfl)
    (try simp only [Act.put, List.setIfInBounds_toArray, List.set_cons_zero, List.set_cons_succ])
    refine wpAnyH_done (by kernel_rfl) ?_ _
    refine NoPanic.normal ?_
    go_wp2
    go_ret
    exact ⟨rfl, fr_call (fr_alloc (fr_alloc (fr_refl _) _) _) hHeld.2⟩
  · obtain ⟨⟨hy1, hy2⟩, ⟨hm1, hm2⟩, ⟨hd1, hd2⟩, hre⟩ := realB_yes (cs := cs) hw
    have HR := Lib.hid hre
    clear hre
    go_enter Tryz.func26, Tryz.ntmps26
    go_wp2_with fail
    refine wp_region_noPanic ?_
    refine wp_region_held_drew (S := fun W => (∀ p : Addr, p.block < ((w.alloc (.cells #[.int .i64 e, .slice A n c] 24)).alloc (.cells #[.int .i64 y, .int .i64 m, .int .i64 d] 41)).heap.size → W.cell? p = ((w.alloc (.cells #[.int .i64 e, .slice A n c] 24)).alloc (.cells #[.int .i64 y, .int .i64 m, .int .i64 d] 41)).cell? p) ∧ Below ((w.alloc (.cells #[.int .i64 e, .slice A n c] 24)).alloc (.cells #[.int .i64 y, .int .i64 m, .int .i64 d] 41)).heap.size ((w.alloc (.cells #[.int .i64 e, .slice A n c] 24)).alloc (.cells #[.int .i64 y, .int .i64 m, .int .i64 d] 41)) W) (by kernel_rfl) ⟨fun _ _ => rfl, fr_drew (fr_refl _)⟩ (fun hHeld => ?_)
    -- the region, step by step
    refine wpAnyH_take (i := 0) (oi := ⟨some 5, .load 41 (.tmp 3), 41, "ref.go:75", #[], none⟩) (v := ?_) rfl (by kernel_rfl) (by kernel_rfl) (by kernel_rfl) (fun _ _ _ h => h) (Or.inl ⟨by rfl, fun W hSw => ?_⟩) hHeld ?_
    rotate_left
    · (try dsimp only at hSw); go_simp; (try with_reducible rfl)
    (try simp only [Act.put, List.setIfInBounds_toArray, List.set_cons_zero, List.set_cons_succ])
    refine wpAnyH_ready (rs := [1]) (by kernel_rfl) (by simp) ?_
    refine AllReadyH.cons (o := ⟨some 6, .call { callee := .value (.func 31), args := #[.tmp 5], argTypes := #[41] }, 4, "ref.go:75", #[⟨0, .data⟩], none⟩) rfl (fun K hK => ?_) AllReadyH.nil
    go_simp
    refine (rWritten_is _ _ _ _ _ hw).mono ?_
    rintro e' w1 ⟨rfl, hb⟩
    refine hK.out _ _ (kp_step hb hHeld) (fun hHeld => ?_)
    clear hK K
    (try simp only [Act.put, List.setIfInBounds_toArray, List.set_cons_zero, List.set_cons_succ])
    refine wpAnyH_take (i := 2) (oi := ⟨some 7, .move (.tmp 6), 4, "ref.go:75", #[⟨1, .data⟩, ⟨1, .chain⟩], none⟩) (v := ?_) rfl (by kernel_rfl) (by kernel_rfl) (by kernel_rfl) (fun _ _ _ h => h) (Or.inl ⟨by rfl, fun W hSw => ?_⟩) hHeld ?_
    rotate_left
    · (try dsimp only at hSw); go_simp; (try with_reducible rfl)
    (try simp only [Act.put, List.setIfInBounds_toArray, List.set_cons_zero, List.set_cons_succ])
    refine wpAnyH_take (i := 3) (oi := ⟨some 8, .fieldAddr 41 (.tmp 3) 2, 0, "ref.go:75", #[⟨2, .guard⟩], some (2, true)⟩) (v := ?_) rfl (by kernel_rfl) (by kernel_rfl) (by kernel_rfl) (fun _ _ _ h => h) (Or.inl ⟨by rfl, fun W hSw => ?_⟩) hHeld ?_
    rotate_left
    · (try dsimp only at hSw); go_simp; (try with_reducible rfl)
    (try simp only [Act.put, List.setIfInBounds_toArray, List.set_cons_zero, List.set_cons_succ])
    refine wpAnyH_take (i := 4) (oi := ⟨some 9, .load 3 (.tmp 8), 3, "ref.go:75", #[⟨3, .data⟩, ⟨2, .guard⟩], some (2, true)⟩) (v := ?_) rfl (by kernel_rfl) (by kernel_rfl) (by kernel_rfl) (fun _ _ _ h => h) (Or.inl ⟨by rfl, fun W hSw => ?_⟩) hHeld ?_
    rotate_left
    · (try dsimp only at hSw); go_simp; (try with_reducible rfl)
    (try simp only [Act.put, List.setIfInBounds_toArray, List.set_cons_zero, List.set_cons_succ])
    refine wpAnyH_take (i := 5) (oi := ⟨some 10, .fieldAddr 41 (.tmp 3) 1, 0, "ref.go:75", #[⟨2, .guard⟩], some (2, true)⟩) (v := ?_) rfl (by kernel_rfl) (by kernel_rfl) (by kernel_rfl) (fun _ _ _ h => h) (Or.inl ⟨by rfl, fun W hSw => ?_⟩) hHeld ?_
    rotate_left
    · (try dsimp only at hSw); go_simp; (try with_reducible rfl)
    (try simp only [Act.put, List.setIfInBounds_toArray, List.set_cons_zero, List.set_cons_succ])
    refine wpAnyH_take (i := 6) (oi := ⟨some 11, .load 3 (.tmp 10), 3, "ref.go:75", #[⟨5, .data⟩, ⟨2, .guard⟩], some (2, true)⟩) (v := ?_) rfl (by kernel_rfl) (by kernel_rfl) (by kernel_rfl) (fun _ _ _ h => h) (Or.inl ⟨by rfl, fun W hSw => ?_⟩) hHeld ?_
    rotate_left
    · (try dsimp only at hSw); go_simp; (try with_reducible rfl)
    (try simp only [Act.put, List.setIfInBounds_toArray, List.set_cons_zero, List.set_cons_succ])
    refine wpAnyH_take (i := 7) (oi := ⟨some 12, .load 24 (.tmp 2), 24, "ref.go:75", #[⟨2, .guard⟩], some (2, true)⟩) (v := ?_) rfl (by kernel_rfl) (by kernel_rfl) (by kernel_rfl) (fun _ _ _ h => h) (Or.inl ⟨by rfl, fun W hSw => ?_⟩) hHeld ?_
    rotate_left
    · (try dsimp only at hSw); go_simp; (try with_reducible rfl)
    (try simp only [Act.put, List.setIfInBounds_toArray, List.set_cons_zero, List.set_cons_succ])
    refine wpAnyH_take (i := 8) (oi := ⟨some 13, .fieldAddr 41 (.tmp 3) 0, 0, "ref.go:75", #[⟨2, .guard⟩], some (2, true)⟩) (v := ?_) rfl (by kernel_rfl) (by kernel_rfl) (by kernel_rfl) (fun _ _ _ h => h) (Or.inl ⟨by rfl, fun W hSw => ?_⟩) hHeld ?_
    rotate_left
    · (try dsimp only at hSw); go_simp; (try with_reducible rfl)
    (try simp only [Act.put, List.setIfInBounds_toArray, List.set_cons_zero, List.set_cons_succ])
    refine wpAnyH_take (i := 9) (oi := ⟨some 14, .load 3 (.tmp 13), 3, "ref.go:75", #[⟨8, .data⟩, ⟨2, .guard⟩], some (2, true)⟩) (v := ?_) rfl (by kernel_rfl) (by kernel_rfl) (by kernel_rfl) (fun _ _ _ h => h) (Or.inl ⟨by rfl, fun W hSw => ?_⟩) hHeld ?_
    rotate_left
    · (try dsimp only at hSw); go_simp; (try with_reducible rfl)
    (try simp only [Act.put, List.setIfInBounds_toArray, List.set_cons_zero, List.set_cons_succ])
    refine wpAnyH_ready (rs := [10]) (by kernel_rfl) (by simp) ?_
    refine AllReadyH.cons (o := ⟨some 15, .call { callee := .value (.func 80), args := #[.tmp 12, .tmp 14], argTypes := #[24, 3] }, 4, "ref.go:75", #[⟨7, .data⟩, ⟨9, .data⟩, ⟨2, .chain⟩, ⟨2, .guard⟩], some (2, true)⟩) rfl (fun K hK => ?_) AllReadyH.nil
    go_simp
    refine (rLeap_any A n c cs e y _ (hr0.keep hHeld.2) hn2 hpos hy1 (by omega)).mono ?_
    rintro e' w1 ⟨rfl, hb⟩
    refine hK.out _ _ (kp_step hb hHeld) (fun hHeld => ?_)
    clear hK K
    (try simp only [Act.put, List.setIfInBounds_toArray, List.set_cons_zero, List.set_cons_succ])
    refine wpAnyH_ready (rs := [11]) (by kernel_rfl) (by simp) ?_
    refine AllReadyH.cons (o := ⟨some 16, .call { callee := .value (.func 79), args := #[.tmp 11, .tmp 15], argTypes := #[3, 4] }, 3, "ref.go:75", #[⟨6, .data⟩, ⟨10, .data⟩, ⟨10, .chain⟩, ⟨2, .guard⟩], some (2, true)⟩) rfl (fun K hK => ?_) AllReadyH.nil
    go_simp
    refine (rLength_any m (leapB cs y) _ hm1 hm2).mono ?_
    rintro e' w1 ⟨rfl, hb⟩
    refine hK.out _ _ (kp_step hb hHeld) (fun hHeld => ?_)
    clear hK K
    (try simp only [Act.put, List.setIfInBounds_toArray, List.set_cons_zero, List.set_cons_succ])
    refine wpAnyH_take (i := 12) (oi := ⟨some 17, .binOp .leq 3 (.tmp 9) (.tmp 16) 3, 4, "ref.go:75", #[⟨4, .data⟩, ⟨11, .data⟩, ⟨2, .guard⟩], some (2, true)⟩) (v := ?_) rfl (by kernel_rfl) (by kernel_rfl) (by kernel_rfl) (fun _ _ _ h => h) (Or.inl ⟨by rfl, fun W hSw => ?_⟩) hHeld ?_
    rotate_left
    · (try dsimp only at hSw); go_simp; (try with_reducible rfl)
    (try simp only [Act.put, List.setIfInBounds_toArray, List.set_cons_zero, List.set_cons_succ])
    refine wpAnyH_take (i := 13) (oi := ⟨some 18, .pick (.tmp 7) (.tmp 17) (.const (.bool false)), 4, "ref.go:75", #[⟨2, .data⟩, ⟨12, .data⟩], none⟩) (v := ?_) rfl (by kernel_rfl) (by kernel_rfl) (by kernel_rfl) (fun _ _ _ h => h) (Or.inl ⟨by rfl, fun W hSw => ?_⟩) hHeld ?_
    rotate_left
    · (try dsimp only at hSw); go_simp; (try with_reducible rfl)
    (try simp only [Act.put, List.setIfInBounds_toArray, List.set_cons_zero, List.set_cons_succ])
    refine wpAnyH_take (i := 14) (oi := ⟨some 4, .assign (.tmp 18), 4, "ref.go:75", #[⟨13, .data⟩, ⟨11, .chain⟩, ⟨0, .phase⟩, ⟨1, .phase⟩, ⟨2, .phase⟩, ⟨3, .phase⟩, ⟨4, .phase⟩, ⟨5, .phase⟩, ⟨6, .phase⟩, ⟨7, .phase⟩, ⟨8, .phase⟩, ⟨9, .phase⟩, ⟨10, .phase⟩, ⟨11, .phase⟩, ⟨12, .phase⟩, ⟨13, .phase⟩], none⟩) (v := ?_) rfl (by kernel_rfl) (by kernel_rfl) (by kernel_rfl) (fun _ _ _ h => h) (Or.inl ⟨by rfl, fun W hSw => ?_⟩) hHeld ?_
    rotate_left
    · (try dsimp only at hSw); go_simp; (try with_reducible rfl)
    (try simp only [Act.put, List.setIfInBounds_toArray, List.set_cons_zero, List.set_cons_succ])
    refine wpAnyH_done (by kernel_rfl) ?_ _
    refine NoPanic.normal ?_
    go_wp2
    go_ret
    exact ⟨ret_bool HR.out.symm, fr_call (fr_alloc (fr_alloc (fr_refl _) _) _) hHeld.2⟩

set_option maxRecDepth 100000 in
set_option maxHeartbeats 2000000 in
theorem rInto_any (A : Option Addr) (n c : Nat) (cs : List Int) (e y m d : Int) (w : World) (hr : Rd w A n cs) (hn : n ≤ 3) (hpos : Cyc cs) (hy1 : 0 ≤ y) (hy2 : y ≤ 4000) (hm1 : 1 ≤ m) (hm2 : m ≤ 12) (hd1 : 1 ≤ d) (hd2 : d ≤ 31) :
    Calls Tryz.prog 91 #[.agg #[.int .i64 e, .slice A n c], .agg #[.int .i64 y, .int .i64 m, .int .i64 d]] w fun e' w' => e' = .returned (.int .i64 (cum (leapB cs y) m + d - 1)) ∧ Below w.heap.size w w' := by
  have hr0 := (hr.alloc (.cells #[.int .i64 e, .slice A n c] 24)).alloc (.cells #[.int .i64 y, .int .i64 m, .int .i64 d] 41)
  go_enter Tryz.func91, Tryz.ntmps91
  go_wp2
  go_loopw [5, 6] (fun b i wr => ∃ k : Int, 1 ≤ k ∧ k ≤ m ∧ i = .int .i64 k ∧ b = .int .i64 (d - 1 + cum (leapB cs y) k) ∧ Blk wr w.heap.size 24 #[.int .i64 e, .slice A n c] ∧ Blk wr (w.heap.size + 1) 41 #[.int .i64 y, .int .i64 m, .int .i64 d] ∧ Below w.heap.size w wr) (fun _ i _ => m.toNat - (intOf i).toNat)
  case atStart => exact ⟨1, by omega, hm1, rfl, by simp [cum], (Blk.new_at _ _ (by simp)).alloc _, Blk.new_at _ _ (by simp), fr_alloc (fr_alloc (fr_refl _) _) _⟩
  case round =>
    obtain ⟨k, hk1, hk2, rfl, rfl, hB1, hB2, hbel⟩ := hrel
    have hcb := cum_bounds (leapB cs y) k hk1 (by omega)
    have hB1c := fun j => hB1.cell j
    have hB1f := fun j => hB1.frozen j
    have hB2c := fun j => hB2.cell j
    have hB2f := fun j => hB2.frozen j
    by_cases hlt : k < m
    · have HC := Lib.hid (cum_succ (leapB cs y) k hk1 (by omega))
      have hml := mlen_pos (leapB cs y) k
      generalize hcu : cum (leapB cs y) k = cu at *
      clear hcu
      go_wp2_with fail
      refine (rLeap_any A n c cs e y _ (hr.keep hbel) hn hpos hy1 (by omega)).mono ?_
      rintro e' w1 ⟨rfl, hb1⟩
      go_wp2_with fail
      refine (rLength_any k (leapB cs y) _ hk1 (by omega)).mono ?_
      rintro e' w2 ⟨rfl, hb2⟩
      go_wp2_with fail
      go_roundw
      case rel => exact ⟨k + 1, by omega, by omega, by go_num, by rw [HC.out]; go_num, (hB1.keep hb1).keep hb2, (hB2.keep hb1).keep hb2, fr_call (fr_call hbel hb1) hb2⟩
      case measure => simp [intOf]; omega
    · go_wp2
      go_ret
      obtain rfl : k = m := by omega
      exact ⟨ret_int (by omega), hbel⟩

set_option maxRecDepth 100000 in
set_option maxHeartbeats 2000000 in
theorem rDay_any (A : Option Addr) (n c : Nat) (cs : List Int) (e y m d : Int) (w : World) (hr : Rd w A n cs) (hok : calOk e cs = true) (hy1 : 0 ≤ y) (hy2 : y ≤ 4000) (hm1 : 1 ≤ m) (hm2 : m ≤ 12) (hd1 : 1 ≤ d) (hd2 : d ≤ 31) :
    Calls Tryz.prog 37 #[.agg #[.int .i64 e, .slice A n c], .agg #[.int .i64 y, .int .i64 m, .int .i64 d]] w fun e' w' => e' = .returned (.int .i64 (dayOf e cs ⟨y, m, d⟩)) ∧ Below w.heap.size w w' := by
  obtain ⟨⟨he1, he2⟩, ⟨hn1, hn2⟩, hpos⟩ := calOk_parts hok
  rw [hr.len] at hn1 hn2
  have hr0 := (hr.alloc (.cells #[.int .i64 e, .slice A n c] 24)).alloc (.cells #[.int .i64 y, .int .i64 m, .int .i64 d] 41)
  have hfb := firstDay_bounds e cs y hy1
  have hcb := cum_bounds (leapB cs y) m hm1 hm2
  have hdo : dayOf e cs ⟨y, m, d⟩ = firstDay e cs y + (cum (leapB cs y) m + d - 1) := by unfold dayOf; simp only; omega
  rw [hdo]
  clear hdo
  have hwm : IntKind.i64.wrap (firstDay e cs y + (cum (leapB cs y) m + d - 1)) = firstDay e cs y + (cum (leapB cs y) m + d - 1) := IntWalk.i64_in _ (by omega)
  go_enter Tryz.func37, Tryz.ntmps37
  go_wp2_with fail
  refine wp_region_noPanic ?_
  refine wp_region_held_drew (S := fun W => (∀ p : Addr, p.block < ((w.alloc (.cells #[.int .i64 e, .slice A n c] 24)).alloc (.cells #[.int .i64 y, .int .i64 m, .int .i64 d] 41)).heap.size → W.cell? p = ((w.alloc (.cells #[.int .i64 e, .slice A n c] 24)).alloc (.cells #[.int .i64 y, .int .i64 m, .int .i64 d] 41)).cell? p) ∧ Below ((w.alloc (.cells #[.int .i64 e, .slice A n c] 24)).alloc (.cells #[.int .i64 y, .int .i64 m, .int .i64 d] 41)).heap.size ((w.alloc (.cells #[.int .i64 e, .slice A n c] 24)).alloc (.cells #[.int .i64 y, .int .i64 m, .int .i64 d] 41)) W) (by kernel_rfl) ⟨fun _ _ => rfl, fr_drew (fr_refl _)⟩ (fun hHeld => ?_)
  -- the region, step by step
  refine wpAnyH_take (i := 0) (oi := ⟨some 5, .load 24 (.tmp 2), 24, "ref.go:99", #[], none⟩) (v := ?_) rfl (by kernel_rfl) (by kernel_rfl) (by kernel_rfl) (fun _ _ _ h => h) (Or.inl ⟨by rfl, fun W hSw => ?_⟩) hHeld ?_
  rotate_left
  · (try dsimp only at hSw); go_simp; (try with_reducible rfl)
  (try simp only [Act.put, List.setIfInBounds_toArray, List.set_cons_zero, List.set_cons_succ])
  refine wpAnyH_take (i := 1) (oi := ⟨some 6, .fieldAddr 41 (.tmp 3) 0, 0, "ref.go:99", #[], none⟩) (v := ?_) rfl (by kernel_rfl) (by kernel_rfl) (by kernel_rfl) (fun _ _ _ h => h) (Or.inl ⟨by rfl, fun W hSw => ?_⟩) hHeld ?_
  rotate_left
  · (try dsimp only at hSw); go_simp; (try with_reducible rfl)
  (try simp only [Act.put, List.setIfInBounds_toArray, List.set_cons_zero, List.set_cons_succ])
  refine wpAnyH_take (i := 2) (oi := ⟨some 7, .load 3 (.tmp 6), 3, "ref.go:99", #[⟨1, .data⟩], none⟩) (v := ?_) rfl (by kernel_rfl) (by kernel_rfl) (by kernel_rfl) (fun _ _ _ h => h) (Or.inl ⟨by rfl, fun W hSw => ?_⟩) hHeld ?_
  rotate_left
  · (try dsimp only at hSw); go_simp; (try with_reducible rfl)
  (try simp only [Act.put, List.setIfInBounds_toArray, List.set_cons_zero, List.set_cons_succ])
  refine wpAnyH_take (i := 4) (oi := ⟨some 9, .load 24 (.tmp 2), 24, "ref.go:99", #[], none⟩) (v := ?_) rfl (by kernel_rfl) (by kernel_rfl) (by kernel_rfl) (fun _ _ _ h => h) (Or.inl ⟨by rfl, fun W hSw => ?_⟩) hHeld ?_
  rotate_left
  · (try dsimp only at hSw); go_simp; (try with_reducible rfl)
  (try simp only [Act.put, List.setIfInBounds_toArray, List.set_cons_zero, List.set_cons_succ])
  refine wpAnyH_take (i := 5) (oi := ⟨some 10, .load 41 (.tmp 3), 41, "ref.go:99", #[], none⟩) (v := ?_) rfl (by kernel_rfl) (by kernel_rfl) (by kernel_rfl) (fun _ _ _ h => h) (Or.inl ⟨by rfl, fun W hSw => ?_⟩) hHeld ?_
  rotate_left
  · (try dsimp only at hSw); go_simp; (try with_reducible rfl)
  (try simp only [Act.put, List.setIfInBounds_toArray, List.set_cons_zero, List.set_cons_succ])
  refine wpAnyH_ready (rs := [3]) (by kernel_rfl) (by simp) ?_
  refine AllReadyH.cons (o := ⟨some 8, .call { callee := .value (.func 90), args := #[.tmp 5, .tmp 7], argTypes := #[24, 3] }, 3, "ref.go:99", #[⟨0, .data⟩, ⟨2, .data⟩], none⟩) rfl (fun K hK => ?_) AllReadyH.nil
  go_simp
  refine (rFirst_any A n c cs e y _ (hr0.keep hHeld.2) hn2 hpos he1 he2 hy1 (by omega)).mono ?_
  rintro e' w1 ⟨rfl, hb⟩
  refine hK.out _ _ (kp_step hb hHeld) (fun hHeld => ?_)
  clear hK K
  (try simp only [Act.put, List.setIfInBounds_toArray, List.set_cons_zero, List.set_cons_succ])
  refine wpAnyH_ready (rs := [6]) (by kernel_rfl) (by simp) ?_
  refine AllReadyH.cons (o := ⟨some 11, .call { callee := .value (.func 91), args := #[.tmp 9, .tmp 10], argTypes := #[24, 41] }, 3, "ref.go:99", #[⟨4, .data⟩, ⟨5, .data⟩, ⟨3, .chain⟩], none⟩) rfl (fun K hK => ?_) AllReadyH.nil
  go_simp
  refine (rInto_any A n c cs e y m d _ (hr0.keep hHeld.2) hn2 hpos hy1 hy2 hm1 hm2 hd1 hd2).mono ?_
  rintro e' w1 ⟨rfl, hb⟩
  refine hK.out _ _ (kp_step hb hHeld) (fun hHeld => ?_)
  clear hK K
  (try simp only [Act.put, List.setIfInBounds_toArray, List.set_cons_zero, List.set_cons_succ])
  refine wpAnyH_take (i := 7) (oi := ⟨some 12, .binOp .add 3 (.tmp 8) (.tmp 11) 3, 3, "ref.go:99", #[⟨3, .data⟩, ⟨6, .data⟩], none⟩) (v := ?_) rfl (by kernel_rfl) (by kernel_rfl) (by kernel_rfl) (fun _ _ _ h => h) (Or.inl ⟨by rfl, fun W hSw => ?_⟩) hHeld ?_
  rotate_left
  · (try dsimp only at hSw); go_simp; (try with_reducible rfl)
  (try simp only [Act.put, List.setIfInBounds_toArray, List.set_cons_zero, List.set_cons_succ])
  refine wpAnyH_take (i := 8) (oi := ⟨some 4, .assign (.tmp 12), 3, "ref.go:99", #[⟨7, .data⟩, ⟨6, .chain⟩, ⟨0, .phase⟩, ⟨1, .phase⟩, ⟨2, .phase⟩, ⟨3, .phase⟩, ⟨4, .phase⟩, ⟨5, .phase⟩, ⟨6, .phase⟩, ⟨7, .phase⟩], none⟩) (v := ?_) rfl (by kernel_rfl) (by kernel_rfl) (by kernel_rfl) (fun _ _ _ h => h) (Or.inl ⟨by rfl, fun W hSw => ?_⟩) hHeld ?_
  rotate_left
  · (try dsimp only at hSw); go_simp; (try with_reducible rfl)
  (try simp only [Act.put, List.setIfInBounds_toArray, List.set_cons_zero, List.set_cons_succ])
  refine wpAnyH_done (by kernel_rfl) ?_ _
  refine NoPanic.normal ?_
  go_wp2
  go_ret
  exact ⟨rfl, fr_call (fr_alloc (fr_alloc (fr_refl _) _) _) hHeld.2⟩
end Go.Proofs.YtnppilaabobgiaaGreatDoor
end
