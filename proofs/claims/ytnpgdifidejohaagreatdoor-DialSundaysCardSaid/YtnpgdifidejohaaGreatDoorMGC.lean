/- The theorem of letters: DialSundays, walked. -/
import Derived.Test.YtnpgdifidejohaaGreatDoorMEC
import Derived.Test.YtnpgdifidejohaaGreatDoorMD1
import Derived.Test.YtnpgdifidejohaaGreatDoorMBG
import Derived.Test.YtnpgdifidejohaaGreatDoorMB2
import Derived.Test.YtnpgdifidejohaaGreatDoorMC3
namespace Go.Proofs.YtnpgdifidejohaaGreatDoor
open Go.RowKit Dl

theorem let1_range (e : Int) (cs : List Int) (y : Int) : 1 ≤ let1 e cs y ∧ let1 e cs y ≤ 7 := by unfold let1 wkd; omega
theorem let2_range (e : Int) (cs : List Int) (y : Int) : 1 ≤ let2 e cs y ∧ let2 e cs y ≤ 7 := by
  have := let1_range e cs y
  unfold let2
  split <;> omega
theorem cum_false (b : Bool) (m : Int) (h1 : 1 ≤ m) (h2 : m ≤ 12) : cum b m = cum false m + (if b = true ∧ 2 < m then 1 else 0) := by
  rcases twelve h1 h2 with rfl | rfl | rfl | rfl | rfl | rfl | rfl | rfl | rfl | rfl | rfl | rfl <;> cases b <;> decide
/-- the theorem of letters, in plain numbers -/
theorem sundays_plain (e : Int) (cs : List Int) (y m d : Int) (hm1 : 1 ≤ m) (hm2 : m ≤ 12) :
    ((d + cum false m - (if 2 < m then let2 e cs y else let1 e cs y)) % 7 = 0) ↔ wkd (dayOf e cs ⟨y, m, d⟩) = 0 := by
  have hc := cum_false (leapB cs y) m hm1 hm2
  unfold dayOf
  simp only
  rw [hc]
  unfold let2 let1 wkd
  by_cases h2 : 2 < m <;> cases leapB cs y <;> simp only [h2, if_true, if_false, and_true, and_false, Bool.false_eq_true] <;> omega
theorem tmod7 (x : Int) : x.tmod 7 = 0 ↔ x % 7 = 0 := by
  rw [← Int.dvd_iff_tmod_eq_zero, Int.dvd_iff_emod_eq_zero]
theorem cum_false_bounds (m : Int) (h1 : 1 ≤ m) (h2 : m ≤ 12) : 0 ≤ cum false m ∧ cum false m ≤ 335 := by
  rcases twelve h1 h2 with rfl | rfl | rfl | rfl | rfl | rfl | rfl | rfl | rfl | rfl | rfl | rfl <;> decide

set_option maxRecDepth 100000 in
set_option maxHeartbeats 8000000 in
theorem sundays_true (A : Option Addr) (n c : Nat) (cs : List Int) (e y m d : Int) (w : World) (hr : Rd w A n cs) (hn : n ≤ 9223372036854775807) (hT : TabP w) :
    Calls Tryz.prog 4 #[.agg #[.int .i64 e, .slice A n c], .agg #[.int .i64 y, .int .i64 m, .int .i64 d]] w fun e' w' => e' = .returned (.bool true) ∧ Below w.heap.size w w' := by
  have g1 := fr_alloc (fr_alloc (fr_refl w) (.cells #[.int .i64 e, .slice A n c] 24)) (.cells #[.int .i64 y, .int .i64 m, .int .i64 d] 38)
  have hX0 : Blk ((w.alloc (.cells #[.int .i64 e, .slice A n c] 24)).alloc (.cells #[.int .i64 y, .int .i64 m, .int .i64 d] 38)) (w.heap.size) 24 #[.int .i64 e, .slice A n c] := ((Blk.new_at _ _ (by simp)).alloc _)
  have hX1 : Blk ((w.alloc (.cells #[.int .i64 e, .slice A n c] 24)).alloc (.cells #[.int .i64 y, .int .i64 m, .int .i64 d] 38)) (w.heap.size + 1) 38 #[.int .i64 y, .int .i64 m, .int .i64 d] := (Blk.new_at _ _ (by simp))
  cases hs : decide ((n : Int) ≤ 5)
  · go_enter Tryz.func4, Tryz.ntmps4
    go_wp2_with fail
    have hfr := g1
    replace hr := hr.keep g1
    replace hT := hT.keep g1
    have hc0 := fun j => hX0.cell j
    have hc1 := fun j => hX1.cell j
    have hl0 := hX0.lt
    have hl1 := hX1.lt
    refine (lshort_is A n c _ _ false hs).mono ?_
    rintro e' w1 ⟨rfl, hb⟩
    replace hr := hr.keep hb
    replace hT := hT.keep hb
    replace hfr := fr_call hfr hb
    replace hX0 := hX0.keep hb
    replace hc0 := fun j => hX0.cell j
    replace hl0 := hX0.lt
    replace hX1 := hX1.keep hb
    replace hc1 := fun j => hX1.cell j
    replace hl1 := hX1.lt
    clear hb
    go_wp2_with fail
    refine (known_is _ hT).mono ?_
    rintro e' w2 ⟨rfl, hb⟩
    replace hr := hr.keep hb
    replace hT := hT.keep hb
    replace hfr := fr_call hfr hb
    replace hX0 := hX0.keep hb
    replace hc0 := fun j => hX0.cell j
    replace hl0 := hX0.lt
    replace hX1 := hX1.keep hb
    replace hc1 := fun j => hX1.cell j
    replace hl1 := hX1.lt
    clear hb
    go_wp2_with fail
    go_ret
    exact ⟨rfl, hfr⟩
  · cases hok : calOk e cs
    · go_enter Tryz.func4, Tryz.ntmps4
      go_wp2_with fail
      have hfr := g1
      replace hr := hr.keep g1
      replace hT := hT.keep g1
      have hc0 := fun j => hX0.cell j
      have hc1 := fun j => hX1.cell j
      have hl0 := hX0.lt
      have hl1 := hX1.lt
      refine (lshort_is A n c _ _ true hs).mono ?_
      rintro e' w1 ⟨rfl, hb⟩
      replace hr := hr.keep hb
      replace hT := hT.keep hb
      replace hfr := fr_call hfr hb
      replace hX0 := hX0.keep hb
      replace hc0 := fun j => hX0.cell j
      replace hl0 := hX0.lt
      replace hX1 := hX1.keep hb
      replace hc1 := fun j => hX1.cell j
      replace hl1 := hX1.lt
      clear hb
      go_wp2_with fail
      refine (rCalendar_is A n c cs e _ hr hn _ hok).mono ?_
      rintro e' w2 ⟨rfl, hb⟩
      replace hr := hr.keep hb
      replace hT := hT.keep hb
      replace hfr := fr_call hfr hb
      replace hX0 := hX0.keep hb
      replace hc0 := fun j => hX0.cell j
      replace hl0 := hX0.lt
      replace hX1 := hX1.keep hb
      replace hc1 := fun j => hX1.cell j
      replace hl1 := hX1.lt
      clear hb
      go_wp2_with fail
      refine (known_is _ hT).mono ?_
      rintro e' w3 ⟨rfl, hb⟩
      replace hr := hr.keep hb
      replace hT := hT.keep hb
      replace hfr := fr_call hfr hb
      replace hX0 := hX0.keep hb
      replace hc0 := fun j => hX0.cell j
      replace hl0 := hX0.lt
      replace hX1 := hX1.keep hb
      replace hc1 := fun j => hX1.cell j
      replace hl1 := hX1.lt
      clear hb
      go_wp2_with fail
      go_ret
      exact ⟨rfl, hfr⟩
    · cases hq : realB cs y m d
      · go_enter Tryz.func4, Tryz.ntmps4
        go_wp2_with fail
        have hfr := g1
        replace hr := hr.keep g1
        replace hT := hT.keep g1
        have hc0 := fun j => hX0.cell j
        have hc1 := fun j => hX1.cell j
        have hl0 := hX0.lt
        have hl1 := hX1.lt
        refine (lshort_is A n c _ _ true hs).mono ?_
        rintro e' w1 ⟨rfl, hb⟩
        replace hr := hr.keep hb
        replace hT := hT.keep hb
        replace hfr := fr_call hfr hb
        replace hX0 := hX0.keep hb
        replace hc0 := fun j => hX0.cell j
        replace hl0 := hX0.lt
        replace hX1 := hX1.keep hb
        replace hc1 := fun j => hX1.cell j
        replace hl1 := hX1.lt
        clear hb
        go_wp2_with fail
        refine (rCalendar_is A n c cs e _ hr hn _ hok).mono ?_
        rintro e' w2 ⟨rfl, hb⟩
        replace hr := hr.keep hb
        replace hT := hT.keep hb
        replace hfr := fr_call hfr hb
        replace hX0 := hX0.keep hb
        replace hc0 := fun j => hX0.cell j
        replace hl0 := hX0.lt
        replace hX1 := hX1.keep hb
        replace hc1 := fun j => hX1.cell j
        replace hl1 := hX1.lt
        clear hb
        go_wp2_with fail
        refine (rReal_is A n c cs e y m d _ hr hok _ hq).mono ?_
        rintro e' w3 ⟨rfl, hb⟩
        replace hr := hr.keep hb
        replace hT := hT.keep hb
        replace hfr := fr_call hfr hb
        replace hX0 := hX0.keep hb
        replace hc0 := fun j => hX0.cell j
        replace hl0 := hX0.lt
        replace hX1 := hX1.keep hb
        replace hc1 := fun j => hX1.cell j
        replace hl1 := hX1.lt
        clear hb
        go_wp2_with fail
        refine (known_is _ hT).mono ?_
        rintro e' w4 ⟨rfl, hb⟩
        replace hr := hr.keep hb
        replace hT := hT.keep hb
        replace hfr := fr_call hfr hb
        replace hX0 := hX0.keep hb
        replace hc0 := fun j => hX0.cell j
        replace hl0 := hX0.lt
        replace hX1 := hX1.keep hb
        replace hc1 := fun j => hX1.cell j
        replace hl1 := hX1.lt
        clear hb
        go_wp2_with fail
        go_ret
        exact ⟨rfl, hfr⟩
      · obtain ⟨hy, hmm, hd⟩ := real_range hq
        have hdr : 0 ≤ dayOf e cs ⟨y, m, d⟩ ∧ dayOf e cs ⟨y, m, d⟩ ≤ 2000000 := by
          have h1 := firstDay_bounds e cs y hy.1
          have h2 := cum_bounds (leapB cs y) m hmm.1 hmm.2
          have h3 := (calOk_parts hok).1
          unfold dayOf
          simp only
          omega
        have hfin := sundays_plain e cs y m d hmm.1 hmm.2
        have hla := let1_range e cs y
        have hlb := let2_range e cs y
        obtain ⟨la, ga⟩ : ∃ q, let1 e cs y = q := ⟨_, rfl⟩
        obtain ⟨lb, gb⟩ : ∃ q, let2 e cs y = q := ⟨_, rfl⟩
        obtain ⟨dq, gd⟩ : ∃ q, dayOf e cs ⟨y, m, d⟩ = q := ⟨_, rfl⟩
        rw [ga] at hfin hla
        rw [gb] at hfin hlb
        rw [gd] at hfin hdr
        have HLA := Lib.hid ga
        have HLB := Lib.hid gb
        have HDQ := Lib.hid gd
        have HFIN := Lib.hid hfin
        clear ga gb gd hfin
        obtain ⟨hla1, hla2⟩ := hla
        obtain ⟨hlb1, hlb2⟩ := hlb
        obtain ⟨hdq1, hdq2⟩ := hdr
        obtain ⟨hm1, hm2⟩ := hmm
        obtain ⟨hd1, hd2⟩ := hd
        go_enter Tryz.func4, Tryz.ntmps4
        go_wp2_with fail
        have hfr := g1
        replace hr := hr.keep g1
        replace hT := hT.keep g1
        have hc0 := fun j => hX0.cell j
        have hc1 := fun j => hX1.cell j
        have hl0 := hX0.lt
        have hl1 := hX1.lt
        refine (lshort_is A n c _ _ true hs).mono ?_
        rintro e' w1 ⟨rfl, hb⟩
        replace hr := hr.keep hb
        replace hT := hT.keep hb
        replace hfr := fr_call hfr hb
        replace hX0 := hX0.keep hb
        replace hc0 := fun j => hX0.cell j
        replace hl0 := hX0.lt
        replace hX1 := hX1.keep hb
        replace hc1 := fun j => hX1.cell j
        replace hl1 := hX1.lt
        clear hb
        go_wp2_with fail
        refine (rCalendar_is A n c cs e _ hr hn _ hok).mono ?_
        rintro e' w2 ⟨rfl, hb⟩
        replace hr := hr.keep hb
        replace hT := hT.keep hb
        replace hfr := fr_call hfr hb
        replace hX0 := hX0.keep hb
        replace hc0 := fun j => hX0.cell j
        replace hl0 := hX0.lt
        replace hX1 := hX1.keep hb
        replace hc1 := fun j => hX1.cell j
        replace hl1 := hX1.lt
        clear hb
        go_wp2_with fail
        refine (rReal_is A n c cs e y m d _ hr hok _ hq).mono ?_
        rintro e' w3 ⟨rfl, hb⟩
        replace hr := hr.keep hb
        replace hT := hT.keep hb
        replace hfr := fr_call hfr hb
        replace hX0 := hX0.keep hb
        replace hc0 := fun j => hX0.cell j
        replace hl0 := hX0.lt
        replace hX1 := hX1.keep hb
        replace hc1 := fun j => hX1.cell j
        replace hl1 := hX1.lt
        clear hb
        go_wp2_with fail
        refine (Letters_ok A n c cs e y _ hr hn hok (inB_yes ⟨hy.1, hy.2⟩)).mono ?_
        rw [HLA.out, HLB.out]
        rintro e' w4 ⟨rfl, hb⟩
        replace hr := hr.keep hb
        replace hT := hT.keep hb
        replace hfr := fr_call hfr hb
        replace hX0 := hX0.keep hb
        replace hc0 := fun j => hX0.cell j
        replace hl0 := hX0.lt
        replace hX1 := hX1.keep hb
        replace hc1 := fun j => hX1.cell j
        replace hl1 := hX1.lt
        clear hb
        go_wp2_with fail
        refine (Day_yes A n c cs e y m d _ hr hn hok hq).mono ?_
        rw [HDQ.out]
        rintro e' w5 ⟨rfl, hb⟩
        replace hr := hr.keep hb
        replace hT := hT.keep hb
        replace hfr := fr_call hfr hb
        replace hX0 := hX0.keep hb
        replace hc0 := fun j => hX0.cell j
        replace hl0 := hX0.lt
        replace hX1 := hX1.keep hb
        replace hc1 := fun j => hX1.cell j
        replace hl1 := hX1.lt
        clear hb
        go_wp2_with fail
        go_loopw [10, 12] (fun s i wx => ∃ k : Int, 1 ≤ k ∧ k ≤ m ∧ i = .int .i64 k ∧ s = .int .i64 (d + cum false k) ∧ TabP wx ∧ Blk wx (w.heap.size + 1) 38 #[.int .i64 y, .int .i64 m, .int .i64 d] ∧ Below w.heap.size w wx) (fun _ i _ => (m - intOf i).toNat)
        case atStart => exact ⟨1, by omega, hm1, rfl, by simp [cum], hT, hX1, hfr⟩
        case round =>
          clear hT hX0 hX1 hc0 hc1 hl0 hl1 hr hfr
          obtain ⟨k, hk1, hk2, rfl, rfl, hT, hX, hfr⟩ := hrel
          have hcX := fun j => hX.cell j
          have hlX := hX.lt
          have hcb := cum_false_bounds k hk1 (by omega)
          obtain ⟨hcb1, hcb2⟩ := hcb
          by_cases hlt : k < m
          · have HS := Lib.hid (cum_succ false k hk1 (by omega))
            generalize cum false k = ck at *
            have hml := mlen_pos false k
            obtain ⟨hml1, hml2⟩ := hml
            go_wp2_with fail
            refine (rLength_any k false _ hk1 (by omega)).mono ?_
            generalize mlen false k = mk at *
            rintro e' w9 ⟨rfl, hb⟩
            go_wp2_with fail
            refine ⟨⟨k + 1, by omega, by omega, by go_num, by rw [HS.out, Int.add_assoc], hT.keep hb, hX.keep hb, fr_call hfr hb⟩, ?_⟩
            simp [intOf]; omega
          · have hkm : k = m := by omega
            subst hkm
            generalize cum false k = ck at *
            by_cases h2 : 2 < k
            · have hF := HFIN.out
              rw [if_pos h2, ← tmod7] at hF
              have hwr : IntKind.i64.wrap (d + ck - lb) = d + ck - lb := IntWalk.i64_in _ (by omega)
              have hwd : wkd dq = (dq + 4) % 7 := rfl
              by_cases hz : wkd dq = 0
              · have hF2 := hF.2 hz
                rw [hz] at hwd
                have HF := Lib.hid hF
                have HWD := Lib.hid hwd
                have HZ := Lib.hid hz
                clear hF hwd hz
                go_wp2_with fail
                refine (rWeekday_any dq _ (by omega) (by omega)).mono ?_
                rw [HZ.out]
                rintro e' w9 ⟨rfl, rfl⟩
                go_wp2_with fail
                refine (known_is _ hT).mono ?_
                rintro e' w10 ⟨rfl, hb⟩
                go_wp2_with fail
                go_ret
                exact ⟨rfl, fr_call hfr hb⟩
              · have hF2 : ((d + ck - lb).tmod 7 == 0) = false := beq_eq_false_iff_ne.2 (fun h => hz (hF.1 h))
                have hF3 : decide ((d + ck - lb).tmod 7 = 0) = false := decide_eq_false (fun h => hz (hF.1 h))
                have HF := Lib.hid hF
                clear hF hwd
                generalize gw : wkd dq = wq at *
                have hz2 : (wq == 0) = false := beq_eq_false_iff_ne.2 hz
                have hz3 : decide (wq = 0) = false := decide_eq_false hz
                have GW := Lib.hid gw
                clear gw
                go_wp2_with fail
                refine (rWeekday_any dq _ (by omega) (by omega)).mono ?_
                rw [GW.out]
                rintro e' w9 ⟨rfl, rfl⟩
                go_wp2_with fail
                refine (known_is _ hT).mono ?_
                rintro e' w10 ⟨rfl, hb⟩
                go_wp2_with fail
                go_ret
                exact ⟨rfl, fr_call hfr hb⟩
            · have hF := HFIN.out
              rw [if_neg h2, ← tmod7] at hF
              have hwr : IntKind.i64.wrap (d + ck - la) = d + ck - la := IntWalk.i64_in _ (by omega)
              by_cases hz : wkd dq = 0
              · have hF2 := hF.2 hz
                have HF := Lib.hid hF
                have HZ := Lib.hid hz
                clear hF hz
                go_wp2_with fail
                refine (rWeekday_any dq _ (by omega) (by omega)).mono ?_
                rw [HZ.out]
                rintro e' w9 ⟨rfl, rfl⟩
                go_wp2_with fail
                refine (known_is _ hT).mono ?_
                rintro e' w10 ⟨rfl, hb⟩
                go_wp2_with fail
                go_ret
                exact ⟨rfl, fr_call hfr hb⟩
              · have hF2 : ((d + ck - la).tmod 7 == 0) = false := beq_eq_false_iff_ne.2 (fun h => hz (hF.1 h))
                have hF3 : decide ((d + ck - la).tmod 7 = 0) = false := decide_eq_false (fun h => hz (hF.1 h))
                have HF := Lib.hid hF
                clear hF
                generalize gw : wkd dq = wq at *
                have hz2 : (wq == 0) = false := beq_eq_false_iff_ne.2 hz
                have hz3 : decide (wq = 0) = false := decide_eq_false hz
                have GW := Lib.hid gw
                clear gw
                go_wp2_with fail
                refine (rWeekday_any dq _ (by omega) (by omega)).mono ?_
                rw [GW.out]
                rintro e' w9 ⟨rfl, rfl⟩
                go_wp2_with fail
                refine (known_is _ hT).mono ?_
                rintro e' w10 ⟨rfl, hb⟩
                go_wp2_with fail
                go_ret
                exact ⟨rfl, fr_call hfr hb⟩
end Go.Proofs.YtnpgdifidejohaaGreatDoor
