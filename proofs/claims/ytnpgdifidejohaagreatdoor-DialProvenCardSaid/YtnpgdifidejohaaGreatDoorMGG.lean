/- The theorem of Easter: DialPaschal, walked. -/
import Derived.Test.YtnpgdifidejohaaGreatDoorMEC
import Derived.Test.YtnpgdifidejohaaGreatDoorMD1
import Derived.Test.YtnpgdifidejohaaGreatDoorMB5
import Derived.Test.YtnpgdifidejohaaGreatDoorMB2
import Derived.Test.YtnpgdifidejohaaGreatDoorMC3
namespace Go.Proofs.YtnpgdifidejohaaGreatDoor
open Go.RowKit Dl

theorem real_of {cs : List Int} {y m d : Int} (hy : 0 ≤ y ∧ y ≤ 4000) (hm : 1 ≤ m ∧ m ≤ 12) (hd : 1 ≤ d ∧ d ≤ mlen (leapB cs y) m) : realB cs y m d = true :=
  realB_iff.2 ⟨hy.1, hy.2, hm.1, hm.2, hd.1, hd.2⟩
/-- the date of Easter -/
theorem easter_when {e y num den add : Int} {cs : List Int} (hm : MoonOk num den add) (hy : 0 ≤ y ∧ y ≤ 4000) : ∃ m d, realB cs y m d = true ∧ dayOf e cs ⟨y, m, d⟩ = easterDay e cs num den add y ∧ ((m = 3 ∧ 22 ≤ d ∧ d ≤ 31) ∨ (m = 4 ∧ 1 ≤ d ∧ d ≤ 26)) := by
  obtain ⟨h1, h2⟩ := easter_bounds (e := e) (cs := cs) (y := y) hm
  have hml3 : mlen (leapB cs y) 3 = 31 := by cases leapB cs y <;> rfl
  have hml4 : mlen (leapB cs y) 4 = 30 := by cases leapB cs y <;> rfl
  have hc : cum (leapB cs y) 4 = cum (leapB cs y) 3 + 31 := by cases leapB cs y <;> rfl
  have e3 : ∀ d, dayOf e cs ⟨y, 3, d⟩ = dayOf e cs ⟨y, 3, 21⟩ + (d - 21) := fun d => by unfold dayOf; simp only; omega
  have e4 : ∀ d, dayOf e cs ⟨y, 4, d⟩ = dayOf e cs ⟨y, 3, 21⟩ + (d + 10) := fun d => by unfold dayOf; simp only; rw [hc]; omega
  generalize easterDay e cs num den add y = E at *
  generalize dayOf e cs ⟨y, 3, 21⟩ = mar at *
  by_cases h : E ≤ mar + 10
  · exact ⟨3, E - mar + 21, real_of hy (by omega) (by rw [hml3]; omega), by rw [e3]; omega, Or.inl ⟨rfl, by omega, by omega⟩⟩
  · exact ⟨4, E - mar - 10, real_of hy (by omega) (by rw [hml4]; omega), by rw [e4]; omega, Or.inr ⟨rfl, by omega, by omega⟩⟩
/-- the full moon before it -/
theorem easter_full {e y num den add : Int} {cs : List Int} (hm : MoonOk num den add) : ∃ F, dayOf e cs ⟨y, 3, 21⟩ ≤ F ∧ F < easterDay e cs num den add y ∧ easterDay e cs num den add y ≤ F + 7 ∧ wkd (easterDay e cs num den add y) = 0 ∧
    ageOf num den add (easterDay e cs num den add y) = 13 + (easterDay e cs num den add y - F) ∧ ageOf num den add F = 13 ∧ ∀ j, dayOf e cs ⟨y, 3, 21⟩ ≤ j → j < F → ageOf num den add j ≠ 13 := by
  refine ⟨fullOf num den add (dayOf e cs ⟨y, 3, 21⟩), (full_bounds hm _).1, ?_, ?_, ?_, ?_, age_full hm _, fun j h1 h2 => not_full hm _ j h1 h2⟩
  all_goals
    have hed : easterDay e cs num den add y = fullOf num den add (dayOf e cs ⟨y, 3, 21⟩) + 7 - wkd (fullOf num den add (dayOf e cs ⟨y, 3, 21⟩)) := rfl
    have hw := wkd_range (fullOf num den add (dayOf e cs ⟨y, 3, 21⟩))
    rw [hed]
  · omega
  · omega
  · unfold wkd; omega
  · have ha := age_full hm (dayOf e cs ⟨y, 3, 21⟩)
    generalize fullOf num den add (dayOf e cs ⟨y, 3, 21⟩) = F at *
    generalize wkd F = k at *
    -- the moon is 13 days old at F, so the days behind it are counted on
    have hk := new_last hm F
    have hage : newDay num den add (lastK num den add F) = F - 13 := by unfold ageOf at ha; omega
    have := age_at hm (lastK num den add F) (13 + (7 - k)) (by omega) (by omega)
    rw [hage] at this
    rw [show F + 7 - k = F - 13 + (13 + (7 - k)) by omega, this]
    omega

set_option maxRecDepth 100000 in
set_option maxHeartbeats 8000000 in
theorem paschal_true (A : Option Addr) (n c : Nat) (cs : List Int) (e num den add y : Int) (w : World) (hr : Rd w A n cs) (hn : n ≤ 9223372036854775807) (hT : TabP w) :
    Calls Tryz.prog 13 #[.agg #[.int .i64 e, .slice A n c], .agg #[.int .i64 num, .int .i64 den, .int .i64 add], .int .i64 y] w fun e' w' => e' = .returned (.bool true) ∧ Below w.heap.size w w' := by
  have g1 := fr_alloc (fr_alloc (fr_refl w) (.cells #[.int .i64 e, .slice A n c] 24)) (.cells #[.int .i64 num, .int .i64 den, .int .i64 add] 65)
  have hX0 : Blk ((w.alloc (.cells #[.int .i64 e, .slice A n c] 24)).alloc (.cells #[.int .i64 num, .int .i64 den, .int .i64 add] 65)) (w.heap.size) 24 #[.int .i64 e, .slice A n c] := ((Blk.new_at _ _ (by simp)).alloc _)
  have hX1 : Blk ((w.alloc (.cells #[.int .i64 e, .slice A n c] 24)).alloc (.cells #[.int .i64 num, .int .i64 den, .int .i64 add] 65)) (w.heap.size + 1) 65 #[.int .i64 num, .int .i64 den, .int .i64 add] := (Blk.new_at _ _ (by simp))
  cases hs : decide ((n : Int) ≤ 5)
  · go_enter Tryz.func13, Tryz.ntmps13
    go_wp2_with fail
    have hfr := g1
    replace hr := hr.keep g1
    replace hT := hT.keep g1
    have hc0 := fun j => hX0.cell j
    have hc1 := fun j => hX1.cell j
    have hl0 := hX0.lt
    have hl1 := hX1.lt
    refine (lshort_is A n c _ _ false hs).mono ?_
    rintro e' w1 ⟨rfl, hb⟩
    replace hr := hr.keep hb
    replace hT := hT.keep hb
    replace hfr := fr_call hfr hb
    replace hX0 := hX0.keep hb
    replace hc0 := fun j => hX0.cell j
    replace hl0 := hX0.lt
    replace hX1 := hX1.keep hb
    replace hc1 := fun j => hX1.cell j
    replace hl1 := hX1.lt
    clear hb
    go_wp2_with fail
    refine (known_is _ hT).mono ?_
    rintro e' w2 ⟨rfl, hb⟩
    replace hr := hr.keep hb
    replace hT := hT.keep hb
    replace hfr := fr_call hfr hb
    replace hX0 := hX0.keep hb
    replace hc0 := fun j => hX0.cell j
    replace hl0 := hX0.lt
    replace hX1 := hX1.keep hb
    replace hc1 := fun j => hX1.cell j
    replace hl1 := hX1.lt
    clear hb
    go_wp2_with fail
    go_ret
    exact ⟨rfl, hfr⟩
  · cases hok : calOk e cs
    · go_enter Tryz.func13, Tryz.ntmps13
      go_wp2_with fail
      have hfr := g1
      replace hr := hr.keep g1
      replace hT := hT.keep g1
      have hc0 := fun j => hX0.cell j
      have hc1 := fun j => hX1.cell j
      have hl0 := hX0.lt
      have hl1 := hX1.lt
      refine (lshort_is A n c _ _ true hs).mono ?_
      rintro e' w1 ⟨rfl, hb⟩
      replace hr := hr.keep hb
      replace hT := hT.keep hb
      replace hfr := fr_call hfr hb
      replace hX0 := hX0.keep hb
      replace hc0 := fun j => hX0.cell j
      replace hl0 := hX0.lt
      replace hX1 := hX1.keep hb
      replace hc1 := fun j => hX1.cell j
      replace hl1 := hX1.lt
      clear hb
      go_wp2_with fail
      refine (rCalendar_is A n c cs e _ hr hn _ hok).mono ?_
      rintro e' w2 ⟨rfl, hb⟩
      replace hr := hr.keep hb
      replace hT := hT.keep hb
      replace hfr := fr_call hfr hb
      replace hX0 := hX0.keep hb
      replace hc0 := fun j => hX0.cell j
      replace hl0 := hX0.lt
      replace hX1 := hX1.keep hb
      replace hc1 := fun j => hX1.cell j
      replace hl1 := hX1.lt
      clear hb
      go_wp2_with fail
      refine (known_is _ hT).mono ?_
      rintro e' w3 ⟨rfl, hb⟩
      replace hr := hr.keep hb
      replace hT := hT.keep hb
      replace hfr := fr_call hfr hb
      replace hX0 := hX0.keep hb
      replace hc0 := fun j => hX0.cell j
      replace hl0 := hX0.lt
      replace hX1 := hX1.keep hb
      replace hc1 := fun j => hX1.cell j
      replace hl1 := hX1.lt
      clear hb
      go_wp2_with fail
      go_ret
      exact ⟨rfl, hfr⟩
    · cases hm : moonB num den add
      · go_enter Tryz.func13, Tryz.ntmps13
        go_wp2_with fail
        have hfr := g1
        replace hr := hr.keep g1
        replace hT := hT.keep g1
        have hc0 := fun j => hX0.cell j
        have hc1 := fun j => hX1.cell j
        have hl0 := hX0.lt
        have hl1 := hX1.lt
        refine (lshort_is A n c _ _ true hs).mono ?_
        rintro e' w1 ⟨rfl, hb⟩
        replace hr := hr.keep hb
        replace hT := hT.keep hb
        replace hfr := fr_call hfr hb
        replace hX0 := hX0.keep hb
        replace hc0 := fun j => hX0.cell j
        replace hl0 := hX0.lt
        replace hX1 := hX1.keep hb
        replace hc1 := fun j => hX1.cell j
        replace hl1 := hX1.lt
        clear hb
        go_wp2_with fail
        refine (rCalendar_is A n c cs e _ hr hn _ hok).mono ?_
        rintro e' w2 ⟨rfl, hb⟩
        replace hr := hr.keep hb
        replace hT := hT.keep hb
        replace hfr := fr_call hfr hb
        replace hX0 := hX0.keep hb
        replace hc0 := fun j => hX0.cell j
        replace hl0 := hX0.lt
        replace hX1 := hX1.keep hb
        replace hc1 := fun j => hX1.cell j
        replace hl1 := hX1.lt
        clear hb
        go_wp2_with fail
        refine (rMoon_is _ _ _ _ _ hm).mono ?_
        rintro e' w3 ⟨rfl, hb⟩
        replace hr := hr.keep hb
        replace hT := hT.keep hb
        replace hfr := fr_call hfr hb
        replace hX0 := hX0.keep hb
        replace hc0 := fun j => hX0.cell j
        replace hl0 := hX0.lt
        replace hX1 := hX1.keep hb
        replace hc1 := fun j => hX1.cell j
        replace hl1 := hX1.lt
        clear hb
        go_wp2_with fail
        refine (known_is _ hT).mono ?_
        rintro e' w4 ⟨rfl, hb⟩
        replace hr := hr.keep hb
        replace hT := hT.keep hb
        replace hfr := fr_call hfr hb
        replace hX0 := hX0.keep hb
        replace hc0 := fun j => hX0.cell j
        replace hl0 := hX0.lt
        replace hX1 := hX1.keep hb
        replace hc1 := fun j => hX1.cell j
        replace hl1 := hX1.lt
        clear hb
        go_wp2_with fail
        go_ret
        exact ⟨rfl, hfr⟩
      · cases hy : inB y 0 4000
        · go_enter Tryz.func13, Tryz.ntmps13
          go_wp2_with fail
          have hfr := g1
          replace hr := hr.keep g1
          replace hT := hT.keep g1
          have hc0 := fun j => hX0.cell j
          have hc1 := fun j => hX1.cell j
          have hl0 := hX0.lt
          have hl1 := hX1.lt
          refine (lshort_is A n c _ _ true hs).mono ?_
          rintro e' w1 ⟨rfl, hb⟩
          replace hr := hr.keep hb
          replace hT := hT.keep hb
          replace hfr := fr_call hfr hb
          replace hX0 := hX0.keep hb
          replace hc0 := fun j => hX0.cell j
          replace hl0 := hX0.lt
          replace hX1 := hX1.keep hb
          replace hc1 := fun j => hX1.cell j
          replace hl1 := hX1.lt
          clear hb
          go_wp2_with fail
          refine (rCalendar_is A n c cs e _ hr hn _ hok).mono ?_
          rintro e' w2 ⟨rfl, hb⟩
          replace hr := hr.keep hb
          replace hT := hT.keep hb
          replace hfr := fr_call hfr hb
          replace hX0 := hX0.keep hb
          replace hc0 := fun j => hX0.cell j
          replace hl0 := hX0.lt
          replace hX1 := hX1.keep hb
          replace hc1 := fun j => hX1.cell j
          replace hl1 := hX1.lt
          clear hb
          go_wp2_with fail
          refine (rMoon_is _ _ _ _ _ hm).mono ?_
          rintro e' w3 ⟨rfl, hb⟩
          replace hr := hr.keep hb
          replace hT := hT.keep hb
          replace hfr := fr_call hfr hb
          replace hX0 := hX0.keep hb
          replace hc0 := fun j => hX0.cell j
          replace hl0 := hX0.lt
          replace hX1 := hX1.keep hb
          replace hc1 := fun j => hX1.cell j
          replace hl1 := hX1.lt
          clear hb
          go_wp2_with fail
          refine (rYear_is _ _ _ hy).mono ?_
          rintro e' w4 ⟨rfl, rfl⟩
          go_wp2_with fail
          refine (known_is _ hT).mono ?_
          rintro e' w5 ⟨rfl, hb⟩
          replace hr := hr.keep hb
          replace hT := hT.keep hb
          replace hfr := fr_call hfr hb
          replace hX0 := hX0.keep hb
          replace hc0 := fun j => hX0.cell j
          replace hl0 := hX0.lt
          replace hX1 := hX1.keep hb
          replace hc1 := fun j => hX1.cell j
          replace hl1 := hX1.lt
          clear hb
          go_wp2_with fail
          go_ret
          exact ⟨rfl, hfr⟩
        · have hy2 := inB_iff.1 hy
          have hmk := moonB_ok hm
          obtain ⟨m, d, hq, hE0, hmd⟩ := easter_when (e := e) (cs := cs) hmk hy2
          obtain ⟨F, hF1, hF2, hF3, hW, hAE, hAF, hAn⟩ := easter_full (e := e) (cs := cs) (y := y) hmk
          have hmb := march_bounds e cs y (calOk_parts hok).1 hy2
          have hdr := day_range (calOk_parts hok).1 hq
          have hX0' : dateOf e cs (easterDay e cs num den add y) = some ⟨y, m, d⟩ := dateOf_some.2 ⟨realB_iff.1 hq, hE0⟩
          have hq21 : realB cs y 3 21 = true := real_of hy2 (by omega) (by have := mlen_pos (leapB cs y) 3; omega)
          have hE1 : 0 ≤ dayOf e cs ⟨y, m, d⟩ ∧ dayOf e cs ⟨y, m, d⟩ ≤ 2000000 := by
            have h1 := firstDay_bounds e cs y hy2.1
            have h2 := cum_bounds (leapB cs y) m (by omega) (by omega)
            have h3 := (calOk_parts hok).1
            unfold dayOf
            simp only
            omega
          rw [hE0] at hE1
          have HX := Lib.hid hX0'
          obtain ⟨mar, gm⟩ : ∃ q, dayOf e cs ⟨y, 3, 21⟩ = q := ⟨_, rfl⟩
          have HM := Lib.hid gm
          rw [gm] at hF1 hAn hmb
          obtain ⟨E, gE⟩ : ∃ q, easterDay e cs num den add y = q := ⟨_, rfl⟩
          rw [gE] at hE0 hE1 hF2 hF3 hW hAE
          have HE := Lib.hid hE0
          clear hE0 hX0' gm hdr gE
          have HW := Lib.hid hW
          have HA := Lib.hid hAE
          have HAF := Lib.hid hAF
          have HAN := Lib.hid hAn
          clear hW hAE hAF hAn
          obtain ⟨hE1, hE2⟩ := hE1
          obtain ⟨hmb1, hmb2⟩ := hmb
          have hE : inB E 0 2000000 = true := inB_yes ⟨hE1, hE2⟩
          have hwF : IntKind.i64.wrap (13 + (E - F) - 13) = 13 + (E - F) - 13 := IntWalk.i64_in _ (by omega)
          obtain ⟨g, hg⟩ : ∃ g, g = 13 + (E - F) := ⟨_, rfl⟩
          rw [← hg] at HA hwF
          have hg1 : 14 ≤ g := by omega
          have hg2 : g ≤ 20 := by omega
          obtain rfl : F = E - (g - 13) := by omega
          clear hg hwF
          rcases hmd with ⟨rfl, hd1, hd2⟩ | ⟨rfl, hd1, hd2⟩
          · skip
            go_enter Tryz.func13, Tryz.ntmps13
            go_wp2_with fail
            have hfr := g1
            replace hr := hr.keep g1
            replace hT := hT.keep g1
            have hc0 := fun j => hX0.cell j
            have hc1 := fun j => hX1.cell j
            have hl0 := hX0.lt
            have hl1 := hX1.lt
            refine (lshort_is A n c _ _ true hs).mono ?_
            rintro e' w1 ⟨rfl, hb⟩
            replace hr := hr.keep hb
            replace hT := hT.keep hb
            replace hfr := fr_call hfr hb
            replace hX0 := hX0.keep hb
            replace hc0 := fun j => hX0.cell j
            replace hl0 := hX0.lt
            replace hX1 := hX1.keep hb
            replace hc1 := fun j => hX1.cell j
            replace hl1 := hX1.lt
            clear hb
            go_wp2_with fail
            refine (rCalendar_is A n c cs e _ hr hn _ hok).mono ?_
            rintro e' w2 ⟨rfl, hb⟩
            replace hr := hr.keep hb
            replace hT := hT.keep hb
            replace hfr := fr_call hfr hb
            replace hX0 := hX0.keep hb
            replace hc0 := fun j => hX0.cell j
            replace hl0 := hX0.lt
            replace hX1 := hX1.keep hb
            replace hc1 := fun j => hX1.cell j
            replace hl1 := hX1.lt
            clear hb
            go_wp2_with fail
            refine (rMoon_is _ _ _ _ _ hm).mono ?_
            rintro e' w3 ⟨rfl, hb⟩
            replace hr := hr.keep hb
            replace hT := hT.keep hb
            replace hfr := fr_call hfr hb
            replace hX0 := hX0.keep hb
            replace hc0 := fun j => hX0.cell j
            replace hl0 := hX0.lt
            replace hX1 := hX1.keep hb
            replace hc1 := fun j => hX1.cell j
            replace hl1 := hX1.lt
            clear hb
            go_wp2_with fail
            refine (rYear_is _ _ _ hy).mono ?_
            rintro e' w4 ⟨rfl, rfl⟩
            go_wp2_with fail
            refine (Easter_ok A n c cs e num den add y ⟨y, 3, d⟩ _ hr hn hok hm hy HX.out).mono ?_
            rintro e' w5 ⟨rfl, hb⟩
            replace hr := hr.keep hb
            replace hT := hT.keep hb
            replace hfr := fr_call hfr hb
            replace hX0 := hX0.keep hb
            replace hc0 := fun j => hX0.cell j
            replace hl0 := hX0.lt
            replace hX1 := hX1.keep hb
            replace hc1 := fun j => hX1.cell j
            replace hl1 := hX1.lt
            clear hb
            go_wp2_with fail
            have ga := fr_alloc (fr_refl w5) (.cells #[.int .i64 y, .int .i64 3, .int .i64 d] 38)
            replace hr := hr.keep ga
            replace hT := hT.keep ga
            replace hfr := fr_call hfr ga
            replace hX0 := hX0.keep ga
            replace hc0 := fun j => hX0.cell j
            replace hl0 := hX0.lt
            replace hX1 := hX1.keep ga
            replace hc1 := fun j => hX1.cell j
            replace hl1 := hX1.lt
            have hX2 := Blk.new w5 38 #[.int .i64 y, .int .i64 3, .int .i64 d]
            have hc2 := fun j => hX2.cell j
            have hl2 := hX2.lt
            clear ga
            refine (rReal_is A n c cs e y 3 d _ hr hok _ hq).mono ?_
            rintro e' w6 ⟨rfl, hb⟩
            replace hr := hr.keep hb
            replace hT := hT.keep hb
            replace hfr := fr_call hfr hb
            replace hX0 := hX0.keep hb
            replace hc0 := fun j => hX0.cell j
            replace hl0 := hX0.lt
            replace hX1 := hX1.keep hb
            replace hc1 := fun j => hX1.cell j
            replace hl1 := hX1.lt
            replace hX2 := hX2.keep hb
            replace hc2 := fun j => hX2.cell j
            replace hl2 := hX2.lt
            clear hb
            go_wp2_with fail
            refine (Day_yes A n c cs e y 3 d _ hr hn hok hq).mono ?_
            rw [HE.out]
            rintro e' w7 ⟨rfl, hb⟩
            replace hr := hr.keep hb
            replace hT := hT.keep hb
            replace hfr := fr_call hfr hb
            replace hX0 := hX0.keep hb
            replace hc0 := fun j => hX0.cell j
            replace hl0 := hX0.lt
            replace hX1 := hX1.keep hb
            replace hc1 := fun j => hX1.cell j
            replace hl1 := hX1.lt
            replace hX2 := hX2.keep hb
            replace hc2 := fun j => hX2.cell j
            replace hl2 := hX2.lt
            clear hb
            go_wp2_with fail
            refine wp_region_noPanic ?_
            refine wp_region_held_drew (S := fun W => (∀ p : Addr, p.block < (w7).heap.size → W.cell? p = (w7).cell? p) ∧ Below (w7).heap.size (w7) W) (by kernel_rfl) ⟨fun _ _ => rfl, fr_drew (fr_refl _)⟩ (fun hHeld => ?_)
            -- the region, step by step
            refine wpAnyH_take (i := 0) (oi := ⟨some 96, .load 24 (.tmp 3), 24, "law.go:298", #[], none⟩) (v := ?_) rfl (by kernel_rfl) (by kernel_rfl) (by kernel_rfl) (fun _ _ _ h => h) (Or.inl ⟨by rfl, fun W hSw => ?_⟩) hHeld ?_
            rotate_left
            · (try dsimp only at hSw); go_simp; (try with_reducible rfl)
            (try simp only [Act.put, List.setIfInBounds_toArray, List.set_cons_zero, List.set_cons_succ])
            refine wpAnyH_take (i := 1) (oi := ⟨some 97, .move (.tmp 2), 3, "law.go:298", #[], none⟩) (v := ?_) rfl (by kernel_rfl) (by kernel_rfl) (by kernel_rfl) (fun _ _ _ h => h) (Or.inl ⟨by rfl, fun W hSw => ?_⟩) hHeld ?_
            rotate_left
            · (try dsimp only at hSw); go_simp; (try with_reducible rfl)
            (try simp only [Act.put, List.setIfInBounds_toArray, List.set_cons_zero, List.set_cons_succ])
            refine wpAnyH_ready (rs := [2]) (by kernel_rfl) (by simp) ?_
            refine AllReadyH.cons (o := ⟨some 98, .call { callee := .value (.func 54), args := #[.const (.int .i64 21), .const (.int .i64 3), .tmp 97], argTypes := #[3, 3, 3] }, 38, "law.go:298", #[⟨1, .data⟩], none⟩) rfl (fun K hK => ?_) AllReadyH.nil
            go_simp
            refine (ldate_is _ _ _ _).mono ?_
            rintro e' wA ⟨rfl, hb⟩
            refine hK.out _ _ (kp_step hb hHeld) (fun hHeld => ?_)
            clear hK K
            (try simp only [Act.put, List.setIfInBounds_toArray, List.set_cons_zero, List.set_cons_succ])
            refine wpAnyH_ready (rs := [3]) (by kernel_rfl) (by simp) ?_
            refine AllReadyH.cons (o := ⟨some 99, .call { callee := .value (.func 24), args := #[.tmp 96, .tmp 98], argTypes := #[24, 38] }, 30, "law.go:298", #[⟨0, .data⟩, ⟨2, .data⟩, ⟨2, .chain⟩], none⟩) rfl (fun K hK => ?_) AllReadyH.nil
            go_simp
            refine (Day_yes A n c cs e y 3 21 _ (hr.keep hHeld.2) hn hok hq21).mono ?_
            rw [HM.out]
            rintro e' wB ⟨rfl, hb⟩
            refine hK.out _ _ (kp_step hb hHeld) (fun hHeld => ?_)
            clear hK K
            (try simp only [Act.put, List.setIfInBounds_toArray, List.set_cons_zero, List.set_cons_succ])
            refine wpAnyH_take (i := 4) (oi := ⟨some 95, .move (.tmp 99), 30, "law.go:298", #[⟨3, .data⟩], none⟩) (v := ?_) rfl (by kernel_rfl) (by kernel_rfl) (by kernel_rfl) (fun _ _ _ h => h) (Or.inl ⟨by rfl, fun W hSw => ?_⟩) hHeld ?_
            rotate_left
            · (try dsimp only at hSw); go_simp; (try with_reducible rfl)
            (try simp only [Act.put, List.setIfInBounds_toArray, List.set_cons_zero, List.set_cons_succ])
            refine wpAnyH_take (i := 5) (oi := ⟨some 100, .extract (.tmp 95) 0, 3, "law.go:298", #[⟨4, .data⟩], none⟩) (v := ?_) rfl (by kernel_rfl) (by kernel_rfl) (by kernel_rfl) (fun _ _ _ h => h) (Or.inl ⟨by rfl, fun W hSw => ?_⟩) hHeld ?_
            rotate_left
            · (try dsimp only at hSw); go_simp; (try with_reducible rfl)
            (try simp only [Act.put, List.setIfInBounds_toArray, List.set_cons_zero, List.set_cons_succ])
            refine wpAnyH_take (i := 6) (oi := ⟨some 101, .extract (.tmp 95) 1, 27, "law.go:298", #[⟨4, .data⟩, ⟨7, .gcOnly .lateStores⟩], none⟩) (v := ?_) rfl (by kernel_rfl) (by kernel_rfl) (by kernel_rfl) (fun _ _ _ h => h) (Or.inl ⟨by rfl, fun W hSw => ?_⟩) hHeld ?_
            rotate_left
            · (try dsimp only at hSw); go_simp; (try with_reducible rfl)
            (try simp only [Act.put, List.setIfInBounds_toArray, List.set_cons_zero, List.set_cons_succ])
            refine wpAnyH_take (i := 7) (oi := ⟨some 11, .assign (.tmp 100), 3, "law.go:298", #[⟨5, .data⟩, ⟨3, .chain⟩, ⟨0, .phase⟩, ⟨1, .phase⟩, ⟨2, .phase⟩, ⟨3, .phase⟩, ⟨4, .phase⟩, ⟨5, .phase⟩, ⟨6, .textOnly .lateStores⟩], none⟩) (v := ?_) rfl (by kernel_rfl) (by kernel_rfl) (by kernel_rfl) (fun _ _ _ h => h) (Or.inl ⟨by rfl, fun W hSw => ?_⟩) hHeld ?_
            rotate_left
            · (try dsimp only at hSw); go_simp; (try with_reducible rfl)
            (try simp only [Act.put, List.setIfInBounds_toArray, List.set_cons_zero, List.set_cons_succ])
            refine wpAnyH_take (i := 8) (oi := ⟨some 12, .assign (.tmp 101), 27, "law.go:298", #[⟨6, .data⟩, ⟨7, .chain⟩, ⟨0, .phase⟩, ⟨1, .phase⟩, ⟨2, .phase⟩, ⟨3, .phase⟩, ⟨4, .phase⟩, ⟨5, .phase⟩, ⟨6, .phase⟩, ⟨7, .phase⟩], none⟩) (v := ?_) rfl (by kernel_rfl) (by kernel_rfl) (by kernel_rfl) (fun _ _ _ h => h) (Or.inl ⟨by rfl, fun W hSw => ?_⟩) hHeld ?_
            rotate_left
            · (try dsimp only at hSw); go_simp; (try with_reducible rfl)
            (try simp only [Act.put, List.setIfInBounds_toArray, List.set_cons_zero, List.set_cons_succ])
            refine wpAnyH_done (by kernel_rfl) ?_ _
            refine NoPanic.normal ?_
            replace hr := hr.keep hHeld.2
            replace hT := hT.keep hHeld.2
            replace hfr := fr_call hfr hHeld.2
            replace hX0 := hX0.keep hHeld.2
            replace hc0 := fun j => hX0.cell j
            replace hl0 := hX0.lt
            replace hX1 := hX1.keep hHeld.2
            replace hc1 := fun j => hX1.cell j
            replace hl1 := hX1.lt
            replace hX2 := hX2.keep hHeld.2
            replace hc2 := fun j => hX2.cell j
            replace hl2 := hX2.lt
            clear hHeld
            go_wp2_with fail
            refine (rNumber_is _ _ _ hE).mono ?_
            rintro e' w8 ⟨rfl, rfl⟩
            go_wp2_with fail
            refine (rWeekday_any E _ (by omega) (by omega)).mono ?_
            rw [HW.out]
            rintro e' w9 ⟨rfl, rfl⟩
            go_wp2_with fail
            refine (Age_ok num den add E _ hm hE).mono ?_
            rw [HA.out]
            rintro e' w10 ⟨rfl, hb⟩
            replace hr := hr.keep hb
            replace hT := hT.keep hb
            replace hfr := fr_call hfr hb
            replace hX0 := hX0.keep hb
            replace hc0 := fun j => hX0.cell j
            replace hl0 := hX0.lt
            replace hX1 := hX1.keep hb
            replace hc1 := fun j => hX1.cell j
            replace hl1 := hX1.lt
            replace hX2 := hX2.keep hb
            replace hc2 := fun j => hX2.cell j
            replace hl2 := hX2.lt
            clear hb
            go_wp2_with fail
            go_loopw [16] (fun i wx => ∃ k : Int, mar ≤ k ∧ k ≤ E - (g - 13) + 1 ∧ i = .int .i64 k ∧ TabP wx ∧ Blk wx (w.heap.size + 1) 65 #[.int .i64 num, .int .i64 den, .int .i64 add] ∧ Below w.heap.size w wx) (fun i _ => (E + 10 - intOf i).toNat)
            case atStart => exact ⟨mar, by omega, by omega, rfl, hT, hX1, hfr⟩
            case round =>
              clear hT hX0 hX1 hX2 hc0 hc1 hc2 hl0 hl1 hl2 hr hfr
              obtain ⟨k, hk1, hk2, rfl, hT, hX, hfr⟩ := hrel
              have hcX := fun j => hX.cell j
              have hlX := hX.lt
              by_cases hle : k ≤ E - (g - 13)
              · have hik : inB k 0 2000000 = true := inB_yes ⟨by omega, by omega⟩
                by_cases hlt : k < E - (g - 13)
                · have hne := HAN.out k hk1 hlt
                  have hne2 : (k == E - (g - 13)) = false := beq_eq_false_iff_ne.2 (by omega)
                  have hne3 : ¬ k = E - (g - 13) := by omega
                  obtain ⟨ak, gk⟩ : ∃ q, ageOf num den add k = q := ⟨_, rfl⟩
                  rw [gk] at hne
                  have HK := Lib.hid gk
                  have hne4 : (ak == 13) = false := beq_eq_false_iff_ne.2 hne
                  clear gk
                  go_wp2_with fail
                  refine (Age_ok num den add k _ hm hik).mono ?_
                  rw [HK.out]
                  rintro e' w9 ⟨rfl, hb⟩
                  go_wp2_with fail
                  refine ⟨⟨k + 1, by omega, by omega, by go_num, hT.keep hb, hX.keep hb, fr_call hfr hb⟩, ?_⟩
                  simp [intOf]; omega
                · obtain rfl : k = E - (g - 13) := by omega
                  go_wp2_with fail
                  refine (Age_ok num den add (E - (g - 13)) _ hm hik).mono ?_
                  rw [HAF.out]
                  rintro e' w9 ⟨rfl, hb⟩
                  go_wp2_with fail
                  refine ⟨⟨E - (g - 13) + 1, by omega, by omega, by go_num, hT.keep hb, hX.keep hb, fr_call hfr hb⟩, ?_⟩
                  simp [intOf]; omega
              · go_wp2_with fail
                refine (known_is _ hT).mono ?_
                rintro e' w10 ⟨rfl, hb⟩
                go_wp2_with fail
                go_ret
                exact ⟨rfl, fr_call hfr hb⟩
          · skip
            go_enter Tryz.func13, Tryz.ntmps13
            go_wp2_with fail
            have hfr := g1
            replace hr := hr.keep g1
            replace hT := hT.keep g1
            have hc0 := fun j => hX0.cell j
            have hc1 := fun j => hX1.cell j
            have hl0 := hX0.lt
            have hl1 := hX1.lt
            refine (lshort_is A n c _ _ true hs).mono ?_
            rintro e' w1 ⟨rfl, hb⟩
            replace hr := hr.keep hb
            replace hT := hT.keep hb
            replace hfr := fr_call hfr hb
            replace hX0 := hX0.keep hb
            replace hc0 := fun j => hX0.cell j
            replace hl0 := hX0.lt
            replace hX1 := hX1.keep hb
            replace hc1 := fun j => hX1.cell j
            replace hl1 := hX1.lt
            clear hb
            go_wp2_with fail
            refine (rCalendar_is A n c cs e _ hr hn _ hok).mono ?_
            rintro e' w2 ⟨rfl, hb⟩
            replace hr := hr.keep hb
            replace hT := hT.keep hb
            replace hfr := fr_call hfr hb
            replace hX0 := hX0.keep hb
            replace hc0 := fun j => hX0.cell j
            replace hl0 := hX0.lt
            replace hX1 := hX1.keep hb
            replace hc1 := fun j => hX1.cell j
            replace hl1 := hX1.lt
            clear hb
            go_wp2_with fail
            refine (rMoon_is _ _ _ _ _ hm).mono ?_
            rintro e' w3 ⟨rfl, hb⟩
            replace hr := hr.keep hb
            replace hT := hT.keep hb
            replace hfr := fr_call hfr hb
            replace hX0 := hX0.keep hb
            replace hc0 := fun j => hX0.cell j
            replace hl0 := hX0.lt
            replace hX1 := hX1.keep hb
            replace hc1 := fun j => hX1.cell j
            replace hl1 := hX1.lt
            clear hb
            go_wp2_with fail
            refine (rYear_is _ _ _ hy).mono ?_
            rintro e' w4 ⟨rfl, rfl⟩
            go_wp2_with fail
            refine (Easter_ok A n c cs e num den add y ⟨y, 4, d⟩ _ hr hn hok hm hy HX.out).mono ?_
            rintro e' w5 ⟨rfl, hb⟩
            replace hr := hr.keep hb
            replace hT := hT.keep hb
            replace hfr := fr_call hfr hb
            replace hX0 := hX0.keep hb
            replace hc0 := fun j => hX0.cell j
            replace hl0 := hX0.lt
            replace hX1 := hX1.keep hb
            replace hc1 := fun j => hX1.cell j
            replace hl1 := hX1.lt
            clear hb
            go_wp2_with fail
            have ga := fr_alloc (fr_refl w5) (.cells #[.int .i64 y, .int .i64 4, .int .i64 d] 38)
            replace hr := hr.keep ga
            replace hT := hT.keep ga
            replace hfr := fr_call hfr ga
            replace hX0 := hX0.keep ga
            replace hc0 := fun j => hX0.cell j
            replace hl0 := hX0.lt
            replace hX1 := hX1.keep ga
            replace hc1 := fun j => hX1.cell j
            replace hl1 := hX1.lt
            have hX2 := Blk.new w5 38 #[.int .i64 y, .int .i64 4, .int .i64 d]
            have hc2 := fun j => hX2.cell j
            have hl2 := hX2.lt
            clear ga
            refine (rReal_is A n c cs e y 4 d _ hr hok _ hq).mono ?_
            rintro e' w6 ⟨rfl, hb⟩
            replace hr := hr.keep hb
            replace hT := hT.keep hb
            replace hfr := fr_call hfr hb
            replace hX0 := hX0.keep hb
            replace hc0 := fun j => hX0.cell j
            replace hl0 := hX0.lt
            replace hX1 := hX1.keep hb
            replace hc1 := fun j => hX1.cell j
            replace hl1 := hX1.lt
            replace hX2 := hX2.keep hb
            replace hc2 := fun j => hX2.cell j
            replace hl2 := hX2.lt
            clear hb
            go_wp2_with fail
            refine (Day_yes A n c cs e y 4 d _ hr hn hok hq).mono ?_
            rw [HE.out]
            rintro e' w7 ⟨rfl, hb⟩
            replace hr := hr.keep hb
            replace hT := hT.keep hb
            replace hfr := fr_call hfr hb
            replace hX0 := hX0.keep hb
            replace hc0 := fun j => hX0.cell j
            replace hl0 := hX0.lt
            replace hX1 := hX1.keep hb
            replace hc1 := fun j => hX1.cell j
            replace hl1 := hX1.lt
            replace hX2 := hX2.keep hb
            replace hc2 := fun j => hX2.cell j
            replace hl2 := hX2.lt
            clear hb
            go_wp2_with fail
            refine wp_region_noPanic ?_
            refine wp_region_held_drew (S := fun W => (∀ p : Addr, p.block < (w7).heap.size → W.cell? p = (w7).cell? p) ∧ Below (w7).heap.size (w7) W) (by kernel_rfl) ⟨fun _ _ => rfl, fr_drew (fr_refl _)⟩ (fun hHeld => ?_)
            -- the region, step by step
            refine wpAnyH_take (i := 0) (oi := ⟨some 96, .load 24 (.tmp 3), 24, "law.go:298", #[], none⟩) (v := ?_) rfl (by kernel_rfl) (by kernel_rfl) (by kernel_rfl) (fun _ _ _ h => h) (Or.inl ⟨by rfl, fun W hSw => ?_⟩) hHeld ?_
            rotate_left
            · (try dsimp only at hSw); go_simp; (try with_reducible rfl)
            (try simp only [Act.put, List.setIfInBounds_toArray, List.set_cons_zero, List.set_cons_succ])
            refine wpAnyH_take (i := 1) (oi := ⟨some 97, .move (.tmp 2), 3, "law.go:298", #[], none⟩) (v := ?_) rfl (by kernel_rfl) (by kernel_rfl) (by kernel_rfl) (fun _ _ _ h => h) (Or.inl ⟨by rfl, fun W hSw => ?_⟩) hHeld ?_
            rotate_left
            · (try dsimp only at hSw); go_simp; (try with_reducible rfl)
            (try simp only [Act.put, List.setIfInBounds_toArray, List.set_cons_zero, List.set_cons_succ])
            refine wpAnyH_ready (rs := [2]) (by kernel_rfl) (by simp) ?_
            refine AllReadyH.cons (o := ⟨some 98, .call { callee := .value (.func 54), args := #[.const (.int .i64 21), .const (.int .i64 3), .tmp 97], argTypes := #[3, 3, 3] }, 38, "law.go:298", #[⟨1, .data⟩], none⟩) rfl (fun K hK => ?_) AllReadyH.nil
            go_simp
            refine (ldate_is _ _ _ _).mono ?_
            rintro e' wA ⟨rfl, hb⟩
            refine hK.out _ _ (kp_step hb hHeld) (fun hHeld => ?_)
            clear hK K
            (try simp only [Act.put, List.setIfInBounds_toArray, List.set_cons_zero, List.set_cons_succ])
            refine wpAnyH_ready (rs := [3]) (by kernel_rfl) (by simp) ?_
            refine AllReadyH.cons (o := ⟨some 99, .call { callee := .value (.func 24), args := #[.tmp 96, .tmp 98], argTypes := #[24, 38] }, 30, "law.go:298", #[⟨0, .data⟩, ⟨2, .data⟩, ⟨2, .chain⟩], none⟩) rfl (fun K hK => ?_) AllReadyH.nil
            go_simp
            refine (Day_yes A n c cs e y 3 21 _ (hr.keep hHeld.2) hn hok hq21).mono ?_
            rw [HM.out]
            rintro e' wB ⟨rfl, hb⟩
            refine hK.out _ _ (kp_step hb hHeld) (fun hHeld => ?_)
            clear hK K
            (try simp only [Act.put, List.setIfInBounds_toArray, List.set_cons_zero, List.set_cons_succ])
            refine wpAnyH_take (i := 4) (oi := ⟨some 95, .move (.tmp 99), 30, "law.go:298", #[⟨3, .data⟩], none⟩) (v := ?_) rfl (by kernel_rfl) (by kernel_rfl) (by kernel_rfl) (fun _ _ _ h => h) (Or.inl ⟨by rfl, fun W hSw => ?_⟩) hHeld ?_
            rotate_left
            · (try dsimp only at hSw); go_simp; (try with_reducible rfl)
            (try simp only [Act.put, List.setIfInBounds_toArray, List.set_cons_zero, List.set_cons_succ])
            refine wpAnyH_take (i := 5) (oi := ⟨some 100, .extract (.tmp 95) 0, 3, "law.go:298", #[⟨4, .data⟩], none⟩) (v := ?_) rfl (by kernel_rfl) (by kernel_rfl) (by kernel_rfl) (fun _ _ _ h => h) (Or.inl ⟨by rfl, fun W hSw => ?_⟩) hHeld ?_
            rotate_left
            · (try dsimp only at hSw); go_simp; (try with_reducible rfl)
            (try simp only [Act.put, List.setIfInBounds_toArray, List.set_cons_zero, List.set_cons_succ])
            refine wpAnyH_take (i := 6) (oi := ⟨some 101, .extract (.tmp 95) 1, 27, "law.go:298", #[⟨4, .data⟩, ⟨7, .gcOnly .lateStores⟩], none⟩) (v := ?_) rfl (by kernel_rfl) (by kernel_rfl) (by kernel_rfl) (fun _ _ _ h => h) (Or.inl ⟨by rfl, fun W hSw => ?_⟩) hHeld ?_
            rotate_left
            · (try dsimp only at hSw); go_simp; (try with_reducible rfl)
            (try simp only [Act.put, List.setIfInBounds_toArray, List.set_cons_zero, List.set_cons_succ])
            refine wpAnyH_take (i := 7) (oi := ⟨some 11, .assign (.tmp 100), 3, "law.go:298", #[⟨5, .data⟩, ⟨3, .chain⟩, ⟨0, .phase⟩, ⟨1, .phase⟩, ⟨2, .phase⟩, ⟨3, .phase⟩, ⟨4, .phase⟩, ⟨5, .phase⟩, ⟨6, .textOnly .lateStores⟩], none⟩) (v := ?_) rfl (by kernel_rfl) (by kernel_rfl) (by kernel_rfl) (fun _ _ _ h => h) (Or.inl ⟨by rfl, fun W hSw => ?_⟩) hHeld ?_
            rotate_left
            · (try dsimp only at hSw); go_simp; (try with_reducible rfl)
            (try simp only [Act.put, List.setIfInBounds_toArray, List.set_cons_zero, List.set_cons_succ])
            refine wpAnyH_take (i := 8) (oi := ⟨some 12, .assign (.tmp 101), 27, "law.go:298", #[⟨6, .data⟩, ⟨7, .chain⟩, ⟨0, .phase⟩, ⟨1, .phase⟩, ⟨2, .phase⟩, ⟨3, .phase⟩, ⟨4, .phase⟩, ⟨5, .phase⟩, ⟨6, .phase⟩, ⟨7, .phase⟩], none⟩) (v := ?_) rfl (by kernel_rfl) (by kernel_rfl) (by kernel_rfl) (fun _ _ _ h => h) (Or.inl ⟨by rfl, fun W hSw => ?_⟩) hHeld ?_
            rotate_left
            · (try dsimp only at hSw); go_simp; (try with_reducible rfl)
            (try simp only [Act.put, List.setIfInBounds_toArray, List.set_cons_zero, List.set_cons_succ])
            refine wpAnyH_done (by kernel_rfl) ?_ _
            refine NoPanic.normal ?_
            replace hr := hr.keep hHeld.2
            replace hT := hT.keep hHeld.2
            replace hfr := fr_call hfr hHeld.2
            replace hX0 := hX0.keep hHeld.2
            replace hc0 := fun j => hX0.cell j
            replace hl0 := hX0.lt
            replace hX1 := hX1.keep hHeld.2
            replace hc1 := fun j => hX1.cell j
            replace hl1 := hX1.lt
            replace hX2 := hX2.keep hHeld.2
            replace hc2 := fun j => hX2.cell j
            replace hl2 := hX2.lt
            clear hHeld
            go_wp2_with fail
            refine (rNumber_is _ _ _ hE).mono ?_
            rintro e' w8 ⟨rfl, rfl⟩
            go_wp2_with fail
            refine (rWeekday_any E _ (by omega) (by omega)).mono ?_
            rw [HW.out]
            rintro e' w9 ⟨rfl, rfl⟩
            go_wp2_with fail
            refine (Age_ok num den add E _ hm hE).mono ?_
            rw [HA.out]
            rintro e' w10 ⟨rfl, hb⟩
            replace hr := hr.keep hb
            replace hT := hT.keep hb
            replace hfr := fr_call hfr hb
            replace hX0 := hX0.keep hb
            replace hc0 := fun j => hX0.cell j
            replace hl0 := hX0.lt
            replace hX1 := hX1.keep hb
            replace hc1 := fun j => hX1.cell j
            replace hl1 := hX1.lt
            replace hX2 := hX2.keep hb
            replace hc2 := fun j => hX2.cell j
            replace hl2 := hX2.lt
            clear hb
            go_wp2_with fail
            go_loopw [16] (fun i wx => ∃ k : Int, mar ≤ k ∧ k ≤ E - (g - 13) + 1 ∧ i = .int .i64 k ∧ TabP wx ∧ Blk wx (w.heap.size + 1) 65 #[.int .i64 num, .int .i64 den, .int .i64 add] ∧ Below w.heap.size w wx) (fun i _ => (E + 10 - intOf i).toNat)
            case atStart => exact ⟨mar, by omega, by omega, rfl, hT, hX1, hfr⟩
            case round =>
              clear hT hX0 hX1 hX2 hc0 hc1 hc2 hl0 hl1 hl2 hr hfr
              obtain ⟨k, hk1, hk2, rfl, hT, hX, hfr⟩ := hrel
              have hcX := fun j => hX.cell j
              have hlX := hX.lt
              by_cases hle : k ≤ E - (g - 13)
              · have hik : inB k 0 2000000 = true := inB_yes ⟨by omega, by omega⟩
                by_cases hlt : k < E - (g - 13)
                · have hne := HAN.out k hk1 hlt
                  have hne2 : (k == E - (g - 13)) = false := beq_eq_false_iff_ne.2 (by omega)
                  have hne3 : ¬ k = E - (g - 13) := by omega
                  obtain ⟨ak, gk⟩ : ∃ q, ageOf num den add k = q := ⟨_, rfl⟩
                  rw [gk] at hne
                  have HK := Lib.hid gk
                  have hne4 : (ak == 13) = false := beq_eq_false_iff_ne.2 hne
                  clear gk
                  go_wp2_with fail
                  refine (Age_ok num den add k _ hm hik).mono ?_
                  rw [HK.out]
                  rintro e' w9 ⟨rfl, hb⟩
                  go_wp2_with fail
                  refine ⟨⟨k + 1, by omega, by omega, by go_num, hT.keep hb, hX.keep hb, fr_call hfr hb⟩, ?_⟩
                  simp [intOf]; omega
                · obtain rfl : k = E - (g - 13) := by omega
                  go_wp2_with fail
                  refine (Age_ok num den add (E - (g - 13)) _ hm hik).mono ?_
                  rw [HAF.out]
                  rintro e' w9 ⟨rfl, hb⟩
                  go_wp2_with fail
                  refine ⟨⟨E - (g - 13) + 1, by omega, by omega, by go_num, hT.keep hb, hX.keep hb, fr_call hfr hb⟩, ?_⟩
                  simp [intOf]; omega
              · go_wp2_with fail
                refine (known_is _ hT).mono ?_
                rintro e' w10 ⟨rfl, hb⟩
                go_wp2_with fail
                go_ret
                exact ⟨rfl, fr_call hfr hb⟩
end Go.Proofs.YtnpgdifidejohaaGreatDoor
