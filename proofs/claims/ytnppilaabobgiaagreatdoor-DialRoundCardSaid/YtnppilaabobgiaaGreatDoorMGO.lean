/- The theorem of dates: DialRound, walked. -/
import Derived.Test.YtnppilaabobgiaaGreatDoorMEC
import Derived.Test.YtnppilaabobgiaaGreatDoorMB4
import Derived.Test.YtnppilaabobgiaaGreatDoorMB2
import Derived.Test.YtnppilaabobgiaaGreatDoorMD1
import Derived.Test.YtnppilaabobgiaaGreatDoorMD2
import Derived.Test.YtnppilaabobgiaaGreatDoorMD7
import Derived.Test.YtnppilaabobgiaaGreatDoorMC3
namespace Go.Proofs.YtnppilaabobgiaaGreatDoor
open Go.RowKit Dl

theorem real_num {e y m d : Int} {cs : List Int} (hok : calOk e cs = true) (hq : realB cs y m d = true) : inB (dayOf e cs ⟨y, m, d⟩) 0 2000000 = true := by
  obtain ⟨hy, hmm, hd⟩ := real_range hq
  have h1 := firstDay_bounds e cs y hy.1
  have h2 := cum_bounds (leapB cs y) m hmm.1 hmm.2
  have h3 := (calOk_parts hok).1
  apply inB_yes
  unfold dayOf
  simp only
  omega

set_option maxRecDepth 100000 in
set_option maxHeartbeats 8000000 in
theorem round_true (A : Option Addr) (n c : Nat) (cs : List Int) (e day y m d : Int) (w : World) (hr : Rd w A n cs) (hn : n ≤ 9223372036854775807) (hT : TabP w) :
    Calls Tryz.prog 4 #[.agg #[.int .i64 e, .slice A n c], .int .i64 day, .agg #[.int .i64 y, .int .i64 m, .int .i64 d]] w fun e' w' => e' = .returned (.bool true) ∧ Below w.heap.size w w' := by
  have g1 := fr_alloc (fr_alloc (fr_refl w) (.cells #[.int .i64 e, .slice A n c] 24)) (.cells #[.int .i64 y, .int .i64 m, .int .i64 d] 41)
  have hX0 : Blk ((w.alloc (.cells #[.int .i64 e, .slice A n c] 24)).alloc (.cells #[.int .i64 y, .int .i64 m, .int .i64 d] 41)) (w.heap.size) 24 #[.int .i64 e, .slice A n c] := ((Blk.new_at _ _ (by simp)).alloc _)
  have hX1 : Blk ((w.alloc (.cells #[.int .i64 e, .slice A n c] 24)).alloc (.cells #[.int .i64 y, .int .i64 m, .int .i64 d] 41)) (w.heap.size + 1) 41 #[.int .i64 y, .int .i64 m, .int .i64 d] := (Blk.new_at _ _ (by simp))
  cases hs : decide ((n : Int) ≤ 5)
  · go_enter Tryz.func4, Tryz.ntmps4
    go_wp2_with fail
    have hfr := g1
    replace hr := hr.keep g1
    replace hT := hT.keep g1
    have hc0 := fun j => hX0.cell j
    have hc1 := fun j => hX1.cell j
    have hl0 := hX0.lt
    have hl1 := hX1.lt
    refine (lshort_is A n c _ _ false hs).mono ?_
    rintro e' w1 ⟨rfl, hb⟩
    replace hr := hr.keep hb
    replace hT := hT.keep hb
    replace hfr := fr_call hfr hb
    replace hX0 := hX0.keep hb
    replace hc0 := fun j => hX0.cell j
    replace hl0 := hX0.lt
    replace hX1 := hX1.keep hb
    replace hc1 := fun j => hX1.cell j
    replace hl1 := hX1.lt
    clear hb
    go_wp2_with fail
    refine (known_is _ hT).mono ?_
    rintro e' w2 ⟨rfl, hb⟩
    replace hr := hr.keep hb
    replace hT := hT.keep hb
    replace hfr := fr_call hfr hb
    replace hX0 := hX0.keep hb
    replace hc0 := fun j => hX0.cell j
    replace hl0 := hX0.lt
    replace hX1 := hX1.keep hb
    replace hc1 := fun j => hX1.cell j
    replace hl1 := hX1.lt
    clear hb
    go_wp2_with fail
    go_ret
    exact ⟨rfl, hfr⟩
  · cases hok : calOk e cs
    · go_enter Tryz.func4, Tryz.ntmps4
      go_wp2_with fail
      have hfr := g1
      replace hr := hr.keep g1
      replace hT := hT.keep g1
      have hc0 := fun j => hX0.cell j
      have hc1 := fun j => hX1.cell j
      have hl0 := hX0.lt
      have hl1 := hX1.lt
      refine (lshort_is A n c _ _ true hs).mono ?_
      rintro e' w1 ⟨rfl, hb⟩
      replace hr := hr.keep hb
      replace hT := hT.keep hb
      replace hfr := fr_call hfr hb
      replace hX0 := hX0.keep hb
      replace hc0 := fun j => hX0.cell j
      replace hl0 := hX0.lt
      replace hX1 := hX1.keep hb
      replace hc1 := fun j => hX1.cell j
      replace hl1 := hX1.lt
      clear hb
      go_wp2_with fail
      refine (rCalendar_is A n c cs e _ hr hn _ hok).mono ?_
      rintro e' w2 ⟨rfl, hb⟩
      replace hr := hr.keep hb
      replace hT := hT.keep hb
      replace hfr := fr_call hfr hb
      replace hX0 := hX0.keep hb
      replace hc0 := fun j => hX0.cell j
      replace hl0 := hX0.lt
      replace hX1 := hX1.keep hb
      replace hc1 := fun j => hX1.cell j
      replace hl1 := hX1.lt
      clear hb
      go_wp2_with fail
      refine (known_is _ hT).mono ?_
      rintro e' w3 ⟨rfl, hb⟩
      replace hr := hr.keep hb
      replace hT := hT.keep hb
      replace hfr := fr_call hfr hb
      replace hX0 := hX0.keep hb
      replace hc0 := fun j => hX0.cell j
      replace hl0 := hX0.lt
      replace hX1 := hX1.keep hb
      replace hc1 := fun j => hX1.cell j
      replace hl1 := hX1.lt
      clear hb
      go_wp2_with fail
      go_ret
      exact ⟨rfl, hfr⟩
    · cases hd : inB day 0 2000000
      · go_enter Tryz.func4, Tryz.ntmps4
        go_wp2_with fail
        have hfr := g1
        replace hr := hr.keep g1
        replace hT := hT.keep g1
        have hc0 := fun j => hX0.cell j
        have hc1 := fun j => hX1.cell j
        have hl0 := hX0.lt
        have hl1 := hX1.lt
        refine (lshort_is A n c _ _ true hs).mono ?_
        rintro e' w1 ⟨rfl, hb⟩
        replace hr := hr.keep hb
        replace hT := hT.keep hb
        replace hfr := fr_call hfr hb
        replace hX0 := hX0.keep hb
        replace hc0 := fun j => hX0.cell j
        replace hl0 := hX0.lt
        replace hX1 := hX1.keep hb
        replace hc1 := fun j => hX1.cell j
        replace hl1 := hX1.lt
        clear hb
        go_wp2_with fail
        refine (rCalendar_is A n c cs e _ hr hn _ hok).mono ?_
        rintro e' w2 ⟨rfl, hb⟩
        replace hr := hr.keep hb
        replace hT := hT.keep hb
        replace hfr := fr_call hfr hb
        replace hX0 := hX0.keep hb
        replace hc0 := fun j => hX0.cell j
        replace hl0 := hX0.lt
        replace hX1 := hX1.keep hb
        replace hc1 := fun j => hX1.cell j
        replace hl1 := hX1.lt
        clear hb
        go_wp2_with fail
        refine (rNumber_is _ _ _ hd).mono ?_
        rintro e' w3 ⟨rfl, rfl⟩
        go_wp2_with fail
        refine (known_is _ hT).mono ?_
        rintro e' w4 ⟨rfl, hb⟩
        replace hr := hr.keep hb
        replace hT := hT.keep hb
        replace hfr := fr_call hfr hb
        replace hX0 := hX0.keep hb
        replace hc0 := fun j => hX0.cell j
        replace hl0 := hX0.lt
        replace hX1 := hX1.keep hb
        replace hc1 := fun j => hX1.cell j
        replace hl1 := hX1.lt
        clear hb
        go_wp2_with fail
        go_ret
        exact ⟨rfl, hfr⟩
      · have hd2 := inB_iff.1 hd
        cases hd' : inB (day + 1) 0 2000000
        · go_enter Tryz.func4, Tryz.ntmps4
          go_wp2_with fail
          have hfr := g1
          replace hr := hr.keep g1
          replace hT := hT.keep g1
          have hc0 := fun j => hX0.cell j
          have hc1 := fun j => hX1.cell j
          have hl0 := hX0.lt
          have hl1 := hX1.lt
          refine (lshort_is A n c _ _ true hs).mono ?_
          rintro e' w1 ⟨rfl, hb⟩
          replace hr := hr.keep hb
          replace hT := hT.keep hb
          replace hfr := fr_call hfr hb
          replace hX0 := hX0.keep hb
          replace hc0 := fun j => hX0.cell j
          replace hl0 := hX0.lt
          replace hX1 := hX1.keep hb
          replace hc1 := fun j => hX1.cell j
          replace hl1 := hX1.lt
          clear hb
          go_wp2_with fail
          refine (rCalendar_is A n c cs e _ hr hn _ hok).mono ?_
          rintro e' w2 ⟨rfl, hb⟩
          replace hr := hr.keep hb
          replace hT := hT.keep hb
          replace hfr := fr_call hfr hb
          replace hX0 := hX0.keep hb
          replace hc0 := fun j => hX0.cell j
          replace hl0 := hX0.lt
          replace hX1 := hX1.keep hb
          replace hc1 := fun j => hX1.cell j
          replace hl1 := hX1.lt
          clear hb
          go_wp2_with fail
          refine (rNumber_is _ _ _ hd).mono ?_
          rintro e' w3 ⟨rfl, rfl⟩
          go_wp2_with fail
          refine (rNumber_is _ _ _ hd').mono ?_
          rintro e' w4 ⟨rfl, rfl⟩
          go_wp2_with fail
          refine (known_is _ hT).mono ?_
          rintro e' w5 ⟨rfl, hb⟩
          replace hr := hr.keep hb
          replace hT := hT.keep hb
          replace hfr := fr_call hfr hb
          replace hX0 := hX0.keep hb
          replace hc0 := fun j => hX0.cell j
          replace hl0 := hX0.lt
          replace hX1 := hX1.keep hb
          replace hc1 := fun j => hX1.cell j
          replace hl1 := hX1.lt
          clear hb
          go_wp2_with fail
          go_ret
          exact ⟨rfl, hfr⟩
        · cases hq : realB cs y m d
          · rcases ho : dateOf e cs day with _ | x
            · have hob := date_before ho
              have HO := Lib.hid ho
              clear ho
              rcases hob with ho2 | ⟨he1, ho2⟩
              · have HO2 := Lib.hid ho2
                clear ho2
                go_enter Tryz.func4, Tryz.ntmps4
                go_wp2_with fail
                have hfr := g1
                replace hr := hr.keep g1
                replace hT := hT.keep g1
                have hc0 := fun j => hX0.cell j
                have hc1 := fun j => hX1.cell j
                have hl0 := hX0.lt
                have hl1 := hX1.lt
                refine (lshort_is A n c _ _ true hs).mono ?_
                rintro e' w1 ⟨rfl, hb⟩
                replace hr := hr.keep hb
                replace hT := hT.keep hb
                replace hfr := fr_call hfr hb
                replace hX0 := hX0.keep hb
                replace hc0 := fun j => hX0.cell j
                replace hl0 := hX0.lt
                replace hX1 := hX1.keep hb
                replace hc1 := fun j => hX1.cell j
                replace hl1 := hX1.lt
                clear hb
                go_wp2_with fail
                refine (rCalendar_is A n c cs e _ hr hn _ hok).mono ?_
                rintro e' w2 ⟨rfl, hb⟩
                replace hr := hr.keep hb
                replace hT := hT.keep hb
                replace hfr := fr_call hfr hb
                replace hX0 := hX0.keep hb
                replace hc0 := fun j => hX0.cell j
                replace hl0 := hX0.lt
                replace hX1 := hX1.keep hb
                replace hc1 := fun j => hX1.cell j
                replace hl1 := hX1.lt
                clear hb
                go_wp2_with fail
                refine (rNumber_is _ _ _ hd).mono ?_
                rintro e' w3 ⟨rfl, rfl⟩
                go_wp2_with fail
                refine (rNumber_is _ _ _ hd').mono ?_
                rintro e' w4 ⟨rfl, rfl⟩
                go_wp2_with fail
                refine (rReal_is A n c cs e y m d _ hr hok _ hq).mono ?_
                rintro e' w5 ⟨rfl, hb⟩
                replace hr := hr.keep hb
                replace hT := hT.keep hb
                replace hfr := fr_call hfr hb
                replace hX0 := hX0.keep hb
                replace hc0 := fun j => hX0.cell j
                replace hl0 := hX0.lt
                replace hX1 := hX1.keep hb
                replace hc1 := fun j => hX1.cell j
                replace hl1 := hX1.lt
                clear hb
                go_wp2_with fail
                refine (Date_ok A n c cs e day _ hr hn hok hd).mono ?_
                rw [HO.out]
                simp only [dateV]
                rintro e' w6 ⟨rfl, hb⟩
                replace hr := hr.keep hb
                replace hT := hT.keep hb
                replace hfr := fr_call hfr hb
                replace hX0 := hX0.keep hb
                replace hc0 := fun j => hX0.cell j
                replace hl0 := hX0.lt
                replace hX1 := hX1.keep hb
                replace hc1 := fun j => hX1.cell j
                replace hl1 := hX1.lt
                clear hb
                go_wp2_with fail
                have ga := fr_alloc (fr_refl w6) (.cells #[.int .i64 0, .int .i64 0, .int .i64 0] 41)
                replace hr := hr.keep ga
                replace hT := hT.keep ga
                replace hfr := fr_call hfr ga
                replace hX0 := hX0.keep ga
                replace hc0 := fun j => hX0.cell j
                replace hl0 := hX0.lt
                replace hX1 := hX1.keep ga
                replace hc1 := fun j => hX1.cell j
                replace hl1 := hX1.lt
                have hX2 := Blk.new w6 41 #[.int .i64 0, .int .i64 0, .int .i64 0]
                have hc2 := fun j => hX2.cell j
                have hl2 := hX2.lt
                clear ga
                refine (Date_ok A n c cs e (day + 1) _ hr hn hok hd').mono ?_
                rw [HO2.out]
                simp only [dateV]
                rintro e' w7 ⟨rfl, hb⟩
                replace hr := hr.keep hb
                replace hT := hT.keep hb
                replace hfr := fr_call hfr hb
                replace hX0 := hX0.keep hb
                replace hc0 := fun j => hX0.cell j
                replace hl0 := hX0.lt
                replace hX1 := hX1.keep hb
                replace hc1 := fun j => hX1.cell j
                replace hl1 := hX1.lt
                replace hX2 := hX2.keep hb
                replace hc2 := fun j => hX2.cell j
                replace hl2 := hX2.lt
                clear hb
                go_wp2_with fail
                have ga := fr_alloc (fr_refl w7) (.cells #[.int .i64 0, .int .i64 0, .int .i64 0] 41)
                replace hr := hr.keep ga
                replace hT := hT.keep ga
                replace hfr := fr_call hfr ga
                replace hX0 := hX0.keep ga
                replace hc0 := fun j => hX0.cell j
                replace hl0 := hX0.lt
                replace hX1 := hX1.keep ga
                replace hc1 := fun j => hX1.cell j
                replace hl1 := hX1.lt
                replace hX2 := hX2.keep ga
                replace hc2 := fun j => hX2.cell j
                replace hl2 := hX2.lt
                have hX3 := Blk.new w7 41 #[.int .i64 0, .int .i64 0, .int .i64 0]
                have hc3 := fun j => hX3.cell j
                have hl3 := hX3.lt
                clear ga
                refine (known_is _ hT).mono ?_
                rintro e' w8 ⟨rfl, hb⟩
                replace hr := hr.keep hb
                replace hT := hT.keep hb
                replace hfr := fr_call hfr hb
                replace hX0 := hX0.keep hb
                replace hc0 := fun j => hX0.cell j
                replace hl0 := hX0.lt
                replace hX1 := hX1.keep hb
                replace hc1 := fun j => hX1.cell j
                replace hl1 := hX1.lt
                replace hX2 := hX2.keep hb
                replace hc2 := fun j => hX2.cell j
                replace hl2 := hX2.lt
                replace hX3 := hX3.keep hb
                replace hc3 := fun j => hX3.cell j
                replace hl3 := hX3.lt
                clear hb
                go_wp2_with fail
                go_ret
                exact ⟨rfl, hfr⟩
              · have HO2 := Lib.hid ho2
                clear ho2
                have hee : (day + 1 == e) = true := beq_iff_eq.2 he1
                clear he1
                go_enter Tryz.func4, Tryz.ntmps4
                go_wp2_with fail
                have hfr := g1
                replace hr := hr.keep g1
                replace hT := hT.keep g1
                have hc0 := fun j => hX0.cell j
                have hc1 := fun j => hX1.cell j
                have hl0 := hX0.lt
                have hl1 := hX1.lt
                refine (lshort_is A n c _ _ true hs).mono ?_
                rintro e' w1 ⟨rfl, hb⟩
                replace hr := hr.keep hb
                replace hT := hT.keep hb
                replace hfr := fr_call hfr hb
                replace hX0 := hX0.keep hb
                replace hc0 := fun j => hX0.cell j
                replace hl0 := hX0.lt
                replace hX1 := hX1.keep hb
                replace hc1 := fun j => hX1.cell j
                replace hl1 := hX1.lt
                clear hb
                go_wp2_with fail
                refine (rCalendar_is A n c cs e _ hr hn _ hok).mono ?_
                rintro e' w2 ⟨rfl, hb⟩
                replace hr := hr.keep hb
                replace hT := hT.keep hb
                replace hfr := fr_call hfr hb
                replace hX0 := hX0.keep hb
                replace hc0 := fun j => hX0.cell j
                replace hl0 := hX0.lt
                replace hX1 := hX1.keep hb
                replace hc1 := fun j => hX1.cell j
                replace hl1 := hX1.lt
                clear hb
                go_wp2_with fail
                refine (rNumber_is _ _ _ hd).mono ?_
                rintro e' w3 ⟨rfl, rfl⟩
                go_wp2_with fail
                refine (rNumber_is _ _ _ hd').mono ?_
                rintro e' w4 ⟨rfl, rfl⟩
                go_wp2_with fail
                refine (rReal_is A n c cs e y m d _ hr hok _ hq).mono ?_
                rintro e' w5 ⟨rfl, hb⟩
                replace hr := hr.keep hb
                replace hT := hT.keep hb
                replace hfr := fr_call hfr hb
                replace hX0 := hX0.keep hb
                replace hc0 := fun j => hX0.cell j
                replace hl0 := hX0.lt
                replace hX1 := hX1.keep hb
                replace hc1 := fun j => hX1.cell j
                replace hl1 := hX1.lt
                clear hb
                go_wp2_with fail
                refine (Date_ok A n c cs e day _ hr hn hok hd).mono ?_
                rw [HO.out]
                simp only [dateV]
                rintro e' w6 ⟨rfl, hb⟩
                replace hr := hr.keep hb
                replace hT := hT.keep hb
                replace hfr := fr_call hfr hb
                replace hX0 := hX0.keep hb
                replace hc0 := fun j => hX0.cell j
                replace hl0 := hX0.lt
                replace hX1 := hX1.keep hb
                replace hc1 := fun j => hX1.cell j
                replace hl1 := hX1.lt
                clear hb
                go_wp2_with fail
                have ga := fr_alloc (fr_refl w6) (.cells #[.int .i64 0, .int .i64 0, .int .i64 0] 41)
                replace hr := hr.keep ga
                replace hT := hT.keep ga
                replace hfr := fr_call hfr ga
                replace hX0 := hX0.keep ga
                replace hc0 := fun j => hX0.cell j
                replace hl0 := hX0.lt
                replace hX1 := hX1.keep ga
                replace hc1 := fun j => hX1.cell j
                replace hl1 := hX1.lt
                have hX2 := Blk.new w6 41 #[.int .i64 0, .int .i64 0, .int .i64 0]
                have hc2 := fun j => hX2.cell j
                have hl2 := hX2.lt
                clear ga
                refine (Date_ok A n c cs e (day + 1) _ hr hn hok hd').mono ?_
                rw [HO2.out]
                simp only [dateV]
                rintro e' w7 ⟨rfl, hb⟩
                replace hr := hr.keep hb
                replace hT := hT.keep hb
                replace hfr := fr_call hfr hb
                replace hX0 := hX0.keep hb
                replace hc0 := fun j => hX0.cell j
                replace hl0 := hX0.lt
                replace hX1 := hX1.keep hb
                replace hc1 := fun j => hX1.cell j
                replace hl1 := hX1.lt
                replace hX2 := hX2.keep hb
                replace hc2 := fun j => hX2.cell j
                replace hl2 := hX2.lt
                clear hb
                go_wp2_with fail
                have ga := fr_alloc (fr_refl w7) (.cells #[.int .i64 0, .int .i64 1, .int .i64 1] 41)
                replace hr := hr.keep ga
                replace hT := hT.keep ga
                replace hfr := fr_call hfr ga
                replace hX0 := hX0.keep ga
                replace hc0 := fun j => hX0.cell j
                replace hl0 := hX0.lt
                replace hX1 := hX1.keep ga
                replace hc1 := fun j => hX1.cell j
                replace hl1 := hX1.lt
                replace hX2 := hX2.keep ga
                replace hc2 := fun j => hX2.cell j
                replace hl2 := hX2.lt
                have hX3 := Blk.new w7 41 #[.int .i64 0, .int .i64 1, .int .i64 1]
                have hc3 := fun j => hX3.cell j
                have hl3 := hX3.lt
                clear ga
                refine (known_is _ hT).mono ?_
                rintro e' w8 ⟨rfl, hb⟩
                replace hr := hr.keep hb
                replace hT := hT.keep hb
                replace hfr := fr_call hfr hb
                replace hX0 := hX0.keep hb
                replace hc0 := fun j => hX0.cell j
                replace hl0 := hX0.lt
                replace hX1 := hX1.keep hb
                replace hc1 := fun j => hX1.cell j
                replace hl1 := hX1.lt
                replace hX2 := hX2.keep hb
                replace hc2 := fun j => hX2.cell j
                replace hl2 := hX2.lt
                replace hX3 := hX3.keep hb
                replace hc3 := fun j => hX3.cell j
                replace hl3 := hX3.lt
                clear hb
                go_wp2_with fail
                go_ret
                exact ⟨rfl, hfr⟩
            · obtain ⟨xy, xm, xd⟩ := x
              have hoa := date_after ho
              obtain ⟨hxr, hxd⟩ := dateOf_some.1 ho
              have hqx := realB_iff.2 hxr
              have HDX := Lib.hid hxd
              have HO := Lib.hid ho
              clear ho hxr hxd
              obtain ⟨⟨zy, zm, zd⟩, hz⟩ : ∃ z, nxt cs ⟨xy, xm, xd⟩ = z := ⟨_, rfl⟩
              rw [hz] at hoa
              have HNX := Lib.hid hz
              clear hz
              dsimp only at hoa
              rcases hoa with ⟨hzy, ho2⟩ | ⟨hzy, ho2⟩
              · have HO2 := Lib.hid ho2
                have hzb : inB zy 0 4000 = true := by
                  have hr0 := (dateOf_some.1 ho2).1.1
                  exact inB_yes ⟨hr0, hzy⟩
                clear ho2
                go_enter Tryz.func4, Tryz.ntmps4
                go_wp2_with fail
                have hfr := g1
                replace hr := hr.keep g1
                replace hT := hT.keep g1
                have hc0 := fun j => hX0.cell j
                have hc1 := fun j => hX1.cell j
                have hl0 := hX0.lt
                have hl1 := hX1.lt
                refine (lshort_is A n c _ _ true hs).mono ?_
                rintro e' w1 ⟨rfl, hb⟩
                replace hr := hr.keep hb
                replace hT := hT.keep hb
                replace hfr := fr_call hfr hb
                replace hX0 := hX0.keep hb
                replace hc0 := fun j => hX0.cell j
                replace hl0 := hX0.lt
                replace hX1 := hX1.keep hb
                replace hc1 := fun j => hX1.cell j
                replace hl1 := hX1.lt
                clear hb
                go_wp2_with fail
                refine (rCalendar_is A n c cs e _ hr hn _ hok).mono ?_
                rintro e' w2 ⟨rfl, hb⟩
                replace hr := hr.keep hb
                replace hT := hT.keep hb
                replace hfr := fr_call hfr hb
                replace hX0 := hX0.keep hb
                replace hc0 := fun j => hX0.cell j
                replace hl0 := hX0.lt
                replace hX1 := hX1.keep hb
                replace hc1 := fun j => hX1.cell j
                replace hl1 := hX1.lt
                clear hb
                go_wp2_with fail
                refine (rNumber_is _ _ _ hd).mono ?_
                rintro e' w3 ⟨rfl, rfl⟩
                go_wp2_with fail
                refine (rNumber_is _ _ _ hd').mono ?_
                rintro e' w4 ⟨rfl, rfl⟩
                go_wp2_with fail
                refine (rReal_is A n c cs e y m d _ hr hok _ hq).mono ?_
                rintro e' w5 ⟨rfl, hb⟩
                replace hr := hr.keep hb
                replace hT := hT.keep hb
                replace hfr := fr_call hfr hb
                replace hX0 := hX0.keep hb
                replace hc0 := fun j => hX0.cell j
                replace hl0 := hX0.lt
                replace hX1 := hX1.keep hb
                replace hc1 := fun j => hX1.cell j
                replace hl1 := hX1.lt
                clear hb
                go_wp2_with fail
                refine (Date_ok A n c cs e day _ hr hn hok hd).mono ?_
                rw [HO.out]
                simp only [dateV]
                rintro e' w6 ⟨rfl, hb⟩
                replace hr := hr.keep hb
                replace hT := hT.keep hb
                replace hfr := fr_call hfr hb
                replace hX0 := hX0.keep hb
                replace hc0 := fun j => hX0.cell j
                replace hl0 := hX0.lt
                replace hX1 := hX1.keep hb
                replace hc1 := fun j => hX1.cell j
                replace hl1 := hX1.lt
                clear hb
                go_wp2_with fail
                have ga := fr_alloc (fr_refl w6) (.cells #[.int .i64 xy, .int .i64 xm, .int .i64 xd] 41)
                replace hr := hr.keep ga
                replace hT := hT.keep ga
                replace hfr := fr_call hfr ga
                replace hX0 := hX0.keep ga
                replace hc0 := fun j => hX0.cell j
                replace hl0 := hX0.lt
                replace hX1 := hX1.keep ga
                replace hc1 := fun j => hX1.cell j
                replace hl1 := hX1.lt
                have hX2 := Blk.new w6 41 #[.int .i64 xy, .int .i64 xm, .int .i64 xd]
                have hc2 := fun j => hX2.cell j
                have hl2 := hX2.lt
                clear ga
                refine (Date_ok A n c cs e (day + 1) _ hr hn hok hd').mono ?_
                rw [HO2.out]
                simp only [dateV]
                rintro e' w7 ⟨rfl, hb⟩
                replace hr := hr.keep hb
                replace hT := hT.keep hb
                replace hfr := fr_call hfr hb
                replace hX0 := hX0.keep hb
                replace hc0 := fun j => hX0.cell j
                replace hl0 := hX0.lt
                replace hX1 := hX1.keep hb
                replace hc1 := fun j => hX1.cell j
                replace hl1 := hX1.lt
                replace hX2 := hX2.keep hb
                replace hc2 := fun j => hX2.cell j
                replace hl2 := hX2.lt
                clear hb
                go_wp2_with fail
                have ga := fr_alloc (fr_refl w7) (.cells #[.int .i64 zy, .int .i64 zm, .int .i64 zd] 41)
                replace hr := hr.keep ga
                replace hT := hT.keep ga
                replace hfr := fr_call hfr ga
                replace hX0 := hX0.keep ga
                replace hc0 := fun j => hX0.cell j
                replace hl0 := hX0.lt
                replace hX1 := hX1.keep ga
                replace hc1 := fun j => hX1.cell j
                replace hl1 := hX1.lt
                replace hX2 := hX2.keep ga
                replace hc2 := fun j => hX2.cell j
                replace hl2 := hX2.lt
                have hX3 := Blk.new w7 41 #[.int .i64 zy, .int .i64 zm, .int .i64 zd]
                have hc3 := fun j => hX3.cell j
                have hl3 := hX3.lt
                clear ga
                refine (rReal_is A n c cs e xy xm xd _ hr hok _ hqx).mono ?_
                rintro e' w8 ⟨rfl, hb⟩
                replace hr := hr.keep hb
                replace hT := hT.keep hb
                replace hfr := fr_call hfr hb
                replace hX0 := hX0.keep hb
                replace hc0 := fun j => hX0.cell j
                replace hl0 := hX0.lt
                replace hX1 := hX1.keep hb
                replace hc1 := fun j => hX1.cell j
                replace hl1 := hX1.lt
                replace hX2 := hX2.keep hb
                replace hc2 := fun j => hX2.cell j
                replace hl2 := hX2.lt
                replace hX3 := hX3.keep hb
                replace hc3 := fun j => hX3.cell j
                replace hl3 := hX3.lt
                clear hb
                go_wp2_with fail
                refine (Day_yes A n c cs e xy xm xd _ hr hn hok hqx).mono ?_
                rw [HDX.out]
                rintro e' w9 ⟨rfl, hb⟩
                replace hr := hr.keep hb
                replace hT := hT.keep hb
                replace hfr := fr_call hfr hb
                replace hX0 := hX0.keep hb
                replace hc0 := fun j => hX0.cell j
                replace hl0 := hX0.lt
                replace hX1 := hX1.keep hb
                replace hc1 := fun j => hX1.cell j
                replace hl1 := hX1.lt
                replace hX2 := hX2.keep hb
                replace hc2 := fun j => hX2.cell j
                replace hl2 := hX2.lt
                replace hX3 := hX3.keep hb
                replace hc3 := fun j => hX3.cell j
                replace hl3 := hX3.lt
                clear hb
                go_wp2_with fail
                refine (rNext_any A n c cs e xy xm xd ⟨zy, zm, zd⟩ _ hr hok hqx HNX.out).mono ?_
                dsimp only
                rintro e' w10 ⟨rfl, hb⟩
                replace hr := hr.keep hb
                replace hT := hT.keep hb
                replace hfr := fr_call hfr hb
                replace hX0 := hX0.keep hb
                replace hc0 := fun j => hX0.cell j
                replace hl0 := hX0.lt
                replace hX1 := hX1.keep hb
                replace hc1 := fun j => hX1.cell j
                replace hl1 := hX1.lt
                replace hX2 := hX2.keep hb
                replace hc2 := fun j => hX2.cell j
                replace hl2 := hX2.lt
                replace hX3 := hX3.keep hb
                replace hc3 := fun j => hX3.cell j
                replace hl3 := hX3.lt
                clear hb
                go_wp2_with fail
                have ga := fr_alloc (fr_refl w10) (.cells #[.int .i64 zy, .int .i64 zm, .int .i64 zd] 41)
                replace hr := hr.keep ga
                replace hT := hT.keep ga
                replace hfr := fr_call hfr ga
                replace hX0 := hX0.keep ga
                replace hc0 := fun j => hX0.cell j
                replace hl0 := hX0.lt
                replace hX1 := hX1.keep ga
                replace hc1 := fun j => hX1.cell j
                replace hl1 := hX1.lt
                replace hX2 := hX2.keep ga
                replace hc2 := fun j => hX2.cell j
                replace hl2 := hX2.lt
                replace hX3 := hX3.keep ga
                replace hc3 := fun j => hX3.cell j
                replace hl3 := hX3.lt
                have hX4 := Blk.new w10 41 #[.int .i64 zy, .int .i64 zm, .int .i64 zd]
                have hc4 := fun j => hX4.cell j
                have hl4 := hX4.lt
                clear ga
                refine (rYear_is _ _ _ hzb).mono ?_
                rintro e' w11 ⟨rfl, rfl⟩
                go_wp2_with fail
                refine (known_is _ hT).mono ?_
                rintro e' w12 ⟨rfl, hb⟩
                replace hr := hr.keep hb
                replace hT := hT.keep hb
                replace hfr := fr_call hfr hb
                replace hX0 := hX0.keep hb
                replace hc0 := fun j => hX0.cell j
                replace hl0 := hX0.lt
                replace hX1 := hX1.keep hb
                replace hc1 := fun j => hX1.cell j
                replace hl1 := hX1.lt
                replace hX2 := hX2.keep hb
                replace hc2 := fun j => hX2.cell j
                replace hl2 := hX2.lt
                replace hX3 := hX3.keep hb
                replace hc3 := fun j => hX3.cell j
                replace hl3 := hX3.lt
                replace hX4 := hX4.keep hb
                replace hc4 := fun j => hX4.cell j
                replace hl4 := hX4.lt
                clear hb
                go_wp2_with fail
                go_ret
                exact ⟨rfl, hfr⟩
              · have HO2 := Lib.hid ho2
                have hzb : inB zy 0 4000 = false := inB_no (by omega)
                clear ho2
                go_enter Tryz.func4, Tryz.ntmps4
                go_wp2_with fail
                have hfr := g1
                replace hr := hr.keep g1
                replace hT := hT.keep g1
                have hc0 := fun j => hX0.cell j
                have hc1 := fun j => hX1.cell j
                have hl0 := hX0.lt
                have hl1 := hX1.lt
                refine (lshort_is A n c _ _ true hs).mono ?_
                rintro e' w1 ⟨rfl, hb⟩
                replace hr := hr.keep hb
                replace hT := hT.keep hb
                replace hfr := fr_call hfr hb
                replace hX0 := hX0.keep hb
                replace hc0 := fun j => hX0.cell j
                replace hl0 := hX0.lt
                replace hX1 := hX1.keep hb
                replace hc1 := fun j => hX1.cell j
                replace hl1 := hX1.lt
                clear hb
                go_wp2_with fail
                refine (rCalendar_is A n c cs e _ hr hn _ hok).mono ?_
                rintro e' w2 ⟨rfl, hb⟩
                replace hr := hr.keep hb
                replace hT := hT.keep hb
                replace hfr := fr_call hfr hb
                replace hX0 := hX0.keep hb
                replace hc0 := fun j => hX0.cell j
                replace hl0 := hX0.lt
                replace hX1 := hX1.keep hb
                replace hc1 := fun j => hX1.cell j
                replace hl1 := hX1.lt
                clear hb
                go_wp2_with fail
                refine (rNumber_is _ _ _ hd).mono ?_
                rintro e' w3 ⟨rfl, rfl⟩
                go_wp2_with fail
                refine (rNumber_is _ _ _ hd').mono ?_
                rintro e' w4 ⟨rfl, rfl⟩
                go_wp2_with fail
                refine (rReal_is A n c cs e y m d _ hr hok _ hq).mono ?_
                rintro e' w5 ⟨rfl, hb⟩
                replace hr := hr.keep hb
                replace hT := hT.keep hb
                replace hfr := fr_call hfr hb
                replace hX0 := hX0.keep hb
                replace hc0 := fun j => hX0.cell j
                replace hl0 := hX0.lt
                replace hX1 := hX1.keep hb
                replace hc1 := fun j => hX1.cell j
                replace hl1 := hX1.lt
                clear hb
                go_wp2_with fail
                refine (Date_ok A n c cs e day _ hr hn hok hd).mono ?_
                rw [HO.out]
                simp only [dateV]
                rintro e' w6 ⟨rfl, hb⟩
                replace hr := hr.keep hb
                replace hT := hT.keep hb
                replace hfr := fr_call hfr hb
                replace hX0 := hX0.keep hb
                replace hc0 := fun j => hX0.cell j
                replace hl0 := hX0.lt
                replace hX1 := hX1.keep hb
                replace hc1 := fun j => hX1.cell j
                replace hl1 := hX1.lt
                clear hb
                go_wp2_with fail
                have ga := fr_alloc (fr_refl w6) (.cells #[.int .i64 xy, .int .i64 xm, .int .i64 xd] 41)
                replace hr := hr.keep ga
                replace hT := hT.keep ga
                replace hfr := fr_call hfr ga
                replace hX0 := hX0.keep ga
                replace hc0 := fun j => hX0.cell j
                replace hl0 := hX0.lt
                replace hX1 := hX1.keep ga
                replace hc1 := fun j => hX1.cell j
                replace hl1 := hX1.lt
                have hX2 := Blk.new w6 41 #[.int .i64 xy, .int .i64 xm, .int .i64 xd]
                have hc2 := fun j => hX2.cell j
                have hl2 := hX2.lt
                clear ga
                refine (Date_ok A n c cs e (day + 1) _ hr hn hok hd').mono ?_
                rw [HO2.out]
                simp only [dateV]
                rintro e' w7 ⟨rfl, hb⟩
                replace hr := hr.keep hb
                replace hT := hT.keep hb
                replace hfr := fr_call hfr hb
                replace hX0 := hX0.keep hb
                replace hc0 := fun j => hX0.cell j
                replace hl0 := hX0.lt
                replace hX1 := hX1.keep hb
                replace hc1 := fun j => hX1.cell j
                replace hl1 := hX1.lt
                replace hX2 := hX2.keep hb
                replace hc2 := fun j => hX2.cell j
                replace hl2 := hX2.lt
                clear hb
                go_wp2_with fail
                have ga := fr_alloc (fr_refl w7) (.cells #[.int .i64 0, .int .i64 0, .int .i64 0] 41)
                replace hr := hr.keep ga
                replace hT := hT.keep ga
                replace hfr := fr_call hfr ga
                replace hX0 := hX0.keep ga
                replace hc0 := fun j => hX0.cell j
                replace hl0 := hX0.lt
                replace hX1 := hX1.keep ga
                replace hc1 := fun j => hX1.cell j
                replace hl1 := hX1.lt
                replace hX2 := hX2.keep ga
                replace hc2 := fun j => hX2.cell j
                replace hl2 := hX2.lt
                have hX3 := Blk.new w7 41 #[.int .i64 0, .int .i64 0, .int .i64 0]
                have hc3 := fun j => hX3.cell j
                have hl3 := hX3.lt
                clear ga
                refine (rReal_is A n c cs e xy xm xd _ hr hok _ hqx).mono ?_
                rintro e' w8 ⟨rfl, hb⟩
                replace hr := hr.keep hb
                replace hT := hT.keep hb
                replace hfr := fr_call hfr hb
                replace hX0 := hX0.keep hb
                replace hc0 := fun j => hX0.cell j
                replace hl0 := hX0.lt
                replace hX1 := hX1.keep hb
                replace hc1 := fun j => hX1.cell j
                replace hl1 := hX1.lt
                replace hX2 := hX2.keep hb
                replace hc2 := fun j => hX2.cell j
                replace hl2 := hX2.lt
                replace hX3 := hX3.keep hb
                replace hc3 := fun j => hX3.cell j
                replace hl3 := hX3.lt
                clear hb
                go_wp2_with fail
                refine (Day_yes A n c cs e xy xm xd _ hr hn hok hqx).mono ?_
                rw [HDX.out]
                rintro e' w9 ⟨rfl, hb⟩
                replace hr := hr.keep hb
                replace hT := hT.keep hb
                replace hfr := fr_call hfr hb
                replace hX0 := hX0.keep hb
                replace hc0 := fun j => hX0.cell j
                replace hl0 := hX0.lt
                replace hX1 := hX1.keep hb
                replace hc1 := fun j => hX1.cell j
                replace hl1 := hX1.lt
                replace hX2 := hX2.keep hb
                replace hc2 := fun j => hX2.cell j
                replace hl2 := hX2.lt
                replace hX3 := hX3.keep hb
                replace hc3 := fun j => hX3.cell j
                replace hl3 := hX3.lt
                clear hb
                go_wp2_with fail
                refine (rNext_any A n c cs e xy xm xd ⟨zy, zm, zd⟩ _ hr hok hqx HNX.out).mono ?_
                dsimp only
                rintro e' w10 ⟨rfl, hb⟩
                replace hr := hr.keep hb
                replace hT := hT.keep hb
                replace hfr := fr_call hfr hb
                replace hX0 := hX0.keep hb
                replace hc0 := fun j => hX0.cell j
                replace hl0 := hX0.lt
                replace hX1 := hX1.keep hb
                replace hc1 := fun j => hX1.cell j
                replace hl1 := hX1.lt
                replace hX2 := hX2.keep hb
                replace hc2 := fun j => hX2.cell j
                replace hl2 := hX2.lt
                replace hX3 := hX3.keep hb
                replace hc3 := fun j => hX3.cell j
                replace hl3 := hX3.lt
                clear hb
                go_wp2_with fail
                have ga := fr_alloc (fr_refl w10) (.cells #[.int .i64 zy, .int .i64 zm, .int .i64 zd] 41)
                replace hr := hr.keep ga
                replace hT := hT.keep ga
                replace hfr := fr_call hfr ga
                replace hX0 := hX0.keep ga
                replace hc0 := fun j => hX0.cell j
                replace hl0 := hX0.lt
                replace hX1 := hX1.keep ga
                replace hc1 := fun j => hX1.cell j
                replace hl1 := hX1.lt
                replace hX2 := hX2.keep ga
                replace hc2 := fun j => hX2.cell j
                replace hl2 := hX2.lt
                replace hX3 := hX3.keep ga
                replace hc3 := fun j => hX3.cell j
                replace hl3 := hX3.lt
                have hX4 := Blk.new w10 41 #[.int .i64 zy, .int .i64 zm, .int .i64 zd]
                have hc4 := fun j => hX4.cell j
                have hl4 := hX4.lt
                clear ga
                refine (rYear_is _ _ _ hzb).mono ?_
                rintro e' w11 ⟨rfl, rfl⟩
                go_wp2_with fail
                refine (known_is _ hT).mono ?_
                rintro e' w12 ⟨rfl, hb⟩
                replace hr := hr.keep hb
                replace hT := hT.keep hb
                replace hfr := fr_call hfr hb
                replace hX0 := hX0.keep hb
                replace hc0 := fun j => hX0.cell j
                replace hl0 := hX0.lt
                replace hX1 := hX1.keep hb
                replace hc1 := fun j => hX1.cell j
                replace hl1 := hX1.lt
                replace hX2 := hX2.keep hb
                replace hc2 := fun j => hX2.cell j
                replace hl2 := hX2.lt
                replace hX3 := hX3.keep hb
                replace hc3 := fun j => hX3.cell j
                replace hl3 := hX3.lt
                replace hX4 := hX4.keep hb
                replace hc4 := fun j => hX4.cell j
                replace hl4 := hX4.lt
                clear hb
                go_wp2_with fail
                go_ret
                exact ⟨rfl, hfr⟩
          · have hqd := (dateOf_some (e := e)).2 ⟨realB_iff.1 hq, rfl⟩
            have hnum := real_num (e := e) hok hq
            obtain ⟨dq, gd⟩ : ∃ z, dayOf e cs ⟨y, m, d⟩ = z := ⟨_, rfl⟩
            rw [gd] at hqd hnum
            have HDQ := Lib.hid gd
            have HDD := Lib.hid hqd
            have hnn := inB_iff.1 hnum
            clear gd hqd
            rcases ho : dateOf e cs day with _ | x
            · have hob := date_before ho
              have HO := Lib.hid ho
              clear ho
              rcases hob with ho2 | ⟨he1, ho2⟩
              · have HO2 := Lib.hid ho2
                clear ho2
                go_enter Tryz.func4, Tryz.ntmps4
                go_wp2_with fail
                have hfr := g1
                replace hr := hr.keep g1
                replace hT := hT.keep g1
                have hc0 := fun j => hX0.cell j
                have hc1 := fun j => hX1.cell j
                have hl0 := hX0.lt
                have hl1 := hX1.lt
                refine (lshort_is A n c _ _ true hs).mono ?_
                rintro e' w1 ⟨rfl, hb⟩
                replace hr := hr.keep hb
                replace hT := hT.keep hb
                replace hfr := fr_call hfr hb
                replace hX0 := hX0.keep hb
                replace hc0 := fun j => hX0.cell j
                replace hl0 := hX0.lt
                replace hX1 := hX1.keep hb
                replace hc1 := fun j => hX1.cell j
                replace hl1 := hX1.lt
                clear hb
                go_wp2_with fail
                refine (rCalendar_is A n c cs e _ hr hn _ hok).mono ?_
                rintro e' w2 ⟨rfl, hb⟩
                replace hr := hr.keep hb
                replace hT := hT.keep hb
                replace hfr := fr_call hfr hb
                replace hX0 := hX0.keep hb
                replace hc0 := fun j => hX0.cell j
                replace hl0 := hX0.lt
                replace hX1 := hX1.keep hb
                replace hc1 := fun j => hX1.cell j
                replace hl1 := hX1.lt
                clear hb
                go_wp2_with fail
                refine (rNumber_is _ _ _ hd).mono ?_
                rintro e' w3 ⟨rfl, rfl⟩
                go_wp2_with fail
                refine (rNumber_is _ _ _ hd').mono ?_
                rintro e' w4 ⟨rfl, rfl⟩
                go_wp2_with fail
                refine (rReal_is A n c cs e y m d _ hr hok _ hq).mono ?_
                rintro e' w5 ⟨rfl, hb⟩
                replace hr := hr.keep hb
                replace hT := hT.keep hb
                replace hfr := fr_call hfr hb
                replace hX0 := hX0.keep hb
                replace hc0 := fun j => hX0.cell j
                replace hl0 := hX0.lt
                replace hX1 := hX1.keep hb
                replace hc1 := fun j => hX1.cell j
                replace hl1 := hX1.lt
                clear hb
                go_wp2_with fail
                refine (Day_yes A n c cs e y m d _ hr hn hok hq).mono ?_
                rw [HDQ.out]
                rintro e' w6 ⟨rfl, hb⟩
                replace hr := hr.keep hb
                replace hT := hT.keep hb
                replace hfr := fr_call hfr hb
                replace hX0 := hX0.keep hb
                replace hc0 := fun j => hX0.cell j
                replace hl0 := hX0.lt
                replace hX1 := hX1.keep hb
                replace hc1 := fun j => hX1.cell j
                replace hl1 := hX1.lt
                clear hb
                go_wp2_with fail
                refine (rNumber_is _ _ _ hnum).mono ?_
                rintro e' w7 ⟨rfl, rfl⟩
                go_wp2_with fail
                refine (Date_ok A n c cs e dq _ hr hn hok hnum).mono ?_
                rw [HDD.out]
                simp only [dateV]
                rintro e' w8 ⟨rfl, hb⟩
                replace hr := hr.keep hb
                replace hT := hT.keep hb
                replace hfr := fr_call hfr hb
                replace hX0 := hX0.keep hb
                replace hc0 := fun j => hX0.cell j
                replace hl0 := hX0.lt
                replace hX1 := hX1.keep hb
                replace hc1 := fun j => hX1.cell j
                replace hl1 := hX1.lt
                clear hb
                go_wp2_with fail
                have ga := fr_alloc (fr_refl w8) (.cells #[.int .i64 y, .int .i64 m, .int .i64 d] 41)
                replace hr := hr.keep ga
                replace hT := hT.keep ga
                replace hfr := fr_call hfr ga
                replace hX0 := hX0.keep ga
                replace hc0 := fun j => hX0.cell j
                replace hl0 := hX0.lt
                replace hX1 := hX1.keep ga
                replace hc1 := fun j => hX1.cell j
                replace hl1 := hX1.lt
                have hX2 := Blk.new w8 41 #[.int .i64 y, .int .i64 m, .int .i64 d]
                have hc2 := fun j => hX2.cell j
                have hl2 := hX2.lt
                clear ga
                refine (Date_ok A n c cs e day _ hr hn hok hd).mono ?_
                rw [HO.out]
                simp only [dateV]
                rintro e' w9 ⟨rfl, hb⟩
                replace hr := hr.keep hb
                replace hT := hT.keep hb
                replace hfr := fr_call hfr hb
                replace hX0 := hX0.keep hb
                replace hc0 := fun j => hX0.cell j
                replace hl0 := hX0.lt
                replace hX1 := hX1.keep hb
                replace hc1 := fun j => hX1.cell j
                replace hl1 := hX1.lt
                replace hX2 := hX2.keep hb
                replace hc2 := fun j => hX2.cell j
                replace hl2 := hX2.lt
                clear hb
                go_wp2_with fail
                have ga := fr_alloc (fr_refl w9) (.cells #[.int .i64 0, .int .i64 0, .int .i64 0] 41)
                replace hr := hr.keep ga
                replace hT := hT.keep ga
                replace hfr := fr_call hfr ga
                replace hX0 := hX0.keep ga
                replace hc0 := fun j => hX0.cell j
                replace hl0 := hX0.lt
                replace hX1 := hX1.keep ga
                replace hc1 := fun j => hX1.cell j
                replace hl1 := hX1.lt
                replace hX2 := hX2.keep ga
                replace hc2 := fun j => hX2.cell j
                replace hl2 := hX2.lt
                have hX3 := Blk.new w9 41 #[.int .i64 0, .int .i64 0, .int .i64 0]
                have hc3 := fun j => hX3.cell j
                have hl3 := hX3.lt
                clear ga
                refine (Date_ok A n c cs e (day + 1) _ hr hn hok hd').mono ?_
                rw [HO2.out]
                simp only [dateV]
                rintro e' w10 ⟨rfl, hb⟩
                replace hr := hr.keep hb
                replace hT := hT.keep hb
                replace hfr := fr_call hfr hb
                replace hX0 := hX0.keep hb
                replace hc0 := fun j => hX0.cell j
                replace hl0 := hX0.lt
                replace hX1 := hX1.keep hb
                replace hc1 := fun j => hX1.cell j
                replace hl1 := hX1.lt
                replace hX2 := hX2.keep hb
                replace hc2 := fun j => hX2.cell j
                replace hl2 := hX2.lt
                replace hX3 := hX3.keep hb
                replace hc3 := fun j => hX3.cell j
                replace hl3 := hX3.lt
                clear hb
                go_wp2_with fail
                have ga := fr_alloc (fr_refl w10) (.cells #[.int .i64 0, .int .i64 0, .int .i64 0] 41)
                replace hr := hr.keep ga
                replace hT := hT.keep ga
                replace hfr := fr_call hfr ga
                replace hX0 := hX0.keep ga
                replace hc0 := fun j => hX0.cell j
                replace hl0 := hX0.lt
                replace hX1 := hX1.keep ga
                replace hc1 := fun j => hX1.cell j
                replace hl1 := hX1.lt
                replace hX2 := hX2.keep ga
                replace hc2 := fun j => hX2.cell j
                replace hl2 := hX2.lt
                replace hX3 := hX3.keep ga
                replace hc3 := fun j => hX3.cell j
                replace hl3 := hX3.lt
                have hX4 := Blk.new w10 41 #[.int .i64 0, .int .i64 0, .int .i64 0]
                have hc4 := fun j => hX4.cell j
                have hl4 := hX4.lt
                clear ga
                refine (known_is _ hT).mono ?_
                rintro e' w11 ⟨rfl, hb⟩
                replace hr := hr.keep hb
                replace hT := hT.keep hb
                replace hfr := fr_call hfr hb
                replace hX0 := hX0.keep hb
                replace hc0 := fun j => hX0.cell j
                replace hl0 := hX0.lt
                replace hX1 := hX1.keep hb
                replace hc1 := fun j => hX1.cell j
                replace hl1 := hX1.lt
                replace hX2 := hX2.keep hb
                replace hc2 := fun j => hX2.cell j
                replace hl2 := hX2.lt
                replace hX3 := hX3.keep hb
                replace hc3 := fun j => hX3.cell j
                replace hl3 := hX3.lt
                replace hX4 := hX4.keep hb
                replace hc4 := fun j => hX4.cell j
                replace hl4 := hX4.lt
                clear hb
                go_wp2_with fail
                go_ret
                exact ⟨rfl, hfr⟩
              · have HO2 := Lib.hid ho2
                clear ho2
                have hee : (day + 1 == e) = true := beq_iff_eq.2 he1
                clear he1
                go_enter Tryz.func4, Tryz.ntmps4
                go_wp2_with fail
                have hfr := g1
                replace hr := hr.keep g1
                replace hT := hT.keep g1
                have hc0 := fun j => hX0.cell j
                have hc1 := fun j => hX1.cell j
                have hl0 := hX0.lt
                have hl1 := hX1.lt
                refine (lshort_is A n c _ _ true hs).mono ?_
                rintro e' w1 ⟨rfl, hb⟩
                replace hr := hr.keep hb
                replace hT := hT.keep hb
                replace hfr := fr_call hfr hb
                replace hX0 := hX0.keep hb
                replace hc0 := fun j => hX0.cell j
                replace hl0 := hX0.lt
                replace hX1 := hX1.keep hb
                replace hc1 := fun j => hX1.cell j
                replace hl1 := hX1.lt
                clear hb
                go_wp2_with fail
                refine (rCalendar_is A n c cs e _ hr hn _ hok).mono ?_
                rintro e' w2 ⟨rfl, hb⟩
                replace hr := hr.keep hb
                replace hT := hT.keep hb
                replace hfr := fr_call hfr hb
                replace hX0 := hX0.keep hb
                replace hc0 := fun j => hX0.cell j
                replace hl0 := hX0.lt
                replace hX1 := hX1.keep hb
                replace hc1 := fun j => hX1.cell j
                replace hl1 := hX1.lt
                clear hb
                go_wp2_with fail
                refine (rNumber_is _ _ _ hd).mono ?_
                rintro e' w3 ⟨rfl, rfl⟩
                go_wp2_with fail
                refine (rNumber_is _ _ _ hd').mono ?_
                rintro e' w4 ⟨rfl, rfl⟩
                go_wp2_with fail
                refine (rReal_is A n c cs e y m d _ hr hok _ hq).mono ?_
                rintro e' w5 ⟨rfl, hb⟩
                replace hr := hr.keep hb
                replace hT := hT.keep hb
                replace hfr := fr_call hfr hb
                replace hX0 := hX0.keep hb
                replace hc0 := fun j => hX0.cell j
                replace hl0 := hX0.lt
                replace hX1 := hX1.keep hb
                replace hc1 := fun j => hX1.cell j
                replace hl1 := hX1.lt
                clear hb
                go_wp2_with fail
                refine (Day_yes A n c cs e y m d _ hr hn hok hq).mono ?_
                rw [HDQ.out]
                rintro e' w6 ⟨rfl, hb⟩
                replace hr := hr.keep hb
                replace hT := hT.keep hb
                replace hfr := fr_call hfr hb
                replace hX0 := hX0.keep hb
                replace hc0 := fun j => hX0.cell j
                replace hl0 := hX0.lt
                replace hX1 := hX1.keep hb
                replace hc1 := fun j => hX1.cell j
                replace hl1 := hX1.lt
                clear hb
                go_wp2_with fail
                refine (rNumber_is _ _ _ hnum).mono ?_
                rintro e' w7 ⟨rfl, rfl⟩
                go_wp2_with fail
                refine (Date_ok A n c cs e dq _ hr hn hok hnum).mono ?_
                rw [HDD.out]
                simp only [dateV]
                rintro e' w8 ⟨rfl, hb⟩
                replace hr := hr.keep hb
                replace hT := hT.keep hb
                replace hfr := fr_call hfr hb
                replace hX0 := hX0.keep hb
                replace hc0 := fun j => hX0.cell j
                replace hl0 := hX0.lt
                replace hX1 := hX1.keep hb
                replace hc1 := fun j => hX1.cell j
                replace hl1 := hX1.lt
                clear hb
                go_wp2_with fail
                have ga := fr_alloc (fr_refl w8) (.cells #[.int .i64 y, .int .i64 m, .int .i64 d] 41)
                replace hr := hr.keep ga
                replace hT := hT.keep ga
                replace hfr := fr_call hfr ga
                replace hX0 := hX0.keep ga
                replace hc0 := fun j => hX0.cell j
                replace hl0 := hX0.lt
                replace hX1 := hX1.keep ga
                replace hc1 := fun j => hX1.cell j
                replace hl1 := hX1.lt
                have hX2 := Blk.new w8 41 #[.int .i64 y, .int .i64 m, .int .i64 d]
                have hc2 := fun j => hX2.cell j
                have hl2 := hX2.lt
                clear ga
                refine (Date_ok A n c cs e day _ hr hn hok hd).mono ?_
                rw [HO.out]
                simp only [dateV]
                rintro e' w9 ⟨rfl, hb⟩
                replace hr := hr.keep hb
                replace hT := hT.keep hb
                replace hfr := fr_call hfr hb
                replace hX0 := hX0.keep hb
                replace hc0 := fun j => hX0.cell j
                replace hl0 := hX0.lt
                replace hX1 := hX1.keep hb
                replace hc1 := fun j => hX1.cell j
                replace hl1 := hX1.lt
                replace hX2 := hX2.keep hb
                replace hc2 := fun j => hX2.cell j
                replace hl2 := hX2.lt
                clear hb
                go_wp2_with fail
                have ga := fr_alloc (fr_refl w9) (.cells #[.int .i64 0, .int .i64 0, .int .i64 0] 41)
                replace hr := hr.keep ga
                replace hT := hT.keep ga
                replace hfr := fr_call hfr ga
                replace hX0 := hX0.keep ga
                replace hc0 := fun j => hX0.cell j
                replace hl0 := hX0.lt
                replace hX1 := hX1.keep ga
                replace hc1 := fun j => hX1.cell j
                replace hl1 := hX1.lt
                replace hX2 := hX2.keep ga
                replace hc2 := fun j => hX2.cell j
                replace hl2 := hX2.lt
                have hX3 := Blk.new w9 41 #[.int .i64 0, .int .i64 0, .int .i64 0]
                have hc3 := fun j => hX3.cell j
                have hl3 := hX3.lt
                clear ga
                refine (Date_ok A n c cs e (day + 1) _ hr hn hok hd').mono ?_
                rw [HO2.out]
                simp only [dateV]
                rintro e' w10 ⟨rfl, hb⟩
                replace hr := hr.keep hb
                replace hT := hT.keep hb
                replace hfr := fr_call hfr hb
                replace hX0 := hX0.keep hb
                replace hc0 := fun j => hX0.cell j
                replace hl0 := hX0.lt
                replace hX1 := hX1.keep hb
                replace hc1 := fun j => hX1.cell j
                replace hl1 := hX1.lt
                replace hX2 := hX2.keep hb
                replace hc2 := fun j => hX2.cell j
                replace hl2 := hX2.lt
                replace hX3 := hX3.keep hb
                replace hc3 := fun j => hX3.cell j
                replace hl3 := hX3.lt
                clear hb
                go_wp2_with fail
                have ga := fr_alloc (fr_refl w10) (.cells #[.int .i64 0, .int .i64 1, .int .i64 1] 41)
                replace hr := hr.keep ga
                replace hT := hT.keep ga
                replace hfr := fr_call hfr ga
                replace hX0 := hX0.keep ga
                replace hc0 := fun j => hX0.cell j
                replace hl0 := hX0.lt
                replace hX1 := hX1.keep ga
                replace hc1 := fun j => hX1.cell j
                replace hl1 := hX1.lt
                replace hX2 := hX2.keep ga
                replace hc2 := fun j => hX2.cell j
                replace hl2 := hX2.lt
                replace hX3 := hX3.keep ga
                replace hc3 := fun j => hX3.cell j
                replace hl3 := hX3.lt
                have hX4 := Blk.new w10 41 #[.int .i64 0, .int .i64 1, .int .i64 1]
                have hc4 := fun j => hX4.cell j
                have hl4 := hX4.lt
                clear ga
                refine (known_is _ hT).mono ?_
                rintro e' w11 ⟨rfl, hb⟩
                replace hr := hr.keep hb
                replace hT := hT.keep hb
                replace hfr := fr_call hfr hb
                replace hX0 := hX0.keep hb
                replace hc0 := fun j => hX0.cell j
                replace hl0 := hX0.lt
                replace hX1 := hX1.keep hb
                replace hc1 := fun j => hX1.cell j
                replace hl1 := hX1.lt
                replace hX2 := hX2.keep hb
                replace hc2 := fun j => hX2.cell j
                replace hl2 := hX2.lt
                replace hX3 := hX3.keep hb
                replace hc3 := fun j => hX3.cell j
                replace hl3 := hX3.lt
                replace hX4 := hX4.keep hb
                replace hc4 := fun j => hX4.cell j
                replace hl4 := hX4.lt
                clear hb
                go_wp2_with fail
                go_ret
                exact ⟨rfl, hfr⟩
            · obtain ⟨xy, xm, xd⟩ := x
              have hoa := date_after ho
              obtain ⟨hxr, hxd⟩ := dateOf_some.1 ho
              have hqx := realB_iff.2 hxr
              have HDX := Lib.hid hxd
              have HO := Lib.hid ho
              clear ho hxr hxd
              obtain ⟨⟨zy, zm, zd⟩, hz⟩ : ∃ z, nxt cs ⟨xy, xm, xd⟩ = z := ⟨_, rfl⟩
              rw [hz] at hoa
              have HNX := Lib.hid hz
              clear hz
              dsimp only at hoa
              rcases hoa with ⟨hzy, ho2⟩ | ⟨hzy, ho2⟩
              · have HO2 := Lib.hid ho2
                have hzb : inB zy 0 4000 = true := by
                  have hr0 := (dateOf_some.1 ho2).1.1
                  exact inB_yes ⟨hr0, hzy⟩
                clear ho2
                go_enter Tryz.func4, Tryz.ntmps4
                go_wp2_with fail
                have hfr := g1
                replace hr := hr.keep g1
                replace hT := hT.keep g1
                have hc0 := fun j => hX0.cell j
                have hc1 := fun j => hX1.cell j
                have hl0 := hX0.lt
                have hl1 := hX1.lt
                refine (lshort_is A n c _ _ true hs).mono ?_
                rintro e' w1 ⟨rfl, hb⟩
                replace hr := hr.keep hb
                replace hT := hT.keep hb
                replace hfr := fr_call hfr hb
                replace hX0 := hX0.keep hb
                replace hc0 := fun j => hX0.cell j
                replace hl0 := hX0.lt
                replace hX1 := hX1.keep hb
                replace hc1 := fun j => hX1.cell j
                replace hl1 := hX1.lt
                clear hb
                go_wp2_with fail
                refine (rCalendar_is A n c cs e _ hr hn _ hok).mono ?_
                rintro e' w2 ⟨rfl, hb⟩
                replace hr := hr.keep hb
                replace hT := hT.keep hb
                replace hfr := fr_call hfr hb
                replace hX0 := hX0.keep hb
                replace hc0 := fun j => hX0.cell j
                replace hl0 := hX0.lt
                replace hX1 := hX1.keep hb
                replace hc1 := fun j => hX1.cell j
                replace hl1 := hX1.lt
                clear hb
                go_wp2_with fail
                refine (rNumber_is _ _ _ hd).mono ?_
                rintro e' w3 ⟨rfl, rfl⟩
                go_wp2_with fail
                refine (rNumber_is _ _ _ hd').mono ?_
                rintro e' w4 ⟨rfl, rfl⟩
                go_wp2_with fail
                refine (rReal_is A n c cs e y m d _ hr hok _ hq).mono ?_
                rintro e' w5 ⟨rfl, hb⟩
                replace hr := hr.keep hb
                replace hT := hT.keep hb
                replace hfr := fr_call hfr hb
                replace hX0 := hX0.keep hb
                replace hc0 := fun j => hX0.cell j
                replace hl0 := hX0.lt
                replace hX1 := hX1.keep hb
                replace hc1 := fun j => hX1.cell j
                replace hl1 := hX1.lt
                clear hb
                go_wp2_with fail
                refine (Day_yes A n c cs e y m d _ hr hn hok hq).mono ?_
                rw [HDQ.out]
                rintro e' w6 ⟨rfl, hb⟩
                replace hr := hr.keep hb
                replace hT := hT.keep hb
                replace hfr := fr_call hfr hb
                replace hX0 := hX0.keep hb
                replace hc0 := fun j => hX0.cell j
                replace hl0 := hX0.lt
                replace hX1 := hX1.keep hb
                replace hc1 := fun j => hX1.cell j
                replace hl1 := hX1.lt
                clear hb
                go_wp2_with fail
                refine (rNumber_is _ _ _ hnum).mono ?_
                rintro e' w7 ⟨rfl, rfl⟩
                go_wp2_with fail
                refine (Date_ok A n c cs e dq _ hr hn hok hnum).mono ?_
                rw [HDD.out]
                simp only [dateV]
                rintro e' w8 ⟨rfl, hb⟩
                replace hr := hr.keep hb
                replace hT := hT.keep hb
                replace hfr := fr_call hfr hb
                replace hX0 := hX0.keep hb
                replace hc0 := fun j => hX0.cell j
                replace hl0 := hX0.lt
                replace hX1 := hX1.keep hb
                replace hc1 := fun j => hX1.cell j
                replace hl1 := hX1.lt
                clear hb
                go_wp2_with fail
                have ga := fr_alloc (fr_refl w8) (.cells #[.int .i64 y, .int .i64 m, .int .i64 d] 41)
                replace hr := hr.keep ga
                replace hT := hT.keep ga
                replace hfr := fr_call hfr ga
                replace hX0 := hX0.keep ga
                replace hc0 := fun j => hX0.cell j
                replace hl0 := hX0.lt
                replace hX1 := hX1.keep ga
                replace hc1 := fun j => hX1.cell j
                replace hl1 := hX1.lt
                have hX2 := Blk.new w8 41 #[.int .i64 y, .int .i64 m, .int .i64 d]
                have hc2 := fun j => hX2.cell j
                have hl2 := hX2.lt
                clear ga
                refine (Date_ok A n c cs e day _ hr hn hok hd).mono ?_
                rw [HO.out]
                simp only [dateV]
                rintro e' w9 ⟨rfl, hb⟩
                replace hr := hr.keep hb
                replace hT := hT.keep hb
                replace hfr := fr_call hfr hb
                replace hX0 := hX0.keep hb
                replace hc0 := fun j => hX0.cell j
                replace hl0 := hX0.lt
                replace hX1 := hX1.keep hb
                replace hc1 := fun j => hX1.cell j
                replace hl1 := hX1.lt
                replace hX2 := hX2.keep hb
                replace hc2 := fun j => hX2.cell j
                replace hl2 := hX2.lt
                clear hb
                go_wp2_with fail
                have ga := fr_alloc (fr_refl w9) (.cells #[.int .i64 xy, .int .i64 xm, .int .i64 xd] 41)
                replace hr := hr.keep ga
                replace hT := hT.keep ga
                replace hfr := fr_call hfr ga
                replace hX0 := hX0.keep ga
                replace hc0 := fun j => hX0.cell j
                replace hl0 := hX0.lt
                replace hX1 := hX1.keep ga
                replace hc1 := fun j => hX1.cell j
                replace hl1 := hX1.lt
                replace hX2 := hX2.keep ga
                replace hc2 := fun j => hX2.cell j
                replace hl2 := hX2.lt
                have hX3 := Blk.new w9 41 #[.int .i64 xy, .int .i64 xm, .int .i64 xd]
                have hc3 := fun j => hX3.cell j
                have hl3 := hX3.lt
                clear ga
                refine (Date_ok A n c cs e (day + 1) _ hr hn hok hd').mono ?_
                rw [HO2.out]
                simp only [dateV]
                rintro e' w10 ⟨rfl, hb⟩
                replace hr := hr.keep hb
                replace hT := hT.keep hb
                replace hfr := fr_call hfr hb
                replace hX0 := hX0.keep hb
                replace hc0 := fun j => hX0.cell j
                replace hl0 := hX0.lt
                replace hX1 := hX1.keep hb
                replace hc1 := fun j => hX1.cell j
                replace hl1 := hX1.lt
                replace hX2 := hX2.keep hb
                replace hc2 := fun j => hX2.cell j
                replace hl2 := hX2.lt
                replace hX3 := hX3.keep hb
                replace hc3 := fun j => hX3.cell j
                replace hl3 := hX3.lt
                clear hb
                go_wp2_with fail
                have ga := fr_alloc (fr_refl w10) (.cells #[.int .i64 zy, .int .i64 zm, .int .i64 zd] 41)
                replace hr := hr.keep ga
                replace hT := hT.keep ga
                replace hfr := fr_call hfr ga
                replace hX0 := hX0.keep ga
                replace hc0 := fun j => hX0.cell j
                replace hl0 := hX0.lt
                replace hX1 := hX1.keep ga
                replace hc1 := fun j => hX1.cell j
                replace hl1 := hX1.lt
                replace hX2 := hX2.keep ga
                replace hc2 := fun j => hX2.cell j
                replace hl2 := hX2.lt
                replace hX3 := hX3.keep ga
                replace hc3 := fun j => hX3.cell j
                replace hl3 := hX3.lt
                have hX4 := Blk.new w10 41 #[.int .i64 zy, .int .i64 zm, .int .i64 zd]
                have hc4 := fun j => hX4.cell j
                have hl4 := hX4.lt
                clear ga
                refine (rReal_is A n c cs e xy xm xd _ hr hok _ hqx).mono ?_
                rintro e' w11 ⟨rfl, hb⟩
                replace hr := hr.keep hb
                replace hT := hT.keep hb
                replace hfr := fr_call hfr hb
                replace hX0 := hX0.keep hb
                replace hc0 := fun j => hX0.cell j
                replace hl0 := hX0.lt
                replace hX1 := hX1.keep hb
                replace hc1 := fun j => hX1.cell j
                replace hl1 := hX1.lt
                replace hX2 := hX2.keep hb
                replace hc2 := fun j => hX2.cell j
                replace hl2 := hX2.lt
                replace hX3 := hX3.keep hb
                replace hc3 := fun j => hX3.cell j
                replace hl3 := hX3.lt
                replace hX4 := hX4.keep hb
                replace hc4 := fun j => hX4.cell j
                replace hl4 := hX4.lt
                clear hb
                go_wp2_with fail
                refine (Day_yes A n c cs e xy xm xd _ hr hn hok hqx).mono ?_
                rw [HDX.out]
                rintro e' w12 ⟨rfl, hb⟩
                replace hr := hr.keep hb
                replace hT := hT.keep hb
                replace hfr := fr_call hfr hb
                replace hX0 := hX0.keep hb
                replace hc0 := fun j => hX0.cell j
                replace hl0 := hX0.lt
                replace hX1 := hX1.keep hb
                replace hc1 := fun j => hX1.cell j
                replace hl1 := hX1.lt
                replace hX2 := hX2.keep hb
                replace hc2 := fun j => hX2.cell j
                replace hl2 := hX2.lt
                replace hX3 := hX3.keep hb
                replace hc3 := fun j => hX3.cell j
                replace hl3 := hX3.lt
                replace hX4 := hX4.keep hb
                replace hc4 := fun j => hX4.cell j
                replace hl4 := hX4.lt
                clear hb
                go_wp2_with fail
                refine (rNext_any A n c cs e xy xm xd ⟨zy, zm, zd⟩ _ hr hok hqx HNX.out).mono ?_
                dsimp only
                rintro e' w13 ⟨rfl, hb⟩
                replace hr := hr.keep hb
                replace hT := hT.keep hb
                replace hfr := fr_call hfr hb
                replace hX0 := hX0.keep hb
                replace hc0 := fun j => hX0.cell j
                replace hl0 := hX0.lt
                replace hX1 := hX1.keep hb
                replace hc1 := fun j => hX1.cell j
                replace hl1 := hX1.lt
                replace hX2 := hX2.keep hb
                replace hc2 := fun j => hX2.cell j
                replace hl2 := hX2.lt
                replace hX3 := hX3.keep hb
                replace hc3 := fun j => hX3.cell j
                replace hl3 := hX3.lt
                replace hX4 := hX4.keep hb
                replace hc4 := fun j => hX4.cell j
                replace hl4 := hX4.lt
                clear hb
                go_wp2_with fail
                have ga := fr_alloc (fr_refl w13) (.cells #[.int .i64 zy, .int .i64 zm, .int .i64 zd] 41)
                replace hr := hr.keep ga
                replace hT := hT.keep ga
                replace hfr := fr_call hfr ga
                replace hX0 := hX0.keep ga
                replace hc0 := fun j => hX0.cell j
                replace hl0 := hX0.lt
                replace hX1 := hX1.keep ga
                replace hc1 := fun j => hX1.cell j
                replace hl1 := hX1.lt
                replace hX2 := hX2.keep ga
                replace hc2 := fun j => hX2.cell j
                replace hl2 := hX2.lt
                replace hX3 := hX3.keep ga
                replace hc3 := fun j => hX3.cell j
                replace hl3 := hX3.lt
                replace hX4 := hX4.keep ga
                replace hc4 := fun j => hX4.cell j
                replace hl4 := hX4.lt
                have hX5 := Blk.new w13 41 #[.int .i64 zy, .int .i64 zm, .int .i64 zd]
                have hc5 := fun j => hX5.cell j
                have hl5 := hX5.lt
                clear ga
                refine (rYear_is _ _ _ hzb).mono ?_
                rintro e' w14 ⟨rfl, rfl⟩
                go_wp2_with fail
                refine (known_is _ hT).mono ?_
                rintro e' w15 ⟨rfl, hb⟩
                replace hr := hr.keep hb
                replace hT := hT.keep hb
                replace hfr := fr_call hfr hb
                replace hX0 := hX0.keep hb
                replace hc0 := fun j => hX0.cell j
                replace hl0 := hX0.lt
                replace hX1 := hX1.keep hb
                replace hc1 := fun j => hX1.cell j
                replace hl1 := hX1.lt
                replace hX2 := hX2.keep hb
                replace hc2 := fun j => hX2.cell j
                replace hl2 := hX2.lt
                replace hX3 := hX3.keep hb
                replace hc3 := fun j => hX3.cell j
                replace hl3 := hX3.lt
                replace hX4 := hX4.keep hb
                replace hc4 := fun j => hX4.cell j
                replace hl4 := hX4.lt
                replace hX5 := hX5.keep hb
                replace hc5 := fun j => hX5.cell j
                replace hl5 := hX5.lt
                clear hb
                go_wp2_with fail
                go_ret
                exact ⟨rfl, hfr⟩
              · have HO2 := Lib.hid ho2
                have hzb : inB zy 0 4000 = false := inB_no (by omega)
                clear ho2
                go_enter Tryz.func4, Tryz.ntmps4
                go_wp2_with fail
                have hfr := g1
                replace hr := hr.keep g1
                replace hT := hT.keep g1
                have hc0 := fun j => hX0.cell j
                have hc1 := fun j => hX1.cell j
                have hl0 := hX0.lt
                have hl1 := hX1.lt
                refine (lshort_is A n c _ _ true hs).mono ?_
                rintro e' w1 ⟨rfl, hb⟩
                replace hr := hr.keep hb
                replace hT := hT.keep hb
                replace hfr := fr_call hfr hb
                replace hX0 := hX0.keep hb
                replace hc0 := fun j => hX0.cell j
                replace hl0 := hX0.lt
                replace hX1 := hX1.keep hb
                replace hc1 := fun j => hX1.cell j
                replace hl1 := hX1.lt
                clear hb
                go_wp2_with fail
                refine (rCalendar_is A n c cs e _ hr hn _ hok).mono ?_
                rintro e' w2 ⟨rfl, hb⟩
                replace hr := hr.keep hb
                replace hT := hT.keep hb
                replace hfr := fr_call hfr hb
                replace hX0 := hX0.keep hb
                replace hc0 := fun j => hX0.cell j
                replace hl0 := hX0.lt
                replace hX1 := hX1.keep hb
                replace hc1 := fun j => hX1.cell j
                replace hl1 := hX1.lt
                clear hb
                go_wp2_with fail
                refine (rNumber_is _ _ _ hd).mono ?_
                rintro e' w3 ⟨rfl, rfl⟩
                go_wp2_with fail
                refine (rNumber_is _ _ _ hd').mono ?_
                rintro e' w4 ⟨rfl, rfl⟩
                go_wp2_with fail
                refine (rReal_is A n c cs e y m d _ hr hok _ hq).mono ?_
                rintro e' w5 ⟨rfl, hb⟩
                replace hr := hr.keep hb
                replace hT := hT.keep hb
                replace hfr := fr_call hfr hb
                replace hX0 := hX0.keep hb
                replace hc0 := fun j => hX0.cell j
                replace hl0 := hX0.lt
                replace hX1 := hX1.keep hb
                replace hc1 := fun j => hX1.cell j
                replace hl1 := hX1.lt
                clear hb
                go_wp2_with fail
                refine (Day_yes A n c cs e y m d _ hr hn hok hq).mono ?_
                rw [HDQ.out]
                rintro e' w6 ⟨rfl, hb⟩
                replace hr := hr.keep hb
                replace hT := hT.keep hb
                replace hfr := fr_call hfr hb
                replace hX0 := hX0.keep hb
                replace hc0 := fun j => hX0.cell j
                replace hl0 := hX0.lt
                replace hX1 := hX1.keep hb
                replace hc1 := fun j => hX1.cell j
                replace hl1 := hX1.lt
                clear hb
                go_wp2_with fail
                refine (rNumber_is _ _ _ hnum).mono ?_
                rintro e' w7 ⟨rfl, rfl⟩
                go_wp2_with fail
                refine (Date_ok A n c cs e dq _ hr hn hok hnum).mono ?_
                rw [HDD.out]
                simp only [dateV]
                rintro e' w8 ⟨rfl, hb⟩
                replace hr := hr.keep hb
                replace hT := hT.keep hb
                replace hfr := fr_call hfr hb
                replace hX0 := hX0.keep hb
                replace hc0 := fun j => hX0.cell j
                replace hl0 := hX0.lt
                replace hX1 := hX1.keep hb
                replace hc1 := fun j => hX1.cell j
                replace hl1 := hX1.lt
                clear hb
                go_wp2_with fail
                have ga := fr_alloc (fr_refl w8) (.cells #[.int .i64 y, .int .i64 m, .int .i64 d] 41)
                replace hr := hr.keep ga
                replace hT := hT.keep ga
                replace hfr := fr_call hfr ga
                replace hX0 := hX0.keep ga
                replace hc0 := fun j => hX0.cell j
                replace hl0 := hX0.lt
                replace hX1 := hX1.keep ga
                replace hc1 := fun j => hX1.cell j
                replace hl1 := hX1.lt
                have hX2 := Blk.new w8 41 #[.int .i64 y, .int .i64 m, .int .i64 d]
                have hc2 := fun j => hX2.cell j
                have hl2 := hX2.lt
                clear ga
                refine (Date_ok A n c cs e day _ hr hn hok hd).mono ?_
                rw [HO.out]
                simp only [dateV]
                rintro e' w9 ⟨rfl, hb⟩
                replace hr := hr.keep hb
                replace hT := hT.keep hb
                replace hfr := fr_call hfr hb
                replace hX0 := hX0.keep hb
                replace hc0 := fun j => hX0.cell j
                replace hl0 := hX0.lt
                replace hX1 := hX1.keep hb
                replace hc1 := fun j => hX1.cell j
                replace hl1 := hX1.lt
                replace hX2 := hX2.keep hb
                replace hc2 := fun j => hX2.cell j
                replace hl2 := hX2.lt
                clear hb
                go_wp2_with fail
                have ga := fr_alloc (fr_refl w9) (.cells #[.int .i64 xy, .int .i64 xm, .int .i64 xd] 41)
                replace hr := hr.keep ga
                replace hT := hT.keep ga
                replace hfr := fr_call hfr ga
                replace hX0 := hX0.keep ga
                replace hc0 := fun j => hX0.cell j
                replace hl0 := hX0.lt
                replace hX1 := hX1.keep ga
                replace hc1 := fun j => hX1.cell j
                replace hl1 := hX1.lt
                replace hX2 := hX2.keep ga
                replace hc2 := fun j => hX2.cell j
                replace hl2 := hX2.lt
                have hX3 := Blk.new w9 41 #[.int .i64 xy, .int .i64 xm, .int .i64 xd]
                have hc3 := fun j => hX3.cell j
                have hl3 := hX3.lt
                clear ga
                refine (Date_ok A n c cs e (day + 1) _ hr hn hok hd').mono ?_
                rw [HO2.out]
                simp only [dateV]
                rintro e' w10 ⟨rfl, hb⟩
                replace hr := hr.keep hb
                replace hT := hT.keep hb
                replace hfr := fr_call hfr hb
                replace hX0 := hX0.keep hb
                replace hc0 := fun j => hX0.cell j
                replace hl0 := hX0.lt
                replace hX1 := hX1.keep hb
                replace hc1 := fun j => hX1.cell j
                replace hl1 := hX1.lt
                replace hX2 := hX2.keep hb
                replace hc2 := fun j => hX2.cell j
                replace hl2 := hX2.lt
                replace hX3 := hX3.keep hb
                replace hc3 := fun j => hX3.cell j
                replace hl3 := hX3.lt
                clear hb
                go_wp2_with fail
                have ga := fr_alloc (fr_refl w10) (.cells #[.int .i64 0, .int .i64 0, .int .i64 0] 41)
                replace hr := hr.keep ga
                replace hT := hT.keep ga
                replace hfr := fr_call hfr ga
                replace hX0 := hX0.keep ga
                replace hc0 := fun j => hX0.cell j
                replace hl0 := hX0.lt
                replace hX1 := hX1.keep ga
                replace hc1 := fun j => hX1.cell j
                replace hl1 := hX1.lt
                replace hX2 := hX2.keep ga
                replace hc2 := fun j => hX2.cell j
                replace hl2 := hX2.lt
                replace hX3 := hX3.keep ga
                replace hc3 := fun j => hX3.cell j
                replace hl3 := hX3.lt
                have hX4 := Blk.new w10 41 #[.int .i64 0, .int .i64 0, .int .i64 0]
                have hc4 := fun j => hX4.cell j
                have hl4 := hX4.lt
                clear ga
                refine (rReal_is A n c cs e xy xm xd _ hr hok _ hqx).mono ?_
                rintro e' w11 ⟨rfl, hb⟩
                replace hr := hr.keep hb
                replace hT := hT.keep hb
                replace hfr := fr_call hfr hb
                replace hX0 := hX0.keep hb
                replace hc0 := fun j => hX0.cell j
                replace hl0 := hX0.lt
                replace hX1 := hX1.keep hb
                replace hc1 := fun j => hX1.cell j
                replace hl1 := hX1.lt
                replace hX2 := hX2.keep hb
                replace hc2 := fun j => hX2.cell j
                replace hl2 := hX2.lt
                replace hX3 := hX3.keep hb
                replace hc3 := fun j => hX3.cell j
                replace hl3 := hX3.lt
                replace hX4 := hX4.keep hb
                replace hc4 := fun j => hX4.cell j
                replace hl4 := hX4.lt
                clear hb
                go_wp2_with fail
                refine (Day_yes A n c cs e xy xm xd _ hr hn hok hqx).mono ?_
                rw [HDX.out]
                rintro e' w12 ⟨rfl, hb⟩
                replace hr := hr.keep hb
                replace hT := hT.keep hb
                replace hfr := fr_call hfr hb
                replace hX0 := hX0.keep hb
                replace hc0 := fun j => hX0.cell j
                replace hl0 := hX0.lt
                replace hX1 := hX1.keep hb
                replace hc1 := fun j => hX1.cell j
                replace hl1 := hX1.lt
                replace hX2 := hX2.keep hb
                replace hc2 := fun j => hX2.cell j
                replace hl2 := hX2.lt
                replace hX3 := hX3.keep hb
                replace hc3 := fun j => hX3.cell j
                replace hl3 := hX3.lt
                replace hX4 := hX4.keep hb
                replace hc4 := fun j => hX4.cell j
                replace hl4 := hX4.lt
                clear hb
                go_wp2_with fail
                refine (rNext_any A n c cs e xy xm xd ⟨zy, zm, zd⟩ _ hr hok hqx HNX.out).mono ?_
                dsimp only
                rintro e' w13 ⟨rfl, hb⟩
                replace hr := hr.keep hb
                replace hT := hT.keep hb
                replace hfr := fr_call hfr hb
                replace hX0 := hX0.keep hb
                replace hc0 := fun j => hX0.cell j
                replace hl0 := hX0.lt
                replace hX1 := hX1.keep hb
                replace hc1 := fun j => hX1.cell j
                replace hl1 := hX1.lt
                replace hX2 := hX2.keep hb
                replace hc2 := fun j => hX2.cell j
                replace hl2 := hX2.lt
                replace hX3 := hX3.keep hb
                replace hc3 := fun j => hX3.cell j
                replace hl3 := hX3.lt
                replace hX4 := hX4.keep hb
                replace hc4 := fun j => hX4.cell j
                replace hl4 := hX4.lt
                clear hb
                go_wp2_with fail
                have ga := fr_alloc (fr_refl w13) (.cells #[.int .i64 zy, .int .i64 zm, .int .i64 zd] 41)
                replace hr := hr.keep ga
                replace hT := hT.keep ga
                replace hfr := fr_call hfr ga
                replace hX0 := hX0.keep ga
                replace hc0 := fun j => hX0.cell j
                replace hl0 := hX0.lt
                replace hX1 := hX1.keep ga
                replace hc1 := fun j => hX1.cell j
                replace hl1 := hX1.lt
                replace hX2 := hX2.keep ga
                replace hc2 := fun j => hX2.cell j
                replace hl2 := hX2.lt
                replace hX3 := hX3.keep ga
                replace hc3 := fun j => hX3.cell j
                replace hl3 := hX3.lt
                replace hX4 := hX4.keep ga
                replace hc4 := fun j => hX4.cell j
                replace hl4 := hX4.lt
                have hX5 := Blk.new w13 41 #[.int .i64 zy, .int .i64 zm, .int .i64 zd]
                have hc5 := fun j => hX5.cell j
                have hl5 := hX5.lt
                clear ga
                refine (rYear_is _ _ _ hzb).mono ?_
                rintro e' w14 ⟨rfl, rfl⟩
                go_wp2_with fail
                refine (known_is _ hT).mono ?_
                rintro e' w15 ⟨rfl, hb⟩
                replace hr := hr.keep hb
                replace hT := hT.keep hb
                replace hfr := fr_call hfr hb
                replace hX0 := hX0.keep hb
                replace hc0 := fun j => hX0.cell j
                replace hl0 := hX0.lt
                replace hX1 := hX1.keep hb
                replace hc1 := fun j => hX1.cell j
                replace hl1 := hX1.lt
                replace hX2 := hX2.keep hb
                replace hc2 := fun j => hX2.cell j
                replace hl2 := hX2.lt
                replace hX3 := hX3.keep hb
                replace hc3 := fun j => hX3.cell j
                replace hl3 := hX3.lt
                replace hX4 := hX4.keep hb
                replace hc4 := fun j => hX4.cell j
                replace hl4 := hX4.lt
                replace hX5 := hX5.keep hb
                replace hc5 := fun j => hX5.cell j
                replace hl5 := hX5.lt
                clear hb
                go_wp2_with fail
                go_ret
                exact ⟨rfl, hfr⟩
end Go.Proofs.YtnppilaabobgiaaGreatDoor
