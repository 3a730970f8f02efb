/- The law of dates: DialDates, walked. -/
import Derived.Test.YtnppilaabobgiaaGreatDoorMEC
import Derived.Test.YtnppilaabobgiaaGreatDoorMB4
import Derived.Test.YtnppilaabobgiaaGreatDoorMB2
import Derived.Test.YtnppilaabobgiaaGreatDoorMD1
import Derived.Test.YtnppilaabobgiaaGreatDoorMD2
import Derived.Test.YtnppilaabobgiaaGreatDoorMC3
namespace Go.Proofs.YtnppilaabobgiaaGreatDoor
open Go.RowKit Dl

theorem Check_no (A : Option Addr) (n c : Nat) (cs : List Int) (e : Int) (w : World) (hr : Rd w A n cs) (hn : n ≤ 9223372036854775807) (hok : calOk e cs = false) :
    Calls Tryz.prog 36 #[.agg #[.int .i64 e, .slice A n c]] w fun e' w' => e' = .returned (.int .i64 2) ∧ Below w.heap.size w w' :=
  (Check_is A n c cs e w hr hn).mono fun _ _ ⟨h, hb⟩ => ⟨by rw [h, if_neg (by rw [hok]; exact Bool.false_ne_true)], hb⟩
theorem Check_yes (A : Option Addr) (n c : Nat) (cs : List Int) (e : Int) (w : World) (hr : Rd w A n cs) (hn : n ≤ 9223372036854775807) (hok : calOk e cs = true) :
    Calls Tryz.prog 36 #[.agg #[.int .i64 e, .slice A n c]] w fun e' w' => e' = .returned (.int .i64 0) ∧ Below w.heap.size w w' :=
  (Check_is A n c cs e w hr hn).mono fun _ _ ⟨h, hb⟩ => ⟨by rw [h, if_pos hok], hb⟩

set_option maxRecDepth 100000 in
set_option maxHeartbeats 8000000 in
theorem dates_true (A : Option Addr) (n c : Nat) (cs : List Int) (e y m d day : Int) (w : World) (hr : Rd w A n cs) (hn : n ≤ 9223372036854775807) (hT : TabP w) :
    Calls Tryz.prog 6 #[.agg #[.int .i64 e, .slice A n c], .agg #[.int .i64 y, .int .i64 m, .int .i64 d], .int .i64 day] w fun e' w' => e' = .returned (.bool true) ∧ Below w.heap.size w w' := by
  have g1 := fr_alloc (fr_alloc (fr_refl w) (.cells #[.int .i64 e, .slice A n c] 24)) (.cells #[.int .i64 y, .int .i64 m, .int .i64 d] 41)
  have hX0 : Blk ((w.alloc (.cells #[.int .i64 e, .slice A n c] 24)).alloc (.cells #[.int .i64 y, .int .i64 m, .int .i64 d] 41)) (w.heap.size) 24 #[.int .i64 e, .slice A n c] := ((Blk.new_at _ _ (by simp)).alloc _)
  have hX1 : Blk ((w.alloc (.cells #[.int .i64 e, .slice A n c] 24)).alloc (.cells #[.int .i64 y, .int .i64 m, .int .i64 d] 41)) (w.heap.size + 1) 41 #[.int .i64 y, .int .i64 m, .int .i64 d] := (Blk.new_at _ _ (by simp))
  cases hs : decide ((n : Int) ≤ 5)
  · go_enter Tryz.func6, Tryz.ntmps6
    go_wp2_with fail
    have hfr := g1
    replace hr := hr.keep g1
    replace hT := hT.keep g1
    have hc0 := fun j => hX0.cell j
    have hc1 := fun j => hX1.cell j
    have hl0 := hX0.lt
    have hl1 := hX1.lt
    refine (lshort_is A n c _ _ false hs).mono ?_
    rintro e' w1 ⟨rfl, hb⟩
    replace hr := hr.keep hb
    replace hT := hT.keep hb
    replace hfr := fr_call hfr hb
    replace hX0 := hX0.keep hb
    replace hc0 := fun j => hX0.cell j
    replace hl0 := hX0.lt
    replace hX1 := hX1.keep hb
    replace hc1 := fun j => hX1.cell j
    replace hl1 := hX1.lt
    clear hb
    go_wp2_with fail
    refine (known_is _ hT).mono ?_
    rintro e' w2 ⟨rfl, hb⟩
    replace hr := hr.keep hb
    replace hT := hT.keep hb
    replace hfr := fr_call hfr hb
    replace hX0 := hX0.keep hb
    replace hc0 := fun j => hX0.cell j
    replace hl0 := hX0.lt
    replace hX1 := hX1.keep hb
    replace hc1 := fun j => hX1.cell j
    replace hl1 := hX1.lt
    clear hb
    go_wp2_with fail
    go_ret
    exact ⟨rfl, hfr⟩
  · cases hok : calOk e cs
    · go_enter Tryz.func6, Tryz.ntmps6
      go_wp2_with fail
      have hfr := g1
      replace hr := hr.keep g1
      replace hT := hT.keep g1
      have hc0 := fun j => hX0.cell j
      have hc1 := fun j => hX1.cell j
      have hl0 := hX0.lt
      have hl1 := hX1.lt
      refine (lshort_is A n c _ _ true hs).mono ?_
      rintro e' w1 ⟨rfl, hb⟩
      replace hr := hr.keep hb
      replace hT := hT.keep hb
      replace hfr := fr_call hfr hb
      replace hX0 := hX0.keep hb
      replace hc0 := fun j => hX0.cell j
      replace hl0 := hX0.lt
      replace hX1 := hX1.keep hb
      replace hc1 := fun j => hX1.cell j
      replace hl1 := hX1.lt
      clear hb
      go_wp2_with fail
      refine (Check_no A n c cs e _ hr hn hok).mono ?_
      rintro e' w2 ⟨rfl, hb⟩
      replace hr := hr.keep hb
      replace hT := hT.keep hb
      replace hfr := fr_call hfr hb
      replace hX0 := hX0.keep hb
      replace hc0 := fun j => hX0.cell j
      replace hl0 := hX0.lt
      replace hX1 := hX1.keep hb
      replace hc1 := fun j => hX1.cell j
      replace hl1 := hX1.lt
      clear hb
      go_wp2_with fail
      refine (Day_bad A n c cs e y m d _ hr hn hok).mono ?_
      rintro e' w3 ⟨rfl, hb⟩
      replace hr := hr.keep hb
      replace hT := hT.keep hb
      replace hfr := fr_call hfr hb
      replace hX0 := hX0.keep hb
      replace hc0 := fun j => hX0.cell j
      replace hl0 := hX0.lt
      replace hX1 := hX1.keep hb
      replace hc1 := fun j => hX1.cell j
      replace hl1 := hX1.lt
      clear hb
      go_wp2_with fail
      refine (Date_bad A n c cs e day _ hr hn (Or.inl hok)).mono ?_
      rintro e' w4 ⟨rfl, hb⟩
      replace hr := hr.keep hb
      replace hT := hT.keep hb
      replace hfr := fr_call hfr hb
      replace hX0 := hX0.keep hb
      replace hc0 := fun j => hX0.cell j
      replace hl0 := hX0.lt
      replace hX1 := hX1.keep hb
      replace hc1 := fun j => hX1.cell j
      replace hl1 := hX1.lt
      clear hb
      go_wp2_with fail
      have ga := fr_alloc (fr_refl w4) (.cells #[.int .i64 0, .int .i64 0, .int .i64 0] 41)
      replace hr := hr.keep ga
      replace hT := hT.keep ga
      replace hfr := fr_call hfr ga
      replace hX0 := hX0.keep ga
      replace hc0 := fun j => hX0.cell j
      replace hl0 := hX0.lt
      replace hX1 := hX1.keep ga
      replace hc1 := fun j => hX1.cell j
      replace hl1 := hX1.lt
      have hX2 := Blk.new w4 41 #[.int .i64 0, .int .i64 0, .int .i64 0]
      have hc2 := fun j => hX2.cell j
      have hl2 := hX2.lt
      clear ga
      refine (rCalendar_is A n c cs e _ hr hn _ hok).mono ?_
      rintro e' w5 ⟨rfl, hb⟩
      replace hr := hr.keep hb
      replace hT := hT.keep hb
      replace hfr := fr_call hfr hb
      replace hX0 := hX0.keep hb
      replace hc0 := fun j => hX0.cell j
      replace hl0 := hX0.lt
      replace hX1 := hX1.keep hb
      replace hc1 := fun j => hX1.cell j
      replace hl1 := hX1.lt
      replace hX2 := hX2.keep hb
      replace hc2 := fun j => hX2.cell j
      replace hl2 := hX2.lt
      clear hb
      go_wp2_with fail
      refine (rCalendar_is A n c cs e _ hr hn _ hok).mono ?_
      rintro e' w6 ⟨rfl, hb⟩
      replace hr := hr.keep hb
      replace hT := hT.keep hb
      replace hfr := fr_call hfr hb
      replace hX0 := hX0.keep hb
      replace hc0 := fun j => hX0.cell j
      replace hl0 := hX0.lt
      replace hX1 := hX1.keep hb
      replace hc1 := fun j => hX1.cell j
      replace hl1 := hX1.lt
      replace hX2 := hX2.keep hb
      replace hc2 := fun j => hX2.cell j
      replace hl2 := hX2.lt
      clear hb
      go_wp2_with fail
      refine (known_is _ hT).mono ?_
      rintro e' w7 ⟨rfl, hb⟩
      replace hr := hr.keep hb
      replace hT := hT.keep hb
      replace hfr := fr_call hfr hb
      replace hX0 := hX0.keep hb
      replace hc0 := fun j => hX0.cell j
      replace hl0 := hX0.lt
      replace hX1 := hX1.keep hb
      replace hc1 := fun j => hX1.cell j
      replace hl1 := hX1.lt
      replace hX2 := hX2.keep hb
      replace hc2 := fun j => hX2.cell j
      replace hl2 := hX2.lt
      clear hb
      go_wp2_with fail
      go_ret
      exact ⟨rfl, hfr⟩
    · cases hq : realB cs y m d
      · cases hd : inB day 0 2000000
        · go_enter Tryz.func6, Tryz.ntmps6
          go_wp2_with fail
          have hfr := g1
          replace hr := hr.keep g1
          replace hT := hT.keep g1
          have hc0 := fun j => hX0.cell j
          have hc1 := fun j => hX1.cell j
          have hl0 := hX0.lt
          have hl1 := hX1.lt
          refine (lshort_is A n c _ _ true hs).mono ?_
          rintro e' w1 ⟨rfl, hb⟩
          replace hr := hr.keep hb
          replace hT := hT.keep hb
          replace hfr := fr_call hfr hb
          replace hX0 := hX0.keep hb
          replace hc0 := fun j => hX0.cell j
          replace hl0 := hX0.lt
          replace hX1 := hX1.keep hb
          replace hc1 := fun j => hX1.cell j
          replace hl1 := hX1.lt
          clear hb
          go_wp2_with fail
          refine (Check_yes A n c cs e _ hr hn hok).mono ?_
          rintro e' w2 ⟨rfl, hb⟩
          replace hr := hr.keep hb
          replace hT := hT.keep hb
          replace hfr := fr_call hfr hb
          replace hX0 := hX0.keep hb
          replace hc0 := fun j => hX0.cell j
          replace hl0 := hX0.lt
          replace hX1 := hX1.keep hb
          replace hc1 := fun j => hX1.cell j
          replace hl1 := hX1.lt
          clear hb
          go_wp2_with fail
          refine (Day_no A n c cs e y m d _ hr hn hok hq).mono ?_
          rintro e' w3 ⟨rfl, hb⟩
          replace hr := hr.keep hb
          replace hT := hT.keep hb
          replace hfr := fr_call hfr hb
          replace hX0 := hX0.keep hb
          replace hc0 := fun j => hX0.cell j
          replace hl0 := hX0.lt
          replace hX1 := hX1.keep hb
          replace hc1 := fun j => hX1.cell j
          replace hl1 := hX1.lt
          clear hb
          go_wp2_with fail
          refine (Date_bad A n c cs e day _ hr hn (Or.inr hd)).mono ?_
          rintro e' w4 ⟨rfl, hb⟩
          replace hr := hr.keep hb
          replace hT := hT.keep hb
          replace hfr := fr_call hfr hb
          replace hX0 := hX0.keep hb
          replace hc0 := fun j => hX0.cell j
          replace hl0 := hX0.lt
          replace hX1 := hX1.keep hb
          replace hc1 := fun j => hX1.cell j
          replace hl1 := hX1.lt
          clear hb
          go_wp2_with fail
          have ga := fr_alloc (fr_refl w4) (.cells #[.int .i64 0, .int .i64 0, .int .i64 0] 41)
          replace hr := hr.keep ga
          replace hT := hT.keep ga
          replace hfr := fr_call hfr ga
          replace hX0 := hX0.keep ga
          replace hc0 := fun j => hX0.cell j
          replace hl0 := hX0.lt
          replace hX1 := hX1.keep ga
          replace hc1 := fun j => hX1.cell j
          replace hl1 := hX1.lt
          have hX2 := Blk.new w4 41 #[.int .i64 0, .int .i64 0, .int .i64 0]
          have hc2 := fun j => hX2.cell j
          have hl2 := hX2.lt
          clear ga
          refine (rCalendar_is A n c cs e _ hr hn _ hok).mono ?_
          rintro e' w5 ⟨rfl, hb⟩
          replace hr := hr.keep hb
          replace hT := hT.keep hb
          replace hfr := fr_call hfr hb
          replace hX0 := hX0.keep hb
          replace hc0 := fun j => hX0.cell j
          replace hl0 := hX0.lt
          replace hX1 := hX1.keep hb
          replace hc1 := fun j => hX1.cell j
          replace hl1 := hX1.lt
          replace hX2 := hX2.keep hb
          replace hc2 := fun j => hX2.cell j
          replace hl2 := hX2.lt
          clear hb
          go_wp2_with fail
          refine (rCalendar_is A n c cs e _ hr hn _ hok).mono ?_
          rintro e' w6 ⟨rfl, hb⟩
          replace hr := hr.keep hb
          replace hT := hT.keep hb
          replace hfr := fr_call hfr hb
          replace hX0 := hX0.keep hb
          replace hc0 := fun j => hX0.cell j
          replace hl0 := hX0.lt
          replace hX1 := hX1.keep hb
          replace hc1 := fun j => hX1.cell j
          replace hl1 := hX1.lt
          replace hX2 := hX2.keep hb
          replace hc2 := fun j => hX2.cell j
          replace hl2 := hX2.lt
          clear hb
          go_wp2_with fail
          refine (rReal_is A n c cs e y m d _ hr hok _ hq).mono ?_
          rintro e' w7 ⟨rfl, hb⟩
          replace hr := hr.keep hb
          replace hT := hT.keep hb
          replace hfr := fr_call hfr hb
          replace hX0 := hX0.keep hb
          replace hc0 := fun j => hX0.cell j
          replace hl0 := hX0.lt
          replace hX1 := hX1.keep hb
          replace hc1 := fun j => hX1.cell j
          replace hl1 := hX1.lt
          replace hX2 := hX2.keep hb
          replace hc2 := fun j => hX2.cell j
          replace hl2 := hX2.lt
          clear hb
          go_wp2_with fail
          refine (rNumber_is _ _ _ hd).mono ?_
          rintro e' w8 ⟨rfl, rfl⟩
          go_wp2_with fail
          refine (known_is _ hT).mono ?_
          rintro e' w9 ⟨rfl, hb⟩
          replace hr := hr.keep hb
          replace hT := hT.keep hb
          replace hfr := fr_call hfr hb
          replace hX0 := hX0.keep hb
          replace hc0 := fun j => hX0.cell j
          replace hl0 := hX0.lt
          replace hX1 := hX1.keep hb
          replace hc1 := fun j => hX1.cell j
          replace hl1 := hX1.lt
          replace hX2 := hX2.keep hb
          replace hc2 := fun j => hX2.cell j
          replace hl2 := hX2.lt
          clear hb
          go_wp2_with fail
          go_ret
          exact ⟨rfl, hfr⟩
        · have hd2 := inB_iff.1 hd
          rcases ho : dateOf e cs day with _ | x
          · have HO := Lib.hid ho
            clear ho
            go_enter Tryz.func6, Tryz.ntmps6
            go_wp2_with fail
            have hfr := g1
            replace hr := hr.keep g1
            replace hT := hT.keep g1
            have hc0 := fun j => hX0.cell j
            have hc1 := fun j => hX1.cell j
            have hl0 := hX0.lt
            have hl1 := hX1.lt
            refine (lshort_is A n c _ _ true hs).mono ?_
            rintro e' w1 ⟨rfl, hb⟩
            replace hr := hr.keep hb
            replace hT := hT.keep hb
            replace hfr := fr_call hfr hb
            replace hX0 := hX0.keep hb
            replace hc0 := fun j => hX0.cell j
            replace hl0 := hX0.lt
            replace hX1 := hX1.keep hb
            replace hc1 := fun j => hX1.cell j
            replace hl1 := hX1.lt
            clear hb
            go_wp2_with fail
            refine (Check_yes A n c cs e _ hr hn hok).mono ?_
            rintro e' w2 ⟨rfl, hb⟩
            replace hr := hr.keep hb
            replace hT := hT.keep hb
            replace hfr := fr_call hfr hb
            replace hX0 := hX0.keep hb
            replace hc0 := fun j => hX0.cell j
            replace hl0 := hX0.lt
            replace hX1 := hX1.keep hb
            replace hc1 := fun j => hX1.cell j
            replace hl1 := hX1.lt
            clear hb
            go_wp2_with fail
            refine (Day_no A n c cs e y m d _ hr hn hok hq).mono ?_
            rintro e' w3 ⟨rfl, hb⟩
            replace hr := hr.keep hb
            replace hT := hT.keep hb
            replace hfr := fr_call hfr hb
            replace hX0 := hX0.keep hb
            replace hc0 := fun j => hX0.cell j
            replace hl0 := hX0.lt
            replace hX1 := hX1.keep hb
            replace hc1 := fun j => hX1.cell j
            replace hl1 := hX1.lt
            clear hb
            go_wp2_with fail
            refine (Date_ok A n c cs e day _ hr hn hok hd).mono ?_
            rw [HO.out]
            simp only [dateV]
            rintro e' w4 ⟨rfl, hb⟩
            replace hr := hr.keep hb
            replace hT := hT.keep hb
            replace hfr := fr_call hfr hb
            replace hX0 := hX0.keep hb
            replace hc0 := fun j => hX0.cell j
            replace hl0 := hX0.lt
            replace hX1 := hX1.keep hb
            replace hc1 := fun j => hX1.cell j
            replace hl1 := hX1.lt
            clear hb
            go_wp2_with fail
            have ga := fr_alloc (fr_refl w4) (.cells #[.int .i64 0, .int .i64 0, .int .i64 0] 41)
            replace hr := hr.keep ga
            replace hT := hT.keep ga
            replace hfr := fr_call hfr ga
            replace hX0 := hX0.keep ga
            replace hc0 := fun j => hX0.cell j
            replace hl0 := hX0.lt
            replace hX1 := hX1.keep ga
            replace hc1 := fun j => hX1.cell j
            replace hl1 := hX1.lt
            have hX2 := Blk.new w4 41 #[.int .i64 0, .int .i64 0, .int .i64 0]
            have hc2 := fun j => hX2.cell j
            have hl2 := hX2.lt
            clear ga
            refine (rCalendar_is A n c cs e _ hr hn _ hok).mono ?_
            rintro e' w5 ⟨rfl, hb⟩
            replace hr := hr.keep hb
            replace hT := hT.keep hb
            replace hfr := fr_call hfr hb
            replace hX0 := hX0.keep hb
            replace hc0 := fun j => hX0.cell j
            replace hl0 := hX0.lt
            replace hX1 := hX1.keep hb
            replace hc1 := fun j => hX1.cell j
            replace hl1 := hX1.lt
            replace hX2 := hX2.keep hb
            replace hc2 := fun j => hX2.cell j
            replace hl2 := hX2.lt
            clear hb
            go_wp2_with fail
            refine (rCalendar_is A n c cs e _ hr hn _ hok).mono ?_
            rintro e' w6 ⟨rfl, hb⟩
            replace hr := hr.keep hb
            replace hT := hT.keep hb
            replace hfr := fr_call hfr hb
            replace hX0 := hX0.keep hb
            replace hc0 := fun j => hX0.cell j
            replace hl0 := hX0.lt
            replace hX1 := hX1.keep hb
            replace hc1 := fun j => hX1.cell j
            replace hl1 := hX1.lt
            replace hX2 := hX2.keep hb
            replace hc2 := fun j => hX2.cell j
            replace hl2 := hX2.lt
            clear hb
            go_wp2_with fail
            refine (rReal_is A n c cs e y m d _ hr hok _ hq).mono ?_
            rintro e' w7 ⟨rfl, hb⟩
            replace hr := hr.keep hb
            replace hT := hT.keep hb
            replace hfr := fr_call hfr hb
            replace hX0 := hX0.keep hb
            replace hc0 := fun j => hX0.cell j
            replace hl0 := hX0.lt
            replace hX1 := hX1.keep hb
            replace hc1 := fun j => hX1.cell j
            replace hl1 := hX1.lt
            replace hX2 := hX2.keep hb
            replace hc2 := fun j => hX2.cell j
            replace hl2 := hX2.lt
            clear hb
            go_wp2_with fail
            refine (rNumber_is _ _ _ hd).mono ?_
            rintro e' w8 ⟨rfl, rfl⟩
            go_wp2_with fail
            refine (rDate_any A n c cs e day _ hr hok (by omega) (by omega)).mono ?_
            rw [HO.out]
            simp only [rdateV]
            rintro e' w9 ⟨rfl, hb⟩
            replace hr := hr.keep hb
            replace hT := hT.keep hb
            replace hfr := fr_call hfr hb
            replace hX0 := hX0.keep hb
            replace hc0 := fun j => hX0.cell j
            replace hl0 := hX0.lt
            replace hX1 := hX1.keep hb
            replace hc1 := fun j => hX1.cell j
            replace hl1 := hX1.lt
            replace hX2 := hX2.keep hb
            replace hc2 := fun j => hX2.cell j
            replace hl2 := hX2.lt
            clear hb
            go_wp2_with fail
            have ga := fr_alloc (fr_refl w9) (.cells #[.int .i64 0, .int .i64 0, .int .i64 0] 41)
            replace hr := hr.keep ga
            replace hT := hT.keep ga
            replace hfr := fr_call hfr ga
            replace hX0 := hX0.keep ga
            replace hc0 := fun j => hX0.cell j
            replace hl0 := hX0.lt
            replace hX1 := hX1.keep ga
            replace hc1 := fun j => hX1.cell j
            replace hl1 := hX1.lt
            replace hX2 := hX2.keep ga
            replace hc2 := fun j => hX2.cell j
            replace hl2 := hX2.lt
            have hX3 := Blk.new w9 41 #[.int .i64 0, .int .i64 0, .int .i64 0]
            have hc3 := fun j => hX3.cell j
            have hl3 := hX3.lt
            clear ga
            refine (known_is _ hT).mono ?_
            rintro e' w10 ⟨rfl, hb⟩
            replace hr := hr.keep hb
            replace hT := hT.keep hb
            replace hfr := fr_call hfr hb
            replace hX0 := hX0.keep hb
            replace hc0 := fun j => hX0.cell j
            replace hl0 := hX0.lt
            replace hX1 := hX1.keep hb
            replace hc1 := fun j => hX1.cell j
            replace hl1 := hX1.lt
            replace hX2 := hX2.keep hb
            replace hc2 := fun j => hX2.cell j
            replace hl2 := hX2.lt
            replace hX3 := hX3.keep hb
            replace hc3 := fun j => hX3.cell j
            replace hl3 := hX3.lt
            clear hb
            go_wp2_with fail
            go_ret
            exact ⟨rfl, hfr⟩
          · obtain ⟨xy, xm, xd⟩ := x
            have HO := Lib.hid ho
            clear ho
            go_enter Tryz.func6, Tryz.ntmps6
            go_wp2_with fail
            have hfr := g1
            replace hr := hr.keep g1
            replace hT := hT.keep g1
            have hc0 := fun j => hX0.cell j
            have hc1 := fun j => hX1.cell j
            have hl0 := hX0.lt
            have hl1 := hX1.lt
            refine (lshort_is A n c _ _ true hs).mono ?_
            rintro e' w1 ⟨rfl, hb⟩
            replace hr := hr.keep hb
            replace hT := hT.keep hb
            replace hfr := fr_call hfr hb
            replace hX0 := hX0.keep hb
            replace hc0 := fun j => hX0.cell j
            replace hl0 := hX0.lt
            replace hX1 := hX1.keep hb
            replace hc1 := fun j => hX1.cell j
            replace hl1 := hX1.lt
            clear hb
            go_wp2_with fail
            refine (Check_yes A n c cs e _ hr hn hok).mono ?_
            rintro e' w2 ⟨rfl, hb⟩
            replace hr := hr.keep hb
            replace hT := hT.keep hb
            replace hfr := fr_call hfr hb
            replace hX0 := hX0.keep hb
            replace hc0 := fun j => hX0.cell j
            replace hl0 := hX0.lt
            replace hX1 := hX1.keep hb
            replace hc1 := fun j => hX1.cell j
            replace hl1 := hX1.lt
            clear hb
            go_wp2_with fail
            refine (Day_no A n c cs e y m d _ hr hn hok hq).mono ?_
            rintro e' w3 ⟨rfl, hb⟩
            replace hr := hr.keep hb
            replace hT := hT.keep hb
            replace hfr := fr_call hfr hb
            replace hX0 := hX0.keep hb
            replace hc0 := fun j => hX0.cell j
            replace hl0 := hX0.lt
            replace hX1 := hX1.keep hb
            replace hc1 := fun j => hX1.cell j
            replace hl1 := hX1.lt
            clear hb
            go_wp2_with fail
            refine (Date_ok A n c cs e day _ hr hn hok hd).mono ?_
            rw [HO.out]
            simp only [dateV]
            rintro e' w4 ⟨rfl, hb⟩
            replace hr := hr.keep hb
            replace hT := hT.keep hb
            replace hfr := fr_call hfr hb
            replace hX0 := hX0.keep hb
            replace hc0 := fun j => hX0.cell j
            replace hl0 := hX0.lt
            replace hX1 := hX1.keep hb
            replace hc1 := fun j => hX1.cell j
            replace hl1 := hX1.lt
            clear hb
            go_wp2_with fail
            have ga := fr_alloc (fr_refl w4) (.cells #[.int .i64 xy, .int .i64 xm, .int .i64 xd] 41)
            replace hr := hr.keep ga
            replace hT := hT.keep ga
            replace hfr := fr_call hfr ga
            replace hX0 := hX0.keep ga
            replace hc0 := fun j => hX0.cell j
            replace hl0 := hX0.lt
            replace hX1 := hX1.keep ga
            replace hc1 := fun j => hX1.cell j
            replace hl1 := hX1.lt
            have hX2 := Blk.new w4 41 #[.int .i64 xy, .int .i64 xm, .int .i64 xd]
            have hc2 := fun j => hX2.cell j
            have hl2 := hX2.lt
            clear ga
            refine (rCalendar_is A n c cs e _ hr hn _ hok).mono ?_
            rintro e' w5 ⟨rfl, hb⟩
            replace hr := hr.keep hb
            replace hT := hT.keep hb
            replace hfr := fr_call hfr hb
            replace hX0 := hX0.keep hb
            replace hc0 := fun j => hX0.cell j
            replace hl0 := hX0.lt
            replace hX1 := hX1.keep hb
            replace hc1 := fun j => hX1.cell j
            replace hl1 := hX1.lt
            replace hX2 := hX2.keep hb
            replace hc2 := fun j => hX2.cell j
            replace hl2 := hX2.lt
            clear hb
            go_wp2_with fail
            refine (rCalendar_is A n c cs e _ hr hn _ hok).mono ?_
            rintro e' w6 ⟨rfl, hb⟩
            replace hr := hr.keep hb
            replace hT := hT.keep hb
            replace hfr := fr_call hfr hb
            replace hX0 := hX0.keep hb
            replace hc0 := fun j => hX0.cell j
            replace hl0 := hX0.lt
            replace hX1 := hX1.keep hb
            replace hc1 := fun j => hX1.cell j
            replace hl1 := hX1.lt
            replace hX2 := hX2.keep hb
            replace hc2 := fun j => hX2.cell j
            replace hl2 := hX2.lt
            clear hb
            go_wp2_with fail
            refine (rReal_is A n c cs e y m d _ hr hok _ hq).mono ?_
            rintro e' w7 ⟨rfl, hb⟩
            replace hr := hr.keep hb
            replace hT := hT.keep hb
            replace hfr := fr_call hfr hb
            replace hX0 := hX0.keep hb
            replace hc0 := fun j => hX0.cell j
            replace hl0 := hX0.lt
            replace hX1 := hX1.keep hb
            replace hc1 := fun j => hX1.cell j
            replace hl1 := hX1.lt
            replace hX2 := hX2.keep hb
            replace hc2 := fun j => hX2.cell j
            replace hl2 := hX2.lt
            clear hb
            go_wp2_with fail
            refine (rNumber_is _ _ _ hd).mono ?_
            rintro e' w8 ⟨rfl, rfl⟩
            go_wp2_with fail
            refine (rDate_any A n c cs e day _ hr hok (by omega) (by omega)).mono ?_
            rw [HO.out]
            simp only [rdateV]
            rintro e' w9 ⟨rfl, hb⟩
            replace hr := hr.keep hb
            replace hT := hT.keep hb
            replace hfr := fr_call hfr hb
            replace hX0 := hX0.keep hb
            replace hc0 := fun j => hX0.cell j
            replace hl0 := hX0.lt
            replace hX1 := hX1.keep hb
            replace hc1 := fun j => hX1.cell j
            replace hl1 := hX1.lt
            replace hX2 := hX2.keep hb
            replace hc2 := fun j => hX2.cell j
            replace hl2 := hX2.lt
            clear hb
            go_wp2_with fail
            have ga := fr_alloc (fr_refl w9) (.cells #[.int .i64 xy, .int .i64 xm, .int .i64 xd] 41)
            replace hr := hr.keep ga
            replace hT := hT.keep ga
            replace hfr := fr_call hfr ga
            replace hX0 := hX0.keep ga
            replace hc0 := fun j => hX0.cell j
            replace hl0 := hX0.lt
            replace hX1 := hX1.keep ga
            replace hc1 := fun j => hX1.cell j
            replace hl1 := hX1.lt
            replace hX2 := hX2.keep ga
            replace hc2 := fun j => hX2.cell j
            replace hl2 := hX2.lt
            have hX3 := Blk.new w9 41 #[.int .i64 xy, .int .i64 xm, .int .i64 xd]
            have hc3 := fun j => hX3.cell j
            have hl3 := hX3.lt
            clear ga
            refine (known_is _ hT).mono ?_
            rintro e' w10 ⟨rfl, hb⟩
            replace hr := hr.keep hb
            replace hT := hT.keep hb
            replace hfr := fr_call hfr hb
            replace hX0 := hX0.keep hb
            replace hc0 := fun j => hX0.cell j
            replace hl0 := hX0.lt
            replace hX1 := hX1.keep hb
            replace hc1 := fun j => hX1.cell j
            replace hl1 := hX1.lt
            replace hX2 := hX2.keep hb
            replace hc2 := fun j => hX2.cell j
            replace hl2 := hX2.lt
            replace hX3 := hX3.keep hb
            replace hc3 := fun j => hX3.cell j
            replace hl3 := hX3.lt
            clear hb
            go_wp2_with fail
            go_ret
            exact ⟨rfl, hfr⟩
      · have hqr := real_range hq
        obtain ⟨dq, gd⟩ : ∃ z, dayOf e cs ⟨y, m, d⟩ = z := ⟨_, rfl⟩
        have HDQ := Lib.hid gd
        clear gd
        cases hd : inB day 0 2000000
        · go_enter Tryz.func6, Tryz.ntmps6
          go_wp2_with fail
          have hfr := g1
          replace hr := hr.keep g1
          replace hT := hT.keep g1
          have hc0 := fun j => hX0.cell j
          have hc1 := fun j => hX1.cell j
          have hl0 := hX0.lt
          have hl1 := hX1.lt
          refine (lshort_is A n c _ _ true hs).mono ?_
          rintro e' w1 ⟨rfl, hb⟩
          replace hr := hr.keep hb
          replace hT := hT.keep hb
          replace hfr := fr_call hfr hb
          replace hX0 := hX0.keep hb
          replace hc0 := fun j => hX0.cell j
          replace hl0 := hX0.lt
          replace hX1 := hX1.keep hb
          replace hc1 := fun j => hX1.cell j
          replace hl1 := hX1.lt
          clear hb
          go_wp2_with fail
          refine (Check_yes A n c cs e _ hr hn hok).mono ?_
          rintro e' w2 ⟨rfl, hb⟩
          replace hr := hr.keep hb
          replace hT := hT.keep hb
          replace hfr := fr_call hfr hb
          replace hX0 := hX0.keep hb
          replace hc0 := fun j => hX0.cell j
          replace hl0 := hX0.lt
          replace hX1 := hX1.keep hb
          replace hc1 := fun j => hX1.cell j
          replace hl1 := hX1.lt
          clear hb
          go_wp2_with fail
          refine (Day_yes A n c cs e y m d _ hr hn hok hq).mono ?_
          rw [HDQ.out]
          rintro e' w3 ⟨rfl, hb⟩
          replace hr := hr.keep hb
          replace hT := hT.keep hb
          replace hfr := fr_call hfr hb
          replace hX0 := hX0.keep hb
          replace hc0 := fun j => hX0.cell j
          replace hl0 := hX0.lt
          replace hX1 := hX1.keep hb
          replace hc1 := fun j => hX1.cell j
          replace hl1 := hX1.lt
          clear hb
          go_wp2_with fail
          refine (Date_bad A n c cs e day _ hr hn (Or.inr hd)).mono ?_
          rintro e' w4 ⟨rfl, hb⟩
          replace hr := hr.keep hb
          replace hT := hT.keep hb
          replace hfr := fr_call hfr hb
          replace hX0 := hX0.keep hb
          replace hc0 := fun j => hX0.cell j
          replace hl0 := hX0.lt
          replace hX1 := hX1.keep hb
          replace hc1 := fun j => hX1.cell j
          replace hl1 := hX1.lt
          clear hb
          go_wp2_with fail
          have ga := fr_alloc (fr_refl w4) (.cells #[.int .i64 0, .int .i64 0, .int .i64 0] 41)
          replace hr := hr.keep ga
          replace hT := hT.keep ga
          replace hfr := fr_call hfr ga
          replace hX0 := hX0.keep ga
          replace hc0 := fun j => hX0.cell j
          replace hl0 := hX0.lt
          replace hX1 := hX1.keep ga
          replace hc1 := fun j => hX1.cell j
          replace hl1 := hX1.lt
          have hX2 := Blk.new w4 41 #[.int .i64 0, .int .i64 0, .int .i64 0]
          have hc2 := fun j => hX2.cell j
          have hl2 := hX2.lt
          clear ga
          refine (rCalendar_is A n c cs e _ hr hn _ hok).mono ?_
          rintro e' w5 ⟨rfl, hb⟩
          replace hr := hr.keep hb
          replace hT := hT.keep hb
          replace hfr := fr_call hfr hb
          replace hX0 := hX0.keep hb
          replace hc0 := fun j => hX0.cell j
          replace hl0 := hX0.lt
          replace hX1 := hX1.keep hb
          replace hc1 := fun j => hX1.cell j
          replace hl1 := hX1.lt
          replace hX2 := hX2.keep hb
          replace hc2 := fun j => hX2.cell j
          replace hl2 := hX2.lt
          clear hb
          go_wp2_with fail
          refine (rCalendar_is A n c cs e _ hr hn _ hok).mono ?_
          rintro e' w6 ⟨rfl, hb⟩
          replace hr := hr.keep hb
          replace hT := hT.keep hb
          replace hfr := fr_call hfr hb
          replace hX0 := hX0.keep hb
          replace hc0 := fun j => hX0.cell j
          replace hl0 := hX0.lt
          replace hX1 := hX1.keep hb
          replace hc1 := fun j => hX1.cell j
          replace hl1 := hX1.lt
          replace hX2 := hX2.keep hb
          replace hc2 := fun j => hX2.cell j
          replace hl2 := hX2.lt
          clear hb
          go_wp2_with fail
          refine (rReal_is A n c cs e y m d _ hr hok _ hq).mono ?_
          rintro e' w7 ⟨rfl, hb⟩
          replace hr := hr.keep hb
          replace hT := hT.keep hb
          replace hfr := fr_call hfr hb
          replace hX0 := hX0.keep hb
          replace hc0 := fun j => hX0.cell j
          replace hl0 := hX0.lt
          replace hX1 := hX1.keep hb
          replace hc1 := fun j => hX1.cell j
          replace hl1 := hX1.lt
          replace hX2 := hX2.keep hb
          replace hc2 := fun j => hX2.cell j
          replace hl2 := hX2.lt
          clear hb
          go_wp2_with fail
          refine (rDay_any A n c cs e y m d _ hr hok hqr.1.1 hqr.1.2 hqr.2.1.1 hqr.2.1.2 hqr.2.2.1 hqr.2.2.2).mono ?_
          rw [HDQ.out]
          rintro e' w8 ⟨rfl, hb⟩
          replace hr := hr.keep hb
          replace hT := hT.keep hb
          replace hfr := fr_call hfr hb
          replace hX0 := hX0.keep hb
          replace hc0 := fun j => hX0.cell j
          replace hl0 := hX0.lt
          replace hX1 := hX1.keep hb
          replace hc1 := fun j => hX1.cell j
          replace hl1 := hX1.lt
          replace hX2 := hX2.keep hb
          replace hc2 := fun j => hX2.cell j
          replace hl2 := hX2.lt
          clear hb
          go_wp2_with fail
          refine (rNumber_is _ _ _ hd).mono ?_
          rintro e' w9 ⟨rfl, rfl⟩
          go_wp2_with fail
          refine (known_is _ hT).mono ?_
          rintro e' w10 ⟨rfl, hb⟩
          replace hr := hr.keep hb
          replace hT := hT.keep hb
          replace hfr := fr_call hfr hb
          replace hX0 := hX0.keep hb
          replace hc0 := fun j => hX0.cell j
          replace hl0 := hX0.lt
          replace hX1 := hX1.keep hb
          replace hc1 := fun j => hX1.cell j
          replace hl1 := hX1.lt
          replace hX2 := hX2.keep hb
          replace hc2 := fun j => hX2.cell j
          replace hl2 := hX2.lt
          clear hb
          go_wp2_with fail
          go_ret
          exact ⟨rfl, hfr⟩
        · have hd2 := inB_iff.1 hd
          rcases ho : dateOf e cs day with _ | x
          · have HO := Lib.hid ho
            clear ho
            go_enter Tryz.func6, Tryz.ntmps6
            go_wp2_with fail
            have hfr := g1
            replace hr := hr.keep g1
            replace hT := hT.keep g1
            have hc0 := fun j => hX0.cell j
            have hc1 := fun j => hX1.cell j
            have hl0 := hX0.lt
            have hl1 := hX1.lt
            refine (lshort_is A n c _ _ true hs).mono ?_
            rintro e' w1 ⟨rfl, hb⟩
            replace hr := hr.keep hb
            replace hT := hT.keep hb
            replace hfr := fr_call hfr hb
            replace hX0 := hX0.keep hb
            replace hc0 := fun j => hX0.cell j
            replace hl0 := hX0.lt
            replace hX1 := hX1.keep hb
            replace hc1 := fun j => hX1.cell j
            replace hl1 := hX1.lt
            clear hb
            go_wp2_with fail
            refine (Check_yes A n c cs e _ hr hn hok).mono ?_
            rintro e' w2 ⟨rfl, hb⟩
            replace hr := hr.keep hb
            replace hT := hT.keep hb
            replace hfr := fr_call hfr hb
            replace hX0 := hX0.keep hb
            replace hc0 := fun j => hX0.cell j
            replace hl0 := hX0.lt
            replace hX1 := hX1.keep hb
            replace hc1 := fun j => hX1.cell j
            replace hl1 := hX1.lt
            clear hb
            go_wp2_with fail
            refine (Day_yes A n c cs e y m d _ hr hn hok hq).mono ?_
            rw [HDQ.out]
            rintro e' w3 ⟨rfl, hb⟩
            replace hr := hr.keep hb
            replace hT := hT.keep hb
            replace hfr := fr_call hfr hb
            replace hX0 := hX0.keep hb
            replace hc0 := fun j => hX0.cell j
            replace hl0 := hX0.lt
            replace hX1 := hX1.keep hb
            replace hc1 := fun j => hX1.cell j
            replace hl1 := hX1.lt
            clear hb
            go_wp2_with fail
            refine (Date_ok A n c cs e day _ hr hn hok hd).mono ?_
            rw [HO.out]
            simp only [dateV]
            rintro e' w4 ⟨rfl, hb⟩
            replace hr := hr.keep hb
            replace hT := hT.keep hb
            replace hfr := fr_call hfr hb
            replace hX0 := hX0.keep hb
            replace hc0 := fun j => hX0.cell j
            replace hl0 := hX0.lt
            replace hX1 := hX1.keep hb
            replace hc1 := fun j => hX1.cell j
            replace hl1 := hX1.lt
            clear hb
            go_wp2_with fail
            have ga := fr_alloc (fr_refl w4) (.cells #[.int .i64 0, .int .i64 0, .int .i64 0] 41)
            replace hr := hr.keep ga
            replace hT := hT.keep ga
            replace hfr := fr_call hfr ga
            replace hX0 := hX0.keep ga
            replace hc0 := fun j => hX0.cell j
            replace hl0 := hX0.lt
            replace hX1 := hX1.keep ga
            replace hc1 := fun j => hX1.cell j
            replace hl1 := hX1.lt
            have hX2 := Blk.new w4 41 #[.int .i64 0, .int .i64 0, .int .i64 0]
            have hc2 := fun j => hX2.cell j
            have hl2 := hX2.lt
            clear ga
            refine (rCalendar_is A n c cs e _ hr hn _ hok).mono ?_
            rintro e' w5 ⟨rfl, hb⟩
            replace hr := hr.keep hb
            replace hT := hT.keep hb
            replace hfr := fr_call hfr hb
            replace hX0 := hX0.keep hb
            replace hc0 := fun j => hX0.cell j
            replace hl0 := hX0.lt
            replace hX1 := hX1.keep hb
            replace hc1 := fun j => hX1.cell j
            replace hl1 := hX1.lt
            replace hX2 := hX2.keep hb
            replace hc2 := fun j => hX2.cell j
            replace hl2 := hX2.lt
            clear hb
            go_wp2_with fail
            refine (rCalendar_is A n c cs e _ hr hn _ hok).mono ?_
            rintro e' w6 ⟨rfl, hb⟩
            replace hr := hr.keep hb
            replace hT := hT.keep hb
            replace hfr := fr_call hfr hb
            replace hX0 := hX0.keep hb
            replace hc0 := fun j => hX0.cell j
            replace hl0 := hX0.lt
            replace hX1 := hX1.keep hb
            replace hc1 := fun j => hX1.cell j
            replace hl1 := hX1.lt
            replace hX2 := hX2.keep hb
            replace hc2 := fun j => hX2.cell j
            replace hl2 := hX2.lt
            clear hb
            go_wp2_with fail
            refine (rReal_is A n c cs e y m d _ hr hok _ hq).mono ?_
            rintro e' w7 ⟨rfl, hb⟩
            replace hr := hr.keep hb
            replace hT := hT.keep hb
            replace hfr := fr_call hfr hb
            replace hX0 := hX0.keep hb
            replace hc0 := fun j => hX0.cell j
            replace hl0 := hX0.lt
            replace hX1 := hX1.keep hb
            replace hc1 := fun j => hX1.cell j
            replace hl1 := hX1.lt
            replace hX2 := hX2.keep hb
            replace hc2 := fun j => hX2.cell j
            replace hl2 := hX2.lt
            clear hb
            go_wp2_with fail
            refine (rDay_any A n c cs e y m d _ hr hok hqr.1.1 hqr.1.2 hqr.2.1.1 hqr.2.1.2 hqr.2.2.1 hqr.2.2.2).mono ?_
            rw [HDQ.out]
            rintro e' w8 ⟨rfl, hb⟩
            replace hr := hr.keep hb
            replace hT := hT.keep hb
            replace hfr := fr_call hfr hb
            replace hX0 := hX0.keep hb
            replace hc0 := fun j => hX0.cell j
            replace hl0 := hX0.lt
            replace hX1 := hX1.keep hb
            replace hc1 := fun j => hX1.cell j
            replace hl1 := hX1.lt
            replace hX2 := hX2.keep hb
            replace hc2 := fun j => hX2.cell j
            replace hl2 := hX2.lt
            clear hb
            go_wp2_with fail
            refine (rNumber_is _ _ _ hd).mono ?_
            rintro e' w9 ⟨rfl, rfl⟩
            go_wp2_with fail
            refine (rDate_any A n c cs e day _ hr hok (by omega) (by omega)).mono ?_
            rw [HO.out]
            simp only [rdateV]
            rintro e' w10 ⟨rfl, hb⟩
            replace hr := hr.keep hb
            replace hT := hT.keep hb
            replace hfr := fr_call hfr hb
            replace hX0 := hX0.keep hb
            replace hc0 := fun j => hX0.cell j
            replace hl0 := hX0.lt
            replace hX1 := hX1.keep hb
            replace hc1 := fun j => hX1.cell j
            replace hl1 := hX1.lt
            replace hX2 := hX2.keep hb
            replace hc2 := fun j => hX2.cell j
            replace hl2 := hX2.lt
            clear hb
            go_wp2_with fail
            have ga := fr_alloc (fr_refl w10) (.cells #[.int .i64 0, .int .i64 0, .int .i64 0] 41)
            replace hr := hr.keep ga
            replace hT := hT.keep ga
            replace hfr := fr_call hfr ga
            replace hX0 := hX0.keep ga
            replace hc0 := fun j => hX0.cell j
            replace hl0 := hX0.lt
            replace hX1 := hX1.keep ga
            replace hc1 := fun j => hX1.cell j
            replace hl1 := hX1.lt
            replace hX2 := hX2.keep ga
            replace hc2 := fun j => hX2.cell j
            replace hl2 := hX2.lt
            have hX3 := Blk.new w10 41 #[.int .i64 0, .int .i64 0, .int .i64 0]
            have hc3 := fun j => hX3.cell j
            have hl3 := hX3.lt
            clear ga
            refine (known_is _ hT).mono ?_
            rintro e' w11 ⟨rfl, hb⟩
            replace hr := hr.keep hb
            replace hT := hT.keep hb
            replace hfr := fr_call hfr hb
            replace hX0 := hX0.keep hb
            replace hc0 := fun j => hX0.cell j
            replace hl0 := hX0.lt
            replace hX1 := hX1.keep hb
            replace hc1 := fun j => hX1.cell j
            replace hl1 := hX1.lt
            replace hX2 := hX2.keep hb
            replace hc2 := fun j => hX2.cell j
            replace hl2 := hX2.lt
            replace hX3 := hX3.keep hb
            replace hc3 := fun j => hX3.cell j
            replace hl3 := hX3.lt
            clear hb
            go_wp2_with fail
            go_ret
            exact ⟨rfl, hfr⟩
          · obtain ⟨xy, xm, xd⟩ := x
            have HO := Lib.hid ho
            clear ho
            go_enter Tryz.func6, Tryz.ntmps6
            go_wp2_with fail
            have hfr := g1
            replace hr := hr.keep g1
            replace hT := hT.keep g1
            have hc0 := fun j => hX0.cell j
            have hc1 := fun j => hX1.cell j
            have hl0 := hX0.lt
            have hl1 := hX1.lt
            refine (lshort_is A n c _ _ true hs).mono ?_
            rintro e' w1 ⟨rfl, hb⟩
            replace hr := hr.keep hb
            replace hT := hT.keep hb
            replace hfr := fr_call hfr hb
            replace hX0 := hX0.keep hb
            replace hc0 := fun j => hX0.cell j
            replace hl0 := hX0.lt
            replace hX1 := hX1.keep hb
            replace hc1 := fun j => hX1.cell j
            replace hl1 := hX1.lt
            clear hb
            go_wp2_with fail
            refine (Check_yes A n c cs e _ hr hn hok).mono ?_
            rintro e' w2 ⟨rfl, hb⟩
            replace hr := hr.keep hb
            replace hT := hT.keep hb
            replace hfr := fr_call hfr hb
            replace hX0 := hX0.keep hb
            replace hc0 := fun j => hX0.cell j
            replace hl0 := hX0.lt
            replace hX1 := hX1.keep hb
            replace hc1 := fun j => hX1.cell j
            replace hl1 := hX1.lt
            clear hb
            go_wp2_with fail
            refine (Day_yes A n c cs e y m d _ hr hn hok hq).mono ?_
            rw [HDQ.out]
            rintro e' w3 ⟨rfl, hb⟩
            replace hr := hr.keep hb
            replace hT := hT.keep hb
            replace hfr := fr_call hfr hb
            replace hX0 := hX0.keep hb
            replace hc0 := fun j => hX0.cell j
            replace hl0 := hX0.lt
            replace hX1 := hX1.keep hb
            replace hc1 := fun j => hX1.cell j
            replace hl1 := hX1.lt
            clear hb
            go_wp2_with fail
            refine (Date_ok A n c cs e day _ hr hn hok hd).mono ?_
            rw [HO.out]
            simp only [dateV]
            rintro e' w4 ⟨rfl, hb⟩
            replace hr := hr.keep hb
            replace hT := hT.keep hb
            replace hfr := fr_call hfr hb
            replace hX0 := hX0.keep hb
            replace hc0 := fun j => hX0.cell j
            replace hl0 := hX0.lt
            replace hX1 := hX1.keep hb
            replace hc1 := fun j => hX1.cell j
            replace hl1 := hX1.lt
            clear hb
            go_wp2_with fail
            have ga := fr_alloc (fr_refl w4) (.cells #[.int .i64 xy, .int .i64 xm, .int .i64 xd] 41)
            replace hr := hr.keep ga
            replace hT := hT.keep ga
            replace hfr := fr_call hfr ga
            replace hX0 := hX0.keep ga
            replace hc0 := fun j => hX0.cell j
            replace hl0 := hX0.lt
            replace hX1 := hX1.keep ga
            replace hc1 := fun j => hX1.cell j
            replace hl1 := hX1.lt
            have hX2 := Blk.new w4 41 #[.int .i64 xy, .int .i64 xm, .int .i64 xd]
            have hc2 := fun j => hX2.cell j
            have hl2 := hX2.lt
            clear ga
            refine (rCalendar_is A n c cs e _ hr hn _ hok).mono ?_
            rintro e' w5 ⟨rfl, hb⟩
            replace hr := hr.keep hb
            replace hT := hT.keep hb
            replace hfr := fr_call hfr hb
            replace hX0 := hX0.keep hb
            replace hc0 := fun j => hX0.cell j
            replace hl0 := hX0.lt
            replace hX1 := hX1.keep hb
            replace hc1 := fun j => hX1.cell j
            replace hl1 := hX1.lt
            replace hX2 := hX2.keep hb
            replace hc2 := fun j => hX2.cell j
            replace hl2 := hX2.lt
            clear hb
            go_wp2_with fail
            refine (rCalendar_is A n c cs e _ hr hn _ hok).mono ?_
            rintro e' w6 ⟨rfl, hb⟩
            replace hr := hr.keep hb
            replace hT := hT.keep hb
            replace hfr := fr_call hfr hb
            replace hX0 := hX0.keep hb
            replace hc0 := fun j => hX0.cell j
            replace hl0 := hX0.lt
            replace hX1 := hX1.keep hb
            replace hc1 := fun j => hX1.cell j
            replace hl1 := hX1.lt
            replace hX2 := hX2.keep hb
            replace hc2 := fun j => hX2.cell j
            replace hl2 := hX2.lt
            clear hb
            go_wp2_with fail
            refine (rReal_is A n c cs e y m d _ hr hok _ hq).mono ?_
            rintro e' w7 ⟨rfl, hb⟩
            replace hr := hr.keep hb
            replace hT := hT.keep hb
            replace hfr := fr_call hfr hb
            replace hX0 := hX0.keep hb
            replace hc0 := fun j => hX0.cell j
            replace hl0 := hX0.lt
            replace hX1 := hX1.keep hb
            replace hc1 := fun j => hX1.cell j
            replace hl1 := hX1.lt
            replace hX2 := hX2.keep hb
            replace hc2 := fun j => hX2.cell j
            replace hl2 := hX2.lt
            clear hb
            go_wp2_with fail
            refine (rDay_any A n c cs e y m d _ hr hok hqr.1.1 hqr.1.2 hqr.2.1.1 hqr.2.1.2 hqr.2.2.1 hqr.2.2.2).mono ?_
            rw [HDQ.out]
            rintro e' w8 ⟨rfl, hb⟩
            replace hr := hr.keep hb
            replace hT := hT.keep hb
            replace hfr := fr_call hfr hb
            replace hX0 := hX0.keep hb
            replace hc0 := fun j => hX0.cell j
            replace hl0 := hX0.lt
            replace hX1 := hX1.keep hb
            replace hc1 := fun j => hX1.cell j
            replace hl1 := hX1.lt
            replace hX2 := hX2.keep hb
            replace hc2 := fun j => hX2.cell j
            replace hl2 := hX2.lt
            clear hb
            go_wp2_with fail
            refine (rNumber_is _ _ _ hd).mono ?_
            rintro e' w9 ⟨rfl, rfl⟩
            go_wp2_with fail
            refine (rDate_any A n c cs e day _ hr hok (by omega) (by omega)).mono ?_
            rw [HO.out]
            simp only [rdateV]
            rintro e' w10 ⟨rfl, hb⟩
            replace hr := hr.keep hb
            replace hT := hT.keep hb
            replace hfr := fr_call hfr hb
            replace hX0 := hX0.keep hb
            replace hc0 := fun j => hX0.cell j
            replace hl0 := hX0.lt
            replace hX1 := hX1.keep hb
            replace hc1 := fun j => hX1.cell j
            replace hl1 := hX1.lt
            replace hX2 := hX2.keep hb
            replace hc2 := fun j => hX2.cell j
            replace hl2 := hX2.lt
            clear hb
            go_wp2_with fail
            have ga := fr_alloc (fr_refl w10) (.cells #[.int .i64 xy, .int .i64 xm, .int .i64 xd] 41)
            replace hr := hr.keep ga
            replace hT := hT.keep ga
            replace hfr := fr_call hfr ga
            replace hX0 := hX0.keep ga
            replace hc0 := fun j => hX0.cell j
            replace hl0 := hX0.lt
            replace hX1 := hX1.keep ga
            replace hc1 := fun j => hX1.cell j
            replace hl1 := hX1.lt
            replace hX2 := hX2.keep ga
            replace hc2 := fun j => hX2.cell j
            replace hl2 := hX2.lt
            have hX3 := Blk.new w10 41 #[.int .i64 xy, .int .i64 xm, .int .i64 xd]
            have hc3 := fun j => hX3.cell j
            have hl3 := hX3.lt
            clear ga
            refine (known_is _ hT).mono ?_
            rintro e' w11 ⟨rfl, hb⟩
            replace hr := hr.keep hb
            replace hT := hT.keep hb
            replace hfr := fr_call hfr hb
            replace hX0 := hX0.keep hb
            replace hc0 := fun j => hX0.cell j
            replace hl0 := hX0.lt
            replace hX1 := hX1.keep hb
            replace hc1 := fun j => hX1.cell j
            replace hl1 := hX1.lt
            replace hX2 := hX2.keep hb
            replace hc2 := fun j => hX2.cell j
            replace hl2 := hX2.lt
            replace hX3 := hX3.keep hb
            replace hc3 := fun j => hX3.cell j
            replace hl3 := hX3.lt
            clear hb
            go_wp2_with fail
            go_ret
            exact ⟨rfl, hfr⟩
end Go.Proofs.YtnppilaabobgiaaGreatDoor
