/- The law of Easter and feasts: DialEasters, walked. -/
import Derived.Test.YtnppilaabobgiaaGreatDoorMEC
import Derived.Test.YtnppilaabobgiaaGreatDoorMB5
import Derived.Test.YtnppilaabobgiaaGreatDoorMB6
import Derived.Test.YtnppilaabobgiaaGreatDoorMD1
import Derived.Test.YtnppilaabobgiaaGreatDoorMD2
import Derived.Test.YtnppilaabobgiaaGreatDoorMD6
import Derived.Test.YtnppilaabobgiaaGreatDoorMD7
namespace Go.Proofs.YtnppilaabobgiaaGreatDoor
open Go.RowKit Dl

theorem easter_small {e y num den add : Int} {cs : List Int} (hok : calOk e cs = true) (hm : moonB num den add = true) (hy : inB y 0 4000 = true) : 0 ≤ easterDay e cs num den add y ∧ easterDay e cs num den add y ≤ 3000000 := by
  have h1 := march_bounds e cs y (calOk_parts hok).1 (inB_iff.1 hy)
  have h2 := easter_bounds (e := e) (cs := cs) (y := y) (moonB_ok hm)
  omega

set_option maxRecDepth 100000 in
set_option maxHeartbeats 8000000 in
theorem easters_true (A L : Option Addr) (n c lc : Nat) (cs : List Int) (e num den add y : Int) (l : List Feast) (w : World) (hr : Rd w A n cs) (hn : n ≤ 9223372036854775807) (hL : RdS w L 4 (l.map Feast.row)) (hln : l.length ≤ 9223372036854775807) (hT : TabP w) :
    Calls Tryz.prog 7 #[.agg #[.int .i64 e, .slice A n c], .agg #[.int .i64 num, .int .i64 den, .int .i64 add], .slice L l.length lc, .int .i64 y] w fun e' w' => e' = .returned (.bool true) ∧ Below w.heap.size w w' := by
  have g1 := fr_alloc (fr_alloc (fr_refl w) (.cells #[.int .i64 e, .slice A n c] 24)) (.cells #[.int .i64 num, .int .i64 den, .int .i64 add] 63)
  have hX0 : Blk ((w.alloc (.cells #[.int .i64 e, .slice A n c] 24)).alloc (.cells #[.int .i64 num, .int .i64 den, .int .i64 add] 63)) (w.heap.size) 24 #[.int .i64 e, .slice A n c] := ((Blk.new_at _ _ (by simp)).alloc _)
  have hX1 : Blk ((w.alloc (.cells #[.int .i64 e, .slice A n c] 24)).alloc (.cells #[.int .i64 num, .int .i64 den, .int .i64 add] 63)) (w.heap.size + 1) 63 #[.int .i64 num, .int .i64 den, .int .i64 add] := (Blk.new_at _ _ (by simp))
  cases hs : decide ((n : Int) ≤ 5)
  · go_enter Tryz.func7, Tryz.ntmps7
    go_wp2_with fail
    have hfr := g1
    replace hr := hr.keep g1
    replace hL := hL.keep g1
    replace hT := hT.keep g1
    have hc0 := fun j => hX0.cell j
    have hc1 := fun j => hX1.cell j
    have hl0 := hX0.lt
    have hl1 := hX1.lt
    refine (lshort_is A n c _ _ false hs).mono ?_
    rintro e' w1 ⟨rfl, hb⟩
    replace hr := hr.keep hb
    replace hL := hL.keep hb
    replace hT := hT.keep hb
    replace hfr := fr_call hfr hb
    replace hX0 := hX0.keep hb
    replace hc0 := fun j => hX0.cell j
    replace hl0 := hX0.lt
    replace hX1 := hX1.keep hb
    replace hc1 := fun j => hX1.cell j
    replace hl1 := hX1.lt
    clear hb
    go_wp2_with fail
    refine (known_is _ hT).mono ?_
    rintro e' w2 ⟨rfl, hb⟩
    replace hr := hr.keep hb
    replace hL := hL.keep hb
    replace hT := hT.keep hb
    replace hfr := fr_call hfr hb
    replace hX0 := hX0.keep hb
    replace hc0 := fun j => hX0.cell j
    replace hl0 := hX0.lt
    replace hX1 := hX1.keep hb
    replace hc1 := fun j => hX1.cell j
    replace hl1 := hX1.lt
    clear hb
    go_wp2_with fail
    go_ret
    exact ⟨rfl, hfr⟩
  · cases hfw : decide ((l.length : Int) ≤ 8)
    · go_enter Tryz.func7, Tryz.ntmps7
      go_wp2_with fail
      have hfr := g1
      replace hr := hr.keep g1
      replace hL := hL.keep g1
      replace hT := hT.keep g1
      have hc0 := fun j => hX0.cell j
      have hc1 := fun j => hX1.cell j
      have hl0 := hX0.lt
      have hl1 := hX1.lt
      refine (lshort_is A n c _ _ true hs).mono ?_
      rintro e' w1 ⟨rfl, hb⟩
      replace hr := hr.keep hb
      replace hL := hL.keep hb
      replace hT := hT.keep hb
      replace hfr := fr_call hfr hb
      replace hX0 := hX0.keep hb
      replace hc0 := fun j => hX0.cell j
      replace hl0 := hX0.lt
      replace hX1 := hX1.keep hb
      replace hc1 := fun j => hX1.cell j
      replace hl1 := hX1.lt
      clear hb
      go_wp2_with fail
      refine (lfew_is L l.length lc _ false hfw).mono ?_
      rintro e' w2 ⟨rfl, rfl⟩
      go_wp2_with fail
      refine (known_is _ hT).mono ?_
      rintro e' w3 ⟨rfl, hb⟩
      replace hr := hr.keep hb
      replace hL := hL.keep hb
      replace hT := hT.keep hb
      replace hfr := fr_call hfr hb
      replace hX0 := hX0.keep hb
      replace hc0 := fun j => hX0.cell j
      replace hl0 := hX0.lt
      replace hX1 := hX1.keep hb
      replace hc1 := fun j => hX1.cell j
      replace hl1 := hX1.lt
      clear hb
      go_wp2_with fail
      go_ret
      exact ⟨rfl, hfr⟩
    · cases hok : calOk e cs
      · go_enter Tryz.func7, Tryz.ntmps7
        go_wp2_with fail
        have hfr := g1
        replace hr := hr.keep g1
        replace hL := hL.keep g1
        replace hT := hT.keep g1
        have hc0 := fun j => hX0.cell j
        have hc1 := fun j => hX1.cell j
        have hl0 := hX0.lt
        have hl1 := hX1.lt
        refine (lshort_is A n c _ _ true hs).mono ?_
        rintro e' w1 ⟨rfl, hb⟩
        replace hr := hr.keep hb
        replace hL := hL.keep hb
        replace hT := hT.keep hb
        replace hfr := fr_call hfr hb
        replace hX0 := hX0.keep hb
        replace hc0 := fun j => hX0.cell j
        replace hl0 := hX0.lt
        replace hX1 := hX1.keep hb
        replace hc1 := fun j => hX1.cell j
        replace hl1 := hX1.lt
        clear hb
        go_wp2_with fail
        refine (lfew_is L l.length lc _ true hfw).mono ?_
        rintro e' w2 ⟨rfl, rfl⟩
        go_wp2_with fail
        refine (Easter_bad A n c cs e num den add y _ hr hn (Or.inl hok)).mono ?_
        rintro e' w3 ⟨rfl, hb⟩
        replace hr := hr.keep hb
        replace hL := hL.keep hb
        replace hT := hT.keep hb
        replace hfr := fr_call hfr hb
        replace hX0 := hX0.keep hb
        replace hc0 := fun j => hX0.cell j
        replace hl0 := hX0.lt
        replace hX1 := hX1.keep hb
        replace hc1 := fun j => hX1.cell j
        replace hl1 := hX1.lt
        clear hb
        go_wp2_with fail
        have ga := fr_alloc (fr_refl w3) (.cells #[.int .i64 0, .int .i64 0, .int .i64 0] 41)
        replace hr := hr.keep ga
        replace hL := hL.keep ga
        replace hT := hT.keep ga
        replace hfr := fr_call hfr ga
        replace hX0 := hX0.keep ga
        replace hc0 := fun j => hX0.cell j
        replace hl0 := hX0.lt
        replace hX1 := hX1.keep ga
        replace hc1 := fun j => hX1.cell j
        replace hl1 := hX1.lt
        have hX2 := Blk.new w3 41 #[.int .i64 0, .int .i64 0, .int .i64 0]
        have hc2 := fun j => hX2.cell j
        have hl2 := hX2.lt
        clear ga
        refine (Feasts_bad A L n c lc cs e num den add y l _ hr hn hL hln (Or.inl hok)).mono ?_
        rintro e' w4 ⟨rfl, hb⟩
        replace hr := hr.keep hb
        replace hL := hL.keep hb
        replace hT := hT.keep hb
        replace hfr := fr_call hfr hb
        replace hX0 := hX0.keep hb
        replace hc0 := fun j => hX0.cell j
        replace hl0 := hX0.lt
        replace hX1 := hX1.keep hb
        replace hc1 := fun j => hX1.cell j
        replace hl1 := hX1.lt
        replace hX2 := hX2.keep hb
        replace hc2 := fun j => hX2.cell j
        replace hl2 := hX2.lt
        clear hb
        go_wp2_with fail
        refine (rCalendar_is A n c cs e _ hr hn _ hok).mono ?_
        rintro e' w5 ⟨rfl, hb⟩
        replace hr := hr.keep hb
        replace hL := hL.keep hb
        replace hT := hT.keep hb
        replace hfr := fr_call hfr hb
        replace hX0 := hX0.keep hb
        replace hc0 := fun j => hX0.cell j
        replace hl0 := hX0.lt
        replace hX1 := hX1.keep hb
        replace hc1 := fun j => hX1.cell j
        replace hl1 := hX1.lt
        replace hX2 := hX2.keep hb
        replace hc2 := fun j => hX2.cell j
        replace hl2 := hX2.lt
        clear hb
        go_wp2_with fail
        refine (known_is _ hT).mono ?_
        rintro e' w6 ⟨rfl, hb⟩
        replace hr := hr.keep hb
        replace hL := hL.keep hb
        replace hT := hT.keep hb
        replace hfr := fr_call hfr hb
        replace hX0 := hX0.keep hb
        replace hc0 := fun j => hX0.cell j
        replace hl0 := hX0.lt
        replace hX1 := hX1.keep hb
        replace hc1 := fun j => hX1.cell j
        replace hl1 := hX1.lt
        replace hX2 := hX2.keep hb
        replace hc2 := fun j => hX2.cell j
        replace hl2 := hX2.lt
        clear hb
        go_wp2_with fail
        go_ret
        exact ⟨rfl, hfr⟩
      · cases hm : moonB num den add
        · go_enter Tryz.func7, Tryz.ntmps7
          go_wp2_with fail
          have hfr := g1
          replace hr := hr.keep g1
          replace hL := hL.keep g1
          replace hT := hT.keep g1
          have hc0 := fun j => hX0.cell j
          have hc1 := fun j => hX1.cell j
          have hl0 := hX0.lt
          have hl1 := hX1.lt
          refine (lshort_is A n c _ _ true hs).mono ?_
          rintro e' w1 ⟨rfl, hb⟩
          replace hr := hr.keep hb
          replace hL := hL.keep hb
          replace hT := hT.keep hb
          replace hfr := fr_call hfr hb
          replace hX0 := hX0.keep hb
          replace hc0 := fun j => hX0.cell j
          replace hl0 := hX0.lt
          replace hX1 := hX1.keep hb
          replace hc1 := fun j => hX1.cell j
          replace hl1 := hX1.lt
          clear hb
          go_wp2_with fail
          refine (lfew_is L l.length lc _ true hfw).mono ?_
          rintro e' w2 ⟨rfl, rfl⟩
          go_wp2_with fail
          refine (Easter_bad A n c cs e num den add y _ hr hn (Or.inr (Or.inl hm))).mono ?_
          rintro e' w3 ⟨rfl, hb⟩
          replace hr := hr.keep hb
          replace hL := hL.keep hb
          replace hT := hT.keep hb
          replace hfr := fr_call hfr hb
          replace hX0 := hX0.keep hb
          replace hc0 := fun j => hX0.cell j
          replace hl0 := hX0.lt
          replace hX1 := hX1.keep hb
          replace hc1 := fun j => hX1.cell j
          replace hl1 := hX1.lt
          clear hb
          go_wp2_with fail
          have ga := fr_alloc (fr_refl w3) (.cells #[.int .i64 0, .int .i64 0, .int .i64 0] 41)
          replace hr := hr.keep ga
          replace hL := hL.keep ga
          replace hT := hT.keep ga
          replace hfr := fr_call hfr ga
          replace hX0 := hX0.keep ga
          replace hc0 := fun j => hX0.cell j
          replace hl0 := hX0.lt
          replace hX1 := hX1.keep ga
          replace hc1 := fun j => hX1.cell j
          replace hl1 := hX1.lt
          have hX2 := Blk.new w3 41 #[.int .i64 0, .int .i64 0, .int .i64 0]
          have hc2 := fun j => hX2.cell j
          have hl2 := hX2.lt
          clear ga
          refine (Feasts_bad A L n c lc cs e num den add y l _ hr hn hL hln (Or.inr (Or.inl hm))).mono ?_
          rintro e' w4 ⟨rfl, hb⟩
          replace hr := hr.keep hb
          replace hL := hL.keep hb
          replace hT := hT.keep hb
          replace hfr := fr_call hfr hb
          replace hX0 := hX0.keep hb
          replace hc0 := fun j => hX0.cell j
          replace hl0 := hX0.lt
          replace hX1 := hX1.keep hb
          replace hc1 := fun j => hX1.cell j
          replace hl1 := hX1.lt
          replace hX2 := hX2.keep hb
          replace hc2 := fun j => hX2.cell j
          replace hl2 := hX2.lt
          clear hb
          go_wp2_with fail
          refine (rCalendar_is A n c cs e _ hr hn _ hok).mono ?_
          rintro e' w5 ⟨rfl, hb⟩
          replace hr := hr.keep hb
          replace hL := hL.keep hb
          replace hT := hT.keep hb
          replace hfr := fr_call hfr hb
          replace hX0 := hX0.keep hb
          replace hc0 := fun j => hX0.cell j
          replace hl0 := hX0.lt
          replace hX1 := hX1.keep hb
          replace hc1 := fun j => hX1.cell j
          replace hl1 := hX1.lt
          replace hX2 := hX2.keep hb
          replace hc2 := fun j => hX2.cell j
          replace hl2 := hX2.lt
          clear hb
          go_wp2_with fail
          refine (rMoon_is _ _ _ _ _ hm).mono ?_
          rintro e' w6 ⟨rfl, hb⟩
          replace hr := hr.keep hb
          replace hL := hL.keep hb
          replace hT := hT.keep hb
          replace hfr := fr_call hfr hb
          replace hX0 := hX0.keep hb
          replace hc0 := fun j => hX0.cell j
          replace hl0 := hX0.lt
          replace hX1 := hX1.keep hb
          replace hc1 := fun j => hX1.cell j
          replace hl1 := hX1.lt
          replace hX2 := hX2.keep hb
          replace hc2 := fun j => hX2.cell j
          replace hl2 := hX2.lt
          clear hb
          go_wp2_with fail
          refine (known_is _ hT).mono ?_
          rintro e' w7 ⟨rfl, hb⟩
          replace hr := hr.keep hb
          replace hL := hL.keep hb
          replace hT := hT.keep hb
          replace hfr := fr_call hfr hb
          replace hX0 := hX0.keep hb
          replace hc0 := fun j => hX0.cell j
          replace hl0 := hX0.lt
          replace hX1 := hX1.keep hb
          replace hc1 := fun j => hX1.cell j
          replace hl1 := hX1.lt
          replace hX2 := hX2.keep hb
          replace hc2 := fun j => hX2.cell j
          replace hl2 := hX2.lt
          clear hb
          go_wp2_with fail
          go_ret
          exact ⟨rfl, hfr⟩
        · cases hy : inB y 0 4000
          · go_enter Tryz.func7, Tryz.ntmps7
            go_wp2_with fail
            have hfr := g1
            replace hr := hr.keep g1
            replace hL := hL.keep g1
            replace hT := hT.keep g1
            have hc0 := fun j => hX0.cell j
            have hc1 := fun j => hX1.cell j
            have hl0 := hX0.lt
            have hl1 := hX1.lt
            refine (lshort_is A n c _ _ true hs).mono ?_
            rintro e' w1 ⟨rfl, hb⟩
            replace hr := hr.keep hb
            replace hL := hL.keep hb
            replace hT := hT.keep hb
            replace hfr := fr_call hfr hb
            replace hX0 := hX0.keep hb
            replace hc0 := fun j => hX0.cell j
            replace hl0 := hX0.lt
            replace hX1 := hX1.keep hb
            replace hc1 := fun j => hX1.cell j
            replace hl1 := hX1.lt
            clear hb
            go_wp2_with fail
            refine (lfew_is L l.length lc _ true hfw).mono ?_
            rintro e' w2 ⟨rfl, rfl⟩
            go_wp2_with fail
            refine (Easter_bad A n c cs e num den add y _ hr hn (Or.inr (Or.inr hy))).mono ?_
            rintro e' w3 ⟨rfl, hb⟩
            replace hr := hr.keep hb
            replace hL := hL.keep hb
            replace hT := hT.keep hb
            replace hfr := fr_call hfr hb
            replace hX0 := hX0.keep hb
            replace hc0 := fun j => hX0.cell j
            replace hl0 := hX0.lt
            replace hX1 := hX1.keep hb
            replace hc1 := fun j => hX1.cell j
            replace hl1 := hX1.lt
            clear hb
            go_wp2_with fail
            have ga := fr_alloc (fr_refl w3) (.cells #[.int .i64 0, .int .i64 0, .int .i64 0] 41)
            replace hr := hr.keep ga
            replace hL := hL.keep ga
            replace hT := hT.keep ga
            replace hfr := fr_call hfr ga
            replace hX0 := hX0.keep ga
            replace hc0 := fun j => hX0.cell j
            replace hl0 := hX0.lt
            replace hX1 := hX1.keep ga
            replace hc1 := fun j => hX1.cell j
            replace hl1 := hX1.lt
            have hX2 := Blk.new w3 41 #[.int .i64 0, .int .i64 0, .int .i64 0]
            have hc2 := fun j => hX2.cell j
            have hl2 := hX2.lt
            clear ga
            refine (Feasts_bad A L n c lc cs e num den add y l _ hr hn hL hln (Or.inr (Or.inr (Or.inr hy)))).mono ?_
            rintro e' w4 ⟨rfl, hb⟩
            replace hr := hr.keep hb
            replace hL := hL.keep hb
            replace hT := hT.keep hb
            replace hfr := fr_call hfr hb
            replace hX0 := hX0.keep hb
            replace hc0 := fun j => hX0.cell j
            replace hl0 := hX0.lt
            replace hX1 := hX1.keep hb
            replace hc1 := fun j => hX1.cell j
            replace hl1 := hX1.lt
            replace hX2 := hX2.keep hb
            replace hc2 := fun j => hX2.cell j
            replace hl2 := hX2.lt
            clear hb
            go_wp2_with fail
            refine (rCalendar_is A n c cs e _ hr hn _ hok).mono ?_
            rintro e' w5 ⟨rfl, hb⟩
            replace hr := hr.keep hb
            replace hL := hL.keep hb
            replace hT := hT.keep hb
            replace hfr := fr_call hfr hb
            replace hX0 := hX0.keep hb
            replace hc0 := fun j => hX0.cell j
            replace hl0 := hX0.lt
            replace hX1 := hX1.keep hb
            replace hc1 := fun j => hX1.cell j
            replace hl1 := hX1.lt
            replace hX2 := hX2.keep hb
            replace hc2 := fun j => hX2.cell j
            replace hl2 := hX2.lt
            clear hb
            go_wp2_with fail
            refine (rMoon_is _ _ _ _ _ hm).mono ?_
            rintro e' w6 ⟨rfl, hb⟩
            replace hr := hr.keep hb
            replace hL := hL.keep hb
            replace hT := hT.keep hb
            replace hfr := fr_call hfr hb
            replace hX0 := hX0.keep hb
            replace hc0 := fun j => hX0.cell j
            replace hl0 := hX0.lt
            replace hX1 := hX1.keep hb
            replace hc1 := fun j => hX1.cell j
            replace hl1 := hX1.lt
            replace hX2 := hX2.keep hb
            replace hc2 := fun j => hX2.cell j
            replace hl2 := hX2.lt
            clear hb
            go_wp2_with fail
            refine (rYear_is _ _ _ hy).mono ?_
            rintro e' w7 ⟨rfl, rfl⟩
            go_wp2_with fail
            refine (known_is _ hT).mono ?_
            rintro e' w8 ⟨rfl, hb⟩
            replace hr := hr.keep hb
            replace hL := hL.keep hb
            replace hT := hT.keep hb
            replace hfr := fr_call hfr hb
            replace hX0 := hX0.keep hb
            replace hc0 := fun j => hX0.cell j
            replace hl0 := hX0.lt
            replace hX1 := hX1.keep hb
            replace hc1 := fun j => hX1.cell j
            replace hl1 := hX1.lt
            replace hX2 := hX2.keep hb
            replace hc2 := fun j => hX2.cell j
            replace hl2 := hX2.lt
            clear hb
            go_wp2_with fail
            go_ret
            exact ⟨rfl, hfr⟩
          · have hy2 := inB_iff.1 hy
            obtain ⟨hE1, hE2⟩ := easter_small (e := e) (cs := cs) hok hm hy
            obtain ⟨⟨xy, xm, xd⟩, hx⟩ := easter_date (e := e) (cs := cs) (moonB_ok hm) hy2
            have HX := Lib.hid hx
            obtain ⟨E, gE⟩ : ∃ E, easterDay e cs num den add y = E := ⟨_, rfl⟩
            rw [gE] at hx hE1 hE2
            have HX2 := Lib.hid hx
            have HE := Lib.hid gE
            clear gE hx
            cases hf : feastsB l
            · go_enter Tryz.func7, Tryz.ntmps7
              go_wp2_with fail
              have hfr := g1
              replace hr := hr.keep g1
              replace hL := hL.keep g1
              replace hT := hT.keep g1
              have hc0 := fun j => hX0.cell j
              have hc1 := fun j => hX1.cell j
              have hl0 := hX0.lt
              have hl1 := hX1.lt
              refine (lshort_is A n c _ _ true hs).mono ?_
              rintro e' w1 ⟨rfl, hb⟩
              replace hr := hr.keep hb
              replace hL := hL.keep hb
              replace hT := hT.keep hb
              replace hfr := fr_call hfr hb
              replace hX0 := hX0.keep hb
              replace hc0 := fun j => hX0.cell j
              replace hl0 := hX0.lt
              replace hX1 := hX1.keep hb
              replace hc1 := fun j => hX1.cell j
              replace hl1 := hX1.lt
              clear hb
              go_wp2_with fail
              refine (lfew_is L l.length lc _ true hfw).mono ?_
              rintro e' w2 ⟨rfl, rfl⟩
              go_wp2_with fail
              refine (Easter_ok A n c cs e num den add y ⟨xy, xm, xd⟩ _ hr hn hok hm hy HX.out).mono ?_
              rintro e' w3 ⟨rfl, hb⟩
              replace hr := hr.keep hb
              replace hL := hL.keep hb
              replace hT := hT.keep hb
              replace hfr := fr_call hfr hb
              replace hX0 := hX0.keep hb
              replace hc0 := fun j => hX0.cell j
              replace hl0 := hX0.lt
              replace hX1 := hX1.keep hb
              replace hc1 := fun j => hX1.cell j
              replace hl1 := hX1.lt
              clear hb
              go_wp2_with fail
              have ga := fr_alloc (fr_refl w3) (.cells #[.int .i64 xy, .int .i64 xm, .int .i64 xd] 41)
              replace hr := hr.keep ga
              replace hL := hL.keep ga
              replace hT := hT.keep ga
              replace hfr := fr_call hfr ga
              replace hX0 := hX0.keep ga
              replace hc0 := fun j => hX0.cell j
              replace hl0 := hX0.lt
              replace hX1 := hX1.keep ga
              replace hc1 := fun j => hX1.cell j
              replace hl1 := hX1.lt
              have hX2 := Blk.new w3 41 #[.int .i64 xy, .int .i64 xm, .int .i64 xd]
              have hc2 := fun j => hX2.cell j
              have hl2 := hX2.lt
              clear ga
              refine (Feasts_bad A L n c lc cs e num den add y l _ hr hn hL hln (Or.inr (Or.inr (Or.inl hf)))).mono ?_
              rintro e' w4 ⟨rfl, hb⟩
              replace hr := hr.keep hb
              replace hL := hL.keep hb
              replace hT := hT.keep hb
              replace hfr := fr_call hfr hb
              replace hX0 := hX0.keep hb
              replace hc0 := fun j => hX0.cell j
              replace hl0 := hX0.lt
              replace hX1 := hX1.keep hb
              replace hc1 := fun j => hX1.cell j
              replace hl1 := hX1.lt
              replace hX2 := hX2.keep hb
              replace hc2 := fun j => hX2.cell j
              replace hl2 := hX2.lt
              clear hb
              go_wp2_with fail
              refine (rCalendar_is A n c cs e _ hr hn _ hok).mono ?_
              rintro e' w5 ⟨rfl, hb⟩
              replace hr := hr.keep hb
              replace hL := hL.keep hb
              replace hT := hT.keep hb
              replace hfr := fr_call hfr hb
              replace hX0 := hX0.keep hb
              replace hc0 := fun j => hX0.cell j
              replace hl0 := hX0.lt
              replace hX1 := hX1.keep hb
              replace hc1 := fun j => hX1.cell j
              replace hl1 := hX1.lt
              replace hX2 := hX2.keep hb
              replace hc2 := fun j => hX2.cell j
              replace hl2 := hX2.lt
              clear hb
              go_wp2_with fail
              refine (rMoon_is _ _ _ _ _ hm).mono ?_
              rintro e' w6 ⟨rfl, hb⟩
              replace hr := hr.keep hb
              replace hL := hL.keep hb
              replace hT := hT.keep hb
              replace hfr := fr_call hfr hb
              replace hX0 := hX0.keep hb
              replace hc0 := fun j => hX0.cell j
              replace hl0 := hX0.lt
              replace hX1 := hX1.keep hb
              replace hc1 := fun j => hX1.cell j
              replace hl1 := hX1.lt
              replace hX2 := hX2.keep hb
              replace hc2 := fun j => hX2.cell j
              replace hl2 := hX2.lt
              clear hb
              go_wp2_with fail
              refine (rYear_is _ _ _ hy).mono ?_
              rintro e' w7 ⟨rfl, rfl⟩
              go_upto_region 7 with (fail)
              go_cut [13, 14] from 71 (fun s13 s14 wc => ∃ g, s13 = .pointer (some ⟨g, 0, none⟩) ∧ s14 = .bool true ∧ Blk wc g 41 #[.int .i64 xy, .int .i64 xm, .int .i64 xd] ∧ Below w6.heap.size w6 wc)
              case first =>
                refine wp_region_noPanic ?_
                refine wp_region_held_drew (S := fun W => (∀ p : Addr, p.block < (w6).heap.size → W.cell? p = (w6).cell? p) ∧ Below (w6).heap.size (w6) W) (by kernel_rfl) ⟨fun _ _ => rfl, fr_drew (fr_refl _)⟩ (fun hHeld => ?_)
                -- the region, step by step, in whatever order
                refine wpAnyH_take (i := 0) (oi := ⟨some 72, .load 24 (.tmp 4), 24, "law.go:278", #[], none⟩) (v := ?_) rfl (by kernel_rfl) (by kernel_rfl) (by kernel_rfl) (fun _ _ _ h => h) (Or.inl ⟨by rfl, fun W hSw => ?_⟩) hHeld ?_
                rotate_left
                · (try dsimp only at hSw); go_simp; (try with_reducible rfl)
                (try simp only [Act.put, List.setIfInBounds_toArray, List.set_cons_zero, List.set_cons_succ])
                refine wpAnyH_take (i := 1) (oi := ⟨some 73, .load 24 (.tmp 4), 24, "law.go:278", #[], none⟩) (v := ?_) rfl (by kernel_rfl) (by kernel_rfl) (by kernel_rfl) (fun _ _ _ h => h) (Or.inl ⟨by rfl, fun W hSw => ?_⟩) hHeld ?_
                rotate_left
                · (try dsimp only at hSw); go_simp; (try with_reducible rfl)
                (try simp only [Act.put, List.setIfInBounds_toArray, List.set_cons_zero, List.set_cons_succ])
                refine wpAnyH_take (i := 2) (oi := ⟨some 74, .load 63 (.tmp 5), 63, "law.go:278", #[], none⟩) (v := ?_) rfl (by kernel_rfl) (by kernel_rfl) (by kernel_rfl) (fun _ _ _ h => h) (Or.inl ⟨by rfl, fun W hSw => ?_⟩) hHeld ?_
                rotate_left
                · (try dsimp only at hSw); go_simp; (try with_reducible rfl)
                (try simp only [Act.put, List.setIfInBounds_toArray, List.set_cons_zero, List.set_cons_succ])
                refine wpAnyH_take (i := 3) (oi := ⟨some 75, .move (.tmp 3), 3, "law.go:278", #[], none⟩) (v := ?_) rfl (by kernel_rfl) (by kernel_rfl) (by kernel_rfl) (fun _ _ _ h => h) (Or.inl ⟨by rfl, fun W hSw => ?_⟩) hHeld ?_
                rotate_left
                · (try dsimp only at hSw); go_simp; (try with_reducible rfl)
                (try simp only [Act.put, List.setIfInBounds_toArray, List.set_cons_zero, List.set_cons_succ])
                refine wpAnyH_ready (rs := [4, 9]) (by kernel_rfl) (by simp) ?_
                refine (AllReadyH.cons (o := ⟨some 76, .call { callee := .value (.func 43), args := #[.tmp 73, .tmp 74, .tmp 75], argTypes := #[24, 63, 3] }, 3, "law.go:278", #[⟨1, .data⟩, ⟨2, .data⟩, ⟨3, .data⟩], none⟩) rfl (fun K hK => ?_) (AllReadyH.cons (o := ⟨some 13, .alloc 41, 0, "law.go:278", #[], none⟩) rfl (fun K hK => ?_) AllReadyH.nil))
                · rw [if_pos (by rfl)]
                  go_simp
                  refine (rEasterDay_any A n c cs e num den add y _ (hr.keep hHeld.2) hok (moonB_ok hm) hy2.1 hy2.2).mono ?_
                  rw [HE.out]
                  rintro e' wA ⟨rfl, hb⟩
                  (try replace hZB := hZB.keep hb)
                  refine hK.out _ _ (kp_step hb hHeld) (fun hHeld => ?_)
                  clear hK K
                  (try simp only [Act.put, List.setIfInBounds_toArray, List.set_cons_zero, List.set_cons_succ])
                  refine wpAnyH_ready (rs := [5, 9]) (by kernel_rfl) (by simp) ?_
                  refine (AllReadyH.cons (o := ⟨some 77, .call { callee := .value (.func 38), args := #[.tmp 72, .tmp 76], argTypes := #[24, 3] }, 59, "law.go:278", #[⟨0, .data⟩, ⟨4, .data⟩, ⟨4, .chain⟩], none⟩) rfl (fun K hK => ?_) (AllReadyH.cons (o := ⟨some 13, .alloc 41, 0, "law.go:278", #[], none⟩) rfl (fun K hK => ?_) AllReadyH.nil))
                  · rw [if_pos (by rfl)]
                    go_simp
                    refine (rDate_any A n c cs e E _ (hr.keep hHeld.2) hok (by omega) (by omega)).mono ?_
                    rw [HX2.out]
                    simp only [rdateV]
                    rintro e' wB ⟨rfl, hb⟩
                    (try replace hZB := hZB.keep hb)
                    refine hK.out _ _ (kp_step hb hHeld) (fun hHeld => ?_)
                    clear hK K
                    (try simp only [Act.put, List.setIfInBounds_toArray, List.set_cons_zero, List.set_cons_succ])
                    refine wpAnyH_take (i := 6) (oi := ⟨some 71, .move (.tmp 77), 59, "law.go:278", #[⟨5, .data⟩], none⟩) (v := ?_) rfl (by kernel_rfl) (by kernel_rfl) (by kernel_rfl) (fun _ _ _ h => h) (Or.inl ⟨by rfl, fun W hSw => ?_⟩) hHeld ?_
                    rotate_left
                    · (try dsimp only at hSw); go_simp; (try with_reducible rfl)
                    (try simp only [Act.put, List.setIfInBounds_toArray, List.set_cons_zero, List.set_cons_succ])
                    refine wpAnyH_take (i := 7) (oi := ⟨some 78, .extract (.tmp 71) 0, 41, "law.go:278", #[⟨6, .data⟩], none⟩) (v := ?_) rfl (by kernel_rfl) (by kernel_rfl) (by kernel_rfl) (fun _ _ _ h => h) (Or.inl ⟨by rfl, fun W hSw => ?_⟩) hHeld ?_
                    rotate_left
                    · (try dsimp only at hSw); go_simp; (try with_reducible rfl)
                    (try simp only [Act.put, List.setIfInBounds_toArray, List.set_cons_zero, List.set_cons_succ])
                    refine wpAnyH_take (i := 8) (oi := ⟨some 79, .extract (.tmp 71) 1, 4, "law.go:278", #[⟨6, .data⟩, ⟨10, .gcOnly .lateStores⟩], none⟩) (v := ?_) rfl (by kernel_rfl) (by kernel_rfl) (by kernel_rfl) (fun _ _ _ h => h) (Or.inl ⟨by rfl, fun W hSw => ?_⟩) hHeld ?_
                    rotate_left
                    · (try dsimp only at hSw); go_simp; (try with_reducible rfl)
                    (try simp only [Act.put, List.setIfInBounds_toArray, List.set_cons_zero, List.set_cons_succ])
                    refine wpAnyH_ready (rs := [9]) (by kernel_rfl) (by simp) ?_
                    refine (AllReadyH.cons (o := ⟨some 13, .alloc 41, 0, "law.go:278", #[], none⟩) rfl (fun K hK => ?_) AllReadyH.nil)
                    rw [if_pos (by rfl)]
                    refine wp_allocD rfl ?_
                    intro gZ WZ hZB hbZ hgZ
                    have hgZ0 := Nat.le_trans hHeld.2.size hgZ
                    refine hK.out _ _ (kp_step hbZ hHeld) (fun hHeld => ?_)
                    clear hK K
                    (try simp only [Act.put, List.setIfInBounds_toArray, List.set_cons_zero, List.set_cons_succ])
                    refine wpAnyH_ready (rs := [10]) (by kernel_rfl) (by simp) ?_
                    refine (AllReadyH.cons (o := ⟨none, .store 41 (.tmp 13) (.tmp 78), 0, "law.go:278", #[⟨9, .data⟩, ⟨7, .data⟩, ⟨5, .chain⟩, ⟨0, .phase⟩, ⟨1, .phase⟩, ⟨2, .phase⟩, ⟨3, .phase⟩, ⟨4, .phase⟩, ⟨5, .phase⟩, ⟨6, .phase⟩, ⟨7, .phase⟩, ⟨8, .textOnly .lateStores⟩, ⟨9, .phase⟩], none⟩) rfl (fun K hK => ?_) AllReadyH.nil)
                    rw [if_pos (by rfl)]
                    refine wp_store_blk _ _ _ rfl gZ 41 _ _ rfl rfl hZB rfl (by kernel_rfl) (by simp [Value.oneCell']) ?_
                    intro W3 hZ3 hg3
                    refine hK.out _ _ (kp_of (hHeld.2.grown hg3 hHeld.2.size (by intro k hk; cases hk; exact hgZ0))) (fun hHeld => ?_)
                    clear hK K
                    refine wpAnyH_take (i := 11) (oi := ⟨some 14, .assign (.tmp 79), 4, "law.go:278", #[⟨8, .data⟩, ⟨10, .chain⟩, ⟨0, .phase⟩, ⟨1, .phase⟩, ⟨2, .phase⟩, ⟨3, .phase⟩, ⟨4, .phase⟩, ⟨5, .phase⟩, ⟨6, .phase⟩, ⟨7, .phase⟩, ⟨8, .phase⟩, ⟨9, .phase⟩, ⟨10, .phase⟩], none⟩) (v := ?_) rfl (by kernel_rfl) (by kernel_rfl) (by kernel_rfl) (fun _ _ _ h => h) (Or.inl ⟨by rfl, fun W hSw => ?_⟩) hHeld ?_
                    rotate_left
                    · (try dsimp only at hSw); go_simp; (try with_reducible rfl)
                    (try simp only [Act.put, List.setIfInBounds_toArray, List.set_cons_zero, List.set_cons_succ])
                    refine wpAnyH_done (by kernel_rfl) ?_ _
                    refine NoPanic.normal ?_
                    go_wp2_with fail
                    go_meet
                    case rel => exact ⟨gZ, rfl, rfl, hZ3, hHeld.2⟩
                  · rw [if_pos (by rfl)]
                    refine wp_allocD rfl ?_
                    intro gZ WZ hZB hbZ hgZ
                    have hgZ0 := Nat.le_trans hHeld.2.size hgZ
                    refine hK.out _ _ (kp_step hbZ hHeld) (fun hHeld => ?_)
                    clear hK K
                    (try simp only [Act.put, List.setIfInBounds_toArray, List.set_cons_zero, List.set_cons_succ])
                    refine wpAnyH_ready (rs := [5]) (by kernel_rfl) (by simp) ?_
                    refine (AllReadyH.cons (o := ⟨some 77, .call { callee := .value (.func 38), args := #[.tmp 72, .tmp 76], argTypes := #[24, 3] }, 59, "law.go:278", #[⟨0, .data⟩, ⟨4, .data⟩, ⟨4, .chain⟩], none⟩) rfl (fun K hK => ?_) AllReadyH.nil)
                    rw [if_pos (by rfl)]
                    go_simp
                    refine (rDate_any A n c cs e E _ (hr.keep hHeld.2) hok (by omega) (by omega)).mono ?_
                    rw [HX2.out]
                    simp only [rdateV]
                    rintro e' wB ⟨rfl, hb⟩
                    (try replace hZB := hZB.keep hb)
                    refine hK.out _ _ (kp_step hb hHeld) (fun hHeld => ?_)
                    clear hK K
                    (try simp only [Act.put, List.setIfInBounds_toArray, List.set_cons_zero, List.set_cons_succ])
                    refine wpAnyH_take (i := 6) (oi := ⟨some 71, .move (.tmp 77), 59, "law.go:278", #[⟨5, .data⟩], none⟩) (v := ?_) rfl (by kernel_rfl) (by kernel_rfl) (by kernel_rfl) (fun _ _ _ h => h) (Or.inl ⟨by rfl, fun W hSw => ?_⟩) hHeld ?_
                    rotate_left
                    · (try dsimp only at hSw); go_simp; (try with_reducible rfl)
                    (try simp only [Act.put, List.setIfInBounds_toArray, List.set_cons_zero, List.set_cons_succ])
                    refine wpAnyH_take (i := 7) (oi := ⟨some 78, .extract (.tmp 71) 0, 41, "law.go:278", #[⟨6, .data⟩], none⟩) (v := ?_) rfl (by kernel_rfl) (by kernel_rfl) (by kernel_rfl) (fun _ _ _ h => h) (Or.inl ⟨by rfl, fun W hSw => ?_⟩) hHeld ?_
                    rotate_left
                    · (try dsimp only at hSw); go_simp; (try with_reducible rfl)
                    (try simp only [Act.put, List.setIfInBounds_toArray, List.set_cons_zero, List.set_cons_succ])
                    refine wpAnyH_take (i := 8) (oi := ⟨some 79, .extract (.tmp 71) 1, 4, "law.go:278", #[⟨6, .data⟩, ⟨10, .gcOnly .lateStores⟩], none⟩) (v := ?_) rfl (by kernel_rfl) (by kernel_rfl) (by kernel_rfl) (fun _ _ _ h => h) (Or.inl ⟨by rfl, fun W hSw => ?_⟩) hHeld ?_
                    rotate_left
                    · (try dsimp only at hSw); go_simp; (try with_reducible rfl)
                    (try simp only [Act.put, List.setIfInBounds_toArray, List.set_cons_zero, List.set_cons_succ])
                    refine wpAnyH_ready (rs := [10]) (by kernel_rfl) (by simp) ?_
                    refine (AllReadyH.cons (o := ⟨none, .store 41 (.tmp 13) (.tmp 78), 0, "law.go:278", #[⟨9, .data⟩, ⟨7, .data⟩, ⟨5, .chain⟩, ⟨0, .phase⟩, ⟨1, .phase⟩, ⟨2, .phase⟩, ⟨3, .phase⟩, ⟨4, .phase⟩, ⟨5, .phase⟩, ⟨6, .phase⟩, ⟨7, .phase⟩, ⟨8, .textOnly .lateStores⟩, ⟨9, .phase⟩], none⟩) rfl (fun K hK => ?_) AllReadyH.nil)
                    rw [if_pos (by rfl)]
                    refine wp_store_blk _ _ _ rfl gZ 41 _ _ rfl rfl hZB rfl (by kernel_rfl) (by simp [Value.oneCell']) ?_
                    intro W3 hZ3 hg3
                    refine hK.out _ _ (kp_of (hHeld.2.grown hg3 hHeld.2.size (by intro k hk; cases hk; exact hgZ0))) (fun hHeld => ?_)
                    clear hK K
                    refine wpAnyH_take (i := 11) (oi := ⟨some 14, .assign (.tmp 79), 4, "law.go:278", #[⟨8, .data⟩, ⟨10, .chain⟩, ⟨0, .phase⟩, ⟨1, .phase⟩, ⟨2, .phase⟩, ⟨3, .phase⟩, ⟨4, .phase⟩, ⟨5, .phase⟩, ⟨6, .phase⟩, ⟨7, .phase⟩, ⟨8, .phase⟩, ⟨9, .phase⟩, ⟨10, .phase⟩], none⟩) (v := ?_) rfl (by kernel_rfl) (by kernel_rfl) (by kernel_rfl) (fun _ _ _ h => h) (Or.inl ⟨by rfl, fun W hSw => ?_⟩) hHeld ?_
                    rotate_left
                    · (try dsimp only at hSw); go_simp; (try with_reducible rfl)
                    (try simp only [Act.put, List.setIfInBounds_toArray, List.set_cons_zero, List.set_cons_succ])
                    refine wpAnyH_done (by kernel_rfl) ?_ _
                    refine NoPanic.normal ?_
                    go_wp2_with fail
                    go_meet
                    case rel => exact ⟨gZ, rfl, rfl, hZ3, hHeld.2⟩
                · rw [if_pos (by rfl)]
                  refine wp_allocD rfl ?_
                  intro gZ WZ hZB hbZ hgZ
                  have hgZ0 := Nat.le_trans hHeld.2.size hgZ
                  refine hK.out _ _ (kp_step hbZ hHeld) (fun hHeld => ?_)
                  clear hK K
                  (try simp only [Act.put, List.setIfInBounds_toArray, List.set_cons_zero, List.set_cons_succ])
                  refine wpAnyH_ready (rs := [4]) (by kernel_rfl) (by simp) ?_
                  refine (AllReadyH.cons (o := ⟨some 76, .call { callee := .value (.func 43), args := #[.tmp 73, .tmp 74, .tmp 75], argTypes := #[24, 63, 3] }, 3, "law.go:278", #[⟨1, .data⟩, ⟨2, .data⟩, ⟨3, .data⟩], none⟩) rfl (fun K hK => ?_) AllReadyH.nil)
                  rw [if_pos (by rfl)]
                  go_simp
                  refine (rEasterDay_any A n c cs e num den add y _ (hr.keep hHeld.2) hok (moonB_ok hm) hy2.1 hy2.2).mono ?_
                  rw [HE.out]
                  rintro e' wA ⟨rfl, hb⟩
                  (try replace hZB := hZB.keep hb)
                  refine hK.out _ _ (kp_step hb hHeld) (fun hHeld => ?_)
                  clear hK K
                  (try simp only [Act.put, List.setIfInBounds_toArray, List.set_cons_zero, List.set_cons_succ])
                  refine wpAnyH_ready (rs := [5]) (by kernel_rfl) (by simp) ?_
                  refine (AllReadyH.cons (o := ⟨some 77, .call { callee := .value (.func 38), args := #[.tmp 72, .tmp 76], argTypes := #[24, 3] }, 59, "law.go:278", #[⟨0, .data⟩, ⟨4, .data⟩, ⟨4, .chain⟩], none⟩) rfl (fun K hK => ?_) AllReadyH.nil)
                  rw [if_pos (by rfl)]
                  go_simp
                  refine (rDate_any A n c cs e E _ (hr.keep hHeld.2) hok (by omega) (by omega)).mono ?_
                  rw [HX2.out]
                  simp only [rdateV]
                  rintro e' wB ⟨rfl, hb⟩
                  (try replace hZB := hZB.keep hb)
                  refine hK.out _ _ (kp_step hb hHeld) (fun hHeld => ?_)
                  clear hK K
                  (try simp only [Act.put, List.setIfInBounds_toArray, List.set_cons_zero, List.set_cons_succ])
                  refine wpAnyH_take (i := 6) (oi := ⟨some 71, .move (.tmp 77), 59, "law.go:278", #[⟨5, .data⟩], none⟩) (v := ?_) rfl (by kernel_rfl) (by kernel_rfl) (by kernel_rfl) (fun _ _ _ h => h) (Or.inl ⟨by rfl, fun W hSw => ?_⟩) hHeld ?_
                  rotate_left
                  · (try dsimp only at hSw); go_simp; (try with_reducible rfl)
                  (try simp only [Act.put, List.setIfInBounds_toArray, List.set_cons_zero, List.set_cons_succ])
                  refine wpAnyH_take (i := 7) (oi := ⟨some 78, .extract (.tmp 71) 0, 41, "law.go:278", #[⟨6, .data⟩], none⟩) (v := ?_) rfl (by kernel_rfl) (by kernel_rfl) (by kernel_rfl) (fun _ _ _ h => h) (Or.inl ⟨by rfl, fun W hSw => ?_⟩) hHeld ?_
                  rotate_left
                  · (try dsimp only at hSw); go_simp; (try with_reducible rfl)
                  (try simp only [Act.put, List.setIfInBounds_toArray, List.set_cons_zero, List.set_cons_succ])
                  refine wpAnyH_take (i := 8) (oi := ⟨some 79, .extract (.tmp 71) 1, 4, "law.go:278", #[⟨6, .data⟩, ⟨10, .gcOnly .lateStores⟩], none⟩) (v := ?_) rfl (by kernel_rfl) (by kernel_rfl) (by kernel_rfl) (fun _ _ _ h => h) (Or.inl ⟨by rfl, fun W hSw => ?_⟩) hHeld ?_
                  rotate_left
                  · (try dsimp only at hSw); go_simp; (try with_reducible rfl)
                  (try simp only [Act.put, List.setIfInBounds_toArray, List.set_cons_zero, List.set_cons_succ])
                  refine wpAnyH_ready (rs := [10]) (by kernel_rfl) (by simp) ?_
                  refine (AllReadyH.cons (o := ⟨none, .store 41 (.tmp 13) (.tmp 78), 0, "law.go:278", #[⟨9, .data⟩, ⟨7, .data⟩, ⟨5, .chain⟩, ⟨0, .phase⟩, ⟨1, .phase⟩, ⟨2, .phase⟩, ⟨3, .phase⟩, ⟨4, .phase⟩, ⟨5, .phase⟩, ⟨6, .phase⟩, ⟨7, .phase⟩, ⟨8, .textOnly .lateStores⟩, ⟨9, .phase⟩], none⟩) rfl (fun K hK => ?_) AllReadyH.nil)
                  rw [if_pos (by rfl)]
                  refine wp_store_blk _ _ _ rfl gZ 41 _ _ rfl rfl hZB rfl (by kernel_rfl) (by simp [Value.oneCell']) ?_
                  intro W3 hZ3 hg3
                  refine hK.out _ _ (kp_of (hHeld.2.grown hg3 hHeld.2.size (by intro k hk; cases hk; exact hgZ0))) (fun hHeld => ?_)
                  clear hK K
                  refine wpAnyH_take (i := 11) (oi := ⟨some 14, .assign (.tmp 79), 4, "law.go:278", #[⟨8, .data⟩, ⟨10, .chain⟩, ⟨0, .phase⟩, ⟨1, .phase⟩, ⟨2, .phase⟩, ⟨3, .phase⟩, ⟨4, .phase⟩, ⟨5, .phase⟩, ⟨6, .phase⟩, ⟨7, .phase⟩, ⟨8, .phase⟩, ⟨9, .phase⟩, ⟨10, .phase⟩], none⟩) (v := ?_) rfl (by kernel_rfl) (by kernel_rfl) (by kernel_rfl) (fun _ _ _ h => h) (Or.inl ⟨by rfl, fun W hSw => ?_⟩) hHeld ?_
                  rotate_left
                  · (try dsimp only at hSw); go_simp; (try with_reducible rfl)
                  (try simp only [Act.put, List.setIfInBounds_toArray, List.set_cons_zero, List.set_cons_succ])
                  refine wpAnyH_done (by kernel_rfl) ?_ _
                  refine NoPanic.normal ?_
                  go_wp2_with fail
                  go_meet
                  case rel => exact ⟨gZ, rfl, rfl, hZ3, hHeld.2⟩
              case rest =>
                obtain ⟨gY, rfl, rfl, hX3, hbel2⟩ := hcut
                replace hr := hr.keep hbel2
                replace hL := hL.keep hbel2
                replace hT := hT.keep hbel2
                replace hfr := fr_call hfr hbel2
                replace hX0 := hX0.keep hbel2
                replace hc0 := fun j => hX0.cell j
                replace hl0 := hX0.lt
                replace hX1 := hX1.keep hbel2
                replace hc1 := fun j => hX1.cell j
                replace hl1 := hX1.lt
                replace hX2 := hX2.keep hbel2
                replace hc2 := fun j => hX2.cell j
                replace hl2 := hX2.lt
                have hc3 := fun j => hX3.cell j
                have hl3 := hX3.lt
                go_wp2_with fail
                refine (rFeasts_is L lc l _ hL hln _ hf).mono ?_
                rintro e' w7 ⟨rfl, hb⟩
                replace hr := hr.keep hb
                replace hL := hL.keep hb
                replace hT := hT.keep hb
                replace hfr := fr_call hfr hb
                replace hX0 := hX0.keep hb
                replace hc0 := fun j => hX0.cell j
                replace hl0 := hX0.lt
                replace hX1 := hX1.keep hb
                replace hc1 := fun j => hX1.cell j
                replace hl1 := hX1.lt
                replace hX2 := hX2.keep hb
                replace hc2 := fun j => hX2.cell j
                replace hl2 := hX2.lt
                replace hX3 := hX3.keep hb
                replace hc3 := fun j => hX3.cell j
                replace hl3 := hX3.lt
                clear hb
                go_wp2_with fail
                refine (known_is _ hT).mono ?_
                rintro e' w8 ⟨rfl, hb⟩
                replace hr := hr.keep hb
                replace hL := hL.keep hb
                replace hT := hT.keep hb
                replace hfr := fr_call hfr hb
                replace hX0 := hX0.keep hb
                replace hc0 := fun j => hX0.cell j
                replace hl0 := hX0.lt
                replace hX1 := hX1.keep hb
                replace hc1 := fun j => hX1.cell j
                replace hl1 := hX1.lt
                replace hX2 := hX2.keep hb
                replace hc2 := fun j => hX2.cell j
                replace hl2 := hX2.lt
                replace hX3 := hX3.keep hb
                replace hc3 := fun j => hX3.cell j
                replace hl3 := hX3.lt
                clear hb
                go_wp2_with fail
                go_ret
                exact ⟨rfl, hfr⟩
            · have hfl : (l.map (feastDay e cs num den add y)).length ≤ 9223372036854775807 := by rw [List.length_map]; exact hln
              obtain ⟨fs, gfs⟩ : ∃ fs, l.map (feastDay e cs num den add y) = fs := ⟨_, rfl⟩
              rw [gfs] at hfl
              have HFS := Lib.hid gfs
              clear gfs
              go_enter Tryz.func7, Tryz.ntmps7
              go_wp2_with fail
              have hfr := g1
              replace hr := hr.keep g1
              replace hL := hL.keep g1
              replace hT := hT.keep g1
              have hc0 := fun j => hX0.cell j
              have hc1 := fun j => hX1.cell j
              have hl0 := hX0.lt
              have hl1 := hX1.lt
              refine (lshort_is A n c _ _ true hs).mono ?_
              rintro e' w1 ⟨rfl, hb⟩
              replace hr := hr.keep hb
              replace hL := hL.keep hb
              replace hT := hT.keep hb
              replace hfr := fr_call hfr hb
              replace hX0 := hX0.keep hb
              replace hc0 := fun j => hX0.cell j
              replace hl0 := hX0.lt
              replace hX1 := hX1.keep hb
              replace hc1 := fun j => hX1.cell j
              replace hl1 := hX1.lt
              clear hb
              go_wp2_with fail
              refine (lfew_is L l.length lc _ true hfw).mono ?_
              rintro e' w2 ⟨rfl, rfl⟩
              go_wp2_with fail
              refine (Easter_ok A n c cs e num den add y ⟨xy, xm, xd⟩ _ hr hn hok hm hy HX.out).mono ?_
              rintro e' w3 ⟨rfl, hb⟩
              replace hr := hr.keep hb
              replace hL := hL.keep hb
              replace hT := hT.keep hb
              replace hfr := fr_call hfr hb
              replace hX0 := hX0.keep hb
              replace hc0 := fun j => hX0.cell j
              replace hl0 := hX0.lt
              replace hX1 := hX1.keep hb
              replace hc1 := fun j => hX1.cell j
              replace hl1 := hX1.lt
              clear hb
              go_wp2_with fail
              have ga := fr_alloc (fr_refl w3) (.cells #[.int .i64 xy, .int .i64 xm, .int .i64 xd] 41)
              replace hr := hr.keep ga
              replace hL := hL.keep ga
              replace hT := hT.keep ga
              replace hfr := fr_call hfr ga
              replace hX0 := hX0.keep ga
              replace hc0 := fun j => hX0.cell j
              replace hl0 := hX0.lt
              replace hX1 := hX1.keep ga
              replace hc1 := fun j => hX1.cell j
              replace hl1 := hX1.lt
              have hX2 := Blk.new w3 41 #[.int .i64 xy, .int .i64 xm, .int .i64 xd]
              have hc2 := fun j => hX2.cell j
              have hl2 := hX2.lt
              clear ga
              refine (Feasts_ok A L n c lc cs e num den add y l _ hr hn hL hln hok hm hf hy).mono ?_
              rw [HFS.out]
              rintro e' w4 ⟨AX, cX, rfl, hrX, hb⟩
              replace hr := hr.keep hb
              replace hL := hL.keep hb
              replace hT := hT.keep hb
              replace hfr := fr_call hfr hb
              replace hX0 := hX0.keep hb
              replace hc0 := fun j => hX0.cell j
              replace hl0 := hX0.lt
              replace hX1 := hX1.keep hb
              replace hc1 := fun j => hX1.cell j
              replace hl1 := hX1.lt
              replace hX2 := hX2.keep hb
              replace hc2 := fun j => hX2.cell j
              replace hl2 := hX2.lt
              clear hb
              go_wp2_with fail
              refine (rCalendar_is A n c cs e _ hr hn _ hok).mono ?_
              rintro e' w5 ⟨rfl, hb⟩
              replace hr := hr.keep hb
              replace hL := hL.keep hb
              replace hT := hT.keep hb
              replace hrX := hrX.keep hb
              replace hfr := fr_call hfr hb
              replace hX0 := hX0.keep hb
              replace hc0 := fun j => hX0.cell j
              replace hl0 := hX0.lt
              replace hX1 := hX1.keep hb
              replace hc1 := fun j => hX1.cell j
              replace hl1 := hX1.lt
              replace hX2 := hX2.keep hb
              replace hc2 := fun j => hX2.cell j
              replace hl2 := hX2.lt
              clear hb
              go_wp2_with fail
              refine (rMoon_is _ _ _ _ _ hm).mono ?_
              rintro e' w6 ⟨rfl, hb⟩
              replace hr := hr.keep hb
              replace hL := hL.keep hb
              replace hT := hT.keep hb
              replace hrX := hrX.keep hb
              replace hfr := fr_call hfr hb
              replace hX0 := hX0.keep hb
              replace hc0 := fun j => hX0.cell j
              replace hl0 := hX0.lt
              replace hX1 := hX1.keep hb
              replace hc1 := fun j => hX1.cell j
              replace hl1 := hX1.lt
              replace hX2 := hX2.keep hb
              replace hc2 := fun j => hX2.cell j
              replace hl2 := hX2.lt
              clear hb
              go_wp2_with fail
              refine (rYear_is _ _ _ hy).mono ?_
              rintro e' w7 ⟨rfl, rfl⟩
              go_upto_region 7 with (fail)
              go_cut [13, 14] from 71 (fun s13 s14 wc => ∃ g, s13 = .pointer (some ⟨g, 0, none⟩) ∧ s14 = .bool true ∧ Blk wc g 41 #[.int .i64 xy, .int .i64 xm, .int .i64 xd] ∧ Below w6.heap.size w6 wc)
              case first =>
                refine wp_region_noPanic ?_
                refine wp_region_held_drew (S := fun W => (∀ p : Addr, p.block < (w6).heap.size → W.cell? p = (w6).cell? p) ∧ Below (w6).heap.size (w6) W) (by kernel_rfl) ⟨fun _ _ => rfl, fr_drew (fr_refl _)⟩ (fun hHeld => ?_)
                -- the region, step by step, in whatever order
                refine wpAnyH_take (i := 0) (oi := ⟨some 72, .load 24 (.tmp 4), 24, "law.go:278", #[], none⟩) (v := ?_) rfl (by kernel_rfl) (by kernel_rfl) (by kernel_rfl) (fun _ _ _ h => h) (Or.inl ⟨by rfl, fun W hSw => ?_⟩) hHeld ?_
                rotate_left
                · (try dsimp only at hSw); go_simp; (try with_reducible rfl)
                (try simp only [Act.put, List.setIfInBounds_toArray, List.set_cons_zero, List.set_cons_succ])
                refine wpAnyH_take (i := 1) (oi := ⟨some 73, .load 24 (.tmp 4), 24, "law.go:278", #[], none⟩) (v := ?_) rfl (by kernel_rfl) (by kernel_rfl) (by kernel_rfl) (fun _ _ _ h => h) (Or.inl ⟨by rfl, fun W hSw => ?_⟩) hHeld ?_
                rotate_left
                · (try dsimp only at hSw); go_simp; (try with_reducible rfl)
                (try simp only [Act.put, List.setIfInBounds_toArray, List.set_cons_zero, List.set_cons_succ])
                refine wpAnyH_take (i := 2) (oi := ⟨some 74, .load 63 (.tmp 5), 63, "law.go:278", #[], none⟩) (v := ?_) rfl (by kernel_rfl) (by kernel_rfl) (by kernel_rfl) (fun _ _ _ h => h) (Or.inl ⟨by rfl, fun W hSw => ?_⟩) hHeld ?_
                rotate_left
                · (try dsimp only at hSw); go_simp; (try with_reducible rfl)
                (try simp only [Act.put, List.setIfInBounds_toArray, List.set_cons_zero, List.set_cons_succ])
                refine wpAnyH_take (i := 3) (oi := ⟨some 75, .move (.tmp 3), 3, "law.go:278", #[], none⟩) (v := ?_) rfl (by kernel_rfl) (by kernel_rfl) (by kernel_rfl) (fun _ _ _ h => h) (Or.inl ⟨by rfl, fun W hSw => ?_⟩) hHeld ?_
                rotate_left
                · (try dsimp only at hSw); go_simp; (try with_reducible rfl)
                (try simp only [Act.put, List.setIfInBounds_toArray, List.set_cons_zero, List.set_cons_succ])
                refine wpAnyH_ready (rs := [4, 9]) (by kernel_rfl) (by simp) ?_
                refine (AllReadyH.cons (o := ⟨some 76, .call { callee := .value (.func 43), args := #[.tmp 73, .tmp 74, .tmp 75], argTypes := #[24, 63, 3] }, 3, "law.go:278", #[⟨1, .data⟩, ⟨2, .data⟩, ⟨3, .data⟩], none⟩) rfl (fun K hK => ?_) (AllReadyH.cons (o := ⟨some 13, .alloc 41, 0, "law.go:278", #[], none⟩) rfl (fun K hK => ?_) AllReadyH.nil))
                · rw [if_pos (by rfl)]
                  go_simp
                  refine (rEasterDay_any A n c cs e num den add y _ (hr.keep hHeld.2) hok (moonB_ok hm) hy2.1 hy2.2).mono ?_
                  rw [HE.out]
                  rintro e' wA ⟨rfl, hb⟩
                  (try replace hZB := hZB.keep hb)
                  refine hK.out _ _ (kp_step hb hHeld) (fun hHeld => ?_)
                  clear hK K
                  (try simp only [Act.put, List.setIfInBounds_toArray, List.set_cons_zero, List.set_cons_succ])
                  refine wpAnyH_ready (rs := [5, 9]) (by kernel_rfl) (by simp) ?_
                  refine (AllReadyH.cons (o := ⟨some 77, .call { callee := .value (.func 38), args := #[.tmp 72, .tmp 76], argTypes := #[24, 3] }, 59, "law.go:278", #[⟨0, .data⟩, ⟨4, .data⟩, ⟨4, .chain⟩], none⟩) rfl (fun K hK => ?_) (AllReadyH.cons (o := ⟨some 13, .alloc 41, 0, "law.go:278", #[], none⟩) rfl (fun K hK => ?_) AllReadyH.nil))
                  · rw [if_pos (by rfl)]
                    go_simp
                    refine (rDate_any A n c cs e E _ (hr.keep hHeld.2) hok (by omega) (by omega)).mono ?_
                    rw [HX2.out]
                    simp only [rdateV]
                    rintro e' wB ⟨rfl, hb⟩
                    (try replace hZB := hZB.keep hb)
                    refine hK.out _ _ (kp_step hb hHeld) (fun hHeld => ?_)
                    clear hK K
                    (try simp only [Act.put, List.setIfInBounds_toArray, List.set_cons_zero, List.set_cons_succ])
                    refine wpAnyH_take (i := 6) (oi := ⟨some 71, .move (.tmp 77), 59, "law.go:278", #[⟨5, .data⟩], none⟩) (v := ?_) rfl (by kernel_rfl) (by kernel_rfl) (by kernel_rfl) (fun _ _ _ h => h) (Or.inl ⟨by rfl, fun W hSw => ?_⟩) hHeld ?_
                    rotate_left
                    · (try dsimp only at hSw); go_simp; (try with_reducible rfl)
                    (try simp only [Act.put, List.setIfInBounds_toArray, List.set_cons_zero, List.set_cons_succ])
                    refine wpAnyH_take (i := 7) (oi := ⟨some 78, .extract (.tmp 71) 0, 41, "law.go:278", #[⟨6, .data⟩], none⟩) (v := ?_) rfl (by kernel_rfl) (by kernel_rfl) (by kernel_rfl) (fun _ _ _ h => h) (Or.inl ⟨by rfl, fun W hSw => ?_⟩) hHeld ?_
                    rotate_left
                    · (try dsimp only at hSw); go_simp; (try with_reducible rfl)
                    (try simp only [Act.put, List.setIfInBounds_toArray, List.set_cons_zero, List.set_cons_succ])
                    refine wpAnyH_take (i := 8) (oi := ⟨some 79, .extract (.tmp 71) 1, 4, "law.go:278", #[⟨6, .data⟩, ⟨10, .gcOnly .lateStores⟩], none⟩) (v := ?_) rfl (by kernel_rfl) (by kernel_rfl) (by kernel_rfl) (fun _ _ _ h => h) (Or.inl ⟨by rfl, fun W hSw => ?_⟩) hHeld ?_
                    rotate_left
                    · (try dsimp only at hSw); go_simp; (try with_reducible rfl)
                    (try simp only [Act.put, List.setIfInBounds_toArray, List.set_cons_zero, List.set_cons_succ])
                    refine wpAnyH_ready (rs := [9]) (by kernel_rfl) (by simp) ?_
                    refine (AllReadyH.cons (o := ⟨some 13, .alloc 41, 0, "law.go:278", #[], none⟩) rfl (fun K hK => ?_) AllReadyH.nil)
                    rw [if_pos (by rfl)]
                    refine wp_allocD rfl ?_
                    intro gZ WZ hZB hbZ hgZ
                    have hgZ0 := Nat.le_trans hHeld.2.size hgZ
                    refine hK.out _ _ (kp_step hbZ hHeld) (fun hHeld => ?_)
                    clear hK K
                    (try simp only [Act.put, List.setIfInBounds_toArray, List.set_cons_zero, List.set_cons_succ])
                    refine wpAnyH_ready (rs := [10]) (by kernel_rfl) (by simp) ?_
                    refine (AllReadyH.cons (o := ⟨none, .store 41 (.tmp 13) (.tmp 78), 0, "law.go:278", #[⟨9, .data⟩, ⟨7, .data⟩, ⟨5, .chain⟩, ⟨0, .phase⟩, ⟨1, .phase⟩, ⟨2, .phase⟩, ⟨3, .phase⟩, ⟨4, .phase⟩, ⟨5, .phase⟩, ⟨6, .phase⟩, ⟨7, .phase⟩, ⟨8, .textOnly .lateStores⟩, ⟨9, .phase⟩], none⟩) rfl (fun K hK => ?_) AllReadyH.nil)
                    rw [if_pos (by rfl)]
                    refine wp_store_blk _ _ _ rfl gZ 41 _ _ rfl rfl hZB rfl (by kernel_rfl) (by simp [Value.oneCell']) ?_
                    intro W3 hZ3 hg3
                    refine hK.out _ _ (kp_of (hHeld.2.grown hg3 hHeld.2.size (by intro k hk; cases hk; exact hgZ0))) (fun hHeld => ?_)
                    clear hK K
                    refine wpAnyH_take (i := 11) (oi := ⟨some 14, .assign (.tmp 79), 4, "law.go:278", #[⟨8, .data⟩, ⟨10, .chain⟩, ⟨0, .phase⟩, ⟨1, .phase⟩, ⟨2, .phase⟩, ⟨3, .phase⟩, ⟨4, .phase⟩, ⟨5, .phase⟩, ⟨6, .phase⟩, ⟨7, .phase⟩, ⟨8, .phase⟩, ⟨9, .phase⟩, ⟨10, .phase⟩], none⟩) (v := ?_) rfl (by kernel_rfl) (by kernel_rfl) (by kernel_rfl) (fun _ _ _ h => h) (Or.inl ⟨by rfl, fun W hSw => ?_⟩) hHeld ?_
                    rotate_left
                    · (try dsimp only at hSw); go_simp; (try with_reducible rfl)
                    (try simp only [Act.put, List.setIfInBounds_toArray, List.set_cons_zero, List.set_cons_succ])
                    refine wpAnyH_done (by kernel_rfl) ?_ _
                    refine NoPanic.normal ?_
                    go_wp2_with fail
                    go_meet
                    case rel => exact ⟨gZ, rfl, rfl, hZ3, hHeld.2⟩
                  · rw [if_pos (by rfl)]
                    refine wp_allocD rfl ?_
                    intro gZ WZ hZB hbZ hgZ
                    have hgZ0 := Nat.le_trans hHeld.2.size hgZ
                    refine hK.out _ _ (kp_step hbZ hHeld) (fun hHeld => ?_)
                    clear hK K
                    (try simp only [Act.put, List.setIfInBounds_toArray, List.set_cons_zero, List.set_cons_succ])
                    refine wpAnyH_ready (rs := [5]) (by kernel_rfl) (by simp) ?_
                    refine (AllReadyH.cons (o := ⟨some 77, .call { callee := .value (.func 38), args := #[.tmp 72, .tmp 76], argTypes := #[24, 3] }, 59, "law.go:278", #[⟨0, .data⟩, ⟨4, .data⟩, ⟨4, .chain⟩], none⟩) rfl (fun K hK => ?_) AllReadyH.nil)
                    rw [if_pos (by rfl)]
                    go_simp
                    refine (rDate_any A n c cs e E _ (hr.keep hHeld.2) hok (by omega) (by omega)).mono ?_
                    rw [HX2.out]
                    simp only [rdateV]
                    rintro e' wB ⟨rfl, hb⟩
                    (try replace hZB := hZB.keep hb)
                    refine hK.out _ _ (kp_step hb hHeld) (fun hHeld => ?_)
                    clear hK K
                    (try simp only [Act.put, List.setIfInBounds_toArray, List.set_cons_zero, List.set_cons_succ])
                    refine wpAnyH_take (i := 6) (oi := ⟨some 71, .move (.tmp 77), 59, "law.go:278", #[⟨5, .data⟩], none⟩) (v := ?_) rfl (by kernel_rfl) (by kernel_rfl) (by kernel_rfl) (fun _ _ _ h => h) (Or.inl ⟨by rfl, fun W hSw => ?_⟩) hHeld ?_
                    rotate_left
                    · (try dsimp only at hSw); go_simp; (try with_reducible rfl)
                    (try simp only [Act.put, List.setIfInBounds_toArray, List.set_cons_zero, List.set_cons_succ])
                    refine wpAnyH_take (i := 7) (oi := ⟨some 78, .extract (.tmp 71) 0, 41, "law.go:278", #[⟨6, .data⟩], none⟩) (v := ?_) rfl (by kernel_rfl) (by kernel_rfl) (by kernel_rfl) (fun _ _ _ h => h) (Or.inl ⟨by rfl, fun W hSw => ?_⟩) hHeld ?_
                    rotate_left
                    · (try dsimp only at hSw); go_simp; (try with_reducible rfl)
                    (try simp only [Act.put, List.setIfInBounds_toArray, List.set_cons_zero, List.set_cons_succ])
                    refine wpAnyH_take (i := 8) (oi := ⟨some 79, .extract (.tmp 71) 1, 4, "law.go:278", #[⟨6, .data⟩, ⟨10, .gcOnly .lateStores⟩], none⟩) (v := ?_) rfl (by kernel_rfl) (by kernel_rfl) (by kernel_rfl) (fun _ _ _ h => h) (Or.inl ⟨by rfl, fun W hSw => ?_⟩) hHeld ?_
                    rotate_left
                    · (try dsimp only at hSw); go_simp; (try with_reducible rfl)
                    (try simp only [Act.put, List.setIfInBounds_toArray, List.set_cons_zero, List.set_cons_succ])
                    refine wpAnyH_ready (rs := [10]) (by kernel_rfl) (by simp) ?_
                    refine (AllReadyH.cons (o := ⟨none, .store 41 (.tmp 13) (.tmp 78), 0, "law.go:278", #[⟨9, .data⟩, ⟨7, .data⟩, ⟨5, .chain⟩, ⟨0, .phase⟩, ⟨1, .phase⟩, ⟨2, .phase⟩, ⟨3, .phase⟩, ⟨4, .phase⟩, ⟨5, .phase⟩, ⟨6, .phase⟩, ⟨7, .phase⟩, ⟨8, .textOnly .lateStores⟩, ⟨9, .phase⟩], none⟩) rfl (fun K hK => ?_) AllReadyH.nil)
                    rw [if_pos (by rfl)]
                    refine wp_store_blk _ _ _ rfl gZ 41 _ _ rfl rfl hZB rfl (by kernel_rfl) (by simp [Value.oneCell']) ?_
                    intro W3 hZ3 hg3
                    refine hK.out _ _ (kp_of (hHeld.2.grown hg3 hHeld.2.size (by intro k hk; cases hk; exact hgZ0))) (fun hHeld => ?_)
                    clear hK K
                    refine wpAnyH_take (i := 11) (oi := ⟨some 14, .assign (.tmp 79), 4, "law.go:278", #[⟨8, .data⟩, ⟨10, .chain⟩, ⟨0, .phase⟩, ⟨1, .phase⟩, ⟨2, .phase⟩, ⟨3, .phase⟩, ⟨4, .phase⟩, ⟨5, .phase⟩, ⟨6, .phase⟩, ⟨7, .phase⟩, ⟨8, .phase⟩, ⟨9, .phase⟩, ⟨10, .phase⟩], none⟩) (v := ?_) rfl (by kernel_rfl) (by kernel_rfl) (by kernel_rfl) (fun _ _ _ h => h) (Or.inl ⟨by rfl, fun W hSw => ?_⟩) hHeld ?_
                    rotate_left
                    · (try dsimp only at hSw); go_simp; (try with_reducible rfl)
                    (try simp only [Act.put, List.setIfInBounds_toArray, List.set_cons_zero, List.set_cons_succ])
                    refine wpAnyH_done (by kernel_rfl) ?_ _
                    refine NoPanic.normal ?_
                    go_wp2_with fail
                    go_meet
                    case rel => exact ⟨gZ, rfl, rfl, hZ3, hHeld.2⟩
                · rw [if_pos (by rfl)]
                  refine wp_allocD rfl ?_
                  intro gZ WZ hZB hbZ hgZ
                  have hgZ0 := Nat.le_trans hHeld.2.size hgZ
                  refine hK.out _ _ (kp_step hbZ hHeld) (fun hHeld => ?_)
                  clear hK K
                  (try simp only [Act.put, List.setIfInBounds_toArray, List.set_cons_zero, List.set_cons_succ])
                  refine wpAnyH_ready (rs := [4]) (by kernel_rfl) (by simp) ?_
                  refine (AllReadyH.cons (o := ⟨some 76, .call { callee := .value (.func 43), args := #[.tmp 73, .tmp 74, .tmp 75], argTypes := #[24, 63, 3] }, 3, "law.go:278", #[⟨1, .data⟩, ⟨2, .data⟩, ⟨3, .data⟩], none⟩) rfl (fun K hK => ?_) AllReadyH.nil)
                  rw [if_pos (by rfl)]
                  go_simp
                  refine (rEasterDay_any A n c cs e num den add y _ (hr.keep hHeld.2) hok (moonB_ok hm) hy2.1 hy2.2).mono ?_
                  rw [HE.out]
                  rintro e' wA ⟨rfl, hb⟩
                  (try replace hZB := hZB.keep hb)
                  refine hK.out _ _ (kp_step hb hHeld) (fun hHeld => ?_)
                  clear hK K
                  (try simp only [Act.put, List.setIfInBounds_toArray, List.set_cons_zero, List.set_cons_succ])
                  refine wpAnyH_ready (rs := [5]) (by kernel_rfl) (by simp) ?_
                  refine (AllReadyH.cons (o := ⟨some 77, .call { callee := .value (.func 38), args := #[.tmp 72, .tmp 76], argTypes := #[24, 3] }, 59, "law.go:278", #[⟨0, .data⟩, ⟨4, .data⟩, ⟨4, .chain⟩], none⟩) rfl (fun K hK => ?_) AllReadyH.nil)
                  rw [if_pos (by rfl)]
                  go_simp
                  refine (rDate_any A n c cs e E _ (hr.keep hHeld.2) hok (by omega) (by omega)).mono ?_
                  rw [HX2.out]
                  simp only [rdateV]
                  rintro e' wB ⟨rfl, hb⟩
                  (try replace hZB := hZB.keep hb)
                  refine hK.out _ _ (kp_step hb hHeld) (fun hHeld => ?_)
                  clear hK K
                  (try simp only [Act.put, List.setIfInBounds_toArray, List.set_cons_zero, List.set_cons_succ])
                  refine wpAnyH_take (i := 6) (oi := ⟨some 71, .move (.tmp 77), 59, "law.go:278", #[⟨5, .data⟩], none⟩) (v := ?_) rfl (by kernel_rfl) (by kernel_rfl) (by kernel_rfl) (fun _ _ _ h => h) (Or.inl ⟨by rfl, fun W hSw => ?_⟩) hHeld ?_
                  rotate_left
                  · (try dsimp only at hSw); go_simp; (try with_reducible rfl)
                  (try simp only [Act.put, List.setIfInBounds_toArray, List.set_cons_zero, List.set_cons_succ])
                  refine wpAnyH_take (i := 7) (oi := ⟨some 78, .extract (.tmp 71) 0, 41, "law.go:278", #[⟨6, .data⟩], none⟩) (v := ?_) rfl (by kernel_rfl) (by kernel_rfl) (by kernel_rfl) (fun _ _ _ h => h) (Or.inl ⟨by rfl, fun W hSw => ?_⟩) hHeld ?_
                  rotate_left
                  · (try dsimp only at hSw); go_simp; (try with_reducible rfl)
                  (try simp only [Act.put, List.setIfInBounds_toArray, List.set_cons_zero, List.set_cons_succ])
                  refine wpAnyH_take (i := 8) (oi := ⟨some 79, .extract (.tmp 71) 1, 4, "law.go:278", #[⟨6, .data⟩, ⟨10, .gcOnly .lateStores⟩], none⟩) (v := ?_) rfl (by kernel_rfl) (by kernel_rfl) (by kernel_rfl) (fun _ _ _ h => h) (Or.inl ⟨by rfl, fun W hSw => ?_⟩) hHeld ?_
                  rotate_left
                  · (try dsimp only at hSw); go_simp; (try with_reducible rfl)
                  (try simp only [Act.put, List.setIfInBounds_toArray, List.set_cons_zero, List.set_cons_succ])
                  refine wpAnyH_ready (rs := [10]) (by kernel_rfl) (by simp) ?_
                  refine (AllReadyH.cons (o := ⟨none, .store 41 (.tmp 13) (.tmp 78), 0, "law.go:278", #[⟨9, .data⟩, ⟨7, .data⟩, ⟨5, .chain⟩, ⟨0, .phase⟩, ⟨1, .phase⟩, ⟨2, .phase⟩, ⟨3, .phase⟩, ⟨4, .phase⟩, ⟨5, .phase⟩, ⟨6, .phase⟩, ⟨7, .phase⟩, ⟨8, .textOnly .lateStores⟩, ⟨9, .phase⟩], none⟩) rfl (fun K hK => ?_) AllReadyH.nil)
                  rw [if_pos (by rfl)]
                  refine wp_store_blk _ _ _ rfl gZ 41 _ _ rfl rfl hZB rfl (by kernel_rfl) (by simp [Value.oneCell']) ?_
                  intro W3 hZ3 hg3
                  refine hK.out _ _ (kp_of (hHeld.2.grown hg3 hHeld.2.size (by intro k hk; cases hk; exact hgZ0))) (fun hHeld => ?_)
                  clear hK K
                  refine wpAnyH_take (i := 11) (oi := ⟨some 14, .assign (.tmp 79), 4, "law.go:278", #[⟨8, .data⟩, ⟨10, .chain⟩, ⟨0, .phase⟩, ⟨1, .phase⟩, ⟨2, .phase⟩, ⟨3, .phase⟩, ⟨4, .phase⟩, ⟨5, .phase⟩, ⟨6, .phase⟩, ⟨7, .phase⟩, ⟨8, .phase⟩, ⟨9, .phase⟩, ⟨10, .phase⟩], none⟩) (v := ?_) rfl (by kernel_rfl) (by kernel_rfl) (by kernel_rfl) (fun _ _ _ h => h) (Or.inl ⟨by rfl, fun W hSw => ?_⟩) hHeld ?_
                  rotate_left
                  · (try dsimp only at hSw); go_simp; (try with_reducible rfl)
                  (try simp only [Act.put, List.setIfInBounds_toArray, List.set_cons_zero, List.set_cons_succ])
                  refine wpAnyH_done (by kernel_rfl) ?_ _
                  refine NoPanic.normal ?_
                  go_wp2_with fail
                  go_meet
                  case rel => exact ⟨gZ, rfl, rfl, hZ3, hHeld.2⟩
              case rest =>
                obtain ⟨gY, rfl, rfl, hX3, hbel2⟩ := hcut
                replace hr := hr.keep hbel2
                replace hL := hL.keep hbel2
                replace hT := hT.keep hbel2
                replace hrX := hrX.keep hbel2
                replace hfr := fr_call hfr hbel2
                replace hX0 := hX0.keep hbel2
                replace hc0 := fun j => hX0.cell j
                replace hl0 := hX0.lt
                replace hX1 := hX1.keep hbel2
                replace hc1 := fun j => hX1.cell j
                replace hl1 := hX1.lt
                replace hX2 := hX2.keep hbel2
                replace hc2 := fun j => hX2.cell j
                replace hl2 := hX2.lt
                have hc3 := fun j => hX3.cell j
                have hl3 := hX3.lt
                go_wp2_with fail
                refine (rFeasts_is L lc l _ hL hln _ hf).mono ?_
                rintro e' w7 ⟨rfl, hb⟩
                replace hr := hr.keep hb
                replace hL := hL.keep hb
                replace hT := hT.keep hb
                replace hrX := hrX.keep hb
                replace hfr := fr_call hfr hb
                replace hX0 := hX0.keep hb
                replace hc0 := fun j => hX0.cell j
                replace hl0 := hX0.lt
                replace hX1 := hX1.keep hb
                replace hc1 := fun j => hX1.cell j
                replace hl1 := hX1.lt
                replace hX2 := hX2.keep hb
                replace hc2 := fun j => hX2.cell j
                replace hl2 := hX2.lt
                replace hX3 := hX3.keep hb
                replace hc3 := fun j => hX3.cell j
                replace hl3 := hX3.lt
                clear hb
                go_wp2_with fail
                refine (rFeastDays_any A L n c lc cs e num den add y l _ hr hL hln hok hm hf hy2.1 hy2.2).mono ?_
                rw [HFS.out]
                rintro e' w8 ⟨AR, cR, rfl, hrR, hb⟩
                replace hr := hr.keep hb
                replace hL := hL.keep hb
                replace hT := hT.keep hb
                replace hrX := hrX.keep hb
                replace hfr := fr_call hfr hb
                replace hX0 := hX0.keep hb
                replace hc0 := fun j => hX0.cell j
                replace hl0 := hX0.lt
                replace hX1 := hX1.keep hb
                replace hc1 := fun j => hX1.cell j
                replace hl1 := hX1.lt
                replace hX2 := hX2.keep hb
                replace hc2 := fun j => hX2.cell j
                replace hl2 := hX2.lt
                replace hX3 := hX3.keep hb
                replace hc3 := fun j => hX3.cell j
                replace hl3 := hX3.lt
                clear hb
                go_wp2_with fail
                refine (rSame_is AX AR fs.length cX fs.length cR fs fs _ hrX hrR hfl hfl true (by simp)).mono ?_
                rintro e' w9 ⟨rfl, hb⟩
                replace hr := hr.keep hb
                replace hL := hL.keep hb
                replace hT := hT.keep hb
                replace hrX := hrX.keep hb
                replace hrR := hrR.keep hb
                replace hfr := fr_call hfr hb
                replace hX0 := hX0.keep hb
                replace hc0 := fun j => hX0.cell j
                replace hl0 := hX0.lt
                replace hX1 := hX1.keep hb
                replace hc1 := fun j => hX1.cell j
                replace hl1 := hX1.lt
                replace hX2 := hX2.keep hb
                replace hc2 := fun j => hX2.cell j
                replace hl2 := hX2.lt
                replace hX3 := hX3.keep hb
                replace hc3 := fun j => hX3.cell j
                replace hl3 := hX3.lt
                clear hb
                go_wp2_with fail
                refine (known_is _ hT).mono ?_
                rintro e' w10 ⟨rfl, hb⟩
                replace hr := hr.keep hb
                replace hL := hL.keep hb
                replace hT := hT.keep hb
                replace hrX := hrX.keep hb
                replace hrR := hrR.keep hb
                replace hfr := fr_call hfr hb
                replace hX0 := hX0.keep hb
                replace hc0 := fun j => hX0.cell j
                replace hl0 := hX0.lt
                replace hX1 := hX1.keep hb
                replace hc1 := fun j => hX1.cell j
                replace hl1 := hX1.lt
                replace hX2 := hX2.keep hb
                replace hc2 := fun j => hX2.cell j
                replace hl2 := hX2.lt
                replace hX3 := hX3.keep hb
                replace hc3 := fun j => hX3.cell j
                replace hl3 := hX3.lt
                clear hb
                go_wp2_with fail
                go_ret
                exact ⟨rfl, hfr⟩
end Go.Proofs.YtnppilaabobgiaaGreatDoor
