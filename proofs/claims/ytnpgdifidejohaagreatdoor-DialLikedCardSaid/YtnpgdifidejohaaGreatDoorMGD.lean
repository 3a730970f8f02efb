/- The theorem of years that are alike: DialLiked, walked. -/
import Derived.Test.YtnpgdifidejohaaGreatDoorMEC
import Derived.Test.YtnpgdifidejohaaGreatDoorMGB
import Derived.Test.YtnpgdifidejohaaGreatDoorMBG
import Derived.Test.YtnpgdifidejohaaGreatDoorMB5
import Derived.Test.YtnpgdifidejohaaGreatDoorMD1
namespace Go.Proofs.YtnpgdifidejohaaGreatDoor
open Go.RowKit Dl

theorem like_letters (e : Int) (cs : List Int) (y z : Int) : likeB e cs y z = true ↔ (let1 e cs z = let1 e cs y ∧ let2 e cs z = let2 e cs y) := by
  have h1 := wkd_range (firstDay e cs y)
  have h2 := wkd_range (firstDay e cs z)
  unfold likeB let2 let1
  generalize wkd (firstDay e cs y) = p at *
  generalize wkd (firstDay e cs z) = q at *
  cases leapB cs y <;> cases leapB cs z <;> simp <;> omega

set_option maxRecDepth 100000 in
set_option maxHeartbeats 8000000 in
theorem liked_true (A : Option Addr) (n c : Nat) (cs : List Int) (e y o : Int) (w : World) (hr : Rd w A n cs) (hn : n ≤ 9223372036854775807) (hT : TabP w) :
    Calls Tryz.prog 5 #[.agg #[.int .i64 e, .slice A n c], .int .i64 y, .int .i64 o] w fun e' w' => e' = .returned (.bool true) ∧ Below w.heap.size w w' := by
  have g1 := fr_alloc (fr_refl w) (.cells #[.int .i64 e, .slice A n c] 24)
  have hX0 : Blk (w.alloc (.cells #[.int .i64 e, .slice A n c] 24)) (w.heap.size) 24 #[.int .i64 e, .slice A n c] := (Blk.new_at _ _ (by simp))
  cases hs : decide ((n : Int) ≤ 5)
  · go_enter Tryz.func5, Tryz.ntmps5
    go_wp2_with fail
    have hfr := g1
    replace hr := hr.keep g1
    replace hT := hT.keep g1
    have hc0 := fun j => hX0.cell j
    have hl0 := hX0.lt
    refine (lshort_is A n c _ _ false hs).mono ?_
    rintro e' w1 ⟨rfl, hb⟩
    replace hr := hr.keep hb
    replace hT := hT.keep hb
    replace hfr := fr_call hfr hb
    replace hX0 := hX0.keep hb
    replace hc0 := fun j => hX0.cell j
    replace hl0 := hX0.lt
    clear hb
    go_wp2_with fail
    refine (known_is _ hT).mono ?_
    rintro e' w2 ⟨rfl, hb⟩
    replace hr := hr.keep hb
    replace hT := hT.keep hb
    replace hfr := fr_call hfr hb
    replace hX0 := hX0.keep hb
    replace hc0 := fun j => hX0.cell j
    replace hl0 := hX0.lt
    clear hb
    go_wp2_with fail
    go_ret
    exact ⟨rfl, hfr⟩
  · cases hok : calOk e cs
    · go_enter Tryz.func5, Tryz.ntmps5
      go_wp2_with fail
      have hfr := g1
      replace hr := hr.keep g1
      replace hT := hT.keep g1
      have hc0 := fun j => hX0.cell j
      have hl0 := hX0.lt
      refine (lshort_is A n c _ _ true hs).mono ?_
      rintro e' w1 ⟨rfl, hb⟩
      replace hr := hr.keep hb
      replace hT := hT.keep hb
      replace hfr := fr_call hfr hb
      replace hX0 := hX0.keep hb
      replace hc0 := fun j => hX0.cell j
      replace hl0 := hX0.lt
      clear hb
      go_wp2_with fail
      refine (rCalendar_is A n c cs e _ hr hn _ hok).mono ?_
      rintro e' w2 ⟨rfl, hb⟩
      replace hr := hr.keep hb
      replace hT := hT.keep hb
      replace hfr := fr_call hfr hb
      replace hX0 := hX0.keep hb
      replace hc0 := fun j => hX0.cell j
      replace hl0 := hX0.lt
      clear hb
      go_wp2_with fail
      refine (known_is _ hT).mono ?_
      rintro e' w3 ⟨rfl, hb⟩
      replace hr := hr.keep hb
      replace hT := hT.keep hb
      replace hfr := fr_call hfr hb
      replace hX0 := hX0.keep hb
      replace hc0 := fun j => hX0.cell j
      replace hl0 := hX0.lt
      clear hb
      go_wp2_with fail
      go_ret
      exact ⟨rfl, hfr⟩
    · cases hy : inB y 0 4000
      · go_enter Tryz.func5, Tryz.ntmps5
        go_wp2_with fail
        have hfr := g1
        replace hr := hr.keep g1
        replace hT := hT.keep g1
        have hc0 := fun j => hX0.cell j
        have hl0 := hX0.lt
        refine (lshort_is A n c _ _ true hs).mono ?_
        rintro e' w1 ⟨rfl, hb⟩
        replace hr := hr.keep hb
        replace hT := hT.keep hb
        replace hfr := fr_call hfr hb
        replace hX0 := hX0.keep hb
        replace hc0 := fun j => hX0.cell j
        replace hl0 := hX0.lt
        clear hb
        go_wp2_with fail
        refine (rCalendar_is A n c cs e _ hr hn _ hok).mono ?_
        rintro e' w2 ⟨rfl, hb⟩
        replace hr := hr.keep hb
        replace hT := hT.keep hb
        replace hfr := fr_call hfr hb
        replace hX0 := hX0.keep hb
        replace hc0 := fun j => hX0.cell j
        replace hl0 := hX0.lt
        clear hb
        go_wp2_with fail
        refine (rYear_is _ _ _ hy).mono ?_
        rintro e' w3 ⟨rfl, rfl⟩
        go_wp2_with fail
        refine (known_is _ hT).mono ?_
        rintro e' w4 ⟨rfl, hb⟩
        replace hr := hr.keep hb
        replace hT := hT.keep hb
        replace hfr := fr_call hfr hb
        replace hX0 := hX0.keep hb
        replace hc0 := fun j => hX0.cell j
        replace hl0 := hX0.lt
        clear hb
        go_wp2_with fail
        go_ret
        exact ⟨rfl, hfr⟩
      · cases ho : inB o 0 4000
        · go_enter Tryz.func5, Tryz.ntmps5
          go_wp2_with fail
          have hfr := g1
          replace hr := hr.keep g1
          replace hT := hT.keep g1
          have hc0 := fun j => hX0.cell j
          have hl0 := hX0.lt
          refine (lshort_is A n c _ _ true hs).mono ?_
          rintro e' w1 ⟨rfl, hb⟩
          replace hr := hr.keep hb
          replace hT := hT.keep hb
          replace hfr := fr_call hfr hb
          replace hX0 := hX0.keep hb
          replace hc0 := fun j => hX0.cell j
          replace hl0 := hX0.lt
          clear hb
          go_wp2_with fail
          refine (rCalendar_is A n c cs e _ hr hn _ hok).mono ?_
          rintro e' w2 ⟨rfl, hb⟩
          replace hr := hr.keep hb
          replace hT := hT.keep hb
          replace hfr := fr_call hfr hb
          replace hX0 := hX0.keep hb
          replace hc0 := fun j => hX0.cell j
          replace hl0 := hX0.lt
          clear hb
          go_wp2_with fail
          refine (rYear_is _ _ _ hy).mono ?_
          rintro e' w3 ⟨rfl, rfl⟩
          go_wp2_with fail
          refine (rYear_is _ _ _ ho).mono ?_
          rintro e' w4 ⟨rfl, rfl⟩
          go_wp2_with fail
          refine (known_is _ hT).mono ?_
          rintro e' w5 ⟨rfl, hb⟩
          replace hr := hr.keep hb
          replace hT := hT.keep hb
          replace hfr := fr_call hfr hb
          replace hX0 := hX0.keep hb
          replace hc0 := fun j => hX0.cell j
          replace hl0 := hX0.lt
          clear hb
          go_wp2_with fail
          go_ret
          exact ⟨rfl, hfr⟩
        · by_cases hle : o ≤ y
          · go_enter Tryz.func5, Tryz.ntmps5
            go_wp2_with fail
            have hfr := g1
            replace hr := hr.keep g1
            replace hT := hT.keep g1
            have hc0 := fun j => hX0.cell j
            have hl0 := hX0.lt
            refine (lshort_is A n c _ _ true hs).mono ?_
            rintro e' w1 ⟨rfl, hb⟩
            replace hr := hr.keep hb
            replace hT := hT.keep hb
            replace hfr := fr_call hfr hb
            replace hX0 := hX0.keep hb
            replace hc0 := fun j => hX0.cell j
            replace hl0 := hX0.lt
            clear hb
            go_wp2_with fail
            refine (rCalendar_is A n c cs e _ hr hn _ hok).mono ?_
            rintro e' w2 ⟨rfl, hb⟩
            replace hr := hr.keep hb
            replace hT := hT.keep hb
            replace hfr := fr_call hfr hb
            replace hX0 := hX0.keep hb
            replace hc0 := fun j => hX0.cell j
            replace hl0 := hX0.lt
            clear hb
            go_wp2_with fail
            refine (rYear_is _ _ _ hy).mono ?_
            rintro e' w3 ⟨rfl, rfl⟩
            go_wp2_with fail
            refine (rYear_is _ _ _ ho).mono ?_
            rintro e' w4 ⟨rfl, rfl⟩
            go_wp2_with fail
            refine (known_is _ hT).mono ?_
            rintro e' w5 ⟨rfl, hb⟩
            replace hr := hr.keep hb
            replace hT := hT.keep hb
            replace hfr := fr_call hfr hb
            replace hX0 := hX0.keep hb
            replace hc0 := fun j => hX0.cell j
            replace hl0 := hX0.lt
            clear hb
            go_wp2_with fail
            go_ret
            exact ⟨rfl, hfr⟩
          · have hy2 := inB_iff.1 hy
            have ho2 := inB_iff.1 ho
            have hyo : y < o := by omega
            have hll := like_letters e cs y
            obtain ⟨a, ga⟩ : ∃ q, let1 e cs y = q := ⟨_, rfl⟩
            obtain ⟨a', ga'⟩ : ∃ q, let2 e cs y = q := ⟨_, rfl⟩
            obtain ⟨x, gx⟩ : ∃ q, let1 e cs o = q := ⟨_, rfl⟩
            obtain ⟨x', gx'⟩ : ∃ q, let2 e cs o = q := ⟨_, rfl⟩
            have H1 := Lib.hid ga
            have H2 := Lib.hid ga'
            have H3 := Lib.hid gx
            have H4 := Lib.hid gx'
            rw [ga, ga'] at hll
            clear ga ga' gx gx'
            rcases hlk : likeOf e cs y with _ | z
            · have hna : ¬ (x = a ∧ x' = a') := fun h => by
                have h1 := likeOf_none hlk o hyo ho2.2
                have h2 := (hll o).2 (by rw [H3.out, H4.out]; exact h)
                rw [h1] at h2; cases h2
              have HL := Lib.hid hlk
              have HLL := Lib.hid hll
              clear hlk hll
              cases hxa : (x == a)
              · go_enter Tryz.func5, Tryz.ntmps5
                go_wp2_with fail
                have hfr := g1
                replace hr := hr.keep g1
                replace hT := hT.keep g1
                have hc0 := fun j => hX0.cell j
                have hl0 := hX0.lt
                refine (lshort_is A n c _ _ true hs).mono ?_
                rintro e' w1 ⟨rfl, hb⟩
                replace hr := hr.keep hb
                replace hT := hT.keep hb
                replace hfr := fr_call hfr hb
                replace hX0 := hX0.keep hb
                replace hc0 := fun j => hX0.cell j
                replace hl0 := hX0.lt
                clear hb
                go_wp2_with fail
                refine (rCalendar_is A n c cs e _ hr hn _ hok).mono ?_
                rintro e' w2 ⟨rfl, hb⟩
                replace hr := hr.keep hb
                replace hT := hT.keep hb
                replace hfr := fr_call hfr hb
                replace hX0 := hX0.keep hb
                replace hc0 := fun j => hX0.cell j
                replace hl0 := hX0.lt
                clear hb
                go_wp2_with fail
                refine (rYear_is _ _ _ hy).mono ?_
                rintro e' w3 ⟨rfl, rfl⟩
                go_wp2_with fail
                refine (rYear_is _ _ _ ho).mono ?_
                rintro e' w4 ⟨rfl, rfl⟩
                go_wp2_with fail
                refine (Like_ok A n c cs e y _ hr hn hok hy).mono ?_
                rw [HL.out]
                simp only [likeV]
                rintro e' w5 ⟨rfl, hb⟩
                replace hr := hr.keep hb
                replace hT := hT.keep hb
                replace hfr := fr_call hfr hb
                replace hX0 := hX0.keep hb
                replace hc0 := fun j => hX0.cell j
                replace hl0 := hX0.lt
                clear hb
                go_wp2_with fail
                refine (Letters_ok A n c cs e y _ hr hn hok hy).mono ?_
                rw [H1.out, H2.out]
                rintro e' w6 ⟨rfl, hb⟩
                replace hr := hr.keep hb
                replace hT := hT.keep hb
                replace hfr := fr_call hfr hb
                replace hX0 := hX0.keep hb
                replace hc0 := fun j => hX0.cell j
                replace hl0 := hX0.lt
                clear hb
                go_wp2_with fail
                refine (Letters_ok A n c cs e o _ hr hn hok ho).mono ?_
                rw [H3.out, H4.out]
                rintro e' w7 ⟨rfl, hb⟩
                replace hr := hr.keep hb
                replace hT := hT.keep hb
                replace hfr := fr_call hfr hb
                replace hX0 := hX0.keep hb
                replace hc0 := fun j => hX0.cell j
                replace hl0 := hX0.lt
                clear hb
                go_wp2_with fail
                refine (known_is _ hT).mono ?_
                rintro e' w8 ⟨rfl, hb⟩
                replace hr := hr.keep hb
                replace hT := hT.keep hb
                replace hfr := fr_call hfr hb
                replace hX0 := hX0.keep hb
                replace hc0 := fun j => hX0.cell j
                replace hl0 := hX0.lt
                clear hb
                go_wp2_with fail
                go_ret
                exact ⟨rfl, hfr⟩
              · cases hxb : (x' == a')
                · go_enter Tryz.func5, Tryz.ntmps5
                  go_wp2_with fail
                  have hfr := g1
                  replace hr := hr.keep g1
                  replace hT := hT.keep g1
                  have hc0 := fun j => hX0.cell j
                  have hl0 := hX0.lt
                  refine (lshort_is A n c _ _ true hs).mono ?_
                  rintro e' w1 ⟨rfl, hb⟩
                  replace hr := hr.keep hb
                  replace hT := hT.keep hb
                  replace hfr := fr_call hfr hb
                  replace hX0 := hX0.keep hb
                  replace hc0 := fun j => hX0.cell j
                  replace hl0 := hX0.lt
                  clear hb
                  go_wp2_with fail
                  refine (rCalendar_is A n c cs e _ hr hn _ hok).mono ?_
                  rintro e' w2 ⟨rfl, hb⟩
                  replace hr := hr.keep hb
                  replace hT := hT.keep hb
                  replace hfr := fr_call hfr hb
                  replace hX0 := hX0.keep hb
                  replace hc0 := fun j => hX0.cell j
                  replace hl0 := hX0.lt
                  clear hb
                  go_wp2_with fail
                  refine (rYear_is _ _ _ hy).mono ?_
                  rintro e' w3 ⟨rfl, rfl⟩
                  go_wp2_with fail
                  refine (rYear_is _ _ _ ho).mono ?_
                  rintro e' w4 ⟨rfl, rfl⟩
                  go_wp2_with fail
                  refine (Like_ok A n c cs e y _ hr hn hok hy).mono ?_
                  rw [HL.out]
                  simp only [likeV]
                  rintro e' w5 ⟨rfl, hb⟩
                  replace hr := hr.keep hb
                  replace hT := hT.keep hb
                  replace hfr := fr_call hfr hb
                  replace hX0 := hX0.keep hb
                  replace hc0 := fun j => hX0.cell j
                  replace hl0 := hX0.lt
                  clear hb
                  go_wp2_with fail
                  refine (Letters_ok A n c cs e y _ hr hn hok hy).mono ?_
                  rw [H1.out, H2.out]
                  rintro e' w6 ⟨rfl, hb⟩
                  replace hr := hr.keep hb
                  replace hT := hT.keep hb
                  replace hfr := fr_call hfr hb
                  replace hX0 := hX0.keep hb
                  replace hc0 := fun j => hX0.cell j
                  replace hl0 := hX0.lt
                  clear hb
                  go_wp2_with fail
                  refine (Letters_ok A n c cs e o _ hr hn hok ho).mono ?_
                  rw [H3.out, H4.out]
                  rintro e' w7 ⟨rfl, hb⟩
                  replace hr := hr.keep hb
                  replace hT := hT.keep hb
                  replace hfr := fr_call hfr hb
                  replace hX0 := hX0.keep hb
                  replace hc0 := fun j => hX0.cell j
                  replace hl0 := hX0.lt
                  clear hb
                  go_wp2_with fail
                  refine (known_is _ hT).mono ?_
                  rintro e' w8 ⟨rfl, hb⟩
                  replace hr := hr.keep hb
                  replace hT := hT.keep hb
                  replace hfr := fr_call hfr hb
                  replace hX0 := hX0.keep hb
                  replace hc0 := fun j => hX0.cell j
                  replace hl0 := hX0.lt
                  clear hb
                  go_wp2_with fail
                  go_ret
                  exact ⟨rfl, hfr⟩
                · exact absurd ⟨by simpa using hxa, by simpa using hxb⟩ hna
            · obtain ⟨hz1, hz2, hz3, hz4⟩ := likeOf_some hy2.2 hlk
              have hzz := (hll z).1 hz3
              have hnz : o < z → ¬ (x = a ∧ x' = a') := fun hlt h => by
                have h1 := hz4 o hyo hlt
                have h2 := (hll o).2 (by rw [H3.out, H4.out]; exact h)
                rw [h1] at h2; cases h2
              have HZ1 := Lib.hid hzz.1
              have HZ2 := Lib.hid hzz.2
              have HL := Lib.hid hlk
              have hz : inB z 0 4000 = true := inB_yes ⟨by omega, hz2⟩
              have HLL := Lib.hid hll
              clear hlk hll hz3 hz4 hzz
              by_cases hoz : z ≤ o
              · cases hxa : (x == a)
                · go_enter Tryz.func5, Tryz.ntmps5
                  go_wp2_with fail
                  have hfr := g1
                  replace hr := hr.keep g1
                  replace hT := hT.keep g1
                  have hc0 := fun j => hX0.cell j
                  have hl0 := hX0.lt
                  refine (lshort_is A n c _ _ true hs).mono ?_
                  rintro e' w1 ⟨rfl, hb⟩
                  replace hr := hr.keep hb
                  replace hT := hT.keep hb
                  replace hfr := fr_call hfr hb
                  replace hX0 := hX0.keep hb
                  replace hc0 := fun j => hX0.cell j
                  replace hl0 := hX0.lt
                  clear hb
                  go_wp2_with fail
                  refine (rCalendar_is A n c cs e _ hr hn _ hok).mono ?_
                  rintro e' w2 ⟨rfl, hb⟩
                  replace hr := hr.keep hb
                  replace hT := hT.keep hb
                  replace hfr := fr_call hfr hb
                  replace hX0 := hX0.keep hb
                  replace hc0 := fun j => hX0.cell j
                  replace hl0 := hX0.lt
                  clear hb
                  go_wp2_with fail
                  refine (rYear_is _ _ _ hy).mono ?_
                  rintro e' w3 ⟨rfl, rfl⟩
                  go_wp2_with fail
                  refine (rYear_is _ _ _ ho).mono ?_
                  rintro e' w4 ⟨rfl, rfl⟩
                  go_wp2_with fail
                  refine (Like_ok A n c cs e y _ hr hn hok hy).mono ?_
                  rw [HL.out]
                  simp only [likeV]
                  rintro e' w5 ⟨rfl, hb⟩
                  replace hr := hr.keep hb
                  replace hT := hT.keep hb
                  replace hfr := fr_call hfr hb
                  replace hX0 := hX0.keep hb
                  replace hc0 := fun j => hX0.cell j
                  replace hl0 := hX0.lt
                  clear hb
                  go_wp2_with fail
                  refine (Letters_ok A n c cs e y _ hr hn hok hy).mono ?_
                  rw [H1.out, H2.out]
                  rintro e' w6 ⟨rfl, hb⟩
                  replace hr := hr.keep hb
                  replace hT := hT.keep hb
                  replace hfr := fr_call hfr hb
                  replace hX0 := hX0.keep hb
                  replace hc0 := fun j => hX0.cell j
                  replace hl0 := hX0.lt
                  clear hb
                  go_wp2_with fail
                  refine (Letters_ok A n c cs e o _ hr hn hok ho).mono ?_
                  rw [H3.out, H4.out]
                  rintro e' w7 ⟨rfl, hb⟩
                  replace hr := hr.keep hb
                  replace hT := hT.keep hb
                  replace hfr := fr_call hfr hb
                  replace hX0 := hX0.keep hb
                  replace hc0 := fun j => hX0.cell j
                  replace hl0 := hX0.lt
                  clear hb
                  go_wp2_with fail
                  refine (rYear_is _ _ _ hz).mono ?_
                  rintro e' w8 ⟨rfl, rfl⟩
                  go_wp2_with fail
                  refine (Letters_ok A n c cs e z _ hr hn hok hz).mono ?_
                  rw [HZ1.out, HZ2.out]
                  rintro e' w9 ⟨rfl, hb⟩
                  replace hr := hr.keep hb
                  replace hT := hT.keep hb
                  replace hfr := fr_call hfr hb
                  replace hX0 := hX0.keep hb
                  replace hc0 := fun j => hX0.cell j
                  replace hl0 := hX0.lt
                  clear hb
                  go_wp2_with fail
                  refine (known_is _ hT).mono ?_
                  rintro e' w10 ⟨rfl, hb⟩
                  replace hr := hr.keep hb
                  replace hT := hT.keep hb
                  replace hfr := fr_call hfr hb
                  replace hX0 := hX0.keep hb
                  replace hc0 := fun j => hX0.cell j
                  replace hl0 := hX0.lt
                  clear hb
                  go_wp2_with fail
                  go_ret
                  exact ⟨rfl, hfr⟩
                · cases hxb : (x' == a')
                  · go_enter Tryz.func5, Tryz.ntmps5
                    go_wp2_with fail
                    have hfr := g1
                    replace hr := hr.keep g1
                    replace hT := hT.keep g1
                    have hc0 := fun j => hX0.cell j
                    have hl0 := hX0.lt
                    refine (lshort_is A n c _ _ true hs).mono ?_
                    rintro e' w1 ⟨rfl, hb⟩
                    replace hr := hr.keep hb
                    replace hT := hT.keep hb
                    replace hfr := fr_call hfr hb
                    replace hX0 := hX0.keep hb
                    replace hc0 := fun j => hX0.cell j
                    replace hl0 := hX0.lt
                    clear hb
                    go_wp2_with fail
                    refine (rCalendar_is A n c cs e _ hr hn _ hok).mono ?_
                    rintro e' w2 ⟨rfl, hb⟩
                    replace hr := hr.keep hb
                    replace hT := hT.keep hb
                    replace hfr := fr_call hfr hb
                    replace hX0 := hX0.keep hb
                    replace hc0 := fun j => hX0.cell j
                    replace hl0 := hX0.lt
                    clear hb
                    go_wp2_with fail
                    refine (rYear_is _ _ _ hy).mono ?_
                    rintro e' w3 ⟨rfl, rfl⟩
                    go_wp2_with fail
                    refine (rYear_is _ _ _ ho).mono ?_
                    rintro e' w4 ⟨rfl, rfl⟩
                    go_wp2_with fail
                    refine (Like_ok A n c cs e y _ hr hn hok hy).mono ?_
                    rw [HL.out]
                    simp only [likeV]
                    rintro e' w5 ⟨rfl, hb⟩
                    replace hr := hr.keep hb
                    replace hT := hT.keep hb
                    replace hfr := fr_call hfr hb
                    replace hX0 := hX0.keep hb
                    replace hc0 := fun j => hX0.cell j
                    replace hl0 := hX0.lt
                    clear hb
                    go_wp2_with fail
                    refine (Letters_ok A n c cs e y _ hr hn hok hy).mono ?_
                    rw [H1.out, H2.out]
                    rintro e' w6 ⟨rfl, hb⟩
                    replace hr := hr.keep hb
                    replace hT := hT.keep hb
                    replace hfr := fr_call hfr hb
                    replace hX0 := hX0.keep hb
                    replace hc0 := fun j => hX0.cell j
                    replace hl0 := hX0.lt
                    clear hb
                    go_wp2_with fail
                    refine (Letters_ok A n c cs e o _ hr hn hok ho).mono ?_
                    rw [H3.out, H4.out]
                    rintro e' w7 ⟨rfl, hb⟩
                    replace hr := hr.keep hb
                    replace hT := hT.keep hb
                    replace hfr := fr_call hfr hb
                    replace hX0 := hX0.keep hb
                    replace hc0 := fun j => hX0.cell j
                    replace hl0 := hX0.lt
                    clear hb
                    go_wp2_with fail
                    refine (rYear_is _ _ _ hz).mono ?_
                    rintro e' w8 ⟨rfl, rfl⟩
                    go_wp2_with fail
                    refine (Letters_ok A n c cs e z _ hr hn hok hz).mono ?_
                    rw [HZ1.out, HZ2.out]
                    rintro e' w9 ⟨rfl, hb⟩
                    replace hr := hr.keep hb
                    replace hT := hT.keep hb
                    replace hfr := fr_call hfr hb
                    replace hX0 := hX0.keep hb
                    replace hc0 := fun j => hX0.cell j
                    replace hl0 := hX0.lt
                    clear hb
                    go_wp2_with fail
                    refine (known_is _ hT).mono ?_
                    rintro e' w10 ⟨rfl, hb⟩
                    replace hr := hr.keep hb
                    replace hT := hT.keep hb
                    replace hfr := fr_call hfr hb
                    replace hX0 := hX0.keep hb
                    replace hc0 := fun j => hX0.cell j
                    replace hl0 := hX0.lt
                    clear hb
                    go_wp2_with fail
                    go_ret
                    exact ⟨rfl, hfr⟩
                  · go_enter Tryz.func5, Tryz.ntmps5
                    go_wp2_with fail
                    have hfr := g1
                    replace hr := hr.keep g1
                    replace hT := hT.keep g1
                    have hc0 := fun j => hX0.cell j
                    have hl0 := hX0.lt
                    refine (lshort_is A n c _ _ true hs).mono ?_
                    rintro e' w1 ⟨rfl, hb⟩
                    replace hr := hr.keep hb
                    replace hT := hT.keep hb
                    replace hfr := fr_call hfr hb
                    replace hX0 := hX0.keep hb
                    replace hc0 := fun j => hX0.cell j
                    replace hl0 := hX0.lt
                    clear hb
                    go_wp2_with fail
                    refine (rCalendar_is A n c cs e _ hr hn _ hok).mono ?_
                    rintro e' w2 ⟨rfl, hb⟩
                    replace hr := hr.keep hb
                    replace hT := hT.keep hb
                    replace hfr := fr_call hfr hb
                    replace hX0 := hX0.keep hb
                    replace hc0 := fun j => hX0.cell j
                    replace hl0 := hX0.lt
                    clear hb
                    go_wp2_with fail
                    refine (rYear_is _ _ _ hy).mono ?_
                    rintro e' w3 ⟨rfl, rfl⟩
                    go_wp2_with fail
                    refine (rYear_is _ _ _ ho).mono ?_
                    rintro e' w4 ⟨rfl, rfl⟩
                    go_wp2_with fail
                    refine (Like_ok A n c cs e y _ hr hn hok hy).mono ?_
                    rw [HL.out]
                    simp only [likeV]
                    rintro e' w5 ⟨rfl, hb⟩
                    replace hr := hr.keep hb
                    replace hT := hT.keep hb
                    replace hfr := fr_call hfr hb
                    replace hX0 := hX0.keep hb
                    replace hc0 := fun j => hX0.cell j
                    replace hl0 := hX0.lt
                    clear hb
                    go_wp2_with fail
                    refine (Letters_ok A n c cs e y _ hr hn hok hy).mono ?_
                    rw [H1.out, H2.out]
                    rintro e' w6 ⟨rfl, hb⟩
                    replace hr := hr.keep hb
                    replace hT := hT.keep hb
                    replace hfr := fr_call hfr hb
                    replace hX0 := hX0.keep hb
                    replace hc0 := fun j => hX0.cell j
                    replace hl0 := hX0.lt
                    clear hb
                    go_wp2_with fail
                    refine (Letters_ok A n c cs e o _ hr hn hok ho).mono ?_
                    rw [H3.out, H4.out]
                    rintro e' w7 ⟨rfl, hb⟩
                    replace hr := hr.keep hb
                    replace hT := hT.keep hb
                    replace hfr := fr_call hfr hb
                    replace hX0 := hX0.keep hb
                    replace hc0 := fun j => hX0.cell j
                    replace hl0 := hX0.lt
                    clear hb
                    go_wp2_with fail
                    refine (rYear_is _ _ _ hz).mono ?_
                    rintro e' w8 ⟨rfl, rfl⟩
                    go_wp2_with fail
                    refine (Letters_ok A n c cs e z _ hr hn hok hz).mono ?_
                    rw [HZ1.out, HZ2.out]
                    rintro e' w9 ⟨rfl, hb⟩
                    replace hr := hr.keep hb
                    replace hT := hT.keep hb
                    replace hfr := fr_call hfr hb
                    replace hX0 := hX0.keep hb
                    replace hc0 := fun j => hX0.cell j
                    replace hl0 := hX0.lt
                    clear hb
                    go_wp2_with fail
                    refine (known_is _ hT).mono ?_
                    rintro e' w10 ⟨rfl, hb⟩
                    replace hr := hr.keep hb
                    replace hT := hT.keep hb
                    replace hfr := fr_call hfr hb
                    replace hX0 := hX0.keep hb
                    replace hc0 := fun j => hX0.cell j
                    replace hl0 := hX0.lt
                    clear hb
                    go_wp2_with fail
                    go_ret
                    exact ⟨rfl, hfr⟩
              · have hna := hnz (by omega)
                cases hxa : (x == a)
                · go_enter Tryz.func5, Tryz.ntmps5
                  go_wp2_with fail
                  have hfr := g1
                  replace hr := hr.keep g1
                  replace hT := hT.keep g1
                  have hc0 := fun j => hX0.cell j
                  have hl0 := hX0.lt
                  refine (lshort_is A n c _ _ true hs).mono ?_
                  rintro e' w1 ⟨rfl, hb⟩
                  replace hr := hr.keep hb
                  replace hT := hT.keep hb
                  replace hfr := fr_call hfr hb
                  replace hX0 := hX0.keep hb
                  replace hc0 := fun j => hX0.cell j
                  replace hl0 := hX0.lt
                  clear hb
                  go_wp2_with fail
                  refine (rCalendar_is A n c cs e _ hr hn _ hok).mono ?_
                  rintro e' w2 ⟨rfl, hb⟩
                  replace hr := hr.keep hb
                  replace hT := hT.keep hb
                  replace hfr := fr_call hfr hb
                  replace hX0 := hX0.keep hb
                  replace hc0 := fun j => hX0.cell j
                  replace hl0 := hX0.lt
                  clear hb
                  go_wp2_with fail
                  refine (rYear_is _ _ _ hy).mono ?_
                  rintro e' w3 ⟨rfl, rfl⟩
                  go_wp2_with fail
                  refine (rYear_is _ _ _ ho).mono ?_
                  rintro e' w4 ⟨rfl, rfl⟩
                  go_wp2_with fail
                  refine (Like_ok A n c cs e y _ hr hn hok hy).mono ?_
                  rw [HL.out]
                  simp only [likeV]
                  rintro e' w5 ⟨rfl, hb⟩
                  replace hr := hr.keep hb
                  replace hT := hT.keep hb
                  replace hfr := fr_call hfr hb
                  replace hX0 := hX0.keep hb
                  replace hc0 := fun j => hX0.cell j
                  replace hl0 := hX0.lt
                  clear hb
                  go_wp2_with fail
                  refine (Letters_ok A n c cs e y _ hr hn hok hy).mono ?_
                  rw [H1.out, H2.out]
                  rintro e' w6 ⟨rfl, hb⟩
                  replace hr := hr.keep hb
                  replace hT := hT.keep hb
                  replace hfr := fr_call hfr hb
                  replace hX0 := hX0.keep hb
                  replace hc0 := fun j => hX0.cell j
                  replace hl0 := hX0.lt
                  clear hb
                  go_wp2_with fail
                  refine (Letters_ok A n c cs e o _ hr hn hok ho).mono ?_
                  rw [H3.out, H4.out]
                  rintro e' w7 ⟨rfl, hb⟩
                  replace hr := hr.keep hb
                  replace hT := hT.keep hb
                  replace hfr := fr_call hfr hb
                  replace hX0 := hX0.keep hb
                  replace hc0 := fun j => hX0.cell j
                  replace hl0 := hX0.lt
                  clear hb
                  go_wp2_with fail
                  refine (rYear_is _ _ _ hz).mono ?_
                  rintro e' w8 ⟨rfl, rfl⟩
                  go_wp2_with fail
                  refine (Letters_ok A n c cs e z _ hr hn hok hz).mono ?_
                  rw [HZ1.out, HZ2.out]
                  rintro e' w9 ⟨rfl, hb⟩
                  replace hr := hr.keep hb
                  replace hT := hT.keep hb
                  replace hfr := fr_call hfr hb
                  replace hX0 := hX0.keep hb
                  replace hc0 := fun j => hX0.cell j
                  replace hl0 := hX0.lt
                  clear hb
                  go_wp2_with fail
                  refine (known_is _ hT).mono ?_
                  rintro e' w10 ⟨rfl, hb⟩
                  replace hr := hr.keep hb
                  replace hT := hT.keep hb
                  replace hfr := fr_call hfr hb
                  replace hX0 := hX0.keep hb
                  replace hc0 := fun j => hX0.cell j
                  replace hl0 := hX0.lt
                  clear hb
                  go_wp2_with fail
                  go_ret
                  exact ⟨rfl, hfr⟩
                · cases hxb : (x' == a')
                  · go_enter Tryz.func5, Tryz.ntmps5
                    go_wp2_with fail
                    have hfr := g1
                    replace hr := hr.keep g1
                    replace hT := hT.keep g1
                    have hc0 := fun j => hX0.cell j
                    have hl0 := hX0.lt
                    refine (lshort_is A n c _ _ true hs).mono ?_
                    rintro e' w1 ⟨rfl, hb⟩
                    replace hr := hr.keep hb
                    replace hT := hT.keep hb
                    replace hfr := fr_call hfr hb
                    replace hX0 := hX0.keep hb
                    replace hc0 := fun j => hX0.cell j
                    replace hl0 := hX0.lt
                    clear hb
                    go_wp2_with fail
                    refine (rCalendar_is A n c cs e _ hr hn _ hok).mono ?_
                    rintro e' w2 ⟨rfl, hb⟩
                    replace hr := hr.keep hb
                    replace hT := hT.keep hb
                    replace hfr := fr_call hfr hb
                    replace hX0 := hX0.keep hb
                    replace hc0 := fun j => hX0.cell j
                    replace hl0 := hX0.lt
                    clear hb
                    go_wp2_with fail
                    refine (rYear_is _ _ _ hy).mono ?_
                    rintro e' w3 ⟨rfl, rfl⟩
                    go_wp2_with fail
                    refine (rYear_is _ _ _ ho).mono ?_
                    rintro e' w4 ⟨rfl, rfl⟩
                    go_wp2_with fail
                    refine (Like_ok A n c cs e y _ hr hn hok hy).mono ?_
                    rw [HL.out]
                    simp only [likeV]
                    rintro e' w5 ⟨rfl, hb⟩
                    replace hr := hr.keep hb
                    replace hT := hT.keep hb
                    replace hfr := fr_call hfr hb
                    replace hX0 := hX0.keep hb
                    replace hc0 := fun j => hX0.cell j
                    replace hl0 := hX0.lt
                    clear hb
                    go_wp2_with fail
                    refine (Letters_ok A n c cs e y _ hr hn hok hy).mono ?_
                    rw [H1.out, H2.out]
                    rintro e' w6 ⟨rfl, hb⟩
                    replace hr := hr.keep hb
                    replace hT := hT.keep hb
                    replace hfr := fr_call hfr hb
                    replace hX0 := hX0.keep hb
                    replace hc0 := fun j => hX0.cell j
                    replace hl0 := hX0.lt
                    clear hb
                    go_wp2_with fail
                    refine (Letters_ok A n c cs e o _ hr hn hok ho).mono ?_
                    rw [H3.out, H4.out]
                    rintro e' w7 ⟨rfl, hb⟩
                    replace hr := hr.keep hb
                    replace hT := hT.keep hb
                    replace hfr := fr_call hfr hb
                    replace hX0 := hX0.keep hb
                    replace hc0 := fun j => hX0.cell j
                    replace hl0 := hX0.lt
                    clear hb
                    go_wp2_with fail
                    refine (rYear_is _ _ _ hz).mono ?_
                    rintro e' w8 ⟨rfl, rfl⟩
                    go_wp2_with fail
                    refine (Letters_ok A n c cs e z _ hr hn hok hz).mono ?_
                    rw [HZ1.out, HZ2.out]
                    rintro e' w9 ⟨rfl, hb⟩
                    replace hr := hr.keep hb
                    replace hT := hT.keep hb
                    replace hfr := fr_call hfr hb
                    replace hX0 := hX0.keep hb
                    replace hc0 := fun j => hX0.cell j
                    replace hl0 := hX0.lt
                    clear hb
                    go_wp2_with fail
                    refine (known_is _ hT).mono ?_
                    rintro e' w10 ⟨rfl, hb⟩
                    replace hr := hr.keep hb
                    replace hT := hT.keep hb
                    replace hfr := fr_call hfr hb
                    replace hX0 := hX0.keep hb
                    replace hc0 := fun j => hX0.cell j
                    replace hl0 := hX0.lt
                    clear hb
                    go_wp2_with fail
                    go_ret
                    exact ⟨rfl, hfr⟩
                  · exact absurd ⟨by simpa using hxa, by simpa using hxb⟩ hna
end Go.Proofs.YtnpgdifidejohaaGreatDoor
