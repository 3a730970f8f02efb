/- The law of questions: DialAsks, walked. -/
import Derived.Test.YtnpgdifidejohaaGreatDoorMEC
import Derived.Test.YtnpgdifidejohaaGreatDoorMD1
import Derived.Test.YtnpgdifidejohaaGreatDoorMD4
import Derived.Test.YtnpgdifidejohaaGreatDoorMD5
import Derived.Test.YtnpgdifidejohaaGreatDoorMC5
import Derived.Test.YtnpgdifidejohaaGreatDoorMC6
namespace Go.Proofs.YtnpgdifidejohaaGreatDoor
open Go.RowKit Dl

set_option maxRecDepth 100000 in
set_option maxHeartbeats 8000000 in
theorem asks_true (A L Q : Option Addr) (n c lc qc : Nat) (cs : List Int) (e num den add y z : Int) (l q : List Fact) (w : World) (hr : Rd w A n cs) (hn : n ≤ 9223372036854775807) (hL : RdS w L 4 (l.map Fact.row)) (hln : l.length ≤ 9223372036854775807) (hQ : RdS w Q 4 (q.map Fact.row)) (hqn : q.length ≤ 9223372036854775807) (hT : TabP w) :
    Calls Tryz.prog 9 #[.agg #[.int .i64 e, .slice A n c], .agg #[.int .i64 num, .int .i64 den, .int .i64 add], .slice L l.length lc, .slice Q q.length qc, .int .i64 y, .int .i64 z] w fun e' w' => e' = .returned (.bool true) ∧ Below w.heap.size w w' := by
  have g1 := fr_alloc (fr_alloc (fr_refl w) (.cells #[.int .i64 e, .slice A n c] 24)) (.cells #[.int .i64 num, .int .i64 den, .int .i64 add] 65)
  have hX0 : Blk ((w.alloc (.cells #[.int .i64 e, .slice A n c] 24)).alloc (.cells #[.int .i64 num, .int .i64 den, .int .i64 add] 65)) (w.heap.size) 24 #[.int .i64 e, .slice A n c] := ((Blk.new_at _ _ (by simp)).alloc _)
  have hX1 : Blk ((w.alloc (.cells #[.int .i64 e, .slice A n c] 24)).alloc (.cells #[.int .i64 num, .int .i64 den, .int .i64 add] 65)) (w.heap.size + 1) 65 #[.int .i64 num, .int .i64 den, .int .i64 add] := (Blk.new_at _ _ (by simp))
  cases hs : decide ((n : Int) ≤ 5)
  · go_enter Tryz.func9, Tryz.ntmps9
    go_wp2_with fail
    have hfr := g1
    replace hr := hr.keep g1
    replace hL := hL.keep g1
    replace hQ := hQ.keep g1
    replace hT := hT.keep g1
    have hc0 := fun j => hX0.cell j
    have hc1 := fun j => hX1.cell j
    have hl0 := hX0.lt
    have hl1 := hX1.lt
    refine (lshort_is A n c _ _ false hs).mono ?_
    rintro e' w1 ⟨rfl, hb⟩
    replace hr := hr.keep hb
    replace hL := hL.keep hb
    replace hQ := hQ.keep hb
    replace hT := hT.keep hb
    replace hfr := fr_call hfr hb
    replace hX0 := hX0.keep hb
    replace hc0 := fun j => hX0.cell j
    replace hl0 := hX0.lt
    replace hX1 := hX1.keep hb
    replace hc1 := fun j => hX1.cell j
    replace hl1 := hX1.lt
    clear hb
    go_wp2_with fail
    refine (known_is _ hT).mono ?_
    rintro e' w2 ⟨rfl, hb⟩
    replace hr := hr.keep hb
    replace hL := hL.keep hb
    replace hQ := hQ.keep hb
    replace hT := hT.keep hb
    replace hfr := fr_call hfr hb
    replace hX0 := hX0.keep hb
    replace hc0 := fun j => hX0.cell j
    replace hl0 := hX0.lt
    replace hX1 := hX1.keep hb
    replace hc1 := fun j => hX1.cell j
    replace hl1 := hX1.lt
    clear hb
    go_wp2_with fail
    go_ret
    exact ⟨rfl, hfr⟩
  · cases hso : decide ((l.length : Int) ≤ 8)
    · go_enter Tryz.func9, Tryz.ntmps9
      go_wp2_with fail
      have hfr := g1
      replace hr := hr.keep g1
      replace hL := hL.keep g1
      replace hQ := hQ.keep g1
      replace hT := hT.keep g1
      have hc0 := fun j => hX0.cell j
      have hc1 := fun j => hX1.cell j
      have hl0 := hX0.lt
      have hl1 := hX1.lt
      refine (lshort_is A n c _ _ true hs).mono ?_
      rintro e' w1 ⟨rfl, hb⟩
      replace hr := hr.keep hb
      replace hL := hL.keep hb
      replace hQ := hQ.keep hb
      replace hT := hT.keep hb
      replace hfr := fr_call hfr hb
      replace hX0 := hX0.keep hb
      replace hc0 := fun j => hX0.cell j
      replace hl0 := hX0.lt
      replace hX1 := hX1.keep hb
      replace hc1 := fun j => hX1.cell j
      replace hl1 := hX1.lt
      clear hb
      go_wp2_with fail
      refine (lsome_is L l.length lc _ false hso).mono ?_
      rintro e' w2 ⟨rfl, rfl⟩
      go_wp2_with fail
      refine (known_is _ hT).mono ?_
      rintro e' w3 ⟨rfl, hb⟩
      replace hr := hr.keep hb
      replace hL := hL.keep hb
      replace hQ := hQ.keep hb
      replace hT := hT.keep hb
      replace hfr := fr_call hfr hb
      replace hX0 := hX0.keep hb
      replace hc0 := fun j => hX0.cell j
      replace hl0 := hX0.lt
      replace hX1 := hX1.keep hb
      replace hc1 := fun j => hX1.cell j
      replace hl1 := hX1.lt
      clear hb
      go_wp2_with fail
      go_ret
      exact ⟨rfl, hfr⟩
    · cases hsq : decide ((q.length : Int) ≤ 8)
      · go_enter Tryz.func9, Tryz.ntmps9
        go_wp2_with fail
        have hfr := g1
        replace hr := hr.keep g1
        replace hL := hL.keep g1
        replace hQ := hQ.keep g1
        replace hT := hT.keep g1
        have hc0 := fun j => hX0.cell j
        have hc1 := fun j => hX1.cell j
        have hl0 := hX0.lt
        have hl1 := hX1.lt
        refine (lshort_is A n c _ _ true hs).mono ?_
        rintro e' w1 ⟨rfl, hb⟩
        replace hr := hr.keep hb
        replace hL := hL.keep hb
        replace hQ := hQ.keep hb
        replace hT := hT.keep hb
        replace hfr := fr_call hfr hb
        replace hX0 := hX0.keep hb
        replace hc0 := fun j => hX0.cell j
        replace hl0 := hX0.lt
        replace hX1 := hX1.keep hb
        replace hc1 := fun j => hX1.cell j
        replace hl1 := hX1.lt
        clear hb
        go_wp2_with fail
        refine (lsome_is L l.length lc _ true hso).mono ?_
        rintro e' w2 ⟨rfl, rfl⟩
        go_wp2_with fail
        refine (lsome_is Q q.length qc _ false hsq).mono ?_
        rintro e' w3 ⟨rfl, rfl⟩
        go_wp2_with fail
        refine (known_is _ hT).mono ?_
        rintro e' w4 ⟨rfl, hb⟩
        replace hr := hr.keep hb
        replace hL := hL.keep hb
        replace hQ := hQ.keep hb
        replace hT := hT.keep hb
        replace hfr := fr_call hfr hb
        replace hX0 := hX0.keep hb
        replace hc0 := fun j => hX0.cell j
        replace hl0 := hX0.lt
        replace hX1 := hX1.keep hb
        replace hc1 := fun j => hX1.cell j
        replace hl1 := hX1.lt
        clear hb
        go_wp2_with fail
        go_ret
        exact ⟨rfl, hfr⟩
      · cases hg : rangeB y z
        · cases hok : calOk e cs
          · go_enter Tryz.func9, Tryz.ntmps9
            go_wp2_with fail
            have hfr := g1
            replace hr := hr.keep g1
            replace hL := hL.keep g1
            replace hQ := hQ.keep g1
            replace hT := hT.keep g1
            have hc0 := fun j => hX0.cell j
            have hc1 := fun j => hX1.cell j
            have hl0 := hX0.lt
            have hl1 := hX1.lt
            refine (lshort_is A n c _ _ true hs).mono ?_
            rintro e' w1 ⟨rfl, hb⟩
            replace hr := hr.keep hb
            replace hL := hL.keep hb
            replace hQ := hQ.keep hb
            replace hT := hT.keep hb
            replace hfr := fr_call hfr hb
            replace hX0 := hX0.keep hb
            replace hc0 := fun j => hX0.cell j
            replace hl0 := hX0.lt
            replace hX1 := hX1.keep hb
            replace hc1 := fun j => hX1.cell j
            replace hl1 := hX1.lt
            clear hb
            go_wp2_with fail
            refine (lsome_is L l.length lc _ true hso).mono ?_
            rintro e' w2 ⟨rfl, rfl⟩
            go_wp2_with fail
            refine (lsome_is Q q.length qc _ true hsq).mono ?_
            rintro e' w3 ⟨rfl, rfl⟩
            go_wp2_with fail
            refine (rRange_is y z _ _ hg).mono ?_
            rintro e' w4 ⟨rfl, rfl⟩
            go_wp2_with fail
            refine (Ask_bad A L Q n c lc qc cs e num den add y z l q _ hr hn hL hln hQ hqn (Or.inl hok)).mono ?_
            rintro e' w5 ⟨rfl, hb⟩
            replace hr := hr.keep hb
            replace hL := hL.keep hb
            replace hQ := hQ.keep hb
            replace hT := hT.keep hb
            replace hfr := fr_call hfr hb
            replace hX0 := hX0.keep hb
            replace hc0 := fun j => hX0.cell j
            replace hl0 := hX0.lt
            replace hX1 := hX1.keep hb
            replace hc1 := fun j => hX1.cell j
            replace hl1 := hX1.lt
            clear hb
            go_wp2_with fail
            refine (rCalendar_is A n c cs e _ hr hn _ hok).mono ?_
            rintro e' w6 ⟨rfl, hb⟩
            replace hr := hr.keep hb
            replace hL := hL.keep hb
            replace hQ := hQ.keep hb
            replace hT := hT.keep hb
            replace hfr := fr_call hfr hb
            replace hX0 := hX0.keep hb
            replace hc0 := fun j => hX0.cell j
            replace hl0 := hX0.lt
            replace hX1 := hX1.keep hb
            replace hc1 := fun j => hX1.cell j
            replace hl1 := hX1.lt
            clear hb
            go_wp2_with fail
            refine (known_is _ hT).mono ?_
            rintro e' w7 ⟨rfl, hb⟩
            replace hr := hr.keep hb
            replace hL := hL.keep hb
            replace hQ := hQ.keep hb
            replace hT := hT.keep hb
            replace hfr := fr_call hfr hb
            replace hX0 := hX0.keep hb
            replace hc0 := fun j => hX0.cell j
            replace hl0 := hX0.lt
            replace hX1 := hX1.keep hb
            replace hc1 := fun j => hX1.cell j
            replace hl1 := hX1.lt
            clear hb
            go_wp2_with fail
            go_ret
            exact ⟨rfl, hfr⟩
          · cases hm : moonB num den add
            · go_enter Tryz.func9, Tryz.ntmps9
              go_wp2_with fail
              have hfr := g1
              replace hr := hr.keep g1
              replace hL := hL.keep g1
              replace hQ := hQ.keep g1
              replace hT := hT.keep g1
              have hc0 := fun j => hX0.cell j
              have hc1 := fun j => hX1.cell j
              have hl0 := hX0.lt
              have hl1 := hX1.lt
              refine (lshort_is A n c _ _ true hs).mono ?_
              rintro e' w1 ⟨rfl, hb⟩
              replace hr := hr.keep hb
              replace hL := hL.keep hb
              replace hQ := hQ.keep hb
              replace hT := hT.keep hb
              replace hfr := fr_call hfr hb
              replace hX0 := hX0.keep hb
              replace hc0 := fun j => hX0.cell j
              replace hl0 := hX0.lt
              replace hX1 := hX1.keep hb
              replace hc1 := fun j => hX1.cell j
              replace hl1 := hX1.lt
              clear hb
              go_wp2_with fail
              refine (lsome_is L l.length lc _ true hso).mono ?_
              rintro e' w2 ⟨rfl, rfl⟩
              go_wp2_with fail
              refine (lsome_is Q q.length qc _ true hsq).mono ?_
              rintro e' w3 ⟨rfl, rfl⟩
              go_wp2_with fail
              refine (rRange_is y z _ _ hg).mono ?_
              rintro e' w4 ⟨rfl, rfl⟩
              go_wp2_with fail
              refine (Ask_bad A L Q n c lc qc cs e num den add y z l q _ hr hn hL hln hQ hqn (Or.inr (Or.inl hm))).mono ?_
              rintro e' w5 ⟨rfl, hb⟩
              replace hr := hr.keep hb
              replace hL := hL.keep hb
              replace hQ := hQ.keep hb
              replace hT := hT.keep hb
              replace hfr := fr_call hfr hb
              replace hX0 := hX0.keep hb
              replace hc0 := fun j => hX0.cell j
              replace hl0 := hX0.lt
              replace hX1 := hX1.keep hb
              replace hc1 := fun j => hX1.cell j
              replace hl1 := hX1.lt
              clear hb
              go_wp2_with fail
              refine (rCalendar_is A n c cs e _ hr hn _ hok).mono ?_
              rintro e' w6 ⟨rfl, hb⟩
              replace hr := hr.keep hb
              replace hL := hL.keep hb
              replace hQ := hQ.keep hb
              replace hT := hT.keep hb
              replace hfr := fr_call hfr hb
              replace hX0 := hX0.keep hb
              replace hc0 := fun j => hX0.cell j
              replace hl0 := hX0.lt
              replace hX1 := hX1.keep hb
              replace hc1 := fun j => hX1.cell j
              replace hl1 := hX1.lt
              clear hb
              go_wp2_with fail
              refine (rMoon_is _ _ _ _ _ hm).mono ?_
              rintro e' w7 ⟨rfl, hb⟩
              replace hr := hr.keep hb
              replace hL := hL.keep hb
              replace hQ := hQ.keep hb
              replace hT := hT.keep hb
              replace hfr := fr_call hfr hb
              replace hX0 := hX0.keep hb
              replace hc0 := fun j => hX0.cell j
              replace hl0 := hX0.lt
              replace hX1 := hX1.keep hb
              replace hc1 := fun j => hX1.cell j
              replace hl1 := hX1.lt
              clear hb
              go_wp2_with fail
              refine (known_is _ hT).mono ?_
              rintro e' w8 ⟨rfl, hb⟩
              replace hr := hr.keep hb
              replace hL := hL.keep hb
              replace hQ := hQ.keep hb
              replace hT := hT.keep hb
              replace hfr := fr_call hfr hb
              replace hX0 := hX0.keep hb
              replace hc0 := fun j => hX0.cell j
              replace hl0 := hX0.lt
              replace hX1 := hX1.keep hb
              replace hc1 := fun j => hX1.cell j
              replace hl1 := hX1.lt
              clear hb
              go_wp2_with fail
              go_ret
              exact ⟨rfl, hfr⟩
            · cases hf : factsB l
              · go_enter Tryz.func9, Tryz.ntmps9
                go_wp2_with fail
                have hfr := g1
                replace hr := hr.keep g1
                replace hL := hL.keep g1
                replace hQ := hQ.keep g1
                replace hT := hT.keep g1
                have hc0 := fun j => hX0.cell j
                have hc1 := fun j => hX1.cell j
                have hl0 := hX0.lt
                have hl1 := hX1.lt
                refine (lshort_is A n c _ _ true hs).mono ?_
                rintro e' w1 ⟨rfl, hb⟩
                replace hr := hr.keep hb
                replace hL := hL.keep hb
                replace hQ := hQ.keep hb
                replace hT := hT.keep hb
                replace hfr := fr_call hfr hb
                replace hX0 := hX0.keep hb
                replace hc0 := fun j => hX0.cell j
                replace hl0 := hX0.lt
                replace hX1 := hX1.keep hb
                replace hc1 := fun j => hX1.cell j
                replace hl1 := hX1.lt
                clear hb
                go_wp2_with fail
                refine (lsome_is L l.length lc _ true hso).mono ?_
                rintro e' w2 ⟨rfl, rfl⟩
                go_wp2_with fail
                refine (lsome_is Q q.length qc _ true hsq).mono ?_
                rintro e' w3 ⟨rfl, rfl⟩
                go_wp2_with fail
                refine (rRange_is y z _ _ hg).mono ?_
                rintro e' w4 ⟨rfl, rfl⟩
                go_wp2_with fail
                refine (Ask_bad A L Q n c lc qc cs e num den add y z l q _ hr hn hL hln hQ hqn (Or.inr (Or.inr (Or.inl hf)))).mono ?_
                rintro e' w5 ⟨rfl, hb⟩
                replace hr := hr.keep hb
                replace hL := hL.keep hb
                replace hQ := hQ.keep hb
                replace hT := hT.keep hb
                replace hfr := fr_call hfr hb
                replace hX0 := hX0.keep hb
                replace hc0 := fun j => hX0.cell j
                replace hl0 := hX0.lt
                replace hX1 := hX1.keep hb
                replace hc1 := fun j => hX1.cell j
                replace hl1 := hX1.lt
                clear hb
                go_wp2_with fail
                refine (rCalendar_is A n c cs e _ hr hn _ hok).mono ?_
                rintro e' w6 ⟨rfl, hb⟩
                replace hr := hr.keep hb
                replace hL := hL.keep hb
                replace hQ := hQ.keep hb
                replace hT := hT.keep hb
                replace hfr := fr_call hfr hb
                replace hX0 := hX0.keep hb
                replace hc0 := fun j => hX0.cell j
                replace hl0 := hX0.lt
                replace hX1 := hX1.keep hb
                replace hc1 := fun j => hX1.cell j
                replace hl1 := hX1.lt
                clear hb
                go_wp2_with fail
                refine (rMoon_is _ _ _ _ _ hm).mono ?_
                rintro e' w7 ⟨rfl, hb⟩
                replace hr := hr.keep hb
                replace hL := hL.keep hb
                replace hQ := hQ.keep hb
                replace hT := hT.keep hb
                replace hfr := fr_call hfr hb
                replace hX0 := hX0.keep hb
                replace hc0 := fun j => hX0.cell j
                replace hl0 := hX0.lt
                replace hX1 := hX1.keep hb
                replace hc1 := fun j => hX1.cell j
                replace hl1 := hX1.lt
                clear hb
                go_wp2_with fail
                refine (rFacts_is L lc l _ hL hln _ hf).mono ?_
                rintro e' w8 ⟨rfl, hb⟩
                replace hr := hr.keep hb
                replace hL := hL.keep hb
                replace hQ := hQ.keep hb
                replace hT := hT.keep hb
                replace hfr := fr_call hfr hb
                replace hX0 := hX0.keep hb
                replace hc0 := fun j => hX0.cell j
                replace hl0 := hX0.lt
                replace hX1 := hX1.keep hb
                replace hc1 := fun j => hX1.cell j
                replace hl1 := hX1.lt
                clear hb
                go_wp2_with fail
                refine (known_is _ hT).mono ?_
                rintro e' w9 ⟨rfl, hb⟩
                replace hr := hr.keep hb
                replace hL := hL.keep hb
                replace hQ := hQ.keep hb
                replace hT := hT.keep hb
                replace hfr := fr_call hfr hb
                replace hX0 := hX0.keep hb
                replace hc0 := fun j => hX0.cell j
                replace hl0 := hX0.lt
                replace hX1 := hX1.keep hb
                replace hc1 := fun j => hX1.cell j
                replace hl1 := hX1.lt
                clear hb
                go_wp2_with fail
                go_ret
                exact ⟨rfl, hfr⟩
              · cases hq : asksB q
                · go_enter Tryz.func9, Tryz.ntmps9
                  go_wp2_with fail
                  have hfr := g1
                  replace hr := hr.keep g1
                  replace hL := hL.keep g1
                  replace hQ := hQ.keep g1
                  replace hT := hT.keep g1
                  have hc0 := fun j => hX0.cell j
                  have hc1 := fun j => hX1.cell j
                  have hl0 := hX0.lt
                  have hl1 := hX1.lt
                  refine (lshort_is A n c _ _ true hs).mono ?_
                  rintro e' w1 ⟨rfl, hb⟩
                  replace hr := hr.keep hb
                  replace hL := hL.keep hb
                  replace hQ := hQ.keep hb
                  replace hT := hT.keep hb
                  replace hfr := fr_call hfr hb
                  replace hX0 := hX0.keep hb
                  replace hc0 := fun j => hX0.cell j
                  replace hl0 := hX0.lt
                  replace hX1 := hX1.keep hb
                  replace hc1 := fun j => hX1.cell j
                  replace hl1 := hX1.lt
                  clear hb
                  go_wp2_with fail
                  refine (lsome_is L l.length lc _ true hso).mono ?_
                  rintro e' w2 ⟨rfl, rfl⟩
                  go_wp2_with fail
                  refine (lsome_is Q q.length qc _ true hsq).mono ?_
                  rintro e' w3 ⟨rfl, rfl⟩
                  go_wp2_with fail
                  refine (rRange_is y z _ _ hg).mono ?_
                  rintro e' w4 ⟨rfl, rfl⟩
                  go_wp2_with fail
                  refine (Ask_bad A L Q n c lc qc cs e num den add y z l q _ hr hn hL hln hQ hqn (Or.inr (Or.inr (Or.inr (Or.inl hq))))).mono ?_
                  rintro e' w5 ⟨rfl, hb⟩
                  replace hr := hr.keep hb
                  replace hL := hL.keep hb
                  replace hQ := hQ.keep hb
                  replace hT := hT.keep hb
                  replace hfr := fr_call hfr hb
                  replace hX0 := hX0.keep hb
                  replace hc0 := fun j => hX0.cell j
                  replace hl0 := hX0.lt
                  replace hX1 := hX1.keep hb
                  replace hc1 := fun j => hX1.cell j
                  replace hl1 := hX1.lt
                  clear hb
                  go_wp2_with fail
                  refine (rCalendar_is A n c cs e _ hr hn _ hok).mono ?_
                  rintro e' w6 ⟨rfl, hb⟩
                  replace hr := hr.keep hb
                  replace hL := hL.keep hb
                  replace hQ := hQ.keep hb
                  replace hT := hT.keep hb
                  replace hfr := fr_call hfr hb
                  replace hX0 := hX0.keep hb
                  replace hc0 := fun j => hX0.cell j
                  replace hl0 := hX0.lt
                  replace hX1 := hX1.keep hb
                  replace hc1 := fun j => hX1.cell j
                  replace hl1 := hX1.lt
                  clear hb
                  go_wp2_with fail
                  refine (rMoon_is _ _ _ _ _ hm).mono ?_
                  rintro e' w7 ⟨rfl, hb⟩
                  replace hr := hr.keep hb
                  replace hL := hL.keep hb
                  replace hQ := hQ.keep hb
                  replace hT := hT.keep hb
                  replace hfr := fr_call hfr hb
                  replace hX0 := hX0.keep hb
                  replace hc0 := fun j => hX0.cell j
                  replace hl0 := hX0.lt
                  replace hX1 := hX1.keep hb
                  replace hc1 := fun j => hX1.cell j
                  replace hl1 := hX1.lt
                  clear hb
                  go_wp2_with fail
                  refine (rFacts_is L lc l _ hL hln _ hf).mono ?_
                  rintro e' w8 ⟨rfl, hb⟩
                  replace hr := hr.keep hb
                  replace hL := hL.keep hb
                  replace hQ := hQ.keep hb
                  replace hT := hT.keep hb
                  replace hfr := fr_call hfr hb
                  replace hX0 := hX0.keep hb
                  replace hc0 := fun j => hX0.cell j
                  replace hl0 := hX0.lt
                  replace hX1 := hX1.keep hb
                  replace hc1 := fun j => hX1.cell j
                  replace hl1 := hX1.lt
                  clear hb
                  go_wp2_with fail
                  refine (rAsks_is Q qc q _ hQ hqn _ hq).mono ?_
                  rintro e' w9 ⟨rfl, hb⟩
                  replace hr := hr.keep hb
                  replace hL := hL.keep hb
                  replace hQ := hQ.keep hb
                  replace hT := hT.keep hb
                  replace hfr := fr_call hfr hb
                  replace hX0 := hX0.keep hb
                  replace hc0 := fun j => hX0.cell j
                  replace hl0 := hX0.lt
                  replace hX1 := hX1.keep hb
                  replace hc1 := fun j => hX1.cell j
                  replace hl1 := hX1.lt
                  clear hb
                  go_wp2_with fail
                  refine (known_is _ hT).mono ?_
                  rintro e' w10 ⟨rfl, hb⟩
                  replace hr := hr.keep hb
                  replace hL := hL.keep hb
                  replace hQ := hQ.keep hb
                  replace hT := hT.keep hb
                  replace hfr := fr_call hfr hb
                  replace hX0 := hX0.keep hb
                  replace hc0 := fun j => hX0.cell j
                  replace hl0 := hX0.lt
                  replace hX1 := hX1.keep hb
                  replace hc1 := fun j => hX1.cell j
                  replace hl1 := hX1.lt
                  clear hb
                  go_wp2_with fail
                  go_ret
                  exact ⟨rfl, hfr⟩
                · go_enter Tryz.func9, Tryz.ntmps9
                  go_wp2_with fail
                  have hfr := g1
                  replace hr := hr.keep g1
                  replace hL := hL.keep g1
                  replace hQ := hQ.keep g1
                  replace hT := hT.keep g1
                  have hc0 := fun j => hX0.cell j
                  have hc1 := fun j => hX1.cell j
                  have hl0 := hX0.lt
                  have hl1 := hX1.lt
                  refine (lshort_is A n c _ _ true hs).mono ?_
                  rintro e' w1 ⟨rfl, hb⟩
                  replace hr := hr.keep hb
                  replace hL := hL.keep hb
                  replace hQ := hQ.keep hb
                  replace hT := hT.keep hb
                  replace hfr := fr_call hfr hb
                  replace hX0 := hX0.keep hb
                  replace hc0 := fun j => hX0.cell j
                  replace hl0 := hX0.lt
                  replace hX1 := hX1.keep hb
                  replace hc1 := fun j => hX1.cell j
                  replace hl1 := hX1.lt
                  clear hb
                  go_wp2_with fail
                  refine (lsome_is L l.length lc _ true hso).mono ?_
                  rintro e' w2 ⟨rfl, rfl⟩
                  go_wp2_with fail
                  refine (lsome_is Q q.length qc _ true hsq).mono ?_
                  rintro e' w3 ⟨rfl, rfl⟩
                  go_wp2_with fail
                  refine (rRange_is y z _ _ hg).mono ?_
                  rintro e' w4 ⟨rfl, rfl⟩
                  go_wp2_with fail
                  refine (Ask_bad A L Q n c lc qc cs e num den add y z l q _ hr hn hL hln hQ hqn (Or.inr (Or.inr (Or.inr (Or.inr hg))))).mono ?_
                  rintro e' w5 ⟨rfl, hb⟩
                  replace hr := hr.keep hb
                  replace hL := hL.keep hb
                  replace hQ := hQ.keep hb
                  replace hT := hT.keep hb
                  replace hfr := fr_call hfr hb
                  replace hX0 := hX0.keep hb
                  replace hc0 := fun j => hX0.cell j
                  replace hl0 := hX0.lt
                  replace hX1 := hX1.keep hb
                  replace hc1 := fun j => hX1.cell j
                  replace hl1 := hX1.lt
                  clear hb
                  go_wp2_with fail
                  refine (rCalendar_is A n c cs e _ hr hn _ hok).mono ?_
                  rintro e' w6 ⟨rfl, hb⟩
                  replace hr := hr.keep hb
                  replace hL := hL.keep hb
                  replace hQ := hQ.keep hb
                  replace hT := hT.keep hb
                  replace hfr := fr_call hfr hb
                  replace hX0 := hX0.keep hb
                  replace hc0 := fun j => hX0.cell j
                  replace hl0 := hX0.lt
                  replace hX1 := hX1.keep hb
                  replace hc1 := fun j => hX1.cell j
                  replace hl1 := hX1.lt
                  clear hb
                  go_wp2_with fail
                  refine (rMoon_is _ _ _ _ _ hm).mono ?_
                  rintro e' w7 ⟨rfl, hb⟩
                  replace hr := hr.keep hb
                  replace hL := hL.keep hb
                  replace hQ := hQ.keep hb
                  replace hT := hT.keep hb
                  replace hfr := fr_call hfr hb
                  replace hX0 := hX0.keep hb
                  replace hc0 := fun j => hX0.cell j
                  replace hl0 := hX0.lt
                  replace hX1 := hX1.keep hb
                  replace hc1 := fun j => hX1.cell j
                  replace hl1 := hX1.lt
                  clear hb
                  go_wp2_with fail
                  refine (rFacts_is L lc l _ hL hln _ hf).mono ?_
                  rintro e' w8 ⟨rfl, hb⟩
                  replace hr := hr.keep hb
                  replace hL := hL.keep hb
                  replace hQ := hQ.keep hb
                  replace hT := hT.keep hb
                  replace hfr := fr_call hfr hb
                  replace hX0 := hX0.keep hb
                  replace hc0 := fun j => hX0.cell j
                  replace hl0 := hX0.lt
                  replace hX1 := hX1.keep hb
                  replace hc1 := fun j => hX1.cell j
                  replace hl1 := hX1.lt
                  clear hb
                  go_wp2_with fail
                  refine (rAsks_is Q qc q _ hQ hqn _ hq).mono ?_
                  rintro e' w9 ⟨rfl, hb⟩
                  replace hr := hr.keep hb
                  replace hL := hL.keep hb
                  replace hQ := hQ.keep hb
                  replace hT := hT.keep hb
                  replace hfr := fr_call hfr hb
                  replace hX0 := hX0.keep hb
                  replace hc0 := fun j => hX0.cell j
                  replace hl0 := hX0.lt
                  replace hX1 := hX1.keep hb
                  replace hc1 := fun j => hX1.cell j
                  replace hl1 := hX1.lt
                  clear hb
                  go_wp2_with fail
                  refine (rRange_is y z _ _ hg).mono ?_
                  rintro e' w10 ⟨rfl, rfl⟩
                  go_wp2_with fail
                  refine (known_is _ hT).mono ?_
                  rintro e' w11 ⟨rfl, hb⟩
                  replace hr := hr.keep hb
                  replace hL := hL.keep hb
                  replace hQ := hQ.keep hb
                  replace hT := hT.keep hb
                  replace hfr := fr_call hfr hb
                  replace hX0 := hX0.keep hb
                  replace hc0 := fun j => hX0.cell j
                  replace hl0 := hX0.lt
                  replace hX1 := hX1.keep hb
                  replace hc1 := fun j => hX1.cell j
                  replace hl1 := hX1.lt
                  clear hb
                  go_wp2_with fail
                  go_ret
                  exact ⟨rfl, hfr⟩
        · obtain ⟨⟨hy1, hy2⟩, ⟨hz1, hz2⟩, hyz1, hyz2⟩ := range_parts hg
          by_cases h60 : 60 < z - y
          · go_enter Tryz.func9, Tryz.ntmps9
            go_wp2_with fail
            have hfr := g1
            replace hr := hr.keep g1
            replace hL := hL.keep g1
            replace hQ := hQ.keep g1
            replace hT := hT.keep g1
            have hc0 := fun j => hX0.cell j
            have hc1 := fun j => hX1.cell j
            have hl0 := hX0.lt
            have hl1 := hX1.lt
            refine (lshort_is A n c _ _ true hs).mono ?_
            rintro e' w1 ⟨rfl, hb⟩
            replace hr := hr.keep hb
            replace hL := hL.keep hb
            replace hQ := hQ.keep hb
            replace hT := hT.keep hb
            replace hfr := fr_call hfr hb
            replace hX0 := hX0.keep hb
            replace hc0 := fun j => hX0.cell j
            replace hl0 := hX0.lt
            replace hX1 := hX1.keep hb
            replace hc1 := fun j => hX1.cell j
            replace hl1 := hX1.lt
            clear hb
            go_wp2_with fail
            refine (lsome_is L l.length lc _ true hso).mono ?_
            rintro e' w2 ⟨rfl, rfl⟩
            go_wp2_with fail
            refine (lsome_is Q q.length qc _ true hsq).mono ?_
            rintro e' w3 ⟨rfl, rfl⟩
            go_wp2_with fail
            refine (rRange_is y z _ _ hg).mono ?_
            rintro e' w4 ⟨rfl, rfl⟩
            go_wp2_with fail
            refine (known_is _ hT).mono ?_
            rintro e' w5 ⟨rfl, hb⟩
            replace hr := hr.keep hb
            replace hL := hL.keep hb
            replace hQ := hQ.keep hb
            replace hT := hT.keep hb
            replace hfr := fr_call hfr hb
            replace hX0 := hX0.keep hb
            replace hc0 := fun j => hX0.cell j
            replace hl0 := hX0.lt
            replace hX1 := hX1.keep hb
            replace hc1 := fun j => hX1.cell j
            replace hl1 := hX1.lt
            clear hb
            go_wp2_with fail
            go_ret
            exact ⟨rfl, hfr⟩
          · cases hok : calOk e cs
            · go_enter Tryz.func9, Tryz.ntmps9
              go_wp2_with fail
              have hfr := g1
              replace hr := hr.keep g1
              replace hL := hL.keep g1
              replace hQ := hQ.keep g1
              replace hT := hT.keep g1
              have hc0 := fun j => hX0.cell j
              have hc1 := fun j => hX1.cell j
              have hl0 := hX0.lt
              have hl1 := hX1.lt
              refine (lshort_is A n c _ _ true hs).mono ?_
              rintro e' w1 ⟨rfl, hb⟩
              replace hr := hr.keep hb
              replace hL := hL.keep hb
              replace hQ := hQ.keep hb
              replace hT := hT.keep hb
              replace hfr := fr_call hfr hb
              replace hX0 := hX0.keep hb
              replace hc0 := fun j => hX0.cell j
              replace hl0 := hX0.lt
              replace hX1 := hX1.keep hb
              replace hc1 := fun j => hX1.cell j
              replace hl1 := hX1.lt
              clear hb
              go_wp2_with fail
              refine (lsome_is L l.length lc _ true hso).mono ?_
              rintro e' w2 ⟨rfl, rfl⟩
              go_wp2_with fail
              refine (lsome_is Q q.length qc _ true hsq).mono ?_
              rintro e' w3 ⟨rfl, rfl⟩
              go_wp2_with fail
              refine (rRange_is y z _ _ hg).mono ?_
              rintro e' w4 ⟨rfl, rfl⟩
              go_wp2_with fail
              refine (Ask_bad A L Q n c lc qc cs e num den add y z l q _ hr hn hL hln hQ hqn (Or.inl hok)).mono ?_
              rintro e' w5 ⟨rfl, hb⟩
              replace hr := hr.keep hb
              replace hL := hL.keep hb
              replace hQ := hQ.keep hb
              replace hT := hT.keep hb
              replace hfr := fr_call hfr hb
              replace hX0 := hX0.keep hb
              replace hc0 := fun j => hX0.cell j
              replace hl0 := hX0.lt
              replace hX1 := hX1.keep hb
              replace hc1 := fun j => hX1.cell j
              replace hl1 := hX1.lt
              clear hb
              go_wp2_with fail
              refine (rCalendar_is A n c cs e _ hr hn _ hok).mono ?_
              rintro e' w6 ⟨rfl, hb⟩
              replace hr := hr.keep hb
              replace hL := hL.keep hb
              replace hQ := hQ.keep hb
              replace hT := hT.keep hb
              replace hfr := fr_call hfr hb
              replace hX0 := hX0.keep hb
              replace hc0 := fun j => hX0.cell j
              replace hl0 := hX0.lt
              replace hX1 := hX1.keep hb
              replace hc1 := fun j => hX1.cell j
              replace hl1 := hX1.lt
              clear hb
              go_wp2_with fail
              refine (known_is _ hT).mono ?_
              rintro e' w7 ⟨rfl, hb⟩
              replace hr := hr.keep hb
              replace hL := hL.keep hb
              replace hQ := hQ.keep hb
              replace hT := hT.keep hb
              replace hfr := fr_call hfr hb
              replace hX0 := hX0.keep hb
              replace hc0 := fun j => hX0.cell j
              replace hl0 := hX0.lt
              replace hX1 := hX1.keep hb
              replace hc1 := fun j => hX1.cell j
              replace hl1 := hX1.lt
              clear hb
              go_wp2_with fail
              go_ret
              exact ⟨rfl, hfr⟩
            · cases hm : moonB num den add
              · go_enter Tryz.func9, Tryz.ntmps9
                go_wp2_with fail
                have hfr := g1
                replace hr := hr.keep g1
                replace hL := hL.keep g1
                replace hQ := hQ.keep g1
                replace hT := hT.keep g1
                have hc0 := fun j => hX0.cell j
                have hc1 := fun j => hX1.cell j
                have hl0 := hX0.lt
                have hl1 := hX1.lt
                refine (lshort_is A n c _ _ true hs).mono ?_
                rintro e' w1 ⟨rfl, hb⟩
                replace hr := hr.keep hb
                replace hL := hL.keep hb
                replace hQ := hQ.keep hb
                replace hT := hT.keep hb
                replace hfr := fr_call hfr hb
                replace hX0 := hX0.keep hb
                replace hc0 := fun j => hX0.cell j
                replace hl0 := hX0.lt
                replace hX1 := hX1.keep hb
                replace hc1 := fun j => hX1.cell j
                replace hl1 := hX1.lt
                clear hb
                go_wp2_with fail
                refine (lsome_is L l.length lc _ true hso).mono ?_
                rintro e' w2 ⟨rfl, rfl⟩
                go_wp2_with fail
                refine (lsome_is Q q.length qc _ true hsq).mono ?_
                rintro e' w3 ⟨rfl, rfl⟩
                go_wp2_with fail
                refine (rRange_is y z _ _ hg).mono ?_
                rintro e' w4 ⟨rfl, rfl⟩
                go_wp2_with fail
                refine (Ask_bad A L Q n c lc qc cs e num den add y z l q _ hr hn hL hln hQ hqn (Or.inr (Or.inl hm))).mono ?_
                rintro e' w5 ⟨rfl, hb⟩
                replace hr := hr.keep hb
                replace hL := hL.keep hb
                replace hQ := hQ.keep hb
                replace hT := hT.keep hb
                replace hfr := fr_call hfr hb
                replace hX0 := hX0.keep hb
                replace hc0 := fun j => hX0.cell j
                replace hl0 := hX0.lt
                replace hX1 := hX1.keep hb
                replace hc1 := fun j => hX1.cell j
                replace hl1 := hX1.lt
                clear hb
                go_wp2_with fail
                refine (rCalendar_is A n c cs e _ hr hn _ hok).mono ?_
                rintro e' w6 ⟨rfl, hb⟩
                replace hr := hr.keep hb
                replace hL := hL.keep hb
                replace hQ := hQ.keep hb
                replace hT := hT.keep hb
                replace hfr := fr_call hfr hb
                replace hX0 := hX0.keep hb
                replace hc0 := fun j => hX0.cell j
                replace hl0 := hX0.lt
                replace hX1 := hX1.keep hb
                replace hc1 := fun j => hX1.cell j
                replace hl1 := hX1.lt
                clear hb
                go_wp2_with fail
                refine (rMoon_is _ _ _ _ _ hm).mono ?_
                rintro e' w7 ⟨rfl, hb⟩
                replace hr := hr.keep hb
                replace hL := hL.keep hb
                replace hQ := hQ.keep hb
                replace hT := hT.keep hb
                replace hfr := fr_call hfr hb
                replace hX0 := hX0.keep hb
                replace hc0 := fun j => hX0.cell j
                replace hl0 := hX0.lt
                replace hX1 := hX1.keep hb
                replace hc1 := fun j => hX1.cell j
                replace hl1 := hX1.lt
                clear hb
                go_wp2_with fail
                refine (known_is _ hT).mono ?_
                rintro e' w8 ⟨rfl, hb⟩
                replace hr := hr.keep hb
                replace hL := hL.keep hb
                replace hQ := hQ.keep hb
                replace hT := hT.keep hb
                replace hfr := fr_call hfr hb
                replace hX0 := hX0.keep hb
                replace hc0 := fun j => hX0.cell j
                replace hl0 := hX0.lt
                replace hX1 := hX1.keep hb
                replace hc1 := fun j => hX1.cell j
                replace hl1 := hX1.lt
                clear hb
                go_wp2_with fail
                go_ret
                exact ⟨rfl, hfr⟩
              · cases hf : factsB l
                · go_enter Tryz.func9, Tryz.ntmps9
                  go_wp2_with fail
                  have hfr := g1
                  replace hr := hr.keep g1
                  replace hL := hL.keep g1
                  replace hQ := hQ.keep g1
                  replace hT := hT.keep g1
                  have hc0 := fun j => hX0.cell j
                  have hc1 := fun j => hX1.cell j
                  have hl0 := hX0.lt
                  have hl1 := hX1.lt
                  refine (lshort_is A n c _ _ true hs).mono ?_
                  rintro e' w1 ⟨rfl, hb⟩
                  replace hr := hr.keep hb
                  replace hL := hL.keep hb
                  replace hQ := hQ.keep hb
                  replace hT := hT.keep hb
                  replace hfr := fr_call hfr hb
                  replace hX0 := hX0.keep hb
                  replace hc0 := fun j => hX0.cell j
                  replace hl0 := hX0.lt
                  replace hX1 := hX1.keep hb
                  replace hc1 := fun j => hX1.cell j
                  replace hl1 := hX1.lt
                  clear hb
                  go_wp2_with fail
                  refine (lsome_is L l.length lc _ true hso).mono ?_
                  rintro e' w2 ⟨rfl, rfl⟩
                  go_wp2_with fail
                  refine (lsome_is Q q.length qc _ true hsq).mono ?_
                  rintro e' w3 ⟨rfl, rfl⟩
                  go_wp2_with fail
                  refine (rRange_is y z _ _ hg).mono ?_
                  rintro e' w4 ⟨rfl, rfl⟩
                  go_wp2_with fail
                  refine (Ask_bad A L Q n c lc qc cs e num den add y z l q _ hr hn hL hln hQ hqn (Or.inr (Or.inr (Or.inl hf)))).mono ?_
                  rintro e' w5 ⟨rfl, hb⟩
                  replace hr := hr.keep hb
                  replace hL := hL.keep hb
                  replace hQ := hQ.keep hb
                  replace hT := hT.keep hb
                  replace hfr := fr_call hfr hb
                  replace hX0 := hX0.keep hb
                  replace hc0 := fun j => hX0.cell j
                  replace hl0 := hX0.lt
                  replace hX1 := hX1.keep hb
                  replace hc1 := fun j => hX1.cell j
                  replace hl1 := hX1.lt
                  clear hb
                  go_wp2_with fail
                  refine (rCalendar_is A n c cs e _ hr hn _ hok).mono ?_
                  rintro e' w6 ⟨rfl, hb⟩
                  replace hr := hr.keep hb
                  replace hL := hL.keep hb
                  replace hQ := hQ.keep hb
                  replace hT := hT.keep hb
                  replace hfr := fr_call hfr hb
                  replace hX0 := hX0.keep hb
                  replace hc0 := fun j => hX0.cell j
                  replace hl0 := hX0.lt
                  replace hX1 := hX1.keep hb
                  replace hc1 := fun j => hX1.cell j
                  replace hl1 := hX1.lt
                  clear hb
                  go_wp2_with fail
                  refine (rMoon_is _ _ _ _ _ hm).mono ?_
                  rintro e' w7 ⟨rfl, hb⟩
                  replace hr := hr.keep hb
                  replace hL := hL.keep hb
                  replace hQ := hQ.keep hb
                  replace hT := hT.keep hb
                  replace hfr := fr_call hfr hb
                  replace hX0 := hX0.keep hb
                  replace hc0 := fun j => hX0.cell j
                  replace hl0 := hX0.lt
                  replace hX1 := hX1.keep hb
                  replace hc1 := fun j => hX1.cell j
                  replace hl1 := hX1.lt
                  clear hb
                  go_wp2_with fail
                  refine (rFacts_is L lc l _ hL hln _ hf).mono ?_
                  rintro e' w8 ⟨rfl, hb⟩
                  replace hr := hr.keep hb
                  replace hL := hL.keep hb
                  replace hQ := hQ.keep hb
                  replace hT := hT.keep hb
                  replace hfr := fr_call hfr hb
                  replace hX0 := hX0.keep hb
                  replace hc0 := fun j => hX0.cell j
                  replace hl0 := hX0.lt
                  replace hX1 := hX1.keep hb
                  replace hc1 := fun j => hX1.cell j
                  replace hl1 := hX1.lt
                  clear hb
                  go_wp2_with fail
                  refine (known_is _ hT).mono ?_
                  rintro e' w9 ⟨rfl, hb⟩
                  replace hr := hr.keep hb
                  replace hL := hL.keep hb
                  replace hQ := hQ.keep hb
                  replace hT := hT.keep hb
                  replace hfr := fr_call hfr hb
                  replace hX0 := hX0.keep hb
                  replace hc0 := fun j => hX0.cell j
                  replace hl0 := hX0.lt
                  replace hX1 := hX1.keep hb
                  replace hc1 := fun j => hX1.cell j
                  replace hl1 := hX1.lt
                  clear hb
                  go_wp2_with fail
                  go_ret
                  exact ⟨rfl, hfr⟩
                · cases hq : asksB q
                  · go_enter Tryz.func9, Tryz.ntmps9
                    go_wp2_with fail
                    have hfr := g1
                    replace hr := hr.keep g1
                    replace hL := hL.keep g1
                    replace hQ := hQ.keep g1
                    replace hT := hT.keep g1
                    have hc0 := fun j => hX0.cell j
                    have hc1 := fun j => hX1.cell j
                    have hl0 := hX0.lt
                    have hl1 := hX1.lt
                    refine (lshort_is A n c _ _ true hs).mono ?_
                    rintro e' w1 ⟨rfl, hb⟩
                    replace hr := hr.keep hb
                    replace hL := hL.keep hb
                    replace hQ := hQ.keep hb
                    replace hT := hT.keep hb
                    replace hfr := fr_call hfr hb
                    replace hX0 := hX0.keep hb
                    replace hc0 := fun j => hX0.cell j
                    replace hl0 := hX0.lt
                    replace hX1 := hX1.keep hb
                    replace hc1 := fun j => hX1.cell j
                    replace hl1 := hX1.lt
                    clear hb
                    go_wp2_with fail
                    refine (lsome_is L l.length lc _ true hso).mono ?_
                    rintro e' w2 ⟨rfl, rfl⟩
                    go_wp2_with fail
                    refine (lsome_is Q q.length qc _ true hsq).mono ?_
                    rintro e' w3 ⟨rfl, rfl⟩
                    go_wp2_with fail
                    refine (rRange_is y z _ _ hg).mono ?_
                    rintro e' w4 ⟨rfl, rfl⟩
                    go_wp2_with fail
                    refine (Ask_bad A L Q n c lc qc cs e num den add y z l q _ hr hn hL hln hQ hqn (Or.inr (Or.inr (Or.inr (Or.inl hq))))).mono ?_
                    rintro e' w5 ⟨rfl, hb⟩
                    replace hr := hr.keep hb
                    replace hL := hL.keep hb
                    replace hQ := hQ.keep hb
                    replace hT := hT.keep hb
                    replace hfr := fr_call hfr hb
                    replace hX0 := hX0.keep hb
                    replace hc0 := fun j => hX0.cell j
                    replace hl0 := hX0.lt
                    replace hX1 := hX1.keep hb
                    replace hc1 := fun j => hX1.cell j
                    replace hl1 := hX1.lt
                    clear hb
                    go_wp2_with fail
                    refine (rCalendar_is A n c cs e _ hr hn _ hok).mono ?_
                    rintro e' w6 ⟨rfl, hb⟩
                    replace hr := hr.keep hb
                    replace hL := hL.keep hb
                    replace hQ := hQ.keep hb
                    replace hT := hT.keep hb
                    replace hfr := fr_call hfr hb
                    replace hX0 := hX0.keep hb
                    replace hc0 := fun j => hX0.cell j
                    replace hl0 := hX0.lt
                    replace hX1 := hX1.keep hb
                    replace hc1 := fun j => hX1.cell j
                    replace hl1 := hX1.lt
                    clear hb
                    go_wp2_with fail
                    refine (rMoon_is _ _ _ _ _ hm).mono ?_
                    rintro e' w7 ⟨rfl, hb⟩
                    replace hr := hr.keep hb
                    replace hL := hL.keep hb
                    replace hQ := hQ.keep hb
                    replace hT := hT.keep hb
                    replace hfr := fr_call hfr hb
                    replace hX0 := hX0.keep hb
                    replace hc0 := fun j => hX0.cell j
                    replace hl0 := hX0.lt
                    replace hX1 := hX1.keep hb
                    replace hc1 := fun j => hX1.cell j
                    replace hl1 := hX1.lt
                    clear hb
                    go_wp2_with fail
                    refine (rFacts_is L lc l _ hL hln _ hf).mono ?_
                    rintro e' w8 ⟨rfl, hb⟩
                    replace hr := hr.keep hb
                    replace hL := hL.keep hb
                    replace hQ := hQ.keep hb
                    replace hT := hT.keep hb
                    replace hfr := fr_call hfr hb
                    replace hX0 := hX0.keep hb
                    replace hc0 := fun j => hX0.cell j
                    replace hl0 := hX0.lt
                    replace hX1 := hX1.keep hb
                    replace hc1 := fun j => hX1.cell j
                    replace hl1 := hX1.lt
                    clear hb
                    go_wp2_with fail
                    refine (rAsks_is Q qc q _ hQ hqn _ hq).mono ?_
                    rintro e' w9 ⟨rfl, hb⟩
                    replace hr := hr.keep hb
                    replace hL := hL.keep hb
                    replace hQ := hQ.keep hb
                    replace hT := hT.keep hb
                    replace hfr := fr_call hfr hb
                    replace hX0 := hX0.keep hb
                    replace hc0 := fun j => hX0.cell j
                    replace hl0 := hX0.lt
                    replace hX1 := hX1.keep hb
                    replace hc1 := fun j => hX1.cell j
                    replace hl1 := hX1.lt
                    clear hb
                    go_wp2_with fail
                    refine (known_is _ hT).mono ?_
                    rintro e' w10 ⟨rfl, hb⟩
                    replace hr := hr.keep hb
                    replace hL := hL.keep hb
                    replace hQ := hQ.keep hb
                    replace hT := hT.keep hb
                    replace hfr := fr_call hfr hb
                    replace hX0 := hX0.keep hb
                    replace hc0 := fun j => hX0.cell j
                    replace hl0 := hX0.lt
                    replace hX1 := hX1.keep hb
                    replace hc1 := fun j => hX1.cell j
                    replace hl1 := hX1.lt
                    clear hb
                    go_wp2_with fail
                    go_ret
                    exact ⟨rfl, hfr⟩
                  · have hyl : (yearsOf e cs num den add l y (z - y + 1).toNat).length ≤ 100000 := Nat.le_trans (yearsOf_len e num den add y cs l _) (by omega)
                    have hyr : ∀ x ∈ yearsOf e cs num den add l y (z - y + 1).toNat, 0 ≤ x ∧ x ≤ 4000 := fun x hx => by have := yearsOf_mem hx; omega
                    obtain ⟨ys, gys⟩ : ∃ ys, yearsOf e cs num den add l y (z - y + 1).toNat = ys := ⟨_, rfl⟩
                    rw [gys] at hyl hyr
                    have HYS := Lib.hid gys
                    clear gys
                    by_cases h0 : ys.length = 0
                    · have H0 := Lib.hid h0
                      clear h0
                      go_enter Tryz.func9, Tryz.ntmps9
                      go_wp2_with fail
                      have hfr := g1
                      replace hr := hr.keep g1
                      replace hL := hL.keep g1
                      replace hQ := hQ.keep g1
                      replace hT := hT.keep g1
                      have hc0 := fun j => hX0.cell j
                      have hc1 := fun j => hX1.cell j
                      have hl0 := hX0.lt
                      have hl1 := hX1.lt
                      refine (lshort_is A n c _ _ true hs).mono ?_
                      rintro e' w1 ⟨rfl, hb⟩
                      replace hr := hr.keep hb
                      replace hL := hL.keep hb
                      replace hQ := hQ.keep hb
                      replace hT := hT.keep hb
                      replace hfr := fr_call hfr hb
                      replace hX0 := hX0.keep hb
                      replace hc0 := fun j => hX0.cell j
                      replace hl0 := hX0.lt
                      replace hX1 := hX1.keep hb
                      replace hc1 := fun j => hX1.cell j
                      replace hl1 := hX1.lt
                      clear hb
                      go_wp2_with fail
                      refine (lsome_is L l.length lc _ true hso).mono ?_
                      rintro e' w2 ⟨rfl, rfl⟩
                      go_wp2_with fail
                      refine (lsome_is Q q.length qc _ true hsq).mono ?_
                      rintro e' w3 ⟨rfl, rfl⟩
                      go_wp2_with fail
                      refine (rRange_is y z _ _ hg).mono ?_
                      rintro e' w4 ⟨rfl, rfl⟩
                      go_wp2_with fail
                      refine (Ask_rule A L Q n c lc qc cs e num den add y z l q _ hr hn hL hln hQ hqn hok hm hf hq hg (by rw [HYS.out]; exact H0.out)).mono ?_
                      rintro e' w5 ⟨rfl, hb⟩
                      replace hr := hr.keep hb
                      replace hL := hL.keep hb
                      replace hQ := hQ.keep hb
                      replace hT := hT.keep hb
                      replace hfr := fr_call hfr hb
                      replace hX0 := hX0.keep hb
                      replace hc0 := fun j => hX0.cell j
                      replace hl0 := hX0.lt
                      replace hX1 := hX1.keep hb
                      replace hc1 := fun j => hX1.cell j
                      replace hl1 := hX1.lt
                      clear hb
                      go_wp2_with fail
                      refine (rCalendar_is A n c cs e _ hr hn _ hok).mono ?_
                      rintro e' w6 ⟨rfl, hb⟩
                      replace hr := hr.keep hb
                      replace hL := hL.keep hb
                      replace hQ := hQ.keep hb
                      replace hT := hT.keep hb
                      replace hfr := fr_call hfr hb
                      replace hX0 := hX0.keep hb
                      replace hc0 := fun j => hX0.cell j
                      replace hl0 := hX0.lt
                      replace hX1 := hX1.keep hb
                      replace hc1 := fun j => hX1.cell j
                      replace hl1 := hX1.lt
                      clear hb
                      go_wp2_with fail
                      refine (rMoon_is _ _ _ _ _ hm).mono ?_
                      rintro e' w7 ⟨rfl, hb⟩
                      replace hr := hr.keep hb
                      replace hL := hL.keep hb
                      replace hQ := hQ.keep hb
                      replace hT := hT.keep hb
                      replace hfr := fr_call hfr hb
                      replace hX0 := hX0.keep hb
                      replace hc0 := fun j => hX0.cell j
                      replace hl0 := hX0.lt
                      replace hX1 := hX1.keep hb
                      replace hc1 := fun j => hX1.cell j
                      replace hl1 := hX1.lt
                      clear hb
                      go_wp2_with fail
                      refine (rFacts_is L lc l _ hL hln _ hf).mono ?_
                      rintro e' w8 ⟨rfl, hb⟩
                      replace hr := hr.keep hb
                      replace hL := hL.keep hb
                      replace hQ := hQ.keep hb
                      replace hT := hT.keep hb
                      replace hfr := fr_call hfr hb
                      replace hX0 := hX0.keep hb
                      replace hc0 := fun j => hX0.cell j
                      replace hl0 := hX0.lt
                      replace hX1 := hX1.keep hb
                      replace hc1 := fun j => hX1.cell j
                      replace hl1 := hX1.lt
                      clear hb
                      go_wp2_with fail
                      refine (rAsks_is Q qc q _ hQ hqn _ hq).mono ?_
                      rintro e' w9 ⟨rfl, hb⟩
                      replace hr := hr.keep hb
                      replace hL := hL.keep hb
                      replace hQ := hQ.keep hb
                      replace hT := hT.keep hb
                      replace hfr := fr_call hfr hb
                      replace hX0 := hX0.keep hb
                      replace hc0 := fun j => hX0.cell j
                      replace hl0 := hX0.lt
                      replace hX1 := hX1.keep hb
                      replace hc1 := fun j => hX1.cell j
                      replace hl1 := hX1.lt
                      clear hb
                      go_wp2_with fail
                      refine (rRange_is y z _ _ hg).mono ?_
                      rintro e' w10 ⟨rfl, rfl⟩
                      go_wp2_with fail
                      refine (rYears_any A L n c lc cs e num den add y z l _ hr hL hln hok hm hf hg).mono ?_
                      rw [HYS.out, H0.out]
                      rintro e' w11 ⟨AR, cR, rfl, hrR, hb⟩
                      replace hr := hr.keep hb
                      replace hL := hL.keep hb
                      replace hQ := hQ.keep hb
                      replace hT := hT.keep hb
                      replace hfr := fr_call hfr hb
                      replace hX0 := hX0.keep hb
                      replace hc0 := fun j => hX0.cell j
                      replace hl0 := hX0.lt
                      replace hX1 := hX1.keep hb
                      replace hc1 := fun j => hX1.cell j
                      replace hl1 := hX1.lt
                      clear hb
                      go_wp2_with fail
                      refine (known_is _ hT).mono ?_
                      rintro e' w12 ⟨rfl, hb⟩
                      replace hr := hr.keep hb
                      replace hL := hL.keep hb
                      replace hQ := hQ.keep hb
                      replace hT := hT.keep hb
                      replace hfr := fr_call hfr hb
                      replace hX0 := hX0.keep hb
                      replace hc0 := fun j => hX0.cell j
                      replace hl0 := hX0.lt
                      replace hX1 := hX1.keep hb
                      replace hc1 := fun j => hX1.cell j
                      replace hl1 := hX1.lt
                      clear hb
                      go_wp2_with fail
                      go_ret
                      exact ⟨rfl, hfr⟩
                    · by_cases h1 : ys.length = 1
                      · have H1 := Lib.hid h1
                        clear h1 h0
                        go_enter Tryz.func9, Tryz.ntmps9
                        go_wp2_with fail
                        have hfr := g1
                        replace hr := hr.keep g1
                        replace hL := hL.keep g1
                        replace hQ := hQ.keep g1
                        replace hT := hT.keep g1
                        have hc0 := fun j => hX0.cell j
                        have hc1 := fun j => hX1.cell j
                        have hl0 := hX0.lt
                        have hl1 := hX1.lt
                        refine (lshort_is A n c _ _ true hs).mono ?_
                        rintro e' w1 ⟨rfl, hb⟩
                        replace hr := hr.keep hb
                        replace hL := hL.keep hb
                        replace hQ := hQ.keep hb
                        replace hT := hT.keep hb
                        replace hfr := fr_call hfr hb
                        replace hX0 := hX0.keep hb
                        replace hc0 := fun j => hX0.cell j
                        replace hl0 := hX0.lt
                        replace hX1 := hX1.keep hb
                        replace hc1 := fun j => hX1.cell j
                        replace hl1 := hX1.lt
                        clear hb
                        go_wp2_with fail
                        refine (lsome_is L l.length lc _ true hso).mono ?_
                        rintro e' w2 ⟨rfl, rfl⟩
                        go_wp2_with fail
                        refine (lsome_is Q q.length qc _ true hsq).mono ?_
                        rintro e' w3 ⟨rfl, rfl⟩
                        go_wp2_with fail
                        refine (rRange_is y z _ _ hg).mono ?_
                        rintro e' w4 ⟨rfl, rfl⟩
                        go_wp2_with fail
                        refine (Ask_one A L Q n c lc qc cs e num den add y z l q _ hr hn hL hln hQ hqn hok hm hf hq hg (by rw [HYS.out]; exact H1.out)).mono ?_
                        rintro e' w5 ⟨rfl, hb⟩
                        replace hr := hr.keep hb
                        replace hL := hL.keep hb
                        replace hQ := hQ.keep hb
                        replace hT := hT.keep hb
                        replace hfr := fr_call hfr hb
                        replace hX0 := hX0.keep hb
                        replace hc0 := fun j => hX0.cell j
                        replace hl0 := hX0.lt
                        replace hX1 := hX1.keep hb
                        replace hc1 := fun j => hX1.cell j
                        replace hl1 := hX1.lt
                        clear hb
                        go_wp2_with fail
                        refine (rCalendar_is A n c cs e _ hr hn _ hok).mono ?_
                        rintro e' w6 ⟨rfl, hb⟩
                        replace hr := hr.keep hb
                        replace hL := hL.keep hb
                        replace hQ := hQ.keep hb
                        replace hT := hT.keep hb
                        replace hfr := fr_call hfr hb
                        replace hX0 := hX0.keep hb
                        replace hc0 := fun j => hX0.cell j
                        replace hl0 := hX0.lt
                        replace hX1 := hX1.keep hb
                        replace hc1 := fun j => hX1.cell j
                        replace hl1 := hX1.lt
                        clear hb
                        go_wp2_with fail
                        refine (rMoon_is _ _ _ _ _ hm).mono ?_
                        rintro e' w7 ⟨rfl, hb⟩
                        replace hr := hr.keep hb
                        replace hL := hL.keep hb
                        replace hQ := hQ.keep hb
                        replace hT := hT.keep hb
                        replace hfr := fr_call hfr hb
                        replace hX0 := hX0.keep hb
                        replace hc0 := fun j => hX0.cell j
                        replace hl0 := hX0.lt
                        replace hX1 := hX1.keep hb
                        replace hc1 := fun j => hX1.cell j
                        replace hl1 := hX1.lt
                        clear hb
                        go_wp2_with fail
                        refine (rFacts_is L lc l _ hL hln _ hf).mono ?_
                        rintro e' w8 ⟨rfl, hb⟩
                        replace hr := hr.keep hb
                        replace hL := hL.keep hb
                        replace hQ := hQ.keep hb
                        replace hT := hT.keep hb
                        replace hfr := fr_call hfr hb
                        replace hX0 := hX0.keep hb
                        replace hc0 := fun j => hX0.cell j
                        replace hl0 := hX0.lt
                        replace hX1 := hX1.keep hb
                        replace hc1 := fun j => hX1.cell j
                        replace hl1 := hX1.lt
                        clear hb
                        go_wp2_with fail
                        refine (rAsks_is Q qc q _ hQ hqn _ hq).mono ?_
                        rintro e' w9 ⟨rfl, hb⟩
                        replace hr := hr.keep hb
                        replace hL := hL.keep hb
                        replace hQ := hQ.keep hb
                        replace hT := hT.keep hb
                        replace hfr := fr_call hfr hb
                        replace hX0 := hX0.keep hb
                        replace hc0 := fun j => hX0.cell j
                        replace hl0 := hX0.lt
                        replace hX1 := hX1.keep hb
                        replace hc1 := fun j => hX1.cell j
                        replace hl1 := hX1.lt
                        clear hb
                        go_wp2_with fail
                        refine (rRange_is y z _ _ hg).mono ?_
                        rintro e' w10 ⟨rfl, rfl⟩
                        go_wp2_with fail
                        refine (rYears_any A L n c lc cs e num den add y z l _ hr hL hln hok hm hf hg).mono ?_
                        rw [HYS.out, H1.out]
                        rintro e' w11 ⟨AR, cR, rfl, hrR, hb⟩
                        replace hr := hr.keep hb
                        replace hL := hL.keep hb
                        replace hQ := hQ.keep hb
                        replace hT := hT.keep hb
                        replace hfr := fr_call hfr hb
                        replace hX0 := hX0.keep hb
                        replace hc0 := fun j => hX0.cell j
                        replace hl0 := hX0.lt
                        replace hX1 := hX1.keep hb
                        replace hc1 := fun j => hX1.cell j
                        replace hl1 := hX1.lt
                        clear hb
                        go_wp2_with fail
                        refine (known_is _ hT).mono ?_
                        rintro e' w12 ⟨rfl, hb⟩
                        replace hr := hr.keep hb
                        replace hL := hL.keep hb
                        replace hQ := hQ.keep hb
                        replace hT := hT.keep hb
                        replace hfr := fr_call hfr hb
                        replace hX0 := hX0.keep hb
                        replace hc0 := fun j => hX0.cell j
                        replace hl0 := hX0.lt
                        replace hX1 := hX1.keep hb
                        replace hc1 := fun j => hX1.cell j
                        replace hl1 := hX1.lt
                        clear hb
                        go_wp2_with fail
                        go_ret
                        exact ⟨rfl, hfr⟩
                      · have h2 : 2 ≤ ys.length := by omega
                        have hl0 : ((ys.length : Int) == 0) = false := beq_eq_false_iff_ne.2 (by omega)
                        have hl1 : ((ys.length : Int) == 1) = false := beq_eq_false_iff_ne.2 (by omega)
                        clear h0 h1
                        obtain ⟨bn, gbn⟩ : ∃ bn, bestN (fun i => leftOf e cs num den add ys (q[i]?.getD ⟨0, 0, 0, 0⟩)) q.length = bn := ⟨_, rfl⟩
                        have HBN := Lib.hid gbn
                        clear gbn
                        go_enter Tryz.func9, Tryz.ntmps9
                        go_wp2_with fail
                        have hfr := g1
                        replace hr := hr.keep g1
                        replace hL := hL.keep g1
                        replace hQ := hQ.keep g1
                        replace hT := hT.keep g1
                        have hc0 := fun j => hX0.cell j
                        have hc1 := fun j => hX1.cell j
                        have hl0 := hX0.lt
                        have hl1 := hX1.lt
                        refine (lshort_is A n c _ _ true hs).mono ?_
                        rintro e' w1 ⟨rfl, hb⟩
                        replace hr := hr.keep hb
                        replace hL := hL.keep hb
                        replace hQ := hQ.keep hb
                        replace hT := hT.keep hb
                        replace hfr := fr_call hfr hb
                        replace hX0 := hX0.keep hb
                        replace hc0 := fun j => hX0.cell j
                        replace hl0 := hX0.lt
                        replace hX1 := hX1.keep hb
                        replace hc1 := fun j => hX1.cell j
                        replace hl1 := hX1.lt
                        clear hb
                        go_wp2_with fail
                        refine (lsome_is L l.length lc _ true hso).mono ?_
                        rintro e' w2 ⟨rfl, rfl⟩
                        go_wp2_with fail
                        refine (lsome_is Q q.length qc _ true hsq).mono ?_
                        rintro e' w3 ⟨rfl, rfl⟩
                        go_wp2_with fail
                        refine (rRange_is y z _ _ hg).mono ?_
                        rintro e' w4 ⟨rfl, rfl⟩
                        go_wp2_with fail
                        refine (Ask_ok A L Q n c lc qc cs e num den add y z l q _ hr hn hL hln hQ hqn hok hm hf hq hg (by rw [HYS.out]; exact h2)).mono ?_
                        rw [HYS.out, HBN.out]
                        rintro e' w5 ⟨rfl, hb⟩
                        replace hr := hr.keep hb
                        replace hL := hL.keep hb
                        replace hQ := hQ.keep hb
                        replace hT := hT.keep hb
                        replace hfr := fr_call hfr hb
                        replace hX0 := hX0.keep hb
                        replace hc0 := fun j => hX0.cell j
                        replace hl0 := hX0.lt
                        replace hX1 := hX1.keep hb
                        replace hc1 := fun j => hX1.cell j
                        replace hl1 := hX1.lt
                        clear hb
                        go_wp2_with fail
                        refine (rCalendar_is A n c cs e _ hr hn _ hok).mono ?_
                        rintro e' w6 ⟨rfl, hb⟩
                        replace hr := hr.keep hb
                        replace hL := hL.keep hb
                        replace hQ := hQ.keep hb
                        replace hT := hT.keep hb
                        replace hfr := fr_call hfr hb
                        replace hX0 := hX0.keep hb
                        replace hc0 := fun j => hX0.cell j
                        replace hl0 := hX0.lt
                        replace hX1 := hX1.keep hb
                        replace hc1 := fun j => hX1.cell j
                        replace hl1 := hX1.lt
                        clear hb
                        go_wp2_with fail
                        refine (rMoon_is _ _ _ _ _ hm).mono ?_
                        rintro e' w7 ⟨rfl, hb⟩
                        replace hr := hr.keep hb
                        replace hL := hL.keep hb
                        replace hQ := hQ.keep hb
                        replace hT := hT.keep hb
                        replace hfr := fr_call hfr hb
                        replace hX0 := hX0.keep hb
                        replace hc0 := fun j => hX0.cell j
                        replace hl0 := hX0.lt
                        replace hX1 := hX1.keep hb
                        replace hc1 := fun j => hX1.cell j
                        replace hl1 := hX1.lt
                        clear hb
                        go_wp2_with fail
                        refine (rFacts_is L lc l _ hL hln _ hf).mono ?_
                        rintro e' w8 ⟨rfl, hb⟩
                        replace hr := hr.keep hb
                        replace hL := hL.keep hb
                        replace hQ := hQ.keep hb
                        replace hT := hT.keep hb
                        replace hfr := fr_call hfr hb
                        replace hX0 := hX0.keep hb
                        replace hc0 := fun j => hX0.cell j
                        replace hl0 := hX0.lt
                        replace hX1 := hX1.keep hb
                        replace hc1 := fun j => hX1.cell j
                        replace hl1 := hX1.lt
                        clear hb
                        go_wp2_with fail
                        refine (rAsks_is Q qc q _ hQ hqn _ hq).mono ?_
                        rintro e' w9 ⟨rfl, hb⟩
                        replace hr := hr.keep hb
                        replace hL := hL.keep hb
                        replace hQ := hQ.keep hb
                        replace hT := hT.keep hb
                        replace hfr := fr_call hfr hb
                        replace hX0 := hX0.keep hb
                        replace hc0 := fun j => hX0.cell j
                        replace hl0 := hX0.lt
                        replace hX1 := hX1.keep hb
                        replace hc1 := fun j => hX1.cell j
                        replace hl1 := hX1.lt
                        clear hb
                        go_wp2_with fail
                        refine (rRange_is y z _ _ hg).mono ?_
                        rintro e' w10 ⟨rfl, rfl⟩
                        go_wp2_with fail
                        refine (rYears_any A L n c lc cs e num den add y z l _ hr hL hln hok hm hf hg).mono ?_
                        rw [HYS.out]
                        rintro e' w11 ⟨AR, cR, rfl, hrR, hb⟩
                        replace hr := hr.keep hb
                        replace hL := hL.keep hb
                        replace hQ := hQ.keep hb
                        replace hT := hT.keep hb
                        replace hfr := fr_call hfr hb
                        replace hX0 := hX0.keep hb
                        replace hc0 := fun j => hX0.cell j
                        replace hl0 := hX0.lt
                        replace hX1 := hX1.keep hb
                        replace hc1 := fun j => hX1.cell j
                        replace hl1 := hX1.lt
                        clear hb
                        go_wp2_with fail
                        refine (rAsk_any A AR Q n c ys.length cR qc cs ys e num den add q _ hr hok (moonB_ok hm) hQ hqn hq hrR hyl hyr).mono ?_
                        rw [HBN.out]
                        rintro e' w12 ⟨rfl, hb⟩
                        replace hr := hr.keep hb
                        replace hL := hL.keep hb
                        replace hQ := hQ.keep hb
                        replace hT := hT.keep hb
                        replace hrR := hrR.keep hb
                        replace hfr := fr_call hfr hb
                        replace hX0 := hX0.keep hb
                        replace hc0 := fun j => hX0.cell j
                        replace hl0 := hX0.lt
                        replace hX1 := hX1.keep hb
                        replace hc1 := fun j => hX1.cell j
                        replace hl1 := hX1.lt
                        clear hb
                        go_wp2_with fail
                        refine (known_is _ hT).mono ?_
                        rintro e' w13 ⟨rfl, hb⟩
                        replace hr := hr.keep hb
                        replace hL := hL.keep hb
                        replace hQ := hQ.keep hb
                        replace hT := hT.keep hb
                        replace hrR := hrR.keep hb
                        replace hfr := fr_call hfr hb
                        replace hX0 := hX0.keep hb
                        replace hc0 := fun j => hX0.cell j
                        replace hl0 := hX0.lt
                        replace hX1 := hX1.keep hb
                        replace hc1 := fun j => hX1.cell j
                        replace hl1 := hX1.lt
                        clear hb
                        go_wp2_with fail
                        go_ret
                        exact ⟨rfl, hfr⟩
end Go.Proofs.YtnpgdifidejohaaGreatDoor
