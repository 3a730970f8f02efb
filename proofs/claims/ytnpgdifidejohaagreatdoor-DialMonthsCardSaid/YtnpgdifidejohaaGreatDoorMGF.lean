/- The theorem of months: DialMonths, walked. -/
import Derived.Test.YtnpgdifidejohaaGreatDoorMEC
import Derived.Test.YtnpgdifidejohaaGreatDoorMD1
import Derived.Test.YtnpgdifidejohaaGreatDoorMB5
namespace Go.Proofs.YtnpgdifidejohaaGreatDoor
open Go.RowKit Dl

set_option maxRecDepth 100000 in
set_option maxHeartbeats 8000000 in
theorem months_true (num den add d : Int) (w : World) (hT : TabP w) :
    Calls Tryz.prog 12 #[.agg #[.int .i64 num, .int .i64 den, .int .i64 add], .int .i64 d] w fun e w' => e = .returned (.bool true) ∧ Below w.heap.size w w' := by
  have g1 := fr_alloc (fr_refl w) (.cells #[.int .i64 num, .int .i64 den, .int .i64 add] 65)
  have hX0 : Blk (w.alloc (.cells #[.int .i64 num, .int .i64 den, .int .i64 add] 65)) (w.heap.size) 65 #[.int .i64 num, .int .i64 den, .int .i64 add] := (Blk.new_at _ _ (by simp))
  cases hm : moonB num den add
  · go_enter Tryz.func12, Tryz.ntmps12
    go_wp2_with fail
    have hfr := g1
    replace hT := hT.keep g1
    have hc0 := fun j => hX0.cell j
    have hl0 := hX0.lt
    refine (rMoon_is _ _ _ _ _ hm).mono ?_
    rintro e' w1 ⟨rfl, hb⟩
    replace hT := hT.keep hb
    replace hfr := fr_call hfr hb
    replace hX0 := hX0.keep hb
    replace hc0 := fun j => hX0.cell j
    replace hl0 := hX0.lt
    clear hb
    go_wp2_with fail
    refine (known_is _ hT).mono ?_
    rintro e' w2 ⟨rfl, hb⟩
    replace hT := hT.keep hb
    replace hfr := fr_call hfr hb
    replace hX0 := hX0.keep hb
    replace hc0 := fun j => hX0.cell j
    replace hl0 := hX0.lt
    clear hb
    go_wp2_with fail
    go_ret
    exact ⟨rfl, hfr⟩
  · cases hd : inB d 0 2000000
    · go_enter Tryz.func12, Tryz.ntmps12
      go_wp2_with fail
      have hfr := g1
      replace hT := hT.keep g1
      have hc0 := fun j => hX0.cell j
      have hl0 := hX0.lt
      refine (rMoon_is _ _ _ _ _ hm).mono ?_
      rintro e' w1 ⟨rfl, hb⟩
      replace hT := hT.keep hb
      replace hfr := fr_call hfr hb
      replace hX0 := hX0.keep hb
      replace hc0 := fun j => hX0.cell j
      replace hl0 := hX0.lt
      clear hb
      go_wp2_with fail
      refine (rNumber_is _ _ _ hd).mono ?_
      rintro e' w2 ⟨rfl, rfl⟩
      go_wp2_with fail
      refine (known_is _ hT).mono ?_
      rintro e' w3 ⟨rfl, hb⟩
      replace hT := hT.keep hb
      replace hfr := fr_call hfr hb
      replace hX0 := hX0.keep hb
      replace hc0 := fun j => hX0.cell j
      replace hl0 := hX0.lt
      clear hb
      go_wp2_with fail
      go_ret
      exact ⟨rfl, hfr⟩
    · obtain ⟨hda, hdb⟩ := inB_iff.1 hd
      have hmk := moonB_ok hm
      have hnum : 0 ≤ num ∧ num ≤ 30000 := by have := hmk.d1; have := hmk.d2; have := hmk.n1; have := hmk.n2; omega
      obtain ⟨hnum1, hnum2⟩ := hnum
      cases hd1 : inB (d + 1) 0 2000000
      · go_enter Tryz.func12, Tryz.ntmps12
        go_wp2_with fail
        have hfr := g1
        replace hT := hT.keep g1
        have hc0 := fun j => hX0.cell j
        have hl0 := hX0.lt
        refine (rMoon_is _ _ _ _ _ hm).mono ?_
        rintro e' w1 ⟨rfl, hb⟩
        replace hT := hT.keep hb
        replace hfr := fr_call hfr hb
        replace hX0 := hX0.keep hb
        replace hc0 := fun j => hX0.cell j
        replace hl0 := hX0.lt
        clear hb
        go_wp2_with fail
        refine (rNumber_is _ _ _ hd).mono ?_
        rintro e' w2 ⟨rfl, rfl⟩
        go_wp2_with fail
        refine (rNumber_is _ _ _ hd1).mono ?_
        rintro e' w3 ⟨rfl, rfl⟩
        go_wp2_with fail
        refine (known_is _ hT).mono ?_
        rintro e' w4 ⟨rfl, hb⟩
        replace hT := hT.keep hb
        replace hfr := fr_call hfr hb
        replace hX0 := hX0.keep hb
        replace hc0 := fun j => hX0.cell j
        replace hl0 := hX0.lt
        clear hb
        go_wp2_with fail
        go_ret
        exact ⟨rfl, hfr⟩
      · have hrg := age_range hmk d
        have hnx := age_next hmk d
        have hpe := age_period hmk d
        obtain ⟨a, ga⟩ : ∃ q, ageOf num den add d = q := ⟨_, rfl⟩
        rw [ga] at hrg hnx hpe
        have HA := Lib.hid ga
        have HP := Lib.hid hpe
        obtain ⟨hrg1, hrg2⟩ := hrg
        clear ga hpe
        rcases hnx with hnx | ⟨hnx, h28⟩
        · have HB := Lib.hid hnx
          clear hnx
          cases hd2 : inB (d + num) 0 2000000
          · go_enter Tryz.func12, Tryz.ntmps12
            go_wp2_with fail
            have hfr := g1
            replace hT := hT.keep g1
            have hc0 := fun j => hX0.cell j
            have hl0 := hX0.lt
            refine (rMoon_is _ _ _ _ _ hm).mono ?_
            rintro e' w1 ⟨rfl, hb⟩
            replace hT := hT.keep hb
            replace hfr := fr_call hfr hb
            replace hX0 := hX0.keep hb
            replace hc0 := fun j => hX0.cell j
            replace hl0 := hX0.lt
            clear hb
            go_wp2_with fail
            refine (rNumber_is _ _ _ hd).mono ?_
            rintro e' w2 ⟨rfl, rfl⟩
            go_wp2_with fail
            refine (rNumber_is _ _ _ hd1).mono ?_
            rintro e' w3 ⟨rfl, rfl⟩
            go_wp2_with fail
            refine (Age_ok num den add d _ hm hd).mono ?_
            rw [HA.out]
            rintro e' w4 ⟨rfl, hb⟩
            replace hT := hT.keep hb
            replace hfr := fr_call hfr hb
            replace hX0 := hX0.keep hb
            replace hc0 := fun j => hX0.cell j
            replace hl0 := hX0.lt
            clear hb
            go_wp2_with fail
            refine (Age_ok num den add (d + 1) _ hm hd1).mono ?_
            rw [HB.out]
            rintro e' w5 ⟨rfl, hb⟩
            replace hT := hT.keep hb
            replace hfr := fr_call hfr hb
            replace hX0 := hX0.keep hb
            replace hc0 := fun j => hX0.cell j
            replace hl0 := hX0.lt
            clear hb
            go_wp2_with fail
            refine (rNumber_is _ _ _ hd2).mono ?_
            rintro e' w6 ⟨rfl, rfl⟩
            go_wp2_with fail
            refine (known_is _ hT).mono ?_
            rintro e' w7 ⟨rfl, hb⟩
            replace hT := hT.keep hb
            replace hfr := fr_call hfr hb
            replace hX0 := hX0.keep hb
            replace hc0 := fun j => hX0.cell j
            replace hl0 := hX0.lt
            clear hb
            go_wp2_with fail
            go_ret
            exact ⟨rfl, hfr⟩
          · go_enter Tryz.func12, Tryz.ntmps12
            go_wp2_with fail
            have hfr := g1
            replace hT := hT.keep g1
            have hc0 := fun j => hX0.cell j
            have hl0 := hX0.lt
            refine (rMoon_is _ _ _ _ _ hm).mono ?_
            rintro e' w1 ⟨rfl, hb⟩
            replace hT := hT.keep hb
            replace hfr := fr_call hfr hb
            replace hX0 := hX0.keep hb
            replace hc0 := fun j => hX0.cell j
            replace hl0 := hX0.lt
            clear hb
            go_wp2_with fail
            refine (rNumber_is _ _ _ hd).mono ?_
            rintro e' w2 ⟨rfl, rfl⟩
            go_wp2_with fail
            refine (rNumber_is _ _ _ hd1).mono ?_
            rintro e' w3 ⟨rfl, rfl⟩
            go_wp2_with fail
            refine (Age_ok num den add d _ hm hd).mono ?_
            rw [HA.out]
            rintro e' w4 ⟨rfl, hb⟩
            replace hT := hT.keep hb
            replace hfr := fr_call hfr hb
            replace hX0 := hX0.keep hb
            replace hc0 := fun j => hX0.cell j
            replace hl0 := hX0.lt
            clear hb
            go_wp2_with fail
            refine (Age_ok num den add (d + 1) _ hm hd1).mono ?_
            rw [HB.out]
            rintro e' w5 ⟨rfl, hb⟩
            replace hT := hT.keep hb
            replace hfr := fr_call hfr hb
            replace hX0 := hX0.keep hb
            replace hc0 := fun j => hX0.cell j
            replace hl0 := hX0.lt
            clear hb
            go_wp2_with fail
            refine (rNumber_is _ _ _ hd2).mono ?_
            rintro e' w6 ⟨rfl, rfl⟩
            go_wp2_with fail
            refine (Age_ok num den add (d + num) _ hm hd2).mono ?_
            rw [HP.out]
            rintro e' w7 ⟨rfl, hb⟩
            replace hT := hT.keep hb
            replace hfr := fr_call hfr hb
            replace hX0 := hX0.keep hb
            replace hc0 := fun j => hX0.cell j
            replace hl0 := hX0.lt
            clear hb
            go_wp2_with fail
            refine (known_is _ hT).mono ?_
            rintro e' w8 ⟨rfl, hb⟩
            replace hT := hT.keep hb
            replace hfr := fr_call hfr hb
            replace hX0 := hX0.keep hb
            replace hc0 := fun j => hX0.cell j
            replace hl0 := hX0.lt
            clear hb
            go_wp2_with fail
            go_ret
            exact ⟨rfl, hfr⟩
        · have HB := Lib.hid hnx
          clear hnx
          cases hd2 : inB (d + num) 0 2000000
          · go_enter Tryz.func12, Tryz.ntmps12
            go_wp2_with fail
            have hfr := g1
            replace hT := hT.keep g1
            have hc0 := fun j => hX0.cell j
            have hl0 := hX0.lt
            refine (rMoon_is _ _ _ _ _ hm).mono ?_
            rintro e' w1 ⟨rfl, hb⟩
            replace hT := hT.keep hb
            replace hfr := fr_call hfr hb
            replace hX0 := hX0.keep hb
            replace hc0 := fun j => hX0.cell j
            replace hl0 := hX0.lt
            clear hb
            go_wp2_with fail
            refine (rNumber_is _ _ _ hd).mono ?_
            rintro e' w2 ⟨rfl, rfl⟩
            go_wp2_with fail
            refine (rNumber_is _ _ _ hd1).mono ?_
            rintro e' w3 ⟨rfl, rfl⟩
            go_wp2_with fail
            refine (Age_ok num den add d _ hm hd).mono ?_
            rw [HA.out]
            rintro e' w4 ⟨rfl, hb⟩
            replace hT := hT.keep hb
            replace hfr := fr_call hfr hb
            replace hX0 := hX0.keep hb
            replace hc0 := fun j => hX0.cell j
            replace hl0 := hX0.lt
            clear hb
            go_wp2_with fail
            refine (Age_ok num den add (d + 1) _ hm hd1).mono ?_
            rw [HB.out]
            rintro e' w5 ⟨rfl, hb⟩
            replace hT := hT.keep hb
            replace hfr := fr_call hfr hb
            replace hX0 := hX0.keep hb
            replace hc0 := fun j => hX0.cell j
            replace hl0 := hX0.lt
            clear hb
            go_wp2_with fail
            refine (rNumber_is _ _ _ hd2).mono ?_
            rintro e' w6 ⟨rfl, rfl⟩
            go_wp2_with fail
            refine (known_is _ hT).mono ?_
            rintro e' w7 ⟨rfl, hb⟩
            replace hT := hT.keep hb
            replace hfr := fr_call hfr hb
            replace hX0 := hX0.keep hb
            replace hc0 := fun j => hX0.cell j
            replace hl0 := hX0.lt
            clear hb
            go_wp2_with fail
            go_ret
            exact ⟨rfl, hfr⟩
          · go_enter Tryz.func12, Tryz.ntmps12
            go_wp2_with fail
            have hfr := g1
            replace hT := hT.keep g1
            have hc0 := fun j => hX0.cell j
            have hl0 := hX0.lt
            refine (rMoon_is _ _ _ _ _ hm).mono ?_
            rintro e' w1 ⟨rfl, hb⟩
            replace hT := hT.keep hb
            replace hfr := fr_call hfr hb
            replace hX0 := hX0.keep hb
            replace hc0 := fun j => hX0.cell j
            replace hl0 := hX0.lt
            clear hb
            go_wp2_with fail
            refine (rNumber_is _ _ _ hd).mono ?_
            rintro e' w2 ⟨rfl, rfl⟩
            go_wp2_with fail
            refine (rNumber_is _ _ _ hd1).mono ?_
            rintro e' w3 ⟨rfl, rfl⟩
            go_wp2_with fail
            refine (Age_ok num den add d _ hm hd).mono ?_
            rw [HA.out]
            rintro e' w4 ⟨rfl, hb⟩
            replace hT := hT.keep hb
            replace hfr := fr_call hfr hb
            replace hX0 := hX0.keep hb
            replace hc0 := fun j => hX0.cell j
            replace hl0 := hX0.lt
            clear hb
            go_wp2_with fail
            refine (Age_ok num den add (d + 1) _ hm hd1).mono ?_
            rw [HB.out]
            rintro e' w5 ⟨rfl, hb⟩
            replace hT := hT.keep hb
            replace hfr := fr_call hfr hb
            replace hX0 := hX0.keep hb
            replace hc0 := fun j => hX0.cell j
            replace hl0 := hX0.lt
            clear hb
            go_wp2_with fail
            refine (rNumber_is _ _ _ hd2).mono ?_
            rintro e' w6 ⟨rfl, rfl⟩
            go_wp2_with fail
            refine (Age_ok num den add (d + num) _ hm hd2).mono ?_
            rw [HP.out]
            rintro e' w7 ⟨rfl, hb⟩
            replace hT := hT.keep hb
            replace hfr := fr_call hfr hb
            replace hX0 := hX0.keep hb
            replace hc0 := fun j => hX0.cell j
            replace hl0 := hX0.lt
            clear hb
            go_wp2_with fail
            refine (known_is _ hT).mono ?_
            rintro e' w8 ⟨rfl, hb⟩
            replace hT := hT.keep hb
            replace hfr := fr_call hfr hb
            replace hX0 := hX0.keep hb
            replace hc0 := fun j => hX0.cell j
            replace hl0 := hX0.lt
            clear hb
            go_wp2_with fail
            go_ret
            exact ⟨rfl, hfr⟩
end Go.Proofs.YtnpgdifidejohaaGreatDoor
