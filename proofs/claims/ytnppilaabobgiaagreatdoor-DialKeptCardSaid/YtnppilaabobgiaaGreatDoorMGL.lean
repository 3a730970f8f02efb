/- The law of kept dials: DialKept, walked. -/
import Derived.Test.YtnppilaabobgiaaGreatDoorMEC
import Derived.Test.YtnppilaabobgiaaGreatDoorMGE
import Derived.Test.YtnppilaabobgiaaGreatDoorMEL
import Derived.Test.YtnppilaabobgiaaGreatDoorMD1
import Derived.Test.YtnppilaabobgiaaGreatDoorMC2
import Derived.Test.YtnppilaabobgiaaGreatDoorMC7
namespace Go.Proofs.YtnppilaabobgiaaGreatDoor
open Go.RowKit Dl

theorem lrd_one {w : World} {g : Nat} {x : Int} (h : Blk w g 3 #[.int .i64 x]) : Rd w (some ⟨g, 0, none⟩) 1 [x] := rd_of_blk (xs := [x]) h

set_option maxRecDepth 100000 in
set_option maxHeartbeats 8000000 in
theorem kept_true (A1 A2 : Option Addr) (n1 k1 n2 k2 : Nat) (c1 c2 : List Int) (e1 e2 last kind comes fr tl : Int) (w : World) (hr1 : Rd w A1 n1 c1) (hn1 : n1 ≤ 9223372036854775807) (hr2 : Rd w A2 n2 c2) (hn2 : n2 ≤ 9223372036854775807) (hT : TabP w) :
    Calls Tryz.prog 3 #[.agg #[.int .i64 e1, .slice A1 n1 k1, .int .i64 e2, .slice A2 n2 k2, .int .i64 last], .int .i64 kind, .int .i64 comes, .int .i64 fr, .int .i64 tl] w fun e' w' => e' = .returned (.bool true) ∧ Below w.heap.size w w' := by
  have g1 := fr_alloc (fr_refl w) (.cells #[.int .i64 e1, .slice A1 n1 k1, .int .i64 e2, .slice A2 n2 k2, .int .i64 last] 26)
  have hX0 : Blk (w.alloc (.cells #[.int .i64 e1, .slice A1 n1 k1, .int .i64 e2, .slice A2 n2 k2, .int .i64 last] 26)) (w.heap.size) 26 #[.int .i64 e1, .slice A1 n1 k1, .int .i64 e2, .slice A2 n2 k2, .int .i64 last] := (Blk.new_at _ _ (by simp))
  cases hs : (decide ((n1 : Int) ≤ 5) && decide ((n2 : Int) ≤ 5))
  · go_enter Tryz.func3, Tryz.ntmps3
    go_wp2_with fail
    have hfr := g1
    replace hr1 := hr1.keep g1
    replace hr2 := hr2.keep g1
    replace hT := hT.keep g1
    have hc0 := fun j => hX0.cell j
    have hl0 := hX0.lt
    refine (ltidy_is A1 A2 n1 k1 n2 k2 _ _ _ _ false hs).mono ?_
    rintro e' w1 ⟨rfl, hb⟩
    replace hr1 := hr1.keep hb
    replace hr2 := hr2.keep hb
    replace hT := hT.keep hb
    replace hfr := fr_call hfr hb
    replace hX0 := hX0.keep hb
    replace hc0 := fun j => hX0.cell j
    replace hl0 := hX0.lt
    clear hb
    go_wp2_with fail
    refine (known_is _ hT).mono ?_
    rintro e' w2 ⟨rfl, hb⟩
    replace hr1 := hr1.keep hb
    replace hr2 := hr2.keep hb
    replace hT := hT.keep hb
    replace hfr := fr_call hfr hb
    replace hX0 := hX0.keep hb
    replace hc0 := fun j => hX0.cell j
    replace hl0 := hX0.lt
    clear hb
    go_wp2_with fail
    go_ret
    exact ⟨rfl, hfr⟩
  · cases hok : realmOk e1 c1 e2 c2 last
    · go_enter Tryz.func3, Tryz.ntmps3
      go_wp2_with fail
      have hfr := g1
      replace hr1 := hr1.keep g1
      replace hr2 := hr2.keep g1
      replace hT := hT.keep g1
      have hc0 := fun j => hX0.cell j
      have hl0 := hX0.lt
      refine (ltidy_is A1 A2 n1 k1 n2 k2 _ _ _ _ true hs).mono ?_
      rintro e' w1 ⟨rfl, hb⟩
      replace hr1 := hr1.keep hb
      replace hr2 := hr2.keep hb
      replace hT := hT.keep hb
      replace hfr := fr_call hfr hb
      replace hX0 := hX0.keep hb
      replace hc0 := fun j => hX0.cell j
      replace hl0 := hX0.lt
      clear hb
      go_wp2_with fail
      refine (rRealm_is A1 A2 n1 k1 n2 k2 c1 c2 e1 e2 last _ hr1 hr2 hn1 hn2 _ hok).mono ?_
      rintro e' w2 ⟨rfl, hb⟩
      replace hr1 := hr1.keep hb
      replace hr2 := hr2.keep hb
      replace hT := hT.keep hb
      replace hfr := fr_call hfr hb
      replace hX0 := hX0.keep hb
      replace hc0 := fun j => hX0.cell j
      replace hl0 := hX0.lt
      clear hb
      go_wp2_with fail
      refine (known_is _ hT).mono ?_
      rintro e' w3 ⟨rfl, hb⟩
      replace hr1 := hr1.keep hb
      replace hr2 := hr2.keep hb
      replace hT := hT.keep hb
      replace hfr := fr_call hfr hb
      replace hX0 := hX0.keep hb
      replace hc0 := fun j => hX0.cell j
      replace hl0 := hX0.lt
      clear hb
      go_wp2_with fail
      go_ret
      exact ⟨rfl, hfr⟩
    · cases hdk : inB kind 1 3
      · go_enter Tryz.func3, Tryz.ntmps3
        go_wp2_with fail
        have hfr := g1
        replace hr1 := hr1.keep g1
        replace hr2 := hr2.keep g1
        replace hT := hT.keep g1
        have hc0 := fun j => hX0.cell j
        have hl0 := hX0.lt
        refine (ltidy_is A1 A2 n1 k1 n2 k2 _ _ _ _ true hs).mono ?_
        rintro e' w1 ⟨rfl, hb⟩
        replace hr1 := hr1.keep hb
        replace hr2 := hr2.keep hb
        replace hT := hT.keep hb
        replace hfr := fr_call hfr hb
        replace hX0 := hX0.keep hb
        replace hc0 := fun j => hX0.cell j
        replace hl0 := hX0.lt
        clear hb
        go_wp2_with fail
        refine (rRealm_is A1 A2 n1 k1 n2 k2 c1 c2 e1 e2 last _ hr1 hr2 hn1 hn2 _ hok).mono ?_
        rintro e' w2 ⟨rfl, hb⟩
        replace hr1 := hr1.keep hb
        replace hr2 := hr2.keep hb
        replace hT := hT.keep hb
        replace hfr := fr_call hfr hb
        replace hX0 := hX0.keep hb
        replace hc0 := fun j => hX0.cell j
        replace hl0 := hX0.lt
        clear hb
        go_wp2_with fail
        refine (rDial_is _ _ _ hdk).mono ?_
        rintro e' w3 ⟨rfl, rfl⟩
        go_wp2_with fail
        refine (known_is _ hT).mono ?_
        rintro e' w4 ⟨rfl, hb⟩
        replace hr1 := hr1.keep hb
        replace hr2 := hr2.keep hb
        replace hT := hT.keep hb
        replace hfr := fr_call hfr hb
        replace hX0 := hX0.keep hb
        replace hc0 := fun j => hX0.cell j
        replace hl0 := hX0.lt
        clear hb
        go_wp2_with fail
        go_ret
        exact ⟨rfl, hfr⟩
      · cases hcm : inB comes (-1) 6
        · go_enter Tryz.func3, Tryz.ntmps3
          go_wp2_with fail
          have hfr := g1
          replace hr1 := hr1.keep g1
          replace hr2 := hr2.keep g1
          replace hT := hT.keep g1
          have hc0 := fun j => hX0.cell j
          have hl0 := hX0.lt
          refine (ltidy_is A1 A2 n1 k1 n2 k2 _ _ _ _ true hs).mono ?_
          rintro e' w1 ⟨rfl, hb⟩
          replace hr1 := hr1.keep hb
          replace hr2 := hr2.keep hb
          replace hT := hT.keep hb
          replace hfr := fr_call hfr hb
          replace hX0 := hX0.keep hb
          replace hc0 := fun j => hX0.cell j
          replace hl0 := hX0.lt
          clear hb
          go_wp2_with fail
          refine (rRealm_is A1 A2 n1 k1 n2 k2 c1 c2 e1 e2 last _ hr1 hr2 hn1 hn2 _ hok).mono ?_
          rintro e' w2 ⟨rfl, hb⟩
          replace hr1 := hr1.keep hb
          replace hr2 := hr2.keep hb
          replace hT := hT.keep hb
          replace hfr := fr_call hfr hb
          replace hX0 := hX0.keep hb
          replace hc0 := fun j => hX0.cell j
          replace hl0 := hX0.lt
          clear hb
          go_wp2_with fail
          refine (rDial_is _ _ _ hdk).mono ?_
          rintro e' w3 ⟨rfl, rfl⟩
          go_wp2_with fail
          refine (rComes_is _ _ _ hcm).mono ?_
          rintro e' w4 ⟨rfl, rfl⟩
          go_wp2_with fail
          refine (known_is _ hT).mono ?_
          rintro e' w5 ⟨rfl, hb⟩
          replace hr1 := hr1.keep hb
          replace hr2 := hr2.keep hb
          replace hT := hT.keep hb
          replace hfr := fr_call hfr hb
          replace hX0 := hX0.keep hb
          replace hc0 := fun j => hX0.cell j
          replace hl0 := hX0.lt
          clear hb
          go_wp2_with fail
          go_ret
          exact ⟨rfl, hfr⟩
        · by_cases hc0 : comes < 0
          · go_enter Tryz.func3, Tryz.ntmps3
            go_wp2_with fail
            have hfr := g1
            replace hr1 := hr1.keep g1
            replace hr2 := hr2.keep g1
            replace hT := hT.keep g1
            have hc0 := fun j => hX0.cell j
            have hl0 := hX0.lt
            refine (ltidy_is A1 A2 n1 k1 n2 k2 _ _ _ _ true hs).mono ?_
            rintro e' w1 ⟨rfl, hb⟩
            replace hr1 := hr1.keep hb
            replace hr2 := hr2.keep hb
            replace hT := hT.keep hb
            replace hfr := fr_call hfr hb
            replace hX0 := hX0.keep hb
            replace hc0 := fun j => hX0.cell j
            replace hl0 := hX0.lt
            clear hb
            go_wp2_with fail
            refine (rRealm_is A1 A2 n1 k1 n2 k2 c1 c2 e1 e2 last _ hr1 hr2 hn1 hn2 _ hok).mono ?_
            rintro e' w2 ⟨rfl, hb⟩
            replace hr1 := hr1.keep hb
            replace hr2 := hr2.keep hb
            replace hT := hT.keep hb
            replace hfr := fr_call hfr hb
            replace hX0 := hX0.keep hb
            replace hc0 := fun j => hX0.cell j
            replace hl0 := hX0.lt
            clear hb
            go_wp2_with fail
            refine (rDial_is _ _ _ hdk).mono ?_
            rintro e' w3 ⟨rfl, rfl⟩
            go_wp2_with fail
            refine (rComes_is _ _ _ hcm).mono ?_
            rintro e' w4 ⟨rfl, rfl⟩
            go_wp2_with fail
            refine (known_is _ hT).mono ?_
            rintro e' w5 ⟨rfl, hb⟩
            replace hr1 := hr1.keep hb
            replace hr2 := hr2.keep hb
            replace hT := hT.keep hb
            replace hfr := fr_call hfr hb
            replace hX0 := hX0.keep hb
            replace hc0 := fun j => hX0.cell j
            replace hl0 := hX0.lt
            clear hb
            go_wp2_with fail
            go_ret
            exact ⟨rfl, hfr⟩
          · cases hsp : spanB fr tl
            · go_enter Tryz.func3, Tryz.ntmps3
              go_wp2_with fail
              have hfr := g1
              replace hr1 := hr1.keep g1
              replace hr2 := hr2.keep g1
              replace hT := hT.keep g1
              have hc0 := fun j => hX0.cell j
              have hl0 := hX0.lt
              refine (ltidy_is A1 A2 n1 k1 n2 k2 _ _ _ _ true hs).mono ?_
              rintro e' w1 ⟨rfl, hb⟩
              replace hr1 := hr1.keep hb
              replace hr2 := hr2.keep hb
              replace hT := hT.keep hb
              replace hfr := fr_call hfr hb
              replace hX0 := hX0.keep hb
              replace hc0 := fun j => hX0.cell j
              replace hl0 := hX0.lt
              clear hb
              go_wp2_with fail
              refine (rRealm_is A1 A2 n1 k1 n2 k2 c1 c2 e1 e2 last _ hr1 hr2 hn1 hn2 _ hok).mono ?_
              rintro e' w2 ⟨rfl, hb⟩
              replace hr1 := hr1.keep hb
              replace hr2 := hr2.keep hb
              replace hT := hT.keep hb
              replace hfr := fr_call hfr hb
              replace hX0 := hX0.keep hb
              replace hc0 := fun j => hX0.cell j
              replace hl0 := hX0.lt
              clear hb
              go_wp2_with fail
              refine (rDial_is _ _ _ hdk).mono ?_
              rintro e' w3 ⟨rfl, rfl⟩
              go_wp2_with fail
              refine (rComes_is _ _ _ hcm).mono ?_
              rintro e' w4 ⟨rfl, rfl⟩
              go_wp2_with fail
              refine (rSpan_is _ _ _ _ hsp).mono ?_
              rintro e' w5 ⟨rfl, rfl⟩
              go_wp2_with fail
              refine (known_is _ hT).mono ?_
              rintro e' w6 ⟨rfl, hb⟩
              replace hr1 := hr1.keep hb
              replace hr2 := hr2.keep hb
              replace hT := hT.keep hb
              replace hfr := fr_call hfr hb
              replace hX0 := hX0.keep hb
              replace hc0 := fun j => hX0.cell j
              replace hl0 := hX0.lt
              clear hb
              go_wp2_with fail
              go_ret
              exact ⟨rfl, hfr⟩
            · have hx : ∃ x0, dialK kind = some x0 := by
                have := inB_iff.1 hdk
                have : kind = 1 ∨ kind = 2 ∨ kind = 3 := by omega
                rcases this with rfl | rfl | rfl <;> exact ⟨_, rfl⟩
              obtain ⟨x0, hx0⟩ := hx
              have hm1 : inB (-1) (-1) 6 = true := rfl
              have hsp' := hsp
              unfold spanB at hsp'
              rw [Bool.and_eq_true, Bool.and_eq_true] at hsp'
              have hsf := inB_iff.1 hsp'.1.1
              have hst := inB_iff.1 hsp'.1.2
              have hsd := inB_iff.1 hsp'.2
              clear hsp'
              by_cases hall : ∀ k : Nat, k < (tl - fr + 1).toNat → onOf e1 c1 e2 c2 last (fr + k) ≠ none
              · have hcmr := inB_iff.1 hcm
                have hon : ∀ k : Nat, k < (tl - fr).toNat + 1 → onOf e1 c1 e2 c2 last (fr + k) ≠ none := fun k hk => hall k (by omega)
                have eN : ∀ x c, keepW e1 c1 e2 c2 last x c fr tl = keepN (onOf e1 c1 e2 c2 last) x c fr ((tl - fr).toNat + 1) := fun x c => by
                  unfold keepW
                  rw [show (tl - fr + 1).toNat = (tl - fr).toNat + 1 by omega]
                have dA := keep_days hon x0 (-1) (tl - fr).toNat (by omega)
                have dB := keep_days hon x0 comes (tl - fr).toNat (by omega)
                have dT := keep_two hon x0 comes (tl - fr).toNat (by omega)
                rw [← eN] at dA dB dT
                rw [← eN] at dT
                obtain ⟨⟨xa, a, wa⟩, ga⟩ : ∃ s, keepW e1 c1 e2 c2 last x0 (-1) fr tl = s := ⟨_, rfl⟩
                obtain ⟨⟨xb, b, m⟩, gb⟩ : ∃ s, keepW e1 c1 e2 c2 last x0 comes fr tl = s := ⟨_, rfl⟩
                rw [ga] at dA dT
                rw [gb] at dB dT
                rw [show fr + (((tl - fr).toNat : Nat) : Int) = tl by omega] at dA dB
                dsimp only at dA dB dT
                obtain ⟨dA1, _, _, _, dA2⟩ := dA
                obtain rfl := (dA2 (by decide)).1
                obtain ⟨dB1, dB2, dB3, dB4, _⟩ := dB
                obtain ⟨dT1, dT2, dT3⟩ := dT
                have ha1 : decide (tl - fr < (a.length : Int)) = false := decide_eq_false (by have := dA1.2.2; omega)
                have hb1 : decide (tl - fr < (b.length : Int)) = false := decide_eq_false (by have := dB1.2.2; omega)
                have hm0 : decide (m < 0) = false := decide_eq_false (by omega)
                have hm2 : decide (tl - fr < m) = false := decide_eq_false (by omega)
                have hbl : b.length ≤ 1500 := by have := dB1.2.2; omega
                have Ga := Lib.hid ga
                have Gb := Lib.hid gb
                have HB := Lib.hid dB1
                have HW := Lib.hid (fun n hn => (dB2 n hn).resolve_left hc0)
                have HT3 := Lib.hid dT3
                have HT := Lib.hid (And.intro dT1 dT2)
                clear ga gb dA1 dA2 dB1 dB2 dT1 dT2 dT3 eN hon dB4 dB3
                go_enter Tryz.func3, Tryz.ntmps3
                go_wp2_with fail
                have hfr := g1
                replace hr1 := hr1.keep g1
                replace hr2 := hr2.keep g1
                replace hT := hT.keep g1
                have hc0 := fun j => hX0.cell j
                have hl0 := hX0.lt
                refine (ltidy_is A1 A2 n1 k1 n2 k2 _ _ _ _ true hs).mono ?_
                rintro e' w1 ⟨rfl, hb⟩
                replace hr1 := hr1.keep hb
                replace hr2 := hr2.keep hb
                replace hT := hT.keep hb
                replace hfr := fr_call hfr hb
                replace hX0 := hX0.keep hb
                replace hc0 := fun j => hX0.cell j
                replace hl0 := hX0.lt
                clear hb
                go_wp2_with fail
                refine (rRealm_is A1 A2 n1 k1 n2 k2 c1 c2 e1 e2 last _ hr1 hr2 hn1 hn2 _ hok).mono ?_
                rintro e' w2 ⟨rfl, hb⟩
                replace hr1 := hr1.keep hb
                replace hr2 := hr2.keep hb
                replace hT := hT.keep hb
                replace hfr := fr_call hfr hb
                replace hX0 := hX0.keep hb
                replace hc0 := fun j => hX0.cell j
                replace hl0 := hX0.lt
                clear hb
                go_wp2_with fail
                refine (rDial_is _ _ _ hdk).mono ?_
                rintro e' w3 ⟨rfl, rfl⟩
                go_wp2_with fail
                refine (rComes_is _ _ _ hcm).mono ?_
                rintro e' w4 ⟨rfl, rfl⟩
                go_wp2_with fail
                refine (rSpan_is _ _ _ _ hsp).mono ?_
                rintro e' w5 ⟨rfl, rfl⟩
                go_wp2_with fail
                refine (Keep_some A1 A2 n1 k1 n2 k2 c1 c2 e1 e2 last kind fr tl (-1) x0 _ hr1 hr2 hn1 hn2 hok hx0 hm1 hsp hall).mono ?_
                rw [Ga.out]
                dsimp only
                rintro e' w6 ⟨Aa, ca, rfl, hra, hb⟩
                replace hr1 := hr1.keep hb
                replace hr2 := hr2.keep hb
                replace hT := hT.keep hb
                replace hfr := fr_call hfr hb
                replace hX0 := hX0.keep hb
                replace hc0 := fun j => hX0.cell j
                replace hl0 := hX0.lt
                clear hb
                go_wp2_with fail
                refine (Keep_some A1 A2 n1 k1 n2 k2 c1 c2 e1 e2 last kind fr tl comes x0 _ hr1 hr2 hn1 hn2 hok hx0 hcm hsp hall).mono ?_
                rw [Gb.out]
                dsimp only
                rintro e' w7 ⟨Ab, cb, rfl, hrb, hb⟩
                replace hr1 := hr1.keep hb
                replace hr2 := hr2.keep hb
                replace hT := hT.keep hb
                replace hra := hra.keep hb
                replace hfr := fr_call hfr hb
                replace hX0 := hX0.keep hb
                replace hc0 := fun j => hX0.cell j
                replace hl0 := hX0.lt
                clear hb
                go_upto_region 9 with (fail)
                go_cut [11, 14, 15, 130] from 89 (fun s11 s14 s15 s wc => s11 = .slice Aa a.length ca ∧ s14 = .slice Ab b.length cb ∧ s15 = .int .i64 m ∧ s = .bool false ∧ w7 = wc)
                case first =>
                  by_cases hae : a = []
                  · obtain ⟨_, rfl, rfl⟩ := HT.out.1 hae
                    subst hae
                    have hd0 : decide (tl - fr < 0) = false := decide_eq_false (by omega)
                    go_wp2_with fail
                    go_meet
                    case rel => exact ⟨rfl, rfl, rfl, rfl, rfl⟩
                  · have ha0 : ((a.length : Int) == 0) = false := beq_eq_false_iff_ne.2 (fun h => hae (List.eq_nil_of_length_eq_zero (by omega)))
                    by_cases hbe : b = []
                    · have hmp : 0 < m := (HT.out.2 hae).resolve_left (fun h => h hbe)
                      have hm3 : (m == 0) = false := beq_eq_false_iff_ne.2 (by omega)
                      subst hbe
                      have hd0 : decide (tl - fr < 0) = false := decide_eq_false (by omega)
                      go_wp2_with fail
                      go_meet
                      case rel => exact ⟨rfl, rfl, rfl, rfl, rfl⟩
                    · have hb0 : ((b.length : Int) == 0) = false := beq_eq_false_iff_ne.2 (fun h => hbe (List.eq_nil_of_length_eq_zero (by omega)))
                      go_wp2_with fail
                      go_meet
                      case rel => exact ⟨rfl, rfl, rfl, rfl, rfl⟩
                case rest =>
                  obtain ⟨rfl, rfl, rfl, rfl, rfl⟩ := hcut
                  go_wp2_with fail
                  go_loopw [17] (fun i wx => ∃ j : Nat, j ≤ b.length ∧ i = .int .i64 j ∧ Below w7.heap.size w7 wx) (fun i _ => b.length - (intOf i).toNat)
                  case atStart => exact ⟨0, Nat.zero_le _, rfl, fr_refl w7⟩
                  case round =>
                    obtain ⟨j, hj, rfl, hbel⟩ := hrel
                    replace hr1 := hr1.keep hbel
                    replace hr2 := hr2.keep hbel
                    replace hT := hT.keep hbel
                    replace hra := hra.keep hbel
                    replace hrb := hrb.keep hbel
                    replace hfr := fr_call hfr hbel
                    replace hX0 := hX0.keep hbel
                    replace hc0 := fun j => hX0.cell j
                    replace hl0 := hX0.lt
                    by_cases hltj : j < b.length
                    · obtain ⟨ad, rfl, hab, hc⟩ := hrb.at_ hltj
                      have hmem : b[j]?.getD 0 ∈ b := by simp [hltj]
                      obtain ⟨a0, hg0, hle0⟩ := HT3.out _ hmem
                      have hal : 0 < a.length := (List.getElem?_eq_some_iff.1 hg0).1
                      obtain ⟨ad2, rfl, hab2, hd⟩ := hra.at_ hal
                      rw [hg0] at hd
                      simp only [Option.getD_some] at hd
                      have hz2 : ad2.add 0 = ad2 := by unfold Addr.add; simp
                      have hd' := hd
                      rw [hz2] at hd'
                      have hbw := HW.out _ hmem
                      have hbi := HB.out.1 _ hmem
                      obtain ⟨xj, gxj⟩ : ∃ q, b[j]?.getD 0 = q := ⟨_, rfl⟩
                      rw [gxj] at hc hbw hbi hle0
                      have hgj : b[j]? = some xj := by rw [← gxj]; simp [hltj]
                      have HWJ := Lib.hid hbw
                      have hji : (j : Int) < (b.length : Int) := by omega
                      have hj0 : (0 : Int) ≤ (j : Int) := Int.natCast_nonneg j
                      have hai : (0 : Int) < (a.length : Int) := by omega
                      have q1 : decide (xj ≤ fr) = false := decide_eq_false (by omega)
                      have q2 : decide (tl < xj) = false := decide_eq_false (by omega)
                      have q3 : decide (xj < a0) = false := decide_eq_false (by omega)
                      clear hbw gxj hmem
                      rcases j with _ | i
                      · clear hgj
                        have hcz := hc
                        rw [show ad.add 0 = ad by unfold Addr.add; simp] at hc
                        have hab0 : ad.block < wr.heap.size := hab
                        go_wp2_with fail
                        refine wp_region_noPanic ?_
                        refine wp_region_held_drew (S := fun W => (∀ p : Addr, p.block < (wr).heap.size → W.cell? p = (wr).cell? p) ∧ Below (wr).heap.size (wr) W) (by kernel_rfl) ⟨fun _ _ => rfl, fr_drew (fr_refl _)⟩ (fun hHeld => ?_)
                        -- the region, step by step
                        refine wpAnyH_take (i := 0) (oi := ⟨some 137, .move (.tmp 14), 22, "law.go:392", #[], none⟩) (v := ?_) rfl (by kernel_rfl) (by kernel_rfl) (by kernel_rfl) (fun _ _ _ h => h) (Or.inl ⟨by rfl, fun W hSw => ?_⟩) hHeld ?_
                        rotate_left
                        · (try dsimp only at hSw); go_simp; (try with_reducible rfl)
                        (try simp only [Act.put, List.setIfInBounds_toArray, List.set_cons_zero, List.set_cons_succ])
                        refine wpAnyH_take (i := 1) (oi := ⟨some 138, .move (.tmp 17), 3, "law.go:392", #[], none⟩) (v := ?_) rfl (by kernel_rfl) (by kernel_rfl) (by kernel_rfl) (fun _ _ _ h => h) (Or.inl ⟨by rfl, fun W hSw => ?_⟩) hHeld ?_
                        rotate_left
                        · (try dsimp only at hSw); go_simp; (try with_reducible rfl)
                        (try simp only [Act.put, List.setIfInBounds_toArray, List.set_cons_zero, List.set_cons_succ])
                        refine wpAnyH_take (i := 2) (oi := ⟨some 139, .indexAddr 22 (.tmp 137) (.tmp 138), 0, "law.go:392", #[⟨0, .data⟩, ⟨1, .data⟩], none⟩) (v := ?_) rfl (by kernel_rfl) (by kernel_rfl) (by kernel_rfl) (fun _ _ _ h => h) (Or.inl ⟨by rfl, fun W hSw => ?_⟩) hHeld ?_
                        rotate_left
                        · (try dsimp only at hSw); go_simp; (try with_reducible rfl)
                        (try simp only [Act.put, List.setIfInBounds_toArray, List.set_cons_zero, List.set_cons_succ])
                        refine wpAnyH_take (i := 3) (oi := ⟨some 140, .load 3 (.tmp 139), 3, "law.go:392", #[⟨2, .data⟩], none⟩) (v := ?_) rfl (by kernel_rfl) (by kernel_rfl) (by kernel_rfl) (fun _ _ _ h => h) (Or.inl ⟨by rfl, fun W hSw => ?_⟩) hHeld ?_
                        rotate_left
                        · (try dsimp only at hSw); go_simp; (try with_reducible rfl)
                        (try simp only [Act.put, List.setIfInBounds_toArray, List.set_cons_zero, List.set_cons_succ])
                        refine wpAnyH_take (i := 4) (oi := ⟨some 141, .move (.tmp 3), 3, "law.go:392", #[], none⟩) (v := ?_) rfl (by kernel_rfl) (by kernel_rfl) (by kernel_rfl) (fun _ _ _ h => h) (Or.inl ⟨by rfl, fun W hSw => ?_⟩) hHeld ?_
                        rotate_left
                        · (try dsimp only at hSw); go_simp; (try with_reducible rfl)
                        (try simp only [Act.put, List.setIfInBounds_toArray, List.set_cons_zero, List.set_cons_succ])
                        refine wpAnyH_take (i := 5) (oi := ⟨some 142, .binOp .leq 3 (.tmp 140) (.tmp 141) 3, 4, "law.go:392", #[⟨3, .data⟩, ⟨4, .data⟩], none⟩) (v := ?_) rfl (by kernel_rfl) (by kernel_rfl) (by kernel_rfl) (fun _ _ _ h => h) (Or.inl ⟨by rfl, fun W hSw => ?_⟩) hHeld ?_
                        rotate_left
                        · (try dsimp only at hSw); go_simp; (try with_reducible rfl)
                        (try simp only [Act.put, List.setIfInBounds_toArray, List.set_cons_zero, List.set_cons_succ])
                        refine wpAnyH_take (i := 6) (oi := ⟨some 143, .move (.tmp 142), 4, "law.go:392", #[⟨5, .data⟩], none⟩) (v := ?_) rfl (by kernel_rfl) (by kernel_rfl) (by kernel_rfl) (fun _ _ _ h => h) (Or.inl ⟨by rfl, fun W hSw => ?_⟩) hHeld ?_
                        rotate_left
                        · (try dsimp only at hSw); go_simp; (try with_reducible rfl)
                        (try simp only [Act.put, List.setIfInBounds_toArray, List.set_cons_zero, List.set_cons_succ])
                        refine wpAnyH_take (i := 7) (oi := ⟨some 144, .move (.tmp 14), 22, "law.go:392", #[⟨6, .guard⟩], some (6, false)⟩) (v := ?_) rfl (by kernel_rfl) (by kernel_rfl) (by kernel_rfl) (fun _ _ _ h => h) (Or.inl ⟨by rfl, fun W hSw => ?_⟩) hHeld ?_
                        rotate_left
                        · (try dsimp only at hSw); go_simp; (try with_reducible rfl)
                        (try simp only [Act.put, List.setIfInBounds_toArray, List.set_cons_zero, List.set_cons_succ])
                        refine wpAnyH_take (i := 8) (oi := ⟨some 145, .move (.tmp 17), 3, "law.go:392", #[⟨6, .guard⟩], some (6, false)⟩) (v := ?_) rfl (by kernel_rfl) (by kernel_rfl) (by kernel_rfl) (fun _ _ _ h => h) (Or.inl ⟨by rfl, fun W hSw => ?_⟩) hHeld ?_
                        rotate_left
                        · (try dsimp only at hSw); go_simp; (try with_reducible rfl)
                        (try simp only [Act.put, List.setIfInBounds_toArray, List.set_cons_zero, List.set_cons_succ])
                        refine wpAnyH_take (i := 9) (oi := ⟨some 146, .indexAddr 22 (.tmp 144) (.tmp 145), 0, "law.go:392", #[⟨7, .data⟩, ⟨8, .data⟩, ⟨6, .guard⟩], some (6, false)⟩) (v := ?_) rfl (by kernel_rfl) (by kernel_rfl) (by kernel_rfl) (fun _ _ _ h => h) (Or.inl ⟨by rfl, fun W hSw => ?_⟩) hHeld ?_
                        rotate_left
                        · (try dsimp only at hSw); go_simp; (try with_reducible rfl)
                        (try simp only [Act.put, List.setIfInBounds_toArray, List.set_cons_zero, List.set_cons_succ])
                        refine wpAnyH_take (i := 10) (oi := ⟨some 147, .load 3 (.tmp 146), 3, "law.go:392", #[⟨9, .data⟩, ⟨6, .guard⟩], some (6, false)⟩) (v := ?_) rfl (by kernel_rfl) (by kernel_rfl) (by kernel_rfl) (fun _ _ _ h => h) (Or.inl ⟨by rfl, fun W hSw => ?_⟩) hHeld ?_
                        rotate_left
                        · (try dsimp only at hSw); go_simp; (try with_reducible rfl)
                        (try simp only [Act.put, List.setIfInBounds_toArray, List.set_cons_zero, List.set_cons_succ])
                        refine wpAnyH_take (i := 11) (oi := ⟨some 148, .move (.tmp 4), 3, "law.go:392", #[⟨6, .guard⟩], some (6, false)⟩) (v := ?_) rfl (by kernel_rfl) (by kernel_rfl) (by kernel_rfl) (fun _ _ _ h => h) (Or.inl ⟨by rfl, fun W hSw => ?_⟩) hHeld ?_
                        rotate_left
                        · (try dsimp only at hSw); go_simp; (try with_reducible rfl)
                        (try simp only [Act.put, List.setIfInBounds_toArray, List.set_cons_zero, List.set_cons_succ])
                        refine wpAnyH_take (i := 12) (oi := ⟨some 149, .binOp .gtr 3 (.tmp 147) (.tmp 148) 3, 4, "law.go:392", #[⟨10, .data⟩, ⟨11, .data⟩, ⟨6, .guard⟩], some (6, false)⟩) (v := ?_) rfl (by kernel_rfl) (by kernel_rfl) (by kernel_rfl) (fun _ _ _ h => h) (Or.inl ⟨by rfl, fun W hSw => ?_⟩) hHeld ?_
                        rotate_left
                        · (try dsimp only at hSw); go_simp; (try with_reducible rfl)
                        (try simp only [Act.put, List.setIfInBounds_toArray, List.set_cons_zero, List.set_cons_succ])
                        refine wpAnyH_take (i := 13) (oi := ⟨some 150, .pick (.tmp 143) (.const (.bool true)) (.tmp 149), 4, "law.go:392", #[⟨6, .data⟩, ⟨12, .data⟩], none⟩) (v := ?_) rfl (by kernel_rfl) (by kernel_rfl) (by kernel_rfl) (fun _ _ _ h => h) (Or.inl ⟨by rfl, fun W hSw => ?_⟩) hHeld ?_
                        rotate_left
                        · (try dsimp only at hSw); go_simp; (try with_reducible rfl)
                        (try simp only [Act.put, List.setIfInBounds_toArray, List.set_cons_zero, List.set_cons_succ])
                        refine wpAnyH_take (i := 14) (oi := ⟨some 151, .move (.tmp 150), 4, "law.go:392", #[⟨13, .data⟩, ⟨6, .chain⟩], none⟩) (v := ?_) rfl (by kernel_rfl) (by kernel_rfl) (by kernel_rfl) (fun _ _ _ h => h) (Or.inl ⟨by rfl, fun W hSw => ?_⟩) hHeld ?_
                        rotate_left
                        · (try dsimp only at hSw); go_simp; (try with_reducible rfl)
                        (try simp only [Act.put, List.setIfInBounds_toArray, List.set_cons_zero, List.set_cons_succ])
                        refine wpAnyH_take (i := 15) (oi := ⟨some 152, .move (.tmp 14), 22, "law.go:392", #[⟨14, .guard⟩], some (14, false)⟩) (v := ?_) rfl (by kernel_rfl) (by kernel_rfl) (by kernel_rfl) (fun _ _ _ h => h) (Or.inl ⟨by rfl, fun W hSw => ?_⟩) hHeld ?_
                        rotate_left
                        · (try dsimp only at hSw); go_simp; (try with_reducible rfl)
                        (try simp only [Act.put, List.setIfInBounds_toArray, List.set_cons_zero, List.set_cons_succ])
                        refine wpAnyH_take (i := 16) (oi := ⟨some 153, .move (.tmp 17), 3, "law.go:392", #[⟨14, .guard⟩], some (14, false)⟩) (v := ?_) rfl (by kernel_rfl) (by kernel_rfl) (by kernel_rfl) (fun _ _ _ h => h) (Or.inl ⟨by rfl, fun W hSw => ?_⟩) hHeld ?_
                        rotate_left
                        · (try dsimp only at hSw); go_simp; (try with_reducible rfl)
                        (try simp only [Act.put, List.setIfInBounds_toArray, List.set_cons_zero, List.set_cons_succ])
                        refine wpAnyH_take (i := 17) (oi := ⟨some 154, .indexAddr 22 (.tmp 152) (.tmp 153), 0, "law.go:392", #[⟨15, .data⟩, ⟨16, .data⟩, ⟨14, .guard⟩], some (14, false)⟩) (v := ?_) rfl (by kernel_rfl) (by kernel_rfl) (by kernel_rfl) (fun _ _ _ h => h) (Or.inl ⟨by rfl, fun W hSw => ?_⟩) hHeld ?_
                        rotate_left
                        · (try dsimp only at hSw); go_simp; (try with_reducible rfl)
                        (try simp only [Act.put, List.setIfInBounds_toArray, List.set_cons_zero, List.set_cons_succ])
                        refine wpAnyH_take (i := 18) (oi := ⟨some 155, .load 3 (.tmp 154), 3, "law.go:392", #[⟨17, .data⟩, ⟨14, .guard⟩], some (14, false)⟩) (v := ?_) rfl (by kernel_rfl) (by kernel_rfl) (by kernel_rfl) (fun _ _ _ h => h) (Or.inl ⟨by rfl, fun W hSw => ?_⟩) hHeld ?_
                        rotate_left
                        · (try dsimp only at hSw); go_simp; (try with_reducible rfl)
                        (try simp only [Act.put, List.setIfInBounds_toArray, List.set_cons_zero, List.set_cons_succ])
                        refine wpAnyH_take (i := 20) (oi := ⟨some 157, .move (.tmp 2), 3, "law.go:392", #[⟨14, .guard⟩], some (14, false)⟩) (v := ?_) rfl (by kernel_rfl) (by kernel_rfl) (by kernel_rfl) (fun _ _ _ h => h) (Or.inl ⟨by rfl, fun W hSw => ?_⟩) hHeld ?_
                        rotate_left
                        · (try dsimp only at hSw); go_simp; (try with_reducible rfl)
                        (try simp only [Act.put, List.setIfInBounds_toArray, List.set_cons_zero, List.set_cons_succ])
                        refine wpAnyH_ready (rs := [19]) (by kernel_rfl) (by simp) ?_
                        refine AllReadyH.cons (o := ⟨some 156, .call { callee := .value (.func 20), args := #[.tmp 155], argTypes := #[3] }, 3, "law.go:392", #[⟨18, .data⟩, ⟨14, .chain⟩, ⟨14, .guard⟩], some (14, false)⟩) rfl (fun K hK => ?_) AllReadyH.nil
                        go_simp
                        refine (rWeekday_any xj _ (by omega) (by omega)).mono ?_
                        rw [HWJ.out]
                        rintro e' wA ⟨rfl, rfl⟩
                        refine hK.out _ _ (hHeld) (fun hHeld => ?_)
                        clear hK K
                        (try simp only [Act.put, List.setIfInBounds_toArray, List.set_cons_zero, List.set_cons_succ])
                        refine wpAnyH_take (i := 21) (oi := ⟨some 158, .binOp .neq 3 (.tmp 156) (.tmp 157) 3, 4, "law.go:392", #[⟨19, .data⟩, ⟨20, .data⟩, ⟨14, .guard⟩], some (14, false)⟩) (v := ?_) rfl (by kernel_rfl) (by kernel_rfl) (by kernel_rfl) (fun _ _ _ h => h) (Or.inl ⟨by rfl, fun W hSw => ?_⟩) hHeld ?_
                        rotate_left
                        · (try dsimp only at hSw); go_simp; (try with_reducible rfl)
                        (try simp only [Act.put, List.setIfInBounds_toArray, List.set_cons_zero, List.set_cons_succ])
                        refine wpAnyH_take (i := 22) (oi := ⟨some 159, .pick (.tmp 151) (.const (.bool true)) (.tmp 158), 4, "law.go:392", #[⟨14, .data⟩, ⟨21, .data⟩], none⟩) (v := ?_) rfl (by kernel_rfl) (by kernel_rfl) (by kernel_rfl) (fun _ _ _ h => h) (Or.inl ⟨by rfl, fun W hSw => ?_⟩) hHeld ?_
                        rotate_left
                        · (try dsimp only at hSw); go_simp; (try with_reducible rfl)
                        (try simp only [Act.put, List.setIfInBounds_toArray, List.set_cons_zero, List.set_cons_succ])
                        refine wpAnyH_take (i := 23) (oi := ⟨some 160, .move (.tmp 159), 4, "law.go:392", #[⟨22, .data⟩, ⟨19, .chain⟩], none⟩) (v := ?_) rfl (by kernel_rfl) (by kernel_rfl) (by kernel_rfl) (fun _ _ _ h => h) (Or.inl ⟨by rfl, fun W hSw => ?_⟩) hHeld ?_
                        rotate_left
                        · (try dsimp only at hSw); go_simp; (try with_reducible rfl)
                        (try simp only [Act.put, List.setIfInBounds_toArray, List.set_cons_zero, List.set_cons_succ])
                        refine wpAnyH_take (i := 24) (oi := ⟨some 161, .move (.tmp 17), 3, "law.go:392", #[⟨23, .guard⟩], some (23, false)⟩) (v := ?_) rfl (by kernel_rfl) (by kernel_rfl) (by kernel_rfl) (fun _ _ _ h => h) (Or.inl ⟨by rfl, fun W hSw => ?_⟩) hHeld ?_
                        rotate_left
                        · (try dsimp only at hSw); go_simp; (try with_reducible rfl)
                        (try simp only [Act.put, List.setIfInBounds_toArray, List.set_cons_zero, List.set_cons_succ])
                        refine wpAnyH_take (i := 25) (oi := ⟨some 162, .binOp .gtr 3 (.tmp 161) (.const (.int .i64 0)) 3, 4, "law.go:392", #[⟨24, .data⟩, ⟨23, .guard⟩], some (23, false)⟩) (v := ?_) rfl (by kernel_rfl) (by kernel_rfl) (by kernel_rfl) (fun _ _ _ h => h) (Or.inl ⟨by rfl, fun W hSw => ?_⟩) hHeld ?_
                        rotate_left
                        · (try dsimp only at hSw); go_simp; (try with_reducible rfl)
                        (try simp only [Act.put, List.setIfInBounds_toArray, List.set_cons_zero, List.set_cons_succ])
                        refine wpAnyH_take (i := 26) (oi := ⟨some 163, .move (.tmp 162), 4, "law.go:392", #[⟨25, .data⟩, ⟨23, .chain⟩, ⟨23, .guard⟩], some (23, false)⟩) (v := ?_) rfl (by kernel_rfl) (by kernel_rfl) (by kernel_rfl) (fun _ _ _ h => h) (Or.inl ⟨by rfl, fun W hSw => ?_⟩) hHeld ?_
                        rotate_left
                        · (try dsimp only at hSw); go_simp; (try with_reducible rfl)
                        (try simp only [Act.put, List.setIfInBounds_toArray, List.set_cons_zero, List.set_cons_succ])
                        refine wpAnyH_take (i := 27) (oi := ⟨some 164, .move (.tmp 14), 22, "law.go:392", #[⟨26, .guard⟩], some (26, true)⟩) (v := undef) rfl (by kernel_rfl) (by kernel_rfl) (by kernel_rfl) (fun _ _ _ h => h) (Or.inr ⟨by rfl, rfl⟩) hHeld ?_
                        (try simp only [Act.put, List.setIfInBounds_toArray, List.set_cons_zero, List.set_cons_succ])
                        refine wpAnyH_take (i := 28) (oi := ⟨some 165, .move (.tmp 17), 3, "law.go:392", #[⟨26, .guard⟩], some (26, true)⟩) (v := undef) rfl (by kernel_rfl) (by kernel_rfl) (by kernel_rfl) (fun _ _ _ h => h) (Or.inr ⟨by rfl, rfl⟩) hHeld ?_
                        (try simp only [Act.put, List.setIfInBounds_toArray, List.set_cons_zero, List.set_cons_succ])
                        refine wpAnyH_take (i := 29) (oi := ⟨some 166, .indexAddr 22 (.tmp 164) (.tmp 165), 0, "law.go:392", #[⟨27, .data⟩, ⟨28, .data⟩, ⟨26, .guard⟩], some (26, true)⟩) (v := undef) rfl (by kernel_rfl) (by kernel_rfl) (by kernel_rfl) (fun _ _ _ h => h) (Or.inr ⟨by rfl, rfl⟩) hHeld ?_
                        (try simp only [Act.put, List.setIfInBounds_toArray, List.set_cons_zero, List.set_cons_succ])
                        refine wpAnyH_take (i := 30) (oi := ⟨some 167, .load 3 (.tmp 166), 3, "law.go:392", #[⟨29, .data⟩, ⟨26, .guard⟩], some (26, true)⟩) (v := undef) rfl (by kernel_rfl) (by kernel_rfl) (by kernel_rfl) (fun _ _ _ h => h) (Or.inr ⟨by rfl, rfl⟩) hHeld ?_
                        (try simp only [Act.put, List.setIfInBounds_toArray, List.set_cons_zero, List.set_cons_succ])
                        refine wpAnyH_take (i := 31) (oi := ⟨some 168, .move (.tmp 14), 22, "law.go:392", #[⟨26, .guard⟩], some (26, true)⟩) (v := undef) rfl (by kernel_rfl) (by kernel_rfl) (by kernel_rfl) (fun _ _ _ h => h) (Or.inr ⟨by rfl, rfl⟩) hHeld ?_
                        (try simp only [Act.put, List.setIfInBounds_toArray, List.set_cons_zero, List.set_cons_succ])
                        refine wpAnyH_take (i := 32) (oi := ⟨some 169, .move (.tmp 17), 3, "law.go:392", #[⟨26, .guard⟩], some (26, true)⟩) (v := undef) rfl (by kernel_rfl) (by kernel_rfl) (by kernel_rfl) (fun _ _ _ h => h) (Or.inr ⟨by rfl, rfl⟩) hHeld ?_
                        (try simp only [Act.put, List.setIfInBounds_toArray, List.set_cons_zero, List.set_cons_succ])
                        refine wpAnyH_take (i := 33) (oi := ⟨some 170, .binOp .sub 3 (.tmp 169) (.const (.int .i64 1)) 3, 3, "law.go:392", #[⟨32, .data⟩, ⟨26, .guard⟩], some (26, true)⟩) (v := undef) rfl (by kernel_rfl) (by kernel_rfl) (by kernel_rfl) (fun _ _ _ h => h) (Or.inr ⟨by rfl, rfl⟩) hHeld ?_
                        (try simp only [Act.put, List.setIfInBounds_toArray, List.set_cons_zero, List.set_cons_succ])
                        refine wpAnyH_take (i := 34) (oi := ⟨some 171, .indexAddr 22 (.tmp 168) (.tmp 170), 0, "law.go:392", #[⟨31, .data⟩, ⟨33, .data⟩, ⟨26, .guard⟩], some (26, true)⟩) (v := undef) rfl (by kernel_rfl) (by kernel_rfl) (by kernel_rfl) (fun _ _ _ h => h) (Or.inr ⟨by rfl, rfl⟩) hHeld ?_
                        (try simp only [Act.put, List.setIfInBounds_toArray, List.set_cons_zero, List.set_cons_succ])
                        refine wpAnyH_take (i := 35) (oi := ⟨some 172, .load 3 (.tmp 171), 3, "law.go:392", #[⟨34, .data⟩, ⟨26, .guard⟩], some (26, true)⟩) (v := undef) rfl (by kernel_rfl) (by kernel_rfl) (by kernel_rfl) (fun _ _ _ h => h) (Or.inr ⟨by rfl, rfl⟩) hHeld ?_
                        (try simp only [Act.put, List.setIfInBounds_toArray, List.set_cons_zero, List.set_cons_succ])
                        refine wpAnyH_take (i := 36) (oi := ⟨some 173, .binOp .leq 3 (.tmp 167) (.tmp 172) 3, 4, "law.go:392", #[⟨30, .data⟩, ⟨35, .data⟩, ⟨26, .guard⟩], some (26, true)⟩) (v := undef) rfl (by kernel_rfl) (by kernel_rfl) (by kernel_rfl) (fun _ _ _ h => h) (Or.inr ⟨by rfl, rfl⟩) hHeld ?_
                        (try simp only [Act.put, List.setIfInBounds_toArray, List.set_cons_zero, List.set_cons_succ])
                        refine wpAnyH_take (i := 37) (oi := ⟨some 174, .pick (.tmp 163) (.tmp 173) (.const (.bool false)), 4, "law.go:392", #[⟨26, .data⟩, ⟨36, .data⟩, ⟨23, .guard⟩], some (23, false)⟩) (v := ?_) rfl (by kernel_rfl) (by kernel_rfl) (by kernel_rfl) (fun _ _ _ h => h) (Or.inl ⟨by rfl, fun W hSw => ?_⟩) hHeld ?_
                        rotate_left
                        · (try dsimp only at hSw); go_simp; (try with_reducible rfl)
                        (try simp only [Act.put, List.setIfInBounds_toArray, List.set_cons_zero, List.set_cons_succ])
                        refine wpAnyH_take (i := 38) (oi := ⟨some 175, .pick (.tmp 160) (.const (.bool true)) (.tmp 174), 4, "law.go:392", #[⟨23, .data⟩, ⟨37, .data⟩], none⟩) (v := ?_) rfl (by kernel_rfl) (by kernel_rfl) (by kernel_rfl) (fun _ _ _ h => h) (Or.inl ⟨by rfl, fun W hSw => ?_⟩) hHeld ?_
                        rotate_left
                        · (try dsimp only at hSw); go_simp; (try with_reducible rfl)
                        (try simp only [Act.put, List.setIfInBounds_toArray, List.set_cons_zero, List.set_cons_succ])
                        refine wpAnyH_take (i := 39) (oi := ⟨some 176, .move (.tmp 175), 4, "law.go:392", #[⟨38, .data⟩, ⟨26, .chain⟩], none⟩) (v := ?_) rfl (by kernel_rfl) (by kernel_rfl) (by kernel_rfl) (fun _ _ _ h => h) (Or.inl ⟨by rfl, fun W hSw => ?_⟩) hHeld ?_
                        rotate_left
                        · (try dsimp only at hSw); go_simp; (try with_reducible rfl)
                        (try simp only [Act.put, List.setIfInBounds_toArray, List.set_cons_zero, List.set_cons_succ])
                        refine wpAnyH_take (i := 40) (oi := ⟨some 177, .move (.tmp 14), 22, "law.go:392", #[⟨39, .guard⟩], some (39, false)⟩) (v := ?_) rfl (by kernel_rfl) (by kernel_rfl) (by kernel_rfl) (fun _ _ _ h => h) (Or.inl ⟨by rfl, fun W hSw => ?_⟩) hHeld ?_
                        rotate_left
                        · (try dsimp only at hSw); go_simp; (try with_reducible rfl)
                        (try simp only [Act.put, List.setIfInBounds_toArray, List.set_cons_zero, List.set_cons_succ])
                        refine wpAnyH_take (i := 41) (oi := ⟨some 178, .move (.tmp 17), 3, "law.go:392", #[⟨39, .guard⟩], some (39, false)⟩) (v := ?_) rfl (by kernel_rfl) (by kernel_rfl) (by kernel_rfl) (fun _ _ _ h => h) (Or.inl ⟨by rfl, fun W hSw => ?_⟩) hHeld ?_
                        rotate_left
                        · (try dsimp only at hSw); go_simp; (try with_reducible rfl)
                        (try simp only [Act.put, List.setIfInBounds_toArray, List.set_cons_zero, List.set_cons_succ])
                        refine wpAnyH_take (i := 42) (oi := ⟨some 179, .indexAddr 22 (.tmp 177) (.tmp 178), 0, "law.go:392", #[⟨40, .data⟩, ⟨41, .data⟩, ⟨39, .guard⟩], some (39, false)⟩) (v := ?_) rfl (by kernel_rfl) (by kernel_rfl) (by kernel_rfl) (fun _ _ _ h => h) (Or.inl ⟨by rfl, fun W hSw => ?_⟩) hHeld ?_
                        rotate_left
                        · (try dsimp only at hSw); go_simp; (try with_reducible rfl)
                        (try simp only [Act.put, List.setIfInBounds_toArray, List.set_cons_zero, List.set_cons_succ])
                        refine wpAnyH_take (i := 43) (oi := ⟨some 180, .load 3 (.tmp 179), 3, "law.go:392", #[⟨42, .data⟩, ⟨39, .guard⟩], some (39, false)⟩) (v := ?_) rfl (by kernel_rfl) (by kernel_rfl) (by kernel_rfl) (fun _ _ _ h => h) (Or.inl ⟨by rfl, fun W hSw => ?_⟩) hHeld ?_
                        rotate_left
                        · (try dsimp only at hSw); go_simp; (try with_reducible rfl)
                        (try simp only [Act.put, List.setIfInBounds_toArray, List.set_cons_zero, List.set_cons_succ])
                        refine wpAnyH_take (i := 44) (oi := ⟨some 181, .move (.tmp 11), 22, "law.go:392", #[⟨39, .guard⟩], some (39, false)⟩) (v := ?_) rfl (by kernel_rfl) (by kernel_rfl) (by kernel_rfl) (fun _ _ _ h => h) (Or.inl ⟨by rfl, fun W hSw => ?_⟩) hHeld ?_
                        rotate_left
                        · (try dsimp only at hSw); go_simp; (try with_reducible rfl)
                        (try simp only [Act.put, List.setIfInBounds_toArray, List.set_cons_zero, List.set_cons_succ])
                        refine wpAnyH_take (i := 45) (oi := ⟨some 182, .indexAddr 22 (.tmp 181) (.const (.int .i64 0)), 0, "law.go:392", #[⟨44, .data⟩, ⟨39, .guard⟩], some (39, false)⟩) (v := ?_) rfl (by kernel_rfl) (by kernel_rfl) (by kernel_rfl) (fun _ _ _ h => h) (Or.inl ⟨by rfl, fun W hSw => ?_⟩) hHeld ?_
                        rotate_left
                        · (try dsimp only at hSw); go_simp; (try with_reducible rfl)
                        (try simp only [Act.put, List.setIfInBounds_toArray, List.set_cons_zero, List.set_cons_succ])
                        refine wpAnyH_take (i := 46) (oi := ⟨some 183, .load 3 (.tmp 182), 3, "law.go:392", #[⟨45, .data⟩, ⟨39, .guard⟩], some (39, false)⟩) (v := ?_) rfl (by kernel_rfl) (by kernel_rfl) (by kernel_rfl) (fun _ _ _ h => h) (Or.inl ⟨by rfl, fun W hSw => ?_⟩) hHeld ?_
                        rotate_left
                        · (try dsimp only at hSw); go_simp; (try with_reducible rfl)
                        (try simp only [Act.put, List.setIfInBounds_toArray, List.set_cons_zero, List.set_cons_succ])
                        refine wpAnyH_take (i := 47) (oi := ⟨some 184, .binOp .lss 3 (.tmp 180) (.tmp 183) 3, 4, "law.go:392", #[⟨43, .data⟩, ⟨46, .data⟩, ⟨39, .guard⟩], some (39, false)⟩) (v := ?_) rfl (by kernel_rfl) (by kernel_rfl) (by kernel_rfl) (fun _ _ _ h => h) (Or.inl ⟨by rfl, fun W hSw => ?_⟩) hHeld ?_
                        rotate_left
                        · (try dsimp only at hSw); go_simp; (try with_reducible rfl)
                        (try simp only [Act.put, List.setIfInBounds_toArray, List.set_cons_zero, List.set_cons_succ])
                        refine wpAnyH_take (i := 48) (oi := ⟨some 185, .pick (.tmp 176) (.const (.bool true)) (.tmp 184), 4, "law.go:392", #[⟨39, .data⟩, ⟨47, .data⟩], none⟩) (v := ?_) rfl (by kernel_rfl) (by kernel_rfl) (by kernel_rfl) (fun _ _ _ h => h) (Or.inl ⟨by rfl, fun W hSw => ?_⟩) hHeld ?_
                        rotate_left
                        · (try dsimp only at hSw); go_simp; (try with_reducible rfl)
                        (try simp only [Act.put, List.setIfInBounds_toArray, List.set_cons_zero, List.set_cons_succ])
                        refine wpAnyH_done (by kernel_rfl) ?_ _
                        refine NoPanic.normal ?_
                        go_wp2_with fail
                        refine ⟨⟨_, hltj, by go_num, fr_call hbel hHeld.2⟩, ?_⟩
                        simp [intOf]; omega
                      · obtain ⟨ad3, he, hab3, hf⟩ := hrb.at_ (show i < b.length by omega)
                        obtain rfl : ad = ad3 := by injection he
                        have hpr := HB.out.2.1 i (i + 1) (by omega) (b[i]?.getD 0) xj (by rw [List.getElem?_eq_getElem (by omega)]; rfl) hgj
                        obtain ⟨xi, gxi⟩ : ∃ q, b[i]?.getD 0 = q := ⟨_, rfl⟩
                        rw [gxi] at hf hpr
                        have q4 : decide (xj ≤ xi) = false := decide_eq_false (by omega)
                        have q5 : decide (0 < (((i + 1 : Nat)) : Int)) = true := decide_eq_true (by omega)
                        have hi0 : (0 : Int) ≤ (i : Int) := Int.natCast_nonneg i
                        have hj1 : (0 : Int) ≤ (i : Int) + 1 := by omega
                        have hj2 : (i : Int) + 1 < (b.length : Int) := by omega
                        have hii : (i : Int) < (b.length : Int) := by omega
                        have hwi : IntKind.i64.wrap (i : Int) = (i : Int) := IntWalk.i64_in _ (by omega)
                        have hcS := hc
                        rw [show ad.add (i + 1) = ⟨ad.block, ad.off + (i + 1), none⟩ by unfold Addr.add; simp] at hcS
                        have habi : (ad.add i).block < wr.heap.size := by rw [block_of_add]; exact hab
                        have habS : ad.block < wr.heap.size := hab
                        clear he gxi hgj
                        go_wp2_with fail
                        refine wp_region_noPanic ?_
                        refine wp_region_held_drew (S := fun W => (∀ p : Addr, p.block < (wr).heap.size → W.cell? p = (wr).cell? p) ∧ Below (wr).heap.size (wr) W) (by kernel_rfl) ⟨fun _ _ => rfl, fr_drew (fr_refl _)⟩ (fun hHeld => ?_)
                        -- the region, step by step
                        refine wpAnyH_take (i := 0) (oi := ⟨some 137, .move (.tmp 14), 22, "law.go:392", #[], none⟩) (v := ?_) rfl (by kernel_rfl) (by kernel_rfl) (by kernel_rfl) (fun _ _ _ h => h) (Or.inl ⟨by rfl, fun W hSw => ?_⟩) hHeld ?_
                        rotate_left
                        · (try dsimp only at hSw); go_simp; (try with_reducible rfl)
                        (try simp only [Act.put, List.setIfInBounds_toArray, List.set_cons_zero, List.set_cons_succ])
                        refine wpAnyH_take (i := 1) (oi := ⟨some 138, .move (.tmp 17), 3, "law.go:392", #[], none⟩) (v := ?_) rfl (by kernel_rfl) (by kernel_rfl) (by kernel_rfl) (fun _ _ _ h => h) (Or.inl ⟨by rfl, fun W hSw => ?_⟩) hHeld ?_
                        rotate_left
                        · (try dsimp only at hSw); go_simp; (try with_reducible rfl)
                        (try simp only [Act.put, List.setIfInBounds_toArray, List.set_cons_zero, List.set_cons_succ])
                        refine wpAnyH_take (i := 2) (oi := ⟨some 139, .indexAddr 22 (.tmp 137) (.tmp 138), 0, "law.go:392", #[⟨0, .data⟩, ⟨1, .data⟩], none⟩) (v := ?_) rfl (by kernel_rfl) (by kernel_rfl) (by kernel_rfl) (fun _ _ _ h => h) (Or.inl ⟨by rfl, fun W hSw => ?_⟩) hHeld ?_
                        rotate_left
                        · (try dsimp only at hSw); go_simp; (try with_reducible rfl)
                        (try simp only [Act.put, List.setIfInBounds_toArray, List.set_cons_zero, List.set_cons_succ])
                        refine wpAnyH_take (i := 3) (oi := ⟨some 140, .load 3 (.tmp 139), 3, "law.go:392", #[⟨2, .data⟩], none⟩) (v := ?_) rfl (by kernel_rfl) (by kernel_rfl) (by kernel_rfl) (fun _ _ _ h => h) (Or.inl ⟨by rfl, fun W hSw => ?_⟩) hHeld ?_
                        rotate_left
                        · (try dsimp only at hSw); go_simp; (try with_reducible rfl)
                        (try simp only [Act.put, List.setIfInBounds_toArray, List.set_cons_zero, List.set_cons_succ])
                        refine wpAnyH_take (i := 4) (oi := ⟨some 141, .move (.tmp 3), 3, "law.go:392", #[], none⟩) (v := ?_) rfl (by kernel_rfl) (by kernel_rfl) (by kernel_rfl) (fun _ _ _ h => h) (Or.inl ⟨by rfl, fun W hSw => ?_⟩) hHeld ?_
                        rotate_left
                        · (try dsimp only at hSw); go_simp; (try with_reducible rfl)
                        (try simp only [Act.put, List.setIfInBounds_toArray, List.set_cons_zero, List.set_cons_succ])
                        refine wpAnyH_take (i := 5) (oi := ⟨some 142, .binOp .leq 3 (.tmp 140) (.tmp 141) 3, 4, "law.go:392", #[⟨3, .data⟩, ⟨4, .data⟩], none⟩) (v := ?_) rfl (by kernel_rfl) (by kernel_rfl) (by kernel_rfl) (fun _ _ _ h => h) (Or.inl ⟨by rfl, fun W hSw => ?_⟩) hHeld ?_
                        rotate_left
                        · (try dsimp only at hSw); go_simp; (try with_reducible rfl)
                        (try simp only [Act.put, List.setIfInBounds_toArray, List.set_cons_zero, List.set_cons_succ])
                        refine wpAnyH_take (i := 6) (oi := ⟨some 143, .move (.tmp 142), 4, "law.go:392", #[⟨5, .data⟩], none⟩) (v := ?_) rfl (by kernel_rfl) (by kernel_rfl) (by kernel_rfl) (fun _ _ _ h => h) (Or.inl ⟨by rfl, fun W hSw => ?_⟩) hHeld ?_
                        rotate_left
                        · (try dsimp only at hSw); go_simp; (try with_reducible rfl)
                        (try simp only [Act.put, List.setIfInBounds_toArray, List.set_cons_zero, List.set_cons_succ])
                        refine wpAnyH_take (i := 7) (oi := ⟨some 144, .move (.tmp 14), 22, "law.go:392", #[⟨6, .guard⟩], some (6, false)⟩) (v := ?_) rfl (by kernel_rfl) (by kernel_rfl) (by kernel_rfl) (fun _ _ _ h => h) (Or.inl ⟨by rfl, fun W hSw => ?_⟩) hHeld ?_
                        rotate_left
                        · (try dsimp only at hSw); go_simp; (try with_reducible rfl)
                        (try simp only [Act.put, List.setIfInBounds_toArray, List.set_cons_zero, List.set_cons_succ])
                        refine wpAnyH_take (i := 8) (oi := ⟨some 145, .move (.tmp 17), 3, "law.go:392", #[⟨6, .guard⟩], some (6, false)⟩) (v := ?_) rfl (by kernel_rfl) (by kernel_rfl) (by kernel_rfl) (fun _ _ _ h => h) (Or.inl ⟨by rfl, fun W hSw => ?_⟩) hHeld ?_
                        rotate_left
                        · (try dsimp only at hSw); go_simp; (try with_reducible rfl)
                        (try simp only [Act.put, List.setIfInBounds_toArray, List.set_cons_zero, List.set_cons_succ])
                        refine wpAnyH_take (i := 9) (oi := ⟨some 146, .indexAddr 22 (.tmp 144) (.tmp 145), 0, "law.go:392", #[⟨7, .data⟩, ⟨8, .data⟩, ⟨6, .guard⟩], some (6, false)⟩) (v := ?_) rfl (by kernel_rfl) (by kernel_rfl) (by kernel_rfl) (fun _ _ _ h => h) (Or.inl ⟨by rfl, fun W hSw => ?_⟩) hHeld ?_
                        rotate_left
                        · (try dsimp only at hSw); go_simp; (try with_reducible rfl)
                        (try simp only [Act.put, List.setIfInBounds_toArray, List.set_cons_zero, List.set_cons_succ])
                        refine wpAnyH_take (i := 10) (oi := ⟨some 147, .load 3 (.tmp 146), 3, "law.go:392", #[⟨9, .data⟩, ⟨6, .guard⟩], some (6, false)⟩) (v := ?_) rfl (by kernel_rfl) (by kernel_rfl) (by kernel_rfl) (fun _ _ _ h => h) (Or.inl ⟨by rfl, fun W hSw => ?_⟩) hHeld ?_
                        rotate_left
                        · (try dsimp only at hSw); go_simp; (try with_reducible rfl)
                        (try simp only [Act.put, List.setIfInBounds_toArray, List.set_cons_zero, List.set_cons_succ])
                        refine wpAnyH_take (i := 11) (oi := ⟨some 148, .move (.tmp 4), 3, "law.go:392", #[⟨6, .guard⟩], some (6, false)⟩) (v := ?_) rfl (by kernel_rfl) (by kernel_rfl) (by kernel_rfl) (fun _ _ _ h => h) (Or.inl ⟨by rfl, fun W hSw => ?_⟩) hHeld ?_
                        rotate_left
                        · (try dsimp only at hSw); go_simp; (try with_reducible rfl)
                        (try simp only [Act.put, List.setIfInBounds_toArray, List.set_cons_zero, List.set_cons_succ])
                        refine wpAnyH_take (i := 12) (oi := ⟨some 149, .binOp .gtr 3 (.tmp 147) (.tmp 148) 3, 4, "law.go:392", #[⟨10, .data⟩, ⟨11, .data⟩, ⟨6, .guard⟩], some (6, false)⟩) (v := ?_) rfl (by kernel_rfl) (by kernel_rfl) (by kernel_rfl) (fun _ _ _ h => h) (Or.inl ⟨by rfl, fun W hSw => ?_⟩) hHeld ?_
                        rotate_left
                        · (try dsimp only at hSw); go_simp; (try with_reducible rfl)
                        (try simp only [Act.put, List.setIfInBounds_toArray, List.set_cons_zero, List.set_cons_succ])
                        refine wpAnyH_take (i := 13) (oi := ⟨some 150, .pick (.tmp 143) (.const (.bool true)) (.tmp 149), 4, "law.go:392", #[⟨6, .data⟩, ⟨12, .data⟩], none⟩) (v := ?_) rfl (by kernel_rfl) (by kernel_rfl) (by kernel_rfl) (fun _ _ _ h => h) (Or.inl ⟨by rfl, fun W hSw => ?_⟩) hHeld ?_
                        rotate_left
                        · (try dsimp only at hSw); go_simp; (try with_reducible rfl)
                        (try simp only [Act.put, List.setIfInBounds_toArray, List.set_cons_zero, List.set_cons_succ])
                        refine wpAnyH_take (i := 14) (oi := ⟨some 151, .move (.tmp 150), 4, "law.go:392", #[⟨13, .data⟩, ⟨6, .chain⟩], none⟩) (v := ?_) rfl (by kernel_rfl) (by kernel_rfl) (by kernel_rfl) (fun _ _ _ h => h) (Or.inl ⟨by rfl, fun W hSw => ?_⟩) hHeld ?_
                        rotate_left
                        · (try dsimp only at hSw); go_simp; (try with_reducible rfl)
                        (try simp only [Act.put, List.setIfInBounds_toArray, List.set_cons_zero, List.set_cons_succ])
                        refine wpAnyH_take (i := 15) (oi := ⟨some 152, .move (.tmp 14), 22, "law.go:392", #[⟨14, .guard⟩], some (14, false)⟩) (v := ?_) rfl (by kernel_rfl) (by kernel_rfl) (by kernel_rfl) (fun _ _ _ h => h) (Or.inl ⟨by rfl, fun W hSw => ?_⟩) hHeld ?_
                        rotate_left
                        · (try dsimp only at hSw); go_simp; (try with_reducible rfl)
                        (try simp only [Act.put, List.setIfInBounds_toArray, List.set_cons_zero, List.set_cons_succ])
                        refine wpAnyH_take (i := 16) (oi := ⟨some 153, .move (.tmp 17), 3, "law.go:392", #[⟨14, .guard⟩], some (14, false)⟩) (v := ?_) rfl (by kernel_rfl) (by kernel_rfl) (by kernel_rfl) (fun _ _ _ h => h) (Or.inl ⟨by rfl, fun W hSw => ?_⟩) hHeld ?_
                        rotate_left
                        · (try dsimp only at hSw); go_simp; (try with_reducible rfl)
                        (try simp only [Act.put, List.setIfInBounds_toArray, List.set_cons_zero, List.set_cons_succ])
                        refine wpAnyH_take (i := 17) (oi := ⟨some 154, .indexAddr 22 (.tmp 152) (.tmp 153), 0, "law.go:392", #[⟨15, .data⟩, ⟨16, .data⟩, ⟨14, .guard⟩], some (14, false)⟩) (v := ?_) rfl (by kernel_rfl) (by kernel_rfl) (by kernel_rfl) (fun _ _ _ h => h) (Or.inl ⟨by rfl, fun W hSw => ?_⟩) hHeld ?_
                        rotate_left
                        · (try dsimp only at hSw); go_simp; (try with_reducible rfl)
                        (try simp only [Act.put, List.setIfInBounds_toArray, List.set_cons_zero, List.set_cons_succ])
                        refine wpAnyH_take (i := 18) (oi := ⟨some 155, .load 3 (.tmp 154), 3, "law.go:392", #[⟨17, .data⟩, ⟨14, .guard⟩], some (14, false)⟩) (v := ?_) rfl (by kernel_rfl) (by kernel_rfl) (by kernel_rfl) (fun _ _ _ h => h) (Or.inl ⟨by rfl, fun W hSw => ?_⟩) hHeld ?_
                        rotate_left
                        · (try dsimp only at hSw); go_simp; (try with_reducible rfl)
                        (try simp only [Act.put, List.setIfInBounds_toArray, List.set_cons_zero, List.set_cons_succ])
                        refine wpAnyH_take (i := 20) (oi := ⟨some 157, .move (.tmp 2), 3, "law.go:392", #[⟨14, .guard⟩], some (14, false)⟩) (v := ?_) rfl (by kernel_rfl) (by kernel_rfl) (by kernel_rfl) (fun _ _ _ h => h) (Or.inl ⟨by rfl, fun W hSw => ?_⟩) hHeld ?_
                        rotate_left
                        · (try dsimp only at hSw); go_simp; (try with_reducible rfl)
                        (try simp only [Act.put, List.setIfInBounds_toArray, List.set_cons_zero, List.set_cons_succ])
                        refine wpAnyH_ready (rs := [19]) (by kernel_rfl) (by simp) ?_
                        refine AllReadyH.cons (o := ⟨some 156, .call { callee := .value (.func 20), args := #[.tmp 155], argTypes := #[3] }, 3, "law.go:392", #[⟨18, .data⟩, ⟨14, .chain⟩, ⟨14, .guard⟩], some (14, false)⟩) rfl (fun K hK => ?_) AllReadyH.nil
                        go_simp
                        refine (rWeekday_any xj _ (by omega) (by omega)).mono ?_
                        rw [HWJ.out]
                        rintro e' wA ⟨rfl, rfl⟩
                        refine hK.out _ _ (hHeld) (fun hHeld => ?_)
                        clear hK K
                        (try simp only [Act.put, List.setIfInBounds_toArray, List.set_cons_zero, List.set_cons_succ])
                        refine wpAnyH_take (i := 21) (oi := ⟨some 158, .binOp .neq 3 (.tmp 156) (.tmp 157) 3, 4, "law.go:392", #[⟨19, .data⟩, ⟨20, .data⟩, ⟨14, .guard⟩], some (14, false)⟩) (v := ?_) rfl (by kernel_rfl) (by kernel_rfl) (by kernel_rfl) (fun _ _ _ h => h) (Or.inl ⟨by rfl, fun W hSw => ?_⟩) hHeld ?_
                        rotate_left
                        · (try dsimp only at hSw); go_simp; (try with_reducible rfl)
                        (try simp only [Act.put, List.setIfInBounds_toArray, List.set_cons_zero, List.set_cons_succ])
                        refine wpAnyH_take (i := 22) (oi := ⟨some 159, .pick (.tmp 151) (.const (.bool true)) (.tmp 158), 4, "law.go:392", #[⟨14, .data⟩, ⟨21, .data⟩], none⟩) (v := ?_) rfl (by kernel_rfl) (by kernel_rfl) (by kernel_rfl) (fun _ _ _ h => h) (Or.inl ⟨by rfl, fun W hSw => ?_⟩) hHeld ?_
                        rotate_left
                        · (try dsimp only at hSw); go_simp; (try with_reducible rfl)
                        (try simp only [Act.put, List.setIfInBounds_toArray, List.set_cons_zero, List.set_cons_succ])
                        refine wpAnyH_take (i := 23) (oi := ⟨some 160, .move (.tmp 159), 4, "law.go:392", #[⟨22, .data⟩, ⟨19, .chain⟩], none⟩) (v := ?_) rfl (by kernel_rfl) (by kernel_rfl) (by kernel_rfl) (fun _ _ _ h => h) (Or.inl ⟨by rfl, fun W hSw => ?_⟩) hHeld ?_
                        rotate_left
                        · (try dsimp only at hSw); go_simp; (try with_reducible rfl)
                        (try simp only [Act.put, List.setIfInBounds_toArray, List.set_cons_zero, List.set_cons_succ])
                        refine wpAnyH_take (i := 24) (oi := ⟨some 161, .move (.tmp 17), 3, "law.go:392", #[⟨23, .guard⟩], some (23, false)⟩) (v := ?_) rfl (by kernel_rfl) (by kernel_rfl) (by kernel_rfl) (fun _ _ _ h => h) (Or.inl ⟨by rfl, fun W hSw => ?_⟩) hHeld ?_
                        rotate_left
                        · (try dsimp only at hSw); go_simp; (try with_reducible rfl)
                        (try simp only [Act.put, List.setIfInBounds_toArray, List.set_cons_zero, List.set_cons_succ])
                        refine wpAnyH_take (i := 25) (oi := ⟨some 162, .binOp .gtr 3 (.tmp 161) (.const (.int .i64 0)) 3, 4, "law.go:392", #[⟨24, .data⟩, ⟨23, .guard⟩], some (23, false)⟩) (v := ?_) rfl (by kernel_rfl) (by kernel_rfl) (by kernel_rfl) (fun _ _ _ h => h) (Or.inl ⟨by rfl, fun W hSw => ?_⟩) hHeld ?_
                        rotate_left
                        · (try dsimp only at hSw); go_simp; (try with_reducible rfl)
                        (try simp only [Act.put, List.setIfInBounds_toArray, List.set_cons_zero, List.set_cons_succ])
                        refine wpAnyH_take (i := 26) (oi := ⟨some 163, .move (.tmp 162), 4, "law.go:392", #[⟨25, .data⟩, ⟨23, .chain⟩, ⟨23, .guard⟩], some (23, false)⟩) (v := ?_) rfl (by kernel_rfl) (by kernel_rfl) (by kernel_rfl) (fun _ _ _ h => h) (Or.inl ⟨by rfl, fun W hSw => ?_⟩) hHeld ?_
                        rotate_left
                        · (try dsimp only at hSw); go_simp; (try with_reducible rfl)
                        (try simp only [Act.put, List.setIfInBounds_toArray, List.set_cons_zero, List.set_cons_succ])
                        refine wpAnyH_take (i := 27) (oi := ⟨some 164, .move (.tmp 14), 22, "law.go:392", #[⟨26, .guard⟩], some (26, true)⟩) (v := ?_) rfl (by kernel_rfl) (by kernel_rfl) (by kernel_rfl) (fun _ _ _ h => h) (Or.inl ⟨by rfl, fun W hSw => ?_⟩) hHeld ?_
                        rotate_left
                        · (try dsimp only at hSw); go_simp; (try with_reducible rfl)
                        (try simp only [Act.put, List.setIfInBounds_toArray, List.set_cons_zero, List.set_cons_succ])
                        refine wpAnyH_take (i := 28) (oi := ⟨some 165, .move (.tmp 17), 3, "law.go:392", #[⟨26, .guard⟩], some (26, true)⟩) (v := ?_) rfl (by kernel_rfl) (by kernel_rfl) (by kernel_rfl) (fun _ _ _ h => h) (Or.inl ⟨by rfl, fun W hSw => ?_⟩) hHeld ?_
                        rotate_left
                        · (try dsimp only at hSw); go_simp; (try with_reducible rfl)
                        (try simp only [Act.put, List.setIfInBounds_toArray, List.set_cons_zero, List.set_cons_succ])
                        refine wpAnyH_take (i := 29) (oi := ⟨some 166, .indexAddr 22 (.tmp 164) (.tmp 165), 0, "law.go:392", #[⟨27, .data⟩, ⟨28, .data⟩, ⟨26, .guard⟩], some (26, true)⟩) (v := ?_) rfl (by kernel_rfl) (by kernel_rfl) (by kernel_rfl) (fun _ _ _ h => h) (Or.inl ⟨by rfl, fun W hSw => ?_⟩) hHeld ?_
                        rotate_left
                        · (try dsimp only at hSw); go_simp; (try with_reducible rfl)
                        (try simp only [Act.put, List.setIfInBounds_toArray, List.set_cons_zero, List.set_cons_succ])
                        refine wpAnyH_take (i := 30) (oi := ⟨some 167, .load 3 (.tmp 166), 3, "law.go:392", #[⟨29, .data⟩, ⟨26, .guard⟩], some (26, true)⟩) (v := ?_) rfl (by kernel_rfl) (by kernel_rfl) (by kernel_rfl) (fun _ _ _ h => h) (Or.inl ⟨by rfl, fun W hSw => ?_⟩) hHeld ?_
                        rotate_left
                        · (try dsimp only at hSw); go_simp; (try with_reducible rfl)
                        (try simp only [Act.put, List.setIfInBounds_toArray, List.set_cons_zero, List.set_cons_succ])
                        refine wpAnyH_take (i := 31) (oi := ⟨some 168, .move (.tmp 14), 22, "law.go:392", #[⟨26, .guard⟩], some (26, true)⟩) (v := ?_) rfl (by kernel_rfl) (by kernel_rfl) (by kernel_rfl) (fun _ _ _ h => h) (Or.inl ⟨by rfl, fun W hSw => ?_⟩) hHeld ?_
                        rotate_left
                        · (try dsimp only at hSw); go_simp; (try with_reducible rfl)
                        (try simp only [Act.put, List.setIfInBounds_toArray, List.set_cons_zero, List.set_cons_succ])
                        refine wpAnyH_take (i := 32) (oi := ⟨some 169, .move (.tmp 17), 3, "law.go:392", #[⟨26, .guard⟩], some (26, true)⟩) (v := ?_) rfl (by kernel_rfl) (by kernel_rfl) (by kernel_rfl) (fun _ _ _ h => h) (Or.inl ⟨by rfl, fun W hSw => ?_⟩) hHeld ?_
                        rotate_left
                        · (try dsimp only at hSw); go_simp; (try with_reducible rfl)
                        (try simp only [Act.put, List.setIfInBounds_toArray, List.set_cons_zero, List.set_cons_succ])
                        refine wpAnyH_take (i := 33) (oi := ⟨some 170, .binOp .sub 3 (.tmp 169) (.const (.int .i64 1)) 3, 3, "law.go:392", #[⟨32, .data⟩, ⟨26, .guard⟩], some (26, true)⟩) (v := ?_) rfl (by kernel_rfl) (by kernel_rfl) (by kernel_rfl) (fun _ _ _ h => h) (Or.inl ⟨by rfl, fun W hSw => ?_⟩) hHeld ?_
                        rotate_left
                        · (try dsimp only at hSw); go_simp; (try with_reducible rfl)
                        (try simp only [Act.put, List.setIfInBounds_toArray, List.set_cons_zero, List.set_cons_succ])
                        refine wpAnyH_take (i := 34) (oi := ⟨some 171, .indexAddr 22 (.tmp 168) (.tmp 170), 0, "law.go:392", #[⟨31, .data⟩, ⟨33, .data⟩, ⟨26, .guard⟩], some (26, true)⟩) (v := ?_) rfl (by kernel_rfl) (by kernel_rfl) (by kernel_rfl) (fun _ _ _ h => h) (Or.inl ⟨by rfl, fun W hSw => ?_⟩) hHeld ?_
                        rotate_left
                        · (try dsimp only at hSw); go_simp; (try with_reducible rfl)
                        (try simp only [Act.put, List.setIfInBounds_toArray, List.set_cons_zero, List.set_cons_succ])
                        refine wpAnyH_take (i := 35) (oi := ⟨some 172, .load 3 (.tmp 171), 3, "law.go:392", #[⟨34, .data⟩, ⟨26, .guard⟩], some (26, true)⟩) (v := ?_) rfl (by kernel_rfl) (by kernel_rfl) (by kernel_rfl) (fun _ _ _ h => h) (Or.inl ⟨by rfl, fun W hSw => ?_⟩) hHeld ?_
                        rotate_left
                        · (try dsimp only at hSw); go_simp; (try with_reducible rfl)
                        (try simp only [Act.put, List.setIfInBounds_toArray, List.set_cons_zero, List.set_cons_succ])
                        refine wpAnyH_take (i := 36) (oi := ⟨some 173, .binOp .leq 3 (.tmp 167) (.tmp 172) 3, 4, "law.go:392", #[⟨30, .data⟩, ⟨35, .data⟩, ⟨26, .guard⟩], some (26, true)⟩) (v := ?_) rfl (by kernel_rfl) (by kernel_rfl) (by kernel_rfl) (fun _ _ _ h => h) (Or.inl ⟨by rfl, fun W hSw => ?_⟩) hHeld ?_
                        rotate_left
                        · (try dsimp only at hSw); go_simp; (try with_reducible rfl)
                        (try simp only [Act.put, List.setIfInBounds_toArray, List.set_cons_zero, List.set_cons_succ])
                        refine wpAnyH_take (i := 37) (oi := ⟨some 174, .pick (.tmp 163) (.tmp 173) (.const (.bool false)), 4, "law.go:392", #[⟨26, .data⟩, ⟨36, .data⟩, ⟨23, .guard⟩], some (23, false)⟩) (v := ?_) rfl (by kernel_rfl) (by kernel_rfl) (by kernel_rfl) (fun _ _ _ h => h) (Or.inl ⟨by rfl, fun W hSw => ?_⟩) hHeld ?_
                        rotate_left
                        · (try dsimp only at hSw); go_simp; (try with_reducible rfl)
                        (try simp only [Act.put, List.setIfInBounds_toArray, List.set_cons_zero, List.set_cons_succ])
                        refine wpAnyH_take (i := 38) (oi := ⟨some 175, .pick (.tmp 160) (.const (.bool true)) (.tmp 174), 4, "law.go:392", #[⟨23, .data⟩, ⟨37, .data⟩], none⟩) (v := ?_) rfl (by kernel_rfl) (by kernel_rfl) (by kernel_rfl) (fun _ _ _ h => h) (Or.inl ⟨by rfl, fun W hSw => ?_⟩) hHeld ?_
                        rotate_left
                        · (try dsimp only at hSw); go_simp; (try with_reducible rfl)
                        (try simp only [Act.put, List.setIfInBounds_toArray, List.set_cons_zero, List.set_cons_succ])
                        refine wpAnyH_take (i := 39) (oi := ⟨some 176, .move (.tmp 175), 4, "law.go:392", #[⟨38, .data⟩, ⟨26, .chain⟩], none⟩) (v := ?_) rfl (by kernel_rfl) (by kernel_rfl) (by kernel_rfl) (fun _ _ _ h => h) (Or.inl ⟨by rfl, fun W hSw => ?_⟩) hHeld ?_
                        rotate_left
                        · (try dsimp only at hSw); go_simp; (try with_reducible rfl)
                        (try simp only [Act.put, List.setIfInBounds_toArray, List.set_cons_zero, List.set_cons_succ])
                        refine wpAnyH_take (i := 40) (oi := ⟨some 177, .move (.tmp 14), 22, "law.go:392", #[⟨39, .guard⟩], some (39, false)⟩) (v := ?_) rfl (by kernel_rfl) (by kernel_rfl) (by kernel_rfl) (fun _ _ _ h => h) (Or.inl ⟨by rfl, fun W hSw => ?_⟩) hHeld ?_
                        rotate_left
                        · (try dsimp only at hSw); go_simp; (try with_reducible rfl)
                        (try simp only [Act.put, List.setIfInBounds_toArray, List.set_cons_zero, List.set_cons_succ])
                        refine wpAnyH_take (i := 41) (oi := ⟨some 178, .move (.tmp 17), 3, "law.go:392", #[⟨39, .guard⟩], some (39, false)⟩) (v := ?_) rfl (by kernel_rfl) (by kernel_rfl) (by kernel_rfl) (fun _ _ _ h => h) (Or.inl ⟨by rfl, fun W hSw => ?_⟩) hHeld ?_
                        rotate_left
                        · (try dsimp only at hSw); go_simp; (try with_reducible rfl)
                        (try simp only [Act.put, List.setIfInBounds_toArray, List.set_cons_zero, List.set_cons_succ])
                        refine wpAnyH_take (i := 42) (oi := ⟨some 179, .indexAddr 22 (.tmp 177) (.tmp 178), 0, "law.go:392", #[⟨40, .data⟩, ⟨41, .data⟩, ⟨39, .guard⟩], some (39, false)⟩) (v := ?_) rfl (by kernel_rfl) (by kernel_rfl) (by kernel_rfl) (fun _ _ _ h => h) (Or.inl ⟨by rfl, fun W hSw => ?_⟩) hHeld ?_
                        rotate_left
                        · (try dsimp only at hSw); go_simp; (try with_reducible rfl)
                        (try simp only [Act.put, List.setIfInBounds_toArray, List.set_cons_zero, List.set_cons_succ])
                        refine wpAnyH_take (i := 43) (oi := ⟨some 180, .load 3 (.tmp 179), 3, "law.go:392", #[⟨42, .data⟩, ⟨39, .guard⟩], some (39, false)⟩) (v := ?_) rfl (by kernel_rfl) (by kernel_rfl) (by kernel_rfl) (fun _ _ _ h => h) (Or.inl ⟨by rfl, fun W hSw => ?_⟩) hHeld ?_
                        rotate_left
                        · (try dsimp only at hSw); go_simp; (try with_reducible rfl)
                        (try simp only [Act.put, List.setIfInBounds_toArray, List.set_cons_zero, List.set_cons_succ])
                        refine wpAnyH_take (i := 44) (oi := ⟨some 181, .move (.tmp 11), 22, "law.go:392", #[⟨39, .guard⟩], some (39, false)⟩) (v := ?_) rfl (by kernel_rfl) (by kernel_rfl) (by kernel_rfl) (fun _ _ _ h => h) (Or.inl ⟨by rfl, fun W hSw => ?_⟩) hHeld ?_
                        rotate_left
                        · (try dsimp only at hSw); go_simp; (try with_reducible rfl)
                        (try simp only [Act.put, List.setIfInBounds_toArray, List.set_cons_zero, List.set_cons_succ])
                        refine wpAnyH_take (i := 45) (oi := ⟨some 182, .indexAddr 22 (.tmp 181) (.const (.int .i64 0)), 0, "law.go:392", #[⟨44, .data⟩, ⟨39, .guard⟩], some (39, false)⟩) (v := ?_) rfl (by kernel_rfl) (by kernel_rfl) (by kernel_rfl) (fun _ _ _ h => h) (Or.inl ⟨by rfl, fun W hSw => ?_⟩) hHeld ?_
                        rotate_left
                        · (try dsimp only at hSw); go_simp; (try with_reducible rfl)
                        (try simp only [Act.put, List.setIfInBounds_toArray, List.set_cons_zero, List.set_cons_succ])
                        refine wpAnyH_take (i := 46) (oi := ⟨some 183, .load 3 (.tmp 182), 3, "law.go:392", #[⟨45, .data⟩, ⟨39, .guard⟩], some (39, false)⟩) (v := ?_) rfl (by kernel_rfl) (by kernel_rfl) (by kernel_rfl) (fun _ _ _ h => h) (Or.inl ⟨by rfl, fun W hSw => ?_⟩) hHeld ?_
                        rotate_left
                        · (try dsimp only at hSw); go_simp; (try with_reducible rfl)
                        (try simp only [Act.put, List.setIfInBounds_toArray, List.set_cons_zero, List.set_cons_succ])
                        refine wpAnyH_take (i := 47) (oi := ⟨some 184, .binOp .lss 3 (.tmp 180) (.tmp 183) 3, 4, "law.go:392", #[⟨43, .data⟩, ⟨46, .data⟩, ⟨39, .guard⟩], some (39, false)⟩) (v := ?_) rfl (by kernel_rfl) (by kernel_rfl) (by kernel_rfl) (fun _ _ _ h => h) (Or.inl ⟨by rfl, fun W hSw => ?_⟩) hHeld ?_
                        rotate_left
                        · (try dsimp only at hSw); go_simp; (try with_reducible rfl)
                        (try simp only [Act.put, List.setIfInBounds_toArray, List.set_cons_zero, List.set_cons_succ])
                        refine wpAnyH_take (i := 48) (oi := ⟨some 185, .pick (.tmp 176) (.const (.bool true)) (.tmp 184), 4, "law.go:392", #[⟨39, .data⟩, ⟨47, .data⟩], none⟩) (v := ?_) rfl (by kernel_rfl) (by kernel_rfl) (by kernel_rfl) (fun _ _ _ h => h) (Or.inl ⟨by rfl, fun W hSw => ?_⟩) hHeld ?_
                        rotate_left
                        · (try dsimp only at hSw); go_simp; (try with_reducible rfl)
                        (try simp only [Act.put, List.setIfInBounds_toArray, List.set_cons_zero, List.set_cons_succ])
                        refine wpAnyH_done (by kernel_rfl) ?_ _
                        refine NoPanic.normal ?_
                        go_wp2_with fail
                        refine ⟨⟨_, hltj, by go_num, fr_call hbel hHeld.2⟩, ?_⟩
                        simp [intOf]; omega
                    · cases hsc : (decide (e1 = e2) && decide (c1 = c2))
                      · go_wp2_with fail
                        refine (rSameCalendar_is A1 A2 n1 k1 n2 k2 c1 c2 e1 e2 _ hr1 hr2 hn1 hn2 _ hsc).mono ?_
                        rintro e' w11 ⟨rfl, hb⟩
                        replace hr1 := hr1.keep hb
                        replace hr2 := hr2.keep hb
                        replace hT := hT.keep hb
                        replace hra := hra.keep hb
                        replace hrb := hrb.keep hb
                        replace hfr := fr_call hfr hb
                        replace hX0 := hX0.keep hb
                        replace hc0 := fun j => hX0.cell j
                        replace hl0 := hX0.lt
                        clear hb
                        go_wp2_with fail
                        refine (known_is _ hT).mono ?_
                        rintro e' w12 ⟨rfl, hb⟩
                        replace hr1 := hr1.keep hb
                        replace hr2 := hr2.keep hb
                        replace hT := hT.keep hb
                        replace hra := hra.keep hb
                        replace hrb := hrb.keep hb
                        replace hfr := fr_call hfr hb
                        replace hX0 := hX0.keep hb
                        replace hc0 := fun j => hX0.cell j
                        replace hl0 := hX0.lt
                        clear hb
                        go_wp2_with fail
                        go_ret
                        exact ⟨rfl, hfr⟩
                      · have hqq := hsc
                        rw [Bool.and_eq_true, decide_eq_true_eq, decide_eq_true_eq] at hqq
                        obtain ⟨rfl, rfl⟩ := hqq
                        cases h4 : decide (c1 = [4])
                        · go_wp2_with fail
                          refine (rSameCalendar_is A1 A2 n1 k1 n2 k2 c1 c1 e1 e1 _ hr1 hr2 hn1 hn2 true (by simp)).mono ?_
                          rintro e' w11 ⟨rfl, hb⟩
                          replace hr1 := hr1.keep hb
                          replace hr2 := hr2.keep hb
                          replace hT := hT.keep hb
                          replace hra := hra.keep hb
                          replace hrb := hrb.keep hb
                          replace hfr := fr_call hfr hb
                          replace hX0 := hX0.keep hb
                          replace hc0 := fun j => hX0.cell j
                          replace hl0 := hX0.lt
                          clear hb
                          go_wp2_with fail
                          have ga := fr_alloc (fr_refl w11) (.cells #[.int .i64 4] 3)
                          replace hr1 := hr1.keep ga
                          replace hr2 := hr2.keep ga
                          replace hT := hT.keep ga
                          replace hra := hra.keep ga
                          replace hrb := hrb.keep ga
                          replace hfr := fr_call hfr ga
                          replace hX0 := hX0.keep ga
                          replace hc0 := fun j => hX0.cell j
                          replace hl0 := hX0.lt
                          have hX1 := Blk.new w11 3 #[.int .i64 4]
                          have hc1 := fun j => hX1.cell j
                          have hl1 := hX1.lt
                          clear ga
                          have hr4 := lrd_one hX1
                          refine (rSame_is A1 (some ⟨w11.heap.size, 0, none⟩) n1 k1 1 1 c1 [4] _ hr1 hr4 hn1 (by decide) _ h4).mono ?_
                          rintro e' w12 ⟨rfl, hb⟩
                          replace hr1 := hr1.keep hb
                          replace hr2 := hr2.keep hb
                          replace hT := hT.keep hb
                          replace hra := hra.keep hb
                          replace hrb := hrb.keep hb
                          replace hfr := fr_call hfr hb
                          replace hX0 := hX0.keep hb
                          replace hc0 := fun j => hX0.cell j
                          replace hl0 := hX0.lt
                          replace hX1 := hX1.keep hb
                          replace hc1 := fun j => hX1.cell j
                          replace hl1 := hX1.lt
                          clear hb
                          go_wp2_with fail
                          refine (known_is _ hT).mono ?_
                          rintro e' w13 ⟨rfl, hb⟩
                          replace hr1 := hr1.keep hb
                          replace hr2 := hr2.keep hb
                          replace hT := hT.keep hb
                          replace hra := hra.keep hb
                          replace hrb := hrb.keep hb
                          replace hfr := fr_call hfr hb
                          replace hX0 := hX0.keep hb
                          replace hc0 := fun j => hX0.cell j
                          replace hl0 := hX0.lt
                          replace hX1 := hX1.keep hb
                          replace hc1 := fun j => hX1.cell j
                          replace hl1 := hX1.lt
                          clear hb
                          go_wp2_with fail
                          go_ret
                          exact ⟨rfl, hfr⟩
                        · have hdt : ∀ n, onOf e1 c1 e1 c1 last n = dateOf e1 c1 n := fun n => by unfold onOf; split <;> rfl
                          have hon : ∀ k : Nat, k < (tl - fr).toNat + 1 → onOf e1 c1 e1 c1 last (fr + k) ≠ none := fun k hk => hall k (by omega)
                          have eN : ∀ x c, keepW e1 c1 e1 c1 last x c fr tl = keepN (onOf e1 c1 e1 c1 last) x c fr ((tl - fr).toNat + 1) := fun x c => by
                            unfold keepW
                            rw [show (tl - fr + 1).toNat = (tl - fr).toNat + 1 by omega]
                          have kL := (keep_leaps hon hdt (of_decide_eq_true h4) (tl - fr).toNat (by omega)).1
                          have kA := (keep_annual hon hdt (tl - fr).toNat (by omega)).1
                          rw [← eN] at kL
                          rw [← eN, ← eN] at kA
                          obtain ⟨⟨xp, p, wp⟩, gp⟩ : ∃ s, keepW e1 c1 e1 c1 last (.plain 0) (-1) fr tl = s := ⟨_, rfl⟩
                          obtain ⟨⟨xy, y, wy⟩, gy⟩ : ∃ s, keepW e1 c1 e1 c1 last (.annual 0 0) (-1) fr tl = s := ⟨_, rfl⟩
                          obtain ⟨⟨xz, z, wz⟩, gz⟩ : ∃ s, keepW e1 c1 e1 c1 last (.leaps 0 0 0) (-1) fr tl = s := ⟨_, rfl⟩
                          rw [gz] at kL
                          rw [gp, gy] at kA
                          dsimp only at kL kA
                          subst kL
                          have Gp := Lib.hid gp
                          have Gy := Lib.hid gy
                          have Gz := Lib.hid gz
                          have kA1 : decide (y.length ≤ p.length) = true := decide_eq_true kA
                          have kA2 : decide ((y.length : Int) ≤ (p.length : Int)) = true := decide_eq_true (by omega)
                          clear gp gy gz hon eN hdt
                          go_wp2_with fail
                          refine (rSameCalendar_is A1 A2 n1 k1 n2 k2 c1 c1 e1 e1 _ hr1 hr2 hn1 hn2 true (by simp)).mono ?_
                          rintro e' w11 ⟨rfl, hb⟩
                          replace hr1 := hr1.keep hb
                          replace hr2 := hr2.keep hb
                          replace hT := hT.keep hb
                          replace hra := hra.keep hb
                          replace hrb := hrb.keep hb
                          replace hfr := fr_call hfr hb
                          replace hX0 := hX0.keep hb
                          replace hc0 := fun j => hX0.cell j
                          replace hl0 := hX0.lt
                          clear hb
                          go_wp2_with fail
                          have ga := fr_alloc (fr_refl w11) (.cells #[.int .i64 4] 3)
                          replace hr1 := hr1.keep ga
                          replace hr2 := hr2.keep ga
                          replace hT := hT.keep ga
                          replace hra := hra.keep ga
                          replace hrb := hrb.keep ga
                          replace hfr := fr_call hfr ga
                          replace hX0 := hX0.keep ga
                          replace hc0 := fun j => hX0.cell j
                          replace hl0 := hX0.lt
                          have hX1 := Blk.new w11 3 #[.int .i64 4]
                          have hc1 := fun j => hX1.cell j
                          have hl1 := hX1.lt
                          clear ga
                          have hr4 := lrd_one hX1
                          refine (rSame_is A1 (some ⟨w11.heap.size, 0, none⟩) n1 k1 1 1 c1 [4] _ hr1 hr4 hn1 (by decide) _ h4).mono ?_
                          rintro e' w12 ⟨rfl, hb⟩
                          replace hr1 := hr1.keep hb
                          replace hr2 := hr2.keep hb
                          replace hT := hT.keep hb
                          replace hra := hra.keep hb
                          replace hrb := hrb.keep hb
                          replace hfr := fr_call hfr hb
                          replace hX0 := hX0.keep hb
                          replace hc0 := fun j => hX0.cell j
                          replace hl0 := hX0.lt
                          replace hX1 := hX1.keep hb
                          replace hc1 := fun j => hX1.cell j
                          replace hl1 := hX1.lt
                          clear hb
                          go_wp2_with fail
                          refine (Keep_some A1 A2 n1 k1 n2 k2 c1 c1 e1 e1 last 1 fr tl (-1) (.plain 0) _ hr1 hr2 hn1 hn2 hok rfl hm1 hsp hall).mono ?_
                          rw [Gp.out]
                          dsimp only
                          rintro e' w13 ⟨Ap, cp, rfl, hrp, hb⟩
                          replace hr1 := hr1.keep hb
                          replace hr2 := hr2.keep hb
                          replace hT := hT.keep hb
                          replace hra := hra.keep hb
                          replace hrb := hrb.keep hb
                          replace hfr := fr_call hfr hb
                          replace hX0 := hX0.keep hb
                          replace hc0 := fun j => hX0.cell j
                          replace hl0 := hX0.lt
                          replace hX1 := hX1.keep hb
                          replace hc1 := fun j => hX1.cell j
                          replace hl1 := hX1.lt
                          clear hb
                          go_wp2_with fail
                          refine (Keep_some A1 A2 n1 k1 n2 k2 c1 c1 e1 e1 last 2 fr tl (-1) (.annual 0 0) _ hr1 hr2 hn1 hn2 hok rfl hm1 hsp hall).mono ?_
                          rw [Gy.out]
                          dsimp only
                          rintro e' w14 ⟨Ay, cy, rfl, hry, hb⟩
                          replace hr1 := hr1.keep hb
                          replace hr2 := hr2.keep hb
                          replace hT := hT.keep hb
                          replace hra := hra.keep hb
                          replace hrb := hrb.keep hb
                          replace hfr := fr_call hfr hb
                          replace hX0 := hX0.keep hb
                          replace hc0 := fun j => hX0.cell j
                          replace hl0 := hX0.lt
                          replace hX1 := hX1.keep hb
                          replace hc1 := fun j => hX1.cell j
                          replace hl1 := hX1.lt
                          clear hb
                          go_wp2_with fail
                          refine (Keep_some A1 A2 n1 k1 n2 k2 c1 c1 e1 e1 last 3 fr tl (-1) (.leaps 0 0 0) _ hr1 hr2 hn1 hn2 hok rfl hm1 hsp hall).mono ?_
                          rw [Gz.out]
                          dsimp only
                          rintro e' w15 ⟨Az, cz, rfl, hrz, hb⟩
                          replace hr1 := hr1.keep hb
                          replace hr2 := hr2.keep hb
                          replace hT := hT.keep hb
                          replace hra := hra.keep hb
                          replace hrb := hrb.keep hb
                          replace hfr := fr_call hfr hb
                          replace hX0 := hX0.keep hb
                          replace hc0 := fun j => hX0.cell j
                          replace hl0 := hX0.lt
                          replace hX1 := hX1.keep hb
                          replace hc1 := fun j => hX1.cell j
                          replace hl1 := hX1.lt
                          clear hb
                          go_wp2_with fail
                          refine (known_is _ hT).mono ?_
                          rintro e' w16 ⟨rfl, hb⟩
                          replace hr1 := hr1.keep hb
                          replace hr2 := hr2.keep hb
                          replace hT := hT.keep hb
                          replace hra := hra.keep hb
                          replace hrb := hrb.keep hb
                          replace hfr := fr_call hfr hb
                          replace hX0 := hX0.keep hb
                          replace hc0 := fun j => hX0.cell j
                          replace hl0 := hX0.lt
                          replace hX1 := hX1.keep hb
                          replace hc1 := fun j => hX1.cell j
                          replace hl1 := hX1.lt
                          clear hb
                          go_wp2_with fail
                          go_ret
                          exact ⟨rfl, hfr⟩
              · have hbad : ∃ k : Nat, k < (tl - fr + 1).toNat ∧ onOf e1 c1 e2 c2 last (fr + k) = none := by
                  refine Classical.byContradiction fun h => hall fun k hk he => h ⟨k, hk, he⟩
                clear hall
                go_enter Tryz.func3, Tryz.ntmps3
                go_wp2_with fail
                have hfr := g1
                replace hr1 := hr1.keep g1
                replace hr2 := hr2.keep g1
                replace hT := hT.keep g1
                have hc0 := fun j => hX0.cell j
                have hl0 := hX0.lt
                refine (ltidy_is A1 A2 n1 k1 n2 k2 _ _ _ _ true hs).mono ?_
                rintro e' w1 ⟨rfl, hb⟩
                replace hr1 := hr1.keep hb
                replace hr2 := hr2.keep hb
                replace hT := hT.keep hb
                replace hfr := fr_call hfr hb
                replace hX0 := hX0.keep hb
                replace hc0 := fun j => hX0.cell j
                replace hl0 := hX0.lt
                clear hb
                go_wp2_with fail
                refine (rRealm_is A1 A2 n1 k1 n2 k2 c1 c2 e1 e2 last _ hr1 hr2 hn1 hn2 _ hok).mono ?_
                rintro e' w2 ⟨rfl, hb⟩
                replace hr1 := hr1.keep hb
                replace hr2 := hr2.keep hb
                replace hT := hT.keep hb
                replace hfr := fr_call hfr hb
                replace hX0 := hX0.keep hb
                replace hc0 := fun j => hX0.cell j
                replace hl0 := hX0.lt
                clear hb
                go_wp2_with fail
                refine (rDial_is _ _ _ hdk).mono ?_
                rintro e' w3 ⟨rfl, rfl⟩
                go_wp2_with fail
                refine (rComes_is _ _ _ hcm).mono ?_
                rintro e' w4 ⟨rfl, rfl⟩
                go_wp2_with fail
                refine (rSpan_is _ _ _ _ hsp).mono ?_
                rintro e' w5 ⟨rfl, rfl⟩
                go_wp2_with fail
                refine (Keep_none A1 A2 n1 k1 n2 k2 c1 c2 e1 e2 last kind fr tl (-1) x0 _ hr1 hr2 hn1 hn2 hok hx0 hm1 hsp hbad).mono ?_
                rintro e' w6 ⟨rfl, hb⟩
                replace hr1 := hr1.keep hb
                replace hr2 := hr2.keep hb
                replace hT := hT.keep hb
                replace hfr := fr_call hfr hb
                replace hX0 := hX0.keep hb
                replace hc0 := fun j => hX0.cell j
                replace hl0 := hX0.lt
                clear hb
                go_wp2_with fail
                refine (Keep_none A1 A2 n1 k1 n2 k2 c1 c2 e1 e2 last kind fr tl comes x0 _ hr1 hr2 hn1 hn2 hok hx0 hcm hsp hbad).mono ?_
                rintro e' w7 ⟨rfl, hb⟩
                replace hr1 := hr1.keep hb
                replace hr2 := hr2.keep hb
                replace hT := hT.keep hb
                replace hfr := fr_call hfr hb
                replace hX0 := hX0.keep hb
                replace hc0 := fun j => hX0.cell j
                replace hl0 := hX0.lt
                clear hb
                go_wp2_with fail
                refine (known_is _ hT).mono ?_
                rintro e' w8 ⟨rfl, hb⟩
                replace hr1 := hr1.keep hb
                replace hr2 := hr2.keep hb
                replace hT := hT.keep hb
                replace hfr := fr_call hfr hb
                replace hX0 := hX0.keep hb
                replace hc0 := fun j => hX0.cell j
                replace hl0 := hX0.lt
                clear hb
                go_wp2_with fail
                go_ret
                exact ⟨rfl, hfr⟩
end Go.Proofs.YtnppilaabobgiaaGreatDoor
