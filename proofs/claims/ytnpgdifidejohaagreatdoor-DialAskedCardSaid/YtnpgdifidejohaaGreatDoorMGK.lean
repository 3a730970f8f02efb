/- The law of questions asked: DialAsked, walked. -/
import Derived.Test.YtnpgdifidejohaaGreatDoorMEC
import Derived.Test.YtnpgdifidejohaaGreatDoorME2
import Derived.Test.YtnpgdifidejohaaGreatDoorME3
import Derived.Test.YtnpgdifidejohaaGreatDoorMD1
import Derived.Test.YtnpgdifidejohaaGreatDoorMD4
import Derived.Test.YtnpgdifidejohaaGreatDoorMC5
import Derived.Test.YtnpgdifidejohaaGreatDoorMC6
namespace Go.Proofs.YtnpgdifidejohaaGreatDoor
open Go.RowKit Dl

theorem bestN_spec (f : Nat → Int) : ∀ k, (bestN f k).2 = f (bestN f k).1 ∧ ((bestN f k).1 < k ∨ (bestN f k).1 = 0) ∧ ∀ i, i < k → (bestN f k).2 ≤ f i ∧ (f i = (bestN f k).2 → (bestN f k).1 ≤ i) := by
  intro k
  induction k with
  | zero => exact ⟨rfl, Or.inr rfl, fun i h => by omega⟩
  | succ k ih =>
    obtain ⟨h1, h2, h3⟩ := ih
    unfold bestN
    by_cases hlt : f k < (bestN f k).2
    · rw [if_pos hlt]
      refine ⟨rfl, Or.inl (by simp), fun i hi => ?_⟩
      simp only
      by_cases hik : i < k
      · have := h3 i hik; omega
      · obtain rfl : i = k := by omega
        exact ⟨Int.le_refl _, fun _ => Nat.le_refl _⟩
    · rw [if_neg hlt]
      refine ⟨h1, by omega, fun i hi => ?_⟩
      by_cases hik : i < k
      · exact h3 i hik
      · obtain rfl : i = k := by omega
        exact ⟨by omega, fun _ => by omega⟩
theorem bestN_more {f g : Nat → Int} {n : Nat} (hn : 0 < n) (h : ∀ i, i < n → g i = f i) : (bestN g (n + 1)).2 ≤ (bestN f n).2 := by
  have h1 := bestN_spec f n
  have h2 := (bestN_spec g (n + 1)).2.2 (bestN f n).1 (by omega)
  rw [h _ (by omega), ← h1.1] at h2
  exact h2.1
theorem ask_kind {l : List Fact} (h : asksB l = true) {f : Fact} (hf : f ∈ l) : kindB f (val_areQuestions f) = true := by
  unfold asksB at h
  rw [Bool.and_eq_true] at h
  have := h.2
  unfold all_areQuestions at this
  exact List.all_eq_true.1 this f hf
theorem asks_len {l : List Fact} (h : asksB l = true) : 1 ≤ l.length ∧ l.length ≤ 6 := by
  unfold asksB at h
  rw [Bool.and_eq_true] at h
  have := inB_iff.1 h.1
  omega

set_option maxRecDepth 100000 in
set_option maxHeartbeats 8000000 in
theorem asked_true (A L Q : Option Addr) (n c lc qc : Nat) (cs : List Int) (e num den add y z o k m d v : Int) (l q : List Fact) (w : World) (hr : Rd w A n cs) (hn : n ≤ 9223372036854775807) (hL : RdS w L 4 (l.map Fact.row)) (hln : l.length ≤ 9223372036854775807) (hQ : RdS w Q 4 (q.map Fact.row)) (hqn : q.length ≤ 9223372036854775807) (hT : TabP w) :
    Calls Tryz.prog 10 #[.agg #[.int .i64 e, .slice A n c], .agg #[.int .i64 num, .int .i64 den, .int .i64 add], .slice L l.length lc, .slice Q q.length qc, .int .i64 y, .int .i64 z, .int .i64 o, .agg #[.int .i64 k, .int .i64 m, .int .i64 d, .int .i64 v]] w fun e' w' => e' = .returned (.bool true) ∧ Below w.heap.size w w' := by
  have g1 := fr_alloc (fr_alloc (fr_alloc (fr_refl w) (.cells #[.int .i64 e, .slice A n c] 24)) (.cells #[.int .i64 num, .int .i64 den, .int .i64 add] 65)) (.cells #[.int .i64 k, .int .i64 m, .int .i64 d, .int .i64 v] 77)
  have hX0 : Blk (((w.alloc (.cells #[.int .i64 e, .slice A n c] 24)).alloc (.cells #[.int .i64 num, .int .i64 den, .int .i64 add] 65)).alloc (.cells #[.int .i64 k, .int .i64 m, .int .i64 d, .int .i64 v] 77)) (w.heap.size) 24 #[.int .i64 e, .slice A n c] := (((Blk.new_at _ _ (by simp)).alloc _).alloc _)
  have hX1 : Blk (((w.alloc (.cells #[.int .i64 e, .slice A n c] 24)).alloc (.cells #[.int .i64 num, .int .i64 den, .int .i64 add] 65)).alloc (.cells #[.int .i64 k, .int .i64 m, .int .i64 d, .int .i64 v] 77)) (w.heap.size + 1) 65 #[.int .i64 num, .int .i64 den, .int .i64 add] := ((Blk.new_at _ _ (by simp)).alloc _)
  have hX2 : Blk (((w.alloc (.cells #[.int .i64 e, .slice A n c] 24)).alloc (.cells #[.int .i64 num, .int .i64 den, .int .i64 add] 65)).alloc (.cells #[.int .i64 k, .int .i64 m, .int .i64 d, .int .i64 v] 77)) (w.heap.size + 1 + 1) 77 #[.int .i64 k, .int .i64 m, .int .i64 d, .int .i64 v] := (Blk.new_at _ _ (by simp))
  cases hs : decide ((n : Int) ≤ 5)
  · go_enter Tryz.func10, Tryz.ntmps10
    go_wp2_with fail
    have hfr := g1
    replace hr := hr.keep g1
    replace hL := hL.keep g1
    replace hQ := hQ.keep g1
    replace hT := hT.keep g1
    have hc0 := fun j => hX0.cell j
    have hc1 := fun j => hX1.cell j
    have hc2 := fun j => hX2.cell j
    have hl0 := hX0.lt
    have hl1 := hX1.lt
    have hl2 := hX2.lt
    refine (lshort_is A n c _ _ false hs).mono ?_
    rintro e' w1 ⟨rfl, hb⟩
    replace hr := hr.keep hb
    replace hL := hL.keep hb
    replace hQ := hQ.keep hb
    replace hT := hT.keep hb
    replace hfr := fr_call hfr hb
    replace hX0 := hX0.keep hb
    replace hc0 := fun j => hX0.cell j
    replace hl0 := hX0.lt
    replace hX1 := hX1.keep hb
    replace hc1 := fun j => hX1.cell j
    replace hl1 := hX1.lt
    replace hX2 := hX2.keep hb
    replace hc2 := fun j => hX2.cell j
    replace hl2 := hX2.lt
    clear hb
    go_wp2_with fail
    refine (known_is _ hT).mono ?_
    rintro e' w2 ⟨rfl, hb⟩
    replace hr := hr.keep hb
    replace hL := hL.keep hb
    replace hQ := hQ.keep hb
    replace hT := hT.keep hb
    replace hfr := fr_call hfr hb
    replace hX0 := hX0.keep hb
    replace hc0 := fun j => hX0.cell j
    replace hl0 := hX0.lt
    replace hX1 := hX1.keep hb
    replace hc1 := fun j => hX1.cell j
    replace hl1 := hX1.lt
    replace hX2 := hX2.keep hb
    replace hc2 := fun j => hX2.cell j
    replace hl2 := hX2.lt
    clear hb
    go_wp2_with fail
    go_ret
    exact ⟨rfl, hfr⟩
  · cases hl6 : decide ((5 : Int) < (l.length : Int))
    · have hl5 : l.length ≤ 5 := by have := of_decide_eq_false hl6; omega
      cases hsq : decide ((q.length : Int) ≤ 8)
      · go_enter Tryz.func10, Tryz.ntmps10
        go_wp2_with fail
        have hfr := g1
        replace hr := hr.keep g1
        replace hL := hL.keep g1
        replace hQ := hQ.keep g1
        replace hT := hT.keep g1
        have hc0 := fun j => hX0.cell j
        have hc1 := fun j => hX1.cell j
        have hc2 := fun j => hX2.cell j
        have hl0 := hX0.lt
        have hl1 := hX1.lt
        have hl2 := hX2.lt
        refine (lshort_is A n c _ _ true hs).mono ?_
        rintro e' w1 ⟨rfl, hb⟩
        replace hr := hr.keep hb
        replace hL := hL.keep hb
        replace hQ := hQ.keep hb
        replace hT := hT.keep hb
        replace hfr := fr_call hfr hb
        replace hX0 := hX0.keep hb
        replace hc0 := fun j => hX0.cell j
        replace hl0 := hX0.lt
        replace hX1 := hX1.keep hb
        replace hc1 := fun j => hX1.cell j
        replace hl1 := hX1.lt
        replace hX2 := hX2.keep hb
        replace hc2 := fun j => hX2.cell j
        replace hl2 := hX2.lt
        clear hb
        go_wp2_with fail
        refine (lsome_is Q q.length qc _ false hsq).mono ?_
        rintro e' w2 ⟨rfl, rfl⟩
        go_wp2_with fail
        refine (known_is _ hT).mono ?_
        rintro e' w3 ⟨rfl, hb⟩
        replace hr := hr.keep hb
        replace hL := hL.keep hb
        replace hQ := hQ.keep hb
        replace hT := hT.keep hb
        replace hfr := fr_call hfr hb
        replace hX0 := hX0.keep hb
        replace hc0 := fun j => hX0.cell j
        replace hl0 := hX0.lt
        replace hX1 := hX1.keep hb
        replace hc1 := fun j => hX1.cell j
        replace hl1 := hX1.lt
        replace hX2 := hX2.keep hb
        replace hc2 := fun j => hX2.cell j
        replace hl2 := hX2.lt
        clear hb
        go_wp2_with fail
        go_ret
        exact ⟨rfl, hfr⟩
      · cases hok : calOk e cs
        · go_enter Tryz.func10, Tryz.ntmps10
          go_wp2_with fail
          have hfr := g1
          replace hr := hr.keep g1
          replace hL := hL.keep g1
          replace hQ := hQ.keep g1
          replace hT := hT.keep g1
          have hc0 := fun j => hX0.cell j
          have hc1 := fun j => hX1.cell j
          have hc2 := fun j => hX2.cell j
          have hl0 := hX0.lt
          have hl1 := hX1.lt
          have hl2 := hX2.lt
          refine (lshort_is A n c _ _ true hs).mono ?_
          rintro e' w1 ⟨rfl, hb⟩
          replace hr := hr.keep hb
          replace hL := hL.keep hb
          replace hQ := hQ.keep hb
          replace hT := hT.keep hb
          replace hfr := fr_call hfr hb
          replace hX0 := hX0.keep hb
          replace hc0 := fun j => hX0.cell j
          replace hl0 := hX0.lt
          replace hX1 := hX1.keep hb
          replace hc1 := fun j => hX1.cell j
          replace hl1 := hX1.lt
          replace hX2 := hX2.keep hb
          replace hc2 := fun j => hX2.cell j
          replace hl2 := hX2.lt
          clear hb
          go_wp2_with fail
          refine (lsome_is Q q.length qc _ true hsq).mono ?_
          rintro e' w2 ⟨rfl, rfl⟩
          go_wp2_with fail
          refine (rCalendar_is A n c cs e _ hr hn _ hok).mono ?_
          rintro e' w3 ⟨rfl, hb⟩
          replace hr := hr.keep hb
          replace hL := hL.keep hb
          replace hQ := hQ.keep hb
          replace hT := hT.keep hb
          replace hfr := fr_call hfr hb
          replace hX0 := hX0.keep hb
          replace hc0 := fun j => hX0.cell j
          replace hl0 := hX0.lt
          replace hX1 := hX1.keep hb
          replace hc1 := fun j => hX1.cell j
          replace hl1 := hX1.lt
          replace hX2 := hX2.keep hb
          replace hc2 := fun j => hX2.cell j
          replace hl2 := hX2.lt
          clear hb
          go_wp2_with fail
          refine (known_is _ hT).mono ?_
          rintro e' w4 ⟨rfl, hb⟩
          replace hr := hr.keep hb
          replace hL := hL.keep hb
          replace hQ := hQ.keep hb
          replace hT := hT.keep hb
          replace hfr := fr_call hfr hb
          replace hX0 := hX0.keep hb
          replace hc0 := fun j => hX0.cell j
          replace hl0 := hX0.lt
          replace hX1 := hX1.keep hb
          replace hc1 := fun j => hX1.cell j
          replace hl1 := hX1.lt
          replace hX2 := hX2.keep hb
          replace hc2 := fun j => hX2.cell j
          replace hl2 := hX2.lt
          clear hb
          go_wp2_with fail
          go_ret
          exact ⟨rfl, hfr⟩
        · cases hm : moonB num den add
          · go_enter Tryz.func10, Tryz.ntmps10
            go_wp2_with fail
            have hfr := g1
            replace hr := hr.keep g1
            replace hL := hL.keep g1
            replace hQ := hQ.keep g1
            replace hT := hT.keep g1
            have hc0 := fun j => hX0.cell j
            have hc1 := fun j => hX1.cell j
            have hc2 := fun j => hX2.cell j
            have hl0 := hX0.lt
            have hl1 := hX1.lt
            have hl2 := hX2.lt
            refine (lshort_is A n c _ _ true hs).mono ?_
            rintro e' w1 ⟨rfl, hb⟩
            replace hr := hr.keep hb
            replace hL := hL.keep hb
            replace hQ := hQ.keep hb
            replace hT := hT.keep hb
            replace hfr := fr_call hfr hb
            replace hX0 := hX0.keep hb
            replace hc0 := fun j => hX0.cell j
            replace hl0 := hX0.lt
            replace hX1 := hX1.keep hb
            replace hc1 := fun j => hX1.cell j
            replace hl1 := hX1.lt
            replace hX2 := hX2.keep hb
            replace hc2 := fun j => hX2.cell j
            replace hl2 := hX2.lt
            clear hb
            go_wp2_with fail
            refine (lsome_is Q q.length qc _ true hsq).mono ?_
            rintro e' w2 ⟨rfl, rfl⟩
            go_wp2_with fail
            refine (rCalendar_is A n c cs e _ hr hn _ hok).mono ?_
            rintro e' w3 ⟨rfl, hb⟩
            replace hr := hr.keep hb
            replace hL := hL.keep hb
            replace hQ := hQ.keep hb
            replace hT := hT.keep hb
            replace hfr := fr_call hfr hb
            replace hX0 := hX0.keep hb
            replace hc0 := fun j => hX0.cell j
            replace hl0 := hX0.lt
            replace hX1 := hX1.keep hb
            replace hc1 := fun j => hX1.cell j
            replace hl1 := hX1.lt
            replace hX2 := hX2.keep hb
            replace hc2 := fun j => hX2.cell j
            replace hl2 := hX2.lt
            clear hb
            go_wp2_with fail
            refine (rMoon_is _ _ _ _ _ hm).mono ?_
            rintro e' w4 ⟨rfl, hb⟩
            replace hr := hr.keep hb
            replace hL := hL.keep hb
            replace hQ := hQ.keep hb
            replace hT := hT.keep hb
            replace hfr := fr_call hfr hb
            replace hX0 := hX0.keep hb
            replace hc0 := fun j => hX0.cell j
            replace hl0 := hX0.lt
            replace hX1 := hX1.keep hb
            replace hc1 := fun j => hX1.cell j
            replace hl1 := hX1.lt
            replace hX2 := hX2.keep hb
            replace hc2 := fun j => hX2.cell j
            replace hl2 := hX2.lt
            clear hb
            go_wp2_with fail
            refine (known_is _ hT).mono ?_
            rintro e' w5 ⟨rfl, hb⟩
            replace hr := hr.keep hb
            replace hL := hL.keep hb
            replace hQ := hQ.keep hb
            replace hT := hT.keep hb
            replace hfr := fr_call hfr hb
            replace hX0 := hX0.keep hb
            replace hc0 := fun j => hX0.cell j
            replace hl0 := hX0.lt
            replace hX1 := hX1.keep hb
            replace hc1 := fun j => hX1.cell j
            replace hl1 := hX1.lt
            replace hX2 := hX2.keep hb
            replace hc2 := fun j => hX2.cell j
            replace hl2 := hX2.lt
            clear hb
            go_wp2_with fail
            go_ret
            exact ⟨rfl, hfr⟩
          · cases hf : factsB l
            · go_enter Tryz.func10, Tryz.ntmps10
              go_wp2_with fail
              have hfr := g1
              replace hr := hr.keep g1
              replace hL := hL.keep g1
              replace hQ := hQ.keep g1
              replace hT := hT.keep g1
              have hc0 := fun j => hX0.cell j
              have hc1 := fun j => hX1.cell j
              have hc2 := fun j => hX2.cell j
              have hl0 := hX0.lt
              have hl1 := hX1.lt
              have hl2 := hX2.lt
              refine (lshort_is A n c _ _ true hs).mono ?_
              rintro e' w1 ⟨rfl, hb⟩
              replace hr := hr.keep hb
              replace hL := hL.keep hb
              replace hQ := hQ.keep hb
              replace hT := hT.keep hb
              replace hfr := fr_call hfr hb
              replace hX0 := hX0.keep hb
              replace hc0 := fun j => hX0.cell j
              replace hl0 := hX0.lt
              replace hX1 := hX1.keep hb
              replace hc1 := fun j => hX1.cell j
              replace hl1 := hX1.lt
              replace hX2 := hX2.keep hb
              replace hc2 := fun j => hX2.cell j
              replace hl2 := hX2.lt
              clear hb
              go_wp2_with fail
              refine (lsome_is Q q.length qc _ true hsq).mono ?_
              rintro e' w2 ⟨rfl, rfl⟩
              go_wp2_with fail
              refine (rCalendar_is A n c cs e _ hr hn _ hok).mono ?_
              rintro e' w3 ⟨rfl, hb⟩
              replace hr := hr.keep hb
              replace hL := hL.keep hb
              replace hQ := hQ.keep hb
              replace hT := hT.keep hb
              replace hfr := fr_call hfr hb
              replace hX0 := hX0.keep hb
              replace hc0 := fun j => hX0.cell j
              replace hl0 := hX0.lt
              replace hX1 := hX1.keep hb
              replace hc1 := fun j => hX1.cell j
              replace hl1 := hX1.lt
              replace hX2 := hX2.keep hb
              replace hc2 := fun j => hX2.cell j
              replace hl2 := hX2.lt
              clear hb
              go_wp2_with fail
              refine (rMoon_is _ _ _ _ _ hm).mono ?_
              rintro e' w4 ⟨rfl, hb⟩
              replace hr := hr.keep hb
              replace hL := hL.keep hb
              replace hQ := hQ.keep hb
              replace hT := hT.keep hb
              replace hfr := fr_call hfr hb
              replace hX0 := hX0.keep hb
              replace hc0 := fun j => hX0.cell j
              replace hl0 := hX0.lt
              replace hX1 := hX1.keep hb
              replace hc1 := fun j => hX1.cell j
              replace hl1 := hX1.lt
              replace hX2 := hX2.keep hb
              replace hc2 := fun j => hX2.cell j
              replace hl2 := hX2.lt
              clear hb
              go_wp2_with fail
              refine (rFacts_is L lc l _ hL hln _ hf).mono ?_
              rintro e' w5 ⟨rfl, hb⟩
              replace hr := hr.keep hb
              replace hL := hL.keep hb
              replace hQ := hQ.keep hb
              replace hT := hT.keep hb
              replace hfr := fr_call hfr hb
              replace hX0 := hX0.keep hb
              replace hc0 := fun j => hX0.cell j
              replace hl0 := hX0.lt
              replace hX1 := hX1.keep hb
              replace hc1 := fun j => hX1.cell j
              replace hl1 := hX1.lt
              replace hX2 := hX2.keep hb
              replace hc2 := fun j => hX2.cell j
              replace hl2 := hX2.lt
              clear hb
              go_wp2_with fail
              refine (known_is _ hT).mono ?_
              rintro e' w6 ⟨rfl, hb⟩
              replace hr := hr.keep hb
              replace hL := hL.keep hb
              replace hQ := hQ.keep hb
              replace hT := hT.keep hb
              replace hfr := fr_call hfr hb
              replace hX0 := hX0.keep hb
              replace hc0 := fun j => hX0.cell j
              replace hl0 := hX0.lt
              replace hX1 := hX1.keep hb
              replace hc1 := fun j => hX1.cell j
              replace hl1 := hX1.lt
              replace hX2 := hX2.keep hb
              replace hc2 := fun j => hX2.cell j
              replace hl2 := hX2.lt
              clear hb
              go_wp2_with fail
              go_ret
              exact ⟨rfl, hfr⟩
            · cases hq : asksB q
              · go_enter Tryz.func10, Tryz.ntmps10
                go_wp2_with fail
                have hfr := g1
                replace hr := hr.keep g1
                replace hL := hL.keep g1
                replace hQ := hQ.keep g1
                replace hT := hT.keep g1
                have hc0 := fun j => hX0.cell j
                have hc1 := fun j => hX1.cell j
                have hc2 := fun j => hX2.cell j
                have hl0 := hX0.lt
                have hl1 := hX1.lt
                have hl2 := hX2.lt
                refine (lshort_is A n c _ _ true hs).mono ?_
                rintro e' w1 ⟨rfl, hb⟩
                replace hr := hr.keep hb
                replace hL := hL.keep hb
                replace hQ := hQ.keep hb
                replace hT := hT.keep hb
                replace hfr := fr_call hfr hb
                replace hX0 := hX0.keep hb
                replace hc0 := fun j => hX0.cell j
                replace hl0 := hX0.lt
                replace hX1 := hX1.keep hb
                replace hc1 := fun j => hX1.cell j
                replace hl1 := hX1.lt
                replace hX2 := hX2.keep hb
                replace hc2 := fun j => hX2.cell j
                replace hl2 := hX2.lt
                clear hb
                go_wp2_with fail
                refine (lsome_is Q q.length qc _ true hsq).mono ?_
                rintro e' w2 ⟨rfl, rfl⟩
                go_wp2_with fail
                refine (rCalendar_is A n c cs e _ hr hn _ hok).mono ?_
                rintro e' w3 ⟨rfl, hb⟩
                replace hr := hr.keep hb
                replace hL := hL.keep hb
                replace hQ := hQ.keep hb
                replace hT := hT.keep hb
                replace hfr := fr_call hfr hb
                replace hX0 := hX0.keep hb
                replace hc0 := fun j => hX0.cell j
                replace hl0 := hX0.lt
                replace hX1 := hX1.keep hb
                replace hc1 := fun j => hX1.cell j
                replace hl1 := hX1.lt
                replace hX2 := hX2.keep hb
                replace hc2 := fun j => hX2.cell j
                replace hl2 := hX2.lt
                clear hb
                go_wp2_with fail
                refine (rMoon_is _ _ _ _ _ hm).mono ?_
                rintro e' w4 ⟨rfl, hb⟩
                replace hr := hr.keep hb
                replace hL := hL.keep hb
                replace hQ := hQ.keep hb
                replace hT := hT.keep hb
                replace hfr := fr_call hfr hb
                replace hX0 := hX0.keep hb
                replace hc0 := fun j => hX0.cell j
                replace hl0 := hX0.lt
                replace hX1 := hX1.keep hb
                replace hc1 := fun j => hX1.cell j
                replace hl1 := hX1.lt
                replace hX2 := hX2.keep hb
                replace hc2 := fun j => hX2.cell j
                replace hl2 := hX2.lt
                clear hb
                go_wp2_with fail
                refine (rFacts_is L lc l _ hL hln _ hf).mono ?_
                rintro e' w5 ⟨rfl, hb⟩
                replace hr := hr.keep hb
                replace hL := hL.keep hb
                replace hQ := hQ.keep hb
                replace hT := hT.keep hb
                replace hfr := fr_call hfr hb
                replace hX0 := hX0.keep hb
                replace hc0 := fun j => hX0.cell j
                replace hl0 := hX0.lt
                replace hX1 := hX1.keep hb
                replace hc1 := fun j => hX1.cell j
                replace hl1 := hX1.lt
                replace hX2 := hX2.keep hb
                replace hc2 := fun j => hX2.cell j
                replace hl2 := hX2.lt
                clear hb
                go_wp2_with fail
                refine (rAsks_is Q qc q _ hQ hqn _ hq).mono ?_
                rintro e' w6 ⟨rfl, hb⟩
                replace hr := hr.keep hb
                replace hL := hL.keep hb
                replace hQ := hQ.keep hb
                replace hT := hT.keep hb
                replace hfr := fr_call hfr hb
                replace hX0 := hX0.keep hb
                replace hc0 := fun j => hX0.cell j
                replace hl0 := hX0.lt
                replace hX1 := hX1.keep hb
                replace hc1 := fun j => hX1.cell j
                replace hl1 := hX1.lt
                replace hX2 := hX2.keep hb
                replace hc2 := fun j => hX2.cell j
                replace hl2 := hX2.lt
                clear hb
                go_wp2_with fail
                refine (known_is _ hT).mono ?_
                rintro e' w7 ⟨rfl, hb⟩
                replace hr := hr.keep hb
                replace hL := hL.keep hb
                replace hQ := hQ.keep hb
                replace hT := hT.keep hb
                replace hfr := fr_call hfr hb
                replace hX0 := hX0.keep hb
                replace hc0 := fun j => hX0.cell j
                replace hl0 := hX0.lt
                replace hX1 := hX1.keep hb
                replace hc1 := fun j => hX1.cell j
                replace hl1 := hX1.lt
                replace hX2 := hX2.keep hb
                replace hc2 := fun j => hX2.cell j
                replace hl2 := hX2.lt
                clear hb
                go_wp2_with fail
                go_ret
                exact ⟨rfl, hfr⟩
              · cases hg : rangeB y z
                · go_enter Tryz.func10, Tryz.ntmps10
                  go_wp2_with fail
                  have hfr := g1
                  replace hr := hr.keep g1
                  replace hL := hL.keep g1
                  replace hQ := hQ.keep g1
                  replace hT := hT.keep g1
                  have hc0 := fun j => hX0.cell j
                  have hc1 := fun j => hX1.cell j
                  have hc2 := fun j => hX2.cell j
                  have hl0 := hX0.lt
                  have hl1 := hX1.lt
                  have hl2 := hX2.lt
                  refine (lshort_is A n c _ _ true hs).mono ?_
                  rintro e' w1 ⟨rfl, hb⟩
                  replace hr := hr.keep hb
                  replace hL := hL.keep hb
                  replace hQ := hQ.keep hb
                  replace hT := hT.keep hb
                  replace hfr := fr_call hfr hb
                  replace hX0 := hX0.keep hb
                  replace hc0 := fun j => hX0.cell j
                  replace hl0 := hX0.lt
                  replace hX1 := hX1.keep hb
                  replace hc1 := fun j => hX1.cell j
                  replace hl1 := hX1.lt
                  replace hX2 := hX2.keep hb
                  replace hc2 := fun j => hX2.cell j
                  replace hl2 := hX2.lt
                  clear hb
                  go_wp2_with fail
                  refine (lsome_is Q q.length qc _ true hsq).mono ?_
                  rintro e' w2 ⟨rfl, rfl⟩
                  go_wp2_with fail
                  refine (rCalendar_is A n c cs e _ hr hn _ hok).mono ?_
                  rintro e' w3 ⟨rfl, hb⟩
                  replace hr := hr.keep hb
                  replace hL := hL.keep hb
                  replace hQ := hQ.keep hb
                  replace hT := hT.keep hb
                  replace hfr := fr_call hfr hb
                  replace hX0 := hX0.keep hb
                  replace hc0 := fun j => hX0.cell j
                  replace hl0 := hX0.lt
                  replace hX1 := hX1.keep hb
                  replace hc1 := fun j => hX1.cell j
                  replace hl1 := hX1.lt
                  replace hX2 := hX2.keep hb
                  replace hc2 := fun j => hX2.cell j
                  replace hl2 := hX2.lt
                  clear hb
                  go_wp2_with fail
                  refine (rMoon_is _ _ _ _ _ hm).mono ?_
                  rintro e' w4 ⟨rfl, hb⟩
                  replace hr := hr.keep hb
                  replace hL := hL.keep hb
                  replace hQ := hQ.keep hb
                  replace hT := hT.keep hb
                  replace hfr := fr_call hfr hb
                  replace hX0 := hX0.keep hb
                  replace hc0 := fun j => hX0.cell j
                  replace hl0 := hX0.lt
                  replace hX1 := hX1.keep hb
                  replace hc1 := fun j => hX1.cell j
                  replace hl1 := hX1.lt
                  replace hX2 := hX2.keep hb
                  replace hc2 := fun j => hX2.cell j
                  replace hl2 := hX2.lt
                  clear hb
                  go_wp2_with fail
                  refine (rFacts_is L lc l _ hL hln _ hf).mono ?_
                  rintro e' w5 ⟨rfl, hb⟩
                  replace hr := hr.keep hb
                  replace hL := hL.keep hb
                  replace hQ := hQ.keep hb
                  replace hT := hT.keep hb
                  replace hfr := fr_call hfr hb
                  replace hX0 := hX0.keep hb
                  replace hc0 := fun j => hX0.cell j
                  replace hl0 := hX0.lt
                  replace hX1 := hX1.keep hb
                  replace hc1 := fun j => hX1.cell j
                  replace hl1 := hX1.lt
                  replace hX2 := hX2.keep hb
                  replace hc2 := fun j => hX2.cell j
                  replace hl2 := hX2.lt
                  clear hb
                  go_wp2_with fail
                  refine (rAsks_is Q qc q _ hQ hqn _ hq).mono ?_
                  rintro e' w6 ⟨rfl, hb⟩
                  replace hr := hr.keep hb
                  replace hL := hL.keep hb
                  replace hQ := hQ.keep hb
                  replace hT := hT.keep hb
                  replace hfr := fr_call hfr hb
                  replace hX0 := hX0.keep hb
                  replace hc0 := fun j => hX0.cell j
                  replace hl0 := hX0.lt
                  replace hX1 := hX1.keep hb
                  replace hc1 := fun j => hX1.cell j
                  replace hl1 := hX1.lt
                  replace hX2 := hX2.keep hb
                  replace hc2 := fun j => hX2.cell j
                  replace hl2 := hX2.lt
                  clear hb
                  go_wp2_with fail
                  refine (rRange_is y z _ _ hg).mono ?_
                  rintro e' w7 ⟨rfl, rfl⟩
                  go_wp2_with fail
                  refine (known_is _ hT).mono ?_
                  rintro e' w8 ⟨rfl, hb⟩
                  replace hr := hr.keep hb
                  replace hL := hL.keep hb
                  replace hQ := hQ.keep hb
                  replace hT := hT.keep hb
                  replace hfr := fr_call hfr hb
                  replace hX0 := hX0.keep hb
                  replace hc0 := fun j => hX0.cell j
                  replace hl0 := hX0.lt
                  replace hX1 := hX1.keep hb
                  replace hc1 := fun j => hX1.cell j
                  replace hl1 := hX1.lt
                  replace hX2 := hX2.keep hb
                  replace hc2 := fun j => hX2.cell j
                  replace hl2 := hX2.lt
                  clear hb
                  go_wp2_with fail
                  go_ret
                  exact ⟨rfl, hfr⟩
                · obtain ⟨⟨hy1, hy2⟩, ⟨hz1, hz2⟩, hyz1, hyz2⟩ := range_parts hg
                  have hyl : (yearsOf e cs num den add l y (z - y + 1).toNat).length ≤ (z - y + 1).toNat := yearsOf_len e num den add y cs l _
                  obtain ⟨ys, gys⟩ : ∃ ys, yearsOf e cs num den add l y (z - y + 1).toNat = ys := ⟨_, rfl⟩
                  rw [gys] at hyl
                  have HYS := Lib.hid gys
                  clear gys
                  have hyl2 : (ys.length : Int) ≤ z - y + 1 := by omega
                  have hyl5 : ys.length ≤ 500 := by omega
                  clear hyl
                  by_cases h30 : 30 < z - y
                  · go_enter Tryz.func10, Tryz.ntmps10
                    go_wp2_with fail
                    have hfr := g1
                    replace hr := hr.keep g1
                    replace hL := hL.keep g1
                    replace hQ := hQ.keep g1
                    replace hT := hT.keep g1
                    have hc0 := fun j => hX0.cell j
                    have hc1 := fun j => hX1.cell j
                    have hc2 := fun j => hX2.cell j
                    have hl0 := hX0.lt
                    have hl1 := hX1.lt
                    have hl2 := hX2.lt
                    refine (lshort_is A n c _ _ true hs).mono ?_
                    rintro e' w1 ⟨rfl, hb⟩
                    replace hr := hr.keep hb
                    replace hL := hL.keep hb
                    replace hQ := hQ.keep hb
                    replace hT := hT.keep hb
                    replace hfr := fr_call hfr hb
                    replace hX0 := hX0.keep hb
                    replace hc0 := fun j => hX0.cell j
                    replace hl0 := hX0.lt
                    replace hX1 := hX1.keep hb
                    replace hc1 := fun j => hX1.cell j
                    replace hl1 := hX1.lt
                    replace hX2 := hX2.keep hb
                    replace hc2 := fun j => hX2.cell j
                    replace hl2 := hX2.lt
                    clear hb
                    go_wp2_with fail
                    refine (lsome_is Q q.length qc _ true hsq).mono ?_
                    rintro e' w2 ⟨rfl, rfl⟩
                    go_wp2_with fail
                    refine (rCalendar_is A n c cs e _ hr hn _ hok).mono ?_
                    rintro e' w3 ⟨rfl, hb⟩
                    replace hr := hr.keep hb
                    replace hL := hL.keep hb
                    replace hQ := hQ.keep hb
                    replace hT := hT.keep hb
                    replace hfr := fr_call hfr hb
                    replace hX0 := hX0.keep hb
                    replace hc0 := fun j => hX0.cell j
                    replace hl0 := hX0.lt
                    replace hX1 := hX1.keep hb
                    replace hc1 := fun j => hX1.cell j
                    replace hl1 := hX1.lt
                    replace hX2 := hX2.keep hb
                    replace hc2 := fun j => hX2.cell j
                    replace hl2 := hX2.lt
                    clear hb
                    go_wp2_with fail
                    refine (rMoon_is _ _ _ _ _ hm).mono ?_
                    rintro e' w4 ⟨rfl, hb⟩
                    replace hr := hr.keep hb
                    replace hL := hL.keep hb
                    replace hQ := hQ.keep hb
                    replace hT := hT.keep hb
                    replace hfr := fr_call hfr hb
                    replace hX0 := hX0.keep hb
                    replace hc0 := fun j => hX0.cell j
                    replace hl0 := hX0.lt
                    replace hX1 := hX1.keep hb
                    replace hc1 := fun j => hX1.cell j
                    replace hl1 := hX1.lt
                    replace hX2 := hX2.keep hb
                    replace hc2 := fun j => hX2.cell j
                    replace hl2 := hX2.lt
                    clear hb
                    go_wp2_with fail
                    refine (rFacts_is L lc l _ hL hln _ hf).mono ?_
                    rintro e' w5 ⟨rfl, hb⟩
                    replace hr := hr.keep hb
                    replace hL := hL.keep hb
                    replace hQ := hQ.keep hb
                    replace hT := hT.keep hb
                    replace hfr := fr_call hfr hb
                    replace hX0 := hX0.keep hb
                    replace hc0 := fun j => hX0.cell j
                    replace hl0 := hX0.lt
                    replace hX1 := hX1.keep hb
                    replace hc1 := fun j => hX1.cell j
                    replace hl1 := hX1.lt
                    replace hX2 := hX2.keep hb
                    replace hc2 := fun j => hX2.cell j
                    replace hl2 := hX2.lt
                    clear hb
                    go_wp2_with fail
                    refine (rAsks_is Q qc q _ hQ hqn _ hq).mono ?_
                    rintro e' w6 ⟨rfl, hb⟩
                    replace hr := hr.keep hb
                    replace hL := hL.keep hb
                    replace hQ := hQ.keep hb
                    replace hT := hT.keep hb
                    replace hfr := fr_call hfr hb
                    replace hX0 := hX0.keep hb
                    replace hc0 := fun j => hX0.cell j
                    replace hl0 := hX0.lt
                    replace hX1 := hX1.keep hb
                    replace hc1 := fun j => hX1.cell j
                    replace hl1 := hX1.lt
                    replace hX2 := hX2.keep hb
                    replace hc2 := fun j => hX2.cell j
                    replace hl2 := hX2.lt
                    clear hb
                    go_wp2_with fail
                    refine (rRange_is y z _ _ hg).mono ?_
                    rintro e' w7 ⟨rfl, rfl⟩
                    go_wp2_with fail
                    refine (known_is _ hT).mono ?_
                    rintro e' w8 ⟨rfl, hb⟩
                    replace hr := hr.keep hb
                    replace hL := hL.keep hb
                    replace hQ := hQ.keep hb
                    replace hT := hT.keep hb
                    replace hfr := fr_call hfr hb
                    replace hX0 := hX0.keep hb
                    replace hc0 := fun j => hX0.cell j
                    replace hl0 := hX0.lt
                    replace hX1 := hX1.keep hb
                    replace hc1 := fun j => hX1.cell j
                    replace hl1 := hX1.lt
                    replace hX2 := hX2.keep hb
                    replace hc2 := fun j => hX2.cell j
                    replace hl2 := hX2.lt
                    clear hb
                    go_wp2_with fail
                    go_ret
                    exact ⟨rfl, hfr⟩
                  · by_cases ho1 : o < 0
                    · go_enter Tryz.func10, Tryz.ntmps10
                      go_wp2_with fail
                      have hfr := g1
                      replace hr := hr.keep g1
                      replace hL := hL.keep g1
                      replace hQ := hQ.keep g1
                      replace hT := hT.keep g1
                      have hc0 := fun j => hX0.cell j
                      have hc1 := fun j => hX1.cell j
                      have hc2 := fun j => hX2.cell j
                      have hl0 := hX0.lt
                      have hl1 := hX1.lt
                      have hl2 := hX2.lt
                      refine (lshort_is A n c _ _ true hs).mono ?_
                      rintro e' w1 ⟨rfl, hb⟩
                      replace hr := hr.keep hb
                      replace hL := hL.keep hb
                      replace hQ := hQ.keep hb
                      replace hT := hT.keep hb
                      replace hfr := fr_call hfr hb
                      replace hX0 := hX0.keep hb
                      replace hc0 := fun j => hX0.cell j
                      replace hl0 := hX0.lt
                      replace hX1 := hX1.keep hb
                      replace hc1 := fun j => hX1.cell j
                      replace hl1 := hX1.lt
                      replace hX2 := hX2.keep hb
                      replace hc2 := fun j => hX2.cell j
                      replace hl2 := hX2.lt
                      clear hb
                      go_wp2_with fail
                      refine (lsome_is Q q.length qc _ true hsq).mono ?_
                      rintro e' w2 ⟨rfl, rfl⟩
                      go_wp2_with fail
                      refine (rCalendar_is A n c cs e _ hr hn _ hok).mono ?_
                      rintro e' w3 ⟨rfl, hb⟩
                      replace hr := hr.keep hb
                      replace hL := hL.keep hb
                      replace hQ := hQ.keep hb
                      replace hT := hT.keep hb
                      replace hfr := fr_call hfr hb
                      replace hX0 := hX0.keep hb
                      replace hc0 := fun j => hX0.cell j
                      replace hl0 := hX0.lt
                      replace hX1 := hX1.keep hb
                      replace hc1 := fun j => hX1.cell j
                      replace hl1 := hX1.lt
                      replace hX2 := hX2.keep hb
                      replace hc2 := fun j => hX2.cell j
                      replace hl2 := hX2.lt
                      clear hb
                      go_wp2_with fail
                      refine (rMoon_is _ _ _ _ _ hm).mono ?_
                      rintro e' w4 ⟨rfl, hb⟩
                      replace hr := hr.keep hb
                      replace hL := hL.keep hb
                      replace hQ := hQ.keep hb
                      replace hT := hT.keep hb
                      replace hfr := fr_call hfr hb
                      replace hX0 := hX0.keep hb
                      replace hc0 := fun j => hX0.cell j
                      replace hl0 := hX0.lt
                      replace hX1 := hX1.keep hb
                      replace hc1 := fun j => hX1.cell j
                      replace hl1 := hX1.lt
                      replace hX2 := hX2.keep hb
                      replace hc2 := fun j => hX2.cell j
                      replace hl2 := hX2.lt
                      clear hb
                      go_wp2_with fail
                      refine (rFacts_is L lc l _ hL hln _ hf).mono ?_
                      rintro e' w5 ⟨rfl, hb⟩
                      replace hr := hr.keep hb
                      replace hL := hL.keep hb
                      replace hQ := hQ.keep hb
                      replace hT := hT.keep hb
                      replace hfr := fr_call hfr hb
                      replace hX0 := hX0.keep hb
                      replace hc0 := fun j => hX0.cell j
                      replace hl0 := hX0.lt
                      replace hX1 := hX1.keep hb
                      replace hc1 := fun j => hX1.cell j
                      replace hl1 := hX1.lt
                      replace hX2 := hX2.keep hb
                      replace hc2 := fun j => hX2.cell j
                      replace hl2 := hX2.lt
                      clear hb
                      go_wp2_with fail
                      refine (rAsks_is Q qc q _ hQ hqn _ hq).mono ?_
                      rintro e' w6 ⟨rfl, hb⟩
                      replace hr := hr.keep hb
                      replace hL := hL.keep hb
                      replace hQ := hQ.keep hb
                      replace hT := hT.keep hb
                      replace hfr := fr_call hfr hb
                      replace hX0 := hX0.keep hb
                      replace hc0 := fun j => hX0.cell j
                      replace hl0 := hX0.lt
                      replace hX1 := hX1.keep hb
                      replace hc1 := fun j => hX1.cell j
                      replace hl1 := hX1.lt
                      replace hX2 := hX2.keep hb
                      replace hc2 := fun j => hX2.cell j
                      replace hl2 := hX2.lt
                      clear hb
                      go_wp2_with fail
                      refine (rRange_is y z _ _ hg).mono ?_
                      rintro e' w7 ⟨rfl, rfl⟩
                      go_wp2_with fail
                      refine (known_is _ hT).mono ?_
                      rintro e' w8 ⟨rfl, hb⟩
                      replace hr := hr.keep hb
                      replace hL := hL.keep hb
                      replace hQ := hQ.keep hb
                      replace hT := hT.keep hb
                      replace hfr := fr_call hfr hb
                      replace hX0 := hX0.keep hb
                      replace hc0 := fun j => hX0.cell j
                      replace hl0 := hX0.lt
                      replace hX1 := hX1.keep hb
                      replace hc1 := fun j => hX1.cell j
                      replace hl1 := hX1.lt
                      replace hX2 := hX2.keep hb
                      replace hc2 := fun j => hX2.cell j
                      replace hl2 := hX2.lt
                      clear hb
                      go_wp2_with fail
                      go_ret
                      exact ⟨rfl, hfr⟩
                    · by_cases ho2 : (q.length : Int) ≤ o
                      · go_enter Tryz.func10, Tryz.ntmps10
                        go_wp2_with fail
                        have hfr := g1
                        replace hr := hr.keep g1
                        replace hL := hL.keep g1
                        replace hQ := hQ.keep g1
                        replace hT := hT.keep g1
                        have hc0 := fun j => hX0.cell j
                        have hc1 := fun j => hX1.cell j
                        have hc2 := fun j => hX2.cell j
                        have hl0 := hX0.lt
                        have hl1 := hX1.lt
                        have hl2 := hX2.lt
                        refine (lshort_is A n c _ _ true hs).mono ?_
                        rintro e' w1 ⟨rfl, hb⟩
                        replace hr := hr.keep hb
                        replace hL := hL.keep hb
                        replace hQ := hQ.keep hb
                        replace hT := hT.keep hb
                        replace hfr := fr_call hfr hb
                        replace hX0 := hX0.keep hb
                        replace hc0 := fun j => hX0.cell j
                        replace hl0 := hX0.lt
                        replace hX1 := hX1.keep hb
                        replace hc1 := fun j => hX1.cell j
                        replace hl1 := hX1.lt
                        replace hX2 := hX2.keep hb
                        replace hc2 := fun j => hX2.cell j
                        replace hl2 := hX2.lt
                        clear hb
                        go_wp2_with fail
                        refine (lsome_is Q q.length qc _ true hsq).mono ?_
                        rintro e' w2 ⟨rfl, rfl⟩
                        go_wp2_with fail
                        refine (rCalendar_is A n c cs e _ hr hn _ hok).mono ?_
                        rintro e' w3 ⟨rfl, hb⟩
                        replace hr := hr.keep hb
                        replace hL := hL.keep hb
                        replace hQ := hQ.keep hb
                        replace hT := hT.keep hb
                        replace hfr := fr_call hfr hb
                        replace hX0 := hX0.keep hb
                        replace hc0 := fun j => hX0.cell j
                        replace hl0 := hX0.lt
                        replace hX1 := hX1.keep hb
                        replace hc1 := fun j => hX1.cell j
                        replace hl1 := hX1.lt
                        replace hX2 := hX2.keep hb
                        replace hc2 := fun j => hX2.cell j
                        replace hl2 := hX2.lt
                        clear hb
                        go_wp2_with fail
                        refine (rMoon_is _ _ _ _ _ hm).mono ?_
                        rintro e' w4 ⟨rfl, hb⟩
                        replace hr := hr.keep hb
                        replace hL := hL.keep hb
                        replace hQ := hQ.keep hb
                        replace hT := hT.keep hb
                        replace hfr := fr_call hfr hb
                        replace hX0 := hX0.keep hb
                        replace hc0 := fun j => hX0.cell j
                        replace hl0 := hX0.lt
                        replace hX1 := hX1.keep hb
                        replace hc1 := fun j => hX1.cell j
                        replace hl1 := hX1.lt
                        replace hX2 := hX2.keep hb
                        replace hc2 := fun j => hX2.cell j
                        replace hl2 := hX2.lt
                        clear hb
                        go_wp2_with fail
                        refine (rFacts_is L lc l _ hL hln _ hf).mono ?_
                        rintro e' w5 ⟨rfl, hb⟩
                        replace hr := hr.keep hb
                        replace hL := hL.keep hb
                        replace hQ := hQ.keep hb
                        replace hT := hT.keep hb
                        replace hfr := fr_call hfr hb
                        replace hX0 := hX0.keep hb
                        replace hc0 := fun j => hX0.cell j
                        replace hl0 := hX0.lt
                        replace hX1 := hX1.keep hb
                        replace hc1 := fun j => hX1.cell j
                        replace hl1 := hX1.lt
                        replace hX2 := hX2.keep hb
                        replace hc2 := fun j => hX2.cell j
                        replace hl2 := hX2.lt
                        clear hb
                        go_wp2_with fail
                        refine (rAsks_is Q qc q _ hQ hqn _ hq).mono ?_
                        rintro e' w6 ⟨rfl, hb⟩
                        replace hr := hr.keep hb
                        replace hL := hL.keep hb
                        replace hQ := hQ.keep hb
                        replace hT := hT.keep hb
                        replace hfr := fr_call hfr hb
                        replace hX0 := hX0.keep hb
                        replace hc0 := fun j => hX0.cell j
                        replace hl0 := hX0.lt
                        replace hX1 := hX1.keep hb
                        replace hc1 := fun j => hX1.cell j
                        replace hl1 := hX1.lt
                        replace hX2 := hX2.keep hb
                        replace hc2 := fun j => hX2.cell j
                        replace hl2 := hX2.lt
                        clear hb
                        go_wp2_with fail
                        refine (rRange_is y z _ _ hg).mono ?_
                        rintro e' w7 ⟨rfl, rfl⟩
                        go_wp2_with fail
                        refine (known_is _ hT).mono ?_
                        rintro e' w8 ⟨rfl, hb⟩
                        replace hr := hr.keep hb
                        replace hL := hL.keep hb
                        replace hQ := hQ.keep hb
                        replace hT := hT.keep hb
                        replace hfr := fr_call hfr hb
                        replace hX0 := hX0.keep hb
                        replace hc0 := fun j => hX0.cell j
                        replace hl0 := hX0.lt
                        replace hX1 := hX1.keep hb
                        replace hc1 := fun j => hX1.cell j
                        replace hl1 := hX1.lt
                        replace hX2 := hX2.keep hb
                        replace hc2 := fun j => hX2.cell j
                        replace hl2 := hX2.lt
                        clear hb
                        go_wp2_with fail
                        go_ret
                        exact ⟨rfl, hfr⟩
                      · by_cases h0 : ys.length = 0
                        · have H0 := Lib.hid h0
                          clear h0
                          go_enter Tryz.func10, Tryz.ntmps10
                          go_wp2_with fail
                          have hfr := g1
                          replace hr := hr.keep g1
                          replace hL := hL.keep g1
                          replace hQ := hQ.keep g1
                          replace hT := hT.keep g1
                          have hc0 := fun j => hX0.cell j
                          have hc1 := fun j => hX1.cell j
                          have hc2 := fun j => hX2.cell j
                          have hl0 := hX0.lt
                          have hl1 := hX1.lt
                          have hl2 := hX2.lt
                          refine (lshort_is A n c _ _ true hs).mono ?_
                          rintro e' w1 ⟨rfl, hb⟩
                          replace hr := hr.keep hb
                          replace hL := hL.keep hb
                          replace hQ := hQ.keep hb
                          replace hT := hT.keep hb
                          replace hfr := fr_call hfr hb
                          replace hX0 := hX0.keep hb
                          replace hc0 := fun j => hX0.cell j
                          replace hl0 := hX0.lt
                          replace hX1 := hX1.keep hb
                          replace hc1 := fun j => hX1.cell j
                          replace hl1 := hX1.lt
                          replace hX2 := hX2.keep hb
                          replace hc2 := fun j => hX2.cell j
                          replace hl2 := hX2.lt
                          clear hb
                          go_wp2_with fail
                          refine (lsome_is Q q.length qc _ true hsq).mono ?_
                          rintro e' w2 ⟨rfl, rfl⟩
                          go_wp2_with fail
                          refine (rCalendar_is A n c cs e _ hr hn _ hok).mono ?_
                          rintro e' w3 ⟨rfl, hb⟩
                          replace hr := hr.keep hb
                          replace hL := hL.keep hb
                          replace hQ := hQ.keep hb
                          replace hT := hT.keep hb
                          replace hfr := fr_call hfr hb
                          replace hX0 := hX0.keep hb
                          replace hc0 := fun j => hX0.cell j
                          replace hl0 := hX0.lt
                          replace hX1 := hX1.keep hb
                          replace hc1 := fun j => hX1.cell j
                          replace hl1 := hX1.lt
                          replace hX2 := hX2.keep hb
                          replace hc2 := fun j => hX2.cell j
                          replace hl2 := hX2.lt
                          clear hb
                          go_wp2_with fail
                          refine (rMoon_is _ _ _ _ _ hm).mono ?_
                          rintro e' w4 ⟨rfl, hb⟩
                          replace hr := hr.keep hb
                          replace hL := hL.keep hb
                          replace hQ := hQ.keep hb
                          replace hT := hT.keep hb
                          replace hfr := fr_call hfr hb
                          replace hX0 := hX0.keep hb
                          replace hc0 := fun j => hX0.cell j
                          replace hl0 := hX0.lt
                          replace hX1 := hX1.keep hb
                          replace hc1 := fun j => hX1.cell j
                          replace hl1 := hX1.lt
                          replace hX2 := hX2.keep hb
                          replace hc2 := fun j => hX2.cell j
                          replace hl2 := hX2.lt
                          clear hb
                          go_wp2_with fail
                          refine (rFacts_is L lc l _ hL hln _ hf).mono ?_
                          rintro e' w5 ⟨rfl, hb⟩
                          replace hr := hr.keep hb
                          replace hL := hL.keep hb
                          replace hQ := hQ.keep hb
                          replace hT := hT.keep hb
                          replace hfr := fr_call hfr hb
                          replace hX0 := hX0.keep hb
                          replace hc0 := fun j => hX0.cell j
                          replace hl0 := hX0.lt
                          replace hX1 := hX1.keep hb
                          replace hc1 := fun j => hX1.cell j
                          replace hl1 := hX1.lt
                          replace hX2 := hX2.keep hb
                          replace hc2 := fun j => hX2.cell j
                          replace hl2 := hX2.lt
                          clear hb
                          go_wp2_with fail
                          refine (rAsks_is Q qc q _ hQ hqn _ hq).mono ?_
                          rintro e' w6 ⟨rfl, hb⟩
                          replace hr := hr.keep hb
                          replace hL := hL.keep hb
                          replace hQ := hQ.keep hb
                          replace hT := hT.keep hb
                          replace hfr := fr_call hfr hb
                          replace hX0 := hX0.keep hb
                          replace hc0 := fun j => hX0.cell j
                          replace hl0 := hX0.lt
                          replace hX1 := hX1.keep hb
                          replace hc1 := fun j => hX1.cell j
                          replace hl1 := hX1.lt
                          replace hX2 := hX2.keep hb
                          replace hc2 := fun j => hX2.cell j
                          replace hl2 := hX2.lt
                          clear hb
                          go_wp2_with fail
                          refine (rRange_is y z _ _ hg).mono ?_
                          rintro e' w7 ⟨rfl, rfl⟩
                          go_wp2_with fail
                          refine (Ask_rule A L Q n c lc qc cs e num den add y z l q _ hr hn hL hln hQ hqn hok hm hf hq hg (by rw [HYS.out]; exact H0.out)).mono ?_
                          rintro e' w8 ⟨rfl, hb⟩
                          replace hr := hr.keep hb
                          replace hL := hL.keep hb
                          replace hQ := hQ.keep hb
                          replace hT := hT.keep hb
                          replace hfr := fr_call hfr hb
                          replace hX0 := hX0.keep hb
                          replace hc0 := fun j => hX0.cell j
                          replace hl0 := hX0.lt
                          replace hX1 := hX1.keep hb
                          replace hc1 := fun j => hX1.cell j
                          replace hl1 := hX1.lt
                          replace hX2 := hX2.keep hb
                          replace hc2 := fun j => hX2.cell j
                          replace hl2 := hX2.lt
                          clear hb
                          go_wp2_with fail
                          refine (Years_ok A L n c lc cs e num den add y z l _ hr hn hL hln hok hm hf hg).mono ?_
                          rw [HYS.out, H0.out]
                          rintro e' w9 ⟨AY, cY, rfl, hrY, hb⟩
                          replace hr := hr.keep hb
                          replace hL := hL.keep hb
                          replace hQ := hQ.keep hb
                          replace hT := hT.keep hb
                          replace hfr := fr_call hfr hb
                          replace hX0 := hX0.keep hb
                          replace hc0 := fun j => hX0.cell j
                          replace hl0 := hX0.lt
                          replace hX1 := hX1.keep hb
                          replace hc1 := fun j => hX1.cell j
                          replace hl1 := hX1.lt
                          replace hX2 := hX2.keep hb
                          replace hc2 := fun j => hX2.cell j
                          replace hl2 := hX2.lt
                          clear hb
                          go_wp2_with fail
                          refine (known_is _ hT).mono ?_
                          rintro e' w10 ⟨rfl, hb⟩
                          replace hr := hr.keep hb
                          replace hL := hL.keep hb
                          replace hQ := hQ.keep hb
                          replace hT := hT.keep hb
                          replace hfr := fr_call hfr hb
                          replace hX0 := hX0.keep hb
                          replace hc0 := fun j => hX0.cell j
                          replace hl0 := hX0.lt
                          replace hX1 := hX1.keep hb
                          replace hc1 := fun j => hX1.cell j
                          replace hl1 := hX1.lt
                          replace hX2 := hX2.keep hb
                          replace hc2 := fun j => hX2.cell j
                          replace hl2 := hX2.lt
                          clear hb
                          go_wp2_with fail
                          go_ret
                          exact ⟨rfl, hfr⟩
                        · by_cases h1 : ys.length = 1
                          · have H1 := Lib.hid h1
                            clear h1 h0
                            go_enter Tryz.func10, Tryz.ntmps10
                            go_wp2_with fail
                            have hfr := g1
                            replace hr := hr.keep g1
                            replace hL := hL.keep g1
                            replace hQ := hQ.keep g1
                            replace hT := hT.keep g1
                            have hc0 := fun j => hX0.cell j
                            have hc1 := fun j => hX1.cell j
                            have hc2 := fun j => hX2.cell j
                            have hl0 := hX0.lt
                            have hl1 := hX1.lt
                            have hl2 := hX2.lt
                            refine (lshort_is A n c _ _ true hs).mono ?_
                            rintro e' w1 ⟨rfl, hb⟩
                            replace hr := hr.keep hb
                            replace hL := hL.keep hb
                            replace hQ := hQ.keep hb
                            replace hT := hT.keep hb
                            replace hfr := fr_call hfr hb
                            replace hX0 := hX0.keep hb
                            replace hc0 := fun j => hX0.cell j
                            replace hl0 := hX0.lt
                            replace hX1 := hX1.keep hb
                            replace hc1 := fun j => hX1.cell j
                            replace hl1 := hX1.lt
                            replace hX2 := hX2.keep hb
                            replace hc2 := fun j => hX2.cell j
                            replace hl2 := hX2.lt
                            clear hb
                            go_wp2_with fail
                            refine (lsome_is Q q.length qc _ true hsq).mono ?_
                            rintro e' w2 ⟨rfl, rfl⟩
                            go_wp2_with fail
                            refine (rCalendar_is A n c cs e _ hr hn _ hok).mono ?_
                            rintro e' w3 ⟨rfl, hb⟩
                            replace hr := hr.keep hb
                            replace hL := hL.keep hb
                            replace hQ := hQ.keep hb
                            replace hT := hT.keep hb
                            replace hfr := fr_call hfr hb
                            replace hX0 := hX0.keep hb
                            replace hc0 := fun j => hX0.cell j
                            replace hl0 := hX0.lt
                            replace hX1 := hX1.keep hb
                            replace hc1 := fun j => hX1.cell j
                            replace hl1 := hX1.lt
                            replace hX2 := hX2.keep hb
                            replace hc2 := fun j => hX2.cell j
                            replace hl2 := hX2.lt
                            clear hb
                            go_wp2_with fail
                            refine (rMoon_is _ _ _ _ _ hm).mono ?_
                            rintro e' w4 ⟨rfl, hb⟩
                            replace hr := hr.keep hb
                            replace hL := hL.keep hb
                            replace hQ := hQ.keep hb
                            replace hT := hT.keep hb
                            replace hfr := fr_call hfr hb
                            replace hX0 := hX0.keep hb
                            replace hc0 := fun j => hX0.cell j
                            replace hl0 := hX0.lt
                            replace hX1 := hX1.keep hb
                            replace hc1 := fun j => hX1.cell j
                            replace hl1 := hX1.lt
                            replace hX2 := hX2.keep hb
                            replace hc2 := fun j => hX2.cell j
                            replace hl2 := hX2.lt
                            clear hb
                            go_wp2_with fail
                            refine (rFacts_is L lc l _ hL hln _ hf).mono ?_
                            rintro e' w5 ⟨rfl, hb⟩
                            replace hr := hr.keep hb
                            replace hL := hL.keep hb
                            replace hQ := hQ.keep hb
                            replace hT := hT.keep hb
                            replace hfr := fr_call hfr hb
                            replace hX0 := hX0.keep hb
                            replace hc0 := fun j => hX0.cell j
                            replace hl0 := hX0.lt
                            replace hX1 := hX1.keep hb
                            replace hc1 := fun j => hX1.cell j
                            replace hl1 := hX1.lt
                            replace hX2 := hX2.keep hb
                            replace hc2 := fun j => hX2.cell j
                            replace hl2 := hX2.lt
                            clear hb
                            go_wp2_with fail
                            refine (rAsks_is Q qc q _ hQ hqn _ hq).mono ?_
                            rintro e' w6 ⟨rfl, hb⟩
                            replace hr := hr.keep hb
                            replace hL := hL.keep hb
                            replace hQ := hQ.keep hb
                            replace hT := hT.keep hb
                            replace hfr := fr_call hfr hb
                            replace hX0 := hX0.keep hb
                            replace hc0 := fun j => hX0.cell j
                            replace hl0 := hX0.lt
                            replace hX1 := hX1.keep hb
                            replace hc1 := fun j => hX1.cell j
                            replace hl1 := hX1.lt
                            replace hX2 := hX2.keep hb
                            replace hc2 := fun j => hX2.cell j
                            replace hl2 := hX2.lt
                            clear hb
                            go_wp2_with fail
                            refine (rRange_is y z _ _ hg).mono ?_
                            rintro e' w7 ⟨rfl, rfl⟩
                            go_wp2_with fail
                            refine (Ask_one A L Q n c lc qc cs e num den add y z l q _ hr hn hL hln hQ hqn hok hm hf hq hg (by rw [HYS.out]; exact H1.out)).mono ?_
                            rintro e' w8 ⟨rfl, hb⟩
                            replace hr := hr.keep hb
                            replace hL := hL.keep hb
                            replace hQ := hQ.keep hb
                            replace hT := hT.keep hb
                            replace hfr := fr_call hfr hb
                            replace hX0 := hX0.keep hb
                            replace hc0 := fun j => hX0.cell j
                            replace hl0 := hX0.lt
                            replace hX1 := hX1.keep hb
                            replace hc1 := fun j => hX1.cell j
                            replace hl1 := hX1.lt
                            replace hX2 := hX2.keep hb
                            replace hc2 := fun j => hX2.cell j
                            replace hl2 := hX2.lt
                            clear hb
                            go_wp2_with fail
                            refine (Years_ok A L n c lc cs e num den add y z l _ hr hn hL hln hok hm hf hg).mono ?_
                            rw [HYS.out, H1.out]
                            rintro e' w9 ⟨AY, cY, rfl, hrY, hb⟩
                            replace hr := hr.keep hb
                            replace hL := hL.keep hb
                            replace hQ := hQ.keep hb
                            replace hT := hT.keep hb
                            replace hfr := fr_call hfr hb
                            replace hX0 := hX0.keep hb
                            replace hc0 := fun j => hX0.cell j
                            replace hl0 := hX0.lt
                            replace hX1 := hX1.keep hb
                            replace hc1 := fun j => hX1.cell j
                            replace hl1 := hX1.lt
                            replace hX2 := hX2.keep hb
                            replace hc2 := fun j => hX2.cell j
                            replace hl2 := hX2.lt
                            clear hb
                            go_wp2_with fail
                            refine (known_is _ hT).mono ?_
                            rintro e' w10 ⟨rfl, hb⟩
                            replace hr := hr.keep hb
                            replace hL := hL.keep hb
                            replace hQ := hQ.keep hb
                            replace hT := hT.keep hb
                            replace hfr := fr_call hfr hb
                            replace hX0 := hX0.keep hb
                            replace hc0 := fun j => hX0.cell j
                            replace hl0 := hX0.lt
                            replace hX1 := hX1.keep hb
                            replace hc1 := fun j => hX1.cell j
                            replace hl1 := hX1.lt
                            replace hX2 := hX2.keep hb
                            replace hc2 := fun j => hX2.cell j
                            replace hl2 := hX2.lt
                            clear hb
                            go_wp2_with fail
                            go_ret
                            exact ⟨rfl, hfr⟩
                          · have h2 : 2 ≤ ys.length := by omega
                            have hl0 : ((ys.length : Int) == 0) = false := beq_eq_false_iff_ne.2 (by omega)
                            have hl1 : ((ys.length : Int) == 1) = false := beq_eq_false_iff_ne.2 (by omega)
                            have hl2 : (1 : Int) < (ys.length : Int) := by omega
                            clear h0 h1
                            obtain ⟨hq1, hq6⟩ := asks_len hq
                            obtain ⟨i, rfl⟩ : ∃ i : Nat, o = (i : Int) := ⟨o.toNat, by omega⟩
                            have hiq : i < q.length := by omega
                            obtain ⟨⟨bi, lft⟩, gbn⟩ : ∃ bn, bestN (fun i => leftOf e cs num den add ys (q[i]?.getD ⟨0, 0, 0, 0⟩)) q.length = bn := ⟨_, rfl⟩
                            have hbs := bestN_spec (fun i => leftOf e cs num den add ys (q[i]?.getD ⟨0, 0, 0, 0⟩)) q.length
                            rw [gbn] at hbs
                            obtain ⟨hbs1, hbs2, hbs3⟩ := hbs
                            simp only at hbs1 hbs2 hbs3
                            have hbq : bi < q.length := by omega
                            obtain ⟨⟨bk, bm, bd, bv⟩, gb⟩ : ∃ f, q[bi] = f := ⟨_, rfl⟩
                            have hrB : (q.map Fact.row)[bi]? = some (Fact.row ⟨bk, bm, bd, bv⟩) := by rw [List.getElem?_map, List.getElem?_eq_getElem hbq, gb]; rfl
                            have hkB := ask_kind hq (show (⟨bk, bm, bd, bv⟩ : Fact) ∈ q by rw [← gb]; exact List.getElem_mem hbq)
                            rw [List.getElem?_eq_getElem hbq, gb] at hbs1
                            obtain ⟨⟨ok, om, od, ov⟩, go⟩ : ∃ f, q[i] = f := ⟨_, rfl⟩
                            have hrO : (q.map Fact.row)[i]? = some (Fact.row ⟨ok, om, od, ov⟩) := by rw [List.getElem?_map, List.getElem?_eq_getElem hiq, go]; rfl
                            have hkO := ask_kind hq (show (⟨ok, om, od, ov⟩ : Fact) ∈ q by rw [← go]; exact List.getElem_mem hiq)
                            have hbO := hbs3 i hiq
                            rw [List.getElem?_eq_getElem hiq, go] at hbO
                            simp only [Option.getD_some] at hbO hbs1
                            obtain ⟨X, gX⟩ : ∃ q, leftOf e cs num den add ys ⟨ok, om, od, ov⟩ = q := ⟨_, rfl⟩
                            rw [gX] at hbO
                            have hmB : ∀ w, Rd w A n cs → RdS w L 4 (l.map Fact.row) → Calls Tryz.prog 50 #[.agg #[.int .i64 e, .slice A n c], .agg #[.int .i64 num, .int .i64 den, .int .i64 add], .slice L l.length lc, .agg #[.int .i64 bk, .int .i64 bm, .int .i64 bd, .int .i64 bv], .int .i64 y, .int .i64 z, .int .i64 (ys.length : Int)] w fun e' w' => e' = .returned (.int .i64 lft) ∧ Below w.heap.size w w' := fun w hr hL => by
                              have h := most_is A L n c lc cs e num den add y z bk bm bd bv l w hr hn hL hln hl5 hok hm hf hg hkB
                              rw [HYS.out, ← hbs1] at h
                              exact h
                            have hmO : ∀ w, Rd w A n cs → RdS w L 4 (l.map Fact.row) → Calls Tryz.prog 50 #[.agg #[.int .i64 e, .slice A n c], .agg #[.int .i64 num, .int .i64 den, .int .i64 add], .slice L l.length lc, .agg #[.int .i64 ok, .int .i64 om, .int .i64 od, .int .i64 ov], .int .i64 y, .int .i64 z, .int .i64 (ys.length : Int)] w fun e' w' => e' = .returned (.int .i64 X) ∧ Below w.heap.size w w' := fun w hr hL => by
                              have h := most_is A L n c lc cs e num den add y z ok om od ov l w hr hn hL hln hl5 hok hm hf hg hkO
                              rw [HYS.out, gX] at h
                              exact h
                            obtain ⟨q2, gq2⟩ : ∃ r, q ++ [⟨k, m, d, v⟩] = r := ⟨_, rfl⟩
                            have hq2l : q2.length = q.length + 1 := by rw [← gq2, List.length_append]; rfl
                            obtain ⟨⟨bi2, lft2⟩, gbn2⟩ : ∃ bn, bestN (fun i => leftOf e cs num den add ys (q2[i]?.getD ⟨0, 0, 0, 0⟩)) q2.length = bn := ⟨_, rfl⟩
                            have hless : lft2 ≤ lft := by
                              have h := bestN_more (f := fun i => leftOf e cs num den add ys (q[i]?.getD ⟨0, 0, 0, 0⟩)) (g := fun i => leftOf e cs num den add ys (q2[i]?.getD ⟨0, 0, 0, 0⟩)) (n := q.length) (by omega) (fun j hj => by
                                rw [← gq2]
                                simp only [List.getElem?_append_left hj])
                              rw [← hq2l, gbn2, gbn] at h
                              exact h
                            have HBN := Lib.hid gbn
                            have HBN2 := Lib.hid gbn2
                            have HQ2 := Lib.hid gq2
                            have HQL := Lib.hid hq2l
                            have HBO := Lib.hid hbO
                            have HKB := Lib.hid (And.intro hkB hkO)
                            clear gbn gbn2 gq2 hq2l hbO hkB hkO gX hbs1 hbs2 hbs3 gb go
                            have hQa : ∃ ad, Q = some ad := by obtain ⟨ad, h, _⟩ := hQ.at_ hrB; exact ⟨ad, h⟩
                            obtain ⟨ad, rfl⟩ := hQa
                            have hbi0 : (0 : Int) ≤ (bi : Int) := Int.natCast_nonneg bi
                            have hbi1 : (bi : Int) < (q.length : Int) := by omega
                            have hii0 : (0 : Int) ≤ (i : Int) := Int.natCast_nonneg i
                            have hii1 : (i : Int) < (q.length : Int) := by omega
                            have hbd1 : decide ((q.length : Int) ≤ (bi : Int)) = false := decide_eq_false (by omega)
                            have hbd2 : decide (q.length ≤ bi) = false := decide_eq_false (by omega)
                            have hbd3 : decide ((bi : Int) < 0) = false := decide_eq_false (by omega)
                            have hqlq : q.length ≤ 1000000 := by omega
                            go_enter Tryz.func10, Tryz.ntmps10
                            go_wp2_with fail
                            have hfr := g1
                            replace hr := hr.keep g1
                            replace hL := hL.keep g1
                            replace hQ := hQ.keep g1
                            replace hT := hT.keep g1
                            have hc0 := fun j => hX0.cell j
                            have hc1 := fun j => hX1.cell j
                            have hc2 := fun j => hX2.cell j
                            have hl0 := hX0.lt
                            have hl1 := hX1.lt
                            have hl2 := hX2.lt
                            refine (lshort_is A n c _ _ true hs).mono ?_
                            rintro e' w1 ⟨rfl, hb⟩
                            replace hr := hr.keep hb
                            replace hL := hL.keep hb
                            replace hQ := hQ.keep hb
                            replace hT := hT.keep hb
                            replace hfr := fr_call hfr hb
                            replace hX0 := hX0.keep hb
                            replace hc0 := fun j => hX0.cell j
                            replace hl0 := hX0.lt
                            replace hX1 := hX1.keep hb
                            replace hc1 := fun j => hX1.cell j
                            replace hl1 := hX1.lt
                            replace hX2 := hX2.keep hb
                            replace hc2 := fun j => hX2.cell j
                            replace hl2 := hX2.lt
                            clear hb
                            go_wp2_with fail
                            refine (lsome_is (some ad) q.length qc _ true hsq).mono ?_
                            rintro e' w2 ⟨rfl, rfl⟩
                            go_wp2_with fail
                            refine (rCalendar_is A n c cs e _ hr hn _ hok).mono ?_
                            rintro e' w3 ⟨rfl, hb⟩
                            replace hr := hr.keep hb
                            replace hL := hL.keep hb
                            replace hQ := hQ.keep hb
                            replace hT := hT.keep hb
                            replace hfr := fr_call hfr hb
                            replace hX0 := hX0.keep hb
                            replace hc0 := fun j => hX0.cell j
                            replace hl0 := hX0.lt
                            replace hX1 := hX1.keep hb
                            replace hc1 := fun j => hX1.cell j
                            replace hl1 := hX1.lt
                            replace hX2 := hX2.keep hb
                            replace hc2 := fun j => hX2.cell j
                            replace hl2 := hX2.lt
                            clear hb
                            go_wp2_with fail
                            refine (rMoon_is _ _ _ _ _ hm).mono ?_
                            rintro e' w4 ⟨rfl, hb⟩
                            replace hr := hr.keep hb
                            replace hL := hL.keep hb
                            replace hQ := hQ.keep hb
                            replace hT := hT.keep hb
                            replace hfr := fr_call hfr hb
                            replace hX0 := hX0.keep hb
                            replace hc0 := fun j => hX0.cell j
                            replace hl0 := hX0.lt
                            replace hX1 := hX1.keep hb
                            replace hc1 := fun j => hX1.cell j
                            replace hl1 := hX1.lt
                            replace hX2 := hX2.keep hb
                            replace hc2 := fun j => hX2.cell j
                            replace hl2 := hX2.lt
                            clear hb
                            go_wp2_with fail
                            refine (rFacts_is L lc l _ hL hln _ hf).mono ?_
                            rintro e' w5 ⟨rfl, hb⟩
                            replace hr := hr.keep hb
                            replace hL := hL.keep hb
                            replace hQ := hQ.keep hb
                            replace hT := hT.keep hb
                            replace hfr := fr_call hfr hb
                            replace hX0 := hX0.keep hb
                            replace hc0 := fun j => hX0.cell j
                            replace hl0 := hX0.lt
                            replace hX1 := hX1.keep hb
                            replace hc1 := fun j => hX1.cell j
                            replace hl1 := hX1.lt
                            replace hX2 := hX2.keep hb
                            replace hc2 := fun j => hX2.cell j
                            replace hl2 := hX2.lt
                            clear hb
                            go_wp2_with fail
                            refine (rAsks_is (some ad) qc q _ hQ hqn _ hq).mono ?_
                            rintro e' w6 ⟨rfl, hb⟩
                            replace hr := hr.keep hb
                            replace hL := hL.keep hb
                            replace hQ := hQ.keep hb
                            replace hT := hT.keep hb
                            replace hfr := fr_call hfr hb
                            replace hX0 := hX0.keep hb
                            replace hc0 := fun j => hX0.cell j
                            replace hl0 := hX0.lt
                            replace hX1 := hX1.keep hb
                            replace hc1 := fun j => hX1.cell j
                            replace hl1 := hX1.lt
                            replace hX2 := hX2.keep hb
                            replace hc2 := fun j => hX2.cell j
                            replace hl2 := hX2.lt
                            clear hb
                            go_wp2_with fail
                            refine (rRange_is y z _ _ hg).mono ?_
                            rintro e' w7 ⟨rfl, rfl⟩
                            go_wp2_with fail
                            refine (Ask_ok A L (some ad) n c lc qc cs e num den add y z l q _ hr hn hL hln hQ hqn hok hm hf hq hg (by rw [HYS.out]; exact h2)).mono ?_
                            rw [HYS.out, HBN.out]
                            rintro e' w8 ⟨rfl, hb⟩
                            replace hr := hr.keep hb
                            replace hL := hL.keep hb
                            replace hQ := hQ.keep hb
                            replace hT := hT.keep hb
                            replace hfr := fr_call hfr hb
                            replace hX0 := hX0.keep hb
                            replace hc0 := fun j => hX0.cell j
                            replace hl0 := hX0.lt
                            replace hX1 := hX1.keep hb
                            replace hc1 := fun j => hX1.cell j
                            replace hl1 := hX1.lt
                            replace hX2 := hX2.keep hb
                            replace hc2 := fun j => hX2.cell j
                            replace hl2 := hX2.lt
                            clear hb
                            go_wp2_with fail
                            refine (Years_ok A L n c lc cs e num den add y z l _ hr hn hL hln hok hm hf hg).mono ?_
                            rw [HYS.out]
                            rintro e' w9 ⟨AY, cY, rfl, hrY, hb⟩
                            replace hr := hr.keep hb
                            replace hL := hL.keep hb
                            replace hQ := hQ.keep hb
                            replace hT := hT.keep hb
                            replace hfr := fr_call hfr hb
                            replace hX0 := hX0.keep hb
                            replace hc0 := fun j => hX0.cell j
                            replace hl0 := hX0.lt
                            replace hX1 := hX1.keep hb
                            replace hc1 := fun j => hX1.cell j
                            replace hl1 := hX1.lt
                            replace hX2 := hX2.keep hb
                            replace hc2 := fun j => hX2.cell j
                            replace hl2 := hX2.lt
                            clear hb
                            go_wp2_with fail
                            have hrw := hrB
                            obtain ⟨ad', he, habbi, _, hc⟩ := hQ.at_ hrw
                            obtain rfl : ad = ad' := by injection he
                            have hq' : ∀ u, ad.add (bi * 4 + (u + 1)) = (ad.add (bi * 4)).add (u + 1) := fun u => by
                              unfold Addr.add; by_cases h0 : bi * 4 = 0 <;> simp [h0, Nat.add_assoc]
                            have hab2bi : (ad.add (bi * 4)).block < (w9).heap.size := by rw [block_of_add]; exact habbi
                            have hb0 : (w9).cell? (ad.add (bi * 4)) = some (.int .i64 bk) := hc 0 _ rfl
                            have hb1 : (w9).cell? ⟨(ad.add (bi * 4)).block, (ad.add (bi * 4)).off + 1, none⟩ = some (.int .i64 bm) := (congrArg (w9).cell? (hq' 0)).symm.trans (hc 1 _ rfl)
                            have hb2 : (w9).cell? ⟨(ad.add (bi * 4)).block, (ad.add (bi * 4)).off + 2, none⟩ = some (.int .i64 bd) := (congrArg (w9).cell? (hq' 1)).symm.trans (hc 2 _ rfl)
                            have hb3 : (w9).cell? ⟨(ad.add (bi * 4)).block, (ad.add (bi * 4)).off + 3, none⟩ = some (.int .i64 bv) := (congrArg (w9).cell? (hq' 2)).symm.trans (hc 3 _ rfl)
                            clear hc hq' hrw he
                            refine wp_region_noPanic ?_
                            refine wp_region_held_drew (S := fun W => (∀ p : Addr, p.block < (w9).heap.size → W.cell? p = (w9).cell? p) ∧ Below (w9).heap.size (w9) W) (by kernel_rfl) ⟨fun _ _ => rfl, fr_drew (fr_refl _)⟩ (fun hHeld => ?_)
                            -- the region, step by step
                            refine wpAnyH_take (i := 0) (oi := ⟨some 144, .move (.tmp 17), 3, "law.go:546", #[], none⟩) (v := ?_) rfl (by kernel_rfl) (by kernel_rfl) (by kernel_rfl) (fun _ _ _ h => h) (Or.inl ⟨by rfl, fun W hSw => ?_⟩) hHeld ?_
                            rotate_left
                            · (try dsimp only at hSw); go_simp; (try with_reducible rfl)
                            (try simp only [Act.put, List.setIfInBounds_toArray, List.set_cons_zero, List.set_cons_succ])
                            refine wpAnyH_take (i := 1) (oi := ⟨some 145, .binOp .lss 3 (.tmp 144) (.const (.int .i64 0)) 3, 4, "law.go:546", #[⟨0, .data⟩], none⟩) (v := ?_) rfl (by kernel_rfl) (by kernel_rfl) (by kernel_rfl) (fun _ _ _ h => h) (Or.inl ⟨by rfl, fun W hSw => ?_⟩) hHeld ?_
                            rotate_left
                            · (try dsimp only at hSw); go_simp; (try with_reducible rfl)
                            (try simp only [Act.put, List.setIfInBounds_toArray, List.set_cons_zero, List.set_cons_succ])
                            refine wpAnyH_take (i := 2) (oi := ⟨some 146, .move (.tmp 145), 4, "law.go:546", #[⟨1, .data⟩], none⟩) (v := ?_) rfl (by kernel_rfl) (by kernel_rfl) (by kernel_rfl) (fun _ _ _ h => h) (Or.inl ⟨by rfl, fun W hSw => ?_⟩) hHeld ?_
                            rotate_left
                            · (try dsimp only at hSw); go_simp; (try with_reducible rfl)
                            (try simp only [Act.put, List.setIfInBounds_toArray, List.set_cons_zero, List.set_cons_succ])
                            refine wpAnyH_take (i := 3) (oi := ⟨some 147, .move (.tmp 17), 3, "law.go:546", #[⟨2, .guard⟩], some (2, false)⟩) (v := ?_) rfl (by kernel_rfl) (by kernel_rfl) (by kernel_rfl) (fun _ _ _ h => h) (Or.inl ⟨by rfl, fun W hSw => ?_⟩) hHeld ?_
                            rotate_left
                            · (try dsimp only at hSw); go_simp; (try with_reducible rfl)
                            (try simp only [Act.put, List.setIfInBounds_toArray, List.set_cons_zero, List.set_cons_succ])
                            refine wpAnyH_take (i := 4) (oi := ⟨some 148, .move (.tmp 3), 66, "law.go:546", #[⟨2, .guard⟩], some (2, false)⟩) (v := ?_) rfl (by kernel_rfl) (by kernel_rfl) (by kernel_rfl) (fun _ _ _ h => h) (Or.inl ⟨by rfl, fun W hSw => ?_⟩) hHeld ?_
                            rotate_left
                            · (try dsimp only at hSw); go_simp; (try with_reducible rfl)
                            (try simp only [Act.put, List.setIfInBounds_toArray, List.set_cons_zero, List.set_cons_succ])
                            refine wpAnyH_take (i := 5) (oi := ⟨some 149, .call { callee := .builtin .len, args := #[.tmp 148], argTypes := #[66] }, 3, "law.go:546", #[⟨4, .data⟩, ⟨2, .guard⟩], some (2, false)⟩) (v := ?_) rfl (by kernel_rfl) (by kernel_rfl) (by kernel_rfl) (fun _ _ _ h => h) (Or.inl ⟨by rfl, fun W hSw => ?_⟩) hHeld ?_
                            rotate_left
                            · (try dsimp only at hSw); go_simp; (try with_reducible rfl)
                            (try simp only [Act.put, List.setIfInBounds_toArray, List.set_cons_zero, List.set_cons_succ])
                            refine wpAnyH_take (i := 6) (oi := ⟨some 150, .binOp .geq 3 (.tmp 147) (.tmp 149) 3, 4, "law.go:546", #[⟨3, .data⟩, ⟨5, .data⟩, ⟨2, .guard⟩], some (2, false)⟩) (v := ?_) rfl (by kernel_rfl) (by kernel_rfl) (by kernel_rfl) (fun _ _ _ h => h) (Or.inl ⟨by rfl, fun W hSw => ?_⟩) hHeld ?_
                            rotate_left
                            · (try dsimp only at hSw); go_simp; (try with_reducible rfl)
                            (try simp only [Act.put, List.setIfInBounds_toArray, List.set_cons_zero, List.set_cons_succ])
                            refine wpAnyH_take (i := 7) (oi := ⟨some 151, .pick (.tmp 146) (.const (.bool true)) (.tmp 150), 4, "law.go:546", #[⟨2, .data⟩, ⟨6, .data⟩], none⟩) (v := ?_) rfl (by kernel_rfl) (by kernel_rfl) (by kernel_rfl) (fun _ _ _ h => h) (Or.inl ⟨by rfl, fun W hSw => ?_⟩) hHeld ?_
                            rotate_left
                            · (try dsimp only at hSw); go_simp; (try with_reducible rfl)
                            (try simp only [Act.put, List.setIfInBounds_toArray, List.set_cons_zero, List.set_cons_succ])
                            refine wpAnyH_take (i := 8) (oi := ⟨some 152, .move (.tmp 151), 4, "law.go:546", #[⟨7, .data⟩, ⟨2, .chain⟩], none⟩) (v := ?_) rfl (by kernel_rfl) (by kernel_rfl) (by kernel_rfl) (fun _ _ _ h => h) (Or.inl ⟨by rfl, fun W hSw => ?_⟩) hHeld ?_
                            rotate_left
                            · (try dsimp only at hSw); go_simp; (try with_reducible rfl)
                            (try simp only [Act.put, List.setIfInBounds_toArray, List.set_cons_zero, List.set_cons_succ])
                            refine wpAnyH_take (i := 9) (oi := ⟨some 153, .load 24 (.tmp 8), 24, "law.go:546", #[⟨8, .guard⟩], some (8, false)⟩) (v := ?_) rfl (by kernel_rfl) (by kernel_rfl) (by kernel_rfl) (fun _ _ _ h => h) (Or.inl ⟨by rfl, fun W hSw => ?_⟩) hHeld ?_
                            rotate_left
                            · (try dsimp only at hSw); go_simp; (try with_reducible rfl)
                            (try simp only [Act.put, List.setIfInBounds_toArray, List.set_cons_zero, List.set_cons_succ])
                            refine wpAnyH_take (i := 10) (oi := ⟨some 154, .load 65 (.tmp 9), 65, "law.go:546", #[⟨8, .guard⟩], some (8, false)⟩) (v := ?_) rfl (by kernel_rfl) (by kernel_rfl) (by kernel_rfl) (fun _ _ _ h => h) (Or.inl ⟨by rfl, fun W hSw => ?_⟩) hHeld ?_
                            rotate_left
                            · (try dsimp only at hSw); go_simp; (try with_reducible rfl)
                            (try simp only [Act.put, List.setIfInBounds_toArray, List.set_cons_zero, List.set_cons_succ])
                            refine wpAnyH_take (i := 11) (oi := ⟨some 155, .move (.tmp 2), 66, "law.go:546", #[⟨8, .guard⟩], some (8, false)⟩) (v := ?_) rfl (by kernel_rfl) (by kernel_rfl) (by kernel_rfl) (fun _ _ _ h => h) (Or.inl ⟨by rfl, fun W hSw => ?_⟩) hHeld ?_
                            rotate_left
                            · (try dsimp only at hSw); go_simp; (try with_reducible rfl)
                            (try simp only [Act.put, List.setIfInBounds_toArray, List.set_cons_zero, List.set_cons_succ])
                            refine wpAnyH_take (i := 12) (oi := ⟨some 156, .move (.tmp 3), 66, "law.go:546", #[⟨8, .guard⟩], some (8, false)⟩) (v := ?_) rfl (by kernel_rfl) (by kernel_rfl) (by kernel_rfl) (fun _ _ _ h => h) (Or.inl ⟨by rfl, fun W hSw => ?_⟩) hHeld ?_
                            rotate_left
                            · (try dsimp only at hSw); go_simp; (try with_reducible rfl)
                            (try simp only [Act.put, List.setIfInBounds_toArray, List.set_cons_zero, List.set_cons_succ])
                            refine wpAnyH_take (i := 13) (oi := ⟨some 157, .move (.tmp 17), 3, "law.go:546", #[⟨8, .guard⟩], some (8, false)⟩) (v := ?_) rfl (by kernel_rfl) (by kernel_rfl) (by kernel_rfl) (fun _ _ _ h => h) (Or.inl ⟨by rfl, fun W hSw => ?_⟩) hHeld ?_
                            rotate_left
                            · (try dsimp only at hSw); go_simp; (try with_reducible rfl)
                            (try simp only [Act.put, List.setIfInBounds_toArray, List.set_cons_zero, List.set_cons_succ])
                            refine wpAnyH_take (i := 14) (oi := ⟨some 158, .indexAddr 66 (.tmp 156) (.tmp 157), 0, "law.go:546", #[⟨12, .data⟩, ⟨13, .data⟩, ⟨8, .guard⟩], some (8, false)⟩) (v := ?_) rfl (by kernel_rfl) (by kernel_rfl) (by kernel_rfl) (fun _ _ _ h => h) (Or.inl ⟨by rfl, fun W hSw => ?_⟩) hHeld ?_
                            rotate_left
                            · (try dsimp only at hSw); go_simp; (try with_reducible rfl)
                            (try simp only [Act.put, List.setIfInBounds_toArray, List.set_cons_zero, List.set_cons_succ])
                            refine wpAnyH_take (i := 15) (oi := ⟨some 159, .load 77 (.tmp 158), 77, "law.go:546", #[⟨14, .data⟩, ⟨8, .guard⟩], some (8, false)⟩) (v := ?_) rfl (by kernel_rfl) (by kernel_rfl) (by kernel_rfl) (fun _ _ _ h => h) (Or.inl ⟨by rfl, fun W hSw => ?_⟩) hHeld ?_
                            rotate_left
                            · (try dsimp only at hSw); go_simp; (try with_reducible rfl)
                            (try simp only [Act.put, List.setIfInBounds_toArray, List.set_cons_zero, List.set_cons_succ])
                            refine wpAnyH_take (i := 16) (oi := ⟨some 160, .move (.tmp 4), 3, "law.go:546", #[⟨8, .guard⟩], some (8, false)⟩) (v := ?_) rfl (by kernel_rfl) (by kernel_rfl) (by kernel_rfl) (fun _ _ _ h => h) (Or.inl ⟨by rfl, fun W hSw => ?_⟩) hHeld ?_
                            rotate_left
                            · (try dsimp only at hSw); go_simp; (try with_reducible rfl)
                            (try simp only [Act.put, List.setIfInBounds_toArray, List.set_cons_zero, List.set_cons_succ])
                            refine wpAnyH_take (i := 17) (oi := ⟨some 161, .move (.tmp 5), 3, "law.go:546", #[⟨8, .guard⟩], some (8, false)⟩) (v := ?_) rfl (by kernel_rfl) (by kernel_rfl) (by kernel_rfl) (fun _ _ _ h => h) (Or.inl ⟨by rfl, fun W hSw => ?_⟩) hHeld ?_
                            rotate_left
                            · (try dsimp only at hSw); go_simp; (try with_reducible rfl)
                            (try simp only [Act.put, List.setIfInBounds_toArray, List.set_cons_zero, List.set_cons_succ])
                            refine wpAnyH_take (i := 18) (oi := ⟨some 162, .move (.tmp 20), 22, "law.go:546", #[⟨8, .guard⟩], some (8, false)⟩) (v := ?_) rfl (by kernel_rfl) (by kernel_rfl) (by kernel_rfl) (fun _ _ _ h => h) (Or.inl ⟨by rfl, fun W hSw => ?_⟩) hHeld ?_
                            rotate_left
                            · (try dsimp only at hSw); go_simp; (try with_reducible rfl)
                            (try simp only [Act.put, List.setIfInBounds_toArray, List.set_cons_zero, List.set_cons_succ])
                            refine wpAnyH_take (i := 19) (oi := ⟨some 163, .call { callee := .builtin .len, args := #[.tmp 162], argTypes := #[22] }, 3, "law.go:546", #[⟨18, .data⟩, ⟨8, .guard⟩], some (8, false)⟩) (v := ?_) rfl (by kernel_rfl) (by kernel_rfl) (by kernel_rfl) (fun _ _ _ h => h) (Or.inl ⟨by rfl, fun W hSw => ?_⟩) hHeld ?_
                            rotate_left
                            · (try dsimp only at hSw); go_simp; (try with_reducible rfl)
                            (try simp only [Act.put, List.setIfInBounds_toArray, List.set_cons_zero, List.set_cons_succ])
                            refine wpAnyH_take (i := 21) (oi := ⟨some 165, .move (.tmp 18), 3, "law.go:546", #[⟨8, .guard⟩], some (8, false)⟩) (v := ?_) rfl (by kernel_rfl) (by kernel_rfl) (by kernel_rfl) (fun _ _ _ h => h) (Or.inl ⟨by rfl, fun W hSw => ?_⟩) hHeld ?_
                            rotate_left
                            · (try dsimp only at hSw); go_simp; (try with_reducible rfl)
                            (try simp only [Act.put, List.setIfInBounds_toArray, List.set_cons_zero, List.set_cons_succ])
                            refine wpAnyH_ready (rs := [20]) (by kernel_rfl) (by simp) ?_
                            refine AllReadyH.cons (o := ⟨some 164, .call { callee := .value (.func 50), args := #[.tmp 153, .tmp 154, .tmp 155, .tmp 159, .tmp 160, .tmp 161, .tmp 163], argTypes := #[24, 65, 66, 77, 3, 3, 3] }, 3, "law.go:546", #[⟨9, .data⟩, ⟨10, .data⟩, ⟨11, .data⟩, ⟨15, .data⟩, ⟨16, .data⟩, ⟨17, .data⟩, ⟨19, .data⟩, ⟨8, .chain⟩, ⟨8, .guard⟩], some (8, false)⟩) rfl (fun K hK => ?_) AllReadyH.nil
                            go_simp
                            refine (hmB _ (hr.keep hHeld.2) (hL.keep hHeld.2)).mono ?_
                            rintro e' wA ⟨rfl, hb⟩
                            refine hK.out _ _ (kp_step hb hHeld) (fun hHeld => ?_)
                            clear hK K
                            (try simp only [Act.put, List.setIfInBounds_toArray, List.set_cons_zero, List.set_cons_succ])
                            refine wpAnyH_take (i := 22) (oi := ⟨some 166, .binOp .neq 3 (.tmp 164) (.tmp 165) 3, 4, "law.go:546", #[⟨20, .data⟩, ⟨21, .data⟩, ⟨8, .guard⟩], some (8, false)⟩) (v := ?_) rfl (by kernel_rfl) (by kernel_rfl) (by kernel_rfl) (fun _ _ _ h => h) (Or.inl ⟨by rfl, fun W hSw => ?_⟩) hHeld ?_
                            rotate_left
                            · (try dsimp only at hSw); go_simp; (try with_reducible rfl)
                            (try simp only [Act.put, List.setIfInBounds_toArray, List.set_cons_zero, List.set_cons_succ])
                            refine wpAnyH_take (i := 23) (oi := ⟨some 167, .pick (.tmp 152) (.const (.bool true)) (.tmp 166), 4, "law.go:546", #[⟨8, .data⟩, ⟨22, .data⟩], none⟩) (v := ?_) rfl (by kernel_rfl) (by kernel_rfl) (by kernel_rfl) (fun _ _ _ h => h) (Or.inl ⟨by rfl, fun W hSw => ?_⟩) hHeld ?_
                            rotate_left
                            · (try dsimp only at hSw); go_simp; (try with_reducible rfl)
                            (try simp only [Act.put, List.setIfInBounds_toArray, List.set_cons_zero, List.set_cons_succ])
                            refine wpAnyH_done (by kernel_rfl) ?_ _
                            refine NoPanic.normal ?_
                            replace hr := hr.keep hHeld.2
                            replace hL := hL.keep hHeld.2
                            replace hQ := hQ.keep hHeld.2
                            replace hT := hT.keep hHeld.2
                            replace hrY := hrY.keep hHeld.2
                            replace hfr := fr_call hfr hHeld.2
                            replace hX0 := hX0.keep hHeld.2
                            replace hc0 := fun j => hX0.cell j
                            replace hl0 := hX0.lt
                            replace hX1 := hX1.keep hHeld.2
                            replace hc1 := fun j => hX1.cell j
                            replace hl1 := hX1.lt
                            replace hX2 := hX2.keep hHeld.2
                            replace hc2 := fun j => hX2.cell j
                            replace hl2 := hX2.lt
                            clear hHeld
                            go_wp2_with fail
                            clear hb0 hb1 hb2 hb3 hab2bi habbi
                            have hrw := hrO
                            obtain ⟨ad', he, habi, _, hc⟩ := hQ.at_ hrw
                            obtain rfl : ad = ad' := by injection he
                            have hq' : ∀ u, ad.add (i * 4 + (u + 1)) = (ad.add (i * 4)).add (u + 1) := fun u => by
                              unfold Addr.add; by_cases h0 : i * 4 = 0 <;> simp [h0, Nat.add_assoc]
                            have hab2i : (ad.add (i * 4)).block < (wA).heap.size := by rw [block_of_add]; exact habi
                            have ho0 : (wA).cell? (ad.add (i * 4)) = some (.int .i64 ok) := hc 0 _ rfl
                            have ho1 : (wA).cell? ⟨(ad.add (i * 4)).block, (ad.add (i * 4)).off + 1, none⟩ = some (.int .i64 om) := (congrArg (wA).cell? (hq' 0)).symm.trans (hc 1 _ rfl)
                            have ho2 : (wA).cell? ⟨(ad.add (i * 4)).block, (ad.add (i * 4)).off + 2, none⟩ = some (.int .i64 od) := (congrArg (wA).cell? (hq' 1)).symm.trans (hc 2 _ rfl)
                            have ho3 : (wA).cell? ⟨(ad.add (i * 4)).block, (ad.add (i * 4)).off + 3, none⟩ = some (.int .i64 ov) := (congrArg (wA).cell? (hq' 2)).symm.trans (hc 3 _ rfl)
                            clear hc hq' hrw he
                            refine wp_region_noPanic ?_
                            refine wp_region_held_drew (S := fun W => (∀ p : Addr, p.block < (wA).heap.size → W.cell? p = (wA).cell? p) ∧ Below (wA).heap.size (wA) W) (by kernel_rfl) ⟨fun _ _ => rfl, fr_drew (fr_refl _)⟩ (fun hHeld => ?_)
                            -- the region, step by step
                            refine wpAnyH_take (i := 0) (oi := ⟨some 168, .load 24 (.tmp 8), 24, "law.go:549", #[], none⟩) (v := ?_) rfl (by kernel_rfl) (by kernel_rfl) (by kernel_rfl) (fun _ _ _ h => h) (Or.inl ⟨by rfl, fun W hSw => ?_⟩) hHeld ?_
                            rotate_left
                            · (try dsimp only at hSw); go_simp; (try with_reducible rfl)
                            (try simp only [Act.put, List.setIfInBounds_toArray, List.set_cons_zero, List.set_cons_succ])
                            refine wpAnyH_take (i := 1) (oi := ⟨some 169, .load 65 (.tmp 9), 65, "law.go:549", #[], none⟩) (v := ?_) rfl (by kernel_rfl) (by kernel_rfl) (by kernel_rfl) (fun _ _ _ h => h) (Or.inl ⟨by rfl, fun W hSw => ?_⟩) hHeld ?_
                            rotate_left
                            · (try dsimp only at hSw); go_simp; (try with_reducible rfl)
                            (try simp only [Act.put, List.setIfInBounds_toArray, List.set_cons_zero, List.set_cons_succ])
                            refine wpAnyH_take (i := 2) (oi := ⟨some 170, .move (.tmp 2), 66, "law.go:549", #[], none⟩) (v := ?_) rfl (by kernel_rfl) (by kernel_rfl) (by kernel_rfl) (fun _ _ _ h => h) (Or.inl ⟨by rfl, fun W hSw => ?_⟩) hHeld ?_
                            rotate_left
                            · (try dsimp only at hSw); go_simp; (try with_reducible rfl)
                            (try simp only [Act.put, List.setIfInBounds_toArray, List.set_cons_zero, List.set_cons_succ])
                            refine wpAnyH_take (i := 3) (oi := ⟨some 171, .move (.tmp 3), 66, "law.go:549", #[], none⟩) (v := ?_) rfl (by kernel_rfl) (by kernel_rfl) (by kernel_rfl) (fun _ _ _ h => h) (Or.inl ⟨by rfl, fun W hSw => ?_⟩) hHeld ?_
                            rotate_left
                            · (try dsimp only at hSw); go_simp; (try with_reducible rfl)
                            (try simp only [Act.put, List.setIfInBounds_toArray, List.set_cons_zero, List.set_cons_succ])
                            refine wpAnyH_take (i := 4) (oi := ⟨some 172, .move (.tmp 6), 3, "law.go:549", #[], none⟩) (v := ?_) rfl (by kernel_rfl) (by kernel_rfl) (by kernel_rfl) (fun _ _ _ h => h) (Or.inl ⟨by rfl, fun W hSw => ?_⟩) hHeld ?_
                            rotate_left
                            · (try dsimp only at hSw); go_simp; (try with_reducible rfl)
                            (try simp only [Act.put, List.setIfInBounds_toArray, List.set_cons_zero, List.set_cons_succ])
                            refine wpAnyH_take (i := 5) (oi := ⟨some 173, .indexAddr 66 (.tmp 171) (.tmp 172), 0, "law.go:549", #[⟨3, .data⟩, ⟨4, .data⟩], none⟩) (v := ?_) rfl (by kernel_rfl) (by kernel_rfl) (by kernel_rfl) (fun _ _ _ h => h) (Or.inl ⟨by rfl, fun W hSw => ?_⟩) hHeld ?_
                            rotate_left
                            · (try dsimp only at hSw); go_simp; (try with_reducible rfl)
                            (try simp only [Act.put, List.setIfInBounds_toArray, List.set_cons_zero, List.set_cons_succ])
                            refine wpAnyH_take (i := 6) (oi := ⟨some 174, .load 77 (.tmp 173), 77, "law.go:549", #[⟨5, .data⟩], none⟩) (v := ?_) rfl (by kernel_rfl) (by kernel_rfl) (by kernel_rfl) (fun _ _ _ h => h) (Or.inl ⟨by rfl, fun W hSw => ?_⟩) hHeld ?_
                            rotate_left
                            · (try dsimp only at hSw); go_simp; (try with_reducible rfl)
                            (try simp only [Act.put, List.setIfInBounds_toArray, List.set_cons_zero, List.set_cons_succ])
                            refine wpAnyH_take (i := 7) (oi := ⟨some 175, .move (.tmp 4), 3, "law.go:549", #[], none⟩) (v := ?_) rfl (by kernel_rfl) (by kernel_rfl) (by kernel_rfl) (fun _ _ _ h => h) (Or.inl ⟨by rfl, fun W hSw => ?_⟩) hHeld ?_
                            rotate_left
                            · (try dsimp only at hSw); go_simp; (try with_reducible rfl)
                            (try simp only [Act.put, List.setIfInBounds_toArray, List.set_cons_zero, List.set_cons_succ])
                            refine wpAnyH_take (i := 8) (oi := ⟨some 176, .move (.tmp 5), 3, "law.go:549", #[], none⟩) (v := ?_) rfl (by kernel_rfl) (by kernel_rfl) (by kernel_rfl) (fun _ _ _ h => h) (Or.inl ⟨by rfl, fun W hSw => ?_⟩) hHeld ?_
                            rotate_left
                            · (try dsimp only at hSw); go_simp; (try with_reducible rfl)
                            (try simp only [Act.put, List.setIfInBounds_toArray, List.set_cons_zero, List.set_cons_succ])
                            refine wpAnyH_take (i := 9) (oi := ⟨some 177, .move (.tmp 20), 22, "law.go:549", #[], none⟩) (v := ?_) rfl (by kernel_rfl) (by kernel_rfl) (by kernel_rfl) (fun _ _ _ h => h) (Or.inl ⟨by rfl, fun W hSw => ?_⟩) hHeld ?_
                            rotate_left
                            · (try dsimp only at hSw); go_simp; (try with_reducible rfl)
                            (try simp only [Act.put, List.setIfInBounds_toArray, List.set_cons_zero, List.set_cons_succ])
                            refine wpAnyH_take (i := 10) (oi := ⟨some 178, .call { callee := .builtin .len, args := #[.tmp 177], argTypes := #[22] }, 3, "law.go:549", #[⟨9, .data⟩], none⟩) (v := ?_) rfl (by kernel_rfl) (by kernel_rfl) (by kernel_rfl) (fun _ _ _ h => h) (Or.inl ⟨by rfl, fun W hSw => ?_⟩) hHeld ?_
                            rotate_left
                            · (try dsimp only at hSw); go_simp; (try with_reducible rfl)
                            (try simp only [Act.put, List.setIfInBounds_toArray, List.set_cons_zero, List.set_cons_succ])
                            refine wpAnyH_ready (rs := [11]) (by kernel_rfl) (by simp) ?_
                            refine AllReadyH.cons (o := ⟨some 179, .call { callee := .value (.func 50), args := #[.tmp 168, .tmp 169, .tmp 170, .tmp 174, .tmp 175, .tmp 176, .tmp 178], argTypes := #[24, 65, 66, 77, 3, 3, 3] }, 3, "law.go:549", #[⟨0, .data⟩, ⟨1, .data⟩, ⟨2, .data⟩, ⟨6, .data⟩, ⟨7, .data⟩, ⟨8, .data⟩, ⟨10, .data⟩], none⟩) rfl (fun K hK => ?_) AllReadyH.nil
                            go_simp
                            refine (hmO _ (hr.keep hHeld.2) (hL.keep hHeld.2)).mono ?_
                            rintro e' wB ⟨rfl, hb⟩
                            refine hK.out _ _ (kp_step hb hHeld) (fun hHeld => ?_)
                            clear hK K
                            (try simp only [Act.put, List.setIfInBounds_toArray, List.set_cons_zero, List.set_cons_succ])
                            refine wpAnyH_take (i := 12) (oi := ⟨some 22, .assign (.tmp 179), 3, "law.go:549", #[⟨11, .data⟩, ⟨11, .chain⟩, ⟨0, .phase⟩, ⟨1, .phase⟩, ⟨2, .phase⟩, ⟨3, .phase⟩, ⟨4, .phase⟩, ⟨5, .phase⟩, ⟨6, .phase⟩, ⟨7, .phase⟩, ⟨8, .phase⟩, ⟨9, .phase⟩, ⟨10, .phase⟩, ⟨11, .phase⟩], none⟩) (v := ?_) rfl (by kernel_rfl) (by kernel_rfl) (by kernel_rfl) (fun _ _ _ h => h) (Or.inl ⟨by rfl, fun W hSw => ?_⟩) hHeld ?_
                            rotate_left
                            · (try dsimp only at hSw); go_simp; (try with_reducible rfl)
                            (try simp only [Act.put, List.setIfInBounds_toArray, List.set_cons_zero, List.set_cons_succ])
                            refine wpAnyH_done (by kernel_rfl) ?_ _
                            refine NoPanic.normal ?_
                            replace hr := hr.keep hHeld.2
                            replace hL := hL.keep hHeld.2
                            replace hQ := hQ.keep hHeld.2
                            replace hT := hT.keep hHeld.2
                            replace hrY := hrY.keep hHeld.2
                            replace hfr := fr_call hfr hHeld.2
                            replace hX0 := hX0.keep hHeld.2
                            replace hc0 := fun j => hX0.cell j
                            replace hl0 := hX0.lt
                            replace hX1 := hX1.keep hHeld.2
                            replace hc1 := fun j => hX1.cell j
                            replace hl1 := hX1.lt
                            replace hX2 := hX2.keep hHeld.2
                            replace hc2 := fun j => hX2.cell j
                            replace hl2 := hX2.lt
                            clear hHeld
                            go_upto_region 12 with (fail)
                            have hbO := HBO.out
                            go_cut [192] from 180 (fun s wc => s = .bool false ∧ wB = wc)
                            case first =>
                              have hx1 : ¬ X < lft := by omega
                              by_cases hxe : X = lft
                              · subst hxe
                                have hx2 : ¬ ((i : Int) < (bi : Int)) := by have := hbO.2 rfl; omega
                                go_wp2_with fail
                                go_meet
                                case rel => exact ⟨rfl, rfl⟩
                              · go_wp2_with fail
                                go_meet
                                case rel => exact ⟨rfl, rfl⟩
                            case rest =>
                              obtain ⟨rfl, rfl⟩ := hcut
                              clear hbO
                              go_upto_region 14 with (fail)
                              go_cut [23] from 193 (fun s23 wc => ∃ B b, s23 = .slice B q2.length b ∧ RdS wc B 4 (q2.map Fact.row) ∧ Below wB.heap.size wB wc)
                              case first =>
                                refine wp_region_noPanic ?_
                                refine wp_region_held_drew (S := fun W => (∀ p : Addr, p.block < (wB).heap.size → W.cell? p = (wB).cell? p) ∧ Below (wB).heap.size (wB) W) (by kernel_rfl) ⟨fun _ _ => rfl, fr_drew (fr_refl _)⟩ (fun hHeld => ?_)
                                -- the region, step by step, in whatever order
                                refine wpAnyH_take (i := 0) (oi := ⟨some 193, .move (.tmp 3), 66, "law.go:552", #[], none⟩) (v := ?_) rfl (by kernel_rfl) (by kernel_rfl) (by kernel_rfl) (fun _ _ _ h => h) (Or.inl ⟨by rfl, fun W hSw => ?_⟩) hHeld ?_
                                rotate_left
                                · (try dsimp only at hSw); go_simp; (try with_reducible rfl)
                                (try simp only [Act.put, List.setIfInBounds_toArray, List.set_cons_zero, List.set_cons_succ])
                                refine wpAnyH_take (i := 2) (oi := ⟨some 195, .load 77 (.tmp 15), 77, "law.go:552", #[], none⟩) (v := ?_) rfl (by kernel_rfl) (by kernel_rfl) (by kernel_rfl) (fun _ _ _ h => h) (Or.inl ⟨by rfl, fun W hSw => ?_⟩) hHeld ?_
                                rotate_left
                                · (try dsimp only at hSw); go_simp; (try with_reducible rfl)
                                (try simp only [Act.put, List.setIfInBounds_toArray, List.set_cons_zero, List.set_cons_succ])
                                refine wpAnyH_ready (rs := [1, 3]) (by kernel_rfl) (by simp) ?_
                                refine (AllReadyH.cons (o := ⟨some 194, .call { callee := .builtin .append, args := #[.const (.slice none 0 0), .tmp 193], argTypes := #[66, 66] }, 66, "law.go:552", #[⟨0, .data⟩], none⟩) rfl (fun K hK => ?_) (AllReadyH.cons (o := ⟨some 196, .buildSlice 66 1 #[(0, .tmp 195)], 66, "law.go:552", #[⟨2, .data⟩], none⟩) rfl (fun K hK => ?_) AllReadyH.nil))
                                · rw [if_pos (by rfl)]
                                  refine wp_app_facts _ _ rfl wB.heap.size _ [] rfl (OwnS.nil _ _ _ _) (some ad) q.length qc q rfl rfl (hQ.keep hHeld.2) (by simp) hqlq hHeld.2.size ?_
                                  intro A1 c1 W1 hO1 hg1
                                  rw [show ([] : List Fact).length + q.length = q.length by simp] at hO1 ⊢
                                  rw [List.nil_append] at hO1
                                  have hb1 : Below _ _ W1 := (fr_refl _).grown hg1 (Nat.le_refl _) (fun i hi => by cases hi)
                                  (try replace hRF := hRF.keep hb1)
                                  refine hK.out _ _ (kp_step hb1 hHeld) (fun hHeld => ?_)
                                  clear hK K
                                  (try simp only [Act.put, List.setIfInBounds_toArray, List.set_cons_zero, List.set_cons_succ])
                                  refine wpAnyH_ready (rs := [3]) (by kernel_rfl) (by simp) ?_
                                  refine (AllReadyH.cons (o := ⟨some 196, .buildSlice 66 1 #[(0, .tmp 195)], 66, "law.go:552", #[⟨2, .data⟩], none⟩) rfl (fun K hK => ?_) AllReadyH.nil)
                                  rw [if_pos (by rfl)]
                                  refine wp_build1f (f := ⟨k, m, d, v⟩) rfl rfl ?_
                                  intro gF WF hRF hbF hgF
                                  (try replace hO1 := hO1.keep hbF)
                                  refine hK.out _ _ (kp_step hbF hHeld) (fun hHeld => ?_)
                                  clear hK K
                                  (try simp only [Act.put, List.setIfInBounds_toArray, List.set_cons_zero, List.set_cons_succ])
                                  refine wpAnyH_ready (rs := [4]) (by kernel_rfl) (by simp) ?_
                                  refine (AllReadyH.cons (o := ⟨some 197, .call { callee := .builtin .append, args := #[.tmp 194, .tmp 196], argTypes := #[66, 66] }, 66, "law.go:552", #[⟨1, .data⟩, ⟨3, .data⟩, ⟨1, .chain⟩], none⟩) rfl (fun K hK => ?_) AllReadyH.nil)
                                  rw [if_pos (by rfl)]
                                  refine wp_app_facts _ _ rfl wB.heap.size _ q rfl hO1 (some ⟨gF, 0, none⟩) 1 1 [⟨k, m, d, v⟩] rfl rfl hRF hqlq (by simp) hHeld.2.size ?_
                                  intro A2 c2 W2 hO2 hg2
                                  rw [HQ2.out] at hO2
                                  refine hK.out _ _ (kp_of (hHeld.2.grown hg2 hHeld.2.size hO1.ge)) (fun hHeld => ?_)
                                  clear hK K
                                  (try simp only [Act.put, List.setIfInBounds_toArray, List.set_cons_zero, List.set_cons_succ])
                                  refine wpAnyH_take (i := 5) (oi := ⟨some 23, .assign (.tmp 197), 66, "law.go:552", #[⟨4, .data⟩, ⟨4, .chain⟩, ⟨0, .phase⟩, ⟨1, .phase⟩, ⟨2, .phase⟩, ⟨3, .phase⟩, ⟨4, .phase⟩], none⟩) (v := ?_) rfl (by kernel_rfl) (by kernel_rfl) (by kernel_rfl) (fun _ _ _ h => h) (Or.inl ⟨by rfl, fun W hSw => ?_⟩) hHeld ?_
                                  rotate_left
                                  · (try dsimp only at hSw); go_simp; (try with_reducible rfl)
                                  (try simp only [Act.put, List.setIfInBounds_toArray, List.set_cons_zero, List.set_cons_succ])
                                  refine wpAnyH_done (by kernel_rfl) ?_ _
                                  refine NoPanic.normal ?_
                                  go_wp2_with fail
                                  go_meet
                                  case rel => exact ⟨A2, c2, by rw [← HQ2.out]; simp, hO2.rd, hHeld.2⟩
                                · rw [if_pos (by rfl)]
                                  refine wp_build1f (f := ⟨k, m, d, v⟩) rfl rfl ?_
                                  intro gF WF hRF hbF hgF
                                  (try replace hO1 := hO1.keep hbF)
                                  refine hK.out _ _ (kp_step hbF hHeld) (fun hHeld => ?_)
                                  clear hK K
                                  (try simp only [Act.put, List.setIfInBounds_toArray, List.set_cons_zero, List.set_cons_succ])
                                  refine wpAnyH_ready (rs := [1]) (by kernel_rfl) (by simp) ?_
                                  refine (AllReadyH.cons (o := ⟨some 194, .call { callee := .builtin .append, args := #[.const (.slice none 0 0), .tmp 193], argTypes := #[66, 66] }, 66, "law.go:552", #[⟨0, .data⟩], none⟩) rfl (fun K hK => ?_) AllReadyH.nil)
                                  rw [if_pos (by rfl)]
                                  refine wp_app_facts _ _ rfl wB.heap.size _ [] rfl (OwnS.nil _ _ _ _) (some ad) q.length qc q rfl rfl (hQ.keep hHeld.2) (by simp) hqlq hHeld.2.size ?_
                                  intro A1 c1 W1 hO1 hg1
                                  rw [show ([] : List Fact).length + q.length = q.length by simp] at hO1 ⊢
                                  rw [List.nil_append] at hO1
                                  have hb1 : Below _ _ W1 := (fr_refl _).grown hg1 (Nat.le_refl _) (fun i hi => by cases hi)
                                  (try replace hRF := hRF.keep hb1)
                                  refine hK.out _ _ (kp_step hb1 hHeld) (fun hHeld => ?_)
                                  clear hK K
                                  (try simp only [Act.put, List.setIfInBounds_toArray, List.set_cons_zero, List.set_cons_succ])
                                  refine wpAnyH_ready (rs := [4]) (by kernel_rfl) (by simp) ?_
                                  refine (AllReadyH.cons (o := ⟨some 197, .call { callee := .builtin .append, args := #[.tmp 194, .tmp 196], argTypes := #[66, 66] }, 66, "law.go:552", #[⟨1, .data⟩, ⟨3, .data⟩, ⟨1, .chain⟩], none⟩) rfl (fun K hK => ?_) AllReadyH.nil)
                                  rw [if_pos (by rfl)]
                                  refine wp_app_facts _ _ rfl wB.heap.size _ q rfl hO1 (some ⟨gF, 0, none⟩) 1 1 [⟨k, m, d, v⟩] rfl rfl hRF hqlq (by simp) hHeld.2.size ?_
                                  intro A2 c2 W2 hO2 hg2
                                  rw [HQ2.out] at hO2
                                  refine hK.out _ _ (kp_of (hHeld.2.grown hg2 hHeld.2.size hO1.ge)) (fun hHeld => ?_)
                                  clear hK K
                                  (try simp only [Act.put, List.setIfInBounds_toArray, List.set_cons_zero, List.set_cons_succ])
                                  refine wpAnyH_take (i := 5) (oi := ⟨some 23, .assign (.tmp 197), 66, "law.go:552", #[⟨4, .data⟩, ⟨4, .chain⟩, ⟨0, .phase⟩, ⟨1, .phase⟩, ⟨2, .phase⟩, ⟨3, .phase⟩, ⟨4, .phase⟩], none⟩) (v := ?_) rfl (by kernel_rfl) (by kernel_rfl) (by kernel_rfl) (fun _ _ _ h => h) (Or.inl ⟨by rfl, fun W hSw => ?_⟩) hHeld ?_
                                  rotate_left
                                  · (try dsimp only at hSw); go_simp; (try with_reducible rfl)
                                  (try simp only [Act.put, List.setIfInBounds_toArray, List.set_cons_zero, List.set_cons_succ])
                                  refine wpAnyH_done (by kernel_rfl) ?_ _
                                  refine NoPanic.normal ?_
                                  go_wp2_with fail
                                  go_meet
                                  case rel => exact ⟨A2, c2, by rw [← HQ2.out]; simp, hO2.rd, hHeld.2⟩
                              case rest =>
                                obtain ⟨B, b2, rfl, hB, hbel2⟩ := hcut
                                replace hr := hr.keep hbel2
                                replace hL := hL.keep hbel2
                                replace hQ := hQ.keep hbel2
                                replace hT := hT.keep hbel2
                                replace hrY := hrY.keep hbel2
                                replace hfr := fr_call hfr hbel2
                                replace hX0 := hX0.keep hbel2
                                replace hc0 := fun j => hX0.cell j
                                replace hl0 := hX0.lt
                                replace hX1 := hX1.keep hbel2
                                replace hc1 := fun j => hX1.cell j
                                replace hl1 := hX1.lt
                                replace hX2 := hX2.keep hbel2
                                replace hc2 := fun j => hX2.cell j
                                replace hl2 := hX2.lt
                                have hq2n : q2.length ≤ 9223372036854775807 := by have := HQL.out; omega
                                cases hq2 : asksB q2
                                · go_wp2_with fail
                                  refine (rAsks_is B b2 q2 _ hB hq2n _ hq2).mono ?_
                                  rintro e' w13 ⟨rfl, hb⟩
                                  replace hr := hr.keep hb
                                  replace hL := hL.keep hb
                                  replace hQ := hQ.keep hb
                                  replace hT := hT.keep hb
                                  replace hrY := hrY.keep hb
                                  replace hB := hB.keep hb
                                  replace hfr := fr_call hfr hb
                                  replace hX0 := hX0.keep hb
                                  replace hc0 := fun j => hX0.cell j
                                  replace hl0 := hX0.lt
                                  replace hX1 := hX1.keep hb
                                  replace hc1 := fun j => hX1.cell j
                                  replace hl1 := hX1.lt
                                  replace hX2 := hX2.keep hb
                                  replace hc2 := fun j => hX2.cell j
                                  replace hl2 := hX2.lt
                                  clear hb
                                  go_wp2_with fail
                                  refine (known_is _ hT).mono ?_
                                  rintro e' w14 ⟨rfl, hb⟩
                                  replace hr := hr.keep hb
                                  replace hL := hL.keep hb
                                  replace hQ := hQ.keep hb
                                  replace hT := hT.keep hb
                                  replace hrY := hrY.keep hb
                                  replace hB := hB.keep hb
                                  replace hfr := fr_call hfr hb
                                  replace hX0 := hX0.keep hb
                                  replace hc0 := fun j => hX0.cell j
                                  replace hl0 := hX0.lt
                                  replace hX1 := hX1.keep hb
                                  replace hc1 := fun j => hX1.cell j
                                  replace hl1 := hX1.lt
                                  replace hX2 := hX2.keep hb
                                  replace hc2 := fun j => hX2.cell j
                                  replace hl2 := hX2.lt
                                  clear hb
                                  go_wp2_with fail
                                  go_ret
                                  exact ⟨rfl, hfr⟩
                                · go_wp2_with fail
                                  refine (rAsks_is B b2 q2 _ hB hq2n _ hq2).mono ?_
                                  rintro e' w13 ⟨rfl, hb⟩
                                  replace hr := hr.keep hb
                                  replace hL := hL.keep hb
                                  replace hQ := hQ.keep hb
                                  replace hT := hT.keep hb
                                  replace hrY := hrY.keep hb
                                  replace hB := hB.keep hb
                                  replace hfr := fr_call hfr hb
                                  replace hX0 := hX0.keep hb
                                  replace hc0 := fun j => hX0.cell j
                                  replace hl0 := hX0.lt
                                  replace hX1 := hX1.keep hb
                                  replace hc1 := fun j => hX1.cell j
                                  replace hl1 := hX1.lt
                                  replace hX2 := hX2.keep hb
                                  replace hc2 := fun j => hX2.cell j
                                  replace hl2 := hX2.lt
                                  clear hb
                                  go_wp2_with fail
                                  refine (Ask_ok A L B n c lc b2 cs e num den add y z l q2 _ hr hn hL hln hB hq2n hok hm hf hq2 hg (by rw [HYS.out]; exact h2)).mono ?_
                                  rw [HYS.out, HBN2.out]
                                  rintro e' w14 ⟨rfl, hb⟩
                                  replace hr := hr.keep hb
                                  replace hL := hL.keep hb
                                  replace hQ := hQ.keep hb
                                  replace hT := hT.keep hb
                                  replace hrY := hrY.keep hb
                                  replace hB := hB.keep hb
                                  replace hfr := fr_call hfr hb
                                  replace hX0 := hX0.keep hb
                                  replace hc0 := fun j => hX0.cell j
                                  replace hl0 := hX0.lt
                                  replace hX1 := hX1.keep hb
                                  replace hc1 := fun j => hX1.cell j
                                  replace hl1 := hX1.lt
                                  replace hX2 := hX2.keep hb
                                  replace hc2 := fun j => hX2.cell j
                                  replace hl2 := hX2.lt
                                  clear hb
                                  go_wp2_with fail
                                  refine (known_is _ hT).mono ?_
                                  rintro e' w15 ⟨rfl, hb⟩
                                  replace hr := hr.keep hb
                                  replace hL := hL.keep hb
                                  replace hQ := hQ.keep hb
                                  replace hT := hT.keep hb
                                  replace hrY := hrY.keep hb
                                  replace hB := hB.keep hb
                                  replace hfr := fr_call hfr hb
                                  replace hX0 := hX0.keep hb
                                  replace hc0 := fun j => hX0.cell j
                                  replace hl0 := hX0.lt
                                  replace hX1 := hX1.keep hb
                                  replace hc1 := fun j => hX1.cell j
                                  replace hl1 := hX1.lt
                                  replace hX2 := hX2.keep hb
                                  replace hc2 := fun j => hX2.cell j
                                  replace hl2 := hX2.lt
                                  clear hb
                                  go_wp2_with fail
                                  go_ret
                                  exact ⟨rfl, hfr⟩
    · go_enter Tryz.func10, Tryz.ntmps10
      go_wp2_with fail
      have hfr := g1
      replace hr := hr.keep g1
      replace hL := hL.keep g1
      replace hQ := hQ.keep g1
      replace hT := hT.keep g1
      have hc0 := fun j => hX0.cell j
      have hc1 := fun j => hX1.cell j
      have hc2 := fun j => hX2.cell j
      have hl0 := hX0.lt
      have hl1 := hX1.lt
      have hl2 := hX2.lt
      refine (lshort_is A n c _ _ true hs).mono ?_
      rintro e' w1 ⟨rfl, hb⟩
      replace hr := hr.keep hb
      replace hL := hL.keep hb
      replace hQ := hQ.keep hb
      replace hT := hT.keep hb
      replace hfr := fr_call hfr hb
      replace hX0 := hX0.keep hb
      replace hc0 := fun j => hX0.cell j
      replace hl0 := hX0.lt
      replace hX1 := hX1.keep hb
      replace hc1 := fun j => hX1.cell j
      replace hl1 := hX1.lt
      replace hX2 := hX2.keep hb
      replace hc2 := fun j => hX2.cell j
      replace hl2 := hX2.lt
      clear hb
      go_wp2_with fail
      refine (known_is _ hT).mono ?_
      rintro e' w2 ⟨rfl, hb⟩
      replace hr := hr.keep hb
      replace hL := hL.keep hb
      replace hQ := hQ.keep hb
      replace hT := hT.keep hb
      replace hfr := fr_call hfr hb
      replace hX0 := hX0.keep hb
      replace hc0 := fun j => hX0.cell j
      replace hl0 := hX0.lt
      replace hX1 := hX1.keep hb
      replace hc1 := fun j => hX1.cell j
      replace hl1 := hX1.lt
      replace hX2 := hX2.keep hb
      replace hc2 := fun j => hX2.cell j
      replace hl2 := hX2.lt
      clear hb
      go_wp2_with fail
      go_ret
      exact ⟨rfl, hfr⟩
end Go.Proofs.YtnpgdifidejohaaGreatDoor
