/- The laws of letters: DialLetters, walked. -/
import Derived.Test.YtnpgdifidejohaaGreatDoorMEC
import Derived.Test.YtnpgdifidejohaaGreatDoorMD2
import Derived.Test.YtnpgdifidejohaaGreatDoorMD3
import Derived.Test.YtnpgdifidejohaaGreatDoorMBG
import Derived.Test.YtnpgdifidejohaaGreatDoorMD1
namespace Go.Proofs.YtnpgdifidejohaaGreatDoor
open Go.RowKit Dl

theorem likeGo_some {e y : Int} {cs : List Int} : ∀ (f : Nat) (a z : Int), likeGo e cs y f a = some z → a ≤ z ∧ z < a + f ∧ likeB e cs y z = true ∧ ∀ x, a ≤ x → x < z → likeB e cs y x = false := by
  intro f
  induction f with
  | zero => intro a z h; cases h
  | succ f ih =>
    intro a z h
    simp only [likeGo] at h
    split at h
    · rename_i hb
      cases h
      exact ⟨Int.le_refl _, by omega, hb, fun x h1 h2 => by omega⟩
    · rename_i hb
      obtain ⟨h1, h2, h3, h4⟩ := ih (a + 1) z h
      refine ⟨by omega, by omega, h3, fun x h5 h6 => ?_⟩
      by_cases hx : x = a
      · subst hx; simpa using hb
      · exact h4 x (by omega) h6
theorem likeGo_none {e y : Int} {cs : List Int} : ∀ (f : Nat) (a : Int), likeGo e cs y f a = none → ∀ x, a ≤ x → x < a + f → likeB e cs y x = false := by
  intro f
  induction f with
  | zero => intro a _ x h1 h2; omega
  | succ f ih =>
    intro a h x h1 h2
    simp only [likeGo] at h
    split at h
    · cases h
    · rename_i hb
      by_cases hx : x = a
      · subst hx; simpa using hb
      · exact ih (a + 1) h x (by omega) (by omega)
theorem likeOf_some {e y z : Int} {cs : List Int} (hy : y ≤ 4000) (h : likeOf e cs y = some z) : y < z ∧ z ≤ 4000 ∧ likeB e cs y z = true ∧ ∀ x, y < x → x < z → likeB e cs y x = false := by
  obtain ⟨h1, h2, h3, h4⟩ := likeGo_some _ _ _ h
  exact ⟨by omega, by omega, h3, fun x h5 h6 => h4 x (by omega) h6⟩
theorem likeOf_none {e y : Int} {cs : List Int} (h : likeOf e cs y = none) : ∀ x, y < x → x ≤ 4000 → likeB e cs y x = false :=
  fun x h1 h2 => likeGo_none _ _ h x (by omega) (by omega)

set_option maxRecDepth 100000 in
set_option maxHeartbeats 8000000 in
theorem letters_true (A : Option Addr) (n c : Nat) (cs : List Int) (e y : Int) (w : World) (hr : Rd w A n cs) (hn : n ≤ 9223372036854775807) (hT : TabP w) :
    Calls Tryz.prog 3 #[.agg #[.int .i64 e, .slice A n c], .int .i64 y] w fun e' w' => e' = .returned (.bool true) ∧ Below w.heap.size w w' := by
  have g1 := fr_alloc (fr_refl w) (.cells #[.int .i64 e, .slice A n c] 24)
  have hX0 : Blk (w.alloc (.cells #[.int .i64 e, .slice A n c] 24)) (w.heap.size) 24 #[.int .i64 e, .slice A n c] := (Blk.new_at _ _ (by simp))
  cases hs : decide ((n : Int) ≤ 5)
  · go_enter Tryz.func3, Tryz.ntmps3
    go_wp2_with fail
    have hfr := g1
    replace hr := hr.keep g1
    replace hT := hT.keep g1
    have hc0 := fun j => hX0.cell j
    have hl0 := hX0.lt
    refine (lshort_is A n c _ _ false hs).mono ?_
    rintro e' w1 ⟨rfl, hb⟩
    replace hr := hr.keep hb
    replace hT := hT.keep hb
    replace hfr := fr_call hfr hb
    replace hX0 := hX0.keep hb
    replace hc0 := fun j => hX0.cell j
    replace hl0 := hX0.lt
    clear hb
    go_wp2_with fail
    refine (known_is _ hT).mono ?_
    rintro e' w2 ⟨rfl, hb⟩
    replace hr := hr.keep hb
    replace hT := hT.keep hb
    replace hfr := fr_call hfr hb
    replace hX0 := hX0.keep hb
    replace hc0 := fun j => hX0.cell j
    replace hl0 := hX0.lt
    clear hb
    go_wp2_with fail
    go_ret
    exact ⟨rfl, hfr⟩
  · cases hok : calOk e cs
    · go_enter Tryz.func3, Tryz.ntmps3
      go_wp2_with fail
      have hfr := g1
      replace hr := hr.keep g1
      replace hT := hT.keep g1
      have hc0 := fun j => hX0.cell j
      have hl0 := hX0.lt
      refine (lshort_is A n c _ _ true hs).mono ?_
      rintro e' w1 ⟨rfl, hb⟩
      replace hr := hr.keep hb
      replace hT := hT.keep hb
      replace hfr := fr_call hfr hb
      replace hX0 := hX0.keep hb
      replace hc0 := fun j => hX0.cell j
      replace hl0 := hX0.lt
      clear hb
      go_wp2_with fail
      refine (Letters_bad A n c cs e y _ hr hn (Or.inl hok)).mono ?_
      rintro e' w2 ⟨rfl, hb⟩
      replace hr := hr.keep hb
      replace hT := hT.keep hb
      replace hfr := fr_call hfr hb
      replace hX0 := hX0.keep hb
      replace hc0 := fun j => hX0.cell j
      replace hl0 := hX0.lt
      clear hb
      go_wp2_with fail
      refine (Like_bad A n c cs e y _ hr hn (Or.inl hok)).mono ?_
      rintro e' w3 ⟨rfl, hb⟩
      replace hr := hr.keep hb
      replace hT := hT.keep hb
      replace hfr := fr_call hfr hb
      replace hX0 := hX0.keep hb
      replace hc0 := fun j => hX0.cell j
      replace hl0 := hX0.lt
      clear hb
      go_wp2_with fail
      refine (rCalendar_is A n c cs e _ hr hn _ hok).mono ?_
      rintro e' w4 ⟨rfl, hb⟩
      replace hr := hr.keep hb
      replace hT := hT.keep hb
      replace hfr := fr_call hfr hb
      replace hX0 := hX0.keep hb
      replace hc0 := fun j => hX0.cell j
      replace hl0 := hX0.lt
      clear hb
      go_wp2_with fail
      refine (known_is _ hT).mono ?_
      rintro e' w5 ⟨rfl, hb⟩
      replace hr := hr.keep hb
      replace hT := hT.keep hb
      replace hfr := fr_call hfr hb
      replace hX0 := hX0.keep hb
      replace hc0 := fun j => hX0.cell j
      replace hl0 := hX0.lt
      clear hb
      go_wp2_with fail
      go_ret
      exact ⟨rfl, hfr⟩
    · cases hy : inB y 0 4000
      · go_enter Tryz.func3, Tryz.ntmps3
        go_wp2_with fail
        have hfr := g1
        replace hr := hr.keep g1
        replace hT := hT.keep g1
        have hc0 := fun j => hX0.cell j
        have hl0 := hX0.lt
        refine (lshort_is A n c _ _ true hs).mono ?_
        rintro e' w1 ⟨rfl, hb⟩
        replace hr := hr.keep hb
        replace hT := hT.keep hb
        replace hfr := fr_call hfr hb
        replace hX0 := hX0.keep hb
        replace hc0 := fun j => hX0.cell j
        replace hl0 := hX0.lt
        clear hb
        go_wp2_with fail
        refine (Letters_bad A n c cs e y _ hr hn (Or.inr hy)).mono ?_
        rintro e' w2 ⟨rfl, hb⟩
        replace hr := hr.keep hb
        replace hT := hT.keep hb
        replace hfr := fr_call hfr hb
        replace hX0 := hX0.keep hb
        replace hc0 := fun j => hX0.cell j
        replace hl0 := hX0.lt
        clear hb
        go_wp2_with fail
        refine (Like_bad A n c cs e y _ hr hn (Or.inr hy)).mono ?_
        rintro e' w3 ⟨rfl, hb⟩
        replace hr := hr.keep hb
        replace hT := hT.keep hb
        replace hfr := fr_call hfr hb
        replace hX0 := hX0.keep hb
        replace hc0 := fun j => hX0.cell j
        replace hl0 := hX0.lt
        clear hb
        go_wp2_with fail
        refine (rCalendar_is A n c cs e _ hr hn _ hok).mono ?_
        rintro e' w4 ⟨rfl, hb⟩
        replace hr := hr.keep hb
        replace hT := hT.keep hb
        replace hfr := fr_call hfr hb
        replace hX0 := hX0.keep hb
        replace hc0 := fun j => hX0.cell j
        replace hl0 := hX0.lt
        clear hb
        go_wp2_with fail
        refine (rYear_is _ _ _ hy).mono ?_
        rintro e' w5 ⟨rfl, rfl⟩
        go_wp2_with fail
        refine (known_is _ hT).mono ?_
        rintro e' w6 ⟨rfl, hb⟩
        replace hr := hr.keep hb
        replace hT := hT.keep hb
        replace hfr := fr_call hfr hb
        replace hX0 := hX0.keep hb
        replace hc0 := fun j => hX0.cell j
        replace hl0 := hX0.lt
        clear hb
        go_wp2_with fail
        go_ret
        exact ⟨rfl, hfr⟩
      · have hy2 := inB_iff.1 hy
        rcases hlk : likeOf e cs y with _ | z
        · have HL := Lib.hid hlk
          clear hlk
          go_enter Tryz.func3, Tryz.ntmps3
          go_wp2_with fail
          have hfr := g1
          replace hr := hr.keep g1
          replace hT := hT.keep g1
          have hc0 := fun j => hX0.cell j
          have hl0 := hX0.lt
          refine (lshort_is A n c _ _ true hs).mono ?_
          rintro e' w1 ⟨rfl, hb⟩
          replace hr := hr.keep hb
          replace hT := hT.keep hb
          replace hfr := fr_call hfr hb
          replace hX0 := hX0.keep hb
          replace hc0 := fun j => hX0.cell j
          replace hl0 := hX0.lt
          clear hb
          go_wp2_with fail
          refine (Letters_ok A n c cs e y _ hr hn hok hy).mono ?_
          rintro e' w2 ⟨rfl, hb⟩
          replace hr := hr.keep hb
          replace hT := hT.keep hb
          replace hfr := fr_call hfr hb
          replace hX0 := hX0.keep hb
          replace hc0 := fun j => hX0.cell j
          replace hl0 := hX0.lt
          clear hb
          go_wp2_with fail
          refine (Like_ok A n c cs e y _ hr hn hok hy).mono ?_
          rw [HL.out]
          simp only [likeV]
          rintro e' w3 ⟨rfl, hb⟩
          replace hr := hr.keep hb
          replace hT := hT.keep hb
          replace hfr := fr_call hfr hb
          replace hX0 := hX0.keep hb
          replace hc0 := fun j => hX0.cell j
          replace hl0 := hX0.lt
          clear hb
          go_wp2_with fail
          refine (rCalendar_is A n c cs e _ hr hn _ hok).mono ?_
          rintro e' w4 ⟨rfl, hb⟩
          replace hr := hr.keep hb
          replace hT := hT.keep hb
          replace hfr := fr_call hfr hb
          replace hX0 := hX0.keep hb
          replace hc0 := fun j => hX0.cell j
          replace hl0 := hX0.lt
          clear hb
          go_wp2_with fail
          refine (rYear_is _ _ _ hy).mono ?_
          rintro e' w5 ⟨rfl, rfl⟩
          go_wp2_with fail
          refine (rLetters_any A n c cs e y _ hr hok hy2.1 hy2.2).mono ?_
          rintro e' w6 ⟨rfl, hb⟩
          replace hr := hr.keep hb
          replace hT := hT.keep hb
          replace hfr := fr_call hfr hb
          replace hX0 := hX0.keep hb
          replace hc0 := fun j => hX0.cell j
          replace hl0 := hX0.lt
          clear hb
          go_wp2_with fail
          refine (rLike_any A n c cs e y _ hr hok hy2.1 hy2.2).mono ?_
          rw [HL.out]
          simp only [rlikeZ]
          rintro e' w7 ⟨rfl, hb⟩
          replace hr := hr.keep hb
          replace hT := hT.keep hb
          replace hfr := fr_call hfr hb
          replace hX0 := hX0.keep hb
          replace hc0 := fun j => hX0.cell j
          replace hl0 := hX0.lt
          clear hb
          go_wp2_with fail
          refine (known_is _ hT).mono ?_
          rintro e' w8 ⟨rfl, hb⟩
          replace hr := hr.keep hb
          replace hT := hT.keep hb
          replace hfr := fr_call hfr hb
          replace hX0 := hX0.keep hb
          replace hc0 := fun j => hX0.cell j
          replace hl0 := hX0.lt
          clear hb
          go_wp2_with fail
          go_ret
          exact ⟨rfl, hfr⟩
        · have hz := (likeOf_some hy2.2 hlk).1
          have HL := Lib.hid hlk
          clear hlk
          have hz0 : 0 ≤ z := by omega
          go_enter Tryz.func3, Tryz.ntmps3
          go_wp2_with fail
          have hfr := g1
          replace hr := hr.keep g1
          replace hT := hT.keep g1
          have hc0 := fun j => hX0.cell j
          have hl0 := hX0.lt
          refine (lshort_is A n c _ _ true hs).mono ?_
          rintro e' w1 ⟨rfl, hb⟩
          replace hr := hr.keep hb
          replace hT := hT.keep hb
          replace hfr := fr_call hfr hb
          replace hX0 := hX0.keep hb
          replace hc0 := fun j => hX0.cell j
          replace hl0 := hX0.lt
          clear hb
          go_wp2_with fail
          refine (Letters_ok A n c cs e y _ hr hn hok hy).mono ?_
          rintro e' w2 ⟨rfl, hb⟩
          replace hr := hr.keep hb
          replace hT := hT.keep hb
          replace hfr := fr_call hfr hb
          replace hX0 := hX0.keep hb
          replace hc0 := fun j => hX0.cell j
          replace hl0 := hX0.lt
          clear hb
          go_wp2_with fail
          refine (Like_ok A n c cs e y _ hr hn hok hy).mono ?_
          rw [HL.out]
          simp only [likeV]
          rintro e' w3 ⟨rfl, hb⟩
          replace hr := hr.keep hb
          replace hT := hT.keep hb
          replace hfr := fr_call hfr hb
          replace hX0 := hX0.keep hb
          replace hc0 := fun j => hX0.cell j
          replace hl0 := hX0.lt
          clear hb
          go_wp2_with fail
          refine (rCalendar_is A n c cs e _ hr hn _ hok).mono ?_
          rintro e' w4 ⟨rfl, hb⟩
          replace hr := hr.keep hb
          replace hT := hT.keep hb
          replace hfr := fr_call hfr hb
          replace hX0 := hX0.keep hb
          replace hc0 := fun j => hX0.cell j
          replace hl0 := hX0.lt
          clear hb
          go_wp2_with fail
          refine (rYear_is _ _ _ hy).mono ?_
          rintro e' w5 ⟨rfl, rfl⟩
          go_wp2_with fail
          refine (rLetters_any A n c cs e y _ hr hok hy2.1 hy2.2).mono ?_
          rintro e' w6 ⟨rfl, hb⟩
          replace hr := hr.keep hb
          replace hT := hT.keep hb
          replace hfr := fr_call hfr hb
          replace hX0 := hX0.keep hb
          replace hc0 := fun j => hX0.cell j
          replace hl0 := hX0.lt
          clear hb
          go_wp2_with fail
          refine (rLike_any A n c cs e y _ hr hok hy2.1 hy2.2).mono ?_
          rw [HL.out]
          simp only [rlikeZ]
          rintro e' w7 ⟨rfl, hb⟩
          replace hr := hr.keep hb
          replace hT := hT.keep hb
          replace hfr := fr_call hfr hb
          replace hX0 := hX0.keep hb
          replace hc0 := fun j => hX0.cell j
          replace hl0 := hX0.lt
          clear hb
          go_wp2_with fail
          refine (known_is _ hT).mono ?_
          rintro e' w8 ⟨rfl, hb⟩
          replace hr := hr.keep hb
          replace hT := hT.keep hb
          replace hfr := fr_call hfr hb
          replace hX0 := hX0.keep hb
          replace hc0 := fun j => hX0.cell j
          replace hl0 := hX0.lt
          clear hb
          go_wp2_with fail
          go_ret
          exact ⟨rfl, hfr⟩
end Go.Proofs.YtnpgdifidejohaaGreatDoor
