/- The law of realms: DialDoubles, walked. -/
import Derived.Test.YtnpgdifidejohaaGreatDoorMEC
import Derived.Test.YtnpgdifidejohaaGreatDoorMB4
import Derived.Test.YtnpgdifidejohaaGreatDoorMBL
import Derived.Test.YtnpgdifidejohaaGreatDoorMB5
import Derived.Test.YtnpgdifidejohaaGreatDoorMD1
import Derived.Test.YtnpgdifidejohaaGreatDoorMD2
import Derived.Test.YtnpgdifidejohaaGreatDoorMD3
namespace Go.Proofs.YtnpgdifidejohaaGreatDoor
open Go.RowKit Dl

theorem realm_parts {e1 e2 last : Int} {c1 c2 : List Int} (h : realmOk e1 c1 e2 c2 last = true) : calOk e1 c1 = true ∧ calOk e2 c2 = true := by
  unfold realmOk at h
  simp only [Bool.and_eq_true] at h
  exact ⟨h.1.1, h.1.2⟩
theorem days_len (e1 : Int) (c1 : List Int) (e2 : Int) (c2 : List Int) (last y m d : Int) : (daysOf e1 c1 e2 c2 last y m d).length ≤ 9223372036854775807 := by
  unfold daysOf
  split <;> split <;> simp

set_option maxRecDepth 100000 in
set_option maxHeartbeats 8000000 in
theorem ltidy_is (A1 A2 : Option Addr) (n1 k1 n2 k2 : Nat) (e1 e2 l : Value) (w : World) (b : Bool) (hb : (decide ((n1 : Int) ≤ 5) && decide ((n2 : Int) ≤ 5)) = b) :
    Calls Tryz.prog 27 #[.agg #[e1, .slice A1 n1 k1, e2, .slice A2 n2 k2, l]] w fun e' w' => e' = .returned (.bool b) ∧ Below w.heap.size w w' := by
  subst hb
  have g1 := fr_alloc (fr_refl w) (.cells #[e1, .slice A1 n1 k1, e2, .slice A2 n2 k2, l] 45)
  have hX0 : Blk (w.alloc (.cells #[e1, .slice A1 n1 k1, e2, .slice A2 n2 k2, l] 45)) (w.heap.size) 45 #[e1, .slice A1 n1 k1, e2, .slice A2 n2 k2, l] := (Blk.new_at _ _ (by simp))
  cases h1 : decide ((n1 : Int) ≤ 5)
  · go_enter Tryz.func27, Tryz.ntmps27
    go_wp2_with fail
    have hfr := g1
    have hc0 := fun j => hX0.cell j
    have hl0 := hX0.lt
    refine (lshort_is A1 n1 k1 e1 _ false h1).mono ?_
    rintro e' w1 ⟨rfl, hb⟩
    replace hfr := fr_call hfr hb
    replace hX0 := hX0.keep hb
    replace hc0 := fun j => hX0.cell j
    replace hl0 := hX0.lt
    clear hb
    go_wp2_with fail
    go_ret
    exact ⟨rfl, hfr⟩
  · go_enter Tryz.func27, Tryz.ntmps27
    go_wp2_with fail
    have hfr := g1
    have hc0 := fun j => hX0.cell j
    have hl0 := hX0.lt
    refine (lshort_is A1 n1 k1 e1 _ true h1).mono ?_
    rintro e' w1 ⟨rfl, hb⟩
    replace hfr := fr_call hfr hb
    replace hX0 := hX0.keep hb
    replace hc0 := fun j => hX0.cell j
    replace hl0 := hX0.lt
    clear hb
    go_wp2_with fail
    refine (lshort_is A2 n2 k2 e2 _ _ rfl).mono ?_
    rintro e' w2 ⟨rfl, hb⟩
    replace hfr := fr_call hfr hb
    replace hX0 := hX0.keep hb
    replace hc0 := fun j => hX0.cell j
    replace hl0 := hX0.lt
    clear hb
    go_wp2_with fail
    go_ret
    exact ⟨rfl, hfr⟩

set_option maxRecDepth 100000 in
set_option maxHeartbeats 8000000 in
theorem doubles_true (A1 A2 : Option Addr) (n1 k1 n2 k2 : Nat) (c1 c2 : List Int) (e1 e2 last day y m d : Int) (w : World) (hr1 : Rd w A1 n1 c1) (hn1 : n1 ≤ 9223372036854775807) (hr2 : Rd w A2 n2 c2) (hn2 : n2 ≤ 9223372036854775807) (hT : TabP w) :
    Calls Tryz.prog 6 #[.agg #[.int .i64 e1, .slice A1 n1 k1, .int .i64 e2, .slice A2 n2 k2, .int .i64 last], .int .i64 day, .agg #[.int .i64 y, .int .i64 m, .int .i64 d]] w fun e' w' => e' = .returned (.bool true) ∧ Below w.heap.size w w' := by
  have g1 := fr_alloc (fr_alloc (fr_refl w) (.cells #[.int .i64 e1, .slice A1 n1 k1, .int .i64 e2, .slice A2 n2 k2, .int .i64 last] 45)) (.cells #[.int .i64 y, .int .i64 m, .int .i64 d] 38)
  have hX0 : Blk ((w.alloc (.cells #[.int .i64 e1, .slice A1 n1 k1, .int .i64 e2, .slice A2 n2 k2, .int .i64 last] 45)).alloc (.cells #[.int .i64 y, .int .i64 m, .int .i64 d] 38)) (w.heap.size) 45 #[.int .i64 e1, .slice A1 n1 k1, .int .i64 e2, .slice A2 n2 k2, .int .i64 last] := ((Blk.new_at _ _ (by simp)).alloc _)
  have hX1 : Blk ((w.alloc (.cells #[.int .i64 e1, .slice A1 n1 k1, .int .i64 e2, .slice A2 n2 k2, .int .i64 last] 45)).alloc (.cells #[.int .i64 y, .int .i64 m, .int .i64 d] 38)) (w.heap.size + 1) 38 #[.int .i64 y, .int .i64 m, .int .i64 d] := (Blk.new_at _ _ (by simp))
  cases ht : (decide ((n1 : Int) ≤ 5) && decide ((n2 : Int) ≤ 5))
  · go_enter Tryz.func6, Tryz.ntmps6
    go_wp2_with fail
    have hfr := g1
    replace hr1 := hr1.keep g1
    replace hr2 := hr2.keep g1
    replace hT := hT.keep g1
    have hc0 := fun j => hX0.cell j
    have hc1 := fun j => hX1.cell j
    have hl0 := hX0.lt
    have hl1 := hX1.lt
    refine (ltidy_is A1 A2 n1 k1 n2 k2 _ _ _ _ false ht).mono ?_
    rintro e' w1 ⟨rfl, hb⟩
    replace hr1 := hr1.keep hb
    replace hr2 := hr2.keep hb
    replace hT := hT.keep hb
    replace hfr := fr_call hfr hb
    replace hX0 := hX0.keep hb
    replace hc0 := fun j => hX0.cell j
    replace hl0 := hX0.lt
    replace hX1 := hX1.keep hb
    replace hc1 := fun j => hX1.cell j
    replace hl1 := hX1.lt
    clear hb
    go_wp2_with fail
    refine (known_is _ hT).mono ?_
    rintro e' w2 ⟨rfl, hb⟩
    replace hr1 := hr1.keep hb
    replace hr2 := hr2.keep hb
    replace hT := hT.keep hb
    replace hfr := fr_call hfr hb
    replace hX0 := hX0.keep hb
    replace hc0 := fun j => hX0.cell j
    replace hl0 := hX0.lt
    replace hX1 := hX1.keep hb
    replace hc1 := fun j => hX1.cell j
    replace hl1 := hX1.lt
    clear hb
    go_wp2_with fail
    go_ret
    exact ⟨rfl, hfr⟩
  · have HT' := Lib.hid ht
    cases hok : realmOk e1 c1 e2 c2 last
    · go_enter Tryz.func6, Tryz.ntmps6
      go_wp2_with fail
      have hfr := g1
      replace hr1 := hr1.keep g1
      replace hr2 := hr2.keep g1
      replace hT := hT.keep g1
      have hc0 := fun j => hX0.cell j
      have hc1 := fun j => hX1.cell j
      have hl0 := hX0.lt
      have hl1 := hX1.lt
      refine (ltidy_is A1 A2 n1 k1 n2 k2 _ _ _ _ true ht).mono ?_
      rintro e' w1 ⟨rfl, hb⟩
      replace hr1 := hr1.keep hb
      replace hr2 := hr2.keep hb
      replace hT := hT.keep hb
      replace hfr := fr_call hfr hb
      replace hX0 := hX0.keep hb
      replace hc0 := fun j => hX0.cell j
      replace hl0 := hX0.lt
      replace hX1 := hX1.keep hb
      replace hc1 := fun j => hX1.cell j
      replace hl1 := hX1.lt
      clear hb
      go_wp2_with fail
      refine (On_bad A1 A2 n1 k1 n2 k2 c1 c2 e1 e2 last day _ hr1 hr2 hn1 hn2 (Or.inl hok)).mono ?_
      rintro e' w2 ⟨rfl, hb⟩
      replace hr1 := hr1.keep hb
      replace hr2 := hr2.keep hb
      replace hT := hT.keep hb
      replace hfr := fr_call hfr hb
      replace hX0 := hX0.keep hb
      replace hc0 := fun j => hX0.cell j
      replace hl0 := hX0.lt
      replace hX1 := hX1.keep hb
      replace hc1 := fun j => hX1.cell j
      replace hl1 := hX1.lt
      clear hb
      go_wp2_with fail
      have ga := fr_alloc (fr_refl w2) (.cells #[.int .i64 0, .int .i64 0, .int .i64 0] 38)
      replace hr1 := hr1.keep ga
      replace hr2 := hr2.keep ga
      replace hT := hT.keep ga
      replace hfr := fr_call hfr ga
      replace hX0 := hX0.keep ga
      replace hc0 := fun j => hX0.cell j
      replace hl0 := hX0.lt
      replace hX1 := hX1.keep ga
      replace hc1 := fun j => hX1.cell j
      replace hl1 := hX1.lt
      have hX2 := Blk.new w2 38 #[.int .i64 0, .int .i64 0, .int .i64 0]
      have hc2 := fun j => hX2.cell j
      have hl2 := hX2.lt
      clear ga
      refine (Days_bad A1 A2 n1 k1 n2 k2 c1 c2 e1 e2 last y m d _ hr1 hr2 hn1 hn2 (Or.inl hok)).mono ?_
      rintro e' w3 ⟨rfl, hb⟩
      replace hr1 := hr1.keep hb
      replace hr2 := hr2.keep hb
      replace hT := hT.keep hb
      replace hfr := fr_call hfr hb
      replace hX0 := hX0.keep hb
      replace hc0 := fun j => hX0.cell j
      replace hl0 := hX0.lt
      replace hX1 := hX1.keep hb
      replace hc1 := fun j => hX1.cell j
      replace hl1 := hX1.lt
      replace hX2 := hX2.keep hb
      replace hc2 := fun j => hX2.cell j
      replace hl2 := hX2.lt
      clear hb
      go_wp2_with fail
      refine (rRealm_is A1 A2 n1 k1 n2 k2 c1 c2 e1 e2 last _ hr1 hr2 hn1 hn2 _ hok).mono ?_
      rintro e' w4 ⟨rfl, hb⟩
      replace hr1 := hr1.keep hb
      replace hr2 := hr2.keep hb
      replace hT := hT.keep hb
      replace hfr := fr_call hfr hb
      replace hX0 := hX0.keep hb
      replace hc0 := fun j => hX0.cell j
      replace hl0 := hX0.lt
      replace hX1 := hX1.keep hb
      replace hc1 := fun j => hX1.cell j
      replace hl1 := hX1.lt
      replace hX2 := hX2.keep hb
      replace hc2 := fun j => hX2.cell j
      replace hl2 := hX2.lt
      clear hb
      go_wp2_with fail
      refine (known_is _ hT).mono ?_
      rintro e' w5 ⟨rfl, hb⟩
      replace hr1 := hr1.keep hb
      replace hr2 := hr2.keep hb
      replace hT := hT.keep hb
      replace hfr := fr_call hfr hb
      replace hX0 := hX0.keep hb
      replace hc0 := fun j => hX0.cell j
      replace hl0 := hX0.lt
      replace hX1 := hX1.keep hb
      replace hc1 := fun j => hX1.cell j
      replace hl1 := hX1.lt
      replace hX2 := hX2.keep hb
      replace hc2 := fun j => hX2.cell j
      replace hl2 := hX2.lt
      clear hb
      go_wp2_with fail
      go_ret
      exact ⟨rfl, hfr⟩
    · have hk := realm_parts hok
      have hdl := days_len e1 c1 e2 c2 last y m d
      obtain ⟨ds, gds⟩ : ∃ ds, daysOf e1 c1 e2 c2 last y m d = ds := ⟨_, rfl⟩
      rw [gds] at hdl
      have HDS := Lib.hid gds
      clear gds
      cases hwr : writtenB y m d
      · cases hd : inB day 0 2000000
        · go_enter Tryz.func6, Tryz.ntmps6
          go_wp2_with fail
          have hfr := g1
          replace hr1 := hr1.keep g1
          replace hr2 := hr2.keep g1
          replace hT := hT.keep g1
          have hc0 := fun j => hX0.cell j
          have hc1 := fun j => hX1.cell j
          have hl0 := hX0.lt
          have hl1 := hX1.lt
          refine (ltidy_is A1 A2 n1 k1 n2 k2 _ _ _ _ true ht).mono ?_
          rintro e' w1 ⟨rfl, hb⟩
          replace hr1 := hr1.keep hb
          replace hr2 := hr2.keep hb
          replace hT := hT.keep hb
          replace hfr := fr_call hfr hb
          replace hX0 := hX0.keep hb
          replace hc0 := fun j => hX0.cell j
          replace hl0 := hX0.lt
          replace hX1 := hX1.keep hb
          replace hc1 := fun j => hX1.cell j
          replace hl1 := hX1.lt
          clear hb
          go_wp2_with fail
          refine (On_bad A1 A2 n1 k1 n2 k2 c1 c2 e1 e2 last day _ hr1 hr2 hn1 hn2 (Or.inr hd)).mono ?_
          rintro e' w2 ⟨rfl, hb⟩
          replace hr1 := hr1.keep hb
          replace hr2 := hr2.keep hb
          replace hT := hT.keep hb
          replace hfr := fr_call hfr hb
          replace hX0 := hX0.keep hb
          replace hc0 := fun j => hX0.cell j
          replace hl0 := hX0.lt
          replace hX1 := hX1.keep hb
          replace hc1 := fun j => hX1.cell j
          replace hl1 := hX1.lt
          clear hb
          go_wp2_with fail
          have ga := fr_alloc (fr_refl w2) (.cells #[.int .i64 0, .int .i64 0, .int .i64 0] 38)
          replace hr1 := hr1.keep ga
          replace hr2 := hr2.keep ga
          replace hT := hT.keep ga
          replace hfr := fr_call hfr ga
          replace hX0 := hX0.keep ga
          replace hc0 := fun j => hX0.cell j
          replace hl0 := hX0.lt
          replace hX1 := hX1.keep ga
          replace hc1 := fun j => hX1.cell j
          replace hl1 := hX1.lt
          have hX2 := Blk.new w2 38 #[.int .i64 0, .int .i64 0, .int .i64 0]
          have hc2 := fun j => hX2.cell j
          have hl2 := hX2.lt
          clear ga
          refine (Days_bad A1 A2 n1 k1 n2 k2 c1 c2 e1 e2 last y m d _ hr1 hr2 hn1 hn2 (Or.inr hwr)).mono ?_
          rintro e' w3 ⟨rfl, hb⟩
          replace hr1 := hr1.keep hb
          replace hr2 := hr2.keep hb
          replace hT := hT.keep hb
          replace hfr := fr_call hfr hb
          replace hX0 := hX0.keep hb
          replace hc0 := fun j => hX0.cell j
          replace hl0 := hX0.lt
          replace hX1 := hX1.keep hb
          replace hc1 := fun j => hX1.cell j
          replace hl1 := hX1.lt
          replace hX2 := hX2.keep hb
          replace hc2 := fun j => hX2.cell j
          replace hl2 := hX2.lt
          clear hb
          go_wp2_with fail
          refine (rRealm_is A1 A2 n1 k1 n2 k2 c1 c2 e1 e2 last _ hr1 hr2 hn1 hn2 _ hok).mono ?_
          rintro e' w4 ⟨rfl, hb⟩
          replace hr1 := hr1.keep hb
          replace hr2 := hr2.keep hb
          replace hT := hT.keep hb
          replace hfr := fr_call hfr hb
          replace hX0 := hX0.keep hb
          replace hc0 := fun j => hX0.cell j
          replace hl0 := hX0.lt
          replace hX1 := hX1.keep hb
          replace hc1 := fun j => hX1.cell j
          replace hl1 := hX1.lt
          replace hX2 := hX2.keep hb
          replace hc2 := fun j => hX2.cell j
          replace hl2 := hX2.lt
          clear hb
          go_wp2_with fail
          refine (rWritten_is y m d _ _ hwr).mono ?_
          rintro e' w5 ⟨rfl, hb⟩
          replace hr1 := hr1.keep hb
          replace hr2 := hr2.keep hb
          replace hT := hT.keep hb
          replace hfr := fr_call hfr hb
          replace hX0 := hX0.keep hb
          replace hc0 := fun j => hX0.cell j
          replace hl0 := hX0.lt
          replace hX1 := hX1.keep hb
          replace hc1 := fun j => hX1.cell j
          replace hl1 := hX1.lt
          replace hX2 := hX2.keep hb
          replace hc2 := fun j => hX2.cell j
          replace hl2 := hX2.lt
          clear hb
          go_wp2_with fail
          refine (rWritten_is y m d _ _ hwr).mono ?_
          rintro e' w6 ⟨rfl, hb⟩
          replace hr1 := hr1.keep hb
          replace hr2 := hr2.keep hb
          replace hT := hT.keep hb
          replace hfr := fr_call hfr hb
          replace hX0 := hX0.keep hb
          replace hc0 := fun j => hX0.cell j
          replace hl0 := hX0.lt
          replace hX1 := hX1.keep hb
          replace hc1 := fun j => hX1.cell j
          replace hl1 := hX1.lt
          replace hX2 := hX2.keep hb
          replace hc2 := fun j => hX2.cell j
          replace hl2 := hX2.lt
          clear hb
          go_wp2_with fail
          refine (rNumber_is _ _ _ hd).mono ?_
          rintro e' w7 ⟨rfl, rfl⟩
          go_wp2_with fail
          refine (known_is _ hT).mono ?_
          rintro e' w8 ⟨rfl, hb⟩
          replace hr1 := hr1.keep hb
          replace hr2 := hr2.keep hb
          replace hT := hT.keep hb
          replace hfr := fr_call hfr hb
          replace hX0 := hX0.keep hb
          replace hc0 := fun j => hX0.cell j
          replace hl0 := hX0.lt
          replace hX1 := hX1.keep hb
          replace hc1 := fun j => hX1.cell j
          replace hl1 := hX1.lt
          replace hX2 := hX2.keep hb
          replace hc2 := fun j => hX2.cell j
          replace hl2 := hX2.lt
          clear hb
          go_wp2_with fail
          go_ret
          exact ⟨rfl, hfr⟩
        · have hd2 := inB_iff.1 hd
          rcases ho : onOf e1 c1 e2 c2 last day with _ | x
          · have HO := Lib.hid ho
            clear ho
            go_enter Tryz.func6, Tryz.ntmps6
            go_wp2_with fail
            have hfr := g1
            replace hr1 := hr1.keep g1
            replace hr2 := hr2.keep g1
            replace hT := hT.keep g1
            have hc0 := fun j => hX0.cell j
            have hc1 := fun j => hX1.cell j
            have hl0 := hX0.lt
            have hl1 := hX1.lt
            refine (ltidy_is A1 A2 n1 k1 n2 k2 _ _ _ _ true ht).mono ?_
            rintro e' w1 ⟨rfl, hb⟩
            replace hr1 := hr1.keep hb
            replace hr2 := hr2.keep hb
            replace hT := hT.keep hb
            replace hfr := fr_call hfr hb
            replace hX0 := hX0.keep hb
            replace hc0 := fun j => hX0.cell j
            replace hl0 := hX0.lt
            replace hX1 := hX1.keep hb
            replace hc1 := fun j => hX1.cell j
            replace hl1 := hX1.lt
            clear hb
            go_wp2_with fail
            refine (On_ok A1 A2 n1 k1 n2 k2 c1 c2 e1 e2 last day _ hr1 hr2 hn1 hn2 hok hd).mono ?_
            rw [HO.out]
            simp only [dateV]
            rintro e' w2 ⟨rfl, hb⟩
            replace hr1 := hr1.keep hb
            replace hr2 := hr2.keep hb
            replace hT := hT.keep hb
            replace hfr := fr_call hfr hb
            replace hX0 := hX0.keep hb
            replace hc0 := fun j => hX0.cell j
            replace hl0 := hX0.lt
            replace hX1 := hX1.keep hb
            replace hc1 := fun j => hX1.cell j
            replace hl1 := hX1.lt
            clear hb
            go_wp2_with fail
            have ga := fr_alloc (fr_refl w2) (.cells #[.int .i64 0, .int .i64 0, .int .i64 0] 38)
            replace hr1 := hr1.keep ga
            replace hr2 := hr2.keep ga
            replace hT := hT.keep ga
            replace hfr := fr_call hfr ga
            replace hX0 := hX0.keep ga
            replace hc0 := fun j => hX0.cell j
            replace hl0 := hX0.lt
            replace hX1 := hX1.keep ga
            replace hc1 := fun j => hX1.cell j
            replace hl1 := hX1.lt
            have hX2 := Blk.new w2 38 #[.int .i64 0, .int .i64 0, .int .i64 0]
            have hc2 := fun j => hX2.cell j
            have hl2 := hX2.lt
            clear ga
            refine (Days_bad A1 A2 n1 k1 n2 k2 c1 c2 e1 e2 last y m d _ hr1 hr2 hn1 hn2 (Or.inr hwr)).mono ?_
            rintro e' w3 ⟨rfl, hb⟩
            replace hr1 := hr1.keep hb
            replace hr2 := hr2.keep hb
            replace hT := hT.keep hb
            replace hfr := fr_call hfr hb
            replace hX0 := hX0.keep hb
            replace hc0 := fun j => hX0.cell j
            replace hl0 := hX0.lt
            replace hX1 := hX1.keep hb
            replace hc1 := fun j => hX1.cell j
            replace hl1 := hX1.lt
            replace hX2 := hX2.keep hb
            replace hc2 := fun j => hX2.cell j
            replace hl2 := hX2.lt
            clear hb
            go_wp2_with fail
            refine (rRealm_is A1 A2 n1 k1 n2 k2 c1 c2 e1 e2 last _ hr1 hr2 hn1 hn2 _ hok).mono ?_
            rintro e' w4 ⟨rfl, hb⟩
            replace hr1 := hr1.keep hb
            replace hr2 := hr2.keep hb
            replace hT := hT.keep hb
            replace hfr := fr_call hfr hb
            replace hX0 := hX0.keep hb
            replace hc0 := fun j => hX0.cell j
            replace hl0 := hX0.lt
            replace hX1 := hX1.keep hb
            replace hc1 := fun j => hX1.cell j
            replace hl1 := hX1.lt
            replace hX2 := hX2.keep hb
            replace hc2 := fun j => hX2.cell j
            replace hl2 := hX2.lt
            clear hb
            go_wp2_with fail
            refine (rWritten_is y m d _ _ hwr).mono ?_
            rintro e' w5 ⟨rfl, hb⟩
            replace hr1 := hr1.keep hb
            replace hr2 := hr2.keep hb
            replace hT := hT.keep hb
            replace hfr := fr_call hfr hb
            replace hX0 := hX0.keep hb
            replace hc0 := fun j => hX0.cell j
            replace hl0 := hX0.lt
            replace hX1 := hX1.keep hb
            replace hc1 := fun j => hX1.cell j
            replace hl1 := hX1.lt
            replace hX2 := hX2.keep hb
            replace hc2 := fun j => hX2.cell j
            replace hl2 := hX2.lt
            clear hb
            go_wp2_with fail
            refine (rWritten_is y m d _ _ hwr).mono ?_
            rintro e' w6 ⟨rfl, hb⟩
            replace hr1 := hr1.keep hb
            replace hr2 := hr2.keep hb
            replace hT := hT.keep hb
            replace hfr := fr_call hfr hb
            replace hX0 := hX0.keep hb
            replace hc0 := fun j => hX0.cell j
            replace hl0 := hX0.lt
            replace hX1 := hX1.keep hb
            replace hc1 := fun j => hX1.cell j
            replace hl1 := hX1.lt
            replace hX2 := hX2.keep hb
            replace hc2 := fun j => hX2.cell j
            replace hl2 := hX2.lt
            clear hb
            go_wp2_with fail
            refine (rNumber_is _ _ _ hd).mono ?_
            rintro e' w7 ⟨rfl, rfl⟩
            go_wp2_with fail
            refine (rOn_any A1 A2 n1 k1 n2 k2 c1 c2 e1 e2 last day _ hr1 hr2 hk.1 hk.2 (by omega) (by omega)).mono ?_
            rw [HO.out]
            simp only [rdateV]
            rintro e' w8 ⟨rfl, hb⟩
            replace hr1 := hr1.keep hb
            replace hr2 := hr2.keep hb
            replace hT := hT.keep hb
            replace hfr := fr_call hfr hb
            replace hX0 := hX0.keep hb
            replace hc0 := fun j => hX0.cell j
            replace hl0 := hX0.lt
            replace hX1 := hX1.keep hb
            replace hc1 := fun j => hX1.cell j
            replace hl1 := hX1.lt
            replace hX2 := hX2.keep hb
            replace hc2 := fun j => hX2.cell j
            replace hl2 := hX2.lt
            clear hb
            go_wp2_with fail
            have ga := fr_alloc (fr_refl w8) (.cells #[.int .i64 0, .int .i64 0, .int .i64 0] 38)
            replace hr1 := hr1.keep ga
            replace hr2 := hr2.keep ga
            replace hT := hT.keep ga
            replace hfr := fr_call hfr ga
            replace hX0 := hX0.keep ga
            replace hc0 := fun j => hX0.cell j
            replace hl0 := hX0.lt
            replace hX1 := hX1.keep ga
            replace hc1 := fun j => hX1.cell j
            replace hl1 := hX1.lt
            replace hX2 := hX2.keep ga
            replace hc2 := fun j => hX2.cell j
            replace hl2 := hX2.lt
            have hX3 := Blk.new w8 38 #[.int .i64 0, .int .i64 0, .int .i64 0]
            have hc3 := fun j => hX3.cell j
            have hl3 := hX3.lt
            clear ga
            refine (known_is _ hT).mono ?_
            rintro e' w9 ⟨rfl, hb⟩
            replace hr1 := hr1.keep hb
            replace hr2 := hr2.keep hb
            replace hT := hT.keep hb
            replace hfr := fr_call hfr hb
            replace hX0 := hX0.keep hb
            replace hc0 := fun j => hX0.cell j
            replace hl0 := hX0.lt
            replace hX1 := hX1.keep hb
            replace hc1 := fun j => hX1.cell j
            replace hl1 := hX1.lt
            replace hX2 := hX2.keep hb
            replace hc2 := fun j => hX2.cell j
            replace hl2 := hX2.lt
            replace hX3 := hX3.keep hb
            replace hc3 := fun j => hX3.cell j
            replace hl3 := hX3.lt
            clear hb
            go_wp2_with fail
            go_ret
            exact ⟨rfl, hfr⟩
          · obtain ⟨xy, xm, xd⟩ := x
            have HO := Lib.hid ho
            clear ho
            go_enter Tryz.func6, Tryz.ntmps6
            go_wp2_with fail
            have hfr := g1
            replace hr1 := hr1.keep g1
            replace hr2 := hr2.keep g1
            replace hT := hT.keep g1
            have hc0 := fun j => hX0.cell j
            have hc1 := fun j => hX1.cell j
            have hl0 := hX0.lt
            have hl1 := hX1.lt
            refine (ltidy_is A1 A2 n1 k1 n2 k2 _ _ _ _ true ht).mono ?_
            rintro e' w1 ⟨rfl, hb⟩
            replace hr1 := hr1.keep hb
            replace hr2 := hr2.keep hb
            replace hT := hT.keep hb
            replace hfr := fr_call hfr hb
            replace hX0 := hX0.keep hb
            replace hc0 := fun j => hX0.cell j
            replace hl0 := hX0.lt
            replace hX1 := hX1.keep hb
            replace hc1 := fun j => hX1.cell j
            replace hl1 := hX1.lt
            clear hb
            go_wp2_with fail
            refine (On_ok A1 A2 n1 k1 n2 k2 c1 c2 e1 e2 last day _ hr1 hr2 hn1 hn2 hok hd).mono ?_
            rw [HO.out]
            simp only [dateV]
            rintro e' w2 ⟨rfl, hb⟩
            replace hr1 := hr1.keep hb
            replace hr2 := hr2.keep hb
            replace hT := hT.keep hb
            replace hfr := fr_call hfr hb
            replace hX0 := hX0.keep hb
            replace hc0 := fun j => hX0.cell j
            replace hl0 := hX0.lt
            replace hX1 := hX1.keep hb
            replace hc1 := fun j => hX1.cell j
            replace hl1 := hX1.lt
            clear hb
            go_wp2_with fail
            have ga := fr_alloc (fr_refl w2) (.cells #[.int .i64 xy, .int .i64 xm, .int .i64 xd] 38)
            replace hr1 := hr1.keep ga
            replace hr2 := hr2.keep ga
            replace hT := hT.keep ga
            replace hfr := fr_call hfr ga
            replace hX0 := hX0.keep ga
            replace hc0 := fun j => hX0.cell j
            replace hl0 := hX0.lt
            replace hX1 := hX1.keep ga
            replace hc1 := fun j => hX1.cell j
            replace hl1 := hX1.lt
            have hX2 := Blk.new w2 38 #[.int .i64 xy, .int .i64 xm, .int .i64 xd]
            have hc2 := fun j => hX2.cell j
            have hl2 := hX2.lt
            clear ga
            refine (Days_bad A1 A2 n1 k1 n2 k2 c1 c2 e1 e2 last y m d _ hr1 hr2 hn1 hn2 (Or.inr hwr)).mono ?_
            rintro e' w3 ⟨rfl, hb⟩
            replace hr1 := hr1.keep hb
            replace hr2 := hr2.keep hb
            replace hT := hT.keep hb
            replace hfr := fr_call hfr hb
            replace hX0 := hX0.keep hb
            replace hc0 := fun j => hX0.cell j
            replace hl0 := hX0.lt
            replace hX1 := hX1.keep hb
            replace hc1 := fun j => hX1.cell j
            replace hl1 := hX1.lt
            replace hX2 := hX2.keep hb
            replace hc2 := fun j => hX2.cell j
            replace hl2 := hX2.lt
            clear hb
            go_wp2_with fail
            refine (rRealm_is A1 A2 n1 k1 n2 k2 c1 c2 e1 e2 last _ hr1 hr2 hn1 hn2 _ hok).mono ?_
            rintro e' w4 ⟨rfl, hb⟩
            replace hr1 := hr1.keep hb
            replace hr2 := hr2.keep hb
            replace hT := hT.keep hb
            replace hfr := fr_call hfr hb
            replace hX0 := hX0.keep hb
            replace hc0 := fun j => hX0.cell j
            replace hl0 := hX0.lt
            replace hX1 := hX1.keep hb
            replace hc1 := fun j => hX1.cell j
            replace hl1 := hX1.lt
            replace hX2 := hX2.keep hb
            replace hc2 := fun j => hX2.cell j
            replace hl2 := hX2.lt
            clear hb
            go_wp2_with fail
            refine (rWritten_is y m d _ _ hwr).mono ?_
            rintro e' w5 ⟨rfl, hb⟩
            replace hr1 := hr1.keep hb
            replace hr2 := hr2.keep hb
            replace hT := hT.keep hb
            replace hfr := fr_call hfr hb
            replace hX0 := hX0.keep hb
            replace hc0 := fun j => hX0.cell j
            replace hl0 := hX0.lt
            replace hX1 := hX1.keep hb
            replace hc1 := fun j => hX1.cell j
            replace hl1 := hX1.lt
            replace hX2 := hX2.keep hb
            replace hc2 := fun j => hX2.cell j
            replace hl2 := hX2.lt
            clear hb
            go_wp2_with fail
            refine (rWritten_is y m d _ _ hwr).mono ?_
            rintro e' w6 ⟨rfl, hb⟩
            replace hr1 := hr1.keep hb
            replace hr2 := hr2.keep hb
            replace hT := hT.keep hb
            replace hfr := fr_call hfr hb
            replace hX0 := hX0.keep hb
            replace hc0 := fun j => hX0.cell j
            replace hl0 := hX0.lt
            replace hX1 := hX1.keep hb
            replace hc1 := fun j => hX1.cell j
            replace hl1 := hX1.lt
            replace hX2 := hX2.keep hb
            replace hc2 := fun j => hX2.cell j
            replace hl2 := hX2.lt
            clear hb
            go_wp2_with fail
            refine (rNumber_is _ _ _ hd).mono ?_
            rintro e' w7 ⟨rfl, rfl⟩
            go_wp2_with fail
            refine (rOn_any A1 A2 n1 k1 n2 k2 c1 c2 e1 e2 last day _ hr1 hr2 hk.1 hk.2 (by omega) (by omega)).mono ?_
            rw [HO.out]
            simp only [rdateV]
            rintro e' w8 ⟨rfl, hb⟩
            replace hr1 := hr1.keep hb
            replace hr2 := hr2.keep hb
            replace hT := hT.keep hb
            replace hfr := fr_call hfr hb
            replace hX0 := hX0.keep hb
            replace hc0 := fun j => hX0.cell j
            replace hl0 := hX0.lt
            replace hX1 := hX1.keep hb
            replace hc1 := fun j => hX1.cell j
            replace hl1 := hX1.lt
            replace hX2 := hX2.keep hb
            replace hc2 := fun j => hX2.cell j
            replace hl2 := hX2.lt
            clear hb
            go_wp2_with fail
            have ga := fr_alloc (fr_refl w8) (.cells #[.int .i64 xy, .int .i64 xm, .int .i64 xd] 38)
            replace hr1 := hr1.keep ga
            replace hr2 := hr2.keep ga
            replace hT := hT.keep ga
            replace hfr := fr_call hfr ga
            replace hX0 := hX0.keep ga
            replace hc0 := fun j => hX0.cell j
            replace hl0 := hX0.lt
            replace hX1 := hX1.keep ga
            replace hc1 := fun j => hX1.cell j
            replace hl1 := hX1.lt
            replace hX2 := hX2.keep ga
            replace hc2 := fun j => hX2.cell j
            replace hl2 := hX2.lt
            have hX3 := Blk.new w8 38 #[.int .i64 xy, .int .i64 xm, .int .i64 xd]
            have hc3 := fun j => hX3.cell j
            have hl3 := hX3.lt
            clear ga
            refine (known_is _ hT).mono ?_
            rintro e' w9 ⟨rfl, hb⟩
            replace hr1 := hr1.keep hb
            replace hr2 := hr2.keep hb
            replace hT := hT.keep hb
            replace hfr := fr_call hfr hb
            replace hX0 := hX0.keep hb
            replace hc0 := fun j => hX0.cell j
            replace hl0 := hX0.lt
            replace hX1 := hX1.keep hb
            replace hc1 := fun j => hX1.cell j
            replace hl1 := hX1.lt
            replace hX2 := hX2.keep hb
            replace hc2 := fun j => hX2.cell j
            replace hl2 := hX2.lt
            replace hX3 := hX3.keep hb
            replace hc3 := fun j => hX3.cell j
            replace hl3 := hX3.lt
            clear hb
            go_wp2_with fail
            go_ret
            exact ⟨rfl, hfr⟩
      · cases hd : inB day 0 2000000
        · go_enter Tryz.func6, Tryz.ntmps6
          go_wp2_with fail
          have hfr := g1
          replace hr1 := hr1.keep g1
          replace hr2 := hr2.keep g1
          replace hT := hT.keep g1
          have hc0 := fun j => hX0.cell j
          have hc1 := fun j => hX1.cell j
          have hl0 := hX0.lt
          have hl1 := hX1.lt
          refine (ltidy_is A1 A2 n1 k1 n2 k2 _ _ _ _ true ht).mono ?_
          rintro e' w1 ⟨rfl, hb⟩
          replace hr1 := hr1.keep hb
          replace hr2 := hr2.keep hb
          replace hT := hT.keep hb
          replace hfr := fr_call hfr hb
          replace hX0 := hX0.keep hb
          replace hc0 := fun j => hX0.cell j
          replace hl0 := hX0.lt
          replace hX1 := hX1.keep hb
          replace hc1 := fun j => hX1.cell j
          replace hl1 := hX1.lt
          clear hb
          go_wp2_with fail
          refine (On_bad A1 A2 n1 k1 n2 k2 c1 c2 e1 e2 last day _ hr1 hr2 hn1 hn2 (Or.inr hd)).mono ?_
          rintro e' w2 ⟨rfl, hb⟩
          replace hr1 := hr1.keep hb
          replace hr2 := hr2.keep hb
          replace hT := hT.keep hb
          replace hfr := fr_call hfr hb
          replace hX0 := hX0.keep hb
          replace hc0 := fun j => hX0.cell j
          replace hl0 := hX0.lt
          replace hX1 := hX1.keep hb
          replace hc1 := fun j => hX1.cell j
          replace hl1 := hX1.lt
          clear hb
          go_wp2_with fail
          have ga := fr_alloc (fr_refl w2) (.cells #[.int .i64 0, .int .i64 0, .int .i64 0] 38)
          replace hr1 := hr1.keep ga
          replace hr2 := hr2.keep ga
          replace hT := hT.keep ga
          replace hfr := fr_call hfr ga
          replace hX0 := hX0.keep ga
          replace hc0 := fun j => hX0.cell j
          replace hl0 := hX0.lt
          replace hX1 := hX1.keep ga
          replace hc1 := fun j => hX1.cell j
          replace hl1 := hX1.lt
          have hX2 := Blk.new w2 38 #[.int .i64 0, .int .i64 0, .int .i64 0]
          have hc2 := fun j => hX2.cell j
          have hl2 := hX2.lt
          clear ga
          refine (Days_ok A1 A2 n1 k1 n2 k2 c1 c2 e1 e2 last y m d _ hr1 hr2 hn1 hn2 hok hwr).mono ?_
          rw [HDS.out]
          rintro e' w3 ⟨AL, cL, rfl, hrL, hb⟩
          replace hr1 := hr1.keep hb
          replace hr2 := hr2.keep hb
          replace hT := hT.keep hb
          replace hfr := fr_call hfr hb
          replace hX0 := hX0.keep hb
          replace hc0 := fun j => hX0.cell j
          replace hl0 := hX0.lt
          replace hX1 := hX1.keep hb
          replace hc1 := fun j => hX1.cell j
          replace hl1 := hX1.lt
          replace hX2 := hX2.keep hb
          replace hc2 := fun j => hX2.cell j
          replace hl2 := hX2.lt
          clear hb
          go_wp2_with fail
          refine (rRealm_is A1 A2 n1 k1 n2 k2 c1 c2 e1 e2 last _ hr1 hr2 hn1 hn2 _ hok).mono ?_
          rintro e' w4 ⟨rfl, hb⟩
          replace hr1 := hr1.keep hb
          replace hr2 := hr2.keep hb
          replace hT := hT.keep hb
          replace hrL := hrL.keep hb
          replace hfr := fr_call hfr hb
          replace hX0 := hX0.keep hb
          replace hc0 := fun j => hX0.cell j
          replace hl0 := hX0.lt
          replace hX1 := hX1.keep hb
          replace hc1 := fun j => hX1.cell j
          replace hl1 := hX1.lt
          replace hX2 := hX2.keep hb
          replace hc2 := fun j => hX2.cell j
          replace hl2 := hX2.lt
          clear hb
          go_wp2_with fail
          refine (rWritten_is y m d _ _ hwr).mono ?_
          rintro e' w5 ⟨rfl, hb⟩
          replace hr1 := hr1.keep hb
          replace hr2 := hr2.keep hb
          replace hT := hT.keep hb
          replace hrL := hrL.keep hb
          replace hfr := fr_call hfr hb
          replace hX0 := hX0.keep hb
          replace hc0 := fun j => hX0.cell j
          replace hl0 := hX0.lt
          replace hX1 := hX1.keep hb
          replace hc1 := fun j => hX1.cell j
          replace hl1 := hX1.lt
          replace hX2 := hX2.keep hb
          replace hc2 := fun j => hX2.cell j
          replace hl2 := hX2.lt
          clear hb
          go_wp2_with fail
          refine (rDays_any A1 A2 n1 k1 n2 k2 c1 c2 e1 e2 last y m d _ hr1 hr2 hk.1 hk.2).mono ?_
          rw [HDS.out]
          rintro e' w6 ⟨AR, cR, rfl, hrR, hb⟩
          replace hr1 := hr1.keep hb
          replace hr2 := hr2.keep hb
          replace hT := hT.keep hb
          replace hrL := hrL.keep hb
          replace hfr := fr_call hfr hb
          replace hX0 := hX0.keep hb
          replace hc0 := fun j => hX0.cell j
          replace hl0 := hX0.lt
          replace hX1 := hX1.keep hb
          replace hc1 := fun j => hX1.cell j
          replace hl1 := hX1.lt
          replace hX2 := hX2.keep hb
          replace hc2 := fun j => hX2.cell j
          replace hl2 := hX2.lt
          clear hb
          go_wp2_with fail
          refine (rSame_is AL AR ds.length cL ds.length cR ds ds _ hrL hrR hdl hdl true (by simp)).mono ?_
          rintro e' w7 ⟨rfl, hb⟩
          replace hr1 := hr1.keep hb
          replace hr2 := hr2.keep hb
          replace hT := hT.keep hb
          replace hrL := hrL.keep hb
          replace hrR := hrR.keep hb
          replace hfr := fr_call hfr hb
          replace hX0 := hX0.keep hb
          replace hc0 := fun j => hX0.cell j
          replace hl0 := hX0.lt
          replace hX1 := hX1.keep hb
          replace hc1 := fun j => hX1.cell j
          replace hl1 := hX1.lt
          replace hX2 := hX2.keep hb
          replace hc2 := fun j => hX2.cell j
          replace hl2 := hX2.lt
          clear hb
          go_wp2_with fail
          refine (rWritten_is y m d _ _ hwr).mono ?_
          rintro e' w8 ⟨rfl, hb⟩
          replace hr1 := hr1.keep hb
          replace hr2 := hr2.keep hb
          replace hT := hT.keep hb
          replace hrL := hrL.keep hb
          replace hrR := hrR.keep hb
          replace hfr := fr_call hfr hb
          replace hX0 := hX0.keep hb
          replace hc0 := fun j => hX0.cell j
          replace hl0 := hX0.lt
          replace hX1 := hX1.keep hb
          replace hc1 := fun j => hX1.cell j
          replace hl1 := hX1.lt
          replace hX2 := hX2.keep hb
          replace hc2 := fun j => hX2.cell j
          replace hl2 := hX2.lt
          clear hb
          go_wp2_with fail
          refine (rNumber_is _ _ _ hd).mono ?_
          rintro e' w9 ⟨rfl, rfl⟩
          go_wp2_with fail
          refine (known_is _ hT).mono ?_
          rintro e' w10 ⟨rfl, hb⟩
          replace hr1 := hr1.keep hb
          replace hr2 := hr2.keep hb
          replace hT := hT.keep hb
          replace hrL := hrL.keep hb
          replace hrR := hrR.keep hb
          replace hfr := fr_call hfr hb
          replace hX0 := hX0.keep hb
          replace hc0 := fun j => hX0.cell j
          replace hl0 := hX0.lt
          replace hX1 := hX1.keep hb
          replace hc1 := fun j => hX1.cell j
          replace hl1 := hX1.lt
          replace hX2 := hX2.keep hb
          replace hc2 := fun j => hX2.cell j
          replace hl2 := hX2.lt
          clear hb
          go_wp2_with fail
          go_ret
          exact ⟨rfl, hfr⟩
        · have hd2 := inB_iff.1 hd
          rcases ho : onOf e1 c1 e2 c2 last day with _ | x
          · have HO := Lib.hid ho
            clear ho
            go_enter Tryz.func6, Tryz.ntmps6
            go_wp2_with fail
            have hfr := g1
            replace hr1 := hr1.keep g1
            replace hr2 := hr2.keep g1
            replace hT := hT.keep g1
            have hc0 := fun j => hX0.cell j
            have hc1 := fun j => hX1.cell j
            have hl0 := hX0.lt
            have hl1 := hX1.lt
            refine (ltidy_is A1 A2 n1 k1 n2 k2 _ _ _ _ true ht).mono ?_
            rintro e' w1 ⟨rfl, hb⟩
            replace hr1 := hr1.keep hb
            replace hr2 := hr2.keep hb
            replace hT := hT.keep hb
            replace hfr := fr_call hfr hb
            replace hX0 := hX0.keep hb
            replace hc0 := fun j => hX0.cell j
            replace hl0 := hX0.lt
            replace hX1 := hX1.keep hb
            replace hc1 := fun j => hX1.cell j
            replace hl1 := hX1.lt
            clear hb
            go_wp2_with fail
            refine (On_ok A1 A2 n1 k1 n2 k2 c1 c2 e1 e2 last day _ hr1 hr2 hn1 hn2 hok hd).mono ?_
            rw [HO.out]
            simp only [dateV]
            rintro e' w2 ⟨rfl, hb⟩
            replace hr1 := hr1.keep hb
            replace hr2 := hr2.keep hb
            replace hT := hT.keep hb
            replace hfr := fr_call hfr hb
            replace hX0 := hX0.keep hb
            replace hc0 := fun j => hX0.cell j
            replace hl0 := hX0.lt
            replace hX1 := hX1.keep hb
            replace hc1 := fun j => hX1.cell j
            replace hl1 := hX1.lt
            clear hb
            go_wp2_with fail
            have ga := fr_alloc (fr_refl w2) (.cells #[.int .i64 0, .int .i64 0, .int .i64 0] 38)
            replace hr1 := hr1.keep ga
            replace hr2 := hr2.keep ga
            replace hT := hT.keep ga
            replace hfr := fr_call hfr ga
            replace hX0 := hX0.keep ga
            replace hc0 := fun j => hX0.cell j
            replace hl0 := hX0.lt
            replace hX1 := hX1.keep ga
            replace hc1 := fun j => hX1.cell j
            replace hl1 := hX1.lt
            have hX2 := Blk.new w2 38 #[.int .i64 0, .int .i64 0, .int .i64 0]
            have hc2 := fun j => hX2.cell j
            have hl2 := hX2.lt
            clear ga
            refine (Days_ok A1 A2 n1 k1 n2 k2 c1 c2 e1 e2 last y m d _ hr1 hr2 hn1 hn2 hok hwr).mono ?_
            rw [HDS.out]
            rintro e' w3 ⟨AL, cL, rfl, hrL, hb⟩
            replace hr1 := hr1.keep hb
            replace hr2 := hr2.keep hb
            replace hT := hT.keep hb
            replace hfr := fr_call hfr hb
            replace hX0 := hX0.keep hb
            replace hc0 := fun j => hX0.cell j
            replace hl0 := hX0.lt
            replace hX1 := hX1.keep hb
            replace hc1 := fun j => hX1.cell j
            replace hl1 := hX1.lt
            replace hX2 := hX2.keep hb
            replace hc2 := fun j => hX2.cell j
            replace hl2 := hX2.lt
            clear hb
            go_wp2_with fail
            refine (rRealm_is A1 A2 n1 k1 n2 k2 c1 c2 e1 e2 last _ hr1 hr2 hn1 hn2 _ hok).mono ?_
            rintro e' w4 ⟨rfl, hb⟩
            replace hr1 := hr1.keep hb
            replace hr2 := hr2.keep hb
            replace hT := hT.keep hb
            replace hrL := hrL.keep hb
            replace hfr := fr_call hfr hb
            replace hX0 := hX0.keep hb
            replace hc0 := fun j => hX0.cell j
            replace hl0 := hX0.lt
            replace hX1 := hX1.keep hb
            replace hc1 := fun j => hX1.cell j
            replace hl1 := hX1.lt
            replace hX2 := hX2.keep hb
            replace hc2 := fun j => hX2.cell j
            replace hl2 := hX2.lt
            clear hb
            go_wp2_with fail
            refine (rWritten_is y m d _ _ hwr).mono ?_
            rintro e' w5 ⟨rfl, hb⟩
            replace hr1 := hr1.keep hb
            replace hr2 := hr2.keep hb
            replace hT := hT.keep hb
            replace hrL := hrL.keep hb
            replace hfr := fr_call hfr hb
            replace hX0 := hX0.keep hb
            replace hc0 := fun j => hX0.cell j
            replace hl0 := hX0.lt
            replace hX1 := hX1.keep hb
            replace hc1 := fun j => hX1.cell j
            replace hl1 := hX1.lt
            replace hX2 := hX2.keep hb
            replace hc2 := fun j => hX2.cell j
            replace hl2 := hX2.lt
            clear hb
            go_wp2_with fail
            refine (rDays_any A1 A2 n1 k1 n2 k2 c1 c2 e1 e2 last y m d _ hr1 hr2 hk.1 hk.2).mono ?_
            rw [HDS.out]
            rintro e' w6 ⟨AR, cR, rfl, hrR, hb⟩
            replace hr1 := hr1.keep hb
            replace hr2 := hr2.keep hb
            replace hT := hT.keep hb
            replace hrL := hrL.keep hb
            replace hfr := fr_call hfr hb
            replace hX0 := hX0.keep hb
            replace hc0 := fun j => hX0.cell j
            replace hl0 := hX0.lt
            replace hX1 := hX1.keep hb
            replace hc1 := fun j => hX1.cell j
            replace hl1 := hX1.lt
            replace hX2 := hX2.keep hb
            replace hc2 := fun j => hX2.cell j
            replace hl2 := hX2.lt
            clear hb
            go_wp2_with fail
            refine (rSame_is AL AR ds.length cL ds.length cR ds ds _ hrL hrR hdl hdl true (by simp)).mono ?_
            rintro e' w7 ⟨rfl, hb⟩
            replace hr1 := hr1.keep hb
            replace hr2 := hr2.keep hb
            replace hT := hT.keep hb
            replace hrL := hrL.keep hb
            replace hrR := hrR.keep hb
            replace hfr := fr_call hfr hb
            replace hX0 := hX0.keep hb
            replace hc0 := fun j => hX0.cell j
            replace hl0 := hX0.lt
            replace hX1 := hX1.keep hb
            replace hc1 := fun j => hX1.cell j
            replace hl1 := hX1.lt
            replace hX2 := hX2.keep hb
            replace hc2 := fun j => hX2.cell j
            replace hl2 := hX2.lt
            clear hb
            go_wp2_with fail
            refine (rWritten_is y m d _ _ hwr).mono ?_
            rintro e' w8 ⟨rfl, hb⟩
            replace hr1 := hr1.keep hb
            replace hr2 := hr2.keep hb
            replace hT := hT.keep hb
            replace hrL := hrL.keep hb
            replace hrR := hrR.keep hb
            replace hfr := fr_call hfr hb
            replace hX0 := hX0.keep hb
            replace hc0 := fun j => hX0.cell j
            replace hl0 := hX0.lt
            replace hX1 := hX1.keep hb
            replace hc1 := fun j => hX1.cell j
            replace hl1 := hX1.lt
            replace hX2 := hX2.keep hb
            replace hc2 := fun j => hX2.cell j
            replace hl2 := hX2.lt
            clear hb
            go_wp2_with fail
            refine (rNumber_is _ _ _ hd).mono ?_
            rintro e' w9 ⟨rfl, rfl⟩
            go_wp2_with fail
            refine (rOn_any A1 A2 n1 k1 n2 k2 c1 c2 e1 e2 last day _ hr1 hr2 hk.1 hk.2 (by omega) (by omega)).mono ?_
            rw [HO.out]
            simp only [rdateV]
            rintro e' w10 ⟨rfl, hb⟩
            replace hr1 := hr1.keep hb
            replace hr2 := hr2.keep hb
            replace hT := hT.keep hb
            replace hrL := hrL.keep hb
            replace hrR := hrR.keep hb
            replace hfr := fr_call hfr hb
            replace hX0 := hX0.keep hb
            replace hc0 := fun j => hX0.cell j
            replace hl0 := hX0.lt
            replace hX1 := hX1.keep hb
            replace hc1 := fun j => hX1.cell j
            replace hl1 := hX1.lt
            replace hX2 := hX2.keep hb
            replace hc2 := fun j => hX2.cell j
            replace hl2 := hX2.lt
            clear hb
            go_wp2_with fail
            have ga := fr_alloc (fr_refl w10) (.cells #[.int .i64 0, .int .i64 0, .int .i64 0] 38)
            replace hr1 := hr1.keep ga
            replace hr2 := hr2.keep ga
            replace hT := hT.keep ga
            replace hrL := hrL.keep ga
            replace hrR := hrR.keep ga
            replace hfr := fr_call hfr ga
            replace hX0 := hX0.keep ga
            replace hc0 := fun j => hX0.cell j
            replace hl0 := hX0.lt
            replace hX1 := hX1.keep ga
            replace hc1 := fun j => hX1.cell j
            replace hl1 := hX1.lt
            replace hX2 := hX2.keep ga
            replace hc2 := fun j => hX2.cell j
            replace hl2 := hX2.lt
            have hX3 := Blk.new w10 38 #[.int .i64 0, .int .i64 0, .int .i64 0]
            have hc3 := fun j => hX3.cell j
            have hl3 := hX3.lt
            clear ga
            refine (known_is _ hT).mono ?_
            rintro e' w11 ⟨rfl, hb⟩
            replace hr1 := hr1.keep hb
            replace hr2 := hr2.keep hb
            replace hT := hT.keep hb
            replace hrL := hrL.keep hb
            replace hrR := hrR.keep hb
            replace hfr := fr_call hfr hb
            replace hX0 := hX0.keep hb
            replace hc0 := fun j => hX0.cell j
            replace hl0 := hX0.lt
            replace hX1 := hX1.keep hb
            replace hc1 := fun j => hX1.cell j
            replace hl1 := hX1.lt
            replace hX2 := hX2.keep hb
            replace hc2 := fun j => hX2.cell j
            replace hl2 := hX2.lt
            replace hX3 := hX3.keep hb
            replace hc3 := fun j => hX3.cell j
            replace hl3 := hX3.lt
            clear hb
            go_wp2_with fail
            go_ret
            exact ⟨rfl, hfr⟩
          · obtain ⟨xy, xm, xd⟩ := x
            have HO := Lib.hid ho
            clear ho
            go_enter Tryz.func6, Tryz.ntmps6
            go_wp2_with fail
            have hfr := g1
            replace hr1 := hr1.keep g1
            replace hr2 := hr2.keep g1
            replace hT := hT.keep g1
            have hc0 := fun j => hX0.cell j
            have hc1 := fun j => hX1.cell j
            have hl0 := hX0.lt
            have hl1 := hX1.lt
            refine (ltidy_is A1 A2 n1 k1 n2 k2 _ _ _ _ true ht).mono ?_
            rintro e' w1 ⟨rfl, hb⟩
            replace hr1 := hr1.keep hb
            replace hr2 := hr2.keep hb
            replace hT := hT.keep hb
            replace hfr := fr_call hfr hb
            replace hX0 := hX0.keep hb
            replace hc0 := fun j => hX0.cell j
            replace hl0 := hX0.lt
            replace hX1 := hX1.keep hb
            replace hc1 := fun j => hX1.cell j
            replace hl1 := hX1.lt
            clear hb
            go_wp2_with fail
            refine (On_ok A1 A2 n1 k1 n2 k2 c1 c2 e1 e2 last day _ hr1 hr2 hn1 hn2 hok hd).mono ?_
            rw [HO.out]
            simp only [dateV]
            rintro e' w2 ⟨rfl, hb⟩
            replace hr1 := hr1.keep hb
            replace hr2 := hr2.keep hb
            replace hT := hT.keep hb
            replace hfr := fr_call hfr hb
            replace hX0 := hX0.keep hb
            replace hc0 := fun j => hX0.cell j
            replace hl0 := hX0.lt
            replace hX1 := hX1.keep hb
            replace hc1 := fun j => hX1.cell j
            replace hl1 := hX1.lt
            clear hb
            go_wp2_with fail
            have ga := fr_alloc (fr_refl w2) (.cells #[.int .i64 xy, .int .i64 xm, .int .i64 xd] 38)
            replace hr1 := hr1.keep ga
            replace hr2 := hr2.keep ga
            replace hT := hT.keep ga
            replace hfr := fr_call hfr ga
            replace hX0 := hX0.keep ga
            replace hc0 := fun j => hX0.cell j
            replace hl0 := hX0.lt
            replace hX1 := hX1.keep ga
            replace hc1 := fun j => hX1.cell j
            replace hl1 := hX1.lt
            have hX2 := Blk.new w2 38 #[.int .i64 xy, .int .i64 xm, .int .i64 xd]
            have hc2 := fun j => hX2.cell j
            have hl2 := hX2.lt
            clear ga
            refine (Days_ok A1 A2 n1 k1 n2 k2 c1 c2 e1 e2 last y m d _ hr1 hr2 hn1 hn2 hok hwr).mono ?_
            rw [HDS.out]
            rintro e' w3 ⟨AL, cL, rfl, hrL, hb⟩
            replace hr1 := hr1.keep hb
            replace hr2 := hr2.keep hb
            replace hT := hT.keep hb
            replace hfr := fr_call hfr hb
            replace hX0 := hX0.keep hb
            replace hc0 := fun j => hX0.cell j
            replace hl0 := hX0.lt
            replace hX1 := hX1.keep hb
            replace hc1 := fun j => hX1.cell j
            replace hl1 := hX1.lt
            replace hX2 := hX2.keep hb
            replace hc2 := fun j => hX2.cell j
            replace hl2 := hX2.lt
            clear hb
            go_wp2_with fail
            refine (rRealm_is A1 A2 n1 k1 n2 k2 c1 c2 e1 e2 last _ hr1 hr2 hn1 hn2 _ hok).mono ?_
            rintro e' w4 ⟨rfl, hb⟩
            replace hr1 := hr1.keep hb
            replace hr2 := hr2.keep hb
            replace hT := hT.keep hb
            replace hrL := hrL.keep hb
            replace hfr := fr_call hfr hb
            replace hX0 := hX0.keep hb
            replace hc0 := fun j => hX0.cell j
            replace hl0 := hX0.lt
            replace hX1 := hX1.keep hb
            replace hc1 := fun j => hX1.cell j
            replace hl1 := hX1.lt
            replace hX2 := hX2.keep hb
            replace hc2 := fun j => hX2.cell j
            replace hl2 := hX2.lt
            clear hb
            go_wp2_with fail
            refine (rWritten_is y m d _ _ hwr).mono ?_
            rintro e' w5 ⟨rfl, hb⟩
            replace hr1 := hr1.keep hb
            replace hr2 := hr2.keep hb
            replace hT := hT.keep hb
            replace hrL := hrL.keep hb
            replace hfr := fr_call hfr hb
            replace hX0 := hX0.keep hb
            replace hc0 := fun j => hX0.cell j
            replace hl0 := hX0.lt
            replace hX1 := hX1.keep hb
            replace hc1 := fun j => hX1.cell j
            replace hl1 := hX1.lt
            replace hX2 := hX2.keep hb
            replace hc2 := fun j => hX2.cell j
            replace hl2 := hX2.lt
            clear hb
            go_wp2_with fail
            refine (rDays_any A1 A2 n1 k1 n2 k2 c1 c2 e1 e2 last y m d _ hr1 hr2 hk.1 hk.2).mono ?_
            rw [HDS.out]
            rintro e' w6 ⟨AR, cR, rfl, hrR, hb⟩
            replace hr1 := hr1.keep hb
            replace hr2 := hr2.keep hb
            replace hT := hT.keep hb
            replace hrL := hrL.keep hb
            replace hfr := fr_call hfr hb
            replace hX0 := hX0.keep hb
            replace hc0 := fun j => hX0.cell j
            replace hl0 := hX0.lt
            replace hX1 := hX1.keep hb
            replace hc1 := fun j => hX1.cell j
            replace hl1 := hX1.lt
            replace hX2 := hX2.keep hb
            replace hc2 := fun j => hX2.cell j
            replace hl2 := hX2.lt
            clear hb
            go_wp2_with fail
            refine (rSame_is AL AR ds.length cL ds.length cR ds ds _ hrL hrR hdl hdl true (by simp)).mono ?_
            rintro e' w7 ⟨rfl, hb⟩
            replace hr1 := hr1.keep hb
            replace hr2 := hr2.keep hb
            replace hT := hT.keep hb
            replace hrL := hrL.keep hb
            replace hrR := hrR.keep hb
            replace hfr := fr_call hfr hb
            replace hX0 := hX0.keep hb
            replace hc0 := fun j => hX0.cell j
            replace hl0 := hX0.lt
            replace hX1 := hX1.keep hb
            replace hc1 := fun j => hX1.cell j
            replace hl1 := hX1.lt
            replace hX2 := hX2.keep hb
            replace hc2 := fun j => hX2.cell j
            replace hl2 := hX2.lt
            clear hb
            go_wp2_with fail
            refine (rWritten_is y m d _ _ hwr).mono ?_
            rintro e' w8 ⟨rfl, hb⟩
            replace hr1 := hr1.keep hb
            replace hr2 := hr2.keep hb
            replace hT := hT.keep hb
            replace hrL := hrL.keep hb
            replace hrR := hrR.keep hb
            replace hfr := fr_call hfr hb
            replace hX0 := hX0.keep hb
            replace hc0 := fun j => hX0.cell j
            replace hl0 := hX0.lt
            replace hX1 := hX1.keep hb
            replace hc1 := fun j => hX1.cell j
            replace hl1 := hX1.lt
            replace hX2 := hX2.keep hb
            replace hc2 := fun j => hX2.cell j
            replace hl2 := hX2.lt
            clear hb
            go_wp2_with fail
            refine (rNumber_is _ _ _ hd).mono ?_
            rintro e' w9 ⟨rfl, rfl⟩
            go_wp2_with fail
            refine (rOn_any A1 A2 n1 k1 n2 k2 c1 c2 e1 e2 last day _ hr1 hr2 hk.1 hk.2 (by omega) (by omega)).mono ?_
            rw [HO.out]
            simp only [rdateV]
            rintro e' w10 ⟨rfl, hb⟩
            replace hr1 := hr1.keep hb
            replace hr2 := hr2.keep hb
            replace hT := hT.keep hb
            replace hrL := hrL.keep hb
            replace hrR := hrR.keep hb
            replace hfr := fr_call hfr hb
            replace hX0 := hX0.keep hb
            replace hc0 := fun j => hX0.cell j
            replace hl0 := hX0.lt
            replace hX1 := hX1.keep hb
            replace hc1 := fun j => hX1.cell j
            replace hl1 := hX1.lt
            replace hX2 := hX2.keep hb
            replace hc2 := fun j => hX2.cell j
            replace hl2 := hX2.lt
            clear hb
            go_wp2_with fail
            have ga := fr_alloc (fr_refl w10) (.cells #[.int .i64 xy, .int .i64 xm, .int .i64 xd] 38)
            replace hr1 := hr1.keep ga
            replace hr2 := hr2.keep ga
            replace hT := hT.keep ga
            replace hrL := hrL.keep ga
            replace hrR := hrR.keep ga
            replace hfr := fr_call hfr ga
            replace hX0 := hX0.keep ga
            replace hc0 := fun j => hX0.cell j
            replace hl0 := hX0.lt
            replace hX1 := hX1.keep ga
            replace hc1 := fun j => hX1.cell j
            replace hl1 := hX1.lt
            replace hX2 := hX2.keep ga
            replace hc2 := fun j => hX2.cell j
            replace hl2 := hX2.lt
            have hX3 := Blk.new w10 38 #[.int .i64 xy, .int .i64 xm, .int .i64 xd]
            have hc3 := fun j => hX3.cell j
            have hl3 := hX3.lt
            clear ga
            refine (known_is _ hT).mono ?_
            rintro e' w11 ⟨rfl, hb⟩
            replace hr1 := hr1.keep hb
            replace hr2 := hr2.keep hb
            replace hT := hT.keep hb
            replace hrL := hrL.keep hb
            replace hrR := hrR.keep hb
            replace hfr := fr_call hfr hb
            replace hX0 := hX0.keep hb
            replace hc0 := fun j => hX0.cell j
            replace hl0 := hX0.lt
            replace hX1 := hX1.keep hb
            replace hc1 := fun j => hX1.cell j
            replace hl1 := hX1.lt
            replace hX2 := hX2.keep hb
            replace hc2 := fun j => hX2.cell j
            replace hl2 := hX2.lt
            replace hX3 := hX3.keep hb
            replace hc3 := fun j => hX3.cell j
            replace hl3 := hX3.lt
            clear hb
            go_wp2_with fail
            go_ret
            exact ⟨rfl, hfr⟩
end Go.Proofs.YtnpgdifidejohaaGreatDoor
