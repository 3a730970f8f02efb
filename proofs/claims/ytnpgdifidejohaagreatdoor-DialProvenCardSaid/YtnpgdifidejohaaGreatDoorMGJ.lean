/- The law of proven years: DialProven, walked. -/
import Derived.Test.YtnpgdifidejohaaGreatDoorMEC
import Derived.Test.YtnpgdifidejohaaGreatDoorMEE
import Derived.Test.YtnpgdifidejohaaGreatDoorMEF
import Derived.Test.YtnpgdifidejohaaGreatDoorMD1
import Derived.Test.YtnpgdifidejohaaGreatDoorMD4
import Derived.Test.YtnpgdifidejohaaGreatDoorMC5
namespace Go.Proofs.YtnpgdifidejohaaGreatDoor
open Go.RowKit Dl

theorem years_at {e num den add y u : Int} {cs : List Int} {l : List Fact} {k : Nat} (h : y ≤ u ∧ u < y + k) : (yearsOf e cs num den add l y k).contains u = l.all (soB e cs num den add u) := by
  unfold yearsOf
  rw [Bool.eq_iff_iff, List.contains_iff_mem, List.mem_filter, List.mem_map]
  constructor
  · exact fun h => h.2
  · exact fun h1 => ⟨⟨(u - y).toNat, List.mem_range.2 (by omega), by omega⟩, h1⟩
theorem years_more {e num den add y : Int} {cs : List Int} {l : List Fact} {f : Fact} {k : Nat} :
    (yearsOf e cs num den add (l ++ [f]) y k).length ≤ (yearsOf e cs num den add l y k).length ∧ ∀ x ∈ yearsOf e cs num den add (l ++ [f]) y k, x ∈ yearsOf e cs num den add l y k := by
  have h : yearsOf e cs num den add (l ++ [f]) y k = (yearsOf e cs num den add l y k).filter (soB e cs num den add · f) := by
    unfold yearsOf
    rw [List.filter_filter]
    refine List.filter_congr fun x _ => ?_
    rw [List.all_append, Bool.and_comm]
    simp
  rw [h]
  exact ⟨List.length_filter_le _ _, fun x hx => (List.mem_filter.1 hx).1⟩

theorem fact_kind {l : List Fact} (h : factsB l = true) {f : Fact} (hf : f ∈ l) : kindB f (val_areFacts f) = true := by
  unfold factsB at h
  rw [Bool.and_eq_true] at h
  have := h.2
  unfold all_areFacts at this
  exact List.all_eq_true.1 this f hf
theorem facts_len {l : List Fact} (h : factsB l = true) : l.length ≤ 6 := by
  unfold factsB at h
  rw [Bool.and_eq_true] at h
  simpa using h.1

set_option maxRecDepth 100000 in
set_option maxHeartbeats 8000000 in
theorem proven_true (A L : Option Addr) (n c lc : Nat) (cs : List Int) (e num den add y z u k m d v : Int) (l : List Fact) (w : World) (hr : Rd w A n cs) (hn : n ≤ 9223372036854775807) (hL : RdS w L 4 (l.map Fact.row)) (hln : l.length ≤ 9223372036854775807) (hT : TabP w) :
    Calls Tryz.prog 14 #[.agg #[.int .i64 e, .slice A n c], .agg #[.int .i64 num, .int .i64 den, .int .i64 add], .slice L l.length lc, .int .i64 y, .int .i64 z, .int .i64 u, .agg #[.int .i64 k, .int .i64 m, .int .i64 d, .int .i64 v]] w fun e' w' => e' = .returned (.bool true) ∧ Below w.heap.size w w' := by
  have g1 := fr_alloc (fr_alloc (fr_alloc (fr_refl w) (.cells #[.int .i64 e, .slice A n c] 24)) (.cells #[.int .i64 num, .int .i64 den, .int .i64 add] 65)) (.cells #[.int .i64 k, .int .i64 m, .int .i64 d, .int .i64 v] 77)
  have hX0 : Blk (((w.alloc (.cells #[.int .i64 e, .slice A n c] 24)).alloc (.cells #[.int .i64 num, .int .i64 den, .int .i64 add] 65)).alloc (.cells #[.int .i64 k, .int .i64 m, .int .i64 d, .int .i64 v] 77)) (w.heap.size) 24 #[.int .i64 e, .slice A n c] := (((Blk.new_at _ _ (by simp)).alloc _).alloc _)
  have hX1 : Blk (((w.alloc (.cells #[.int .i64 e, .slice A n c] 24)).alloc (.cells #[.int .i64 num, .int .i64 den, .int .i64 add] 65)).alloc (.cells #[.int .i64 k, .int .i64 m, .int .i64 d, .int .i64 v] 77)) (w.heap.size + 1) 65 #[.int .i64 num, .int .i64 den, .int .i64 add] := ((Blk.new_at _ _ (by simp)).alloc _)
  have hX2 : Blk (((w.alloc (.cells #[.int .i64 e, .slice A n c] 24)).alloc (.cells #[.int .i64 num, .int .i64 den, .int .i64 add] 65)).alloc (.cells #[.int .i64 k, .int .i64 m, .int .i64 d, .int .i64 v] 77)) (w.heap.size + 1 + 1) 77 #[.int .i64 k, .int .i64 m, .int .i64 d, .int .i64 v] := (Blk.new_at _ _ (by simp))
  cases hs : decide ((n : Int) ≤ 5)
  · go_enter Tryz.func14, Tryz.ntmps14
    go_wp2_with fail
    have hfr := g1
    replace hr := hr.keep g1
    replace hL := hL.keep g1
    replace hT := hT.keep g1
    have hc0 := fun j => hX0.cell j
    have hc1 := fun j => hX1.cell j
    have hc2 := fun j => hX2.cell j
    have hl0 := hX0.lt
    have hl1 := hX1.lt
    have hl2 := hX2.lt
    refine (lshort_is A n c _ _ false hs).mono ?_
    rintro e' w1 ⟨rfl, hb⟩
    replace hr := hr.keep hb
    replace hL := hL.keep hb
    replace hT := hT.keep hb
    replace hfr := fr_call hfr hb
    replace hX0 := hX0.keep hb
    replace hc0 := fun j => hX0.cell j
    replace hl0 := hX0.lt
    replace hX1 := hX1.keep hb
    replace hc1 := fun j => hX1.cell j
    replace hl1 := hX1.lt
    replace hX2 := hX2.keep hb
    replace hc2 := fun j => hX2.cell j
    replace hl2 := hX2.lt
    clear hb
    go_wp2_with fail
    refine (known_is _ hT).mono ?_
    rintro e' w2 ⟨rfl, hb⟩
    replace hr := hr.keep hb
    replace hL := hL.keep hb
    replace hT := hT.keep hb
    replace hfr := fr_call hfr hb
    replace hX0 := hX0.keep hb
    replace hc0 := fun j => hX0.cell j
    replace hl0 := hX0.lt
    replace hX1 := hX1.keep hb
    replace hc1 := fun j => hX1.cell j
    replace hl1 := hX1.lt
    replace hX2 := hX2.keep hb
    replace hc2 := fun j => hX2.cell j
    replace hl2 := hX2.lt
    clear hb
    go_wp2_with fail
    go_ret
    exact ⟨rfl, hfr⟩
  · cases hso : decide ((l.length : Int) ≤ 8)
    · go_enter Tryz.func14, Tryz.ntmps14
      go_wp2_with fail
      have hfr := g1
      replace hr := hr.keep g1
      replace hL := hL.keep g1
      replace hT := hT.keep g1
      have hc0 := fun j => hX0.cell j
      have hc1 := fun j => hX1.cell j
      have hc2 := fun j => hX2.cell j
      have hl0 := hX0.lt
      have hl1 := hX1.lt
      have hl2 := hX2.lt
      refine (lshort_is A n c _ _ true hs).mono ?_
      rintro e' w1 ⟨rfl, hb⟩
      replace hr := hr.keep hb
      replace hL := hL.keep hb
      replace hT := hT.keep hb
      replace hfr := fr_call hfr hb
      replace hX0 := hX0.keep hb
      replace hc0 := fun j => hX0.cell j
      replace hl0 := hX0.lt
      replace hX1 := hX1.keep hb
      replace hc1 := fun j => hX1.cell j
      replace hl1 := hX1.lt
      replace hX2 := hX2.keep hb
      replace hc2 := fun j => hX2.cell j
      replace hl2 := hX2.lt
      clear hb
      go_wp2_with fail
      refine (lsome_is L l.length lc _ false hso).mono ?_
      rintro e' w2 ⟨rfl, rfl⟩
      go_wp2_with fail
      refine (known_is _ hT).mono ?_
      rintro e' w3 ⟨rfl, hb⟩
      replace hr := hr.keep hb
      replace hL := hL.keep hb
      replace hT := hT.keep hb
      replace hfr := fr_call hfr hb
      replace hX0 := hX0.keep hb
      replace hc0 := fun j => hX0.cell j
      replace hl0 := hX0.lt
      replace hX1 := hX1.keep hb
      replace hc1 := fun j => hX1.cell j
      replace hl1 := hX1.lt
      replace hX2 := hX2.keep hb
      replace hc2 := fun j => hX2.cell j
      replace hl2 := hX2.lt
      clear hb
      go_wp2_with fail
      go_ret
      exact ⟨rfl, hfr⟩
    · cases hok : calOk e cs
      · go_enter Tryz.func14, Tryz.ntmps14
        go_wp2_with fail
        have hfr := g1
        replace hr := hr.keep g1
        replace hL := hL.keep g1
        replace hT := hT.keep g1
        have hc0 := fun j => hX0.cell j
        have hc1 := fun j => hX1.cell j
        have hc2 := fun j => hX2.cell j
        have hl0 := hX0.lt
        have hl1 := hX1.lt
        have hl2 := hX2.lt
        refine (lshort_is A n c _ _ true hs).mono ?_
        rintro e' w1 ⟨rfl, hb⟩
        replace hr := hr.keep hb
        replace hL := hL.keep hb
        replace hT := hT.keep hb
        replace hfr := fr_call hfr hb
        replace hX0 := hX0.keep hb
        replace hc0 := fun j => hX0.cell j
        replace hl0 := hX0.lt
        replace hX1 := hX1.keep hb
        replace hc1 := fun j => hX1.cell j
        replace hl1 := hX1.lt
        replace hX2 := hX2.keep hb
        replace hc2 := fun j => hX2.cell j
        replace hl2 := hX2.lt
        clear hb
        go_wp2_with fail
        refine (lsome_is L l.length lc _ true hso).mono ?_
        rintro e' w2 ⟨rfl, rfl⟩
        go_wp2_with fail
        refine (rCalendar_is A n c cs e _ hr hn _ hok).mono ?_
        rintro e' w3 ⟨rfl, hb⟩
        replace hr := hr.keep hb
        replace hL := hL.keep hb
        replace hT := hT.keep hb
        replace hfr := fr_call hfr hb
        replace hX0 := hX0.keep hb
        replace hc0 := fun j => hX0.cell j
        replace hl0 := hX0.lt
        replace hX1 := hX1.keep hb
        replace hc1 := fun j => hX1.cell j
        replace hl1 := hX1.lt
        replace hX2 := hX2.keep hb
        replace hc2 := fun j => hX2.cell j
        replace hl2 := hX2.lt
        clear hb
        go_wp2_with fail
        refine (known_is _ hT).mono ?_
        rintro e' w4 ⟨rfl, hb⟩
        replace hr := hr.keep hb
        replace hL := hL.keep hb
        replace hT := hT.keep hb
        replace hfr := fr_call hfr hb
        replace hX0 := hX0.keep hb
        replace hc0 := fun j => hX0.cell j
        replace hl0 := hX0.lt
        replace hX1 := hX1.keep hb
        replace hc1 := fun j => hX1.cell j
        replace hl1 := hX1.lt
        replace hX2 := hX2.keep hb
        replace hc2 := fun j => hX2.cell j
        replace hl2 := hX2.lt
        clear hb
        go_wp2_with fail
        go_ret
        exact ⟨rfl, hfr⟩
      · cases hm : moonB num den add
        · go_enter Tryz.func14, Tryz.ntmps14
          go_wp2_with fail
          have hfr := g1
          replace hr := hr.keep g1
          replace hL := hL.keep g1
          replace hT := hT.keep g1
          have hc0 := fun j => hX0.cell j
          have hc1 := fun j => hX1.cell j
          have hc2 := fun j => hX2.cell j
          have hl0 := hX0.lt
          have hl1 := hX1.lt
          have hl2 := hX2.lt
          refine (lshort_is A n c _ _ true hs).mono ?_
          rintro e' w1 ⟨rfl, hb⟩
          replace hr := hr.keep hb
          replace hL := hL.keep hb
          replace hT := hT.keep hb
          replace hfr := fr_call hfr hb
          replace hX0 := hX0.keep hb
          replace hc0 := fun j => hX0.cell j
          replace hl0 := hX0.lt
          replace hX1 := hX1.keep hb
          replace hc1 := fun j => hX1.cell j
          replace hl1 := hX1.lt
          replace hX2 := hX2.keep hb
          replace hc2 := fun j => hX2.cell j
          replace hl2 := hX2.lt
          clear hb
          go_wp2_with fail
          refine (lsome_is L l.length lc _ true hso).mono ?_
          rintro e' w2 ⟨rfl, rfl⟩
          go_wp2_with fail
          refine (rCalendar_is A n c cs e _ hr hn _ hok).mono ?_
          rintro e' w3 ⟨rfl, hb⟩
          replace hr := hr.keep hb
          replace hL := hL.keep hb
          replace hT := hT.keep hb
          replace hfr := fr_call hfr hb
          replace hX0 := hX0.keep hb
          replace hc0 := fun j => hX0.cell j
          replace hl0 := hX0.lt
          replace hX1 := hX1.keep hb
          replace hc1 := fun j => hX1.cell j
          replace hl1 := hX1.lt
          replace hX2 := hX2.keep hb
          replace hc2 := fun j => hX2.cell j
          replace hl2 := hX2.lt
          clear hb
          go_wp2_with fail
          refine (rMoon_is _ _ _ _ _ hm).mono ?_
          rintro e' w4 ⟨rfl, hb⟩
          replace hr := hr.keep hb
          replace hL := hL.keep hb
          replace hT := hT.keep hb
          replace hfr := fr_call hfr hb
          replace hX0 := hX0.keep hb
          replace hc0 := fun j => hX0.cell j
          replace hl0 := hX0.lt
          replace hX1 := hX1.keep hb
          replace hc1 := fun j => hX1.cell j
          replace hl1 := hX1.lt
          replace hX2 := hX2.keep hb
          replace hc2 := fun j => hX2.cell j
          replace hl2 := hX2.lt
          clear hb
          go_wp2_with fail
          refine (known_is _ hT).mono ?_
          rintro e' w5 ⟨rfl, hb⟩
          replace hr := hr.keep hb
          replace hL := hL.keep hb
          replace hT := hT.keep hb
          replace hfr := fr_call hfr hb
          replace hX0 := hX0.keep hb
          replace hc0 := fun j => hX0.cell j
          replace hl0 := hX0.lt
          replace hX1 := hX1.keep hb
          replace hc1 := fun j => hX1.cell j
          replace hl1 := hX1.lt
          replace hX2 := hX2.keep hb
          replace hc2 := fun j => hX2.cell j
          replace hl2 := hX2.lt
          clear hb
          go_wp2_with fail
          go_ret
          exact ⟨rfl, hfr⟩
        · cases hf : factsB l
          · go_enter Tryz.func14, Tryz.ntmps14
            go_wp2_with fail
            have hfr := g1
            replace hr := hr.keep g1
            replace hL := hL.keep g1
            replace hT := hT.keep g1
            have hc0 := fun j => hX0.cell j
            have hc1 := fun j => hX1.cell j
            have hc2 := fun j => hX2.cell j
            have hl0 := hX0.lt
            have hl1 := hX1.lt
            have hl2 := hX2.lt
            refine (lshort_is A n c _ _ true hs).mono ?_
            rintro e' w1 ⟨rfl, hb⟩
            replace hr := hr.keep hb
            replace hL := hL.keep hb
            replace hT := hT.keep hb
            replace hfr := fr_call hfr hb
            replace hX0 := hX0.keep hb
            replace hc0 := fun j => hX0.cell j
            replace hl0 := hX0.lt
            replace hX1 := hX1.keep hb
            replace hc1 := fun j => hX1.cell j
            replace hl1 := hX1.lt
            replace hX2 := hX2.keep hb
            replace hc2 := fun j => hX2.cell j
            replace hl2 := hX2.lt
            clear hb
            go_wp2_with fail
            refine (lsome_is L l.length lc _ true hso).mono ?_
            rintro e' w2 ⟨rfl, rfl⟩
            go_wp2_with fail
            refine (rCalendar_is A n c cs e _ hr hn _ hok).mono ?_
            rintro e' w3 ⟨rfl, hb⟩
            replace hr := hr.keep hb
            replace hL := hL.keep hb
            replace hT := hT.keep hb
            replace hfr := fr_call hfr hb
            replace hX0 := hX0.keep hb
            replace hc0 := fun j => hX0.cell j
            replace hl0 := hX0.lt
            replace hX1 := hX1.keep hb
            replace hc1 := fun j => hX1.cell j
            replace hl1 := hX1.lt
            replace hX2 := hX2.keep hb
            replace hc2 := fun j => hX2.cell j
            replace hl2 := hX2.lt
            clear hb
            go_wp2_with fail
            refine (rMoon_is _ _ _ _ _ hm).mono ?_
            rintro e' w4 ⟨rfl, hb⟩
            replace hr := hr.keep hb
            replace hL := hL.keep hb
            replace hT := hT.keep hb
            replace hfr := fr_call hfr hb
            replace hX0 := hX0.keep hb
            replace hc0 := fun j => hX0.cell j
            replace hl0 := hX0.lt
            replace hX1 := hX1.keep hb
            replace hc1 := fun j => hX1.cell j
            replace hl1 := hX1.lt
            replace hX2 := hX2.keep hb
            replace hc2 := fun j => hX2.cell j
            replace hl2 := hX2.lt
            clear hb
            go_wp2_with fail
            refine (rFacts_is L lc l _ hL hln _ hf).mono ?_
            rintro e' w5 ⟨rfl, hb⟩
            replace hr := hr.keep hb
            replace hL := hL.keep hb
            replace hT := hT.keep hb
            replace hfr := fr_call hfr hb
            replace hX0 := hX0.keep hb
            replace hc0 := fun j => hX0.cell j
            replace hl0 := hX0.lt
            replace hX1 := hX1.keep hb
            replace hc1 := fun j => hX1.cell j
            replace hl1 := hX1.lt
            replace hX2 := hX2.keep hb
            replace hc2 := fun j => hX2.cell j
            replace hl2 := hX2.lt
            clear hb
            go_wp2_with fail
            refine (known_is _ hT).mono ?_
            rintro e' w6 ⟨rfl, hb⟩
            replace hr := hr.keep hb
            replace hL := hL.keep hb
            replace hT := hT.keep hb
            replace hfr := fr_call hfr hb
            replace hX0 := hX0.keep hb
            replace hc0 := fun j => hX0.cell j
            replace hl0 := hX0.lt
            replace hX1 := hX1.keep hb
            replace hc1 := fun j => hX1.cell j
            replace hl1 := hX1.lt
            replace hX2 := hX2.keep hb
            replace hc2 := fun j => hX2.cell j
            replace hl2 := hX2.lt
            clear hb
            go_wp2_with fail
            go_ret
            exact ⟨rfl, hfr⟩
          · cases hg : rangeB y z
            · go_enter Tryz.func14, Tryz.ntmps14
              go_wp2_with fail
              have hfr := g1
              replace hr := hr.keep g1
              replace hL := hL.keep g1
              replace hT := hT.keep g1
              have hc0 := fun j => hX0.cell j
              have hc1 := fun j => hX1.cell j
              have hc2 := fun j => hX2.cell j
              have hl0 := hX0.lt
              have hl1 := hX1.lt
              have hl2 := hX2.lt
              refine (lshort_is A n c _ _ true hs).mono ?_
              rintro e' w1 ⟨rfl, hb⟩
              replace hr := hr.keep hb
              replace hL := hL.keep hb
              replace hT := hT.keep hb
              replace hfr := fr_call hfr hb
              replace hX0 := hX0.keep hb
              replace hc0 := fun j => hX0.cell j
              replace hl0 := hX0.lt
              replace hX1 := hX1.keep hb
              replace hc1 := fun j => hX1.cell j
              replace hl1 := hX1.lt
              replace hX2 := hX2.keep hb
              replace hc2 := fun j => hX2.cell j
              replace hl2 := hX2.lt
              clear hb
              go_wp2_with fail
              refine (lsome_is L l.length lc _ true hso).mono ?_
              rintro e' w2 ⟨rfl, rfl⟩
              go_wp2_with fail
              refine (rCalendar_is A n c cs e _ hr hn _ hok).mono ?_
              rintro e' w3 ⟨rfl, hb⟩
              replace hr := hr.keep hb
              replace hL := hL.keep hb
              replace hT := hT.keep hb
              replace hfr := fr_call hfr hb
              replace hX0 := hX0.keep hb
              replace hc0 := fun j => hX0.cell j
              replace hl0 := hX0.lt
              replace hX1 := hX1.keep hb
              replace hc1 := fun j => hX1.cell j
              replace hl1 := hX1.lt
              replace hX2 := hX2.keep hb
              replace hc2 := fun j => hX2.cell j
              replace hl2 := hX2.lt
              clear hb
              go_wp2_with fail
              refine (rMoon_is _ _ _ _ _ hm).mono ?_
              rintro e' w4 ⟨rfl, hb⟩
              replace hr := hr.keep hb
              replace hL := hL.keep hb
              replace hT := hT.keep hb
              replace hfr := fr_call hfr hb
              replace hX0 := hX0.keep hb
              replace hc0 := fun j => hX0.cell j
              replace hl0 := hX0.lt
              replace hX1 := hX1.keep hb
              replace hc1 := fun j => hX1.cell j
              replace hl1 := hX1.lt
              replace hX2 := hX2.keep hb
              replace hc2 := fun j => hX2.cell j
              replace hl2 := hX2.lt
              clear hb
              go_wp2_with fail
              refine (rFacts_is L lc l _ hL hln _ hf).mono ?_
              rintro e' w5 ⟨rfl, hb⟩
              replace hr := hr.keep hb
              replace hL := hL.keep hb
              replace hT := hT.keep hb
              replace hfr := fr_call hfr hb
              replace hX0 := hX0.keep hb
              replace hc0 := fun j => hX0.cell j
              replace hl0 := hX0.lt
              replace hX1 := hX1.keep hb
              replace hc1 := fun j => hX1.cell j
              replace hl1 := hX1.lt
              replace hX2 := hX2.keep hb
              replace hc2 := fun j => hX2.cell j
              replace hl2 := hX2.lt
              clear hb
              go_wp2_with fail
              refine (rRange_is y z _ _ hg).mono ?_
              rintro e' w6 ⟨rfl, rfl⟩
              go_wp2_with fail
              refine (known_is _ hT).mono ?_
              rintro e' w7 ⟨rfl, hb⟩
              replace hr := hr.keep hb
              replace hL := hL.keep hb
              replace hT := hT.keep hb
              replace hfr := fr_call hfr hb
              replace hX0 := hX0.keep hb
              replace hc0 := fun j => hX0.cell j
              replace hl0 := hX0.lt
              replace hX1 := hX1.keep hb
              replace hc1 := fun j => hX1.cell j
              replace hl1 := hX1.lt
              replace hX2 := hX2.keep hb
              replace hc2 := fun j => hX2.cell j
              replace hl2 := hX2.lt
              clear hb
              go_wp2_with fail
              go_ret
              exact ⟨rfl, hfr⟩
            · by_cases hu1 : u < y
              · go_enter Tryz.func14, Tryz.ntmps14
                go_wp2_with fail
                have hfr := g1
                replace hr := hr.keep g1
                replace hL := hL.keep g1
                replace hT := hT.keep g1
                have hc0 := fun j => hX0.cell j
                have hc1 := fun j => hX1.cell j
                have hc2 := fun j => hX2.cell j
                have hl0 := hX0.lt
                have hl1 := hX1.lt
                have hl2 := hX2.lt
                refine (lshort_is A n c _ _ true hs).mono ?_
                rintro e' w1 ⟨rfl, hb⟩
                replace hr := hr.keep hb
                replace hL := hL.keep hb
                replace hT := hT.keep hb
                replace hfr := fr_call hfr hb
                replace hX0 := hX0.keep hb
                replace hc0 := fun j => hX0.cell j
                replace hl0 := hX0.lt
                replace hX1 := hX1.keep hb
                replace hc1 := fun j => hX1.cell j
                replace hl1 := hX1.lt
                replace hX2 := hX2.keep hb
                replace hc2 := fun j => hX2.cell j
                replace hl2 := hX2.lt
                clear hb
                go_wp2_with fail
                refine (lsome_is L l.length lc _ true hso).mono ?_
                rintro e' w2 ⟨rfl, rfl⟩
                go_wp2_with fail
                refine (rCalendar_is A n c cs e _ hr hn _ hok).mono ?_
                rintro e' w3 ⟨rfl, hb⟩
                replace hr := hr.keep hb
                replace hL := hL.keep hb
                replace hT := hT.keep hb
                replace hfr := fr_call hfr hb
                replace hX0 := hX0.keep hb
                replace hc0 := fun j => hX0.cell j
                replace hl0 := hX0.lt
                replace hX1 := hX1.keep hb
                replace hc1 := fun j => hX1.cell j
                replace hl1 := hX1.lt
                replace hX2 := hX2.keep hb
                replace hc2 := fun j => hX2.cell j
                replace hl2 := hX2.lt
                clear hb
                go_wp2_with fail
                refine (rMoon_is _ _ _ _ _ hm).mono ?_
                rintro e' w4 ⟨rfl, hb⟩
                replace hr := hr.keep hb
                replace hL := hL.keep hb
                replace hT := hT.keep hb
                replace hfr := fr_call hfr hb
                replace hX0 := hX0.keep hb
                replace hc0 := fun j => hX0.cell j
                replace hl0 := hX0.lt
                replace hX1 := hX1.keep hb
                replace hc1 := fun j => hX1.cell j
                replace hl1 := hX1.lt
                replace hX2 := hX2.keep hb
                replace hc2 := fun j => hX2.cell j
                replace hl2 := hX2.lt
                clear hb
                go_wp2_with fail
                refine (rFacts_is L lc l _ hL hln _ hf).mono ?_
                rintro e' w5 ⟨rfl, hb⟩
                replace hr := hr.keep hb
                replace hL := hL.keep hb
                replace hT := hT.keep hb
                replace hfr := fr_call hfr hb
                replace hX0 := hX0.keep hb
                replace hc0 := fun j => hX0.cell j
                replace hl0 := hX0.lt
                replace hX1 := hX1.keep hb
                replace hc1 := fun j => hX1.cell j
                replace hl1 := hX1.lt
                replace hX2 := hX2.keep hb
                replace hc2 := fun j => hX2.cell j
                replace hl2 := hX2.lt
                clear hb
                go_wp2_with fail
                refine (rRange_is y z _ _ hg).mono ?_
                rintro e' w6 ⟨rfl, rfl⟩
                go_wp2_with fail
                refine (known_is _ hT).mono ?_
                rintro e' w7 ⟨rfl, hb⟩
                replace hr := hr.keep hb
                replace hL := hL.keep hb
                replace hT := hT.keep hb
                replace hfr := fr_call hfr hb
                replace hX0 := hX0.keep hb
                replace hc0 := fun j => hX0.cell j
                replace hl0 := hX0.lt
                replace hX1 := hX1.keep hb
                replace hc1 := fun j => hX1.cell j
                replace hl1 := hX1.lt
                replace hX2 := hX2.keep hb
                replace hc2 := fun j => hX2.cell j
                replace hl2 := hX2.lt
                clear hb
                go_wp2_with fail
                go_ret
                exact ⟨rfl, hfr⟩
              · by_cases hu2 : z < u
                · go_enter Tryz.func14, Tryz.ntmps14
                  go_wp2_with fail
                  have hfr := g1
                  replace hr := hr.keep g1
                  replace hL := hL.keep g1
                  replace hT := hT.keep g1
                  have hc0 := fun j => hX0.cell j
                  have hc1 := fun j => hX1.cell j
                  have hc2 := fun j => hX2.cell j
                  have hl0 := hX0.lt
                  have hl1 := hX1.lt
                  have hl2 := hX2.lt
                  refine (lshort_is A n c _ _ true hs).mono ?_
                  rintro e' w1 ⟨rfl, hb⟩
                  replace hr := hr.keep hb
                  replace hL := hL.keep hb
                  replace hT := hT.keep hb
                  replace hfr := fr_call hfr hb
                  replace hX0 := hX0.keep hb
                  replace hc0 := fun j => hX0.cell j
                  replace hl0 := hX0.lt
                  replace hX1 := hX1.keep hb
                  replace hc1 := fun j => hX1.cell j
                  replace hl1 := hX1.lt
                  replace hX2 := hX2.keep hb
                  replace hc2 := fun j => hX2.cell j
                  replace hl2 := hX2.lt
                  clear hb
                  go_wp2_with fail
                  refine (lsome_is L l.length lc _ true hso).mono ?_
                  rintro e' w2 ⟨rfl, rfl⟩
                  go_wp2_with fail
                  refine (rCalendar_is A n c cs e _ hr hn _ hok).mono ?_
                  rintro e' w3 ⟨rfl, hb⟩
                  replace hr := hr.keep hb
                  replace hL := hL.keep hb
                  replace hT := hT.keep hb
                  replace hfr := fr_call hfr hb
                  replace hX0 := hX0.keep hb
                  replace hc0 := fun j => hX0.cell j
                  replace hl0 := hX0.lt
                  replace hX1 := hX1.keep hb
                  replace hc1 := fun j => hX1.cell j
                  replace hl1 := hX1.lt
                  replace hX2 := hX2.keep hb
                  replace hc2 := fun j => hX2.cell j
                  replace hl2 := hX2.lt
                  clear hb
                  go_wp2_with fail
                  refine (rMoon_is _ _ _ _ _ hm).mono ?_
                  rintro e' w4 ⟨rfl, hb⟩
                  replace hr := hr.keep hb
                  replace hL := hL.keep hb
                  replace hT := hT.keep hb
                  replace hfr := fr_call hfr hb
                  replace hX0 := hX0.keep hb
                  replace hc0 := fun j => hX0.cell j
                  replace hl0 := hX0.lt
                  replace hX1 := hX1.keep hb
                  replace hc1 := fun j => hX1.cell j
                  replace hl1 := hX1.lt
                  replace hX2 := hX2.keep hb
                  replace hc2 := fun j => hX2.cell j
                  replace hl2 := hX2.lt
                  clear hb
                  go_wp2_with fail
                  refine (rFacts_is L lc l _ hL hln _ hf).mono ?_
                  rintro e' w5 ⟨rfl, hb⟩
                  replace hr := hr.keep hb
                  replace hL := hL.keep hb
                  replace hT := hT.keep hb
                  replace hfr := fr_call hfr hb
                  replace hX0 := hX0.keep hb
                  replace hc0 := fun j => hX0.cell j
                  replace hl0 := hX0.lt
                  replace hX1 := hX1.keep hb
                  replace hc1 := fun j => hX1.cell j
                  replace hl1 := hX1.lt
                  replace hX2 := hX2.keep hb
                  replace hc2 := fun j => hX2.cell j
                  replace hl2 := hX2.lt
                  clear hb
                  go_wp2_with fail
                  refine (rRange_is y z _ _ hg).mono ?_
                  rintro e' w6 ⟨rfl, rfl⟩
                  go_wp2_with fail
                  refine (known_is _ hT).mono ?_
                  rintro e' w7 ⟨rfl, hb⟩
                  replace hr := hr.keep hb
                  replace hL := hL.keep hb
                  replace hT := hT.keep hb
                  replace hfr := fr_call hfr hb
                  replace hX0 := hX0.keep hb
                  replace hc0 := fun j => hX0.cell j
                  replace hl0 := hX0.lt
                  replace hX1 := hX1.keep hb
                  replace hc1 := fun j => hX1.cell j
                  replace hl1 := hX1.lt
                  replace hX2 := hX2.keep hb
                  replace hc2 := fun j => hX2.cell j
                  replace hl2 := hX2.lt
                  clear hb
                  go_wp2_with fail
                  go_ret
                  exact ⟨rfl, hfr⟩
                · obtain ⟨⟨hy1, hy2⟩, ⟨hz1, hz2⟩, hyz1, hyz2⟩ := range_parts hg
                  have hyl : (yearsOf e cs num den add l y (z - y + 1).toNat).length ≤ (z - y + 1).toNat := yearsOf_len e num den add y cs l _
                  have hcon := years_at (e := e) (num := num) (den := den) (add := add) (cs := cs) (l := l) (y := y) (u := u) (k := (z - y + 1).toNat) (by omega)
                  have hmore := years_more (e := e) (num := num) (den := den) (add := add) (y := y) (cs := cs) (l := l) (f := ⟨k, m, d, v⟩) (k := (z - y + 1).toNat)
                  obtain ⟨ys, gys⟩ : ∃ ys, yearsOf e cs num den add l y (z - y + 1).toNat = ys := ⟨_, rfl⟩
                  rw [gys] at hyl hcon hmore
                  have HYS := Lib.hid gys
                  clear gys
                  obtain ⟨l2, gl2⟩ : ∃ q, l ++ [⟨k, m, d, v⟩] = q := ⟨_, rfl⟩
                  rw [gl2] at hmore
                  have HL2 := Lib.hid gl2
                  clear gl2
                  obtain ⟨xs, gxs⟩ : ∃ xs, yearsOf e cs num den add l2 y (z - y + 1).toNat = xs := ⟨_, rfl⟩
                  rw [gxs] at hmore
                  have HXS := Lib.hid gxs
                  clear gxs
                  obtain ⟨hxl, hxm⟩ := hmore
                  have hxl3 : ¬ ys.length < xs.length := by omega
                  have HXM := Lib.hid hxm
                  have HCON := Lib.hid hcon
                  have hyl2 : (ys.length : Int) ≤ z - y + 1 := by omega
                  have hyl5 : ys.length ≤ 500 := by omega
                  clear hxm hcon hyl
                  have hkinds := facts_kinds hf
                  have hm' := moonB_ok hm
                  go_enter Tryz.func14, Tryz.ntmps14
                  go_wp2_with fail
                  have hfr := g1
                  replace hr := hr.keep g1
                  replace hL := hL.keep g1
                  replace hT := hT.keep g1
                  have hc0 := fun j => hX0.cell j
                  have hc1 := fun j => hX1.cell j
                  have hc2 := fun j => hX2.cell j
                  have hl0 := hX0.lt
                  have hl1 := hX1.lt
                  have hl2 := hX2.lt
                  refine (lshort_is A n c _ _ true hs).mono ?_
                  rintro e' w1 ⟨rfl, hb⟩
                  replace hr := hr.keep hb
                  replace hL := hL.keep hb
                  replace hT := hT.keep hb
                  replace hfr := fr_call hfr hb
                  replace hX0 := hX0.keep hb
                  replace hc0 := fun j => hX0.cell j
                  replace hl0 := hX0.lt
                  replace hX1 := hX1.keep hb
                  replace hc1 := fun j => hX1.cell j
                  replace hl1 := hX1.lt
                  replace hX2 := hX2.keep hb
                  replace hc2 := fun j => hX2.cell j
                  replace hl2 := hX2.lt
                  clear hb
                  go_wp2_with fail
                  refine (lsome_is L l.length lc _ true hso).mono ?_
                  rintro e' w2 ⟨rfl, rfl⟩
                  go_wp2_with fail
                  refine (rCalendar_is A n c cs e _ hr hn _ hok).mono ?_
                  rintro e' w3 ⟨rfl, hb⟩
                  replace hr := hr.keep hb
                  replace hL := hL.keep hb
                  replace hT := hT.keep hb
                  replace hfr := fr_call hfr hb
                  replace hX0 := hX0.keep hb
                  replace hc0 := fun j => hX0.cell j
                  replace hl0 := hX0.lt
                  replace hX1 := hX1.keep hb
                  replace hc1 := fun j => hX1.cell j
                  replace hl1 := hX1.lt
                  replace hX2 := hX2.keep hb
                  replace hc2 := fun j => hX2.cell j
                  replace hl2 := hX2.lt
                  clear hb
                  go_wp2_with fail
                  refine (rMoon_is _ _ _ _ _ hm).mono ?_
                  rintro e' w4 ⟨rfl, hb⟩
                  replace hr := hr.keep hb
                  replace hL := hL.keep hb
                  replace hT := hT.keep hb
                  replace hfr := fr_call hfr hb
                  replace hX0 := hX0.keep hb
                  replace hc0 := fun j => hX0.cell j
                  replace hl0 := hX0.lt
                  replace hX1 := hX1.keep hb
                  replace hc1 := fun j => hX1.cell j
                  replace hl1 := hX1.lt
                  replace hX2 := hX2.keep hb
                  replace hc2 := fun j => hX2.cell j
                  replace hl2 := hX2.lt
                  clear hb
                  go_wp2_with fail
                  refine (rFacts_is L lc l _ hL hln _ hf).mono ?_
                  rintro e' w5 ⟨rfl, hb⟩
                  replace hr := hr.keep hb
                  replace hL := hL.keep hb
                  replace hT := hT.keep hb
                  replace hfr := fr_call hfr hb
                  replace hX0 := hX0.keep hb
                  replace hc0 := fun j => hX0.cell j
                  replace hl0 := hX0.lt
                  replace hX1 := hX1.keep hb
                  replace hc1 := fun j => hX1.cell j
                  replace hl1 := hX1.lt
                  replace hX2 := hX2.keep hb
                  replace hc2 := fun j => hX2.cell j
                  replace hl2 := hX2.lt
                  clear hb
                  go_wp2_with fail
                  refine (rRange_is y z _ _ hg).mono ?_
                  rintro e' w6 ⟨rfl, rfl⟩
                  go_wp2_with fail
                  refine (Years_ok A L n c lc cs e num den add y z l _ hr hn hL hln hok hm hf hg).mono ?_
                  rw [HYS.out]
                  rintro e' w7 ⟨AY, cY, rfl, hrY, hb⟩
                  replace hr := hr.keep hb
                  replace hL := hL.keep hb
                  replace hT := hT.keep hb
                  replace hfr := fr_call hfr hb
                  replace hX0 := hX0.keep hb
                  replace hc0 := fun j => hX0.cell j
                  replace hl0 := hX0.lt
                  replace hX1 := hX1.keep hb
                  replace hc1 := fun j => hX1.cell j
                  replace hl1 := hX1.lt
                  replace hX2 := hX2.keep hb
                  replace hc2 := fun j => hX2.cell j
                  replace hl2 := hX2.lt
                  clear hb
                  go_wp2_with fail
                  go_loopw [17, 18] (fun s i wx => ∃ (j : Nat) (b : Bool), j ≤ l.length ∧ i = .int .i64 j ∧ s = .bool b ∧ (l.take j).all (soB e cs num den add u) = b ∧ Below w7.heap.size w7 wx) (fun _ i _ => l.length - (intOf i).toNat)
                  case atStart => exact ⟨0, true, Nat.zero_le _, rfl, rfl, by simp, fr_refl w7⟩
                  case round =>
                    obtain ⟨j, b, hj, rfl, rfl, hall, hbel⟩ := hrel
                    replace hr := hr.keep hbel
                    replace hL := hL.keep hbel
                    replace hT := hT.keep hbel
                    replace hrY := hrY.keep hbel
                    replace hfr := fr_call hfr hbel
                    replace hX0 := hX0.keep hbel
                    replace hc0 := fun j => hX0.cell j
                    replace hl0 := hX0.lt
                    replace hX1 := hX1.keep hbel
                    replace hc1 := fun j => hX1.cell j
                    replace hl1 := hX1.lt
                    replace hX2 := hX2.keep hbel
                    replace hc2 := fun j => hX2.cell j
                    replace hl2 := hX2.lt
                    by_cases hltj : j < l.length
                    · have hstep : ∀ b, ((l.take j).all (soB e cs num den add u) && soB e cs num den add u l[j]) = b → (l.take (j + 1)).all (soB e cs num den add u) = b := fun b hb => by
                        rw [List.take_succ_eq_append_getElem hltj, List.all_append]; simpa using hb
                      rw [hall] at hstep
                      have hrow : (l.map Fact.row)[j]? = some (l[j].row) := by simp [hltj]
                      obtain ⟨ad, rfl, hab, _, hc⟩ := hL.at_ hrow
                      have hq : ∀ i, ad.add (j * 4 + (i + 1)) = (ad.add (j * 4)).add (i + 1) := fun i => by
                        unfold Addr.add; by_cases h0 : j * 4 = 0 <;> simp [h0, Nat.add_assoc]
                      have hab2 : (ad.add (j * 4)).block < wr.heap.size := by rw [block_of_add]; exact hab
                      have hd0 : wr.cell? (ad.add (j * 4)) = some (.int .i64 l[j].k) := hc 0 _ rfl
                      have hd1 : wr.cell? ⟨(ad.add (j * 4)).block, (ad.add (j * 4)).off + 1, none⟩ = some (.int .i64 l[j].m) := (congrArg wr.cell? (hq 0)).symm.trans (hc 1 _ rfl)
                      have hd2 : wr.cell? ⟨(ad.add (j * 4)).block, (ad.add (j * 4)).off + 2, none⟩ = some (.int .i64 l[j].d) := (congrArg wr.cell? (hq 1)).symm.trans (hc 2 _ rfl)
                      have hd3 : wr.cell? ⟨(ad.add (j * 4)).block, (ad.add (j * 4)).off + 3, none⟩ = some (.int .i64 l[j].v) := (congrArg wr.cell? (hq 2)).symm.trans (hc 3 _ rfl)
                      have hkk : kindB l[j] (val_areFacts l[j]) = true := fact_kind hf (List.getElem_mem hltj)
                      have HST := Lib.hid hstep
                      clear hc hrow hq hstep hall
                      generalize l[j] = fj at *
                      obtain ⟨fk, fm, fd, fv⟩ := fj
                      simp only at hd0 hd1 hd2 hd3
                      have HK := Lib.hid hkk
                      clear hkk
                      have hj0 : (0 : Int) ≤ (j : Int) := Int.natCast_nonneg j
                      have hji : (j : Int) < (l.length : Int) := by omega
                      cases b
                      · go_wp2_with fail
                        refine wp_region_noPanic ?_
                        refine wp_region_held_drew (S := fun W => (∀ p : Addr, p.block < (wr).heap.size → W.cell? p = (wr).cell? p) ∧ Below (wr).heap.size (wr) W) (by kernel_rfl) ⟨fun _ _ => rfl, fr_drew (fr_refl _)⟩ (fun hHeld => ?_)
                        -- the region, step by step
                        refine wpAnyH_take (i := 0) (oi := ⟨some 89, .move (.tmp 17), 4, "law.go:456", #[], none⟩) (v := ?_) rfl (by kernel_rfl) (by kernel_rfl) (by kernel_rfl) (fun _ _ _ h => h) (Or.inl ⟨by rfl, fun W hSw => ?_⟩) hHeld ?_
                        rotate_left
                        · (try dsimp only at hSw); go_simp; (try with_reducible rfl)
                        (try simp only [Act.put, List.setIfInBounds_toArray, List.set_cons_zero, List.set_cons_succ])
                        refine wpAnyH_take (i := 1) (oi := ⟨some 90, .move (.tmp 89), 4, "law.go:456", #[⟨0, .data⟩], none⟩) (v := ?_) rfl (by kernel_rfl) (by kernel_rfl) (by kernel_rfl) (fun _ _ _ h => h) (Or.inl ⟨by rfl, fun W hSw => ?_⟩) hHeld ?_
                        rotate_left
                        · (try dsimp only at hSw); go_simp; (try with_reducible rfl)
                        (try simp only [Act.put, List.setIfInBounds_toArray, List.set_cons_zero, List.set_cons_succ])
                        refine wpAnyH_take (i := 2) (oi := ⟨some 91, .load 24 (.tmp 7), 24, "law.go:456", #[⟨1, .guard⟩], some (1, true)⟩) (v := undef) rfl (by kernel_rfl) (by kernel_rfl) (by kernel_rfl) (fun _ _ _ h => h) (Or.inr ⟨by rfl, rfl⟩) hHeld ?_
                        (try simp only [Act.put, List.setIfInBounds_toArray, List.set_cons_zero, List.set_cons_succ])
                        refine wpAnyH_take (i := 3) (oi := ⟨some 92, .load 65 (.tmp 8), 65, "law.go:456", #[⟨1, .guard⟩], some (1, true)⟩) (v := undef) rfl (by kernel_rfl) (by kernel_rfl) (by kernel_rfl) (fun _ _ _ h => h) (Or.inr ⟨by rfl, rfl⟩) hHeld ?_
                        (try simp only [Act.put, List.setIfInBounds_toArray, List.set_cons_zero, List.set_cons_succ])
                        refine wpAnyH_take (i := 4) (oi := ⟨some 93, .move (.tmp 2), 66, "law.go:456", #[⟨1, .guard⟩], some (1, true)⟩) (v := undef) rfl (by kernel_rfl) (by kernel_rfl) (by kernel_rfl) (fun _ _ _ h => h) (Or.inr ⟨by rfl, rfl⟩) hHeld ?_
                        (try simp only [Act.put, List.setIfInBounds_toArray, List.set_cons_zero, List.set_cons_succ])
                        refine wpAnyH_take (i := 5) (oi := ⟨some 94, .move (.tmp 18), 3, "law.go:456", #[⟨1, .guard⟩], some (1, true)⟩) (v := undef) rfl (by kernel_rfl) (by kernel_rfl) (by kernel_rfl) (fun _ _ _ h => h) (Or.inr ⟨by rfl, rfl⟩) hHeld ?_
                        (try simp only [Act.put, List.setIfInBounds_toArray, List.set_cons_zero, List.set_cons_succ])
                        refine wpAnyH_take (i := 6) (oi := ⟨some 95, .indexAddr 66 (.tmp 93) (.tmp 94), 0, "law.go:456", #[⟨4, .data⟩, ⟨5, .data⟩, ⟨1, .guard⟩], some (1, true)⟩) (v := undef) rfl (by kernel_rfl) (by kernel_rfl) (by kernel_rfl) (fun _ _ _ h => h) (Or.inr ⟨by rfl, rfl⟩) hHeld ?_
                        (try simp only [Act.put, List.setIfInBounds_toArray, List.set_cons_zero, List.set_cons_succ])
                        refine wpAnyH_take (i := 7) (oi := ⟨some 96, .load 77 (.tmp 95), 77, "law.go:456", #[⟨6, .data⟩, ⟨1, .guard⟩], some (1, true)⟩) (v := undef) rfl (by kernel_rfl) (by kernel_rfl) (by kernel_rfl) (fun _ _ _ h => h) (Or.inr ⟨by rfl, rfl⟩) hHeld ?_
                        (try simp only [Act.put, List.setIfInBounds_toArray, List.set_cons_zero, List.set_cons_succ])
                        refine wpAnyH_take (i := 8) (oi := ⟨some 97, .move (.tmp 5), 3, "law.go:456", #[⟨1, .guard⟩], some (1, true)⟩) (v := undef) rfl (by kernel_rfl) (by kernel_rfl) (by kernel_rfl) (fun _ _ _ h => h) (Or.inr ⟨by rfl, rfl⟩) hHeld ?_
                        (try simp only [Act.put, List.setIfInBounds_toArray, List.set_cons_zero, List.set_cons_succ])
                        refine wpAnyH_take (i := 9) (oi := ⟨some 98, .call { callee := .value (.func 55), args := #[.tmp 91, .tmp 92, .tmp 96, .tmp 97], argTypes := #[24, 65, 77, 3] }, 4, "law.go:456", #[⟨2, .data⟩, ⟨3, .data⟩, ⟨7, .data⟩, ⟨8, .data⟩, ⟨1, .chain⟩, ⟨1, .guard⟩], some (1, true)⟩) (v := undef) rfl (by kernel_rfl) (by kernel_rfl) (by kernel_rfl) (fun _ _ _ h => h) (Or.inr ⟨by rfl, rfl⟩) hHeld ?_
                        (try simp only [Act.put, List.setIfInBounds_toArray, List.set_cons_zero, List.set_cons_succ])
                        refine wpAnyH_take (i := 10) (oi := ⟨some 99, .pick (.tmp 90) (.tmp 98) (.const (.bool false)), 4, "law.go:456", #[⟨1, .data⟩, ⟨9, .data⟩], none⟩) (v := ?_) rfl (by kernel_rfl) (by kernel_rfl) (by kernel_rfl) (fun _ _ _ h => h) (Or.inl ⟨by rfl, fun W hSw => ?_⟩) hHeld ?_
                        rotate_left
                        · (try dsimp only at hSw); go_simp; (try with_reducible rfl)
                        (try simp only [Act.put, List.setIfInBounds_toArray, List.set_cons_zero, List.set_cons_succ])
                        refine wpAnyH_take (i := 11) (oi := ⟨some 17, .assign (.tmp 99), 4, "law.go:456", #[⟨10, .data⟩, ⟨9, .chain⟩, ⟨0, .phase⟩, ⟨1, .phase⟩, ⟨2, .phase⟩, ⟨3, .phase⟩, ⟨4, .phase⟩, ⟨5, .phase⟩, ⟨6, .phase⟩, ⟨7, .phase⟩, ⟨8, .phase⟩, ⟨9, .phase⟩, ⟨10, .phase⟩], none⟩) (v := ?_) rfl (by kernel_rfl) (by kernel_rfl) (by kernel_rfl) (fun _ _ _ h => h) (Or.inl ⟨by rfl, fun W hSw => ?_⟩) hHeld ?_
                        rotate_left
                        · (try dsimp only at hSw); go_simp; (try with_reducible rfl)
                        (try simp only [Act.put, List.setIfInBounds_toArray, List.set_cons_zero, List.set_cons_succ])
                        refine wpAnyH_done (by kernel_rfl) ?_ _
                        refine NoPanic.normal ?_
                        go_wp2_with fail
                        refine ⟨⟨j + 1, _, hltj, by go_num, rfl, HST.out _ rfl, fr_call hbel hHeld.2⟩, ?_⟩
                        simp [intOf]; omega
                      · go_wp2_with fail
                        refine wp_region_noPanic ?_
                        refine wp_region_held_drew (S := fun W => (∀ p : Addr, p.block < (wr).heap.size → W.cell? p = (wr).cell? p) ∧ Below (wr).heap.size (wr) W) (by kernel_rfl) ⟨fun _ _ => rfl, fr_drew (fr_refl _)⟩ (fun hHeld => ?_)
                        -- the region, step by step
                        refine wpAnyH_take (i := 0) (oi := ⟨some 89, .move (.tmp 17), 4, "law.go:456", #[], none⟩) (v := ?_) rfl (by kernel_rfl) (by kernel_rfl) (by kernel_rfl) (fun _ _ _ h => h) (Or.inl ⟨by rfl, fun W hSw => ?_⟩) hHeld ?_
                        rotate_left
                        · (try dsimp only at hSw); go_simp; (try with_reducible rfl)
                        (try simp only [Act.put, List.setIfInBounds_toArray, List.set_cons_zero, List.set_cons_succ])
                        refine wpAnyH_take (i := 1) (oi := ⟨some 90, .move (.tmp 89), 4, "law.go:456", #[⟨0, .data⟩], none⟩) (v := ?_) rfl (by kernel_rfl) (by kernel_rfl) (by kernel_rfl) (fun _ _ _ h => h) (Or.inl ⟨by rfl, fun W hSw => ?_⟩) hHeld ?_
                        rotate_left
                        · (try dsimp only at hSw); go_simp; (try with_reducible rfl)
                        (try simp only [Act.put, List.setIfInBounds_toArray, List.set_cons_zero, List.set_cons_succ])
                        refine wpAnyH_take (i := 2) (oi := ⟨some 91, .load 24 (.tmp 7), 24, "law.go:456", #[⟨1, .guard⟩], some (1, true)⟩) (v := ?_) rfl (by kernel_rfl) (by kernel_rfl) (by kernel_rfl) (fun _ _ _ h => h) (Or.inl ⟨by rfl, fun W hSw => ?_⟩) hHeld ?_
                        rotate_left
                        · (try dsimp only at hSw); go_simp; (try with_reducible rfl)
                        (try simp only [Act.put, List.setIfInBounds_toArray, List.set_cons_zero, List.set_cons_succ])
                        refine wpAnyH_take (i := 3) (oi := ⟨some 92, .load 65 (.tmp 8), 65, "law.go:456", #[⟨1, .guard⟩], some (1, true)⟩) (v := ?_) rfl (by kernel_rfl) (by kernel_rfl) (by kernel_rfl) (fun _ _ _ h => h) (Or.inl ⟨by rfl, fun W hSw => ?_⟩) hHeld ?_
                        rotate_left
                        · (try dsimp only at hSw); go_simp; (try with_reducible rfl)
                        (try simp only [Act.put, List.setIfInBounds_toArray, List.set_cons_zero, List.set_cons_succ])
                        refine wpAnyH_take (i := 4) (oi := ⟨some 93, .move (.tmp 2), 66, "law.go:456", #[⟨1, .guard⟩], some (1, true)⟩) (v := ?_) rfl (by kernel_rfl) (by kernel_rfl) (by kernel_rfl) (fun _ _ _ h => h) (Or.inl ⟨by rfl, fun W hSw => ?_⟩) hHeld ?_
                        rotate_left
                        · (try dsimp only at hSw); go_simp; (try with_reducible rfl)
                        (try simp only [Act.put, List.setIfInBounds_toArray, List.set_cons_zero, List.set_cons_succ])
                        refine wpAnyH_take (i := 5) (oi := ⟨some 94, .move (.tmp 18), 3, "law.go:456", #[⟨1, .guard⟩], some (1, true)⟩) (v := ?_) rfl (by kernel_rfl) (by kernel_rfl) (by kernel_rfl) (fun _ _ _ h => h) (Or.inl ⟨by rfl, fun W hSw => ?_⟩) hHeld ?_
                        rotate_left
                        · (try dsimp only at hSw); go_simp; (try with_reducible rfl)
                        (try simp only [Act.put, List.setIfInBounds_toArray, List.set_cons_zero, List.set_cons_succ])
                        refine wpAnyH_take (i := 6) (oi := ⟨some 95, .indexAddr 66 (.tmp 93) (.tmp 94), 0, "law.go:456", #[⟨4, .data⟩, ⟨5, .data⟩, ⟨1, .guard⟩], some (1, true)⟩) (v := ?_) rfl (by kernel_rfl) (by kernel_rfl) (by kernel_rfl) (fun _ _ _ h => h) (Or.inl ⟨by rfl, fun W hSw => ?_⟩) hHeld ?_
                        rotate_left
                        · (try dsimp only at hSw); go_simp; (try with_reducible rfl)
                        (try simp only [Act.put, List.setIfInBounds_toArray, List.set_cons_zero, List.set_cons_succ])
                        refine wpAnyH_take (i := 7) (oi := ⟨some 96, .load 77 (.tmp 95), 77, "law.go:456", #[⟨6, .data⟩, ⟨1, .guard⟩], some (1, true)⟩) (v := ?_) rfl (by kernel_rfl) (by kernel_rfl) (by kernel_rfl) (fun _ _ _ h => h) (Or.inl ⟨by rfl, fun W hSw => ?_⟩) hHeld ?_
                        rotate_left
                        · (try dsimp only at hSw); go_simp; (try with_reducible rfl)
                        (try simp only [Act.put, List.setIfInBounds_toArray, List.set_cons_zero, List.set_cons_succ])
                        refine wpAnyH_take (i := 8) (oi := ⟨some 97, .move (.tmp 5), 3, "law.go:456", #[⟨1, .guard⟩], some (1, true)⟩) (v := ?_) rfl (by kernel_rfl) (by kernel_rfl) (by kernel_rfl) (fun _ _ _ h => h) (Or.inl ⟨by rfl, fun W hSw => ?_⟩) hHeld ?_
                        rotate_left
                        · (try dsimp only at hSw); go_simp; (try with_reducible rfl)
                        (try simp only [Act.put, List.setIfInBounds_toArray, List.set_cons_zero, List.set_cons_succ])
                        refine wpAnyH_ready (rs := [9]) (by kernel_rfl) (by simp) ?_
                        refine AllReadyH.cons (o := ⟨some 98, .call { callee := .value (.func 55), args := #[.tmp 91, .tmp 92, .tmp 96, .tmp 97], argTypes := #[24, 65, 77, 3] }, 4, "law.go:456", #[⟨2, .data⟩, ⟨3, .data⟩, ⟨7, .data⟩, ⟨8, .data⟩, ⟨1, .chain⟩, ⟨1, .guard⟩], some (1, true)⟩) rfl (fun K hK => ?_) AllReadyH.nil
                        go_simp
                        refine (lso_is A n c cs e num den add u fk fm fd fv _ (hr.keep hHeld.2) hn hok hm (inB_yes (by omega)) HK.out).mono ?_
                        rintro e' wA ⟨rfl, hb⟩
                        refine hK.out _ _ (kp_step hb hHeld) (fun hHeld => ?_)
                        clear hK K
                        (try simp only [Act.put, List.setIfInBounds_toArray, List.set_cons_zero, List.set_cons_succ])
                        refine wpAnyH_take (i := 10) (oi := ⟨some 99, .pick (.tmp 90) (.tmp 98) (.const (.bool false)), 4, "law.go:456", #[⟨1, .data⟩, ⟨9, .data⟩], none⟩) (v := ?_) rfl (by kernel_rfl) (by kernel_rfl) (by kernel_rfl) (fun _ _ _ h => h) (Or.inl ⟨by rfl, fun W hSw => ?_⟩) hHeld ?_
                        rotate_left
                        · (try dsimp only at hSw); go_simp; (try with_reducible rfl)
                        (try simp only [Act.put, List.setIfInBounds_toArray, List.set_cons_zero, List.set_cons_succ])
                        refine wpAnyH_take (i := 11) (oi := ⟨some 17, .assign (.tmp 99), 4, "law.go:456", #[⟨10, .data⟩, ⟨9, .chain⟩, ⟨0, .phase⟩, ⟨1, .phase⟩, ⟨2, .phase⟩, ⟨3, .phase⟩, ⟨4, .phase⟩, ⟨5, .phase⟩, ⟨6, .phase⟩, ⟨7, .phase⟩, ⟨8, .phase⟩, ⟨9, .phase⟩, ⟨10, .phase⟩], none⟩) (v := ?_) rfl (by kernel_rfl) (by kernel_rfl) (by kernel_rfl) (fun _ _ _ h => h) (Or.inl ⟨by rfl, fun W hSw => ?_⟩) hHeld ?_
                        rotate_left
                        · (try dsimp only at hSw); go_simp; (try with_reducible rfl)
                        (try simp only [Act.put, List.setIfInBounds_toArray, List.set_cons_zero, List.set_cons_succ])
                        refine wpAnyH_done (by kernel_rfl) ?_ _
                        refine NoPanic.normal ?_
                        go_wp2_with fail
                        refine ⟨⟨j + 1, _, hltj, by go_num, rfl, HST.out _ rfl, fr_call hbel hHeld.2⟩, ?_⟩
                        simp [intOf]; omega
                    · have hb1 : ys.contains u = b := by rw [HCON.out, ← hall, List.take_of_length_le (by omega)]
                      clear hall
                      go_wp2_with fail
                      refine (llisted_is AY ys.length cY ys u _ hrY hyl5 b hb1).mono ?_
                      rintro e' w8 ⟨rfl, rfl⟩
                      go_upto_region 13 with (fail)
                      have hlq : l.length ≤ 1000000 := by have := facts_len hf; omega
                      go_cut [19] from 105 (fun s19 wc => ∃ B b, s19 = .slice B l2.length b ∧ RdS wc B 4 (l2.map Fact.row) ∧ Below wr.heap.size wr wc)
                      case first =>
                        refine wp_region_noPanic ?_
                        refine wp_region_held_drew (S := fun W => (∀ p : Addr, p.block < (wr).heap.size → W.cell? p = (wr).cell? p) ∧ Below (wr).heap.size (wr) W) (by kernel_rfl) ⟨fun _ _ => rfl, fr_drew (fr_refl _)⟩ (fun hHeld => ?_)
                        -- the region, step by step, in whatever order
                        refine wpAnyH_take (i := 0) (oi := ⟨some 105, .move (.tmp 2), 66, "law.go:461", #[], none⟩) (v := ?_) rfl (by kernel_rfl) (by kernel_rfl) (by kernel_rfl) (fun _ _ _ h => h) (Or.inl ⟨by rfl, fun W hSw => ?_⟩) hHeld ?_
                        rotate_left
                        · (try dsimp only at hSw); go_simp; (try with_reducible rfl)
                        (try simp only [Act.put, List.setIfInBounds_toArray, List.set_cons_zero, List.set_cons_succ])
                        refine wpAnyH_take (i := 2) (oi := ⟨some 107, .load 77 (.tmp 13), 77, "law.go:461", #[], none⟩) (v := ?_) rfl (by kernel_rfl) (by kernel_rfl) (by kernel_rfl) (fun _ _ _ h => h) (Or.inl ⟨by rfl, fun W hSw => ?_⟩) hHeld ?_
                        rotate_left
                        · (try dsimp only at hSw); go_simp; (try with_reducible rfl)
                        (try simp only [Act.put, List.setIfInBounds_toArray, List.set_cons_zero, List.set_cons_succ])
                        refine wpAnyH_ready (rs := [1, 3]) (by kernel_rfl) (by simp) ?_
                        refine (AllReadyH.cons (o := ⟨some 106, .call { callee := .builtin .append, args := #[.const (.slice none 0 0), .tmp 105], argTypes := #[66, 66] }, 66, "law.go:461", #[⟨0, .data⟩], none⟩) rfl (fun K hK => ?_) (AllReadyH.cons (o := ⟨some 108, .buildSlice 66 1 #[(0, .tmp 107)], 66, "law.go:461", #[⟨2, .data⟩], none⟩) rfl (fun K hK => ?_) AllReadyH.nil))
                        · rw [if_pos (by rfl)]
                          refine wp_app_facts _ _ rfl wr.heap.size _ [] rfl (OwnS.nil _ _ _ _) L l.length lc l rfl rfl (hL.keep hHeld.2) (by simp) hlq hHeld.2.size ?_
                          intro A1 c1 W1 hO1 hg1
                          rw [show ([] : List Fact).length + l.length = l.length by simp] at hO1 ⊢
                          rw [List.nil_append] at hO1
                          have hb1 : Below _ _ W1 := (fr_refl _).grown hg1 (Nat.le_refl _) (fun i hi => by cases hi)
                          (try replace hRF := hRF.keep hb1)
                          refine hK.out _ _ (kp_step hb1 hHeld) (fun hHeld => ?_)
                          clear hK K
                          (try simp only [Act.put, List.setIfInBounds_toArray, List.set_cons_zero, List.set_cons_succ])
                          refine wpAnyH_ready (rs := [3]) (by kernel_rfl) (by simp) ?_
                          refine (AllReadyH.cons (o := ⟨some 108, .buildSlice 66 1 #[(0, .tmp 107)], 66, "law.go:461", #[⟨2, .data⟩], none⟩) rfl (fun K hK => ?_) AllReadyH.nil)
                          rw [if_pos (by rfl)]
                          refine wp_build1f (f := ⟨k, m, d, v⟩) rfl rfl ?_
                          intro gF WF hRF hbF hgF
                          (try replace hO1 := hO1.keep hbF)
                          refine hK.out _ _ (kp_step hbF hHeld) (fun hHeld => ?_)
                          clear hK K
                          (try simp only [Act.put, List.setIfInBounds_toArray, List.set_cons_zero, List.set_cons_succ])
                          refine wpAnyH_ready (rs := [4]) (by kernel_rfl) (by simp) ?_
                          refine (AllReadyH.cons (o := ⟨some 109, .call { callee := .builtin .append, args := #[.tmp 106, .tmp 108], argTypes := #[66, 66] }, 66, "law.go:461", #[⟨1, .data⟩, ⟨3, .data⟩, ⟨1, .chain⟩], none⟩) rfl (fun K hK => ?_) AllReadyH.nil)
                          rw [if_pos (by rfl)]
                          refine wp_app_facts _ _ rfl wr.heap.size _ l rfl hO1 (some ⟨gF, 0, none⟩) 1 1 [⟨k, m, d, v⟩] rfl rfl hRF hlq (by simp) hHeld.2.size ?_
                          intro A2 c2 W2 hO2 hg2
                          rw [HL2.out] at hO2
                          refine hK.out _ _ (kp_of (hHeld.2.grown hg2 hHeld.2.size hO1.ge)) (fun hHeld => ?_)
                          clear hK K
                          (try simp only [Act.put, List.setIfInBounds_toArray, List.set_cons_zero, List.set_cons_succ])
                          refine wpAnyH_take (i := 5) (oi := ⟨some 19, .assign (.tmp 109), 66, "law.go:461", #[⟨4, .data⟩, ⟨4, .chain⟩, ⟨0, .phase⟩, ⟨1, .phase⟩, ⟨2, .phase⟩, ⟨3, .phase⟩, ⟨4, .phase⟩], none⟩) (v := ?_) rfl (by kernel_rfl) (by kernel_rfl) (by kernel_rfl) (fun _ _ _ h => h) (Or.inl ⟨by rfl, fun W hSw => ?_⟩) hHeld ?_
                          rotate_left
                          · (try dsimp only at hSw); go_simp; (try with_reducible rfl)
                          (try simp only [Act.put, List.setIfInBounds_toArray, List.set_cons_zero, List.set_cons_succ])
                          refine wpAnyH_done (by kernel_rfl) ?_ _
                          refine NoPanic.normal ?_
                          go_wp2_with fail
                          go_meet
                          case rel => exact ⟨A2, c2, by rw [← HL2.out]; simp, hO2.rd, hHeld.2⟩
                        · rw [if_pos (by rfl)]
                          refine wp_build1f (f := ⟨k, m, d, v⟩) rfl rfl ?_
                          intro gF WF hRF hbF hgF
                          (try replace hO1 := hO1.keep hbF)
                          refine hK.out _ _ (kp_step hbF hHeld) (fun hHeld => ?_)
                          clear hK K
                          (try simp only [Act.put, List.setIfInBounds_toArray, List.set_cons_zero, List.set_cons_succ])
                          refine wpAnyH_ready (rs := [1]) (by kernel_rfl) (by simp) ?_
                          refine (AllReadyH.cons (o := ⟨some 106, .call { callee := .builtin .append, args := #[.const (.slice none 0 0), .tmp 105], argTypes := #[66, 66] }, 66, "law.go:461", #[⟨0, .data⟩], none⟩) rfl (fun K hK => ?_) AllReadyH.nil)
                          rw [if_pos (by rfl)]
                          refine wp_app_facts _ _ rfl wr.heap.size _ [] rfl (OwnS.nil _ _ _ _) L l.length lc l rfl rfl (hL.keep hHeld.2) (by simp) hlq hHeld.2.size ?_
                          intro A1 c1 W1 hO1 hg1
                          rw [show ([] : List Fact).length + l.length = l.length by simp] at hO1 ⊢
                          rw [List.nil_append] at hO1
                          have hb1 : Below _ _ W1 := (fr_refl _).grown hg1 (Nat.le_refl _) (fun i hi => by cases hi)
                          (try replace hRF := hRF.keep hb1)
                          refine hK.out _ _ (kp_step hb1 hHeld) (fun hHeld => ?_)
                          clear hK K
                          (try simp only [Act.put, List.setIfInBounds_toArray, List.set_cons_zero, List.set_cons_succ])
                          refine wpAnyH_ready (rs := [4]) (by kernel_rfl) (by simp) ?_
                          refine (AllReadyH.cons (o := ⟨some 109, .call { callee := .builtin .append, args := #[.tmp 106, .tmp 108], argTypes := #[66, 66] }, 66, "law.go:461", #[⟨1, .data⟩, ⟨3, .data⟩, ⟨1, .chain⟩], none⟩) rfl (fun K hK => ?_) AllReadyH.nil)
                          rw [if_pos (by rfl)]
                          refine wp_app_facts _ _ rfl wr.heap.size _ l rfl hO1 (some ⟨gF, 0, none⟩) 1 1 [⟨k, m, d, v⟩] rfl rfl hRF hlq (by simp) hHeld.2.size ?_
                          intro A2 c2 W2 hO2 hg2
                          rw [HL2.out] at hO2
                          refine hK.out _ _ (kp_of (hHeld.2.grown hg2 hHeld.2.size hO1.ge)) (fun hHeld => ?_)
                          clear hK K
                          (try simp only [Act.put, List.setIfInBounds_toArray, List.set_cons_zero, List.set_cons_succ])
                          refine wpAnyH_take (i := 5) (oi := ⟨some 19, .assign (.tmp 109), 66, "law.go:461", #[⟨4, .data⟩, ⟨4, .chain⟩, ⟨0, .phase⟩, ⟨1, .phase⟩, ⟨2, .phase⟩, ⟨3, .phase⟩, ⟨4, .phase⟩], none⟩) (v := ?_) rfl (by kernel_rfl) (by kernel_rfl) (by kernel_rfl) (fun _ _ _ h => h) (Or.inl ⟨by rfl, fun W hSw => ?_⟩) hHeld ?_
                          rotate_left
                          · (try dsimp only at hSw); go_simp; (try with_reducible rfl)
                          (try simp only [Act.put, List.setIfInBounds_toArray, List.set_cons_zero, List.set_cons_succ])
                          refine wpAnyH_done (by kernel_rfl) ?_ _
                          refine NoPanic.normal ?_
                          go_wp2_with fail
                          go_meet
                          case rel => exact ⟨A2, c2, by rw [← HL2.out]; simp, hO2.rd, hHeld.2⟩
                      case rest =>
                        obtain ⟨B, b2, rfl, hB, hbel2⟩ := hcut
                        replace hr := hr.keep hbel2
                        replace hL := hL.keep hbel2
                        replace hT := hT.keep hbel2
                        replace hrY := hrY.keep hbel2
                        replace hfr := fr_call hfr hbel2
                        replace hX0 := hX0.keep hbel2
                        replace hc0 := fun j => hX0.cell j
                        replace hl0 := hX0.lt
                        replace hX1 := hX1.keep hbel2
                        replace hc1 := fun j => hX1.cell j
                        replace hl1 := hX1.lt
                        replace hX2 := hX2.keep hbel2
                        replace hc2 := fun j => hX2.cell j
                        replace hl2 := hX2.lt
                        have hl2n : l2.length ≤ 9223372036854775807 := by rw [← HL2.out, List.length_append]; simp; omega
                        cases hf2 : factsB l2
                        · go_wp2_with fail
                          refine (rFacts_is B b2 l2 _ hB hl2n _ hf2).mono ?_
                          rintro e' w9 ⟨rfl, hb⟩
                          replace hr := hr.keep hb
                          replace hL := hL.keep hb
                          replace hT := hT.keep hb
                          replace hrY := hrY.keep hb
                          replace hB := hB.keep hb
                          replace hfr := fr_call hfr hb
                          replace hX0 := hX0.keep hb
                          replace hc0 := fun j => hX0.cell j
                          replace hl0 := hX0.lt
                          replace hX1 := hX1.keep hb
                          replace hc1 := fun j => hX1.cell j
                          replace hl1 := hX1.lt
                          replace hX2 := hX2.keep hb
                          replace hc2 := fun j => hX2.cell j
                          replace hl2 := hX2.lt
                          clear hb
                          go_wp2_with fail
                          refine (known_is _ hT).mono ?_
                          rintro e' w10 ⟨rfl, hb⟩
                          replace hr := hr.keep hb
                          replace hL := hL.keep hb
                          replace hT := hT.keep hb
                          replace hrY := hrY.keep hb
                          replace hB := hB.keep hb
                          replace hfr := fr_call hfr hb
                          replace hX0 := hX0.keep hb
                          replace hc0 := fun j => hX0.cell j
                          replace hl0 := hX0.lt
                          replace hX1 := hX1.keep hb
                          replace hc1 := fun j => hX1.cell j
                          replace hl1 := hX1.lt
                          replace hX2 := hX2.keep hb
                          replace hc2 := fun j => hX2.cell j
                          replace hl2 := hX2.lt
                          clear hb
                          go_wp2_with fail
                          go_ret
                          exact ⟨rfl, hfr⟩
                        · go_wp2_with fail
                          refine (rFacts_is B b2 l2 _ hB hl2n _ hf2).mono ?_
                          rintro e' w9 ⟨rfl, hb⟩
                          replace hr := hr.keep hb
                          replace hL := hL.keep hb
                          replace hT := hT.keep hb
                          replace hrY := hrY.keep hb
                          replace hB := hB.keep hb
                          replace hfr := fr_call hfr hb
                          replace hX0 := hX0.keep hb
                          replace hc0 := fun j => hX0.cell j
                          replace hl0 := hX0.lt
                          replace hX1 := hX1.keep hb
                          replace hc1 := fun j => hX1.cell j
                          replace hl1 := hX1.lt
                          replace hX2 := hX2.keep hb
                          replace hc2 := fun j => hX2.cell j
                          replace hl2 := hX2.lt
                          clear hb
                          go_wp2_with fail
                          refine (Years_ok A B n c b2 cs e num den add y z l2 _ hr hn hB hl2n hok hm hf2 hg).mono ?_
                          rw [HXS.out]
                          rintro e' w10 ⟨AX, cX, rfl, hrX, hb⟩
                          replace hr := hr.keep hb
                          replace hL := hL.keep hb
                          replace hT := hT.keep hb
                          replace hrY := hrY.keep hb
                          replace hB := hB.keep hb
                          replace hfr := fr_call hfr hb
                          replace hX0 := hX0.keep hb
                          replace hc0 := fun j => hX0.cell j
                          replace hl0 := hX0.lt
                          replace hX1 := hX1.keep hb
                          replace hc1 := fun j => hX1.cell j
                          replace hl1 := hX1.lt
                          replace hX2 := hX2.keep hb
                          replace hc2 := fun j => hX2.cell j
                          replace hl2 := hX2.lt
                          clear hb
                          go_wp2_with fail
                          have hxl5 : xs.length ≤ 500 := by omega
                          go_loopw [22] (fun i wx => ∃ j : Nat, j ≤ xs.length ∧ i = .int .i64 j ∧ Below w10.heap.size w10 wx) (fun i _ => xs.length - (intOf i).toNat)
                          case atStart => exact ⟨0, Nat.zero_le _, rfl, fr_refl w10⟩
                          case round =>
                            obtain ⟨j, hj, rfl, hbel3⟩ := hrel
                            replace hrX := hrX.keep hbel3
                            replace hrY := hrY.keep hbel3
                            replace hT := hT.keep hbel3
                            replace hfr := fr_call hfr hbel3
                            by_cases hlt : j < xs.length
                            · obtain ⟨ad, rfl, hab, hc⟩ := hrX.at_ hlt
                              have hmem : xs[j]?.getD 0 ∈ xs := by simp [hlt]
                              have hcx : ys.contains (xs[j]?.getD 0) = true := List.contains_iff_mem.2 (HXM.out _ hmem)
                              have hji : (j : Int) < (xs.length : Int) := by omega
                              obtain ⟨x, hx⟩ : ∃ q, xs[j]?.getD 0 = q := ⟨_, rfl⟩
                              rw [hx] at hc hcx
                              clear hx hmem
                              go_wp2_with fail
                              refine (llisted_is AY ys.length cY ys x _ hrY hyl5 true hcx).mono ?_
                              rintro e' w12 ⟨rfl, rfl⟩
                              go_wp2_with fail
                              refine ⟨⟨j + 1, hlt, by go_num, hbel3⟩, ?_⟩
                              simp [intOf]; omega
                            · go_wp2_with fail
                              refine (known_is _ hT).mono ?_
                              rintro e' w12 ⟨rfl, hb⟩
                              go_wp2_with fail
                              go_ret
                              exact ⟨rfl, fr_call hfr hb⟩
end Go.Proofs.YtnpgdifidejohaaGreatDoor
