/- The theorem of feasts that meet: DialMeeting, walked. -/
import Derived.Test.YtnppilaabobgiaaGreatDoorMEC
import Derived.Test.YtnppilaabobgiaaGreatDoorME2
import Derived.Test.YtnppilaabobgiaaGreatDoorMD7
import Derived.Test.YtnppilaabobgiaaGreatDoorMB6
import Derived.Test.YtnppilaabobgiaaGreatDoorMD1
import Derived.Test.YtnppilaabobgiaaGreatDoorMD6
import Derived.Test.YtnppilaabobgiaaGreatDoorMC5
namespace Go.Proofs.YtnppilaabobgiaaGreatDoor
open Go.RowKit Dl

theorem meet_mem {e num den add a u : Int} {cs : List Int} {l : List Feast} {n : Nat} : u ∈ meetOf e cs num den add l a n ↔ (a ≤ u ∧ u < a + n ∧ twiceB (l.map (feastDay e cs num den add u)) = true) := by
  unfold meetOf
  rw [List.mem_filter, List.mem_map]
  constructor
  · rintro ⟨⟨k, hk, rfl⟩, ht⟩
    have := List.mem_range.1 hk
    exact ⟨by omega, by omega, ht⟩
  · rintro ⟨h1, h2, ht⟩
    exact ⟨⟨(u - a).toNat, List.mem_range.2 (by omega), by omega⟩, ht⟩
theorem meet_has {e num den add a u : Int} {cs : List Int} {l : List Feast} {n : Nat} (h1 : a ≤ u) (h2 : u < a + n) : (meetOf e cs num den add l a n).contains u = twiceB (l.map (feastDay e cs num den add u)) := by
  rw [Bool.eq_iff_iff, List.contains_iff_mem, meet_mem]
  exact ⟨fun h => h.2.2, fun h => ⟨h1, h2, h⟩⟩
theorem twice_more {xs : List Int} (ys : List Int) (h : twiceB xs = true) : twiceB (xs ++ ys) = true := by
  unfold twiceB at h ⊢
  rw [List.any_eq_true] at h ⊢
  obtain ⟨i, hi, ht⟩ := h
  have hil := List.mem_range.1 hi
  refine ⟨i, List.mem_range.2 (by rw [List.length_append]; omega), ?_⟩
  unfold twiceAt at ht ⊢
  rw [List.getElem?_append_left hil, List.take_append_of_le_length (by omega)]
  exact ht
theorem Feasts_at (A L : Option Addr) (n c lc : Nat) (cs fs : List Int) (e num den add y : Int) (l : List Feast) (w : World) (hr : Rd w A n cs) (hn : n ≤ 9223372036854775807) (hL : RdS w L 4 (l.map Feast.row)) (hln : l.length ≤ 9223372036854775807) (hok : calOk e cs = true) (hmb : moonB num den add = true) (hl : feastsB l = true) (hyb : inB y 0 4000 = true) (hfs : l.map (feastDay e cs num den add y) = fs) :
    Calls Tryz.prog 41 #[.agg #[.int .i64 e, .slice A n c], .agg #[.int .i64 num, .int .i64 den, .int .i64 add], .slice L l.length lc, .int .i64 y] w fun e' w' =>
      ∃ B b, e' = .returned (.tuple #[.slice B l.length b, .int .i64 0]) ∧ Rd w' B l.length fs ∧ Below w.heap.size w w' := by
  have hl2 : fs.length = l.length := by rw [← hfs, List.length_map]
  have h := Feasts_ok A L n c lc cs e num den add y l w hr hn hL hln hok hmb hl hyb
  rw [hfs, hl2] at h
  exact h
theorem feasts_len {l : List Feast} (h : feastsB l = true) : l.length ≤ 6 := by unfold feastsB at h; simp at h; exact h.1

set_option maxRecDepth 100000 in
set_option maxHeartbeats 8000000 in
theorem meeting_true (A L : Option Addr) (n c lc : Nat) (cs : List Int) (e num den add y z u : Int) (mv : Bool) (fm fd fa : Int) (l : List Feast) (w : World) (hr : Rd w A n cs) (hn : n ≤ 9223372036854775807) (hL : RdS w L 4 (l.map Feast.row)) (hln : l.length ≤ 9223372036854775807) (hT : TabP w) :
    Calls Tryz.prog 9 #[.agg #[.int .i64 e, .slice A n c], .agg #[.int .i64 num, .int .i64 den, .int .i64 add], .slice L l.length lc, .int .i64 y, .int .i64 z, .int .i64 u, .agg #[.bool mv, .int .i64 fm, .int .i64 fd, .int .i64 fa]] w fun e' w' => e' = .returned (.bool true) ∧ Below w.heap.size w w' := by
  have g1 := fr_alloc (fr_alloc (fr_alloc (fr_refl w) (.cells #[.int .i64 e, .slice A n c] 24)) (.cells #[.int .i64 num, .int .i64 den, .int .i64 add] 63)) (.cells #[.bool mv, .int .i64 fm, .int .i64 fd, .int .i64 fa] 76)
  have hX0 : Blk (((w.alloc (.cells #[.int .i64 e, .slice A n c] 24)).alloc (.cells #[.int .i64 num, .int .i64 den, .int .i64 add] 63)).alloc (.cells #[.bool mv, .int .i64 fm, .int .i64 fd, .int .i64 fa] 76)) (w.heap.size) 24 #[.int .i64 e, .slice A n c] := (((Blk.new_at _ _ (by simp)).alloc _).alloc _)
  have hX1 : Blk (((w.alloc (.cells #[.int .i64 e, .slice A n c] 24)).alloc (.cells #[.int .i64 num, .int .i64 den, .int .i64 add] 63)).alloc (.cells #[.bool mv, .int .i64 fm, .int .i64 fd, .int .i64 fa] 76)) (w.heap.size + 1) 63 #[.int .i64 num, .int .i64 den, .int .i64 add] := ((Blk.new_at _ _ (by simp)).alloc _)
  have hX2 : Blk (((w.alloc (.cells #[.int .i64 e, .slice A n c] 24)).alloc (.cells #[.int .i64 num, .int .i64 den, .int .i64 add] 63)).alloc (.cells #[.bool mv, .int .i64 fm, .int .i64 fd, .int .i64 fa] 76)) (w.heap.size + 1 + 1) 76 #[.bool mv, .int .i64 fm, .int .i64 fd, .int .i64 fa] := (Blk.new_at _ _ (by simp))
  cases hs : decide ((n : Int) ≤ 5)
  · go_enter Tryz.func9, Tryz.ntmps9
    go_wp2_with fail
    have hfr := g1
    replace hr := hr.keep g1
    replace hL := hL.keep g1
    replace hT := hT.keep g1
    have hc0 := fun j => hX0.cell j
    have hc1 := fun j => hX1.cell j
    have hc2 := fun j => hX2.cell j
    have hl0 := hX0.lt
    have hl1 := hX1.lt
    have hl2 := hX2.lt
    refine (lshort_is A n c _ _ false hs).mono ?_
    rintro e' w1 ⟨rfl, hb⟩
    replace hr := hr.keep hb
    replace hL := hL.keep hb
    replace hT := hT.keep hb
    replace hfr := fr_call hfr hb
    replace hX0 := hX0.keep hb
    replace hc0 := fun j => hX0.cell j
    replace hl0 := hX0.lt
    replace hX1 := hX1.keep hb
    replace hc1 := fun j => hX1.cell j
    replace hl1 := hX1.lt
    replace hX2 := hX2.keep hb
    replace hc2 := fun j => hX2.cell j
    replace hl2 := hX2.lt
    clear hb
    go_wp2_with fail
    refine (known_is _ hT).mono ?_
    rintro e' w2 ⟨rfl, hb⟩
    replace hr := hr.keep hb
    replace hL := hL.keep hb
    replace hT := hT.keep hb
    replace hfr := fr_call hfr hb
    replace hX0 := hX0.keep hb
    replace hc0 := fun j => hX0.cell j
    replace hl0 := hX0.lt
    replace hX1 := hX1.keep hb
    replace hc1 := fun j => hX1.cell j
    replace hl1 := hX1.lt
    replace hX2 := hX2.keep hb
    replace hc2 := fun j => hX2.cell j
    replace hl2 := hX2.lt
    clear hb
    go_wp2_with fail
    go_ret
    exact ⟨rfl, hfr⟩
  · cases hfw : decide ((l.length : Int) ≤ 8)
    · go_enter Tryz.func9, Tryz.ntmps9
      go_wp2_with fail
      have hfr := g1
      replace hr := hr.keep g1
      replace hL := hL.keep g1
      replace hT := hT.keep g1
      have hc0 := fun j => hX0.cell j
      have hc1 := fun j => hX1.cell j
      have hc2 := fun j => hX2.cell j
      have hl0 := hX0.lt
      have hl1 := hX1.lt
      have hl2 := hX2.lt
      refine (lshort_is A n c _ _ true hs).mono ?_
      rintro e' w1 ⟨rfl, hb⟩
      replace hr := hr.keep hb
      replace hL := hL.keep hb
      replace hT := hT.keep hb
      replace hfr := fr_call hfr hb
      replace hX0 := hX0.keep hb
      replace hc0 := fun j => hX0.cell j
      replace hl0 := hX0.lt
      replace hX1 := hX1.keep hb
      replace hc1 := fun j => hX1.cell j
      replace hl1 := hX1.lt
      replace hX2 := hX2.keep hb
      replace hc2 := fun j => hX2.cell j
      replace hl2 := hX2.lt
      clear hb
      go_wp2_with fail
      refine (lfew_is L l.length lc _ false hfw).mono ?_
      rintro e' w2 ⟨rfl, rfl⟩
      go_wp2_with fail
      refine (known_is _ hT).mono ?_
      rintro e' w3 ⟨rfl, hb⟩
      replace hr := hr.keep hb
      replace hL := hL.keep hb
      replace hT := hT.keep hb
      replace hfr := fr_call hfr hb
      replace hX0 := hX0.keep hb
      replace hc0 := fun j => hX0.cell j
      replace hl0 := hX0.lt
      replace hX1 := hX1.keep hb
      replace hc1 := fun j => hX1.cell j
      replace hl1 := hX1.lt
      replace hX2 := hX2.keep hb
      replace hc2 := fun j => hX2.cell j
      replace hl2 := hX2.lt
      clear hb
      go_wp2_with fail
      go_ret
      exact ⟨rfl, hfr⟩
    · cases hok : calOk e cs
      · go_enter Tryz.func9, Tryz.ntmps9
        go_wp2_with fail
        have hfr := g1
        replace hr := hr.keep g1
        replace hL := hL.keep g1
        replace hT := hT.keep g1
        have hc0 := fun j => hX0.cell j
        have hc1 := fun j => hX1.cell j
        have hc2 := fun j => hX2.cell j
        have hl0 := hX0.lt
        have hl1 := hX1.lt
        have hl2 := hX2.lt
        refine (lshort_is A n c _ _ true hs).mono ?_
        rintro e' w1 ⟨rfl, hb⟩
        replace hr := hr.keep hb
        replace hL := hL.keep hb
        replace hT := hT.keep hb
        replace hfr := fr_call hfr hb
        replace hX0 := hX0.keep hb
        replace hc0 := fun j => hX0.cell j
        replace hl0 := hX0.lt
        replace hX1 := hX1.keep hb
        replace hc1 := fun j => hX1.cell j
        replace hl1 := hX1.lt
        replace hX2 := hX2.keep hb
        replace hc2 := fun j => hX2.cell j
        replace hl2 := hX2.lt
        clear hb
        go_wp2_with fail
        refine (lfew_is L l.length lc _ true hfw).mono ?_
        rintro e' w2 ⟨rfl, rfl⟩
        go_wp2_with fail
        refine (rCalendar_is A n c cs e _ hr hn _ hok).mono ?_
        rintro e' w3 ⟨rfl, hb⟩
        replace hr := hr.keep hb
        replace hL := hL.keep hb
        replace hT := hT.keep hb
        replace hfr := fr_call hfr hb
        replace hX0 := hX0.keep hb
        replace hc0 := fun j => hX0.cell j
        replace hl0 := hX0.lt
        replace hX1 := hX1.keep hb
        replace hc1 := fun j => hX1.cell j
        replace hl1 := hX1.lt
        replace hX2 := hX2.keep hb
        replace hc2 := fun j => hX2.cell j
        replace hl2 := hX2.lt
        clear hb
        go_wp2_with fail
        refine (known_is _ hT).mono ?_
        rintro e' w4 ⟨rfl, hb⟩
        replace hr := hr.keep hb
        replace hL := hL.keep hb
        replace hT := hT.keep hb
        replace hfr := fr_call hfr hb
        replace hX0 := hX0.keep hb
        replace hc0 := fun j => hX0.cell j
        replace hl0 := hX0.lt
        replace hX1 := hX1.keep hb
        replace hc1 := fun j => hX1.cell j
        replace hl1 := hX1.lt
        replace hX2 := hX2.keep hb
        replace hc2 := fun j => hX2.cell j
        replace hl2 := hX2.lt
        clear hb
        go_wp2_with fail
        go_ret
        exact ⟨rfl, hfr⟩
      · cases hm : moonB num den add
        · go_enter Tryz.func9, Tryz.ntmps9
          go_wp2_with fail
          have hfr := g1
          replace hr := hr.keep g1
          replace hL := hL.keep g1
          replace hT := hT.keep g1
          have hc0 := fun j => hX0.cell j
          have hc1 := fun j => hX1.cell j
          have hc2 := fun j => hX2.cell j
          have hl0 := hX0.lt
          have hl1 := hX1.lt
          have hl2 := hX2.lt
          refine (lshort_is A n c _ _ true hs).mono ?_
          rintro e' w1 ⟨rfl, hb⟩
          replace hr := hr.keep hb
          replace hL := hL.keep hb
          replace hT := hT.keep hb
          replace hfr := fr_call hfr hb
          replace hX0 := hX0.keep hb
          replace hc0 := fun j => hX0.cell j
          replace hl0 := hX0.lt
          replace hX1 := hX1.keep hb
          replace hc1 := fun j => hX1.cell j
          replace hl1 := hX1.lt
          replace hX2 := hX2.keep hb
          replace hc2 := fun j => hX2.cell j
          replace hl2 := hX2.lt
          clear hb
          go_wp2_with fail
          refine (lfew_is L l.length lc _ true hfw).mono ?_
          rintro e' w2 ⟨rfl, rfl⟩
          go_wp2_with fail
          refine (rCalendar_is A n c cs e _ hr hn _ hok).mono ?_
          rintro e' w3 ⟨rfl, hb⟩
          replace hr := hr.keep hb
          replace hL := hL.keep hb
          replace hT := hT.keep hb
          replace hfr := fr_call hfr hb
          replace hX0 := hX0.keep hb
          replace hc0 := fun j => hX0.cell j
          replace hl0 := hX0.lt
          replace hX1 := hX1.keep hb
          replace hc1 := fun j => hX1.cell j
          replace hl1 := hX1.lt
          replace hX2 := hX2.keep hb
          replace hc2 := fun j => hX2.cell j
          replace hl2 := hX2.lt
          clear hb
          go_wp2_with fail
          refine (rMoon_is _ _ _ _ _ hm).mono ?_
          rintro e' w4 ⟨rfl, hb⟩
          replace hr := hr.keep hb
          replace hL := hL.keep hb
          replace hT := hT.keep hb
          replace hfr := fr_call hfr hb
          replace hX0 := hX0.keep hb
          replace hc0 := fun j => hX0.cell j
          replace hl0 := hX0.lt
          replace hX1 := hX1.keep hb
          replace hc1 := fun j => hX1.cell j
          replace hl1 := hX1.lt
          replace hX2 := hX2.keep hb
          replace hc2 := fun j => hX2.cell j
          replace hl2 := hX2.lt
          clear hb
          go_wp2_with fail
          refine (known_is _ hT).mono ?_
          rintro e' w5 ⟨rfl, hb⟩
          replace hr := hr.keep hb
          replace hL := hL.keep hb
          replace hT := hT.keep hb
          replace hfr := fr_call hfr hb
          replace hX0 := hX0.keep hb
          replace hc0 := fun j => hX0.cell j
          replace hl0 := hX0.lt
          replace hX1 := hX1.keep hb
          replace hc1 := fun j => hX1.cell j
          replace hl1 := hX1.lt
          replace hX2 := hX2.keep hb
          replace hc2 := fun j => hX2.cell j
          replace hl2 := hX2.lt
          clear hb
          go_wp2_with fail
          go_ret
          exact ⟨rfl, hfr⟩
        · cases hf : feastsB l
          · go_enter Tryz.func9, Tryz.ntmps9
            go_wp2_with fail
            have hfr := g1
            replace hr := hr.keep g1
            replace hL := hL.keep g1
            replace hT := hT.keep g1
            have hc0 := fun j => hX0.cell j
            have hc1 := fun j => hX1.cell j
            have hc2 := fun j => hX2.cell j
            have hl0 := hX0.lt
            have hl1 := hX1.lt
            have hl2 := hX2.lt
            refine (lshort_is A n c _ _ true hs).mono ?_
            rintro e' w1 ⟨rfl, hb⟩
            replace hr := hr.keep hb
            replace hL := hL.keep hb
            replace hT := hT.keep hb
            replace hfr := fr_call hfr hb
            replace hX0 := hX0.keep hb
            replace hc0 := fun j => hX0.cell j
            replace hl0 := hX0.lt
            replace hX1 := hX1.keep hb
            replace hc1 := fun j => hX1.cell j
            replace hl1 := hX1.lt
            replace hX2 := hX2.keep hb
            replace hc2 := fun j => hX2.cell j
            replace hl2 := hX2.lt
            clear hb
            go_wp2_with fail
            refine (lfew_is L l.length lc _ true hfw).mono ?_
            rintro e' w2 ⟨rfl, rfl⟩
            go_wp2_with fail
            refine (rCalendar_is A n c cs e _ hr hn _ hok).mono ?_
            rintro e' w3 ⟨rfl, hb⟩
            replace hr := hr.keep hb
            replace hL := hL.keep hb
            replace hT := hT.keep hb
            replace hfr := fr_call hfr hb
            replace hX0 := hX0.keep hb
            replace hc0 := fun j => hX0.cell j
            replace hl0 := hX0.lt
            replace hX1 := hX1.keep hb
            replace hc1 := fun j => hX1.cell j
            replace hl1 := hX1.lt
            replace hX2 := hX2.keep hb
            replace hc2 := fun j => hX2.cell j
            replace hl2 := hX2.lt
            clear hb
            go_wp2_with fail
            refine (rMoon_is _ _ _ _ _ hm).mono ?_
            rintro e' w4 ⟨rfl, hb⟩
            replace hr := hr.keep hb
            replace hL := hL.keep hb
            replace hT := hT.keep hb
            replace hfr := fr_call hfr hb
            replace hX0 := hX0.keep hb
            replace hc0 := fun j => hX0.cell j
            replace hl0 := hX0.lt
            replace hX1 := hX1.keep hb
            replace hc1 := fun j => hX1.cell j
            replace hl1 := hX1.lt
            replace hX2 := hX2.keep hb
            replace hc2 := fun j => hX2.cell j
            replace hl2 := hX2.lt
            clear hb
            go_wp2_with fail
            refine (rFeasts_is L lc l _ hL hln _ hf).mono ?_
            rintro e' w5 ⟨rfl, hb⟩
            replace hr := hr.keep hb
            replace hL := hL.keep hb
            replace hT := hT.keep hb
            replace hfr := fr_call hfr hb
            replace hX0 := hX0.keep hb
            replace hc0 := fun j => hX0.cell j
            replace hl0 := hX0.lt
            replace hX1 := hX1.keep hb
            replace hc1 := fun j => hX1.cell j
            replace hl1 := hX1.lt
            replace hX2 := hX2.keep hb
            replace hc2 := fun j => hX2.cell j
            replace hl2 := hX2.lt
            clear hb
            go_wp2_with fail
            refine (known_is _ hT).mono ?_
            rintro e' w6 ⟨rfl, hb⟩
            replace hr := hr.keep hb
            replace hL := hL.keep hb
            replace hT := hT.keep hb
            replace hfr := fr_call hfr hb
            replace hX0 := hX0.keep hb
            replace hc0 := fun j => hX0.cell j
            replace hl0 := hX0.lt
            replace hX1 := hX1.keep hb
            replace hc1 := fun j => hX1.cell j
            replace hl1 := hX1.lt
            replace hX2 := hX2.keep hb
            replace hc2 := fun j => hX2.cell j
            replace hl2 := hX2.lt
            clear hb
            go_wp2_with fail
            go_ret
            exact ⟨rfl, hfr⟩
          · cases hg : rangeB y z
            · go_enter Tryz.func9, Tryz.ntmps9
              go_wp2_with fail
              have hfr := g1
              replace hr := hr.keep g1
              replace hL := hL.keep g1
              replace hT := hT.keep g1
              have hc0 := fun j => hX0.cell j
              have hc1 := fun j => hX1.cell j
              have hc2 := fun j => hX2.cell j
              have hl0 := hX0.lt
              have hl1 := hX1.lt
              have hl2 := hX2.lt
              refine (lshort_is A n c _ _ true hs).mono ?_
              rintro e' w1 ⟨rfl, hb⟩
              replace hr := hr.keep hb
              replace hL := hL.keep hb
              replace hT := hT.keep hb
              replace hfr := fr_call hfr hb
              replace hX0 := hX0.keep hb
              replace hc0 := fun j => hX0.cell j
              replace hl0 := hX0.lt
              replace hX1 := hX1.keep hb
              replace hc1 := fun j => hX1.cell j
              replace hl1 := hX1.lt
              replace hX2 := hX2.keep hb
              replace hc2 := fun j => hX2.cell j
              replace hl2 := hX2.lt
              clear hb
              go_wp2_with fail
              refine (lfew_is L l.length lc _ true hfw).mono ?_
              rintro e' w2 ⟨rfl, rfl⟩
              go_wp2_with fail
              refine (rCalendar_is A n c cs e _ hr hn _ hok).mono ?_
              rintro e' w3 ⟨rfl, hb⟩
              replace hr := hr.keep hb
              replace hL := hL.keep hb
              replace hT := hT.keep hb
              replace hfr := fr_call hfr hb
              replace hX0 := hX0.keep hb
              replace hc0 := fun j => hX0.cell j
              replace hl0 := hX0.lt
              replace hX1 := hX1.keep hb
              replace hc1 := fun j => hX1.cell j
              replace hl1 := hX1.lt
              replace hX2 := hX2.keep hb
              replace hc2 := fun j => hX2.cell j
              replace hl2 := hX2.lt
              clear hb
              go_wp2_with fail
              refine (rMoon_is _ _ _ _ _ hm).mono ?_
              rintro e' w4 ⟨rfl, hb⟩
              replace hr := hr.keep hb
              replace hL := hL.keep hb
              replace hT := hT.keep hb
              replace hfr := fr_call hfr hb
              replace hX0 := hX0.keep hb
              replace hc0 := fun j => hX0.cell j
              replace hl0 := hX0.lt
              replace hX1 := hX1.keep hb
              replace hc1 := fun j => hX1.cell j
              replace hl1 := hX1.lt
              replace hX2 := hX2.keep hb
              replace hc2 := fun j => hX2.cell j
              replace hl2 := hX2.lt
              clear hb
              go_wp2_with fail
              refine (rFeasts_is L lc l _ hL hln _ hf).mono ?_
              rintro e' w5 ⟨rfl, hb⟩
              replace hr := hr.keep hb
              replace hL := hL.keep hb
              replace hT := hT.keep hb
              replace hfr := fr_call hfr hb
              replace hX0 := hX0.keep hb
              replace hc0 := fun j => hX0.cell j
              replace hl0 := hX0.lt
              replace hX1 := hX1.keep hb
              replace hc1 := fun j => hX1.cell j
              replace hl1 := hX1.lt
              replace hX2 := hX2.keep hb
              replace hc2 := fun j => hX2.cell j
              replace hl2 := hX2.lt
              clear hb
              go_wp2_with fail
              refine (rRange_is y z _ _ hg).mono ?_
              rintro e' w6 ⟨rfl, rfl⟩
              go_wp2_with fail
              refine (known_is _ hT).mono ?_
              rintro e' w7 ⟨rfl, hb⟩
              replace hr := hr.keep hb
              replace hL := hL.keep hb
              replace hT := hT.keep hb
              replace hfr := fr_call hfr hb
              replace hX0 := hX0.keep hb
              replace hc0 := fun j => hX0.cell j
              replace hl0 := hX0.lt
              replace hX1 := hX1.keep hb
              replace hc1 := fun j => hX1.cell j
              replace hl1 := hX1.lt
              replace hX2 := hX2.keep hb
              replace hc2 := fun j => hX2.cell j
              replace hl2 := hX2.lt
              clear hb
              go_wp2_with fail
              go_ret
              exact ⟨rfl, hfr⟩
            · obtain ⟨⟨hy1, hy2⟩, ⟨hz1, hz2⟩, hyz1, hyz2⟩ := range_parts hg
              by_cases hlo : u < y
              · go_enter Tryz.func9, Tryz.ntmps9
                go_wp2_with fail
                have hfr := g1
                replace hr := hr.keep g1
                replace hL := hL.keep g1
                replace hT := hT.keep g1
                have hc0 := fun j => hX0.cell j
                have hc1 := fun j => hX1.cell j
                have hc2 := fun j => hX2.cell j
                have hl0 := hX0.lt
                have hl1 := hX1.lt
                have hl2 := hX2.lt
                refine (lshort_is A n c _ _ true hs).mono ?_
                rintro e' w1 ⟨rfl, hb⟩
                replace hr := hr.keep hb
                replace hL := hL.keep hb
                replace hT := hT.keep hb
                replace hfr := fr_call hfr hb
                replace hX0 := hX0.keep hb
                replace hc0 := fun j => hX0.cell j
                replace hl0 := hX0.lt
                replace hX1 := hX1.keep hb
                replace hc1 := fun j => hX1.cell j
                replace hl1 := hX1.lt
                replace hX2 := hX2.keep hb
                replace hc2 := fun j => hX2.cell j
                replace hl2 := hX2.lt
                clear hb
                go_wp2_with fail
                refine (lfew_is L l.length lc _ true hfw).mono ?_
                rintro e' w2 ⟨rfl, rfl⟩
                go_wp2_with fail
                refine (rCalendar_is A n c cs e _ hr hn _ hok).mono ?_
                rintro e' w3 ⟨rfl, hb⟩
                replace hr := hr.keep hb
                replace hL := hL.keep hb
                replace hT := hT.keep hb
                replace hfr := fr_call hfr hb
                replace hX0 := hX0.keep hb
                replace hc0 := fun j => hX0.cell j
                replace hl0 := hX0.lt
                replace hX1 := hX1.keep hb
                replace hc1 := fun j => hX1.cell j
                replace hl1 := hX1.lt
                replace hX2 := hX2.keep hb
                replace hc2 := fun j => hX2.cell j
                replace hl2 := hX2.lt
                clear hb
                go_wp2_with fail
                refine (rMoon_is _ _ _ _ _ hm).mono ?_
                rintro e' w4 ⟨rfl, hb⟩
                replace hr := hr.keep hb
                replace hL := hL.keep hb
                replace hT := hT.keep hb
                replace hfr := fr_call hfr hb
                replace hX0 := hX0.keep hb
                replace hc0 := fun j => hX0.cell j
                replace hl0 := hX0.lt
                replace hX1 := hX1.keep hb
                replace hc1 := fun j => hX1.cell j
                replace hl1 := hX1.lt
                replace hX2 := hX2.keep hb
                replace hc2 := fun j => hX2.cell j
                replace hl2 := hX2.lt
                clear hb
                go_wp2_with fail
                refine (rFeasts_is L lc l _ hL hln _ hf).mono ?_
                rintro e' w5 ⟨rfl, hb⟩
                replace hr := hr.keep hb
                replace hL := hL.keep hb
                replace hT := hT.keep hb
                replace hfr := fr_call hfr hb
                replace hX0 := hX0.keep hb
                replace hc0 := fun j => hX0.cell j
                replace hl0 := hX0.lt
                replace hX1 := hX1.keep hb
                replace hc1 := fun j => hX1.cell j
                replace hl1 := hX1.lt
                replace hX2 := hX2.keep hb
                replace hc2 := fun j => hX2.cell j
                replace hl2 := hX2.lt
                clear hb
                go_wp2_with fail
                refine (rRange_is y z _ _ hg).mono ?_
                rintro e' w6 ⟨rfl, rfl⟩
                go_wp2_with fail
                refine (known_is _ hT).mono ?_
                rintro e' w7 ⟨rfl, hb⟩
                replace hr := hr.keep hb
                replace hL := hL.keep hb
                replace hT := hT.keep hb
                replace hfr := fr_call hfr hb
                replace hX0 := hX0.keep hb
                replace hc0 := fun j => hX0.cell j
                replace hl0 := hX0.lt
                replace hX1 := hX1.keep hb
                replace hc1 := fun j => hX1.cell j
                replace hl1 := hX1.lt
                replace hX2 := hX2.keep hb
                replace hc2 := fun j => hX2.cell j
                replace hl2 := hX2.lt
                clear hb
                go_wp2_with fail
                go_ret
                exact ⟨rfl, hfr⟩
              · by_cases hhi : z < u
                · go_enter Tryz.func9, Tryz.ntmps9
                  go_wp2_with fail
                  have hfr := g1
                  replace hr := hr.keep g1
                  replace hL := hL.keep g1
                  replace hT := hT.keep g1
                  have hc0 := fun j => hX0.cell j
                  have hc1 := fun j => hX1.cell j
                  have hc2 := fun j => hX2.cell j
                  have hl0 := hX0.lt
                  have hl1 := hX1.lt
                  have hl2 := hX2.lt
                  refine (lshort_is A n c _ _ true hs).mono ?_
                  rintro e' w1 ⟨rfl, hb⟩
                  replace hr := hr.keep hb
                  replace hL := hL.keep hb
                  replace hT := hT.keep hb
                  replace hfr := fr_call hfr hb
                  replace hX0 := hX0.keep hb
                  replace hc0 := fun j => hX0.cell j
                  replace hl0 := hX0.lt
                  replace hX1 := hX1.keep hb
                  replace hc1 := fun j => hX1.cell j
                  replace hl1 := hX1.lt
                  replace hX2 := hX2.keep hb
                  replace hc2 := fun j => hX2.cell j
                  replace hl2 := hX2.lt
                  clear hb
                  go_wp2_with fail
                  refine (lfew_is L l.length lc _ true hfw).mono ?_
                  rintro e' w2 ⟨rfl, rfl⟩
                  go_wp2_with fail
                  refine (rCalendar_is A n c cs e _ hr hn _ hok).mono ?_
                  rintro e' w3 ⟨rfl, hb⟩
                  replace hr := hr.keep hb
                  replace hL := hL.keep hb
                  replace hT := hT.keep hb
                  replace hfr := fr_call hfr hb
                  replace hX0 := hX0.keep hb
                  replace hc0 := fun j => hX0.cell j
                  replace hl0 := hX0.lt
                  replace hX1 := hX1.keep hb
                  replace hc1 := fun j => hX1.cell j
                  replace hl1 := hX1.lt
                  replace hX2 := hX2.keep hb
                  replace hc2 := fun j => hX2.cell j
                  replace hl2 := hX2.lt
                  clear hb
                  go_wp2_with fail
                  refine (rMoon_is _ _ _ _ _ hm).mono ?_
                  rintro e' w4 ⟨rfl, hb⟩
                  replace hr := hr.keep hb
                  replace hL := hL.keep hb
                  replace hT := hT.keep hb
                  replace hfr := fr_call hfr hb
                  replace hX0 := hX0.keep hb
                  replace hc0 := fun j => hX0.cell j
                  replace hl0 := hX0.lt
                  replace hX1 := hX1.keep hb
                  replace hc1 := fun j => hX1.cell j
                  replace hl1 := hX1.lt
                  replace hX2 := hX2.keep hb
                  replace hc2 := fun j => hX2.cell j
                  replace hl2 := hX2.lt
                  clear hb
                  go_wp2_with fail
                  refine (rFeasts_is L lc l _ hL hln _ hf).mono ?_
                  rintro e' w5 ⟨rfl, hb⟩
                  replace hr := hr.keep hb
                  replace hL := hL.keep hb
                  replace hT := hT.keep hb
                  replace hfr := fr_call hfr hb
                  replace hX0 := hX0.keep hb
                  replace hc0 := fun j => hX0.cell j
                  replace hl0 := hX0.lt
                  replace hX1 := hX1.keep hb
                  replace hc1 := fun j => hX1.cell j
                  replace hl1 := hX1.lt
                  replace hX2 := hX2.keep hb
                  replace hc2 := fun j => hX2.cell j
                  replace hl2 := hX2.lt
                  clear hb
                  go_wp2_with fail
                  refine (rRange_is y z _ _ hg).mono ?_
                  rintro e' w6 ⟨rfl, rfl⟩
                  go_wp2_with fail
                  refine (known_is _ hT).mono ?_
                  rintro e' w7 ⟨rfl, hb⟩
                  replace hr := hr.keep hb
                  replace hL := hL.keep hb
                  replace hT := hT.keep hb
                  replace hfr := fr_call hfr hb
                  replace hX0 := hX0.keep hb
                  replace hc0 := fun j => hX0.cell j
                  replace hl0 := hX0.lt
                  replace hX1 := hX1.keep hb
                  replace hc1 := fun j => hX1.cell j
                  replace hl1 := hX1.lt
                  replace hX2 := hX2.keep hb
                  replace hc2 := fun j => hX2.cell j
                  replace hl2 := hX2.lt
                  clear hb
                  go_wp2_with fail
                  go_ret
                  exact ⟨rfl, hfr⟩
                · have hub : inB u 0 4000 = true := inB_yes (by omega)
                  have hnY : (((z - y + 1).toNat : Nat) : Int) = z - y + 1 := by omega
                  have hxl0 := meet_len e num den add y cs l (z - y + 1).toNat
                  have hcx0 := meet_has (e := e) (num := num) (den := den) (add := add) (cs := cs) (l := l) (a := y) (u := u) (n := (z - y + 1).toNat) (by omega) (by omega)
                  obtain ⟨xs, gxs⟩ : ∃ xs, meetOf e cs num den add l y (z - y + 1).toNat = xs := ⟨_, rfl⟩
                  obtain ⟨fs, gfs⟩ : ∃ fs, l.map (feastDay e cs num den add u) = fs := ⟨_, rfl⟩
                  obtain ⟨bq, gbq⟩ : ∃ bq, twiceB fs = bq := ⟨_, rfl⟩
                  rw [gxs] at hxl0 hcx0
                  have hxl : xs.length ≤ 500 := by omega
                  have hxd : decide (z - y + 1 < (xs.length : Int)) = false := decide_eq_false (by omega)
                  have HXS := Lib.hid gxs
                  have HFS := Lib.hid gfs
                  have HTW := Lib.hid gbq
                  have HCX := Lib.hid (show xs.contains u = bq by rw [hcx0, gfs, gbq])
                  obtain ⟨l2, gl2⟩ : ∃ l2, l ++ [⟨mv, fm, fd, fa⟩] = l2 := ⟨_, rfl⟩
                  have HL2 := Lib.hid gl2
                  have hzl0 := meet_len e num den add y cs l2 (z - y + 1).toNat
                  have hcz0 := meet_has (e := e) (num := num) (den := den) (add := add) (cs := cs) (l := l2) (a := y) (u := u) (n := (z - y + 1).toNat) (by omega) (by omega)
                  obtain ⟨zs, gzs⟩ : ∃ zs, meetOf e cs num den add l2 y (z - y + 1).toNat = zs := ⟨_, rfl⟩
                  rw [gzs] at hzl0 hcz0
                  have hzl : zs.length ≤ 500 := by omega
                  have hzd : decide ((zs.length : Int) ≤ z - y + 1) = true := decide_eq_true (by omega)
                  have hbz : bq = true → zs.contains u = true := fun h => by
                    rw [hcz0, ← gl2, List.map_append, gfs]
                    exact twice_more _ (gbq.trans h)
                  have HZS := Lib.hid gzs
                  have HBZ := Lib.hid hbz
                  clear gxs gfs gbq gl2 gzs hcx0 hcz0 hxl0 hzl0 hnY hbz
                  go_enter Tryz.func9, Tryz.ntmps9
                  go_wp2_with fail
                  have hfr := g1
                  replace hr := hr.keep g1
                  replace hL := hL.keep g1
                  replace hT := hT.keep g1
                  have hc0 := fun j => hX0.cell j
                  have hc1 := fun j => hX1.cell j
                  have hc2 := fun j => hX2.cell j
                  have hl0 := hX0.lt
                  have hl1 := hX1.lt
                  have hl2 := hX2.lt
                  refine (lshort_is A n c _ _ true hs).mono ?_
                  rintro e' w1 ⟨rfl, hb⟩
                  replace hr := hr.keep hb
                  replace hL := hL.keep hb
                  replace hT := hT.keep hb
                  replace hfr := fr_call hfr hb
                  replace hX0 := hX0.keep hb
                  replace hc0 := fun j => hX0.cell j
                  replace hl0 := hX0.lt
                  replace hX1 := hX1.keep hb
                  replace hc1 := fun j => hX1.cell j
                  replace hl1 := hX1.lt
                  replace hX2 := hX2.keep hb
                  replace hc2 := fun j => hX2.cell j
                  replace hl2 := hX2.lt
                  clear hb
                  go_wp2_with fail
                  refine (lfew_is L l.length lc _ true hfw).mono ?_
                  rintro e' w2 ⟨rfl, rfl⟩
                  go_wp2_with fail
                  refine (rCalendar_is A n c cs e _ hr hn _ hok).mono ?_
                  rintro e' w3 ⟨rfl, hb⟩
                  replace hr := hr.keep hb
                  replace hL := hL.keep hb
                  replace hT := hT.keep hb
                  replace hfr := fr_call hfr hb
                  replace hX0 := hX0.keep hb
                  replace hc0 := fun j => hX0.cell j
                  replace hl0 := hX0.lt
                  replace hX1 := hX1.keep hb
                  replace hc1 := fun j => hX1.cell j
                  replace hl1 := hX1.lt
                  replace hX2 := hX2.keep hb
                  replace hc2 := fun j => hX2.cell j
                  replace hl2 := hX2.lt
                  clear hb
                  go_wp2_with fail
                  refine (rMoon_is _ _ _ _ _ hm).mono ?_
                  rintro e' w4 ⟨rfl, hb⟩
                  replace hr := hr.keep hb
                  replace hL := hL.keep hb
                  replace hT := hT.keep hb
                  replace hfr := fr_call hfr hb
                  replace hX0 := hX0.keep hb
                  replace hc0 := fun j => hX0.cell j
                  replace hl0 := hX0.lt
                  replace hX1 := hX1.keep hb
                  replace hc1 := fun j => hX1.cell j
                  replace hl1 := hX1.lt
                  replace hX2 := hX2.keep hb
                  replace hc2 := fun j => hX2.cell j
                  replace hl2 := hX2.lt
                  clear hb
                  go_wp2_with fail
                  refine (rFeasts_is L lc l _ hL hln _ hf).mono ?_
                  rintro e' w5 ⟨rfl, hb⟩
                  replace hr := hr.keep hb
                  replace hL := hL.keep hb
                  replace hT := hT.keep hb
                  replace hfr := fr_call hfr hb
                  replace hX0 := hX0.keep hb
                  replace hc0 := fun j => hX0.cell j
                  replace hl0 := hX0.lt
                  replace hX1 := hX1.keep hb
                  replace hc1 := fun j => hX1.cell j
                  replace hl1 := hX1.lt
                  replace hX2 := hX2.keep hb
                  replace hc2 := fun j => hX2.cell j
                  replace hl2 := hX2.lt
                  clear hb
                  go_wp2_with fail
                  refine (rRange_is y z _ _ hg).mono ?_
                  rintro e' w6 ⟨rfl, rfl⟩
                  go_wp2_with fail
                  refine (Meet_ok A L n c lc cs e num den add y z l _ hr hn hL hln hok hm hf hg).mono ?_
                  rw [HXS.out]
                  rintro e' w7 ⟨AX, cX, rfl, hrX, hb⟩
                  replace hr := hr.keep hb
                  replace hL := hL.keep hb
                  replace hT := hT.keep hb
                  replace hfr := fr_call hfr hb
                  replace hX0 := hX0.keep hb
                  replace hc0 := fun j => hX0.cell j
                  replace hl0 := hX0.lt
                  replace hX1 := hX1.keep hb
                  replace hc1 := fun j => hX1.cell j
                  replace hl1 := hX1.lt
                  replace hX2 := hX2.keep hb
                  replace hc2 := fun j => hX2.cell j
                  replace hl2 := hX2.lt
                  clear hb
                  go_wp2_with fail
                  refine (Feasts_at A L n c lc cs fs e num den add u l _ hr hn hL hln hok hm hf hub HFS.out).mono ?_
                  rintro e' w8 ⟨AY, cY, rfl, hrY, hb⟩
                  replace hr := hr.keep hb
                  replace hL := hL.keep hb
                  replace hT := hT.keep hb
                  replace hrX := hrX.keep hb
                  replace hfr := fr_call hfr hb
                  replace hX0 := hX0.keep hb
                  replace hc0 := fun j => hX0.cell j
                  replace hl0 := hX0.lt
                  replace hX1 := hX1.keep hb
                  replace hc1 := fun j => hX1.cell j
                  replace hl1 := hX1.lt
                  replace hX2 := hX2.keep hb
                  replace hc2 := fun j => hX2.cell j
                  replace hl2 := hX2.lt
                  clear hb
                  go_wp2_with fail
                  refine (llisted_is AX xs.length cX xs u _ hrX hxl bq HCX.out).mono ?_
                  rintro e' w9 ⟨rfl, rfl⟩
                  go_wp2_with fail
                  refine (rTwice_is AY l.length cY fs _ hrY hln bq HTW.out).mono ?_
                  rintro e' w10 ⟨rfl, hb⟩
                  replace hr := hr.keep hb
                  replace hL := hL.keep hb
                  replace hT := hT.keep hb
                  replace hrX := hrX.keep hb
                  replace hrY := hrY.keep hb
                  replace hfr := fr_call hfr hb
                  replace hX0 := hX0.keep hb
                  replace hc0 := fun j => hX0.cell j
                  replace hl0 := hX0.lt
                  replace hX1 := hX1.keep hb
                  replace hc1 := fun j => hX1.cell j
                  replace hl1 := hX1.lt
                  replace hX2 := hX2.keep hb
                  replace hc2 := fun j => hX2.cell j
                  replace hl2 := hX2.lt
                  clear hb
                  go_upto_region 7 with (fail)
                  have hlq : l.length ≤ 1000000 := by have := feasts_len hf; omega
                  go_cut [19] from 109 (fun s19 wc => ∃ B b, s19 = .slice B l2.length b ∧ RdS wc B 4 (l2.map Feast.row) ∧ Below w10.heap.size w10 wc)
                  case first =>
                    refine wp_region_noPanic ?_
                    refine wp_region_held_drew (S := fun W => (∀ p : Addr, p.block < (w10).heap.size → W.cell? p = (w10).cell? p) ∧ Below (w10).heap.size (w10) W) (by kernel_rfl) ⟨fun _ _ => rfl, fr_drew (fr_refl _)⟩ (fun hHeld => ?_)
                    -- the region, step by step, in whatever order
                    refine wpAnyH_take (i := 0) (oi := ⟨some 109, .move (.tmp 2), 64, "law.go:351", #[], none⟩) (v := ?_) rfl (by kernel_rfl) (by kernel_rfl) (by kernel_rfl) (fun _ _ _ h => h) (Or.inl ⟨by rfl, fun W hSw => ?_⟩) hHeld ?_
                    rotate_left
                    · (try dsimp only at hSw); go_simp; (try with_reducible rfl)
                    (try simp only [Act.put, List.setIfInBounds_toArray, List.set_cons_zero, List.set_cons_succ])
                    refine wpAnyH_take (i := 2) (oi := ⟨some 111, .load 76 (.tmp 13), 76, "law.go:351", #[], none⟩) (v := ?_) rfl (by kernel_rfl) (by kernel_rfl) (by kernel_rfl) (fun _ _ _ h => h) (Or.inl ⟨by rfl, fun W hSw => ?_⟩) hHeld ?_
                    rotate_left
                    · (try dsimp only at hSw); go_simp; (try with_reducible rfl)
                    (try simp only [Act.put, List.setIfInBounds_toArray, List.set_cons_zero, List.set_cons_succ])
                    refine wpAnyH_ready (rs := [1, 3]) (by kernel_rfl) (by simp) ?_
                    refine (AllReadyH.cons (o := ⟨some 110, .call { callee := .builtin .append, args := #[.const (.slice none 0 0), .tmp 109], argTypes := #[64, 64] }, 64, "law.go:351", #[⟨0, .data⟩], none⟩) rfl (fun K hK => ?_) (AllReadyH.cons (o := ⟨some 112, .buildSlice 64 1 #[(0, .tmp 111)], 64, "law.go:351", #[⟨2, .data⟩], none⟩) rfl (fun K hK => ?_) AllReadyH.nil))
                    · rw [if_pos (by rfl)]
                      refine wp_app_feasts _ _ rfl w10.heap.size _ [] rfl (OwnS.nil _ _ _ _) L l.length lc l rfl rfl (hL.keep hHeld.2) (by simp) hlq hHeld.2.size ?_
                      intro A1 c1 W1 hO1 hg1
                      rw [show ([] : List Feast).length + l.length = l.length by simp] at hO1 ⊢
                      rw [List.nil_append] at hO1
                      have hb1 : Below _ _ W1 := (fr_refl _).grown hg1 (Nat.le_refl _) (fun i hi => by cases hi)
                      (try replace hRF := hRF.keep hb1)
                      refine hK.out _ _ (kp_step hb1 hHeld) (fun hHeld => ?_)
                      clear hK K
                      (try simp only [Act.put, List.setIfInBounds_toArray, List.set_cons_zero, List.set_cons_succ])
                      refine wpAnyH_ready (rs := [3]) (by kernel_rfl) (by simp) ?_
                      refine (AllReadyH.cons (o := ⟨some 112, .buildSlice 64 1 #[(0, .tmp 111)], 64, "law.go:351", #[⟨2, .data⟩], none⟩) rfl (fun K hK => ?_) AllReadyH.nil)
                      rw [if_pos (by rfl)]
                      refine wp_build1t (f := ⟨mv, fm, fd, fa⟩) rfl rfl ?_
                      intro gF WF hRF hbF hgF
                      (try replace hO1 := hO1.keep hbF)
                      refine hK.out _ _ (kp_step hbF hHeld) (fun hHeld => ?_)
                      clear hK K
                      (try simp only [Act.put, List.setIfInBounds_toArray, List.set_cons_zero, List.set_cons_succ])
                      refine wpAnyH_ready (rs := [4]) (by kernel_rfl) (by simp) ?_
                      refine (AllReadyH.cons (o := ⟨some 113, .call { callee := .builtin .append, args := #[.tmp 110, .tmp 112], argTypes := #[64, 64] }, 64, "law.go:351", #[⟨1, .data⟩, ⟨3, .data⟩, ⟨1, .chain⟩], none⟩) rfl (fun K hK => ?_) AllReadyH.nil)
                      rw [if_pos (by rfl)]
                      refine wp_app_feasts _ _ rfl w10.heap.size _ l rfl hO1 (some ⟨gF, 0, none⟩) 1 1 [⟨mv, fm, fd, fa⟩] rfl rfl hRF hlq (by simp) hHeld.2.size ?_
                      intro A2 c2 W2 hO2 hg2
                      rw [HL2.out] at hO2
                      refine hK.out _ _ (kp_of (hHeld.2.grown hg2 hHeld.2.size hO1.ge)) (fun hHeld => ?_)
                      clear hK K
                      (try simp only [Act.put, List.setIfInBounds_toArray, List.set_cons_zero, List.set_cons_succ])
                      refine wpAnyH_take (i := 5) (oi := ⟨some 19, .assign (.tmp 113), 64, "law.go:351", #[⟨4, .data⟩, ⟨4, .chain⟩, ⟨0, .phase⟩, ⟨1, .phase⟩, ⟨2, .phase⟩, ⟨3, .phase⟩, ⟨4, .phase⟩], none⟩) (v := ?_) rfl (by kernel_rfl) (by kernel_rfl) (by kernel_rfl) (fun _ _ _ h => h) (Or.inl ⟨by rfl, fun W hSw => ?_⟩) hHeld ?_
                      rotate_left
                      · (try dsimp only at hSw); go_simp; (try with_reducible rfl)
                      (try simp only [Act.put, List.setIfInBounds_toArray, List.set_cons_zero, List.set_cons_succ])
                      refine wpAnyH_done (by kernel_rfl) ?_ _
                      refine NoPanic.normal ?_
                      go_wp2_with fail
                      go_meet
                      case rel => exact ⟨A2, c2, by rw [← HL2.out]; simp, hO2.rd, hHeld.2⟩
                    · rw [if_pos (by rfl)]
                      refine wp_build1t (f := ⟨mv, fm, fd, fa⟩) rfl rfl ?_
                      intro gF WF hRF hbF hgF
                      (try replace hO1 := hO1.keep hbF)
                      refine hK.out _ _ (kp_step hbF hHeld) (fun hHeld => ?_)
                      clear hK K
                      (try simp only [Act.put, List.setIfInBounds_toArray, List.set_cons_zero, List.set_cons_succ])
                      refine wpAnyH_ready (rs := [1]) (by kernel_rfl) (by simp) ?_
                      refine (AllReadyH.cons (o := ⟨some 110, .call { callee := .builtin .append, args := #[.const (.slice none 0 0), .tmp 109], argTypes := #[64, 64] }, 64, "law.go:351", #[⟨0, .data⟩], none⟩) rfl (fun K hK => ?_) AllReadyH.nil)
                      rw [if_pos (by rfl)]
                      refine wp_app_feasts _ _ rfl w10.heap.size _ [] rfl (OwnS.nil _ _ _ _) L l.length lc l rfl rfl (hL.keep hHeld.2) (by simp) hlq hHeld.2.size ?_
                      intro A1 c1 W1 hO1 hg1
                      rw [show ([] : List Feast).length + l.length = l.length by simp] at hO1 ⊢
                      rw [List.nil_append] at hO1
                      have hb1 : Below _ _ W1 := (fr_refl _).grown hg1 (Nat.le_refl _) (fun i hi => by cases hi)
                      (try replace hRF := hRF.keep hb1)
                      refine hK.out _ _ (kp_step hb1 hHeld) (fun hHeld => ?_)
                      clear hK K
                      (try simp only [Act.put, List.setIfInBounds_toArray, List.set_cons_zero, List.set_cons_succ])
                      refine wpAnyH_ready (rs := [4]) (by kernel_rfl) (by simp) ?_
                      refine (AllReadyH.cons (o := ⟨some 113, .call { callee := .builtin .append, args := #[.tmp 110, .tmp 112], argTypes := #[64, 64] }, 64, "law.go:351", #[⟨1, .data⟩, ⟨3, .data⟩, ⟨1, .chain⟩], none⟩) rfl (fun K hK => ?_) AllReadyH.nil)
                      rw [if_pos (by rfl)]
                      refine wp_app_feasts _ _ rfl w10.heap.size _ l rfl hO1 (some ⟨gF, 0, none⟩) 1 1 [⟨mv, fm, fd, fa⟩] rfl rfl hRF hlq (by simp) hHeld.2.size ?_
                      intro A2 c2 W2 hO2 hg2
                      rw [HL2.out] at hO2
                      refine hK.out _ _ (kp_of (hHeld.2.grown hg2 hHeld.2.size hO1.ge)) (fun hHeld => ?_)
                      clear hK K
                      (try simp only [Act.put, List.setIfInBounds_toArray, List.set_cons_zero, List.set_cons_succ])
                      refine wpAnyH_take (i := 5) (oi := ⟨some 19, .assign (.tmp 113), 64, "law.go:351", #[⟨4, .data⟩, ⟨4, .chain⟩, ⟨0, .phase⟩, ⟨1, .phase⟩, ⟨2, .phase⟩, ⟨3, .phase⟩, ⟨4, .phase⟩], none⟩) (v := ?_) rfl (by kernel_rfl) (by kernel_rfl) (by kernel_rfl) (fun _ _ _ h => h) (Or.inl ⟨by rfl, fun W hSw => ?_⟩) hHeld ?_
                      rotate_left
                      · (try dsimp only at hSw); go_simp; (try with_reducible rfl)
                      (try simp only [Act.put, List.setIfInBounds_toArray, List.set_cons_zero, List.set_cons_succ])
                      refine wpAnyH_done (by kernel_rfl) ?_ _
                      refine NoPanic.normal ?_
                      go_wp2_with fail
                      go_meet
                      case rel => exact ⟨A2, c2, by rw [← HL2.out]; simp, hO2.rd, hHeld.2⟩
                  case rest =>
                    obtain ⟨B, b2, rfl, hB, hbel2⟩ := hcut
                    replace hr := hr.keep hbel2
                    replace hL := hL.keep hbel2
                    replace hT := hT.keep hbel2
                    replace hrX := hrX.keep hbel2
                    replace hrY := hrY.keep hbel2
                    replace hfr := fr_call hfr hbel2
                    replace hX0 := hX0.keep hbel2
                    replace hc0 := fun j => hX0.cell j
                    replace hl0 := hX0.lt
                    replace hX1 := hX1.keep hbel2
                    replace hc1 := fun j => hX1.cell j
                    replace hl1 := hX1.lt
                    replace hX2 := hX2.keep hbel2
                    replace hc2 := fun j => hX2.cell j
                    replace hl2 := hX2.lt
                    have hl2n : l2.length ≤ 9223372036854775807 := by rw [← HL2.out, List.length_append]; simp; omega
                    cases hf2 : feastsB l2
                    · go_wp2_with fail
                      refine (rFeasts_is B b2 l2 _ hB hl2n _ hf2).mono ?_
                      rintro e' w11 ⟨rfl, hb⟩
                      replace hr := hr.keep hb
                      replace hL := hL.keep hb
                      replace hT := hT.keep hb
                      replace hrX := hrX.keep hb
                      replace hrY := hrY.keep hb
                      replace hB := hB.keep hb
                      replace hfr := fr_call hfr hb
                      replace hX0 := hX0.keep hb
                      replace hc0 := fun j => hX0.cell j
                      replace hl0 := hX0.lt
                      replace hX1 := hX1.keep hb
                      replace hc1 := fun j => hX1.cell j
                      replace hl1 := hX1.lt
                      replace hX2 := hX2.keep hb
                      replace hc2 := fun j => hX2.cell j
                      replace hl2 := hX2.lt
                      clear hb
                      go_wp2_with fail
                      refine (known_is _ hT).mono ?_
                      rintro e' w12 ⟨rfl, hb⟩
                      replace hr := hr.keep hb
                      replace hL := hL.keep hb
                      replace hT := hT.keep hb
                      replace hrX := hrX.keep hb
                      replace hrY := hrY.keep hb
                      replace hB := hB.keep hb
                      replace hfr := fr_call hfr hb
                      replace hX0 := hX0.keep hb
                      replace hc0 := fun j => hX0.cell j
                      replace hl0 := hX0.lt
                      replace hX1 := hX1.keep hb
                      replace hc1 := fun j => hX1.cell j
                      replace hl1 := hX1.lt
                      replace hX2 := hX2.keep hb
                      replace hc2 := fun j => hX2.cell j
                      replace hl2 := hX2.lt
                      clear hb
                      go_wp2_with fail
                      go_ret
                      exact ⟨rfl, hfr⟩
                    · cases hbz : zs.contains u
                      · have hbq : bq = false := by
                          cases bq
                          · rfl
                          · rw [HBZ.out rfl] at hbz; cases hbz
                        go_wp2_with fail
                        refine (rFeasts_is B b2 l2 _ hB hl2n _ hf2).mono ?_
                        rintro e' w11 ⟨rfl, hb⟩
                        replace hr := hr.keep hb
                        replace hL := hL.keep hb
                        replace hT := hT.keep hb
                        replace hrX := hrX.keep hb
                        replace hrY := hrY.keep hb
                        replace hB := hB.keep hb
                        replace hfr := fr_call hfr hb
                        replace hX0 := hX0.keep hb
                        replace hc0 := fun j => hX0.cell j
                        replace hl0 := hX0.lt
                        replace hX1 := hX1.keep hb
                        replace hc1 := fun j => hX1.cell j
                        replace hl1 := hX1.lt
                        replace hX2 := hX2.keep hb
                        replace hc2 := fun j => hX2.cell j
                        replace hl2 := hX2.lt
                        clear hb
                        go_wp2_with fail
                        refine (Meet_ok A B n c b2 cs e num den add y z l2 _ hr hn hB hl2n hok hm hf2 hg).mono ?_
                        rw [HZS.out]
                        rintro e' w12 ⟨AZ, cZ, rfl, hrZ, hb⟩
                        replace hr := hr.keep hb
                        replace hL := hL.keep hb
                        replace hT := hT.keep hb
                        replace hrX := hrX.keep hb
                        replace hrY := hrY.keep hb
                        replace hB := hB.keep hb
                        replace hfr := fr_call hfr hb
                        replace hX0 := hX0.keep hb
                        replace hc0 := fun j => hX0.cell j
                        replace hl0 := hX0.lt
                        replace hX1 := hX1.keep hb
                        replace hc1 := fun j => hX1.cell j
                        replace hl1 := hX1.lt
                        replace hX2 := hX2.keep hb
                        replace hc2 := fun j => hX2.cell j
                        replace hl2 := hX2.lt
                        clear hb
                        go_wp2_with fail
                        refine (llisted_is AZ zs.length cZ zs u _ hrZ hzl false hbz).mono ?_
                        rintro e' w13 ⟨rfl, rfl⟩
                        go_wp2_with fail
                        refine (llisted_is AX xs.length cX xs u _ hrX hxl false (by rw [HCX.out]; exact hbq)).mono ?_
                        rintro e' w14 ⟨rfl, rfl⟩
                        go_wp2_with fail
                        refine (known_is _ hT).mono ?_
                        rintro e' w15 ⟨rfl, hb⟩
                        replace hr := hr.keep hb
                        replace hL := hL.keep hb
                        replace hT := hT.keep hb
                        replace hrX := hrX.keep hb
                        replace hrY := hrY.keep hb
                        replace hB := hB.keep hb
                        replace hrZ := hrZ.keep hb
                        replace hfr := fr_call hfr hb
                        replace hX0 := hX0.keep hb
                        replace hc0 := fun j => hX0.cell j
                        replace hl0 := hX0.lt
                        replace hX1 := hX1.keep hb
                        replace hc1 := fun j => hX1.cell j
                        replace hl1 := hX1.lt
                        replace hX2 := hX2.keep hb
                        replace hc2 := fun j => hX2.cell j
                        replace hl2 := hX2.lt
                        clear hb
                        go_wp2_with fail
                        go_ret
                        exact ⟨rfl, hfr⟩
                      · go_wp2_with fail
                        refine (rFeasts_is B b2 l2 _ hB hl2n _ hf2).mono ?_
                        rintro e' w11 ⟨rfl, hb⟩
                        replace hr := hr.keep hb
                        replace hL := hL.keep hb
                        replace hT := hT.keep hb
                        replace hrX := hrX.keep hb
                        replace hrY := hrY.keep hb
                        replace hB := hB.keep hb
                        replace hfr := fr_call hfr hb
                        replace hX0 := hX0.keep hb
                        replace hc0 := fun j => hX0.cell j
                        replace hl0 := hX0.lt
                        replace hX1 := hX1.keep hb
                        replace hc1 := fun j => hX1.cell j
                        replace hl1 := hX1.lt
                        replace hX2 := hX2.keep hb
                        replace hc2 := fun j => hX2.cell j
                        replace hl2 := hX2.lt
                        clear hb
                        go_wp2_with fail
                        refine (Meet_ok A B n c b2 cs e num den add y z l2 _ hr hn hB hl2n hok hm hf2 hg).mono ?_
                        rw [HZS.out]
                        rintro e' w12 ⟨AZ, cZ, rfl, hrZ, hb⟩
                        replace hr := hr.keep hb
                        replace hL := hL.keep hb
                        replace hT := hT.keep hb
                        replace hrX := hrX.keep hb
                        replace hrY := hrY.keep hb
                        replace hB := hB.keep hb
                        replace hfr := fr_call hfr hb
                        replace hX0 := hX0.keep hb
                        replace hc0 := fun j => hX0.cell j
                        replace hl0 := hX0.lt
                        replace hX1 := hX1.keep hb
                        replace hc1 := fun j => hX1.cell j
                        replace hl1 := hX1.lt
                        replace hX2 := hX2.keep hb
                        replace hc2 := fun j => hX2.cell j
                        replace hl2 := hX2.lt
                        clear hb
                        go_wp2_with fail
                        refine (llisted_is AZ zs.length cZ zs u _ hrZ hzl true hbz).mono ?_
                        rintro e' w13 ⟨rfl, rfl⟩
                        go_wp2_with fail
                        refine (known_is _ hT).mono ?_
                        rintro e' w14 ⟨rfl, hb⟩
                        replace hr := hr.keep hb
                        replace hL := hL.keep hb
                        replace hT := hT.keep hb
                        replace hrX := hrX.keep hb
                        replace hrY := hrY.keep hb
                        replace hB := hB.keep hb
                        replace hrZ := hrZ.keep hb
                        replace hfr := fr_call hfr hb
                        replace hX0 := hX0.keep hb
                        replace hc0 := fun j => hX0.cell j
                        replace hl0 := hX0.lt
                        replace hX1 := hX1.keep hb
                        replace hc1 := fun j => hX1.cell j
                        replace hl1 := hX1.lt
                        replace hX2 := hX2.keep hb
                        replace hc2 := fun j => hX2.cell j
                        replace hl2 := hX2.lt
                        clear hb
                        go_wp2_with fail
                        go_ret
                        exact ⟨rfl, hfr⟩
end Go.Proofs.YtnppilaabobgiaaGreatDoor
