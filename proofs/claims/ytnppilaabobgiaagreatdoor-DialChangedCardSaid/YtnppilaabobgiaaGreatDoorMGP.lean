/- The theorem of realms: DialChanged, walked. -/
import Derived.Test.YtnppilaabobgiaaGreatDoorMEC
import Derived.Test.YtnppilaabobgiaaGreatDoorMGE
import Derived.Test.YtnppilaabobgiaaGreatDoorMB4
import Derived.Test.YtnppilaabobgiaaGreatDoorMBL
import Derived.Test.YtnppilaabobgiaaGreatDoorMD1
import Derived.Test.YtnppilaabobgiaaGreatDoorMD2
import Derived.Test.YtnppilaabobgiaaGreatDoorMD6
import Derived.Test.YtnppilaabobgiaaGreatDoorMC7
import Derived.Test.YtnppilaabobgiaaGreatDoorMC5
import Derived.Test.YtnppilaabobgiaaGreatDoorMD7
namespace Go.Proofs.YtnppilaabobgiaaGreatDoor
open Go.RowKit Dl

theorem real_num' {e y m d : Int} {cs : List Int} (hok : calOk e cs = true) (hq : realB cs y m d = true) : inB (dayOf e cs ⟨y, m, d⟩) 0 2000000 = true := by
  obtain ⟨hy, hmm, hd⟩ := real_parts hq
  have h1 := firstDay_bounds e cs y hy.1
  have h2 := cum_bounds (leapB cs y) m hmm.1 hmm.2
  have h3 := (calOk_parts hok).1
  apply inB_yes
  unfold dayOf
  simp only
  omega
theorem days_mem {e1 e2 last y m d x : Int} {c1 c2 : List Int} (hok : realmOk e1 c1 e2 c2 last = true) (hx : x ∈ daysOf e1 c1 e2 c2 last y m d) : onOf e1 c1 e2 c2 last x = some ⟨y, m, d⟩ ∧ inB x 0 2000000 = true := by
  obtain ⟨hk1, hk2⟩ := realm_parts hok
  unfold daysOf at hx
  rcases List.mem_append.1 hx with h | h
  · split at h
    · rename_i hc
      rw [Bool.and_eq_true, decide_eq_true_eq] at hc
      obtain rfl := List.mem_singleton.1 h
      refine ⟨?_, real_num' hk1 hc.1⟩
      unfold onOf
      rw [if_pos hc.2]
      exact dateOf_some.2 ⟨realB_iff.1 hc.1, rfl⟩
    · simp at h
  · split at h
    · rename_i hc
      rw [Bool.and_eq_true, decide_eq_true_eq] at hc
      obtain rfl := List.mem_singleton.1 h
      refine ⟨?_, real_num' hk2 hc.1⟩
      unfold onOf
      rw [if_neg (by omega)]
      exact dateOf_some.2 ⟨realB_iff.1 hc.1, rfl⟩
    · simp at h
theorem days_two (e1 : Int) (c1 : List Int) (e2 : Int) (c2 : List Int) (last y m d : Int) : (daysOf e1 c1 e2 c2 last y m d).length ≤ 2 ∧ ∀ i : Nat, i + 1 < (daysOf e1 c1 e2 c2 last y m d).length → (daysOf e1 c1 e2 c2 last y m d)[i]?.getD 0 < (daysOf e1 c1 e2 c2 last y m d)[i + 1]?.getD 0 := by
  unfold daysOf
  by_cases h1 : (realB c1 y m d && decide (dayOf e1 c1 ⟨y, m, d⟩ ≤ last)) = true
  · by_cases h2 : (realB c2 y m d && decide (last < dayOf e2 c2 ⟨y, m, d⟩)) = true
    · rw [if_pos h1, if_pos h2]
      rw [Bool.and_eq_true, decide_eq_true_eq] at h1 h2
      refine ⟨by simp, fun i hi => ?_⟩
      obtain rfl : i = 0 := by simp at hi; omega
      show dayOf e1 c1 ⟨y, m, d⟩ < dayOf e2 c2 ⟨y, m, d⟩
      omega
    · rw [if_pos h1, if_neg h2]
      exact ⟨by simp, fun i hi => by simp at hi⟩
  · by_cases h2 : (realB c2 y m d && decide (last < dayOf e2 c2 ⟨y, m, d⟩)) = true
    · rw [if_neg h1, if_pos h2]
      exact ⟨by simp, fun i hi => by simp at hi⟩
    · rw [if_neg h1, if_neg h2]
      exact ⟨by simp, fun i hi => by simp at hi⟩
theorem days_has {e1 e2 last y m d x : Int} {c1 c2 : List Int} (h : onOf e1 c1 e2 c2 last x = some ⟨y, m, d⟩) : x ∈ daysOf e1 c1 e2 c2 last y m d := by
  unfold onOf at h
  unfold daysOf
  rw [List.mem_append]
  split at h
  · rename_i hl
    obtain ⟨hr, hd⟩ := dateOf_some.1 h
    left
    rw [if_pos (by rw [Bool.and_eq_true, decide_eq_true_eq]; exact ⟨realB_iff.2 hr, by omega⟩), hd]
    exact List.mem_singleton.2 rfl
  · rename_i hl
    obtain ⟨hr, hd⟩ := dateOf_some.1 h
    right
    rw [if_pos (by rw [Bool.and_eq_true, decide_eq_true_eq]; exact ⟨realB_iff.2 hr, by omega⟩), hd]
    exact List.mem_singleton.2 rfl
theorem twice_snoc {xs : List Int} {x : Int} (h : x ∈ xs) (h0 : 0 ≤ x) : twiceB (xs ++ [x]) = true := by
  refine twice_some (i := xs.length) (by simp) ?_
  unfold twiceAt
  have e1 : (xs ++ [x])[xs.length]?.getD 0 = x := by simp
  have e2 : (xs ++ [x]).take xs.length = xs := by simp
  rw [e1, e2, Bool.and_eq_true]
  exact ⟨decide_eq_true h0, List.contains_iff_mem.2 h⟩
theorem on_written {e1 e2 last y m d x : Int} {c1 c2 : List Int} (h : onOf e1 c1 e2 c2 last x = some ⟨y, m, d⟩) : writtenB y m d = true := by
  have hr : ∃ cs, realB cs y m d = true := by
    unfold onOf at h
    split at h
    · exact ⟨c1, realB_iff.2 (dateOf_some.1 h).1⟩
    · exact ⟨c2, realB_iff.2 (dateOf_some.1 h).1⟩
  obtain ⟨cs, hr⟩ := hr
  obtain ⟨h1, h2, h3⟩ := real_parts hr
  unfold writtenB
  rw [inB_yes h1, inB_yes h2, inB_yes h3]
  rfl
section
variable {o : Oper} {a : Act} {w : World} {K : Act → World → Prop} {Q : Exit → Act → World → Prop}
theorem wpList_app_slice {ops : Array Oper} {rest : List Oper} (hgd : o.guard = none) (s x : Operand) (ho : o.op = .call { callee := .builtin .append, args := #[s, x], argTypes := #[22, 22] }) (base : Nat) (v : Value) (xs : List Int) (hs : a.eval s = v) (hown : Own w base v xs)
    (A : Option Addr) (n c : Nat) (ys : List Int) (hx : a.eval x = .slice A n c) (hr : Rd w A n ys) (hpos : 0 < n) (hn1 : xs.length ≤ 1000000) (hn2 : n ≤ 1000000) (hbase : base ≤ w.heap.size)
    (h : ∀ A' c' w', Own w' base (.slice A' (xs.length + n) c') (xs ++ ys) → w.grownBy w' v.ownBlock → wpList Tryz.prog ops Q rest (a.put o.dst (.slice A' (xs.length + n) c')) w') : wpList Tryz.prog ops Q (o :: rest) a w :=
  wpList_plain hgd fun _ hK => wp_app_slice s x ho base v xs hs hown A n c ys hx hr hpos hn1 hn2 hbase fun A' c' w' h1 h2 => hK _ _ (h A' c' w' h1 h2)
end

set_option maxRecDepth 100000 in
set_option maxHeartbeats 8000000 in
theorem changed_true (A1 A2 : Option Addr) (n1 k1 n2 k2 : Nat) (c1 c2 : List Int) (e1 e2 last day y m d : Int) (w : World) (hr1 : Rd w A1 n1 c1) (hn1 : n1 ≤ 9223372036854775807) (hr2 : Rd w A2 n2 c2) (hn2 : n2 ≤ 9223372036854775807) (hT : TabP w) :
    Calls Tryz.prog 5 #[.agg #[.int .i64 e1, .slice A1 n1 k1, .int .i64 e2, .slice A2 n2 k2, .int .i64 last], .int .i64 day, .agg #[.int .i64 y, .int .i64 m, .int .i64 d]] w fun e' w' => e' = .returned (.bool true) ∧ Below w.heap.size w w' := by
  have g1 := fr_alloc (fr_alloc (fr_refl w) (.cells #[.int .i64 e1, .slice A1 n1 k1, .int .i64 e2, .slice A2 n2 k2, .int .i64 last] 26)) (.cells #[.int .i64 y, .int .i64 m, .int .i64 d] 41)
  have hX0 : Blk ((w.alloc (.cells #[.int .i64 e1, .slice A1 n1 k1, .int .i64 e2, .slice A2 n2 k2, .int .i64 last] 26)).alloc (.cells #[.int .i64 y, .int .i64 m, .int .i64 d] 41)) (w.heap.size) 26 #[.int .i64 e1, .slice A1 n1 k1, .int .i64 e2, .slice A2 n2 k2, .int .i64 last] := ((Blk.new_at _ _ (by simp)).alloc _)
  have hX1 : Blk ((w.alloc (.cells #[.int .i64 e1, .slice A1 n1 k1, .int .i64 e2, .slice A2 n2 k2, .int .i64 last] 26)).alloc (.cells #[.int .i64 y, .int .i64 m, .int .i64 d] 41)) (w.heap.size + 1) 41 #[.int .i64 y, .int .i64 m, .int .i64 d] := (Blk.new_at _ _ (by simp))
  cases ht : (decide ((n1 : Int) ≤ 5) && decide ((n2 : Int) ≤ 5))
  · go_enter Tryz.func5, Tryz.ntmps5
    go_wp2_with fail
    have hfr := g1
    replace hr1 := hr1.keep g1
    replace hr2 := hr2.keep g1
    replace hT := hT.keep g1
    have hc0 := fun j => hX0.cell j
    have hc1 := fun j => hX1.cell j
    have hl0 := hX0.lt
    have hl1 := hX1.lt
    refine (ltidy_is A1 A2 n1 k1 n2 k2 _ _ _ _ false ht).mono ?_
    rintro e' w1 ⟨rfl, hb⟩
    replace hr1 := hr1.keep hb
    replace hr2 := hr2.keep hb
    replace hT := hT.keep hb
    replace hfr := fr_call hfr hb
    replace hX0 := hX0.keep hb
    replace hc0 := fun j => hX0.cell j
    replace hl0 := hX0.lt
    replace hX1 := hX1.keep hb
    replace hc1 := fun j => hX1.cell j
    replace hl1 := hX1.lt
    clear hb
    go_wp2_with fail
    refine (known_is _ hT).mono ?_
    rintro e' w2 ⟨rfl, hb⟩
    replace hr1 := hr1.keep hb
    replace hr2 := hr2.keep hb
    replace hT := hT.keep hb
    replace hfr := fr_call hfr hb
    replace hX0 := hX0.keep hb
    replace hc0 := fun j => hX0.cell j
    replace hl0 := hX0.lt
    replace hX1 := hX1.keep hb
    replace hc1 := fun j => hX1.cell j
    replace hl1 := hX1.lt
    clear hb
    go_wp2_with fail
    go_ret
    exact ⟨rfl, hfr⟩
  · cases hok : realmOk e1 c1 e2 c2 last
    · go_enter Tryz.func5, Tryz.ntmps5
      go_wp2_with fail
      have hfr := g1
      replace hr1 := hr1.keep g1
      replace hr2 := hr2.keep g1
      replace hT := hT.keep g1
      have hc0 := fun j => hX0.cell j
      have hc1 := fun j => hX1.cell j
      have hl0 := hX0.lt
      have hl1 := hX1.lt
      refine (ltidy_is A1 A2 n1 k1 n2 k2 _ _ _ _ true ht).mono ?_
      rintro e' w1 ⟨rfl, hb⟩
      replace hr1 := hr1.keep hb
      replace hr2 := hr2.keep hb
      replace hT := hT.keep hb
      replace hfr := fr_call hfr hb
      replace hX0 := hX0.keep hb
      replace hc0 := fun j => hX0.cell j
      replace hl0 := hX0.lt
      replace hX1 := hX1.keep hb
      replace hc1 := fun j => hX1.cell j
      replace hl1 := hX1.lt
      clear hb
      go_wp2_with fail
      refine (rRealm_is A1 A2 n1 k1 n2 k2 c1 c2 e1 e2 last _ hr1 hr2 hn1 hn2 _ hok).mono ?_
      rintro e' w2 ⟨rfl, hb⟩
      replace hr1 := hr1.keep hb
      replace hr2 := hr2.keep hb
      replace hT := hT.keep hb
      replace hfr := fr_call hfr hb
      replace hX0 := hX0.keep hb
      replace hc0 := fun j => hX0.cell j
      replace hl0 := hX0.lt
      replace hX1 := hX1.keep hb
      replace hc1 := fun j => hX1.cell j
      replace hl1 := hX1.lt
      clear hb
      go_wp2_with fail
      refine (known_is _ hT).mono ?_
      rintro e' w3 ⟨rfl, hb⟩
      replace hr1 := hr1.keep hb
      replace hr2 := hr2.keep hb
      replace hT := hT.keep hb
      replace hfr := fr_call hfr hb
      replace hX0 := hX0.keep hb
      replace hc0 := fun j => hX0.cell j
      replace hl0 := hX0.lt
      replace hX1 := hX1.keep hb
      replace hc1 := fun j => hX1.cell j
      replace hl1 := hX1.lt
      clear hb
      go_wp2_with fail
      go_ret
      exact ⟨rfl, hfr⟩
    · cases hd : inB day 0 2000000
      · go_enter Tryz.func5, Tryz.ntmps5
        go_wp2_with fail
        have hfr := g1
        replace hr1 := hr1.keep g1
        replace hr2 := hr2.keep g1
        replace hT := hT.keep g1
        have hc0 := fun j => hX0.cell j
        have hc1 := fun j => hX1.cell j
        have hl0 := hX0.lt
        have hl1 := hX1.lt
        refine (ltidy_is A1 A2 n1 k1 n2 k2 _ _ _ _ true ht).mono ?_
        rintro e' w1 ⟨rfl, hb⟩
        replace hr1 := hr1.keep hb
        replace hr2 := hr2.keep hb
        replace hT := hT.keep hb
        replace hfr := fr_call hfr hb
        replace hX0 := hX0.keep hb
        replace hc0 := fun j => hX0.cell j
        replace hl0 := hX0.lt
        replace hX1 := hX1.keep hb
        replace hc1 := fun j => hX1.cell j
        replace hl1 := hX1.lt
        clear hb
        go_wp2_with fail
        refine (rRealm_is A1 A2 n1 k1 n2 k2 c1 c2 e1 e2 last _ hr1 hr2 hn1 hn2 _ hok).mono ?_
        rintro e' w2 ⟨rfl, hb⟩
        replace hr1 := hr1.keep hb
        replace hr2 := hr2.keep hb
        replace hT := hT.keep hb
        replace hfr := fr_call hfr hb
        replace hX0 := hX0.keep hb
        replace hc0 := fun j => hX0.cell j
        replace hl0 := hX0.lt
        replace hX1 := hX1.keep hb
        replace hc1 := fun j => hX1.cell j
        replace hl1 := hX1.lt
        clear hb
        go_wp2_with fail
        refine (rNumber_is _ _ _ hd).mono ?_
        rintro e' w3 ⟨rfl, rfl⟩
        go_wp2_with fail
        refine (known_is _ hT).mono ?_
        rintro e' w4 ⟨rfl, hb⟩
        replace hr1 := hr1.keep hb
        replace hr2 := hr2.keep hb
        replace hT := hT.keep hb
        replace hfr := fr_call hfr hb
        replace hX0 := hX0.keep hb
        replace hc0 := fun j => hX0.cell j
        replace hl0 := hX0.lt
        replace hX1 := hX1.keep hb
        replace hc1 := fun j => hX1.cell j
        replace hl1 := hX1.lt
        clear hb
        go_wp2_with fail
        go_ret
        exact ⟨rfl, hfr⟩
      · cases hwr : writtenB y m d
        · go_enter Tryz.func5, Tryz.ntmps5
          go_wp2_with fail
          have hfr := g1
          replace hr1 := hr1.keep g1
          replace hr2 := hr2.keep g1
          replace hT := hT.keep g1
          have hc0 := fun j => hX0.cell j
          have hc1 := fun j => hX1.cell j
          have hl0 := hX0.lt
          have hl1 := hX1.lt
          refine (ltidy_is A1 A2 n1 k1 n2 k2 _ _ _ _ true ht).mono ?_
          rintro e' w1 ⟨rfl, hb⟩
          replace hr1 := hr1.keep hb
          replace hr2 := hr2.keep hb
          replace hT := hT.keep hb
          replace hfr := fr_call hfr hb
          replace hX0 := hX0.keep hb
          replace hc0 := fun j => hX0.cell j
          replace hl0 := hX0.lt
          replace hX1 := hX1.keep hb
          replace hc1 := fun j => hX1.cell j
          replace hl1 := hX1.lt
          clear hb
          go_wp2_with fail
          refine (rRealm_is A1 A2 n1 k1 n2 k2 c1 c2 e1 e2 last _ hr1 hr2 hn1 hn2 _ hok).mono ?_
          rintro e' w2 ⟨rfl, hb⟩
          replace hr1 := hr1.keep hb
          replace hr2 := hr2.keep hb
          replace hT := hT.keep hb
          replace hfr := fr_call hfr hb
          replace hX0 := hX0.keep hb
          replace hc0 := fun j => hX0.cell j
          replace hl0 := hX0.lt
          replace hX1 := hX1.keep hb
          replace hc1 := fun j => hX1.cell j
          replace hl1 := hX1.lt
          clear hb
          go_wp2_with fail
          refine (rNumber_is _ _ _ hd).mono ?_
          rintro e' w3 ⟨rfl, rfl⟩
          go_wp2_with fail
          refine (rWritten_is y m d _ _ hwr).mono ?_
          rintro e' w4 ⟨rfl, hb⟩
          replace hr1 := hr1.keep hb
          replace hr2 := hr2.keep hb
          replace hT := hT.keep hb
          replace hfr := fr_call hfr hb
          replace hX0 := hX0.keep hb
          replace hc0 := fun j => hX0.cell j
          replace hl0 := hX0.lt
          replace hX1 := hX1.keep hb
          replace hc1 := fun j => hX1.cell j
          replace hl1 := hX1.lt
          clear hb
          go_wp2_with fail
          refine (known_is _ hT).mono ?_
          rintro e' w5 ⟨rfl, hb⟩
          replace hr1 := hr1.keep hb
          replace hr2 := hr2.keep hb
          replace hT := hT.keep hb
          replace hfr := fr_call hfr hb
          replace hX0 := hX0.keep hb
          replace hc0 := fun j => hX0.cell j
          replace hl0 := hX0.lt
          replace hX1 := hX1.keep hb
          replace hc1 := fun j => hX1.cell j
          replace hl1 := hX1.lt
          clear hb
          go_wp2_with fail
          go_ret
          exact ⟨rfl, hfr⟩
        · have hk := realm_parts hok
          have hd2 := inB_iff.1 hd
          have hdm := fun x (hx : x ∈ daysOf e1 c1 e2 c2 last y m d) => days_mem hok hx
          have hdt := days_two e1 c1 e2 c2 last y m d
          obtain ⟨ds, gds⟩ : ∃ ds, daysOf e1 c1 e2 c2 last y m d = ds := ⟨_, rfl⟩
          rw [gds] at hdt
          simp only [gds] at hdm
          obtain ⟨hdl, hdu⟩ := hdt
          have hdl2 : decide (2 < (ds.length : Int)) = false := decide_eq_false (by omega)
          have HDS := Lib.hid gds
          have HDM := Lib.hid hdm
          have HDU := Lib.hid hdu
          clear gds hdm hdu
          go_enter Tryz.func5, Tryz.ntmps5
          go_wp2_with fail
          have hfr := g1
          replace hr1 := hr1.keep g1
          replace hr2 := hr2.keep g1
          replace hT := hT.keep g1
          have hc0 := fun j => hX0.cell j
          have hc1 := fun j => hX1.cell j
          have hl0 := hX0.lt
          have hl1 := hX1.lt
          refine (ltidy_is A1 A2 n1 k1 n2 k2 _ _ _ _ true ht).mono ?_
          rintro e' w1 ⟨rfl, hb⟩
          replace hr1 := hr1.keep hb
          replace hr2 := hr2.keep hb
          replace hT := hT.keep hb
          replace hfr := fr_call hfr hb
          replace hX0 := hX0.keep hb
          replace hc0 := fun j => hX0.cell j
          replace hl0 := hX0.lt
          replace hX1 := hX1.keep hb
          replace hc1 := fun j => hX1.cell j
          replace hl1 := hX1.lt
          clear hb
          go_wp2_with fail
          refine (rRealm_is A1 A2 n1 k1 n2 k2 c1 c2 e1 e2 last _ hr1 hr2 hn1 hn2 _ hok).mono ?_
          rintro e' w2 ⟨rfl, hb⟩
          replace hr1 := hr1.keep hb
          replace hr2 := hr2.keep hb
          replace hT := hT.keep hb
          replace hfr := fr_call hfr hb
          replace hX0 := hX0.keep hb
          replace hc0 := fun j => hX0.cell j
          replace hl0 := hX0.lt
          replace hX1 := hX1.keep hb
          replace hc1 := fun j => hX1.cell j
          replace hl1 := hX1.lt
          clear hb
          go_wp2_with fail
          refine (rNumber_is _ _ _ hd).mono ?_
          rintro e' w3 ⟨rfl, rfl⟩
          go_wp2_with fail
          refine (rWritten_is y m d _ _ hwr).mono ?_
          rintro e' w4 ⟨rfl, hb⟩
          replace hr1 := hr1.keep hb
          replace hr2 := hr2.keep hb
          replace hT := hT.keep hb
          replace hfr := fr_call hfr hb
          replace hX0 := hX0.keep hb
          replace hc0 := fun j => hX0.cell j
          replace hl0 := hX0.lt
          replace hX1 := hX1.keep hb
          replace hc1 := fun j => hX1.cell j
          replace hl1 := hX1.lt
          clear hb
          go_wp2_with fail
          refine (Days_ok A1 A2 n1 k1 n2 k2 c1 c2 e1 e2 last y m d _ hr1 hr2 hn1 hn2 hok hwr).mono ?_
          rw [HDS.out]
          rintro e' w5 ⟨AL, cL, rfl, hrL, hb⟩
          replace hr1 := hr1.keep hb
          replace hr2 := hr2.keep hb
          replace hT := hT.keep hb
          replace hfr := fr_call hfr hb
          replace hX0 := hX0.keep hb
          replace hc0 := fun j => hX0.cell j
          replace hl0 := hX0.lt
          replace hX1 := hX1.keep hb
          replace hc1 := fun j => hX1.cell j
          replace hl1 := hX1.lt
          clear hb
          go_wp2_with fail
          go_loopw [9] (fun i wx => ∃ j : Nat, j ≤ ds.length ∧ i = .int .i64 j ∧ Below w5.heap.size w5 wx) (fun i _ => ds.length - (intOf i).toNat)
          case atStart => exact ⟨0, Nat.zero_le _, rfl, fr_refl w5⟩
          case round =>
            obtain ⟨j, hj, rfl, hbel⟩ := hrel
            replace hr1 := hr1.keep hbel
            replace hr2 := hr2.keep hbel
            replace hT := hT.keep hbel
            replace hrL := hrL.keep hbel
            replace hfr := fr_call hfr hbel
            replace hX0 := hX0.keep hbel
            replace hc0 := fun j => hX0.cell j
            replace hl0 := hX0.lt
            replace hX1 := hX1.keep hbel
            replace hc1 := fun j => hX1.cell j
            replace hl1 := hX1.lt
            by_cases hltj : j < ds.length
            · obtain ⟨ad, rfl, hab, hc⟩ := hrL.at_ hltj
              have hmem : ds[j]?.getD 0 ∈ ds := by simp [hltj]
              obtain ⟨honj, hnj⟩ := HDM.out _ hmem
              obtain ⟨xj, gxj⟩ : ∃ q, ds[j]?.getD 0 = q := ⟨_, rfl⟩
              rw [gxj] at honj hnj hc
              have GXJ := Lib.hid gxj
              have HOJ := Lib.hid honj
              have HNJ := Lib.hid hnj
              have hz2 : ad.add 0 = ad := by unfold Addr.add; simp
              have hai : (0 : Int) < (ds.length : Int) := by omega
              have hji : (j : Int) < (ds.length : Int) := by omega
              have hj0 : (0 : Int) ≤ (j : Int) := Int.natCast_nonneg j
              clear gxj honj hnj hmem
              rcases j with _ | i
              · rw [hz2] at hc
                go_wp2_with fail
                refine wp_region_noPanic ?_
                refine wp_region_held_drew (S := fun W => (∀ p : Addr, p.block < (wr).heap.size → W.cell? p = (wr).cell? p) ∧ Below (wr).heap.size (wr) W) (by kernel_rfl) ⟨fun _ _ => rfl, fr_drew (fr_refl _)⟩ (fun hHeld => ?_)
                -- the region, step by step
                refine wpAnyH_take (i := 0) (oi := ⟨some 56, .move (.tmp 9), 3, "law.go:214", #[], none⟩) (v := ?_) rfl (by kernel_rfl) (by kernel_rfl) (by kernel_rfl) (fun _ _ _ h => h) (Or.inl ⟨by rfl, fun W hSw => ?_⟩) hHeld ?_
                rotate_left
                · (try dsimp only at hSw); go_simp; (try with_reducible rfl)
                (try simp only [Act.put, List.setIfInBounds_toArray, List.set_cons_zero, List.set_cons_succ])
                refine wpAnyH_take (i := 1) (oi := ⟨some 57, .binOp .gtr 3 (.tmp 56) (.const (.int .i64 0)) 3, 4, "law.go:214", #[⟨0, .data⟩], none⟩) (v := ?_) rfl (by kernel_rfl) (by kernel_rfl) (by kernel_rfl) (fun _ _ _ h => h) (Or.inl ⟨by rfl, fun W hSw => ?_⟩) hHeld ?_
                rotate_left
                · (try dsimp only at hSw); go_simp; (try with_reducible rfl)
                (try simp only [Act.put, List.setIfInBounds_toArray, List.set_cons_zero, List.set_cons_succ])
                refine wpAnyH_take (i := 2) (oi := ⟨some 58, .move (.tmp 57), 4, "law.go:214", #[⟨1, .data⟩], none⟩) (v := ?_) rfl (by kernel_rfl) (by kernel_rfl) (by kernel_rfl) (fun _ _ _ h => h) (Or.inl ⟨by rfl, fun W hSw => ?_⟩) hHeld ?_
                rotate_left
                · (try dsimp only at hSw); go_simp; (try with_reducible rfl)
                (try simp only [Act.put, List.setIfInBounds_toArray, List.set_cons_zero, List.set_cons_succ])
                refine wpAnyH_take (i := 3) (oi := ⟨some 59, .move (.tmp 7), 22, "law.go:214", #[⟨2, .guard⟩], some (2, true)⟩) (v := undef) rfl (by kernel_rfl) (by kernel_rfl) (by kernel_rfl) (fun _ _ _ h => h) (Or.inr ⟨by rfl, rfl⟩) hHeld ?_
                (try simp only [Act.put, List.setIfInBounds_toArray, List.set_cons_zero, List.set_cons_succ])
                refine wpAnyH_take (i := 4) (oi := ⟨some 60, .move (.tmp 9), 3, "law.go:214", #[⟨2, .guard⟩], some (2, true)⟩) (v := undef) rfl (by kernel_rfl) (by kernel_rfl) (by kernel_rfl) (fun _ _ _ h => h) (Or.inr ⟨by rfl, rfl⟩) hHeld ?_
                (try simp only [Act.put, List.setIfInBounds_toArray, List.set_cons_zero, List.set_cons_succ])
                refine wpAnyH_take (i := 5) (oi := ⟨some 61, .indexAddr 22 (.tmp 59) (.tmp 60), 0, "law.go:214", #[⟨3, .data⟩, ⟨4, .data⟩, ⟨2, .guard⟩], some (2, true)⟩) (v := undef) rfl (by kernel_rfl) (by kernel_rfl) (by kernel_rfl) (fun _ _ _ h => h) (Or.inr ⟨by rfl, rfl⟩) hHeld ?_
                (try simp only [Act.put, List.setIfInBounds_toArray, List.set_cons_zero, List.set_cons_succ])
                refine wpAnyH_take (i := 6) (oi := ⟨some 62, .load 3 (.tmp 61), 3, "law.go:214", #[⟨5, .data⟩, ⟨2, .guard⟩], some (2, true)⟩) (v := undef) rfl (by kernel_rfl) (by kernel_rfl) (by kernel_rfl) (fun _ _ _ h => h) (Or.inr ⟨by rfl, rfl⟩) hHeld ?_
                (try simp only [Act.put, List.setIfInBounds_toArray, List.set_cons_zero, List.set_cons_succ])
                refine wpAnyH_take (i := 7) (oi := ⟨some 63, .move (.tmp 7), 22, "law.go:214", #[⟨2, .guard⟩], some (2, true)⟩) (v := undef) rfl (by kernel_rfl) (by kernel_rfl) (by kernel_rfl) (fun _ _ _ h => h) (Or.inr ⟨by rfl, rfl⟩) hHeld ?_
                (try simp only [Act.put, List.setIfInBounds_toArray, List.set_cons_zero, List.set_cons_succ])
                refine wpAnyH_take (i := 8) (oi := ⟨some 64, .move (.tmp 9), 3, "law.go:214", #[⟨2, .guard⟩], some (2, true)⟩) (v := undef) rfl (by kernel_rfl) (by kernel_rfl) (by kernel_rfl) (fun _ _ _ h => h) (Or.inr ⟨by rfl, rfl⟩) hHeld ?_
                (try simp only [Act.put, List.setIfInBounds_toArray, List.set_cons_zero, List.set_cons_succ])
                refine wpAnyH_take (i := 9) (oi := ⟨some 65, .binOp .sub 3 (.tmp 64) (.const (.int .i64 1)) 3, 3, "law.go:214", #[⟨8, .data⟩, ⟨2, .guard⟩], some (2, true)⟩) (v := undef) rfl (by kernel_rfl) (by kernel_rfl) (by kernel_rfl) (fun _ _ _ h => h) (Or.inr ⟨by rfl, rfl⟩) hHeld ?_
                (try simp only [Act.put, List.setIfInBounds_toArray, List.set_cons_zero, List.set_cons_succ])
                refine wpAnyH_take (i := 10) (oi := ⟨some 66, .indexAddr 22 (.tmp 63) (.tmp 65), 0, "law.go:214", #[⟨7, .data⟩, ⟨9, .data⟩, ⟨2, .guard⟩], some (2, true)⟩) (v := undef) rfl (by kernel_rfl) (by kernel_rfl) (by kernel_rfl) (fun _ _ _ h => h) (Or.inr ⟨by rfl, rfl⟩) hHeld ?_
                (try simp only [Act.put, List.setIfInBounds_toArray, List.set_cons_zero, List.set_cons_succ])
                refine wpAnyH_take (i := 11) (oi := ⟨some 67, .load 3 (.tmp 66), 3, "law.go:214", #[⟨10, .data⟩, ⟨2, .guard⟩], some (2, true)⟩) (v := undef) rfl (by kernel_rfl) (by kernel_rfl) (by kernel_rfl) (fun _ _ _ h => h) (Or.inr ⟨by rfl, rfl⟩) hHeld ?_
                (try simp only [Act.put, List.setIfInBounds_toArray, List.set_cons_zero, List.set_cons_succ])
                refine wpAnyH_take (i := 12) (oi := ⟨some 68, .binOp .leq 3 (.tmp 62) (.tmp 67) 3, 4, "law.go:214", #[⟨6, .data⟩, ⟨11, .data⟩, ⟨2, .guard⟩], some (2, true)⟩) (v := undef) rfl (by kernel_rfl) (by kernel_rfl) (by kernel_rfl) (fun _ _ _ h => h) (Or.inr ⟨by rfl, rfl⟩) hHeld ?_
                (try simp only [Act.put, List.setIfInBounds_toArray, List.set_cons_zero, List.set_cons_succ])
                refine wpAnyH_take (i := 13) (oi := ⟨some 69, .pick (.tmp 58) (.tmp 68) (.const (.bool false)), 4, "law.go:214", #[⟨2, .data⟩, ⟨12, .data⟩], none⟩) (v := ?_) rfl (by kernel_rfl) (by kernel_rfl) (by kernel_rfl) (fun _ _ _ h => h) (Or.inl ⟨by rfl, fun W hSw => ?_⟩) hHeld ?_
                rotate_left
                · (try dsimp only at hSw); go_simp; (try with_reducible rfl)
                (try simp only [Act.put, List.setIfInBounds_toArray, List.set_cons_zero, List.set_cons_succ])
                refine wpAnyH_done (by kernel_rfl) ?_ _
                refine NoPanic.normal ?_
                replace hr1 := hr1.keep hHeld.2
                replace hr2 := hr2.keep hHeld.2
                replace hT := hT.keep hHeld.2
                replace hrL := hrL.keep hHeld.2
                replace hfr := fr_call hfr hHeld.2
                replace hX0 := hX0.keep hHeld.2
                replace hc0 := fun j => hX0.cell j
                replace hl0 := hX0.lt
                replace hX1 := hX1.keep hHeld.2
                replace hc1 := fun j => hX1.cell j
                replace hl1 := hX1.lt
                have hbel := fr_call hbel hHeld.2
                clear hHeld
                generalize wr.drew = wd at *
                obtain ⟨ad', e1', hab', hc'⟩ := hrL.at_ hltj
                obtain rfl : ad = ad' := by injection e1'
                clear e1' hab hc
                rw [hz2] at hc'
                rw [GXJ.out] at hc'
                have habj : (ad.add 0).block < wd.heap.size := by rw [block_of_add]; exact hab'
                have hcz : wd.cell? (ad.add 0) = some (.int .i64 xj) := by rw [hz2]; exact hc'
                go_wp2_with fail
                refine (rNumber_is _ _ _ HNJ.out).mono ?_
                rintro e' wN ⟨rfl, rfl⟩
                go_wp2_with fail
                refine wp_region_noPanic ?_
                refine wp_region_held_drew (S := fun W => (∀ p : Addr, p.block < (wd).heap.size → W.cell? p = (wd).cell? p) ∧ Below (wd).heap.size (wd) W) (by kernel_rfl) ⟨fun _ _ => rfl, fr_drew (fr_refl _)⟩ (fun hHeld => ?_)
                -- the region, step by step, in whatever order
                refine wpAnyH_take (i := 0) (oi := ⟨some 77, .load 26 (.tmp 3), 26, "law.go:220", #[], none⟩) (v := ?_) rfl (by kernel_rfl) (by kernel_rfl) (by kernel_rfl) (fun _ _ _ h => h) (Or.inl ⟨by rfl, fun W hSw => ?_⟩) hHeld ?_
                rotate_left
                · (try dsimp only at hSw); go_simp; (try with_reducible rfl)
                (try simp only [Act.put, List.setIfInBounds_toArray, List.set_cons_zero, List.set_cons_succ])
                refine wpAnyH_take (i := 1) (oi := ⟨some 78, .move (.tmp 7), 22, "law.go:220", #[], none⟩) (v := ?_) rfl (by kernel_rfl) (by kernel_rfl) (by kernel_rfl) (fun _ _ _ h => h) (Or.inl ⟨by rfl, fun W hSw => ?_⟩) hHeld ?_
                rotate_left
                · (try dsimp only at hSw); go_simp; (try with_reducible rfl)
                (try simp only [Act.put, List.setIfInBounds_toArray, List.set_cons_zero, List.set_cons_succ])
                refine wpAnyH_take (i := 2) (oi := ⟨some 79, .move (.tmp 9), 3, "law.go:220", #[], none⟩) (v := ?_) rfl (by kernel_rfl) (by kernel_rfl) (by kernel_rfl) (fun _ _ _ h => h) (Or.inl ⟨by rfl, fun W hSw => ?_⟩) hHeld ?_
                rotate_left
                · (try dsimp only at hSw); go_simp; (try with_reducible rfl)
                (try simp only [Act.put, List.setIfInBounds_toArray, List.set_cons_zero, List.set_cons_succ])
                refine wpAnyH_take (i := 3) (oi := ⟨some 80, .indexAddr 22 (.tmp 78) (.tmp 79), 0, "law.go:220", #[⟨1, .data⟩, ⟨2, .data⟩], none⟩) (v := ?_) rfl (by kernel_rfl) (by kernel_rfl) (by kernel_rfl) (fun _ _ _ h => h) (Or.inl ⟨by rfl, fun W hSw => ?_⟩) hHeld ?_
                rotate_left
                · (try dsimp only at hSw); go_simp; (try with_reducible rfl)
                (try simp only [Act.put, List.setIfInBounds_toArray, List.set_cons_zero, List.set_cons_succ])
                refine wpAnyH_take (i := 4) (oi := ⟨some 81, .load 3 (.tmp 80), 3, "law.go:220", #[⟨3, .data⟩], none⟩) (v := ?_) rfl (by kernel_rfl) (by kernel_rfl) (by kernel_rfl) (fun _ _ _ h => h) (Or.inl ⟨by rfl, fun W hSw => ?_⟩) hHeld ?_
                rotate_left
                · (try dsimp only at hSw); go_simp; (try with_reducible rfl)
                (try simp only [Act.put, List.setIfInBounds_toArray, List.set_cons_zero, List.set_cons_succ])
                refine wpAnyH_ready (rs := [5, 9]) (by kernel_rfl) (by simp) ?_
                refine (AllReadyH.cons (o := ⟨some 82, .call { callee := .value (.func 33), args := #[.tmp 77, .tmp 81], argTypes := #[26, 3] }, 46, "law.go:220", #[⟨0, .data⟩, ⟨4, .data⟩], none⟩) rfl (fun K hK => ?_) (AllReadyH.cons (o := ⟨some 10, .alloc 41, 0, "law.go:220", #[], none⟩) rfl (fun K hK => ?_) AllReadyH.nil))
                · rw [if_pos (by rfl)]
                  go_simp
                  refine (On_ok A1 A2 n1 k1 n2 k2 c1 c2 e1 e2 last xj _ (hr1.keep hHeld.2) (hr2.keep hHeld.2) hn1 hn2 hok HNJ.out).mono ?_
                  rw [HOJ.out]
                  simp only [dateV]
                  rintro e' wA ⟨rfl, hb⟩
                  (try replace hZB := hZB.keep hb)
                  refine hK.out _ _ (kp_step hb hHeld) (fun hHeld => ?_)
                  clear hK K
                  (try simp only [Act.put, List.setIfInBounds_toArray, List.set_cons_zero, List.set_cons_succ])
                  refine wpAnyH_take (i := 6) (oi := ⟨some 76, .move (.tmp 82), 46, "law.go:220", #[⟨5, .data⟩], none⟩) (v := ?_) rfl (by kernel_rfl) (by kernel_rfl) (by kernel_rfl) (fun _ _ _ h => h) (Or.inl ⟨by rfl, fun W hSw => ?_⟩) hHeld ?_
                  rotate_left
                  · (try dsimp only at hSw); go_simp; (try with_reducible rfl)
                  (try simp only [Act.put, List.setIfInBounds_toArray, List.set_cons_zero, List.set_cons_succ])
                  refine wpAnyH_take (i := 7) (oi := ⟨some 83, .extract (.tmp 76) 0, 41, "law.go:220", #[⟨6, .data⟩], none⟩) (v := ?_) rfl (by kernel_rfl) (by kernel_rfl) (by kernel_rfl) (fun _ _ _ h => h) (Or.inl ⟨by rfl, fun W hSw => ?_⟩) hHeld ?_
                  rotate_left
                  · (try dsimp only at hSw); go_simp; (try with_reducible rfl)
                  (try simp only [Act.put, List.setIfInBounds_toArray, List.set_cons_zero, List.set_cons_succ])
                  refine wpAnyH_take (i := 8) (oi := ⟨some 84, .extract (.tmp 76) 1, 33, "law.go:220", #[⟨6, .data⟩, ⟨10, .gcOnly .lateStores⟩], none⟩) (v := ?_) rfl (by kernel_rfl) (by kernel_rfl) (by kernel_rfl) (fun _ _ _ h => h) (Or.inl ⟨by rfl, fun W hSw => ?_⟩) hHeld ?_
                  rotate_left
                  · (try dsimp only at hSw); go_simp; (try with_reducible rfl)
                  (try simp only [Act.put, List.setIfInBounds_toArray, List.set_cons_zero, List.set_cons_succ])
                  refine wpAnyH_ready (rs := [9]) (by kernel_rfl) (by simp) ?_
                  refine (AllReadyH.cons (o := ⟨some 10, .alloc 41, 0, "law.go:220", #[], none⟩) rfl (fun K hK => ?_) AllReadyH.nil)
                  rw [if_pos (by rfl)]
                  refine wp_allocD rfl ?_
                  intro gZ WZ hZB hbZ hgZ
                  have hgZ0 := Nat.le_trans hHeld.2.size hgZ
                  refine hK.out _ _ (kp_step hbZ hHeld) (fun hHeld => ?_)
                  clear hK K
                  (try simp only [Act.put, List.setIfInBounds_toArray, List.set_cons_zero, List.set_cons_succ])
                  refine wpAnyH_ready (rs := [10]) (by kernel_rfl) (by simp) ?_
                  refine (AllReadyH.cons (o := ⟨none, .store 41 (.tmp 10) (.tmp 83), 0, "law.go:220", #[⟨9, .data⟩, ⟨7, .data⟩, ⟨5, .chain⟩, ⟨0, .phase⟩, ⟨1, .phase⟩, ⟨2, .phase⟩, ⟨3, .phase⟩, ⟨4, .phase⟩, ⟨5, .phase⟩, ⟨6, .phase⟩, ⟨7, .phase⟩, ⟨8, .textOnly .lateStores⟩, ⟨9, .phase⟩], none⟩) rfl (fun K hK => ?_) AllReadyH.nil)
                  rw [if_pos (by rfl)]
                  refine wp_store_blk _ _ _ rfl gZ 41 _ _ rfl rfl hZB rfl (by kernel_rfl) (by simp [Value.oneCell']) ?_
                  intro W3 hZ3 hg3
                  refine hK.out _ _ (kp_of (hHeld.2.grown hg3 hHeld.2.size (by intro k hk; cases hk; exact hgZ0))) (fun hHeld => ?_)
                  clear hK K
                  refine wpAnyH_take (i := 11) (oi := ⟨some 11, .assign (.tmp 84), 33, "law.go:220", #[⟨8, .data⟩, ⟨10, .chain⟩, ⟨0, .phase⟩, ⟨1, .phase⟩, ⟨2, .phase⟩, ⟨3, .phase⟩, ⟨4, .phase⟩, ⟨5, .phase⟩, ⟨6, .phase⟩, ⟨7, .phase⟩, ⟨8, .phase⟩, ⟨9, .phase⟩, ⟨10, .phase⟩], none⟩) (v := ?_) rfl (by kernel_rfl) (by kernel_rfl) (by kernel_rfl) (fun _ _ _ h => h) (Or.inl ⟨by rfl, fun W hSw => ?_⟩) hHeld ?_
                  rotate_left
                  · (try dsimp only at hSw); go_simp; (try with_reducible rfl)
                  (try simp only [Act.put, List.setIfInBounds_toArray, List.set_cons_zero, List.set_cons_succ])
                  refine wpAnyH_done (by kernel_rfl) ?_ _
                  refine NoPanic.normal ?_
                  have hY1 := hX1.keep hHeld.2
                  have hcY := fun j => hY1.cell j
                  have hlY := hY1.lt
                  have hcZ := fun j => hZ3.cell j
                  have hlZ := hZ3.lt
                  go_wp2_with fail
                  refine ⟨⟨0 + 1, hltj, by go_num, fr_call hbel hHeld.2⟩, ?_⟩
                  simp [intOf]; omega
                · rw [if_pos (by rfl)]
                  refine wp_allocD rfl ?_
                  intro gZ WZ hZB hbZ hgZ
                  have hgZ0 := Nat.le_trans hHeld.2.size hgZ
                  refine hK.out _ _ (kp_step hbZ hHeld) (fun hHeld => ?_)
                  clear hK K
                  (try simp only [Act.put, List.setIfInBounds_toArray, List.set_cons_zero, List.set_cons_succ])
                  refine wpAnyH_ready (rs := [5]) (by kernel_rfl) (by simp) ?_
                  refine (AllReadyH.cons (o := ⟨some 82, .call { callee := .value (.func 33), args := #[.tmp 77, .tmp 81], argTypes := #[26, 3] }, 46, "law.go:220", #[⟨0, .data⟩, ⟨4, .data⟩], none⟩) rfl (fun K hK => ?_) AllReadyH.nil)
                  rw [if_pos (by rfl)]
                  go_simp
                  refine (On_ok A1 A2 n1 k1 n2 k2 c1 c2 e1 e2 last xj _ (hr1.keep hHeld.2) (hr2.keep hHeld.2) hn1 hn2 hok HNJ.out).mono ?_
                  rw [HOJ.out]
                  simp only [dateV]
                  rintro e' wA ⟨rfl, hb⟩
                  (try replace hZB := hZB.keep hb)
                  refine hK.out _ _ (kp_step hb hHeld) (fun hHeld => ?_)
                  clear hK K
                  (try simp only [Act.put, List.setIfInBounds_toArray, List.set_cons_zero, List.set_cons_succ])
                  refine wpAnyH_take (i := 6) (oi := ⟨some 76, .move (.tmp 82), 46, "law.go:220", #[⟨5, .data⟩], none⟩) (v := ?_) rfl (by kernel_rfl) (by kernel_rfl) (by kernel_rfl) (fun _ _ _ h => h) (Or.inl ⟨by rfl, fun W hSw => ?_⟩) hHeld ?_
                  rotate_left
                  · (try dsimp only at hSw); go_simp; (try with_reducible rfl)
                  (try simp only [Act.put, List.setIfInBounds_toArray, List.set_cons_zero, List.set_cons_succ])
                  refine wpAnyH_take (i := 7) (oi := ⟨some 83, .extract (.tmp 76) 0, 41, "law.go:220", #[⟨6, .data⟩], none⟩) (v := ?_) rfl (by kernel_rfl) (by kernel_rfl) (by kernel_rfl) (fun _ _ _ h => h) (Or.inl ⟨by rfl, fun W hSw => ?_⟩) hHeld ?_
                  rotate_left
                  · (try dsimp only at hSw); go_simp; (try with_reducible rfl)
                  (try simp only [Act.put, List.setIfInBounds_toArray, List.set_cons_zero, List.set_cons_succ])
                  refine wpAnyH_take (i := 8) (oi := ⟨some 84, .extract (.tmp 76) 1, 33, "law.go:220", #[⟨6, .data⟩, ⟨10, .gcOnly .lateStores⟩], none⟩) (v := ?_) rfl (by kernel_rfl) (by kernel_rfl) (by kernel_rfl) (fun _ _ _ h => h) (Or.inl ⟨by rfl, fun W hSw => ?_⟩) hHeld ?_
                  rotate_left
                  · (try dsimp only at hSw); go_simp; (try with_reducible rfl)
                  (try simp only [Act.put, List.setIfInBounds_toArray, List.set_cons_zero, List.set_cons_succ])
                  refine wpAnyH_ready (rs := [10]) (by kernel_rfl) (by simp) ?_
                  refine (AllReadyH.cons (o := ⟨none, .store 41 (.tmp 10) (.tmp 83), 0, "law.go:220", #[⟨9, .data⟩, ⟨7, .data⟩, ⟨5, .chain⟩, ⟨0, .phase⟩, ⟨1, .phase⟩, ⟨2, .phase⟩, ⟨3, .phase⟩, ⟨4, .phase⟩, ⟨5, .phase⟩, ⟨6, .phase⟩, ⟨7, .phase⟩, ⟨8, .textOnly .lateStores⟩, ⟨9, .phase⟩], none⟩) rfl (fun K hK => ?_) AllReadyH.nil)
                  rw [if_pos (by rfl)]
                  refine wp_store_blk _ _ _ rfl gZ 41 _ _ rfl rfl hZB rfl (by kernel_rfl) (by simp [Value.oneCell']) ?_
                  intro W3 hZ3 hg3
                  refine hK.out _ _ (kp_of (hHeld.2.grown hg3 hHeld.2.size (by intro k hk; cases hk; exact hgZ0))) (fun hHeld => ?_)
                  clear hK K
                  refine wpAnyH_take (i := 11) (oi := ⟨some 11, .assign (.tmp 84), 33, "law.go:220", #[⟨8, .data⟩, ⟨10, .chain⟩, ⟨0, .phase⟩, ⟨1, .phase⟩, ⟨2, .phase⟩, ⟨3, .phase⟩, ⟨4, .phase⟩, ⟨5, .phase⟩, ⟨6, .phase⟩, ⟨7, .phase⟩, ⟨8, .phase⟩, ⟨9, .phase⟩, ⟨10, .phase⟩], none⟩) (v := ?_) rfl (by kernel_rfl) (by kernel_rfl) (by kernel_rfl) (fun _ _ _ h => h) (Or.inl ⟨by rfl, fun W hSw => ?_⟩) hHeld ?_
                  rotate_left
                  · (try dsimp only at hSw); go_simp; (try with_reducible rfl)
                  (try simp only [Act.put, List.setIfInBounds_toArray, List.set_cons_zero, List.set_cons_succ])
                  refine wpAnyH_done (by kernel_rfl) ?_ _
                  refine NoPanic.normal ?_
                  have hY1 := hX1.keep hHeld.2
                  have hcY := fun j => hY1.cell j
                  have hlY := hY1.lt
                  have hcZ := fun j => hZ3.cell j
                  have hlZ := hZ3.lt
                  go_wp2_with fail
                  refine ⟨⟨0 + 1, hltj, by go_num, fr_call hbel hHeld.2⟩, ?_⟩
                  simp [intOf]; omega
              · obtain ⟨ad2, e2, hab0, hc0'⟩ := hrL.at_ (show i < ds.length by omega)
                obtain rfl : ad = ad2 := by injection e2
                have hup := HDU.out i (by omega)
                rw [GXJ.out] at hup
                obtain ⟨xi, gxi⟩ : ∃ q, ds[i]?.getD 0 = q := ⟨_, rfl⟩
                rw [gxi] at hup hc0'
                have q4 : decide (xj ≤ xi) = false := decide_eq_false (by omega)
                have q5 : decide (0 < (((i + 1 : Nat)) : Int)) = true := decide_eq_true (by omega)
                have hi0 : (0 : Int) ≤ (i : Int) := Int.natCast_nonneg i
                have habi : (ad.add i).block < wr.heap.size := by rw [block_of_add]; exact hab
                have habj0 : (ad.add (i + 1)).block < wr.heap.size := by rw [block_of_add]; exact hab
                have hj1 : (0 : Int) ≤ (i : Int) + 1 := by omega
                have hj2 : (i : Int) + 1 < (ds.length : Int) := by omega
                have hii : (i : Int) < (ds.length : Int) := by omega
                have hwi : IntKind.i64.wrap (i : Int) = (i : Int) := IntWalk.i64_in _ (by omega)
                have hadd : ad.add (i + 1) = ⟨ad.block, ad.off + (i + 1), none⟩ := by unfold Addr.add; simp
                have HADD := Lib.hid hadd
                have hcS := hc
                rw [hadd] at hcS
                clear e2 gxi hadd
                go_wp2_with fail
                refine wp_region_noPanic ?_
                refine wp_region_held_drew (S := fun W => (∀ p : Addr, p.block < (wr).heap.size → W.cell? p = (wr).cell? p) ∧ Below (wr).heap.size (wr) W) (by kernel_rfl) ⟨fun _ _ => rfl, fr_drew (fr_refl _)⟩ (fun hHeld => ?_)
                -- the region, step by step
                refine wpAnyH_take (i := 0) (oi := ⟨some 56, .move (.tmp 9), 3, "law.go:214", #[], none⟩) (v := ?_) rfl (by kernel_rfl) (by kernel_rfl) (by kernel_rfl) (fun _ _ _ h => h) (Or.inl ⟨by rfl, fun W hSw => ?_⟩) hHeld ?_
                rotate_left
                · (try dsimp only at hSw); go_simp; (try with_reducible rfl)
                (try simp only [Act.put, List.setIfInBounds_toArray, List.set_cons_zero, List.set_cons_succ])
                refine wpAnyH_take (i := 1) (oi := ⟨some 57, .binOp .gtr 3 (.tmp 56) (.const (.int .i64 0)) 3, 4, "law.go:214", #[⟨0, .data⟩], none⟩) (v := ?_) rfl (by kernel_rfl) (by kernel_rfl) (by kernel_rfl) (fun _ _ _ h => h) (Or.inl ⟨by rfl, fun W hSw => ?_⟩) hHeld ?_
                rotate_left
                · (try dsimp only at hSw); go_simp; (try with_reducible rfl)
                (try simp only [Act.put, List.setIfInBounds_toArray, List.set_cons_zero, List.set_cons_succ])
                refine wpAnyH_take (i := 2) (oi := ⟨some 58, .move (.tmp 57), 4, "law.go:214", #[⟨1, .data⟩], none⟩) (v := ?_) rfl (by kernel_rfl) (by kernel_rfl) (by kernel_rfl) (fun _ _ _ h => h) (Or.inl ⟨by rfl, fun W hSw => ?_⟩) hHeld ?_
                rotate_left
                · (try dsimp only at hSw); go_simp; (try with_reducible rfl)
                (try simp only [Act.put, List.setIfInBounds_toArray, List.set_cons_zero, List.set_cons_succ])
                refine wpAnyH_take (i := 3) (oi := ⟨some 59, .move (.tmp 7), 22, "law.go:214", #[⟨2, .guard⟩], some (2, true)⟩) (v := ?_) rfl (by kernel_rfl) (by kernel_rfl) (by kernel_rfl) (fun _ _ _ h => h) (Or.inl ⟨by rfl, fun W hSw => ?_⟩) hHeld ?_
                rotate_left
                · (try dsimp only at hSw); go_simp; (try with_reducible rfl)
                (try simp only [Act.put, List.setIfInBounds_toArray, List.set_cons_zero, List.set_cons_succ])
                refine wpAnyH_take (i := 4) (oi := ⟨some 60, .move (.tmp 9), 3, "law.go:214", #[⟨2, .guard⟩], some (2, true)⟩) (v := ?_) rfl (by kernel_rfl) (by kernel_rfl) (by kernel_rfl) (fun _ _ _ h => h) (Or.inl ⟨by rfl, fun W hSw => ?_⟩) hHeld ?_
                rotate_left
                · (try dsimp only at hSw); go_simp; (try with_reducible rfl)
                (try simp only [Act.put, List.setIfInBounds_toArray, List.set_cons_zero, List.set_cons_succ])
                refine wpAnyH_take (i := 5) (oi := ⟨some 61, .indexAddr 22 (.tmp 59) (.tmp 60), 0, "law.go:214", #[⟨3, .data⟩, ⟨4, .data⟩, ⟨2, .guard⟩], some (2, true)⟩) (v := ?_) rfl (by kernel_rfl) (by kernel_rfl) (by kernel_rfl) (fun _ _ _ h => h) (Or.inl ⟨by rfl, fun W hSw => ?_⟩) hHeld ?_
                rotate_left
                · (try dsimp only at hSw); go_simp; (try with_reducible rfl)
                (try simp only [Act.put, List.setIfInBounds_toArray, List.set_cons_zero, List.set_cons_succ])
                refine wpAnyH_take (i := 6) (oi := ⟨some 62, .load 3 (.tmp 61), 3, "law.go:214", #[⟨5, .data⟩, ⟨2, .guard⟩], some (2, true)⟩) (v := ?_) rfl (by kernel_rfl) (by kernel_rfl) (by kernel_rfl) (fun _ _ _ h => h) (Or.inl ⟨by rfl, fun W hSw => ?_⟩) hHeld ?_
                rotate_left
                · (try dsimp only at hSw); go_simp; (try with_reducible rfl)
                (try simp only [Act.put, List.setIfInBounds_toArray, List.set_cons_zero, List.set_cons_succ])
                refine wpAnyH_take (i := 7) (oi := ⟨some 63, .move (.tmp 7), 22, "law.go:214", #[⟨2, .guard⟩], some (2, true)⟩) (v := ?_) rfl (by kernel_rfl) (by kernel_rfl) (by kernel_rfl) (fun _ _ _ h => h) (Or.inl ⟨by rfl, fun W hSw => ?_⟩) hHeld ?_
                rotate_left
                · (try dsimp only at hSw); go_simp; (try with_reducible rfl)
                (try simp only [Act.put, List.setIfInBounds_toArray, List.set_cons_zero, List.set_cons_succ])
                refine wpAnyH_take (i := 8) (oi := ⟨some 64, .move (.tmp 9), 3, "law.go:214", #[⟨2, .guard⟩], some (2, true)⟩) (v := ?_) rfl (by kernel_rfl) (by kernel_rfl) (by kernel_rfl) (fun _ _ _ h => h) (Or.inl ⟨by rfl, fun W hSw => ?_⟩) hHeld ?_
                rotate_left
                · (try dsimp only at hSw); go_simp; (try with_reducible rfl)
                (try simp only [Act.put, List.setIfInBounds_toArray, List.set_cons_zero, List.set_cons_succ])
                refine wpAnyH_take (i := 9) (oi := ⟨some 65, .binOp .sub 3 (.tmp 64) (.const (.int .i64 1)) 3, 3, "law.go:214", #[⟨8, .data⟩, ⟨2, .guard⟩], some (2, true)⟩) (v := ?_) rfl (by kernel_rfl) (by kernel_rfl) (by kernel_rfl) (fun _ _ _ h => h) (Or.inl ⟨by rfl, fun W hSw => ?_⟩) hHeld ?_
                rotate_left
                · (try dsimp only at hSw); go_simp; (try with_reducible rfl)
                (try simp only [Act.put, List.setIfInBounds_toArray, List.set_cons_zero, List.set_cons_succ])
                refine wpAnyH_take (i := 10) (oi := ⟨some 66, .indexAddr 22 (.tmp 63) (.tmp 65), 0, "law.go:214", #[⟨7, .data⟩, ⟨9, .data⟩, ⟨2, .guard⟩], some (2, true)⟩) (v := ?_) rfl (by kernel_rfl) (by kernel_rfl) (by kernel_rfl) (fun _ _ _ h => h) (Or.inl ⟨by rfl, fun W hSw => ?_⟩) hHeld ?_
                rotate_left
                · (try dsimp only at hSw); go_simp; (try with_reducible rfl)
                (try simp only [Act.put, List.setIfInBounds_toArray, List.set_cons_zero, List.set_cons_succ])
                refine wpAnyH_take (i := 11) (oi := ⟨some 67, .load 3 (.tmp 66), 3, "law.go:214", #[⟨10, .data⟩, ⟨2, .guard⟩], some (2, true)⟩) (v := ?_) rfl (by kernel_rfl) (by kernel_rfl) (by kernel_rfl) (fun _ _ _ h => h) (Or.inl ⟨by rfl, fun W hSw => ?_⟩) hHeld ?_
                rotate_left
                · (try dsimp only at hSw); go_simp; (try with_reducible rfl)
                (try simp only [Act.put, List.setIfInBounds_toArray, List.set_cons_zero, List.set_cons_succ])
                refine wpAnyH_take (i := 12) (oi := ⟨some 68, .binOp .leq 3 (.tmp 62) (.tmp 67) 3, 4, "law.go:214", #[⟨6, .data⟩, ⟨11, .data⟩, ⟨2, .guard⟩], some (2, true)⟩) (v := ?_) rfl (by kernel_rfl) (by kernel_rfl) (by kernel_rfl) (fun _ _ _ h => h) (Or.inl ⟨by rfl, fun W hSw => ?_⟩) hHeld ?_
                rotate_left
                · (try dsimp only at hSw); go_simp; (try with_reducible rfl)
                (try simp only [Act.put, List.setIfInBounds_toArray, List.set_cons_zero, List.set_cons_succ])
                refine wpAnyH_take (i := 13) (oi := ⟨some 69, .pick (.tmp 58) (.tmp 68) (.const (.bool false)), 4, "law.go:214", #[⟨2, .data⟩, ⟨12, .data⟩], none⟩) (v := ?_) rfl (by kernel_rfl) (by kernel_rfl) (by kernel_rfl) (fun _ _ _ h => h) (Or.inl ⟨by rfl, fun W hSw => ?_⟩) hHeld ?_
                rotate_left
                · (try dsimp only at hSw); go_simp; (try with_reducible rfl)
                (try simp only [Act.put, List.setIfInBounds_toArray, List.set_cons_zero, List.set_cons_succ])
                refine wpAnyH_done (by kernel_rfl) ?_ _
                refine NoPanic.normal ?_
                replace hr1 := hr1.keep hHeld.2
                replace hr2 := hr2.keep hHeld.2
                replace hT := hT.keep hHeld.2
                replace hrL := hrL.keep hHeld.2
                replace hfr := fr_call hfr hHeld.2
                replace hX0 := hX0.keep hHeld.2
                replace hc0 := fun j => hX0.cell j
                replace hl0 := hX0.lt
                replace hX1 := hX1.keep hHeld.2
                replace hc1 := fun j => hX1.cell j
                replace hl1 := hX1.lt
                have hbel := fr_call hbel hHeld.2
                clear hHeld
                generalize wr.drew = wd at *
                obtain ⟨ad', e1', hab', hc'⟩ := hrL.at_ hltj
                obtain rfl : ad = ad' := by injection e1'
                clear e1' hab hc hab0 hc0' habi habj0 hcS
                rw [GXJ.out] at hc'
                have habj : (ad.add (i + 1)).block < wd.heap.size := by rw [block_of_add]; exact hab'
                have hcT := hc'
                rw [HADD.out] at hcT
                have hlT : ad.block < wd.heap.size := hab'
                go_wp2_with fail
                refine (rNumber_is _ _ _ HNJ.out).mono ?_
                rintro e' wN ⟨rfl, rfl⟩
                go_wp2_with fail
                refine wp_region_noPanic ?_
                refine wp_region_held_drew (S := fun W => (∀ p : Addr, p.block < (wd).heap.size → W.cell? p = (wd).cell? p) ∧ Below (wd).heap.size (wd) W) (by kernel_rfl) ⟨fun _ _ => rfl, fr_drew (fr_refl _)⟩ (fun hHeld => ?_)
                -- the region, step by step, in whatever order
                refine wpAnyH_take (i := 0) (oi := ⟨some 77, .load 26 (.tmp 3), 26, "law.go:220", #[], none⟩) (v := ?_) rfl (by kernel_rfl) (by kernel_rfl) (by kernel_rfl) (fun _ _ _ h => h) (Or.inl ⟨by rfl, fun W hSw => ?_⟩) hHeld ?_
                rotate_left
                · (try dsimp only at hSw); go_simp; (try with_reducible rfl)
                (try simp only [Act.put, List.setIfInBounds_toArray, List.set_cons_zero, List.set_cons_succ])
                refine wpAnyH_take (i := 1) (oi := ⟨some 78, .move (.tmp 7), 22, "law.go:220", #[], none⟩) (v := ?_) rfl (by kernel_rfl) (by kernel_rfl) (by kernel_rfl) (fun _ _ _ h => h) (Or.inl ⟨by rfl, fun W hSw => ?_⟩) hHeld ?_
                rotate_left
                · (try dsimp only at hSw); go_simp; (try with_reducible rfl)
                (try simp only [Act.put, List.setIfInBounds_toArray, List.set_cons_zero, List.set_cons_succ])
                refine wpAnyH_take (i := 2) (oi := ⟨some 79, .move (.tmp 9), 3, "law.go:220", #[], none⟩) (v := ?_) rfl (by kernel_rfl) (by kernel_rfl) (by kernel_rfl) (fun _ _ _ h => h) (Or.inl ⟨by rfl, fun W hSw => ?_⟩) hHeld ?_
                rotate_left
                · (try dsimp only at hSw); go_simp; (try with_reducible rfl)
                (try simp only [Act.put, List.setIfInBounds_toArray, List.set_cons_zero, List.set_cons_succ])
                refine wpAnyH_take (i := 3) (oi := ⟨some 80, .indexAddr 22 (.tmp 78) (.tmp 79), 0, "law.go:220", #[⟨1, .data⟩, ⟨2, .data⟩], none⟩) (v := ?_) rfl (by kernel_rfl) (by kernel_rfl) (by kernel_rfl) (fun _ _ _ h => h) (Or.inl ⟨by rfl, fun W hSw => ?_⟩) hHeld ?_
                rotate_left
                · (try dsimp only at hSw); go_simp; (try with_reducible rfl)
                (try simp only [Act.put, List.setIfInBounds_toArray, List.set_cons_zero, List.set_cons_succ])
                refine wpAnyH_take (i := 4) (oi := ⟨some 81, .load 3 (.tmp 80), 3, "law.go:220", #[⟨3, .data⟩], none⟩) (v := ?_) rfl (by kernel_rfl) (by kernel_rfl) (by kernel_rfl) (fun _ _ _ h => h) (Or.inl ⟨by rfl, fun W hSw => ?_⟩) hHeld ?_
                rotate_left
                · (try dsimp only at hSw); go_simp; (try with_reducible rfl)
                (try simp only [Act.put, List.setIfInBounds_toArray, List.set_cons_zero, List.set_cons_succ])
                refine wpAnyH_ready (rs := [5, 9]) (by kernel_rfl) (by simp) ?_
                refine (AllReadyH.cons (o := ⟨some 82, .call { callee := .value (.func 33), args := #[.tmp 77, .tmp 81], argTypes := #[26, 3] }, 46, "law.go:220", #[⟨0, .data⟩, ⟨4, .data⟩], none⟩) rfl (fun K hK => ?_) (AllReadyH.cons (o := ⟨some 10, .alloc 41, 0, "law.go:220", #[], none⟩) rfl (fun K hK => ?_) AllReadyH.nil))
                · rw [if_pos (by rfl)]
                  go_simp
                  refine (On_ok A1 A2 n1 k1 n2 k2 c1 c2 e1 e2 last xj _ (hr1.keep hHeld.2) (hr2.keep hHeld.2) hn1 hn2 hok HNJ.out).mono ?_
                  rw [HOJ.out]
                  simp only [dateV]
                  rintro e' wA ⟨rfl, hb⟩
                  (try replace hZB := hZB.keep hb)
                  refine hK.out _ _ (kp_step hb hHeld) (fun hHeld => ?_)
                  clear hK K
                  (try simp only [Act.put, List.setIfInBounds_toArray, List.set_cons_zero, List.set_cons_succ])
                  refine wpAnyH_take (i := 6) (oi := ⟨some 76, .move (.tmp 82), 46, "law.go:220", #[⟨5, .data⟩], none⟩) (v := ?_) rfl (by kernel_rfl) (by kernel_rfl) (by kernel_rfl) (fun _ _ _ h => h) (Or.inl ⟨by rfl, fun W hSw => ?_⟩) hHeld ?_
                  rotate_left
                  · (try dsimp only at hSw); go_simp; (try with_reducible rfl)
                  (try simp only [Act.put, List.setIfInBounds_toArray, List.set_cons_zero, List.set_cons_succ])
                  refine wpAnyH_take (i := 7) (oi := ⟨some 83, .extract (.tmp 76) 0, 41, "law.go:220", #[⟨6, .data⟩], none⟩) (v := ?_) rfl (by kernel_rfl) (by kernel_rfl) (by kernel_rfl) (fun _ _ _ h => h) (Or.inl ⟨by rfl, fun W hSw => ?_⟩) hHeld ?_
                  rotate_left
                  · (try dsimp only at hSw); go_simp; (try with_reducible rfl)
                  (try simp only [Act.put, List.setIfInBounds_toArray, List.set_cons_zero, List.set_cons_succ])
                  refine wpAnyH_take (i := 8) (oi := ⟨some 84, .extract (.tmp 76) 1, 33, "law.go:220", #[⟨6, .data⟩, ⟨10, .gcOnly .lateStores⟩], none⟩) (v := ?_) rfl (by kernel_rfl) (by kernel_rfl) (by kernel_rfl) (fun _ _ _ h => h) (Or.inl ⟨by rfl, fun W hSw => ?_⟩) hHeld ?_
                  rotate_left
                  · (try dsimp only at hSw); go_simp; (try with_reducible rfl)
                  (try simp only [Act.put, List.setIfInBounds_toArray, List.set_cons_zero, List.set_cons_succ])
                  refine wpAnyH_ready (rs := [9]) (by kernel_rfl) (by simp) ?_
                  refine (AllReadyH.cons (o := ⟨some 10, .alloc 41, 0, "law.go:220", #[], none⟩) rfl (fun K hK => ?_) AllReadyH.nil)
                  rw [if_pos (by rfl)]
                  refine wp_allocD rfl ?_
                  intro gZ WZ hZB hbZ hgZ
                  have hgZ0 := Nat.le_trans hHeld.2.size hgZ
                  refine hK.out _ _ (kp_step hbZ hHeld) (fun hHeld => ?_)
                  clear hK K
                  (try simp only [Act.put, List.setIfInBounds_toArray, List.set_cons_zero, List.set_cons_succ])
                  refine wpAnyH_ready (rs := [10]) (by kernel_rfl) (by simp) ?_
                  refine (AllReadyH.cons (o := ⟨none, .store 41 (.tmp 10) (.tmp 83), 0, "law.go:220", #[⟨9, .data⟩, ⟨7, .data⟩, ⟨5, .chain⟩, ⟨0, .phase⟩, ⟨1, .phase⟩, ⟨2, .phase⟩, ⟨3, .phase⟩, ⟨4, .phase⟩, ⟨5, .phase⟩, ⟨6, .phase⟩, ⟨7, .phase⟩, ⟨8, .textOnly .lateStores⟩, ⟨9, .phase⟩], none⟩) rfl (fun K hK => ?_) AllReadyH.nil)
                  rw [if_pos (by rfl)]
                  refine wp_store_blk _ _ _ rfl gZ 41 _ _ rfl rfl hZB rfl (by kernel_rfl) (by simp [Value.oneCell']) ?_
                  intro W3 hZ3 hg3
                  refine hK.out _ _ (kp_of (hHeld.2.grown hg3 hHeld.2.size (by intro k hk; cases hk; exact hgZ0))) (fun hHeld => ?_)
                  clear hK K
                  refine wpAnyH_take (i := 11) (oi := ⟨some 11, .assign (.tmp 84), 33, "law.go:220", #[⟨8, .data⟩, ⟨10, .chain⟩, ⟨0, .phase⟩, ⟨1, .phase⟩, ⟨2, .phase⟩, ⟨3, .phase⟩, ⟨4, .phase⟩, ⟨5, .phase⟩, ⟨6, .phase⟩, ⟨7, .phase⟩, ⟨8, .phase⟩, ⟨9, .phase⟩, ⟨10, .phase⟩], none⟩) (v := ?_) rfl (by kernel_rfl) (by kernel_rfl) (by kernel_rfl) (fun _ _ _ h => h) (Or.inl ⟨by rfl, fun W hSw => ?_⟩) hHeld ?_
                  rotate_left
                  · (try dsimp only at hSw); go_simp; (try with_reducible rfl)
                  (try simp only [Act.put, List.setIfInBounds_toArray, List.set_cons_zero, List.set_cons_succ])
                  refine wpAnyH_done (by kernel_rfl) ?_ _
                  refine NoPanic.normal ?_
                  have hY1 := hX1.keep hHeld.2
                  have hcY := fun j => hY1.cell j
                  have hlY := hY1.lt
                  have hcZ := fun j => hZ3.cell j
                  have hlZ := hZ3.lt
                  go_wp2_with fail
                  refine ⟨⟨(i + 1) + 1, hltj, by go_num, fr_call hbel hHeld.2⟩, ?_⟩
                  simp [intOf]; omega
                · rw [if_pos (by rfl)]
                  refine wp_allocD rfl ?_
                  intro gZ WZ hZB hbZ hgZ
                  have hgZ0 := Nat.le_trans hHeld.2.size hgZ
                  refine hK.out _ _ (kp_step hbZ hHeld) (fun hHeld => ?_)
                  clear hK K
                  (try simp only [Act.put, List.setIfInBounds_toArray, List.set_cons_zero, List.set_cons_succ])
                  refine wpAnyH_ready (rs := [5]) (by kernel_rfl) (by simp) ?_
                  refine (AllReadyH.cons (o := ⟨some 82, .call { callee := .value (.func 33), args := #[.tmp 77, .tmp 81], argTypes := #[26, 3] }, 46, "law.go:220", #[⟨0, .data⟩, ⟨4, .data⟩], none⟩) rfl (fun K hK => ?_) AllReadyH.nil)
                  rw [if_pos (by rfl)]
                  go_simp
                  refine (On_ok A1 A2 n1 k1 n2 k2 c1 c2 e1 e2 last xj _ (hr1.keep hHeld.2) (hr2.keep hHeld.2) hn1 hn2 hok HNJ.out).mono ?_
                  rw [HOJ.out]
                  simp only [dateV]
                  rintro e' wA ⟨rfl, hb⟩
                  (try replace hZB := hZB.keep hb)
                  refine hK.out _ _ (kp_step hb hHeld) (fun hHeld => ?_)
                  clear hK K
                  (try simp only [Act.put, List.setIfInBounds_toArray, List.set_cons_zero, List.set_cons_succ])
                  refine wpAnyH_take (i := 6) (oi := ⟨some 76, .move (.tmp 82), 46, "law.go:220", #[⟨5, .data⟩], none⟩) (v := ?_) rfl (by kernel_rfl) (by kernel_rfl) (by kernel_rfl) (fun _ _ _ h => h) (Or.inl ⟨by rfl, fun W hSw => ?_⟩) hHeld ?_
                  rotate_left
                  · (try dsimp only at hSw); go_simp; (try with_reducible rfl)
                  (try simp only [Act.put, List.setIfInBounds_toArray, List.set_cons_zero, List.set_cons_succ])
                  refine wpAnyH_take (i := 7) (oi := ⟨some 83, .extract (.tmp 76) 0, 41, "law.go:220", #[⟨6, .data⟩], none⟩) (v := ?_) rfl (by kernel_rfl) (by kernel_rfl) (by kernel_rfl) (fun _ _ _ h => h) (Or.inl ⟨by rfl, fun W hSw => ?_⟩) hHeld ?_
                  rotate_left
                  · (try dsimp only at hSw); go_simp; (try with_reducible rfl)
                  (try simp only [Act.put, List.setIfInBounds_toArray, List.set_cons_zero, List.set_cons_succ])
                  refine wpAnyH_take (i := 8) (oi := ⟨some 84, .extract (.tmp 76) 1, 33, "law.go:220", #[⟨6, .data⟩, ⟨10, .gcOnly .lateStores⟩], none⟩) (v := ?_) rfl (by kernel_rfl) (by kernel_rfl) (by kernel_rfl) (fun _ _ _ h => h) (Or.inl ⟨by rfl, fun W hSw => ?_⟩) hHeld ?_
                  rotate_left
                  · (try dsimp only at hSw); go_simp; (try with_reducible rfl)
                  (try simp only [Act.put, List.setIfInBounds_toArray, List.set_cons_zero, List.set_cons_succ])
                  refine wpAnyH_ready (rs := [10]) (by kernel_rfl) (by simp) ?_
                  refine (AllReadyH.cons (o := ⟨none, .store 41 (.tmp 10) (.tmp 83), 0, "law.go:220", #[⟨9, .data⟩, ⟨7, .data⟩, ⟨5, .chain⟩, ⟨0, .phase⟩, ⟨1, .phase⟩, ⟨2, .phase⟩, ⟨3, .phase⟩, ⟨4, .phase⟩, ⟨5, .phase⟩, ⟨6, .phase⟩, ⟨7, .phase⟩, ⟨8, .textOnly .lateStores⟩, ⟨9, .phase⟩], none⟩) rfl (fun K hK => ?_) AllReadyH.nil)
                  rw [if_pos (by rfl)]
                  refine wp_store_blk _ _ _ rfl gZ 41 _ _ rfl rfl hZB rfl (by kernel_rfl) (by simp [Value.oneCell']) ?_
                  intro W3 hZ3 hg3
                  refine hK.out _ _ (kp_of (hHeld.2.grown hg3 hHeld.2.size (by intro k hk; cases hk; exact hgZ0))) (fun hHeld => ?_)
                  clear hK K
                  refine wpAnyH_take (i := 11) (oi := ⟨some 11, .assign (.tmp 84), 33, "law.go:220", #[⟨8, .data⟩, ⟨10, .chain⟩, ⟨0, .phase⟩, ⟨1, .phase⟩, ⟨2, .phase⟩, ⟨3, .phase⟩, ⟨4, .phase⟩, ⟨5, .phase⟩, ⟨6, .phase⟩, ⟨7, .phase⟩, ⟨8, .phase⟩, ⟨9, .phase⟩, ⟨10, .phase⟩], none⟩) (v := ?_) rfl (by kernel_rfl) (by kernel_rfl) (by kernel_rfl) (fun _ _ _ h => h) (Or.inl ⟨by rfl, fun W hSw => ?_⟩) hHeld ?_
                  rotate_left
                  · (try dsimp only at hSw); go_simp; (try with_reducible rfl)
                  (try simp only [Act.put, List.setIfInBounds_toArray, List.set_cons_zero, List.set_cons_succ])
                  refine wpAnyH_done (by kernel_rfl) ?_ _
                  refine NoPanic.normal ?_
                  have hY1 := hX1.keep hHeld.2
                  have hcY := fun j => hY1.cell j
                  have hlY := hY1.lt
                  have hcZ := fun j => hZ3.cell j
                  have hlZ := hZ3.lt
                  go_wp2_with fail
                  refine ⟨⟨(i + 1) + 1, hltj, by go_num, fr_call hbel hHeld.2⟩, ?_⟩
                  simp [intOf]; omega
            · have hbelN := hbel
              by_cases hle : day ≤ last
              · have hod : onOf e1 c1 e2 c2 last day = dateOf e1 c1 day := by unfold onOf; rw [if_pos hle]
                have HLE := Lib.hid hle
                clear hle hbelN
                rcases ho : onOf e1 c1 e2 c2 last day with _ | x
                · rw [ho] at hod
                  have HO := Lib.hid ho
                  have HOD := Lib.hid hod.symm
                  clear ho hod
                  go_wp2_with fail
                  refine (On_ok A1 A2 n1 k1 n2 k2 c1 c2 e1 e2 last day _ hr1 hr2 hn1 hn2 hok hd).mono ?_
                  rw [HO.out]
                  simp only [dateV]
                  rintro e' w7 ⟨rfl, hb⟩
                  replace hr1 := hr1.keep hb
                  replace hr2 := hr2.keep hb
                  replace hT := hT.keep hb
                  replace hrL := hrL.keep hb
                  replace hfr := fr_call hfr hb
                  replace hX0 := hX0.keep hb
                  replace hc0 := fun j => hX0.cell j
                  replace hl0 := hX0.lt
                  replace hX1 := hX1.keep hb
                  replace hc1 := fun j => hX1.cell j
                  replace hl1 := hX1.lt
                  clear hb
                  go_wp2_with fail
                  have ga := fr_alloc (fr_refl w7) (.cells #[.int .i64 0, .int .i64 0, .int .i64 0] 41)
                  replace hr1 := hr1.keep ga
                  replace hr2 := hr2.keep ga
                  replace hT := hT.keep ga
                  replace hrL := hrL.keep ga
                  replace hfr := fr_call hfr ga
                  replace hX0 := hX0.keep ga
                  replace hc0 := fun j => hX0.cell j
                  replace hl0 := hX0.lt
                  replace hX1 := hX1.keep ga
                  replace hc1 := fun j => hX1.cell j
                  replace hl1 := hX1.lt
                  have hX2 := Blk.new w7 41 #[.int .i64 0, .int .i64 0, .int .i64 0]
                  have hc2 := fun j => hX2.cell j
                  have hl2 := hX2.lt
                  clear ga
                  refine (rIn_any A1 A2 n1 k1 n2 k2 e1 e2 last day _).mono ?_
                  rw [decide_eq_true HLE.out, inV_yes]
                  rintro e' w8 ⟨rfl, hb⟩
                  replace hr1 := hr1.keep hb
                  replace hr2 := hr2.keep hb
                  replace hT := hT.keep hb
                  replace hrL := hrL.keep hb
                  replace hfr := fr_call hfr hb
                  replace hX0 := hX0.keep hb
                  replace hc0 := fun j => hX0.cell j
                  replace hl0 := hX0.lt
                  replace hX1 := hX1.keep hb
                  replace hc1 := fun j => hX1.cell j
                  replace hl1 := hX1.lt
                  replace hX2 := hX2.keep hb
                  replace hc2 := fun j => hX2.cell j
                  replace hl2 := hX2.lt
                  clear hb
                  go_wp2_with fail
                  refine (Date_ok A1 n1 k1 c1 e1 day _ hr1 hn1 hk.1 hd).mono ?_
                  rw [HOD.out]
                  simp only [dateV]
                  rintro e' w9 ⟨rfl, hb⟩
                  replace hr1 := hr1.keep hb
                  replace hr2 := hr2.keep hb
                  replace hT := hT.keep hb
                  replace hrL := hrL.keep hb
                  replace hfr := fr_call hfr hb
                  replace hX0 := hX0.keep hb
                  replace hc0 := fun j => hX0.cell j
                  replace hl0 := hX0.lt
                  replace hX1 := hX1.keep hb
                  replace hc1 := fun j => hX1.cell j
                  replace hl1 := hX1.lt
                  replace hX2 := hX2.keep hb
                  replace hc2 := fun j => hX2.cell j
                  replace hl2 := hX2.lt
                  clear hb
                  go_wp2_with fail
                  have ga := fr_alloc (fr_refl w9) (.cells #[.int .i64 0, .int .i64 0, .int .i64 0] 41)
                  replace hr1 := hr1.keep ga
                  replace hr2 := hr2.keep ga
                  replace hT := hT.keep ga
                  replace hrL := hrL.keep ga
                  replace hfr := fr_call hfr ga
                  replace hX0 := hX0.keep ga
                  replace hc0 := fun j => hX0.cell j
                  replace hl0 := hX0.lt
                  replace hX1 := hX1.keep ga
                  replace hc1 := fun j => hX1.cell j
                  replace hl1 := hX1.lt
                  replace hX2 := hX2.keep ga
                  replace hc2 := fun j => hX2.cell j
                  replace hl2 := hX2.lt
                  have hX3 := Blk.new w9 41 #[.int .i64 0, .int .i64 0, .int .i64 0]
                  have hc3 := fun j => hX3.cell j
                  have hl3 := hX3.lt
                  clear ga
                  refine (known_is _ hT).mono ?_
                  rintro e' w10 ⟨rfl, hb⟩
                  replace hr1 := hr1.keep hb
                  replace hr2 := hr2.keep hb
                  replace hT := hT.keep hb
                  replace hrL := hrL.keep hb
                  replace hfr := fr_call hfr hb
                  replace hX0 := hX0.keep hb
                  replace hc0 := fun j => hX0.cell j
                  replace hl0 := hX0.lt
                  replace hX1 := hX1.keep hb
                  replace hc1 := fun j => hX1.cell j
                  replace hl1 := hX1.lt
                  replace hX2 := hX2.keep hb
                  replace hc2 := fun j => hX2.cell j
                  replace hl2 := hX2.lt
                  replace hX3 := hX3.keep hb
                  replace hc3 := fun j => hX3.cell j
                  replace hl3 := hX3.lt
                  clear hb
                  go_wp2_with fail
                  go_ret
                  exact ⟨rfl, hfr⟩
                · obtain ⟨xy, xm, xd⟩ := x
                  rw [ho] at hod
                  have HXW := Lib.hid (on_written ho)
                  have hmm := days_has ho
                  have hmt := (days_two e1 c1 e2 c2 last xy xm xd).1
                  obtain ⟨ms, gms⟩ : ∃ ms, daysOf e1 c1 e2 c2 last xy xm xd = ms := ⟨_, rfl⟩
                  rw [gms] at hmm hmt
                  have HTW := Lib.hid (twice_snoc hmm hd2.1)
                  have hmp : 0 < ms.length := List.length_pos_of_mem hmm
                  have hml2 : decide (2 < (ms.length : Int)) = false := decide_eq_false (by omega)
                  have HMS := Lib.hid gms
                  have HO := Lib.hid ho
                  have HOD := Lib.hid hod.symm
                  clear ho hod gms hmm
                  go_wp2_with fail
                  refine (On_ok A1 A2 n1 k1 n2 k2 c1 c2 e1 e2 last day _ hr1 hr2 hn1 hn2 hok hd).mono ?_
                  rw [HO.out]
                  simp only [dateV]
                  rintro e' w7 ⟨rfl, hb⟩
                  replace hr1 := hr1.keep hb
                  replace hr2 := hr2.keep hb
                  replace hT := hT.keep hb
                  replace hrL := hrL.keep hb
                  replace hfr := fr_call hfr hb
                  replace hX0 := hX0.keep hb
                  replace hc0 := fun j => hX0.cell j
                  replace hl0 := hX0.lt
                  replace hX1 := hX1.keep hb
                  replace hc1 := fun j => hX1.cell j
                  replace hl1 := hX1.lt
                  clear hb
                  go_wp2_with fail
                  have ga := fr_alloc (fr_refl w7) (.cells #[.int .i64 xy, .int .i64 xm, .int .i64 xd] 41)
                  replace hr1 := hr1.keep ga
                  replace hr2 := hr2.keep ga
                  replace hT := hT.keep ga
                  replace hrL := hrL.keep ga
                  replace hfr := fr_call hfr ga
                  replace hX0 := hX0.keep ga
                  replace hc0 := fun j => hX0.cell j
                  replace hl0 := hX0.lt
                  replace hX1 := hX1.keep ga
                  replace hc1 := fun j => hX1.cell j
                  replace hl1 := hX1.lt
                  have hX2 := Blk.new w7 41 #[.int .i64 xy, .int .i64 xm, .int .i64 xd]
                  have hc2 := fun j => hX2.cell j
                  have hl2 := hX2.lt
                  clear ga
                  refine (rIn_any A1 A2 n1 k1 n2 k2 e1 e2 last day _).mono ?_
                  rw [decide_eq_true HLE.out, inV_yes]
                  rintro e' w8 ⟨rfl, hb⟩
                  replace hr1 := hr1.keep hb
                  replace hr2 := hr2.keep hb
                  replace hT := hT.keep hb
                  replace hrL := hrL.keep hb
                  replace hfr := fr_call hfr hb
                  replace hX0 := hX0.keep hb
                  replace hc0 := fun j => hX0.cell j
                  replace hl0 := hX0.lt
                  replace hX1 := hX1.keep hb
                  replace hc1 := fun j => hX1.cell j
                  replace hl1 := hX1.lt
                  replace hX2 := hX2.keep hb
                  replace hc2 := fun j => hX2.cell j
                  replace hl2 := hX2.lt
                  clear hb
                  go_wp2_with fail
                  refine (Date_ok A1 n1 k1 c1 e1 day _ hr1 hn1 hk.1 hd).mono ?_
                  rw [HOD.out]
                  simp only [dateV]
                  rintro e' w9 ⟨rfl, hb⟩
                  replace hr1 := hr1.keep hb
                  replace hr2 := hr2.keep hb
                  replace hT := hT.keep hb
                  replace hrL := hrL.keep hb
                  replace hfr := fr_call hfr hb
                  replace hX0 := hX0.keep hb
                  replace hc0 := fun j => hX0.cell j
                  replace hl0 := hX0.lt
                  replace hX1 := hX1.keep hb
                  replace hc1 := fun j => hX1.cell j
                  replace hl1 := hX1.lt
                  replace hX2 := hX2.keep hb
                  replace hc2 := fun j => hX2.cell j
                  replace hl2 := hX2.lt
                  clear hb
                  go_wp2_with fail
                  have ga := fr_alloc (fr_refl w9) (.cells #[.int .i64 xy, .int .i64 xm, .int .i64 xd] 41)
                  replace hr1 := hr1.keep ga
                  replace hr2 := hr2.keep ga
                  replace hT := hT.keep ga
                  replace hrL := hrL.keep ga
                  replace hfr := fr_call hfr ga
                  replace hX0 := hX0.keep ga
                  replace hc0 := fun j => hX0.cell j
                  replace hl0 := hX0.lt
                  replace hX1 := hX1.keep ga
                  replace hc1 := fun j => hX1.cell j
                  replace hl1 := hX1.lt
                  replace hX2 := hX2.keep ga
                  replace hc2 := fun j => hX2.cell j
                  replace hl2 := hX2.lt
                  have hX3 := Blk.new w9 41 #[.int .i64 xy, .int .i64 xm, .int .i64 xd]
                  have hc3 := fun j => hX3.cell j
                  have hl3 := hX3.lt
                  clear ga
                  refine (Days_ok A1 A2 n1 k1 n2 k2 c1 c2 e1 e2 last xy xm xd _ hr1 hr2 hn1 hn2 hok HXW.out).mono ?_
                  rw [HMS.out]
                  rintro e' w10 ⟨AM, cM, rfl, hrM, hb⟩
                  replace hr1 := hr1.keep hb
                  replace hr2 := hr2.keep hb
                  replace hT := hT.keep hb
                  replace hrL := hrL.keep hb
                  replace hfr := fr_call hfr hb
                  replace hX0 := hX0.keep hb
                  replace hc0 := fun j => hX0.cell j
                  replace hl0 := hX0.lt
                  replace hX1 := hX1.keep hb
                  replace hc1 := fun j => hX1.cell j
                  replace hl1 := hX1.lt
                  replace hX2 := hX2.keep hb
                  replace hc2 := fun j => hX2.cell j
                  replace hl2 := hX2.lt
                  replace hX3 := hX3.keep hb
                  replace hc3 := fun j => hX3.cell j
                  replace hl3 := hX3.lt
                  clear hb
                  go_wp2_with (first | (at_builtin; refine wpList_app_slice rfl (.const (.slice none 0 0)) (.tmp 134) rfl w10.heap.size _ [] rfl (Own.nil _ _) AM ms.length cM ms rfl hrM hmp (by simp) (by omega) (Nat.le_refl _) ?_; intro A3 c3 W1 hO1 hg1; rw [show ([] : List Int).length + ms.length = ms.length by simp] at hO1 ⊢; rw [List.nil_append] at hO1) | (at_builtin; refine app_int rfl (.tmp 135) (.tmp 137) rfl w10.heap.size _ ms rfl rfl hO1 (by omega) hg1.size ?_; intro A4 c4 W2 hO2 hg2))
                  have hb1 : Below w10.heap.size w10 W1 := (fr_refl w10).grown hg1 (Nat.le_refl _) (fun i hi => by cases hi)
                  have hb2 : Below w10.heap.size w10 W2 := (fr_alloc hb1 _).grown hg2 (fr_alloc hb1 _).size (own_ge hO1)
                  refine (rTwice_is A4 (ms.length + 1) c4 (ms ++ [day]) _ hO2.rd (by omega) true HTW.out).mono ?_
                  rintro e' w11 ⟨rfl, hb3⟩
                  go_wp2_with fail
                  refine (known_is _ ((hT.keep hb2).keep hb3)).mono ?_
                  rintro e' w12 ⟨rfl, hb4⟩
                  go_wp2_with fail
                  go_ret
                  exact ⟨rfl, fr_call (fr_call (fr_call hfr hb2) hb3) hb4⟩
              · have hod : onOf e1 c1 e2 c2 last day = dateOf e2 c2 day := by unfold onOf; rw [if_neg hle]
                have HLE := Lib.hid hle
                clear hle hbelN
                rcases ho : onOf e1 c1 e2 c2 last day with _ | x
                · rw [ho] at hod
                  have HO := Lib.hid ho
                  have HOD := Lib.hid hod.symm
                  clear ho hod
                  go_wp2_with fail
                  refine (On_ok A1 A2 n1 k1 n2 k2 c1 c2 e1 e2 last day _ hr1 hr2 hn1 hn2 hok hd).mono ?_
                  rw [HO.out]
                  simp only [dateV]
                  rintro e' w7 ⟨rfl, hb⟩
                  replace hr1 := hr1.keep hb
                  replace hr2 := hr2.keep hb
                  replace hT := hT.keep hb
                  replace hrL := hrL.keep hb
                  replace hfr := fr_call hfr hb
                  replace hX0 := hX0.keep hb
                  replace hc0 := fun j => hX0.cell j
                  replace hl0 := hX0.lt
                  replace hX1 := hX1.keep hb
                  replace hc1 := fun j => hX1.cell j
                  replace hl1 := hX1.lt
                  clear hb
                  go_wp2_with fail
                  have ga := fr_alloc (fr_refl w7) (.cells #[.int .i64 0, .int .i64 0, .int .i64 0] 41)
                  replace hr1 := hr1.keep ga
                  replace hr2 := hr2.keep ga
                  replace hT := hT.keep ga
                  replace hrL := hrL.keep ga
                  replace hfr := fr_call hfr ga
                  replace hX0 := hX0.keep ga
                  replace hc0 := fun j => hX0.cell j
                  replace hl0 := hX0.lt
                  replace hX1 := hX1.keep ga
                  replace hc1 := fun j => hX1.cell j
                  replace hl1 := hX1.lt
                  have hX2 := Blk.new w7 41 #[.int .i64 0, .int .i64 0, .int .i64 0]
                  have hc2 := fun j => hX2.cell j
                  have hl2 := hX2.lt
                  clear ga
                  refine (rIn_any A1 A2 n1 k1 n2 k2 e1 e2 last day _).mono ?_
                  rw [decide_eq_false (show ¬ day ≤ last by have := HLE.out; omega), inV_no]
                  rintro e' w8 ⟨rfl, hb⟩
                  replace hr1 := hr1.keep hb
                  replace hr2 := hr2.keep hb
                  replace hT := hT.keep hb
                  replace hrL := hrL.keep hb
                  replace hfr := fr_call hfr hb
                  replace hX0 := hX0.keep hb
                  replace hc0 := fun j => hX0.cell j
                  replace hl0 := hX0.lt
                  replace hX1 := hX1.keep hb
                  replace hc1 := fun j => hX1.cell j
                  replace hl1 := hX1.lt
                  replace hX2 := hX2.keep hb
                  replace hc2 := fun j => hX2.cell j
                  replace hl2 := hX2.lt
                  clear hb
                  go_wp2_with fail
                  refine (Date_ok A2 n2 k2 c2 e2 day _ hr2 hn2 hk.2 hd).mono ?_
                  rw [HOD.out]
                  simp only [dateV]
                  rintro e' w9 ⟨rfl, hb⟩
                  replace hr1 := hr1.keep hb
                  replace hr2 := hr2.keep hb
                  replace hT := hT.keep hb
                  replace hrL := hrL.keep hb
                  replace hfr := fr_call hfr hb
                  replace hX0 := hX0.keep hb
                  replace hc0 := fun j => hX0.cell j
                  replace hl0 := hX0.lt
                  replace hX1 := hX1.keep hb
                  replace hc1 := fun j => hX1.cell j
                  replace hl1 := hX1.lt
                  replace hX2 := hX2.keep hb
                  replace hc2 := fun j => hX2.cell j
                  replace hl2 := hX2.lt
                  clear hb
                  go_wp2_with fail
                  have ga := fr_alloc (fr_refl w9) (.cells #[.int .i64 0, .int .i64 0, .int .i64 0] 41)
                  replace hr1 := hr1.keep ga
                  replace hr2 := hr2.keep ga
                  replace hT := hT.keep ga
                  replace hrL := hrL.keep ga
                  replace hfr := fr_call hfr ga
                  replace hX0 := hX0.keep ga
                  replace hc0 := fun j => hX0.cell j
                  replace hl0 := hX0.lt
                  replace hX1 := hX1.keep ga
                  replace hc1 := fun j => hX1.cell j
                  replace hl1 := hX1.lt
                  replace hX2 := hX2.keep ga
                  replace hc2 := fun j => hX2.cell j
                  replace hl2 := hX2.lt
                  have hX3 := Blk.new w9 41 #[.int .i64 0, .int .i64 0, .int .i64 0]
                  have hc3 := fun j => hX3.cell j
                  have hl3 := hX3.lt
                  clear ga
                  refine (known_is _ hT).mono ?_
                  rintro e' w10 ⟨rfl, hb⟩
                  replace hr1 := hr1.keep hb
                  replace hr2 := hr2.keep hb
                  replace hT := hT.keep hb
                  replace hrL := hrL.keep hb
                  replace hfr := fr_call hfr hb
                  replace hX0 := hX0.keep hb
                  replace hc0 := fun j => hX0.cell j
                  replace hl0 := hX0.lt
                  replace hX1 := hX1.keep hb
                  replace hc1 := fun j => hX1.cell j
                  replace hl1 := hX1.lt
                  replace hX2 := hX2.keep hb
                  replace hc2 := fun j => hX2.cell j
                  replace hl2 := hX2.lt
                  replace hX3 := hX3.keep hb
                  replace hc3 := fun j => hX3.cell j
                  replace hl3 := hX3.lt
                  clear hb
                  go_wp2_with fail
                  go_ret
                  exact ⟨rfl, hfr⟩
                · obtain ⟨xy, xm, xd⟩ := x
                  rw [ho] at hod
                  have HXW := Lib.hid (on_written ho)
                  have hmm := days_has ho
                  have hmt := (days_two e1 c1 e2 c2 last xy xm xd).1
                  obtain ⟨ms, gms⟩ : ∃ ms, daysOf e1 c1 e2 c2 last xy xm xd = ms := ⟨_, rfl⟩
                  rw [gms] at hmm hmt
                  have HTW := Lib.hid (twice_snoc hmm hd2.1)
                  have hmp : 0 < ms.length := List.length_pos_of_mem hmm
                  have hml2 : decide (2 < (ms.length : Int)) = false := decide_eq_false (by omega)
                  have HMS := Lib.hid gms
                  have HO := Lib.hid ho
                  have HOD := Lib.hid hod.symm
                  clear ho hod gms hmm
                  go_wp2_with fail
                  refine (On_ok A1 A2 n1 k1 n2 k2 c1 c2 e1 e2 last day _ hr1 hr2 hn1 hn2 hok hd).mono ?_
                  rw [HO.out]
                  simp only [dateV]
                  rintro e' w7 ⟨rfl, hb⟩
                  replace hr1 := hr1.keep hb
                  replace hr2 := hr2.keep hb
                  replace hT := hT.keep hb
                  replace hrL := hrL.keep hb
                  replace hfr := fr_call hfr hb
                  replace hX0 := hX0.keep hb
                  replace hc0 := fun j => hX0.cell j
                  replace hl0 := hX0.lt
                  replace hX1 := hX1.keep hb
                  replace hc1 := fun j => hX1.cell j
                  replace hl1 := hX1.lt
                  clear hb
                  go_wp2_with fail
                  have ga := fr_alloc (fr_refl w7) (.cells #[.int .i64 xy, .int .i64 xm, .int .i64 xd] 41)
                  replace hr1 := hr1.keep ga
                  replace hr2 := hr2.keep ga
                  replace hT := hT.keep ga
                  replace hrL := hrL.keep ga
                  replace hfr := fr_call hfr ga
                  replace hX0 := hX0.keep ga
                  replace hc0 := fun j => hX0.cell j
                  replace hl0 := hX0.lt
                  replace hX1 := hX1.keep ga
                  replace hc1 := fun j => hX1.cell j
                  replace hl1 := hX1.lt
                  have hX2 := Blk.new w7 41 #[.int .i64 xy, .int .i64 xm, .int .i64 xd]
                  have hc2 := fun j => hX2.cell j
                  have hl2 := hX2.lt
                  clear ga
                  refine (rIn_any A1 A2 n1 k1 n2 k2 e1 e2 last day _).mono ?_
                  rw [decide_eq_false (show ¬ day ≤ last by have := HLE.out; omega), inV_no]
                  rintro e' w8 ⟨rfl, hb⟩
                  replace hr1 := hr1.keep hb
                  replace hr2 := hr2.keep hb
                  replace hT := hT.keep hb
                  replace hrL := hrL.keep hb
                  replace hfr := fr_call hfr hb
                  replace hX0 := hX0.keep hb
                  replace hc0 := fun j => hX0.cell j
                  replace hl0 := hX0.lt
                  replace hX1 := hX1.keep hb
                  replace hc1 := fun j => hX1.cell j
                  replace hl1 := hX1.lt
                  replace hX2 := hX2.keep hb
                  replace hc2 := fun j => hX2.cell j
                  replace hl2 := hX2.lt
                  clear hb
                  go_wp2_with fail
                  refine (Date_ok A2 n2 k2 c2 e2 day _ hr2 hn2 hk.2 hd).mono ?_
                  rw [HOD.out]
                  simp only [dateV]
                  rintro e' w9 ⟨rfl, hb⟩
                  replace hr1 := hr1.keep hb
                  replace hr2 := hr2.keep hb
                  replace hT := hT.keep hb
                  replace hrL := hrL.keep hb
                  replace hfr := fr_call hfr hb
                  replace hX0 := hX0.keep hb
                  replace hc0 := fun j => hX0.cell j
                  replace hl0 := hX0.lt
                  replace hX1 := hX1.keep hb
                  replace hc1 := fun j => hX1.cell j
                  replace hl1 := hX1.lt
                  replace hX2 := hX2.keep hb
                  replace hc2 := fun j => hX2.cell j
                  replace hl2 := hX2.lt
                  clear hb
                  go_wp2_with fail
                  have ga := fr_alloc (fr_refl w9) (.cells #[.int .i64 xy, .int .i64 xm, .int .i64 xd] 41)
                  replace hr1 := hr1.keep ga
                  replace hr2 := hr2.keep ga
                  replace hT := hT.keep ga
                  replace hrL := hrL.keep ga
                  replace hfr := fr_call hfr ga
                  replace hX0 := hX0.keep ga
                  replace hc0 := fun j => hX0.cell j
                  replace hl0 := hX0.lt
                  replace hX1 := hX1.keep ga
                  replace hc1 := fun j => hX1.cell j
                  replace hl1 := hX1.lt
                  replace hX2 := hX2.keep ga
                  replace hc2 := fun j => hX2.cell j
                  replace hl2 := hX2.lt
                  have hX3 := Blk.new w9 41 #[.int .i64 xy, .int .i64 xm, .int .i64 xd]
                  have hc3 := fun j => hX3.cell j
                  have hl3 := hX3.lt
                  clear ga
                  refine (Days_ok A1 A2 n1 k1 n2 k2 c1 c2 e1 e2 last xy xm xd _ hr1 hr2 hn1 hn2 hok HXW.out).mono ?_
                  rw [HMS.out]
                  rintro e' w10 ⟨AM, cM, rfl, hrM, hb⟩
                  replace hr1 := hr1.keep hb
                  replace hr2 := hr2.keep hb
                  replace hT := hT.keep hb
                  replace hrL := hrL.keep hb
                  replace hfr := fr_call hfr hb
                  replace hX0 := hX0.keep hb
                  replace hc0 := fun j => hX0.cell j
                  replace hl0 := hX0.lt
                  replace hX1 := hX1.keep hb
                  replace hc1 := fun j => hX1.cell j
                  replace hl1 := hX1.lt
                  replace hX2 := hX2.keep hb
                  replace hc2 := fun j => hX2.cell j
                  replace hl2 := hX2.lt
                  replace hX3 := hX3.keep hb
                  replace hc3 := fun j => hX3.cell j
                  replace hl3 := hX3.lt
                  clear hb
                  go_wp2_with (first | (at_builtin; refine wpList_app_slice rfl (.const (.slice none 0 0)) (.tmp 134) rfl w10.heap.size _ [] rfl (Own.nil _ _) AM ms.length cM ms rfl hrM hmp (by simp) (by omega) (Nat.le_refl _) ?_; intro A3 c3 W1 hO1 hg1; rw [show ([] : List Int).length + ms.length = ms.length by simp] at hO1 ⊢; rw [List.nil_append] at hO1) | (at_builtin; refine app_int rfl (.tmp 135) (.tmp 137) rfl w10.heap.size _ ms rfl rfl hO1 (by omega) hg1.size ?_; intro A4 c4 W2 hO2 hg2))
                  have hb1 : Below w10.heap.size w10 W1 := (fr_refl w10).grown hg1 (Nat.le_refl _) (fun i hi => by cases hi)
                  have hb2 : Below w10.heap.size w10 W2 := (fr_alloc hb1 _).grown hg2 (fr_alloc hb1 _).size (own_ge hO1)
                  refine (rTwice_is A4 (ms.length + 1) c4 (ms ++ [day]) _ hO2.rd (by omega) true HTW.out).mono ?_
                  rintro e' w11 ⟨rfl, hb3⟩
                  go_wp2_with fail
                  refine (known_is _ ((hT.keep hb2).keep hb3)).mono ?_
                  rintro e' w12 ⟨rfl, hb4⟩
                  go_wp2_with fail
                  go_ret
                  exact ⟨rfl, fr_call (fr_call (fr_call hfr hb2) hb3) hb4⟩
end Go.Proofs.YtnppilaabobgiaaGreatDoor
