/- The laws' helper listed; slices of facts that are put together in a region. -/
import Derived.Test.YtnppilaabobgiaaGreatDoorMEC
import Derived.Test.YtnppilaabobgiaaGreatDoorMB1
namespace Go.Proofs.YtnppilaabobgiaaGreatDoor
open Go.RowKit Dl

set_option maxRecDepth 100000 in
set_option maxHeartbeats 4000000 in
theorem llisted_is (A : Option Addr) (n c : Nat) (xs : List Int) (x : Int) (w : World) (hr : Rd w A n xs) (hn : n ≤ 500) (b : Bool) (hb : xs.contains x = b) :
    Calls Tryz.prog 49 #[.slice A n c, .int .i64 x] w fun e w' => e = .returned (.bool b) ∧ w = w' := by
  subst hb
  have HL := Lib.hid hr.len
  go_enter Tryz.func49, Tryz.ntmps49
  go_wp2
  go_loop [5] (fun i => ∃ k : Nat, k ≤ n ∧ i = .int .i64 k ∧ (xs.take k).contains x = false) (fun i => n - (intOf i).toNat)
  case atStart => exact ⟨0, Nat.zero_le _, rfl, by simp⟩
  case round =>
    obtain ⟨k, hk, rfl, hq⟩ := hrel
    by_cases hlt : k < n
    · obtain ⟨ad, rfl, hab, hc⟩ := hr.at_ hlt
      have hst := take_snoc' xs k (by have := HL.out; omega)
      have hkl : k < xs.length := by have := HL.out; omega
      have hmem : xs[k]?.getD 0 ∈ xs := by simp [hkl]
      have hk5 : (k : Int) < 500 := by omega
      have HQ := Lib.hid hq
      have HST := Lib.hid hst
      clear hst hq
      obtain ⟨v, hv⟩ : ∃ v, xs[k]?.getD 0 = v := ⟨_, rfl⟩
      rw [hv] at hc hmem
      have HV := Lib.hid hv
      clear hv
      by_cases hvx : v = x
      · subst hvx
        go_wp2_with fail
        go_ret
        exact ⟨ret_bool (by simp), rfl⟩
      · go_wp2_with fail
        go_round
        case rel =>
          refine ⟨k + 1, hlt, by go_num, ?_⟩
          rw [HST.out, HV.out]
          have h1 := HQ.out
          rw [Bool.eq_false_iff] at h1 ⊢
          intro h
          rw [List.contains_iff_mem, List.mem_append] at h
          rcases h with h | h
          · exact h1 (List.contains_iff_mem.2 h)
          · exact hvx (List.mem_singleton.1 h).symm
        case measure => simp [intOf]; omega
    · obtain rfl : k = n := by omega
      rw [List.take_of_length_le (by have := HL.out; omega)] at hq
      go_wp2_with fail
      go_ret
      exact ⟨ret_bool (by simpa using hq), rfl⟩

theorem info_fact : (Tryz.prog.info? 103).map (fun i => (i.zero, i.size, i.bytes)) = some (some (.agg #[.int .i64 0, .int .i64 0, .int .i64 0, .int .i64 0]), 4, 32) := by kernel_rfl
theorem OwnS.len4 {w : World} {base : Nat} {v : Value} {l : List Fact} (h : OwnS w base 103 4 v (l.map Fact.row)) : ∃ A c, v = .slice A l.length c := by
  obtain ⟨A, c, e⟩ := h.form
  rw [List.length_map] at e
  exact ⟨A, c, e⟩
section
variable {o : Oper} {a : Act} {w : World} {K : Act → World → Prop} {Q : Exit → Act → World → Prop}
/-- 'append(s, xs...)' of facts, the row s being the call's own -/
theorem wp_app_facts (s x : Operand) (ho : o.op = .call { callee := .builtin .append, args := #[s, x], argTypes := #[79, 79] }) (base : Nat) (v : Value) (l1 : List Fact) (hs : a.eval s = v) (hown : OwnS w base 103 4 v (l1.map Fact.row))
    (A : Option Addr) (n c : Nat) (l2 : List Fact) (hx : a.eval x = .slice A n c) (hl2 : l2.length = n) (hr : RdS w A 4 (l2.map Fact.row)) (hn1 : l1.length ≤ 1000000) (hn2 : n ≤ 1000000) (hbase : base ≤ w.heap.size)
    (h : ∀ A' c' w', OwnS w' base 103 4 (.slice A' (l1.length + n) c') ((l1 ++ l2).map Fact.row) → w.grownBy w' v.ownBlock → K (a.put o.dst (.slice A' (l1.length + n) c')) w') : o.wp Tryz.prog a w K Q := by
  obtain ⟨i0, hi, hz0, hz1, hz2⟩ := info_parts info_fact
  cases A with
  | none =>
    have hn0 : n = 0 := by
      rcases Nat.eq_zero_or_pos n with h0 | h0
      · exact h0
      · obtain ⟨ad, e, _⟩ := hr (by rw [List.length_map]; omega)
        cases e
    subst hn0
    obtain rfl : l2 = [] := List.eq_nil_of_length_eq_zero hl2
    obtain ⟨A1, c1, hv⟩ := hown.len4
    have hrun := run_app_none (ty := o.type) Tryz.underlying79 hi hown.1 c
    rw [List.append_nil] at h
    have h1 := h A1 c1 w (by rw [← show v = .slice A1 (l1.length + 0) c1 by rw [hv, Nat.add_zero]]; exact hown) (World.grownBy.refl w _)
    rw [Nat.add_zero, ← hv] at h1
    unfold Oper.wp
    simp [execOp, ho, resolve, invoke, builtin, hs, hx, hrun, Result.andThen]
    exact h1
  | some ad =>
    have hfl : (l2.map Fact.row).flatten.length = n * 4 := by rw [flat_len (fact_rows l2), List.length_map, hl2]
    refine wp_append_own w s x _ ho base _ i0 _ 4 32 Tryz.underlying79 hi hz0 hz1 hz2 rfl (by omega) v _ _ hs hown.1 ad n c (l2.map Fact.row).flatten hx hfl ?_ ?_
      (by rw [List.length_map]; unfold maxLen; omega) (by rw [List.length_map]; omega) hbase ?_
    · intro j u hj
      have hjl := (List.getElem?_eq_some_iff.1 hj).1
      rw [hfl] at hjl
      have hi4 : j / 4 < l2.length := by omega
      have hrow : (l2.map Fact.row)[j / 4]? = some (l2[j / 4].row) := by simp [hi4]
      obtain ⟨ad', e, _, _, hc⟩ := hr.at_ hrow
      cases e
      have hr4 : (l2[j / 4].row).length = 4 := rfl
      obtain ⟨u', hu'⟩ : ∃ u', (l2[j / 4].row)[j % 4]? = some u' := ⟨(l2[j / 4].row)[j % 4]'(by rw [hr4]; omega), List.getElem?_eq_getElem _⟩
      have h1 := flat_get (fact_rows l2) (j / 4) _ (j % 4) u' hrow hu'
      rw [show j / 4 * 4 + j % 4 = j by omega, hj] at h1
      cases h1
      have := hc (j % 4) _ hu'
      rw [show j / 4 * 4 + j % 4 = j by omega] at this
      exact this
    · intro u hu
      obtain ⟨r, hr1, hr2⟩ := List.mem_flatten.1 hu
      obtain ⟨f, _, rfl⟩ := List.mem_map.1 hr1
      simp only [Fact.row, List.mem_cons, List.not_mem_nil, or_false] at hr2
      rcases hr2 with rfl | rfl | rfl | rfl <;> rfl
    · intro v' w' hown' hg _
      have hown2 : OwnS w' base 103 4 v' ((l1 ++ l2).map Fact.row) := by
        refine ⟨?_, fact_rows _⟩
        rw [List.map_append, List.length_append, List.flatten_append, List.length_map, List.length_map, hl2]
        rw [List.length_map] at hown'
        exact hown'
      obtain ⟨A', c', rfl⟩ := hown2.len4
      rw [List.length_append, hl2] at hown2 ⊢
      exact h A' c' w' hown2 hg
end
end Go.Proofs.YtnppilaabobgiaaGreatDoor
