/- The laws' helper listed; slices of facts that are put together in a region. -/
import Derived.Test.YthjblcboainknaaGreatDoorMEC
import Derived.Test.YthjblcboainknaaGreatDoorMB1
namespace Go.Proofs.YthjblcboainknaaGreatDoor
open Go.RowKit Dl

theorem info_fact : (Tryz.prog.info? 69).map (fun i => (i.zero, i.size, i.bytes)) = some (some (.agg #[.int .i64 0, .int .i64 0, .int .i64 0, .int .i64 0]), 4, 32) := by kernel_rfl
theorem OwnS.len4 {w : World} {base : Nat} {v : Value} {l : List Fact} (h : OwnS w base 69 4 v (l.map Fact.row)) : ∃ A c, v = .slice A l.length c := by
 obtain ⟨A, c, e⟩ := h.form
 rw [List.length_map] at e
 exact ⟨A, c, e⟩
section
variable {o : Oper} {a : Act} {w : World} {K : Act → World → Prop} {Q : Exit → Act → World → Prop}
/-- 'append(s, xs...)' of facts, the row s being the call's own -/
theorem wp_app_facts (s x : Operand) (ho : o.op = .call { callee := .builtin .append, args := #[s, x], argTypes := #[27, 27] }) (base : Nat) (v : Value) (l1 : List Fact) (hs : a.eval s = v) (hown : OwnS w base 69 4 v (l1.map Fact.row))
  (A : Option Addr) (n c : Nat) (l2 : List Fact) (hx : a.eval x = .slice A n c) (hl2 : l2.length = n) (hr : RdS w A 4 (l2.map Fact.row)) (hn1 : l1.length ≤ 1000000) (hn2 : n ≤ 1000000) (hbase : base ≤ w.heap.size)
  (h : ∀ A' c' w', OwnS w' base 69 4 (.slice A' (l1.length + n) c') ((l1 ++ l2).map Fact.row) → w.grownBy w' v.ownBlock → K (a.put o.dst (.slice A' (l1.length + n) c')) w') : o.wp Tryz.prog a w K Q := by
 obtain ⟨i0, hi, hz0, hz1, hz2⟩ := info_parts info_fact
 cases A with
 | none =>
  have hn0 : n = 0 := by
   rcases Nat.eq_zero_or_pos n with h0 | h0
   ·exact h0
   ·obtain ⟨ad, e, _⟩ := hr (by rw [List.length_map]; omega)
    cases e
  subst hn0
  obtain rfl : l2 = [] := List.eq_nil_of_length_eq_zero hl2
  obtain ⟨A1, c1, hv⟩ := hown.len4
  have hrun := run_app_none (ty := o.type) Tryz.underlying27 hi hown.1 c
  rw [List.append_nil] at h
  have h1 := h A1 c1 w (by rw [← show v = .slice A1 (l1.length + 0) c1 by rw [hv, Nat.add_zero]]; exact hown) (World.grownBy.refl w _)
  rw [Nat.add_zero, ← hv] at h1
  unfold Oper.wp
  simp [execOp, ho, resolve, invoke, builtin, hs, hx, hrun, Result.andThen]
  exact h1
 | some ad =>
  have hfl : (l2.map Fact.row).flatten.length = n * 4 := by rw [flat_len (fact_rows l2), List.length_map, hl2]
  refine wp_append_own w s x _ ho base _ i0 _ 4 32 Tryz.underlying27 hi hz0 hz1 hz2 rfl (by omega) v _ _ hs hown.1 ad n c (l2.map Fact.row).flatten hx hfl ?_ ?_
   (by rw [List.length_map]; unfold maxLen; omega) (by rw [List.length_map]; omega) hbase ?_
  ·intro j u hj
   have hjl := (List.getElem?_eq_some_iff.1 hj).1
   rw [hfl] at hjl
   have hi4 : j / 4 < l2.length := by omega
   have hrow : (l2.map Fact.row)[j / 4]? = some (l2[j / 4].row) := by simp [hi4]
   obtain ⟨ad', e, _, _, hc⟩ := hr.at_ hrow
   cases e
   have hr4 : (l2[j / 4].row).length = 4 := rfl
   obtain ⟨u', hu'⟩ : ∃ u', (l2[j / 4].row)[j % 4]? = some u' := ⟨(l2[j / 4].row)[j % 4]'(by rw [hr4]; omega), List.getElem?_eq_getElem _⟩
   have h1 := flat_get (fact_rows l2) (j / 4) _ (j % 4) u' hrow hu'
   rw [show j / 4 * 4 + j % 4 = j by omega, hj] at h1
   cases h1
   have := hc (j % 4) _ hu'
   rw [show j / 4 * 4 + j % 4 = j by omega] at this
   exact this
  ·intro u hu
   obtain ⟨r, hr1, hr2⟩ := List.mem_flatten.1 hu
   obtain ⟨f, _, rfl⟩ := List.mem_map.1 hr1
   simp only [Fact.row, List.mem_cons, List.not_mem_nil, or_false] at hr2
   rcases hr2 with rfl | rfl | rfl | rfl <;> rfl
  ·intro v' w' hown' hg _
   have hown2 : OwnS w' base 69 4 v' ((l1 ++ l2).map Fact.row) := by
    refine ⟨?_, fact_rows _⟩
    rw [List.map_append, List.length_append, List.flatten_append, List.length_map, List.length_map, hl2]
    rw [List.length_map] at hown'
    exact hown'
   obtain ⟨A', c', rfl⟩ := hown2.len4
   rw [List.length_append, hl2] at hown2 ⊢
   exact h A' c' w' hown2 hg
end
end Go.Proofs.YthjblcboainknaaGreatDoor
