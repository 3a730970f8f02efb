/- Walk: append of rows, all at once. -/
import Derived.Test.YtfgghicdkcjdgaaGreatDoorMG2
import Derived.Test.YtfgghicdkcjdgaaGreatDoorMG17
namespace Go.Proofs.YtfgghicdkcjdgaaGreatDoor
open Go.RowKit Go.Shelf

theorem flat_at {k : Nat} : ∀ {rows : List (List Value)} (_ : ∀ r ∈ rows, r.length = k) (j : Nat) (u : Value), rows.flatten[j]? = some u → ∃ i r t, rows[i]? = some r ∧ r[t]? = some u ∧ j = i * k + t
 | [], _, j, u, h => by simp at h
 | r0 :: rows, hk, j, u, h => by
  rw [List.flatten_cons] at h
  by_cases hj : j < r0.length
  ·rw [List.getElem?_append_left hj] at h
   exact ⟨0, r0, j, rfl, h, by omega⟩
  ·rw [List.getElem?_append_right (by omega)] at h
   obtain ⟨i, r, t, h1, h2, h3⟩ := flat_at (fun r hr => hk r (by simp [hr])) _ u h
   have h0 := hk r0 (by simp)
   exact ⟨i + 1, r, t, by simpa using h1, h2, by rw [Nat.add_mul]; omega⟩
section
variable {o : Oper} {a : Act} {w : World} {K : Act → World → Prop} {Q : Exit → Act → World → Prop}
/-- 'append(s, l...)' of rows of k cells -/
theorem wp_app_rows {T E : TypeId} {z : Value} {k bytes : Nat} (s x : Operand)
  (ho : o.op = .call { callee := .builtin .append, args := #[s, x], argTypes := #[T, T] }) (hu : Tryz.prog.underlying T = some (.slice E)) (hinfo : (Tryz.prog.info? E).map (fun i => (i.zero, i.size, i.bytes)) = some (some z, k, bytes)) (hzk : z.cells.size = k) (hk : 0 < k) (hby : bytes ≤ 1000)
  (base : Nat) (v : Value) (rows : List (List Value)) (hs : a.eval s = v) (hown : OwnS w base E k v rows) (ad : Addr) (n c : Nat) (news : List (List Value)) (hx : a.eval x = .slice (some ad) n c) (hnl : news.length = n) (hrd : RdS w (some ad) k news) (hrl : ∀ r ∈ news, r.length = k) (h1 : ∀ r ∈ news, ∀ u ∈ r, u.oneCell' = true) (hn : rows.length + n < 1000000) (hbase : base ≤ w.heap.size)
  (h : ∀ A c w', OwnS w' base E k (.slice A (rows.length + n) c) (rows ++ news) → w.grownBy w' v.ownBlock → K (a.put o.dst (.slice A (rows.length + n) c)) w') : o.wp Tryz.prog a w K Q := by
 obtain ⟨i0, hi, hz0, hz1, hz2⟩ := info_parts hinfo
 have hb : (rows.length + n) * bytes ≤ 1000000 * 1000 := Nat.mul_le_mul (by omega) hby
 refine wp_append_own w s x _ ho base _ i0 _ k bytes hu hi hz0 hz1 hz2 hzk hk v _ _ hs hown.1 ad n c news.flatten hx (by rw [flat_len hrl, hnl]) ?_ (fun u hu => by
   obtain ⟨r, hr, hur⟩ := List.mem_flatten.1 hu
   exact h1 r hr u hur)
  (by unfold maxLen; omega) (by omega) hbase ?_
 ·intro j u hj
  obtain ⟨i, r, t, e1, e2, rfl⟩ := flat_at hrl j u hj
  obtain ⟨ad', e, _, _, hc⟩ := hrd.at_ e1
  cases e
  exact hc t u e2
 ·intro v' w' hown' hgr _
  have hown2 : OwnS w' base E k v' (rows ++ news) := by
   refine ⟨?_, fun q hq => ?_⟩
   ·rw [List.length_append, List.flatten_append, hnl]
    exact hown'
   ·rcases List.mem_append.1 hq with h2 | h2
    ·exact hown.2 q h2
    ·exact hrl q h2
  obtain ⟨A, c, rfl⟩ := hown2.form
  rw [List.length_append, hnl] at hown2 ⊢
  exact h A c w' hown2 hgr
end
end Go.Proofs.YtfgghicdkcjdgaaGreatDoor
