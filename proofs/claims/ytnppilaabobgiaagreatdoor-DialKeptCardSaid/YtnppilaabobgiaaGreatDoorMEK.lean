/- Plain: what the keepers of dials set. -/
import Derived.Test.YtnppilaabobgiaaGreatDoorMC2
import Derived.Test.YtnppilaabobgiaaGreatDoorMP
namespace Go.Proofs.YtnppilaabobgiaaGreatDoor
open Go.RowKit Dl

/-- an increasing list of days in (a, b] -/
def DaysIn (a b : Int) (l : List Int) : Prop := (∀ n ∈ l, a < n ∧ n ≤ b) ∧ (∀ i j : Nat, i < j → ∀ x z : Int, l[i]? = some x → l[j]? = some z → x < z) ∧ (l.length : Int) ≤ b - a
theorem DaysIn.nil {a b : Int} (h : a ≤ b) : DaysIn a b [] := ⟨fun n h => by simp at h, fun i j _ x z h => by simp at h, by simp; omega⟩
theorem DaysIn.same {a b : Int} {l : List Int} (h : DaysIn a b l) : DaysIn a (b + 1) l := ⟨fun n hn => by have := h.1 n hn; omega, h.2.1, by have := h.2.2; omega⟩
theorem DaysIn.snoc {a b : Int} {l : List Int} (h : DaysIn a b l) (hab : a ≤ b) : DaysIn a (b + 1) (l ++ [b + 1]) := by
  refine ⟨fun n hn => ?_, fun i j hij x z hx hz => ?_, by have := h.2.2; simp; omega⟩
  · rcases List.mem_append.1 hn with h1 | h1
    · have := h.1 n h1; omega
    · have := List.mem_singleton.1 h1; omega
  · have hj : j < l.length + 1 := by have := (List.getElem?_eq_some_iff.1 hz).1; simpa using this
    have hil : i < l.length := by omega
    rw [List.getElem?_append_left hil] at hx
    have hxm := h.1 x (List.mem_of_getElem? hx)
    by_cases hjl : j < l.length
    · rw [List.getElem?_append_left hjl] at hz
      exact h.2.1 i j hij x z hx hz
    · obtain rfl : j = l.length := by omega
      simp at hz
      omega

theorem set_day (x : Dial) (t : Date) : (x.set t).day = t.d := by cases x <;> rfl
section
variable {on : Int → Option Date} {fr : Int} {N : Nat} (hon : ∀ k : Nat, k < N → on (fr + k) ≠ none)
include hon
/-- the keeper who comes daily, and what all keepers have in common -/
theorem keep_days (x0 : Dial) (comes : Int) : ∀ k, k < N → DaysIn fr (fr + k) (keepN on x0 comes fr (k + 1)).out ∧ (∀ n ∈ (keepN on x0 comes fr (k + 1)).out, comes < 0 ∨ wkd n = comes) ∧
    0 ≤ (keepN on x0 comes fr (k + 1)).wrong ∧ (keepN on x0 comes fr (k + 1)).wrong ≤ k ∧ (comes < 0 → (keepN on x0 comes fr (k + 1)).wrong = 0 ∧ ∀ t, on (fr + k) = some t → (keepN on x0 comes fr (k + 1)).x.day = t.d) := by
  intro k
  induction k with
  | zero =>
    intro h
    obtain ⟨t, ht⟩ := Option.ne_none_iff_exists'.1 (hon 0 h)
    have e : keepN on x0 comes fr (0 + 1) = ⟨x0.set t, [], 0⟩ := by
      show (match on (fr + (0 : Nat)) with | some d => _ | none => _) = _
      rw [ht]
      rfl
    rw [e]
    refine ⟨DaysIn.nil (by simp), fun n h => by simp at h, Int.le_refl _, by simp, fun _ => ⟨rfl, fun t' h' => ?_⟩⟩
    rw [ht] at h'
    cases h'
    exact set_day _ _
  | succ k ih =>
    intro h
    obtain ⟨h1, h2, h3, h4, h5⟩ := ih (by omega)
    obtain ⟨t, ht⟩ := Option.ne_none_iff_exists'.1 (hon (k + 1) h)
    have e : keepN on x0 comes fr (k + 1 + 1) = keepStep comes (fr + ((k + 1 : Nat) : Int)) false (keepN on x0 comes fr (k + 1)) t := by
      show (match on (fr + ((k + 1 : Nat) : Int)) with | some d => _ | none => _) = _
      rw [ht]
      rfl
    have ef : fr + ((k + 1 : Nat) : Int) = fr + k + 1 := by push_cast; omega
    rw [e]
    generalize keepN on x0 comes fr (k + 1) = s at *
    unfold keepStep
    rw [if_neg (by decide : ¬ (false = true))]
    by_cases c1 : s.x.next.day = t.d
    · rw [if_pos c1, ef]
      refine ⟨h1.same, h2, h3, by push_cast; omega, fun hc => ⟨(h5 hc).1, fun t' h' => ?_⟩⟩
      rw [← ef, ht] at h'
      cases h'
      exact c1
    · rw [if_neg c1, ef]
      by_cases c2 : comes < 0 ∨ wkd (fr + k + 1) = comes
      · rw [if_pos c2]
        refine ⟨h1.snoc (by omega), fun n hn => ?_, h3, by push_cast; omega, fun hc => ⟨(h5 hc).1, fun t' h' => ?_⟩⟩
        · rcases List.mem_append.1 hn with hn | hn
          · exact h2 n hn
          · rw [List.mem_singleton.1 hn]; exact c2
        · rw [← ef, ht] at h'
          cases h'
          exact set_day _ _
      · rw [if_neg c2]
        refine ⟨h1.same, h2, by show 0 ≤ s.wrong + 1; omega, by show s.wrong + 1 ≤ _; push_cast; omega, fun hc => absurd (Or.inl hc) c2⟩
/-- the daily keeper against any other -/
theorem keep_two (x0 : Dial) (comes : Int) : ∀ k, k < N →
    ((keepN on x0 (-1) fr (k + 1)).out = [] → (keepN on x0 comes fr (k + 1)).x = (keepN on x0 (-1) fr (k + 1)).x ∧ (keepN on x0 comes fr (k + 1)).out = [] ∧ (keepN on x0 comes fr (k + 1)).wrong = 0) ∧
    ((keepN on x0 (-1) fr (k + 1)).out ≠ [] → (keepN on x0 comes fr (k + 1)).out ≠ [] ∨ 0 < (keepN on x0 comes fr (k + 1)).wrong) ∧
    (∀ b ∈ (keepN on x0 comes fr (k + 1)).out, ∃ a, (keepN on x0 (-1) fr (k + 1)).out[0]? = some a ∧ a ≤ b) := by
  intro k
  induction k with
  | zero =>
    intro h
    obtain ⟨t, ht⟩ := Option.ne_none_iff_exists'.1 (hon 0 h)
    have e : ∀ comes, keepN on x0 comes fr (0 + 1) = ⟨x0.set t, [], 0⟩ := fun comes => by
      show (match on (fr + (0 : Nat)) with | some d => _ | none => _) = _
      rw [ht]
      rfl
    rw [e, e]
    exact ⟨fun _ => ⟨rfl, rfl, rfl⟩, fun h => absurd rfl h, fun b hb => by simp at hb⟩
  | succ k ih =>
    intro h
    have hA := (keep_days hon x0 (-1) k (by omega)).1
    have hw := (keep_days hon x0 comes k (by omega)).2.2.1
    obtain ⟨h1, h2, h3⟩ := ih (by omega)
    obtain ⟨t, ht⟩ := Option.ne_none_iff_exists'.1 (hon (k + 1) h)
    have e : ∀ comes, keepN on x0 comes fr (k + 1 + 1) = keepStep comes (fr + ((k + 1 : Nat) : Int)) false (keepN on x0 comes fr (k + 1)) t := fun comes => by
      show (match on (fr + ((k + 1 : Nat) : Int)) with | some d => _ | none => _) = _
      rw [ht]
      rfl
    have ef : fr + ((k + 1 : Nat) : Int) = fr + k + 1 := by push_cast; omega
    rw [e, e, ef]
    generalize keepN on x0 comes fr (k + 1) = s at *
    generalize keepN on x0 (-1) fr (k + 1) = r at *
    have hr : keepStep (-1) (fr + k + 1) false r t = if r.x.next.day = t.d then ⟨r.x.next, r.out, r.wrong⟩ else ⟨r.x.next.set t, r.out ++ [fr + k + 1], r.wrong⟩ := by
      unfold keepStep
      rw [if_neg (by decide : ¬ (false = true))]
      split
      · rfl
      · rw [if_pos (Or.inl (by decide))]
    rw [hr]
    have hle : ∀ a, r.out[0]? = some a → a ≤ fr + k + 1 := fun a ha => by have := hA.1 a (List.mem_of_getElem? ha); omega
    by_cases c0 : r.out = []
    · obtain ⟨g1, g2, g3⟩ := h1 c0
      unfold keepStep
      rw [if_neg (by decide : ¬ (false = true)), g1]
      by_cases c1 : r.x.next.day = t.d
      · rw [if_pos c1, if_pos c1]
        exact ⟨fun _ => ⟨rfl, g2, g3⟩, fun h => absurd c0 h, fun b hb => by rw [g2] at hb; simp at hb⟩
      · rw [if_neg c1, if_neg c1]
        refine ⟨fun h => by simp at h, fun _ => ?_, fun b hb => ?_⟩
        · split
          · left; simp
          · right; show 0 < s.wrong + 1; omega
        · refine ⟨fr + k + 1, by rw [c0]; rfl, ?_⟩
          split at hb
          · rw [g2] at hb
            have := List.mem_singleton.1 hb
            omega
          · rw [g2] at hb; simp at hb
    · have ho : ∀ a, r.out[0]? = some a → (if r.x.next.day = t.d then (⟨r.x.next, r.out, r.wrong⟩ : KSt) else ⟨r.x.next.set t, r.out ++ [fr + k + 1], r.wrong⟩).out[0]? = some a := fun a ha => by
        split
        · exact ha
        · show (r.out ++ [fr + k + 1])[0]? = some a
          rw [List.getElem?_append_left (by exact (List.getElem?_eq_some_iff.1 ha).1)]
          exact ha
      obtain ⟨a0, ha0⟩ : ∃ a, r.out[0]? = some a := by
        cases hq : r.out with
        | nil => exact absurd hq c0
        | cons a l => exact ⟨a, rfl⟩
      refine ⟨fun h => ?_, fun _ => ?_, fun b hb => ?_⟩
      · have := ho a0 ha0
        rw [h] at this
        simp at this
      · unfold keepStep
        rw [if_neg (by decide : ¬ (false = true))]
        have := h2 c0
        split
        · exact this
        · split
          · left; simp
          · right; show 0 < s.wrong + 1; omega
      · refine ⟨a0, ho a0 ha0, ?_⟩
        unfold keepStep at hb
        rw [if_neg (by decide : ¬ (false = true))] at hb
        have old : b ∈ s.out → a0 ≤ b := fun hb => by
          obtain ⟨a, g1, g2⟩ := h3 b hb
          rw [ha0] at g1
          cases g1
          exact g2
        split at hb
        · exact old hb
        · split at hb
          · rcases List.mem_append.1 hb with hb | hb
            · exact old hb
            · rw [List.mem_singleton.1 hb]; exact hle a0 ha0
          · exact old hb
end
end Go.Proofs.YtnppilaabobgiaaGreatDoor
