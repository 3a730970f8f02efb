/- Plain: keepers of dials in a calendar of leap years every fourth year. -/
import Derived.Test.YtnppilaabobgiaaGreatDoorMEK
namespace Go.Proofs.YtnppilaabobgiaaGreatDoor
open Go.RowKit Dl

theorem keepN_one {on : Int → Option Date} {x0 : Dial} {comes fr : Int} {t : Date} (ht : on (fr + ((0 : Nat) : Int)) = some t) : keepN on x0 comes fr (0 + 1) = ⟨x0.set t, [], 0⟩ := by
  show (match on (fr + ((0 : Nat) : Int)) with | some d => _ | none => _) = _
  rw [ht]
  rfl
theorem keepN_two {on : Int → Option Date} {x0 : Dial} {comes fr : Int} {k : Nat} {t : Date} (ht : on (fr + ((k + 1 : Nat) : Int)) = some t) :
    keepN on x0 comes fr (k + 1 + 1) = keepStep comes (fr + ((k + 1 : Nat) : Int)) false (keepN on x0 comes fr (k + 1)) t := by
  show (match on (fr + ((k + 1 : Nat) : Int)) with | some d => _ | none => _) = _
  rw [ht]
  rfl
theorem leap4 (y : Int) : leapB [4] y = decide (y % 4 = 0) := by
  unfold leapB
  simp only [List.foldl]
  by_cases h : y % 4 = 0
  · rw [if_pos h]; simp [h]
  · rw [if_neg h]; simp [h]
theorem leaps_next {t : Date} (h1 : 1 ≤ t.m) (h2 : t.m ≤ 12) : (Dial.leaps t.d t.m t.y).next = .leaps (nxt [4] t).d (nxt [4] t).m (nxt [4] t).y := by
  obtain ⟨y, m, d⟩ := t
  simp only at h1 h2
  show leapsN d m y = _
  unfold leapsN nxt
  rw [leap4]
  by_cases c1 : d < mlen (decide (y % 4 = 0)) m
  · rw [if_pos c1, if_pos c1]
  · rw [if_neg c1, if_neg c1]
    by_cases c2 : m < 12
    · rw [if_pos c2]
      show Dial.leaps 1 (m % 12 + 1) (y + m / 12) = .leaps 1 (m + 1) y
      rw [show m % 12 = m by omega, show m / 12 = 0 by omega, Int.add_zero]
    · rw [if_neg c2]
      show Dial.leaps 1 (m % 12 + 1) (y + m / 12) = .leaps 1 1 (y + 1)
      rw [show m % 12 = 0 by omega, show m / 12 = 1 by omega]
      rfl
theorem annual_next {cs : List Int} {t : Date} (h : real cs t) : (annualN t.d t.m = .annual (nxt cs t).d (nxt cs t).m) ∨ ((annualN t.d t.m).day = 29 ∧ (nxt cs t).d = 1 ∧ t.d = 28) := by
  obtain ⟨y, m, d⟩ := t
  obtain ⟨_, _, h3, h4, h5, h6⟩ := h
  simp only at h3 h4 h5 h6
  unfold annualN nxt
  simp only
  by_cases c1 : d < mlen (leapB cs y) m
  · have hle : mlen (leapB cs y) m ≤ mlen true m := by cases leapB cs y <;> unfold mlen <;> split <;> simp
    rw [if_pos c1, if_pos (by omega)]
    exact Or.inl rfl
  · by_cases c2 : d < mlen true m
    · right
      have hm2 : m = 2 ∧ leapB cs y = false := by
        cases hq : leapB cs y
        · refine ⟨?_, rfl⟩
          rw [hq] at c1 h6
          by_cases hm : m = 2
          · exact hm
          · exfalso
            have : mlen true m = mlen false m := by unfold mlen; rw [if_neg hm, if_neg hm]
            omega
        · rw [hq] at c1; omega
      obtain ⟨rfl, hq⟩ := hm2
      rw [hq] at c1 h6 ⊢
      have e1 : mlen false 2 = 28 := rfl
      rw [if_pos c2, if_neg c1]
      refine ⟨?_, rfl, by omega⟩
      show d + 1 = 29
      omega
    · left
      rw [if_neg c1, if_neg c2]
      by_cases c3 : m < 12
      · rw [if_pos c3]
        show Dial.annual 1 (m % 12 + 1) = .annual 1 (m + 1)
        rw [show m % 12 = m by omega]
      · rw [if_neg c3]
        show Dial.annual 1 (m % 12 + 1) = .annual 1 1
        rw [show m % 12 = 0 by omega]
        rfl
section
variable {on : Int → Option Date} {e fr : Int} {cs : List Int} {N : Nat} (hon : ∀ k : Nat, k < N → on (fr + k) ≠ none) (hdt : ∀ n, on n = dateOf e cs n)
include hon hdt
theorem keep_leaps (h4 : cs = [4]) : ∀ k, k < N → (keepN on (.leaps 0 0 0) (-1) fr (k + 1)).out = [] ∧ ∀ t, on (fr + k) = some t → (keepN on (.leaps 0 0 0) (-1) fr (k + 1)).x = .leaps t.d t.m t.y := by
  subst h4
  intro k
  induction k with
  | zero =>
    intro h
    obtain ⟨t, ht⟩ := Option.ne_none_iff_exists'.1 (hon 0 h)
    rw [keepN_one ht]
    refine ⟨rfl, fun t' h' => ?_⟩
    rw [ht] at h'
    cases h'
    rfl
  | succ k ih =>
    intro h
    obtain ⟨i1, i2⟩ := ih (by omega)
    obtain ⟨t, ht⟩ := Option.ne_none_iff_exists'.1 (hon k (by omega))
    obtain ⟨t', ht'⟩ := Option.ne_none_iff_exists'.1 (hon (k + 1) h)
    have ix := i2 t ht
    rw [keepN_two ht']
    have ef : fr + ((k + 1 : Nat) : Int) = fr + k + 1 := by push_cast; omega
    have hn : t' = nxt [4] t := date_next (by rw [← hdt]; exact ht) (by rw [← hdt, ← ef]; exact ht')
    have hr := (dateOf_some.1 ((hdt _).symm.trans ht)).1
    generalize keepN on (.leaps 0 0 0) (-1) fr (k + 1) = s at *
    have hx : s.x.next = .leaps t'.d t'.m t'.y := by rw [ix, leaps_next hr.2.2.1 hr.2.2.2.1, hn]
    unfold keepStep
    rw [if_neg (by decide : ¬ (false = true)), if_pos (by rw [hx]; rfl)]
    refine ⟨i1, fun u hu => ?_⟩
    rw [ht'] at hu
    cases hu
    exact hx
theorem keep_annual : ∀ k, k < N → (keepN on (.annual 0 0) (-1) fr (k + 1)).out.length ≤ (keepN on (.plain 0) (-1) fr (k + 1)).out.length ∧
    ∀ t, on (fr + k) = some t → (keepN on (.annual 0 0) (-1) fr (k + 1)).x = .annual t.d t.m ∧ (keepN on (.plain 0) (-1) fr (k + 1)).x = .plain t.d := by
  intro k
  induction k with
  | zero =>
    intro h
    obtain ⟨t, ht⟩ := Option.ne_none_iff_exists'.1 (hon 0 h)
    rw [keepN_one ht, keepN_one ht]
    refine ⟨Nat.le_refl _, fun t' h' => ?_⟩
    rw [ht] at h'
    cases h'
    exact ⟨rfl, rfl⟩
  | succ k ih =>
    intro h
    obtain ⟨i1, i2⟩ := ih (by omega)
    obtain ⟨t, ht⟩ := Option.ne_none_iff_exists'.1 (hon k (by omega))
    obtain ⟨t', ht'⟩ := Option.ne_none_iff_exists'.1 (hon (k + 1) h)
    obtain ⟨ia, ip⟩ := i2 t ht
    rw [keepN_two ht', keepN_two ht']
    have ef : fr + ((k + 1 : Nat) : Int) = fr + k + 1 := by push_cast; omega
    have hn : t' = nxt cs t := date_next (by rw [← hdt]; exact ht) (by rw [← hdt, ← ef]; exact ht')
    have hr := (dateOf_some.1 ((hdt _).symm.trans ht)).1
    generalize keepN on (.annual 0 0) (-1) fr (k + 1) = s at *
    generalize keepN on (.plain 0) (-1) fr (k + 1) = r at *
    have ha := annual_next hr
    rw [← hn] at ha
    have hsx : s.x.next = annualN t.d t.m := by rw [ia]; rfl
    have hrx : r.x.next = .plain (t.d % 31 + 1) := by rw [ip]; rfl
    have fin : ∀ u, on (fr + ((k + 1 : Nat) : Int)) = some u → u = t' := fun u hu => by rw [ht'] at hu; cases hu; rfl
    unfold keepStep
    rw [if_neg (by decide : ¬ (false = true)), if_neg (by decide : ¬ (false = true)), hsx, hrx]
    by_cases c1 : (annualN t.d t.m).day = t'.d
    · rw [if_pos c1]
      have hx : annualN t.d t.m = .annual t'.d t'.m := by
        rcases ha with ha | ⟨a1, a2, _⟩
        · exact ha
        · omega
      by_cases c2 : (Dial.plain (t.d % 31 + 1)).day = t'.d
      · rw [if_pos c2]
        exact ⟨i1, fun u hu => by rw [fin u hu]; exact ⟨hx, by show Dial.plain _ = _; rw [show t.d % 31 + 1 = t'.d from c2]⟩⟩
      · rw [if_neg c2, if_pos (Or.inl (by decide))]
        refine ⟨?_, fun u hu => by rw [fin u hu]; exact ⟨hx, rfl⟩⟩
        show s.out.length ≤ (r.out ++ [_]).length
        rw [List.length_append]
        omega
    · have hx : t'.d = 1 ∧ t.d = 28 := by
        rcases ha with ha | ⟨_, a2, a3⟩
        · exact absurd (by rw [ha]; rfl) c1
        · exact ⟨a2, a3⟩
      have c2 : ¬ (Dial.plain (t.d % 31 + 1)).day = t'.d := by
        show ¬ t.d % 31 + 1 = t'.d
        omega
      rw [if_neg c1, if_neg c2, if_pos (Or.inl (by decide)), if_pos (Or.inl (by decide))]
      refine ⟨?_, fun u hu => ?_⟩
      · show (s.out ++ [_]).length ≤ (r.out ++ [_]).length
        rw [List.length_append, List.length_append]
        simpa using i1
      · rw [fin u hu]
        refine ⟨?_, rfl⟩
        show (annualN t.d t.m).set t' = _
        unfold annualN
        split <;> rfl
end
end Go.Proofs.YtnppilaabobgiaaGreatDoor
