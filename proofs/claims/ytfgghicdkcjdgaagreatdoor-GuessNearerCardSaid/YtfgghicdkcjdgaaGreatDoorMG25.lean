/- Plain: wheels whose teeth are known better, one note more, what is known of wheels; for GuessMore and GuessTrue. Plain: the fewest doubts; notes taken away; for GuessFewest. Also: the first of the best. -/
import Derived.Test.YtfgghicdkcjdgaaGreatDoorMG14
import Derived.Test.YtfgghicdkcjdgaaGreatDoorMG11
import Derived.Test.YtfgghicdkcjdgaaGreatDoorMG3
import Derived.Test.YtfgghicdkcjdgaaGreatDoorMG8
section
namespace Go.Proofs.YtfgghicdkcjdgaaGreatDoor

/-- a wheel whose ends are closer -/
def nearW (up dn : Int) (s : Wh) : Wh := ⟨min s.hi (s.lo + up), max (min s.hi (s.lo + up)) (s.hi - dn)⟩
theorem near_in {up dn : Int} (h0 : 0 ≤ up) (h1 : 0 ≤ dn) {s : Wh} (hs : s.lo ≤ s.hi) : s.lo ≤ (nearW up dn s).lo ∧ (nearW up dn s).lo ≤ (nearW up dn s).hi ∧ (nearW up dn s).hi ≤ s.hi := by
 unfold nearW
 simp only
 omega
theorem ok_near {up dn : Int} (h0 : 0 ≤ up) (h1 : 0 ≤ dn) {ws : List Wh} {ns : List Note} (hv : FindOk ws ns) : FindOk (ws.map (nearW up dn)) ns := by
 refine ⟨by rw [List.length_map]; exact hv.even, by rw [List.length_map]; exact hv.two, by rw [List.length_map]; exact hv.six, hv.eight, fun s hs => ?_, fun n hn => by rw [List.length_map]; exact hv.note n hn⟩
 obtain ⟨s', hs', rfl⟩ := List.mem_map.1 hs
 have h2 := hv.wh s' hs'
 have h3 := near_in h0 h1 h2.2.1
 omega
theorem upTo_sub : ∀ (k : Nat) {a b c d : Int}, (b + 1 - a).toNat = k → a ≤ c → d ≤ b → (upTo c d).Sublist (upTo a b)
 | 0, a, b, c, d, hk, h, h2 => by rw [upTo_nil (show d < c by omega)]; exact List.nil_sublist _
 | k + 1, a, b, c, d, hk, h, h2 => by
  rw [upTo_cons (show a ≤ b by omega)]
  by_cases e : a = c
  ·subst e
   by_cases hd : d < a
   ·rw [upTo_nil hd]; exact List.nil_sublist _
   ·rw [upTo_cons (show a ≤ d by omega)]
    exact (upTo_sub k (by omega) (Int.le_refl _) h2).cons_cons a
  ·exact (upTo_sub k (by omega) (by omega) h2).cons a
theorem flat_sub {α β : Type} {f g : α → List β} {l1 l2 : List α} (h : l1.Sublist l2) (hf : ∀ x, (f x).Sublist (g x)) : (l1.flatMap f).Sublist (l2.flatMap g) := by
 induction h with
 | slnil => exact List.Sublist.refl _
 | cons a _ ih => rw [List.flatMap_cons]; exact ih.trans (List.sublist_append_right _ _)
 | cons_cons a _ ih => rw [List.flatMap_cons, List.flatMap_cons]; exact (hf a).append ih
theorem allT_sub {up dn : Int} (h0 : 0 ≤ up) (h1 : 0 ≤ dn) : ∀ (ws : List Wh), (∀ s ∈ ws, s.lo ≤ s.hi) → (allT (ws.map (nearW up dn))).Sublist (allT ws)
 | [], _ => List.Sublist.refl _
 | s :: ws, h => by
  have ih := allT_sub h0 h1 ws (fun x hx => h x (List.mem_cons_of_mem _ hx))
  have h2 := near_in h0 h1 (h s (List.mem_cons_self ..))
  rw [List.map_cons, allT, allT]
  exact flat_sub (upTo_sub _ rfl h2.1 h2.2.2) (fun x => ih.map _)
theorem filter_sub {α : Type} {p q : α → Bool} (h : ∀ x, p x = true → q x = true) : ∀ (l : List α), (l.filter p).Sublist (l.filter q)
 | [] => List.Sublist.refl _
 | x :: l => by
  have ih := filter_sub h l
  by_cases hp : p x = true
  ·rw [List.filter_cons_of_pos hp, List.filter_cons_of_pos (h x hp)]
   exact ih.cons_cons x
  ·rw [List.filter_cons_of_neg hp]
   by_cases hq : q x = true
   ·rw [List.filter_cons_of_pos hq]; exact ih.cons x
   ·rw [List.filter_cons_of_neg hq]; exact ih
theorem guess_sub {ws vs : List Wh} {ns ms : List Note} (h : (allT vs).Sublist (allT ws)) (hn : ∀ t, breaksL ms t = [] → breaksL ns t = []) : (guessL vs ms).Sublist (guessL ws ns) := by
 unfold guessL
 refine (filter_sub (fun t ht => ?_) _).trans (h.filter _)
 rw [List.isEmpty_iff] at ht ⊢
 exact hn t ht
theorem brk_app (ns : List Note) (m : Note) (t : List Int) : ∀ k, k ≤ ns.length → brk (ns ++ [m]) t k = brk ns t k
 | 0, _ => rfl
 | k + 1, h => by
  have ih := brk_app ns m t k (by omega)
  unfold brk
  rw [List.getElem?_append_left (by omega), ih]
theorem breaks_snoc (ns : List Note) (m : Note) (t : List Int) : breaksL (ns ++ [m]) t = if agreeB m t then breaksL ns t else breaksL ns t ++ [(ns.length : Int)] := by
 have h1 := brk_app ns m t ns.length (Nat.le_refl _)
 unfold breaksL
 rw [List.length_append, List.length_singleton, brk, List.getElem?_append_right (Nat.le_refl _), Nat.sub_self, h1]
 rfl
theorem breaks_len (ns : List Note) (t : List Int) : (breaksL ns t).length ≤ ns.length := brk_len ns t _
theorem breaks_more (ns : List Note) (m : Note) (t : List Int) : (breaksL ns t).length ≤ (breaksL (ns ++ [m]) t).length ∧ (breaksL (ns ++ [m]) t).length ≤ (breaksL ns t).length + 1 := by
 rw [breaks_snoc]
 split
 ·omega
 ·rw [List.length_append, List.length_singleton]; omega
theorem breaks_less {ns : List Note} {m : Note} {t : List Int} (h : breaksL (ns ++ [m]) t = []) : breaksL ns t = [] := by
 have h1 := (breaks_more ns m t).1
 rw [h] at h1
 exact List.length_eq_zero_iff.1 (by simpa using h1)

/-- the ends of what is known of a wheel -/
theorem span_fold (i : Nat) : ∀ (l : List (List Int)) (s : Wh), (l.foldl (spanStep i) s).lo ≤ s.lo ∧ s.hi ≤ (l.foldl (spanStep i) s).hi ∧ (∀ t ∈ l, (l.foldl (spanStep i) s).lo ≤ t[i]?.getD 0 ∧ t[i]?.getD 0 ≤ (l.foldl (spanStep i) s).hi) ∧
  ((l.foldl (spanStep i) s).lo = s.lo ∨ ∃ t ∈ l, t[i]?.getD 0 = (l.foldl (spanStep i) s).lo) ∧ ((l.foldl (spanStep i) s).hi = s.hi ∨ ∃ t ∈ l, t[i]?.getD 0 = (l.foldl (spanStep i) s).hi)
 | [], s => ⟨Int.le_refl _, Int.le_refl _, fun t ht => absurd ht (by simp), Or.inl rfl, Or.inl rfl⟩
 | t :: l, s => by
  obtain ⟨h1, h2, h3, h4, h5⟩ := span_fold i l (spanStep i s t)
  rw [List.foldl_cons]
  generalize l.foldl (spanStep i) (spanStep i s t) = r at *
  have e1 : (spanStep i s t).lo = min s.lo (t[i]?.getD 0) := rfl
  have e2 : (spanStep i s t).hi = max s.hi (t[i]?.getD 0) := rfl
  rw [e1] at h1 h4
  rw [e2] at h2 h5
  clear e1 e2
  refine ⟨Int.le_trans h1 (Int.min_le_left ..), Int.le_trans (Int.le_max_left ..) h2, fun t' ht' => ?_, ?_, ?_⟩
  ·rcases List.mem_cons.1 ht' with rfl | ht'
   ·exact ⟨Int.le_trans h1 (Int.min_le_right ..), Int.le_trans (Int.le_max_right ..) h2⟩
   ·exact h3 t' ht'
  ·rcases h4 with h4 | ⟨t', ht', e⟩
   ·by_cases hm : s.lo ≤ t[i]?.getD 0
    ·exact Or.inl (h4.trans (Int.min_eq_left hm))
    ·exact Or.inr ⟨t, List.mem_cons_self .., (h4.trans (Int.min_eq_right (Int.le_of_lt (Int.not_le.1 hm)))).symm⟩
   ·exact Or.inr ⟨t', List.mem_cons_of_mem _ ht', e⟩
  ·rcases h5 with h5 | ⟨t', ht', e⟩
   ·by_cases hm : t[i]?.getD 0 ≤ s.hi
    ·exact Or.inl (h5.trans (Int.max_eq_left hm))
    ·exact Or.inr ⟨t, List.mem_cons_self .., (h5.trans (Int.max_eq_right (Int.le_of_lt (Int.not_le.1 hm)))).symm⟩
   ·exact Or.inr ⟨t', List.mem_cons_of_mem _ ht', e⟩
theorem span_spec {ts : List (List Int)} (i : Nat) (h : ts ≠ []) : (∀ t ∈ ts, (spanK ts i ts.length).lo ≤ t[i]?.getD 0 ∧ t[i]?.getD 0 ≤ (spanK ts i ts.length).hi) ∧
  (∃ t ∈ ts, t[i]?.getD 0 = (spanK ts i ts.length).lo) ∧ (∃ t ∈ ts, t[i]?.getD 0 = (spanK ts i ts.length).hi) := by
 cases ts with
 | nil => exact absurd rfl h
 | cons t0 ts =>
  unfold spanK
  rw [List.take_length]
  obtain ⟨_, _, h3, h4, h5⟩ := span_fold i (t0 :: ts) ⟨t0[i]?.getD 0, t0[i]?.getD 0⟩
  refine ⟨h3, ?_, ?_⟩
  ·rcases h4 with h4 | h4
   ·exact ⟨t0, List.mem_cons_self .., h4.symm⟩
   ·exact h4
  ·rcases h5 with h5 | h5
   ·exact ⟨t0, List.mem_cons_self .., h5.symm⟩
   ·exact h5
theorem known_near {us ts : List (List Int)} {n : Nat} (hs : us.Sublist ts) (hu : us ≠ []) (i : Nat) (hi : i < n) : ∃ (a b : Wh), (knownL ts n)[i]? = some a ∧ (knownL us n)[i]? = some b ∧ a.lo ≤ b.lo ∧ b.hi ≤ a.hi := by
 have ht : ts ≠ [] := fun e => by rw [e] at hs; exact hu (List.sublist_nil.1 hs)
 refine ⟨_, _, by unfold knownL; rw [List.getElem?_map, List.getElem?_range hi]; rfl, by unfold knownL; rw [List.getElem?_map, List.getElem?_range hi]; rfl, ?_, ?_⟩
 ·obtain ⟨t, ht', e⟩ := (span_spec i hu).2.1
  rw [← e]
  exact ((span_spec i ht).1 t (hs.subset ht')).1
 ·obtain ⟨t, ht', e⟩ := (span_spec i hu).2.2
  rw [← e]
  exact ((span_spec i ht).1 t (hs.subset ht')).2
end Go.Proofs.YtfgghicdkcjdgaaGreatDoor
end

section
namespace Go.Proofs.YtfgghicdkcjdgaaGreatDoor

/-- the best one stands where none before it is as good, none behind it better -/
theorem best_split {α : Type} (P : α → Prop) {lt : α → α → Bool} (ha : ∀ a b, P a → P b → lt a b = true → lt b a = false) (hn : ∀ a b c, P a → P b → P c → lt a b = false → lt b c = false → lt a c = false) (l : List α) (hP : ∀ x ∈ l, P x) :
  l ≠ [] → ∃ b l1 l2, bestL lt l = some b ∧ l = l1 ++ b :: l2 ∧ (∀ x ∈ l1, lt b x = true) ∧ (∀ x ∈ l2, lt x b = false) := by
 suffices H : ∀ (k : Nat) (l : List α), (∀ x ∈ l, P x) → l.length = k → l ≠ [] → ∃ b l1 l2, bestL lt l = some b ∧ l = l1 ++ b :: l2 ∧ (∀ x ∈ l1, lt b x = true) ∧ (∀ x ∈ l2, lt x b = false) from H _ l hP rfl
 intro k
 induction k with
 | zero => intro l _ hl h; exact absurd (List.length_eq_zero_iff.1 hl) h
 | succ k ih =>
  intro l hP hl h
  rcases List.eq_nil_or_concat l with e | ⟨l', x, e⟩
  ·exact absurd e h
  ·rw [List.concat_eq_append] at e
   subst e
   rw [bestL_snoc]
   by_cases h' : l' = []
   ·subst h'
    exact ⟨x, [], [], rfl, rfl, fun _ h => absurd h (by simp), fun _ h => absurd h (by simp)⟩
   ·have hP' : ∀ y ∈ l', P y := fun y hy => hP y (List.mem_append_left _ hy)
    have hPx : P x := hP x (by simp)
    obtain ⟨b, l1, l2, e1, e2, e3, e4⟩ := ih l' hP' (by simpa using hl) h'
    have hPb : P b := hP' b (by rw [e2]; simp)
    rw [e1]
    have key : ∀ y, P y → lt x b = true → lt y b = false → lt x y = true := fun y hy hxb hyb => by
     cases hxy : lt x y
     ·have := hn x y b hPx hy hPb hxy hyb
      rw [this] at hxb
      cases hxb
     ·rfl
    cases hx : lt x b
    ·refine ⟨b, l1, l2 ++ [x], by simp [bestF, hx], by rw [e2]; simp, e3, fun y hy => ?_⟩
     rcases List.mem_append.1 hy with hy | hy
     ·exact e4 y hy
     ·rw [List.mem_singleton.1 hy]; exact hx
    ·refine ⟨x, l', [], by simp [bestF, hx], rfl, fun y hy => ?_, fun _ h => absurd h (by simp)⟩
     have hPy := hP' y hy
     rw [e2] at hy
     rcases List.mem_append.1 hy with hy | hy
     ·exact key y hPy hx (ha _ _ hPb hPy (e3 y hy))
     ·rcases List.mem_cons.1 hy with rfl | hy
      ·exact hx
      ·exact key y hPy hx (e4 y hy)
theorem best_min {α : Type} (P : α → Prop) {lt : α → α → Bool} (ha : ∀ a b, P a → P b → lt a b = true → lt b a = false) (hn : ∀ a b c, P a → P b → P c → lt a b = false → lt b c = false → lt a c = false) {l : List α} (hP : ∀ x ∈ l, P x) (h : l ≠ []) :
  ∃ b, bestL lt l = some b ∧ b ∈ l ∧ ∀ x ∈ l, lt x b = false := by
 obtain ⟨b, l1, l2, e1, e2, e3, e4⟩ := best_split P ha hn l hP h
 refine ⟨b, e1, by rw [e2]; simp, fun x hx => ?_⟩
 have hPx := hP x hx
 have hPb : P b := hP b (by rw [e2]; simp)
 rw [e2] at hx
 rcases List.mem_append.1 hx with hx | hx
 ·exact ha _ _ hPb hPx (e3 x hx)
 ·rcases List.mem_cons.1 hx with rfl | hx
  ·cases h2 : lt x x
   ·rfl
   ·have := ha _ _ hPb hPb h2
    rw [h2] at this
    cases this
  ·exact e4 x hx
theorem cmpI_cases (x y : Int) : (x < y ∧ cmpI x y = -1) ∨ (x = y ∧ cmpI x y = 0) ∨ (y < x ∧ cmpI x y = 1) := by
 unfold cmpI
 rcases Int.lt_trichotomy x y with h | h | h
 ·exact Or.inl ⟨h, by rw [if_pos h]⟩
 ·exact Or.inr (Or.inl ⟨h, by rw [if_neg (by omega), if_neg (by omega)]⟩)
 ·exact Or.inr (Or.inr ⟨h, by rw [if_neg (by omega), if_pos h]⟩)
theorem cmpL_anti : ∀ (a b : List Int), cmpL a b < 0 → ¬ cmpL b a < 0
 | [], _, h => absurd h (by simp [cmpL])
 | _ :: _, [], h => absurd h (by simp [cmpL])
 | x :: xs, y :: ys, h => by
  have ih := cmpL_anti xs ys
  unfold cmpL at h ⊢
  rcases cmpI_cases x y with ⟨h1, e1⟩ | ⟨h1, e1⟩ | ⟨h1, e1⟩
  ·rcases cmpI_cases y x with ⟨h2, e2⟩ | ⟨h2, e2⟩ | ⟨h2, e2⟩
   ·omega
   ·omega
   ·rw [e2]; simp
  ·subst h1
   rw [e1] at h ⊢
   simp only [if_true] at h ⊢
   exact ih h
  ·rw [e1] at h; simp at h
theorem cmpL_neg : ∀ (a b c : List Int), a.length = b.length → b.length = c.length → ¬ cmpL a b < 0 → ¬ cmpL b c < 0 → ¬ cmpL a c < 0
 | [], _, _, _, _, _, _ => by simp [cmpL]
 | _ :: _, [], _, h, _, _, _ => by simp at h
 | _ :: _, _ :: _, [], _, h, _, _ => by simp at h
 | x :: xs, y :: ys, z :: zs, h1, h2, h3, h4 => by
  have ih := cmpL_neg xs ys zs (by simpa using h1) (by simpa using h2)
  unfold cmpL at h3 h4 ⊢
  rcases cmpI_cases x y with ⟨a1, e1⟩ | ⟨a1, e1⟩ | ⟨a1, e1⟩
  ·rw [e1] at h3; simp at h3
  ·rw [e1] at h3
   simp only [if_true] at h3
   rcases cmpI_cases y z with ⟨a2, e2⟩ | ⟨a2, e2⟩ | ⟨a2, e2⟩
   ·rw [e2] at h4; simp at h4
   ·rw [e2] at h4
    simp only [if_true] at h4
    have e3 : cmpI x z = 0 := by rw [a1]; exact e2
    rw [e3]
    simp only [if_true]
    exact ih h3 h4
   ·have e3 : cmpI x z = 1 := by rw [a1]; exact e2
    rw [e3]; simp
  ·rcases cmpI_cases y z with ⟨a2, e2⟩ | ⟨a2, e2⟩ | ⟨a2, e2⟩
   ·rw [e2] at h4; simp at h4
   ·have e3 : cmpI x z = 1 := by rw [← a2]; exact e1
    rw [e3]; simp
   ·rcases cmpI_cases x z with ⟨a3, e3⟩ | ⟨a3, e3⟩ | ⟨a3, e3⟩
    ·omega
    ·omega
    ·rw [e3]; simp
theorem ltD_iff {a b : List Int} : ltD a b = true ↔ a.length < b.length ∨ (a.length = b.length ∧ cmpL a b < 0) := by
 unfold ltD
 simp
theorem ltD_no {a b : List Int} : ltD a b = false ↔ ¬ (a.length < b.length ∨ (a.length = b.length ∧ cmpL a b < 0)) := by
 rw [← ltD_iff]
 simp
theorem ltD_anti (a b : List Int) (h : ltD a b = true) : ltD b a = false := by
 rw [ltD_iff] at h
 rw [ltD_no]
 rintro (h2 | ⟨h2, h3⟩)
 ·omega
 ·rcases h with h | ⟨_, h⟩
  ·omega
  ·exact cmpL_anti _ _ h h3
theorem ltD_neg (a b c : List Int) (h1 : ltD a b = false) (h2 : ltD b c = false) : ltD a c = false := by
 rw [ltD_no] at h1 h2 ⊢
 rintro (h3 | ⟨h3, h4⟩)
 ·have h5 : ¬ a.length < b.length := fun h => h1 (Or.inl h)
  have h6 : ¬ b.length < c.length := fun h => h2 (Or.inl h)
  omega
 ·have h5 : ¬ a.length < b.length := fun h => h1 (Or.inl h)
  have h6 : ¬ b.length < c.length := fun h => h2 (Or.inl h)
  have e1 : a.length = b.length := by omega
  have e2 : b.length = c.length := by omega
  exact cmpL_neg a b c e1 e2 (fun h => h1 (Or.inr ⟨e1, h⟩)) (fun h => h2 (Or.inr ⟨e2, h⟩)) h4

/-- numbers that rise, all from 0 up to n -/
def RisesL (n : Int) (l : List Int) : Prop := (∀ x ∈ l, 0 ≤ x ∧ x < n) ∧ l.Pairwise (· < ·)
theorem rise_sub : ∀ (b a : List Int), a.Pairwise (· < ·) → b.Pairwise (· < ·) → (∀ x ∈ a, x ∈ b) → a.Sublist b
 | [], a, _, _, h => by
  cases a with
  | nil => exact List.Sublist.refl _
  | cons x a => exact absurd (h x (List.mem_cons_self ..)) (by simp)
 | y :: b, [], _, _, _ => List.nil_sublist _
 | y :: b, x :: a, ha, hb, h => by
  have ha' := List.pairwise_cons.1 ha
  have hb' := List.pairwise_cons.1 hb
  by_cases e : x = y
  ·subst e
   refine (rise_sub b a ha'.2 hb'.2 (fun z hz => ?_)).cons_cons x
   rcases List.mem_cons.1 (h z (List.mem_cons_of_mem _ hz)) with rfl | h2
   ·have := ha'.1 z hz; omega
   ·exact h2
  ·have hxb : x ∈ b := (List.mem_cons.1 (h x (List.mem_cons_self ..))).resolve_left e
   have hyx := hb'.1 x hxb
   refine (rise_sub b (x :: a) ha hb'.2 (fun z hz => ?_)).cons y
   rcases List.mem_cons.1 hz with rfl | hz
   ·exact hxb
   ·rcases List.mem_cons.1 (h z (List.mem_cons_of_mem _ hz)) with rfl | h2
    ·have := ha'.1 z hz; omega
    ·exact h2
theorem mem_brk {ns : List Note} {t : List Int} : ∀ {k : Nat} {x : Int}, x ∈ brk ns t k ↔ ∃ i : Nat, i < k ∧ x = i ∧ ∃ n, ns[i]? = some n ∧ agreeB n t = false
 | 0, x => by simp [brk]
 | k + 1, x => by
  have ih := mem_brk (ns := ns) (t := t) (k := k) (x := x)
  have back : (∃ i : Nat, i < k ∧ x = i ∧ ∃ n, ns[i]? = some n ∧ agreeB n t = false) → ∃ i : Nat, i < k + 1 ∧ x = i ∧ ∃ n, ns[i]? = some n ∧ agreeB n t = false := fun ⟨i, h, r⟩ => ⟨i, by omega, r⟩
  unfold brk
  cases hk : ns[k]? with
  | none =>
   simp only
   rw [ih]
   refine ⟨back, fun ⟨i, h, e, n, h2, h3⟩ => ?_⟩
   have : i ≠ k := fun e => by rw [e, hk] at h2; cases h2
   exact ⟨i, by omega, e, n, h2, h3⟩
  | some m =>
   simp only
   by_cases hm : agreeB m t = true
   ·rw [if_pos hm, ih]
    refine ⟨back, fun ⟨i, h, e, n, h2, h3⟩ => ?_⟩
    have : i ≠ k := fun e => by rw [e, hk] at h2; cases h2; rw [hm] at h3; cases h3
    exact ⟨i, by omega, e, n, h2, h3⟩
   ·rw [if_neg hm, List.mem_append, ih]
    constructor
    ·rintro (h | h)
     ·exact back h
     ·exact ⟨k, by omega, List.mem_singleton.1 h, m, hk, by simpa using hm⟩
    ·rintro ⟨i, h, e, n, h2, h3⟩
     by_cases hi : i = k
     ·subst hi; exact Or.inr (by rw [e]; simp)
     ·exact Or.inl ⟨i, by omega, e, n, h2, h3⟩
theorem brk_rise (ns : List Note) (t : List Int) : ∀ k, (brk ns t k).Pairwise (· < ·)
 | 0 => List.Pairwise.nil
 | k + 1 => by
  have ih := brk_rise ns t k
  unfold brk
  split
  ·split
   ·exact ih
   ·rw [List.pairwise_append]
    refine ⟨ih, List.pairwise_singleton _ _, fun x hx y hy => ?_⟩
    rw [List.mem_singleton.1 hy]
    obtain ⟨i, h, e, _⟩ := mem_brk.1 hx
    omega
  ·exact ih
theorem breaks_rise (ns : List Note) (t : List Int) : RisesL (ns.length : Int) (breaksL ns t) := by
 refine ⟨fun x hx => ?_, brk_rise ns t _⟩
 obtain ⟨i, h, e, _⟩ := mem_brk.1 hx
 omega
theorem breaks_nil {ns : List Note} {t : List Int} : breaksL ns t = [] ↔ ∀ n ∈ ns, agreeB n t = true := by
 rw [List.eq_nil_iff_forall_not_mem]
 constructor
 ·intro h n hn
  obtain ⟨i, hi, e⟩ := List.mem_iff_getElem.1 hn
  cases ha : agreeB n t
  ·exact absurd (mem_brk.2 ⟨i, hi, rfl, n, by rw [List.getElem?_eq_getElem hi, e], ha⟩) (h i)
  ·rfl
 ·intro h x hx
  obtain ⟨i, _, _, n, h2, h3⟩ := mem_brk.1 hx
  rw [h n (List.mem_of_getElem? h2)] at h3
  cases h3

/-- the first k notes without those whose numbers are listed -/
def woN (ns : List Note) (gone : List Int) : Nat → List Note
 | 0 => []
 | k + 1 => match ns[k]? with
  | some n => if (k : Int) ∈ gone then woN ns gone k else woN ns gone k ++ [n]
  | none => woN ns gone k
theorem woN_yes {ns : List Note} {gone : List Int} {k : Nat} (hk : k < ns.length) (h : (k : Int) ∈ gone) : woN ns gone (k + 1) = woN ns gone k := by
 rw [woN, List.getElem?_eq_getElem hk]; simp only; rw [if_pos h]
theorem woN_no {ns : List Note} {gone : List Int} {k : Nat} (hk : k < ns.length) (h : ¬ (k : Int) ∈ gone) : woN ns gone (k + 1) = woN ns gone k ++ [ns[k]] := by
 rw [woN, List.getElem?_eq_getElem hk]; simp only; rw [if_neg h]
theorem woN_len (ns : List Note) (gone : List Int) : ∀ k, (woN ns gone k).length ≤ k
 | 0 => Nat.le_refl _
 | k + 1 => by
  have ih := woN_len ns gone k
  rw [woN]
  split
  ·split
   ·omega
   ·rw [List.length_append, List.length_singleton]; omega
  ·omega
theorem mem_woN {ns : List Note} {gone : List Int} {n : Note} : ∀ {k : Nat}, n ∈ woN ns gone k ↔ ∃ i : Nat, i < k ∧ ns[i]? = some n ∧ ¬ (i : Int) ∈ gone
 | 0 => by simp [woN]
 | k + 1 => by
  have ih := mem_woN (ns := ns) (gone := gone) (n := n) (k := k)
  have back : (∃ i : Nat, i < k ∧ ns[i]? = some n ∧ ¬ (i : Int) ∈ gone) → ∃ i : Nat, i < k + 1 ∧ ns[i]? = some n ∧ ¬ (i : Int) ∈ gone := fun ⟨i, h, r⟩ => ⟨i, by omega, r⟩
  rw [woN]
  cases hk : ns[k]? with
  | none =>
   simp only
   rw [ih]
   refine ⟨back, fun ⟨i, h, h2, h3⟩ => ?_⟩
   have : i ≠ k := fun e => by rw [e, hk] at h2; cases h2
   exact ⟨i, by omega, h2, h3⟩
  | some m =>
   simp only
   by_cases hm : (k : Int) ∈ gone
   ·rw [if_pos hm, ih]
    refine ⟨back, fun ⟨i, h, h2, h3⟩ => ?_⟩
    have : i ≠ k := fun e => by rw [e] at h3; exact h3 hm
    exact ⟨i, by omega, h2, h3⟩
   ·rw [if_neg hm, List.mem_append, ih]
    constructor
    ·rintro (h | h)
     ·exact back h
     ·rw [List.mem_singleton.1 h]; exact ⟨k, by omega, hk, hm⟩
    ·rintro ⟨i, h, h2, h3⟩
     by_cases hi : i = k
     ·subst hi; rw [hk] at h2; cases h2; exact Or.inr (by simp)
     ·exact Or.inl ⟨i, by omega, h2, h3⟩
def withoutL (ns : List Note) (gone : List Int) : List Note := woN ns gone ns.length
theorem without_len (ns : List Note) (gone : List Int) : (withoutL ns gone).length ≤ ns.length := woN_len ns gone _
theorem ok_without {ws : List Wh} {ns : List Note} (hv : FindOk ws ns) (gone : List Int) : FindOk ws (withoutL ns gone) := by
 refine ⟨hv.even, hv.two, hv.six, Nat.le_trans (without_len ns gone) hv.eight, hv.wh, fun n hn => ?_⟩
 obtain ⟨i, _, h2, _⟩ := mem_woN.1 hn
 exact hv.note n (List.mem_of_getElem? h2)
theorem without_nil {ns : List Note} {gone t : List Int} : breaksL (withoutL ns gone) t = [] ↔ ∀ x ∈ breaksL ns t, x ∈ gone := by
 rw [breaks_nil]
 constructor
 ·intro h x hx
  obtain ⟨i, hi, rfl, n, h2, h3⟩ := mem_brk.1 hx
  by_cases hg : (i : Int) ∈ gone
  ·exact hg
  ·rw [h n (mem_woN.2 ⟨i, hi, h2, hg⟩)] at h3
   cases h3
 ·intro h n hn
  obtain ⟨i, hi, h2, h3⟩ := mem_woN.1 hn
  cases ha : agreeB n t
  ·exact absurd (h i (mem_brk.2 ⟨i, hi, rfl, n, h2, ha⟩)) h3
  ·rfl
theorem allT_ne : ∀ {ws : List Wh}, (∀ s ∈ ws, s.lo ≤ s.hi) → allT ws ≠ []
 | [], _ => by simp [allT]
 | s :: ws, h => fun e => by
  have ih := allT_ne (ws := ws) (fun x hx => h x (List.mem_cons_of_mem _ hx))
  cases hl : allT ws with
  | nil => exact ih hl
  | cons t l =>
   have h1 : t ∈ allT ws := by rw [hl]; simp
   have h2 : s.lo :: t ∈ allT (s :: ws) := by
    rw [mem_allT]
    exact ⟨⟨Int.le_refl _, h s (List.mem_cons_self ..)⟩, (mem_allT _ _).1 h1⟩
   rw [e] at h2
   cases h2
/-- what the law says of the fewest doubts -/
theorem doubts_spec {ws : List Wh} {ns : List Note} (hv : FindOk ws ns) : ∃ t, t ∈ allT ws ∧ doubtsL ws ns = breaksL ns t ∧ ∀ u ∈ allT ws, ltD (breaksL ns u) (doubtsL ws ns) = false := by
 have hne : (allT ws).map (breaksL ns) ≠ [] := fun e => allT_ne (fun s hs => (hv.wh s hs).2.1) (List.map_eq_nil_iff.1 e)
 obtain ⟨b, e1, e2, e3⟩ := best_min (fun _ => True) (fun a b _ _ => ltD_anti a b) (fun a b c _ _ _ => ltD_neg a b c) (fun _ _ => trivial) hne
 obtain ⟨t, ht, rfl⟩ := List.mem_map.1 e2
 refine ⟨t, ht, by unfold doubtsL; rw [e1]; rfl, fun u hu => ?_⟩
 unfold doubtsL
 rw [e1]
 exact e3 _ (List.mem_map.2 ⟨u, hu, rfl⟩)
theorem doubts_law {ws : List Wh} {ns : List Note} (hv : FindOk ws ns) : RisesL (ns.length : Int) (doubtsL ws ns) ∧ (doubtsL ws ns).length ≤ ns.length ∧ guessL ws (withoutL ns (doubtsL ws ns)) ≠ [] ∧
  (∀ other, other.Pairwise (· < ·) → ltD other (doubtsL ws ns) = true → guessL ws (withoutL ns other) = []) := by
 obtain ⟨t, ht, e, hm⟩ := doubts_spec hv
 refine ⟨by rw [e]; exact breaks_rise ns t, by rw [e]; exact breaks_len ns t, fun h => ?_, fun other ho hl => ?_⟩
 ·have : t ∈ guessL ws (withoutL ns (doubtsL ws ns)) := mem_guess.2 ⟨(mem_allT _ _).1 ht, without_nil.2 (fun x hx => by rw [e]; exact hx)⟩
  rw [h] at this
  cases this
 ·rw [List.eq_nil_iff_forall_not_mem]
  intro u hu
  obtain ⟨h1, h2⟩ := mem_guess.1 hu
  have h3 := rise_sub other (breaksL ns u) (brk_rise ns u _) ho (without_nil.1 h2)
  have h4 := hm u ((mem_allT _ _).2 h1)
  have h5 := h3.length_le
  by_cases h6 : (breaksL ns u).length = other.length
  ·rw [h3.eq_of_length h6, hl] at h4
   cases h4
  ·rw [ltD_no] at h4
   refine h4 (Or.inl ?_)
   rcases ltD_iff.1 hl with h7 | h7 <;> omega
theorem doubts_more {ws : List Wh} {ns : List Note} {m : Note} (hv : FindOk ws ns) (hw : FindOk ws (ns ++ [m])) : (doubtsL ws ns).length ≤ (doubtsL ws (ns ++ [m])).length ∧ (doubtsL ws (ns ++ [m])).length ≤ (doubtsL ws ns).length + 1 := by
 obtain ⟨t, ht, e, hm⟩ := doubts_spec hv
 obtain ⟨u, hu, f, hk⟩ := doubts_spec hw
 have a1 := ltD_no.1 (hm u hu)
 have a2 := ltD_no.1 (hk t ht)
 have b1 := breaks_more ns m u
 have b2 := breaks_more ns m t
 have c1 : ¬ (breaksL ns u).length < (doubtsL ws ns).length := fun h => a1 (Or.inl h)
 have c2 : ¬ (breaksL (ns ++ [m]) t).length < (doubtsL ws (ns ++ [m])).length := fun h => a2 (Or.inl h)
 rw [f] at c2 ⊢
 rw [e] at c1 ⊢
 omega
end Go.Proofs.YtfgghicdkcjdgaaGreatDoor
end
