/- Valid almanacs: what is written is read; it is short; one digit put for another one is never read. -/
import Derived.Test.YthjblcboainknaaGreatDoorMP2
import Derived.Test.YthjblcboainknaaGreatDoorMC3
import Derived.Test.YthjblcboainknaaGreatDoorMB2
namespace Go.Proofs.YthjblcboainknaaGreatDoor

theorem itoa_le {n : Int} (m : Nat) (hm : 0 < m) (h0 : 0 ≤ n) (h : n < 10 ^ m) : (Lib.itoa n).length ≤ m := by
 rw [itoa_dec h0]
 exact dec_len m n.toNat hm (by
  have : ((n.toNat : Nat) : Int) < ((10 ^ m : Nat) : Int) := by rw [Int.toNat_of_nonneg h0]; push_cast; exact h
  exact_mod_cast this)
theorem rowB_cons (k : Nat) (x : Int) (xs : List Int) : (rowB k (x :: xs)).length = (rowB k xs).length + 1 + (Lib.itoa x).length := by
 simp [rowB]; omega
theorem rowB_nil (k : Nat) : (rowB k []).length = (wordB k).length := by simp [rowB]
theorem okCyc_all : ∀ (cs : List Int) (last : Int), 0 ≤ last → okCyc last cs = true → ∀ x ∈ cs, 0 ≤ x ∧ x ≤ 1000
 | [], _, _, _ => fun x hx => absurd hx (by simp)
 | y :: ys, last, hl, h => by
  simp only [okCyc, Bool.and_eq_true] at h
  have h1 := inB_iff.1 h.1
  intro x hx
  rcases List.mem_cons.1 hx with rfl | hx
  ·omega
  ·exact okCyc_all ys y (by omega) h.2 x hx
theorem cal_parts {e : Int} {cs : List Int} (h : calOk e cs = true) : (0 ≤ e ∧ e ≤ 1000) ∧ cs.length ≤ 3 ∧ ∀ x ∈ cs, 0 ≤ x ∧ x ≤ 1000 := by
 unfold calOk at h
 simp only [Bool.and_eq_true] at h
 have h1 := inB_iff.1 h.1.1
 have h2 := inB_iff.1 h.1.2
 exact ⟨h1, by omega, okCyc_all cs 1 (by omega) h.2⟩
theorem moon_parts {num den add : Int} (h : moonB num den add = true) : (0 ≤ num ∧ num ≤ 30000) ∧ (0 ≤ den ∧ den ≤ 1000) ∧ 0 ≤ add ∧ add < 30000 := by
 unfold moonB at h
 simp only [Bool.and_eq_true] at h
 have h1 := inB_iff.1 h.1.1
 have h2 := inB_iff.1 h.1.2
 have h3 := inB_iff.1 h.2
 omega
/-- a fact as defined: one of five forms with small numbers -/
theorem kind_parts {f : Fact} (h : kindB f (val_areFacts f) = true) : FactOk f ∧ (0 ≤ f.m ∧ f.m ≤ 12) ∧ (0 ≤ f.d ∧ f.d ≤ 31) ∧ 0 ≤ f.v ∧ f.v ≤ 366 := by
 have hd : datedB f = true → (0 ≤ f.m ∧ f.m ≤ 12) ∧ (0 ≤ f.d ∧ f.d ≤ 31) := fun h => by
  unfold datedB at h
  simp only [Bool.and_eq_true] at h
  have h1 := inB_iff.1 h.1
  have h2 := inB_iff.1 h.2
  omega
 have hb : bareB f = true → f.m = 0 ∧ f.d = 0 := fun h => by
  unfold bareB at h
  simpa only [Bool.and_eq_true, beq_iff_eq] using h
 unfold kindB val_areFacts at h
 unfold FactOk Sm
 by_cases h1 : f.k = 1
 ·rw [if_pos h1, Bool.and_eq_true] at h
  have := hd h.1; have := inB_iff.1 h.2; omega
 rw [if_neg h1] at h
 by_cases h2 : f.k = 2
 ·rw [if_pos h2, Bool.and_eq_true] at h
  have := hd h.1; have := inB_iff.1 h.2; omega
 rw [if_neg h2] at h
 by_cases h3 : f.k = 3
 ·rw [if_pos h3, Bool.and_eq_true] at h
  have := hd h.1; have := inB_iff.1 h.2; omega
 rw [if_neg h3] at h
 by_cases h4 : f.k = 4
 ·rw [if_pos h4, Bool.and_eq_true] at h
  have := hb h.1; have := inB_iff.1 h.2; omega
 rw [if_neg h4] at h
 by_cases h5 : f.k = 5
 ·rw [if_pos h5, Bool.and_eq_true] at h
  have := hb h.1; have := inB_iff.1 h.2; omega
 rw [if_neg h5] at h
 cases h
theorem all_facts_mem : ∀ (l : List Fact), all_areFacts l = true → ∀ f ∈ l, kindB f (val_areFacts f) = true := by
 intro l h f hf
 simp only [all_areFacts, List.all_eq_true] at h
 exact h f hf
theorem facts_parts {l : List Fact} (h : factsB l = true) : l.length ≤ 6 ∧ ∀ f ∈ l, FactOk f ∧ (0 ≤ f.m ∧ f.m ≤ 12) ∧ (0 ≤ f.d ∧ f.d ≤ 31) ∧ 0 ≤ f.v ∧ f.v ≤ 366 := by
 unfold factsB at h
 simp only [Bool.and_eq_true, decide_eq_true_eq] at h
 exact ⟨h.1, fun f hf => kind_parts (all_facts_mem l h.2 f hf)⟩
theorem valid_ok {e : Int} {cs : List Int} {num den add : Int} {l : List Fact} (hc : calOk e cs = true) (hm : moonB num den add = true) (hf : factsB l = true) : AlmOk ⟨e, cs, num, den, add, l⟩ := by
 have h1 := cal_parts hc
 have h2 := moon_parts hm
 refine ⟨fun x hx => ?_, fun x hx => ?_, fun f hf' => ((facts_parts hf).2 f hf').1⟩
 ·rcases List.mem_cons.1 hx with rfl | hx
  ·exact ⟨h1.1.1, by omega⟩
  ·have := h1.2.2 x hx; exact ⟨this.1, by omega⟩
 ·simp only [List.mem_cons, List.not_mem_nil, or_false] at hx
  unfold Sm
  rcases hx with rfl | rfl | rfl <;> omega
theorem row0_len {e : Int} {cs : List Int} (h : calOk e cs = true) : (rowB 0 (e :: cs)).length ≤ 28 := by
 obtain ⟨h1, h2, h3⟩ := cal_parts h
 have he := itoa_le (n := e) 4 (by omega) h1.1 (by omega)
 have hw : (wordB 0).length = 8 := rfl
 have key : ∀ l : List Int, (∀ x ∈ l, 0 ≤ x ∧ x ≤ 1000) → (rowB 0 l).length ≤ 8 + 5 * l.length := by
  intro l
  induction l with
  | nil => intro _; rw [rowB_nil]; simp [hw]
  | cons x l ih =>
   intro hl
   have := ih (fun y hy => hl y (List.mem_cons_of_mem _ hy))
   have hx := hl x (List.mem_cons_self ..)
   have hx2 := itoa_le (n := x) 4 (by omega) hx.1 (by omega)
   rw [rowB_cons, List.length_cons]
   omega
 have := key cs h3
 rw [rowB_cons]
 omega
theorem row1_len {num den add : Int} (h : moonB num den add = true) : (rowB 1 [num, den, add]).length ≤ 22 := by
 obtain ⟨h1, h2, h3⟩ := moon_parts h
 have a1 := itoa_le (n := num) 5 (by omega) h1.1 (by omega)
 have a2 := itoa_le (n := den) 4 (by omega) h2.1 (by omega)
 have a3 := itoa_le (n := add) 5 (by omega) h3.1 (by omega)
 have hw : (wordB 1).length = 4 := rfl
 rw [rowB_cons, rowB_cons, rowB_cons, rowB_nil]
 omega
theorem fact_len {f : Fact} (h : (0 ≤ f.m ∧ f.m ≤ 12) ∧ (0 ≤ f.d ∧ f.d ≤ 31) ∧ 0 ≤ f.v ∧ f.v ≤ 366) : (factRow f).length ≤ 20 := by
 obtain ⟨h1, h2, h3⟩ := h
 have a1 := itoa_le (n := f.m) 2 (by omega) h1.1 (by omega)
 have a2 := itoa_le (n := f.d) 2 (by omega) h2.1 (by omega)
 have a3 := itoa_le (n := f.v) 3 (by omega) h3.1 (by omega)
 have hw : ∀ k, (wordB k).length ≤ 8 := fun k => by unfold wordB; split <;> decide
 unfold factRow factXs
 have := hw (f.k + 1).toNat
 split
 ·rw [rowB_cons, rowB_cons, rowB_nil]; omega
 ·split
  ·rw [rowB_cons, rowB_nil]; omega
  ·rw [rowB_cons, rowB_cons, rowB_cons, rowB_nil]
   have hw7 : (wordB (f.k + 1).toNat).length ≤ 8 := this
   omega
theorem valid_rows {e : Int} {cs : List Int} {num den add : Int} {l : List Fact} (hc : calOk e cs = true) (hm : moonB num den add = true) (hf : factsB l = true) :
  (almRows e cs num den add l).length ≤ 8 ∧ ∀ r ∈ almRows e cs num den add l, r.length ≤ 28 := by
 obtain ⟨h1, h2⟩ := facts_parts hf
 refine ⟨by simp [almRows]; omega, fun r hr => ?_⟩
 unfold almRows at hr
 rcases List.mem_cons.1 hr with rfl | hr
 ·exact row0_len hc
 rcases List.mem_cons.1 hr with rfl | hr
 ·have := row1_len hm; omega
 ·obtain ⟨f, hf', rfl⟩ := List.mem_map.1 hr
  have := fact_len (h2 f hf').2
  omega
theorem vjoin_len (R : List (List UInt8)) (m : Nat) (h : ∀ r ∈ R, r.length ≤ m) : (Lib.join R [10]).length ≤ (m + 1) * R.length := by
 cases R with
 | nil => simp [Lib.join]
 | cons r R =>
  have e := congrArg List.length (join_lines 10 r R)
  have key : ∀ L : List (List UInt8), (∀ r ∈ L, r.length ≤ m) → ((L.map (fun r => r ++ [(10 : UInt8)])).flatten).length ≤ (m + 1) * L.length := by
   intro L
   induction L with
   | nil => intro _; simp
   | cons r L ih =>
    intro hL
    have h1 := ih (fun x hx => hL x (List.mem_cons_of_mem _ hx))
    have h2 := hL r (List.mem_cons_self ..)
    simp only [List.map_cons, List.flatten_cons, List.length_append, List.length_cons, List.length_nil]
    rw [Nat.mul_add]
    omega
  have := key (r :: R) h
  rw [← e, List.length_append] at this
  omega
theorem vtext_len {q : Int} (hq : 0 < q ∧ q < 1000) (R : List (List UInt8)) (m : Nat) (hm : 7 ≤ m) (h : ∀ r ∈ R, r.length ≤ m) : (textM q R).length ≤ (m + 1) * (R.length + 1) + 1 := by
 unfold textM
 have h0 : 0 ≤ chkM q R ∧ chkM q R < 1000 := ⟨Int.emod_nonneg _ (by omega), by have := Int.emod_lt_of_pos (chkN R R.length) hq.1; unfold chkM; omega⟩
 have := vjoin_len (R ++ [endB (chkM q R)]) m (fun r hr => by
  rcases List.mem_append.1 hr with h1 | h1
  ·exact h r h1
  ·rw [List.mem_singleton.1 h1, endB_len h0.1 h0.2]; exact hm)
 simp only [List.length_append, List.length_cons, List.length_nil, Nat.zero_add] at this ⊢
 omega
theorem valid_len {e : Int} {cs : List Int} {num den add : Int} {l : List Fact} (hc : calOk e cs = true) (hm : moonB num den add = true) (hf : factsB l = true) : (almText e cs num den add l).length ≤ 300 := by
 obtain ⟨h1, h2⟩ := valid_rows hc hm hf
 have := vtext_len (q := 103) ⟨by decide, by decide⟩ _ 28 (by omega) h2
 unfold almText textB
 have h3 : (28 + 1) * ((almRows e cs num den add l).length + 1) + 1 ≤ (28 + 1) * (8 + 1) + 1 := Nat.add_le_add_right (Nat.mul_le_mul_left _ (by omega)) _
 omega
theorem valid_read {e : Int} {cs : List Int} {num den add : Int} {l : List Fact} (hc : calOk e cs = true) (hm : moonB num den add = true) (hf : factsB l = true) : dread (almText e cs num den add l) = some ⟨e, cs, num, den, add, l⟩ :=
 dread_iff.2 ⟨rfl, valid_ok hc hm hf⟩
theorem mod103 : ∀ a : Fin 19, ∀ k : Fin 28, ∀ i : Fin 8, a.val ≠ 9 → (((a.val : Int) - 9) * ((k.val : Int) + 1) * ((i.val : Int) + 1)) % 103 ≠ 0 := by decide +kernel
theorem valid_spoilt {e : Int} {cs : List Int} {num den add : Int} {l : List Fact} (hc : calOk e cs = true) (hm : moonB num den add = true) (hf : factsB l = true)
  {at_ : Nat} (h : at_ < (almText e cs num den add l).length) {d : UInt8} (hd : digB d = true) (hs : digB (almText e cs num den add l)[at_] = true) (hne : d ≠ (almText e cs num den add l)[at_]) :
  dread ((almText e cs num den add l).set at_ d) = none := by
 cases hr : dread ((almText e cs num den add l).set at_ d) with
 | none => rfl
 | some a =>
  exfalso
  obtain ⟨h1, h2⟩ := dread_some hr
  obtain ⟨g1, g2⟩ := valid_rows hc hm hf
  refine text_spoilt (q := 103) (by decide) (by decide) (R := almRows e cs num den add l) (R' := a.rows) (alm_no10 (a := ⟨e, cs, num, den, add, l⟩) (valid_ok hc hm hf)) (alm_no10 h2) ?_ h hd hs hne h1
  intro i k d c r hi hk b1 b2 b3
  have hr := g2 r (List.mem_of_getElem? hi)
  have hi' := (List.getElem?_eq_some_iff.1 hi).1
  have := mod103 ⟨(d - c + 9).toNat, by omega⟩ ⟨k, by omega⟩ ⟨i, by omega⟩ (by simp only; omega)
  simp only at this
  rwa [show (((d - c + 9).toNat : Nat) : Int) - 9 = d - c by omega] at this
end Go.Proofs.YthjblcboainknaaGreatDoor
