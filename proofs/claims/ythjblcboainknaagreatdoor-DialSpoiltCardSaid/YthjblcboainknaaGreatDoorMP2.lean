/- Plain: what is read of an almanac. Plain: what strings.Split and strings.Cut give, as parts. -/
import Derived.Test.YthjblcboainknaaGreatDoorMP
import Derived.Lib.SplitLaws
import Derived.Lib.IndexMore
section
namespace Go.Proofs.YthjblcboainknaaGreatDoor

structure Alm where
 e : Int
 cs : List Int
 num : Int
 den : Int
 add : Int
 l : List Fact
def Alm.rows (a : Alm) : List (List UInt8) := almRows a.e a.cs a.num a.den a.add a.l
def Alm.text (a : Alm) : List UInt8 := textB a.rows
/-- a fact as a line can say one -/
def FactOk (f : Fact) : Prop := ((f.k = 1 ∨ f.k = 2) ∧ Sm f.m ∧ Sm f.d ∧ Sm f.v) ∨ (f.k = 3 ∧ Sm f.m ∧ Sm f.d ∧ f.v = 0) ∨ ((f.k = 4 ∨ f.k = 5) ∧ f.m = 0 ∧ f.d = 0 ∧ Sm f.v)
def AlmOk (a : Alm) : Prop := (∀ x ∈ a.e :: a.cs, Sm x) ∧ (∀ x ∈ [a.num, a.den, a.add], Sm x) ∧ ∀ f ∈ a.l, FactOk f

/-- the fact of a word and numbers -/
def factOf (w : List UInt8) (x : List Int) : Option Fact :=
 if w = wordB 2 ∧ x.length = 3 then some ⟨1, x[0]?.getD 0, x[1]?.getD 0, x[2]?.getD 0⟩
 else if w = wordB 3 ∧ x.length = 3 then some ⟨2, x[0]?.getD 0, x[1]?.getD 0, x[2]?.getD 0⟩
 else if w = wordB 4 ∧ x.length = 2 then some ⟨3, x[0]?.getD 0, x[1]?.getD 0, 0⟩
 else if w = wordB 5 ∧ x.length = 1 then some ⟨4, 0, 0, x[0]?.getD 0⟩
 else if w = wordB 6 ∧ x.length = 1 then some ⟨5, 0, 0, x[0]?.getD 0⟩
 else none
def headB (r : List UInt8) : List UInt8 := (pieces 32 r).headD []
/-- the fact of a row -/
def factB (r : List UInt8) : Option Fact := match toldB r with | none => none | some x => factOf (headB r) x
def allFacts : List (List UInt8) → Option (List Fact)
 | [] => some []
 | r :: R => match factB r, allFacts R with | some f, some l => some (f :: l) | _, _ => none

theorem word_no (k : Nat) : ∀ x ∈ wordB k, x ≠ 32 ∧ x ≠ 10 := by
 intro x hx
 unfold wordB at hx
 split at hx <;> simp only [List.mem_cons, List.not_mem_nil, or_false] at hx <;>
  (rcases hx with rfl | rfl | rfl | rfl | rfl | rfl | rfl | rfl <;> decide) <;> (rcases hx with rfl | rfl | rfl | rfl <;> decide)
theorem row_line (k : Nat) (xs : List Int) : rowB k xs = lineB (wordB k) xs := rfl
theorem told_row (k : Nat) {xs : List Int} (h : ∀ x ∈ xs, Sm x) : toldB (rowB k xs) = some xs := by
 unfold toldB
 rw [row_line, line_pieces (fun x hx => (word_no k x hx).1) (fun x hx => (h x hx).1)]
 exact nums_itoa xs h
theorem head_row (k : Nat) {xs : List Int} (h : ∀ x ∈ xs, 0 ≤ x) : headB (rowB k xs) = wordB k := by
 unfold headB
 rw [row_line, line_pieces (fun x hx => (word_no k x hx).1) h]
 rfl
theorem told_some {r : List UInt8} {xs : List Int} (h : toldB r = some xs) : (∀ x ∈ xs, Sm x) ∧ (pieces 32 r).tail = xs.map Lib.itoa := nums_some _ _ h

theorem sm_get {xs : List Int} (h : ∀ x ∈ xs, Sm x) (i : Nat) : Sm (xs[i]?.getD 0) := by
 cases hi : xs[i]? with
 | none => exact ⟨Int.le_refl _, by decide⟩
 | some x => exact h x (List.mem_of_getElem? hi)
theorem factOf_ok {w : List UInt8} {x : List Int} {f : Fact} (hx : ∀ y ∈ x, Sm y) (h : factOf w x = some f) : FactOk f := by
 unfold factOf at h
 split at h
 ·cases h; exact Or.inl ⟨Or.inl rfl, sm_get hx 0, sm_get hx 1, sm_get hx 2⟩
 split at h
 ·cases h; exact Or.inl ⟨Or.inr rfl, sm_get hx 0, sm_get hx 1, sm_get hx 2⟩
 split at h
 ·cases h; exact Or.inr (Or.inl ⟨rfl, sm_get hx 0, sm_get hx 1, rfl⟩)
 split at h
 ·cases h; exact Or.inr (Or.inr ⟨Or.inl rfl, rfl, rfl, sm_get hx 0⟩)
 split at h
 ·cases h; exact Or.inr (Or.inr ⟨Or.inr rfl, rfl, rfl, sm_get hx 0⟩)
 ·cases h
theorem factXs_sm {f : Fact} (h : FactOk f) : ∀ x ∈ factXs f, Sm x := by
 intro x hx
 unfold factXs at hx
 obtain ⟨k, m, d, v⟩ := f
 rcases h with ⟨hk, h1, h2, h3⟩ | ⟨rfl, h1, h2, h3⟩ | ⟨hk, h1, h2, h3⟩
 ·simp only at hk h1 h2 h3
  rw [if_neg (show ¬ k = 3 by omega), if_neg (show ¬ (k = 4 ∨ k = 5) by omega)] at hx
  simp only [List.mem_cons, List.not_mem_nil, or_false] at hx
  rcases hx with rfl | rfl | rfl <;> assumption
 ·rw [if_pos rfl] at hx
  simp only [List.mem_cons, List.not_mem_nil, or_false] at hx
  rcases hx with rfl | rfl <;> assumption
 ·simp only at hk h1 h2 h3
  rw [if_neg (show ¬ k = 3 by omega), if_pos hk] at hx
  simp only [List.mem_cons, List.not_mem_nil, or_false] at hx
  rw [hx]; exact h3
theorem factOf_row {f : Fact} (h : FactOk f) : factOf (wordB (f.k + 1).toNat) (factXs f) = some f := by
 obtain ⟨k, m, d, v⟩ := f
 rcases h with ⟨hk, _⟩ | ⟨rfl, _, _, h3⟩ | ⟨hk, h1, h2, _⟩
 ·simp only at hk
  rcases hk with rfl | rfl
  ·simp [factOf, factXs]
  ·simp [factOf, factXs, wordB]
 ·simp only at h3
  subst h3
  simp [factOf, factXs, wordB]
 ·simp only at hk h1 h2
  subst h1; subst h2
  rcases hk with rfl | rfl
  ·simp [factOf, factXs, wordB]
  ·simp [factOf, factXs, wordB]
theorem factB_row {f : Fact} (h : FactOk f) : factB (factRow f) = some f := by
 have hs := factXs_sm h
 unfold factB factRow
 rw [told_row _ hs]
 simp only
 rw [head_row _ (fun x hx => (hs x hx).1)]
 exact factOf_row h
theorem factB_ok {r : List UInt8} {f : Fact} (h : factB r = some f) : FactOk f := by
 unfold factB at h
 cases ht : toldB r with
 | none => rw [ht] at h; cases h
 | some x => rw [ht] at h; exact factOf_ok (told_some ht).1 h
theorem allFacts_rows : ∀ l : List Fact, (∀ f ∈ l, FactOk f) → allFacts (l.map factRow) = some l
 | [], _ => rfl
 | f :: l, h => by
  simp only [List.map_cons, allFacts]
  rw [factB_row (h f (List.mem_cons_self ..)), allFacts_rows l (fun g hg => h g (List.mem_cons_of_mem _ hg))]
theorem allFacts_ok : ∀ (R : List (List UInt8)) (l : List Fact), allFacts R = some l → ∀ f ∈ l, FactOk f
 | [], l, h => by simp only [allFacts] at h; cases h; intro f hf; simp at hf
 | r :: R, l, h => by
  simp only [allFacts] at h
  cases h1 : factB r with
  | none => rw [h1] at h; simp at h
  | some f =>
   cases h2 : allFacts R with
   | none => rw [h1, h2] at h; simp at h
   | some l' =>
    rw [h1, h2] at h
    simp only [Option.some.injEq] at h
    subst h
    intro g hg
    rcases List.mem_cons.1 hg with rfl | hg
    ·exact factB_ok h1
    ·exact allFacts_ok R l' h2 g hg
theorem allFacts_snoc (R : List (List UInt8)) (r : List UInt8) : allFacts (R ++ [r]) = match allFacts R, factB r with | some l, some f => some (l ++ [f]) | _, _ => none := by
 induction R with
 | nil => simp only [List.nil_append, allFacts]; cases factB r <;> rfl
 | cons v R ih =>
  simp only [List.cons_append, allFacts, ih]
  cases factB v <;> cases allFacts R <;> cases factB r <;> rfl
theorem allFacts_len : ∀ {R : List (List UInt8)} {l : List Fact}, allFacts R = some l → l.length = R.length
 | [], l, h => by simp only [allFacts] at h; cases h; rfl
 | r :: R, l, h => by
  simp only [allFacts] at h
  cases h1 : factB r with
  | none => rw [h1] at h; simp at h
  | some f =>
   cases h2 : allFacts R with
   | none => rw [h1, h2] at h; simp at h
   | some l' =>
    rw [h1, h2] at h
    simp only [Option.some.injEq] at h
    subst h
    simp [allFacts_len h2]
theorem allFacts_none_app {R : List (List UInt8)} (U : List (List UInt8)) (h : allFacts R = none) : allFacts (R ++ U) = none := by
 induction R with
 | nil => cases h
 | cons v R ih =>
  simp only [List.cons_append, allFacts] at h ⊢
  cases h1 : factB v with
  | none => rfl
  | some f =>
   rw [h1] at h
   cases h2 : allFacts R with
   | none => rw [ih h2]
   | some l => rw [h2] at h; cases h

/-- what the program reads of a string -/
def dreadP (P : List (List UInt8)) (s : List UInt8) : Option Alm :=
 if P.length < 4 then none else
 match toldB (P[0]?.getD []), toldB (P[1]?.getD []) with
 | some (e :: cs), some [num, den, add] =>
  match allFacts ((P.drop 2).take (P.length - 4)) with
  | some l => if textB (almRows e cs num den add l) = s then some ⟨e, cs, num, den, add, l⟩ else none
  | none => none
 | _, _ => none
def dread (s : List UInt8) : Option Alm := dreadP (pieces 10 s) s

theorem alm_no10 {a : Alm} (h : AlmOk a) : ∀ r ∈ a.rows, ∀ x ∈ r, x ≠ 10 := by
 obtain ⟨h1, h2, h3⟩ := h
 intro r hr
 unfold Alm.rows almRows at hr
 rcases List.mem_cons.1 hr with rfl | hr
 ·rw [row_line]; exact line_no10 (fun x hx => (word_no 0 x hx).2) (fun x hx => (h1 x hx).1)
 rcases List.mem_cons.1 hr with rfl | hr
 ·rw [row_line]; exact line_no10 (fun x hx => (word_no 1 x hx).2) (fun x hx => (h2 x hx).1)
 ·obtain ⟨f, hf, rfl⟩ := List.mem_map.1 hr
  unfold factRow
  rw [row_line]
  exact line_no10 (fun x hx => (word_no _ x hx).2) (fun x hx => (factXs_sm (h3 f hf) x hx).1)
theorem alm_pieces {a : Alm} (h : AlmOk a) : pieces 10 a.text = a.rows ++ [endB (chkM 103 a.rows), []] := text_pieces (by decide) (alm_no10 h)

theorem dreadP_of {P : List (List UInt8)} {s : List UInt8} {e num den add : Int} {cs : List Int} {l : List Fact} (h : 4 ≤ P.length) (h0 : toldB (P[0]?.getD []) = some (e :: cs)) (h1 : toldB (P[1]?.getD []) = some [num, den, add])
  (h2 : allFacts ((P.drop 2).take (P.length - 4)) = some l) (ht : textB (almRows e cs num den add l) = s) : dreadP P s = some ⟨e, cs, num, den, add, l⟩ := by
 unfold dreadP
 rw [if_neg (by omega), h0, h1, h2]
 simp only
 rw [if_pos ht]
theorem dreadP_short {P : List (List UInt8)} {s : List UInt8} (h : P.length < 4) : dreadP P s = none := by unfold dreadP; rw [if_pos h]
theorem dreadP_t0 {P : List (List UInt8)} {s : List UInt8} (h : toldB (P[0]?.getD []) = none) : dreadP P s = none := by
 unfold dreadP
 split
 ·rfl
 ·rw [h]
theorem dreadP_t1 {P : List (List UInt8)} {s : List UInt8} (h : toldB (P[1]?.getD []) = none) : dreadP P s = none := by
 unfold dreadP
 split
 ·rfl
 ·rw [h]
  cases toldB (P[0]?.getD []) with
  | none => rfl
  | some x => cases x <;> rfl
theorem dreadP_n0 {P : List (List UInt8)} {s : List UInt8} (h : toldB (P[0]?.getD []) = some []) : dreadP P s = none := by
 unfold dreadP
 split
 ·rfl
 ·rw [h]
theorem dreadP_n1 {P : List (List UInt8)} {s : List UInt8} {x : List Int} (h : toldB (P[1]?.getD []) = some x) (hx : x.length ≠ 3) : dreadP P s = none := by
 unfold dreadP
 split
 ·rfl
 ·rw [h]
  split
  ·rename_i h1
   cases h1
   exact absurd rfl hx
  ·rfl
theorem dreadP_facts {P : List (List UInt8)} {s : List UInt8} (h : allFacts ((P.drop 2).take (P.length - 4)) = none) : dreadP P s = none := by
 unfold dreadP
 split
 ·rfl
 ·rw [h]
  split <;> rfl
theorem dreadP_text {P : List (List UInt8)} {s : List UInt8} {e num den add : Int} {cs : List Int} {l : List Fact} (h0 : toldB (P[0]?.getD []) = some (e :: cs)) (h1 : toldB (P[1]?.getD []) = some [num, den, add])
  (h2 : allFacts ((P.drop 2).take (P.length - 4)) = some l) (ht : textB (almRows e cs num den add l) ≠ s) : dreadP P s = none := by
 unfold dreadP
 rw [h0, h1, h2]
 split
 ·rfl
 ·simp only
  rw [if_neg ht]
theorem allFacts_fail {R : List (List UInt8)} {j : Nat} {r : List UInt8} (h : R[j]? = some r) (hn : factB r = none) : allFacts R = none := by
 have hl : j < R.length := (List.getElem?_eq_some_iff.1 h).1
 have hr : R[j] = r := (List.getElem?_eq_some_iff.1 h).2
 have e : R = R.take j ++ [r] ++ R.drop (j + 1) := by
  rw [← hr, ← List.take_succ_eq_append_getElem hl, List.take_append_drop]
 rw [e]
 refine allFacts_none_app _ ?_
 rw [allFacts_snoc, hn]
 cases allFacts (R.take j) <;> rfl
theorem fact_ok_small {f : Fact} (h : FactOk f) : (1 ≤ f.k ∧ f.k ≤ 5) ∧ (0 ≤ f.m ∧ f.m ≤ 1000000) ∧ (0 ≤ f.d ∧ f.d ≤ 1000000) ∧ (0 ≤ f.v ∧ f.v ≤ 1000000) := by
 unfold FactOk Sm at h
 omega
theorem dread_text {a : Alm} (h : AlmOk a) : dread a.text = some a := by
 have hp := alm_pieces h
 obtain ⟨h1, h2, h3⟩ := h
 obtain ⟨e, cs, num, den, add, l⟩ := a
 unfold dread
 rw [hp]
 refine dreadP_of ?_ (told_row 0 h1) (told_row 1 h2) ?_ rfl
 ·simp [Alm.rows, almRows]
 ·have : ((Alm.rows ⟨e, cs, num, den, add, l⟩ ++ [endB (chkM 103 (Alm.rows ⟨e, cs, num, den, add, l⟩)), []]).drop 2).take ((Alm.rows ⟨e, cs, num, den, add, l⟩ ++ [endB (chkM 103 (Alm.rows ⟨e, cs, num, den, add, l⟩)), []]).length - 4) = l.map factRow := by
   simp [Alm.rows, almRows]
  rw [this]
  exact allFacts_rows l h3
theorem dread_some {s : List UInt8} {a : Alm} (h : dread s = some a) : s = a.text ∧ AlmOk a := by
 unfold dread dreadP at h
 split at h
 ·cases h
 split at h
 ·rename_i e cs num den add h0 h1
  split at h
  ·rename_i l h2
   split at h
   ·rename_i ht
    cases h
    exact ⟨ht.symm, (told_some h0).1, (told_some h1).1, allFacts_ok _ _ h2⟩
   ·cases h
  ·cases h
 ·cases h
theorem dread_iff {s : List UInt8} {a : Alm} : dread s = some a ↔ s = a.text ∧ AlmOk a :=
 ⟨dread_some, fun ⟨h1, h2⟩ => by rw [h1]; exact dread_text h2⟩

/- The reference's way: line by line. -/
def rstep (st : Alm) (r : List UInt8) : Option Alm :=
 match toldB r with
 | none => none
 | some x =>
  match factOf (headB r) x with
  | some f => some { st with l := st.l ++ [f] }
  | none =>
   if headB r = wordB 0 ∧ 0 < x.length then some { st with e := x[0]?.getD 0, cs := x.tail }
   else if headB r = wordB 1 ∧ x.length = 3 then some { st with num := x[0]?.getD 0, den := x[1]?.getD 0, add := x[2]?.getD 0 }
   else none
def rgo : Alm → List (List UInt8) → Option Alm
 | st, [] => some st
 | st, r :: R => match rstep st r with | none => none | some st' => rgo st' R
def rread (s : List UInt8) : Option Alm :=
 match rgo ⟨0, [], 0, 0, 0, []⟩ ((pieces 10 s).take ((pieces 10 s).length - 2)) with
 | none => none
 | some a => if a.text = s then some a else none
theorem rgo_app : ∀ (R U : List (List UInt8)) (st : Alm), rgo st (R ++ U) = match rgo st R with | none => none | some st' => rgo st' U
 | [], _, _ => rfl
 | r :: R, U, st => by
  simp only [List.cons_append, rgo]
  cases rstep st r with
  | none => rfl
  | some st' => exact rgo_app R U st'
theorem rgo_facts : ∀ (l : List Fact) (st : Alm), (∀ f ∈ l, FactOk f) → rgo st (l.map factRow) = some { st with l := st.l ++ l }
 | [], st, _ => by simp [rgo]
 | f :: l, st, h => by
  have hf := h f (List.mem_cons_self ..)
  have hs := factXs_sm hf
  have h1 : rstep st (factRow f) = some { st with l := st.l ++ [f] } := by
   unfold rstep factRow
   rw [told_row _ hs, head_row _ (fun x hx => (hs x hx).1)]
   simp only
   rw [factOf_row hf]
  simp only [List.map_cons, rgo]
  rw [h1]
  simp only
  rw [rgo_facts l _ (fun g hg => h g (List.mem_cons_of_mem _ hg))]
  simp
theorem rstep_ok {st st' : Alm} {r : List UInt8} (hs : AlmOk st) (h : rstep st r = some st') : AlmOk st' := by
 obtain ⟨h1, h2, h3⟩ := hs
 unfold rstep at h
 cases ht : toldB r with
 | none => rw [ht] at h; cases h
 | some x =>
  have hx := (told_some ht).1
  rw [ht] at h
  simp only at h
  split at h
  ·rename_i f hf
   cases h
   refine ⟨h1, h2, fun g hg => ?_⟩
   rcases List.mem_append.1 hg with hg | hg
   ·exact h3 g hg
   ·rw [List.mem_singleton.1 hg]; exact factOf_ok hx hf
  ·split at h
   ·cases h
    refine ⟨fun y hy => ?_, h2, h3⟩
    rcases List.mem_cons.1 hy with rfl | hy
    ·exact sm_get hx 0
    ·exact hx y (List.mem_of_mem_tail hy)
   ·split at h
    ·cases h
     refine ⟨h1, fun y hy => ?_, h3⟩
     simp only [List.mem_cons, List.not_mem_nil, or_false] at hy
     rcases hy with rfl | rfl | rfl
     ·exact sm_get hx 0
     ·exact sm_get hx 1
     ·exact sm_get hx 2
    ·cases h
theorem rgo_ok : ∀ (R : List (List UInt8)) (st st' : Alm), AlmOk st → rgo st R = some st' → AlmOk st'
 | [], st, st', hs, h => by simp only [rgo] at h; cases h; exact hs
 | r :: R, st, st', hs, h => by
  simp only [rgo] at h
  cases h1 : rstep st r with
  | none => rw [h1] at h; cases h
  | some st1 => rw [h1] at h; exact rgo_ok R st1 st' (rstep_ok hs h1) h
theorem alm0_ok : AlmOk ⟨0, [], 0, 0, 0, []⟩ := by
 refine ⟨fun x hx => ?_, fun x hx => ?_, fun f hf => by simp at hf⟩
 ·simp only [List.mem_cons, List.not_mem_nil, or_false] at hx
  rw [hx]; exact ⟨Int.le_refl _, by decide⟩
 ·simp only [List.mem_cons, List.not_mem_nil, or_false] at hx
  rcases hx with rfl | rfl | rfl <;> exact ⟨Int.le_refl _, by decide⟩
theorem rread_iff {s : List UInt8} {a : Alm} : rread s = some a ↔ s = a.text ∧ AlmOk a := by
 constructor
 ·intro h
  unfold rread at h
  cases h1 : rgo ⟨0, [], 0, 0, 0, []⟩ ((pieces 10 s).take ((pieces 10 s).length - 2)) with
  | none => rw [h1] at h; cases h
  | some b =>
   rw [h1] at h
   simp only at h
   split at h
   ·rename_i ht
    cases h
    exact ⟨ht.symm, rgo_ok _ _ _ alm0_ok h1⟩
   ·cases h
 ·rintro ⟨rfl, h⟩
  have hp := alm_pieces h
  unfold rread
  rw [hp]
  have ee : (a.rows ++ [endB (chkM 103 a.rows), []]).take ((a.rows ++ [endB (chkM 103 a.rows), []]).length - 2) = a.rows := by simp
  rw [ee]
  clear ee
  obtain ⟨h1, h2, h3⟩ := h
  obtain ⟨e, cs, num, den, add, l⟩ := a
  have hr : rgo ⟨0, [], 0, 0, 0, []⟩ (Alm.rows ⟨e, cs, num, den, add, l⟩) = some ⟨e, cs, num, den, add, l⟩ := by
   simp only [Alm.rows, almRows, rgo]
   have s1 : rstep ⟨0, [], 0, 0, 0, []⟩ (rowB 0 (e :: cs)) = some ⟨e, cs, 0, 0, 0, []⟩ := by
    unfold rstep
    rw [told_row 0 h1, head_row 0 (fun x hx => (h1 x hx).1)]
    simp [factOf, wordB]
   have s2 : rstep ⟨e, cs, 0, 0, 0, []⟩ (rowB 1 [num, den, add]) = some ⟨e, cs, num, den, add, []⟩ := by
    unfold rstep
    rw [told_row 1 h2, head_row 1 (fun x hx => (h2 x hx).1)]
    simp [factOf, wordB]
   rw [s1]
   simp only
   rw [s2]
   simp only
   rw [rgo_facts l _ h3]
   simp
  rw [hr]
  simp
theorem read_same (s : List UInt8) : rread s = dread s := by
 cases h : dread s with
 | some a => exact rread_iff.2 (dread_iff.1 h)
 | none =>
  cases h2 : rread s with
  | none => rfl
  | some a => rw [dread_iff.2 (rread_iff.1 h2)] at h; cases h
end Go.Proofs.YthjblcboainknaaGreatDoor
end

section
namespace Go.Proofs.YthjblcboainknaaGreatDoor

theorem index_eq (c : UInt8) (s : List UInt8) : Lib.index (c :: s) [c] = 0 := by rw [Lib.index]; simp [List.isPrefixOf]
theorem index_ne {b c : UInt8} (s : List UInt8) (h : b ≠ c) : Lib.index (b :: s) [c] = if Lib.index s [c] == -1 then -1 else Lib.index s [c] + 1 := by
 have hp : ([c] : List UInt8).isPrefixOf (b :: s) = false := by simp [List.isPrefixOf, Ne.symm h]
 rw [Lib.index, hp]
 simp
theorem splitK_pieces (c : UInt8) : ∀ (s : List UInt8), Lib.splitK [c] 0 (s.count c) s = pieces c s
 | [] => by simp [Lib.splitK, pieces]
 | b :: s => by
  have ih := splitK_pieces c s
  by_cases h : b = c
  ·subst h
   have hc : (b :: s).count b = s.count b + 1 := by simp
   rw [hc]
   unfold Lib.splitK
   rw [index_eq]
   simp only [pieces, if_true]
   simp
   exact ih
  ·have hc : (b :: s).count c = s.count c := List.count_cons_of_ne (by simpa using h)
   rw [hc]
   simp only [pieces]
   rw [if_neg h]
   cases hk : s.count c with
   | zero =>
    rw [hk] at ih
    unfold Lib.splitK at ih ⊢
    rw [← ih]
    rfl
   | succ k =>
    rw [hk] at ih
    unfold Lib.splitK at ih ⊢
    rw [index_ne s h]
    by_cases hm : Lib.index s [c] = -1
    ·rw [if_pos (beq_iff_eq.2 hm)] at ih
     rw [if_pos (beq_iff_eq.2 hm), if_pos (by decide), ← ih]
     rfl
    ·have hge := Lib.index_ge s [c]
     have hm' : ¬ (Lib.index s [c] == -1) = true := fun e => hm (beq_iff_eq.1 e)
     have hm2 : ¬ (Lib.index s [c] + 1 == -1) = true := fun e => by have := beq_iff_eq.1 e; omega
     rw [if_neg hm'] at ih
     rw [if_neg hm', if_neg hm2, ← ih]
     have e : (Lib.index s [c] + 1).toNat = (Lib.index s [c]).toNat + 1 := by omega
     rw [e]
     simp
theorem split_pieces (c : UInt8) (l : List UInt8) : (Lib.splitB ⟨#[c]⟩ 0 (Lib.countB ⟨l.toArray⟩ ⟨#[c]⟩) ⟨l.toArray⟩).map (·.data.toList) = pieces c l := by
 rw [Lib.splitB_data]
 have h1 : Lib.countB ⟨l.toArray⟩ ⟨#[c]⟩ = l.count c := by
  show Lib.count l [c] = _
  exact Lib.count_one c l
 rw [h1]
 exact splitK_pieces c l
theorem split_count (c : UInt8) (l : List UInt8) : Lib.countB ⟨l.toArray⟩ ⟨#[c]⟩ + 1 = (pieces c l).length := by
 rw [← split_pieces, List.length_map]
 exact (Lib.splitB_all ⟨#[c]⟩ (Nat.le_refl 1) 0 _ ⟨l.toArray⟩ rfl).symm
theorem bytes_back (x : ByteArray) : (⟨x.data.toList.toArray⟩ : ByteArray) = x := by cases x; simp
theorem split_cells (c : UInt8) (l : List UInt8) : (Lib.splitB ⟨#[c]⟩ 0 (Lib.countB ⟨l.toArray⟩ ⟨#[c]⟩) ⟨l.toArray⟩).map Value.string = (pieces c l).map (fun p => Value.string ⟨p.toArray⟩) := by
 rw [← split_pieces, List.map_map]
 refine List.map_congr_left fun x _ => ?_
 simp
theorem cut_head (c : UInt8) : ∀ l : List UInt8, (Lib.cut l [c]).1 = (pieces c l).headD []
 | [] => by simp [Lib.cut, Lib.index, pieces]
 | b :: s => by
  have ih := cut_head c s
  unfold Lib.cut at ih ⊢
  by_cases h : b = c
  ·subst h
   rw [index_eq]
   simp [pieces]
  ·rw [index_ne s h]
   simp only [pieces]
   rw [if_neg h]
   have hge := Lib.index_ge s [c]
   by_cases hm : Lib.index s [c] = -1
   ·rw [if_neg (by omega)] at ih
    rw [if_pos (beq_iff_eq.2 hm), if_neg (by decide)]
    simp only [List.headD_cons]
    rw [← ih]
   ·have hm' : ¬ (Lib.index s [c] == -1) = true := fun e => hm (beq_iff_eq.1 e)
    rw [if_pos (by omega)] at ih
    rw [if_neg hm', if_pos (by omega)]
    simp only [List.headD_cons]
    rw [← ih]
    have e : (Lib.index s [c] + 1).toNat = (Lib.index s [c]).toNat + 1 := by omega
    rw [e]
    rfl
end Go.Proofs.YthjblcboainknaaGreatDoor
end
