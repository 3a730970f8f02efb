/- The calendar of the chapter in plain numbers: leap years, months, first days. The date of a day, and the day of a date. The moon of the chapter: new moons and ages, in plain numbers. How many first days are less than a day. -/
section
namespace Go.Proofs.YtnpgdifidejohaaGreatDoor.Dl
/-- is a year a leap year: an odd number of cycles divide it -/
def leapB (cs : List Int) (y : Int) : Bool := cs.foldl (fun b n => if y % n = 0 then !b else b) false
/-- how long a month is -/
def mlen (b : Bool) (m : Int) : Int :=
  if m = 2 then (if b then 29 else 28) else if m = 4 ∨ m = 6 ∨ m = 9 ∨ m = 11 then 30 else 31
/-- days before a month -/
def cum (b : Bool) (m : Int) : Int :=
  if m = 1 then 0 else if m = 2 then 31 else
  (if m = 3 then 59 else if m = 4 then 90 else if m = 5 then 120 else if m = 6 then 151 else if m = 7 then 181 else
   if m = 8 then 212 else if m = 9 then 243 else if m = 10 then 273 else if m = 11 then 304 else if m = 12 then 334 else 365) + (if b then 1 else 0)
def yearLen (cs : List Int) (y : Int) : Int := if leapB cs y then 366 else 365
/-- the first day of a year -/
def firstN (e : Int) (cs : List Int) : Nat → Int
  | 0 => e
  | n + 1 => firstN e cs n + yearLen cs n
def firstDay (e : Int) (cs : List Int) (y : Int) : Int := firstN e cs y.toNat

theorem cum_succ (b : Bool) (m : Int) (h1 : 1 ≤ m) (h2 : m ≤ 12) : cum b (m + 1) = cum b m + mlen b m := by
  have : m = 1 ∨ m = 2 ∨ m = 3 ∨ m = 4 ∨ m = 5 ∨ m = 6 ∨ m = 7 ∨ m = 8 ∨ m = 9 ∨ m = 10 ∨ m = 11 ∨ m = 12 := by omega
  rcases this with rfl | rfl | rfl | rfl | rfl | rfl | rfl | rfl | rfl | rfl | rfl | rfl <;> cases b <;> rfl
theorem cum_year (cs : List Int) (y : Int) : cum (leapB cs y) 13 = yearLen cs y := by
  unfold cum yearLen; cases leapB cs y <;> rfl
theorem mlen_pos (b : Bool) (m : Int) : 28 ≤ mlen b m ∧ mlen b m ≤ 31 := by
  unfold mlen; cases b <;> (repeat' split) <;> simp_all
theorem yearLen_pos (cs : List Int) (y : Int) : 365 ≤ yearLen cs y ∧ yearLen cs y ≤ 366 := by
  unfold yearLen; split <;> omega

theorem firstDay_succ (e : Int) (cs : List Int) (y : Int) (h : 0 ≤ y) : firstDay e cs (y + 1) = firstDay e cs y + yearLen cs y := by
  unfold firstDay
  have : (y + 1).toNat = y.toNat + 1 := by omega
  rw [this]
  show _ + yearLen cs (y.toNat : Int) = _
  rw [Int.toNat_of_nonneg h]
theorem firstDay_zero (e : Int) (cs : List Int) : firstDay e cs 0 = e := rfl

theorem firstN_bounds (e : Int) (cs : List Int) (n : Nat) : e + 365 * n ≤ firstN e cs n ∧ firstN e cs n ≤ e + 366 * n := by
  induction n with
  | zero => simp [firstN]
  | succ n ih => have := yearLen_pos cs n; simp only [firstN]; omega
theorem firstDay_bounds (e : Int) (cs : List Int) (y : Int) (h : 0 ≤ y) : e + 365 * y ≤ firstDay e cs y ∧ firstDay e cs y ≤ e + 366 * y := by
  have := firstN_bounds e cs y.toNat
  unfold firstDay; omega
theorem firstN_mono (e : Int) (cs : List Int) {a b : Nat} (h : a < b) : firstN e cs a + 365 ≤ firstN e cs b := by
  induction b with
  | zero => omega
  | succ b ih =>
    have hy := yearLen_pos cs b
    simp only [firstN]
    by_cases hb : a = b
    · subst hb; omega
    · have := ih (by omega); omega
theorem firstDay_mono (e : Int) (cs : List Int) {a b : Int} (h0 : 0 ≤ a) (h : a < b) : firstDay e cs a + 365 ≤ firstDay e cs b :=
  firstN_mono e cs (by omega)
end Go.Proofs.YtnpgdifidejohaaGreatDoor.Dl
end

section
namespace Go.Proofs.YtnpgdifidejohaaGreatDoor.Dl
/-- the month of a day of a year, counted from 0 -/
def monthGo (b : Bool) (l : Int) (m : Int) : Nat → Int
  | 0 => m
  | f + 1 => if l < cum b (m + 1) then m else monthGo b l (m + 1) f
def monthOf (b : Bool) (left : Int) : Int := monthGo b left 1 11

def yearGo (cs : List Int) (left : Int) (y : Nat) : Nat → Option (Nat × Int)
  | 0 => none
  | f + 1 => if left < yearLen cs y then some (y, left) else yearGo cs (left - yearLen cs y) (y + 1) f

structure Date where
  y : Int
  m : Int
  d : Int
deriving DecidableEq

def real (cs : List Int) (x : Date) : Prop := 0 ≤ x.y ∧ x.y ≤ 4000 ∧ 1 ≤ x.m ∧ x.m ≤ 12 ∧ 1 ≤ x.d ∧ x.d ≤ mlen (leapB cs x.y) x.m
instance (cs : List Int) (x : Date) : Decidable (real cs x) := by unfold real; infer_instance
def dayOf (e : Int) (cs : List Int) (x : Date) : Int := firstDay e cs x.y + cum (leapB cs x.y) x.m + x.d - 1

def dateOf (e : Int) (cs : List Int) (day : Int) : Option Date :=
  if day < e then none else
  (yearGo cs (day - e) 0 4001).map fun p =>
    ⟨p.1, monthOf (leapB cs p.1) p.2, p.2 - cum (leapB cs p.1) (monthOf (leapB cs p.1) p.2) + 1⟩

theorem monthGo_spec (b : Bool) (l : Int) (h1 : l < cum b 13) : ∀ (f : Nat) (m : Int), 1 ≤ m → m + f = 12 → cum b m ≤ l →
    1 ≤ monthGo b l m f ∧ monthGo b l m f ≤ 12 ∧ cum b (monthGo b l m f) ≤ l ∧ l < cum b (monthGo b l m f + 1) := by
  intro f
  induction f with
  | zero =>
    intro m hm hf hc
    obtain rfl : m = 12 := by omega
    exact ⟨by simp [monthGo], by simp [monthGo], hc, h1⟩
  | succ f ih =>
    intro m hm hf hc
    simp only [monthGo]
    split
    · rename_i h
      exact ⟨hm, by omega, hc, h⟩
    · rename_i h
      exact ih (m + 1) (by omega) (by omega) (by omega)

theorem cum_mono (b : Bool) (m : Int) (h1 : 1 ≤ m) : ∀ f : Nat, m + f ≤ 13 → cum b m + 28 * f ≤ cum b (m + f) := by
  intro f
  induction f with
  | zero => simp
  | succ f ih =>
    intro h
    have := ih (by omega)
    have c := cum_succ b (m + f) (by omega) (by omega)
    have p := mlen_pos b (m + f)
    rw [show m + ((f + 1 : Nat) : Int) = m + f + 1 by omega, c]
    omega

theorem monthOf_spec (b : Bool) (l : Int) (h0 : 0 ≤ l) (h1 : l < cum b 13) :
    1 ≤ monthOf b l ∧ monthOf b l ≤ 12 ∧ cum b (monthOf b l) ≤ l ∧ l < cum b (monthOf b l) + mlen b (monthOf b l) := by
  have := monthGo_spec b l h1 11 1 (by omega) rfl (by show cum b 1 ≤ l; have : cum b 1 = 0 := rfl; omega)
  unfold monthOf
  obtain ⟨a1, a2, a3, a4⟩ := this
  rw [cum_succ b _ a1 a2] at a4
  exact ⟨a1, a2, a3, a4⟩

theorem month_lt (b : Bool) {m m' : Int} (h1 : 1 ≤ m) (h : m < m') (h2 : m' ≤ 13) : cum b (m + 1) ≤ cum b m' := by
  have := cum_mono b (m + 1) (by omega) (m' - (m + 1)).toNat (by omega)
  rw [show m + 1 + (((m' - (m + 1)).toNat : Nat) : Int) = m' by omega] at this
  omega

theorem month_unique (b : Bool) (l m : Int) (h1 : 1 ≤ m) (h2 : m ≤ 12) (h3 : cum b m ≤ l) (h4 : l < cum b m + mlen b m) : monthOf b l = m := by
  have c13 : cum b (m + 1) ≤ cum b 13 := by
    by_cases h : m = 12
    · subst h; exact Int.le_refl _
    · exact month_lt b h1 (by omega) (by omega)
  have cs := cum_succ b m h1 h2
  have c0 : cum b 1 ≤ cum b m := by
    by_cases h : m = 1
    · subst h; exact Int.le_refl _
    · have := month_lt b (m := 1) (m' := m) (by omega) (by omega) (by omega)
      have e : cum b (1 + 1) = 31 := rfl
      have e1 : cum b 1 = 0 := rfl
      omega
  have e1 : cum b 1 = 0 := rfl
  obtain ⟨a1, a2, a3, a4⟩ := monthOf_spec b l (by omega) (by omega)
  rw [← cum_succ b _ a1 a2] at a4
  rcases Int.lt_trichotomy (monthOf b l) m with h | h | h
  · have := month_lt b a1 h (by omega); omega
  · exact h
  · have := month_lt b h1 h (by omega); omega

theorem yearGo_some {e : Int} {cs : List Int} {day : Int} : ∀ (f : Nat) (y : Nat) (r : Nat × Int), firstN e cs y ≤ day →
    yearGo cs (day - firstN e cs y) y f = some r → r.1 < y + f ∧ firstN e cs r.1 ≤ day ∧ day < firstN e cs (r.1 + 1) ∧ r.2 = day - firstN e cs r.1 := by
  intro f
  induction f with
  | zero => intro y r _ h; cases h
  | succ f ih =>
    intro y r h0 h
    simp only [yearGo] at h
    split at h
    · cases h
      simp only [firstN]
      exact ⟨by omega, h0, by omega, trivial⟩
    · have e1 : day - firstN e cs y - yearLen cs y = day - firstN e cs (y + 1) := by simp only [firstN]; omega
      rw [e1] at h
      have := ih (y + 1) r (by simp only [firstN]; omega) h
      omega

theorem yearGo_none {e : Int} {cs : List Int} {day : Int} : ∀ (f : Nat) (y : Nat), firstN e cs y ≤ day →
    yearGo cs (day - firstN e cs y) y f = none → firstN e cs (y + f) ≤ day := by
  intro f
  induction f with
  | zero => intro y h0 _; exact h0
  | succ f ih =>
    intro y h0 h
    simp only [yearGo] at h
    split at h
    · cases h
    · have e1 : day - firstN e cs y - yearLen cs y = day - firstN e cs (y + 1) := by simp only [firstN]; omega
      rw [e1] at h
      have := ih (y + 1) (by simp only [firstN]; omega) h
      rw [show y + (f + 1) = y + 1 + f by omega]
      exact this

theorem dayOf_bounds {e : Int} {cs : List Int} {x : Date} (h : real cs x) : firstDay e cs x.y ≤ dayOf e cs x ∧ dayOf e cs x < firstDay e cs (x.y + 1) := by
  obtain ⟨h1, h2, h3, h4, h5, h6⟩ := h
  unfold dayOf
  have a := cum_succ (leapB cs x.y) x.m h3 h4
  have c0 : 0 ≤ cum (leapB cs x.y) x.m := by
    by_cases h : x.m = 1
    · rw [h]; exact Int.le_refl _
    · have := month_lt (leapB cs x.y) (m := 1) (m' := x.m) (by omega) (by omega) (by omega)
      have e : cum (leapB cs x.y) (1 + 1) = 31 := rfl
      omega
  have c1 : cum (leapB cs x.y) (x.m + 1) ≤ cum (leapB cs x.y) 13 := by
    by_cases h : x.m = 12
    · rw [h]; exact Int.le_refl _
    · exact month_lt _ h3 (by omega) (by omega)
  rw [cum_year] at c1
  rw [firstDay_succ _ _ _ h1]
  omega

theorem dateOf_some {e : Int} {cs : List Int} {day : Int} {x : Date} : dateOf e cs day = some x ↔ real cs x ∧ dayOf e cs x = day := by
  constructor
  · intro h
    unfold dateOf at h
    split at h
    · cases h
    · rename_i h0
      cases hr : yearGo cs (day - e) 0 4001 with
      | none => rw [hr] at h; cases h
      | some r =>
        rw [hr] at h
        obtain ⟨a1, a2, a3, a4⟩ := yearGo_some (e := e) (cs := cs) (day := day) 4001 0 r (by simp only [firstN]; omega) (by simpa only [firstN] using hr)
        simp only [Option.map_some, Option.some.injEq] at h
        simp only [firstN] at a3
        have hm := monthOf_spec (leapB cs r.1) r.2 (by omega) (by rw [cum_year]; omega)
        subst h
        have ef : firstDay e cs (r.1 : Int) = firstN e cs r.1 := by unfold firstDay; simp
        refine ⟨⟨?_, ?_, ?_, ?_, ?_, ?_⟩, ?_⟩ <;> simp only [dayOf, ef] <;> omega
  · rintro ⟨hx, hd⟩
    have hb := dayOf_bounds (e := e) hx
    obtain ⟨h1, h2, h3, h4, h5, h6⟩ := hx
    have he := firstDay_bounds e cs x.y h1
    unfold dateOf
    rw [if_neg (by omega)]
    cases hr : yearGo cs (day - e) 0 4001 with
    | none =>
      have := yearGo_none (e := e) (cs := cs) (day := day) 4001 0 (by simp only [firstN]; omega) (by simpa only [firstN] using hr)
      exfalso
      have c : firstDay e cs (x.y + 1) ≤ firstN e cs (0 + 4001) := by
        unfold firstDay
        by_cases hy : (x.y + 1).toNat = 4001
        · rw [hy]; simp
        · have := firstN_mono e cs (a := (x.y + 1).toNat) (b := 0 + 4001) (by omega); omega
      omega
    | some r =>
      obtain ⟨a1, a2, a3, a4⟩ := yearGo_some (e := e) (cs := cs) (day := day) 4001 0 r (by simp only [firstN]; omega) (by simpa only [firstN] using hr)
      have ry : (r.1 : Int) = x.y := by
        have c1 : ¬ r.1 < x.y.toNat := fun hlt => by
          have : firstN e cs (r.1 + 1) ≤ firstN e cs x.y.toNat := by
            by_cases hh : r.1 + 1 = x.y.toNat
            · rw [hh]; omega
            · have := firstN_mono e cs (a := r.1 + 1) (b := x.y.toNat) (by omega); omega
          unfold firstDay at hb; omega
        have c2 : ¬ x.y.toNat < r.1 := fun hlt => by
          have : firstDay e cs (x.y + 1) ≤ firstN e cs r.1 := by
            unfold firstDay
            by_cases hh : (x.y + 1).toNat = r.1
            · rw [hh]; omega
            · have := firstN_mono e cs (a := (x.y + 1).toNat) (b := r.1) (by omega); omega
          omega
        omega
      have ef : firstDay e cs x.y = firstN e cs r.1 := by unfold firstDay; congr 1; omega
      simp only [Option.map_some, Option.some.injEq]
      have hm : monthOf (leapB cs r.1) r.2 = x.m := by
        rw [ry]
        unfold dayOf at hd
        exact month_unique _ _ _ h3 h4 (by omega) (by omega)
      rw [hm, ry]
      cases x with | mk y m d =>
      simp only [Date.mk.injEq, true_and]
      simp only [dayOf] at *
      omega

theorem dateOf_none {e : Int} {cs : List Int} {day : Int} : dateOf e cs day = none ↔ day < e ∨ firstDay e cs 4001 ≤ day := by
  have h41 : firstDay e cs 4001 = firstN e cs 4001 := rfl
  unfold dateOf
  split
  · simp_all
  · rename_i h0
    cases hr : yearGo cs (day - e) 0 4001 with
    | none =>
      have := yearGo_none (e := e) (cs := cs) (day := day) 4001 0 (by simp only [firstN]; omega) (by simpa only [firstN] using hr)
      simp at this
      simp; omega
    | some r =>
      obtain ⟨a1, a2, a3, a4⟩ := yearGo_some (e := e) (cs := cs) (day := day) 4001 0 r (by simp only [firstN]; omega) (by simpa only [firstN] using hr)
      have : firstN e cs (r.1 + 1) ≤ firstN e cs 4001 := by
        by_cases hh : r.1 + 1 = 4001
        · rw [hh]; omega
        · have := firstN_mono e cs (a := r.1 + 1) (b := 4001) (by omega); omega
      simp; omega


example : dateOf 2 [4, 100, 400] 578103 = some ⟨1582, 10, 15⟩ := by decide +kernel
end Go.Proofs.YtnpgdifidejohaaGreatDoor.Dl
end

section
namespace Go.Proofs.YtnpgdifidejohaaGreatDoor.Dl
/-- the k-th new moon -/
def newDay (num den add k : Int) : Int := (k * num + add) / den
/-- the number of the last new moon up to a day -/
def lastK (num den add d : Int) : Int := ((d + 1) * den - 1 - add) / num
/-- the moon's age -/
def ageOf (num den add d : Int) : Int := d - newDay num den add (lastK num den add d)

structure MoonOk (num den add : Int) : Prop where
  d1 : 1 ≤ den
  d2 : den ≤ 1000
  n1 : 29 * den ≤ num
  n2 : num ≤ 30 * den
  a1 : 0 ≤ add
  a2 : add ≤ num - 1

section
variable {num den add : Int} (h : MoonOk num den add)
include h

theorem MoonOk.npos : 0 < num := by have := h.d1; have := h.n1; omega

theorem new_le_iff (k d : Int) : newDay num den add k ≤ d ↔ k ≤ lastK num den add d := by
  have hd : 0 < den := by have := h.d1; omega
  unfold newDay lastK
  rw [Int.le_ediv_iff_mul_le h.npos, ← Int.lt_add_one_iff, Int.ediv_lt_iff_lt_mul hd]
  omega

theorem new_last (d : Int) : newDay num den add (lastK num den add d) ≤ d := (new_le_iff h _ _).2 (Int.le_refl _)
theorem new_next (d : Int) : d < newDay num den add (lastK num den add d + 1) := by
  have := (new_le_iff h (lastK num den add d + 1) d)
  omega

theorem new_gap (k : Int) : newDay num den add k + 29 ≤ newDay num den add (k + 1) ∧ newDay num den add (k + 1) ≤ newDay num den add k + 30 := by
  have hd : 0 < den := by have := h.d1; omega
  have h1 := h.n1
  have h2 := h.n2
  unfold newDay
  have e : (k + 1) * num = k * num + num := by rw [Int.add_mul]; omega
  rw [e]
  have a1 : (k * num + add + den * 29) / den = (k * num + add) / den + 29 := Int.add_mul_ediv_left _ _ (by omega)
  have a2 : (k * num + add + den * 30) / den = (k * num + add) / den + 30 := Int.add_mul_ediv_left _ _ (by omega)
  rw [← a1, ← a2]
  constructor <;> apply Int.ediv_le_ediv hd <;> omega

theorem last_unique {k d : Int} (h1 : newDay num den add k ≤ d) (h2 : d < newDay num den add (k + 1)) : lastK num den add d = k := by
  have a := (new_le_iff h k d).1 h1
  have b : ¬ (k + 1 ≤ lastK num den add d) := fun hh => by have := (new_le_iff h (k+1) d).2 hh; omega
  omega

theorem age_range (d : Int) : 0 ≤ ageOf num den add d ∧ ageOf num den add d ≤ 29 := by
  have a := new_last h d
  have b := new_next h d
  have c := new_gap h (lastK num den add d)
  unfold ageOf
  omega

theorem age_next (d : Int) : ageOf num den add (d + 1) = ageOf num den add d + 1 ∨ (ageOf num den add (d + 1) = 0 ∧ 28 ≤ ageOf num den add d) := by
  have a := new_last h d
  have b := new_next h d
  have c := new_gap h (lastK num den add d)
  have c' := new_gap h (lastK num den add d + 1)
  by_cases e : newDay num den add (lastK num den add d + 1) = d + 1
  · right
    have := last_unique h (k := lastK num den add d + 1) (d := d + 1) (by omega) (by omega)
    unfold ageOf
    rw [this]
    omega
  · left
    have := last_unique h (k := lastK num den add d) (d := d + 1) (by omega) (by omega)
    unfold ageOf
    rw [this]
    omega

theorem new_period (k : Int) : newDay num den add (k + den) = newDay num den add k + num := by
  have hd : den ≠ 0 := by have := h.d1; omega
  unfold newDay
  have e : (k + den) * num + add = k * num + add + den * num := by rw [Int.add_mul]; omega
  rw [e, Int.add_mul_ediv_left _ _ hd]

theorem age_period (d : Int) : ageOf num den add (d + num) = ageOf num den add d := by
  have a := new_last h d
  have b := new_next h d
  have p := new_period h (lastK num den add d)
  have p' := new_period h (lastK num den add d + 1)
  have := last_unique h (k := lastK num den add d + den) (d := d + num) (by omega) (by
    have e : lastK num den add d + den + 1 = lastK num den add d + 1 + den := by omega
    rw [e]; omega)
  unfold ageOf
  rw [this]
  omega

theorem age_at (k i : Int) (h0 : 0 ≤ i) (h1 : i < 29) : ageOf num den add (newDay num den add k + i) = i := by
  have g := new_gap h k
  have := last_unique h (k := k) (d := newDay num den add k + i) (by omega) (by omega)
  unfold ageOf
  rw [this]
  omega
end

/-- the first day from n on, on which the moon's age is 13 -/
def fullOf (num den add n : Int) : Int :=
  if n ≤ newDay num den add (lastK num den add n) + 13 then newDay num den add (lastK num den add n) + 13 else newDay num den add (lastK num den add n + 1) + 13
section
variable {num den add : Int} (h : MoonOk num den add)
include h
theorem full_bounds (n : Int) : n ≤ fullOf num den add n ∧ fullOf num den add n ≤ n + 29 := by
  have a := new_last h n
  have b := new_next h n
  have c := new_gap h (lastK num den add n)
  unfold fullOf
  split <;> omega
theorem age_full (n : Int) : ageOf num den add (fullOf num den add n) = 13 := by
  unfold fullOf
  split
  · exact age_at h _ 13 (by omega) (by omega)
  · exact age_at h _ 13 (by omega) (by omega)
theorem not_full (n j : Int) (h1 : n ≤ j) (h2 : j < fullOf num den add n) : ageOf num den add j ≠ 13 := by
  have a := new_last h n
  have b := new_next h n
  have c := new_gap h (lastK num den add n)
  have c' := new_gap h (lastK num den add n + 1)
  unfold fullOf at h2
  split at h2
  · have := last_unique h (k := lastK num den add n) (d := j) (by omega) (by omega)
    unfold ageOf
    rw [this]
    omega
  · by_cases hj : j < newDay num den add (lastK num den add n + 1)
    · have := last_unique h (k := lastK num den add n) (d := j) (by omega) (by omega)
      unfold ageOf
      rw [this]
      omega
    · have := last_unique h (k := lastK num den add n + 1) (d := j) (by omega) (by omega)
      unfold ageOf
      rw [this]
      omega
end
end Go.Proofs.YtnpgdifidejohaaGreatDoor.Dl
end

section
namespace Go.Proofs.YtnpgdifidejohaaGreatDoor.Dl

theorem countP_range (f : Nat → Int) (x : Int) (k : Nat) : ∀ n, k ≤ n → (∀ i, i < n → (f i < x ↔ i < k)) → ((List.range n).map f).countP (· < x) = k := by
  intro n
  induction n generalizing k with
  | zero => intro h _; simp; omega
  | succ n ih =>
    intro hk h
    rw [List.range_succ, List.map_append, List.countP_append]
    by_cases hkn : k ≤ n
    · rw [ih k hkn (fun i hi => h i (by omega))]
      have := h n (by omega)
      have hn : ¬ f n < x := by rw [this]; omega
      simp [hn]
    · have hk' : k = n + 1 := by omega
      rw [ih n (Nat.le_refl _) (fun i hi => by rw [h i (by omega)]; omega)]
      have := h n (by omega)
      have hn : f n < x := by rw [this]; omega
      simp [hn]
      omega

theorem firstN_lt (e : Int) (cs : List Int) {a b : Nat} (h : a < b) : firstN e cs a < firstN e cs b := by have := firstN_mono e cs h; omega
theorem firstN_le (e : Int) (cs : List Int) {a b : Nat} (h : a ≤ b) : firstN e cs a ≤ firstN e cs b := by
  rcases Nat.lt_or_eq_of_le h with h | h
  · exact Int.le_of_lt (firstN_lt e cs h)
  · rw [h]; exact Int.le_refl _

theorem firsts_sorted (e : Int) (cs : List Int) (n : Nat) : ((List.range n).map (firstN e cs)).Pairwise (· ≤ ·) := by
  rw [List.pairwise_map]
  have := List.pairwise_lt_range (n := n)
  exact this.imp fun h => firstN_le e cs (Nat.le_of_lt h)

/-- the first day of a year is found -/
theorem firsts_found (e : Int) (cs : List Int) (n y : Nat) (hy : y < n) : ((List.range n).map (firstN e cs)).countP (· < firstN e cs y) = y ∧ ((List.range n).map (firstN e cs)).contains (firstN e cs y) = true := by
  constructor
  · refine countP_range _ _ y n (by omega) fun i _ => ⟨fun h => ?_, fun h => firstN_lt e cs h⟩
    rcases Nat.lt_or_ge i y with h' | h'
    · exact h'
    · have := firstN_le e cs h'; omega
  · rw [List.contains_iff_mem, List.mem_map]
    exact ⟨y, List.mem_range.2 hy, rfl⟩
/-- another day of a year is not -/
theorem firsts_between (e : Int) (cs : List Int) (n y : Nat) (x : Int) (hy : y < n) (h1 : firstN e cs y < x) (h2 : y + 1 < n → x < firstN e cs (y + 1)) :
    ((List.range n).map (firstN e cs)).countP (· < x) = y + 1 ∧ ((List.range n).map (firstN e cs)).contains x = false := by
  constructor
  · refine countP_range _ _ (y + 1) n (by omega) fun i hi => ⟨fun h => ?_, fun h => ?_⟩
    · rcases Nat.lt_or_ge i (y + 1) with h' | h'
      · exact h'
      · have := firstN_le e cs h'; have := h2 (by omega); omega
    · have := firstN_le e cs (show i ≤ y by omega); omega
  · rw [Bool.eq_false_iff]
    intro hc
    rw [List.contains_iff_mem, List.mem_map] at hc
    obtain ⟨i, hi, he⟩ := hc
    have hi := List.mem_range.1 hi
    rcases Nat.lt_or_ge i (y + 1) with h' | h'
    · have := firstN_le e cs (show i ≤ y by omega); omega
    · have := firstN_le e cs h'; have := h2 (by omega); omega
theorem firsts_before (e : Int) (cs : List Int) (n : Nat) (x : Int) (h1 : x < e) :
    ((List.range n).map (firstN e cs)).countP (· < x) = 0 ∧ ((List.range n).map (firstN e cs)).contains x = false := by
  have hb : ∀ i, e ≤ firstN e cs i := fun i => firstN_le e cs (Nat.zero_le i)
  constructor
  · refine countP_range _ _ 0 n (by omega) fun i hi => ⟨fun h => ?_, fun h => by omega⟩
    have := hb i; omega
  · rw [Bool.eq_false_iff]
    intro hc
    rw [List.contains_iff_mem, List.mem_map] at hc
    obtain ⟨i, _, he⟩ := hc
    have := hb i; omega
end Go.Proofs.YtnpgdifidejohaaGreatDoor.Dl
end
