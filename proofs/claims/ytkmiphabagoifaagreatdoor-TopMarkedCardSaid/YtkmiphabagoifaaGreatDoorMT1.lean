/- The words in which memory is told: a slice that reads as a list of numbers, a world that has only grown. The calendar of the chapter in plain numbers: leap years, months, first days. The date of a day, and the day of a date. Walks: ranges, leap years, months, sums, lengths of years. More for regions that draw their order: what is kept may grow in the midst of a region. Walks: whether a date is one of a calendar; the day of a date. -/
import Derived.Test.YtkmiphabagoifaaGreatDoorProg
import Derived.WalkKit
import Derived.WalkSpells
import Derived.WalkLawsBesides
import Derived.LoopTactic
import Derived.Deep.LoopGhost
import Derived.Lib.Hide
import Derived.Deep.Draws
import Derived.Deep.QuietTactic
import Derived.BigQuiet
import Derived.Deep.RegionHeld3
section
namespace Go.Proofs.YtkmiphabagoifaaGreatDoor
open Go.RowKit

theorem block_of_add (a : Addr) (n : Nat) : (a.add n).block = a.block := by unfold Addr.add; split <;> rfl
theorem add_of_add (a : Addr) (i j : Nat) : (a.add i).add j = a.add (i + j) := by
 unfold Addr.add
 by_cases hi : i = 0 <;> by_cases hj : j = 0 <;> simp [hi, hj, Nat.add_assoc]
theorem add_lit (b o k : Nat) : (Addr.mk b o none).add k = ⟨b, o + k, none⟩ := by
 unfold Addr.add
 by_cases h : k = 0 <;> simp [h]

/- The world has only grown. -/
theorem fr_refl (w : World) : Below w.heap.size w w := Below.refl _ _
theorem fr_alloc {w W : World} (h : Below w.heap.size w W) (o : Obj) : Below w.heap.size w (W.alloc o) := h.alloc h.size o
theorem fr_drew {w W : World} (h : Below w.heap.size w W) : Below w.heap.size w W.drew := h.drew
theorem fr_drewN {w W : World} (h : Below w.heap.size w W) (n : Nat) : Below w.heap.size w (W.drewN n) := ⟨h.os, h.tape, h.output, h.size, h.block⟩
theorem fr_set {w W : World} (h : Below w.heap.size w W) {p : Addr} (hp : w.heap.size ≤ p.block) (u : Value) : Below w.heap.size w (W.setCell p u) := h.setCell hp u
theorem fr_call {w W W' : World} (h : Below w.heap.size w W) (k : Below W.heap.size W W') : Below w.heap.size w W' := h.trans (k.mono h.size)
theorem bcell {W w1 : World} (hb : Below W.heap.size W w1) : (∀ b o, b < W.heap.size → w1.cell? ⟨b, o, none⟩ = W.cell? ⟨b, o, none⟩) ∧ (∀ b o, b < W.heap.size → w1.frozen? ⟨b, o, none⟩ = W.frozen? ⟨b, o, none⟩) :=
 ⟨fun b o h => hb.cell (p := ⟨b, o, none⟩) h, fun b o h => hb.frozen (p := ⟨b, o, none⟩) h⟩

/-- What a region that makes memory keeps: the cells that lay there, and that the world has only grown. -/
theorem kp_step {W0 W W1 : World} (hb : Below W.heap.size W W1) (hS : (∀ p : Addr, p.block < W0.heap.size → W.cell? p = W0.cell? p) ∧ Below W0.heap.size W0 W) :
  (∀ p : Addr, p.block < W0.heap.size → W1.cell? p = W0.cell? p) ∧ Below W0.heap.size W0 W1 :=
 ⟨fun p h => (hb.cell (Nat.lt_of_lt_of_le h hS.2.size)).trans (hS.1 p h), fr_call hS.2 hb⟩

theorem kp_of {W0 W : World} {N : Nat} (h : Below N W0 W) : (∀ p : Addr, p.block < N → W.cell? p = W0.cell? p) ∧ Below N W0 W := ⟨fun _ hp => h.cell hp, h⟩
theorem kpn_step {W0 W W1 : World} {N : Nat} (hb : Below W.heap.size W W1) (hS : (∀ p : Addr, p.block < N → W.cell? p = W0.cell? p) ∧ Below N W0 W) (hN : N ≤ W0.heap.size) :
  (∀ p : Addr, p.block < N → W1.cell? p = W0.cell? p) ∧ Below N W0 W1 := kp_of (hS.2.trans (hb.mono (Nat.le_trans hN hS.2.size)))

/-- The slice value '.slice A n c' reads as the numbers xs. -/
def Rd (w : World) (A : Option Addr) (n : Nat) (xs : List Int) : Prop :=
 xs.length = n ∧ (0 < n → ∃ ad, A = some ad ∧ ad.block < w.heap.size ∧ ∀ j, j < n → w.cell? (ad.add j) = some (.int .i64 (xs[j]?.getD 0)))
theorem Rd.len {w : World} {A : Option Addr} {n : Nat} {xs : List Int} (h : Rd w A n xs) : xs.length = n := h.1
theorem Rd.keep {w w' : World} {A : Option Addr} {n : Nat} {xs : List Int} (h : Rd w A n xs) (hb : Below w.heap.size w w') : Rd w' A n xs :=
 ⟨h.1, fun hn => by
  obtain ⟨ad, e, hlt, hc⟩ := h.2 hn
  exact ⟨ad, e, Nat.lt_of_lt_of_le hlt hb.size, fun j hj => (hb.cell (by rw [block_of_add]; exact hlt)).trans (hc j hj)⟩⟩
theorem Rd.alloc {w : World} {A : Option Addr} {n : Nat} {xs : List Int} (h : Rd w A n xs) (o : Obj) : Rd (w.alloc o) A n xs := h.keep (fr_alloc (fr_refl w) o)
/-- the slice begins in a block from B on, or is nil -/
def Fresh (B : Nat) (A : Option Addr) : Prop := ∀ ad, A = some ad → B ≤ ad.block
theorem Rd.far {w w' : World} {A : Option Addr} {n g : Nat} {xs : List Int} (h : Rd w A n xs) (hg : w.grownBy w' (some g)) (hne : ∀ ad, A = some ad → ad.block ≠ g) : Rd w' A n xs :=
 ⟨h.1, fun hn => by
  obtain ⟨ad, e, hlt, hc⟩ := h.2 hn
  exact ⟨ad, e, Nat.lt_of_lt_of_le hlt hg.size, fun j hj => (World.cell?_of_block (hg.block _ (by rw [block_of_add]; exact hlt) (by rw [block_of_add]; intro e'; cases e'; exact hne ad e rfl))).trans (hc j hj)⟩⟩
theorem Fresh.ne {B g : Nat} {A : Option Addr} (h : Fresh B A) (hg : g < B) : ∀ ad, A = some ad → ad.block ≠ g := fun ad e => by have := h ad e; omega
theorem Rd.nil_ (w : World) (A : Option Addr) : Rd w A 0 [] := ⟨rfl, fun h => absurd h (by omega)⟩
theorem Rd.at_ {w : World} {A : Option Addr} {n : Nat} {xs : List Int} (h : Rd w A n xs) {k : Nat} (hk : k < n) :
  ∃ ad, A = some ad ∧ ad.block < w.heap.size ∧ w.cell? (ad.add k) = some (.int .i64 (xs[k]?.getD 0)) := by
 obtain ⟨ad, e, hb, hc⟩ := h.2 (by omega)
 exact ⟨ad, e, hb, hc k hk⟩
theorem Rd.take {w : World} {A : Option Addr} {n : Nat} {xs : List Int} (h : Rd w A n xs) {k : Nat} (hk : k ≤ n) : Rd w A k (xs.take k) := by
 refine ⟨by rw [List.length_take, h.1]; omega, fun hn => ?_⟩
 obtain ⟨ad, e, hb, hc⟩ := h.2 (by omega)
 refine ⟨ad, e, hb, fun j hj => ?_⟩
 rw [List.getElem?_take, if_pos hj]
 exact hc j (by omega)
theorem cell_new (w : World) (xs : Array Value) (t : TypeId) (j : Nat) : (w.alloc (.cells xs t)).cell? ⟨w.heap.size, j, none⟩ = xs[j]? := by
 have := heap_alloc_new w (.cells xs t)
 unfold World.cell?
 rw [this]
 rfl
/-- A new row of numbers. -/
theorem Rd.new (w : World) (t : TypeId) (ys : List Int) : Rd (w.alloc (.cells (ys.map (Value.int .i64)).toArray t)) (some ⟨w.heap.size, 0, none⟩) ys.length ys := by
 refine ⟨rfl, fun _ => ⟨_, rfl, by simp, fun j hj => ?_⟩⟩
 rw [add_lit, Nat.zero_add, cell_new]
 simp [hj]
theorem ret_bool {a b : Bool} (h : a = b) : Ending.returned (.bool a) = .returned (.bool b) := by rw [h]
theorem ret_int {k : IntKind} {a b : Int} (h : a = b) : Ending.returned (.int k a) = .returned (.int k b) := by rw [h]
theorem take_snoc' (xs : List Int) (k : Nat) (h : k < xs.length) : xs.take (k + 1) = xs.take k ++ [xs[k]?.getD 0] := by
 rw [List.take_succ_eq_append_getElem h]; simp [h]

/- quiet calls: contracts that state 'w = w'' -/
theorem quiet_left {P : Program} {f : FuncId} {args : Array Value} {w : World} {n : Nat} {v : Value}
  (h : Calls P f args (w.drewN n) fun e w' => e = .returned v ∧ w.drewN n = w') : Calls P f args (w.drewN n) fun e w'' => e = .returned v ∧ ∃ m, w'' = w.drewN m :=
 h.mono fun _ _ ⟨he, hm⟩ => ⟨he, n, hm.symm⟩
theorem quiet_add_left {P : Program} {f : FuncId} {args : Array Value} {w : World} {a n : Nat} {v : Value}
  (h : Calls P f args (w.drewN (a + n)) fun e w' => e = .returned v ∧ w.drewN (a + n) = w') :
  Calls P f args (w.drewN (a + n)) fun e w'' => e = .returned v ∧ ∃ m, w'' = w.drewN (a + m) :=
 h.mono fun _ _ ⟨he, hm⟩ => ⟨he, n, hm.symm⟩
end Go.Proofs.YtkmiphabagoifaaGreatDoor
end

section
namespace Go.Proofs.YtkmiphabagoifaaGreatDoor.Dl
/-- is a year a leap year: an odd number of cycles divide it -/
def leapB (cs : List Int) (y : Int) : Bool := cs.foldl (fun b n => if y % n = 0 then !b else b) false
/-- how long a month is -/
def mlen (b : Bool) (m : Int) : Int :=
 if m = 2 then (if b then 29 else 28) else if m = 4 ∨ m = 6 ∨ m = 9 ∨ m = 11 then 30 else 31
/-- days before a month -/
def cum (b : Bool) (m : Int) : Int :=
 if m = 1 then 0 else if m = 2 then 31 else
 (if m = 3 then 59 else if m = 4 then 90 else if m = 5 then 120 else if m = 6 then 151 else if m = 7 then 181 else
  if m = 8 then 212 else if m = 9 then 243 else if m = 10 then 273 else if m = 11 then 304 else if m = 12 then 334 else 365) + (if b then 1 else 0)
def yearLen (cs : List Int) (y : Int) : Int := if leapB cs y then 366 else 365
/-- the first day of a year -/
def firstN (e : Int) (cs : List Int) : Nat → Int
 | 0 => e
 | n + 1 => firstN e cs n + yearLen cs n
def firstDay (e : Int) (cs : List Int) (y : Int) : Int := firstN e cs y.toNat

theorem cum_succ (b : Bool) (m : Int) (h1 : 1 ≤ m) (h2 : m ≤ 12) : cum b (m + 1) = cum b m + mlen b m := by
 have : m = 1 ∨ m = 2 ∨ m = 3 ∨ m = 4 ∨ m = 5 ∨ m = 6 ∨ m = 7 ∨ m = 8 ∨ m = 9 ∨ m = 10 ∨ m = 11 ∨ m = 12 := by omega
 rcases this with rfl | rfl | rfl | rfl | rfl | rfl | rfl | rfl | rfl | rfl | rfl | rfl <;> cases b <;> rfl
theorem cum_year (cs : List Int) (y : Int) : cum (leapB cs y) 13 = yearLen cs y := by
 unfold cum yearLen; cases leapB cs y <;> rfl
theorem mlen_pos (b : Bool) (m : Int) : 28 ≤ mlen b m ∧ mlen b m ≤ 31 := by
 unfold mlen; cases b <;> (repeat' split) <;> simp_all
theorem yearLen_pos (cs : List Int) (y : Int) : 365 ≤ yearLen cs y ∧ yearLen cs y ≤ 366 := by
 unfold yearLen; split <;> omega

theorem firstDay_succ (e : Int) (cs : List Int) (y : Int) (h : 0 ≤ y) : firstDay e cs (y + 1) = firstDay e cs y + yearLen cs y := by
 unfold firstDay
 have : (y + 1).toNat = y.toNat + 1 := by omega
 rw [this]
 show _ + yearLen cs (y.toNat : Int) = _
 rw [Int.toNat_of_nonneg h]
theorem firstDay_zero (e : Int) (cs : List Int) : firstDay e cs 0 = e := rfl

theorem firstN_bounds (e : Int) (cs : List Int) (n : Nat) : e + 365 * n ≤ firstN e cs n ∧ firstN e cs n ≤ e + 366 * n := by
 induction n with
 | zero => simp [firstN]
 | succ n ih => have := yearLen_pos cs n; simp only [firstN]; omega
theorem firstDay_bounds (e : Int) (cs : List Int) (y : Int) (h : 0 ≤ y) : e + 365 * y ≤ firstDay e cs y ∧ firstDay e cs y ≤ e + 366 * y := by
 have := firstN_bounds e cs y.toNat
 unfold firstDay; omega
theorem firstN_mono (e : Int) (cs : List Int) {a b : Nat} (h : a < b) : firstN e cs a + 365 ≤ firstN e cs b := by
 induction b with
 | zero => omega
 | succ b ih =>
  have hy := yearLen_pos cs b
  simp only [firstN]
  by_cases hb : a = b
  ·subst hb; omega
  ·have := ih (by omega); omega
theorem firstDay_mono (e : Int) (cs : List Int) {a b : Int} (h0 : 0 ≤ a) (h : a < b) : firstDay e cs a + 365 ≤ firstDay e cs b :=
 firstN_mono e cs (by omega)
end Go.Proofs.YtkmiphabagoifaaGreatDoor.Dl
end

section
namespace Go.Proofs.YtkmiphabagoifaaGreatDoor.Dl
/-- the month of a day of a year, counted from 0 -/
def monthGo (b : Bool) (l : Int) (m : Int) : Nat → Int
 | 0 => m
 | f + 1 => if l < cum b (m + 1) then m else monthGo b l (m + 1) f
def monthOf (b : Bool) (left : Int) : Int := monthGo b left 1 11

def yearGo (cs : List Int) (left : Int) (y : Nat) : Nat → Option (Nat × Int)
 | 0 => none
 | f + 1 => if left < yearLen cs y then some (y, left) else yearGo cs (left - yearLen cs y) (y + 1) f

structure Date where
 y : Int
 m : Int
 d : Int
deriving DecidableEq

def real (cs : List Int) (x : Date) : Prop := 0 ≤ x.y ∧ x.y ≤ 4000 ∧ 1 ≤ x.m ∧ x.m ≤ 12 ∧ 1 ≤ x.d ∧ x.d ≤ mlen (leapB cs x.y) x.m
instance (cs : List Int) (x : Date) : Decidable (real cs x) := by unfold real; infer_instance
def dayOf (e : Int) (cs : List Int) (x : Date) : Int := firstDay e cs x.y + cum (leapB cs x.y) x.m + x.d - 1

def dateOf (e : Int) (cs : List Int) (day : Int) : Option Date :=
 if day < e then none else
 (yearGo cs (day - e) 0 4001).map fun p =>
  ⟨p.1, monthOf (leapB cs p.1) p.2, p.2 - cum (leapB cs p.1) (monthOf (leapB cs p.1) p.2) + 1⟩

theorem monthGo_spec (b : Bool) (l : Int) (h1 : l < cum b 13) : ∀ (f : Nat) (m : Int), 1 ≤ m → m + f = 12 → cum b m ≤ l →
  1 ≤ monthGo b l m f ∧ monthGo b l m f ≤ 12 ∧ cum b (monthGo b l m f) ≤ l ∧ l < cum b (monthGo b l m f + 1) := by
 intro f
 induction f with
 | zero =>
  intro m hm hf hc
  obtain rfl : m = 12 := by omega
  exact ⟨by simp [monthGo], by simp [monthGo], hc, h1⟩
 | succ f ih =>
  intro m hm hf hc
  simp only [monthGo]
  split
  ·rename_i h
   exact ⟨hm, by omega, hc, h⟩
  ·rename_i h
   exact ih (m + 1) (by omega) (by omega) (by omega)

theorem cum_mono (b : Bool) (m : Int) (h1 : 1 ≤ m) : ∀ f : Nat, m + f ≤ 13 → cum b m + 28 * f ≤ cum b (m + f) := by
 intro f
 induction f with
 | zero => simp
 | succ f ih =>
  intro h
  have := ih (by omega)
  have c := cum_succ b (m + f) (by omega) (by omega)
  have p := mlen_pos b (m + f)
  rw [show m + ((f + 1 : Nat) : Int) = m + f + 1 by omega, c]
  omega

theorem monthOf_spec (b : Bool) (l : Int) (h0 : 0 ≤ l) (h1 : l < cum b 13) :
  1 ≤ monthOf b l ∧ monthOf b l ≤ 12 ∧ cum b (monthOf b l) ≤ l ∧ l < cum b (monthOf b l) + mlen b (monthOf b l) := by
 have := monthGo_spec b l h1 11 1 (by omega) rfl (by show cum b 1 ≤ l; have : cum b 1 = 0 := rfl; omega)
 unfold monthOf
 obtain ⟨a1, a2, a3, a4⟩ := this
 rw [cum_succ b _ a1 a2] at a4
 exact ⟨a1, a2, a3, a4⟩

theorem month_lt (b : Bool) {m m' : Int} (h1 : 1 ≤ m) (h : m < m') (h2 : m' ≤ 13) : cum b (m + 1) ≤ cum b m' := by
 have := cum_mono b (m + 1) (by omega) (m' - (m + 1)).toNat (by omega)
 rw [show m + 1 + (((m' - (m + 1)).toNat : Nat) : Int) = m' by omega] at this
 omega

theorem month_unique (b : Bool) (l m : Int) (h1 : 1 ≤ m) (h2 : m ≤ 12) (h3 : cum b m ≤ l) (h4 : l < cum b m + mlen b m) : monthOf b l = m := by
 have c13 : cum b (m + 1) ≤ cum b 13 := by
  by_cases h : m = 12
  ·subst h; exact Int.le_refl _
  ·exact month_lt b h1 (by omega) (by omega)
 have cs := cum_succ b m h1 h2
 have c0 : cum b 1 ≤ cum b m := by
  by_cases h : m = 1
  ·subst h; exact Int.le_refl _
  ·have := month_lt b (m := 1) (m' := m) (by omega) (by omega) (by omega)
   have e : cum b (1 + 1) = 31 := rfl
   have e1 : cum b 1 = 0 := rfl
   omega
 have e1 : cum b 1 = 0 := rfl
 obtain ⟨a1, a2, a3, a4⟩ := monthOf_spec b l (by omega) (by omega)
 rw [← cum_succ b _ a1 a2] at a4
 rcases Int.lt_trichotomy (monthOf b l) m with h | h | h
 ·have := month_lt b a1 h (by omega); omega
 ·exact h
 ·have := month_lt b h1 h (by omega); omega

theorem yearGo_some {e : Int} {cs : List Int} {day : Int} : ∀ (f : Nat) (y : Nat) (r : Nat × Int), firstN e cs y ≤ day →
  yearGo cs (day - firstN e cs y) y f = some r → r.1 < y + f ∧ firstN e cs r.1 ≤ day ∧ day < firstN e cs (r.1 + 1) ∧ r.2 = day - firstN e cs r.1 := by
 intro f
 induction f with
 | zero => intro y r _ h; cases h
 | succ f ih =>
  intro y r h0 h
  simp only [yearGo] at h
  split at h
  ·cases h
   simp only [firstN]
   exact ⟨by omega, h0, by omega, trivial⟩
  ·have e1 : day - firstN e cs y - yearLen cs y = day - firstN e cs (y + 1) := by simp only [firstN]; omega
   rw [e1] at h
   have := ih (y + 1) r (by simp only [firstN]; omega) h
   omega

theorem yearGo_none {e : Int} {cs : List Int} {day : Int} : ∀ (f : Nat) (y : Nat), firstN e cs y ≤ day →
  yearGo cs (day - firstN e cs y) y f = none → firstN e cs (y + f) ≤ day := by
 intro f
 induction f with
 | zero => intro y h0 _; exact h0
 | succ f ih =>
  intro y h0 h
  simp only [yearGo] at h
  split at h
  ·cases h
  ·have e1 : day - firstN e cs y - yearLen cs y = day - firstN e cs (y + 1) := by simp only [firstN]; omega
   rw [e1] at h
   have := ih (y + 1) (by simp only [firstN]; omega) h
   rw [show y + (f + 1) = y + 1 + f by omega]
   exact this

theorem dayOf_bounds {e : Int} {cs : List Int} {x : Date} (h : real cs x) : firstDay e cs x.y ≤ dayOf e cs x ∧ dayOf e cs x < firstDay e cs (x.y + 1) := by
 obtain ⟨h1, h2, h3, h4, h5, h6⟩ := h
 unfold dayOf
 have a := cum_succ (leapB cs x.y) x.m h3 h4
 have c0 : 0 ≤ cum (leapB cs x.y) x.m := by
  by_cases h : x.m = 1
  ·rw [h]; exact Int.le_refl _
  ·have := month_lt (leapB cs x.y) (m := 1) (m' := x.m) (by omega) (by omega) (by omega)
   have e : cum (leapB cs x.y) (1 + 1) = 31 := rfl
   omega
 have c1 : cum (leapB cs x.y) (x.m + 1) ≤ cum (leapB cs x.y) 13 := by
  by_cases h : x.m = 12
  ·rw [h]; exact Int.le_refl _
  ·exact month_lt _ h3 (by omega) (by omega)
 rw [cum_year] at c1
 rw [firstDay_succ _ _ _ h1]
 omega

theorem dateOf_some {e : Int} {cs : List Int} {day : Int} {x : Date} : dateOf e cs day = some x ↔ real cs x ∧ dayOf e cs x = day := by
 constructor
 ·intro h
  unfold dateOf at h
  split at h
  ·cases h
  ·rename_i h0
   cases hr : yearGo cs (day - e) 0 4001 with
   | none => rw [hr] at h; cases h
   | some r =>
    rw [hr] at h
    obtain ⟨a1, a2, a3, a4⟩ := yearGo_some (e := e) (cs := cs) (day := day) 4001 0 r (by simp only [firstN]; omega) (by simpa only [firstN] using hr)
    simp only [Option.map_some, Option.some.injEq] at h
    simp only [firstN] at a3
    have hm := monthOf_spec (leapB cs r.1) r.2 (by omega) (by rw [cum_year]; omega)
    subst h
    have ef : firstDay e cs (r.1 : Int) = firstN e cs r.1 := by unfold firstDay; simp
    refine ⟨⟨?_, ?_, ?_, ?_, ?_, ?_⟩, ?_⟩ <;> simp only [dayOf, ef] <;> omega
 ·rintro ⟨hx, hd⟩
  have hb := dayOf_bounds (e := e) hx
  obtain ⟨h1, h2, h3, h4, h5, h6⟩ := hx
  have he := firstDay_bounds e cs x.y h1
  unfold dateOf
  rw [if_neg (by omega)]
  cases hr : yearGo cs (day - e) 0 4001 with
  | none =>
   have := yearGo_none (e := e) (cs := cs) (day := day) 4001 0 (by simp only [firstN]; omega) (by simpa only [firstN] using hr)
   exfalso
   have c : firstDay e cs (x.y + 1) ≤ firstN e cs (0 + 4001) := by
    unfold firstDay
    by_cases hy : (x.y + 1).toNat = 4001
    ·rw [hy]; simp
    ·have := firstN_mono e cs (a := (x.y + 1).toNat) (b := 0 + 4001) (by omega); omega
   omega
  | some r =>
   obtain ⟨a1, a2, a3, a4⟩ := yearGo_some (e := e) (cs := cs) (day := day) 4001 0 r (by simp only [firstN]; omega) (by simpa only [firstN] using hr)
   have ry : (r.1 : Int) = x.y := by
    have c1 : ¬ r.1 < x.y.toNat := fun hlt => by
     have : firstN e cs (r.1 + 1) ≤ firstN e cs x.y.toNat := by
      by_cases hh : r.1 + 1 = x.y.toNat
      ·rw [hh]; omega
      ·have := firstN_mono e cs (a := r.1 + 1) (b := x.y.toNat) (by omega); omega
     unfold firstDay at hb; omega
    have c2 : ¬ x.y.toNat < r.1 := fun hlt => by
     have : firstDay e cs (x.y + 1) ≤ firstN e cs r.1 := by
      unfold firstDay
      by_cases hh : (x.y + 1).toNat = r.1
      ·rw [hh]; omega
      ·have := firstN_mono e cs (a := (x.y + 1).toNat) (b := r.1) (by omega); omega
     omega
    omega
   have ef : firstDay e cs x.y = firstN e cs r.1 := by unfold firstDay; congr 1; omega
   simp only [Option.map_some, Option.some.injEq]
   have hm : monthOf (leapB cs r.1) r.2 = x.m := by
    rw [ry]
    unfold dayOf at hd
    exact month_unique _ _ _ h3 h4 (by omega) (by omega)
   rw [hm, ry]
   cases x with | mk y m d =>
   simp only [Date.mk.injEq, true_and]
   simp only [dayOf] at *
   omega

theorem dateOf_none {e : Int} {cs : List Int} {day : Int} : dateOf e cs day = none ↔ day < e ∨ firstDay e cs 4001 ≤ day := by
 have h41 : firstDay e cs 4001 = firstN e cs 4001 := rfl
 unfold dateOf
 split
 ·simp_all
 ·rename_i h0
  cases hr : yearGo cs (day - e) 0 4001 with
  | none =>
   have := yearGo_none (e := e) (cs := cs) (day := day) 4001 0 (by simp only [firstN]; omega) (by simpa only [firstN] using hr)
   simp at this
   simp; omega
  | some r =>
   obtain ⟨a1, a2, a3, a4⟩ := yearGo_some (e := e) (cs := cs) (day := day) 4001 0 r (by simp only [firstN]; omega) (by simpa only [firstN] using hr)
   have : firstN e cs (r.1 + 1) ≤ firstN e cs 4001 := by
    by_cases hh : r.1 + 1 = 4001
    ·rw [hh]; omega
    ·have := firstN_mono e cs (a := r.1 + 1) (b := 4001) (by omega); omega
   simp; omega


example : dateOf 2 [4, 100, 400] 578103 = some ⟨1582, 10, 15⟩ := by decide +kernel
end Go.Proofs.YtkmiphabagoifaaGreatDoor.Dl
end

section
namespace Go.Proofs.YtkmiphabagoifaaGreatDoor
open Go.RowKit Dl

def inB (x lo hi : Int) : Bool := decide (lo ≤ x ∧ x ≤ hi)
theorem inB_yes {x lo hi : Int} (h : lo ≤ x ∧ x ≤ hi) : inB x lo hi = true := by simp [inB, h]
theorem inB_no {x lo hi : Int} (h : ¬ (lo ≤ x ∧ x ≤ hi)) : inB x lo hi = false := by unfold inB; exact decide_eq_false h
theorem inB_iff {x lo hi : Int} : inB x lo hi = true ↔ lo ≤ x ∧ x ≤ hi := by simp [inB]

set_option maxHeartbeats 400000 in
theorem in_is (x lo hi : Int) (w : World) (b : Bool) (hb : inB x lo hi = b) :
  Calls Tryz.prog 227 #[.int .i64 x, .int .i64 lo, .int .i64 hi] w fun e w' => e = .returned (.bool b) ∧ w = w' := by
 subst hb
 by_cases h : lo ≤ x
 ·go_enter Tryz.func227, Tryz.ntmps227
  go_wp2
  go_ret
  exact ⟨ret_bool (by simp [inB, h]), rfl⟩
 ·go_enter Tryz.func227, Tryz.ntmps227
  go_wp2
  go_ret
  exact ⟨ret_bool (by simp only [inB]; rw [eq_comm, decide_eq_false_iff_not]; omega), rfl⟩

set_option maxHeartbeats 400000 in
theorem isYear_is (x : Int) (w : World) (b : Bool) (hb : inB x 0 4000 = b) :
  Calls Tryz.prog 175 #[.int .i64 x] w fun e w' => e = .returned (.bool b) ∧ w = w' := by
 go_enter Tryz.func175, Tryz.ntmps175
 go_wp2_with (go_at_call 227; refine (in_is _ _ _ _ _ hb).mono ?_; rintro e w' ⟨rfl, rfl⟩)
 go_ret
 exact ⟨rfl, rfl⟩

set_option maxHeartbeats 400000 in
theorem isDay_is (x : Int) (w : World) (b : Bool) (hb : inB x 0 2000000 = b) :
  Calls Tryz.prog 206 #[.int .i64 x] w fun e w' => e = .returned (.bool b) ∧ w = w' := by
 go_enter Tryz.func206, Tryz.ntmps206
 go_wp2_with (go_at_call 227; refine (in_is _ _ _ _ _ hb).mono ?_; rintro e w' ⟨rfl, rfl⟩)
 go_ret
 exact ⟨rfl, rfl⟩

theorem leapB_snoc (cs : List Int) (x y : Int) : leapB (cs ++ [x]) y = (if y % x = 0 then !leapB cs y else leapB cs y) := by
 simp [leapB]

/-- cycles by which one can divide -/
def Cyc (cs : List Int) : Prop := ∀ k, k < cs.length → 2 ≤ cs[k]?.getD 0 ∧ cs[k]?.getD 0 ≤ 1000

set_option maxHeartbeats 1000000 in
theorem leap_any (A : Option Addr) (n c : Nat) (cs : List Int) (e m1 m2 m3 f g : Value) (yr : Int) (w : World) (hr : Rd w A n cs) (hn : n ≤ 3) (hpos : Cyc cs) (h0 : 0 ≤ yr) (h1 : yr ≤ 5000) :
  Calls Tryz.prog 234 #[.agg #[e, .slice A n c, m1, m2, m3, f, g], .int .i64 yr] w fun e w' => e = .returned (.bool (leapB cs yr)) ∧ Below w.heap.size w w' := by
 go_enter Tryz.func234, Tryz.ntmps234
 go_wp2
 go_loop [5, 12] (fun b i => ∃ k : Nat, k ≤ n ∧ i = .int .i64 k ∧ b = .bool (leapB (cs.take k) yr)) (fun _ i => n - (intOf i).toNat)
 case atStart => exact ⟨0, Nat.zero_le _, rfl, rfl⟩
 case round =>
  obtain ⟨k, hk, rfl, rfl⟩ := hrel
  by_cases hlt : k < n
  ·obtain ⟨ad, rfl, hb, hc⟩ := (hr.alloc (Obj.cells #[e, Value.slice A n c, m1, m2, m3, f, g] 253)).at_ hlt
   have hp := hpos k (by rw [hr.len]; exact hlt)
   have HS := Lib.hid (take_snoc' cs k (by rw [hr.len]; exact hlt))
   generalize hx : cs[k]?.getD 0 = x at *
   clear hx
   go_wp2
   all_goals
    go_round
    case rel => exact ⟨k + 1, by omega, by go_num, by rw [HS.out, leapB_snoc]; simp_all⟩
    case measure => simp [intOf]; omega
  ·go_wp2
   go_ret
   obtain rfl : k = n := by omega
   rw [List.take_of_length_le (by have := hr.1; omega)]
   exact ⟨rfl, fr_alloc (fr_refl _) _⟩

def mtab (b : Bool) : List Int := [31, if b then 29 else 28, 31, 30, 31, 30, 31, 31, 30, 31, 30, 31]

set_option maxHeartbeats 400000 in
theorem months_any (b : Bool) (w : World) :
  Calls Tryz.prog 233 #[.bool b] w fun e w' => ∃ g, e = .returned (.slice (some ⟨g, 0, none⟩) 12 12) ∧ Rd w' (some ⟨g, 0, none⟩) 12 (mtab b) ∧ Below w.heap.size w w' := by
 cases b
 ·go_enter Tryz.func233, Tryz.ntmps233
  go_wp2
  go_ret
  exact ⟨w.heap.size, rfl, Rd.new w _ (mtab false), fr_alloc (fr_refl _) _⟩
 ·go_enter Tryz.func233, Tryz.ntmps233
  go_wp2
  go_ret
  exact ⟨w.heap.size, rfl, Rd.new w _ (mtab true), fr_alloc (fr_refl _) _⟩

theorem isum_take (xs : List Int) (h : ∀ k, k < xs.length → 0 ≤ xs[k]?.getD 0 ∧ xs[k]?.getD 0 ≤ 1000) : ∀ k, k ≤ xs.length → 0 ≤ (xs.take k).sum ∧ (xs.take k).sum ≤ 1000 * k := by
 intro k
 induction k with
 | zero => simp
 | succ k ih =>
  intro hk
  rw [take_snoc' xs k (by omega)]
  have := ih (by omega)
  have := h k (by omega)
  simp only [List.sum_append, List.sum_cons, List.sum_nil]
  omega

set_option maxHeartbeats 1000000 in
theorem sum_any (A : Option Addr) (n c : Nat) (xs : List Int) (w : World) (hr : Rd w A n xs) (hn : n ≤ 1000) (hpos : ∀ k, k < xs.length → 0 ≤ xs[k]?.getD 0 ∧ xs[k]?.getD 0 ≤ 1000) :
  Calls Tryz.prog 235 #[.slice A n c] w fun e w' => e = .returned (.int .i64 xs.sum) ∧ w = w' := by
 go_enter Tryz.func235, Tryz.ntmps235
 go_wp2
 go_loop [3, 8] (fun b i => ∃ k : Nat, k ≤ n ∧ i = .int .i64 k ∧ b = .int .i64 (xs.take k).sum) (fun _ i => n - (intOf i).toNat)
 case atStart => exact ⟨0, Nat.zero_le _, rfl, rfl⟩
 case round =>
  obtain ⟨k, hk, rfl, rfl⟩ := hrel
  by_cases hlt : k < n
  ·obtain ⟨ad, rfl, hb, hc⟩ := hr.at_ hlt
   have hp := hpos k (by rw [hr.len]; exact hlt)
   have hs := isum_take xs hpos k (by rw [hr.len]; exact hk)
   have HS := Lib.hid (take_snoc' xs k (by rw [hr.len]; exact hlt))
   go_wp2
   go_round
   case rel => exact ⟨k + 1, by omega, by go_num, by rw [HS.out]; simp⟩
   case measure => simp [intOf]; omega
  ·go_wp2
   go_ret
   obtain rfl : k = n := by omega
   rw [List.take_of_length_le (by have := hr.1; omega)]
   exact ⟨rfl, rfl⟩

theorem mtab_bounds (b : Bool) : ∀ k, k < (mtab b).length → 0 ≤ (mtab b)[k]?.getD 0 ∧ (mtab b)[k]?.getD 0 ≤ 1000 := by cases b <;> decide
theorem mtab_sum (b : Bool) (cs : List Int) (y : Int) (h : leapB cs y = b) : (mtab b).sum = yearLen cs y := by
 unfold yearLen; rw [h]; cases b <;> rfl

set_option maxHeartbeats 1000000 in
theorem days_any (A : Option Addr) (n c : Nat) (cs : List Int) (e m1 m2 m3 f g : Value) (yr : Int) (w : World) (hr : Rd w A n cs) (hn : n ≤ 3) (hpos : Cyc cs) (h0 : 0 ≤ yr) (h1 : yr ≤ 5000) :
  Calls Tryz.prog 230 #[.agg #[e, .slice A n c, m1, m2, m3, f, g], .int .i64 yr] w fun e w' => e = .returned (.int .i64 (yearLen cs yr)) ∧ Below w.heap.size w w' := by
 go_enter Tryz.func230, Tryz.ntmps230
 go_wp2_with fail
 refine (leap_any A n c cs e m1 m2 m3 f g yr _ (hr.alloc _) hn hpos h0 h1).mono ?_
 rintro e1 w1 ⟨rfl, hb1⟩
 go_wp2_with fail
 refine (months_any _ _).mono ?_
 rintro e2 w2 ⟨g2, rfl, hr2, hb2⟩
 go_wp2_with fail
 refine (sum_any _ 12 12 _ _ hr2 (by omega) (mtab_bounds _)).mono ?_
 rintro e3 w3 ⟨rfl, rfl⟩
 go_wp2_with fail
 go_ret
 exact ⟨ret_int (mtab_sum _ _ _ rfl), fr_call (fr_call (fr_alloc (fr_refl _) _) hb1) hb2⟩
end Go.Proofs.YtkmiphabagoifaaGreatDoor
end

section
namespace Go.Proofs.YtkmiphabagoifaaGreatDoor
open Go.RowKit

theorem wpAnyH_mono {P : Program} {md : Region.Mode} {ops : Array Oper} {Q : Exit → Act → World → Prop} {S S' : World → Prop} (hS : ∀ w, S' w → S w) :
  ∀ (fuel : Nat) (listed : Array Bool) (a : Act) (w : World), wpAnyH P md ops Q S' fuel listed a w → wpAnyH P md ops Q S fuel listed a w
 | 0, _, _, _, h => h
 | fuel + 1, _, _, _, h => ⟨h.1, fun i hi => wpOp_mono (fun a' w' h' => ⟨hS _ h'.1, wpAnyH_mono hS fuel _ a' w' h'.2⟩) (h.2 i hi)⟩

/-- In the midst of a region: from here on more is kept. -/
theorem held_more {P : Program} {md : Region.Mode} {ops : Array Oper} {Q : Exit → Act → World → Prop} {S S' : World → Prop} {fuel : Nat} {listed : Array Bool} {a : Act} {w : World} (hS : ∀ w, S' w → S w)
  (h : ∀ K : Act → World → Prop, Shut (∀ a w, S' w → (S' w → wpAnyH P md ops Q S' fuel listed a w) → K a w) → K a w) : wpAnyH P md ops Q S fuel listed a w :=
 wpAnyH_mono hS _ _ _ _ (h (fun a w => wpAnyH P md ops Q S' fuel listed a w) (fun _ _ hs hg => hg hs))
end Go.Proofs.YtkmiphabagoifaaGreatDoor
end

section
namespace Go.Proofs.YtkmiphabagoifaaGreatDoor
open Go.RowKit Dl

theorem twelve {m : Int} (h1 : 1 ≤ m) (h2 : m ≤ 12) : m = 1 ∨ m = 2 ∨ m = 3 ∨ m = 4 ∨ m = 5 ∨ m = 6 ∨ m = 7 ∨ m = 8 ∨ m = 9 ∨ m = 10 ∨ m = 11 ∨ m = 12 := by omega
theorem mtab_len (b : Bool) : (mtab b).length = 12 := rfl
theorem mtab_at (b : Bool) (m : Int) (h1 : 1 ≤ m) (h2 : m ≤ 12) : (mtab b)[m.toNat - 1]?.getD 0 = mlen b m := by
 rcases twelve h1 h2 with rfl | rfl | rfl | rfl | rfl | rfl | rfl | rfl | rfl | rfl | rfl | rfl <;> cases b <;> rfl
theorem Rd.row {w : World} {g : Nat} {n : Nat} {xs : List Int} (h : Rd w (some ⟨g, 0, none⟩) n xs) : ∀ j, j < n → w.cell? ⟨g, j, none⟩ = some (.int .i64 (xs[j]?.getD 0)) := by
 intro j hj
 obtain ⟨ad, e, _, hc⟩ := h.2 (by omega)
 cases e
 have := hc j hj
 rw [add_lit, Nat.zero_add] at this
 exact this

set_option maxRecDepth 100000 in
set_option maxHeartbeats 2000000 in
theorem isDate_ok (A : Option Addr) (n c : Nat) (cs : List Int) (e m1 m2 m3 f g : Value) (y m d : Int) (w : World) (hr : Rd w A n cs) (hn : n ≤ 3) (hpos : Cyc cs)
  (hy : 0 ≤ y ∧ y ≤ 4000) (hm : 1 ≤ m ∧ m ≤ 12) :
  Calls Tryz.prog 182 #[.agg #[e, .slice A n c, m1, m2, m3, f, g], .agg #[.int .i64 y, .int .i64 m, .int .i64 d]] w fun e w' =>
   e = .returned (.bool (inB d 1 (mlen (leapB cs y) m))) ∧ Below w.heap.size w w' := by
 have hy1 := hy.1
 have hy2 := hy.2
 have hm1 := hm.1
 have hm2 := hm.2
 have hb1 := inB_yes hy
 have hb2 := inB_yes hm
 clear hy hm
 have hi1 : m - 1 < 12 := by omega
 have hi0 : 0 ≤ m - 1 := by omega
 have hwm : IntKind.i64.wrap (m - 1) = m - 1 := IntWalk.i64_in _ (by omega)
 go_enter Tryz.func182, Tryz.ntmps182
 go_wp2_with fail
 have hr0 := (hr.alloc (.cells #[e, .slice A n c, m1, m2, m3, f, g] 253)).alloc (.cells #[.int .i64 y, .int .i64 m, .int .i64 d] 181)
 refine wp_region_noPanic ?_
 refine wp_region_held_drew (S := fun W => (∀ p : Addr, p.block < ((w.alloc (.cells #[e, .slice A n c, m1, m2, m3, f, g] 253)).alloc (.cells #[.int .i64 y, .int .i64 m, .int .i64 d] 181)).heap.size → W.cell? p = ((w.alloc (.cells #[e, .slice A n c, m1, m2, m3, f, g] 253)).alloc (.cells #[.int .i64 y, .int .i64 m, .int .i64 d] 181)).cell? p) ∧ Below ((w.alloc (.cells #[e, .slice A n c, m1, m2, m3, f, g] 253)).alloc (.cells #[.int .i64 y, .int .i64 m, .int .i64 d] 181)).heap.size ((w.alloc (.cells #[e, .slice A n c, m1, m2, m3, f, g] 253)).alloc (.cells #[.int .i64 y, .int .i64 m, .int .i64 d] 181)) W) (by kernel_rfl) ⟨fun _ _ => rfl, fr_drew (fr_refl _)⟩ (fun hHeld => ?_)
 -- the region, step by step
 refine wpAnyH_take (i := 0) (oi := ⟨some 5, .fieldAddr 181 (.tmp 3) 0, 0, "dial.go:94", #[], none⟩) (v := ?_) rfl (by kernel_rfl) (by kernel_rfl) (by kernel_rfl) (fun _ _ _ h => h) (Or.inl ⟨by rfl, fun W hSw => ?_⟩) hHeld ?_
 rotate_left
 ·(try dsimp only at hSw); go_simp; (try with_reducible rfl)
 (try simp only [Act.put, List.setIfInBounds_toArray, List.set_cons_zero, List.set_cons_succ])
 refine wpAnyH_take (i := 1) (oi := ⟨some 6, .load 3 (.tmp 5), 3, "dial.go:94", #[⟨0, .data⟩], none⟩) (v := ?_) rfl (by kernel_rfl) (by kernel_rfl) (by kernel_rfl) (fun _ _ _ h => h) (Or.inl ⟨by rfl, fun W hSw => ?_⟩) hHeld ?_
 rotate_left
 ·(try dsimp only at hSw); go_simp; (try with_reducible rfl)
 (try simp only [Act.put, List.setIfInBounds_toArray, List.set_cons_zero, List.set_cons_succ])
 refine wpAnyH_ready (rs := [2]) (by kernel_rfl) (by simp) ?_
 refine AllReadyH.cons (o := ⟨some 7, .call { callee := .value (.func 175), args := #[.tmp 6], argTypes := #[3] }, 4, "dial.go:94", #[⟨1, .data⟩], none⟩) rfl (fun K hK => ?_) AllReadyH.nil
 go_simp
 refine (isYear_is _ _ _ hb1).mono ?_
 rintro e' w' ⟨rfl, rfl⟩
 refine hK.out _ _ (hHeld) (fun hHeld => ?_)
 clear hK K
 (try simp only [Act.put, List.setIfInBounds_toArray, List.set_cons_zero, List.set_cons_succ])
 refine wpAnyH_take (i := 3) (oi := ⟨some 8, .move (.tmp 7), 4, "dial.go:94", #[⟨2, .data⟩, ⟨2, .chain⟩], none⟩) (v := ?_) rfl (by kernel_rfl) (by kernel_rfl) (by kernel_rfl) (fun _ _ _ h => h) (Or.inl ⟨by rfl, fun W hSw => ?_⟩) hHeld ?_
 rotate_left
 ·(try dsimp only at hSw); go_simp; (try with_reducible rfl)
 (try simp only [Act.put, List.setIfInBounds_toArray, List.set_cons_zero, List.set_cons_succ])
 refine wpAnyH_take (i := 4) (oi := ⟨some 9, .fieldAddr 181 (.tmp 3) 1, 0, "dial.go:94", #[⟨3, .guard⟩], some (3, true)⟩) (v := ?_) rfl (by kernel_rfl) (by kernel_rfl) (by kernel_rfl) (fun _ _ _ h => h) (Or.inl ⟨by rfl, fun W hSw => ?_⟩) hHeld ?_
 rotate_left
 ·(try dsimp only at hSw); go_simp; (try with_reducible rfl)
 (try simp only [Act.put, List.setIfInBounds_toArray, List.set_cons_zero, List.set_cons_succ])
 refine wpAnyH_take (i := 5) (oi := ⟨some 10, .load 3 (.tmp 9), 3, "dial.go:94", #[⟨4, .data⟩, ⟨3, .guard⟩], some (3, true)⟩) (v := ?_) rfl (by kernel_rfl) (by kernel_rfl) (by kernel_rfl) (fun _ _ _ h => h) (Or.inl ⟨by rfl, fun W hSw => ?_⟩) hHeld ?_
 rotate_left
 ·(try dsimp only at hSw); go_simp; (try with_reducible rfl)
 (try simp only [Act.put, List.setIfInBounds_toArray, List.set_cons_zero, List.set_cons_succ])
 refine wpAnyH_ready (rs := [6]) (by kernel_rfl) (by simp) ?_
 refine AllReadyH.cons (o := ⟨some 11, .call { callee := .value (.func 227), args := #[.tmp 10, .const (.int .i64 1), .const (.int .i64 12)], argTypes := #[3, 3, 3] }, 4, "dial.go:94", #[⟨5, .data⟩, ⟨3, .chain⟩, ⟨3, .guard⟩], some (3, true)⟩) rfl (fun K hK => ?_) AllReadyH.nil
 go_simp
 refine (in_is _ _ _ _ _ hb2).mono ?_
 rintro e' w' ⟨rfl, rfl⟩
 refine hK.out _ _ (hHeld) (fun hHeld => ?_)
 clear hK K
 (try simp only [Act.put, List.setIfInBounds_toArray, List.set_cons_zero, List.set_cons_succ])
 refine wpAnyH_take (i := 7) (oi := ⟨some 12, .pick (.tmp 8) (.tmp 11) (.const (.bool false)), 4, "dial.go:94", #[⟨3, .data⟩, ⟨6, .data⟩], none⟩) (v := ?_) rfl (by kernel_rfl) (by kernel_rfl) (by kernel_rfl) (fun _ _ _ h => h) (Or.inl ⟨by rfl, fun W hSw => ?_⟩) hHeld ?_
 rotate_left
 ·(try dsimp only at hSw); go_simp; (try with_reducible rfl)
 (try simp only [Act.put, List.setIfInBounds_toArray, List.set_cons_zero, List.set_cons_succ])
 refine wpAnyH_take (i := 8) (oi := ⟨some 13, .move (.tmp 12), 4, "dial.go:94", #[⟨7, .data⟩, ⟨6, .chain⟩], none⟩) (v := ?_) rfl (by kernel_rfl) (by kernel_rfl) (by kernel_rfl) (fun _ _ _ h => h) (Or.inl ⟨by rfl, fun W hSw => ?_⟩) hHeld ?_
 rotate_left
 ·(try dsimp only at hSw); go_simp; (try with_reducible rfl)
 (try simp only [Act.put, List.setIfInBounds_toArray, List.set_cons_zero, List.set_cons_succ])
 refine wpAnyH_take (i := 9) (oi := ⟨some 14, .fieldAddr 181 (.tmp 3) 2, 0, "dial.go:94", #[⟨8, .guard⟩], some (8, true)⟩) (v := ?_) rfl (by kernel_rfl) (by kernel_rfl) (by kernel_rfl) (fun _ _ _ h => h) (Or.inl ⟨by rfl, fun W hSw => ?_⟩) hHeld ?_
 rotate_left
 ·(try dsimp only at hSw); go_simp; (try with_reducible rfl)
 (try simp only [Act.put, List.setIfInBounds_toArray, List.set_cons_zero, List.set_cons_succ])
 refine wpAnyH_take (i := 10) (oi := ⟨some 15, .load 3 (.tmp 14), 3, "dial.go:94", #[⟨9, .data⟩, ⟨8, .guard⟩], some (8, true)⟩) (v := ?_) rfl (by kernel_rfl) (by kernel_rfl) (by kernel_rfl) (fun _ _ _ h => h) (Or.inl ⟨by rfl, fun W hSw => ?_⟩) hHeld ?_
 rotate_left
 ·(try dsimp only at hSw); go_simp; (try with_reducible rfl)
 (try simp only [Act.put, List.setIfInBounds_toArray, List.set_cons_zero, List.set_cons_succ])
 refine wpAnyH_take (i := 11) (oi := ⟨some 16, .load 253 (.tmp 2), 253, "dial.go:94", #[⟨8, .guard⟩], some (8, true)⟩) (v := ?_) rfl (by kernel_rfl) (by kernel_rfl) (by kernel_rfl) (fun _ _ _ h => h) (Or.inl ⟨by rfl, fun W hSw => ?_⟩) hHeld ?_
 rotate_left
 ·(try dsimp only at hSw); go_simp; (try with_reducible rfl)
 (try simp only [Act.put, List.setIfInBounds_toArray, List.set_cons_zero, List.set_cons_succ])
 refine wpAnyH_take (i := 12) (oi := ⟨some 17, .fieldAddr 181 (.tmp 3) 0, 0, "dial.go:94", #[⟨8, .guard⟩], some (8, true)⟩) (v := ?_) rfl (by kernel_rfl) (by kernel_rfl) (by kernel_rfl) (fun _ _ _ h => h) (Or.inl ⟨by rfl, fun W hSw => ?_⟩) hHeld ?_
 rotate_left
 ·(try dsimp only at hSw); go_simp; (try with_reducible rfl)
 (try simp only [Act.put, List.setIfInBounds_toArray, List.set_cons_zero, List.set_cons_succ])
 refine wpAnyH_take (i := 13) (oi := ⟨some 18, .load 3 (.tmp 17), 3, "dial.go:94", #[⟨12, .data⟩, ⟨8, .guard⟩], some (8, true)⟩) (v := ?_) rfl (by kernel_rfl) (by kernel_rfl) (by kernel_rfl) (fun _ _ _ h => h) (Or.inl ⟨by rfl, fun W hSw => ?_⟩) hHeld ?_
 rotate_left
 ·(try dsimp only at hSw); go_simp; (try with_reducible rfl)
 (try simp only [Act.put, List.setIfInBounds_toArray, List.set_cons_zero, List.set_cons_succ])
 refine wpAnyH_take (i := 16) (oi := ⟨some 21, .fieldAddr 181 (.tmp 3) 1, 0, "dial.go:94", #[⟨8, .guard⟩], some (8, true)⟩) (v := ?_) rfl (by kernel_rfl) (by kernel_rfl) (by kernel_rfl) (fun _ _ _ h => h) (Or.inl ⟨by rfl, fun W hSw => ?_⟩) hHeld ?_
 rotate_left
 ·(try dsimp only at hSw); go_simp; (try with_reducible rfl)
 (try simp only [Act.put, List.setIfInBounds_toArray, List.set_cons_zero, List.set_cons_succ])
 refine wpAnyH_take (i := 17) (oi := ⟨some 22, .load 3 (.tmp 21), 3, "dial.go:94", #[⟨16, .data⟩, ⟨8, .guard⟩], some (8, true)⟩) (v := ?_) rfl (by kernel_rfl) (by kernel_rfl) (by kernel_rfl) (fun _ _ _ h => h) (Or.inl ⟨by rfl, fun W hSw => ?_⟩) hHeld ?_
 rotate_left
 ·(try dsimp only at hSw); go_simp; (try with_reducible rfl)
 (try simp only [Act.put, List.setIfInBounds_toArray, List.set_cons_zero, List.set_cons_succ])
 refine wpAnyH_take (i := 18) (oi := ⟨some 23, .binOp .sub 3 (.tmp 22) (.const (.int .i64 1)) 3, 3, "dial.go:94", #[⟨17, .data⟩, ⟨8, .guard⟩], some (8, true)⟩) (v := ?_) rfl (by kernel_rfl) (by kernel_rfl) (by kernel_rfl) (fun _ _ _ h => h) (Or.inl ⟨by rfl, fun W hSw => ?_⟩) hHeld ?_
 rotate_left
 ·(try dsimp only at hSw); go_simp; (try with_reducible rfl)
 (try simp only [Act.put, List.setIfInBounds_toArray, List.set_cons_zero, List.set_cons_succ])
 refine wpAnyH_ready (rs := [14]) (by kernel_rfl) (by simp) ?_
 refine AllReadyH.cons (o := ⟨some 19, .call { callee := .value (.func 234), args := #[.tmp 16, .tmp 18], argTypes := #[253, 3] }, 4, "dial.go:94", #[⟨11, .data⟩, ⟨13, .data⟩, ⟨8, .chain⟩, ⟨8, .guard⟩], some (8, true)⟩) rfl (fun K hK => ?_) AllReadyH.nil
 go_simp
 refine (leap_any A n c cs _ _ _ _ _ _ y _ (hr0.keep hHeld.2) hn hpos hy1 (by omega)).mono ?_
 rintro e' w1 ⟨rfl, hb⟩
 refine hK.out _ _ (kp_step hb hHeld) (fun hHeld => ?_)
 clear hK K
 (try simp only [Act.put, List.setIfInBounds_toArray, List.set_cons_zero, List.set_cons_succ])
 refine wpAnyH_ready (rs := [15]) (by kernel_rfl) (by simp) ?_
 refine AllReadyH.cons (o := ⟨some 20, .call { callee := .value (.func 233), args := #[.tmp 19], argTypes := #[4] }, 23, "dial.go:94", #[⟨14, .data⟩, ⟨14, .chain⟩, ⟨8, .guard⟩], some (8, true)⟩) rfl (fun K hK => ?_) AllReadyH.nil
 go_simp
 refine (months_any _ _).mono ?_
 rintro e' w2 ⟨gm, rfl, hrm, hb⟩
 have hrow := hrm.row (m.toNat - 1) (by omega)
 rw [mtab_at _ _ hm1 hm2] at hrow
 refine hK.out _ _ (kp_step hb hHeld) (fun hHeld => ?_)
 clear hK K
 (try simp only [Act.put, List.setIfInBounds_toArray, List.set_cons_zero, List.set_cons_succ])
 refine wpAnyH_mono (S' := fun W => ((∀ p : Addr, p.block < ((w.alloc (.cells #[e, .slice A n c, m1, m2, m3, f, g] 253)).alloc (.cells #[.int .i64 y, .int .i64 m, .int .i64 d] 181)).heap.size → W.cell? p = ((w.alloc (.cells #[e, .slice A n c, m1, m2, m3, f, g] 253)).alloc (.cells #[.int .i64 y, .int .i64 m, .int .i64 d] 181)).cell? p) ∧ Below ((w.alloc (.cells #[e, .slice A n c, m1, m2, m3, f, g] 253)).alloc (.cells #[.int .i64 y, .int .i64 m, .int .i64 d] 181)).heap.size ((w.alloc (.cells #[e, .slice A n c, m1, m2, m3, f, g] 253)).alloc (.cells #[.int .i64 y, .int .i64 m, .int .i64 d] 181)) W) ∧ W.cell? ⟨gm, m.toNat - 1, none⟩ = some (.int .i64 (mlen (leapB cs y) m))) (fun _ h => h.1) _ _ _ _ ?_
 replace hHeld := And.intro hHeld hrow
 refine wpAnyH_take (i := 19) (oi := ⟨some 24, .indexAddr 23 (.tmp 20) (.tmp 23), 0, "dial.go:94", #[⟨15, .data⟩, ⟨18, .data⟩, ⟨8, .guard⟩], some (8, true)⟩) (v := ?_) rfl (by kernel_rfl) (by kernel_rfl) (by kernel_rfl) (fun _ _ _ h => h) (Or.inl ⟨by rfl, fun W hSw => ?_⟩) hHeld ?_
 rotate_left
 ·(try dsimp only at hSw); go_simp; (try with_reducible rfl)
 (try simp only [Act.put, List.setIfInBounds_toArray, List.set_cons_zero, List.set_cons_succ])
 refine wpAnyH_take (i := 20) (oi := ⟨some 25, .load 3 (.tmp 24), 3, "dial.go:94", #[⟨19, .data⟩, ⟨8, .guard⟩], some (8, true)⟩) (v := ?_) rfl (by kernel_rfl) (by kernel_rfl) (by kernel_rfl) (fun _ _ _ h => h) (Or.inl ⟨by rfl, fun W hSw => ?_⟩) hHeld ?_
 rotate_left
 ·(try dsimp only at hSw); go_simp; (try with_reducible rfl)
 (try simp only [Act.put, List.setIfInBounds_toArray, List.set_cons_zero, List.set_cons_succ])
 refine wpAnyH_ready (rs := [21]) (by kernel_rfl) (by simp) ?_
 refine AllReadyH.cons (o := ⟨some 26, .call { callee := .value (.func 227), args := #[.tmp 15, .const (.int .i64 1), .tmp 25], argTypes := #[3, 3, 3] }, 4, "dial.go:94", #[⟨10, .data⟩, ⟨20, .data⟩, ⟨15, .chain⟩, ⟨8, .guard⟩], some (8, true)⟩) rfl (fun K hK => ?_) AllReadyH.nil
 go_simp
 refine (in_is _ _ _ _ _ rfl).mono ?_
 rintro e' w3 ⟨rfl, rfl⟩
 refine hK.out _ _ (hHeld) (fun hHeld => ?_)
 clear hK K
 (try simp only [Act.put, List.setIfInBounds_toArray, List.set_cons_zero, List.set_cons_succ])
 refine wpAnyH_take (i := 22) (oi := ⟨some 27, .pick (.tmp 13) (.tmp 26) (.const (.bool false)), 4, "dial.go:94", #[⟨8, .data⟩, ⟨21, .data⟩], none⟩) (v := ?_) rfl (by kernel_rfl) (by kernel_rfl) (by kernel_rfl) (fun _ _ _ h => h) (Or.inl ⟨by rfl, fun W hSw => ?_⟩) hHeld ?_
 rotate_left
 ·(try dsimp only at hSw); go_simp; (try with_reducible rfl)
 (try simp only [Act.put, List.setIfInBounds_toArray, List.set_cons_zero, List.set_cons_succ])
 refine wpAnyH_take (i := 23) (oi := ⟨some 4, .assign (.tmp 27), 4, "dial.go:94", #[⟨22, .data⟩, ⟨21, .chain⟩, ⟨0, .phase⟩, ⟨1, .phase⟩, ⟨2, .phase⟩, ⟨3, .phase⟩, ⟨4, .phase⟩, ⟨5, .phase⟩, ⟨6, .phase⟩, ⟨7, .phase⟩, ⟨8, .phase⟩, ⟨9, .phase⟩, ⟨10, .phase⟩, ⟨11, .phase⟩, ⟨12, .phase⟩, ⟨13, .phase⟩, ⟨14, .phase⟩, ⟨15, .phase⟩, ⟨16, .phase⟩, ⟨17, .phase⟩, ⟨18, .phase⟩, ⟨19, .phase⟩, ⟨20, .phase⟩, ⟨21, .phase⟩, ⟨22, .phase⟩], none⟩) (v := ?_) rfl (by kernel_rfl) (by kernel_rfl) (by kernel_rfl) (fun _ _ _ h => h) (Or.inl ⟨by rfl, fun W hSw => ?_⟩) hHeld ?_
 rotate_left
 ·(try dsimp only at hSw); go_simp; (try with_reducible rfl)
 (try simp only [Act.put, List.setIfInBounds_toArray, List.set_cons_zero, List.set_cons_succ])
 refine wpAnyH_done (by kernel_rfl) ?_ _
 refine NoPanic.normal ?_
 go_wp2
 go_ret
 exact ⟨rfl, fr_call (fr_alloc (fr_alloc (fr_refl _) _) _) hHeld.1.2⟩

/-- the first days of the years 0 to 4001 -/
def firsts (e : Int) (cs : List Int) : List Int := (List.range 4002).map (firstN e cs)
theorem firsts_len (e : Int) (cs : List Int) : (firsts e cs).length = 4002 := by unfold firsts; rw [List.length_map, List.length_range]
theorem firsts_at (e : Int) (cs : List Int) (k : Nat) (h : k < 4002) : (firsts e cs)[k]?.getD 0 = firstN e cs k := by
 unfold firsts; rw [List.getElem?_map, List.getElem?_range h]; rfl
theorem fst_at {w : World} {F : Option Addr} {e : Int} {cs : List Int} (h : Rd w F 4002 (firsts e cs)) {y : Int} (h0 : 0 ≤ y) (h1 : y ≤ 4001) :
  ∃ ad, F = some ad ∧ ad.block < w.heap.size ∧ w.cell? (ad.add y.toNat) = some (.int .i64 (firstDay e cs y)) := by
 obtain ⟨ad, e1, hb, hc⟩ := h.at_ (k := y.toNat) (by omega)
 exact ⟨ad, e1, hb, by rw [hc, firsts_at _ _ _ (by omega)]; rfl⟩

theorem mtab_cum (b : Bool) (m : Int) (h1 : 1 ≤ m) (h2 : m ≤ 12) : ((mtab b).take (m.toNat - 1)).sum = cum b m := by
 rcases twelve h1 h2 with rfl | rfl | rfl | rfl | rfl | rfl | rfl | rfl | rfl | rfl | rfl | rfl <;> cases b <;> rfl
theorem mtab_take_bounds (b : Bool) (j : Nat) : ∀ k, k < ((mtab b).take j).length → 0 ≤ ((mtab b).take j)[k]?.getD 0 ∧ ((mtab b).take j)[k]?.getD 0 ≤ 1000 := by
 intro k hk
 rw [List.length_take] at hk
 rw [List.getElem?_take, if_pos (by omega)]
 exact mtab_bounds b k (by omega)
theorem cum_bounds (b : Bool) (m : Int) (h1 : 1 ≤ m) (h2 : m ≤ 12) : 0 ≤ cum b m ∧ cum b m ≤ 335 := by
 rcases twelve h1 h2 with rfl | rfl | rfl | rfl | rfl | rfl | rfl | rfl | rfl | rfl | rfl | rfl <;> cases b <;> decide

set_option maxRecDepth 100000 in
set_option maxHeartbeats 2000000 in
theorem day_any (A F : Option Addr) (n c fc : Nat) (cs : List Int) (e : Int) (m1 m2 m3 g : Value) (y m d : Int) (w : World) (hr : Rd w A n cs) (hn : n ≤ 3) (hpos : Cyc cs) (hF : Rd w F 4002 (firsts e cs))
  (he : 0 ≤ e ∧ e ≤ 1000) (hy : 0 ≤ y ∧ y ≤ 4000) (hm : 1 ≤ m ∧ m ≤ 12) (hd : 1 ≤ d ∧ d ≤ 31) :
  Calls Tryz.prog 183 #[.agg #[.int .i64 e, .slice A n c, m1, m2, m3, .slice F 4002 fc, g], .agg #[.int .i64 y, .int .i64 m, .int .i64 d]] w fun e' w' =>
   e' = .returned (.int .i64 (dayOf e cs ⟨y, m, d⟩)) ∧ Below w.heap.size w w' := by
 obtain ⟨hy1, hy2⟩ := hy
 obtain ⟨hm1, hm2⟩ := hm
 obtain ⟨hd1, hd2⟩ := hd
 have hwm : IntKind.i64.wrap (m - 1) = m - 1 := IntWalk.i64_in _ (by omega)
 have hi0 : 0 ≤ m - 1 := by omega
 have hi1 : m - 1 ≤ 12 := by omega
 have hy3 : y < 4002 := by omega
 obtain ⟨ad, rfl, hab, hfc⟩ := fst_at hF hy1 (by omega)
 have hcb := cum_bounds (leapB cs y) m hm1 hm2
 have hfb := firstDay_bounds e cs y hy1
 have hadN : (ad.add y.toNat).block < w.heap.size + 2 := by rw [block_of_add]; omega
 generalize hf : firstDay e cs y = fy at *
 generalize hq : cum (leapB cs y) m = cm at *
 have hw1 : IntKind.i64.wrap (fy + cm) = fy + cm := IntWalk.i64_in _ (by omega)
 have hw2 : IntKind.i64.wrap (fy + cm + d) = fy + cm + d := IntWalk.i64_in _ (by omega)
 have hw3 : IntKind.i64.wrap (fy + cm + d - 1) = fy + cm + d - 1 := IntWalk.i64_in _ (by omega)
 have hfc2 : ((w.alloc (.cells #[.int .i64 e, .slice A n c, m1, m2, m3, .slice (some ad) 4002 fc, g] 253)).alloc (.cells #[.int .i64 y, .int .i64 m, .int .i64 d] 181)).cell? (ad.add y.toNat) = some (.int .i64 fy) := by
  rw [World.cell?_alloc_lt, World.cell?_alloc_lt]
  ·exact hfc
  ·rw [block_of_add]; exact hab
  ·rw [block_of_add]; simp; omega
 have HF := Lib.hid hf
 have HQ := Lib.hid hq
 clear hf hq hF hfc
 go_enter Tryz.func183, Tryz.ntmps183
 go_wp2_with fail
 have hr0 := (hr.alloc (.cells #[.int .i64 e, .slice A n c, m1, m2, m3, .slice (some ad) 4002 fc, g] 253)).alloc (.cells #[.int .i64 y, .int .i64 m, .int .i64 d] 181)
 refine wp_region_noPanic ?_
 refine wp_region_held_drew (S := fun W => (∀ p : Addr, p.block < ((w.alloc (.cells #[.int .i64 e, .slice A n c, m1, m2, m3, .slice (some ad) 4002 fc, g] 253)).alloc (.cells #[.int .i64 y, .int .i64 m, .int .i64 d] 181)).heap.size → W.cell? p = ((w.alloc (.cells #[.int .i64 e, .slice A n c, m1, m2, m3, .slice (some ad) 4002 fc, g] 253)).alloc (.cells #[.int .i64 y, .int .i64 m, .int .i64 d] 181)).cell? p) ∧ Below ((w.alloc (.cells #[.int .i64 e, .slice A n c, m1, m2, m3, .slice (some ad) 4002 fc, g] 253)).alloc (.cells #[.int .i64 y, .int .i64 m, .int .i64 d] 181)).heap.size ((w.alloc (.cells #[.int .i64 e, .slice A n c, m1, m2, m3, .slice (some ad) 4002 fc, g] 253)).alloc (.cells #[.int .i64 y, .int .i64 m, .int .i64 d] 181)) W) (by kernel_rfl) ⟨fun _ _ => rfl, fr_drew (fr_refl _)⟩ (fun hHeld => ?_)
 -- the region, step by step
 refine wpAnyH_take (i := 0) (oi := ⟨some 5, .fieldAddr 253 (.tmp 2) 2, 0, "dial.go:99", #[], none⟩) (v := ?_) rfl (by kernel_rfl) (by kernel_rfl) (by kernel_rfl) (fun _ _ _ h => h) (Or.inl ⟨by rfl, fun W hSw => ?_⟩) hHeld ?_
 rotate_left
 ·(try dsimp only at hSw); go_simp; (try with_reducible rfl)
 (try simp only [Act.put, List.setIfInBounds_toArray, List.set_cons_zero, List.set_cons_succ])
 refine wpAnyH_take (i := 1) (oi := ⟨some 6, .load 23 (.tmp 5), 23, "dial.go:99", #[⟨0, .data⟩], none⟩) (v := ?_) rfl (by kernel_rfl) (by kernel_rfl) (by kernel_rfl) (fun _ _ _ h => h) (Or.inl ⟨by rfl, fun W hSw => ?_⟩) hHeld ?_
 rotate_left
 ·(try dsimp only at hSw); go_simp; (try with_reducible rfl)
 (try simp only [Act.put, List.setIfInBounds_toArray, List.set_cons_zero, List.set_cons_succ])
 refine wpAnyH_take (i := 2) (oi := ⟨some 7, .fieldAddr 181 (.tmp 3) 0, 0, "dial.go:99", #[], none⟩) (v := ?_) rfl (by kernel_rfl) (by kernel_rfl) (by kernel_rfl) (fun _ _ _ h => h) (Or.inl ⟨by rfl, fun W hSw => ?_⟩) hHeld ?_
 rotate_left
 ·(try dsimp only at hSw); go_simp; (try with_reducible rfl)
 (try simp only [Act.put, List.setIfInBounds_toArray, List.set_cons_zero, List.set_cons_succ])
 refine wpAnyH_take (i := 3) (oi := ⟨some 8, .load 3 (.tmp 7), 3, "dial.go:99", #[⟨2, .data⟩], none⟩) (v := ?_) rfl (by kernel_rfl) (by kernel_rfl) (by kernel_rfl) (fun _ _ _ h => h) (Or.inl ⟨by rfl, fun W hSw => ?_⟩) hHeld ?_
 rotate_left
 ·(try dsimp only at hSw); go_simp; (try with_reducible rfl)
 (try simp only [Act.put, List.setIfInBounds_toArray, List.set_cons_zero, List.set_cons_succ])
 refine wpAnyH_take (i := 4) (oi := ⟨some 9, .indexAddr 23 (.tmp 6) (.tmp 8), 0, "dial.go:99", #[⟨1, .data⟩, ⟨3, .data⟩], none⟩) (v := ?_) rfl (by kernel_rfl) (by kernel_rfl) (by kernel_rfl) (fun _ _ _ h => h) (Or.inl ⟨by rfl, fun W hSw => ?_⟩) hHeld ?_
 rotate_left
 ·(try dsimp only at hSw); go_simp; (try with_reducible rfl)
 (try simp only [Act.put, List.setIfInBounds_toArray, List.set_cons_zero, List.set_cons_succ])
 refine wpAnyH_take (i := 5) (oi := ⟨some 10, .load 3 (.tmp 9), 3, "dial.go:99", #[⟨4, .data⟩], none⟩) (v := ?_) rfl (by kernel_rfl) (by kernel_rfl) (by kernel_rfl) (fun _ _ _ h => h) (Or.inl ⟨by rfl, fun W hSw => ?_⟩) hHeld ?_
 rotate_left
 ·(try dsimp only at hSw); go_simp; (try with_reducible rfl)
 (try simp only [Act.put, List.setIfInBounds_toArray, List.set_cons_zero, List.set_cons_succ])
 refine wpAnyH_take (i := 6) (oi := ⟨some 11, .load 253 (.tmp 2), 253, "dial.go:99", #[], none⟩) (v := ?_) rfl (by kernel_rfl) (by kernel_rfl) (by kernel_rfl) (fun _ _ _ h => h) (Or.inl ⟨by rfl, fun W hSw => ?_⟩) hHeld ?_
 rotate_left
 ·(try dsimp only at hSw); go_simp; (try with_reducible rfl)
 (try simp only [Act.put, List.setIfInBounds_toArray, List.set_cons_zero, List.set_cons_succ])
 refine wpAnyH_take (i := 7) (oi := ⟨some 12, .fieldAddr 181 (.tmp 3) 0, 0, "dial.go:99", #[], none⟩) (v := ?_) rfl (by kernel_rfl) (by kernel_rfl) (by kernel_rfl) (fun _ _ _ h => h) (Or.inl ⟨by rfl, fun W hSw => ?_⟩) hHeld ?_
 rotate_left
 ·(try dsimp only at hSw); go_simp; (try with_reducible rfl)
 (try simp only [Act.put, List.setIfInBounds_toArray, List.set_cons_zero, List.set_cons_succ])
 refine wpAnyH_take (i := 8) (oi := ⟨some 13, .load 3 (.tmp 12), 3, "dial.go:99", #[⟨7, .data⟩], none⟩) (v := ?_) rfl (by kernel_rfl) (by kernel_rfl) (by kernel_rfl) (fun _ _ _ h => h) (Or.inl ⟨by rfl, fun W hSw => ?_⟩) hHeld ?_
 rotate_left
 ·(try dsimp only at hSw); go_simp; (try with_reducible rfl)
 (try simp only [Act.put, List.setIfInBounds_toArray, List.set_cons_zero, List.set_cons_succ])
 refine wpAnyH_take (i := 11) (oi := ⟨some 16, .fieldAddr 181 (.tmp 3) 1, 0, "dial.go:99", #[], none⟩) (v := ?_) rfl (by kernel_rfl) (by kernel_rfl) (by kernel_rfl) (fun _ _ _ h => h) (Or.inl ⟨by rfl, fun W hSw => ?_⟩) hHeld ?_
 rotate_left
 ·(try dsimp only at hSw); go_simp; (try with_reducible rfl)
 (try simp only [Act.put, List.setIfInBounds_toArray, List.set_cons_zero, List.set_cons_succ])
 refine wpAnyH_take (i := 12) (oi := ⟨some 17, .load 3 (.tmp 16), 3, "dial.go:99", #[⟨11, .data⟩], none⟩) (v := ?_) rfl (by kernel_rfl) (by kernel_rfl) (by kernel_rfl) (fun _ _ _ h => h) (Or.inl ⟨by rfl, fun W hSw => ?_⟩) hHeld ?_
 rotate_left
 ·(try dsimp only at hSw); go_simp; (try with_reducible rfl)
 (try simp only [Act.put, List.setIfInBounds_toArray, List.set_cons_zero, List.set_cons_succ])
 refine wpAnyH_take (i := 13) (oi := ⟨some 18, .binOp .sub 3 (.tmp 17) (.const (.int .i64 1)) 3, 3, "dial.go:99", #[⟨12, .data⟩], none⟩) (v := ?_) rfl (by kernel_rfl) (by kernel_rfl) (by kernel_rfl) (fun _ _ _ h => h) (Or.inl ⟨by rfl, fun W hSw => ?_⟩) hHeld ?_
 rotate_left
 ·(try dsimp only at hSw); go_simp; (try with_reducible rfl)
 (try simp only [Act.put, List.setIfInBounds_toArray, List.set_cons_zero, List.set_cons_succ])
 refine wpAnyH_take (i := 17) (oi := ⟨some 22, .fieldAddr 181 (.tmp 3) 2, 0, "dial.go:99", #[], none⟩) (v := ?_) rfl (by kernel_rfl) (by kernel_rfl) (by kernel_rfl) (fun _ _ _ h => h) (Or.inl ⟨by rfl, fun W hSw => ?_⟩) hHeld ?_
 rotate_left
 ·(try dsimp only at hSw); go_simp; (try with_reducible rfl)
 (try simp only [Act.put, List.setIfInBounds_toArray, List.set_cons_zero, List.set_cons_succ])
 refine wpAnyH_take (i := 18) (oi := ⟨some 23, .load 3 (.tmp 22), 3, "dial.go:99", #[⟨17, .data⟩], none⟩) (v := ?_) rfl (by kernel_rfl) (by kernel_rfl) (by kernel_rfl) (fun _ _ _ h => h) (Or.inl ⟨by rfl, fun W hSw => ?_⟩) hHeld ?_
 rotate_left
 ·(try dsimp only at hSw); go_simp; (try with_reducible rfl)
 (try simp only [Act.put, List.setIfInBounds_toArray, List.set_cons_zero, List.set_cons_succ])
 refine wpAnyH_ready (rs := [9]) (by kernel_rfl) (by simp) ?_
 refine AllReadyH.cons (o := ⟨some 14, .call { callee := .value (.func 234), args := #[.tmp 11, .tmp 13], argTypes := #[253, 3] }, 4, "dial.go:99", #[⟨6, .data⟩, ⟨8, .data⟩], none⟩) rfl (fun K hK => ?_) AllReadyH.nil
 go_simp
 refine (leap_any A n c cs _ _ _ _ _ _ y _ (hr0.keep hHeld.2) hn hpos hy1 (by omega)).mono ?_
 rintro e' w1 ⟨rfl, hb⟩
 refine hK.out _ _ (kp_step hb hHeld) (fun hHeld => ?_)
 clear hK K
 (try simp only [Act.put, List.setIfInBounds_toArray, List.set_cons_zero, List.set_cons_succ])
 refine wpAnyH_ready (rs := [10]) (by kernel_rfl) (by simp) ?_
 refine AllReadyH.cons (o := ⟨some 15, .call { callee := .value (.func 233), args := #[.tmp 14], argTypes := #[4] }, 23, "dial.go:99", #[⟨9, .data⟩, ⟨9, .chain⟩], none⟩) rfl (fun K hK => ?_) AllReadyH.nil
 go_simp
 refine (months_any _ _).mono ?_
 rintro e' w2 ⟨gm, rfl, hrm, hb⟩
 refine hK.out _ _ (kp_step hb hHeld) (fun hHeld => ?_)
 clear hK K
 (try simp only [Act.put, List.setIfInBounds_toArray, List.set_cons_zero, List.set_cons_succ])
 refine wpAnyH_take (i := 14) (oi := ⟨some 19, .slice 23 (.tmp 15) none (some (.tmp 18)) none, 23, "dial.go:99", #[⟨10, .data⟩, ⟨13, .data⟩], none⟩) (v := ?_) rfl (by kernel_rfl) (by kernel_rfl) (by kernel_rfl) (fun _ _ _ h => h) (Or.inl ⟨by rfl, fun W hSw => ?_⟩) hHeld ?_
 rotate_left
 ·(try dsimp only at hSw); go_simp; (try with_reducible rfl)
 (try simp only [Act.put, List.setIfInBounds_toArray, List.set_cons_zero, List.set_cons_succ])
 refine wpAnyH_ready (rs := [15]) (by kernel_rfl) (by simp) ?_
 refine AllReadyH.cons (o := ⟨some 20, .call { callee := .value (.func 235), args := #[.tmp 19], argTypes := #[23] }, 3, "dial.go:99", #[⟨14, .data⟩, ⟨10, .chain⟩], none⟩) rfl (fun K hK => ?_) AllReadyH.nil
 go_simp
 refine (sum_any _ _ _ _ _ (hrm.take (k := m.toNat - 1) (by omega)) (by omega) (mtab_take_bounds _ _)).mono ?_
 rw [mtab_cum _ _ hm1 hm2, HQ.out]
 rintro e' w3 ⟨rfl, rfl⟩
 refine hK.out _ _ (hHeld) (fun hHeld => ?_)
 clear hK K
 (try simp only [Act.put, List.setIfInBounds_toArray, List.set_cons_zero, List.set_cons_succ])
 refine wpAnyH_take (i := 16) (oi := ⟨some 21, .binOp .add 3 (.tmp 10) (.tmp 20) 3, 3, "dial.go:99", #[⟨5, .data⟩, ⟨15, .data⟩], none⟩) (v := ?_) rfl (by kernel_rfl) (by kernel_rfl) (by kernel_rfl) (fun _ _ _ h => h) (Or.inl ⟨by rfl, fun W hSw => ?_⟩) hHeld ?_
 rotate_left
 ·(try dsimp only at hSw); go_simp; (try with_reducible rfl)
 (try simp only [Act.put, List.setIfInBounds_toArray, List.set_cons_zero, List.set_cons_succ])
 refine wpAnyH_take (i := 19) (oi := ⟨some 24, .binOp .add 3 (.tmp 21) (.tmp 23) 3, 3, "dial.go:99", #[⟨16, .data⟩, ⟨18, .data⟩], none⟩) (v := ?_) rfl (by kernel_rfl) (by kernel_rfl) (by kernel_rfl) (fun _ _ _ h => h) (Or.inl ⟨by rfl, fun W hSw => ?_⟩) hHeld ?_
 rotate_left
 ·(try dsimp only at hSw); go_simp; (try with_reducible rfl)
 (try simp only [Act.put, List.setIfInBounds_toArray, List.set_cons_zero, List.set_cons_succ])
 refine wpAnyH_take (i := 20) (oi := ⟨some 25, .binOp .sub 3 (.tmp 24) (.const (.int .i64 1)) 3, 3, "dial.go:99", #[⟨19, .data⟩], none⟩) (v := ?_) rfl (by kernel_rfl) (by kernel_rfl) (by kernel_rfl) (fun _ _ _ h => h) (Or.inl ⟨by rfl, fun W hSw => ?_⟩) hHeld ?_
 rotate_left
 ·(try dsimp only at hSw); go_simp; (try with_reducible rfl)
 (try simp only [Act.put, List.setIfInBounds_toArray, List.set_cons_zero, List.set_cons_succ])
 refine wpAnyH_take (i := 21) (oi := ⟨some 4, .assign (.tmp 25), 3, "dial.go:99", #[⟨20, .data⟩, ⟨15, .chain⟩, ⟨0, .phase⟩, ⟨1, .phase⟩, ⟨2, .phase⟩, ⟨3, .phase⟩, ⟨4, .phase⟩, ⟨5, .phase⟩, ⟨6, .phase⟩, ⟨7, .phase⟩, ⟨8, .phase⟩, ⟨9, .phase⟩, ⟨10, .phase⟩, ⟨11, .phase⟩, ⟨12, .phase⟩, ⟨13, .phase⟩, ⟨14, .phase⟩, ⟨15, .phase⟩, ⟨16, .phase⟩, ⟨17, .phase⟩, ⟨18, .phase⟩, ⟨19, .phase⟩, ⟨20, .phase⟩], none⟩) (v := ?_) rfl (by kernel_rfl) (by kernel_rfl) (by kernel_rfl) (fun _ _ _ h => h) (Or.inl ⟨by rfl, fun W hSw => ?_⟩) hHeld ?_
 rotate_left
 ·(try dsimp only at hSw); go_simp; (try with_reducible rfl)
 (try simp only [Act.put, List.setIfInBounds_toArray, List.set_cons_zero, List.set_cons_succ])
 refine wpAnyH_done (by kernel_rfl) ?_ _
 refine NoPanic.normal ?_
 go_wp2
 go_ret
 exact ⟨ret_int (by unfold dayOf; simp only [HF.out, HQ.out]), fr_call (fr_alloc (fr_alloc (fr_refl _) _) _) hHeld.2⟩
end Go.Proofs.YtkmiphabagoifaaGreatDoor
end
