/- The words in which memory is told: a slice that reads as a list of numbers, a world that has only grown. The calendar of the chapter in plain numbers: leap years, months, first days. The date of a day, and the day of a date. Walks: ranges, leap years, months, sums, lengths of years. More for regions that draw their order: what is kept may grow in the midst of a region. Walks: whether a date is one of a calendar; the day of a date. The moon of the chapter: new moons and ages, in plain numbers. -/
import Derived.Test.YtdocgmafbacjcaaGreatDoorProg
import Derived.WalkKit
import Derived.WalkSpells
import Derived.WalkLawsBesides
import Derived.LoopTactic
import Derived.Deep.LoopGhost
import Derived.Lib.Hide
import Derived.Deep.Draws
import Derived.Deep.QuietTactic
import Derived.BigQuiet
import Derived.Deep.RegionHeld3
section
namespace Go.Proofs.YtdocgmafbacjcaaGreatDoor
open Go.RowKit

theorem block_of_add (a : Addr) (n : Nat) : (a.add n).block = a.block := by unfold Addr.add; split <;> rfl
theorem add_of_add (a : Addr) (i j : Nat) : (a.add i).add j = a.add (i + j) := by
 unfold Addr.add
 by_cases hi : i = 0 <;> by_cases hj : j = 0 <;> simp [hi, hj, Nat.add_assoc]
theorem add_lit (b o k : Nat) : (Addr.mk b o none).add k = ⟨b, o + k, none⟩ := by
 unfold Addr.add
 by_cases h : k = 0 <;> simp [h]

/- The world has only grown. -/
theorem fr_refl (w : World) : Below w.heap.size w w := Below.refl _ _
theorem fr_alloc {w W : World} (h : Below w.heap.size w W) (o : Obj) : Below w.heap.size w (W.alloc o) := h.alloc h.size o
theorem fr_drew {w W : World} (h : Below w.heap.size w W) : Below w.heap.size w W.drew := h.drew
theorem fr_drewN {w W : World} (h : Below w.heap.size w W) (n : Nat) : Below w.heap.size w (W.drewN n) := ⟨h.os, h.tape, h.output, h.size, h.block⟩
theorem fr_set {w W : World} (h : Below w.heap.size w W) {p : Addr} (hp : w.heap.size ≤ p.block) (u : Value) : Below w.heap.size w (W.setCell p u) := h.setCell hp u
theorem fr_call {w W W' : World} (h : Below w.heap.size w W) (k : Below W.heap.size W W') : Below w.heap.size w W' := h.trans (k.mono h.size)
theorem bcell {W w1 : World} (hb : Below W.heap.size W w1) : (∀ b o, b < W.heap.size → w1.cell? ⟨b, o, none⟩ = W.cell? ⟨b, o, none⟩) ∧ (∀ b o, b < W.heap.size → w1.frozen? ⟨b, o, none⟩ = W.frozen? ⟨b, o, none⟩) :=
 ⟨fun b o h => hb.cell (p := ⟨b, o, none⟩) h, fun b o h => hb.frozen (p := ⟨b, o, none⟩) h⟩

/-- What a region that makes memory keeps: the cells that lay there, and that the world has only grown. -/
theorem kp_step {W0 W W1 : World} (hb : Below W.heap.size W W1) (hS : (∀ p : Addr, p.block < W0.heap.size → W.cell? p = W0.cell? p) ∧ Below W0.heap.size W0 W) :
  (∀ p : Addr, p.block < W0.heap.size → W1.cell? p = W0.cell? p) ∧ Below W0.heap.size W0 W1 :=
 ⟨fun p h => (hb.cell (Nat.lt_of_lt_of_le h hS.2.size)).trans (hS.1 p h), fr_call hS.2 hb⟩

/-- The slice value '.slice A n c' reads as the numbers xs. -/
def Rd (w : World) (A : Option Addr) (n : Nat) (xs : List Int) : Prop :=
 xs.length = n ∧ (0 < n → ∃ ad, A = some ad ∧ ad.block < w.heap.size ∧ ∀ j, j < n → w.cell? (ad.add j) = some (.int .i64 (xs[j]?.getD 0)))
theorem Rd.len {w : World} {A : Option Addr} {n : Nat} {xs : List Int} (h : Rd w A n xs) : xs.length = n := h.1
theorem Rd.keep {w w' : World} {A : Option Addr} {n : Nat} {xs : List Int} (h : Rd w A n xs) (hb : Below w.heap.size w w') : Rd w' A n xs :=
 ⟨h.1, fun hn => by
  obtain ⟨ad, e, hlt, hc⟩ := h.2 hn
  exact ⟨ad, e, Nat.lt_of_lt_of_le hlt hb.size, fun j hj => (hb.cell (by rw [block_of_add]; exact hlt)).trans (hc j hj)⟩⟩
theorem Rd.alloc {w : World} {A : Option Addr} {n : Nat} {xs : List Int} (h : Rd w A n xs) (o : Obj) : Rd (w.alloc o) A n xs := h.keep (fr_alloc (fr_refl w) o)
/-- the slice begins in a block from B on, or is nil -/
def Fresh (B : Nat) (A : Option Addr) : Prop := ∀ ad, A = some ad → B ≤ ad.block
theorem Rd.far {w w' : World} {A : Option Addr} {n g : Nat} {xs : List Int} (h : Rd w A n xs) (hg : w.grownBy w' (some g)) (hne : ∀ ad, A = some ad → ad.block ≠ g) : Rd w' A n xs :=
 ⟨h.1, fun hn => by
  obtain ⟨ad, e, hlt, hc⟩ := h.2 hn
  exact ⟨ad, e, Nat.lt_of_lt_of_le hlt hg.size, fun j hj => (World.cell?_of_block (hg.block _ (by rw [block_of_add]; exact hlt) (by rw [block_of_add]; intro e'; cases e'; exact hne ad e rfl))).trans (hc j hj)⟩⟩
theorem Rd.nil_ (w : World) (A : Option Addr) : Rd w A 0 [] := ⟨rfl, fun h => absurd h (by omega)⟩
theorem Rd.at_ {w : World} {A : Option Addr} {n : Nat} {xs : List Int} (h : Rd w A n xs) {k : Nat} (hk : k < n) :
  ∃ ad, A = some ad ∧ ad.block < w.heap.size ∧ w.cell? (ad.add k) = some (.int .i64 (xs[k]?.getD 0)) := by
 obtain ⟨ad, e, hb, hc⟩ := h.2 (by omega)
 exact ⟨ad, e, hb, hc k hk⟩
theorem Rd.take {w : World} {A : Option Addr} {n : Nat} {xs : List Int} (h : Rd w A n xs) {k : Nat} (hk : k ≤ n) : Rd w A k (xs.take k) := by
 refine ⟨by rw [List.length_take, h.1]; omega, fun hn => ?_⟩
 obtain ⟨ad, e, hb, hc⟩ := h.2 (by omega)
 refine ⟨ad, e, hb, fun j hj => ?_⟩
 rw [List.getElem?_take, if_pos hj]
 exact hc j (by omega)
theorem cell_new (w : World) (xs : Array Value) (t : TypeId) (j : Nat) : (w.alloc (.cells xs t)).cell? ⟨w.heap.size, j, none⟩ = xs[j]? := by
 have := heap_alloc_new w (.cells xs t)
 unfold World.cell?
 rw [this]
 rfl
/-- A new row of numbers. -/
theorem Rd.new (w : World) (t : TypeId) (ys : List Int) : Rd (w.alloc (.cells (ys.map (Value.int .i64)).toArray t)) (some ⟨w.heap.size, 0, none⟩) ys.length ys := by
 refine ⟨rfl, fun _ => ⟨_, rfl, by simp, fun j hj => ?_⟩⟩
 rw [add_lit, Nat.zero_add, cell_new]
 simp [hj]
theorem ret_bool {a b : Bool} (h : a = b) : Ending.returned (.bool a) = .returned (.bool b) := by rw [h]
theorem ret_int {k : IntKind} {a b : Int} (h : a = b) : Ending.returned (.int k a) = .returned (.int k b) := by rw [h]
theorem take_snoc' (xs : List Int) (k : Nat) (h : k < xs.length) : xs.take (k + 1) = xs.take k ++ [xs[k]?.getD 0] := by
 rw [List.take_succ_eq_append_getElem h]; simp [h]

/- quiet calls: contracts that state 'w = w'' -/
theorem quiet_left {P : Program} {f : FuncId} {args : Array Value} {w : World} {n : Nat} {v : Value}
  (h : Calls P f args (w.drewN n) fun e w' => e = .returned v ∧ w.drewN n = w') : Calls P f args (w.drewN n) fun e w'' => e = .returned v ∧ ∃ m, w'' = w.drewN m :=
 h.mono fun _ _ ⟨he, hm⟩ => ⟨he, n, hm.symm⟩
section
variable {P : Program} {ops : Array Oper} {Q : Exit → Act → World → Prop} {md : Region.Mode} {S : World → Prop}
/-- number i comes up first: the kit's law, its side conditions by the tactics that show them -/
theorem tkH (i : Nat) (oi : Oper) {v : Value} {a' : Act} {fuel : Nat} {listed : Array Bool} {a : Act} {w : World} (hS : S w) (h : wpAnyH P md ops Q S fuel (listed.setIfInBounds i true) a' w)
  (hi : ops[i]? = some oi := by rfl) (hs : Region.noSelect ops = true := by kernel_rfl) (hf : Region.free md ops listed i = true := by kernel_rfl) (hr : (Region.ready md ops listed).contains i = true := by kernel_rfl)
  (hQ : ∀ c a w, Q (.panic c) (a.put oi.dst v) w → Q (.panic c) a w := by exact fun _ _ _ h => h)
  (hy : YieldsIf P ops S oi v a := by exact Or.inl ⟨by rfl, fun W hSw => by (try dsimp only at hSw); go_simp; (try with_reducible rfl)⟩)
  (hp : a.put oi.dst v = a' := by first | (simp only [Act.put, List.setIfInBounds_toArray, List.set_cons_zero, List.set_cons_succ]; done) | (simp only [Act.put, List.setIfInBounds_toArray, List.set_cons_zero, List.set_cons_succ]; rfl) | rfl) : wpAnyH P md ops Q S (fuel + 1) listed a w :=
 wpAnyH_take hi hs hf hr hQ hy hS (hp ▸ h)
/-- number i alone may come up -/
theorem rdH (i : Nat) (o : Oper) {fuel : Nat} {listed : Array Bool} {a : Act} {w : World} (h : ∀ K' : Act → World → Prop, Shut (∀ a w, S w → (S w → wpAnyH P md ops Q S fuel (listed.setIfInBounds i true) a w) → K' a w) → Oper.wp P o a w K' Q)
  (hr : Region.ready md ops listed = [i] := by kernel_rfl) (ho : ops[i]? = some o := by rfl) (hw : Region.wanted o (yielded ops a.tmps) = true := by rfl) : wpAnyH P md ops Q S (fuel + 1) listed a w :=
 wpAnyH_ready hr (by simp) (AllReadyH.cons ho (fun K hK => by rw [if_pos hw]; exact h K hK) AllReadyH.nil)
end
end Go.Proofs.YtdocgmafbacjcaaGreatDoor
end

section
namespace Go.Proofs.YtdocgmafbacjcaaGreatDoor.Dl
/-- is a year a leap year: an odd number of cycles divide it -/
def leapB (cs : List Int) (y : Int) : Bool := cs.foldl (fun b n => if y % n = 0 then !b else b) false
/-- how long a month is -/
def mlen (b : Bool) (m : Int) : Int :=
 if m = 2 then (if b then 29 else 28) else if m = 4 ∨ m = 6 ∨ m = 9 ∨ m = 11 then 30 else 31
/-- days before a month -/
def cum (b : Bool) (m : Int) : Int :=
 if m = 1 then 0 else if m = 2 then 31 else
 (if m = 3 then 59 else if m = 4 then 90 else if m = 5 then 120 else if m = 6 then 151 else if m = 7 then 181 else
  if m = 8 then 212 else if m = 9 then 243 else if m = 10 then 273 else if m = 11 then 304 else if m = 12 then 334 else 365) + (if b then 1 else 0)
def yearLen (cs : List Int) (y : Int) : Int := if leapB cs y then 366 else 365
/-- the first day of a year -/
def firstN (e : Int) (cs : List Int) : Nat → Int
 | 0 => e
 | n + 1 => firstN e cs n + yearLen cs n
def firstDay (e : Int) (cs : List Int) (y : Int) : Int := firstN e cs y.toNat

theorem mlen_pos (b : Bool) (m : Int) : 28 ≤ mlen b m ∧ mlen b m ≤ 31 := by
 unfold mlen; cases b <;> (repeat' split) <;> simp_all
theorem yearLen_pos (cs : List Int) (y : Int) : 365 ≤ yearLen cs y ∧ yearLen cs y ≤ 366 := by
 unfold yearLen; split <;> omega

theorem firstN_bounds (e : Int) (cs : List Int) (n : Nat) : e + 365 * n ≤ firstN e cs n ∧ firstN e cs n ≤ e + 366 * n := by
 induction n with
 | zero => simp [firstN]
 | succ n ih => have := yearLen_pos cs n; simp only [firstN]; omega
theorem firstDay_bounds (e : Int) (cs : List Int) (y : Int) (h : 0 ≤ y) : e + 365 * y ≤ firstDay e cs y ∧ firstDay e cs y ≤ e + 366 * y := by
 have := firstN_bounds e cs y.toNat
 unfold firstDay; omega
end Go.Proofs.YtdocgmafbacjcaaGreatDoor.Dl
end

section
namespace Go.Proofs.YtdocgmafbacjcaaGreatDoor.Dl
structure Date where
 y : Int
 m : Int
 d : Int
deriving DecidableEq

def real (cs : List Int) (x : Date) : Prop := 0 ≤ x.y ∧ x.y ≤ 4000 ∧ 1 ≤ x.m ∧ x.m ≤ 12 ∧ 1 ≤ x.d ∧ x.d ≤ mlen (leapB cs x.y) x.m
instance (cs : List Int) (x : Date) : Decidable (real cs x) := by unfold real; infer_instance
def dayOf (e : Int) (cs : List Int) (x : Date) : Int := firstDay e cs x.y + cum (leapB cs x.y) x.m + x.d - 1

end Go.Proofs.YtdocgmafbacjcaaGreatDoor.Dl
end

section
namespace Go.Proofs.YtdocgmafbacjcaaGreatDoor
open Go.RowKit Dl

def inB (x lo hi : Int) : Bool := decide (lo ≤ x ∧ x ≤ hi)
theorem inB_yes {x lo hi : Int} (h : lo ≤ x ∧ x ≤ hi) : inB x lo hi = true := by simp [inB, h]
theorem inB_no {x lo hi : Int} (h : ¬ (lo ≤ x ∧ x ≤ hi)) : inB x lo hi = false := by unfold inB; exact decide_eq_false h
theorem inB_iff {x lo hi : Int} : inB x lo hi = true ↔ lo ≤ x ∧ x ≤ hi := by simp [inB]

set_option maxHeartbeats 400000 in
theorem in_is (x lo hi : Int) (w : World) (b : Bool) (hb : inB x lo hi = b) :
  Calls Tryz.prog 220 #[.int .i64 x, .int .i64 lo, .int .i64 hi] w fun e w' => e = .returned (.bool b) ∧ w = w' := by
 subst hb
 by_cases h : lo ≤ x
 ·go_enter Tryz.func220, Tryz.ntmps220
  go_wp2
  go_ret
  exact ⟨ret_bool (by simp [inB, h]), rfl⟩
 ·go_enter Tryz.func220, Tryz.ntmps220
  go_wp2
  go_ret
  exact ⟨ret_bool (by simp only [inB]; rw [eq_comm, decide_eq_false_iff_not]; omega), rfl⟩

set_option maxHeartbeats 400000 in
theorem isYear_is (x : Int) (w : World) (b : Bool) (hb : inB x 0 4000 = b) :
  Calls Tryz.prog 164 #[.int .i64 x] w fun e w' => e = .returned (.bool b) ∧ w = w' := by
 go_enter Tryz.func164, Tryz.ntmps164
 go_wp2_with (go_at_call 220; refine (in_is _ _ _ _ _ hb).mono ?_; rintro e w' ⟨rfl, rfl⟩)
 go_ret
 exact ⟨rfl, rfl⟩

theorem leapB_snoc (cs : List Int) (x y : Int) : leapB (cs ++ [x]) y = (if y % x = 0 then !leapB cs y else leapB cs y) := by
 simp [leapB]

/-- cycles by which one can divide -/
def Cyc (cs : List Int) : Prop := ∀ k, k < cs.length → 2 ≤ cs[k]?.getD 0 ∧ cs[k]?.getD 0 ≤ 1000

set_option maxHeartbeats 1000000 in
theorem leap_any (A : Option Addr) (n c : Nat) (cs : List Int) (e m1 m2 m3 f g : Value) (yr : Int) (w : World) (hr : Rd w A n cs) (hn : n ≤ 3) (hpos : Cyc cs) (h0 : 0 ≤ yr) (h1 : yr ≤ 5000) :
  Calls Tryz.prog 227 #[.agg #[e, .slice A n c, m1, m2, m3, f, g], .int .i64 yr] w fun e w' => e = .returned (.bool (leapB cs yr)) ∧ Below w.heap.size w w' := by
 go_enter Tryz.func227, Tryz.ntmps227
 go_wp2
 go_loop [5, 12] (fun b i => ∃ k : Nat, k ≤ n ∧ i = .int .i64 k ∧ b = .bool (leapB (cs.take k) yr)) (fun _ i => n - (intOf i).toNat)
 case atStart => exact ⟨0, Nat.zero_le _, rfl, rfl⟩
 case round =>
  obtain ⟨k, hk, rfl, rfl⟩ := hrel
  by_cases hlt : k < n
  ·obtain ⟨ad, rfl, hb, hc⟩ := (hr.alloc (Obj.cells #[e, Value.slice A n c, m1, m2, m3, f, g] 245)).at_ hlt
   have hp := hpos k (by rw [hr.len]; exact hlt)
   have HS := Lib.hid (take_snoc' cs k (by rw [hr.len]; exact hlt))
   generalize hx : cs[k]?.getD 0 = x at *
   clear hx
   go_wp2
   all_goals
    go_round
    case rel => exact ⟨k + 1, by omega, by go_num, by rw [HS.out, leapB_snoc]; simp_all⟩
    case measure => simp [intOf]; omega
  ·go_wp2
   go_ret
   obtain rfl : k = n := by omega
   rw [List.take_of_length_le (by have := hr.1; omega)]
   exact ⟨rfl, fr_alloc (fr_refl _) _⟩

def mtab (b : Bool) : List Int := [31, if b then 29 else 28, 31, 30, 31, 30, 31, 31, 30, 31, 30, 31]

set_option maxHeartbeats 400000 in
theorem months_any (b : Bool) (w : World) :
  Calls Tryz.prog 226 #[.bool b] w fun e w' => ∃ g, e = .returned (.slice (some ⟨g, 0, none⟩) 12 12) ∧ Rd w' (some ⟨g, 0, none⟩) 12 (mtab b) ∧ Below w.heap.size w w' := by
 cases b
 ·go_enter Tryz.func226, Tryz.ntmps226
  go_wp2
  go_ret
  exact ⟨w.heap.size, rfl, Rd.new w _ (mtab false), fr_alloc (fr_refl _) _⟩
 ·go_enter Tryz.func226, Tryz.ntmps226
  go_wp2
  go_ret
  exact ⟨w.heap.size, rfl, Rd.new w _ (mtab true), fr_alloc (fr_refl _) _⟩

theorem isum_take (xs : List Int) (h : ∀ k, k < xs.length → 0 ≤ xs[k]?.getD 0 ∧ xs[k]?.getD 0 ≤ 1000) : ∀ k, k ≤ xs.length → 0 ≤ (xs.take k).sum ∧ (xs.take k).sum ≤ 1000 * k := by
 intro k
 induction k with
 | zero => simp
 | succ k ih =>
  intro hk
  rw [take_snoc' xs k (by omega)]
  have := ih (by omega)
  have := h k (by omega)
  simp only [List.sum_append, List.sum_cons, List.sum_nil]
  omega

set_option maxHeartbeats 1000000 in
theorem sum_any (A : Option Addr) (n c : Nat) (xs : List Int) (w : World) (hr : Rd w A n xs) (hn : n ≤ 1000) (hpos : ∀ k, k < xs.length → 0 ≤ xs[k]?.getD 0 ∧ xs[k]?.getD 0 ≤ 1000) :
  Calls Tryz.prog 228 #[.slice A n c] w fun e w' => e = .returned (.int .i64 xs.sum) ∧ w = w' := by
 go_enter Tryz.func228, Tryz.ntmps228
 go_wp2
 go_loop [3, 8] (fun b i => ∃ k : Nat, k ≤ n ∧ i = .int .i64 k ∧ b = .int .i64 (xs.take k).sum) (fun _ i => n - (intOf i).toNat)
 case atStart => exact ⟨0, Nat.zero_le _, rfl, rfl⟩
 case round =>
  obtain ⟨k, hk, rfl, rfl⟩ := hrel
  by_cases hlt : k < n
  ·obtain ⟨ad, rfl, hb, hc⟩ := hr.at_ hlt
   have hp := hpos k (by rw [hr.len]; exact hlt)
   have hs := isum_take xs hpos k (by rw [hr.len]; exact hk)
   have HS := Lib.hid (take_snoc' xs k (by rw [hr.len]; exact hlt))
   go_wp2
   go_round
   case rel => exact ⟨k + 1, by omega, by go_num, by rw [HS.out]; simp⟩
   case measure => simp [intOf]; omega
  ·go_wp2
   go_ret
   obtain rfl : k = n := by omega
   rw [List.take_of_length_le (by have := hr.1; omega)]
   exact ⟨rfl, rfl⟩

theorem mtab_bounds (b : Bool) : ∀ k, k < (mtab b).length → 0 ≤ (mtab b)[k]?.getD 0 ∧ (mtab b)[k]?.getD 0 ≤ 1000 := by cases b <;> decide
theorem mtab_sum (b : Bool) (cs : List Int) (y : Int) (h : leapB cs y = b) : (mtab b).sum = yearLen cs y := by
 unfold yearLen; rw [h]; cases b <;> rfl

set_option maxHeartbeats 1000000 in
theorem days_any (A : Option Addr) (n c : Nat) (cs : List Int) (e m1 m2 m3 f g : Value) (yr : Int) (w : World) (hr : Rd w A n cs) (hn : n ≤ 3) (hpos : Cyc cs) (h0 : 0 ≤ yr) (h1 : yr ≤ 5000) :
  Calls Tryz.prog 223 #[.agg #[e, .slice A n c, m1, m2, m3, f, g], .int .i64 yr] w fun e w' => e = .returned (.int .i64 (yearLen cs yr)) ∧ Below w.heap.size w w' := by
 go_enter Tryz.func223, Tryz.ntmps223
 go_wp2_with fail
 refine (leap_any A n c cs e m1 m2 m3 f g yr _ (hr.alloc _) hn hpos h0 h1).mono ?_
 rintro e1 w1 ⟨rfl, hb1⟩
 go_wp2_with fail
 refine (months_any _ _).mono ?_
 rintro e2 w2 ⟨g2, rfl, hr2, hb2⟩
 go_wp2_with fail
 refine (sum_any _ 12 12 _ _ hr2 (by omega) (mtab_bounds _)).mono ?_
 rintro e3 w3 ⟨rfl, rfl⟩
 go_wp2_with fail
 go_ret
 exact ⟨ret_int (mtab_sum _ _ _ rfl), fr_call (fr_call (fr_alloc (fr_refl _) _) hb1) hb2⟩
end Go.Proofs.YtdocgmafbacjcaaGreatDoor
end

section
namespace Go.Proofs.YtdocgmafbacjcaaGreatDoor
open Go.RowKit

theorem wpAnyH_mono {P : Program} {md : Region.Mode} {ops : Array Oper} {Q : Exit → Act → World → Prop} {S S' : World → Prop} (hS : ∀ w, S' w → S w) :
  ∀ (fuel : Nat) (listed : Array Bool) (a : Act) (w : World), wpAnyH P md ops Q S' fuel listed a w → wpAnyH P md ops Q S fuel listed a w
 | 0, _, _, _, h => h
 | fuel + 1, _, _, _, h => ⟨h.1, fun i hi => wpOp_mono (fun a' w' h' => ⟨hS _ h'.1, wpAnyH_mono hS fuel _ a' w' h'.2⟩) (h.2 i hi)⟩

end Go.Proofs.YtdocgmafbacjcaaGreatDoor
end

section
namespace Go.Proofs.YtdocgmafbacjcaaGreatDoor
open Go.RowKit Dl

theorem twelve {m : Int} (h1 : 1 ≤ m) (h2 : m ≤ 12) : m = 1 ∨ m = 2 ∨ m = 3 ∨ m = 4 ∨ m = 5 ∨ m = 6 ∨ m = 7 ∨ m = 8 ∨ m = 9 ∨ m = 10 ∨ m = 11 ∨ m = 12 := by omega
theorem mtab_at (b : Bool) (m : Int) (h1 : 1 ≤ m) (h2 : m ≤ 12) : (mtab b)[m.toNat - 1]?.getD 0 = mlen b m := by
 rcases twelve h1 h2 with rfl | rfl | rfl | rfl | rfl | rfl | rfl | rfl | rfl | rfl | rfl | rfl <;> cases b <;> rfl
theorem Rd.row {w : World} {g : Nat} {n : Nat} {xs : List Int} (h : Rd w (some ⟨g, 0, none⟩) n xs) : ∀ j, j < n → w.cell? ⟨g, j, none⟩ = some (.int .i64 (xs[j]?.getD 0)) := by
 intro j hj
 obtain ⟨ad, e, _, hc⟩ := h.2 (by omega)
 cases e
 have := hc j hj
 rw [add_lit, Nat.zero_add] at this
 exact this

set_option maxRecDepth 100000 in
set_option maxHeartbeats 2000000 in
theorem isDate_ok (A : Option Addr) (n c : Nat) (cs : List Int) (e m1 m2 m3 f g : Value) (y m d : Int) (w : World) (hr : Rd w A n cs) (hn : n ≤ 3) (hpos : Cyc cs)
  (hy : 0 ≤ y ∧ y ≤ 4000) (hm : 1 ≤ m ∧ m ≤ 12) :
  Calls Tryz.prog 171 #[.agg #[e, .slice A n c, m1, m2, m3, f, g], .agg #[.int .i64 y, .int .i64 m, .int .i64 d]] w fun e w' =>
   e = .returned (.bool (inB d 1 (mlen (leapB cs y) m))) ∧ Below w.heap.size w w' := by
 have hy1 := hy.1
 have hy2 := hy.2
 have hm1 := hm.1
 have hm2 := hm.2
 have hb1 := inB_yes hy
 have hb2 := inB_yes hm
 clear hy hm
 have hi1 : m - 1 < 12 := by omega
 have hi0 : 0 ≤ m - 1 := by omega
 have hwm : IntKind.i64.wrap (m - 1) = m - 1 := IntWalk.i64_in _ (by omega)
 go_enter Tryz.func171, Tryz.ntmps171
 go_wp2_with fail
 have hr0 := (hr.alloc (.cells #[e, .slice A n c, m1, m2, m3, f, g] 245)).alloc (.cells #[.int .i64 y, .int .i64 m, .int .i64 d] 173)
 refine wp_region_noPanic ?_
 refine wp_region_held_drew (S := fun W => (∀ p : Addr, p.block < ((w.alloc (.cells #[e, .slice A n c, m1, m2, m3, f, g] 245)).alloc (.cells #[.int .i64 y, .int .i64 m, .int .i64 d] 173)).heap.size → W.cell? p = ((w.alloc (.cells #[e, .slice A n c, m1, m2, m3, f, g] 245)).alloc (.cells #[.int .i64 y, .int .i64 m, .int .i64 d] 173)).cell? p) ∧ Below ((w.alloc (.cells #[e, .slice A n c, m1, m2, m3, f, g] 245)).alloc (.cells #[.int .i64 y, .int .i64 m, .int .i64 d] 173)).heap.size ((w.alloc (.cells #[e, .slice A n c, m1, m2, m3, f, g] 245)).alloc (.cells #[.int .i64 y, .int .i64 m, .int .i64 d] 173)) W) (by kernel_rfl) ⟨fun _ _ => rfl, fr_drew (fr_refl _)⟩ (fun hHeld => ?_)
 -- the region, step by step
 refine wpAnyH_take (i := 0) (oi := ⟨some 5, .fieldAddr 173 (.tmp 3) 0, 0, "dial.go:94", #[], none⟩) (v := ?_) rfl (by kernel_rfl) (by kernel_rfl) (by kernel_rfl) (fun _ _ _ h => h) (Or.inl ⟨by rfl, fun W hSw => ?_⟩) hHeld ?_
 rotate_left
 ·(try dsimp only at hSw); go_simp; (try with_reducible rfl)
 (try simp only [Act.put, List.setIfInBounds_toArray, List.set_cons_zero, List.set_cons_succ])
 refine wpAnyH_take (i := 1) (oi := ⟨some 6, .load 3 (.tmp 5), 3, "dial.go:94", #[⟨0, .data⟩], none⟩) (v := ?_) rfl (by kernel_rfl) (by kernel_rfl) (by kernel_rfl) (fun _ _ _ h => h) (Or.inl ⟨by rfl, fun W hSw => ?_⟩) hHeld ?_
 rotate_left
 ·(try dsimp only at hSw); go_simp; (try with_reducible rfl)
 (try simp only [Act.put, List.setIfInBounds_toArray, List.set_cons_zero, List.set_cons_succ])
 refine wpAnyH_ready (rs := [2]) (by kernel_rfl) (by simp) ?_
 refine AllReadyH.cons (o := ⟨some 7, .call { callee := .value (.func 164), args := #[.tmp 6], argTypes := #[3] }, 4, "dial.go:94", #[⟨1, .data⟩], none⟩) rfl (fun K hK => ?_) AllReadyH.nil
 go_simp
 refine (isYear_is _ _ _ hb1).mono ?_
 rintro e' w' ⟨rfl, rfl⟩
 refine hK.out _ _ (hHeld) (fun hHeld => ?_)
 clear hK K
 (try simp only [Act.put, List.setIfInBounds_toArray, List.set_cons_zero, List.set_cons_succ])
 refine wpAnyH_take (i := 3) (oi := ⟨some 8, .move (.tmp 7), 4, "dial.go:94", #[⟨2, .data⟩, ⟨2, .chain⟩], none⟩) (v := ?_) rfl (by kernel_rfl) (by kernel_rfl) (by kernel_rfl) (fun _ _ _ h => h) (Or.inl ⟨by rfl, fun W hSw => ?_⟩) hHeld ?_
 rotate_left
 ·(try dsimp only at hSw); go_simp; (try with_reducible rfl)
 (try simp only [Act.put, List.setIfInBounds_toArray, List.set_cons_zero, List.set_cons_succ])
 refine wpAnyH_take (i := 4) (oi := ⟨some 9, .fieldAddr 173 (.tmp 3) 1, 0, "dial.go:94", #[⟨3, .guard⟩], some (3, true)⟩) (v := ?_) rfl (by kernel_rfl) (by kernel_rfl) (by kernel_rfl) (fun _ _ _ h => h) (Or.inl ⟨by rfl, fun W hSw => ?_⟩) hHeld ?_
 rotate_left
 ·(try dsimp only at hSw); go_simp; (try with_reducible rfl)
 (try simp only [Act.put, List.setIfInBounds_toArray, List.set_cons_zero, List.set_cons_succ])
 refine wpAnyH_take (i := 5) (oi := ⟨some 10, .load 3 (.tmp 9), 3, "dial.go:94", #[⟨4, .data⟩, ⟨3, .guard⟩], some (3, true)⟩) (v := ?_) rfl (by kernel_rfl) (by kernel_rfl) (by kernel_rfl) (fun _ _ _ h => h) (Or.inl ⟨by rfl, fun W hSw => ?_⟩) hHeld ?_
 rotate_left
 ·(try dsimp only at hSw); go_simp; (try with_reducible rfl)
 (try simp only [Act.put, List.setIfInBounds_toArray, List.set_cons_zero, List.set_cons_succ])
 refine wpAnyH_ready (rs := [6]) (by kernel_rfl) (by simp) ?_
 refine AllReadyH.cons (o := ⟨some 11, .call { callee := .value (.func 220), args := #[.tmp 10, .const (.int .i64 1), .const (.int .i64 12)], argTypes := #[3, 3, 3] }, 4, "dial.go:94", #[⟨5, .data⟩, ⟨3, .chain⟩, ⟨3, .guard⟩], some (3, true)⟩) rfl (fun K hK => ?_) AllReadyH.nil
 go_simp
 refine (in_is _ _ _ _ _ hb2).mono ?_
 rintro e' w' ⟨rfl, rfl⟩
 refine hK.out _ _ (hHeld) (fun hHeld => ?_)
 clear hK K
 (try simp only [Act.put, List.setIfInBounds_toArray, List.set_cons_zero, List.set_cons_succ])
 refine wpAnyH_take (i := 7) (oi := ⟨some 12, .pick (.tmp 8) (.tmp 11) (.const (.bool false)), 4, "dial.go:94", #[⟨3, .data⟩, ⟨6, .data⟩], none⟩) (v := ?_) rfl (by kernel_rfl) (by kernel_rfl) (by kernel_rfl) (fun _ _ _ h => h) (Or.inl ⟨by rfl, fun W hSw => ?_⟩) hHeld ?_
 rotate_left
 ·(try dsimp only at hSw); go_simp; (try with_reducible rfl)
 (try simp only [Act.put, List.setIfInBounds_toArray, List.set_cons_zero, List.set_cons_succ])
 refine wpAnyH_take (i := 8) (oi := ⟨some 13, .move (.tmp 12), 4, "dial.go:94", #[⟨7, .data⟩, ⟨6, .chain⟩], none⟩) (v := ?_) rfl (by kernel_rfl) (by kernel_rfl) (by kernel_rfl) (fun _ _ _ h => h) (Or.inl ⟨by rfl, fun W hSw => ?_⟩) hHeld ?_
 rotate_left
 ·(try dsimp only at hSw); go_simp; (try with_reducible rfl)
 (try simp only [Act.put, List.setIfInBounds_toArray, List.set_cons_zero, List.set_cons_succ])
 refine wpAnyH_take (i := 9) (oi := ⟨some 14, .fieldAddr 173 (.tmp 3) 2, 0, "dial.go:94", #[⟨8, .guard⟩], some (8, true)⟩) (v := ?_) rfl (by kernel_rfl) (by kernel_rfl) (by kernel_rfl) (fun _ _ _ h => h) (Or.inl ⟨by rfl, fun W hSw => ?_⟩) hHeld ?_
 rotate_left
 ·(try dsimp only at hSw); go_simp; (try with_reducible rfl)
 (try simp only [Act.put, List.setIfInBounds_toArray, List.set_cons_zero, List.set_cons_succ])
 refine wpAnyH_take (i := 10) (oi := ⟨some 15, .load 3 (.tmp 14), 3, "dial.go:94", #[⟨9, .data⟩, ⟨8, .guard⟩], some (8, true)⟩) (v := ?_) rfl (by kernel_rfl) (by kernel_rfl) (by kernel_rfl) (fun _ _ _ h => h) (Or.inl ⟨by rfl, fun W hSw => ?_⟩) hHeld ?_
 rotate_left
 ·(try dsimp only at hSw); go_simp; (try with_reducible rfl)
 (try simp only [Act.put, List.setIfInBounds_toArray, List.set_cons_zero, List.set_cons_succ])
 refine wpAnyH_take (i := 11) (oi := ⟨some 16, .load 245 (.tmp 2), 245, "dial.go:94", #[⟨8, .guard⟩], some (8, true)⟩) (v := ?_) rfl (by kernel_rfl) (by kernel_rfl) (by kernel_rfl) (fun _ _ _ h => h) (Or.inl ⟨by rfl, fun W hSw => ?_⟩) hHeld ?_
 rotate_left
 ·(try dsimp only at hSw); go_simp; (try with_reducible rfl)
 (try simp only [Act.put, List.setIfInBounds_toArray, List.set_cons_zero, List.set_cons_succ])
 refine wpAnyH_take (i := 12) (oi := ⟨some 17, .fieldAddr 173 (.tmp 3) 0, 0, "dial.go:94", #[⟨8, .guard⟩], some (8, true)⟩) (v := ?_) rfl (by kernel_rfl) (by kernel_rfl) (by kernel_rfl) (fun _ _ _ h => h) (Or.inl ⟨by rfl, fun W hSw => ?_⟩) hHeld ?_
 rotate_left
 ·(try dsimp only at hSw); go_simp; (try with_reducible rfl)
 (try simp only [Act.put, List.setIfInBounds_toArray, List.set_cons_zero, List.set_cons_succ])
 refine wpAnyH_take (i := 13) (oi := ⟨some 18, .load 3 (.tmp 17), 3, "dial.go:94", #[⟨12, .data⟩, ⟨8, .guard⟩], some (8, true)⟩) (v := ?_) rfl (by kernel_rfl) (by kernel_rfl) (by kernel_rfl) (fun _ _ _ h => h) (Or.inl ⟨by rfl, fun W hSw => ?_⟩) hHeld ?_
 rotate_left
 ·(try dsimp only at hSw); go_simp; (try with_reducible rfl)
 (try simp only [Act.put, List.setIfInBounds_toArray, List.set_cons_zero, List.set_cons_succ])
 refine wpAnyH_take (i := 16) (oi := ⟨some 21, .fieldAddr 173 (.tmp 3) 1, 0, "dial.go:94", #[⟨8, .guard⟩], some (8, true)⟩) (v := ?_) rfl (by kernel_rfl) (by kernel_rfl) (by kernel_rfl) (fun _ _ _ h => h) (Or.inl ⟨by rfl, fun W hSw => ?_⟩) hHeld ?_
 rotate_left
 ·(try dsimp only at hSw); go_simp; (try with_reducible rfl)
 (try simp only [Act.put, List.setIfInBounds_toArray, List.set_cons_zero, List.set_cons_succ])
 refine wpAnyH_take (i := 17) (oi := ⟨some 22, .load 3 (.tmp 21), 3, "dial.go:94", #[⟨16, .data⟩, ⟨8, .guard⟩], some (8, true)⟩) (v := ?_) rfl (by kernel_rfl) (by kernel_rfl) (by kernel_rfl) (fun _ _ _ h => h) (Or.inl ⟨by rfl, fun W hSw => ?_⟩) hHeld ?_
 rotate_left
 ·(try dsimp only at hSw); go_simp; (try with_reducible rfl)
 (try simp only [Act.put, List.setIfInBounds_toArray, List.set_cons_zero, List.set_cons_succ])
 refine wpAnyH_take (i := 18) (oi := ⟨some 23, .binOp .sub 3 (.tmp 22) (.const (.int .i64 1)) 3, 3, "dial.go:94", #[⟨17, .data⟩, ⟨8, .guard⟩], some (8, true)⟩) (v := ?_) rfl (by kernel_rfl) (by kernel_rfl) (by kernel_rfl) (fun _ _ _ h => h) (Or.inl ⟨by rfl, fun W hSw => ?_⟩) hHeld ?_
 rotate_left
 ·(try dsimp only at hSw); go_simp; (try with_reducible rfl)
 (try simp only [Act.put, List.setIfInBounds_toArray, List.set_cons_zero, List.set_cons_succ])
 refine wpAnyH_ready (rs := [14]) (by kernel_rfl) (by simp) ?_
 refine AllReadyH.cons (o := ⟨some 19, .call { callee := .value (.func 227), args := #[.tmp 16, .tmp 18], argTypes := #[245, 3] }, 4, "dial.go:94", #[⟨11, .data⟩, ⟨13, .data⟩, ⟨8, .chain⟩, ⟨8, .guard⟩], some (8, true)⟩) rfl (fun K hK => ?_) AllReadyH.nil
 go_simp
 refine (leap_any A n c cs _ _ _ _ _ _ y _ (hr0.keep hHeld.2) hn hpos hy1 (by omega)).mono ?_
 rintro e' w1 ⟨rfl, hb⟩
 refine hK.out _ _ (kp_step hb hHeld) (fun hHeld => ?_)
 clear hK K
 (try simp only [Act.put, List.setIfInBounds_toArray, List.set_cons_zero, List.set_cons_succ])
 refine wpAnyH_ready (rs := [15]) (by kernel_rfl) (by simp) ?_
 refine AllReadyH.cons (o := ⟨some 20, .call { callee := .value (.func 226), args := #[.tmp 19], argTypes := #[4] }, 23, "dial.go:94", #[⟨14, .data⟩, ⟨14, .chain⟩, ⟨8, .guard⟩], some (8, true)⟩) rfl (fun K hK => ?_) AllReadyH.nil
 go_simp
 refine (months_any _ _).mono ?_
 rintro e' w2 ⟨gm, rfl, hrm, hb⟩
 have hrow := hrm.row (m.toNat - 1) (by omega)
 rw [mtab_at _ _ hm1 hm2] at hrow
 refine hK.out _ _ (kp_step hb hHeld) (fun hHeld => ?_)
 clear hK K
 (try simp only [Act.put, List.setIfInBounds_toArray, List.set_cons_zero, List.set_cons_succ])
 refine wpAnyH_mono (S' := fun W => ((∀ p : Addr, p.block < ((w.alloc (.cells #[e, .slice A n c, m1, m2, m3, f, g] 245)).alloc (.cells #[.int .i64 y, .int .i64 m, .int .i64 d] 173)).heap.size → W.cell? p = ((w.alloc (.cells #[e, .slice A n c, m1, m2, m3, f, g] 245)).alloc (.cells #[.int .i64 y, .int .i64 m, .int .i64 d] 173)).cell? p) ∧ Below ((w.alloc (.cells #[e, .slice A n c, m1, m2, m3, f, g] 245)).alloc (.cells #[.int .i64 y, .int .i64 m, .int .i64 d] 173)).heap.size ((w.alloc (.cells #[e, .slice A n c, m1, m2, m3, f, g] 245)).alloc (.cells #[.int .i64 y, .int .i64 m, .int .i64 d] 173)) W) ∧ W.cell? ⟨gm, m.toNat - 1, none⟩ = some (.int .i64 (mlen (leapB cs y) m))) (fun _ h => h.1) _ _ _ _ ?_
 replace hHeld := And.intro hHeld hrow
 refine wpAnyH_take (i := 19) (oi := ⟨some 24, .indexAddr 23 (.tmp 20) (.tmp 23), 0, "dial.go:94", #[⟨15, .data⟩, ⟨18, .data⟩, ⟨8, .guard⟩], some (8, true)⟩) (v := ?_) rfl (by kernel_rfl) (by kernel_rfl) (by kernel_rfl) (fun _ _ _ h => h) (Or.inl ⟨by rfl, fun W hSw => ?_⟩) hHeld ?_
 rotate_left
 ·(try dsimp only at hSw); go_simp; (try with_reducible rfl)
 (try simp only [Act.put, List.setIfInBounds_toArray, List.set_cons_zero, List.set_cons_succ])
 refine wpAnyH_take (i := 20) (oi := ⟨some 25, .load 3 (.tmp 24), 3, "dial.go:94", #[⟨19, .data⟩, ⟨8, .guard⟩], some (8, true)⟩) (v := ?_) rfl (by kernel_rfl) (by kernel_rfl) (by kernel_rfl) (fun _ _ _ h => h) (Or.inl ⟨by rfl, fun W hSw => ?_⟩) hHeld ?_
 rotate_left
 ·(try dsimp only at hSw); go_simp; (try with_reducible rfl)
 (try simp only [Act.put, List.setIfInBounds_toArray, List.set_cons_zero, List.set_cons_succ])
 refine wpAnyH_ready (rs := [21]) (by kernel_rfl) (by simp) ?_
 refine AllReadyH.cons (o := ⟨some 26, .call { callee := .value (.func 220), args := #[.tmp 15, .const (.int .i64 1), .tmp 25], argTypes := #[3, 3, 3] }, 4, "dial.go:94", #[⟨10, .data⟩, ⟨20, .data⟩, ⟨15, .chain⟩, ⟨8, .guard⟩], some (8, true)⟩) rfl (fun K hK => ?_) AllReadyH.nil
 go_simp
 refine (in_is _ _ _ _ _ rfl).mono ?_
 rintro e' w3 ⟨rfl, rfl⟩
 refine hK.out _ _ (hHeld) (fun hHeld => ?_)
 clear hK K
 (try simp only [Act.put, List.setIfInBounds_toArray, List.set_cons_zero, List.set_cons_succ])
 refine wpAnyH_take (i := 22) (oi := ⟨some 27, .pick (.tmp 13) (.tmp 26) (.const (.bool false)), 4, "dial.go:94", #[⟨8, .data⟩, ⟨21, .data⟩], none⟩) (v := ?_) rfl (by kernel_rfl) (by kernel_rfl) (by kernel_rfl) (fun _ _ _ h => h) (Or.inl ⟨by rfl, fun W hSw => ?_⟩) hHeld ?_
 rotate_left
 ·(try dsimp only at hSw); go_simp; (try with_reducible rfl)
 (try simp only [Act.put, List.setIfInBounds_toArray, List.set_cons_zero, List.set_cons_succ])
 refine wpAnyH_take (i := 23) (oi := ⟨some 4, .assign (.tmp 27), 4, "dial.go:94", #[⟨22, .data⟩, ⟨21, .chain⟩, ⟨0, .phase⟩, ⟨1, .phase⟩, ⟨2, .phase⟩, ⟨3, .phase⟩, ⟨4, .phase⟩, ⟨5, .phase⟩, ⟨6, .phase⟩, ⟨7, .phase⟩, ⟨8, .phase⟩, ⟨9, .phase⟩, ⟨10, .phase⟩, ⟨11, .phase⟩, ⟨12, .phase⟩, ⟨13, .phase⟩, ⟨14, .phase⟩, ⟨15, .phase⟩, ⟨16, .phase⟩, ⟨17, .phase⟩, ⟨18, .phase⟩, ⟨19, .phase⟩, ⟨20, .phase⟩, ⟨21, .phase⟩, ⟨22, .phase⟩], none⟩) (v := ?_) rfl (by kernel_rfl) (by kernel_rfl) (by kernel_rfl) (fun _ _ _ h => h) (Or.inl ⟨by rfl, fun W hSw => ?_⟩) hHeld ?_
 rotate_left
 ·(try dsimp only at hSw); go_simp; (try with_reducible rfl)
 (try simp only [Act.put, List.setIfInBounds_toArray, List.set_cons_zero, List.set_cons_succ])
 refine wpAnyH_done (by kernel_rfl) ?_ _
 refine NoPanic.normal ?_
 go_wp2
 go_ret
 exact ⟨rfl, fr_call (fr_alloc (fr_alloc (fr_refl _) _) _) hHeld.1.2⟩

/-- the first days of the years 0 to 4001 -/
def firsts (e : Int) (cs : List Int) : List Int := (List.range 4002).map (firstN e cs)
theorem firsts_at (e : Int) (cs : List Int) (k : Nat) (h : k < 4002) : (firsts e cs)[k]?.getD 0 = firstN e cs k := by
 unfold firsts; rw [List.getElem?_map, List.getElem?_range h]; rfl
theorem fst_at {w : World} {F : Option Addr} {e : Int} {cs : List Int} (h : Rd w F 4002 (firsts e cs)) {y : Int} (h0 : 0 ≤ y) (h1 : y ≤ 4001) :
  ∃ ad, F = some ad ∧ ad.block < w.heap.size ∧ w.cell? (ad.add y.toNat) = some (.int .i64 (firstDay e cs y)) := by
 obtain ⟨ad, e1, hb, hc⟩ := h.at_ (k := y.toNat) (by omega)
 exact ⟨ad, e1, hb, by rw [hc, firsts_at _ _ _ (by omega)]; rfl⟩

theorem mtab_cum (b : Bool) (m : Int) (h1 : 1 ≤ m) (h2 : m ≤ 12) : ((mtab b).take (m.toNat - 1)).sum = cum b m := by
 rcases twelve h1 h2 with rfl | rfl | rfl | rfl | rfl | rfl | rfl | rfl | rfl | rfl | rfl | rfl <;> cases b <;> rfl
theorem mtab_take_bounds (b : Bool) (j : Nat) : ∀ k, k < ((mtab b).take j).length → 0 ≤ ((mtab b).take j)[k]?.getD 0 ∧ ((mtab b).take j)[k]?.getD 0 ≤ 1000 := by
 intro k hk
 rw [List.length_take] at hk
 rw [List.getElem?_take, if_pos (by omega)]
 exact mtab_bounds b k (by omega)
theorem cum_bounds (b : Bool) (m : Int) (h1 : 1 ≤ m) (h2 : m ≤ 12) : 0 ≤ cum b m ∧ cum b m ≤ 335 := by
 rcases twelve h1 h2 with rfl | rfl | rfl | rfl | rfl | rfl | rfl | rfl | rfl | rfl | rfl | rfl <;> cases b <;> decide

set_option maxRecDepth 100000 in
set_option maxHeartbeats 2000000 in
theorem day_any (A F : Option Addr) (n c fc : Nat) (cs : List Int) (e : Int) (m1 m2 m3 g : Value) (y m d : Int) (w : World) (hr : Rd w A n cs) (hn : n ≤ 3) (hpos : Cyc cs) (hF : Rd w F 4002 (firsts e cs))
  (he : 0 ≤ e ∧ e ≤ 1000) (hy : 0 ≤ y ∧ y ≤ 4000) (hm : 1 ≤ m ∧ m ≤ 12) (hd : 1 ≤ d ∧ d ≤ 31) :
  Calls Tryz.prog 172 #[.agg #[.int .i64 e, .slice A n c, m1, m2, m3, .slice F 4002 fc, g], .agg #[.int .i64 y, .int .i64 m, .int .i64 d]] w fun e' w' =>
   e' = .returned (.int .i64 (dayOf e cs ⟨y, m, d⟩)) ∧ Below w.heap.size w w' := by
 obtain ⟨hy1, hy2⟩ := hy
 obtain ⟨hm1, hm2⟩ := hm
 obtain ⟨hd1, hd2⟩ := hd
 have hwm : IntKind.i64.wrap (m - 1) = m - 1 := IntWalk.i64_in _ (by omega)
 have hi0 : 0 ≤ m - 1 := by omega
 have hi1 : m - 1 ≤ 12 := by omega
 have hy3 : y < 4002 := by omega
 obtain ⟨ad, rfl, hab, hfc⟩ := fst_at hF hy1 (by omega)
 have hcb := cum_bounds (leapB cs y) m hm1 hm2
 have hfb := firstDay_bounds e cs y hy1
 have hadN : (ad.add y.toNat).block < w.heap.size + 2 := by rw [block_of_add]; omega
 generalize hf : firstDay e cs y = fy at *
 generalize hq : cum (leapB cs y) m = cm at *
 have hw1 : IntKind.i64.wrap (fy + cm) = fy + cm := IntWalk.i64_in _ (by omega)
 have hw2 : IntKind.i64.wrap (fy + cm + d) = fy + cm + d := IntWalk.i64_in _ (by omega)
 have hw3 : IntKind.i64.wrap (fy + cm + d - 1) = fy + cm + d - 1 := IntWalk.i64_in _ (by omega)
 have hfc2 : ((w.alloc (.cells #[.int .i64 e, .slice A n c, m1, m2, m3, .slice (some ad) 4002 fc, g] 245)).alloc (.cells #[.int .i64 y, .int .i64 m, .int .i64 d] 173)).cell? (ad.add y.toNat) = some (.int .i64 fy) := by
  rw [World.cell?_alloc_lt, World.cell?_alloc_lt]
  ·exact hfc
  ·rw [block_of_add]; exact hab
  ·rw [block_of_add]; simp; omega
 have HF := Lib.hid hf
 have HQ := Lib.hid hq
 clear hf hq hF hfc
 go_enter Tryz.func172, Tryz.ntmps172
 go_wp2_with fail
 have hr0 := (hr.alloc (.cells #[.int .i64 e, .slice A n c, m1, m2, m3, .slice (some ad) 4002 fc, g] 245)).alloc (.cells #[.int .i64 y, .int .i64 m, .int .i64 d] 173)
 refine wp_region_noPanic ?_
 refine wp_region_held_drew (S := fun W => (∀ p : Addr, p.block < ((w.alloc (.cells #[.int .i64 e, .slice A n c, m1, m2, m3, .slice (some ad) 4002 fc, g] 245)).alloc (.cells #[.int .i64 y, .int .i64 m, .int .i64 d] 173)).heap.size → W.cell? p = ((w.alloc (.cells #[.int .i64 e, .slice A n c, m1, m2, m3, .slice (some ad) 4002 fc, g] 245)).alloc (.cells #[.int .i64 y, .int .i64 m, .int .i64 d] 173)).cell? p) ∧ Below ((w.alloc (.cells #[.int .i64 e, .slice A n c, m1, m2, m3, .slice (some ad) 4002 fc, g] 245)).alloc (.cells #[.int .i64 y, .int .i64 m, .int .i64 d] 173)).heap.size ((w.alloc (.cells #[.int .i64 e, .slice A n c, m1, m2, m3, .slice (some ad) 4002 fc, g] 245)).alloc (.cells #[.int .i64 y, .int .i64 m, .int .i64 d] 173)) W) (by kernel_rfl) ⟨fun _ _ => rfl, fr_drew (fr_refl _)⟩ (fun hHeld => ?_)
 -- the region, step by step
 refine wpAnyH_take (i := 0) (oi := ⟨some 5, .fieldAddr 245 (.tmp 2) 2, 0, "dial.go:99", #[], none⟩) (v := ?_) rfl (by kernel_rfl) (by kernel_rfl) (by kernel_rfl) (fun _ _ _ h => h) (Or.inl ⟨by rfl, fun W hSw => ?_⟩) hHeld ?_
 rotate_left
 ·(try dsimp only at hSw); go_simp; (try with_reducible rfl)
 (try simp only [Act.put, List.setIfInBounds_toArray, List.set_cons_zero, List.set_cons_succ])
 refine wpAnyH_take (i := 1) (oi := ⟨some 6, .load 23 (.tmp 5), 23, "dial.go:99", #[⟨0, .data⟩], none⟩) (v := ?_) rfl (by kernel_rfl) (by kernel_rfl) (by kernel_rfl) (fun _ _ _ h => h) (Or.inl ⟨by rfl, fun W hSw => ?_⟩) hHeld ?_
 rotate_left
 ·(try dsimp only at hSw); go_simp; (try with_reducible rfl)
 (try simp only [Act.put, List.setIfInBounds_toArray, List.set_cons_zero, List.set_cons_succ])
 refine wpAnyH_take (i := 2) (oi := ⟨some 7, .fieldAddr 173 (.tmp 3) 0, 0, "dial.go:99", #[], none⟩) (v := ?_) rfl (by kernel_rfl) (by kernel_rfl) (by kernel_rfl) (fun _ _ _ h => h) (Or.inl ⟨by rfl, fun W hSw => ?_⟩) hHeld ?_
 rotate_left
 ·(try dsimp only at hSw); go_simp; (try with_reducible rfl)
 (try simp only [Act.put, List.setIfInBounds_toArray, List.set_cons_zero, List.set_cons_succ])
 refine wpAnyH_take (i := 3) (oi := ⟨some 8, .load 3 (.tmp 7), 3, "dial.go:99", #[⟨2, .data⟩], none⟩) (v := ?_) rfl (by kernel_rfl) (by kernel_rfl) (by kernel_rfl) (fun _ _ _ h => h) (Or.inl ⟨by rfl, fun W hSw => ?_⟩) hHeld ?_
 rotate_left
 ·(try dsimp only at hSw); go_simp; (try with_reducible rfl)
 (try simp only [Act.put, List.setIfInBounds_toArray, List.set_cons_zero, List.set_cons_succ])
 refine wpAnyH_take (i := 4) (oi := ⟨some 9, .indexAddr 23 (.tmp 6) (.tmp 8), 0, "dial.go:99", #[⟨1, .data⟩, ⟨3, .data⟩], none⟩) (v := ?_) rfl (by kernel_rfl) (by kernel_rfl) (by kernel_rfl) (fun _ _ _ h => h) (Or.inl ⟨by rfl, fun W hSw => ?_⟩) hHeld ?_
 rotate_left
 ·(try dsimp only at hSw); go_simp; (try with_reducible rfl)
 (try simp only [Act.put, List.setIfInBounds_toArray, List.set_cons_zero, List.set_cons_succ])
 refine wpAnyH_take (i := 5) (oi := ⟨some 10, .load 3 (.tmp 9), 3, "dial.go:99", #[⟨4, .data⟩], none⟩) (v := ?_) rfl (by kernel_rfl) (by kernel_rfl) (by kernel_rfl) (fun _ _ _ h => h) (Or.inl ⟨by rfl, fun W hSw => ?_⟩) hHeld ?_
 rotate_left
 ·(try dsimp only at hSw); go_simp; (try with_reducible rfl)
 (try simp only [Act.put, List.setIfInBounds_toArray, List.set_cons_zero, List.set_cons_succ])
 refine wpAnyH_take (i := 6) (oi := ⟨some 11, .load 245 (.tmp 2), 245, "dial.go:99", #[], none⟩) (v := ?_) rfl (by kernel_rfl) (by kernel_rfl) (by kernel_rfl) (fun _ _ _ h => h) (Or.inl ⟨by rfl, fun W hSw => ?_⟩) hHeld ?_
 rotate_left
 ·(try dsimp only at hSw); go_simp; (try with_reducible rfl)
 (try simp only [Act.put, List.setIfInBounds_toArray, List.set_cons_zero, List.set_cons_succ])
 refine wpAnyH_take (i := 7) (oi := ⟨some 12, .fieldAddr 173 (.tmp 3) 0, 0, "dial.go:99", #[], none⟩) (v := ?_) rfl (by kernel_rfl) (by kernel_rfl) (by kernel_rfl) (fun _ _ _ h => h) (Or.inl ⟨by rfl, fun W hSw => ?_⟩) hHeld ?_
 rotate_left
 ·(try dsimp only at hSw); go_simp; (try with_reducible rfl)
 (try simp only [Act.put, List.setIfInBounds_toArray, List.set_cons_zero, List.set_cons_succ])
 refine wpAnyH_take (i := 8) (oi := ⟨some 13, .load 3 (.tmp 12), 3, "dial.go:99", #[⟨7, .data⟩], none⟩) (v := ?_) rfl (by kernel_rfl) (by kernel_rfl) (by kernel_rfl) (fun _ _ _ h => h) (Or.inl ⟨by rfl, fun W hSw => ?_⟩) hHeld ?_
 rotate_left
 ·(try dsimp only at hSw); go_simp; (try with_reducible rfl)
 (try simp only [Act.put, List.setIfInBounds_toArray, List.set_cons_zero, List.set_cons_succ])
 refine wpAnyH_take (i := 11) (oi := ⟨some 16, .fieldAddr 173 (.tmp 3) 1, 0, "dial.go:99", #[], none⟩) (v := ?_) rfl (by kernel_rfl) (by kernel_rfl) (by kernel_rfl) (fun _ _ _ h => h) (Or.inl ⟨by rfl, fun W hSw => ?_⟩) hHeld ?_
 rotate_left
 ·(try dsimp only at hSw); go_simp; (try with_reducible rfl)
 (try simp only [Act.put, List.setIfInBounds_toArray, List.set_cons_zero, List.set_cons_succ])
 refine wpAnyH_take (i := 12) (oi := ⟨some 17, .load 3 (.tmp 16), 3, "dial.go:99", #[⟨11, .data⟩], none⟩) (v := ?_) rfl (by kernel_rfl) (by kernel_rfl) (by kernel_rfl) (fun _ _ _ h => h) (Or.inl ⟨by rfl, fun W hSw => ?_⟩) hHeld ?_
 rotate_left
 ·(try dsimp only at hSw); go_simp; (try with_reducible rfl)
 (try simp only [Act.put, List.setIfInBounds_toArray, List.set_cons_zero, List.set_cons_succ])
 refine wpAnyH_take (i := 13) (oi := ⟨some 18, .binOp .sub 3 (.tmp 17) (.const (.int .i64 1)) 3, 3, "dial.go:99", #[⟨12, .data⟩], none⟩) (v := ?_) rfl (by kernel_rfl) (by kernel_rfl) (by kernel_rfl) (fun _ _ _ h => h) (Or.inl ⟨by rfl, fun W hSw => ?_⟩) hHeld ?_
 rotate_left
 ·(try dsimp only at hSw); go_simp; (try with_reducible rfl)
 (try simp only [Act.put, List.setIfInBounds_toArray, List.set_cons_zero, List.set_cons_succ])
 refine wpAnyH_take (i := 17) (oi := ⟨some 22, .fieldAddr 173 (.tmp 3) 2, 0, "dial.go:99", #[], none⟩) (v := ?_) rfl (by kernel_rfl) (by kernel_rfl) (by kernel_rfl) (fun _ _ _ h => h) (Or.inl ⟨by rfl, fun W hSw => ?_⟩) hHeld ?_
 rotate_left
 ·(try dsimp only at hSw); go_simp; (try with_reducible rfl)
 (try simp only [Act.put, List.setIfInBounds_toArray, List.set_cons_zero, List.set_cons_succ])
 refine wpAnyH_take (i := 18) (oi := ⟨some 23, .load 3 (.tmp 22), 3, "dial.go:99", #[⟨17, .data⟩], none⟩) (v := ?_) rfl (by kernel_rfl) (by kernel_rfl) (by kernel_rfl) (fun _ _ _ h => h) (Or.inl ⟨by rfl, fun W hSw => ?_⟩) hHeld ?_
 rotate_left
 ·(try dsimp only at hSw); go_simp; (try with_reducible rfl)
 (try simp only [Act.put, List.setIfInBounds_toArray, List.set_cons_zero, List.set_cons_succ])
 refine wpAnyH_ready (rs := [9]) (by kernel_rfl) (by simp) ?_
 refine AllReadyH.cons (o := ⟨some 14, .call { callee := .value (.func 227), args := #[.tmp 11, .tmp 13], argTypes := #[245, 3] }, 4, "dial.go:99", #[⟨6, .data⟩, ⟨8, .data⟩], none⟩) rfl (fun K hK => ?_) AllReadyH.nil
 go_simp
 refine (leap_any A n c cs _ _ _ _ _ _ y _ (hr0.keep hHeld.2) hn hpos hy1 (by omega)).mono ?_
 rintro e' w1 ⟨rfl, hb⟩
 refine hK.out _ _ (kp_step hb hHeld) (fun hHeld => ?_)
 clear hK K
 (try simp only [Act.put, List.setIfInBounds_toArray, List.set_cons_zero, List.set_cons_succ])
 refine wpAnyH_ready (rs := [10]) (by kernel_rfl) (by simp) ?_
 refine AllReadyH.cons (o := ⟨some 15, .call { callee := .value (.func 226), args := #[.tmp 14], argTypes := #[4] }, 23, "dial.go:99", #[⟨9, .data⟩, ⟨9, .chain⟩], none⟩) rfl (fun K hK => ?_) AllReadyH.nil
 go_simp
 refine (months_any _ _).mono ?_
 rintro e' w2 ⟨gm, rfl, hrm, hb⟩
 refine hK.out _ _ (kp_step hb hHeld) (fun hHeld => ?_)
 clear hK K
 (try simp only [Act.put, List.setIfInBounds_toArray, List.set_cons_zero, List.set_cons_succ])
 refine wpAnyH_take (i := 14) (oi := ⟨some 19, .slice 23 (.tmp 15) none (some (.tmp 18)) none, 23, "dial.go:99", #[⟨10, .data⟩, ⟨13, .data⟩], none⟩) (v := ?_) rfl (by kernel_rfl) (by kernel_rfl) (by kernel_rfl) (fun _ _ _ h => h) (Or.inl ⟨by rfl, fun W hSw => ?_⟩) hHeld ?_
 rotate_left
 ·(try dsimp only at hSw); go_simp; (try with_reducible rfl)
 (try simp only [Act.put, List.setIfInBounds_toArray, List.set_cons_zero, List.set_cons_succ])
 refine wpAnyH_ready (rs := [15]) (by kernel_rfl) (by simp) ?_
 refine AllReadyH.cons (o := ⟨some 20, .call { callee := .value (.func 228), args := #[.tmp 19], argTypes := #[23] }, 3, "dial.go:99", #[⟨14, .data⟩, ⟨10, .chain⟩], none⟩) rfl (fun K hK => ?_) AllReadyH.nil
 go_simp
 refine (sum_any _ _ _ _ _ (hrm.take (k := m.toNat - 1) (by omega)) (by omega) (mtab_take_bounds _ _)).mono ?_
 rw [mtab_cum _ _ hm1 hm2, HQ.out]
 rintro e' w3 ⟨rfl, rfl⟩
 refine hK.out _ _ (hHeld) (fun hHeld => ?_)
 clear hK K
 (try simp only [Act.put, List.setIfInBounds_toArray, List.set_cons_zero, List.set_cons_succ])
 refine wpAnyH_take (i := 16) (oi := ⟨some 21, .binOp .add 3 (.tmp 10) (.tmp 20) 3, 3, "dial.go:99", #[⟨5, .data⟩, ⟨15, .data⟩], none⟩) (v := ?_) rfl (by kernel_rfl) (by kernel_rfl) (by kernel_rfl) (fun _ _ _ h => h) (Or.inl ⟨by rfl, fun W hSw => ?_⟩) hHeld ?_
 rotate_left
 ·(try dsimp only at hSw); go_simp; (try with_reducible rfl)
 (try simp only [Act.put, List.setIfInBounds_toArray, List.set_cons_zero, List.set_cons_succ])
 refine wpAnyH_take (i := 19) (oi := ⟨some 24, .binOp .add 3 (.tmp 21) (.tmp 23) 3, 3, "dial.go:99", #[⟨16, .data⟩, ⟨18, .data⟩], none⟩) (v := ?_) rfl (by kernel_rfl) (by kernel_rfl) (by kernel_rfl) (fun _ _ _ h => h) (Or.inl ⟨by rfl, fun W hSw => ?_⟩) hHeld ?_
 rotate_left
 ·(try dsimp only at hSw); go_simp; (try with_reducible rfl)
 (try simp only [Act.put, List.setIfInBounds_toArray, List.set_cons_zero, List.set_cons_succ])
 refine wpAnyH_take (i := 20) (oi := ⟨some 25, .binOp .sub 3 (.tmp 24) (.const (.int .i64 1)) 3, 3, "dial.go:99", #[⟨19, .data⟩], none⟩) (v := ?_) rfl (by kernel_rfl) (by kernel_rfl) (by kernel_rfl) (fun _ _ _ h => h) (Or.inl ⟨by rfl, fun W hSw => ?_⟩) hHeld ?_
 rotate_left
 ·(try dsimp only at hSw); go_simp; (try with_reducible rfl)
 (try simp only [Act.put, List.setIfInBounds_toArray, List.set_cons_zero, List.set_cons_succ])
 refine wpAnyH_take (i := 21) (oi := ⟨some 4, .assign (.tmp 25), 3, "dial.go:99", #[⟨20, .data⟩, ⟨15, .chain⟩, ⟨0, .phase⟩, ⟨1, .phase⟩, ⟨2, .phase⟩, ⟨3, .phase⟩, ⟨4, .phase⟩, ⟨5, .phase⟩, ⟨6, .phase⟩, ⟨7, .phase⟩, ⟨8, .phase⟩, ⟨9, .phase⟩, ⟨10, .phase⟩, ⟨11, .phase⟩, ⟨12, .phase⟩, ⟨13, .phase⟩, ⟨14, .phase⟩, ⟨15, .phase⟩, ⟨16, .phase⟩, ⟨17, .phase⟩, ⟨18, .phase⟩, ⟨19, .phase⟩, ⟨20, .phase⟩], none⟩) (v := ?_) rfl (by kernel_rfl) (by kernel_rfl) (by kernel_rfl) (fun _ _ _ h => h) (Or.inl ⟨by rfl, fun W hSw => ?_⟩) hHeld ?_
 rotate_left
 ·(try dsimp only at hSw); go_simp; (try with_reducible rfl)
 (try simp only [Act.put, List.setIfInBounds_toArray, List.set_cons_zero, List.set_cons_succ])
 refine wpAnyH_done (by kernel_rfl) ?_ _
 refine NoPanic.normal ?_
 go_wp2
 go_ret
 exact ⟨ret_int (by unfold dayOf; simp only [HF.out, HQ.out]), fr_call (fr_alloc (fr_alloc (fr_refl _) _) _) hHeld.2⟩
end Go.Proofs.YtdocgmafbacjcaaGreatDoor
end

section
namespace Go.Proofs.YtdocgmafbacjcaaGreatDoor.Dl
/-- the k-th new moon -/
def newDay (num den add k : Int) : Int := (k * num + add) / den
/-- the number of the last new moon up to a day -/
def lastK (num den add d : Int) : Int := ((d + 1) * den - 1 - add) / num
/-- the moon's age -/
def ageOf (num den add d : Int) : Int := d - newDay num den add (lastK num den add d)

structure MoonOk (num den add : Int) : Prop where
 d1 : 1 ≤ den
 d2 : den ≤ 1000
 n1 : 29 * den ≤ num
 n2 : num ≤ 30 * den
 a1 : 0 ≤ add
 a2 : add ≤ num - 1

section
variable {num den add : Int} (h : MoonOk num den add)
include h

theorem MoonOk.npos : 0 < num := by have := h.d1; have := h.n1; omega

theorem new_le_iff (k d : Int) : newDay num den add k ≤ d ↔ k ≤ lastK num den add d := by
 have hd : 0 < den := by have := h.d1; omega
 unfold newDay lastK
 rw [Int.le_ediv_iff_mul_le h.npos, ← Int.lt_add_one_iff, Int.ediv_lt_iff_lt_mul hd]
 omega

theorem new_last (d : Int) : newDay num den add (lastK num den add d) ≤ d := (new_le_iff h _ _).2 (Int.le_refl _)
theorem new_next (d : Int) : d < newDay num den add (lastK num den add d + 1) := by
 have := (new_le_iff h (lastK num den add d + 1) d)
 omega

theorem new_gap (k : Int) : newDay num den add k + 29 ≤ newDay num den add (k + 1) ∧ newDay num den add (k + 1) ≤ newDay num den add k + 30 := by
 have hd : 0 < den := by have := h.d1; omega
 have h1 := h.n1
 have h2 := h.n2
 unfold newDay
 have e : (k + 1) * num = k * num + num := by rw [Int.add_mul]; omega
 rw [e]
 have a1 : (k * num + add + den * 29) / den = (k * num + add) / den + 29 := Int.add_mul_ediv_left _ _ (by omega)
 have a2 : (k * num + add + den * 30) / den = (k * num + add) / den + 30 := Int.add_mul_ediv_left _ _ (by omega)
 rw [← a1, ← a2]
 constructor <;> apply Int.ediv_le_ediv hd <;> omega

theorem last_unique {k d : Int} (h1 : newDay num den add k ≤ d) (h2 : d < newDay num den add (k + 1)) : lastK num den add d = k := by
 have a := (new_le_iff h k d).1 h1
 have b : ¬ (k + 1 ≤ lastK num den add d) := fun hh => by have := (new_le_iff h (k+1) d).2 hh; omega
 omega

theorem age_range (d : Int) : 0 ≤ ageOf num den add d ∧ ageOf num den add d ≤ 29 := by
 have a := new_last h d
 have b := new_next h d
 have c := new_gap h (lastK num den add d)
 unfold ageOf
 omega

theorem age_at (k i : Int) (h0 : 0 ≤ i) (h1 : i < 29) : ageOf num den add (newDay num den add k + i) = i := by
 have g := new_gap h k
 have := last_unique h (k := k) (d := newDay num den add k + i) (by omega) (by omega)
 unfold ageOf
 rw [this]
 omega
end

/-- the first day from n on, on which the moon's age is 13 -/
def fullOf (num den add n : Int) : Int :=
 if n ≤ newDay num den add (lastK num den add n) + 13 then newDay num den add (lastK num den add n) + 13 else newDay num den add (lastK num den add n + 1) + 13
section
variable {num den add : Int} (h : MoonOk num den add)
include h
theorem full_bounds (n : Int) : n ≤ fullOf num den add n ∧ fullOf num den add n ≤ n + 29 := by
 have a := new_last h n
 have b := new_next h n
 have c := new_gap h (lastK num den add n)
 unfold fullOf
 split <;> omega
theorem age_full (n : Int) : ageOf num den add (fullOf num den add n) = 13 := by
 unfold fullOf
 split
 ·exact age_at h _ 13 (by omega) (by omega)
 ·exact age_at h _ 13 (by omega) (by omega)
theorem not_full (n j : Int) (h1 : n ≤ j) (h2 : j < fullOf num den add n) : ageOf num den add j ≠ 13 := by
 have a := new_last h n
 have b := new_next h n
 have c := new_gap h (lastK num den add n)
 have c' := new_gap h (lastK num den add n + 1)
 unfold fullOf at h2
 split at h2
 ·have := last_unique h (k := lastK num den add n) (d := j) (by omega) (by omega)
  unfold ageOf
  rw [this]
  omega
 ·by_cases hj : j < newDay num den add (lastK num den add n + 1)
  ·have := last_unique h (k := lastK num den add n) (d := j) (by omega) (by omega)
   unfold ageOf
   rw [this]
   omega
  ·have := last_unique h (k := lastK num den add n + 1) (d := j) (by omega) (by omega)
   unfold ageOf
   rw [this]
   omega
end
end Go.Proofs.YtdocgmafbacjcaaGreatDoor.Dl
end
