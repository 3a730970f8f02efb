/- The words in which memory is told: a slice that reads as a list of numbers, a world that has only grown. Rows of numbers that the call itself makes by append; blocks that are known whole. Walks: ranges, leap years, months, sums, lengths of years. More for regions that draw their order: what is kept may grow in the midst of a region. A struct stored into a block that is known whole; the world behind it keeps one name. -/
import Derived.Test.YthjblcboainknaaGreatDoorProg
import Derived.WalkKit
import Derived.WalkSpells
import Derived.WalkLawsBesides
import Derived.LoopTactic
import Derived.Deep.LoopGhost
import Derived.Lib.Hide
import Derived.Deep.Draws
import Derived.Deep.QuietTactic
import Derived.BigQuiet
import Derived.OwnWalk
import Derived.Laws.Rows
import Derived.Test.YthjblcboainknaaGreatDoorMP
import Derived.Deep.RegionHeld3
import Derived.Deep.MidRow
section
namespace Go.Proofs.YthjblcboainknaaGreatDoor
open Go.RowKit

theorem block_of_add (a : Addr) (n : Nat) : (a.add n).block = a.block := by unfold Addr.add; split <;> rfl
theorem add_of_add (a : Addr) (i j : Nat) : (a.add i).add j = a.add (i + j) := by
 unfold Addr.add
 by_cases hi : i = 0 <;> by_cases hj : j = 0 <;> simp [hi, hj, Nat.add_assoc]
theorem add_lit (b o k : Nat) : (Addr.mk b o none).add k = ⟨b, o + k, none⟩ := by
 unfold Addr.add
 by_cases h : k = 0 <;> simp [h]

/- The world has only grown. -/
theorem fr_refl (w : World) : Below w.heap.size w w := Below.refl _ _
theorem fr_alloc {w W : World} (h : Below w.heap.size w W) (o : Obj) : Below w.heap.size w (W.alloc o) := h.alloc h.size o
theorem fr_drew {w W : World} (h : Below w.heap.size w W) : Below w.heap.size w W.drew := h.drew
theorem fr_drewN {w W : World} (h : Below w.heap.size w W) (n : Nat) : Below w.heap.size w (W.drewN n) := ⟨h.os, h.tape, h.output, h.size, h.block⟩
theorem fr_set {w W : World} (h : Below w.heap.size w W) {p : Addr} (hp : w.heap.size ≤ p.block) (u : Value) : Below w.heap.size w (W.setCell p u) := h.setCell hp u
theorem fr_call {w W W' : World} (h : Below w.heap.size w W) (k : Below W.heap.size W W') : Below w.heap.size w W' := h.trans (k.mono h.size)
theorem bcell {W w1 : World} (hb : Below W.heap.size W w1) : (∀ b o, b < W.heap.size → w1.cell? ⟨b, o, none⟩ = W.cell? ⟨b, o, none⟩) ∧ (∀ b o, b < W.heap.size → w1.frozen? ⟨b, o, none⟩ = W.frozen? ⟨b, o, none⟩) :=
 ⟨fun b o h => hb.cell (p := ⟨b, o, none⟩) h, fun b o h => hb.frozen (p := ⟨b, o, none⟩) h⟩

/-- What a region that makes memory keeps: the cells that lay there, and that the world has only grown. -/
theorem kp_step {W0 W W1 : World} (hb : Below W.heap.size W W1) (hS : (∀ p : Addr, p.block < W0.heap.size → W.cell? p = W0.cell? p) ∧ Below W0.heap.size W0 W) :
  (∀ p : Addr, p.block < W0.heap.size → W1.cell? p = W0.cell? p) ∧ Below W0.heap.size W0 W1 :=
 ⟨fun p h => (hb.cell (Nat.lt_of_lt_of_le h hS.2.size)).trans (hS.1 p h), fr_call hS.2 hb⟩

theorem kp_of {W0 W : World} {N : Nat} (h : Below N W0 W) : (∀ p : Addr, p.block < N → W.cell? p = W0.cell? p) ∧ Below N W0 W := ⟨fun _ hp => h.cell hp, h⟩
theorem kpn_step {W0 W W1 : World} {N : Nat} (hb : Below W.heap.size W W1) (hS : (∀ p : Addr, p.block < N → W.cell? p = W0.cell? p) ∧ Below N W0 W) (hN : N ≤ W0.heap.size) :
  (∀ p : Addr, p.block < N → W1.cell? p = W0.cell? p) ∧ Below N W0 W1 := kp_of (hS.2.trans (hb.mono (Nat.le_trans hN hS.2.size)))

/-- The slice value '.slice A n c' reads as the numbers xs. -/
def Rd (w : World) (A : Option Addr) (n : Nat) (xs : List Int) : Prop :=
 xs.length = n ∧ (0 < n → ∃ ad, A = some ad ∧ ad.block < w.heap.size ∧ ∀ j, j < n → w.cell? (ad.add j) = some (.int .i64 (xs[j]?.getD 0)))
theorem Rd.len {w : World} {A : Option Addr} {n : Nat} {xs : List Int} (h : Rd w A n xs) : xs.length = n := h.1
theorem Rd.keep {w w' : World} {A : Option Addr} {n : Nat} {xs : List Int} (h : Rd w A n xs) (hb : Below w.heap.size w w') : Rd w' A n xs :=
 ⟨h.1, fun hn => by
  obtain ⟨ad, e, hlt, hc⟩ := h.2 hn
  exact ⟨ad, e, Nat.lt_of_lt_of_le hlt hb.size, fun j hj => (hb.cell (by rw [block_of_add]; exact hlt)).trans (hc j hj)⟩⟩
theorem Rd.alloc {w : World} {A : Option Addr} {n : Nat} {xs : List Int} (h : Rd w A n xs) (o : Obj) : Rd (w.alloc o) A n xs := h.keep (fr_alloc (fr_refl w) o)
/-- the slice begins in a block from B on, or is nil -/
def Fresh (B : Nat) (A : Option Addr) : Prop := ∀ ad, A = some ad → B ≤ ad.block
theorem Rd.far {w w' : World} {A : Option Addr} {n g : Nat} {xs : List Int} (h : Rd w A n xs) (hg : w.grownBy w' (some g)) (hne : ∀ ad, A = some ad → ad.block ≠ g) : Rd w' A n xs :=
 ⟨h.1, fun hn => by
  obtain ⟨ad, e, hlt, hc⟩ := h.2 hn
  exact ⟨ad, e, Nat.lt_of_lt_of_le hlt hg.size, fun j hj => (World.cell?_of_block (hg.block _ (by rw [block_of_add]; exact hlt) (by rw [block_of_add]; intro e'; cases e'; exact hne ad e rfl))).trans (hc j hj)⟩⟩
theorem Fresh.ne {B g : Nat} {A : Option Addr} (h : Fresh B A) (hg : g < B) : ∀ ad, A = some ad → ad.block ≠ g := fun ad e => by have := h ad e; omega
theorem Rd.nil_ (w : World) (A : Option Addr) : Rd w A 0 [] := ⟨rfl, fun h => absurd h (by omega)⟩
theorem Rd.at_ {w : World} {A : Option Addr} {n : Nat} {xs : List Int} (h : Rd w A n xs) {k : Nat} (hk : k < n) :
  ∃ ad, A = some ad ∧ ad.block < w.heap.size ∧ w.cell? (ad.add k) = some (.int .i64 (xs[k]?.getD 0)) := by
 obtain ⟨ad, e, hb, hc⟩ := h.2 (by omega)
 exact ⟨ad, e, hb, hc k hk⟩
theorem Rd.take {w : World} {A : Option Addr} {n : Nat} {xs : List Int} (h : Rd w A n xs) {k : Nat} (hk : k ≤ n) : Rd w A k (xs.take k) := by
 refine ⟨by rw [List.length_take, h.1]; omega, fun hn => ?_⟩
 obtain ⟨ad, e, hb, hc⟩ := h.2 (by omega)
 refine ⟨ad, e, hb, fun j hj => ?_⟩
 rw [List.getElem?_take, if_pos hj]
 exact hc j (by omega)
theorem cell_new (w : World) (xs : Array Value) (t : TypeId) (j : Nat) : (w.alloc (.cells xs t)).cell? ⟨w.heap.size, j, none⟩ = xs[j]? := by
 have := heap_alloc_new w (.cells xs t)
 unfold World.cell?
 rw [this]
 rfl
/-- A new row of numbers. -/
theorem Rd.new (w : World) (t : TypeId) (ys : List Int) : Rd (w.alloc (.cells (ys.map (Value.int .i64)).toArray t)) (some ⟨w.heap.size, 0, none⟩) ys.length ys := by
 refine ⟨rfl, fun _ => ⟨_, rfl, by simp, fun j hj => ?_⟩⟩
 rw [add_lit, Nat.zero_add, cell_new]
 simp [hj]
theorem ret_bool {a b : Bool} (h : a = b) : Ending.returned (.bool a) = .returned (.bool b) := by rw [h]
theorem ret_int {k : IntKind} {a b : Int} (h : a = b) : Ending.returned (.int k a) = .returned (.int k b) := by rw [h]
theorem take_snoc' (xs : List Int) (k : Nat) (h : k < xs.length) : xs.take (k + 1) = xs.take k ++ [xs[k]?.getD 0] := by
 rw [List.take_succ_eq_append_getElem h]; simp [h]

/- quiet calls: contracts that state 'w = w'' -/
theorem quiet_left {P : Program} {f : FuncId} {args : Array Value} {w : World} {n : Nat} {v : Value}
  (h : Calls P f args (w.drewN n) fun e w' => e = .returned v ∧ w.drewN n = w') : Calls P f args (w.drewN n) fun e w'' => e = .returned v ∧ ∃ m, w'' = w.drewN m :=
 h.mono fun _ _ ⟨he, hm⟩ => ⟨he, n, hm.symm⟩
theorem quiet_add_left {P : Program} {f : FuncId} {args : Array Value} {w : World} {a n : Nat} {v : Value}
  (h : Calls P f args (w.drewN (a + n)) fun e w' => e = .returned v ∧ w.drewN (a + n) = w') :
  Calls P f args (w.drewN (a + n)) fun e w'' => e = .returned v ∧ ∃ m, w'' = w.drewN (a + m) :=
 h.mono fun _ _ ⟨he, hm⟩ => ⟨he, n, hm.symm⟩
end Go.Proofs.YthjblcboainknaaGreatDoor
end

section
namespace Go.Proofs.YthjblcboainknaaGreatDoor
open Go.RowKit

/-- block g is just the cells cs -/
def Blk (w : World) (g : Nat) (t : TypeId) (cs : Array Value) : Prop := w.heap[g]? = some (.cells cs t (0, 0))
section
variable {w w' : World} {g : Nat} {t : TypeId} {cs : Array Value}
theorem Blk.lt (h : Blk w g t cs) : g < w.heap.size := by
 rcases Nat.lt_or_ge g w.heap.size with hlt | hge
 ·exact hlt
 ·unfold Blk at h; rw [Array.getElem?_eq_none hge] at h; cases h
theorem Blk.cell (h : Blk w g t cs) (i : Nat) : w.cell? ⟨g, i, none⟩ = cs[i]? := by unfold Blk at h; unfold World.cell?; rw [h]; rfl
theorem Blk.frozen (h : Blk w g t cs) (i : Nat) : w.frozen? ⟨g, i, none⟩ = false := by
 unfold Blk at h
 simp [World.frozen?, h]
theorem Blk.new (w : World) (t : TypeId) (cs : Array Value) : Blk (w.alloc (.cells cs t)) w.heap.size t cs := heap_alloc_new w _
theorem Blk.new_at {w : World} {g : Nat} (t : TypeId) (cs : Array Value) (h : w.heap.size = g) : Blk (w.alloc (.cells cs t)) g t cs := h ▸ Blk.new w t cs
theorem heap_new_at {w : World} {g : Nat} (o : Obj) (h : w.heap.size = g) : (w.alloc o).heap[g]? = some o := h ▸ heap_alloc_new w o
theorem Blk.drew (h : Blk w g t cs) : Blk w.drew g t cs := h
theorem Blk.alloc (h : Blk w g t cs) (o : Obj) : Blk (w.alloc o) g t cs := (Below.heap_alloc w o g h.lt).trans h
theorem Blk.set_ (h : Blk w g t cs) (i : Nat) (u : Value) : Blk (w.setCell ⟨g, i, none⟩ u) g t (cs.setIfInBounds i u) := by
 unfold Blk at h ⊢
 simp [World.setCell, Array.getElem?_modify, h]
theorem Blk.far (h : Blk w g t cs) {p : Addr} (hp : g ≠ p.block) (u : Value) : Blk (w.setCell p u) g t cs := (Below.heap_setCell w p u g hp).trans h
theorem Blk.keep (h : Blk w g t cs) (hb : Below w.heap.size w w') : Blk w' g t cs := (hb.block g h.lt).trans h
theorem Blk.grown {row : Option Nat} (h : Blk w g t cs) (hb : w.grownBy w' row) (hg : some g ≠ row) : Blk w' g t cs := (hb.block g h.lt hg).trans h
theorem Blk.ne_ {g' : Nat} {t' : TypeId} {cs' : Array Value} (h : Blk w g t cs) (h' : Blk w g' t' cs') (hne : t ≠ t') : g ≠ g' := by
 rintro rfl
 unfold Blk at h h'
 rw [h] at h'
 injection h' with h'
 injection h' with _ ht
 exact hne ht
theorem grown_below {a b c : World} {r : Option Nat} (h : a.grownBy b r) (k : Below b.heap.size b c) : a.grownBy c r :=
 ⟨k.os.trans h.os, k.tape.trans h.tape, k.output.trans h.output, Nat.le_trans h.size k.size, fun i hi hn => (k.block i (Nat.lt_of_lt_of_le hi h.size)).trans (h.block i hi hn)⟩
theorem below_grown {a b c : World} {r : Option Nat} (h : Below a.heap.size a b) (k : b.grownBy c r) : a.grownBy c r :=
 ⟨k.os.trans h.os, k.tape.trans h.tape, k.output.trans h.output, Nat.le_trans h.size k.size, fun i hi hn => (k.block i (Nat.lt_of_lt_of_le hi h.size) hn).trans (h.block i hi)⟩
theorem grown_trans {a b c : World} {r : Option Nat} (h : a.grownBy b r) (k : b.grownBy c r) : a.grownBy c r :=
 ⟨k.os.trans h.os, k.tape.trans h.tape, k.output.trans h.output, Nat.le_trans h.size k.size, fun i hi hn => (k.block i (Nat.lt_of_lt_of_le hi h.size) hn).trans (h.block i hi hn)⟩
theorem own_blk_ne {base : Nat} {e : TypeId} {size n : Nat} {v : Value} {xs : List Value} (h : w.ownsRow base e size v n xs) (hg : Blk w g t cs) (hne : e ≠ t) : v.ownBlock ≠ some g := by
 rcases h.2 with ⟨rfl, _⟩ | ⟨g', cap, cur, rfl, _, hh, _⟩
 ·simp [Value.ownBlock]
 ·intro he
  have : g' = g := by simpa [Value.ownBlock] using he
  subst this
  unfold Blk at hg
  rw [hg] at hh
  injection hh with hh
  injection hh with _ ht
  exact hne ht.symm
/-- no row of cells is a map -/
theorem own_map_ne {base : Nat} {e : TypeId} {size n : Nat} {v : Value} {xs : List Value} (h : w.ownsRow base e size v n xs) {es : Array MapEntry} {k : Nat} (hg : w.heap[g]? = some (.map es k)) : v.ownBlock ≠ some g := by
 rcases h.2 with ⟨rfl, _⟩ | ⟨g', cap, cur, rfl, _, hh, _⟩
 ·simp [Value.ownBlock]
 ·intro he
  have : g' = g := by simpa [Value.ownBlock] using he
  subst this
  rw [hg] at hh
  cases hh
end

/-- the slice value v is nil, or a row of the call's own, and reads as xs -/
def Own (w : World) (base : Nat) (v : Value) (xs : List Int) : Prop := w.ownsRow base 3 1 v xs.length (xs.map (Value.int .i64))
theorem Own.nil (w : World) (base : Nat) : Own w base (.slice none 0 0) [] := World.ownsRow_nil w base _ 1
theorem grown_of_below {w w' : World} (hb : Below w.heap.size w w') : w.grownBy w' none := ⟨hb.os, hb.tape, hb.output, hb.size, fun k hk _ => hb.block k hk⟩
theorem owns_keep {w w' : World} {base : Nat} {e : TypeId} {size n : Nat} {v : Value} {xs : List Value} (h : w.ownsRow base e size v n xs) (hb : Below w.heap.size w w') : w'.ownsRow base e size v n xs := by
 refine h.kept (grown_of_below hb) ?_
 cases hv : v.ownBlock
 ·exact .inl rfl
 ·exact .inr (by simp)
theorem Own.keep {w w' : World} {base : Nat} {v : Value} {xs : List Int} (h : Own w base v xs) (hb : Below w.heap.size w w') : Own w' base v xs := owns_keep h hb
theorem owns_set {w : World} {base : Nat} {e t : TypeId} {size n g i : Nat} {v u : Value} {xs : List Value} {cs : Array Value} (h : w.ownsRow base e size v n xs) (hg : Blk w g t cs) (hne : e ≠ t) : (w.setCell ⟨g, i, none⟩ u).ownsRow base e size v n xs := by
 obtain ⟨h1, h2⟩ := h
 refine ⟨h1, ?_⟩
 rcases h2 with h2 | ⟨g', cap, cur, hv, hg', hh, r⟩
 ·exact Or.inl h2
 ·refine Or.inr ⟨g', cap, cur, hv, hg', ?_, r⟩
  rw [Below.heap_setCell]
  ·exact hh
  ·rintro rfl
   unfold Blk at hg
   rw [hg] at hh
   injection hh with hh
   injection hh with _ ht
   exact hne ht.symm
theorem Own.set {w : World} {base g i : Nat} {t : TypeId} {v u : Value} {xs : List Int} {cs : Array Value} (h : Own w base v xs) (hg : Blk w g t cs) (hne : (3 : TypeId) ≠ t) : Own (w.setCell ⟨g, i, none⟩ u) base v xs := owns_set h hg hne
/-- a row of the call's own, beside a block that is written -/
def OwnB (w : World) (base : Nat) (v : Value) (xs : List Int) (g : Nat) (t : TypeId) : Prop := Own w base v xs ∧ ∃ cs, Blk w g t cs
theorem OwnB.set {w : World} {base g i : Nat} {t : TypeId} {v u : Value} {xs : List Int} (h : OwnB w base v xs g t) (hne : (3 : TypeId) ≠ t) : OwnB (w.setCell ⟨g, i, none⟩ u) base v xs g t := by
 obtain ⟨h1, cs, h2⟩ := h
 exact ⟨h1.set h2 hne, _, h2.set_ i u⟩
theorem Own.form {w : World} {base : Nat} {v : Value} {xs : List Int} (h : Own w base v xs) : ∃ A c, v = .slice A xs.length c := by
 rcases h.2 with ⟨rfl, h0⟩ | ⟨g, cap, cur, rfl, _⟩
 ·exact ⟨none, 0, by rw [h0]⟩
 ·exact ⟨_, _, rfl⟩
theorem Own.rd {w : World} {base : Nat} {A : Option Addr} {n c : Nat} {xs : List Int} (h : Own w base (.slice A n c) xs) : Rd w A n xs := by
 have hn : n = xs.length := by
  rcases h.2 with ⟨h0, h1⟩ | ⟨g, cap, cur, hv, _⟩
  ·injection h0 with _ h2; rw [h1]; exact h2
  ·injection hv
 refine ⟨hn.symm, fun hpos => ?_⟩
 rcases h.2 with ⟨h0, h1⟩ | ⟨g, cap, cur, hv, hb, hh, _⟩
 ·omega
 ·injection hv with hA _ hc
  subst hA
  have hlt : g < w.heap.size := by
   rcases Nat.lt_or_ge g w.heap.size with hlt | hge
   ·exact hlt
   ·rw [Array.getElem?_eq_none hge] at hh; cases hh
  refine ⟨_, rfl, hlt, fun j hj => ?_⟩
  refine World.ownsRow.cells h (g := g) (by simp [Value.ownBlock]) j _ ?_
  rw [List.getElem?_map, List.getElem?_eq_getElem (by omega)]
  simp

theorem Own.fresh {w : World} {base : Nat} {A : Option Addr} {n c : Nat} {xs : List Int} (h : Own w base (.slice A n c) xs) : Fresh base A := by
 intro ad e
 subst e
 rcases h.2 with ⟨h0, _⟩ | ⟨g, cap, cur, hv, hb, _⟩
 ·cases h0
 ·injection hv with hA _ _
  cases hA
  exact hb
theorem info_int : (Tryz.prog.info? 3).map (fun i => (i.zero, i.size, i.bytes)) = some (some (.int .i64 0), 1, 8) := by kernel_rfl

/-- 'append(out, y)', the row being the call's own -/
theorem app_int {ops : Array Oper} {rest : List Oper} {o : Oper} {a : Act} {Q : Exit → Act → World → Prop} {W : World} {y : Int} (hgd : o.guard = none) (s x : Operand)
  (ho : o.op = .call { callee := .builtin .append, args := #[s, x], argTypes := #[22, 22] })
  (base : Nat) (v : Value) (xs : List Int) (hs : a.eval s = v) (hx : a.eval x = .slice (some ⟨W.heap.size, 0, none⟩) 1 1) (hown : Own W base v xs) (hn : xs.length < 1000000) (hbase : base ≤ W.heap.size)
  (h : ∀ A c w', Own w' base (.slice A (xs.length + 1) c) (xs ++ [y]) → (W.alloc (.cells #[.int .i64 y] 3)).grownBy w' v.ownBlock → wpList Tryz.prog ops Q rest (a.put o.dst (.slice A (xs.length + 1) c)) w') :
  wpList Tryz.prog ops Q (o :: rest) a (W.alloc (.cells #[.int .i64 y] 3)) := by
 obtain ⟨i0, hi, hz0, hz1, hz2⟩ := info_parts info_int
 refine wpList_append_own _ hgd s x _ ho base _ i0 _ 1 8 Tryz.underlying22 hi hz0 hz1 hz2 rfl (by omega) v _ _ hs (World.ownsRow.alloc hown _) ⟨W.heap.size, 0, none⟩ 1 1 [.int .i64 y] hx rfl ?_ (by simp [Value.oneCell'])
  (by unfold maxLen; omega) (by omega) (by simp; omega) ?_
 ·intro j u hj
  match j, hj with
  | 0, hj => simp at hj; subst hj; rw [add_lit, cell_new]; rfl
 ·intro v' w' hown' hg _
  have hown2 : Own w' base v' (xs ++ [y]) := by
   unfold Own
   rw [List.length_append, List.map_append]
   exact hown'
  obtain ⟨A, c, rfl⟩ := hown2.form
  rw [List.length_append] at hown2 ⊢
  exact h A c w' hown2 hg
theorem own_ge {w : World} {base : Nat} {v : Value} {xs : List Int} (h : Own w base v xs) : ∀ k, v.ownBlock = some k → base ≤ k := fun k hk => (World.ownsRow.lt h k hk).1
end Go.Proofs.YthjblcboainknaaGreatDoor
end

section
namespace Go.Proofs.YthjblcboainknaaGreatDoor
open Go.RowKit Dl

def inB (x lo hi : Int) : Bool := decide (lo ≤ x ∧ x ≤ hi)
theorem inB_yes {x lo hi : Int} (h : lo ≤ x ∧ x ≤ hi) : inB x lo hi = true := by simp [inB, h]
theorem inB_no {x lo hi : Int} (h : ¬ (lo ≤ x ∧ x ≤ hi)) : inB x lo hi = false := by unfold inB; exact decide_eq_false h
theorem inB_iff {x lo hi : Int} : inB x lo hi = true ↔ lo ≤ x ∧ x ≤ hi := by simp [inB]

set_option maxHeartbeats 400000 in
theorem in_is (x lo hi : Int) (w : World) (b : Bool) (hb : inB x lo hi = b) :
  Calls Tryz.prog 61 #[.int .i64 x, .int .i64 lo, .int .i64 hi] w fun e w' => e = .returned (.bool b) ∧ w = w' := by
 subst hb
 by_cases h : lo ≤ x
 ·go_enter Tryz.func61, Tryz.ntmps61
  go_wp2
  go_ret
  exact ⟨ret_bool (by simp [inB, h]), rfl⟩
 ·go_enter Tryz.func61, Tryz.ntmps61
  go_wp2
  go_ret
  exact ⟨ret_bool (by simp only [inB]; rw [eq_comm, decide_eq_false_iff_not]; omega), rfl⟩

set_option maxHeartbeats 400000 in
theorem isYear_is (x : Int) (w : World) (b : Bool) (hb : inB x 0 4000 = b) :
  Calls Tryz.prog 58 #[.int .i64 x] w fun e w' => e = .returned (.bool b) ∧ w = w' := by
 go_enter Tryz.func58, Tryz.ntmps58
 go_wp2_with (go_at_call 61; refine (in_is _ _ _ _ _ hb).mono ?_; rintro e w' ⟨rfl, rfl⟩)
 go_ret
 exact ⟨rfl, rfl⟩

set_option maxHeartbeats 400000 in
theorem isDay_is (x : Int) (w : World) (b : Bool) (hb : inB x 0 2000000 = b) :
  Calls Tryz.prog 54 #[.int .i64 x] w fun e w' => e = .returned (.bool b) ∧ w = w' := by
 go_enter Tryz.func54, Tryz.ntmps54
 go_wp2_with (go_at_call 61; refine (in_is _ _ _ _ _ hb).mono ?_; rintro e w' ⟨rfl, rfl⟩)
 go_ret
 exact ⟨rfl, rfl⟩

theorem leapB_snoc (cs : List Int) (x y : Int) : leapB (cs ++ [x]) y = (if y % x = 0 then !leapB cs y else leapB cs y) := by
 simp [leapB]

/-- cycles by which one can divide -/
def Cyc (cs : List Int) : Prop := ∀ k, k < cs.length → 2 ≤ cs[k]?.getD 0 ∧ cs[k]?.getD 0 ≤ 1000

set_option maxHeartbeats 1000000 in
theorem leap_any (A : Option Addr) (n c : Nat) (cs : List Int) (e m1 m2 m3 f g : Value) (yr : Int) (w : World) (hr : Rd w A n cs) (hn : n ≤ 3) (hpos : Cyc cs) (h0 : 0 ≤ yr) (h1 : yr ≤ 5000) :
  Calls Tryz.prog 60 #[.agg #[e, .slice A n c, m1, m2, m3, f, g], .int .i64 yr] w fun e w' => e = .returned (.bool (leapB cs yr)) ∧ Below w.heap.size w w' := by
 go_enter Tryz.func60, Tryz.ntmps60
 go_wp2
 go_loop [5, 12] (fun b i => ∃ k : Nat, k ≤ n ∧ i = .int .i64 k ∧ b = .bool (leapB (cs.take k) yr)) (fun _ i => n - (intOf i).toNat)
 case atStart => exact ⟨0, Nat.zero_le _, rfl, rfl⟩
 case round =>
  obtain ⟨k, hk, rfl, rfl⟩ := hrel
  by_cases hlt : k < n
  ·obtain ⟨ad, rfl, hb, hc⟩ := (hr.alloc (Obj.cells #[e, Value.slice A n c, m1, m2, m3, f, g] 89)).at_ hlt
   have hp := hpos k (by rw [hr.len]; exact hlt)
   have HS := Lib.hid (take_snoc' cs k (by rw [hr.len]; exact hlt))
   generalize hx : cs[k]?.getD 0 = x at *
   clear hx
   go_wp2
   all_goals
    go_round
    case rel => exact ⟨k + 1, by omega, by go_num, by rw [HS.out, leapB_snoc]; simp_all⟩
    case measure => simp [intOf]; omega
  ·go_wp2
   go_ret
   obtain rfl : k = n := by omega
   rw [List.take_of_length_le (by have := hr.1; omega)]
   exact ⟨rfl, fr_alloc (fr_refl _) _⟩

def mtab (b : Bool) : List Int := [31, if b then 29 else 28, 31, 30, 31, 30, 31, 31, 30, 31, 30, 31]

set_option maxHeartbeats 400000 in
theorem months_any (b : Bool) (w : World) :
  Calls Tryz.prog 89 #[.bool b] w fun e w' => ∃ g, e = .returned (.slice (some ⟨g, 0, none⟩) 12 12) ∧ Rd w' (some ⟨g, 0, none⟩) 12 (mtab b) ∧ Below w.heap.size w w' := by
 cases b
 ·go_enter Tryz.func89, Tryz.ntmps89
  go_wp2
  go_ret
  exact ⟨w.heap.size, rfl, Rd.new w _ (mtab false), fr_alloc (fr_refl _) _⟩
 ·go_enter Tryz.func89, Tryz.ntmps89
  go_wp2
  go_ret
  exact ⟨w.heap.size, rfl, Rd.new w _ (mtab true), fr_alloc (fr_refl _) _⟩

theorem isum_take (xs : List Int) (h : ∀ k, k < xs.length → 0 ≤ xs[k]?.getD 0 ∧ xs[k]?.getD 0 ≤ 1000) : ∀ k, k ≤ xs.length → 0 ≤ (xs.take k).sum ∧ (xs.take k).sum ≤ 1000 * k := by
 intro k
 induction k with
 | zero => simp
 | succ k ih =>
  intro hk
  rw [take_snoc' xs k (by omega)]
  have := ih (by omega)
  have := h k (by omega)
  simp only [List.sum_append, List.sum_cons, List.sum_nil]
  omega

set_option maxHeartbeats 1000000 in
theorem sum_any (A : Option Addr) (n c : Nat) (xs : List Int) (w : World) (hr : Rd w A n xs) (hn : n ≤ 1000) (hpos : ∀ k, k < xs.length → 0 ≤ xs[k]?.getD 0 ∧ xs[k]?.getD 0 ≤ 1000) :
  Calls Tryz.prog 90 #[.slice A n c] w fun e w' => e = .returned (.int .i64 xs.sum) ∧ w = w' := by
 go_enter Tryz.func90, Tryz.ntmps90
 go_wp2
 go_loop [3, 8] (fun b i => ∃ k : Nat, k ≤ n ∧ i = .int .i64 k ∧ b = .int .i64 (xs.take k).sum) (fun _ i => n - (intOf i).toNat)
 case atStart => exact ⟨0, Nat.zero_le _, rfl, rfl⟩
 case round =>
  obtain ⟨k, hk, rfl, rfl⟩ := hrel
  by_cases hlt : k < n
  ·obtain ⟨ad, rfl, hb, hc⟩ := hr.at_ hlt
   have hp := hpos k (by rw [hr.len]; exact hlt)
   have hs := isum_take xs hpos k (by rw [hr.len]; exact hk)
   have HS := Lib.hid (take_snoc' xs k (by rw [hr.len]; exact hlt))
   go_wp2
   go_round
   case rel => exact ⟨k + 1, by omega, by go_num, by rw [HS.out]; simp⟩
   case measure => simp [intOf]; omega
  ·go_wp2
   go_ret
   obtain rfl : k = n := by omega
   rw [List.take_of_length_le (by have := hr.1; omega)]
   exact ⟨rfl, rfl⟩

theorem mtab_bounds (b : Bool) : ∀ k, k < (mtab b).length → 0 ≤ (mtab b)[k]?.getD 0 ∧ (mtab b)[k]?.getD 0 ≤ 1000 := by cases b <;> decide
theorem mtab_sum (b : Bool) (cs : List Int) (y : Int) (h : leapB cs y = b) : (mtab b).sum = yearLen cs y := by
 unfold yearLen; rw [h]; cases b <;> rfl

set_option maxHeartbeats 1000000 in
theorem days_any (A : Option Addr) (n c : Nat) (cs : List Int) (e m1 m2 m3 f g : Value) (yr : Int) (w : World) (hr : Rd w A n cs) (hn : n ≤ 3) (hpos : Cyc cs) (h0 : 0 ≤ yr) (h1 : yr ≤ 5000) :
  Calls Tryz.prog 88 #[.agg #[e, .slice A n c, m1, m2, m3, f, g], .int .i64 yr] w fun e w' => e = .returned (.int .i64 (yearLen cs yr)) ∧ Below w.heap.size w w' := by
 go_enter Tryz.func88, Tryz.ntmps88
 go_wp2_with fail
 refine (leap_any A n c cs e m1 m2 m3 f g yr _ (hr.alloc _) hn hpos h0 h1).mono ?_
 rintro e1 w1 ⟨rfl, hb1⟩
 go_wp2_with fail
 refine (months_any _ _).mono ?_
 rintro e2 w2 ⟨g2, rfl, hr2, hb2⟩
 go_wp2_with fail
 refine (sum_any _ 12 12 _ _ hr2 (by omega) (mtab_bounds _)).mono ?_
 rintro e3 w3 ⟨rfl, rfl⟩
 go_wp2_with fail
 go_ret
 exact ⟨ret_int (mtab_sum _ _ _ rfl), fr_call (fr_call (fr_alloc (fr_refl _) _) hb1) hb2⟩
end Go.Proofs.YthjblcboainknaaGreatDoor
end

section
namespace Go.Proofs.YthjblcboainknaaGreatDoor
open Go.RowKit

theorem wpAnyH_mono {P : Program} {md : Region.Mode} {ops : Array Oper} {Q : Exit → Act → World → Prop} {S S' : World → Prop} (hS : ∀ w, S' w → S w) :
  ∀ (fuel : Nat) (listed : Array Bool) (a : Act) (w : World), wpAnyH P md ops Q S' fuel listed a w → wpAnyH P md ops Q S fuel listed a w
 | 0, _, _, _, h => h
 | fuel + 1, _, _, _, h => ⟨h.1, fun i hi => wpOp_mono (fun a' w' h' => ⟨hS _ h'.1, wpAnyH_mono hS fuel _ a' w' h'.2⟩) (h.2 i hi)⟩

/-- In the midst of a region: from here on more is kept. -/
theorem held_more {P : Program} {md : Region.Mode} {ops : Array Oper} {Q : Exit → Act → World → Prop} {S S' : World → Prop} {fuel : Nat} {listed : Array Bool} {a : Act} {w : World} (hS : ∀ w, S' w → S w)
  (h : ∀ K : Act → World → Prop, Shut (∀ a w, S' w → (S' w → wpAnyH P md ops Q S' fuel listed a w) → K a w) → K a w) : wpAnyH P md ops Q S fuel listed a w :=
 wpAnyH_mono hS _ _ _ _ (h (fun a w => wpAnyH P md ops Q S' fuel listed a w) (fun _ _ hs hg => hg hs))
end Go.Proofs.YthjblcboainknaaGreatDoor
end

section
namespace Go.Proofs.YthjblcboainknaaGreatDoor
open Go.RowKit

theorem setCells_some {g : Nat} {t : TypeId} : ∀ (vs : List Value) (o : Nat) (w : World) (cs : Array Value), Blk w g t cs → ∃ cs', cs'.size = cs.size ∧ Blk (w.setCells g o vs) g t cs'
 | [], _, _, cs, h => ⟨cs, rfl, h⟩
 | v :: r, o, w, cs, h => by
  obtain ⟨cs', h1, h2⟩ := setCells_some r (o + 1) (w.setCell ⟨g, o, none⟩ v) _ (h.set_ o v)
  exact ⟨cs', by rw [h1]; simp, h2⟩
theorem setCells_blk {w : World} {g : Nat} {t : TypeId} {cs : Array Value} (h : Blk w g t cs) (vs : List Value) (hl : vs.length = cs.size) : Blk (w.setCells g 0 vs) g t vs.toArray := by
 obtain ⟨cs', h1, h2⟩ := setCells_some vs 0 w cs h
 have : cs' = vs.toArray := by
  apply Array.ext
  ·simp; omega
  ·intro j hj1 hj2
   have hj : j < vs.length := by simpa using hj2
   have hc := World.cell?_setCells_in g vs 0 w (fun i hi => by rw [Nat.zero_add, h.cell]; simp; omega) j hj
   rw [Nat.zero_add, h2.cell, Array.getElem?_eq_getElem hj1] at hc
   simpa using hc
 rw [this] at h2
 exact h2
theorem setCells_grown {g : Nat} : ∀ (vs : List Value) (o : Nat) (w : World), w.grownBy (w.setCells g o vs) (some g)
 | [], _, w => World.grownBy.refl w _
 | v :: r, o, w => by
  have h := setCells_grown r (o + 1) (w.setCell ⟨g, o, none⟩ v) (g := g)
  have hs : (w.setCell ⟨g, o, none⟩ v).heap.size = w.heap.size := by simp
  refine ⟨h.os, h.tape, h.output, by rw [← hs]; exact h.size, fun k hk hne => ?_⟩
  rw [World.setCells]
  rw [h.block k (by rw [hs]; exact hk) hne]
  exact Below.heap_setCell _ _ _ _ (fun e => hne (by rw [e]))

section
variable {P : Program} {op : Oper} {a : Act} {w : World} {Q : Exit → Act → World → Prop}
/-- a store of a whole struct -/
theorem wp_store_blk {K : Act → World → Prop} (ty : TypeId) (x y : Operand) (ho : op.op = .store ty x y) (g : Nat) (t : TypeId) (cs vs : Array Value)
  (hx : a.eval x = .pointer (some ⟨g, 0, none⟩)) (hy : a.eval y = .agg vs) (hB : Blk w g t cs) (hsz : vs.size = cs.size) (hi : (P.info? ty).map (·.size) = some vs.size) (h1 : vs.all (·.oneCell') = true)
  (h : ∀ W, Blk W g t vs → w.grownBy W (some g) → K (a.put op.dst undef) W) : op.wp P a w K Q := by
 refine wp_store_mid ty x y ho g 0 vs hx hy (fun j hj => ?_) hi h1 (h _ ?_ (setCells_grown _ _ _))
 ·rw [Nat.zero_add, hB.cell, hB.frozen]
  exact ⟨by simp; omega, rfl⟩
 ·exact setCells_blk hB vs.toList (by simpa using hsz)
theorem wpList_store_blk {ops : Array Oper} {rest : List Oper} (hgd : op.guard = none) (ty : TypeId) (x y : Operand) (ho : op.op = .store ty x y) (g : Nat) (t : TypeId) (cs vs : Array Value)
  (hx : a.eval x = .pointer (some ⟨g, 0, none⟩)) (hy : a.eval y = .agg vs) (hB : Blk w g t cs) (hsz : vs.size = cs.size) (hi : (P.info? ty).map (·.size) = some vs.size) (h1 : vs.all (·.oneCell') = true)
  (h : ∀ W, Blk W g t vs → w.grownBy W (some g) → wpList P ops Q rest (a.put op.dst undef) W) : wpList P ops Q (op :: rest) a w :=
 wpList_plain hgd fun _ hK => wp_store_blk ty x y ho g t cs vs hx hy hB hsz hi h1 fun W hW hg => hK _ _ (h W hW hg)
/-- a result that lies in a block that is known whole -/
theorem results_blk1 {fn : Func} {t : Tmp} {ty : TypeId} (h : fn.results = #[.cell t ty]) (tmps : Array Value) (g : Nat) (bt : TypeId) (cs : Array Value) (hp : tmps.getD t undef = .pointer (some ⟨g, 0, none⟩)) (hB : Blk w g bt cs)
  {d : TypeDesc} (hu : P.underlying ty = some d) (hd : d.isRow = true) (hi : (P.info? ty).map (·.size) = some cs.size) : (results fn tmps).run P w = .ok (.agg cs) w := by
 have hr : w.rangeAt g 0 cs.toList := fun j v hv => by
  rw [Nat.zero_add, hB.cell]
  simpa using hv
 have := run_loadVar_mid w g 0 ty cs.toList d hr hu hd (by simpa using hi)
 have hp' : (tmps[t]?).getD undef = .pointer (some ⟨g, 0, none⟩) := by simpa using hp
 rw [Array.toArray_toList] at this
 simp [results, h, hp', asAddr, this]
theorem results_blk_tmp {fn : Func} {t u : Tmp} {ty : TypeId} (h : fn.results = #[.cell t ty, .tmp u]) (tmps : Array Value) (g : Nat) (bt : TypeId) (cs : Array Value) (hp : tmps.getD t undef = .pointer (some ⟨g, 0, none⟩)) (hB : Blk w g bt cs)
  {d : TypeDesc} (hu : P.underlying ty = some d) (hd : d.isRow = true) (hi : (P.info? ty).map (·.size) = some cs.size) : (results fn tmps).run P w = .ok (.tuple #[.agg cs, tmps.getD u undef]) w := by
 have hr : w.rangeAt g 0 cs.toList := fun j v hv => by
  rw [Nat.zero_add, hB.cell]
  simpa using hv
 have := run_loadVar_mid w g 0 ty cs.toList d hr hu hd (by simpa using hi)
 have hp' : (tmps[t]?).getD undef = .pointer (some ⟨g, 0, none⟩) := by simpa using hp
 rw [Array.toArray_toList] at this
 simp [results, h, hp', asAddr, this]
end
end Go.Proofs.YthjblcboainknaaGreatDoor
end
