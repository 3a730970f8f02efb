/- The words in which memory is told: a slice that reads as a list of numbers, a world that has only grown. Rows of numbers that the call itself makes by append; blocks that are known whole. More for regions that draw their order: what is kept may grow in the midst of a region. A struct stored into a block that is known whole; the world behind it keeps one name. The words for slices of structs and of slices, for what a loop leaves as it was, and for a statement over an iterator (gathered from the texts of the first seat). Plain: wheels, notes, finds; the trains of a find; the notes that a train breaks; guesses. Walk: the small tests of package guess: in, isTeeth, isFraction, above, isNote, isFind. Walk: isNote (by gen_note.py). Walk: isFind. -/
import Derived.Test.YtfgghicdkcjdgaaGreatDoorProg
import Derived.WalkKit
import Derived.WalkSpells
import Derived.WalkLawsBesides
import Derived.LoopTactic
import Derived.Deep.LoopGhost
import Derived.Lib.Hide
import Derived.Deep.Draws
import Derived.Deep.QuietTactic
import Derived.BigQuiet
import Derived.OwnWalk
import Derived.Laws.Rows
import Derived.Deep.RegionHeld3
import Derived.Deep.MidRow
import Derived.Outline
import Derived.RangeFuncNested
import Derived.RangeFuncBound
import Derived.OwnWalkIn
import Derived.TacticsInMore
import Derived.LoopIn
import Derived.LoopNIn
import Derived.Shelf.RegionOpen
import Derived.Deep.CutRange
section
namespace Go.Proofs.YtfgghicdkcjdgaaGreatDoor
open Go.RowKit

theorem block_of_add (a : Addr) (n : Nat) : (a.add n).block = a.block := by unfold Addr.add; split <;> rfl
theorem add_of_add (a : Addr) (i j : Nat) : (a.add i).add j = a.add (i + j) := by
 unfold Addr.add
 by_cases hi : i = 0 <;> by_cases hj : j = 0 <;> simp [hi, hj, Nat.add_assoc]
theorem add_lit (b o k : Nat) : (Addr.mk b o none).add k = ⟨b, o + k, none⟩ := by
 unfold Addr.add
 by_cases h : k = 0 <;> simp [h]

/- The world has only grown. -/
theorem fr_refl (w : World) : Below w.heap.size w w := Below.refl _ _
theorem fr_alloc {w W : World} (h : Below w.heap.size w W) (o : Obj) : Below w.heap.size w (W.alloc o) := h.alloc h.size o
theorem fr_drew {w W : World} (h : Below w.heap.size w W) : Below w.heap.size w W.drew := h.drew
theorem fr_drewN {w W : World} (h : Below w.heap.size w W) (n : Nat) : Below w.heap.size w (W.drewN n) := ⟨h.os, h.tape, h.output, h.size, h.block⟩
theorem fr_set {w W : World} (h : Below w.heap.size w W) {p : Addr} (hp : w.heap.size ≤ p.block) (u : Value) : Below w.heap.size w (W.setCell p u) := h.setCell hp u
theorem fr_call {w W W' : World} (h : Below w.heap.size w W) (k : Below W.heap.size W W') : Below w.heap.size w W' := h.trans (k.mono h.size)
theorem bcell {W w1 : World} (hb : Below W.heap.size W w1) : (∀ b o, b < W.heap.size → w1.cell? ⟨b, o, none⟩ = W.cell? ⟨b, o, none⟩) ∧ (∀ b o, b < W.heap.size → w1.frozen? ⟨b, o, none⟩ = W.frozen? ⟨b, o, none⟩) :=
 ⟨fun b o h => hb.cell (p := ⟨b, o, none⟩) h, fun b o h => hb.frozen (p := ⟨b, o, none⟩) h⟩

/-- What a region that makes memory keeps: the cells that lay there, and that the world has only grown. -/
theorem kp_step {W0 W W1 : World} (hb : Below W.heap.size W W1) (hS : (∀ p : Addr, p.block < W0.heap.size → W.cell? p = W0.cell? p) ∧ Below W0.heap.size W0 W) :
  (∀ p : Addr, p.block < W0.heap.size → W1.cell? p = W0.cell? p) ∧ Below W0.heap.size W0 W1 :=
 ⟨fun p h => (hb.cell (Nat.lt_of_lt_of_le h hS.2.size)).trans (hS.1 p h), fr_call hS.2 hb⟩

theorem kp_of {W0 W : World} {N : Nat} (h : Below N W0 W) : (∀ p : Addr, p.block < N → W.cell? p = W0.cell? p) ∧ Below N W0 W := ⟨fun _ hp => h.cell hp, h⟩
theorem kpn_step {W0 W W1 : World} {N : Nat} (hb : Below W.heap.size W W1) (hS : (∀ p : Addr, p.block < N → W.cell? p = W0.cell? p) ∧ Below N W0 W) (hN : N ≤ W0.heap.size) :
  (∀ p : Addr, p.block < N → W1.cell? p = W0.cell? p) ∧ Below N W0 W1 := kp_of (hS.2.trans (hb.mono (Nat.le_trans hN hS.2.size)))

/-- The slice value '.slice A n c' reads as the numbers xs. -/
def Rd (w : World) (A : Option Addr) (n : Nat) (xs : List Int) : Prop :=
 xs.length = n ∧ (0 < n → ∃ ad, A = some ad ∧ ad.block < w.heap.size ∧ ∀ j, j < n → w.cell? (ad.add j) = some (.int .i64 (xs[j]?.getD 0)))
theorem Rd.len {w : World} {A : Option Addr} {n : Nat} {xs : List Int} (h : Rd w A n xs) : xs.length = n := h.1
theorem Rd.keep {w w' : World} {A : Option Addr} {n : Nat} {xs : List Int} (h : Rd w A n xs) (hb : Below w.heap.size w w') : Rd w' A n xs :=
 ⟨h.1, fun hn => by
  obtain ⟨ad, e, hlt, hc⟩ := h.2 hn
  exact ⟨ad, e, Nat.lt_of_lt_of_le hlt hb.size, fun j hj => (hb.cell (by rw [block_of_add]; exact hlt)).trans (hc j hj)⟩⟩
theorem Rd.alloc {w : World} {A : Option Addr} {n : Nat} {xs : List Int} (h : Rd w A n xs) (o : Obj) : Rd (w.alloc o) A n xs := h.keep (fr_alloc (fr_refl w) o)
/-- the slice begins in a block from B on, or is nil -/
def Fresh (B : Nat) (A : Option Addr) : Prop := ∀ ad, A = some ad → B ≤ ad.block
theorem Rd.far {w w' : World} {A : Option Addr} {n g : Nat} {xs : List Int} (h : Rd w A n xs) (hg : w.grownBy w' (some g)) (hne : ∀ ad, A = some ad → ad.block ≠ g) : Rd w' A n xs :=
 ⟨h.1, fun hn => by
  obtain ⟨ad, e, hlt, hc⟩ := h.2 hn
  exact ⟨ad, e, Nat.lt_of_lt_of_le hlt hg.size, fun j hj => (World.cell?_of_block (hg.block _ (by rw [block_of_add]; exact hlt) (by rw [block_of_add]; intro e'; cases e'; exact hne ad e rfl))).trans (hc j hj)⟩⟩
theorem Fresh.ne {B g : Nat} {A : Option Addr} (h : Fresh B A) (hg : g < B) : ∀ ad, A = some ad → ad.block ≠ g := fun ad e => by have := h ad e; omega
theorem Rd.nil_ (w : World) (A : Option Addr) : Rd w A 0 [] := ⟨rfl, fun h => absurd h (by omega)⟩
theorem Rd.at_ {w : World} {A : Option Addr} {n : Nat} {xs : List Int} (h : Rd w A n xs) {k : Nat} (hk : k < n) :
  ∃ ad, A = some ad ∧ ad.block < w.heap.size ∧ w.cell? (ad.add k) = some (.int .i64 (xs[k]?.getD 0)) := by
 obtain ⟨ad, e, hb, hc⟩ := h.2 (by omega)
 exact ⟨ad, e, hb, hc k hk⟩
theorem Rd.take {w : World} {A : Option Addr} {n : Nat} {xs : List Int} (h : Rd w A n xs) {k : Nat} (hk : k ≤ n) : Rd w A k (xs.take k) := by
 refine ⟨by rw [List.length_take, h.1]; omega, fun hn => ?_⟩
 obtain ⟨ad, e, hb, hc⟩ := h.2 (by omega)
 refine ⟨ad, e, hb, fun j hj => ?_⟩
 rw [List.getElem?_take, if_pos hj]
 exact hc j (by omega)
theorem cell_new (w : World) (xs : Array Value) (t : TypeId) (j : Nat) : (w.alloc (.cells xs t)).cell? ⟨w.heap.size, j, none⟩ = xs[j]? := by
 have := heap_alloc_new w (.cells xs t)
 unfold World.cell?
 rw [this]
 rfl
/-- A new row of numbers. -/
theorem Rd.new (w : World) (t : TypeId) (ys : List Int) : Rd (w.alloc (.cells (ys.map (Value.int .i64)).toArray t)) (some ⟨w.heap.size, 0, none⟩) ys.length ys := by
 refine ⟨rfl, fun _ => ⟨_, rfl, by simp, fun j hj => ?_⟩⟩
 rw [add_lit, Nat.zero_add, cell_new]
 simp [hj]
theorem ret_bool {a b : Bool} (h : a = b) : Ending.returned (.bool a) = .returned (.bool b) := by rw [h]
theorem ret_int {k : IntKind} {a b : Int} (h : a = b) : Ending.returned (.int k a) = .returned (.int k b) := by rw [h]
theorem take_snoc' (xs : List Int) (k : Nat) (h : k < xs.length) : xs.take (k + 1) = xs.take k ++ [xs[k]?.getD 0] := by
 rw [List.take_succ_eq_append_getElem h]; simp [h]

/- quiet calls: contracts that state 'w = w'' -/
theorem quiet_left {P : Program} {f : FuncId} {args : Array Value} {w : World} {n : Nat} {v : Value}
  (h : Calls P f args (w.drewN n) fun e w' => e = .returned v ∧ w.drewN n = w') : Calls P f args (w.drewN n) fun e w'' => e = .returned v ∧ ∃ m, w'' = w.drewN m :=
 h.mono fun _ _ ⟨he, hm⟩ => ⟨he, n, hm.symm⟩
theorem quiet_add_left {P : Program} {f : FuncId} {args : Array Value} {w : World} {a n : Nat} {v : Value}
  (h : Calls P f args (w.drewN (a + n)) fun e w' => e = .returned v ∧ w.drewN (a + n) = w') :
  Calls P f args (w.drewN (a + n)) fun e w'' => e = .returned v ∧ ∃ m, w'' = w.drewN (a + m) :=
 h.mono fun _ _ ⟨he, hm⟩ => ⟨he, n, hm.symm⟩
end Go.Proofs.YtfgghicdkcjdgaaGreatDoor
end

section
namespace Go.Proofs.YtfgghicdkcjdgaaGreatDoor
open Go.RowKit

/-- block g is just the cells cs -/
def Blk (w : World) (g : Nat) (t : TypeId) (cs : Array Value) : Prop := w.heap[g]? = some (.cells cs t (0, 0))
section
variable {w w' : World} {g : Nat} {t : TypeId} {cs : Array Value}
theorem Blk.lt (h : Blk w g t cs) : g < w.heap.size := by
 rcases Nat.lt_or_ge g w.heap.size with hlt | hge
 ·exact hlt
 ·unfold Blk at h; rw [Array.getElem?_eq_none hge] at h; cases h
theorem Blk.cell (h : Blk w g t cs) (i : Nat) : w.cell? ⟨g, i, none⟩ = cs[i]? := by unfold Blk at h; unfold World.cell?; rw [h]; rfl
theorem Blk.frozen (h : Blk w g t cs) (i : Nat) : w.frozen? ⟨g, i, none⟩ = false := by
 unfold Blk at h
 simp [World.frozen?, h]
theorem Blk.new (w : World) (t : TypeId) (cs : Array Value) : Blk (w.alloc (.cells cs t)) w.heap.size t cs := heap_alloc_new w _
theorem Blk.new_at {w : World} {g : Nat} (t : TypeId) (cs : Array Value) (h : w.heap.size = g) : Blk (w.alloc (.cells cs t)) g t cs := h ▸ Blk.new w t cs
theorem heap_new_at {w : World} {g : Nat} (o : Obj) (h : w.heap.size = g) : (w.alloc o).heap[g]? = some o := h ▸ heap_alloc_new w o
theorem Blk.drew (h : Blk w g t cs) : Blk w.drew g t cs := h
theorem Blk.alloc (h : Blk w g t cs) (o : Obj) : Blk (w.alloc o) g t cs := (Below.heap_alloc w o g h.lt).trans h
theorem Blk.set_ (h : Blk w g t cs) (i : Nat) (u : Value) : Blk (w.setCell ⟨g, i, none⟩ u) g t (cs.setIfInBounds i u) := by
 unfold Blk at h ⊢
 simp [World.setCell, Array.getElem?_modify, h]
theorem Blk.far (h : Blk w g t cs) {p : Addr} (hp : g ≠ p.block) (u : Value) : Blk (w.setCell p u) g t cs := (Below.heap_setCell w p u g hp).trans h
theorem Blk.keep (h : Blk w g t cs) (hb : Below w.heap.size w w') : Blk w' g t cs := (hb.block g h.lt).trans h
theorem Blk.grown {row : Option Nat} (h : Blk w g t cs) (hb : w.grownBy w' row) (hg : some g ≠ row) : Blk w' g t cs := (hb.block g h.lt hg).trans h
theorem Blk.ne_ {g' : Nat} {t' : TypeId} {cs' : Array Value} (h : Blk w g t cs) (h' : Blk w g' t' cs') (hne : t ≠ t') : g ≠ g' := by
 rintro rfl
 unfold Blk at h h'
 rw [h] at h'
 injection h' with h'
 injection h' with _ ht
 exact hne ht
theorem grown_below {a b c : World} {r : Option Nat} (h : a.grownBy b r) (k : Below b.heap.size b c) : a.grownBy c r :=
 ⟨k.os.trans h.os, k.tape.trans h.tape, k.output.trans h.output, Nat.le_trans h.size k.size, fun i hi hn => (k.block i (Nat.lt_of_lt_of_le hi h.size)).trans (h.block i hi hn)⟩
theorem below_grown {a b c : World} {r : Option Nat} (h : Below a.heap.size a b) (k : b.grownBy c r) : a.grownBy c r :=
 ⟨k.os.trans h.os, k.tape.trans h.tape, k.output.trans h.output, Nat.le_trans h.size k.size, fun i hi hn => (k.block i (Nat.lt_of_lt_of_le hi h.size) hn).trans (h.block i hi)⟩
theorem grown_trans {a b c : World} {r : Option Nat} (h : a.grownBy b r) (k : b.grownBy c r) : a.grownBy c r :=
 ⟨k.os.trans h.os, k.tape.trans h.tape, k.output.trans h.output, Nat.le_trans h.size k.size, fun i hi hn => (k.block i (Nat.lt_of_lt_of_le hi h.size) hn).trans (h.block i hi hn)⟩
theorem own_blk_ne {base : Nat} {e : TypeId} {size n : Nat} {v : Value} {xs : List Value} (h : w.ownsRow base e size v n xs) (hg : Blk w g t cs) (hne : e ≠ t) : v.ownBlock ≠ some g := by
 rcases h.2 with ⟨rfl, _⟩ | ⟨g', cap, cur, rfl, _, hh, _⟩
 ·simp [Value.ownBlock]
 ·intro he
  have : g' = g := by simpa [Value.ownBlock] using he
  subst this
  unfold Blk at hg
  rw [hg] at hh
  injection hh with hh
  injection hh with _ ht
  exact hne ht.symm
/-- no row of cells is a map -/
theorem own_map_ne {base : Nat} {e : TypeId} {size n : Nat} {v : Value} {xs : List Value} (h : w.ownsRow base e size v n xs) {es : Array MapEntry} {k : Nat} (hg : w.heap[g]? = some (.map es k)) : v.ownBlock ≠ some g := by
 rcases h.2 with ⟨rfl, _⟩ | ⟨g', cap, cur, rfl, _, hh, _⟩
 ·simp [Value.ownBlock]
 ·intro he
  have : g' = g := by simpa [Value.ownBlock] using he
  subst this
  rw [hg] at hh
  cases hh
end

/-- the slice value v is nil, or a row of the call's own, and reads as xs -/
def Own (w : World) (base : Nat) (v : Value) (xs : List Int) : Prop := w.ownsRow base 3 1 v xs.length (xs.map (Value.int .i64))
theorem Own.nil (w : World) (base : Nat) : Own w base (.slice none 0 0) [] := World.ownsRow_nil w base _ 1
theorem grown_of_below {w w' : World} (hb : Below w.heap.size w w') : w.grownBy w' none := ⟨hb.os, hb.tape, hb.output, hb.size, fun k hk _ => hb.block k hk⟩
theorem owns_keep {w w' : World} {base : Nat} {e : TypeId} {size n : Nat} {v : Value} {xs : List Value} (h : w.ownsRow base e size v n xs) (hb : Below w.heap.size w w') : w'.ownsRow base e size v n xs := by
 refine h.kept (grown_of_below hb) ?_
 cases hv : v.ownBlock
 ·exact .inl rfl
 ·exact .inr (by simp)
theorem Own.keep {w w' : World} {base : Nat} {v : Value} {xs : List Int} (h : Own w base v xs) (hb : Below w.heap.size w w') : Own w' base v xs := owns_keep h hb
theorem owns_set {w : World} {base : Nat} {e t : TypeId} {size n g i : Nat} {v u : Value} {xs : List Value} {cs : Array Value} (h : w.ownsRow base e size v n xs) (hg : Blk w g t cs) (hne : e ≠ t) : (w.setCell ⟨g, i, none⟩ u).ownsRow base e size v n xs := by
 obtain ⟨h1, h2⟩ := h
 refine ⟨h1, ?_⟩
 rcases h2 with h2 | ⟨g', cap, cur, hv, hg', hh, r⟩
 ·exact Or.inl h2
 ·refine Or.inr ⟨g', cap, cur, hv, hg', ?_, r⟩
  rw [Below.heap_setCell]
  ·exact hh
  ·rintro rfl
   unfold Blk at hg
   rw [hg] at hh
   injection hh with hh
   injection hh with _ ht
   exact hne ht.symm
theorem Own.set {w : World} {base g i : Nat} {t : TypeId} {v u : Value} {xs : List Int} {cs : Array Value} (h : Own w base v xs) (hg : Blk w g t cs) (hne : (3 : TypeId) ≠ t) : Own (w.setCell ⟨g, i, none⟩ u) base v xs := owns_set h hg hne
/-- a row of the call's own, beside a block that is written -/
def OwnB (w : World) (base : Nat) (v : Value) (xs : List Int) (g : Nat) (t : TypeId) : Prop := Own w base v xs ∧ ∃ cs, Blk w g t cs
theorem OwnB.set {w : World} {base g i : Nat} {t : TypeId} {v u : Value} {xs : List Int} (h : OwnB w base v xs g t) (hne : (3 : TypeId) ≠ t) : OwnB (w.setCell ⟨g, i, none⟩ u) base v xs g t := by
 obtain ⟨h1, cs, h2⟩ := h
 exact ⟨h1.set h2 hne, _, h2.set_ i u⟩
theorem Own.form {w : World} {base : Nat} {v : Value} {xs : List Int} (h : Own w base v xs) : ∃ A c, v = .slice A xs.length c := by
 rcases h.2 with ⟨rfl, h0⟩ | ⟨g, cap, cur, rfl, _⟩
 ·exact ⟨none, 0, by rw [h0]⟩
 ·exact ⟨_, _, rfl⟩
theorem Own.rd {w : World} {base : Nat} {A : Option Addr} {n c : Nat} {xs : List Int} (h : Own w base (.slice A n c) xs) : Rd w A n xs := by
 have hn : n = xs.length := by
  rcases h.2 with ⟨h0, h1⟩ | ⟨g, cap, cur, hv, _⟩
  ·injection h0 with _ h2; rw [h1]; exact h2
  ·injection hv
 refine ⟨hn.symm, fun hpos => ?_⟩
 rcases h.2 with ⟨h0, h1⟩ | ⟨g, cap, cur, hv, hb, hh, _⟩
 ·omega
 ·injection hv with hA _ hc
  subst hA
  have hlt : g < w.heap.size := by
   rcases Nat.lt_or_ge g w.heap.size with hlt | hge
   ·exact hlt
   ·rw [Array.getElem?_eq_none hge] at hh; cases hh
  refine ⟨_, rfl, hlt, fun j hj => ?_⟩
  refine World.ownsRow.cells h (g := g) (by simp [Value.ownBlock]) j _ ?_
  rw [List.getElem?_map, List.getElem?_eq_getElem (by omega)]
  simp

theorem Own.fresh {w : World} {base : Nat} {A : Option Addr} {n c : Nat} {xs : List Int} (h : Own w base (.slice A n c) xs) : Fresh base A := by
 intro ad e
 subst e
 rcases h.2 with ⟨h0, _⟩ | ⟨g, cap, cur, hv, hb, _⟩
 ·cases h0
 ·injection hv with hA _ _
  cases hA
  exact hb
theorem info_int : (Tryz.prog.info? 3).map (fun i => (i.zero, i.size, i.bytes)) = some (some (.int .i64 0), 1, 8) := by kernel_rfl

/-- 'append(out, y)', the row being the call's own -/
theorem app_int {ops : Array Oper} {rest : List Oper} {o : Oper} {a : Act} {Q : Exit → Act → World → Prop} {W : World} {y : Int} (hgd : o.guard = none) (s x : Operand)
  (ho : o.op = .call { callee := .builtin .append, args := #[s, x], argTypes := #[34, 34] })
  (base : Nat) (v : Value) (xs : List Int) (hs : a.eval s = v) (hx : a.eval x = .slice (some ⟨W.heap.size, 0, none⟩) 1 1) (hown : Own W base v xs) (hn : xs.length < 1000000) (hbase : base ≤ W.heap.size)
  (h : ∀ A c w', Own w' base (.slice A (xs.length + 1) c) (xs ++ [y]) → (W.alloc (.cells #[.int .i64 y] 3)).grownBy w' v.ownBlock → wpList Tryz.prog ops Q rest (a.put o.dst (.slice A (xs.length + 1) c)) w') :
  wpList Tryz.prog ops Q (o :: rest) a (W.alloc (.cells #[.int .i64 y] 3)) := by
 obtain ⟨i0, hi, hz0, hz1, hz2⟩ := info_parts info_int
 refine wpList_append_own _ hgd s x _ ho base _ i0 _ 1 8 Tryz.underlying34 hi hz0 hz1 hz2 rfl (by omega) v _ _ hs (World.ownsRow.alloc hown _) ⟨W.heap.size, 0, none⟩ 1 1 [.int .i64 y] hx rfl ?_ (by simp [Value.oneCell'])
  (by unfold maxLen; omega) (by omega) (by simp; omega) ?_
 ·intro j u hj
  match j, hj with
  | 0, hj => simp at hj; subst hj; rw [add_lit, cell_new]; rfl
 ·intro v' w' hown' hg _
  have hown2 : Own w' base v' (xs ++ [y]) := by
   unfold Own
   rw [List.length_append, List.map_append]
   exact hown'
  obtain ⟨A, c, rfl⟩ := hown2.form
  rw [List.length_append] at hown2 ⊢
  exact h A c w' hown2 hg
theorem own_ge {w : World} {base : Nat} {v : Value} {xs : List Int} (h : Own w base v xs) : ∀ k, v.ownBlock = some k → base ≤ k := fun k hk => (World.ownsRow.lt h k hk).1
end Go.Proofs.YtfgghicdkcjdgaaGreatDoor
end

section
namespace Go.Proofs.YtfgghicdkcjdgaaGreatDoor
open Go.RowKit

theorem wpAnyH_mono {P : Program} {md : Region.Mode} {ops : Array Oper} {Q : Exit → Act → World → Prop} {S S' : World → Prop} (hS : ∀ w, S' w → S w) :
  ∀ (fuel : Nat) (listed : Array Bool) (a : Act) (w : World), wpAnyH P md ops Q S' fuel listed a w → wpAnyH P md ops Q S fuel listed a w
 | 0, _, _, _, h => h
 | fuel + 1, _, _, _, h => ⟨h.1, fun i hi => wpOp_mono (fun a' w' h' => ⟨hS _ h'.1, wpAnyH_mono hS fuel _ a' w' h'.2⟩) (h.2 i hi)⟩

/-- In the midst of a region: from here on more is kept. -/
theorem held_more {P : Program} {md : Region.Mode} {ops : Array Oper} {Q : Exit → Act → World → Prop} {S S' : World → Prop} {fuel : Nat} {listed : Array Bool} {a : Act} {w : World} (hS : ∀ w, S' w → S w)
  (h : ∀ K : Act → World → Prop, Shut (∀ a w, S' w → (S' w → wpAnyH P md ops Q S' fuel listed a w) → K a w) → K a w) : wpAnyH P md ops Q S fuel listed a w :=
 wpAnyH_mono hS _ _ _ _ (h (fun a w => wpAnyH P md ops Q S' fuel listed a w) (fun _ _ hs hg => hg hs))
end Go.Proofs.YtfgghicdkcjdgaaGreatDoor
end

section
namespace Go.Proofs.YtfgghicdkcjdgaaGreatDoor
open Go.RowKit

theorem setCells_some {g : Nat} {t : TypeId} : ∀ (vs : List Value) (o : Nat) (w : World) (cs : Array Value), Blk w g t cs → ∃ cs', cs'.size = cs.size ∧ Blk (w.setCells g o vs) g t cs'
 | [], _, _, cs, h => ⟨cs, rfl, h⟩
 | v :: r, o, w, cs, h => by
  obtain ⟨cs', h1, h2⟩ := setCells_some r (o + 1) (w.setCell ⟨g, o, none⟩ v) _ (h.set_ o v)
  exact ⟨cs', by rw [h1]; simp, h2⟩
theorem setCells_blk {w : World} {g : Nat} {t : TypeId} {cs : Array Value} (h : Blk w g t cs) (vs : List Value) (hl : vs.length = cs.size) : Blk (w.setCells g 0 vs) g t vs.toArray := by
 obtain ⟨cs', h1, h2⟩ := setCells_some vs 0 w cs h
 have : cs' = vs.toArray := by
  apply Array.ext
  ·simp; omega
  ·intro j hj1 hj2
   have hj : j < vs.length := by simpa using hj2
   have hc := World.cell?_setCells_in g vs 0 w (fun i hi => by rw [Nat.zero_add, h.cell]; simp; omega) j hj
   rw [Nat.zero_add, h2.cell, Array.getElem?_eq_getElem hj1] at hc
   simpa using hc
 rw [this] at h2
 exact h2
theorem setCells_grown {g : Nat} : ∀ (vs : List Value) (o : Nat) (w : World), w.grownBy (w.setCells g o vs) (some g)
 | [], _, w => World.grownBy.refl w _
 | v :: r, o, w => by
  have h := setCells_grown r (o + 1) (w.setCell ⟨g, o, none⟩ v) (g := g)
  have hs : (w.setCell ⟨g, o, none⟩ v).heap.size = w.heap.size := by simp
  refine ⟨h.os, h.tape, h.output, by rw [← hs]; exact h.size, fun k hk hne => ?_⟩
  rw [World.setCells]
  rw [h.block k (by rw [hs]; exact hk) hne]
  exact Below.heap_setCell _ _ _ _ (fun e => hne (by rw [e]))

section
variable {P : Program} {op : Oper} {a : Act} {w : World} {Q : Exit → Act → World → Prop}
/-- a store of a whole struct -/
theorem wp_store_blk {K : Act → World → Prop} (ty : TypeId) (x y : Operand) (ho : op.op = .store ty x y) (g : Nat) (t : TypeId) (cs vs : Array Value)
  (hx : a.eval x = .pointer (some ⟨g, 0, none⟩)) (hy : a.eval y = .agg vs) (hB : Blk w g t cs) (hsz : vs.size = cs.size) (hi : (P.info? ty).map (·.size) = some vs.size) (h1 : vs.all (·.oneCell') = true)
  (h : ∀ W, Blk W g t vs → w.grownBy W (some g) → K (a.put op.dst undef) W) : op.wp P a w K Q := by
 refine wp_store_mid ty x y ho g 0 vs hx hy (fun j hj => ?_) hi h1 (h _ ?_ (setCells_grown _ _ _))
 ·rw [Nat.zero_add, hB.cell, hB.frozen]
  exact ⟨by simp; omega, rfl⟩
 ·exact setCells_blk hB vs.toList (by simpa using hsz)
theorem wpList_store_blk {ops : Array Oper} {rest : List Oper} (hgd : op.guard = none) (ty : TypeId) (x y : Operand) (ho : op.op = .store ty x y) (g : Nat) (t : TypeId) (cs vs : Array Value)
  (hx : a.eval x = .pointer (some ⟨g, 0, none⟩)) (hy : a.eval y = .agg vs) (hB : Blk w g t cs) (hsz : vs.size = cs.size) (hi : (P.info? ty).map (·.size) = some vs.size) (h1 : vs.all (·.oneCell') = true)
  (h : ∀ W, Blk W g t vs → w.grownBy W (some g) → wpList P ops Q rest (a.put op.dst undef) W) : wpList P ops Q (op :: rest) a w :=
 wpList_plain hgd fun _ hK => wp_store_blk ty x y ho g t cs vs hx hy hB hsz hi h1 fun W hW hg => hK _ _ (h W hW hg)
/-- a result that lies in a block that is known whole -/
theorem results_blk1 {fn : Func} {t : Tmp} {ty : TypeId} (h : fn.results = #[.cell t ty]) (tmps : Array Value) (g : Nat) (bt : TypeId) (cs : Array Value) (hp : tmps.getD t undef = .pointer (some ⟨g, 0, none⟩)) (hB : Blk w g bt cs)
  {d : TypeDesc} (hu : P.underlying ty = some d) (hd : d.isRow = true) (hi : (P.info? ty).map (·.size) = some cs.size) : (results fn tmps).run P w = .ok (.agg cs) w := by
 have hr : w.rangeAt g 0 cs.toList := fun j v hv => by
  rw [Nat.zero_add, hB.cell]
  simpa using hv
 have := run_loadVar_mid w g 0 ty cs.toList d hr hu hd (by simpa using hi)
 have hp' : (tmps[t]?).getD undef = .pointer (some ⟨g, 0, none⟩) := by simpa using hp
 rw [Array.toArray_toList] at this
 simp [results, h, hp', asAddr, this]
theorem results_blk_tmp {fn : Func} {t u : Tmp} {ty : TypeId} (h : fn.results = #[.cell t ty, .tmp u]) (tmps : Array Value) (g : Nat) (bt : TypeId) (cs : Array Value) (hp : tmps.getD t undef = .pointer (some ⟨g, 0, none⟩)) (hB : Blk w g bt cs)
  {d : TypeDesc} (hu : P.underlying ty = some d) (hd : d.isRow = true) (hi : (P.info? ty).map (·.size) = some cs.size) : (results fn tmps).run P w = .ok (.tuple #[.agg cs, tmps.getD u undef]) w := by
 have hr : w.rangeAt g 0 cs.toList := fun j v hv => by
  rw [Nat.zero_add, hB.cell]
  simpa using hv
 have := run_loadVar_mid w g 0 ty cs.toList d hr hu hd (by simpa using hi)
 have hp' : (tmps[t]?).getD undef = .pointer (some ⟨g, 0, none⟩) := by simpa using hp
 rw [Array.toArray_toList] at this
 simp [results, h, hp', asAddr, this]
end
end Go.Proofs.YtfgghicdkcjdgaaGreatDoor
end

section
namespace Go.Proofs.YtfgghicdkcjdgaaGreatDoor
open Go.RowKit Go.Shelf

theorem heap_lt {w : World} {M : Nat} {o : Obj} (h : w.heap[M]? = some o) : M < w.heap.size := by
 rcases Nat.lt_or_ge M w.heap.size with hlt | hge
 ·exact hlt
 ·rw [Array.getElem?_eq_none hge] at h; cases h

/-- the slice value that begins at A reads as the rows, each of k cells -/
def RdS (w : World) (A : Option Addr) (k : Nat) (rows : List (List Value)) : Prop :=
 0 < rows.length → ∃ ad, A = some ad ∧ ad.block < w.heap.size ∧ ∀ i r, rows[i]? = some r → r.length = k ∧ ∀ j v, r[j]? = some v → w.cell? (ad.add (i * k + j)) = some v
theorem RdS.keep {w w' : World} {A : Option Addr} {k : Nat} {rows : List (List Value)} (h : RdS w A k rows) (hb : Below w.heap.size w w') : RdS w' A k rows := fun hn => by
 obtain ⟨ad, e, hlt, hc⟩ := h hn
 exact ⟨ad, e, Nat.lt_of_lt_of_le hlt hb.size, fun i r hr => ⟨(hc i r hr).1, fun j v hv => (hb.cell (by rw [block_of_add]; exact hlt)).trans ((hc i r hr).2 j v hv)⟩⟩
theorem RdS.at_ {w : World} {A : Option Addr} {k : Nat} {rows : List (List Value)} (h : RdS w A k rows) {i : Nat} {r : List Value} (hi : rows[i]? = some r) :
  ∃ ad, A = some ad ∧ ad.block < w.heap.size ∧ r.length = k ∧ ∀ j v, r[j]? = some v → w.cell? (ad.add (i * k + j)) = some v := by
 have hl : i < rows.length := (List.getElem?_eq_some_iff.1 hi).1
 obtain ⟨ad, e, hlt, hc⟩ := h (by omega)
 exact ⟨ad, e, hlt, (hc i r hi).1, (hc i r hi).2⟩


theorem all_step {α : Type} {p : α → Bool} {l : List α} {k : Nat} (h : k < l.length) (ha : (l.take k).all p = true) (hf : p l[k] = true) : (l.take (k + 1)).all p = true := by
 rw [List.take_succ_eq_append_getElem h, List.all_append, ha]; simp [hf]
theorem all_no {α : Type} {p : α → Bool} {l : List α} {k : Nat} (h : k < l.length) (hf : p l[k] = false) : l.all p = false := by
 rw [List.all_eq_false]; exact ⟨l[k], List.getElem_mem h, by simp [hf]⟩


/-- the slice value v is nil, or a row of structs of the call's own -/
def OwnS (w : World) (base : Nat) (e : TypeId) (k : Nat) (v : Value) (rows : List (List Value)) : Prop := w.ownsRow base e k v rows.length rows.flatten ∧ ∀ r ∈ rows, r.length = k
theorem flat_len {k : Nat} : ∀ {rows : List (List Value)}, (∀ r ∈ rows, r.length = k) → rows.flatten.length = rows.length * k
 | [], _ => by simp
 | r :: rows, h => by
  have h1 := h r (by simp)
  have h2 := flat_len (rows := rows) (fun r hr => h r (by simp [hr]))
  simp only [List.flatten_cons, List.length_append, List.length_cons, h1, h2, Nat.add_mul]
  omega
theorem flat_get {k : Nat} : ∀ {rows : List (List Value)} (_ : ∀ r ∈ rows, r.length = k) (i : Nat) (r : List Value) (j : Nat) (v : Value), rows[i]? = some r → r[j]? = some v → rows.flatten[i * k + j]? = some v
 | [], _, i, r, j, v, h1, _ => by simp at h1
 | r0 :: rows, h, 0, r, j, v, h1, h2 => by
  have : r0 = r := by simpa using h1
  subst this
  have hj : j < r0.length := (List.getElem?_eq_some_iff.1 h2).1
  simp only [List.flatten_cons, Nat.zero_mul, Nat.zero_add]
  rw [List.getElem?_append_left hj]
  exact h2
 | r0 :: rows, h, i + 1, r, j, v, h1, h2 => by
  have h0 := h r0 (by simp)
  have := flat_get (rows := rows) (fun r hr => h r (by simp [hr])) i r j v (by simpa using h1) h2
  simp only [List.flatten_cons]
  rw [List.getElem?_append_right (by rw [h0, Nat.add_mul]; omega), h0]
  rw [show (i + 1) * k + j - k = i * k + j by rw [Nat.add_mul]; omega]
  exact this
theorem OwnS.nil (w : World) (base : Nat) (e : TypeId) (k : Nat) : OwnS w base e k (.slice none 0 0) [] := ⟨World.ownsRow_nil w base e k, fun r h => by cases h⟩
theorem OwnS.keep {w w' : World} {base : Nat} {e : TypeId} {k : Nat} {v : Value} {rows : List (List Value)} (h : OwnS w base e k v rows) (hb : Below w.heap.size w w') : OwnS w' base e k v rows := ⟨owns_keep h.1 hb, h.2⟩
theorem OwnS.far {w w' : World} {base M : Nat} {e : TypeId} {k : Nat} {v : Value} {rows : List (List Value)} (h : OwnS w base e k v rows) (hg : w.grownBy w' (some M)) (hM : M < base) : OwnS w' base e k v rows :=
 ⟨World.ownsRow.kept h.1 hg (.inr (by intro e'; have := (World.ownsRow.lt h.1 M e').1; omega)), h.2⟩
theorem OwnS.form {w : World} {base : Nat} {e : TypeId} {k : Nat} {v : Value} {rows : List (List Value)} (h : OwnS w base e k v rows) : ∃ A c, v = .slice A rows.length c := by
 rcases h.1.2 with ⟨rfl, h0⟩ | ⟨g, cap, cur, rfl, _⟩
 ·exact ⟨none, 0, by rw [h0]⟩
 ·exact ⟨_, _, rfl⟩
theorem OwnS.rd {w : World} {base : Nat} {e : TypeId} {k n c : Nat} {A : Option Addr} {rows : List (List Value)} (h : OwnS w base e k (.slice A n c) rows) : RdS w A k rows := fun hpos => by
 have hc := h.1.2
 rcases hc with ⟨h0, h1⟩ | ⟨g, cap, cur, hv, hb, hh, _⟩
 ·omega
 ·injection hv with hA _ _
  subst hA
  refine ⟨_, rfl, heap_lt hh, fun i r hi => ⟨h.2 r (List.mem_of_getElem? hi), fun j v hj => ?_⟩⟩
  have := World.ownsRow.cells h.1 (g := g) (by simp [Value.ownBlock]) _ _ (flat_get h.2 i r j v hi hj)
  exact this
theorem OwnS.fresh {w : World} {base : Nat} {e : TypeId} {k n c : Nat} {A : Option Addr} {rows : List (List Value)} (h : OwnS w base e k (.slice A n c) rows) : Fresh base A := by
 intro ad e'
 subst e'
 rcases h.1.2 with ⟨h0, _⟩ | ⟨g, cap, cur, hv, hb, _⟩
 ·cases h0
 ·injection hv with hA _ _
  cases hA
  exact hb
theorem OwnS.ge {w : World} {base : Nat} {e : TypeId} {k : Nat} {v : Value} {rows : List (List Value)} (h : OwnS w base e k v rows) : ∀ i, v.ownBlock = some i → base ≤ i := fun i hi => (World.ownsRow.lt h.1 i hi).1

/-- 'append(out, x)', the row of structs being the call's own -/
theorem app_row {ops : Array Oper} {rest : List Oper} {o : Oper} {a : Act} {Q : Exit → Act → World → Prop} {W : World} {E T : TypeId} {z : Value} {k bytes : Nat} {r : List Value} (hgd : o.guard = none) (s x : Operand)
  (ho : o.op = .call { callee := .builtin .append, args := #[s, x], argTypes := #[T, T] }) (hu : Tryz.prog.underlying T = some (.slice E)) (hinfo : (Tryz.prog.info? E).map (fun i => (i.zero, i.size, i.bytes)) = some (some z, k, bytes)) (hzk : z.cells.size = k) (hk : 0 < k) (hby : bytes ≤ 1000)
  (base : Nat) (v : Value) (rows : List (List Value)) (hs : a.eval s = v) (hx : a.eval x = .slice (some ⟨W.heap.size, 0, none⟩) 1 1) (hown : OwnS W base E k v rows) (hrl : r.length = k) (h1 : ∀ u ∈ r, u.oneCell' = true) (hn : rows.length < 1000000) (hbase : base ≤ W.heap.size)
  (h : ∀ A c w', OwnS w' base E k (.slice A (rows.length + 1) c) (rows ++ [r]) → (W.alloc (.cells r.toArray E)).grownBy w' v.ownBlock → wpList Tryz.prog ops Q rest (a.put o.dst (.slice A (rows.length + 1) c)) w') :
  wpList Tryz.prog ops Q (o :: rest) a (W.alloc (.cells r.toArray E)) := by
 obtain ⟨i0, hi, hz0, hz1, hz2⟩ := info_parts hinfo
 have hb : (rows.length + 1) * bytes ≤ 1000000 * 1000 := Nat.mul_le_mul (by omega) hby
 refine wpList_append_own _ hgd s x _ ho base _ i0 _ k bytes hu hi hz0 hz1 hz2 hzk hk v _ _ hs (World.ownsRow.alloc hown.1 _) ⟨W.heap.size, 0, none⟩ 1 1 r hx (by rw [hrl]; omega) ?_ h1
  (by unfold maxLen; omega) (by omega) (by simp; omega) ?_
 ·intro j u hj
  rw [add_lit, Nat.zero_add, cell_new]
  simpa using hj
 ·intro v' w' hown' hg _
  have hown2 : OwnS w' base E k v' (rows ++ [r]) := by
   refine ⟨?_, fun q hq => ?_⟩
   ·rw [List.length_append, List.flatten_append]
    simpa using hown'
   ·rcases List.mem_append.1 hq with h2 | h2
    ·exact hown.2 q h2
    ·have : q = r := by simpa using h2
     rw [this]; exact hrl
  obtain ⟨A, c, rfl⟩ := hown2.form
  rw [List.length_append] at hown2 ⊢
  exact h A c w' hown2 hg

theorem RdS.far {w w' : World} {A : Option Addr} {k g : Nat} {rows : List (List Value)} (h : RdS w A k rows) (hg : w.grownBy w' (some g)) (hne : ∀ ad, A = some ad → ad.block ≠ g) : RdS w' A k rows := fun hn => by
 obtain ⟨ad, e, hlt, hc⟩ := h hn
 exact ⟨ad, e, Nat.lt_of_lt_of_le hlt hg.size, fun i r hr => ⟨(hc i r hr).1, fun j v hv => (World.cell?_of_block (hg.block _ (by rw [block_of_add]; exact hlt) (by rw [block_of_add]; intro e'; cases e'; exact hne ad e rfl))).trans ((hc i r hr).2 j v hv)⟩⟩

theorem OwnS.addr {w : World} {base : Nat} {e : TypeId} {k n c : Nat} {A : Option Addr} {rows : List (List Value)} (h : OwnS w base e k (.slice A n c) rows) (hp : 0 < rows.length) : ∃ g, A = some ⟨g, 0, none⟩ ∧ g < w.heap.size ∧ n ≤ c := by
 rcases h.1.2 with ⟨h0, h1⟩ | ⟨g, cap, cur, hv, hb, hh, hle, _⟩
 ·omega
 ·injection hv with hA h1 h2
  exact ⟨g, hA, heap_lt hh, by omega⟩

/-- W is w with new blocks, and writes to the blocks of S alone -/
structure Exc (S : Nat → Prop) (w W : World) : Prop where
 os : W.os = w.os
 tape : W.tape = w.tape
 output : W.output = w.output
 size : w.heap.size ≤ W.heap.size
 block : ∀ k, k < w.heap.size → ¬ S k → W.heap[k]? = w.heap[k]?
section
variable {S : Nat → Prop} {w W W' : World}
theorem Exc.refl (S : Nat → Prop) (w : World) : Exc S w w := ⟨rfl, rfl, rfl, Nat.le_refl _, fun _ _ _ => rfl⟩
theorem Exc.below (h : Exc S w W) (hb : Below W.heap.size W W') : Exc S w W' :=
 ⟨hb.os.trans h.os, hb.tape.trans h.tape, hb.output.trans h.output, Nat.le_trans h.size hb.size, fun k hk hn => (hb.block k (Nat.lt_of_lt_of_le hk h.size)).trans (h.block k hk hn)⟩
theorem Exc.grown {r : Option Nat} (h : Exc S w W) (hg : W.grownBy W' r) (hr : ∀ k, r = some k → S k ∨ w.heap.size ≤ k) : Exc S w W' :=
 ⟨hg.os.trans h.os, hg.tape.trans h.tape, hg.output.trans h.output, Nat.le_trans h.size hg.size, fun k hk hn => (hg.block k (Nat.lt_of_lt_of_le hk h.size) (by
  intro e
  rcases hr k e.symm with h1 | h1
  ·exact hn h1
  ·omega)).trans (h.block k hk hn)⟩
theorem grown_set (W : World) (p : Addr) (u : Value) : W.grownBy (W.setCell p u) (some p.block) :=
 ⟨rfl, rfl, rfl, by simp, fun k _ hne => Below.heap_setCell _ _ _ _ (fun e => hne (by rw [e]))⟩
theorem Exc.set (h : Exc S w W) {p : Addr} (hp : S p.block ∨ w.heap.size ≤ p.block) (u : Value) : Exc S w (W.setCell p u) :=
 h.grown (grown_set W p u) (fun k e => by cases e; exact hp)
theorem Exc.alloc (h : Exc S w W) (o : Obj) : Exc S w (W.alloc o) := h.below (fr_alloc (fr_refl W) o)
theorem Exc.put (h : Exc S w W) {l : Nat} (o : Obj) (hl : S l ∨ w.heap.size ≤ l) : Exc S w (W.putObj l o) :=
 h.grown (grownBy_putObj' W l o) (fun k e => by cases e; exact hl)
theorem Exc.blk {g : Nat} {t : TypeId} {cs : Array Value} (h : Exc S w W) (hB : Blk w g t cs) (hg : ¬ S g) : Blk W g t cs := (h.block g hB.lt hg).trans hB
theorem Exc.cell {p : Addr} (h : Exc S w W) (hp : p.block < w.heap.size) (hg : ¬ S p.block) : W.cell? p = w.cell? p := World.cell?_of_block (h.block _ hp hg)
theorem Exc.rd {A : Option Addr} {n : Nat} {xs : List Int} (h : Exc S w W) (hr : Rd w A n xs) (hA : ∀ ad, A = some ad → ¬ S ad.block) : Rd W A n xs :=
 ⟨hr.1, fun hn => by
  obtain ⟨ad, e, hlt, hc⟩ := hr.2 hn
  exact ⟨ad, e, Nat.lt_of_lt_of_le hlt h.size, fun j hj => (h.cell (by rw [block_of_add]; exact hlt) (by rw [block_of_add]; exact hA ad e)).trans (hc j hj)⟩⟩
theorem Exc.toBelow {N : Nat} {w0 : World} (h : Exc S w W) (hb : Below N w0 w) (hS : ∀ k, S k → N ≤ k) (hN : N ≤ w.heap.size) : Below N w0 W :=
 ⟨h.os.trans hb.os, h.tape.trans hb.tape, h.output.trans hb.output, Nat.le_trans hb.size h.size, fun k hk => (h.block k (Nat.lt_of_lt_of_le hk hN) (fun hs => by have := hS k hs; omega)).trans (hb.block k hk)⟩
theorem Exc.mono {S' : Nat → Prop} (h : Exc S w W) (hS : ∀ k, S k → S' k) : Exc S' w W := ⟨h.os, h.tape, h.output, h.size, fun k hk hn => h.block k hk (fun hs => hn (hS k hs))⟩
theorem Exc.trans_ {S' : Nat → Prop} (h : Exc S w W) (k : Exc S' W W') (hS : ∀ i, S' i → S i ∨ w.heap.size ≤ i) : Exc S w W' :=
 ⟨k.os.trans h.os, k.tape.trans h.tape, k.output.trans h.output, Nat.le_trans h.size k.size, fun i hi hn => (k.block i (Nat.lt_of_lt_of_le hi h.size) (fun hs => by
  rcases hS i hs with h1 | h1
  ·exact hn h1
  ·omega)).trans (h.block i hi hn)⟩
end
/-- a row of at least two cells is no block of one cell -/
theorem rd_ne_one {w : World} {A : Option Addr} {n g : Nat} {xs : List Int} {t : TypeId} {v : Value} (hr : Rd w A n xs) (hn : 2 ≤ n) (hB : Blk w g t #[v]) : ∀ ad, A = some ad → ad.block ≠ g := by
 rintro ad rfl rfl
 obtain ⟨ad', e, _, hc⟩ := hr.2 (by omega)
 cases e
 have h0 := hc 0 (by omega)
 have h1 := hc 1 (by omega)
 obtain ⟨b, o, p⟩ := ad
 unfold Blk at hB
 unfold World.cell? at h0 h1
 simp only [block_of_add, hB] at h0 h1
 simp only [Addr.add] at h0 h1
 by_cases ho : o = 0 <;> simp_all
theorem heap_keep_other {W W' : World} {l : Nat} {o : Obj} (h : W.heap[l]? = some o) (ho : o.isCells = false) (hk : KeepsOthers W W') : W'.heap[l]? = some o := hk.same l o h ho
theorem keeps_below {W W' : World} (hb : Below W.heap.size W W') : KeepsOthers W W' := ⟨hb.size, fun k _ hk _ => (hb.block k (Array.getElem?_eq_some_iff.1 hk).1).trans hk⟩


section
variable {F : Fence} {n : Nat} {P : Program}
/-- a load of a whole struct, in a fence -/
theorem wpListIn_load_blk {ops : Array Oper} {rest : List Oper} {o : Oper} {a : Act} {w : World} {Q : Exit → Act → World → Prop} (hgd : o.guard = none) (ty : TypeId) (x : Operand) (ho : o.op = .load ty x)
  (g : Nat) (hx : a.eval x = .pointer (some ⟨g, 0, none⟩)) (t : TypeId) (cs : Array Value) (hB : Blk w g t cs) {d : TypeDesc} (hu : P.underlying ty = some d) (hd : (match d with | .struct _ | .array _ _ => true | _ => false) = true) (hi : (P.info? ty).map (·.size) = some cs.size)
  (h : wpListIn F n P ops Q rest (a.put o.dst (.agg cs)) w) : wpListIn F n P ops Q (o :: rest) a w := by
 refine wpListIn_plain hgd fun K hK' => ?_
 unfold Oper.wpIn
 refine ⟨?_, ?_⟩
 ·simp [Oper.about, ho]
 ·rw [Oper.semAt_plain F _ _ (by rw [ho]; intro c hc'; cases hc')]
  unfold execOp
  simp only [ho, hx, Instr.loadAt, Instr.sureAddr, Sem.run_bind, Sem.run_pure, Result.andThen_ok, run_loadVar_row w g t ty cs (0, 0) d hB hu hd hi]
  exact hK' _ _ h
end


theorem Obj_cells_ne {W : World} {g l : Nat} {t : TypeId} {cs : Array Value} {o : Obj} (hB : Blk W g t cs) (hl : W.heap[l]? = some o) (ho : o.isCells = false) : g ≠ l := by
 rintro rfl
 unfold Blk at hB
 rw [hB] at hl
 cases hl
 cases ho
theorem own_keeps {W W' : World} {base : Nat} {v : Value} {xs : List Int} {r : Option Nat} (h : Own W base v xs) (hg : W.grownBy W' r) (hr : ∀ k, r = some k → ∃ o, W.heap[k]? = some o ∧ o.isCells = false) : Own W' base v xs := by
 refine World.ownsRow.kept h hg ?_
 cases hv : v.ownBlock with
 | none => exact Or.inl rfl
 | some g =>
  refine Or.inr (fun e => ?_)
  obtain ⟨o, ho, hc⟩ := hr g e.symm
  rcases h.2 with ⟨rfl, _⟩ | ⟨g', cap, cur, rfl, _, hh, _⟩
  ·simp [Value.ownBlock] at hv
  ·have : g' = g := by simpa [Value.ownBlock] using hv
   subst this
   rw [hh] at ho
   cases ho
   cases hc

theorem rd_ne_val {w : World} {A : Option Addr} {n g : Nat} {xs : List Int} {t : TypeId} {v : Value} (hr : Rd w A n xs) (hn : 1 ≤ n) (hB : Blk w g t #[v]) (hv : v ≠ .int .i64 (xs[0]?.getD 0)) : ∀ ad, A = some ad → ad.block ≠ g := by
 rintro ad rfl rfl
 obtain ⟨ad', e, _, hc⟩ := hr.2 (by omega)
 cases e
 have h0 := hc 0 (by omega)
 obtain ⟨b, o, p⟩ := ad
 unfold Blk at hB
 unfold World.cell? at h0
 simp only [block_of_add, hB] at h0
 simp only [Addr.add] at h0
 cases o with
 | zero =>
  apply hv
  have h0' := h0
  simp at h0'
  exact h0'.2
 | succ o => simp at h0

theorem heap_setX {W : World} {g l : Nat} {t : TypeId} {cs : Array Value} {o : Obj} (hB : Blk W g t cs) (hl : W.heap[l]? = some o) (ho : o.isCells = false) (u : Value) : (W.setCell ⟨g, 0, none⟩ u).heap[l]? = some o :=
 (Below.heap_setCell _ _ _ _ (fun e => Obj_cells_ne hB hl ho e.symm)).trans hl

theorem own_not_other {W : World} {base l : Nat} {v : Value} {xs : List Int} {o : Obj} (h : Own W base v xs) (hl : W.heap[l]? = some o) (ho : o.isCells = false) : v.ownBlock ≠ some l := by
 intro e
 rcases h.2 with ⟨rfl, _⟩ | ⟨g, cap, cur, rfl, _, hh, _⟩
 ·simp [Value.ownBlock] at e
 ·have : g = l := by simpa [Value.ownBlock] using e
  subst this
  rw [hh] at hl
  cases hl
  cases ho

/-- the statement, up to the iterator's call -/
theorem wpIn_range_enter {P : Program} {g : Operand} {ps : Array Tmp} {assign body : Code} {Q : Exit → Act → World → Prop} {a : Act} {w : World} {n gf : Nat} {lb : Array Value}
  (hg : a.eval g = .func (.func gf) #[] lb) (eg : ∀ args w, (callFunc gf args).run P w = .ok (.enter gf args) w)
  (hcall : ∀ (fn : Nat) (rec : Loop), rec.state = .ready → rec.pending = none → rec.fn = fn → rec.tmps = a.tmps → rec.params = ps → rec.assign = assign → rec.body = body →
   CallsIn Fence.wide n P gf (#[.func (.yield (w.heap.size + 1)) #[] #[]] ++ lb) ((w.alloc (.deferred (some []))).alloc (.loop rec)) (rangePost Fence.wide (n + 1) P (w.heap.size + 1) Q { a with defers := { target := .collected w.heap.size, args := #[] } :: a.defers })) :
  (Code.rangeFunc g ps assign body).wpIn Fence.wide (n + 1) P Q a w := by
 refine wpIn_rangeFunc (fun fn _ => ?_)
 obtain ⟨rec, hrec⟩ : ∃ rec : Loop, rec = { state := .ready, pending := none, fn, tmps := a.tmps, params := ps, assign, body, defers := w.heap.size } := ⟨_, rfl⟩
 obtain ⟨W1, hW1⟩ : ∃ W1, (w.alloc (.deferred (some []))).alloc (.loop rec) = W1 := ⟨_, rfl⟩
 have hc := hcall fn rec (by rw [hrec]) (by rw [hrec]) (by rw [hrec]) (by rw [hrec]) (by rw [hrec]) (by rw [hrec]) (by rw [hrec])
 rw [hW1] at hc
 refine ⟨w.heap.size + 1, [{ target := .collected w.heap.size, args := #[] }], W1, { target := .fn (.func gf) lb, args := #[.func (.yield (w.heap.size + 1)) #[] #[]] }, W1, gf, #[.func (.yield (w.heap.size + 1)) #[] #[]] ++ lb, W1, ?_, ?_, ?_, ?_, ?_, ?_⟩
 ·rw [← hW1, hrec]; exact run_enterLoop_outer _ _ _ _ _
 ·simp only [resolve, hg]
  simp [go_sem]
 ·exact fun _ _ => trivial
 ·simp [invoke, go_sem, eg]
 ·intro h; cases h
 ·exact hc


end Go.Proofs.YtfgghicdkcjdgaaGreatDoor
end

section
namespace Go.Proofs.YtfgghicdkcjdgaaGreatDoor

def inB (x lo hi : Int) : Bool := decide (lo ≤ x ∧ x ≤ hi)
theorem inB_yes {x lo hi : Int} (h : lo ≤ x ∧ x ≤ hi) : inB x lo hi = true := by simp [inB, h]
theorem inB_no {x lo hi : Int} (h : ¬ (lo ≤ x ∧ x ≤ hi)) : inB x lo hi = false := by unfold inB; exact decide_eq_false h
theorem inB_iff {x lo hi : Int} : inB x lo hi = true ↔ lo ≤ x ∧ x ≤ hi := by simp [inB]
theorem inB_out {x lo hi : Int} (h : inB x lo hi = false) : ¬ (lo ≤ x ∧ x ≤ hi) := by unfold inB at h; exact of_decide_eq_false h

structure Note where
 k : Int
 a : Int
 b : Int
 lo : Int
 hi : Int
 ln : Int
 ld : Int
 mn : Int
 md : Int
def Note.cells (n : Note) : List Value := [.int .i64 n.k, .int .i64 n.a, .int .i64 n.b, .int .i64 n.lo, .int .i64 n.hi, .int .i64 n.ln, .int .i64 n.ld, .int .i64 n.mn, .int .i64 n.md]
structure Wh where
 lo : Int
 hi : Int
def Wh.cells (s : Wh) : List Value := [.int .i64 s.lo, .int .i64 s.hi]
def teethB (x : Int) : Bool := inB x 4 60
def fracB (n d : Int) : Bool := inB n 0 50000 && inB d 1 50000
/-- a fraction is greater than another one -/
def aboveB (an ad bn bd : Int) : Bool := decide (bn * ad < an * bd)
def whB (s : Wh) : Bool := teethB s.lo && (teethB s.hi && inB (s.hi - s.lo) 0 5)
def bareB (n : Note) : Bool := n.lo == 0 && n.hi == 0
def noneB (n : Note) : Bool := (n.ln == 0 && n.ld == 0) && (n.mn == 0 && n.md == 0)
def noteB (n : Note) (m : Int) : Bool :=
 if n.k = 1 then noneB n && (inB n.a 0 (m - 1) && (inB n.b 1 60 && (inB n.lo 1 n.hi && decide (n.hi ≤ 360))))
 else if n.k = 2 then noneB n && (inB n.a 0 (m / 2 - 1) && (n.b == 0 && (inB n.lo 1 n.hi && decide (n.hi ≤ 120))))
 else if n.k = 3 then bareB n && (inB n.a 0 n.b && (decide (n.b < m / 2) && (fracB n.ln n.ld && (fracB n.mn n.md && !aboveB n.ln n.ld n.mn n.md))))
 else if n.k = 4 then noneB n && (bareB n && (inB n.a 0 (n.b - 1) && decide (n.b < m)))
 else if n.k = 5 then noneB n && (bareB n && (inB n.a 0 (m - 1) && inB n.b 2 12))
 else false
def findB (ws : List Wh) (ns : List Note) : Bool :=
 decide ((ws.length : Int) % 2 = 0) && (inB (ws.length : Int) 2 6 && (decide (ns.length ≤ 8) && (ws.all whB && ns.all (fun n => noteB n (ws.length : Int)))))

/-- the numbers from one to another one -/
def upTo (lo hi : Int) : List Int := (List.range (hi + 1 - lo).toNat).map (fun i : Nat => lo + (i : Int))
theorem mem_upTo {lo hi x : Int} : x ∈ upTo lo hi ↔ lo ≤ x ∧ x ≤ hi := by
 unfold upTo
 simp only [List.mem_map, List.mem_range]
 constructor
 ·rintro ⟨i, hi', rfl⟩; omega
 ·intro h; exact ⟨(x - lo).toNat, by omega, by omega⟩
theorem upTo_nil {lo hi : Int} (h : hi < lo) : upTo lo hi = [] := by
 unfold upTo
 rw [show (hi + 1 - lo).toNat = 0 by omega]; rfl
theorem upTo_cons {lo hi : Int} (h : lo ≤ hi) : upTo lo hi = lo :: upTo (lo + 1) hi := by
 unfold upTo
 rw [show (hi + 1 - lo).toNat = (hi + 1 - (lo + 1)).toNat + 1 by omega, List.range_succ_eq_map]
 simp only [List.map_cons, List.map_map, List.cons.injEq]
 exact ⟨by simp, List.map_congr_left (fun i _ => by simp only [Function.comp]; push_cast; omega)⟩
/-- all trains of a find, in lexicographic order -/
def allT : List Wh → List (List Int)
 | [] => [[]]
 | s :: ws => (upTo s.lo s.hi).flatMap (fun x => (allT ws).map (fun t => x :: t))
def Fits : List Wh → List Int → Prop
 | [], [] => True
 | s :: ws, x :: t => (s.lo ≤ x ∧ x ≤ s.hi) ∧ Fits ws t
 | _, _ => False
theorem mem_allT : ∀ (ws : List Wh) (t : List Int), t ∈ allT ws ↔ Fits ws t
 | [], t => by cases t <;> simp [allT, Fits]
 | s :: ws, t => by
  unfold allT
  rw [List.mem_flatMap]
  constructor
  ·rintro ⟨x, hx, ht⟩
   obtain ⟨t', ht', rfl⟩ := List.mem_map.1 ht
   exact ⟨mem_upTo.1 hx, (mem_allT ws t').1 ht'⟩
  ·intro h
   cases t with
   | nil => exact absurd h (by simp [Fits])
   | cons x t => exact ⟨x, mem_upTo.2 h.1, List.mem_map.2 ⟨t, (mem_allT ws t).2 h.2, rfl⟩⟩
theorem Fits.len : ∀ {ws : List Wh} {t : List Int}, Fits ws t → t.length = ws.length
 | [], [], _ => rfl
 | [], _ :: _, h => absurd h (by simp [Fits])
 | _ :: _, [], h => absurd h (by simp [Fits])
 | _ :: ws, _ :: t, h => by simp [Fits.len h.2]
theorem Fits.get : ∀ {ws : List Wh} {t : List Int}, Fits ws t → ∀ i, (h : i < ws.length) → ws[i].lo ≤ t[i]?.getD 0 ∧ t[i]?.getD 0 ≤ ws[i].hi
 | [], [], _, i, h => absurd h (by simp)
 | [], _ :: _, h, _, _ => absurd h (by simp [Fits])
 | _ :: _, [], h, _, _ => absurd h (by simp [Fits])
 | _ :: ws, _ :: t, h, 0, _ => by simpa using h.1
 | _ :: ws, _ :: t, h, i + 1, hi => by simpa using Fits.get h.2 i (by simpa using hi)
/-- does a train agree with a note? -/
def atT (t : List Int) (i : Int) : Int := t[i.toNat]?.getD 0
/-- the product of the driving (0) or driven (1) wheels of some pairs, the first k of them from a on -/
def prodT (t : List Int) (a : Int) (d : Int) : Nat → Int
 | 0 => 1
 | k + 1 => prodT t a d k * atT t (2 * (a + k) + d)
def agreeB (n : Note) (t : List Int) : Bool :=
 if n.k = 1 then inB (360 * n.b) (n.lo * atT t n.a) (n.hi * atT t n.a)
 else if n.k = 2 then inB (atT t (2 * n.a) + atT t (2 * n.a + 1)) n.lo n.hi
 else if n.k = 3 then !aboveB n.ln n.ld (prodT t n.a 0 (n.b + 1 - n.a).toNat) (prodT t n.a 1 (n.b + 1 - n.a).toNat) && !aboveB (prodT t n.a 0 (n.b + 1 - n.a).toNat) (prodT t n.a 1 (n.b + 1 - n.a).toNat) n.mn n.md
 else if n.k = 4 then atT t n.a == atT t n.b
 else atT t n.a % n.b == 0
/-- the numbers of the notes that a train breaks, of the first k ones -/
def brk (ns : List Note) (t : List Int) : Nat → List Int
 | 0 => []
 | k + 1 => match ns[k]? with
  | some n => if agreeB n t then brk ns t k else brk ns t k ++ [(k : Int)]
  | none => brk ns t k
def breaksL (ns : List Note) (t : List Int) : List Int := brk ns t ns.length
def guessL (ws : List Wh) (ns : List Note) : List (List Int) := (allT ws).filter (fun t => (breaksL ns t).isEmpty)
end Go.Proofs.YtfgghicdkcjdgaaGreatDoor
end

section
namespace Go.Proofs.YtfgghicdkcjdgaaGreatDoor
open Go.RowKit Go.Shelf

set_option maxHeartbeats 400000 in
theorem in_is (x lo hi : Int) (w : World) (b : Bool) (hb : inB x lo hi = b) :
  Calls Tryz.prog 100 #[.int .i64 x, .int .i64 lo, .int .i64 hi] w fun e w' => e = .returned (.bool b) ∧ w = w' := by
 subst hb
 by_cases h : lo ≤ x
 ·go_enter Tryz.func100, Tryz.ntmps100
  go_wp2
  go_ret
  exact ⟨ret_bool (by simp [inB, h]), rfl⟩
 ·go_enter Tryz.func100, Tryz.ntmps100
  go_wp2
  go_ret
  exact ⟨ret_bool (by simp only [inB]; rw [eq_comm, decide_eq_false_iff_not]; omega), rfl⟩
set_option maxHeartbeats 400000 in
theorem isTeeth_is (x : Int) (w : World) (b : Bool) (hb : teethB x = b) :
  Calls Tryz.prog 103 #[.int .i64 x] w fun e w' => e = .returned (.bool b) ∧ w = w' := by
 go_enter Tryz.func103, Tryz.ntmps103
 go_wp2_with (go_at_call 100; refine (in_is _ _ _ _ _ hb).mono ?_; rintro e w' ⟨rfl, rfl⟩)
 go_ret
 exact ⟨rfl, rfl⟩
set_option maxHeartbeats 1000000 in
theorem within_is (x lo hi : Int) (w : World) (b : Bool) (hb : inB x lo hi = b) :
  Calls Tryz.prog 51 #[.int .i64 x, .agg #[.int .i64 lo, .int .i64 hi]] w fun e w' => e = .returned (.bool b) ∧ Below w.heap.size w w' := by
 go_enter Tryz.func51, Tryz.ntmps51
 go_wp2_with (go_at_call 100; refine (in_is _ _ _ _ _ hb).mono ?_; rintro e w' ⟨rfl, rfl⟩)
 go_ret
 exact ⟨rfl, fr_alloc (fr_refl _) _⟩
set_option maxHeartbeats 1000000 in
theorem isFraction_is (n d : Int) (w : World) (b : Bool) (hb : fracB n d = b) :
  Calls Tryz.prog 61 #[.agg #[.int .i64 n, .int .i64 d]] w fun e w' => e = .returned (.bool b) ∧ Below w.heap.size w w' := by
 subst hb
 unfold fracB
 go_enter Tryz.func61, Tryz.ntmps61
 cases h1 : inB n 0 50000
 ·go_wp2_with fail
  refine (in_is _ _ _ _ _ h1).mono ?_
  rintro e w' ⟨rfl, rfl⟩
  go_wp2_with fail
  go_ret
  exact ⟨rfl, fr_alloc (fr_refl _) _⟩
 ·go_wp2_with fail
  refine (in_is _ _ _ _ _ h1).mono ?_
  rintro e w' ⟨rfl, rfl⟩
  go_wp2_with fail
  refine (in_is _ _ _ _ _ rfl).mono ?_
  rintro e w' ⟨rfl, rfl⟩
  go_wp2_with fail
  go_ret
  exact ⟨rfl, fr_alloc (fr_refl _) _⟩
theorem mul_wrap {a b : Int} (ha : -1000000000 ≤ a ∧ a ≤ 1000000000) (hb : -1000000000 ≤ b ∧ b ≤ 1000000000) : IntKind.i64.wrap (a * b) = a * b := by
 refine IntWalk.i64_in _ ?_
 have h1 : (a * b).natAbs ≤ 1000000000 * 1000000000 := by rw [Int.natAbs_mul]; exact Nat.mul_le_mul (by omega) (by omega)
 omega
theorem mul_wrap64 {a b : Int} (ha : -1000000000 ≤ a ∧ a ≤ 1000000000) (hb : -1000000000 ≤ b ∧ b ≤ 1000000000) : wrap64 (a * b) = a * b := by
 refine IntWalk.wrap64_in _ ?_
 have h1 : (a * b).natAbs ≤ 1000000000 * 1000000000 := by rw [Int.natAbs_mul]; exact Nat.mul_le_mul (by omega) (by omega)
 omega
/-- numbers of a moderate size -/
def Mo (x : Int) : Prop := -1000000000 ≤ x ∧ x ≤ 1000000000
set_option maxHeartbeats 1000000 in
theorem above_is (an ad bn bd : Int) (w : World) (h1 : Mo an) (h2 : Mo ad) (h3 : Mo bn) (h4 : Mo bd) (b : Bool) (hb : aboveB an ad bn bd = b) :
  Calls Tryz.prog 57 #[.agg #[.int .i64 an, .int .i64 ad], .agg #[.int .i64 bn, .int .i64 bd]] w fun e w' => e = .returned (.bool b) ∧ Below w.heap.size w w' := by
 have q1 := mul_wrap h1 h4
 have q2 := mul_wrap h3 h2
 have q3 := mul_wrap64 h1 h4
 have q4 := mul_wrap64 h3 h2
 unfold aboveB at hb
 have HB := Lib.hid hb
 clear hb h1 h2 h3 h4
 go_enter Tryz.func57, Tryz.ntmps57
 go_wp2_with fail
 go_ret
 exact ⟨ret_bool HB.out, fr_alloc (fr_alloc (fr_refl _) _) _⟩
end Go.Proofs.YtfgghicdkcjdgaaGreatDoor
end

section
namespace Go.Proofs.YtfgghicdkcjdgaaGreatDoor
open Go.RowKit Go.Shelf

def MoN (n : Note) : Prop := (Mo n.k ∧ Mo n.a ∧ Mo n.b ∧ Mo n.lo ∧ Mo n.hi) ∧ (Mo n.ln ∧ Mo n.ld ∧ Mo n.mn ∧ Mo n.md)
set_option maxRecDepth 100000 in
set_option maxHeartbeats 16000000 in
theorem isNote_1 (a b lo hi ln ld mn md m : Int) (w : World) (h : MoN ⟨1, a, b, lo, hi, ln, ld, mn, md⟩) (hm : 0 ≤ m ∧ m ≤ 1000) :
  Calls Tryz.prog 106 #[.agg #[.int .i64 1, .int .i64 a, .int .i64 b, .int .i64 lo, .int .i64 hi, .int .i64 ln, .int .i64 ld, .int .i64 mn, .int .i64 md], .int .i64 m] w fun e w' => e = .returned (.bool (noteB ⟨1, a, b, lo, hi, ln, ld, mn, md⟩ m)) ∧ Below w.heap.size w w' := by
 obtain ⟨⟨h1, h2, h3, h4, h5⟩, h6, h7, h8, h9⟩ := h
 unfold Mo at *
 simp only at *
 obtain ⟨hm1, hm2⟩ := hm
 go_enter Tryz.func106, Tryz.ntmps106
 go_wp2_with (first | (go_at_call 100; refine (in_is _ _ _ _ _ rfl).mono ?_; rintro e w' ⟨rfl, rfl⟩))
 all_goals
  go_ret
  exact ⟨ret_bool (by simp [noteB, noneB, *]), fr_alloc (fr_refl _) _⟩
set_option maxRecDepth 100000 in
set_option maxHeartbeats 16000000 in
theorem isNote_2 (a b lo hi ln ld mn md m : Int) (w : World) (h : MoN ⟨2, a, b, lo, hi, ln, ld, mn, md⟩) (hm : 0 ≤ m ∧ m ≤ 1000) :
  Calls Tryz.prog 106 #[.agg #[.int .i64 2, .int .i64 a, .int .i64 b, .int .i64 lo, .int .i64 hi, .int .i64 ln, .int .i64 ld, .int .i64 mn, .int .i64 md], .int .i64 m] w fun e w' => e = .returned (.bool (noteB ⟨2, a, b, lo, hi, ln, ld, mn, md⟩ m)) ∧ Below w.heap.size w w' := by
 obtain ⟨⟨h1, h2, h3, h4, h5⟩, h6, h7, h8, h9⟩ := h
 unfold Mo at *
 simp only at *
 obtain ⟨hm1, hm2⟩ := hm
 go_enter Tryz.func106, Tryz.ntmps106
 go_wp2_with (first | (go_at_call 100; refine (in_is _ _ _ _ _ rfl).mono ?_; rintro e w' ⟨rfl, rfl⟩))
 all_goals
  go_ret
  exact ⟨ret_bool (by simp [noteB, noneB, *]), fr_alloc (fr_refl _) _⟩
set_option maxRecDepth 100000 in
set_option maxHeartbeats 16000000 in
theorem isNote_4 (a b lo hi ln ld mn md m : Int) (w : World) (h : MoN ⟨4, a, b, lo, hi, ln, ld, mn, md⟩) (hm : 0 ≤ m ∧ m ≤ 1000) :
  Calls Tryz.prog 106 #[.agg #[.int .i64 4, .int .i64 a, .int .i64 b, .int .i64 lo, .int .i64 hi, .int .i64 ln, .int .i64 ld, .int .i64 mn, .int .i64 md], .int .i64 m] w fun e w' => e = .returned (.bool (noteB ⟨4, a, b, lo, hi, ln, ld, mn, md⟩ m)) ∧ Below w.heap.size w w' := by
 obtain ⟨⟨h1, h2, h3, h4, h5⟩, h6, h7, h8, h9⟩ := h
 unfold Mo at *
 simp only at *
 obtain ⟨hm1, hm2⟩ := hm
 go_enter Tryz.func106, Tryz.ntmps106
 go_wp2_with (first | (go_at_call 100; refine (in_is _ _ _ _ _ rfl).mono ?_; rintro e w' ⟨rfl, rfl⟩))
 all_goals
  go_ret
  exact ⟨ret_bool (by simp [noteB, noneB, bareB, *]), fr_alloc (fr_refl _) _⟩
set_option maxRecDepth 100000 in
set_option maxHeartbeats 16000000 in
theorem isNote_5 (a b lo hi ln ld mn md m : Int) (w : World) (h : MoN ⟨5, a, b, lo, hi, ln, ld, mn, md⟩) (hm : 0 ≤ m ∧ m ≤ 1000) :
  Calls Tryz.prog 106 #[.agg #[.int .i64 5, .int .i64 a, .int .i64 b, .int .i64 lo, .int .i64 hi, .int .i64 ln, .int .i64 ld, .int .i64 mn, .int .i64 md], .int .i64 m] w fun e w' => e = .returned (.bool (noteB ⟨5, a, b, lo, hi, ln, ld, mn, md⟩ m)) ∧ Below w.heap.size w w' := by
 obtain ⟨⟨h1, h2, h3, h4, h5⟩, h6, h7, h8, h9⟩ := h
 unfold Mo at *
 simp only at *
 obtain ⟨hm1, hm2⟩ := hm
 go_enter Tryz.func106, Tryz.ntmps106
 go_wp2_with (first | (go_at_call 100; refine (in_is _ _ _ _ _ rfl).mono ?_; rintro e w' ⟨rfl, rfl⟩))
 all_goals
  go_ret
  exact ⟨ret_bool (by simp [noteB, noneB, bareB, *]), fr_alloc (fr_refl _) _⟩
set_option maxRecDepth 100000 in
set_option maxHeartbeats 16000000 in
theorem isNote_3 (a b lo hi ln ld mn md m : Int) (w : World) (h : MoN ⟨3, a, b, lo, hi, ln, ld, mn, md⟩) (hm : 0 ≤ m ∧ m ≤ 1000) :
  Calls Tryz.prog 106 #[.agg #[.int .i64 3, .int .i64 a, .int .i64 b, .int .i64 lo, .int .i64 hi, .int .i64 ln, .int .i64 ld, .int .i64 mn, .int .i64 md], .int .i64 m] w fun e w' => e = .returned (.bool (noteB ⟨3, a, b, lo, hi, ln, ld, mn, md⟩ m)) ∧ Below w.heap.size w w' := by
 obtain ⟨⟨h1, h2, h3, h4, h5⟩, h6, h7, h8, h9⟩ := h
 have m6 := h6; have m7 := h7; have m8 := h8; have m9 := h9
 unfold Mo at h1 h2 h3 h4 h5
 simp only at *
 obtain ⟨hm1, hm2⟩ := hm
 by_cases hbare : lo = 0 ∧ hi = 0
 ·obtain ⟨rfl, rfl⟩ := hbare
  have hN : noteB ⟨3, a, b, 0, 0, ln, ld, mn, md⟩ m = (inB a 0 b && (decide (b < m / 2) && (fracB ln ld && (fracB mn md && !aboveB ln ld mn md)))) := rfl
  have HN := Lib.hid hN
  clear hN
  have hf := fr_alloc (fr_refl w) (.cells #[.int .i64 3, .int .i64 a, .int .i64 b, .int .i64 0, .int .i64 0, .int .i64 ln, .int .i64 ld, .int .i64 mn, .int .i64 md] 70)
  have hX := Blk.new w 70 #[.int .i64 3, .int .i64 a, .int .i64 b, .int .i64 0, .int .i64 0, .int .i64 ln, .int .i64 ld, .int .i64 mn, .int .i64 md]
  have hcX := fun j => hX.cell j
  go_enter Tryz.func106, Tryz.ntmps106
  go_wp2_with fail
  refine (in_is _ _ _ _ _ rfl).mono ?_
  rintro e w' ⟨rfl, rfl⟩
  cases c1 : inB a 0 b
  ·go_wp2_with fail
   go_ret
   exact ⟨ret_bool (by rw [HN.out, c1]; rfl), hf⟩
  by_cases c2 : b < m / 2
  ·cases c3 : fracB ln ld
   ·go_wp2_with fail
    refine (isFraction_is _ _ _ _ c3).mono ?_
    rintro e w1 ⟨rfl, hb1⟩
    replace hf := fr_call hf hb1; clear hcX
    go_wp2_with fail
    go_ret
    exact ⟨ret_bool (by rw [HN.out, c1, decide_eq_true c2, c3]; rfl), hf⟩
   ·go_wp2_with fail
    refine (isFraction_is _ _ _ _ c3).mono ?_
    rintro e w1 ⟨rfl, hb1⟩
    replace hf := fr_call hf hb1; replace hX := hX.keep hb1; replace hcX := fun j => hX.cell j; clear hb1
    cases c4 : fracB mn md
    ·go_wp2_with fail
     refine (isFraction_is _ _ _ _ c4).mono ?_
     rintro e w2 ⟨rfl, hb2⟩
     replace hf := fr_call hf hb2; clear hcX
     go_wp2_with fail
     go_ret
     exact ⟨ret_bool (by rw [HN.out, c1, decide_eq_true c2, c3, c4]; rfl), hf⟩
    ·go_wp2_with fail
     refine (isFraction_is _ _ _ _ c4).mono ?_
     rintro e w2 ⟨rfl, hb2⟩
     replace hf := fr_call hf hb2; replace hX := hX.keep hb2; replace hcX := fun j => hX.cell j; clear hb2
     go_wp2_with fail
     refine (above_is _ _ _ _ _ m6 m7 m8 m9 _ rfl).mono ?_
     rintro e w3 ⟨rfl, hb3⟩
     replace hf := fr_call hf hb3; clear hcX hX hb3
     go_wp2_with fail
     go_ret
     exact ⟨ret_bool (by rw [HN.out, c1, decide_eq_true c2, c3, c4]; rfl), hf⟩
  ·have c2' : decide (b < m / 2) = false := decide_eq_false c2
   go_wp2_with fail
   go_ret
   exact ⟨ret_bool (by rw [HN.out, c1, c2']; rfl), hf⟩
 ·have hN : noteB ⟨3, a, b, lo, hi, ln, ld, mn, md⟩ m = false := by
   have : bareB ⟨3, a, b, lo, hi, ln, ld, mn, md⟩ = false := by unfold bareB; simpa using hbare
   unfold noteB; rw [this]; rfl
  rw [hN]
  have hf := fr_alloc (fr_refl w) (.cells #[.int .i64 3, .int .i64 a, .int .i64 b, .int .i64 lo, .int .i64 hi, .int .i64 ln, .int .i64 ld, .int .i64 mn, .int .i64 md] 70)
  by_cases hl : lo = 0
  ·subst hl
   have hq : (hi == 0) = false := beq_eq_false_iff_ne.2 (fun e => hbare ⟨rfl, e⟩)
   clear hbare hN
   go_enter Tryz.func106, Tryz.ntmps106
   go_wp2_with fail
   go_ret
   exact ⟨rfl, hf⟩
  ·have hq : (lo == 0) = false := beq_eq_false_iff_ne.2 hl
   clear hbare hN hl
   go_enter Tryz.func106, Tryz.ntmps106
   go_wp2_with fail
   go_ret
   exact ⟨rfl, hf⟩
set_option maxRecDepth 100000 in
set_option maxHeartbeats 16000000 in
theorem isNote_0 (k a b lo hi ln ld mn md m : Int) (w : World) (h1 : k ≠ 1) (h2 : k ≠ 2) (h3 : k ≠ 3) (h4 : k ≠ 4) (h5 : k ≠ 5) :
  Calls Tryz.prog 106 #[.agg #[.int .i64 k, .int .i64 a, .int .i64 b, .int .i64 lo, .int .i64 hi, .int .i64 ln, .int .i64 ld, .int .i64 mn, .int .i64 md], .int .i64 m] w fun e w' => e = .returned (.bool false) ∧ Below w.heap.size w w' := by
 have q1 : (k == 1) = false := beq_eq_false_iff_ne.2 h1
 have q2 : (k == 2) = false := beq_eq_false_iff_ne.2 h2
 have q3 : (k == 3) = false := beq_eq_false_iff_ne.2 h3
 have r3 : (k != 3) = true := bne_iff_ne.2 h3
 have q4 : (k == 4) = false := beq_eq_false_iff_ne.2 h4
 have q5 : (k == 5) = false := beq_eq_false_iff_ne.2 h5
 clear h1 h2 h3 h4 h5
 go_enter Tryz.func106, Tryz.ntmps106
 go_wp2_with fail
 all_goals
  go_ret
  exact ⟨rfl, fr_alloc (fr_refl _) _⟩
theorem isNote_is (n : Note) (m : Int) (w : World) (h : MoN n) (hm : 0 ≤ m ∧ m ≤ 1000) (b : Bool) (hb : noteB n m = b) :
  Calls Tryz.prog 106 #[.agg n.cells.toArray, .int .i64 m] w fun e w' => e = .returned (.bool b) ∧ Below w.heap.size w w' := by
 subst hb
 obtain ⟨k, a, c, lo, hi, ln, ld, mn, md⟩ := n
 by_cases e1 : k = 1
 ·subst e1; exact isNote_1 _ _ _ _ _ _ _ _ _ _ h hm
 by_cases e2 : k = 2
 ·subst e2; exact isNote_2 _ _ _ _ _ _ _ _ _ _ h hm
 by_cases e3 : k = 3
 ·subst e3; exact isNote_3 _ _ _ _ _ _ _ _ _ _ h hm
 by_cases e4 : k = 4
 ·subst e4; exact isNote_4 _ _ _ _ _ _ _ _ _ _ h hm
 by_cases e5 : k = 5
 ·subst e5; exact isNote_5 _ _ _ _ _ _ _ _ _ _ h hm
 have hn : noteB ⟨k, a, c, lo, hi, ln, ld, mn, md⟩ m = false := by unfold noteB; simp only; rw [if_neg e1, if_neg e2, if_neg e3, if_neg e4, if_neg e5]
 rw [hn]
 exact isNote_0 k a c lo hi ln ld mn md m w e1 e2 e3 e4 e5
end Go.Proofs.YtfgghicdkcjdgaaGreatDoor
end

section
namespace Go.Proofs.YtfgghicdkcjdgaaGreatDoor
open Go.RowKit Go.Shelf

def MoW (s : Wh) : Prop := Mo s.lo ∧ Mo s.hi
set_option maxHeartbeats 4000000 in
theorem isFind1_is (s : Wh) (w : World) (h : MoW s) (b : Bool) (hb : whB s = !b) :
  Calls Tryz.prog 102 #[.agg s.cells.toArray] w fun e w' => e = .returned (.bool b) ∧ Below w.heap.size w w' := by
 obtain ⟨lo, hi⟩ := s
 obtain ⟨⟨a1, a2⟩, a3, a4⟩ := h
 simp only at a1 a2 a3 a4
 have hB : b = !whB ⟨lo, hi⟩ := by rw [hb]; simp
 have HB := Lib.hid hB
 clear hb hB
 unfold Wh.cells
 go_enter Tryz.func102, Tryz.ntmps102
 go_wp2_with (first | (go_at_call 103; refine (isTeeth_is _ _ _ rfl).mono ?_; rintro e w' ⟨rfl, rfl⟩) | (go_at_call 100; refine (in_is _ _ _ _ _ rfl).mono ?_; rintro e w' ⟨rfl, rfl⟩))
 all_goals
  go_ret
  exact ⟨ret_bool (by rw [HB.out]; simp [whB, *]), fr_alloc (fr_refl _) _⟩
set_option maxHeartbeats 4000000 in
theorem isFind2_is (n : Note) (p : Nat) (m : Int) (w : World) (hp : Blk w p 3 #[.int .i64 m]) (h : MoN n) (hm : 0 ≤ m ∧ m ≤ 1000) (b : Bool) (hb : noteB n m = !b) :
  Calls Tryz.prog 105 #[.agg n.cells.toArray, .pointer (some ⟨p, 0, none⟩)] w fun e w' => e = .returned (.bool b) ∧ Below w.heap.size w w' := by
 obtain ⟨k, a, c, lo, hi, ln, ld, mn, md⟩ := n
 have hc := fun j => (hp.alloc (.cells #[.int .i64 k, .int .i64 a, .int .i64 c, .int .i64 lo, .int .i64 hi, .int .i64 ln, .int .i64 ld, .int .i64 mn, .int .i64 md] 70)).cell j
 have hI := fun w => isNote_is ⟨k, a, c, lo, hi, ln, ld, mn, md⟩ m w h hm _ hb
 unfold Note.cells at *
 simp only at hI
 clear h hb
 go_enter Tryz.func105, Tryz.ntmps105
 go_wp2_with fail
 refine (hI _).mono ?_
 rintro e w1 ⟨rfl, hb1⟩
 clear hc hI
 go_wp2_with fail
 go_ret
 exact ⟨ret_bool (by simp), fr_call (fr_alloc (fr_refl _) _) hb1⟩
end Go.Proofs.YtfgghicdkcjdgaaGreatDoor
end
