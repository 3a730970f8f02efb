/- Walks, package shop: small tests; the path to an arbor, an iterator. Ported by port.py: What a search keeps: old blocks, and blocks of some types; a slice that reads as a list and is kept so; a new slice of one element. Walks, package shop: the iterator path; how far an arbor is. Walk, package shop: the train of an arbor. Walks, package shop: whether a piece is as defined. -/
import Derived.Test.YtdocgmafbacjcaaGreatDoorMT7
import Derived.Sort.CutIn
import Derived.Laws.EntriesVeiled
section
namespace Go.Proofs.YtdocgmafbacjcaaGreatDoor
open Go.RowKit Go.Shelf
attribute [local go_sem] Oper.semAt_some

theorem sin_is (x lo hi : Int) (w : World) (b : Bool) (hb : inB x lo hi = b) :
  Calls Tryz.prog 40 #[.int .i64 x, .int .i64 lo, .int .i64 hi] w fun e w' => e = .returned (.bool b) ∧ w = w' := by
 subst hb
 by_cases h : lo ≤ x
 ·go_enter Tryz.func40, Tryz.ntmps40
  go_wp2
  go_ret
  exact ⟨ret_bool (by simp [inB, h]), rfl⟩
 ·go_enter Tryz.func40, Tryz.ntmps40
  go_wp2
  go_ret
  exact ⟨ret_bool (by simp only [inB]; rw [eq_comm, decide_eq_false_iff_not]; omega), rfl⟩
set_option maxHeartbeats 2000000 in
theorem sisTeeth_is (x : Int) (w : World) (b : Bool) (hb : inB x 4 60 = b) :
  Calls Tryz.prog 181 #[.int .i64 x] w fun e w' => e = .returned (.bool b) ∧ w = w' := by
 go_enter Tryz.func181, Tryz.ntmps181
 go_wp2_with fail
 refine (sin_is _ _ _ _ _ hb).mono ?_
 rintro e w' ⟨rfl, rfl⟩
 go_wp2_with fail
 go_ret
 exact ⟨rfl, rfl⟩
set_option maxHeartbeats 2000000 in
theorem isPair_yes (a b : Int) (w : World) (h1 : inB a 4 60 = true) (h2 : inB b 4 60 = true) :
  Calls Tryz.prog 115 #[.agg #[.int .i64 a, .int .i64 b]] w fun e w' => e = .returned (.bool true) ∧ Below w.heap.size w w' := by
 have hb0 := fr_alloc (fr_refl w) (.cells #[.int .i64 a, .int .i64 b] 130)
 have hX := Blk.new w 130 #[.int .i64 a, .int .i64 b]
 have hcX := fun j => hX.cell j
 go_enter Tryz.func115, Tryz.ntmps115
 go_wp2_with fail
 refine (sisTeeth_is _ _ _ h1).mono ?_
 rintro e w' ⟨rfl, rfl⟩
 go_wp2_with fail
 refine (sisTeeth_is _ _ _ h2).mono ?_
 rintro e w' ⟨rfl, rfl⟩
 go_wp2_with fail
 go_ret
 exact ⟨rfl, hb0⟩
/-- a link: from which arbor, and its pair -/
structure Lk where
 fr : Nat
 pr : Wh
def Lk.cells (l : Lk) : List Value := [.int .i64 l.fr, .int .i64 l.pr.lo, .int .i64 l.pr.hi]
/-- links, each from an arbor before it -/
def LksOk (ls : List Lk) : Prop := ∀ (i : Nat) (l : Lk), ls[i]? = some l → l.fr ≤ i
/-- the numbers of the links from the crank's arbor to an arbor -/
def pathF (ls : List Lk) : Nat → Nat → List Nat
 | 0, _ => []
 | _ + 1, 0 => []
 | f + 1, a + 1 => pathF ls f ((ls[a]?.map Lk.fr).getD 0) ++ [a]
def pathL (ls : List Lk) (a : Nat) : List Nat := pathF ls a a
theorem pathF_eq {ls : List Lk} (h : LksOk ls) : ∀ (a f g : Nat), a ≤ ls.length → a ≤ f → a ≤ g → pathF ls f a = pathF ls g a := fun a => by
 induction a using Nat.strongRecOn with
 | ind a ih =>
  intro f g hl hf hg
  cases a with
  | zero => cases f <;> cases g <;> rfl
  | succ a =>
   obtain ⟨f, rfl⟩ : ∃ f', f = f' + 1 := ⟨f - 1, by omega⟩
   obtain ⟨g, rfl⟩ : ∃ g', g = g' + 1 := ⟨g - 1, by omega⟩
   have he : ls[a]? = some ls[a] := List.getElem?_eq_getElem (by omega)
   have hfr := h a _ he
   unfold pathF
   rw [he]
   show pathF ls f ls[a].fr ++ [a] = pathF ls g ls[a].fr ++ [a]
   rw [ih ls[a].fr (by omega) f g (by omega) (by omega) (by omega)]
theorem pathL_succ {ls : List Lk} (h : LksOk ls) {a : Nat} {l : Lk} (hl : ls[a]? = some l) : pathL ls (a + 1) = pathL ls l.fr ++ [a] := by
 have ha : a < ls.length := (List.getElem?_eq_some_iff.1 hl).1
 have hf := h a l hl
 have e : pathL ls (a + 1) = pathF ls a ((ls[a]?.map Lk.fr).getD 0) ++ [a] := rfl
 rw [e, hl]
 show pathF ls a l.fr ++ [a] = pathF ls l.fr l.fr ++ [a]
 rw [pathF_eq h l.fr a l.fr (by omega) (by omega) (by omega)]
theorem pathL_take {ls : List Lk} (h : LksOk ls) : ∀ (n a : Nat), a ≤ n → n ≤ ls.length → pathL (ls.take n) a = pathL ls a := fun n a => by
 induction a using Nat.strongRecOn with
 | ind a ih =>
  intro han hnl
  cases a with
  | zero => rfl
  | succ a =>
   have he : ls[a]? = some ls[a] := List.getElem?_eq_getElem (by omega)
   have he2 : (ls.take n)[a]? = some ls[a] := by rw [List.getElem?_take, if_pos (by omega)]; exact he
   have h2 : LksOk (ls.take n) := fun i l hi => by
    rw [List.getElem?_take] at hi
    split at hi
    ·exact h i l hi
    ·cases hi
   have hfr := h a _ he
   rw [pathL_succ h he, pathL_succ h2 he2, ih _ (by omega) (by omega) hnl]
theorem pathL_mem {ls : List Lk} (h : LksOk ls) : ∀ (a : Nat), a ≤ ls.length → ∀ i ∈ pathL ls a, i < a := fun a => by
 induction a using Nat.strongRecOn with
 | ind a ih =>
  intro hal i hi
  cases a with
  | zero => cases hi
  | succ a =>
   have he : ls[a]? = some ls[a] := List.getElem?_eq_getElem (by omega)
   have hfr := h a _ he
   rw [pathL_succ h he] at hi
   rcases List.mem_append.1 hi with h1 | h1
   ·have := ih _ (by omega) (by omega) i h1
    omega
   ·simp at h1; omega
end Go.Proofs.YtdocgmafbacjcaaGreatDoor
end

section
namespace Go.Proofs.YtdocgmafbacjcaaGreatDoor

section
open Go.RowKit Go.Shelf

def Safe (B : Nat) (T : TypeId → Bool) (g : Nat) (o : Obj) : Prop := g < B ∨ ∃ cs t fr, o = .cells cs t fr ∧ T t = true
/-- W' is W but for blocks from B on that hold no variables or elements of the types T -/
structure Keep (B : Nat) (T : TypeId → Bool) (W W' : World) : Prop where
 os : W'.os = W.os
 tape : W'.tape = W.tape
 output : W'.output = W.output
 size : W.heap.size ≤ W'.heap.size
 same : ∀ g o, W.heap[g]? = some o → Safe B T g o → W'.heap[g]? = some o
section
variable {B : Nat} {T : TypeId → Bool} {W W' W'' : World}
theorem Keep.refl (B : Nat) (T : TypeId → Bool) (W : World) : Keep B T W W := ⟨rfl, rfl, rfl, Nat.le_refl _, fun _ _ h _ => h⟩
theorem Keep.trans (h : Keep B T W W') (k : Keep B T W' W'') : Keep B T W W'' :=
 ⟨k.os.trans h.os, k.tape.trans h.tape, k.output.trans h.output, Nat.le_trans h.size k.size, fun g o hg hs => k.same g o (h.same g o hg hs) hs⟩
theorem Keep.of_below (hb : Below W.heap.size W W') : Keep B T W W' :=
 ⟨hb.os, hb.tape, hb.output, hb.size, fun g _ hg _ => (hb.block g (Array.getElem?_eq_some_iff.1 hg).1).trans hg⟩
theorem Keep.then_below (h : Keep B T W W') (hb : Below W'.heap.size W' W'') : Keep B T W W'' := h.trans (Keep.of_below hb)
theorem Keep.blk {g : Nat} {t : TypeId} {cs : Array Value} (h : Keep B T W W') (hB : Blk W g t cs) (ht : g < B ∨ T t = true) : Blk W' g t cs :=
 h.same g _ hB (by rcases ht with h1 | h1; exact Or.inl h1; exact Or.inr ⟨_, _, _, rfl, h1⟩)
theorem Keep.below {N : Nat} {w : World} (h : Keep B T W W') (hb : Below N w W) (hN : N ≤ B) (hN2 : N ≤ w.heap.size) : Below N w W' :=
 ⟨h.os.trans hb.os, h.tape.trans hb.tape, h.output.trans hb.output, Nat.le_trans hb.size h.size, fun k hk => by
  have h1 : k < w.heap.size := by omega
  have h2 := hb.block k hk
  rw [Array.getElem?_eq_getElem h1] at h2
  rw [h.same k _ h2 (Or.inl (by omega)), Array.getElem?_eq_getElem h1]⟩
theorem Keep.cell {p : Addr} {o : Obj} (h : Keep B T W W') (ho : W.heap[p.block]? = some o) (hs : Safe B T p.block o) : W'.cell? p = W.cell? p := World.cell?_of_block ((h.same _ _ ho hs).trans ho.symm)
/-- the slice reads as the numbers xs, in a row of numbers -/
def RdI (W : World) (A : Option Addr) (n : Nat) (xs : List Int) : Prop :=
 Rd W A n xs ∧ (0 < n → ∀ ad, A = some ad → ∃ cs fr, W.heap[ad.block]? = some (.cells cs 3 fr))
theorem RdI.move {A : Option Addr} {n : Nat} {xs : List Int} (h : RdI W A n xs) (hs : W.heap.size ≤ W'.heap.size) (k : ∀ (g : Nat) (cs : Array Value) (fr : Nat × Nat), W.heap[g]? = some (.cells cs 3 fr) → W'.heap[g]? = some (.cells cs 3 fr)) : RdI W' A n xs := by
 refine ⟨⟨h.1.1, fun hn => ?_⟩, fun hn ad e => ?_⟩
 ·obtain ⟨ad, e, hlt, hc⟩ := h.1.2 hn
  obtain ⟨cs, fr, ho⟩ := h.2 hn ad e
  refine ⟨ad, e, Nat.lt_of_lt_of_le hlt hs, fun j hj => (World.cell?_of_block ?_).trans (hc j hj)⟩
  rw [block_of_add, ho]
  exact k _ _ _ ho
 ·obtain ⟨cs, fr, ho⟩ := h.2 hn ad e
  exact ⟨cs, fr, k _ _ _ ho⟩
theorem RdI.keep {A : Option Addr} {n : Nat} {xs : List Int} (h : RdI W A n xs) (k : Keep B T W W') (hT : T 3 = true) : RdI W' A n xs :=
 h.move k.size (fun _ _ _ ho => k.same _ _ ho (Or.inr ⟨_, _, _, rfl, hT⟩))
theorem RdI.below {A : Option Addr} {n : Nat} {xs : List Int} (h : RdI W A n xs) (hb : Below W.heap.size W W') : RdI W' A n xs :=
 h.move hb.size (fun g _ _ ho => (hb.block g (Array.getElem?_eq_some_iff.1 ho).1).trans ho)
theorem RdI.grown {A : Option Addr} {n g : Nat} {xs : List Int} {t : TypeId} {cs : Array Value} (h : RdI W A n xs) (hg : W.grownBy W' (some g)) (hB : Blk W g t cs) (ht : t ≠ 3) : RdI W' A n xs :=
 h.move hg.size (fun k _ _ ho => (hg.block k (Array.getElem?_eq_some_iff.1 ho).1 (fun e => by
  cases e
  unfold Blk at hB
  rw [hB] at ho
  cases ho
  exact ht rfl)).trans ho)
theorem RdI.nil_ (W : World) (A : Option Addr) : RdI W A 0 [] := ⟨Rd.nil_ _ _, fun h => absurd h (by omega)⟩
theorem RdS.keepK {A : Option Addr} {k : Nat} {rows : List (List Value)} (h : RdS W A k rows) (hk : Keep B T W W') (hA : ∀ ad, A = some ad → ad.block < B) : RdS W' A k rows := fun hn => by
 obtain ⟨ad, e, hlt, hc⟩ := h hn
 exact ⟨ad, e, Nat.lt_of_lt_of_le hlt hk.size, fun i r hr => ⟨(hc i r hr).1, fun j v hv => (hk.cell (p := ad.add (i * k + j)) (by rw [block_of_add]; exact Array.getElem?_eq_getElem hlt) (by rw [block_of_add]; exact Or.inl (hA ad e))).trans ((hc i r hr).2 j v hv)⟩⟩
theorem RdS.oldA {A : Option Addr} {k : Nat} {rows : List (List Value)} (h : RdS W A k rows) (hn : 0 < rows.length) : ∀ ad, A = some ad → ad.block < W.heap.size := fun ad e => by
 obtain ⟨ad', e', hlt, _⟩ := h hn
 rw [e] at e'; cases e'; exact hlt
end
end
section
open Go.RowKit Go.Shelf
variable {B : Nat} {T : TypeId → Bool} {W W' W'' : World}
theorem Keep.grown {B : Nat} {T : TypeId → Bool} {W W' : World} {r : Option Nat} (hg : W.grownBy W' r) (h : ∀ k, r = some k → B ≤ k ∧ ∀ cs t fr, W.heap[k]? = some (.cells cs t fr) → T t = false) : Keep B T W W' :=
 ⟨hg.os, hg.tape, hg.output, hg.size, fun g o ho hs => (hg.block g (Array.getElem?_eq_some_iff.1 ho).1 (fun e => by
  obtain ⟨h1, h2⟩ := h g e.symm
  rcases hs with hs | ⟨cs, t, fr, rfl, ht⟩
  ·omega
  ·rw [h2 _ _ _ ho] at ht; cases ht)).trans ho⟩
end
section
open Go.RowKit Go.Shelf
theorem keep_put {B : Nat} {T : TypeId → Bool} {W : World} {l : Nat} {o : Obj} (hl : W.heap[l]? = some o) (ho : o.isCells = false) (hB : B ≤ l) (o' : Obj) : Keep B T W (W.putObj l o') :=
 Keep.grown (grownBy_putObj' W l o') (fun k e => by cases e; exact ⟨hB, fun cs t fr h => by rw [hl] at h; cases h; cases ho⟩)
theorem heap_setO {W : World} {g l i : Nat} {t : TypeId} {cs : Array Value} {o : Obj} (hB : Blk W g t cs) (hl : W.heap[l]? = some o) (ho : o.isCells = false) (u : Value) : (W.setCell ⟨g, i, none⟩ u).heap[l]? = some o :=
 (Below.heap_setCell _ _ _ _ (fun e => Obj_cells_ne hB hl ho e.symm)).trans hl
theorem OwnS.cellsOf {W : World} {base : Nat} {E : TypeId} {k : Nat} {v : Value} {rows : List (List Value)} (h : OwnS W base E k v rows) : ∀ i, v.ownBlock = some i → ∃ cs, W.heap[i]? = some (.cells cs E (0, 0)) := by
 intro i hk
 rcases h.1.2 with ⟨rfl, _⟩ | ⟨g, cap, cur, rfl, _, hh, _⟩
 ·simp [Value.ownBlock] at hk
 ·obtain rfl : g = i := by simpa [Value.ownBlock] using hk
  exact ⟨_, hh⟩
end

section
open Go.RowKit Go.Shelf
attribute [local go_sem] Oper.semAt_some
/-- what the caller of path brings -/
structure PathY (B : Nat) (T : TypeId → Bool) (m l N M : Nat) (J : List Nat → World → Prop) : Prop where
 tFn : T 61 = true
 tLs : T 22 = true
 keep : ∀ d W W', J d W → Below W.heap.size W W' → J d W'
 yield : ∀ d i W, J d W → i < N → d.length < M → YieldAt Fence.wide m Tryz.prog l #[.int .i64 i] W fun e W' => e = .returned (.bool true) ∧ J (d ++ [i]) W' ∧ Keep B T W W'
/-- the variables that the walk captured -/
structure PathV (B l : Nat) (A : Option Addr) (n c bl bY bw : Nat) (ls : List Lk) (W : World) : Prop where
 lb : Blk W bl 22 #[.slice A n c]
 y : Blk W bY 61 #[.func (.yield l) #[] #[]]
 w : Blk W bw 61 #[.func (.func 183) #[] #[.pointer (some ⟨bw, 0, none⟩), .pointer (some ⟨bl, 0, none⟩), .pointer (some ⟨bY, 0, none⟩)]]
 rd : RdS W A 3 (ls.map Lk.cells)
 old : ∀ ad, A = some ad → ad.block < B
theorem PathV.keep {B l n c bl bY bw : Nat} {T : TypeId → Bool} {A : Option Addr} {ls : List Lk} {W W' : World} (h : PathV B l A n c bl bY bw ls W) (k : Keep B T W W') (hf : T 61 = true) (hF : T 22 = true) : PathV B l A n c bl bY bw ls W' :=
 ⟨k.blk h.lb (Or.inr hF), k.blk h.y (Or.inr hf), k.blk h.w (Or.inr hf), h.rd.keepK k h.old, h.old⟩
def WalkPost (B : Nat) (T : TypeId → Bool) (J : List Nat → World → Prop) (d : List Nat) (W : World) (e : Ending) (W' : World) : Prop := e = .returned (.bool true) ∧ J d W' ∧ Keep B T W W'
set_option maxRecDepth 100000 in
set_option maxHeartbeats 8000000 in
theorem walk_any (B m l N M : Nat) (T : TypeId → Bool) (ls : List Lk) (J : List Nat → World → Prop) (hY : PathY B T m l N M J) (hL : LksOk ls) (A : Option Addr) (n c bl bY bw : Nat) (hn : ls.length = n) (hn2 : n ≤ 1000) :
  ∀ (a : Nat) (d : List Nat) (W : World), a ≤ n → a ≤ N → PathV B l A n c bl bY bw ls W → J d W → d.length + (pathL ls a).length ≤ M →
  Calls Tryz.prog 183 #[.int .i64 a, .pointer (some ⟨bw, 0, none⟩), .pointer (some ⟨bl, 0, none⟩), .pointer (some ⟨bY, 0, none⟩)] W (WalkPost B T J (d ++ pathL ls a) W) := by
 intro a
 induction a using Nat.strongRecOn with
 | ind a ih =>
 intro d W han haN hV hJ hd
 cases a with
 | zero =>
  have e0 : d ++ pathL ls 0 = d := List.append_nil d
  rw [e0]
  clear ih hV hd hY
  go_enter Tryz.func183, Tryz.ntmps183
  go_wp2_with fail
  go_ret
  exact ⟨rfl, hJ, Keep.refl _ _ _⟩
 | succ a =>
  obtain ⟨l0, hl⟩ : ∃ l0, ls[a]? = some l0 := ⟨ls[a]'(by omega), List.getElem?_eq_getElem (by omega)⟩
  have hfr := hL a l0 hl
  rw [pathL_succ hL hl] at hd ⊢
  rw [List.length_append] at hd
  have hdr := fr_drew (fr_refl W)
  have hkd : Keep B T W W.drew := Keep.of_below hdr
  have hV1 := hV.keep hkd hY.tFn hY.tLs
  have ihf := callsIn_wide (n := m).2 (ih l0.fr (by omega) d W.drew (by omega) (by omega) hV1 (hY.keep _ _ _ hJ hdr) (by omega))
  obtain ⟨ad, rfl, hab, h0, _⟩ := hV.rd.nth (i := a) (r := l0.cells) (by simp [hl])
  have hc0 := h0 _ rfl
  have hcw := hV.w.cell 0
  have hcl := hV.lb.cell 0
  have hcy := hV.y.cell 0
  have q0 : (((a + 1 : Nat) : Int) == 0) = false := beq_eq_false_iff_ne.2 (by omega)
  have q1 : ((a : Int) + 1 == 0) = false := beq_eq_false_iff_ne.2 (by omega)
  have z1 : IntKind.i64.wrap (((a + 1 : Nat) : Int) - 1) = (a : Int) := by rw [IntWalk.i64_in _ (by omega)]; omega
  have z2 : IntKind.i64.wrap ((a : Int) + 1 - 1) = (a : Int) := by rw [IntWalk.i64_in _ (by omega)]; omega
  have z3 : IntKind.i64.wrap (a : Int) = (a : Int) := IntWalk.i64_in _ (by omega)
  have i1 : 0 ≤ (a : Int) := by omega
  have i2 : (a : Int) < (n : Int) := by omega
  have hlen2 : (d ++ pathL ls l0.fr).length < M := by rw [List.length_append]; simp at hd; omega
  generalize pathL ls l0.fr = pf at *
  clear ih hl hd hV hJ h0 hL
  refine (callsIn_wide (n := m + 1)).1 ?_
  refine callsIn_of_wp Tryz.func183 rfl trivial ?_ rfl
  simp only [Tryz.ntmps183, List.size_toArray, List.length_cons, List.length_nil, Nat.reduceAdd, Nat.reduceSub, Array.replicate_succ, Array.replicate_zero, List.push_toArray, List.append_toArray, List.nil_append, List.cons_append]
  gi_wp2
  gi_region_with (first
   | (refine ⟨trivial, ?_⟩; gi_at_call 183; refine CallsIn.mono ihf ?_; rintro e w1 ⟨rfl, hJ1, hk1⟩; have hcy1 := (hV1.keep hk1 hY.tFn hY.tLs).y.cell 0; obtain ⟨fn2, tm2, as2, bo2, hy2, hR2⟩ := hY.yield (d ++ pf) a w1 hJ1 (by omega) hlen2)
   | (refine RoundIn.mono hR2 ?_; rintro e w2 ⟨rfl, hJ2, hk2⟩))
  all_goals
   gi_wp2
   go_ret
   exact ⟨rfl, by rw [← List.append_assoc]; exact hJ2, (hkd.trans hk1).trans hk2⟩
end
end Go.Proofs.YtdocgmafbacjcaaGreatDoor
end

section
namespace Go.Proofs.YtdocgmafbacjcaaGreatDoor
open Go.RowKit Go.Shelf
attribute [local go_sem] Oper.semAt_some

set_option maxRecDepth 100000 in
set_option maxHeartbeats 4000000 in
theorem path1_any (B m l N M : Nat) (T : TypeId → Bool) (ls : List Lk) (J : List Nat → World → Prop) (hY : PathY B T m l N M J) (hL : LksOk ls) (A : Option Addr) (n c bl ba a : Nat) (hn : ls.length = n) (hn2 : n ≤ 1000) (han : a ≤ n) (haN : a ≤ N) (W : World)
  (hl : Blk W bl 22 #[.slice A n c]) (ha : Blk W ba 3 #[.int .i64 a]) (hr : RdS W A 3 (ls.map Lk.cells)) (hold : ∀ ad, A = some ad → ad.block < B) (hJ : J [] W) (hM : (pathL ls a).length ≤ M) :
  Calls Tryz.prog 182 #[.func (.yield l) #[] #[], .pointer (some ⟨bl, 0, none⟩), .pointer (some ⟨ba, 0, none⟩)] W fun e W' => e = .returned (.tuple #[]) ∧ J (pathL ls a) W' ∧ Keep B T W W' := by
 have hmf : ∀ (fn : Fn) (first cap : Array Value) (w : World), (Instr.makeFunc fn first cap).run Tryz.prog w = .ok (.func fn first cap) w := fun _ _ _ _ => rfl
 have hb2 := fr_alloc (fr_alloc (fr_refl W) (.cells #[.func (.yield l) #[] #[]] 61)) (.cells #[.func (.func 183) #[] #[.pointer (some ⟨W.heap.size + 1, 0, none⟩), .pointer (some ⟨bl, 0, none⟩), .pointer (some ⟨W.heap.size, 0, none⟩)]] 61)
 have hV : PathV B l A n c bl W.heap.size (W.heap.size + 1) ls _ := ⟨hl.keep hb2, (Blk.new W _ _).alloc _, Blk.new_at _ _ (by simp), hr.keep hb2, hold⟩
 have h1 := walk_any B m l N M T ls J hY hL A n c bl W.heap.size (W.heap.size + 1) hn hn2 a [] _ han haN hV (hY.keep _ _ _ hJ hb2) (by simpa using hM)
 have hk2 : Keep B T W _ := Keep.of_below hb2
 have hla := ha.lt
 have hcl := fun j => hl.cell j
 have hca := fun j => ha.cell j
 clear hV hJ hr
 go_enter Tryz.func182, Tryz.ntmps182
 go_wp2_with fail
 refine h1.mono ?_
 rintro e w1 ⟨rfl, hJ1, hk1⟩
 go_wp2_with fail
 go_end0
 exact ⟨rfl, by simpa using hJ1, hk2.trans hk1⟩
theorem path_any (A : Option Addr) (n c a : Nat) (w : World) :
  Calls Tryz.prog 118 #[.slice A n c, .int .i64 a] w fun e w' => e = .returned (.func (.func 182) #[] #[.pointer (some ⟨w.heap.size, 0, none⟩), .pointer (some ⟨w.heap.size + 1, 0, none⟩)]) ∧ Blk w' w.heap.size 22 #[.slice A n c] ∧ Blk w' (w.heap.size + 1) 3 #[.int .i64 a] ∧ w'.heap.size = w.heap.size + 2 ∧ Below w.heap.size w w' := by
 have hmf : ∀ (fn : Fn) (first cap : Array Value) (w : World), (Instr.makeFunc fn first cap).run Tryz.prog w = .ok (.func fn first cap) w := fun _ _ _ _ => rfl
 go_enter Tryz.func118, Tryz.ntmps118
 go_wp2_with fail
 go_ret
 exact ⟨rfl, (Blk.new w _ _).alloc _, Blk.new_at _ _ (by simp), by simp, fr_alloc (fr_alloc (fr_refl _) _) _⟩
def tyP (t : TypeId) : Bool := t == 61 || t == 22 || t == 25
/-- what holds between two rounds of far -/
structure FarInv (B : Nat) (w2 : World) (bn lD l : Nat) (rec : Loop) (d : List Nat) (W : World) : Prop where
 kp : Keep B tyP w2 W
 n : Blk W bn 3 #[.int .i64 (d.length : Int)]
 df : W.heap[lD]? = some (.deferred (some []))
 lp : W.heap[l]? = some (.loop rec)
theorem FarInv.below {B bn lD l : Nat} {w2 W W' : World} {rec : Loop} {d : List Nat} (h : FarInv B w2 bn lD l rec d W) (hb : Below W.heap.size W W') : FarInv B w2 bn lD l rec d W' :=
 ⟨h.kp.then_below hb, h.n.keep hb, (hb.block _ (Array.getElem?_eq_some_iff.1 h.df).1).trans h.df, (hb.block _ (Array.getElem?_eq_some_iff.1 h.lp).1).trans h.lp⟩
theorem FarInv.put {B bn lD l : Nat} {w2 W : World} {rec : Loop} {d : List Nat} (h : FarInv B w2 bn lD l rec d W) (hB : B ≤ l) (hne : lD ≠ l) (r' : Loop) : FarInv B w2 bn lD l r' d (W.putObj l (.loop r')) := by
 have hk : Keep B tyP W (W.putObj l (.loop r')) := keep_put h.lp rfl hB _
 exact ⟨h.kp.trans hk, h.n.grown (grownBy_putObj' W l (.loop r')) (fun e => Obj_cells_ne h.n h.lp rfl (by cases e; rfl)), (World.putObj_heap_other hne).trans h.df, World.putObj_heap_same (Array.getElem?_eq_some_iff.1 h.lp).1⟩
set_option maxRecDepth 100000 in
set_option maxHeartbeats 8000000 in
theorem far_any (A : Option Addr) (n c a : Nat) (ls : List Lk) (w : World) (hr : RdS w A 3 (ls.map Lk.cells)) (hn : ls.length = n) (hL : LksOk ls) (han : a ≤ n) (hn2 : n ≤ 1000) (hold : ∀ ad, A = some ad → ad.block < w.heap.size) (hM : (pathL ls a).length ≤ 1000) :
  Calls Tryz.prog 116 #[.slice A n c, .int .i64 a] w fun e w' => e = .returned (.int .i64 ((pathL ls a).length : Int)) ∧ Below w.heap.size w w' := by
 have hb1 := fr_alloc (fr_refl w) (.cells #[.int .i64 0] 3)
 have hBn := Blk.new w 3 #[.int .i64 0]
 refine (callsIn_wide (n := 6)).1 (callsIn_of_wp_marks Tryz.func116 rfl trivial ?_ rfl)
 simp only [Tryz.ntmps116, List.size_toArray, List.length_cons, List.length_nil, Nat.reduceAdd, Nat.reduceSub, Array.replicate_succ, Array.replicate_zero, List.push_toArray, List.append_toArray, List.nil_append, List.cons_append]
 refine wpIn_wide.2 ?_
 go_wp2_with fail
 refine (path_any A n c a _).mono ?_
 rintro e w2 ⟨rfl, hB1, hB2, hs2, hb2⟩
 replace hBn := hBn.keep hb2
 replace hb1 := fr_call hb1 hb2
 clear hb2 hs2
 have hsz := hb1.size
 simp only [World.size_alloc] at hB1 hB2 ⊢
 go_wp2_with fail
 refine (wpIn_wide (n := 6)).1 ?_
 refine wpIn_range_enter (gf := 182) rfl (enters_of Tryz.func182 (by kernel_rfl) rfl) (fun fn rec hst hpe hfn htm hpa has hbod => ?_)
 generalize hl : w2.heap.size + 1 = l at *
 obtain ⟨W1, hW1⟩ : ∃ W1, (w2.alloc (.deferred (some []))).alloc (.loop rec) = W1 := ⟨_, rfl⟩
 have hL1 : W1.heap[l]? = some (.loop rec) := by
  rw [← hW1, ← hl]; have := World.alloc_heap_new (w2.alloc (.deferred (some []))) (.loop rec); rwa [World.size_alloc] at this
 have hD1 : W1.heap[w2.heap.size]? = some (.deferred (some [])) := by
  rw [← hW1]; exact (Below.heap_alloc _ _ _ (by simp)).trans (World.alloc_heap_new w2 _)
 have hb21 : Below w2.heap.size w2 W1 := by rw [← hW1]; exact fr_alloc (fr_alloc (fr_refl _) _) _
 rw [hW1]
 have h0 : FarInv w.heap.size w2 w.heap.size w2.heap.size l rec [] W1 := ⟨Keep.of_below hb21, hBn.keep hb21, hD1, hL1⟩
 have hY : PathY w.heap.size tyP 5 l a (pathL ls a).length (FarInv w.heap.size w2 w.heap.size w2.heap.size l rec) := by
  refine ⟨by decide, by decide, fun d W W' h hb => h.below hb, ?_⟩
  intro d i W hi hia hd
  have hy := run_yield (P := Tryz.prog) (args := #[.int .i64 i]) hi.lp (by rw [hpa]; rfl)
  rw [hfn, htm, hpa, has, hbod] at hy
  refine ⟨_, _, _, _, hy, roundIn_of_wpIn trivial ?_⟩
  clear hy
  gi_wp2
  refine ⟨_, run_beginRound hi.lp hst, ?_⟩
  have hkB : Keep w.heap.size tyP W (W.putObj l (.loop { rec with state := .busy })) := keep_put hi.lp rfl (by omega) _
  have hiB := hi.put (by omega) (by omega) { rec with state := .busy }
  generalize W.putObj l (.loop { rec with state := .busy }) = WB at *
  have hcn := hiB.n.cell 0
  have hfn0 := hiB.n.frozen 0
  have z1 : IntKind.i64.wrap ((d.length : Int) + 1) = (d.length : Int) + 1 := IntWalk.i64_in _ (by omega)
  have hrec : ({ rec with state := .ready, pending := none } : Loop) = rec := by
   cases rec
   simp only at hst hpe
   rw [hst, hpe]
  gi_wp2
  have hgs := grown_set WB ⟨w.heap.size, 0, none⟩ (.int .i64 ((d.length : Int) + 1))
  have hkC : Keep w.heap.size tyP WB (WB.setCell ⟨w.heap.size, 0, none⟩ (.int .i64 ((d.length : Int) + 1))) := Keep.grown hgs (fun k e => by cases e; exact ⟨Nat.le_refl _, fun cs t fr h => by rw [hiB.n] at h; cases h; rfl⟩)
  have hiC : FarInv w.heap.size w2 w.heap.size w2.heap.size l { rec with state := .busy } (d ++ [i]) (WB.setCell ⟨w.heap.size, 0, none⟩ (.int .i64 ((d.length : Int) + 1))) :=
   ⟨hiB.kp.trans hkC, by
    have := hiB.n.set_ 0 (.int .i64 ((d.length : Int) + 1))
    rw [List.length_append]
    exact this, heap_setO hiB.n hiB.df rfl _, heap_setO hiB.n hiB.lp rfl _⟩
  have hiD := hiC.put (by omega) (by omega) { { rec with state := .busy } with state := .ready, pending := none }
  have hkD : Keep w.heap.size tyP _ (World.putObj _ l (.loop { { rec with state := .busy } with state := .ready, pending := none })) := keep_put hiC.lp rfl (by omega) _
  refine ⟨_, _, run_endRound none hiC.lp, rfl, ?_, (hkB.trans hkC).trans hkD⟩
  exact ⟨hiD.kp, hiD.n, hiD.df, hiD.lp.trans (congrArg some (congrArg Obj.loop hrec))⟩
 refine CallsIn.mono (callsIn_wide.2 (path1_any w.heap.size 5 l a (pathL ls a).length tyP ls _ hY hL A n c (w.heap.size + 1) (w.heap.size + 1 + 1) a hn hn2 han (Nat.le_refl _) W1 (hB1.keep hb21) (hB2.keep hb21) ((hr.keep hb1).keep hb21) hold h0 (Nat.le_refl _))) ?_
 rintro e W ⟨rfl, hi, hk⟩
 have hi4 := hi.put (by omega) (by omega) { rec with state := .exhausted, pending := none }
 refine ⟨_, _, run_endLoop hi.lp (by rw [hst]; simp), ?_⟩
 rw [hpe]
 have hF4 := hi4.kp.below hb1 (Nat.le_refl _) (Nat.le_refl _)
 have hD4 := hi4.df
 have hcn := hi4.n.cell 0
 clear hi hk hY h0
 generalize W.putObj l (.loop { rec with state := .exhausted, pending := none }) = W4 at *
 go_wp2_with fail
 refine ⟨by simp, .inl ⟨_, _, rfl, run_takeDeferred hD4, ?_⟩⟩
 have hk6 : Keep w.heap.size tyP W4 (W4.putObj w2.heap.size (.deferred none)) := keep_put hD4 rfl (by omega) _
 exact ⟨_, results_tmp rfl _ _ _, rfl, hk6.below hF4 (Nat.le_refl _) (Nat.le_refl _)⟩
end Go.Proofs.YtdocgmafbacjcaaGreatDoor
end

section
namespace Go.Proofs.YtdocgmafbacjcaaGreatDoor
open Go.RowKit Go.Shelf
attribute [local go_sem] Oper.semAt_some

def prAt (ls : List Lk) (i : Nat) : Wh := (ls[i]?.map Lk.pr).getD ⟨0, 0⟩
/-- the train of an arbor -/
def trainL (ls : List Lk) (a : Nat) : List Wh := (pathL ls a).map (prAt ls)
/-- what holds between two rounds -/
structure TrInv (B : Nat) (w2 : World) (bp bo lD l : Nat) (rec : Loop) (A H : Option Addr) (n c m hc : Nat) (ls : List Lk) (d : List Nat) (W : World) : Prop where
 kp : Keep B tyP w2 W
 p : Blk W bp 25 #[.slice A n c, .slice H m hc]
 o : ∃ v, Blk W bo 46 #[v] ∧ OwnS W B 130 2 v ((d.map (prAt ls)).map Wh.cells)
 df : W.heap[lD]? = some (.deferred (some []))
 lp : W.heap[l]? = some (.loop rec)
section
variable {B bp bo lD l n c m hc : Nat} {w2 W W' : World} {rec : Loop} {A H : Option Addr} {ls : List Lk} {d : List Nat}
theorem TrInv.below (h : TrInv B w2 bp bo lD l rec A H n c m hc ls d W) (hb : Below W.heap.size W W') : TrInv B w2 bp bo lD l rec A H n c m hc ls d W' :=
 ⟨h.kp.then_below hb, h.p.keep hb, let ⟨v, h1, h2⟩ := h.o; ⟨v, h1.keep hb, h2.keep hb⟩, (hb.block _ (Array.getElem?_eq_some_iff.1 h.df).1).trans h.df, (hb.block _ (Array.getElem?_eq_some_iff.1 h.lp).1).trans h.lp⟩
theorem ownS_kept {base : Nat} {E : TypeId} {k : Nat} {v : Value} {rows : List (List Value)} {r : Option Nat} (h : OwnS W base E k v rows) (hg : W.grownBy W' r) (hne : r ≠ v.ownBlock) : OwnS W' base E k v rows :=
 ⟨World.ownsRow.kept h.1 hg (.inr (fun e => hne e.symm)), h.2⟩
theorem ownS_obj {base l : Nat} {E : TypeId} {k : Nat} {v : Value} {rows : List (List Value)} {o : Obj} (h : OwnS W base E k v rows) (hl : W.heap[l]? = some o) (ho : o.isCells = false) : some l ≠ v.ownBlock := fun e => by
 obtain ⟨cs, hh⟩ := h.cellsOf l e.symm
 rw [hh] at hl
 cases hl
 cases ho
theorem ownS_blk {base g : Nat} {E t : TypeId} {k : Nat} {v : Value} {rows : List (List Value)} {cs : Array Value} (h : OwnS W base E k v rows) (hB : Blk W g t cs) (ht : t ≠ E) : some g ≠ v.ownBlock := fun e => by
 obtain ⟨cs', hh⟩ := h.cellsOf g e.symm
 unfold Blk at hB
 rw [hh] at hB
 cases hB
 exact ht rfl
theorem TrInv.put (h : TrInv B w2 bp bo lD l rec A H n c m hc ls d W) (hB : B ≤ l) (hne : lD ≠ l) (r' : Loop) : TrInv B w2 bp bo lD l r' A H n c m hc ls d (W.putObj l (.loop r')) := by
 have hg := grownBy_putObj' W l (.loop r')
 have hk : Keep B tyP W (W.putObj l (.loop r')) := keep_put h.lp rfl hB _
 refine ⟨h.kp.trans hk, h.p.grown hg (fun e => Obj_cells_ne h.p h.lp rfl (by cases e; rfl)), ?_, (World.putObj_heap_other hne).trans h.df, World.putObj_heap_same (Array.getElem?_eq_some_iff.1 h.lp).1⟩
 obtain ⟨v, h1, h2⟩ := h.o
 exact ⟨v, h1.grown hg (fun e => Obj_cells_ne h1 h.lp rfl (by cases e; rfl)), ownS_kept h2 hg (ownS_obj h2 h.lp rfl)⟩
end
set_option maxRecDepth 100000 in
set_option maxHeartbeats 8000000 in
theorem trainOf_any (A H : Option Addr) (n c m hc a : Nat) (ls : List Lk) (w : World) (hr : RdS w A 3 (ls.map Lk.cells)) (hn : ls.length = n) (hL : LksOk ls) (han : a ≤ n) (hn2 : n ≤ 1000) (hold : ∀ ad, A = some ad → ad.block < w.heap.size) (hM : (pathL ls a).length ≤ 1000) :
  Calls Tryz.prog 41 #[.agg #[.slice A n c, .slice H m hc], .int .i64 a] w (RetP w (trainL ls a)) := by
 have hb1 := fr_alloc (fr_alloc (fr_refl w) (.cells #[.slice A n c, .slice H m hc] 25)) (.cells #[.slice none 0 0] 46)
 have hBp := (Blk.new w 25 #[.slice A n c, .slice H m hc]).alloc (.cells #[.slice none 0 0] 46)
 have hBo : Blk ((w.alloc (.cells #[.slice A n c, .slice H m hc] 25)).alloc (.cells #[.slice none 0 0] 46)) (w.heap.size + 1) 46 #[.slice none 0 0] := Blk.new_at _ _ (by simp)
 have hcP := fun j => hBp.cell j
 refine (callsIn_wide (n := 6)).1 (callsIn_of_wp_marks Tryz.func41 rfl trivial ?_ rfl)
 simp only [Tryz.ntmps41, List.size_toArray, List.length_cons, List.length_nil, Nat.reduceAdd, Nat.reduceSub, Array.replicate_succ, Array.replicate_zero, List.push_toArray, List.append_toArray, List.nil_append, List.cons_append]
 refine wpIn_wide.2 ?_
 go_wp2_with fail
 refine (path_any A n c a _).mono ?_
 rintro e w2 ⟨rfl, hB1, hB2, hs2, hb2⟩
 replace hBp := hBp.keep hb2
 replace hBo := hBo.keep hb2
 replace hb1 := fr_call hb1 hb2
 clear hb2 hs2 hcP
 have hsz := hb1.size
 simp only [World.size_alloc] at hB1 hB2 ⊢
 go_wp2_with fail
 refine (wpIn_wide (n := 6)).1 ?_
 refine wpIn_range_enter (gf := 182) rfl (enters_of Tryz.func182 (by kernel_rfl) rfl) (fun fn rec hst hpe hfn htm hpa has hbod => ?_)
 generalize hl : w2.heap.size + 1 = l at *
 obtain ⟨W1, hW1⟩ : ∃ W1, (w2.alloc (.deferred (some []))).alloc (.loop rec) = W1 := ⟨_, rfl⟩
 have hL1 : W1.heap[l]? = some (.loop rec) := by
  rw [← hW1, ← hl]; have := World.alloc_heap_new (w2.alloc (.deferred (some []))) (.loop rec); rwa [World.size_alloc] at this
 have hD1 : W1.heap[w2.heap.size]? = some (.deferred (some [])) := by
  rw [← hW1]; exact (Below.heap_alloc _ _ _ (by simp)).trans (World.alloc_heap_new w2 _)
 have hb21 : Below w2.heap.size w2 W1 := by rw [← hW1]; exact fr_alloc (fr_alloc (fr_refl _) _) _
 rw [hW1]
 have h0 : TrInv w.heap.size w2 w.heap.size (w.heap.size + 1) w2.heap.size l rec A H n c m hc ls [] W1 := ⟨Keep.of_below hb21, hBp.keep hb21, ⟨_, hBo.keep hb21, OwnS.nil _ _ _ _⟩, hD1, hL1⟩
 have hY : PathY w.heap.size tyP 5 l a (pathL ls a).length (TrInv w.heap.size w2 w.heap.size (w.heap.size + 1) w2.heap.size l rec A H n c m hc ls) := by
  refine ⟨by decide, by decide, fun d W W' h hb => h.below hb, ?_⟩
  intro d i W hi hia hd
  have hy := run_yield (P := Tryz.prog) (args := #[.int .i64 i]) hi.lp (by rw [hpa]; rfl)
  rw [hfn, htm, hpa, has, hbod] at hy
  refine ⟨_, _, _, _, hy, roundIn_of_wpIn trivial ?_⟩
  clear hy
  gi_wp2
  refine ⟨_, run_beginRound hi.lp hst, ?_⟩
  have hkB : Keep w.heap.size tyP W (W.putObj l (.loop { rec with state := .busy })) := keep_put hi.lp rfl (by omega) _
  have hiB := hi.put (by omega) (by omega) { rec with state := .busy }
  generalize W.putObj l (.loop { rec with state := .busy }) = WB at *
  have hrec : ({ rec with state := .ready, pending := none } : Loop) = rec := by
   cases rec
   simp only at hst hpe
   rw [hst, hpe]
  obtain ⟨l0, hl0⟩ : ∃ l0, ls[i]? = some l0 := ⟨ls[i]'(by omega), List.getElem?_eq_getElem (by omega)⟩
  have hpr : prAt ls i = l0.pr := by unfold prAt; rw [hl0]; rfl
  have hWr : RdS WB A 3 (ls.map Lk.cells) := (hr.keep hb1).keepK hiB.kp hold
  obtain ⟨ad, e, hab, _, h1⟩ := hWr.nth (i := i) (r := l0.cells) (by simp [hl0])
  have hc1 := h1 0 _ rfl
  have hc2 := h1 1 _ rfl
  simp only [Nat.zero_add, Nat.reduceAdd] at hc1 hc2
  have hold2 := hold ad e
  obtain ⟨x, hx⟩ : ∃ x, l0.pr = x := ⟨_, rfl⟩
  obtain ⟨x, y⟩ := x
  rw [hx] at hc1 hc2 hpr
  subst e
  have hszB := hkB.size
  have hs2 := hiB.kp.size
  have hWB : Below w.heap.size WB WB := (fr_refl WB).mono (by omega)
  have fin : ∀ (WC : World) (a : Act), TrInv w.heap.size w2 w.heap.size (w.heap.size + 1) w2.heap.size l { rec with state := .busy } (some ad) H n c m hc ls (d ++ [i]) WC → Keep w.heap.size tyP W WC →
    roundPost Tryz.prog l (fun e W' => e = .returned (.bool true) ∧ TrInv w.heap.size w2 w.heap.size (w.heap.size + 1) w2.heap.size l rec (some ad) H n c m hc ls (d ++ [i]) W' ∧ Keep w.heap.size tyP W W') .normal a WC := by
   intro WC a hi' hk'
   have h0 := hi'.put (by omega) (by omega) { { rec with state := .busy } with state := .ready, pending := none }
   have hk2 : Keep w.heap.size tyP WC (WC.putObj l (.loop { { rec with state := .busy } with state := .ready, pending := none })) := keep_put hi'.lp rfl (by omega) _
   refine ⟨_, _, run_endRound none hi'.lp, rfl, ?_, hk'.trans hk2⟩
   exact ⟨h0.kp, h0.p, h0.o, h0.df, h0.lp.trans (congrArg some (congrArg Obj.loop hrec))⟩
  obtain ⟨v, hBv, hOv⟩ := hiB.o
  obtain ⟨rb, hrb⟩ : ∃ r : Loop, { rec with state := .busy } = r := ⟨_, rfl⟩
  rw [hrb] at hiB fin
  have hkp := hiB.kp
  have hpB := hiB.p
  have hDB := hiB.df
  have hLB := hiB.lp
  have hdl : ((d.map (prAt ls)).map Wh.cells).length < 1000000 := by
   rw [List.length_map, List.length_map]; omega
  have HPR := Lib.hid hpr
  have hkS : ∀ W', Keep w.heap.size tyP WB W' → W'.cell? ⟨w.heap.size, 0, none⟩ = some (.slice (some ad) n c) ∧ W'.cell? ⟨(ad.add (i * 3)).block, (ad.add (i * 3)).off + 1, none⟩ = some (.int .i64 x) ∧ W'.cell? ⟨(ad.add (i * 3)).block, (ad.add (i * 3)).off + 2, none⟩ = some (.int .i64 y) ∧ W'.cell? ⟨(ad.add (i * 3)).block, (ad.add (i * 3)).off + 1 + 1, none⟩ = some (.int .i64 y) := fun W' hk => by
   have hb := hk.below hWB (Nat.le_refl _) (by omega)
   exact ⟨(hk.blk hpB (Or.inr (by decide))).cell 0, (hb.cell (p := ⟨(ad.add (i * 3)).block, (ad.add (i * 3)).off + 1, none⟩) (by show (ad.add (i * 3)).block < _; rw [block_of_add]; exact hold2)).trans hc1, (hb.cell (p := ⟨(ad.add (i * 3)).block, (ad.add (i * 3)).off + 2, none⟩) (by show (ad.add (i * 3)).block < _; rw [block_of_add]; exact hold2)).trans hc2, (hb.cell (p := ⟨(ad.add (i * 3)).block, (ad.add (i * 3)).off + 1 + 1, none⟩) (by show (ad.add (i * 3)).block < _; rw [block_of_add]; exact hold2)).trans hc2⟩
  have i1 : 0 ≤ (i : Int) := by omega
  have i2 : (i : Int) < (n : Int) := by omega
  clear hWr hiB hi hpr hl0 hx hst hpe hfn htm hpa has hbod h1 hc1 hc2 hrec
  gi_wp2
  have hdr := fr_drew (fr_refl WB)
  have hkz : Keep w.heap.size tyP WB WB.drew := Keep.of_below hdr
  replace hBv := hBv.keep hdr
  replace hOv := hOv.keep hdr
  have hDz := (hdr.block _ (Array.getElem?_eq_some_iff.1 hDB).1).trans hDB
  have hLz := (hdr.block _ (Array.getElem?_eq_some_iff.1 hLB).1).trans hLB
  refine wpIn_region_round (S := fun W' => W'.cell? ⟨w.heap.size, 0, none⟩ = some (.slice (some ad) n c) ∧ W'.cell? ⟨(ad.add (i * 3)).block, (ad.add (i * 3)).off + 1, none⟩ = some (.int .i64 x) ∧ W'.cell? ⟨(ad.add (i * 3)).block, (ad.add (i * 3)).off + 2, none⟩ = some (.int .i64 y) ∧ W'.cell? ⟨(ad.add (i * 3)).block, (ad.add (i * 3)).off + 1 + 1, none⟩ = some (.int .i64 y)) (by kernel_rfl) (fun ⟨_, _, h⟩ => h) (by kernel_rfl) (hkS _ hkz) (fun hHeld => ?_)
  generalize WB.drew = wz at hkz hHeld hBv hOv hDz hLz ⊢
  -- the region, step by step, in whatever order
  refine tkH 1 ⟨some 13, .fieldAddr 25 (.tmp 2) 0, 0, "shop.go:69", #[], none⟩ hHeld ?_
  refine tkH 2 ⟨some 14, .load 22 (.tmp 13), 22, "shop.go:69", #[⟨1, .data⟩], none⟩ hHeld ?_
  refine tkH 3 ⟨some 15, .move (.tmp 6), 3, "shop.go:69", #[], none⟩ hHeld ?_
  refine tkH 4 ⟨some 16, .indexAddr 22 (.tmp 14) (.tmp 15), 0, "shop.go:69", #[⟨2, .data⟩, ⟨3, .data⟩], none⟩ hHeld ?_
  refine tkH 5 ⟨some 17, .fieldAddr 132 (.tmp 16) 1, 0, "shop.go:69", #[⟨4, .data⟩], none⟩ hHeld ?_
  refine tkH 6 ⟨some 18, .load 130 (.tmp 17), 130, "shop.go:69", #[⟨5, .data⟩], none⟩ hHeld ?_
  refine wpAnyH_ready (rs := [0, 7]) (by kernel_rfl) (by simp) ?_
  refine (AllReadyH.cons (o := ⟨some 12, .load 46 (.tmp 5), 46, "shop.go:69", #[], none⟩) rfl (fun K hK => ?_) (AllReadyH.cons (o := ⟨some 19, .buildSlice 46 1 #[(0, .tmp 18)], 46, "shop.go:69", #[⟨6, .data⟩], none⟩) rfl (fun K hK => ?_) AllReadyH.nil))
  ·rw [if_pos (by rfl)]
   have hc5 := hBv.cell 0
   go_simp
   refine hK.out _ _ (hkS _ hkz) (fun hHeld => ?_)
   clear hK K
   (try simp only [Act.put, List.setIfInBounds_toArray, List.set_cons_zero, List.set_cons_succ])
   refine rdH 7 ⟨some 19, .buildSlice 46 1 #[(0, .tmp 18)], 46, "shop.go:69", #[⟨6, .data⟩], none⟩ fun K hK => ?_
   refine wp_build_pair rfl rfl ?_
   intro g wz hgz hG hb1
   replace hkz := hkz.then_below hb1
   replace hBv := hBv.keep hb1
   replace hOv := hOv.keep hb1
   replace hDz := (hb1.block _ (Array.getElem?_eq_some_iff.1 hDz).1).trans hDz
   replace hLz := (hb1.block _ (Array.getElem?_eq_some_iff.1 hLz).1).trans hLz
   refine hK.out _ _ (hkS _ hkz) (fun hHeld => ?_)
   clear hK K
   (try simp only [Act.put, List.setIfInBounds_toArray, List.set_cons_zero, List.set_cons_succ])
   refine rdH 8 ⟨some 20, .call { callee := .builtin .append, args := #[.tmp 12, .tmp 19], argTypes := #[46, 46] }, 46, "shop.go:69", #[⟨0, .data⟩, ⟨7, .data⟩], none⟩ fun K hK => ?_
   refine wp_app_row (.tmp 12) (.tmp 19) rfl Tryz.underlying46 info_pair rfl (by omega) (by omega) w.heap.size _ _ rfl hOv g rfl (r := Wh.cells ⟨x, y⟩) hG rfl (by intro u hu; simp only [Wh.cells, List.mem_cons, List.not_mem_nil, or_false] at hu; rcases hu with rfl | rfl <;> rfl) hdl (by have := hkz.size; omega) ?_
   intro A2 c2 wz hO2 hgr
   rw [List.length_map, List.length_map] at hO2 ⊢
   replace hkz := hkz.trans (Keep.grown hgr (fun k e => ⟨hOv.ge k e, fun cs t fr h => by obtain ⟨cs', hh⟩ := hOv.cellsOf k e; rw [hh] at h; cases h; rfl⟩))
   replace hBv := hBv.grown hgr (ownS_blk hOv hBv (by decide))
   replace hDz := (hgr.block _ (Array.getElem?_eq_some_iff.1 hDz).1 (ownS_obj hOv hDz rfl)).trans hDz
   replace hLz := (hgr.block _ (Array.getElem?_eq_some_iff.1 hLz).1 (ownS_obj hOv hLz rfl)).trans hLz
   refine hK.out _ _ (hkS _ hkz) (fun hHeld => ?_)
   clear hK K
   (try simp only [Act.put, List.setIfInBounds_toArray, List.set_cons_zero, List.set_cons_succ])
   refine rdH 9 ⟨none, .store 46 (.tmp 5) (.tmp 20), 0, "shop.go:69", #[⟨8, .data⟩, ⟨8, .chain⟩, ⟨0, .phase⟩, ⟨1, .phase⟩, ⟨2, .phase⟩, ⟨3, .phase⟩, ⟨4, .phase⟩, ⟨5, .phase⟩, ⟨6, .phase⟩, ⟨7, .phase⟩, ⟨8, .phase⟩], none⟩ fun K hK => ?_
   have hcz := hBv.cell 0
   have hfz := hBv.frozen 0
   go_simp
   have hB3 := hBv.set_ 0 (.slice A2 (d.length + 1) c2)
   have hgs := grown_set wz ⟨w.heap.size + 1, 0, none⟩ (.slice A2 (d.length + 1) c2)
   have hk3 := hkz.trans (Keep.grown hgs (fun k e => by cases e; exact ⟨Nat.le_succ _, fun cs t fr h => by rw [hBv] at h; cases h; rfl⟩))
   refine hK.out _ _ (hkS _ hk3) (fun hHeld => ?_)
   clear hK K
   refine wpAnyH_done (by kernel_rfl) ?_ _
   have hDf := heap_setO hBv hDz rfl (.slice A2 (d.length + 1) c2) (i := 0)
   have hLf := heap_setO hBv hLz rfl (.slice A2 (d.length + 1) c2) (i := 0)
   have hO3 := ownS_kept hO2 hgs (ownS_blk hO2 hBv (by decide))
   have hfinal := fun a => fin _ a ⟨hkp.trans hk3, hk3.blk hpB (Or.inr (by decide)), ⟨_, hB3, by rw [List.map_append, List.map_append, show [i].map (prAt ls) = [⟨x, y⟩] by simp [HPR.out]]; exact hO3⟩, hDf, hLf⟩ (hkB.trans hk3)
   gi_wp2
  ·rw [if_pos (by rfl)]
   refine wp_build_pair rfl rfl ?_
   intro g wz hgz hG hb1
   replace hkz := hkz.then_below hb1
   replace hBv := hBv.keep hb1
   replace hOv := hOv.keep hb1
   replace hDz := (hb1.block _ (Array.getElem?_eq_some_iff.1 hDz).1).trans hDz
   replace hLz := (hb1.block _ (Array.getElem?_eq_some_iff.1 hLz).1).trans hLz
   refine hK.out _ _ (hkS _ hkz) (fun hHeld => ?_)
   clear hK K
   (try simp only [Act.put, List.setIfInBounds_toArray, List.set_cons_zero, List.set_cons_succ])
   refine rdH 0 ⟨some 12, .load 46 (.tmp 5), 46, "shop.go:69", #[], none⟩ fun K hK => ?_
   have hc5 := hBv.cell 0
   go_simp
   refine hK.out _ _ (hkS _ hkz) (fun hHeld => ?_)
   clear hK K
   (try simp only [Act.put, List.setIfInBounds_toArray, List.set_cons_zero, List.set_cons_succ])
   refine rdH 8 ⟨some 20, .call { callee := .builtin .append, args := #[.tmp 12, .tmp 19], argTypes := #[46, 46] }, 46, "shop.go:69", #[⟨0, .data⟩, ⟨7, .data⟩], none⟩ fun K hK => ?_
   refine wp_app_row (.tmp 12) (.tmp 19) rfl Tryz.underlying46 info_pair rfl (by omega) (by omega) w.heap.size _ _ rfl hOv g rfl (r := Wh.cells ⟨x, y⟩) hG rfl (by intro u hu; simp only [Wh.cells, List.mem_cons, List.not_mem_nil, or_false] at hu; rcases hu with rfl | rfl <;> rfl) hdl (by have := hkz.size; omega) ?_
   intro A2 c2 wz hO2 hgr
   rw [List.length_map, List.length_map] at hO2 ⊢
   replace hkz := hkz.trans (Keep.grown hgr (fun k e => ⟨hOv.ge k e, fun cs t fr h => by obtain ⟨cs', hh⟩ := hOv.cellsOf k e; rw [hh] at h; cases h; rfl⟩))
   replace hBv := hBv.grown hgr (ownS_blk hOv hBv (by decide))
   replace hDz := (hgr.block _ (Array.getElem?_eq_some_iff.1 hDz).1 (ownS_obj hOv hDz rfl)).trans hDz
   replace hLz := (hgr.block _ (Array.getElem?_eq_some_iff.1 hLz).1 (ownS_obj hOv hLz rfl)).trans hLz
   refine hK.out _ _ (hkS _ hkz) (fun hHeld => ?_)
   clear hK K
   (try simp only [Act.put, List.setIfInBounds_toArray, List.set_cons_zero, List.set_cons_succ])
   refine rdH 9 ⟨none, .store 46 (.tmp 5) (.tmp 20), 0, "shop.go:69", #[⟨8, .data⟩, ⟨8, .chain⟩, ⟨0, .phase⟩, ⟨1, .phase⟩, ⟨2, .phase⟩, ⟨3, .phase⟩, ⟨4, .phase⟩, ⟨5, .phase⟩, ⟨6, .phase⟩, ⟨7, .phase⟩, ⟨8, .phase⟩], none⟩ fun K hK => ?_
   have hcz := hBv.cell 0
   have hfz := hBv.frozen 0
   go_simp
   have hB3 := hBv.set_ 0 (.slice A2 (d.length + 1) c2)
   have hgs := grown_set wz ⟨w.heap.size + 1, 0, none⟩ (.slice A2 (d.length + 1) c2)
   have hk3 := hkz.trans (Keep.grown hgs (fun k e => by cases e; exact ⟨Nat.le_succ _, fun cs t fr h => by rw [hBv] at h; cases h; rfl⟩))
   refine hK.out _ _ (hkS _ hk3) (fun hHeld => ?_)
   clear hK K
   refine wpAnyH_done (by kernel_rfl) ?_ _
   have hDf := heap_setO hBv hDz rfl (.slice A2 (d.length + 1) c2) (i := 0)
   have hLf := heap_setO hBv hLz rfl (.slice A2 (d.length + 1) c2) (i := 0)
   have hO3 := ownS_kept hO2 hgs (ownS_blk hO2 hBv (by decide))
   have hfinal := fun a => fin _ a ⟨hkp.trans hk3, hk3.blk hpB (Or.inr (by decide)), ⟨_, hB3, by rw [List.map_append, List.map_append, show [i].map (prAt ls) = [⟨x, y⟩] by simp [HPR.out]]; exact hO3⟩, hDf, hLf⟩ (hkB.trans hk3)
   gi_wp2
 refine CallsIn.mono (callsIn_wide.2 (path1_any w.heap.size 5 l a (pathL ls a).length tyP ls _ hY hL A n c (w.heap.size + 1 + 1) (w.heap.size + 1 + 1 + 1) a hn hn2 han (Nat.le_refl _) W1 (hB1.keep hb21) (hB2.keep hb21) ((hr.keep hb1).keep hb21) hold h0 (Nat.le_refl _))) ?_
 rintro e W ⟨rfl, hi, hk⟩
 have hi4 := hi.put (by omega) (by omega) { rec with state := .exhausted, pending := none }
 refine ⟨_, _, run_endLoop hi.lp (by rw [hst]; simp), ?_⟩
 rw [hpe]
 have hF4 := hi4.kp.below hb1 (Nat.le_refl _) (Nat.le_refl _)
 have hD4 := hi4.df
 obtain ⟨v, hBv, hOv⟩ := hi4.o
 have hcn := hBv.cell 0
 obtain ⟨C, cc, rfl⟩ := hOv.form
 rw [List.length_map] at hOv hcn
 clear hi hk hY h0 hi4 hBv
 generalize W.putObj l (.loop { rec with state := .exhausted, pending := none }) = W4 at *
 have HT := Lib.hid (show (pathL ls a).map (prAt ls) = trainL ls a from rfl)
 rw [HT.out] at hOv hcn
 go_wp2_with fail
 refine ⟨by simp, .inl ⟨_, _, rfl, run_takeDeferred hD4, ?_⟩⟩
 have hk6 : Keep w.heap.size tyP W4 (W4.putObj w2.heap.size (.deferred none)) := keep_put hD4 rfl (by omega) _
 have hO6 := ownS_kept hOv (grownBy_putObj' W4 w2.heap.size (.deferred none)) (ownS_obj hOv hD4 rfl)
 exact ⟨_, results_tmp rfl _ _ _, C, cc, rfl, hO6, hk6.below hF4 (Nat.le_refl _) (Nat.le_refl _)⟩
end Go.Proofs.YtdocgmafbacjcaaGreatDoor
end

section
namespace Go.Proofs.YtdocgmafbacjcaaGreatDoor
open Go.RowKit Go.Shelf

/-- a piece as it is defined -/
structure ShopOk (ls : List Lk) (hs : List Int) : Prop where
 n : 1 ≤ ls.length ∧ ls.length ≤ 5
 m : 1 ≤ hs.length ∧ hs.length ≤ 4
 fr : LksOk ls
 teeth : ∀ l ∈ ls, (4 ≤ l.pr.lo ∧ l.pr.lo ≤ 60) ∧ 4 ≤ l.pr.hi ∧ l.pr.hi ≤ 60
 far : ∀ l ∈ ls, (pathL ls l.fr).length < 3
 hand : ∀ h ∈ hs, 1 ≤ h ∧ h ≤ (ls.length : Int)
theorem RdS.takeS {w : World} {A : Option Addr} {k : Nat} {rows : List (List Value)} (h : RdS w A k rows) (j : Nat) : RdS w A k (rows.take j) := fun hn => by
 obtain ⟨ad, e, hb, hc⟩ := h (by rw [List.length_take] at hn; omega)
 refine ⟨ad, e, hb, fun i r hi => hc i r ?_⟩
 rw [List.getElem?_take] at hi
 split at hi
 ·exact hi
 ·cases hi
theorem LksOk.take {ls : List Lk} (h : LksOk ls) (n : Nat) : LksOk (ls.take n) := fun i l hi => by
 rw [List.getElem?_take] at hi
 split at hi
 ·exact h i l hi
 ·cases hi
set_option maxHeartbeats 2000000 in
theorem sPiece1_yes (A H : Option Addr) (n c m hc g : Nat) (x : Int) (w : World) (hX : Blk w g 25 #[.slice A n c, .slice H m hc]) (hx : 1 ≤ x ∧ x ≤ (n : Int)) :
  Calls Tryz.prog 117 #[.int .i64 x, .pointer (some ⟨g, 0, none⟩)] w fun e w' => e = .returned (.bool false) ∧ w = w' := by
 have hcX := fun j => hX.cell j
 have h1 : inB x 1 (n : Int) = true := inB_yes hx
 clear hX hx
 go_enter Tryz.func117, Tryz.ntmps117
 go_wp2_with fail
 refine (sin_is _ _ _ _ _ h1).mono ?_
 rintro e w' ⟨rfl, rfl⟩
 go_wp2_with fail
 go_ret
 exact ⟨rfl, rfl⟩
set_option maxRecDepth 100000 in
set_option maxHeartbeats 4000000 in
theorem index_hands (A H : Option Addr) (n c m hc g cc : Nat) (hs : List Int) (w : World) (hX : Blk w g 25 #[.slice A n c, .slice H m hc]) (hr : Rd w H m hs) (hm : m ≤ 1000) (ht : ∀ h ∈ hs, 1 ≤ h ∧ h ≤ (n : Int)) :
  Calls Tryz.prog 174 #[.slice H m cc, .func (.func 117) #[] #[.pointer (some ⟨g, 0, none⟩)]] w fun e' w' => e' = .returned (.int .i64 (-1)) ∧ w = w' := by
 have HL := Lib.hid hr.len
 go_enter Tryz.func174, Tryz.ntmps174
 go_wp2
 go_loopw [8] (fun i wr => ∃ k : Nat, k ≤ m ∧ i = .int .i64 k ∧ wr = w) (fun i _ => m - (intOf i).toNat)
 case atStart => exact ⟨0, Nat.zero_le _, rfl, rfl⟩
 case round =>
  obtain ⟨k, hk, rfl, rfl⟩ := hrel
  by_cases hlt : k < m
  ·have hkl : k < hs.length := by have := HL.out; omega
   obtain ⟨ad, rfl, hab, hc0⟩ := hr.at_ hlt
   have htk := ht _ (List.getElem_mem hkl)
   rw [show hs[k]?.getD 0 = hs[k] by simp [hkl]] at hc0
   generalize hs[k] = y at *
   clear hr ht
   go_wp2_with fail
   refine (sPiece1_yes A (some ad) n c m hc g y _ hX htk).mono ?_
   rintro e w1 ⟨rfl, rfl⟩
   go_wp2_with fail
   refine ⟨⟨k + 1, hlt, rfl, trivial⟩, ?_⟩
   simp [intOf]; omega
  ·go_wp2_with fail
   go_ret
   exact ⟨rfl, rfl⟩
set_option maxHeartbeats 2000000 in
theorem contains_hands (A H : Option Addr) (n c m hc g cc : Nat) (hs : List Int) (w : World) (hX : Blk w g 25 #[.slice A n c, .slice H m hc]) (hr : Rd w H m hs) (hm : m ≤ 1000) (ht : ∀ h ∈ hs, 1 ≤ h ∧ h ≤ (n : Int)) :
  Calls Tryz.prog 105 #[.slice H m cc, .func (.func 117) #[] #[.pointer (some ⟨g, 0, none⟩)]] w fun e' w' => e' = .returned (.bool false) ∧ w = w' := by
 have h := index_hands A H n c m hc g cc hs w hX hr hm ht
 clear hX hr ht
 go_enter Tryz.func105, Tryz.ntmps105
 go_wp2_with fail
 refine h.mono ?_
 rintro e w1 ⟨rfl, rfl⟩
 go_wp2_with fail
 go_ret
 exact ⟨rfl, rfl⟩
set_option maxRecDepth 100000 in
set_option maxHeartbeats 16000000 in
theorem sPiece_yes (A H : Option Addr) (n c m hc : Nat) (ls : List Lk) (hs : List Int) (w : World) (hr : RdS w A 3 (ls.map Lk.cells)) (hn : ls.length = n) (hh : Rd w H m hs) (hcap : n ≤ c) (hok : ShopOk ls hs) :
  Calls Tryz.prog 39 #[.agg #[.slice A n c, .slice H m hc]] w fun e w' => e = .returned (.bool true) ∧ Below w.heap.size w w' := by
 have hmf : ∀ (fn : Fn) (first cap : Array Value) (w : World), (Instr.makeFunc fn first cap).run Tryz.prog w = .ok (.func fn first cap) w := fun _ _ _ _ => rfl
 have hb0 := fr_alloc (fr_refl w) (.cells #[.slice A n c, .slice H m hc] 25)
 have hX := Blk.new w 25 #[.slice A n c, .slice H m hc]
 obtain ⟨w1, hw1⟩ : ∃ w1, w.alloc (.cells #[.slice A n c, .slice H m hc] 25) = w1 := ⟨_, rfl⟩
 rw [hw1] at hb0 hX
 replace hr := hr.keep hb0
 replace hh := hh.keep hb0
 have hml := hh.len
 obtain ⟨⟨n1, n2⟩, ⟨m1, m2⟩, hfr, hte, hfa, hha⟩ := hok
 rw [hn] at n1 n2 hha
 rw [hml] at m1 m2
 have hold := hr.oldA (by rw [List.length_map]; omega)
 have a1 : inB (n : Int) 1 5 = true := inB_yes (by omega)
 have a2 : inB (m : Int) 1 4 = true := inB_yes (by omega)
 have hcX := fun j => hX.cell j
 have hlX := hX.lt
 have HN := Lib.hid hn
 have HFR := Lib.hid hfr
 have HTE := Lib.hid hte
 have HFA := Lib.hid hfa
 clear hn hml hfr hte hfa
 go_enter Tryz.func39, Tryz.ntmps39
 go_upto_region 1 with (fail)
 (try rw [hw1])
 clear hw1
 go_wp2_with fail
 refine (sin_is _ _ _ _ _ a1).mono ?_
 rintro e w' ⟨rfl, rfl⟩
 go_wp2_with fail
 refine (sin_is _ _ _ _ _ a2).mono ?_
 rintro e w' ⟨rfl, rfl⟩
 go_wp2_with fail
 have hX0 := hX
 clear hcX hlX a1 a2 hX
 go_loopw [20] (fun t wr => ∃ j : Nat, j ≤ n ∧ t = .int .i64 j ∧ Below w1.heap.size w1 wr) (fun t _ => n - (intOf t).toNat)
 case atStart => exact ⟨0, Nat.zero_le _, rfl, fr_refl _⟩
 case round =>
  obtain ⟨j, hj, rfl, hbr⟩ := hrel
  by_cases hlt : j < n
  ·obtain ⟨l0, hl0⟩ : ∃ l0, ls[j]? = some l0 := ⟨ls[j]'(by have := HN.out; omega), List.getElem?_eq_getElem (by have := HN.out; omega)⟩
   have hme := List.mem_of_getElem? hl0
   have o1 := HFR.out j l0 hl0
   have o2 := HTE.out _ hme
   have o3 := HFA.out _ hme
   have hpt := pathL_take HFR.out j l0.fr o1 (by have := HN.out; omega)
   have hlen : (ls.take j).length = j := by rw [List.length_take]; have := HN.out; omega
   obtain ⟨ad, e, hab, h0, h1⟩ := (hr.keep hbr).nth (i := j) (r := l0.cells) (by simp [hl0])
   have c0 := h0 _ rfl
   have c1 := h1 0 _ rfl
   have c2 := h1 1 _ rfl
   subst e
   simp only [Nat.zero_add, Nat.reduceAdd] at c1 c2
   obtain ⟨f, x, y⟩ := l0
   simp only at o1 o2 o3 hpt c0 c1 c2
   have b1 : inB (f : Int) 0 (j : Int) = true := inB_yes (by omega)
   have b2 : inB x 4 60 = true := inB_yes o2.1
   have b3 : inB y 4 60 = true := inB_yes o2.2
   have d3 : decide ((3 : Int) ≤ ((pathL ls f).length : Int)) = false := decide_eq_false (by omega)
   have hp3 : (pathL (ls.take j) f).length ≤ 1000 := by rw [hpt]; omega
   have hro := ((hr.takeS j).keep hbr)
   rw [← List.map_take] at hro
   have i1 : (j : Int) < (n : Int) := by omega
   have i2 : 0 ≤ (j : Int) := by omega
   have i3 : (j : Int) ≤ (c : Int) := by omega
   clear h0 h1 hl0 hme o2
   go_upto_region 6 with (refine wpList_store_blk rfl _ _ _ rfl wr.heap.size 132 _ _ rfl rfl (Blk.new wr _ _) rfl (by kernel_rfl) (by simp [Value.oneCell']) ?_; intro w4 hQ hgQ)
   have hb4 : Below wr.heap.size wr w4 := (fr_alloc (fr_refl wr) _).grown hgQ (fr_alloc (fr_refl wr) _).size (by intro k hk; cases hk; exact Nat.le_refl _)
   have hb5 := fr_call hbr hb4
   have hX4 := hX0.keep hb5
   have hlX4 := hX4.lt
   have hlQ := hQ.lt
   have hkS : ∀ W, Below w4.heap.size w4 W → W.cell? ⟨wr.heap.size, 0, none⟩ = some (.int .i64 f) ∧ W.cell? ⟨wr.heap.size, 1, none⟩ = some (.int .i64 x) ∧ W.cell? ⟨wr.heap.size, 2, none⟩ = some (.int .i64 y) ∧ W.cell? ⟨w.heap.size, 0, none⟩ = some (.slice (some ad) n c) := fun W hb => ⟨(hb.cell (p := ⟨wr.heap.size, 0, none⟩) hlQ).trans (hQ.cell 0), (hb.cell (p := ⟨wr.heap.size, 1, none⟩) hlQ).trans (hQ.cell 1), (hb.cell (p := ⟨wr.heap.size, 2, none⟩) hlQ).trans (hQ.cell 2), (hb.cell (p := ⟨w.heap.size, 0, none⟩) hlX4).trans (hX4.cell 0)⟩
   dsimp only [Act.put]
   have hbz := fr_drew (fr_refl w4)
   clear c0 c1 c2
   refine wp_region_noPanic ?_
   refine wp_region_held_drew (S := fun W => W.cell? ⟨wr.heap.size, 0, none⟩ = some (.int .i64 f) ∧ W.cell? ⟨wr.heap.size, 1, none⟩ = some (.int .i64 x) ∧ W.cell? ⟨wr.heap.size, 2, none⟩ = some (.int .i64 y) ∧ W.cell? ⟨w.heap.size, 0, none⟩ = some (.slice (some ad) n c)) (by kernel_rfl) (hkS _ hbz) (fun hHeld => ?_)
   generalize w4.drew = wz at hbz hHeld ⊢
   -- the region, step by step, in whatever order
   refine tkH 0 ⟨some 25, .fieldAddr 132 (.tmp 4) 0, 0, "shop.go:50", #[], none⟩ hHeld ?_
   refine tkH 1 ⟨some 26, .load 3 (.tmp 25), 3, "shop.go:50", #[⟨0, .data⟩], none⟩ hHeld ?_
   refine tkH 2 ⟨some 27, .move (.tmp 3), 3, "shop.go:50", #[], none⟩ hHeld ?_
   refine rdH 3 ⟨some 28, .call { callee := .value (.func 40), args := #[.tmp 26, .const (.int .i64 0), .tmp 27], argTypes := #[3, 3, 3] }, 4, "shop.go:50", #[⟨1, .data⟩, ⟨2, .data⟩], none⟩ fun K hK => ?_
   go_simp
   refine (sin_is _ _ _ _ _ b1).mono ?_
   rintro e' wz' ⟨rfl, rfl⟩
   refine hK.out _ _ (hHeld) (fun hHeld => ?_)
   clear hK K
   (try simp only [Act.put, List.setIfInBounds_toArray, List.set_cons_zero, List.set_cons_succ])
   refine tkH 4 ⟨some 29, .unOp .not 4 (.tmp 28), 4, "shop.go:50", #[⟨3, .data⟩], none⟩ hHeld ?_
   refine tkH 5 ⟨some 30, .move (.tmp 29), 4, "shop.go:50", #[⟨4, .data⟩, ⟨3, .chain⟩], none⟩ hHeld ?_
   refine tkH 6 ⟨some 31, .fieldAddr 132 (.tmp 4) 1, 0, "shop.go:50", #[⟨5, .guard⟩], some (5, false)⟩ hHeld ?_
   refine tkH 7 ⟨some 32, .load 130 (.tmp 31), 130, "shop.go:50", #[⟨6, .data⟩, ⟨5, .guard⟩], some (5, false)⟩ hHeld ?_
   refine rdH 8 ⟨some 33, .call { callee := .value (.func 115), args := #[.tmp 32], argTypes := #[130] }, 4, "shop.go:50", #[⟨7, .data⟩, ⟨5, .chain⟩, ⟨5, .guard⟩], some (5, false)⟩ fun K hK => ?_
   go_simp
   refine (isPair_yes _ _ _ b2 b3).mono ?_
   rintro e' wz ⟨rfl, hb1⟩
   replace hbz := fr_call hbz hb1
   refine hK.out _ _ (hkS _ hbz) (fun hHeld => ?_)
   clear hK K
   (try simp only [Act.put, List.setIfInBounds_toArray, List.set_cons_zero, List.set_cons_succ])
   refine tkH 9 ⟨some 34, .unOp .not 4 (.tmp 33), 4, "shop.go:50", #[⟨8, .data⟩, ⟨5, .guard⟩], some (5, false)⟩ hHeld ?_
   refine tkH 10 ⟨some 35, .pick (.tmp 30) (.const (.bool true)) (.tmp 34), 4, "shop.go:50", #[⟨5, .data⟩, ⟨9, .data⟩], none⟩ hHeld ?_
   refine tkH 11 ⟨some 36, .move (.tmp 35), 4, "shop.go:50", #[⟨10, .data⟩, ⟨8, .chain⟩], none⟩ hHeld ?_
   refine tkH 12 ⟨some 37, .fieldAddr 25 (.tmp 1) 0, 0, "shop.go:50", #[⟨11, .guard⟩], some (11, false)⟩ hHeld ?_
   refine tkH 13 ⟨some 38, .load 22 (.tmp 37), 22, "shop.go:50", #[⟨12, .data⟩, ⟨11, .guard⟩], some (11, false)⟩ hHeld ?_
   refine tkH 14 ⟨some 39, .move (.tmp 3), 3, "shop.go:50", #[⟨11, .guard⟩], some (11, false)⟩ hHeld ?_
   refine tkH 15 ⟨some 40, .slice 22 (.tmp 38) none (some (.tmp 39)) none, 22, "shop.go:50", #[⟨13, .data⟩, ⟨14, .data⟩, ⟨11, .guard⟩], some (11, false)⟩ hHeld ?_
   refine tkH 16 ⟨some 41, .fieldAddr 132 (.tmp 4) 0, 0, "shop.go:50", #[⟨11, .guard⟩], some (11, false)⟩ hHeld ?_
   refine tkH 17 ⟨some 42, .load 3 (.tmp 41), 3, "shop.go:50", #[⟨16, .data⟩, ⟨11, .guard⟩], some (11, false)⟩ hHeld ?_
   refine rdH 18 ⟨some 43, .call { callee := .value (.func 116), args := #[.tmp 40, .tmp 42], argTypes := #[22, 3] }, 3, "shop.go:50", #[⟨15, .data⟩, ⟨17, .data⟩, ⟨11, .chain⟩, ⟨11, .guard⟩], some (11, false)⟩ fun K hK => ?_
   go_simp
   refine (far_any (some ad) j c f (ls.take j) wz ((hro.keep hb4).keep hbz) hlen (HFR.out.take j) o1 (by omega) (fun ad' e => by cases e; have := hbz.size; have := hb4.size; omega) hp3).mono ?_
   rintro e' wz ⟨rfl, hb1⟩
   rw [hpt]
   replace hbz := fr_call hbz hb1
   refine hK.out _ _ (hkS _ hbz) (fun hHeld => ?_)
   clear hK K
   (try simp only [Act.put, List.setIfInBounds_toArray, List.set_cons_zero, List.set_cons_succ])
   refine tkH 19 ⟨some 44, .binOp .geq 3 (.tmp 43) (.const (.int .i64 3)) 3, 4, "shop.go:50", #[⟨18, .data⟩, ⟨11, .guard⟩], some (11, false)⟩ hHeld ?_
   refine tkH 20 ⟨some 45, .pick (.tmp 36) (.const (.bool true)) (.tmp 44), 4, "shop.go:50", #[⟨11, .data⟩, ⟨19, .data⟩], none⟩ hHeld ?_
   refine wpAnyH_done (by kernel_rfl) ?_ _
   refine NoPanic.normal ?_
   go_wp2_with fail
   go_roundw
   case rel => exact ⟨j + 1, by omega, by go_num, fr_call hb5 hbz⟩
   case measure => simp [intOf]; omega
  ·obtain rfl : j = n := by omega
   have hX4 := hX0.keep hbr
   have hcX := fun j => hX4.cell j
   have hlX := hX4.lt
   go_wp2_with fail
   refine (contains_hands A H j c m hc w.heap.size hc hs wr hX4 (hh.keep hbr) (by omega) hha).mono ?_
   rintro e' w5 ⟨rfl, rfl⟩
   go_wp2_with fail
   go_ret
   exact ⟨rfl, fr_call hb0 hbr⟩
set_option maxHeartbeats 2000000 in
theorem sCheck_ok (A H : Option Addr) (n c m hc : Nat) (ls : List Lk) (hs : List Int) (w : World) (hr : RdS w A 3 (ls.map Lk.cells)) (hn : ls.length = n) (hh : Rd w H m hs) (hcap : n ≤ c) (hok : ShopOk ls hs) :
  Calls Tryz.prog 92 #[.agg #[.slice A n c, .slice H m hc]] w fun e w' => e = .returned (.int .i64 0) ∧ Below w.heap.size w w' := by
 have hb0 := fr_alloc (fr_refl w) (.cells #[.slice A n c, .slice H m hc] 25)
 have hX := Blk.new w 25 #[.slice A n c, .slice H m hc]
 have hcX := fun j => hX.cell j
 have h := sPiece_yes A H n c m hc ls hs _ (hr.keep hb0) hn (hh.keep hb0) hcap hok
 clear hr hh hn hok hX
 go_enter Tryz.func92, Tryz.ntmps92
 go_wp2_with fail
 refine h.mono ?_
 rintro e w1 ⟨rfl, hb1⟩
 go_wp2_with fail
 go_ret
 exact ⟨rfl, fr_call hb0 hb1⟩
end Go.Proofs.YtdocgmafbacjcaaGreatDoor
end
