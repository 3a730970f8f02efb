/- Walk: the loop of Keep. Walk: Keep. -/
import Derived.Test.YthjblcboainknaaGreatDoorMC1
import Derived.Sort.CutIn
section
namespace Go.Proofs.YthjblcboainknaaGreatDoor
open Go.RowKit Go.Shelf Dl
attribute [local go_sem] Oper.semAt_some

structure KSt where
 x : Dial
 out : List Int
 wrong : Int
def keepStep (comes n : Int) (first : Bool) (s : KSt) (d : Date) : KSt :=
 if first = true then ⟨s.x.set d, s.out, s.wrong⟩
 else if s.x.next.day = d.d then ⟨s.x.next, s.out, s.wrong⟩
 else if comes < 0 ∨ wkd n = comes then ⟨s.x.next.set d, s.out ++ [n], s.wrong⟩
 else ⟨s.x.next, s.out, s.wrong + 1⟩
def keepN (on : Int → Option Date) (x0 : Dial) (comes fr : Int) : Nat → KSt
 | 0 => ⟨x0, [], 0⟩
 | k + 1 => match on (fr + k) with
  | some d => keepStep comes (fr + k) (decide (k = 0)) (keepN on x0 comes fr k) d
  | none => keepN on x0 comes fr k

def realmV (e1 : Int) (A1 : Option Addr) (n1 k1 : Nat) (e2 : Int) (A2 : Option Addr) (n2 k2 : Nat) (last : Int) (F1 : Option Addr) (f1 M1 : Nat) (F2 : Option Addr) (f2 M2 : Nat) : Array Value :=
 #[.int .i64 e1, .slice A1 n1 k1, .int .i64 e2, .slice A2 n2 k2, .int .i64 last, .int .i64 e1, .slice A1 n1 k1, .int .i64 0, .int .i64 0, .int .i64 0, .slice F1 4002 f1, .map (some M1), .int .i64 e2, .slice A2 n2 k2, .int .i64 0, .int .i64 0, .int .i64 0, .slice F2 4002 f2, .map (some M2)]
set_option maxRecDepth 100000 in
set_option maxHeartbeats 2000000 in
theorem rdays_any (e1 : Int) (A1 : Option Addr) (n1 k1 : Nat) (e2 : Int) (A2 : Option Addr) (n2 k2 : Nat) (last : Int) (F1 : Option Addr) (f1 M1 : Nat) (F2 : Option Addr) (f2 M2 : Nat) (fr tl : Int) (w : World) :
  Calls Tryz.prog 66 #[.agg #[.int .i64 e1, .slice A1 n1 k1, .int .i64 e2, .slice A2 n2 k2, .int .i64 last, .int .i64 e1, .slice A1 n1 k1, .int .i64 0, .int .i64 0, .int .i64 0, .slice F1 4002 f1, .map (some M1), .int .i64 e2, .slice A2 n2 k2, .int .i64 0, .int .i64 0, .int .i64 0, .slice F2 4002 f2, .map (some M2)], .int .i64 fr, .int .i64 tl] w fun e w' =>
   e = .returned (.func (.func 93) #[] #[.pointer (some ⟨w.heap.size + 1, 0, none⟩), .pointer (some ⟨w.heap.size + 1 + 1, 0, none⟩), .pointer (some ⟨w.heap.size, 0, none⟩)]) ∧
   (Blk w' w.heap.size 96 (realmV e1 A1 n1 k1 e2 A2 n2 k2 last F1 f1 M1 F2 f2 M2) ∧ Blk w' (w.heap.size + 1) 3 #[.int .i64 fr] ∧ Blk w' (w.heap.size + 1 + 1) 3 #[.int .i64 tl]) ∧ Below w.heap.size w w' := by
 have hmf : ∀ (fn : Fn) (first cap : Array Value) (w : World), (Instr.makeFunc fn first cap).run Tryz.prog w = .ok (.func fn first cap) w := fun _ _ _ _ => rfl
 go_enter Tryz.func66, Tryz.ntmps66
 go_wp2_with fail
 go_ret
 exact ⟨rfl, ⟨((Blk.new w _ _).alloc _).alloc _, (Blk.new_at _ _ (by simp)).alloc _, Blk.new_at _ _ (by simp)⟩, fr_alloc (fr_alloc (fr_alloc (fr_refl _) _) _) _⟩

/-- what holds between two rounds -/
structure KInv (w0 : World) (bX bO bW : Nat) (s : KSt) (k : Nat) (W : World) : Prop where
 exc : Exc (fun b => b = bX ∨ b = bO ∨ b = bW) w0 W
 bx : Blk W bX 101 #[s.x.val]
 bo : ∃ v, Blk W bO 22 #[v] ∧ Own W w0.heap.size v s.out
 bw : Blk W bW 3 #[.int .i64 s.wrong]
 df : W.heap[w0.heap.size]? = some (.deferred (some []))
 good : 0 < k → s.x.good (4000 + k)
 len : s.out.length ≤ k
 w0_ : 0 ≤ s.wrong
 w1_ : s.wrong ≤ k
theorem Obj_cells_ne {W : World} {g l : Nat} {t : TypeId} {cs : Array Value} {o : Obj} (hB : Blk W g t cs) (hl : W.heap[l]? = some o) (ho : o.isCells = false) : g ≠ l := by
 rintro rfl
 unfold Blk at hB
 rw [hB] at hl
 cases hl
 cases ho
theorem own_keeps {W W' : World} {base : Nat} {v : Value} {xs : List Int} {r : Option Nat} (h : Own W base v xs) (hg : W.grownBy W' r) (hr : ∀ k, r = some k → ∃ o, W.heap[k]? = some o ∧ o.isCells = false) : Own W' base v xs := by
 refine World.ownsRow.kept h hg ?_
 cases hv : v.ownBlock with
 | none => exact Or.inl rfl
 | some g =>
  refine Or.inr (fun e => ?_)
  obtain ⟨o, ho, hc⟩ := hr g e.symm
  rcases h.2 with ⟨rfl, _⟩ | ⟨g', cap, cur, rfl, _, hh, _⟩
  ·simp [Value.ownBlock] at hv
  ·have : g' = g := by simpa [Value.ownBlock] using hv
   subst this
   rw [hh] at ho
   cases ho
   cases hc
theorem KInv.below {w0 W W' : World} {bX bO bW k : Nat} {s : KSt} (h : KInv w0 bX bO bW s k W) (hb : Below W.heap.size W W') : KInv w0 bX bO bW s k W' :=
 ⟨h.exc.below hb, h.bx.keep hb, let ⟨v, h1, h2⟩ := h.bo; ⟨v, h1.keep hb, h2.keep hb⟩, h.bw.keep hb, (hb.block _ (Array.getElem?_eq_some_iff.1 h.df).1).trans h.df, h.good, h.len, h.w0_, h.w1_⟩
theorem KInv.put {w0 W : World} {bX bO bW k l : Nat} {s : KSt} {o : Obj} (h : KInv w0 bX bO bW s k W) (hl : W.heap[l]? = some o) (ho : o.isCells = false) (hlt : w0.heap.size < l) (o' : Obj) : KInv w0 bX bO bW s k (W.putObj l o') := by
 have hg := grownBy_putObj' W l o'
 have hr : ∀ k, some l = some k → ∃ o, W.heap[k]? = some o ∧ o.isCells = false := fun k e => by cases e; exact ⟨o, hl, ho⟩
 refine ⟨h.exc.put o' (Or.inr (by omega)), h.bx.grown hg (fun e => Obj_cells_ne h.bx hl ho (by cases e; rfl)), ?_, h.bw.grown hg (fun e => Obj_cells_ne h.bw hl ho (by cases e; rfl)), ?_, h.good, h.len, h.w0_, h.w1_⟩
 ·obtain ⟨v, h1, h2⟩ := h.bo
  exact ⟨v, h1.grown hg (fun e => Obj_cells_ne h1 hl ho (by cases e; rfl)), own_keeps h2 hg hr⟩
 ·exact (World.putObj_heap_other (by omega)).trans h.df

theorem rd_ne_val {w : World} {A : Option Addr} {n g : Nat} {xs : List Int} {t : TypeId} {v : Value} (hr : Rd w A n xs) (hn : 1 ≤ n) (hB : Blk w g t #[v]) (hv : v ≠ .int .i64 (xs[0]?.getD 0)) : ∀ ad, A = some ad → ad.block ≠ g := by
 rintro ad rfl rfl
 obtain ⟨ad', e, _, hc⟩ := hr.2 (by omega)
 cases e
 have h0 := hc 0 (by omega)
 obtain ⟨b, o, p⟩ := ad
 unfold Blk at hB
 unfold World.cell? at h0
 simp only [block_of_add, hB] at h0
 simp only [Addr.add] at h0
 cases o with
 | zero =>
  apply hv
  have h0' := h0
  simp at h0'
  exact h0'.2
 | succ o => simp at h0
def Keep1Post (on : Int → Option Date) (x0 : Dial) (comes fr : Int) (N bX bO bW : Nat) (w : World) (e : Ending) (W : World) : Prop :=
 (e = .returned (.tuple #[]) ∧ (∀ k : Nat, k < N → on (fr + k) ≠ none) ∧ (∃ v base, Blk W bO 22 #[v] ∧ Own W base v (keepN on x0 comes fr N).out) ∧ Blk W bW 3 #[.int .i64 (keepN on x0 comes fr N).wrong] ∧ Exc (fun b => b = bX ∨ b = bO ∨ b = bW) w W) ∨
 (∃ k : Nat, k < N ∧ on (fr + k) = none ∧ (∀ j : Nat, j < k → on (fr + j) ≠ none) ∧ e = .panicked (awayV (fr + k)) ∧ Exc (fun b => b = bX ∨ b = bO ∨ b = bW) w W)

theorem KInv.setX {w0 W : World} {bX bO bW k k' : Nat} {s : KSt} (h : KInv w0 bX bO bW s k W) (hXO : bX ≠ bO) (hXW : bX ≠ bW) (x' : Dial) (hk : k ≤ k') (hg : 0 < k' → x'.good (4000 + k')) :
  KInv w0 bX bO bW ⟨x', s.out, s.wrong⟩ k' (W.setCell ⟨bX, 0, none⟩ x'.val) := by
 refine ⟨h.exc.set (Or.inl (Or.inl rfl)) _, h.bx.set_ 0 _, ?_, h.bw.far (p := ⟨bX, 0, none⟩) (Ne.symm hXW) _, ?_, hg, Nat.le_trans h.len hk, h.w0_, by have := h.w1_; simp only; omega⟩
 ·obtain ⟨v, h1, h2⟩ := h.bo
  exact ⟨v, h1.far (p := ⟨bX, 0, none⟩) (Ne.symm hXO) _, h2.set h.bx (by decide)⟩
 ·exact (Below.heap_setCell _ _ _ _ (fun e => Obj_cells_ne h.bx h.df rfl e.symm)).trans h.df
theorem heap_setX {W : World} {g l : Nat} {t : TypeId} {cs : Array Value} {o : Obj} (hB : Blk W g t cs) (hl : W.heap[l]? = some o) (ho : o.isCells = false) (u : Value) : (W.setCell ⟨g, 0, none⟩ u).heap[l]? = some o :=
 (Below.heap_setCell _ _ _ _ (fun e => Obj_cells_ne hB hl ho e.symm)).trans hl

theorem own_not_other {W : World} {base l : Nat} {v : Value} {xs : List Int} {o : Obj} (h : Own W base v xs) (hl : W.heap[l]? = some o) (ho : o.isCells = false) : v.ownBlock ≠ some l := by
 intro e
 rcases h.2 with ⟨rfl, _⟩ | ⟨g, cap, cur, rfl, _, hh, _⟩
 ·simp [Value.ownBlock] at e
 ·have : g = l := by simpa [Value.ownBlock] using e
  subst this
  rw [hh] at hl
  cases hl
  cases ho
theorem KInv.append {w0 W w1 : World} {bX bO bW k y : Nat} {s : KSt} {v : Value} {z : Int} (h : KInv w0 bX bO bW s k W) (hXO : bX ≠ bO) (hOW : bO ≠ bW) (hXl : bX < w0.heap.size) (hWl : bW < w0.heap.size) (hvB : Blk W bO 22 #[v]) (hvO : Own W w0.heap.size v s.out)
  {A : Option Addr} {c : Nat} (hg : (W.alloc (.cells #[.int .i64 z] 3)).grownBy w1 v.ownBlock) (hown : Own w1 w0.heap.size (.slice A (s.out.length + 1) c) (s.out ++ [z])) (hy : s.out.length + 1 ≤ y) (hky : k ≤ y) (hgd : s.x.good (4000 + y)) :
  KInv w0 bX bO bW ⟨s.x, s.out ++ [z], s.wrong⟩ y (w1.setCell ⟨bO, 0, none⟩ (.slice A (s.out.length + 1) c)) ∧ ∀ (l : Nat) (o : Obj), W.heap[l]? = some o → o.isCells = false → (w1.setCell ⟨bO, 0, none⟩ (.slice A (s.out.length + 1) c)).heap[l]? = some o := by
 have hge := own_ge hvO
 have hB1 := (hvB.alloc (.cells #[.int .i64 z] 3)).grown hg (Ne.symm (own_blk_ne hvO hvB (by decide)))
 have hX1 := (h.bx.alloc (.cells #[.int .i64 z] 3)).grown hg (fun e => by have := hge _ e.symm; omega)
 have hW1 := (h.bw.alloc (.cells #[.int .i64 z] 3)).grown hg (fun e => by have := hge _ e.symm; omega)
 have hE1 := (h.exc.alloc (.cells #[.int .i64 z] 3)).grown hg (fun i e => Or.inr (hge i e))
 have hO1 : ∀ (l : Nat) (o : Obj), W.heap[l]? = some o → o.isCells = false → w1.heap[l]? = some o := fun l o hl ho =>
  (hg.block l (by simp; have := (Array.getElem?_eq_some_iff.1 hl).1; omega) (fun e => own_not_other hvO hl ho e.symm)).trans ((Below.heap_alloc W _ l (Array.getElem?_eq_some_iff.1 hl).1).trans hl)
 refine ⟨⟨hE1.set (Or.inl (Or.inr (Or.inl rfl))) _, hX1.far (p := ⟨bO, 0, none⟩) hXO _, ⟨_, hB1.set_ 0 _, hown.set hB1 (by decide)⟩, hW1.far (p := ⟨bO, 0, none⟩) (Ne.symm hOW) _, ?_, fun _ => hgd, by simpa using hy, h.w0_, by have := h.w1_; simp only; omega⟩, ?_⟩
 ·exact heap_setX hB1 (hO1 _ _ h.df rfl) rfl _
 ·intro l o hl ho
  exact heap_setX hB1 (hO1 _ _ hl ho) ho _
theorem KInv.miss {w0 W : World} {bX bO bW k : Nat} {s : KSt} (h : KInv w0 bX bO bW s k W) (hXW : bX ≠ bW) (hOW : bO ≠ bW) (hWl : bW < w0.heap.size) (hky : s.wrong + 1 ≤ k) :
  KInv w0 bX bO bW ⟨s.x, s.out, s.wrong + 1⟩ k (W.setCell ⟨bW, 0, none⟩ (.int .i64 (s.wrong + 1))) := by
 refine ⟨h.exc.set (Or.inl (Or.inr (Or.inr rfl))) _, h.bx.far (p := ⟨bW, 0, none⟩) hXW _, ?_, h.bw.set_ 0 _, heap_setX h.bw h.df rfl _, h.good, h.len, by have := h.w0_; simp only; omega, hky⟩
 obtain ⟨v, h1, h2⟩ := h.bo
 refine ⟨v, h1.far (p := ⟨bW, 0, none⟩) hOW _, World.ownsRow.kept h2 (grown_set W _ _) (Or.inr (fun e => ?_))⟩
 have := own_ge h2 bW (by simpa using e)
 omega

/-- the statement, up to the iterator's call -/
theorem wpIn_range_enter {P : Program} {g : Operand} {ps : Array Tmp} {assign body : Code} {Q : Exit → Act → World → Prop} {a : Act} {w : World} {n gf : Nat} {lb : Array Value}
  (hg : a.eval g = .func (.func gf) #[] lb) (eg : ∀ args w, (callFunc gf args).run P w = .ok (.enter gf args) w)
  (hcall : ∀ (fn : Nat) (rec : Loop), rec.state = .ready → rec.pending = none → rec.fn = fn → rec.tmps = a.tmps → rec.params = ps → rec.assign = assign → rec.body = body →
   CallsIn Fence.wide n P gf (#[.func (.yield (w.heap.size + 1)) #[] #[]] ++ lb) ((w.alloc (.deferred (some []))).alloc (.loop rec)) (rangePost Fence.wide (n + 1) P (w.heap.size + 1) Q { a with defers := { target := .collected w.heap.size, args := #[] } :: a.defers })) :
  (Code.rangeFunc g ps assign body).wpIn Fence.wide (n + 1) P Q a w := by
 refine wpIn_rangeFunc (fun fn _ => ?_)
 obtain ⟨rec, hrec⟩ : ∃ rec : Loop, rec = { state := .ready, pending := none, fn, tmps := a.tmps, params := ps, assign, body, defers := w.heap.size } := ⟨_, rfl⟩
 obtain ⟨W1, hW1⟩ : ∃ W1, (w.alloc (.deferred (some []))).alloc (.loop rec) = W1 := ⟨_, rfl⟩
 have hc := hcall fn rec (by rw [hrec]) (by rw [hrec]) (by rw [hrec]) (by rw [hrec]) (by rw [hrec]) (by rw [hrec]) (by rw [hrec])
 rw [hW1] at hc
 refine ⟨w.heap.size + 1, [{ target := .collected w.heap.size, args := #[] }], W1, { target := .fn (.func gf) lb, args := #[.func (.yield (w.heap.size + 1)) #[] #[]] }, W1, gf, #[.func (.yield (w.heap.size + 1)) #[] #[]] ++ lb, W1, ?_, ?_, ?_, ?_, ?_, ?_⟩
 ·rw [← hW1, hrec]; exact run_enterLoop_outer _ _ _ _ _
 ·simp only [resolve, hg]
  simp [go_sem]
 ·exact fun _ _ => trivial
 ·simp [invoke, go_sem, eg]
 ·intro h; cases h
 ·exact hc

set_option maxRecDepth 100000 in
set_option maxHeartbeats 4000000 in
theorem Keep1_any (A1 A2 : Option Addr) (n1 k1 n2 k2 bR bF bT bX bC bO bW : Nat) (c1 c2 : List Int) (e1 e2 last fr tl comes : Int) (x0 : Dial) (N : Nat) (hN : fr + N = tl + 1) (w : World) (hr1 : Rd w A1 n1 c1) (hr2 : Rd w A2 n2 c2) (h1 : calOk e1 c1 = true) (h2 : calOk e2 c2 = true)
  (hf0 : 0 ≤ fr) (ht0 : tl ≤ 2000000) (hNb : N ≤ 2000)
  (hBR : Blk w bR 55 #[.int .i64 e1, .slice A1 n1 k1, .int .i64 e2, .slice A2 n2 k2, .int .i64 last]) (hBF : Blk w bF 3 #[.int .i64 fr]) (hBT : Blk w bT 3 #[.int .i64 tl])
  (hBX : Blk w bX 101 #[x0.val]) (hBC : Blk w bC 3 #[.int .i64 comes]) (hBO : Blk w bO 22 #[.slice none 0 0]) (hBW : Blk w bW 3 #[.int .i64 0])
  (hWF : bW ≠ bF) (hWT : bW ≠ bT) (hWC : bW ≠ bC) :
  Calls Tryz.prog 65 #[.pointer (some ⟨bR, 0, none⟩), .pointer (some ⟨bF, 0, none⟩), .pointer (some ⟨bT, 0, none⟩), .pointer (some ⟨bX, 0, none⟩), .pointer (some ⟨bC, 0, none⟩), .pointer (some ⟨bO, 0, none⟩), .pointer (some ⟨bW, 0, none⟩)] w (Keep1Post (onOf e1 c1 e2 c2 last) x0 comes fr N bX bO bW w) := by
 refine (callsIn_wide (n := 6)).1 (callsIn_of_wp_marks Tryz.func65 rfl trivial ?_ rfl)
 simp only [Tryz.ntmps65, List.size_toArray, List.length_cons, List.length_nil, Nat.reduceAdd, Nat.reduceSub, Array.replicate_succ, Array.replicate_zero, List.push_toArray, List.append_toArray, List.nil_append, List.cons_append]
 refine wpIn_wide.2 ?_
 have hcR := fun j => hBR.cell j
 have hc00 := hBR.cell 0
 have hc01 := hBR.cell 1
 have hc02 := hBR.cell 2
 have hc03 := hBR.cell 3
 have hc04 := hBR.cell 4
 have hcF := hBF.cell 0
 have hcT := hBT.cell 0
 simp only [List.getElem?_toArray, List.getElem?_cons_zero, List.getElem?_cons_succ] at hc00 hc01 hc02 hc03 hc04 hcF hcT
 clear hcR
 go_wp2_with fail
 refine wp_region_noPanic ?_
 refine wp_region_held_drew (S := fun W => (W.cell? ⟨bR, 0, none⟩ = some (.int .i64 e1) ∧ W.cell? ⟨bR, 1, none⟩ = some (.slice A1 n1 k1) ∧ W.cell? ⟨bR, 2, none⟩ = some (.int .i64 e2) ∧ W.cell? ⟨bR, 3, none⟩ = some (.slice A2 n2 k2) ∧ W.cell? ⟨bR, 4, none⟩ = some (.int .i64 last) ∧ W.cell? ⟨bF, 0, none⟩ = some (.int .i64 fr) ∧ W.cell? ⟨bT, 0, none⟩ = some (.int .i64 tl)) ∧ Below w.heap.size w W) (by kernel_rfl)
  ⟨⟨hc00, hc01, hc02, hc03, hc04, hcF, hcT⟩, fr_drew (fr_refl _)⟩ (fun hHeld => ?_)
 -- the region, step by step
 refine wpAnyH_take (i := 0) (oi := ⟨some 9, .load 55 (.tmp 0), 55, "keep.go:92", #[], none⟩) (v := ?_) rfl (by kernel_rfl) (by kernel_rfl) (by kernel_rfl) (fun _ _ _ h => h) (Or.inl ⟨by rfl, fun W hSw => ?_⟩) hHeld ?_
 rotate_left
 ·(try dsimp only at hSw); go_simp; (try with_reducible rfl)
 (try simp only [Act.put, List.setIfInBounds_toArray, List.set_cons_zero, List.set_cons_succ])
 refine wpAnyH_take (i := 2) (oi := ⟨some 11, .load 3 (.tmp 1), 3, "keep.go:92", #[], none⟩) (v := ?_) rfl (by kernel_rfl) (by kernel_rfl) (by kernel_rfl) (fun _ _ _ h => h) (Or.inl ⟨by rfl, fun W hSw => ?_⟩) hHeld ?_
 rotate_left
 ·(try dsimp only at hSw); go_simp; (try with_reducible rfl)
 (try simp only [Act.put, List.setIfInBounds_toArray, List.set_cons_zero, List.set_cons_succ])
 refine wpAnyH_take (i := 3) (oi := ⟨some 12, .load 3 (.tmp 2), 3, "keep.go:92", #[], none⟩) (v := ?_) rfl (by kernel_rfl) (by kernel_rfl) (by kernel_rfl) (fun _ _ _ h => h) (Or.inl ⟨by rfl, fun W hSw => ?_⟩) hHeld ?_
 rotate_left
 ·(try dsimp only at hSw); go_simp; (try with_reducible rfl)
 (try simp only [Act.put, List.setIfInBounds_toArray, List.set_cons_zero, List.set_cons_succ])
 refine wpAnyH_ready (rs := [1]) (by kernel_rfl) (by simp) ?_
 refine AllReadyH.cons (o := ⟨some 10, .call { callee := .value (.func 56), args := #[.tmp 9], argTypes := #[55] }, 96, "keep.go:92", #[⟨0, .data⟩], none⟩) rfl (fun K hK => ?_) AllReadyH.nil
 go_simp
 refine (opens_any A1 A2 n1 k1 n2 k2 c1 c2 e1 e2 last _ (hr1.keep (fr_drew (fr_refl _))) (hr2.keep (fr_drew (fr_refl _))) h1 h2).mono ?_
 rintro e' w1 ⟨F1, f1, M1, F2, f2, M2, rfl, hF1, hF2, hb1⟩
 have hb01 := fr_call (fr_drew (fr_refl w)) hb1
 refine hK.out _ _ (⟨⟨by rw [(hBR.keep hb01).cell]; rfl, by rw [(hBR.keep hb01).cell]; rfl, by rw [(hBR.keep hb01).cell]; rfl, by rw [(hBR.keep hb01).cell]; rfl, by rw [(hBR.keep hb01).cell]; rfl, by rw [(hBF.keep hb01).cell]; rfl, by rw [(hBT.keep hb01).cell]; rfl⟩, fr_call hHeld.2 hb1⟩) (fun hHeld => ?_)
 clear hK K
 (try simp only [Act.put, List.setIfInBounds_toArray, List.set_cons_zero, List.set_cons_succ])
 refine wpAnyH_ready (rs := [4]) (by kernel_rfl) (by simp) ?_
 refine AllReadyH.cons (o := ⟨some 13, .call { callee := .value (.func 66), args := #[.tmp 10, .tmp 11, .tmp 12], argTypes := #[96, 3, 3] }, 104, "keep.go:92", #[⟨1, .data⟩, ⟨2, .data⟩, ⟨3, .data⟩, ⟨1, .chain⟩], none⟩) rfl (fun K hK => ?_) AllReadyH.nil
 go_simp
 refine (rdays_any e1 A1 n1 k1 e2 A2 n2 k2 last F1 f1 M1 F2 f2 M2 fr tl _).mono ?_
 rintro e' w2 ⟨rfl, hnew, hb2⟩
 have hb02 := fr_call hb01 hb2
 refine hK.out _ _ (⟨⟨by rw [(hBR.keep hb02).cell]; rfl, by rw [(hBR.keep hb02).cell]; rfl, by rw [(hBR.keep hb02).cell]; rfl, by rw [(hBR.keep hb02).cell]; rfl, by rw [(hBR.keep hb02).cell]; rfl, by rw [(hBF.keep hb02).cell]; rfl, by rw [(hBT.keep hb02).cell]; rfl⟩, fr_call hHeld.2 hb2⟩) (fun hHeld => ?_)
 clear hK K
 (try simp only [Act.put, List.setIfInBounds_toArray, List.set_cons_zero, List.set_cons_succ])
 refine wpAnyH_done (by kernel_rfl) ?_ _
 refine NoPanic.normal ?_
 obtain ⟨hnr, hnf, hnt⟩ := hnew
 clear hc00 hc01 hc02 hc03 hc04 hcF hcT hHeld
 have hr1' := hr1.keep hb02
 have hr2' := hr2.keep hb02
 have hF1' := hF1.keep hb2
 have hF2' := hF2.keep hb2
 have hbx := hBX.lt
 have hbo := hBO.lt
 have hbw := hBW.lt
 have hle1 := hb01.size
 have hA1 : ∀ ad, A1 = some ad → ¬ (ad.block = bX ∨ ad.block = bO ∨ ad.block = bW) := fun ad e h => by
  obtain ⟨_, ⟨hn1, _⟩, hp⟩ := calOk_parts h1
  rw [hr1.len] at hn1
  rcases h with h | h | h
  ·exact rd_ne_val hr1 hn1 hBX (by cases x0 <;> simp [Dial.val]) ad e h
  ·exact rd_ne_val hr1 hn1 hBO (by simp) ad e h
  ·refine rd_ne_val hr1 hn1 hBW ?_ ad e h
   have := hp 0 (by rw [hr1.len]; omega)
   intro e; injection e with _ e; omega
 have hA2 : ∀ ad, A2 = some ad → ¬ (ad.block = bX ∨ ad.block = bO ∨ ad.block = bW) := fun ad e h => by
  obtain ⟨_, ⟨hn1, _⟩, hp⟩ := calOk_parts h2
  rw [hr2.len] at hn1
  rcases h with h | h | h
  ·exact rd_ne_val hr2 hn1 hBX (by cases x0 <;> simp [Dial.val]) ad e h
  ·exact rd_ne_val hr2 hn1 hBO (by simp) ad e h
  ·refine rd_ne_val hr2 hn1 hBW ?_ ad e h
   have := hp 0 (by rw [hr2.len]; omega)
   intro e; injection e with _ e; omega
 have hFX : bF ≠ bX := hBF.ne_ hBX (by decide)
 have hFO : bF ≠ bO := hBF.ne_ hBO (by decide)
 have hCX : bC ≠ bX := hBC.ne_ hBX (by decide)
 have hCO : bC ≠ bO := hBC.ne_ hBO (by decide)
 have hXO : bX ≠ bO := hBX.ne_ hBO (by decide)
 have hXW : bX ≠ bW := hBX.ne_ hBW (by decide)
 have hOW : bO ≠ bW := hBO.ne_ hBW (by decide)
 replace hBX := hBX.keep hb02
 replace hBC := hBC.keep hb02
 replace hBO := hBO.keep hb02
 replace hBW := hBW.keep hb02
 replace hBF := hBF.keep hb02
 generalize w1.heap.size = b1 at *
 go_wp2_with fail
 refine (wpIn_wide (n := 6)).1 ?_
 refine wpIn_range_enter (gf := 93) rfl (enters_of Tryz.func93 (by kernel_rfl) rfl) (fun fn rec hst hpe hfn htm hpa has hbod => ?_)
 have hb02s := hb02.size
 generalize hl : w2.heap.size + 1 = l at *
 obtain ⟨W1, hW1⟩ : ∃ W1, (w2.alloc (.deferred (some []))).alloc (.loop rec) = W1 := ⟨_, rfl⟩
 have hL1 : W1.heap[l]? = some (.loop rec) := by
  rw [← hW1, ← hl]; have := World.alloc_heap_new (w2.alloc (.deferred (some []))) (.loop rec); rwa [World.size_alloc] at this
 have hD1 : W1.heap[w2.heap.size]? = some (.deferred (some [])) := by
  rw [← hW1]; exact (Below.heap_alloc _ _ _ (by simp)).trans (World.alloc_heap_new w2 _)
 have hb21 : Below w2.heap.size w2 W1 := by rw [← hW1]; exact fr_alloc (fr_alloc (fr_refl _) _) _
 rw [hW1]
 refine CallsIn.mono (days1_in 4 l (b1 + 1) (b1 + 1 + 1) b1 A1 A2 F1 F2 n1 k1 n2 k2 f1 f2 M1 M2 c1 c2 e1 e2 last fr tl h1 h2
  (fun k W => KInv w2 bX bO bW (keepN (onOf e1 c1 e2 c2 last) x0 comes fr k) k W ∧ W.heap[l]? = some (.loop rec)) N hN hf0 ht0 ?_ ?_ ?_ W1 ?_) ?_
 ·rintro k W W' ⟨hi, hl'⟩ hb
  exact ⟨hi.below hb, (hb.block _ (Array.getElem?_eq_some_iff.1 hl').1).trans hl'⟩
 ·rintro k W ⟨hi, _⟩
  have hG1 : ∀ ad, F1 = some ad → ¬ (ad.block = bX ∨ ad.block = bO ∨ ad.block = bW) := fun ad e h => by
   rcases h with h | h | h
   ·exact rd_ne_one hF1' (by omega) hBX ad e h
   ·exact rd_ne_one hF1' (by omega) hBO ad e h
   ·exact rd_ne_one hF1' (by omega) hBW ad e h
  have hG2 : ∀ ad, F2 = some ad → ¬ (ad.block = bX ∨ ad.block = bO ∨ ad.block = bW) := fun ad e h => by
   rcases h with h | h | h
   ·exact rd_ne_one hF2' (by omega) hBX ad e h
   ·exact rd_ne_one hF2' (by omega) hBO ad e h
   ·exact rd_ne_one hF2' (by omega) hBW ad e h
  refine ⟨⟨?_, ?_⟩, hi.exc.blk hnr (by omega), ⟨hi.exc.rd hr1' hA1, hi.exc.rd hr2' hA2⟩, hi.exc.rd hF1' hG1, hi.exc.rd hF2' hG2⟩
  ·rw [(hi.exc.blk hnf (by omega)).cell]; rfl
  ·rw [(hi.exc.blk hnt (by omega)).cell]; rfl
 ·rintro k x W ⟨hi, hl'⟩ hk hx
  have hy := run_yield (P := Tryz.prog) (args := #[.int .i64 (fr + k), .agg #[.int .i64 x.y, .int .i64 x.m, .int .i64 x.d]]) hl' (by rw [hpa]; rfl)
  rw [hfn, htm, hpa, has, hbod] at hy
  refine ⟨_, _, _, _, hy, roundIn_of_wpIn trivial ?_⟩
  clear hy
  have hiA := hi.below (fr_alloc (fr_refl W) (.cells #[.int .i64 x.y, .int .i64 x.m, .int .i64 x.d] 50))
  have hlA : (W.alloc (.cells #[.int .i64 x.y, .int .i64 x.m, .int .i64 x.d] 50)).heap[l]? = some (.loop rec) := (Below.heap_alloc _ _ _ (Array.getElem?_eq_some_iff.1 hl').1).trans hl'
  have hBD : Blk (W.alloc (.cells #[.int .i64 x.y, .int .i64 x.m, .int .i64 x.d] 50)) W.heap.size 50 #[.int .i64 x.y, .int .i64 x.m, .int .i64 x.d] := Blk.new _ _ _
  gi_wp2
  refine ⟨_, run_beginRound hlA hst, ?_⟩
  have hiB := hiA.put hlA rfl (by omega) (.loop { rec with state := .busy })
  have hlB : ((W.alloc (.cells #[.int .i64 x.y, .int .i64 x.m, .int .i64 x.d] 50)).putObj l (.loop { rec with state := .busy })).heap[l]? = some (.loop { rec with state := .busy }) := World.putObj_heap_same (Array.getElem?_eq_some_iff.1 hlA).1
  have hBDB : Blk ((W.alloc (.cells #[.int .i64 x.y, .int .i64 x.m, .int .i64 x.d] 50)).putObj l (.loop { rec with state := .busy })) W.heap.size 50 #[.int .i64 x.y, .int .i64 x.m, .int .i64 x.d] := hBD.grown (grownBy_putObj' _ _ _) (fun e => Obj_cells_ne hBD hlA rfl (by cases e; rfl))
  have hdW := hi.exc.size
  generalize (W.alloc (.cells #[.int .i64 x.y, .int .i64 x.m, .int .i64 x.d] 50)).putObj l (.loop { rec with state := .busy }) = WB at *
  generalize W.heap.size = bD at *
  clear hiA hlA hBD hi hl' htm hpa has hbod hfn
  have hrec : ({ rec with state := .ready, pending := none } : Loop) = rec := by
   cases rec
   simp only at hst hpe
   rw [hst, hpe]
  have hstep : keepN (onOf e1 c1 e2 c2 last) x0 comes fr (k + 1) = keepStep comes (fr + k) (decide (k = 0)) (keepN (onOf e1 c1 e2 c2 last) x0 comes fr k) x := by
   simp only [keepN, hx]
  have fin : ∀ (WC : World) (a : Act) (r : Loop), r = { rec with state := .busy } → KInv w2 bX bO bW (keepN (onOf e1 c1 e2 c2 last) x0 comes fr (k + 1)) (k + 1) WC → WC.heap[l]? = some (.loop r) →
    roundPost Tryz.prog l (fun e W' => e = .returned (.bool true) ∧ KInv w2 bX bO bW (keepN (onOf e1 c1 e2 c2 last) x0 comes fr (k + 1)) (k + 1) W' ∧ W'.heap[l]? = some (.loop rec)) .normal a WC := by
   rintro WC a r rfl hi' hl3
   have h0 := hi'.put hl3 rfl (by omega) (.loop { { rec with state := .busy } with state := .ready, pending := none })
   have h3 := World.putObj_heap_same (o := .loop { { rec with state := .busy } with state := .ready, pending := none }) (Array.getElem?_eq_some_iff.1 hl3).1
   refine ⟨_, _, run_endRound none hl3, rfl, h0, h3.trans ?_⟩
   exact congrArg some (congrArg Obj.loop hrec)
  rw [hstep] at fin ⊢
  generalize keepN (onOf e1 c1 e2 c2 last) x0 comes fr k = s at *
  obtain ⟨rb, hrb⟩ : ∃ r : Loop, { rec with state := .busy } = r := ⟨_, rfl⟩
  rw [hrb] at hlB
  have FIN := fun WC a => fin WC a rb hrb.symm
  have HRB := Lib.hid hrb
  obtain ⟨csx, hreal⟩ : ∃ cs, real cs x := by
   unfold onOf at hx
   by_cases hl2 : fr + (k : Int) ≤ last
   ·rw [if_pos hl2] at hx; exact ⟨_, (dateOf_some.1 hx).1⟩
   ·rw [if_neg hl2] at hx; exact ⟨_, (dateOf_some.1 hx).1⟩
  have HREAL := Lib.hid hreal
  clear fin hstep hx hrec hrb hst hpe hreal
  have hBFB := hiB.exc.blk hBF (by omega)
  have hBCB := hiB.exc.blk hBC (by omega)
  have hcF := hBFB.cell 0
  have hcX := hiB.bx.cell 0
  have hfX := hiB.bx.frozen 0
  have hcD := fun j => hBDB.cell j
  have hbDX : bD ≠ bX := hBDB.ne_ hiB.bx (by decide)
  by_cases hk0 : k = 0
  ·subst hk0
   have h00 : (fr + ((0 : Nat) : Int) == fr) = true := by simp
   gi_wp2_with (first | (refine wpListIn_setDial s.x x _ _ rfl rfl ?_; intro wC hbC; have hcX2 := (hiB.bx.keep hbC).cell 0; have hfX2 := (hiB.bx.keep hbC).frozen 0) | (refine wpListIn_storeDial (s.x.set x) _ _ bX _ rfl rfl hcX2 hfX2 ?_))
   have hiC := hiB.below hbC
   have hlC := (hbC.block l (Array.getElem?_eq_some_iff.1 hlB).1).trans hlB
   refine FIN _ _ ?_ (heap_setX hiC.bx hlC (by rw [← HRB.out]; rfl) _)
   have hst1 : keepStep comes (fr + ((0 : Nat) : Int)) (decide True) s x = ⟨s.x.set x, s.out, s.wrong⟩ := by simp [keepStep]
   rw [hst1]
   exact hiC.setX hXO hXW _ (by omega) (fun _ => good_set HREAL.out (by omega))
  ·have h00 : (fr + (k : Int) == fr) = false := by simp; omega
   have hgk := hiB.good (by omega)
   have hd0 : decide (k = 0) = false := by simp [hk0]
   rw [hd0] at FIN ⊢
   clear hd0
   gi_wp2_with (first | (refine wpListIn_nextDial s.x _ hgk (by omega) _ rfl ?_; intro wC hbC; have hcX2 := (hiB.bx.keep hbC).cell 0; have hfX2 := (hiB.bx.keep hbC).frozen 0) | (refine wpListIn_storeDial s.x.next _ _ bX _ rfl rfl hcX2 hfX2 ?_))
   have hiE0 := (hiB.below hbC).setX hXO hXW s.x.next (k' := k + 1) (by omega) (fun _ => by have := good_next hgk; exact good_mono this (by push_cast; omega))
   have hlE0 := heap_setX (hiB.below hbC).bx ((hbC.block l (Array.getElem?_eq_some_iff.1 hlB).1).trans hlB) (by rw [← HRB.out]; rfl) s.x.next.val
   have hBDE0 := (hBDB.keep hbC).far (p := ⟨bX, 0, none⟩) hbDX s.x.next.val
   clear hcX2 hfX2 hcF hcX hfX hcD
   generalize wC.setCell ⟨bX, 0, none⟩ s.x.next.val = WE at *
   have hcX := hiE0.bx.cell 0
   have hcD := fun j => hBDE0.cell j
   simp only [Act.put, List.setIfInBounds_toArray, List.set_cons_zero, List.set_cons_succ]
   gi_cut [28] from 24 (fun s28 wc => s28 = .bool (s.x.next.day == x.d) ∧ Below WE.heap.size WE wc)
   case first =>
    gi_region_with (refine ⟨trivial, ?_⟩; gi_at_call 67; refine CallsIn.mono (CallsIn.inRound l (callsIn_wide.2 (shown_is s.x.next _))) ?_; rintro e w' ⟨rfl, hb⟩; have hbE := fr_call (fr_drew (fr_refl WE)) hb; have hcD2 := fun j => (hBDE0.keep hbE).cell j)
    all_goals
     gi_wp2_with fail
     gi_meet
     case rel => exact ⟨rfl, hbE⟩
   case rest =>
    obtain ⟨rfl, hbW⟩ := hcut
    have hiF := hiE0.below hbW
    have hlF := (hbW.block l (Array.getElem?_eq_some_iff.1 hlE0).1).trans hlE0
    have hBDF := hBDE0.keep hbW
    clear hcX hcD hiE0 hlE0 hBDE0
    cases hq : (s.x.next.day == x.d) with
    | true =>
     gi_wp2_with fail
     refine FIN _ _ ?_ hlF
     have hst1 : keepStep comes (fr + (k : Int)) false s x = ⟨s.x.next, s.out, s.wrong⟩ := by
      have : s.x.next.day = x.d := by simpa using hq
      simp [keepStep, this]
     rw [hst1]
     exact hiF
    | false =>
     have hne : ¬ s.x.next.day = x.d := by simpa using hq
     have HNE := Lib.hid hne
     clear hq hne
     have hBCF := hiF.exc.blk hBC (by omega)
     have hcC := hBCF.cell 0
     have hcX := hiF.bx.cell 0
     have hfX := hiF.bx.frozen 0
     have hcD := fun j => hBDF.cell j
     by_cases hneg : comes < 0
     ·have hd1 : decide (comes < 0) = true := by simpa using hneg
      have HOR := Lib.hid (show comes < 0 ∨ wkd (fr + (k : Int)) = comes from Or.inl hneg)
      gi_wp2_with fail
      gi_cut [36] from 29 (fun s36 wd => s36 = .bool true ∧ Below wc.heap.size wc wd)
      case first =>
       gi_region_with (refine ⟨trivial, ?_⟩)
       all_goals
        gi_wp2_with fail
        gi_meet
        case rel => exact ⟨rfl, fr_drew (fr_refl _)⟩
      case rest =>
       obtain ⟨rfl, hbV⟩ := hcut
       clear hcC hcX hfX hcD
       have hiG := hiF.below hbV
       have hlG := (hbV.block l (Array.getElem?_eq_some_iff.1 hlF).1).trans hlF
       have hBDG := hBDF.keep hbV
       have hcX := hiG.bx.cell 0
       have hfX := hiG.bx.frozen 0
       have hcD := fun j => hBDG.cell j
       gi_wp2_with (first | (refine wpListIn_setDial s.x.next x _ _ rfl rfl ?_; intro wS hbS; have hcX2 := (hiG.bx.keep hbS).cell 0; have hfX2 := (hiG.bx.keep hbS).frozen 0) | (refine wpListIn_storeDial (s.x.next.set x) _ _ bX _ rfl rfl hcX2 hfX2 ?_; have hiS := (hiG.below hbS).setX hXO hXW (s.x.next.set x) (k' := k + 1) (Nat.le_refl _) (fun _ => good_set HREAL.out (by omega)); have hlS := heap_setX (hiG.below hbS).bx ((hbS.block l (Array.getElem?_eq_some_iff.1 hlG).1).trans hlG) (by rw [← HRB.out]; rfl) (s.x.next.set x).val; generalize wS.setCell ⟨bX, 0, none⟩ (s.x.next.set x).val = wT at *; obtain ⟨v, hvB, hvO⟩ := hiS.bo; have hcO := hvB.cell 0) | (gi_at_builtin; go_must (refine app_int_in rfl (.tmp 40) (.tmp 42) rfl w2.heap.size v s.out rfl rfl hvO (by have := hiB.len; omega) (by have := hiS.exc.size; omega) ?_; intro Aq cq wq hownq hgq); go_must (have hapd := KInv.append (y := k + 1) hiS hXO hOW (by omega) (by omega) hvB hvO hgq hownq (by have := hiB.len; show s.out.length + 1 ≤ k + 1; omega) (Nat.le_refl _) (good_set HREAL.out (by omega))); go_must (have hBq := (hvB.alloc (.cells #[.int .i64 (fr + (k : Int))] 3)).grown hgq (Ne.symm (own_blk_ne hvO hvB (by decide))); have hcO1 := hBq.cell 0; have hfO1 := hBq.frozen 0)))
       refine FIN _ _ ?_ (hapd.2 l _ hlS (by rw [← HRB.out]; rfl))
       have hst1 : keepStep comes (fr + (k : Int)) false s x = ⟨s.x.next.set x, s.out ++ [fr + (k : Int)], s.wrong⟩ := by
        have h1 := HNE.out
        have h2 : comes < 0 ∨ wkd (fr + (k : Int)) = comes := HOR.out
        simp [keepStep, h1, h2]
       rw [hst1]
       exact hapd.1
     ·have hd1 : decide (comes < 0) = false := by simpa using hneg
      gi_wp2_with fail
      gi_cut [36] from 29 (fun s36 wd => s36 = .bool (wkd (fr + (k : Int)) == comes) ∧ Below wc.heap.size wc wd)
      case first =>
       gi_region_with (refine ⟨trivial, ?_⟩; gi_at_call 59; refine CallsIn.mono (CallsIn.inRound l (callsIn_wide.2 (weekday_any _ _ (by omega) (by omega)))) ?_; rintro e w' ⟨rfl, rfl⟩)
       all_goals
        gi_wp2_with fail
        gi_meet
        case rel => exact ⟨rfl, fr_drew (fr_refl _)⟩
      case rest =>
       obtain ⟨rfl, hbV⟩ := hcut
       clear hcC hcX hfX hcD
       cases hq : (wkd (fr + (k : Int)) == comes) with
       | true =>
        have HOR := Lib.hid (show comes < 0 ∨ wkd (fr + (k : Int)) = comes from Or.inr (by simpa using hq))
        clear hq
        have hiG := hiF.below hbV
        have hlG := (hbV.block l (Array.getElem?_eq_some_iff.1 hlF).1).trans hlF
        have hBDG := hBDF.keep hbV
        have hcX := hiG.bx.cell 0
        have hfX := hiG.bx.frozen 0
        have hcD := fun j => hBDG.cell j
        gi_wp2_with (first | (refine wpListIn_setDial s.x.next x _ _ rfl rfl ?_; intro wS hbS; have hcX2 := (hiG.bx.keep hbS).cell 0; have hfX2 := (hiG.bx.keep hbS).frozen 0) | (refine wpListIn_storeDial (s.x.next.set x) _ _ bX _ rfl rfl hcX2 hfX2 ?_; have hiS := (hiG.below hbS).setX hXO hXW (s.x.next.set x) (k' := k + 1) (Nat.le_refl _) (fun _ => good_set HREAL.out (by omega)); have hlS := heap_setX (hiG.below hbS).bx ((hbS.block l (Array.getElem?_eq_some_iff.1 hlG).1).trans hlG) (by rw [← HRB.out]; rfl) (s.x.next.set x).val; generalize wS.setCell ⟨bX, 0, none⟩ (s.x.next.set x).val = wT at *; obtain ⟨v, hvB, hvO⟩ := hiS.bo; have hcO := hvB.cell 0) | (gi_at_builtin; go_must (refine app_int_in rfl (.tmp 40) (.tmp 42) rfl w2.heap.size v s.out rfl rfl hvO (by have := hiB.len; omega) (by have := hiS.exc.size; omega) ?_; intro Aq cq wq hownq hgq); go_must (have hapd := KInv.append (y := k + 1) hiS hXO hOW (by omega) (by omega) hvB hvO hgq hownq (by have := hiB.len; show s.out.length + 1 ≤ k + 1; omega) (Nat.le_refl _) (good_set HREAL.out (by omega))); go_must (have hBq := (hvB.alloc (.cells #[.int .i64 (fr + (k : Int))] 3)).grown hgq (Ne.symm (own_blk_ne hvO hvB (by decide))); have hcO1 := hBq.cell 0; have hfO1 := hBq.frozen 0)))
        refine FIN _ _ ?_ (hapd.2 l _ hlS (by rw [← HRB.out]; rfl))
        have hst1 : keepStep comes (fr + (k : Int)) false s x = ⟨s.x.next.set x, s.out ++ [fr + (k : Int)], s.wrong⟩ := by
         have h1 := HNE.out
         have h2 : comes < 0 ∨ wkd (fr + (k : Int)) = comes := HOR.out
         simp [keepStep, h1, h2]
        rw [hst1]
        exact hapd.1
       | false =>
        have HNO := Lib.hid (show ¬ (comes < 0 ∨ wkd (fr + (k : Int)) = comes) from fun h => by
         rcases h with h | h
         ·omega
         ·simp [h] at hq)
        clear hq
        have hiG := hiF.below hbV
        have hlG := (hbV.block l (Array.getElem?_eq_some_iff.1 hlF).1).trans hlF
        have hcW := hiG.bw.cell 0
        have hfW := hiG.bw.frozen 0
        have hw0 := hiB.w0_
        have hw1 := hiB.w1_
        have hwr : IntKind.i64.wrap (s.wrong + 1) = s.wrong + 1 := IntWalk.i64_in _ (by omega)
        gi_wp2_with fail
        refine FIN _ _ ?_ (heap_setX hiG.bw hlG (by rw [← HRB.out]; rfl) _)
        have hst1 : keepStep comes (fr + (k : Int)) false s x = ⟨s.x.next, s.out, s.wrong + 1⟩ := by
         have h1 := HNE.out
         have h2 := HNO.out
         simp only [keepStep, Bool.false_eq_true, if_false, if_neg h1, if_neg h2]
        rw [hst1]
        exact hiG.miss hXW hOW (by omega) (by have := hiB.w1_; simp only; push_cast; omega)
 ·exact ⟨⟨(Exc.refl _ _).below hb21, hBX.keep hb21, ⟨_, hBO.keep hb21, Own.nil _ _⟩, hBW.keep hb21, hD1, fun h => absurd h (by omega), Nat.le_refl _, Int.le_refl _, Int.le_refl _⟩, hL1⟩
 ·have hE2 : Exc (fun b => b = bX ∨ b = bO ∨ b = bW) w w2 := (Exc.refl _ w).below hb02
  rintro e W (⟨v, rfl, ⟨hi, hl'⟩, hno⟩ | ⟨k, hk, hx, rfl, ⟨hi, hl'⟩, hno⟩)
  ·have hi4 := hi.put hl' rfl (by omega) (.loop { rec with state := .exhausted, pending := none })
   refine ⟨_, _, run_endLoop hl' (by rw [hst]; simp), ?_⟩
   rw [hpe]
   refine ⟨by simp, .inl ⟨_, _, rfl, run_takeDeferred hi4.df, ?_⟩⟩
   refine ⟨_, results_none rfl _ _ _, Or.inl ⟨rfl, hno, ?_, ?_, ?_⟩⟩
   ·obtain ⟨v', h3, h4⟩ := hi4.bo
    exact ⟨v', _, h3.grown (grownBy_putObj' _ _ _) (fun e => Obj_cells_ne h3 hi4.df rfl (by cases e; rfl)), own_keeps h4 (grownBy_putObj' _ _ _) (fun k e => by cases e; exact ⟨_, hi4.df, rfl⟩)⟩
   ·exact hi4.bw.grown (grownBy_putObj' _ _ _) (fun e => Obj_cells_ne hi4.bw hi4.df rfl (by cases e; rfl))
   ·exact hE2.trans_ (hi4.exc.put _ (Or.inr (Nat.le_refl _))) (fun i h => Or.inl h)
  ·refine ⟨by simp, .inl ⟨_, _, rfl, run_takeDeferred hi.df, ?_⟩⟩
   exact Or.inr ⟨k, hk, hx, hno, rfl, hE2.trans_ (hi.exc.put _ (Or.inr (Nat.le_refl _))) (fun i h => Or.inl h)⟩
end Go.Proofs.YthjblcboainknaaGreatDoor
end

section
namespace Go.Proofs.YthjblcboainknaaGreatDoor
open Go.RowKit Dl

set_option maxRecDepth 100000 in
set_option maxHeartbeats 2000000 in
theorem wpList_storeDial {ops : Array Oper} {rest : List Oper} {ty : TypeId} {pos : String} {after : Array Edge} {a : Act} {w : World} {Q : Exit → Act → World → Prop} (x : Dial) (p q g : Nat) (u : Value)
  (hp : a.tmps.getD p undef = .pointer (some ⟨g, 0, none⟩)) (hq : a.tmps.getD q undef = x.val) (hc : w.cell? ⟨g, 0, none⟩ = some u) (hf : w.frozen? ⟨g, 0, none⟩ = false)
  (h : wpList Tryz.prog ops Q rest a (w.setCell ⟨g, 0, none⟩ x.val)) :
  wpList Tryz.prog ops Q ({ dst := none, op := .store 101 (.tmp p) (.tmp q), type := ty, pos, after, guard := none } :: rest) a w := by
 refine wpList_plain rfl fun K hK' => ?_
 replace hK' := hK' _ _ h
 clear h
 cases x with
 | plain d => unfold Dial.val at hq hK'; go_simp; exact hK'
 | annual d mm => unfold Dial.val at hq hK'; go_simp; exact hK'
 | leaps d mm y => unfold Dial.val at hq hK'; go_simp; exact hK'

/-- are days some that can be asked for -/
def spanB (a b : Int) : Bool := inB a 0 2000000 && inB b 0 2000000 && inB (b - a) 0 1500
def keepW (e1 : Int) (c1 : List Int) (e2 : Int) (c2 : List Int) (last : Int) (x0 : Dial) (comes fr tl : Int) : KSt := keepN (onOf e1 c1 e2 c2 last) x0 comes fr (tl - fr + 1).toNat

set_option maxRecDepth 100000 in
set_option maxHeartbeats 4000000 in
theorem Keep_some (A1 A2 : Option Addr) (n1 k1 n2 k2 : Nat) (c1 c2 : List Int) (e1 e2 last kind fr tl comes : Int) (x0 : Dial) (w : World) (hr1 : Rd w A1 n1 c1) (hr2 : Rd w A2 n2 c2) (hn1 : n1 ≤ 9223372036854775807) (hn2 : n2 ≤ 9223372036854775807)
  (hok : realmOk e1 c1 e2 c2 last = true) (hkd : dialK kind = some x0) (hcm : inB comes (-1) 6 = true) (hsp : spanB fr tl = true) (hall : ∀ k : Nat, k < (tl - fr + 1).toNat → onOf e1 c1 e2 c2 last (fr + k) ≠ none) :
  Calls Tryz.prog 30 #[.agg #[.int .i64 e1, .slice A1 n1 k1, .int .i64 e2, .slice A2 n2 k2, .int .i64 last], .int .i64 kind, .int .i64 comes, .int .i64 fr, .int .i64 tl] w fun e' w' =>
   ∃ A c, e' = .returned (.tuple #[.slice A (keepW e1 c1 e2 c2 last x0 comes fr tl).out.length c, .int .i64 (keepW e1 c1 e2 c2 last x0 comes fr tl).wrong, .int .i64 0]) ∧
    Rd w' A (keepW e1 c1 e2 c2 last x0 comes fr tl).out.length (keepW e1 c1 e2 c2 last x0 comes fr tl).out ∧ Below w.heap.size w w' := by
 have hmf : ∀ (fn : Fn) (first cap : Array Value) (w : World), (Instr.makeFunc fn first cap).run Tryz.prog w = .ok (.func fn first cap) w := fun _ _ _ _ => rfl
 obtain ⟨⟨hs1, hs2⟩, hs3⟩ : (inB fr 0 2000000 = true ∧ inB tl 0 2000000 = true) ∧ inB (tl - fr) 0 1500 = true := by
  unfold spanB at hsp
  simpa only [Bool.and_eq_true] using hsp
 have hq1 := inB_iff.1 hs1
 have hq2 := inB_iff.1 hs2
 have hq3 := inB_iff.1 hs3
 have hwr : IntKind.i64.wrap (tl - fr) = tl - fr := IntWalk.i64_in _ (by omega)
 obtain ⟨h1, h2⟩ : calOk e1 c1 = true ∧ calOk e2 c2 = true := by
  unfold realmOk at hok
  simp only [Bool.and_eq_true] at hok
  exact hok.1
 go_enter Tryz.func30, Tryz.ntmps30
 go_wp2_with fail
 refine (dialOf_some kind x0 _ hkd).mono ?_
 rintro e' w0 ⟨rfl, rfl⟩
 obtain ⟨W5, hW5⟩ : ∃ W5, ((((w.alloc (.cells #[.int .i64 e1, .slice A1 n1 k1, .int .i64 e2, .slice A2 n2 k2, .int .i64 last] 55)).alloc (.cells #[.int .i64 comes] 3)).alloc (.cells #[.int .i64 fr] 3)).alloc (.cells #[.int .i64 tl] 3)).alloc (.cells #[.nilIface] 101) = W5 := ⟨_, rfl⟩
 have g5 : Below w.heap.size w W5 := by rw [← hW5]; exact fr_alloc (fr_alloc (fr_alloc (fr_alloc (fr_alloc (fr_refl _) _) _) _) _) _
 have hz5 : W5.heap.size = w.heap.size + 1 + 1 + 1 + 1 + 1 := by rw [← hW5]; simp
 have hBR : Blk W5 w.heap.size 55 #[.int .i64 e1, .slice A1 n1 k1, .int .i64 e2, .slice A2 n2 k2, .int .i64 last] := by rw [← hW5]; exact ((((Blk.new w _ _).alloc _).alloc _).alloc _).alloc _
 have hBC : Blk W5 (w.heap.size + 1) 3 #[.int .i64 comes] := by rw [← hW5]; exact (((Blk.new_at _ _ (by simp)).alloc _).alloc _).alloc _
 have hBF : Blk W5 (w.heap.size + 1 + 1) 3 #[.int .i64 fr] := by rw [← hW5]; exact ((Blk.new_at _ _ (by simp)).alloc _).alloc _
 have hBT : Blk W5 (w.heap.size + 1 + 1 + 1) 3 #[.int .i64 tl] := by rw [← hW5]; exact (Blk.new_at _ _ (by simp)).alloc _
 have hBX0 : Blk W5 (w.heap.size + 1 + 1 + 1 + 1) 101 #[.nilIface] := by rw [← hW5]; exact Blk.new_at _ _ (by simp)
 have hcN : (((((w.alloc (.cells #[.int .i64 e1, .slice A1 n1 k1, .int .i64 e2, .slice A2 n2 k2, .int .i64 last] 55)).alloc (.cells #[.int .i64 comes] 3)).alloc (.cells #[.int .i64 fr] 3)).alloc (.cells #[.int .i64 tl] 3)).alloc (.cells #[.nilIface] 101)).cell? ⟨w.heap.size + 1 + 1 + 1 + 1, 0, none⟩ = some .nilIface := by rw [hW5]; exact hBX0.cell 0
 have hfN : (((((w.alloc (.cells #[.int .i64 e1, .slice A1 n1 k1, .int .i64 e2, .slice A2 n2 k2, .int .i64 last] 55)).alloc (.cells #[.int .i64 comes] 3)).alloc (.cells #[.int .i64 fr] 3)).alloc (.cells #[.int .i64 tl] 3)).alloc (.cells #[.nilIface] 101)).frozen? ⟨w.heap.size + 1 + 1 + 1 + 1, 0, none⟩ = false := by rw [hW5]; exact hBX0.frozen 0
 have HW5 := Lib.hid hW5
 clear hW5
 go_wp2_with (refine wpList_storeDial x0 _ _ (w.heap.size + 1 + 1 + 1 + 1) _ rfl rfl hcN hfN ?_; go_must (rw [HW5.out]; clear hcN hfN; have hBX6 := hBX0.set_ 0 x0.val; have hBR6 := hBR.far (p := ⟨w.heap.size + 1 + 1 + 1 + 1, 0, none⟩) (by simp <;> omega) x0.val; have hBC6 := hBC.far (p := ⟨w.heap.size + 1 + 1 + 1 + 1, 0, none⟩) (by simp <;> omega) x0.val; have hBF6 := hBF.far (p := ⟨w.heap.size + 1 + 1 + 1 + 1, 0, none⟩) (by simp <;> omega) x0.val; have hBT6 := hBT.far (p := ⟨w.heap.size + 1 + 1 + 1 + 1, 0, none⟩) (by simp <;> omega) x0.val; have g6 := fr_set g5 (p := ⟨w.heap.size + 1 + 1 + 1 + 1, 0, none⟩) (by simp <;> omega) x0.val; have hz6 : (W5.setCell ⟨w.heap.size + 1 + 1 + 1 + 1, 0, none⟩ x0.val).heap.size = w.heap.size + 1 + 1 + 1 + 1 + 1 := (by simp [hz5]); clear hBX0 hBR hBC hBF hBT g5 hz5 HW5; generalize W5.setCell ⟨w.heap.size + 1 + 1 + 1 + 1, 0, none⟩ x0.val = W6 at *; have hcR := fun j => hBR6.cell j))
 refine (isRealm_is A1 A2 n1 k1 n2 k2 c1 c2 e1 e2 last _ (hr1.keep g6) (hr2.keep g6) hn1 hn2 _ hok).mono ?_
 rintro e' w1 ⟨rfl, hb1⟩
 have hcC := (hBC6.keep hb1).cell 0
 have hcF := (hBF6.keep hb1).cell 0
 have hcT := (hBT6.keep hb1).cell 0
 have hz1 := hb1.size
 go_wp2_with fail
 refine (in_is _ _ _ _ _ hcm).mono ?_
 rintro e' w' ⟨rfl, rfl⟩
 go_wp2_with fail
 refine (isDay_is _ _ _ hs1).mono ?_
 rintro e' w' ⟨rfl, rfl⟩
 go_wp2_with fail
 refine (isDay_is _ _ _ hs2).mono ?_
 rintro e' w' ⟨rfl, rfl⟩
 go_wp2_with fail
 refine (in_is _ _ _ _ _ hs3).mono ?_
 rintro e' w' ⟨rfl, rfl⟩
 clear hcR hcC hcF hcT
 go_wp2_with fail
 have hz1' : w.heap.size + 1 + 1 + 1 + 1 + 1 ≤ w1.heap.size := by omega
 have hE0 := Blk.new ((w1.alloc (.cells #[.slice none 0 0] 22)).alloc (.cells #[.int .i64 0] 3)) 31 #[.int .i64 0]
 have hBO0 : Blk (((w1.alloc (.cells #[.slice none 0 0] 22)).alloc (.cells #[.int .i64 0] 3)).alloc (.cells #[.int .i64 0] 31)) w1.heap.size 22 #[.slice none 0 0] := ((Blk.new w1 _ _).alloc _).alloc _
 have hBW0 : Blk (((w1.alloc (.cells #[.slice none 0 0] 22)).alloc (.cells #[.int .i64 0] 3)).alloc (.cells #[.int .i64 0] 31)) (w1.heap.size + 1) 3 #[.int .i64 0] := (Blk.new_at _ _ (by simp)).alloc _
 have g7 := fr_alloc (fr_alloc (fr_alloc (fr_refl w1) (.cells #[.slice none 0 0] 22)) (.cells #[.int .i64 0] 3)) (.cells #[.int .i64 0] 31)
 have g8 := fr_call g6 (fr_call hb1 g7)
 have K1 := Keep1_any A1 A2 n1 k1 n2 k2 w.heap.size (w.heap.size + 1 + 1) (w.heap.size + 1 + 1 + 1) (w.heap.size + 1 + 1 + 1 + 1) (w.heap.size + 1) w1.heap.size (w1.heap.size + 1) c1 c2 e1 e2 last fr tl comes x0 (tl - fr + 1).toNat (by omega) _ (hr1.keep g8) (hr2.keep g8) h1 h2 (by omega) (by omega) (by omega)
  ((hBR6.keep hb1).keep g7) ((hBF6.keep hb1).keep g7) ((hBT6.keep hb1).keep g7) ((hBX6.keep hb1).keep g7) ((hBC6.keep hb1).keep g7) hBO0 hBW0 (by omega) (by omega) (by omega)
 have hS : ∀ b, (b = w.heap.size + 1 + 1 + 1 + 1 ∨ b = w1.heap.size ∨ b = w1.heap.size + 1) → w.heap.size ≤ b := fun b h => by omega
 have hEn : ¬ (((w1.alloc (.cells #[.slice none 0 0] 22)).alloc (.cells #[.int .i64 0] 3)).heap.size = w.heap.size + 1 + 1 + 1 + 1 ∨ ((w1.alloc (.cells #[.slice none 0 0] 22)).alloc (.cells #[.int .i64 0] 3)).heap.size = w1.heap.size ∨ ((w1.alloc (.cells #[.slice none 0 0] 22)).alloc (.cells #[.int .i64 0] 3)).heap.size = w1.heap.size + 1) := by simp; omega
 refine (try_ok_Keep _ (fun W' => (∃ v base, Blk W' w1.heap.size 22 #[v] ∧ Own W' base v (keepW e1 c1 e2 c2 last x0 comes fr tl).out) ∧ Blk W' (w1.heap.size + 1) 3 #[.int .i64 (keepW e1 c1 e2 c2 last x0 comes fr tl).wrong] ∧
  Exc (fun b => b = w.heap.size + 1 + 1 + 1 + 1 ∨ b = w1.heap.size ∨ b = w1.heap.size + 1) (((w1.alloc (.cells #[.slice none 0 0] 22)).alloc (.cells #[.int .i64 0] 3)).alloc (.cells #[.int .i64 0] 31)) W') _ ?_).mono ?_
 ·refine K1.mono ?_
  rintro e W' (⟨rfl, _, hO, hW, hE⟩ | ⟨k, hk, hx, _⟩)
  ·have hErr := hE.blk hE0 hEn
   exact ⟨rfl, ⟨hO, hW, hE⟩, hErr.cell 0, hErr.frozen 0⟩
  ·exact absurd hx (hall k hk)
 rintro e' w3 ⟨rfl, w', ⟨⟨v, base, hBO, hown⟩, hBW, hE⟩, hw3⟩
 obtain ⟨A, c, rfl⟩ := hown.form
 have hErr := hE.blk hE0 hEn
 have hBO3 := hBO.far (p := ⟨((w1.alloc (.cells #[.slice none 0 0] 22)).alloc (.cells #[.int .i64 0] 3)).heap.size, 0, none⟩) (by simp <;> omega) (.int .i64 0)
 have hBW3 := hBW.far (p := ⟨((w1.alloc (.cells #[.slice none 0 0] 22)).alloc (.cells #[.int .i64 0] 3)).heap.size, 0, none⟩) (by simp <;> omega) (.int .i64 0)
 have hown3 := hown.set (i := 0) (u := .int .i64 0) hErr (by decide)
 have gE := fr_set (hE.toBelow g8 hS g8.size) (p := ⟨((w1.alloc (.cells #[.slice none 0 0] 22)).alloc (.cells #[.int .i64 0] 3)).heap.size, 0, none⟩) (by simp <;> omega) (.int .i64 0)
 rw [← hw3] at hBO3 hBW3 hown3 gE
 have hcO := hBO3.cell 0
 have hcW := hBW3.cell 0
 clear hw3 K1 hmf
 go_wp2_with fail
 go_quiet (fail)
 go_wp2
 go_ret3
 exact ⟨A, c, rfl, hown3.rd.keep (fr_drewN (fr_refl _) _), fr_drewN gE _⟩

set_option maxRecDepth 100000 in
set_option maxHeartbeats 4000000 in
theorem Keep_none (A1 A2 : Option Addr) (n1 k1 n2 k2 : Nat) (c1 c2 : List Int) (e1 e2 last kind fr tl comes : Int) (x0 : Dial) (w : World) (hr1 : Rd w A1 n1 c1) (hr2 : Rd w A2 n2 c2) (hn1 : n1 ≤ 9223372036854775807) (hn2 : n2 ≤ 9223372036854775807)
  (hok : realmOk e1 c1 e2 c2 last = true) (hkd : dialK kind = some x0) (hcm : inB comes (-1) 6 = true) (hsp : spanB fr tl = true) (hbad : ∃ k : Nat, k < (tl - fr + 1).toNat ∧ onOf e1 c1 e2 c2 last (fr + k) = none) :
  Calls Tryz.prog 30 #[.agg #[.int .i64 e1, .slice A1 n1 k1, .int .i64 e2, .slice A2 n2 k2, .int .i64 last], .int .i64 kind, .int .i64 comes, .int .i64 fr, .int .i64 tl] w fun e' w' =>
   e' = .returned (.tuple #[.slice none 0 0, .int .i64 0, .int .i64 5]) ∧ Below w.heap.size w w' := by
 have hmf : ∀ (fn : Fn) (first cap : Array Value) (w : World), (Instr.makeFunc fn first cap).run Tryz.prog w = .ok (.func fn first cap) w := fun _ _ _ _ => rfl
 obtain ⟨⟨hs1, hs2⟩, hs3⟩ : (inB fr 0 2000000 = true ∧ inB tl 0 2000000 = true) ∧ inB (tl - fr) 0 1500 = true := by
  unfold spanB at hsp
  simpa only [Bool.and_eq_true] using hsp
 have hq1 := inB_iff.1 hs1
 have hq2 := inB_iff.1 hs2
 have hq3 := inB_iff.1 hs3
 have hwr : IntKind.i64.wrap (tl - fr) = tl - fr := IntWalk.i64_in _ (by omega)
 obtain ⟨h1, h2⟩ : calOk e1 c1 = true ∧ calOk e2 c2 = true := by
  unfold realmOk at hok
  simp only [Bool.and_eq_true] at hok
  exact hok.1
 go_enter Tryz.func30, Tryz.ntmps30
 go_wp2_with fail
 refine (dialOf_some kind x0 _ hkd).mono ?_
 rintro e' w0 ⟨rfl, rfl⟩
 obtain ⟨W5, hW5⟩ : ∃ W5, ((((w.alloc (.cells #[.int .i64 e1, .slice A1 n1 k1, .int .i64 e2, .slice A2 n2 k2, .int .i64 last] 55)).alloc (.cells #[.int .i64 comes] 3)).alloc (.cells #[.int .i64 fr] 3)).alloc (.cells #[.int .i64 tl] 3)).alloc (.cells #[.nilIface] 101) = W5 := ⟨_, rfl⟩
 have g5 : Below w.heap.size w W5 := by rw [← hW5]; exact fr_alloc (fr_alloc (fr_alloc (fr_alloc (fr_alloc (fr_refl _) _) _) _) _) _
 have hz5 : W5.heap.size = w.heap.size + 1 + 1 + 1 + 1 + 1 := by rw [← hW5]; simp
 have hBR : Blk W5 w.heap.size 55 #[.int .i64 e1, .slice A1 n1 k1, .int .i64 e2, .slice A2 n2 k2, .int .i64 last] := by rw [← hW5]; exact ((((Blk.new w _ _).alloc _).alloc _).alloc _).alloc _
 have hBC : Blk W5 (w.heap.size + 1) 3 #[.int .i64 comes] := by rw [← hW5]; exact (((Blk.new_at _ _ (by simp)).alloc _).alloc _).alloc _
 have hBF : Blk W5 (w.heap.size + 1 + 1) 3 #[.int .i64 fr] := by rw [← hW5]; exact ((Blk.new_at _ _ (by simp)).alloc _).alloc _
 have hBT : Blk W5 (w.heap.size + 1 + 1 + 1) 3 #[.int .i64 tl] := by rw [← hW5]; exact (Blk.new_at _ _ (by simp)).alloc _
 have hBX0 : Blk W5 (w.heap.size + 1 + 1 + 1 + 1) 101 #[.nilIface] := by rw [← hW5]; exact Blk.new_at _ _ (by simp)
 have hcN : (((((w.alloc (.cells #[.int .i64 e1, .slice A1 n1 k1, .int .i64 e2, .slice A2 n2 k2, .int .i64 last] 55)).alloc (.cells #[.int .i64 comes] 3)).alloc (.cells #[.int .i64 fr] 3)).alloc (.cells #[.int .i64 tl] 3)).alloc (.cells #[.nilIface] 101)).cell? ⟨w.heap.size + 1 + 1 + 1 + 1, 0, none⟩ = some .nilIface := by rw [hW5]; exact hBX0.cell 0
 have hfN : (((((w.alloc (.cells #[.int .i64 e1, .slice A1 n1 k1, .int .i64 e2, .slice A2 n2 k2, .int .i64 last] 55)).alloc (.cells #[.int .i64 comes] 3)).alloc (.cells #[.int .i64 fr] 3)).alloc (.cells #[.int .i64 tl] 3)).alloc (.cells #[.nilIface] 101)).frozen? ⟨w.heap.size + 1 + 1 + 1 + 1, 0, none⟩ = false := by rw [hW5]; exact hBX0.frozen 0
 have HW5 := Lib.hid hW5
 clear hW5
 go_wp2_with (refine wpList_storeDial x0 _ _ (w.heap.size + 1 + 1 + 1 + 1) _ rfl rfl hcN hfN ?_; go_must (rw [HW5.out]; clear hcN hfN; have hBX6 := hBX0.set_ 0 x0.val; have hBR6 := hBR.far (p := ⟨w.heap.size + 1 + 1 + 1 + 1, 0, none⟩) (by simp <;> omega) x0.val; have hBC6 := hBC.far (p := ⟨w.heap.size + 1 + 1 + 1 + 1, 0, none⟩) (by simp <;> omega) x0.val; have hBF6 := hBF.far (p := ⟨w.heap.size + 1 + 1 + 1 + 1, 0, none⟩) (by simp <;> omega) x0.val; have hBT6 := hBT.far (p := ⟨w.heap.size + 1 + 1 + 1 + 1, 0, none⟩) (by simp <;> omega) x0.val; have g6 := fr_set g5 (p := ⟨w.heap.size + 1 + 1 + 1 + 1, 0, none⟩) (by simp <;> omega) x0.val; have hz6 : (W5.setCell ⟨w.heap.size + 1 + 1 + 1 + 1, 0, none⟩ x0.val).heap.size = w.heap.size + 1 + 1 + 1 + 1 + 1 := (by simp [hz5]); clear hBX0 hBR hBC hBF hBT g5 hz5 HW5; generalize W5.setCell ⟨w.heap.size + 1 + 1 + 1 + 1, 0, none⟩ x0.val = W6 at *; have hcR := fun j => hBR6.cell j))
 refine (isRealm_is A1 A2 n1 k1 n2 k2 c1 c2 e1 e2 last _ (hr1.keep g6) (hr2.keep g6) hn1 hn2 _ hok).mono ?_
 rintro e' w1 ⟨rfl, hb1⟩
 have hcC := (hBC6.keep hb1).cell 0
 have hcF := (hBF6.keep hb1).cell 0
 have hcT := (hBT6.keep hb1).cell 0
 have hz1 := hb1.size
 go_wp2_with fail
 refine (in_is _ _ _ _ _ hcm).mono ?_
 rintro e' w' ⟨rfl, rfl⟩
 go_wp2_with fail
 refine (isDay_is _ _ _ hs1).mono ?_
 rintro e' w' ⟨rfl, rfl⟩
 go_wp2_with fail
 refine (isDay_is _ _ _ hs2).mono ?_
 rintro e' w' ⟨rfl, rfl⟩
 go_wp2_with fail
 refine (in_is _ _ _ _ _ hs3).mono ?_
 rintro e' w' ⟨rfl, rfl⟩
 clear hcR hcC hcF hcT
 go_wp2_with fail
 have hz1' : w.heap.size + 1 + 1 + 1 + 1 + 1 ≤ w1.heap.size := by omega
 have hE0 := Blk.new ((w1.alloc (.cells #[.slice none 0 0] 22)).alloc (.cells #[.int .i64 0] 3)) 31 #[.int .i64 0]
 have hBO0 : Blk (((w1.alloc (.cells #[.slice none 0 0] 22)).alloc (.cells #[.int .i64 0] 3)).alloc (.cells #[.int .i64 0] 31)) w1.heap.size 22 #[.slice none 0 0] := ((Blk.new w1 _ _).alloc _).alloc _
 have hBW0 : Blk (((w1.alloc (.cells #[.slice none 0 0] 22)).alloc (.cells #[.int .i64 0] 3)).alloc (.cells #[.int .i64 0] 31)) (w1.heap.size + 1) 3 #[.int .i64 0] := (Blk.new_at _ _ (by simp)).alloc _
 have g7 := fr_alloc (fr_alloc (fr_alloc (fr_refl w1) (.cells #[.slice none 0 0] 22)) (.cells #[.int .i64 0] 3)) (.cells #[.int .i64 0] 31)
 have g8 := fr_call g6 (fr_call hb1 g7)
 have K1 := Keep1_any A1 A2 n1 k1 n2 k2 w.heap.size (w.heap.size + 1 + 1) (w.heap.size + 1 + 1 + 1) (w.heap.size + 1 + 1 + 1 + 1) (w.heap.size + 1) w1.heap.size (w1.heap.size + 1) c1 c2 e1 e2 last fr tl comes x0 (tl - fr + 1).toNat (by omega) _ (hr1.keep g8) (hr2.keep g8) h1 h2 (by omega) (by omega) (by omega)
  ((hBR6.keep hb1).keep g7) ((hBF6.keep hb1).keep g7) ((hBT6.keep hb1).keep g7) ((hBX6.keep hb1).keep g7) ((hBC6.keep hb1).keep g7) hBO0 hBW0 (by omega) (by omega) (by omega)
 have hS : ∀ b, (b = w.heap.size + 1 + 1 + 1 + 1 ∨ b = w1.heap.size ∨ b = w1.heap.size + 1) → w.heap.size ≤ b := fun b h => by omega
 have hEn : ¬ (((w1.alloc (.cells #[.slice none 0 0] 22)).alloc (.cells #[.int .i64 0] 3)).heap.size = w.heap.size + 1 + 1 + 1 + 1 ∨ ((w1.alloc (.cells #[.slice none 0 0] 22)).alloc (.cells #[.int .i64 0] 3)).heap.size = w1.heap.size ∨ ((w1.alloc (.cells #[.slice none 0 0] 22)).alloc (.cells #[.int .i64 0] 3)).heap.size = w1.heap.size + 1) := by simp; omega
 obtain ⟨k, hk, hx⟩ := hbad
 rcases firstBad (fun k : Nat => onOf e1 c1 e2 c2 last (fr + k)) (tl - fr + 1).toNat with hno | ⟨k0, hk0, hx0, hmin⟩
 ·exact absurd hx (hno k hk)
 refine (try_away_Keep _ (fun W' => Exc (fun b => b = w.heap.size + 1 + 1 + 1 + 1 ∨ b = w1.heap.size ∨ b = w1.heap.size + 1) (((w1.alloc (.cells #[.slice none 0 0] 22)).alloc (.cells #[.int .i64 0] 3)).alloc (.cells #[.int .i64 0] 31)) W') _ (fr + k0) ?_).mono ?_
 ·refine K1.mono ?_
  rintro e W' (⟨rfl, hall, _⟩ | ⟨k', hk', hx', hm', rfl, hE⟩)
  ·exact absurd hx0 (hall k0 hk0)
  ·have he : k' = k0 := by
    rcases Nat.lt_trichotomy k' k0 with h | h | h
    ·exact absurd hx' (hmin k' h)
    ·exact h
    ·exact absurd hx0 (hm' k0 h)
   subst he
   have hErr := hE.blk hE0 hEn
   exact ⟨rfl, hE, hErr.cell 0, hErr.frozen 0⟩
 rintro e' w3 ⟨rfl, w', hE, hw3⟩
 have gE := fr_set (fr_alloc (hE.toBelow g8 hS g8.size) (.cells #[.int .i64 (fr + k0)] 127)) (p := ⟨((w1.alloc (.cells #[.slice none 0 0] 22)).alloc (.cells #[.int .i64 0] 3)).heap.size, 0, none⟩) (by simp <;> omega) (.int .i64 5)
 rw [← hw3] at gE
 clear hw3 K1 hmf
 go_wp2_with fail
 go_ret3
 exact ⟨rfl, gE⟩
end Go.Proofs.YthjblcboainknaaGreatDoor
end
