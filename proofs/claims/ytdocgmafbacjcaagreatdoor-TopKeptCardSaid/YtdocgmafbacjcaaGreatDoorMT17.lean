/- Walks, package journeyman: what stands at a desk (by gen_yf.py). -/
import Derived.Test.YtdocgmafbacjcaaGreatDoorMT16
namespace Go.Proofs.YtdocgmafbacjcaaGreatDoor
open Go.RowKit Go.Shelf Dl
attribute [local go_sem] Oper.semAt_some

/-- the statement, up to the iterator's call, the iterator with bound arguments -/
theorem wpIn_range_enter2 {P : Program} {g : Operand} {ps : Array Tmp} {assign body : Code} {Q : Exit → Act → World → Prop} {a : Act} {w : World} {n gf : Nat} {first lb : Array Value}
  (hg : a.eval g = .func (.func gf) first lb) (eg : ∀ args w, (callFunc gf args).run P w = .ok (.enter gf args) w)
  (hcall : ∀ (fn : Nat) (rec : Loop), rec.state = .ready → rec.pending = none → rec.fn = fn → rec.tmps = a.tmps → rec.params = ps → rec.assign = assign → rec.body = body →
   CallsIn Fence.wide n P gf (first ++ #[.func (.yield (w.heap.size + 1)) #[] #[]] ++ lb) ((w.alloc (.deferred (some []))).alloc (.loop rec)) (rangePost Fence.wide (n + 1) P (w.heap.size + 1) Q { a with defers := { target := .collected w.heap.size, args := #[] } :: a.defers })) :
  (Code.rangeFunc g ps assign body).wpIn Fence.wide (n + 1) P Q a w := by
 refine wpIn_rangeFunc (fun fn _ => ?_)
 obtain ⟨rec, hrec⟩ : ∃ rec : Loop, rec = { state := .ready, pending := none, fn, tmps := a.tmps, params := ps, assign, body, defers := w.heap.size } := ⟨_, rfl⟩
 obtain ⟨W1, hW1⟩ : ∃ W1, (w.alloc (.deferred (some []))).alloc (.loop rec) = W1 := ⟨_, rfl⟩
 have hc := hcall fn rec (by rw [hrec]) (by rw [hrec]) (by rw [hrec]) (by rw [hrec]) (by rw [hrec]) (by rw [hrec]) (by rw [hrec])
 rw [hW1] at hc
 refine ⟨w.heap.size + 1, [{ target := .collected w.heap.size, args := #[] }], W1, { target := .fn (.func gf) lb, args := first ++ #[.func (.yield (w.heap.size + 1)) #[] #[]] }, W1, gf, first ++ #[.func (.yield (w.heap.size + 1)) #[] #[]] ++ lb, W1, ?_, ?_, ?_, ?_, ?_, ?_⟩
 ·rw [← hW1, hrec]; exact run_enterLoop_outer _ _ _ _ _
 ·simp only [resolve, hg]
  simp [go_sem]
 ·exact fun _ _ => trivial
 ·simp [invoke, go_sem, eg]
 ·intro h; cases h
 ·exact hc
section
variable {o : Oper} {a : Act} {w : World} {K : Act → World → Prop} {Q : Exit → Act → World → Prop}
theorem wp_load_blk {P : Program} (ty : TypeId) (x : Operand) (ho : o.op = .load ty x)
  (g : Nat) (hx : a.eval x = .pointer (some ⟨g, 0, none⟩)) (t : TypeId) (cs : Array Value) (hB : Blk w g t cs) {d : TypeDesc} (hu : P.underlying ty = some d) (hd : (match d with | .struct _ | .array _ _ => true | _ => false) = true) (hi : (P.info? ty).map (·.size) = some cs.size)
  (h : K (a.put o.dst (.agg cs)) w) : o.wp P a w K Q := by
 unfold Oper.wp
 unfold execOp
 simp only [ho, hx, Instr.loadAt, Instr.sureAddr, Sem.run_bind, Sem.run_pure, Result.andThen_ok, run_loadVar_row w g t ty cs (0, 0) d hB hu hd hi]
 exact h
end
theorem ptr_no_int {W : World} {p : Nat} {t : TypeId} {a : Addr} {v : Value} (hP : Blk W p t #[.pointer none]) (hc : W.cell? a = some v) (hv : v ≠ .pointer none) : a.block ≠ p := fun e => by
 unfold World.cell? at hc
 rw [e, show W.heap[p]? = _ from hP] at hc
 simp only at hc
 split at hc
 ·cases hc
 ·rcases h : a.off with _ | n
  ·rw [h] at hc
   exact hv (by simpa using hc.symm)
  ·rw [h] at hc
   simp at hc
theorem RdS.other {W W' : World} {p k : Nat} {t : TypeId} {A : Option Addr} {rows : List (List Value)} (hr : RdS W A k rows) (hv : ∀ r ∈ rows, ∃ v, r[0]? = some v ∧ v ≠ .pointer none) (hP : Blk W p t #[.pointer none]) (hx : Exc (fun i => i = p) W W') : RdS W' A k rows := fun hn => by
 obtain ⟨ad, e, hlt, hc⟩ := hr hn
 obtain ⟨x, h0, hv0⟩ := hv rows[0] (List.getElem_mem hn)
 have h1 := (hc 0 rows[0] (List.getElem?_eq_getElem hn)).2 0 _ h0
 have hne := ptr_no_int hP h1 hv0
 rw [block_of_add] at hne
 exact ⟨ad, e, Nat.lt_of_lt_of_le hlt hx.size, fun i r hi => ⟨(hc i r hi).1, fun j v hj => (hx.cell (by rw [block_of_add]; exact hlt) (by rw [block_of_add]; exact hne)).trans ((hc i r hi).2 j v hj)⟩⟩
theorem Rd.other {W W' : World} {p n : Nat} {t : TypeId} {A : Option Addr} {xs : List Int} (hr : Rd W A n xs) (hP : Blk W p t #[.pointer none]) (hx : Exc (fun i => i = p) W W') : Rd W' A n xs :=
 ⟨hr.1, fun hn => by
  obtain ⟨ad, e, hlt, hc⟩ := hr.2 hn
  have hne := ptr_no_int hP (hc 0 hn) (by intro e; cases e)
  rw [block_of_add] at hne
  exact ⟨ad, e, Nat.lt_of_lt_of_le hlt hx.size, fun j hj => (hx.cell (by rw [block_of_add]; exact hlt) (by rw [block_of_add]; exact hne)).trans (hc j hj)⟩⟩
theorem SuAt.other {W W' : World} {p : Nat} {t : TypeId} {A1 A2 A3 A4 A5 A6 : Option Addr} {n1 n2 n4 n5 n6 : Nat} {ls : List Lk} {hs : List Int} {tg : List (Int × Int)} {ho cy : List Int} {fe : List Feast} (h : SuAt W A1 A2 A3 A4 A5 A6 n1 n2 n4 n5 n6 ls hs tg ho cy fe) (hP : Blk W p t #[.pointer none]) (hx : Exc (fun i => i = p) W W') : SuAt W' A1 A2 A3 A4 A5 A6 n1 n2 n4 n5 n6 ls hs tg ho cy fe :=
 ⟨h.r1.other (by intro r hr; obtain ⟨q, _, rfl⟩ := List.mem_map.1 hr; exact ⟨_, rfl, by intro e; cases e⟩) hP hx, h.l1, h.r2.other hP hx, h.r3.other (by intro r hr; obtain ⟨q, _, rfl⟩ := List.mem_map.1 hr; exact ⟨_, rfl, by intro e; cases e⟩) hP hx, h.l3, h.r4.other hP hx, h.r5.other hP hx, h.r6.other (by intro r hr; obtain ⟨q, _, rfl⟩ := List.mem_map.1 hr; exact ⟨_, rfl, by intro e; cases e⟩) hP hx, h.l6⟩
/-- what stands, in memory: a suite and its days, without entries made -/
structure StateAt (W : World) (s : Nat) (A1 A2 A3 A4 A5 A6 : Option Addr) (n1 c1 n2 c2 c3 n4 c4 n5 c5 n6 c6 wm br hr wg pc : Nat) (lim ep mn md ma yr : Int) (D : Option Addr) (m dc : Nat) (mp : Value) (ls : List Lk) (hs : List Int) (tg : List (Int × Int)) (ho cy : List Int) (fe : List Feast) (fs : List Int) (f : Int) : Prop where
 s : Blk W s 196 #[.slice A1 n1 c1, .slice A2 n2 c2, .slice A3 n2 c3, .int .i64 lim, .int .i64 wm, .slice A4 n4 c4, .int .i64 ep, .slice A5 n5 c5, .int .i64 mn, .int .i64 md, .int .i64 ma, .slice A6 n6 c6, .int .i64 yr, .int .i64 br, .int .i64 hr, .int .i64 wg, .int .i64 pc, .slice D m dc, .slice none 0 0, mp, .int .i64 0, .slice none 0 0]
 r : SuAt W A1 A2 A3 A4 A5 A6 n1 n2 n4 n5 n6 ls hs tg ho cy fe
 fm : Fm A1 n1 ∧ Fm A2 n2 ∧ Fm A3 n2 ∧ Fm A4 n4 ∧ Fm A5 n5 ∧ Fm A6 n6
 cap : n1 ≤ c1
 days : RdS W D 2 (yearR fs f m)
theorem StateAt.keep {W W' : World} {s : Nat} {A1 A2 A3 A4 A5 A6 : Option Addr} {n1 c1 n2 c2 c3 n4 c4 n5 c5 n6 c6 wm br hr wg pc : Nat} {lim ep mn md ma yr : Int} {D : Option Addr} {m dc : Nat} {mp : Value} {ls : List Lk} {hs : List Int} {tg : List (Int × Int)} {ho cy : List Int} {fe : List Feast} {fs : List Int} {f : Int} (h : StateAt W s A1 A2 A3 A4 A5 A6 n1 c1 n2 c2 c3 n4 c4 n5 c5 n6 c6 wm br hr wg pc lim ep mn md ma yr D m dc mp ls hs tg ho cy fe fs f) (hb : Below W.heap.size W W') : StateAt W' s A1 A2 A3 A4 A5 A6 n1 c1 n2 c2 c3 n4 c4 n5 c5 n6 c6 wm br hr wg pc lim ep mn md ma yr D m dc mp ls hs tg ho cy fe fs f :=
 ⟨h.s.keep hb, h.r.keep hb, h.fm, h.cap, h.days.keep hb⟩
theorem own_exc {W W' : World} {base size n : Nat} {e : TypeId} {v : Value} {xs : List Value} {S : Nat → Prop} (h : W.ownsRow base e size v n xs) (hx : Exc S W W') (hS : ∀ i, v.ownBlock = some i → ¬ S i) : W'.ownsRow base e size v n xs := by
 refine ⟨h.1, ?_⟩
 rcases h.2 with h0 | ⟨g, cap, cur, hv, hbg, hg, hr⟩
 ·exact Or.inl h0
 ·exact Or.inr ⟨g, cap, cur, hv, hbg, (hx.block g (Array.getElem?_eq_some_iff.1 hg).1 (hS g (by rw [hv]; rfl))).trans hg, hr⟩
theorem own_obj {W : World} {base size n l : Nat} {e : TypeId} {v : Value} {xs : List Value} {o : Obj} (h : W.ownsRow base e size v n xs) (hl : W.heap[l]? = some o) (ho : o.isCells = false) : v.ownBlock ≠ some l := by
 rcases h.2 with ⟨rfl, _⟩ | ⟨g, cap, cur, rfl, _, hh, _⟩
 ·simp [Value.ownBlock]
 ·intro e
  have : g = l := by simpa [Value.ownBlock] using e
  rw [this, hl] at hh
  cases hh
  cases ho
section
variable {W W' : World} {s : Nat} {A1 A2 A3 A4 A5 A6 : Option Addr} {n1 c1 n2 c2 c3 n4 c4 n5 c5 n6 c6 wm br hr wg pc : Nat} {lim ep mn md ma yr : Int} {D : Option Addr} {m dc : Nat} {mp zv : Value} {zs : List Int} {ls : List Lk} {hs : List Int} {tg : List (Int × Int)} {ho cy : List Int} {fe : List Feast} {fs : List Int} {f : Int}
theorem StAt.exc {S : Nat → Prop} (h : StAt W s A1 A2 A3 A4 A5 A6 n1 c1 n2 c2 c3 n4 c4 n5 c5 n6 c6 wm br hr wg pc lim ep mn md ma yr D m dc mp zv zs ls hs tg ho cy fe fs f) (hx : Exc S W W') (hS : ∀ i, S i → s < i ∧ zv.ownBlock ≠ some i) : StAt W' s A1 A2 A3 A4 A5 A6 n1 c1 n2 c2 c3 n4 c4 n5 c5 n6 c6 wm br hr wg pc lim ep mn md ma yr D m dc mp zv zs ls hs tg ho cy fe fs f := by
 have hb : Below s W W' := ⟨hx.os, hx.tape, hx.output, hx.size, fun k hk => hx.block k (Nat.lt_trans hk h.b.lt) (fun e => by have := (hS k e).1; omega)⟩
 exact ⟨hx.blk h.b (fun e => by have := (hS s e).1; omega), h.r.keepLo h.lo hb, h.fm, h.cap, h.days.keepLo (yearR_len fs f m) h.dlo hb, h.lo, h.dlo, own_exc h.own hx (fun i e hs => (hS i hs).2 e)⟩
theorem StAt.state (h : StAt W s A1 A2 A3 A4 A5 A6 n1 c1 n2 c2 c3 n4 c4 n5 c5 n6 c6 wm br hr wg pc lim ep mn md ma yr D m dc mp (.slice none 0 0) zs ls hs tg ho cy fe fs f) : StateAt W s A1 A2 A3 A4 A5 A6 n1 c1 n2 c2 c3 n4 c4 n5 c5 n6 c6 wm br hr wg pc lim ep mn md ma yr D m dc mp ls hs tg ho cy fe fs f := ⟨h.b, h.r, h.fm, h.cap, h.days⟩
end
/-- each entry went when it was made -/
def GoAll (fs : List Int) (f : Int) (m : Nat) (ds : List Int) : Prop := ∀ (k : Nat) (d : Int), ds[k]? = some d → (1 ≤ d ∧ d ≤ (m : Int)) ∧ goB fs f (ds.take k) d = true
/-- between two rounds -/
structure StInv (w0 : World) (p s lD l : Nat) (rec : Loop) (A1 A2 A3 A4 A5 A6 : Option Addr) (n1 c1 n2 c2 c3 n4 c4 n5 c5 n6 c6 wm br hr wg pc : Nat) (lim ep mn md ma yr : Int) (D : Option Addr) (m dc : Nat) (mp : Value) (ds : List Int) (ls : List Lk) (hs : List Int) (tg : List (Int × Int)) (ho cy : List Int) (fe : List Feast) (fs : List Int) (f : Int) (k : Nat) (W : World) : Prop where
 bl : Below w0.heap.size w0 W
 st : ∃ zv, StAt W s A1 A2 A3 A4 A5 A6 n1 c1 n2 c2 c3 n4 c4 n5 c5 n6 c6 wm br hr wg pc lim ep mn md ma yr D m dc mp zv (ds.take k) ls hs tg ho cy fe fs f ∧ (k = 0 → zv = .slice none 0 0)
 p : Blk W p 103 #[.pointer (some ⟨s, 0, none⟩)]
 df : W.heap[lD]? = some (.deferred (some []))
 lp : W.heap[l]? = some (.loop rec)
section
variable {w0 W W' : World} {p s lD l k : Nat} {rec : Loop} {A1 A2 A3 A4 A5 A6 : Option Addr} {n1 c1 n2 c2 c3 n4 c4 n5 c5 n6 c6 wm br hr wg pc : Nat} {lim ep mn md ma yr : Int} {D : Option Addr} {m dc : Nat} {mp : Value} {ds : List Int} {ls : List Lk} {hs : List Int} {tg : List (Int × Int)} {ho cy : List Int} {fe : List Feast} {fs : List Int} {f : Int}
theorem StInv.below (h : StInv w0 p s lD l rec A1 A2 A3 A4 A5 A6 n1 c1 n2 c2 c3 n4 c4 n5 c5 n6 c6 wm br hr wg pc lim ep mn md ma yr D m dc mp ds ls hs tg ho cy fe fs f k W) (hb : Below W.heap.size W W') : StInv w0 p s lD l rec A1 A2 A3 A4 A5 A6 n1 c1 n2 c2 c3 n4 c4 n5 c5 n6 c6 wm br hr wg pc lim ep mn md ma yr D m dc mp ds ls hs tg ho cy fe fs f k W' :=
 ⟨fr_call h.bl hb, let ⟨zv, h1, h2⟩ := h.st; ⟨zv, h1.keep hb, h2⟩, h.p.keep hb, (hb.block _ (Array.getElem?_eq_some_iff.1 h.df).1).trans h.df, (hb.block _ (Array.getElem?_eq_some_iff.1 h.lp).1).trans h.lp⟩
theorem StInv.put (h : StInv w0 p s lD l rec A1 A2 A3 A4 A5 A6 n1 c1 n2 c2 c3 n4 c4 n5 c5 n6 c6 wm br hr wg pc lim ep mn md ma yr D m dc mp ds ls hs tg ho cy fe fs f k W) (hsl : s < l) (hw : w0.heap.size ≤ l) (hne : lD ≠ l) (r' : Loop) : StInv w0 p s lD l r' A1 A2 A3 A4 A5 A6 n1 c1 n2 c2 c3 n4 c4 n5 c5 n6 c6 wm br hr wg pc lim ep mn md ma yr D m dc mp ds ls hs tg ho cy fe fs f k (W.putObj l (.loop r')) := by
 have hg := grownBy_putObj' W l (.loop r')
 have hx : Exc (fun i => i = l) W (W.putObj l (.loop r')) := (Exc.refl (fun i => i = l) W).put _ (Or.inl rfl)
 obtain ⟨zv, h1, h2⟩ := h.st
 exact ⟨h.bl.grown hg h.bl.size (by intro k hk; cases hk; exact hw), ⟨zv, h1.exc hx (fun i e => by cases e; exact ⟨hsl, own_obj h1.own h.lp rfl⟩), h2⟩, h.p.grown hg (fun e => Obj_cells_ne h.p h.lp rfl (by cases e; rfl)), (World.putObj_heap_other hne).trans h.df, World.putObj_heap_same (Array.getElem?_eq_some_iff.1 h.lp).1⟩
theorem StInv.next {d : Int} {zv : Value} (h : StInv w0 p s lD l rec A1 A2 A3 A4 A5 A6 n1 c1 n2 c2 c3 n4 c4 n5 c5 n6 c6 wm br hr wg pc lim ep mn md ma yr D m dc mp ds ls hs tg ho cy fe fs f k W) (h1 : StAt W s A1 A2 A3 A4 A5 A6 n1 c1 n2 c2 c3 n4 c4 n5 c5 n6 c6 wm br hr wg pc lim ep mn md ma yr D m dc mp zv (ds.take k) ls hs tg ho cy fe fs f) (hd : ds[k]? = some d) (hws : w0.heap.size ≤ s) (h2 : ∃ zv', StAt W' s A1 A2 A3 A4 A5 A6 n1 c1 n2 c2 c3 n4 c4 n5 c5 n6 c6 wm br hr wg pc lim ep mn md ma yr D m dc mp zv' (ds.take k ++ [d]) ls hs tg ho cy fe fs f) (hx : Exc (fun i => i = s ∨ zv.ownBlock = some i) W W') : StInv w0 p s lD l rec A1 A2 A3 A4 A5 A6 n1 c1 n2 c2 c3 n4 c4 n5 c5 n6 c6 wm br hr wg pc lim ep mn md ma yr D m dc mp ds ls hs tg ho cy fe fs f (k + 1) W' := by
 have hk : k < ds.length := (List.getElem?_eq_some_iff.1 hd).1
 have ht : ds.take (k + 1) = ds.take k ++ [d] := by rw [List.take_succ_eq_append_getElem hk, (List.getElem?_eq_some_iff.1 hd).2]
 have hobj : ∀ (j : Nat) (o : Obj), W.heap[j]? = some o → o.isCells = false → W'.heap[j]? = some o := fun j o hj ho => (hx.block j (Array.getElem?_eq_some_iff.1 hj).1 (fun e => by
  rcases e with e | e
  ·exact Obj_cells_ne h1.b hj ho e.symm
  ·exact own_obj h1.own hj ho e)).trans hj
 refine ⟨hx.toBelow h.bl (fun i e => ?_) h.bl.size, by obtain ⟨z, h3⟩ := h2; exact ⟨z, by rw [ht]; exact h3, fun e => by omega⟩, hx.blk h.p (fun e => ?_), hobj _ _ h.df rfl, hobj _ _ h.lp rfl⟩
 ·rcases e with e | e
  ·omega
  ·have := own_ge h1.own i e
   omega
 ·rcases e with e | e
  ·exact h.p.ne_ h1.b (by decide) e
  ·exact own_blk_ne h1.own h.p (by decide) e
end
set_option maxRecDepth 100000 in
set_option maxHeartbeats 16000000 in
theorem state_any (g gs : Nat) (A1 A2 A3 A4 A5 A6 : Option Addr) (n1 c1 n2 c2 c3 n4 c4 n5 c5 n6 c6 wm br hr wg pc : Nat) (lim ep mn md ma yr : Int) (D E : Option Addr) (m dc n ec : Nat) (sv : Value) (ds : List Int) (ls : List Lk) (hs : List Int) (tg : List (Int × Int)) (ho cy : List Int) (fe : List Feast) (fs : List Int) (f : Int) (w : World) (h : DeskAt w g gs A1 A2 A3 A4 A5 A6 n1 c1 n2 c2 c3 n4 c4 n5 c5 n6 c6 wm br hr wg pc lim ep mn md ma yr D m dc (.slice E n ec) sv ls hs tg ho cy fe fs f) (he : EntR w E n sv ds) (hgo : GoAll fs f m ds) (hm : m ≤ 1000) (hn : n ≤ 1000) (hbd : n1 ≤ 1000 ∧ n2 ≤ 1000 ∧ n4 ≤ 1000 ∧ n5 ≤ 1000 ∧ n6 ≤ 1000) :
  Calls Tryz.prog 36 #[.pointer (some ⟨g, 0, none⟩), .int .i64 (-1)] w fun e w' => ∃ s B1 B2 B3 B4 B5 B6 k1 k2 k3 k4 k5 k6 mp zv, e = .returned (.pointer (some ⟨s, 0, none⟩)) ∧ StAt w' s B1 B2 B3 B4 B5 B6 n1 k1 n2 k2 k3 n4 k4 n5 k5 n6 k6 wm br hr wg pc lim ep mn md ma yr D m dc mp zv ds ls hs tg ho cy fe fs f ∧ (n = 0 → zv = .slice none 0 0) ∧ w.heap.size ≤ s ∧ Below w.heap.size w w' := by
 have hmk : ∀ w, (Instr.makeMap 194 none).run Tryz.prog w = .ok (.map (some w.heap.size)) (w.alloc (.map #[] 0)) := fun w => rfl
 have hmf : ∀ (fn : Fn) (first cap : Array Value) (w : World), (Instr.makeFunc fn first cap).run Tryz.prog w = .ok (.func fn first cap) w := fun _ _ _ _ => rfl
 have hb0 := fr_alloc (fr_refl w) (.cells #[.int .i64 (-1)] 3)
 have hN := Blk.new w 3 #[.int .i64 (-1)]
 obtain ⟨w1, hw1⟩ : ∃ w1, w.alloc (.cells #[.int .i64 (-1)] 3) = w1 := ⟨_, rfl⟩
 rw [hw1] at hb0 hN
 replace h := h.keep hb0
 have HE := Lib.hid (he.keep hb0)
 have HGO := Lib.hid hgo
 have hs0 := hb0.size
 have hbz := fr_drew (fr_refl w1)
 have hkS : ∀ W, Below w1.heap.size w1 W → W.cell? ⟨g, 0, none⟩ = some (.pointer (some ⟨gs, 0, none⟩)) ∧ W.cell? ⟨g, 1, none⟩ = some (.slice D m dc) := fun W hb => ⟨(h.d.keep hb).cell 0, (h.d.keep hb).cell 1⟩
 have K1 := fun W hb => copied_any A1 A2 A3 A4 A5 A6 n1 c1 n2 c2 c3 n4 c4 n5 c5 n6 c6 wm br hr wg pc lim ep mn md ma yr ls hs tg ho cy fe W (h.r.keep hb) h.fm.1 h.fm.2.1 h.fm.2.2.1 h.fm.2.2.2.1 h.fm.2.2.2.2.1 h.fm.2.2.2.2.2 hbd
 have HD := Lib.hid h.d
 have HS := Lib.hid h.s
 have HY := Lib.hid h.days
 have HN1 := Lib.hid hN
 have HDL : Lo w1.heap.size D m := h.days.lo (yearR_len fs f m)
 clear h hbd he hgo
 refine (callsIn_wide (n := 6)).1 (callsIn_of_wp_marks Tryz.func36 rfl trivial ?_ rfl)
 simp only [Tryz.ntmps36, List.size_toArray, List.length_cons, List.length_nil, Nat.reduceAdd, Nat.reduceSub, Array.replicate_succ, Array.replicate_zero, List.push_toArray, List.append_toArray, List.nil_append, List.cons_append]
 refine wpIn_wide.2 ?_
 go_upto_region 1 with (fail)
 (try rw [hw1])
 clear hw1
 go_cut [5] from 8 (fun s5 wc => ∃ p s B1 B2 B3 B4 B5 B6 k1 k2 k3 k4 k5 k6 mp, s5 = .pointer (some ⟨p, 0, none⟩) ∧ Blk wc p 103 #[.pointer (some ⟨s, 0, none⟩)] ∧ StAt wc s B1 B2 B3 B4 B5 B6 n1 k1 n2 k2 k3 n4 k4 n5 k5 n6 k6 wm br hr wg pc lim ep mn md ma yr D m dc mp (.slice none 0 0) [] ls hs tg ho cy fe fs f ∧ w1.heap.size ≤ s ∧ Below w1.heap.size w1 wc)
 case first =>
  refine wp_region_noPanic ?_
  refine wp_region_held_drew (S := fun W => W.cell? ⟨g, 0, none⟩ = some (.pointer (some ⟨gs, 0, none⟩)) ∧ W.cell? ⟨g, 1, none⟩ = some (.slice D m dc)) (by kernel_rfl) (hkS _ hbz) (fun hHeld => ?_)
  generalize w1.drew = wz at hbz hHeld ⊢
  -- the region, step by step, in whatever order
  refine tkH 0 ⟨some 8, .move (.tmp 0), 38, "desk.go:266", #[], none⟩ hHeld ?_
  refine tkH 1 ⟨some 9, .nilCheck (.tmp 8), 0, "desk.go:266", #[⟨0, .data⟩], none⟩ hHeld ?_
  refine tkH 2 ⟨some 10, .fieldAddr 93 (.tmp 9) 0, 0, "desk.go:266", #[⟨1, .data⟩], none⟩ hHeld ?_
  refine tkH 3 ⟨some 11, .load 87 (.tmp 10), 87, "desk.go:266", #[⟨2, .data⟩], none⟩ hHeld ?_
  refine tkH 4 ⟨some 12, .nilCheck (.tmp 11), 0, "desk.go:266", #[⟨3, .data⟩], none⟩ hHeld ?_
  refine tkH 7 ⟨some 15, .move (.tmp 0), 38, "desk.go:266", #[], none⟩ hHeld ?_
  refine tkH 8 ⟨some 16, .nilCheck (.tmp 15), 0, "desk.go:266", #[⟨7, .data⟩], none⟩ hHeld ?_
  refine tkH 9 ⟨some 17, .fieldAddr 93 (.tmp 16) 1, 0, "desk.go:266", #[⟨8, .data⟩], none⟩ hHeld ?_
  refine tkH 10 ⟨some 18, .load 88 (.tmp 17), 88, "desk.go:266", #[⟨9, .data⟩], none⟩ hHeld ?_
  refine wpAnyH_ready (rs := [5, 11, 14]) (by kernel_rfl) (by simp) ?_
  refine (AllReadyH.cons (o := ⟨some 13, .load 35 (.tmp 12), 35, "desk.go:266", #[⟨4, .data⟩], none⟩) rfl (fun K hK => ?_) (AllReadyH.cons (o := ⟨some 19, .makeMap 194 none, 194, "desk.go:266", #[], none⟩) rfl (fun K hK => ?_) (AllReadyH.cons (o := ⟨some 5, .alloc 103, 0, "desk.go:266", #[], none⟩) rfl (fun K hK => ?_) AllReadyH.nil)))
  ·rw [if_pos (by rfl)]
   refine wp_load_blk 35 (.tmp 12) rfl gs rfl _ _ (HS.out.keep hbz) Tryz.underlying35 rfl (by kernel_rfl) ?_
   refine hK.out _ _ (hkS _ hbz) (fun hHeld => ?_)
   clear hK K
   (try simp only [Act.put, List.setIfInBounds_toArray, List.set_cons_zero, List.set_cons_succ])
   refine wpAnyH_ready (rs := [6, 11, 14]) (by kernel_rfl) (by simp) ?_
   refine (AllReadyH.cons (o := ⟨some 14, .call { callee := .value (.func 29), args := #[.tmp 13], argTypes := #[35] }, 35, "desk.go:266", #[⟨5, .data⟩], none⟩) rfl (fun K hK => ?_) (AllReadyH.cons (o := ⟨some 19, .makeMap 194 none, 194, "desk.go:266", #[], none⟩) rfl (fun K hK => ?_) (AllReadyH.cons (o := ⟨some 5, .alloc 103, 0, "desk.go:266", #[], none⟩) rfl (fun K hK => ?_) AllReadyH.nil)))
   ·rw [if_pos (by rfl)]
    go_simp
    refine (K1 _ hbz).mono ?_
    rintro e' wz ⟨B1, B2, B3, B4, B5, B6, k1, k2, k3, k4, k5, k6, rfl, hR, hfm, hcap, hb1⟩
    replace hbz := fr_call hbz hb1
    (try replace hP := hP.keep hb1)
    refine hK.out _ _ (hkS _ hbz) (fun hHeld => ?_)
    clear hK K
    (try simp only [Act.put, List.setIfInBounds_toArray, List.set_cons_zero, List.set_cons_succ])
    refine wpAnyH_ready (rs := [11, 14]) (by kernel_rfl) (by simp) ?_
    refine (AllReadyH.cons (o := ⟨some 19, .makeMap 194 none, 194, "desk.go:266", #[], none⟩) rfl (fun K hK => ?_) (AllReadyH.cons (o := ⟨some 5, .alloc 103, 0, "desk.go:266", #[], none⟩) rfl (fun K hK => ?_) AllReadyH.nil))
    ·rw [if_pos (by rfl)]
     go_simp
     have hb1 := fr_alloc (fr_refl wz) (.map #[] 0)
     obtain ⟨mq, hmq⟩ : ∃ q, wz.heap.size = q := ⟨_, rfl⟩
     (try rw [hmq])
     (try rw [hmq] at hb1)
     replace hbz := fr_call hbz (by rw [hmq]; exact hb1)
     (try replace hP := hP.keep (by rw [hmq]; exact hb1))
     (try replace hR := hR.keep (by rw [hmq]; exact hb1))
     clear hmq hb1
     generalize wz.alloc (.map #[] 0) = wz at *
     refine hK.out _ _ (hkS _ hbz) (fun hHeld => ?_)
     clear hK K
     (try simp only [Act.put, List.setIfInBounds_toArray, List.set_cons_zero, List.set_cons_succ])
     refine tkH 12 ⟨some 20, .build 196 #[(0, .tmp 14), (1, .tmp 18), (3, .tmp 19)], 196, "desk.go:266", #[⟨6, .data⟩, ⟨10, .data⟩, ⟨11, .data⟩], none⟩ hHeld ?_
     refine wpAnyH_ready (rs := [13, 14]) (by kernel_rfl) (by simp) ?_
     refine (AllReadyH.cons (o := ⟨some 21, .box 196 (.tmp 20), 103, "desk.go:266", #[⟨12, .data⟩], none⟩) rfl (fun K hK => ?_) (AllReadyH.cons (o := ⟨some 5, .alloc 103, 0, "desk.go:266", #[], none⟩) rfl (fun K hK => ?_) AllReadyH.nil))
     ·rw [if_pos (by rfl)]
      go_simp
      have hLo := hR.lo
      have hb1 := fr_alloc (fr_refl wz) (.cells #[.slice B1 n1 k1, .slice B2 n2 k2, .slice B3 n2 k3, .int .i64 lim, .int .i64 wm, .slice B4 n4 k4, .int .i64 ep, .slice B5 n5 k5, .int .i64 mn, .int .i64 md, .int .i64 ma, .slice B6 n6 k6, .int .i64 yr, .int .i64 br, .int .i64 hr, .int .i64 wg, .int .i64 pc, .slice D m dc, .slice none 0 0, .map (some mq), .int .i64 0, .slice none 0 0] 196)
      have hB := Blk.new wz 196 #[.slice B1 n1 k1, .slice B2 n2 k2, .slice B3 n2 k3, .int .i64 lim, .int .i64 wm, .slice B4 n4 k4, .int .i64 ep, .slice B5 n5 k5, .int .i64 mn, .int .i64 md, .int .i64 ma, .slice B6 n6 k6, .int .i64 yr, .int .i64 br, .int .i64 hr, .int .i64 wg, .int .i64 pc, .slice D m dc, .slice none 0 0, .map (some mq), .int .i64 0, .slice none 0 0]
      have hsB := hbz.size
      replace hbz := fr_call hbz hb1
      (try replace hP := hP.keep hb1)
      replace hR := hR.keep hb1
      clear hb1
      obtain ⟨bq, hbq⟩ : ∃ q, wz.heap.size = q := ⟨_, rfl⟩
      (try rw [hbq])
      rw [hbq] at hB hsB hLo
      clear hbq
      generalize wz.alloc (.cells #[.slice B1 n1 k1, .slice B2 n2 k2, .slice B3 n2 k3, .int .i64 lim, .int .i64 wm, .slice B4 n4 k4, .int .i64 ep, .slice B5 n5 k5, .int .i64 mn, .int .i64 md, .int .i64 ma, .slice B6 n6 k6, .int .i64 yr, .int .i64 br, .int .i64 hr, .int .i64 wg, .int .i64 pc, .slice D m dc, .slice none 0 0, .map (some mq), .int .i64 0, .slice none 0 0] 196) = wz at *
      refine hK.out _ _ (hkS _ hbz) (fun hHeld => ?_)
      clear hK K
      (try simp only [Act.put, List.setIfInBounds_toArray, List.set_cons_zero, List.set_cons_succ])
      refine rdH 14 ⟨some 5, .alloc 103, 0, "desk.go:266", #[], none⟩ fun K hK => ?_
      go_simp
      have hb1 := fr_alloc (fr_refl wz) (.cells #[.pointer none] 103)
      have hP := Blk.new wz 103 #[.pointer none]
      have hsP := hbz.size
      replace hbz := fr_call hbz hb1
      (try replace hR := hR.keep hb1)
      (try replace hB := hB.keep hb1)
      clear hb1
      obtain ⟨pq, hpq⟩ : ∃ q, wz.heap.size = q := ⟨_, rfl⟩
      (try rw [hpq])
      rw [hpq] at hP hsP
      clear hpq
      generalize wz.alloc (.cells #[.pointer none] 103) = wz at *
      refine hK.out _ _ (hkS _ hbz) (fun hHeld => ?_)
      clear hK K
      (try simp only [Act.put, List.setIfInBounds_toArray, List.set_cons_zero, List.set_cons_succ])
      refine rdH 15 ⟨none, .store 103 (.tmp 5) (.tmp 21), 0, "desk.go:266", #[⟨14, .data⟩, ⟨13, .data⟩, ⟨6, .chain⟩, ⟨0, .phase⟩, ⟨1, .phase⟩, ⟨2, .phase⟩, ⟨3, .phase⟩, ⟨4, .phase⟩, ⟨5, .phase⟩, ⟨6, .phase⟩, ⟨7, .phase⟩, ⟨8, .phase⟩, ⟨9, .phase⟩, ⟨10, .phase⟩, ⟨11, .phase⟩, ⟨12, .phase⟩, ⟨13, .phase⟩, ⟨14, .phase⟩], none⟩ fun K hK => ?_
      have hcz := hP.cell 0
      have hfz := hP.frozen 0
      go_simp
      have hP2 := hP.set_ 0 (.pointer (some ⟨bq, 0, none⟩))
      have hgs := grown_set wz ⟨pq, 0, none⟩ (.pointer (some ⟨bq, 0, none⟩))
      have hx : Exc (fun i => i = pq) wz (wz.setCell ⟨pq, 0, none⟩ (.pointer (some ⟨bq, 0, none⟩))) := (Exc.refl (fun i => i = pq) wz).set (p := ⟨pq, 0, none⟩) (Or.inl rfl) _
      have hbF := hbz.grown hgs hbz.size (by intro k hk; cases hk; exact hsP)
      refine hK.out _ _ (hkS _ hbF) (fun hHeld => ?_)
      clear hK K
      refine wpAnyH_done (by kernel_rfl) ?_ _
      refine NoPanic.normal ?_
      have hne : bq ≠ pq := fun e => by
       rw [e] at hB
       unfold Blk at hB hP
       rw [hB] at hP
       cases hP
      have hfin : StAt (wz.setCell ⟨pq, 0, none⟩ (.pointer (some ⟨bq, 0, none⟩))) bq B1 B2 B3 B4 B5 B6 n1 k1 n2 k2 k3 n4 k4 n5 k5 n6 k6 wm br hr wg pc lim ep mn md ma yr D m dc (.map (some mq)) (.slice none 0 0) [] ls hs tg ho cy fe fs f := ⟨hx.blk hB hne, hR.other hP hx, hfm, hcap, HY.out.keep hbF, hLo, HDL.mono hsB, Own.nil _ _⟩
      go_wp2_with fail
      go_meet
      case rel => exact ⟨pq, bq, B1, B2, B3, B4, B5, B6, k1, k2, k3, k4, k5, k6, _, rfl, hP2, hfin, hsB, hbF⟩
     ·rw [if_pos (by rfl)]
      go_simp
      have hb1 := fr_alloc (fr_refl wz) (.cells #[.pointer none] 103)
      have hP := Blk.new wz 103 #[.pointer none]
      have hsP := hbz.size
      replace hbz := fr_call hbz hb1
      (try replace hR := hR.keep hb1)
      (try replace hB := hB.keep hb1)
      clear hb1
      obtain ⟨pq, hpq⟩ : ∃ q, wz.heap.size = q := ⟨_, rfl⟩
      (try rw [hpq])
      rw [hpq] at hP hsP
      clear hpq
      generalize wz.alloc (.cells #[.pointer none] 103) = wz at *
      refine hK.out _ _ (hkS _ hbz) (fun hHeld => ?_)
      clear hK K
      (try simp only [Act.put, List.setIfInBounds_toArray, List.set_cons_zero, List.set_cons_succ])
      refine rdH 13 ⟨some 21, .box 196 (.tmp 20), 103, "desk.go:266", #[⟨12, .data⟩], none⟩ fun K hK => ?_
      go_simp
      have hLo := hR.lo
      have hb1 := fr_alloc (fr_refl wz) (.cells #[.slice B1 n1 k1, .slice B2 n2 k2, .slice B3 n2 k3, .int .i64 lim, .int .i64 wm, .slice B4 n4 k4, .int .i64 ep, .slice B5 n5 k5, .int .i64 mn, .int .i64 md, .int .i64 ma, .slice B6 n6 k6, .int .i64 yr, .int .i64 br, .int .i64 hr, .int .i64 wg, .int .i64 pc, .slice D m dc, .slice none 0 0, .map (some mq), .int .i64 0, .slice none 0 0] 196)
      have hB := Blk.new wz 196 #[.slice B1 n1 k1, .slice B2 n2 k2, .slice B3 n2 k3, .int .i64 lim, .int .i64 wm, .slice B4 n4 k4, .int .i64 ep, .slice B5 n5 k5, .int .i64 mn, .int .i64 md, .int .i64 ma, .slice B6 n6 k6, .int .i64 yr, .int .i64 br, .int .i64 hr, .int .i64 wg, .int .i64 pc, .slice D m dc, .slice none 0 0, .map (some mq), .int .i64 0, .slice none 0 0]
      have hsB := hbz.size
      replace hbz := fr_call hbz hb1
      (try replace hP := hP.keep hb1)
      replace hR := hR.keep hb1
      clear hb1
      obtain ⟨bq, hbq⟩ : ∃ q, wz.heap.size = q := ⟨_, rfl⟩
      (try rw [hbq])
      rw [hbq] at hB hsB hLo
      clear hbq
      generalize wz.alloc (.cells #[.slice B1 n1 k1, .slice B2 n2 k2, .slice B3 n2 k3, .int .i64 lim, .int .i64 wm, .slice B4 n4 k4, .int .i64 ep, .slice B5 n5 k5, .int .i64 mn, .int .i64 md, .int .i64 ma, .slice B6 n6 k6, .int .i64 yr, .int .i64 br, .int .i64 hr, .int .i64 wg, .int .i64 pc, .slice D m dc, .slice none 0 0, .map (some mq), .int .i64 0, .slice none 0 0] 196) = wz at *
      refine hK.out _ _ (hkS _ hbz) (fun hHeld => ?_)
      clear hK K
      (try simp only [Act.put, List.setIfInBounds_toArray, List.set_cons_zero, List.set_cons_succ])
      refine rdH 15 ⟨none, .store 103 (.tmp 5) (.tmp 21), 0, "desk.go:266", #[⟨14, .data⟩, ⟨13, .data⟩, ⟨6, .chain⟩, ⟨0, .phase⟩, ⟨1, .phase⟩, ⟨2, .phase⟩, ⟨3, .phase⟩, ⟨4, .phase⟩, ⟨5, .phase⟩, ⟨6, .phase⟩, ⟨7, .phase⟩, ⟨8, .phase⟩, ⟨9, .phase⟩, ⟨10, .phase⟩, ⟨11, .phase⟩, ⟨12, .phase⟩, ⟨13, .phase⟩, ⟨14, .phase⟩], none⟩ fun K hK => ?_
      have hcz := hP.cell 0
      have hfz := hP.frozen 0
      go_simp
      have hP2 := hP.set_ 0 (.pointer (some ⟨bq, 0, none⟩))
      have hgs := grown_set wz ⟨pq, 0, none⟩ (.pointer (some ⟨bq, 0, none⟩))
      have hx : Exc (fun i => i = pq) wz (wz.setCell ⟨pq, 0, none⟩ (.pointer (some ⟨bq, 0, none⟩))) := (Exc.refl (fun i => i = pq) wz).set (p := ⟨pq, 0, none⟩) (Or.inl rfl) _
      have hbF := hbz.grown hgs hbz.size (by intro k hk; cases hk; exact hsP)
      refine hK.out _ _ (hkS _ hbF) (fun hHeld => ?_)
      clear hK K
      refine wpAnyH_done (by kernel_rfl) ?_ _
      refine NoPanic.normal ?_
      have hne : bq ≠ pq := fun e => by
       rw [e] at hB
       unfold Blk at hB hP
       rw [hB] at hP
       cases hP
      have hfin : StAt (wz.setCell ⟨pq, 0, none⟩ (.pointer (some ⟨bq, 0, none⟩))) bq B1 B2 B3 B4 B5 B6 n1 k1 n2 k2 k3 n4 k4 n5 k5 n6 k6 wm br hr wg pc lim ep mn md ma yr D m dc (.map (some mq)) (.slice none 0 0) [] ls hs tg ho cy fe fs f := ⟨hx.blk hB hne, hR.other hP hx, hfm, hcap, HY.out.keep hbF, hLo, HDL.mono hsB, Own.nil _ _⟩
      go_wp2_with fail
      go_meet
      case rel => exact ⟨pq, bq, B1, B2, B3, B4, B5, B6, k1, k2, k3, k4, k5, k6, _, rfl, hP2, hfin, hsB, hbF⟩
    ·rw [if_pos (by rfl)]
     go_simp
     have hb1 := fr_alloc (fr_refl wz) (.cells #[.pointer none] 103)
     have hP := Blk.new wz 103 #[.pointer none]
     have hsP := hbz.size
     replace hbz := fr_call hbz hb1
     (try replace hR := hR.keep hb1)
     (try replace hB := hB.keep hb1)
     clear hb1
     obtain ⟨pq, hpq⟩ : ∃ q, wz.heap.size = q := ⟨_, rfl⟩
     (try rw [hpq])
     rw [hpq] at hP hsP
     clear hpq
     generalize wz.alloc (.cells #[.pointer none] 103) = wz at *
     refine hK.out _ _ (hkS _ hbz) (fun hHeld => ?_)
     clear hK K
     (try simp only [Act.put, List.setIfInBounds_toArray, List.set_cons_zero, List.set_cons_succ])
     refine rdH 11 ⟨some 19, .makeMap 194 none, 194, "desk.go:266", #[], none⟩ fun K hK => ?_
     go_simp
     have hb1 := fr_alloc (fr_refl wz) (.map #[] 0)
     obtain ⟨mq, hmq⟩ : ∃ q, wz.heap.size = q := ⟨_, rfl⟩
     (try rw [hmq])
     (try rw [hmq] at hb1)
     replace hbz := fr_call hbz (by rw [hmq]; exact hb1)
     (try replace hP := hP.keep (by rw [hmq]; exact hb1))
     (try replace hR := hR.keep (by rw [hmq]; exact hb1))
     clear hmq hb1
     generalize wz.alloc (.map #[] 0) = wz at *
     refine hK.out _ _ (hkS _ hbz) (fun hHeld => ?_)
     clear hK K
     (try simp only [Act.put, List.setIfInBounds_toArray, List.set_cons_zero, List.set_cons_succ])
     refine tkH 12 ⟨some 20, .build 196 #[(0, .tmp 14), (1, .tmp 18), (3, .tmp 19)], 196, "desk.go:266", #[⟨6, .data⟩, ⟨10, .data⟩, ⟨11, .data⟩], none⟩ hHeld ?_
     refine rdH 13 ⟨some 21, .box 196 (.tmp 20), 103, "desk.go:266", #[⟨12, .data⟩], none⟩ fun K hK => ?_
     go_simp
     have hLo := hR.lo
     have hb1 := fr_alloc (fr_refl wz) (.cells #[.slice B1 n1 k1, .slice B2 n2 k2, .slice B3 n2 k3, .int .i64 lim, .int .i64 wm, .slice B4 n4 k4, .int .i64 ep, .slice B5 n5 k5, .int .i64 mn, .int .i64 md, .int .i64 ma, .slice B6 n6 k6, .int .i64 yr, .int .i64 br, .int .i64 hr, .int .i64 wg, .int .i64 pc, .slice D m dc, .slice none 0 0, .map (some mq), .int .i64 0, .slice none 0 0] 196)
     have hB := Blk.new wz 196 #[.slice B1 n1 k1, .slice B2 n2 k2, .slice B3 n2 k3, .int .i64 lim, .int .i64 wm, .slice B4 n4 k4, .int .i64 ep, .slice B5 n5 k5, .int .i64 mn, .int .i64 md, .int .i64 ma, .slice B6 n6 k6, .int .i64 yr, .int .i64 br, .int .i64 hr, .int .i64 wg, .int .i64 pc, .slice D m dc, .slice none 0 0, .map (some mq), .int .i64 0, .slice none 0 0]
     have hsB := hbz.size
     replace hbz := fr_call hbz hb1
     (try replace hP := hP.keep hb1)
     replace hR := hR.keep hb1
     clear hb1
     obtain ⟨bq, hbq⟩ : ∃ q, wz.heap.size = q := ⟨_, rfl⟩
     (try rw [hbq])
     rw [hbq] at hB hsB hLo
     clear hbq
     generalize wz.alloc (.cells #[.slice B1 n1 k1, .slice B2 n2 k2, .slice B3 n2 k3, .int .i64 lim, .int .i64 wm, .slice B4 n4 k4, .int .i64 ep, .slice B5 n5 k5, .int .i64 mn, .int .i64 md, .int .i64 ma, .slice B6 n6 k6, .int .i64 yr, .int .i64 br, .int .i64 hr, .int .i64 wg, .int .i64 pc, .slice D m dc, .slice none 0 0, .map (some mq), .int .i64 0, .slice none 0 0] 196) = wz at *
     refine hK.out _ _ (hkS _ hbz) (fun hHeld => ?_)
     clear hK K
     (try simp only [Act.put, List.setIfInBounds_toArray, List.set_cons_zero, List.set_cons_succ])
     refine rdH 15 ⟨none, .store 103 (.tmp 5) (.tmp 21), 0, "desk.go:266", #[⟨14, .data⟩, ⟨13, .data⟩, ⟨6, .chain⟩, ⟨0, .phase⟩, ⟨1, .phase⟩, ⟨2, .phase⟩, ⟨3, .phase⟩, ⟨4, .phase⟩, ⟨5, .phase⟩, ⟨6, .phase⟩, ⟨7, .phase⟩, ⟨8, .phase⟩, ⟨9, .phase⟩, ⟨10, .phase⟩, ⟨11, .phase⟩, ⟨12, .phase⟩, ⟨13, .phase⟩, ⟨14, .phase⟩], none⟩ fun K hK => ?_
     have hcz := hP.cell 0
     have hfz := hP.frozen 0
     go_simp
     have hP2 := hP.set_ 0 (.pointer (some ⟨bq, 0, none⟩))
     have hgs := grown_set wz ⟨pq, 0, none⟩ (.pointer (some ⟨bq, 0, none⟩))
     have hx : Exc (fun i => i = pq) wz (wz.setCell ⟨pq, 0, none⟩ (.pointer (some ⟨bq, 0, none⟩))) := (Exc.refl (fun i => i = pq) wz).set (p := ⟨pq, 0, none⟩) (Or.inl rfl) _
     have hbF := hbz.grown hgs hbz.size (by intro k hk; cases hk; exact hsP)
     refine hK.out _ _ (hkS _ hbF) (fun hHeld => ?_)
     clear hK K
     refine wpAnyH_done (by kernel_rfl) ?_ _
     refine NoPanic.normal ?_
     have hne : bq ≠ pq := fun e => by
      rw [e] at hB
      unfold Blk at hB hP
      rw [hB] at hP
      cases hP
     have hfin : StAt (wz.setCell ⟨pq, 0, none⟩ (.pointer (some ⟨bq, 0, none⟩))) bq B1 B2 B3 B4 B5 B6 n1 k1 n2 k2 k3 n4 k4 n5 k5 n6 k6 wm br hr wg pc lim ep mn md ma yr D m dc (.map (some mq)) (.slice none 0 0) [] ls hs tg ho cy fe fs f := ⟨hx.blk hB hne, hR.other hP hx, hfm, hcap, HY.out.keep hbF, hLo, HDL.mono hsB, Own.nil _ _⟩
     go_wp2_with fail
     go_meet
     case rel => exact ⟨pq, bq, B1, B2, B3, B4, B5, B6, k1, k2, k3, k4, k5, k6, _, rfl, hP2, hfin, hsB, hbF⟩
   ·rw [if_pos (by rfl)]
    go_simp
    have hb1 := fr_alloc (fr_refl wz) (.map #[] 0)
    obtain ⟨mq, hmq⟩ : ∃ q, wz.heap.size = q := ⟨_, rfl⟩
    (try rw [hmq])
    (try rw [hmq] at hb1)
    replace hbz := fr_call hbz (by rw [hmq]; exact hb1)
    (try replace hP := hP.keep (by rw [hmq]; exact hb1))
    (try replace hR := hR.keep (by rw [hmq]; exact hb1))
    clear hmq hb1
    generalize wz.alloc (.map #[] 0) = wz at *
    refine hK.out _ _ (hkS _ hbz) (fun hHeld => ?_)
    clear hK K
    (try simp only [Act.put, List.setIfInBounds_toArray, List.set_cons_zero, List.set_cons_succ])
    refine wpAnyH_ready (rs := [6, 14]) (by kernel_rfl) (by simp) ?_
    refine (AllReadyH.cons (o := ⟨some 14, .call { callee := .value (.func 29), args := #[.tmp 13], argTypes := #[35] }, 35, "desk.go:266", #[⟨5, .data⟩], none⟩) rfl (fun K hK => ?_) (AllReadyH.cons (o := ⟨some 5, .alloc 103, 0, "desk.go:266", #[], none⟩) rfl (fun K hK => ?_) AllReadyH.nil))
    ·rw [if_pos (by rfl)]
     go_simp
     refine (K1 _ hbz).mono ?_
     rintro e' wz ⟨B1, B2, B3, B4, B5, B6, k1, k2, k3, k4, k5, k6, rfl, hR, hfm, hcap, hb1⟩
     replace hbz := fr_call hbz hb1
     (try replace hP := hP.keep hb1)
     refine hK.out _ _ (hkS _ hbz) (fun hHeld => ?_)
     clear hK K
     (try simp only [Act.put, List.setIfInBounds_toArray, List.set_cons_zero, List.set_cons_succ])
     refine tkH 12 ⟨some 20, .build 196 #[(0, .tmp 14), (1, .tmp 18), (3, .tmp 19)], 196, "desk.go:266", #[⟨6, .data⟩, ⟨10, .data⟩, ⟨11, .data⟩], none⟩ hHeld ?_
     refine wpAnyH_ready (rs := [13, 14]) (by kernel_rfl) (by simp) ?_
     refine (AllReadyH.cons (o := ⟨some 21, .box 196 (.tmp 20), 103, "desk.go:266", #[⟨12, .data⟩], none⟩) rfl (fun K hK => ?_) (AllReadyH.cons (o := ⟨some 5, .alloc 103, 0, "desk.go:266", #[], none⟩) rfl (fun K hK => ?_) AllReadyH.nil))
     ·rw [if_pos (by rfl)]
      go_simp
      have hLo := hR.lo
      have hb1 := fr_alloc (fr_refl wz) (.cells #[.slice B1 n1 k1, .slice B2 n2 k2, .slice B3 n2 k3, .int .i64 lim, .int .i64 wm, .slice B4 n4 k4, .int .i64 ep, .slice B5 n5 k5, .int .i64 mn, .int .i64 md, .int .i64 ma, .slice B6 n6 k6, .int .i64 yr, .int .i64 br, .int .i64 hr, .int .i64 wg, .int .i64 pc, .slice D m dc, .slice none 0 0, .map (some mq), .int .i64 0, .slice none 0 0] 196)
      have hB := Blk.new wz 196 #[.slice B1 n1 k1, .slice B2 n2 k2, .slice B3 n2 k3, .int .i64 lim, .int .i64 wm, .slice B4 n4 k4, .int .i64 ep, .slice B5 n5 k5, .int .i64 mn, .int .i64 md, .int .i64 ma, .slice B6 n6 k6, .int .i64 yr, .int .i64 br, .int .i64 hr, .int .i64 wg, .int .i64 pc, .slice D m dc, .slice none 0 0, .map (some mq), .int .i64 0, .slice none 0 0]
      have hsB := hbz.size
      replace hbz := fr_call hbz hb1
      (try replace hP := hP.keep hb1)
      replace hR := hR.keep hb1
      clear hb1
      obtain ⟨bq, hbq⟩ : ∃ q, wz.heap.size = q := ⟨_, rfl⟩
      (try rw [hbq])
      rw [hbq] at hB hsB hLo
      clear hbq
      generalize wz.alloc (.cells #[.slice B1 n1 k1, .slice B2 n2 k2, .slice B3 n2 k3, .int .i64 lim, .int .i64 wm, .slice B4 n4 k4, .int .i64 ep, .slice B5 n5 k5, .int .i64 mn, .int .i64 md, .int .i64 ma, .slice B6 n6 k6, .int .i64 yr, .int .i64 br, .int .i64 hr, .int .i64 wg, .int .i64 pc, .slice D m dc, .slice none 0 0, .map (some mq), .int .i64 0, .slice none 0 0] 196) = wz at *
      refine hK.out _ _ (hkS _ hbz) (fun hHeld => ?_)
      clear hK K
      (try simp only [Act.put, List.setIfInBounds_toArray, List.set_cons_zero, List.set_cons_succ])
      refine rdH 14 ⟨some 5, .alloc 103, 0, "desk.go:266", #[], none⟩ fun K hK => ?_
      go_simp
      have hb1 := fr_alloc (fr_refl wz) (.cells #[.pointer none] 103)
      have hP := Blk.new wz 103 #[.pointer none]
      have hsP := hbz.size
      replace hbz := fr_call hbz hb1
      (try replace hR := hR.keep hb1)
      (try replace hB := hB.keep hb1)
      clear hb1
      obtain ⟨pq, hpq⟩ : ∃ q, wz.heap.size = q := ⟨_, rfl⟩
      (try rw [hpq])
      rw [hpq] at hP hsP
      clear hpq
      generalize wz.alloc (.cells #[.pointer none] 103) = wz at *
      refine hK.out _ _ (hkS _ hbz) (fun hHeld => ?_)
      clear hK K
      (try simp only [Act.put, List.setIfInBounds_toArray, List.set_cons_zero, List.set_cons_succ])
      refine rdH 15 ⟨none, .store 103 (.tmp 5) (.tmp 21), 0, "desk.go:266", #[⟨14, .data⟩, ⟨13, .data⟩, ⟨6, .chain⟩, ⟨0, .phase⟩, ⟨1, .phase⟩, ⟨2, .phase⟩, ⟨3, .phase⟩, ⟨4, .phase⟩, ⟨5, .phase⟩, ⟨6, .phase⟩, ⟨7, .phase⟩, ⟨8, .phase⟩, ⟨9, .phase⟩, ⟨10, .phase⟩, ⟨11, .phase⟩, ⟨12, .phase⟩, ⟨13, .phase⟩, ⟨14, .phase⟩], none⟩ fun K hK => ?_
      have hcz := hP.cell 0
      have hfz := hP.frozen 0
      go_simp
      have hP2 := hP.set_ 0 (.pointer (some ⟨bq, 0, none⟩))
      have hgs := grown_set wz ⟨pq, 0, none⟩ (.pointer (some ⟨bq, 0, none⟩))
      have hx : Exc (fun i => i = pq) wz (wz.setCell ⟨pq, 0, none⟩ (.pointer (some ⟨bq, 0, none⟩))) := (Exc.refl (fun i => i = pq) wz).set (p := ⟨pq, 0, none⟩) (Or.inl rfl) _
      have hbF := hbz.grown hgs hbz.size (by intro k hk; cases hk; exact hsP)
      refine hK.out _ _ (hkS _ hbF) (fun hHeld => ?_)
      clear hK K
      refine wpAnyH_done (by kernel_rfl) ?_ _
      refine NoPanic.normal ?_
      have hne : bq ≠ pq := fun e => by
       rw [e] at hB
       unfold Blk at hB hP
       rw [hB] at hP
       cases hP
      have hfin : StAt (wz.setCell ⟨pq, 0, none⟩ (.pointer (some ⟨bq, 0, none⟩))) bq B1 B2 B3 B4 B5 B6 n1 k1 n2 k2 k3 n4 k4 n5 k5 n6 k6 wm br hr wg pc lim ep mn md ma yr D m dc (.map (some mq)) (.slice none 0 0) [] ls hs tg ho cy fe fs f := ⟨hx.blk hB hne, hR.other hP hx, hfm, hcap, HY.out.keep hbF, hLo, HDL.mono hsB, Own.nil _ _⟩
      go_wp2_with fail
      go_meet
      case rel => exact ⟨pq, bq, B1, B2, B3, B4, B5, B6, k1, k2, k3, k4, k5, k6, _, rfl, hP2, hfin, hsB, hbF⟩
     ·rw [if_pos (by rfl)]
      go_simp
      have hb1 := fr_alloc (fr_refl wz) (.cells #[.pointer none] 103)
      have hP := Blk.new wz 103 #[.pointer none]
      have hsP := hbz.size
      replace hbz := fr_call hbz hb1
      (try replace hR := hR.keep hb1)
      (try replace hB := hB.keep hb1)
      clear hb1
      obtain ⟨pq, hpq⟩ : ∃ q, wz.heap.size = q := ⟨_, rfl⟩
      (try rw [hpq])
      rw [hpq] at hP hsP
      clear hpq
      generalize wz.alloc (.cells #[.pointer none] 103) = wz at *
      refine hK.out _ _ (hkS _ hbz) (fun hHeld => ?_)
      clear hK K
      (try simp only [Act.put, List.setIfInBounds_toArray, List.set_cons_zero, List.set_cons_succ])
      refine rdH 13 ⟨some 21, .box 196 (.tmp 20), 103, "desk.go:266", #[⟨12, .data⟩], none⟩ fun K hK => ?_
      go_simp
      have hLo := hR.lo
      have hb1 := fr_alloc (fr_refl wz) (.cells #[.slice B1 n1 k1, .slice B2 n2 k2, .slice B3 n2 k3, .int .i64 lim, .int .i64 wm, .slice B4 n4 k4, .int .i64 ep, .slice B5 n5 k5, .int .i64 mn, .int .i64 md, .int .i64 ma, .slice B6 n6 k6, .int .i64 yr, .int .i64 br, .int .i64 hr, .int .i64 wg, .int .i64 pc, .slice D m dc, .slice none 0 0, .map (some mq), .int .i64 0, .slice none 0 0] 196)
      have hB := Blk.new wz 196 #[.slice B1 n1 k1, .slice B2 n2 k2, .slice B3 n2 k3, .int .i64 lim, .int .i64 wm, .slice B4 n4 k4, .int .i64 ep, .slice B5 n5 k5, .int .i64 mn, .int .i64 md, .int .i64 ma, .slice B6 n6 k6, .int .i64 yr, .int .i64 br, .int .i64 hr, .int .i64 wg, .int .i64 pc, .slice D m dc, .slice none 0 0, .map (some mq), .int .i64 0, .slice none 0 0]
      have hsB := hbz.size
      replace hbz := fr_call hbz hb1
      (try replace hP := hP.keep hb1)
      replace hR := hR.keep hb1
      clear hb1
      obtain ⟨bq, hbq⟩ : ∃ q, wz.heap.size = q := ⟨_, rfl⟩
      (try rw [hbq])
      rw [hbq] at hB hsB hLo
      clear hbq
      generalize wz.alloc (.cells #[.slice B1 n1 k1, .slice B2 n2 k2, .slice B3 n2 k3, .int .i64 lim, .int .i64 wm, .slice B4 n4 k4, .int .i64 ep, .slice B5 n5 k5, .int .i64 mn, .int .i64 md, .int .i64 ma, .slice B6 n6 k6, .int .i64 yr, .int .i64 br, .int .i64 hr, .int .i64 wg, .int .i64 pc, .slice D m dc, .slice none 0 0, .map (some mq), .int .i64 0, .slice none 0 0] 196) = wz at *
      refine hK.out _ _ (hkS _ hbz) (fun hHeld => ?_)
      clear hK K
      (try simp only [Act.put, List.setIfInBounds_toArray, List.set_cons_zero, List.set_cons_succ])
      refine rdH 15 ⟨none, .store 103 (.tmp 5) (.tmp 21), 0, "desk.go:266", #[⟨14, .data⟩, ⟨13, .data⟩, ⟨6, .chain⟩, ⟨0, .phase⟩, ⟨1, .phase⟩, ⟨2, .phase⟩, ⟨3, .phase⟩, ⟨4, .phase⟩, ⟨5, .phase⟩, ⟨6, .phase⟩, ⟨7, .phase⟩, ⟨8, .phase⟩, ⟨9, .phase⟩, ⟨10, .phase⟩, ⟨11, .phase⟩, ⟨12, .phase⟩, ⟨13, .phase⟩, ⟨14, .phase⟩], none⟩ fun K hK => ?_
      have hcz := hP.cell 0
      have hfz := hP.frozen 0
      go_simp
      have hP2 := hP.set_ 0 (.pointer (some ⟨bq, 0, none⟩))
      have hgs := grown_set wz ⟨pq, 0, none⟩ (.pointer (some ⟨bq, 0, none⟩))
      have hx : Exc (fun i => i = pq) wz (wz.setCell ⟨pq, 0, none⟩ (.pointer (some ⟨bq, 0, none⟩))) := (Exc.refl (fun i => i = pq) wz).set (p := ⟨pq, 0, none⟩) (Or.inl rfl) _
      have hbF := hbz.grown hgs hbz.size (by intro k hk; cases hk; exact hsP)
      refine hK.out _ _ (hkS _ hbF) (fun hHeld => ?_)
      clear hK K
      refine wpAnyH_done (by kernel_rfl) ?_ _
      refine NoPanic.normal ?_
      have hne : bq ≠ pq := fun e => by
       rw [e] at hB
       unfold Blk at hB hP
       rw [hB] at hP
       cases hP
      have hfin : StAt (wz.setCell ⟨pq, 0, none⟩ (.pointer (some ⟨bq, 0, none⟩))) bq B1 B2 B3 B4 B5 B6 n1 k1 n2 k2 k3 n4 k4 n5 k5 n6 k6 wm br hr wg pc lim ep mn md ma yr D m dc (.map (some mq)) (.slice none 0 0) [] ls hs tg ho cy fe fs f := ⟨hx.blk hB hne, hR.other hP hx, hfm, hcap, HY.out.keep hbF, hLo, HDL.mono hsB, Own.nil _ _⟩
      go_wp2_with fail
      go_meet
      case rel => exact ⟨pq, bq, B1, B2, B3, B4, B5, B6, k1, k2, k3, k4, k5, k6, _, rfl, hP2, hfin, hsB, hbF⟩
    ·rw [if_pos (by rfl)]
     go_simp
     have hb1 := fr_alloc (fr_refl wz) (.cells #[.pointer none] 103)
     have hP := Blk.new wz 103 #[.pointer none]
     have hsP := hbz.size
     replace hbz := fr_call hbz hb1
     (try replace hR := hR.keep hb1)
     (try replace hB := hB.keep hb1)
     clear hb1
     obtain ⟨pq, hpq⟩ : ∃ q, wz.heap.size = q := ⟨_, rfl⟩
     (try rw [hpq])
     rw [hpq] at hP hsP
     clear hpq
     generalize wz.alloc (.cells #[.pointer none] 103) = wz at *
     refine hK.out _ _ (hkS _ hbz) (fun hHeld => ?_)
     clear hK K
     (try simp only [Act.put, List.setIfInBounds_toArray, List.set_cons_zero, List.set_cons_succ])
     refine rdH 6 ⟨some 14, .call { callee := .value (.func 29), args := #[.tmp 13], argTypes := #[35] }, 35, "desk.go:266", #[⟨5, .data⟩], none⟩ fun K hK => ?_
     go_simp
     refine (K1 _ hbz).mono ?_
     rintro e' wz ⟨B1, B2, B3, B4, B5, B6, k1, k2, k3, k4, k5, k6, rfl, hR, hfm, hcap, hb1⟩
     replace hbz := fr_call hbz hb1
     (try replace hP := hP.keep hb1)
     refine hK.out _ _ (hkS _ hbz) (fun hHeld => ?_)
     clear hK K
     (try simp only [Act.put, List.setIfInBounds_toArray, List.set_cons_zero, List.set_cons_succ])
     refine tkH 12 ⟨some 20, .build 196 #[(0, .tmp 14), (1, .tmp 18), (3, .tmp 19)], 196, "desk.go:266", #[⟨6, .data⟩, ⟨10, .data⟩, ⟨11, .data⟩], none⟩ hHeld ?_
     refine rdH 13 ⟨some 21, .box 196 (.tmp 20), 103, "desk.go:266", #[⟨12, .data⟩], none⟩ fun K hK => ?_
     go_simp
     have hLo := hR.lo
     have hb1 := fr_alloc (fr_refl wz) (.cells #[.slice B1 n1 k1, .slice B2 n2 k2, .slice B3 n2 k3, .int .i64 lim, .int .i64 wm, .slice B4 n4 k4, .int .i64 ep, .slice B5 n5 k5, .int .i64 mn, .int .i64 md, .int .i64 ma, .slice B6 n6 k6, .int .i64 yr, .int .i64 br, .int .i64 hr, .int .i64 wg, .int .i64 pc, .slice D m dc, .slice none 0 0, .map (some mq), .int .i64 0, .slice none 0 0] 196)
     have hB := Blk.new wz 196 #[.slice B1 n1 k1, .slice B2 n2 k2, .slice B3 n2 k3, .int .i64 lim, .int .i64 wm, .slice B4 n4 k4, .int .i64 ep, .slice B5 n5 k5, .int .i64 mn, .int .i64 md, .int .i64 ma, .slice B6 n6 k6, .int .i64 yr, .int .i64 br, .int .i64 hr, .int .i64 wg, .int .i64 pc, .slice D m dc, .slice none 0 0, .map (some mq), .int .i64 0, .slice none 0 0]
     have hsB := hbz.size
     replace hbz := fr_call hbz hb1
     (try replace hP := hP.keep hb1)
     replace hR := hR.keep hb1
     clear hb1
     obtain ⟨bq, hbq⟩ : ∃ q, wz.heap.size = q := ⟨_, rfl⟩
     (try rw [hbq])
     rw [hbq] at hB hsB hLo
     clear hbq
     generalize wz.alloc (.cells #[.slice B1 n1 k1, .slice B2 n2 k2, .slice B3 n2 k3, .int .i64 lim, .int .i64 wm, .slice B4 n4 k4, .int .i64 ep, .slice B5 n5 k5, .int .i64 mn, .int .i64 md, .int .i64 ma, .slice B6 n6 k6, .int .i64 yr, .int .i64 br, .int .i64 hr, .int .i64 wg, .int .i64 pc, .slice D m dc, .slice none 0 0, .map (some mq), .int .i64 0, .slice none 0 0] 196) = wz at *
     refine hK.out _ _ (hkS _ hbz) (fun hHeld => ?_)
     clear hK K
     (try simp only [Act.put, List.setIfInBounds_toArray, List.set_cons_zero, List.set_cons_succ])
     refine rdH 15 ⟨none, .store 103 (.tmp 5) (.tmp 21), 0, "desk.go:266", #[⟨14, .data⟩, ⟨13, .data⟩, ⟨6, .chain⟩, ⟨0, .phase⟩, ⟨1, .phase⟩, ⟨2, .phase⟩, ⟨3, .phase⟩, ⟨4, .phase⟩, ⟨5, .phase⟩, ⟨6, .phase⟩, ⟨7, .phase⟩, ⟨8, .phase⟩, ⟨9, .phase⟩, ⟨10, .phase⟩, ⟨11, .phase⟩, ⟨12, .phase⟩, ⟨13, .phase⟩, ⟨14, .phase⟩], none⟩ fun K hK => ?_
     have hcz := hP.cell 0
     have hfz := hP.frozen 0
     go_simp
     have hP2 := hP.set_ 0 (.pointer (some ⟨bq, 0, none⟩))
     have hgs := grown_set wz ⟨pq, 0, none⟩ (.pointer (some ⟨bq, 0, none⟩))
     have hx : Exc (fun i => i = pq) wz (wz.setCell ⟨pq, 0, none⟩ (.pointer (some ⟨bq, 0, none⟩))) := (Exc.refl (fun i => i = pq) wz).set (p := ⟨pq, 0, none⟩) (Or.inl rfl) _
     have hbF := hbz.grown hgs hbz.size (by intro k hk; cases hk; exact hsP)
     refine hK.out _ _ (hkS _ hbF) (fun hHeld => ?_)
     clear hK K
     refine wpAnyH_done (by kernel_rfl) ?_ _
     refine NoPanic.normal ?_
     have hne : bq ≠ pq := fun e => by
      rw [e] at hB
      unfold Blk at hB hP
      rw [hB] at hP
      cases hP
     have hfin : StAt (wz.setCell ⟨pq, 0, none⟩ (.pointer (some ⟨bq, 0, none⟩))) bq B1 B2 B3 B4 B5 B6 n1 k1 n2 k2 k3 n4 k4 n5 k5 n6 k6 wm br hr wg pc lim ep mn md ma yr D m dc (.map (some mq)) (.slice none 0 0) [] ls hs tg ho cy fe fs f := ⟨hx.blk hB hne, hR.other hP hx, hfm, hcap, HY.out.keep hbF, hLo, HDL.mono hsB, Own.nil _ _⟩
     go_wp2_with fail
     go_meet
     case rel => exact ⟨pq, bq, B1, B2, B3, B4, B5, B6, k1, k2, k3, k4, k5, k6, _, rfl, hP2, hfin, hsB, hbF⟩
   ·rw [if_pos (by rfl)]
    go_simp
    have hb1 := fr_alloc (fr_refl wz) (.cells #[.pointer none] 103)
    have hP := Blk.new wz 103 #[.pointer none]
    have hsP := hbz.size
    replace hbz := fr_call hbz hb1
    (try replace hR := hR.keep hb1)
    (try replace hB := hB.keep hb1)
    clear hb1
    obtain ⟨pq, hpq⟩ : ∃ q, wz.heap.size = q := ⟨_, rfl⟩
    (try rw [hpq])
    rw [hpq] at hP hsP
    clear hpq
    generalize wz.alloc (.cells #[.pointer none] 103) = wz at *
    refine hK.out _ _ (hkS _ hbz) (fun hHeld => ?_)
    clear hK K
    (try simp only [Act.put, List.setIfInBounds_toArray, List.set_cons_zero, List.set_cons_succ])
    refine wpAnyH_ready (rs := [6, 11]) (by kernel_rfl) (by simp) ?_
    refine (AllReadyH.cons (o := ⟨some 14, .call { callee := .value (.func 29), args := #[.tmp 13], argTypes := #[35] }, 35, "desk.go:266", #[⟨5, .data⟩], none⟩) rfl (fun K hK => ?_) (AllReadyH.cons (o := ⟨some 19, .makeMap 194 none, 194, "desk.go:266", #[], none⟩) rfl (fun K hK => ?_) AllReadyH.nil))
    ·rw [if_pos (by rfl)]
     go_simp
     refine (K1 _ hbz).mono ?_
     rintro e' wz ⟨B1, B2, B3, B4, B5, B6, k1, k2, k3, k4, k5, k6, rfl, hR, hfm, hcap, hb1⟩
     replace hbz := fr_call hbz hb1
     (try replace hP := hP.keep hb1)
     refine hK.out _ _ (hkS _ hbz) (fun hHeld => ?_)
     clear hK K
     (try simp only [Act.put, List.setIfInBounds_toArray, List.set_cons_zero, List.set_cons_succ])
     refine rdH 11 ⟨some 19, .makeMap 194 none, 194, "desk.go:266", #[], none⟩ fun K hK => ?_
     go_simp
     have hb1 := fr_alloc (fr_refl wz) (.map #[] 0)
     obtain ⟨mq, hmq⟩ : ∃ q, wz.heap.size = q := ⟨_, rfl⟩
     (try rw [hmq])
     (try rw [hmq] at hb1)
     replace hbz := fr_call hbz (by rw [hmq]; exact hb1)
     (try replace hP := hP.keep (by rw [hmq]; exact hb1))
     (try replace hR := hR.keep (by rw [hmq]; exact hb1))
     clear hmq hb1
     generalize wz.alloc (.map #[] 0) = wz at *
     refine hK.out _ _ (hkS _ hbz) (fun hHeld => ?_)
     clear hK K
     (try simp only [Act.put, List.setIfInBounds_toArray, List.set_cons_zero, List.set_cons_succ])
     refine tkH 12 ⟨some 20, .build 196 #[(0, .tmp 14), (1, .tmp 18), (3, .tmp 19)], 196, "desk.go:266", #[⟨6, .data⟩, ⟨10, .data⟩, ⟨11, .data⟩], none⟩ hHeld ?_
     refine rdH 13 ⟨some 21, .box 196 (.tmp 20), 103, "desk.go:266", #[⟨12, .data⟩], none⟩ fun K hK => ?_
     go_simp
     have hLo := hR.lo
     have hb1 := fr_alloc (fr_refl wz) (.cells #[.slice B1 n1 k1, .slice B2 n2 k2, .slice B3 n2 k3, .int .i64 lim, .int .i64 wm, .slice B4 n4 k4, .int .i64 ep, .slice B5 n5 k5, .int .i64 mn, .int .i64 md, .int .i64 ma, .slice B6 n6 k6, .int .i64 yr, .int .i64 br, .int .i64 hr, .int .i64 wg, .int .i64 pc, .slice D m dc, .slice none 0 0, .map (some mq), .int .i64 0, .slice none 0 0] 196)
     have hB := Blk.new wz 196 #[.slice B1 n1 k1, .slice B2 n2 k2, .slice B3 n2 k3, .int .i64 lim, .int .i64 wm, .slice B4 n4 k4, .int .i64 ep, .slice B5 n5 k5, .int .i64 mn, .int .i64 md, .int .i64 ma, .slice B6 n6 k6, .int .i64 yr, .int .i64 br, .int .i64 hr, .int .i64 wg, .int .i64 pc, .slice D m dc, .slice none 0 0, .map (some mq), .int .i64 0, .slice none 0 0]
     have hsB := hbz.size
     replace hbz := fr_call hbz hb1
     (try replace hP := hP.keep hb1)
     replace hR := hR.keep hb1
     clear hb1
     obtain ⟨bq, hbq⟩ : ∃ q, wz.heap.size = q := ⟨_, rfl⟩
     (try rw [hbq])
     rw [hbq] at hB hsB hLo
     clear hbq
     generalize wz.alloc (.cells #[.slice B1 n1 k1, .slice B2 n2 k2, .slice B3 n2 k3, .int .i64 lim, .int .i64 wm, .slice B4 n4 k4, .int .i64 ep, .slice B5 n5 k5, .int .i64 mn, .int .i64 md, .int .i64 ma, .slice B6 n6 k6, .int .i64 yr, .int .i64 br, .int .i64 hr, .int .i64 wg, .int .i64 pc, .slice D m dc, .slice none 0 0, .map (some mq), .int .i64 0, .slice none 0 0] 196) = wz at *
     refine hK.out _ _ (hkS _ hbz) (fun hHeld => ?_)
     clear hK K
     (try simp only [Act.put, List.setIfInBounds_toArray, List.set_cons_zero, List.set_cons_succ])
     refine rdH 15 ⟨none, .store 103 (.tmp 5) (.tmp 21), 0, "desk.go:266", #[⟨14, .data⟩, ⟨13, .data⟩, ⟨6, .chain⟩, ⟨0, .phase⟩, ⟨1, .phase⟩, ⟨2, .phase⟩, ⟨3, .phase⟩, ⟨4, .phase⟩, ⟨5, .phase⟩, ⟨6, .phase⟩, ⟨7, .phase⟩, ⟨8, .phase⟩, ⟨9, .phase⟩, ⟨10, .phase⟩, ⟨11, .phase⟩, ⟨12, .phase⟩, ⟨13, .phase⟩, ⟨14, .phase⟩], none⟩ fun K hK => ?_
     have hcz := hP.cell 0
     have hfz := hP.frozen 0
     go_simp
     have hP2 := hP.set_ 0 (.pointer (some ⟨bq, 0, none⟩))
     have hgs := grown_set wz ⟨pq, 0, none⟩ (.pointer (some ⟨bq, 0, none⟩))
     have hx : Exc (fun i => i = pq) wz (wz.setCell ⟨pq, 0, none⟩ (.pointer (some ⟨bq, 0, none⟩))) := (Exc.refl (fun i => i = pq) wz).set (p := ⟨pq, 0, none⟩) (Or.inl rfl) _
     have hbF := hbz.grown hgs hbz.size (by intro k hk; cases hk; exact hsP)
     refine hK.out _ _ (hkS _ hbF) (fun hHeld => ?_)
     clear hK K
     refine wpAnyH_done (by kernel_rfl) ?_ _
     refine NoPanic.normal ?_
     have hne : bq ≠ pq := fun e => by
      rw [e] at hB
      unfold Blk at hB hP
      rw [hB] at hP
      cases hP
     have hfin : StAt (wz.setCell ⟨pq, 0, none⟩ (.pointer (some ⟨bq, 0, none⟩))) bq B1 B2 B3 B4 B5 B6 n1 k1 n2 k2 k3 n4 k4 n5 k5 n6 k6 wm br hr wg pc lim ep mn md ma yr D m dc (.map (some mq)) (.slice none 0 0) [] ls hs tg ho cy fe fs f := ⟨hx.blk hB hne, hR.other hP hx, hfm, hcap, HY.out.keep hbF, hLo, HDL.mono hsB, Own.nil _ _⟩
     go_wp2_with fail
     go_meet
     case rel => exact ⟨pq, bq, B1, B2, B3, B4, B5, B6, k1, k2, k3, k4, k5, k6, _, rfl, hP2, hfin, hsB, hbF⟩
    ·rw [if_pos (by rfl)]
     go_simp
     have hb1 := fr_alloc (fr_refl wz) (.map #[] 0)
     obtain ⟨mq, hmq⟩ : ∃ q, wz.heap.size = q := ⟨_, rfl⟩
     (try rw [hmq])
     (try rw [hmq] at hb1)
     replace hbz := fr_call hbz (by rw [hmq]; exact hb1)
     (try replace hP := hP.keep (by rw [hmq]; exact hb1))
     (try replace hR := hR.keep (by rw [hmq]; exact hb1))
     clear hmq hb1
     generalize wz.alloc (.map #[] 0) = wz at *
     refine hK.out _ _ (hkS _ hbz) (fun hHeld => ?_)
     clear hK K
     (try simp only [Act.put, List.setIfInBounds_toArray, List.set_cons_zero, List.set_cons_succ])
     refine rdH 6 ⟨some 14, .call { callee := .value (.func 29), args := #[.tmp 13], argTypes := #[35] }, 35, "desk.go:266", #[⟨5, .data⟩], none⟩ fun K hK => ?_
     go_simp
     refine (K1 _ hbz).mono ?_
     rintro e' wz ⟨B1, B2, B3, B4, B5, B6, k1, k2, k3, k4, k5, k6, rfl, hR, hfm, hcap, hb1⟩
     replace hbz := fr_call hbz hb1
     (try replace hP := hP.keep hb1)
     refine hK.out _ _ (hkS _ hbz) (fun hHeld => ?_)
     clear hK K
     (try simp only [Act.put, List.setIfInBounds_toArray, List.set_cons_zero, List.set_cons_succ])
     refine tkH 12 ⟨some 20, .build 196 #[(0, .tmp 14), (1, .tmp 18), (3, .tmp 19)], 196, "desk.go:266", #[⟨6, .data⟩, ⟨10, .data⟩, ⟨11, .data⟩], none⟩ hHeld ?_
     refine rdH 13 ⟨some 21, .box 196 (.tmp 20), 103, "desk.go:266", #[⟨12, .data⟩], none⟩ fun K hK => ?_
     go_simp
     have hLo := hR.lo
     have hb1 := fr_alloc (fr_refl wz) (.cells #[.slice B1 n1 k1, .slice B2 n2 k2, .slice B3 n2 k3, .int .i64 lim, .int .i64 wm, .slice B4 n4 k4, .int .i64 ep, .slice B5 n5 k5, .int .i64 mn, .int .i64 md, .int .i64 ma, .slice B6 n6 k6, .int .i64 yr, .int .i64 br, .int .i64 hr, .int .i64 wg, .int .i64 pc, .slice D m dc, .slice none 0 0, .map (some mq), .int .i64 0, .slice none 0 0] 196)
     have hB := Blk.new wz 196 #[.slice B1 n1 k1, .slice B2 n2 k2, .slice B3 n2 k3, .int .i64 lim, .int .i64 wm, .slice B4 n4 k4, .int .i64 ep, .slice B5 n5 k5, .int .i64 mn, .int .i64 md, .int .i64 ma, .slice B6 n6 k6, .int .i64 yr, .int .i64 br, .int .i64 hr, .int .i64 wg, .int .i64 pc, .slice D m dc, .slice none 0 0, .map (some mq), .int .i64 0, .slice none 0 0]
     have hsB := hbz.size
     replace hbz := fr_call hbz hb1
     (try replace hP := hP.keep hb1)
     replace hR := hR.keep hb1
     clear hb1
     obtain ⟨bq, hbq⟩ : ∃ q, wz.heap.size = q := ⟨_, rfl⟩
     (try rw [hbq])
     rw [hbq] at hB hsB hLo
     clear hbq
     generalize wz.alloc (.cells #[.slice B1 n1 k1, .slice B2 n2 k2, .slice B3 n2 k3, .int .i64 lim, .int .i64 wm, .slice B4 n4 k4, .int .i64 ep, .slice B5 n5 k5, .int .i64 mn, .int .i64 md, .int .i64 ma, .slice B6 n6 k6, .int .i64 yr, .int .i64 br, .int .i64 hr, .int .i64 wg, .int .i64 pc, .slice D m dc, .slice none 0 0, .map (some mq), .int .i64 0, .slice none 0 0] 196) = wz at *
     refine hK.out _ _ (hkS _ hbz) (fun hHeld => ?_)
     clear hK K
     (try simp only [Act.put, List.setIfInBounds_toArray, List.set_cons_zero, List.set_cons_succ])
     refine rdH 15 ⟨none, .store 103 (.tmp 5) (.tmp 21), 0, "desk.go:266", #[⟨14, .data⟩, ⟨13, .data⟩, ⟨6, .chain⟩, ⟨0, .phase⟩, ⟨1, .phase⟩, ⟨2, .phase⟩, ⟨3, .phase⟩, ⟨4, .phase⟩, ⟨5, .phase⟩, ⟨6, .phase⟩, ⟨7, .phase⟩, ⟨8, .phase⟩, ⟨9, .phase⟩, ⟨10, .phase⟩, ⟨11, .phase⟩, ⟨12, .phase⟩, ⟨13, .phase⟩, ⟨14, .phase⟩], none⟩ fun K hK => ?_
     have hcz := hP.cell 0
     have hfz := hP.frozen 0
     go_simp
     have hP2 := hP.set_ 0 (.pointer (some ⟨bq, 0, none⟩))
     have hgs := grown_set wz ⟨pq, 0, none⟩ (.pointer (some ⟨bq, 0, none⟩))
     have hx : Exc (fun i => i = pq) wz (wz.setCell ⟨pq, 0, none⟩ (.pointer (some ⟨bq, 0, none⟩))) := (Exc.refl (fun i => i = pq) wz).set (p := ⟨pq, 0, none⟩) (Or.inl rfl) _
     have hbF := hbz.grown hgs hbz.size (by intro k hk; cases hk; exact hsP)
     refine hK.out _ _ (hkS _ hbF) (fun hHeld => ?_)
     clear hK K
     refine wpAnyH_done (by kernel_rfl) ?_ _
     refine NoPanic.normal ?_
     have hne : bq ≠ pq := fun e => by
      rw [e] at hB
      unfold Blk at hB hP
      rw [hB] at hP
      cases hP
     have hfin : StAt (wz.setCell ⟨pq, 0, none⟩ (.pointer (some ⟨bq, 0, none⟩))) bq B1 B2 B3 B4 B5 B6 n1 k1 n2 k2 k3 n4 k4 n5 k5 n6 k6 wm br hr wg pc lim ep mn md ma yr D m dc (.map (some mq)) (.slice none 0 0) [] ls hs tg ho cy fe fs f := ⟨hx.blk hB hne, hR.other hP hx, hfm, hcap, HY.out.keep hbF, hLo, HDL.mono hsB, Own.nil _ _⟩
     go_wp2_with fail
     go_meet
     case rel => exact ⟨pq, bq, B1, B2, B3, B4, B5, B6, k1, k2, k3, k4, k5, k6, _, rfl, hP2, hfin, hsB, hbF⟩
  ·rw [if_pos (by rfl)]
   go_simp
   have hb1 := fr_alloc (fr_refl wz) (.map #[] 0)
   obtain ⟨mq, hmq⟩ : ∃ q, wz.heap.size = q := ⟨_, rfl⟩
   (try rw [hmq])
   (try rw [hmq] at hb1)
   replace hbz := fr_call hbz (by rw [hmq]; exact hb1)
   (try replace hP := hP.keep (by rw [hmq]; exact hb1))
   (try replace hR := hR.keep (by rw [hmq]; exact hb1))
   clear hmq hb1
   generalize wz.alloc (.map #[] 0) = wz at *
   refine hK.out _ _ (hkS _ hbz) (fun hHeld => ?_)
   clear hK K
   (try simp only [Act.put, List.setIfInBounds_toArray, List.set_cons_zero, List.set_cons_succ])
   refine wpAnyH_ready (rs := [5, 14]) (by kernel_rfl) (by simp) ?_
   refine (AllReadyH.cons (o := ⟨some 13, .load 35 (.tmp 12), 35, "desk.go:266", #[⟨4, .data⟩], none⟩) rfl (fun K hK => ?_) (AllReadyH.cons (o := ⟨some 5, .alloc 103, 0, "desk.go:266", #[], none⟩) rfl (fun K hK => ?_) AllReadyH.nil))
   ·rw [if_pos (by rfl)]
    refine wp_load_blk 35 (.tmp 12) rfl gs rfl _ _ (HS.out.keep hbz) Tryz.underlying35 rfl (by kernel_rfl) ?_
    refine hK.out _ _ (hkS _ hbz) (fun hHeld => ?_)
    clear hK K
    (try simp only [Act.put, List.setIfInBounds_toArray, List.set_cons_zero, List.set_cons_succ])
    refine wpAnyH_ready (rs := [6, 14]) (by kernel_rfl) (by simp) ?_
    refine (AllReadyH.cons (o := ⟨some 14, .call { callee := .value (.func 29), args := #[.tmp 13], argTypes := #[35] }, 35, "desk.go:266", #[⟨5, .data⟩], none⟩) rfl (fun K hK => ?_) (AllReadyH.cons (o := ⟨some 5, .alloc 103, 0, "desk.go:266", #[], none⟩) rfl (fun K hK => ?_) AllReadyH.nil))
    ·rw [if_pos (by rfl)]
     go_simp
     refine (K1 _ hbz).mono ?_
     rintro e' wz ⟨B1, B2, B3, B4, B5, B6, k1, k2, k3, k4, k5, k6, rfl, hR, hfm, hcap, hb1⟩
     replace hbz := fr_call hbz hb1
     (try replace hP := hP.keep hb1)
     refine hK.out _ _ (hkS _ hbz) (fun hHeld => ?_)
     clear hK K
     (try simp only [Act.put, List.setIfInBounds_toArray, List.set_cons_zero, List.set_cons_succ])
     refine tkH 12 ⟨some 20, .build 196 #[(0, .tmp 14), (1, .tmp 18), (3, .tmp 19)], 196, "desk.go:266", #[⟨6, .data⟩, ⟨10, .data⟩, ⟨11, .data⟩], none⟩ hHeld ?_
     refine wpAnyH_ready (rs := [13, 14]) (by kernel_rfl) (by simp) ?_
     refine (AllReadyH.cons (o := ⟨some 21, .box 196 (.tmp 20), 103, "desk.go:266", #[⟨12, .data⟩], none⟩) rfl (fun K hK => ?_) (AllReadyH.cons (o := ⟨some 5, .alloc 103, 0, "desk.go:266", #[], none⟩) rfl (fun K hK => ?_) AllReadyH.nil))
     ·rw [if_pos (by rfl)]
      go_simp
      have hLo := hR.lo
      have hb1 := fr_alloc (fr_refl wz) (.cells #[.slice B1 n1 k1, .slice B2 n2 k2, .slice B3 n2 k3, .int .i64 lim, .int .i64 wm, .slice B4 n4 k4, .int .i64 ep, .slice B5 n5 k5, .int .i64 mn, .int .i64 md, .int .i64 ma, .slice B6 n6 k6, .int .i64 yr, .int .i64 br, .int .i64 hr, .int .i64 wg, .int .i64 pc, .slice D m dc, .slice none 0 0, .map (some mq), .int .i64 0, .slice none 0 0] 196)
      have hB := Blk.new wz 196 #[.slice B1 n1 k1, .slice B2 n2 k2, .slice B3 n2 k3, .int .i64 lim, .int .i64 wm, .slice B4 n4 k4, .int .i64 ep, .slice B5 n5 k5, .int .i64 mn, .int .i64 md, .int .i64 ma, .slice B6 n6 k6, .int .i64 yr, .int .i64 br, .int .i64 hr, .int .i64 wg, .int .i64 pc, .slice D m dc, .slice none 0 0, .map (some mq), .int .i64 0, .slice none 0 0]
      have hsB := hbz.size
      replace hbz := fr_call hbz hb1
      (try replace hP := hP.keep hb1)
      replace hR := hR.keep hb1
      clear hb1
      obtain ⟨bq, hbq⟩ : ∃ q, wz.heap.size = q := ⟨_, rfl⟩
      (try rw [hbq])
      rw [hbq] at hB hsB hLo
      clear hbq
      generalize wz.alloc (.cells #[.slice B1 n1 k1, .slice B2 n2 k2, .slice B3 n2 k3, .int .i64 lim, .int .i64 wm, .slice B4 n4 k4, .int .i64 ep, .slice B5 n5 k5, .int .i64 mn, .int .i64 md, .int .i64 ma, .slice B6 n6 k6, .int .i64 yr, .int .i64 br, .int .i64 hr, .int .i64 wg, .int .i64 pc, .slice D m dc, .slice none 0 0, .map (some mq), .int .i64 0, .slice none 0 0] 196) = wz at *
      refine hK.out _ _ (hkS _ hbz) (fun hHeld => ?_)
      clear hK K
      (try simp only [Act.put, List.setIfInBounds_toArray, List.set_cons_zero, List.set_cons_succ])
      refine rdH 14 ⟨some 5, .alloc 103, 0, "desk.go:266", #[], none⟩ fun K hK => ?_
      go_simp
      have hb1 := fr_alloc (fr_refl wz) (.cells #[.pointer none] 103)
      have hP := Blk.new wz 103 #[.pointer none]
      have hsP := hbz.size
      replace hbz := fr_call hbz hb1
      (try replace hR := hR.keep hb1)
      (try replace hB := hB.keep hb1)
      clear hb1
      obtain ⟨pq, hpq⟩ : ∃ q, wz.heap.size = q := ⟨_, rfl⟩
      (try rw [hpq])
      rw [hpq] at hP hsP
      clear hpq
      generalize wz.alloc (.cells #[.pointer none] 103) = wz at *
      refine hK.out _ _ (hkS _ hbz) (fun hHeld => ?_)
      clear hK K
      (try simp only [Act.put, List.setIfInBounds_toArray, List.set_cons_zero, List.set_cons_succ])
      refine rdH 15 ⟨none, .store 103 (.tmp 5) (.tmp 21), 0, "desk.go:266", #[⟨14, .data⟩, ⟨13, .data⟩, ⟨6, .chain⟩, ⟨0, .phase⟩, ⟨1, .phase⟩, ⟨2, .phase⟩, ⟨3, .phase⟩, ⟨4, .phase⟩, ⟨5, .phase⟩, ⟨6, .phase⟩, ⟨7, .phase⟩, ⟨8, .phase⟩, ⟨9, .phase⟩, ⟨10, .phase⟩, ⟨11, .phase⟩, ⟨12, .phase⟩, ⟨13, .phase⟩, ⟨14, .phase⟩], none⟩ fun K hK => ?_
      have hcz := hP.cell 0
      have hfz := hP.frozen 0
      go_simp
      have hP2 := hP.set_ 0 (.pointer (some ⟨bq, 0, none⟩))
      have hgs := grown_set wz ⟨pq, 0, none⟩ (.pointer (some ⟨bq, 0, none⟩))
      have hx : Exc (fun i => i = pq) wz (wz.setCell ⟨pq, 0, none⟩ (.pointer (some ⟨bq, 0, none⟩))) := (Exc.refl (fun i => i = pq) wz).set (p := ⟨pq, 0, none⟩) (Or.inl rfl) _
      have hbF := hbz.grown hgs hbz.size (by intro k hk; cases hk; exact hsP)
      refine hK.out _ _ (hkS _ hbF) (fun hHeld => ?_)
      clear hK K
      refine wpAnyH_done (by kernel_rfl) ?_ _
      refine NoPanic.normal ?_
      have hne : bq ≠ pq := fun e => by
       rw [e] at hB
       unfold Blk at hB hP
       rw [hB] at hP
       cases hP
      have hfin : StAt (wz.setCell ⟨pq, 0, none⟩ (.pointer (some ⟨bq, 0, none⟩))) bq B1 B2 B3 B4 B5 B6 n1 k1 n2 k2 k3 n4 k4 n5 k5 n6 k6 wm br hr wg pc lim ep mn md ma yr D m dc (.map (some mq)) (.slice none 0 0) [] ls hs tg ho cy fe fs f := ⟨hx.blk hB hne, hR.other hP hx, hfm, hcap, HY.out.keep hbF, hLo, HDL.mono hsB, Own.nil _ _⟩
      go_wp2_with fail
      go_meet
      case rel => exact ⟨pq, bq, B1, B2, B3, B4, B5, B6, k1, k2, k3, k4, k5, k6, _, rfl, hP2, hfin, hsB, hbF⟩
     ·rw [if_pos (by rfl)]
      go_simp
      have hb1 := fr_alloc (fr_refl wz) (.cells #[.pointer none] 103)
      have hP := Blk.new wz 103 #[.pointer none]
      have hsP := hbz.size
      replace hbz := fr_call hbz hb1
      (try replace hR := hR.keep hb1)
      (try replace hB := hB.keep hb1)
      clear hb1
      obtain ⟨pq, hpq⟩ : ∃ q, wz.heap.size = q := ⟨_, rfl⟩
      (try rw [hpq])
      rw [hpq] at hP hsP
      clear hpq
      generalize wz.alloc (.cells #[.pointer none] 103) = wz at *
      refine hK.out _ _ (hkS _ hbz) (fun hHeld => ?_)
      clear hK K
      (try simp only [Act.put, List.setIfInBounds_toArray, List.set_cons_zero, List.set_cons_succ])
      refine rdH 13 ⟨some 21, .box 196 (.tmp 20), 103, "desk.go:266", #[⟨12, .data⟩], none⟩ fun K hK => ?_
      go_simp
      have hLo := hR.lo
      have hb1 := fr_alloc (fr_refl wz) (.cells #[.slice B1 n1 k1, .slice B2 n2 k2, .slice B3 n2 k3, .int .i64 lim, .int .i64 wm, .slice B4 n4 k4, .int .i64 ep, .slice B5 n5 k5, .int .i64 mn, .int .i64 md, .int .i64 ma, .slice B6 n6 k6, .int .i64 yr, .int .i64 br, .int .i64 hr, .int .i64 wg, .int .i64 pc, .slice D m dc, .slice none 0 0, .map (some mq), .int .i64 0, .slice none 0 0] 196)
      have hB := Blk.new wz 196 #[.slice B1 n1 k1, .slice B2 n2 k2, .slice B3 n2 k3, .int .i64 lim, .int .i64 wm, .slice B4 n4 k4, .int .i64 ep, .slice B5 n5 k5, .int .i64 mn, .int .i64 md, .int .i64 ma, .slice B6 n6 k6, .int .i64 yr, .int .i64 br, .int .i64 hr, .int .i64 wg, .int .i64 pc, .slice D m dc, .slice none 0 0, .map (some mq), .int .i64 0, .slice none 0 0]
      have hsB := hbz.size
      replace hbz := fr_call hbz hb1
      (try replace hP := hP.keep hb1)
      replace hR := hR.keep hb1
      clear hb1
      obtain ⟨bq, hbq⟩ : ∃ q, wz.heap.size = q := ⟨_, rfl⟩
      (try rw [hbq])
      rw [hbq] at hB hsB hLo
      clear hbq
      generalize wz.alloc (.cells #[.slice B1 n1 k1, .slice B2 n2 k2, .slice B3 n2 k3, .int .i64 lim, .int .i64 wm, .slice B4 n4 k4, .int .i64 ep, .slice B5 n5 k5, .int .i64 mn, .int .i64 md, .int .i64 ma, .slice B6 n6 k6, .int .i64 yr, .int .i64 br, .int .i64 hr, .int .i64 wg, .int .i64 pc, .slice D m dc, .slice none 0 0, .map (some mq), .int .i64 0, .slice none 0 0] 196) = wz at *
      refine hK.out _ _ (hkS _ hbz) (fun hHeld => ?_)
      clear hK K
      (try simp only [Act.put, List.setIfInBounds_toArray, List.set_cons_zero, List.set_cons_succ])
      refine rdH 15 ⟨none, .store 103 (.tmp 5) (.tmp 21), 0, "desk.go:266", #[⟨14, .data⟩, ⟨13, .data⟩, ⟨6, .chain⟩, ⟨0, .phase⟩, ⟨1, .phase⟩, ⟨2, .phase⟩, ⟨3, .phase⟩, ⟨4, .phase⟩, ⟨5, .phase⟩, ⟨6, .phase⟩, ⟨7, .phase⟩, ⟨8, .phase⟩, ⟨9, .phase⟩, ⟨10, .phase⟩, ⟨11, .phase⟩, ⟨12, .phase⟩, ⟨13, .phase⟩, ⟨14, .phase⟩], none⟩ fun K hK => ?_
      have hcz := hP.cell 0
      have hfz := hP.frozen 0
      go_simp
      have hP2 := hP.set_ 0 (.pointer (some ⟨bq, 0, none⟩))
      have hgs := grown_set wz ⟨pq, 0, none⟩ (.pointer (some ⟨bq, 0, none⟩))
      have hx : Exc (fun i => i = pq) wz (wz.setCell ⟨pq, 0, none⟩ (.pointer (some ⟨bq, 0, none⟩))) := (Exc.refl (fun i => i = pq) wz).set (p := ⟨pq, 0, none⟩) (Or.inl rfl) _
      have hbF := hbz.grown hgs hbz.size (by intro k hk; cases hk; exact hsP)
      refine hK.out _ _ (hkS _ hbF) (fun hHeld => ?_)
      clear hK K
      refine wpAnyH_done (by kernel_rfl) ?_ _
      refine NoPanic.normal ?_
      have hne : bq ≠ pq := fun e => by
       rw [e] at hB
       unfold Blk at hB hP
       rw [hB] at hP
       cases hP
      have hfin : StAt (wz.setCell ⟨pq, 0, none⟩ (.pointer (some ⟨bq, 0, none⟩))) bq B1 B2 B3 B4 B5 B6 n1 k1 n2 k2 k3 n4 k4 n5 k5 n6 k6 wm br hr wg pc lim ep mn md ma yr D m dc (.map (some mq)) (.slice none 0 0) [] ls hs tg ho cy fe fs f := ⟨hx.blk hB hne, hR.other hP hx, hfm, hcap, HY.out.keep hbF, hLo, HDL.mono hsB, Own.nil _ _⟩
      go_wp2_with fail
      go_meet
      case rel => exact ⟨pq, bq, B1, B2, B3, B4, B5, B6, k1, k2, k3, k4, k5, k6, _, rfl, hP2, hfin, hsB, hbF⟩
    ·rw [if_pos (by rfl)]
     go_simp
     have hb1 := fr_alloc (fr_refl wz) (.cells #[.pointer none] 103)
     have hP := Blk.new wz 103 #[.pointer none]
     have hsP := hbz.size
     replace hbz := fr_call hbz hb1
     (try replace hR := hR.keep hb1)
     (try replace hB := hB.keep hb1)
     clear hb1
     obtain ⟨pq, hpq⟩ : ∃ q, wz.heap.size = q := ⟨_, rfl⟩
     (try rw [hpq])
     rw [hpq] at hP hsP
     clear hpq
     generalize wz.alloc (.cells #[.pointer none] 103) = wz at *
     refine hK.out _ _ (hkS _ hbz) (fun hHeld => ?_)
     clear hK K
     (try simp only [Act.put, List.setIfInBounds_toArray, List.set_cons_zero, List.set_cons_succ])
     refine rdH 6 ⟨some 14, .call { callee := .value (.func 29), args := #[.tmp 13], argTypes := #[35] }, 35, "desk.go:266", #[⟨5, .data⟩], none⟩ fun K hK => ?_
     go_simp
     refine (K1 _ hbz).mono ?_
     rintro e' wz ⟨B1, B2, B3, B4, B5, B6, k1, k2, k3, k4, k5, k6, rfl, hR, hfm, hcap, hb1⟩
     replace hbz := fr_call hbz hb1
     (try replace hP := hP.keep hb1)
     refine hK.out _ _ (hkS _ hbz) (fun hHeld => ?_)
     clear hK K
     (try simp only [Act.put, List.setIfInBounds_toArray, List.set_cons_zero, List.set_cons_succ])
     refine tkH 12 ⟨some 20, .build 196 #[(0, .tmp 14), (1, .tmp 18), (3, .tmp 19)], 196, "desk.go:266", #[⟨6, .data⟩, ⟨10, .data⟩, ⟨11, .data⟩], none⟩ hHeld ?_
     refine rdH 13 ⟨some 21, .box 196 (.tmp 20), 103, "desk.go:266", #[⟨12, .data⟩], none⟩ fun K hK => ?_
     go_simp
     have hLo := hR.lo
     have hb1 := fr_alloc (fr_refl wz) (.cells #[.slice B1 n1 k1, .slice B2 n2 k2, .slice B3 n2 k3, .int .i64 lim, .int .i64 wm, .slice B4 n4 k4, .int .i64 ep, .slice B5 n5 k5, .int .i64 mn, .int .i64 md, .int .i64 ma, .slice B6 n6 k6, .int .i64 yr, .int .i64 br, .int .i64 hr, .int .i64 wg, .int .i64 pc, .slice D m dc, .slice none 0 0, .map (some mq), .int .i64 0, .slice none 0 0] 196)
     have hB := Blk.new wz 196 #[.slice B1 n1 k1, .slice B2 n2 k2, .slice B3 n2 k3, .int .i64 lim, .int .i64 wm, .slice B4 n4 k4, .int .i64 ep, .slice B5 n5 k5, .int .i64 mn, .int .i64 md, .int .i64 ma, .slice B6 n6 k6, .int .i64 yr, .int .i64 br, .int .i64 hr, .int .i64 wg, .int .i64 pc, .slice D m dc, .slice none 0 0, .map (some mq), .int .i64 0, .slice none 0 0]
     have hsB := hbz.size
     replace hbz := fr_call hbz hb1
     (try replace hP := hP.keep hb1)
     replace hR := hR.keep hb1
     clear hb1
     obtain ⟨bq, hbq⟩ : ∃ q, wz.heap.size = q := ⟨_, rfl⟩
     (try rw [hbq])
     rw [hbq] at hB hsB hLo
     clear hbq
     generalize wz.alloc (.cells #[.slice B1 n1 k1, .slice B2 n2 k2, .slice B3 n2 k3, .int .i64 lim, .int .i64 wm, .slice B4 n4 k4, .int .i64 ep, .slice B5 n5 k5, .int .i64 mn, .int .i64 md, .int .i64 ma, .slice B6 n6 k6, .int .i64 yr, .int .i64 br, .int .i64 hr, .int .i64 wg, .int .i64 pc, .slice D m dc, .slice none 0 0, .map (some mq), .int .i64 0, .slice none 0 0] 196) = wz at *
     refine hK.out _ _ (hkS _ hbz) (fun hHeld => ?_)
     clear hK K
     (try simp only [Act.put, List.setIfInBounds_toArray, List.set_cons_zero, List.set_cons_succ])
     refine rdH 15 ⟨none, .store 103 (.tmp 5) (.tmp 21), 0, "desk.go:266", #[⟨14, .data⟩, ⟨13, .data⟩, ⟨6, .chain⟩, ⟨0, .phase⟩, ⟨1, .phase⟩, ⟨2, .phase⟩, ⟨3, .phase⟩, ⟨4, .phase⟩, ⟨5, .phase⟩, ⟨6, .phase⟩, ⟨7, .phase⟩, ⟨8, .phase⟩, ⟨9, .phase⟩, ⟨10, .phase⟩, ⟨11, .phase⟩, ⟨12, .phase⟩, ⟨13, .phase⟩, ⟨14, .phase⟩], none⟩ fun K hK => ?_
     have hcz := hP.cell 0
     have hfz := hP.frozen 0
     go_simp
     have hP2 := hP.set_ 0 (.pointer (some ⟨bq, 0, none⟩))
     have hgs := grown_set wz ⟨pq, 0, none⟩ (.pointer (some ⟨bq, 0, none⟩))
     have hx : Exc (fun i => i = pq) wz (wz.setCell ⟨pq, 0, none⟩ (.pointer (some ⟨bq, 0, none⟩))) := (Exc.refl (fun i => i = pq) wz).set (p := ⟨pq, 0, none⟩) (Or.inl rfl) _
     have hbF := hbz.grown hgs hbz.size (by intro k hk; cases hk; exact hsP)
     refine hK.out _ _ (hkS _ hbF) (fun hHeld => ?_)
     clear hK K
     refine wpAnyH_done (by kernel_rfl) ?_ _
     refine NoPanic.normal ?_
     have hne : bq ≠ pq := fun e => by
      rw [e] at hB
      unfold Blk at hB hP
      rw [hB] at hP
      cases hP
     have hfin : StAt (wz.setCell ⟨pq, 0, none⟩ (.pointer (some ⟨bq, 0, none⟩))) bq B1 B2 B3 B4 B5 B6 n1 k1 n2 k2 k3 n4 k4 n5 k5 n6 k6 wm br hr wg pc lim ep mn md ma yr D m dc (.map (some mq)) (.slice none 0 0) [] ls hs tg ho cy fe fs f := ⟨hx.blk hB hne, hR.other hP hx, hfm, hcap, HY.out.keep hbF, hLo, HDL.mono hsB, Own.nil _ _⟩
     go_wp2_with fail
     go_meet
     case rel => exact ⟨pq, bq, B1, B2, B3, B4, B5, B6, k1, k2, k3, k4, k5, k6, _, rfl, hP2, hfin, hsB, hbF⟩
   ·rw [if_pos (by rfl)]
    go_simp
    have hb1 := fr_alloc (fr_refl wz) (.cells #[.pointer none] 103)
    have hP := Blk.new wz 103 #[.pointer none]
    have hsP := hbz.size
    replace hbz := fr_call hbz hb1
    (try replace hR := hR.keep hb1)
    (try replace hB := hB.keep hb1)
    clear hb1
    obtain ⟨pq, hpq⟩ : ∃ q, wz.heap.size = q := ⟨_, rfl⟩
    (try rw [hpq])
    rw [hpq] at hP hsP
    clear hpq
    generalize wz.alloc (.cells #[.pointer none] 103) = wz at *
    refine hK.out _ _ (hkS _ hbz) (fun hHeld => ?_)
    clear hK K
    (try simp only [Act.put, List.setIfInBounds_toArray, List.set_cons_zero, List.set_cons_succ])
    refine rdH 5 ⟨some 13, .load 35 (.tmp 12), 35, "desk.go:266", #[⟨4, .data⟩], none⟩ fun K hK => ?_
    refine wp_load_blk 35 (.tmp 12) rfl gs rfl _ _ (HS.out.keep hbz) Tryz.underlying35 rfl (by kernel_rfl) ?_
    refine hK.out _ _ (hkS _ hbz) (fun hHeld => ?_)
    clear hK K
    (try simp only [Act.put, List.setIfInBounds_toArray, List.set_cons_zero, List.set_cons_succ])
    refine rdH 6 ⟨some 14, .call { callee := .value (.func 29), args := #[.tmp 13], argTypes := #[35] }, 35, "desk.go:266", #[⟨5, .data⟩], none⟩ fun K hK => ?_
    go_simp
    refine (K1 _ hbz).mono ?_
    rintro e' wz ⟨B1, B2, B3, B4, B5, B6, k1, k2, k3, k4, k5, k6, rfl, hR, hfm, hcap, hb1⟩
    replace hbz := fr_call hbz hb1
    (try replace hP := hP.keep hb1)
    refine hK.out _ _ (hkS _ hbz) (fun hHeld => ?_)
    clear hK K
    (try simp only [Act.put, List.setIfInBounds_toArray, List.set_cons_zero, List.set_cons_succ])
    refine tkH 12 ⟨some 20, .build 196 #[(0, .tmp 14), (1, .tmp 18), (3, .tmp 19)], 196, "desk.go:266", #[⟨6, .data⟩, ⟨10, .data⟩, ⟨11, .data⟩], none⟩ hHeld ?_
    refine rdH 13 ⟨some 21, .box 196 (.tmp 20), 103, "desk.go:266", #[⟨12, .data⟩], none⟩ fun K hK => ?_
    go_simp
    have hLo := hR.lo
    have hb1 := fr_alloc (fr_refl wz) (.cells #[.slice B1 n1 k1, .slice B2 n2 k2, .slice B3 n2 k3, .int .i64 lim, .int .i64 wm, .slice B4 n4 k4, .int .i64 ep, .slice B5 n5 k5, .int .i64 mn, .int .i64 md, .int .i64 ma, .slice B6 n6 k6, .int .i64 yr, .int .i64 br, .int .i64 hr, .int .i64 wg, .int .i64 pc, .slice D m dc, .slice none 0 0, .map (some mq), .int .i64 0, .slice none 0 0] 196)
    have hB := Blk.new wz 196 #[.slice B1 n1 k1, .slice B2 n2 k2, .slice B3 n2 k3, .int .i64 lim, .int .i64 wm, .slice B4 n4 k4, .int .i64 ep, .slice B5 n5 k5, .int .i64 mn, .int .i64 md, .int .i64 ma, .slice B6 n6 k6, .int .i64 yr, .int .i64 br, .int .i64 hr, .int .i64 wg, .int .i64 pc, .slice D m dc, .slice none 0 0, .map (some mq), .int .i64 0, .slice none 0 0]
    have hsB := hbz.size
    replace hbz := fr_call hbz hb1
    (try replace hP := hP.keep hb1)
    replace hR := hR.keep hb1
    clear hb1
    obtain ⟨bq, hbq⟩ : ∃ q, wz.heap.size = q := ⟨_, rfl⟩
    (try rw [hbq])
    rw [hbq] at hB hsB hLo
    clear hbq
    generalize wz.alloc (.cells #[.slice B1 n1 k1, .slice B2 n2 k2, .slice B3 n2 k3, .int .i64 lim, .int .i64 wm, .slice B4 n4 k4, .int .i64 ep, .slice B5 n5 k5, .int .i64 mn, .int .i64 md, .int .i64 ma, .slice B6 n6 k6, .int .i64 yr, .int .i64 br, .int .i64 hr, .int .i64 wg, .int .i64 pc, .slice D m dc, .slice none 0 0, .map (some mq), .int .i64 0, .slice none 0 0] 196) = wz at *
    refine hK.out _ _ (hkS _ hbz) (fun hHeld => ?_)
    clear hK K
    (try simp only [Act.put, List.setIfInBounds_toArray, List.set_cons_zero, List.set_cons_succ])
    refine rdH 15 ⟨none, .store 103 (.tmp 5) (.tmp 21), 0, "desk.go:266", #[⟨14, .data⟩, ⟨13, .data⟩, ⟨6, .chain⟩, ⟨0, .phase⟩, ⟨1, .phase⟩, ⟨2, .phase⟩, ⟨3, .phase⟩, ⟨4, .phase⟩, ⟨5, .phase⟩, ⟨6, .phase⟩, ⟨7, .phase⟩, ⟨8, .phase⟩, ⟨9, .phase⟩, ⟨10, .phase⟩, ⟨11, .phase⟩, ⟨12, .phase⟩, ⟨13, .phase⟩, ⟨14, .phase⟩], none⟩ fun K hK => ?_
    have hcz := hP.cell 0
    have hfz := hP.frozen 0
    go_simp
    have hP2 := hP.set_ 0 (.pointer (some ⟨bq, 0, none⟩))
    have hgs := grown_set wz ⟨pq, 0, none⟩ (.pointer (some ⟨bq, 0, none⟩))
    have hx : Exc (fun i => i = pq) wz (wz.setCell ⟨pq, 0, none⟩ (.pointer (some ⟨bq, 0, none⟩))) := (Exc.refl (fun i => i = pq) wz).set (p := ⟨pq, 0, none⟩) (Or.inl rfl) _
    have hbF := hbz.grown hgs hbz.size (by intro k hk; cases hk; exact hsP)
    refine hK.out _ _ (hkS _ hbF) (fun hHeld => ?_)
    clear hK K
    refine wpAnyH_done (by kernel_rfl) ?_ _
    refine NoPanic.normal ?_
    have hne : bq ≠ pq := fun e => by
     rw [e] at hB
     unfold Blk at hB hP
     rw [hB] at hP
     cases hP
    have hfin : StAt (wz.setCell ⟨pq, 0, none⟩ (.pointer (some ⟨bq, 0, none⟩))) bq B1 B2 B3 B4 B5 B6 n1 k1 n2 k2 k3 n4 k4 n5 k5 n6 k6 wm br hr wg pc lim ep mn md ma yr D m dc (.map (some mq)) (.slice none 0 0) [] ls hs tg ho cy fe fs f := ⟨hx.blk hB hne, hR.other hP hx, hfm, hcap, HY.out.keep hbF, hLo, HDL.mono hsB, Own.nil _ _⟩
    go_wp2_with fail
    go_meet
    case rel => exact ⟨pq, bq, B1, B2, B3, B4, B5, B6, k1, k2, k3, k4, k5, k6, _, rfl, hP2, hfin, hsB, hbF⟩
  ·rw [if_pos (by rfl)]
   go_simp
   have hb1 := fr_alloc (fr_refl wz) (.cells #[.pointer none] 103)
   have hP := Blk.new wz 103 #[.pointer none]
   have hsP := hbz.size
   replace hbz := fr_call hbz hb1
   (try replace hR := hR.keep hb1)
   (try replace hB := hB.keep hb1)
   clear hb1
   obtain ⟨pq, hpq⟩ : ∃ q, wz.heap.size = q := ⟨_, rfl⟩
   (try rw [hpq])
   rw [hpq] at hP hsP
   clear hpq
   generalize wz.alloc (.cells #[.pointer none] 103) = wz at *
   refine hK.out _ _ (hkS _ hbz) (fun hHeld => ?_)
   clear hK K
   (try simp only [Act.put, List.setIfInBounds_toArray, List.set_cons_zero, List.set_cons_succ])
   refine wpAnyH_ready (rs := [5, 11]) (by kernel_rfl) (by simp) ?_
   refine (AllReadyH.cons (o := ⟨some 13, .load 35 (.tmp 12), 35, "desk.go:266", #[⟨4, .data⟩], none⟩) rfl (fun K hK => ?_) (AllReadyH.cons (o := ⟨some 19, .makeMap 194 none, 194, "desk.go:266", #[], none⟩) rfl (fun K hK => ?_) AllReadyH.nil))
   ·rw [if_pos (by rfl)]
    refine wp_load_blk 35 (.tmp 12) rfl gs rfl _ _ (HS.out.keep hbz) Tryz.underlying35 rfl (by kernel_rfl) ?_
    refine hK.out _ _ (hkS _ hbz) (fun hHeld => ?_)
    clear hK K
    (try simp only [Act.put, List.setIfInBounds_toArray, List.set_cons_zero, List.set_cons_succ])
    refine wpAnyH_ready (rs := [6, 11]) (by kernel_rfl) (by simp) ?_
    refine (AllReadyH.cons (o := ⟨some 14, .call { callee := .value (.func 29), args := #[.tmp 13], argTypes := #[35] }, 35, "desk.go:266", #[⟨5, .data⟩], none⟩) rfl (fun K hK => ?_) (AllReadyH.cons (o := ⟨some 19, .makeMap 194 none, 194, "desk.go:266", #[], none⟩) rfl (fun K hK => ?_) AllReadyH.nil))
    ·rw [if_pos (by rfl)]
     go_simp
     refine (K1 _ hbz).mono ?_
     rintro e' wz ⟨B1, B2, B3, B4, B5, B6, k1, k2, k3, k4, k5, k6, rfl, hR, hfm, hcap, hb1⟩
     replace hbz := fr_call hbz hb1
     (try replace hP := hP.keep hb1)
     refine hK.out _ _ (hkS _ hbz) (fun hHeld => ?_)
     clear hK K
     (try simp only [Act.put, List.setIfInBounds_toArray, List.set_cons_zero, List.set_cons_succ])
     refine rdH 11 ⟨some 19, .makeMap 194 none, 194, "desk.go:266", #[], none⟩ fun K hK => ?_
     go_simp
     have hb1 := fr_alloc (fr_refl wz) (.map #[] 0)
     obtain ⟨mq, hmq⟩ : ∃ q, wz.heap.size = q := ⟨_, rfl⟩
     (try rw [hmq])
     (try rw [hmq] at hb1)
     replace hbz := fr_call hbz (by rw [hmq]; exact hb1)
     (try replace hP := hP.keep (by rw [hmq]; exact hb1))
     (try replace hR := hR.keep (by rw [hmq]; exact hb1))
     clear hmq hb1
     generalize wz.alloc (.map #[] 0) = wz at *
     refine hK.out _ _ (hkS _ hbz) (fun hHeld => ?_)
     clear hK K
     (try simp only [Act.put, List.setIfInBounds_toArray, List.set_cons_zero, List.set_cons_succ])
     refine tkH 12 ⟨some 20, .build 196 #[(0, .tmp 14), (1, .tmp 18), (3, .tmp 19)], 196, "desk.go:266", #[⟨6, .data⟩, ⟨10, .data⟩, ⟨11, .data⟩], none⟩ hHeld ?_
     refine rdH 13 ⟨some 21, .box 196 (.tmp 20), 103, "desk.go:266", #[⟨12, .data⟩], none⟩ fun K hK => ?_
     go_simp
     have hLo := hR.lo
     have hb1 := fr_alloc (fr_refl wz) (.cells #[.slice B1 n1 k1, .slice B2 n2 k2, .slice B3 n2 k3, .int .i64 lim, .int .i64 wm, .slice B4 n4 k4, .int .i64 ep, .slice B5 n5 k5, .int .i64 mn, .int .i64 md, .int .i64 ma, .slice B6 n6 k6, .int .i64 yr, .int .i64 br, .int .i64 hr, .int .i64 wg, .int .i64 pc, .slice D m dc, .slice none 0 0, .map (some mq), .int .i64 0, .slice none 0 0] 196)
     have hB := Blk.new wz 196 #[.slice B1 n1 k1, .slice B2 n2 k2, .slice B3 n2 k3, .int .i64 lim, .int .i64 wm, .slice B4 n4 k4, .int .i64 ep, .slice B5 n5 k5, .int .i64 mn, .int .i64 md, .int .i64 ma, .slice B6 n6 k6, .int .i64 yr, .int .i64 br, .int .i64 hr, .int .i64 wg, .int .i64 pc, .slice D m dc, .slice none 0 0, .map (some mq), .int .i64 0, .slice none 0 0]
     have hsB := hbz.size
     replace hbz := fr_call hbz hb1
     (try replace hP := hP.keep hb1)
     replace hR := hR.keep hb1
     clear hb1
     obtain ⟨bq, hbq⟩ : ∃ q, wz.heap.size = q := ⟨_, rfl⟩
     (try rw [hbq])
     rw [hbq] at hB hsB hLo
     clear hbq
     generalize wz.alloc (.cells #[.slice B1 n1 k1, .slice B2 n2 k2, .slice B3 n2 k3, .int .i64 lim, .int .i64 wm, .slice B4 n4 k4, .int .i64 ep, .slice B5 n5 k5, .int .i64 mn, .int .i64 md, .int .i64 ma, .slice B6 n6 k6, .int .i64 yr, .int .i64 br, .int .i64 hr, .int .i64 wg, .int .i64 pc, .slice D m dc, .slice none 0 0, .map (some mq), .int .i64 0, .slice none 0 0] 196) = wz at *
     refine hK.out _ _ (hkS _ hbz) (fun hHeld => ?_)
     clear hK K
     (try simp only [Act.put, List.setIfInBounds_toArray, List.set_cons_zero, List.set_cons_succ])
     refine rdH 15 ⟨none, .store 103 (.tmp 5) (.tmp 21), 0, "desk.go:266", #[⟨14, .data⟩, ⟨13, .data⟩, ⟨6, .chain⟩, ⟨0, .phase⟩, ⟨1, .phase⟩, ⟨2, .phase⟩, ⟨3, .phase⟩, ⟨4, .phase⟩, ⟨5, .phase⟩, ⟨6, .phase⟩, ⟨7, .phase⟩, ⟨8, .phase⟩, ⟨9, .phase⟩, ⟨10, .phase⟩, ⟨11, .phase⟩, ⟨12, .phase⟩, ⟨13, .phase⟩, ⟨14, .phase⟩], none⟩ fun K hK => ?_
     have hcz := hP.cell 0
     have hfz := hP.frozen 0
     go_simp
     have hP2 := hP.set_ 0 (.pointer (some ⟨bq, 0, none⟩))
     have hgs := grown_set wz ⟨pq, 0, none⟩ (.pointer (some ⟨bq, 0, none⟩))
     have hx : Exc (fun i => i = pq) wz (wz.setCell ⟨pq, 0, none⟩ (.pointer (some ⟨bq, 0, none⟩))) := (Exc.refl (fun i => i = pq) wz).set (p := ⟨pq, 0, none⟩) (Or.inl rfl) _
     have hbF := hbz.grown hgs hbz.size (by intro k hk; cases hk; exact hsP)
     refine hK.out _ _ (hkS _ hbF) (fun hHeld => ?_)
     clear hK K
     refine wpAnyH_done (by kernel_rfl) ?_ _
     refine NoPanic.normal ?_
     have hne : bq ≠ pq := fun e => by
      rw [e] at hB
      unfold Blk at hB hP
      rw [hB] at hP
      cases hP
     have hfin : StAt (wz.setCell ⟨pq, 0, none⟩ (.pointer (some ⟨bq, 0, none⟩))) bq B1 B2 B3 B4 B5 B6 n1 k1 n2 k2 k3 n4 k4 n5 k5 n6 k6 wm br hr wg pc lim ep mn md ma yr D m dc (.map (some mq)) (.slice none 0 0) [] ls hs tg ho cy fe fs f := ⟨hx.blk hB hne, hR.other hP hx, hfm, hcap, HY.out.keep hbF, hLo, HDL.mono hsB, Own.nil _ _⟩
     go_wp2_with fail
     go_meet
     case rel => exact ⟨pq, bq, B1, B2, B3, B4, B5, B6, k1, k2, k3, k4, k5, k6, _, rfl, hP2, hfin, hsB, hbF⟩
    ·rw [if_pos (by rfl)]
     go_simp
     have hb1 := fr_alloc (fr_refl wz) (.map #[] 0)
     obtain ⟨mq, hmq⟩ : ∃ q, wz.heap.size = q := ⟨_, rfl⟩
     (try rw [hmq])
     (try rw [hmq] at hb1)
     replace hbz := fr_call hbz (by rw [hmq]; exact hb1)
     (try replace hP := hP.keep (by rw [hmq]; exact hb1))
     (try replace hR := hR.keep (by rw [hmq]; exact hb1))
     clear hmq hb1
     generalize wz.alloc (.map #[] 0) = wz at *
     refine hK.out _ _ (hkS _ hbz) (fun hHeld => ?_)
     clear hK K
     (try simp only [Act.put, List.setIfInBounds_toArray, List.set_cons_zero, List.set_cons_succ])
     refine rdH 6 ⟨some 14, .call { callee := .value (.func 29), args := #[.tmp 13], argTypes := #[35] }, 35, "desk.go:266", #[⟨5, .data⟩], none⟩ fun K hK => ?_
     go_simp
     refine (K1 _ hbz).mono ?_
     rintro e' wz ⟨B1, B2, B3, B4, B5, B6, k1, k2, k3, k4, k5, k6, rfl, hR, hfm, hcap, hb1⟩
     replace hbz := fr_call hbz hb1
     (try replace hP := hP.keep hb1)
     refine hK.out _ _ (hkS _ hbz) (fun hHeld => ?_)
     clear hK K
     (try simp only [Act.put, List.setIfInBounds_toArray, List.set_cons_zero, List.set_cons_succ])
     refine tkH 12 ⟨some 20, .build 196 #[(0, .tmp 14), (1, .tmp 18), (3, .tmp 19)], 196, "desk.go:266", #[⟨6, .data⟩, ⟨10, .data⟩, ⟨11, .data⟩], none⟩ hHeld ?_
     refine rdH 13 ⟨some 21, .box 196 (.tmp 20), 103, "desk.go:266", #[⟨12, .data⟩], none⟩ fun K hK => ?_
     go_simp
     have hLo := hR.lo
     have hb1 := fr_alloc (fr_refl wz) (.cells #[.slice B1 n1 k1, .slice B2 n2 k2, .slice B3 n2 k3, .int .i64 lim, .int .i64 wm, .slice B4 n4 k4, .int .i64 ep, .slice B5 n5 k5, .int .i64 mn, .int .i64 md, .int .i64 ma, .slice B6 n6 k6, .int .i64 yr, .int .i64 br, .int .i64 hr, .int .i64 wg, .int .i64 pc, .slice D m dc, .slice none 0 0, .map (some mq), .int .i64 0, .slice none 0 0] 196)
     have hB := Blk.new wz 196 #[.slice B1 n1 k1, .slice B2 n2 k2, .slice B3 n2 k3, .int .i64 lim, .int .i64 wm, .slice B4 n4 k4, .int .i64 ep, .slice B5 n5 k5, .int .i64 mn, .int .i64 md, .int .i64 ma, .slice B6 n6 k6, .int .i64 yr, .int .i64 br, .int .i64 hr, .int .i64 wg, .int .i64 pc, .slice D m dc, .slice none 0 0, .map (some mq), .int .i64 0, .slice none 0 0]
     have hsB := hbz.size
     replace hbz := fr_call hbz hb1
     (try replace hP := hP.keep hb1)
     replace hR := hR.keep hb1
     clear hb1
     obtain ⟨bq, hbq⟩ : ∃ q, wz.heap.size = q := ⟨_, rfl⟩
     (try rw [hbq])
     rw [hbq] at hB hsB hLo
     clear hbq
     generalize wz.alloc (.cells #[.slice B1 n1 k1, .slice B2 n2 k2, .slice B3 n2 k3, .int .i64 lim, .int .i64 wm, .slice B4 n4 k4, .int .i64 ep, .slice B5 n5 k5, .int .i64 mn, .int .i64 md, .int .i64 ma, .slice B6 n6 k6, .int .i64 yr, .int .i64 br, .int .i64 hr, .int .i64 wg, .int .i64 pc, .slice D m dc, .slice none 0 0, .map (some mq), .int .i64 0, .slice none 0 0] 196) = wz at *
     refine hK.out _ _ (hkS _ hbz) (fun hHeld => ?_)
     clear hK K
     (try simp only [Act.put, List.setIfInBounds_toArray, List.set_cons_zero, List.set_cons_succ])
     refine rdH 15 ⟨none, .store 103 (.tmp 5) (.tmp 21), 0, "desk.go:266", #[⟨14, .data⟩, ⟨13, .data⟩, ⟨6, .chain⟩, ⟨0, .phase⟩, ⟨1, .phase⟩, ⟨2, .phase⟩, ⟨3, .phase⟩, ⟨4, .phase⟩, ⟨5, .phase⟩, ⟨6, .phase⟩, ⟨7, .phase⟩, ⟨8, .phase⟩, ⟨9, .phase⟩, ⟨10, .phase⟩, ⟨11, .phase⟩, ⟨12, .phase⟩, ⟨13, .phase⟩, ⟨14, .phase⟩], none⟩ fun K hK => ?_
     have hcz := hP.cell 0
     have hfz := hP.frozen 0
     go_simp
     have hP2 := hP.set_ 0 (.pointer (some ⟨bq, 0, none⟩))
     have hgs := grown_set wz ⟨pq, 0, none⟩ (.pointer (some ⟨bq, 0, none⟩))
     have hx : Exc (fun i => i = pq) wz (wz.setCell ⟨pq, 0, none⟩ (.pointer (some ⟨bq, 0, none⟩))) := (Exc.refl (fun i => i = pq) wz).set (p := ⟨pq, 0, none⟩) (Or.inl rfl) _
     have hbF := hbz.grown hgs hbz.size (by intro k hk; cases hk; exact hsP)
     refine hK.out _ _ (hkS _ hbF) (fun hHeld => ?_)
     clear hK K
     refine wpAnyH_done (by kernel_rfl) ?_ _
     refine NoPanic.normal ?_
     have hne : bq ≠ pq := fun e => by
      rw [e] at hB
      unfold Blk at hB hP
      rw [hB] at hP
      cases hP
     have hfin : StAt (wz.setCell ⟨pq, 0, none⟩ (.pointer (some ⟨bq, 0, none⟩))) bq B1 B2 B3 B4 B5 B6 n1 k1 n2 k2 k3 n4 k4 n5 k5 n6 k6 wm br hr wg pc lim ep mn md ma yr D m dc (.map (some mq)) (.slice none 0 0) [] ls hs tg ho cy fe fs f := ⟨hx.blk hB hne, hR.other hP hx, hfm, hcap, HY.out.keep hbF, hLo, HDL.mono hsB, Own.nil _ _⟩
     go_wp2_with fail
     go_meet
     case rel => exact ⟨pq, bq, B1, B2, B3, B4, B5, B6, k1, k2, k3, k4, k5, k6, _, rfl, hP2, hfin, hsB, hbF⟩
   ·rw [if_pos (by rfl)]
    go_simp
    have hb1 := fr_alloc (fr_refl wz) (.map #[] 0)
    obtain ⟨mq, hmq⟩ : ∃ q, wz.heap.size = q := ⟨_, rfl⟩
    (try rw [hmq])
    (try rw [hmq] at hb1)
    replace hbz := fr_call hbz (by rw [hmq]; exact hb1)
    (try replace hP := hP.keep (by rw [hmq]; exact hb1))
    (try replace hR := hR.keep (by rw [hmq]; exact hb1))
    clear hmq hb1
    generalize wz.alloc (.map #[] 0) = wz at *
    refine hK.out _ _ (hkS _ hbz) (fun hHeld => ?_)
    clear hK K
    (try simp only [Act.put, List.setIfInBounds_toArray, List.set_cons_zero, List.set_cons_succ])
    refine rdH 5 ⟨some 13, .load 35 (.tmp 12), 35, "desk.go:266", #[⟨4, .data⟩], none⟩ fun K hK => ?_
    refine wp_load_blk 35 (.tmp 12) rfl gs rfl _ _ (HS.out.keep hbz) Tryz.underlying35 rfl (by kernel_rfl) ?_
    refine hK.out _ _ (hkS _ hbz) (fun hHeld => ?_)
    clear hK K
    (try simp only [Act.put, List.setIfInBounds_toArray, List.set_cons_zero, List.set_cons_succ])
    refine rdH 6 ⟨some 14, .call { callee := .value (.func 29), args := #[.tmp 13], argTypes := #[35] }, 35, "desk.go:266", #[⟨5, .data⟩], none⟩ fun K hK => ?_
    go_simp
    refine (K1 _ hbz).mono ?_
    rintro e' wz ⟨B1, B2, B3, B4, B5, B6, k1, k2, k3, k4, k5, k6, rfl, hR, hfm, hcap, hb1⟩
    replace hbz := fr_call hbz hb1
    (try replace hP := hP.keep hb1)
    refine hK.out _ _ (hkS _ hbz) (fun hHeld => ?_)
    clear hK K
    (try simp only [Act.put, List.setIfInBounds_toArray, List.set_cons_zero, List.set_cons_succ])
    refine tkH 12 ⟨some 20, .build 196 #[(0, .tmp 14), (1, .tmp 18), (3, .tmp 19)], 196, "desk.go:266", #[⟨6, .data⟩, ⟨10, .data⟩, ⟨11, .data⟩], none⟩ hHeld ?_
    refine rdH 13 ⟨some 21, .box 196 (.tmp 20), 103, "desk.go:266", #[⟨12, .data⟩], none⟩ fun K hK => ?_
    go_simp
    have hLo := hR.lo
    have hb1 := fr_alloc (fr_refl wz) (.cells #[.slice B1 n1 k1, .slice B2 n2 k2, .slice B3 n2 k3, .int .i64 lim, .int .i64 wm, .slice B4 n4 k4, .int .i64 ep, .slice B5 n5 k5, .int .i64 mn, .int .i64 md, .int .i64 ma, .slice B6 n6 k6, .int .i64 yr, .int .i64 br, .int .i64 hr, .int .i64 wg, .int .i64 pc, .slice D m dc, .slice none 0 0, .map (some mq), .int .i64 0, .slice none 0 0] 196)
    have hB := Blk.new wz 196 #[.slice B1 n1 k1, .slice B2 n2 k2, .slice B3 n2 k3, .int .i64 lim, .int .i64 wm, .slice B4 n4 k4, .int .i64 ep, .slice B5 n5 k5, .int .i64 mn, .int .i64 md, .int .i64 ma, .slice B6 n6 k6, .int .i64 yr, .int .i64 br, .int .i64 hr, .int .i64 wg, .int .i64 pc, .slice D m dc, .slice none 0 0, .map (some mq), .int .i64 0, .slice none 0 0]
    have hsB := hbz.size
    replace hbz := fr_call hbz hb1
    (try replace hP := hP.keep hb1)
    replace hR := hR.keep hb1
    clear hb1
    obtain ⟨bq, hbq⟩ : ∃ q, wz.heap.size = q := ⟨_, rfl⟩
    (try rw [hbq])
    rw [hbq] at hB hsB hLo
    clear hbq
    generalize wz.alloc (.cells #[.slice B1 n1 k1, .slice B2 n2 k2, .slice B3 n2 k3, .int .i64 lim, .int .i64 wm, .slice B4 n4 k4, .int .i64 ep, .slice B5 n5 k5, .int .i64 mn, .int .i64 md, .int .i64 ma, .slice B6 n6 k6, .int .i64 yr, .int .i64 br, .int .i64 hr, .int .i64 wg, .int .i64 pc, .slice D m dc, .slice none 0 0, .map (some mq), .int .i64 0, .slice none 0 0] 196) = wz at *
    refine hK.out _ _ (hkS _ hbz) (fun hHeld => ?_)
    clear hK K
    (try simp only [Act.put, List.setIfInBounds_toArray, List.set_cons_zero, List.set_cons_succ])
    refine rdH 15 ⟨none, .store 103 (.tmp 5) (.tmp 21), 0, "desk.go:266", #[⟨14, .data⟩, ⟨13, .data⟩, ⟨6, .chain⟩, ⟨0, .phase⟩, ⟨1, .phase⟩, ⟨2, .phase⟩, ⟨3, .phase⟩, ⟨4, .phase⟩, ⟨5, .phase⟩, ⟨6, .phase⟩, ⟨7, .phase⟩, ⟨8, .phase⟩, ⟨9, .phase⟩, ⟨10, .phase⟩, ⟨11, .phase⟩, ⟨12, .phase⟩, ⟨13, .phase⟩, ⟨14, .phase⟩], none⟩ fun K hK => ?_
    have hcz := hP.cell 0
    have hfz := hP.frozen 0
    go_simp
    have hP2 := hP.set_ 0 (.pointer (some ⟨bq, 0, none⟩))
    have hgs := grown_set wz ⟨pq, 0, none⟩ (.pointer (some ⟨bq, 0, none⟩))
    have hx : Exc (fun i => i = pq) wz (wz.setCell ⟨pq, 0, none⟩ (.pointer (some ⟨bq, 0, none⟩))) := (Exc.refl (fun i => i = pq) wz).set (p := ⟨pq, 0, none⟩) (Or.inl rfl) _
    have hbF := hbz.grown hgs hbz.size (by intro k hk; cases hk; exact hsP)
    refine hK.out _ _ (hkS _ hbF) (fun hHeld => ?_)
    clear hK K
    refine wpAnyH_done (by kernel_rfl) ?_ _
    refine NoPanic.normal ?_
    have hne : bq ≠ pq := fun e => by
     rw [e] at hB
     unfold Blk at hB hP
     rw [hB] at hP
     cases hP
    have hfin : StAt (wz.setCell ⟨pq, 0, none⟩ (.pointer (some ⟨bq, 0, none⟩))) bq B1 B2 B3 B4 B5 B6 n1 k1 n2 k2 k3 n4 k4 n5 k5 n6 k6 wm br hr wg pc lim ep mn md ma yr D m dc (.map (some mq)) (.slice none 0 0) [] ls hs tg ho cy fe fs f := ⟨hx.blk hB hne, hR.other hP hx, hfm, hcap, HY.out.keep hbF, hLo, HDL.mono hsB, Own.nil _ _⟩
    go_wp2_with fail
    go_meet
    case rel => exact ⟨pq, bq, B1, B2, B3, B4, B5, B6, k1, k2, k3, k4, k5, k6, _, rfl, hP2, hfin, hsB, hbF⟩
 obtain ⟨p, s, B1, B2, B3, B4, B5, B6, k1, k2, k3, k4, k5, k6, mp, rfl, hP, hSt, hsB, hbc⟩ := hcut
 clear hbz hkS K1
 have hs1c := hbc.size
 have hlS := hSt.b.lt
 have HNc := Lib.hid (hN.keep hbc)
 have hcP := fun j => hP.cell j
 have hbt := fr_call hb0 hbc
 have HST := Lib.hid hSt
 clear hSt hN
 obtain ⟨w2, hw2⟩ : ∃ w2, w2 = wc := ⟨_, rfl⟩
 subst hw2
 go_wp2_with fail
 refine (wpIn_wide (n := 6)).1 ?_
 refine wpIn_range_enter2 (gf := 108) rfl (enters_of Tryz.func108 (by kernel_rfl) rfl) (fun fn rec hst hpe hfn htm hpa has hbod => ?_)
 generalize hl : w2.heap.size + 1 = l at *
 obtain ⟨W1, hW1⟩ : ∃ W1, (w2.alloc (.deferred (some []))).alloc (.loop rec) = W1 := ⟨_, rfl⟩
 have hL1 : W1.heap[l]? = some (.loop rec) := by
  rw [← hW1, ← hl]; have := World.alloc_heap_new (w2.alloc (.deferred (some []))) (.loop rec); rwa [World.size_alloc] at this
 have hD1 : W1.heap[w2.heap.size]? = some (.deferred (some [])) := by
  rw [← hW1]; exact (Below.heap_alloc _ _ _ (by simp)).trans (World.alloc_heap_new w2 _)
 have hb21 : Below w2.heap.size w2 W1 := by rw [← hW1]; exact fr_alloc (fr_alloc (fr_refl _) _) _
 rw [hW1]
 have h0 : StInv w1 p s w2.heap.size l rec B1 B2 B3 B4 B5 B6 n1 k1 n2 k2 k3 n4 k4 n5 k5 n6 k6 wm br hr wg pc lim ep mn md ma yr D m dc mp ds ls hs tg ho cy fe fs f 0 W1 := ⟨fr_call hbc hb21, ⟨_, HST.out.keep hb21, fun _ => rfl⟩, hP.keep hb21, hD1, hL1⟩
 have hY : ∀ (k : Nat) (d : Int) W, StInv w1 p s w2.heap.size l rec B1 B2 B3 B4 B5 B6 n1 k1 n2 k2 k3 n4 k4 n5 k5 n6 k6 wm br hr wg pc lim ep mn md ma yr D m dc mp ds ls hs tg ho cy fe fs f k W → ds[k]? = some d → YieldAt Fence.wide 5 Tryz.prog l #[.int .i64 k, dset d] W fun e W' => e = .returned (.bool true) ∧ StInv w1 p s w2.heap.size l rec B1 B2 B3 B4 B5 B6 n1 k1 n2 k2 k3 n4 k4 n5 k5 n6 k6 wm br hr wg pc lim ep mn md ma yr D m dc mp ds ls hs tg ho cy fe fs f (k + 1) W' := by
  intro k d W hi hd
  have hy := run_yield (P := Tryz.prog) (args := #[.int .i64 k, dset d]) hi.lp (by rw [hpa]; rfl)
  rw [hfn, htm, hpa, has, hbod] at hy
  refine ⟨_, _, _, _, hy, roundIn_of_wpIn trivial ?_⟩
  clear hy
  gi_wp2
  refine ⟨_, run_beginRound hi.lp hst, ?_⟩
  have hiB := hi.put (by omega) (by omega) (by omega) { rec with state := .busy }
  generalize W.putObj l (.loop { rec with state := .busy }) = WB at *
  have hrec : ({ rec with state := .ready, pending := none } : Loop) = rec := by
   cases rec
   simp only at hst hpe
   rw [hst, hpe]
  have fin : ∀ (WC : World) (a : Act), StInv w1 p s w2.heap.size l { rec with state := .busy } B1 B2 B3 B4 B5 B6 n1 k1 n2 k2 k3 n4 k4 n5 k5 n6 k6 wm br hr wg pc lim ep mn md ma yr D m dc mp ds ls hs tg ho cy fe fs f (k + 1) WC →
    roundPost Tryz.prog l (fun e W' => e = .returned (.bool true) ∧ StInv w1 p s w2.heap.size l rec B1 B2 B3 B4 B5 B6 n1 k1 n2 k2 k3 n4 k4 n5 k5 n6 k6 wm br hr wg pc lim ep mn md ma yr D m dc mp ds ls hs tg ho cy fe fs f (k + 1) W') .normal a WC := by
   intro WC a hi'
   have h0 := hi'.put (by omega) (by omega) (by omega) { { rec with state := .busy } with state := .ready, pending := none }
   refine ⟨_, _, run_endRound none hi'.lp, rfl, ?_⟩
   exact ⟨h0.bl, h0.st, h0.p, h0.df, h0.lp.trans (congrArg some (congrArg Obj.loop hrec))⟩
  obtain ⟨rb, hrb⟩ : ∃ r : Loop, { rec with state := .busy } = r := ⟨_, rfl⟩
  rw [hrb] at hiB fin
  obtain ⟨zv, hS1, _⟩ := hiB.st
  have hgo := HGO.out k d hd
  have hln : ds.length = n := HE.out.len
  have HDO := do_any d hS1 hgo.1 hm (by rw [List.length_take]; omega) true hgo.2
  have HNX := fun W' => Lib.hid (fun h2 hx => StInv.next (W' := W') hiB hS1 hd (by omega) h2 hx)
  have hcN : WB.cell? ⟨w.heap.size, 0, none⟩ = some (.int .i64 (-1)) := ((hiB.bl.cell (p := ⟨w.heap.size, 0, none⟩) (by exact HN1.out.lt))).trans (HN1.out.cell 0)
  have hcp := hiB.p.cell 0
  have i1 : ((k : Int) == -1) = false := by rw [beq_eq_false_iff_ne]; omega
  clear hi hiB hrec hst hpe hfn htm hpa has hbod hD1 hL1 hb21 h0 hW1 hrb hS1 hgo hcP hP
  gi_wp2
  refine ⟨trivial, CallsIn.mono (CallsIn.inRound l (callsIn_wide.2 HDO)) ?_⟩
  rintro e W' ⟨h1, _, hx⟩
  obtain ⟨rfl, h2⟩ := h1 trivial
  have hfinal := fun a => fin W' a ((HNX W').out h2 hx)
  clear fin HNX HDO h1 h2 hx
  gi_wp2
  exact hfinal _
 refine CallsIn.mono (callsIn_wide.2 ((callsIn_wide (n := 6)).1 (stands_any 5 l g gs m dc n ec D E sv ds w1 HD.out HE.out hn _ (fun _ _ h => h.bl) (fun _ _ _ h hb => h.below hb) hY W1 h0))) ?_
 rintro e W ⟨rfl, hi⟩
 have hi4 := hi.put (by omega) (by omega) (by omega) { rec with state := .exhausted, pending := none }
 refine ⟨_, _, run_endLoop hi.lp (by rw [hst]; simp), ?_⟩
 rw [hpe]
 clear hi hY h0 hL1 hD1 hb21 hcP hP
 generalize W.putObj l (.loop { rec with state := .exhausted, pending := none }) = W4 at *
 have hcP4 := fun j => hi4.p.cell j
 go_wp2_with fail
 refine ⟨by simp, .inl ⟨_, _, rfl, run_takeDeferred hi4.df, ?_⟩⟩
 obtain ⟨zv, hS4, hz4⟩ := hi4.st
 have hln : ds.length = n := HE.out.len
 rw [List.take_of_length_le (by omega)] at hS4
 have hx6 : Exc (fun i => i = w2.heap.size) W4 (W4.putObj w2.heap.size (.deferred none)) := (Exc.refl (fun i => i = w2.heap.size) W4).put _ (Or.inl rfl)
 have hb6 := hi4.bl.grown (grownBy_putObj' W4 w2.heap.size (.deferred none)) hi4.bl.size (by intro k hk; cases hk; exact hbc.size)
 exact ⟨_, results_tmp rfl _ _ _, s, B1, B2, B3, B4, B5, B6, k1, k2, k3, k4, k5, k6, mp, zv, rfl, hS4.exc hx6 (fun i e => by cases e; exact ⟨hlS, own_obj hS4.own hi4.df rfl⟩), hz4, by omega, fr_call hb0 hb6⟩
end Go.Proofs.YtdocgmafbacjcaaGreatDoor
