/- Walks, package journeyman: what stands at a desk without entries (by gen_yf.py). -/
import Derived.Test.YtkmiphabagoifaaGreatDoorMT18
namespace Go.Proofs.YtkmiphabagoifaaGreatDoor
open Go.RowKit Go.Shelf Dl

/-- the statement, up to the iterator's call, the iterator with bound arguments -/
theorem wpIn_range_enter2 {P : Program} {g : Operand} {ps : Array Tmp} {assign body : Code} {Q : Exit → Act → World → Prop} {a : Act} {w : World} {n gf : Nat} {first lb : Array Value}
  (hg : a.eval g = .func (.func gf) first lb) (eg : ∀ args w, (callFunc gf args).run P w = .ok (.enter gf args) w)
  (hcall : ∀ (fn : Nat) (rec : Loop), rec.state = .ready → rec.pending = none → rec.fn = fn → rec.tmps = a.tmps → rec.params = ps → rec.assign = assign → rec.body = body →
   CallsIn Fence.wide n P gf (first ++ #[.func (.yield (w.heap.size + 1)) #[] #[]] ++ lb) ((w.alloc (.deferred (some []))).alloc (.loop rec)) (rangePost Fence.wide (n + 1) P (w.heap.size + 1) Q { a with defers := { target := .collected w.heap.size, args := #[] } :: a.defers })) :
  (Code.rangeFunc g ps assign body).wpIn Fence.wide (n + 1) P Q a w := by
 refine wpIn_rangeFunc (fun fn _ => ?_)
 obtain ⟨rec, hrec⟩ : ∃ rec : Loop, rec = { state := .ready, pending := none, fn, tmps := a.tmps, params := ps, assign, body, defers := w.heap.size } := ⟨_, rfl⟩
 obtain ⟨W1, hW1⟩ : ∃ W1, (w.alloc (.deferred (some []))).alloc (.loop rec) = W1 := ⟨_, rfl⟩
 have hc := hcall fn rec (by rw [hrec]) (by rw [hrec]) (by rw [hrec]) (by rw [hrec]) (by rw [hrec]) (by rw [hrec]) (by rw [hrec])
 rw [hW1] at hc
 refine ⟨w.heap.size + 1, [{ target := .collected w.heap.size, args := #[] }], W1, { target := .fn (.func gf) lb, args := first ++ #[.func (.yield (w.heap.size + 1)) #[] #[]] }, W1, gf, first ++ #[.func (.yield (w.heap.size + 1)) #[] #[]] ++ lb, W1, ?_, ?_, ?_, ?_, ?_, ?_⟩
 ·rw [← hW1, hrec]; exact run_enterLoop_outer _ _ _ _ _
 ·simp only [resolve, hg]
  simp [go_sem]
 ·exact fun _ _ => trivial
 ·simp [invoke, go_sem, eg]
 ·intro h; cases h
 ·exact hc
section
variable {o : Oper} {a : Act} {w : World} {K : Act → World → Prop} {Q : Exit → Act → World → Prop}
theorem wp_load_blk {P : Program} (ty : TypeId) (x : Operand) (ho : o.op = .load ty x)
  (g : Nat) (hx : a.eval x = .pointer (some ⟨g, 0, none⟩)) (t : TypeId) (cs : Array Value) (hB : Blk w g t cs) {d : TypeDesc} (hu : P.underlying ty = some d) (hd : (match d with | .struct _ | .array _ _ => true | _ => false) = true) (hi : (P.info? ty).map (·.size) = some cs.size)
  (h : K (a.put o.dst (.agg cs)) w) : o.wp P a w K Q := by
 unfold Oper.wp
 unfold execOp
 simp only [ho, hx, Instr.loadAt, Instr.sureAddr, Sem.run_bind, Sem.run_pure, Result.andThen_ok, run_loadVar_row w g t ty cs (0, 0) d hB hu hd hi]
 exact h
end
theorem ptr_no_int {W : World} {p : Nat} {t : TypeId} {a : Addr} {v : Value} (hP : Blk W p t #[.pointer none]) (hc : W.cell? a = some v) (hv : v ≠ .pointer none) : a.block ≠ p := fun e => by
 unfold World.cell? at hc
 rw [e, show W.heap[p]? = _ from hP] at hc
 simp only at hc
 split at hc
 ·cases hc
 ·rcases h : a.off with _ | n
  ·rw [h] at hc
   exact hv (by simpa using hc.symm)
  ·rw [h] at hc
   simp at hc
theorem RdS.other {W W' : World} {p k : Nat} {t : TypeId} {A : Option Addr} {rows : List (List Value)} (hr : RdS W A k rows) (hv : ∀ r ∈ rows, ∃ v, r[0]? = some v ∧ v ≠ .pointer none) (hP : Blk W p t #[.pointer none]) (hx : Exc (fun i => i = p) W W') : RdS W' A k rows := fun hn => by
 obtain ⟨ad, e, hlt, hc⟩ := hr hn
 obtain ⟨x, h0, hv0⟩ := hv rows[0] (List.getElem_mem hn)
 have h1 := (hc 0 rows[0] (List.getElem?_eq_getElem hn)).2 0 _ h0
 have hne := ptr_no_int hP h1 hv0
 rw [block_of_add] at hne
 exact ⟨ad, e, Nat.lt_of_lt_of_le hlt hx.size, fun i r hi => ⟨(hc i r hi).1, fun j v hj => (hx.cell (by rw [block_of_add]; exact hlt) (by rw [block_of_add]; exact hne)).trans ((hc i r hi).2 j v hj)⟩⟩
theorem Rd.other {W W' : World} {p n : Nat} {t : TypeId} {A : Option Addr} {xs : List Int} (hr : Rd W A n xs) (hP : Blk W p t #[.pointer none]) (hx : Exc (fun i => i = p) W W') : Rd W' A n xs :=
 ⟨hr.1, fun hn => by
  obtain ⟨ad, e, hlt, hc⟩ := hr.2 hn
  have hne := ptr_no_int hP (hc 0 hn) (by intro e; cases e)
  rw [block_of_add] at hne
  exact ⟨ad, e, Nat.lt_of_lt_of_le hlt hx.size, fun j hj => (hx.cell (by rw [block_of_add]; exact hlt) (by rw [block_of_add]; exact hne)).trans (hc j hj)⟩⟩
theorem SuAt.other {W W' : World} {p : Nat} {t : TypeId} {A1 A2 A3 A4 A5 A6 : Option Addr} {n1 n2 n4 n5 n6 : Nat} {ls : List Lk} {hs : List Int} {tg : List (Int × Int)} {ho cy : List Int} {fe : List Feast} (h : SuAt W A1 A2 A3 A4 A5 A6 n1 n2 n4 n5 n6 ls hs tg ho cy fe) (hP : Blk W p t #[.pointer none]) (hx : Exc (fun i => i = p) W W') : SuAt W' A1 A2 A3 A4 A5 A6 n1 n2 n4 n5 n6 ls hs tg ho cy fe :=
 ⟨h.r1.other (by intro r hr; obtain ⟨q, _, rfl⟩ := List.mem_map.1 hr; exact ⟨_, rfl, by intro e; cases e⟩) hP hx, h.l1, h.r2.other hP hx, h.r3.other (by intro r hr; obtain ⟨q, _, rfl⟩ := List.mem_map.1 hr; exact ⟨_, rfl, by intro e; cases e⟩) hP hx, h.l3, h.r4.other hP hx, h.r5.other hP hx, h.r6.other (by intro r hr; obtain ⟨q, _, rfl⟩ := List.mem_map.1 hr; exact ⟨_, rfl, by intro e; cases e⟩) hP hx, h.l6⟩
/-- what stands, in memory: a suite and its days, without entries made -/
structure StateAt (W : World) (s : Nat) (A1 A2 A3 A4 A5 A6 : Option Addr) (n1 c1 n2 c2 c3 n4 c4 n5 c5 n6 c6 wm br hr wg pc : Nat) (lim ep mn md ma yr : Int) (D : Option Addr) (m dc : Nat) (mp : Value) (ls : List Lk) (hs : List Int) (tg : List (Int × Int)) (ho cy : List Int) (fe : List Feast) (fs : List Int) (f : Int) : Prop where
 s : Blk W s 203 #[.slice A1 n1 c1, .slice A2 n2 c2, .slice A3 n2 c3, .int .i64 lim, .int .i64 wm, .slice A4 n4 c4, .int .i64 ep, .slice A5 n5 c5, .int .i64 mn, .int .i64 md, .int .i64 ma, .slice A6 n6 c6, .int .i64 yr, .int .i64 br, .int .i64 hr, .int .i64 wg, .int .i64 pc, .slice D m dc, .slice none 0 0, mp, .int .i64 0, .slice none 0 0]
 r : SuAt W A1 A2 A3 A4 A5 A6 n1 n2 n4 n5 n6 ls hs tg ho cy fe
 fm : Fm A1 n1 ∧ Fm A2 n2 ∧ Fm A3 n2 ∧ Fm A4 n4 ∧ Fm A5 n5 ∧ Fm A6 n6
 cap : n1 ≤ c1
 days : RdS W D 2 (yearR fs f m)
theorem StateAt.keep {W W' : World} {s : Nat} {A1 A2 A3 A4 A5 A6 : Option Addr} {n1 c1 n2 c2 c3 n4 c4 n5 c5 n6 c6 wm br hr wg pc : Nat} {lim ep mn md ma yr : Int} {D : Option Addr} {m dc : Nat} {mp : Value} {ls : List Lk} {hs : List Int} {tg : List (Int × Int)} {ho cy : List Int} {fe : List Feast} {fs : List Int} {f : Int} (h : StateAt W s A1 A2 A3 A4 A5 A6 n1 c1 n2 c2 c3 n4 c4 n5 c5 n6 c6 wm br hr wg pc lim ep mn md ma yr D m dc mp ls hs tg ho cy fe fs f) (hb : Below W.heap.size W W') : StateAt W' s A1 A2 A3 A4 A5 A6 n1 c1 n2 c2 c3 n4 c4 n5 c5 n6 c6 wm br hr wg pc lim ep mn md ma yr D m dc mp ls hs tg ho cy fe fs f :=
 ⟨h.s.keep hb, h.r.keep hb, h.fm, h.cap, h.days.keep hb⟩
set_option maxRecDepth 100000 in
set_option maxHeartbeats 8000000 in
theorem stands_none (g gs m dc : Nat) (D : Option Addr) (sv y : Value) (w : World) (hX : Blk w g 98 #[.pointer (some ⟨gs, 0, none⟩), .slice D m dc, .slice none 0 0, sv]) :
  Calls Tryz.prog 116 #[.pointer (some ⟨g, 0, none⟩), y] w fun e w' => e = .returned (.tuple #[]) ∧ w = w' := by
 have hcX := fun j => hX.cell j
 go_enter Tryz.func116, Tryz.ntmps116
 go_wp2_with fail
 go_loopw [11] (fun i wx => i = .int .i64 0 ∧ w = wx) (fun _ _ => 0)
 case atStart => exact ⟨rfl, rfl⟩
 case round =>
  obtain ⟨rfl, rfl⟩ := hrel
  go_wp2_with fail
  go_end0
  exact ⟨rfl, rfl⟩
set_option maxRecDepth 100000 in
set_option maxHeartbeats 16000000 in
theorem state_new (g gs : Nat) (A1 A2 A3 A4 A5 A6 : Option Addr) (n1 c1 n2 c2 c3 n4 c4 n5 c5 n6 c6 wm br hr wg pc : Nat) (lim ep mn md ma yr : Int) (D : Option Addr) (m dc : Nat) (sv : Value) (ls : List Lk) (hs : List Int) (tg : List (Int × Int)) (ho cy : List Int) (fe : List Feast) (fs : List Int) (f : Int) (w : World) (h : DeskAt w g gs A1 A2 A3 A4 A5 A6 n1 c1 n2 c2 c3 n4 c4 n5 c5 n6 c6 wm br hr wg pc lim ep mn md ma yr D m dc (.slice none 0 0) sv ls hs tg ho cy fe fs f) (hbd : n1 ≤ 1000 ∧ n2 ≤ 1000 ∧ n4 ≤ 1000 ∧ n5 ≤ 1000 ∧ n6 ≤ 1000) :
  Calls Tryz.prog 41 #[.pointer (some ⟨g, 0, none⟩), .int .i64 (-1)] w fun e w' => ∃ s B1 B2 B3 B4 B5 B6 k1 k2 k3 k4 k5 k6 mp, e = .returned (.pointer (some ⟨s, 0, none⟩)) ∧ StateAt w' s B1 B2 B3 B4 B5 B6 n1 k1 n2 k2 k3 n4 k4 n5 k5 n6 k6 wm br hr wg pc lim ep mn md ma yr D m dc mp ls hs tg ho cy fe fs f ∧ w.heap.size ≤ s ∧ Below w.heap.size w w' := by
 have hmk : ∀ w, (Instr.makeMap 201 none).run Tryz.prog w = .ok (.map (some w.heap.size)) (w.alloc (.map #[] 0)) := fun w => rfl
 have hmf : ∀ (fn : Fn) (first cap : Array Value) (w : World), (Instr.makeFunc fn first cap).run Tryz.prog w = .ok (.func fn first cap) w := fun _ _ _ _ => rfl
 have hb0 := fr_alloc (fr_refl w) (.cells #[.int .i64 (-1)] 3)
 have hN := Blk.new w 3 #[.int .i64 (-1)]
 obtain ⟨w1, hw1⟩ : ∃ w1, w.alloc (.cells #[.int .i64 (-1)] 3) = w1 := ⟨_, rfl⟩
 rw [hw1] at hb0 hN
 replace h := h.keep hb0
 have hs0 := hb0.size
 have hbz := fr_drew (fr_refl w1)
 have hkS : ∀ W, Below w1.heap.size w1 W → W.cell? ⟨g, 0, none⟩ = some (.pointer (some ⟨gs, 0, none⟩)) ∧ W.cell? ⟨g, 1, none⟩ = some (.slice D m dc) := fun W hb => ⟨(h.d.keep hb).cell 0, (h.d.keep hb).cell 1⟩
 have K1 := fun W hb => copied_any A1 A2 A3 A4 A5 A6 n1 c1 n2 c2 c3 n4 c4 n5 c5 n6 c6 wm br hr wg pc lim ep mn md ma yr ls hs tg ho cy fe W (h.r.keep hb) h.fm.1 h.fm.2.1 h.fm.2.2.1 h.fm.2.2.2.1 h.fm.2.2.2.2.1 h.fm.2.2.2.2.2 hbd
 have HD := Lib.hid h.d
 have HS := Lib.hid h.s
 have HY := Lib.hid h.days
 clear h hbd
 refine (callsIn_wide (n := 6)).1 (callsIn_of_wp_marks Tryz.func41 rfl trivial ?_ rfl)
 simp only [Tryz.ntmps41, List.size_toArray, List.length_cons, List.length_nil, Nat.reduceAdd, Nat.reduceSub, Array.replicate_succ, Array.replicate_zero, List.push_toArray, List.append_toArray, List.nil_append, List.cons_append]
 refine wpIn_wide.2 ?_
 go_upto_region 1 with (fail)
 (try rw [hw1])
 clear hw1
 go_cut [5] from 8 (fun s5 wc => ∃ p s B1 B2 B3 B4 B5 B6 k1 k2 k3 k4 k5 k6 mp, s5 = .pointer (some ⟨p, 0, none⟩) ∧ Blk wc p 108 #[.pointer (some ⟨s, 0, none⟩)] ∧ StateAt wc s B1 B2 B3 B4 B5 B6 n1 k1 n2 k2 k3 n4 k4 n5 k5 n6 k6 wm br hr wg pc lim ep mn md ma yr D m dc mp ls hs tg ho cy fe fs f ∧ w1.heap.size ≤ s ∧ Below w1.heap.size w1 wc)
 case first =>
  refine wp_region_noPanic ?_
  refine wp_region_held_drew (S := fun W => W.cell? ⟨g, 0, none⟩ = some (.pointer (some ⟨gs, 0, none⟩)) ∧ W.cell? ⟨g, 1, none⟩ = some (.slice D m dc)) (by kernel_rfl) (hkS _ hbz) (fun hHeld => ?_)
  generalize w1.drew = wz at hbz hHeld ⊢
  -- the region, step by step, in whatever order
  refine wpAnyH_take (i := 0) (oi := ⟨some 8, .move (.tmp 0), 38, "desk.go:266", #[], none⟩) (v := ?_) rfl (by kernel_rfl) (by kernel_rfl) (by kernel_rfl) (fun _ _ _ h => h) (Or.inl ⟨by rfl, fun W hSw => ?_⟩) hHeld ?_
  rotate_left
  ·(try dsimp only at hSw); go_simp; (try with_reducible rfl)
  (try simp only [Act.put, List.setIfInBounds_toArray, List.set_cons_zero, List.set_cons_succ])
  refine wpAnyH_take (i := 1) (oi := ⟨some 9, .nilCheck (.tmp 8), 0, "desk.go:266", #[⟨0, .data⟩], none⟩) (v := ?_) rfl (by kernel_rfl) (by kernel_rfl) (by kernel_rfl) (fun _ _ _ h => h) (Or.inl ⟨by rfl, fun W hSw => ?_⟩) hHeld ?_
  rotate_left
  ·(try dsimp only at hSw); go_simp; (try with_reducible rfl)
  (try simp only [Act.put, List.setIfInBounds_toArray, List.set_cons_zero, List.set_cons_succ])
  refine wpAnyH_take (i := 2) (oi := ⟨some 10, .fieldAddr 98 (.tmp 9) 0, 0, "desk.go:266", #[⟨1, .data⟩], none⟩) (v := ?_) rfl (by kernel_rfl) (by kernel_rfl) (by kernel_rfl) (fun _ _ _ h => h) (Or.inl ⟨by rfl, fun W hSw => ?_⟩) hHeld ?_
  rotate_left
  ·(try dsimp only at hSw); go_simp; (try with_reducible rfl)
  (try simp only [Act.put, List.setIfInBounds_toArray, List.set_cons_zero, List.set_cons_succ])
  refine wpAnyH_take (i := 3) (oi := ⟨some 11, .load 92 (.tmp 10), 92, "desk.go:266", #[⟨2, .data⟩], none⟩) (v := ?_) rfl (by kernel_rfl) (by kernel_rfl) (by kernel_rfl) (fun _ _ _ h => h) (Or.inl ⟨by rfl, fun W hSw => ?_⟩) hHeld ?_
  rotate_left
  ·(try dsimp only at hSw); go_simp; (try with_reducible rfl)
  (try simp only [Act.put, List.setIfInBounds_toArray, List.set_cons_zero, List.set_cons_succ])
  refine wpAnyH_take (i := 4) (oi := ⟨some 12, .nilCheck (.tmp 11), 0, "desk.go:266", #[⟨3, .data⟩], none⟩) (v := ?_) rfl (by kernel_rfl) (by kernel_rfl) (by kernel_rfl) (fun _ _ _ h => h) (Or.inl ⟨by rfl, fun W hSw => ?_⟩) hHeld ?_
  rotate_left
  ·(try dsimp only at hSw); go_simp; (try with_reducible rfl)
  (try simp only [Act.put, List.setIfInBounds_toArray, List.set_cons_zero, List.set_cons_succ])
  refine wpAnyH_take (i := 7) (oi := ⟨some 15, .move (.tmp 0), 38, "desk.go:266", #[], none⟩) (v := ?_) rfl (by kernel_rfl) (by kernel_rfl) (by kernel_rfl) (fun _ _ _ h => h) (Or.inl ⟨by rfl, fun W hSw => ?_⟩) hHeld ?_
  rotate_left
  ·(try dsimp only at hSw); go_simp; (try with_reducible rfl)
  (try simp only [Act.put, List.setIfInBounds_toArray, List.set_cons_zero, List.set_cons_succ])
  refine wpAnyH_take (i := 8) (oi := ⟨some 16, .nilCheck (.tmp 15), 0, "desk.go:266", #[⟨7, .data⟩], none⟩) (v := ?_) rfl (by kernel_rfl) (by kernel_rfl) (by kernel_rfl) (fun _ _ _ h => h) (Or.inl ⟨by rfl, fun W hSw => ?_⟩) hHeld ?_
  rotate_left
  ·(try dsimp only at hSw); go_simp; (try with_reducible rfl)
  (try simp only [Act.put, List.setIfInBounds_toArray, List.set_cons_zero, List.set_cons_succ])
  refine wpAnyH_take (i := 9) (oi := ⟨some 17, .fieldAddr 98 (.tmp 16) 1, 0, "desk.go:266", #[⟨8, .data⟩], none⟩) (v := ?_) rfl (by kernel_rfl) (by kernel_rfl) (by kernel_rfl) (fun _ _ _ h => h) (Or.inl ⟨by rfl, fun W hSw => ?_⟩) hHeld ?_
  rotate_left
  ·(try dsimp only at hSw); go_simp; (try with_reducible rfl)
  (try simp only [Act.put, List.setIfInBounds_toArray, List.set_cons_zero, List.set_cons_succ])
  refine wpAnyH_take (i := 10) (oi := ⟨some 18, .load 93 (.tmp 17), 93, "desk.go:266", #[⟨9, .data⟩], none⟩) (v := ?_) rfl (by kernel_rfl) (by kernel_rfl) (by kernel_rfl) (fun _ _ _ h => h) (Or.inl ⟨by rfl, fun W hSw => ?_⟩) hHeld ?_
  rotate_left
  ·(try dsimp only at hSw); go_simp; (try with_reducible rfl)
  (try simp only [Act.put, List.setIfInBounds_toArray, List.set_cons_zero, List.set_cons_succ])
  refine wpAnyH_ready (rs := [5, 11, 14]) (by kernel_rfl) (by simp) ?_
  refine (AllReadyH.cons (o := ⟨some 13, .load 35 (.tmp 12), 35, "desk.go:266", #[⟨4, .data⟩], none⟩) rfl (fun K hK => ?_) (AllReadyH.cons (o := ⟨some 19, .makeMap 201 none, 201, "desk.go:266", #[], none⟩) rfl (fun K hK => ?_) (AllReadyH.cons (o := ⟨some 5, .alloc 108, 0, "desk.go:266", #[], none⟩) rfl (fun K hK => ?_) AllReadyH.nil)))
  ·rw [if_pos (by rfl)]
   refine wp_load_blk 35 (.tmp 12) rfl gs rfl _ _ (HS.out.keep hbz) Tryz.underlying35 rfl (by kernel_rfl) ?_
   refine hK.out _ _ (hkS _ hbz) (fun hHeld => ?_)
   clear hK K
   (try simp only [Act.put, List.setIfInBounds_toArray, List.set_cons_zero, List.set_cons_succ])
   refine wpAnyH_ready (rs := [6, 11, 14]) (by kernel_rfl) (by simp) ?_
   refine (AllReadyH.cons (o := ⟨some 14, .call { callee := .value (.func 34), args := #[.tmp 13], argTypes := #[35] }, 35, "desk.go:266", #[⟨5, .data⟩], none⟩) rfl (fun K hK => ?_) (AllReadyH.cons (o := ⟨some 19, .makeMap 201 none, 201, "desk.go:266", #[], none⟩) rfl (fun K hK => ?_) (AllReadyH.cons (o := ⟨some 5, .alloc 108, 0, "desk.go:266", #[], none⟩) rfl (fun K hK => ?_) AllReadyH.nil)))
   ·rw [if_pos (by rfl)]
    go_simp
    refine (K1 _ hbz).mono ?_
    rintro e' wz ⟨B1, B2, B3, B4, B5, B6, k1, k2, k3, k4, k5, k6, rfl, hR, hfm, hcap, hb1⟩
    replace hbz := fr_call hbz hb1
    (try replace hP := hP.keep hb1)
    refine hK.out _ _ (hkS _ hbz) (fun hHeld => ?_)
    clear hK K
    (try simp only [Act.put, List.setIfInBounds_toArray, List.set_cons_zero, List.set_cons_succ])
    refine wpAnyH_ready (rs := [11, 14]) (by kernel_rfl) (by simp) ?_
    refine (AllReadyH.cons (o := ⟨some 19, .makeMap 201 none, 201, "desk.go:266", #[], none⟩) rfl (fun K hK => ?_) (AllReadyH.cons (o := ⟨some 5, .alloc 108, 0, "desk.go:266", #[], none⟩) rfl (fun K hK => ?_) AllReadyH.nil))
    ·rw [if_pos (by rfl)]
     go_simp
     have hb1 := fr_alloc (fr_refl wz) (.map #[] 0)
     obtain ⟨mq, hmq⟩ : ∃ q, wz.heap.size = q := ⟨_, rfl⟩
     (try rw [hmq])
     (try rw [hmq] at hb1)
     replace hbz := fr_call hbz (by rw [hmq]; exact hb1)
     (try replace hP := hP.keep (by rw [hmq]; exact hb1))
     (try replace hR := hR.keep (by rw [hmq]; exact hb1))
     clear hmq hb1
     generalize wz.alloc (.map #[] 0) = wz at *
     refine hK.out _ _ (hkS _ hbz) (fun hHeld => ?_)
     clear hK K
     (try simp only [Act.put, List.setIfInBounds_toArray, List.set_cons_zero, List.set_cons_succ])
     refine wpAnyH_take (i := 12) (oi := ⟨some 20, .build 203 #[(0, .tmp 14), (1, .tmp 18), (3, .tmp 19)], 203, "desk.go:266", #[⟨6, .data⟩, ⟨10, .data⟩, ⟨11, .data⟩], none⟩) (v := ?_) rfl (by kernel_rfl) (by kernel_rfl) (by kernel_rfl) (fun _ _ _ h => h) (Or.inl ⟨by rfl, fun W hSw => ?_⟩) hHeld ?_
     rotate_left
     ·(try dsimp only at hSw); go_simp; (try with_reducible rfl)
     (try simp only [Act.put, List.setIfInBounds_toArray, List.set_cons_zero, List.set_cons_succ])
     refine wpAnyH_ready (rs := [13, 14]) (by kernel_rfl) (by simp) ?_
     refine (AllReadyH.cons (o := ⟨some 21, .box 203 (.tmp 20), 108, "desk.go:266", #[⟨12, .data⟩], none⟩) rfl (fun K hK => ?_) (AllReadyH.cons (o := ⟨some 5, .alloc 108, 0, "desk.go:266", #[], none⟩) rfl (fun K hK => ?_) AllReadyH.nil))
     ·rw [if_pos (by rfl)]
      go_simp
      have hb1 := fr_alloc (fr_refl wz) (.cells #[.slice B1 n1 k1, .slice B2 n2 k2, .slice B3 n2 k3, .int .i64 lim, .int .i64 wm, .slice B4 n4 k4, .int .i64 ep, .slice B5 n5 k5, .int .i64 mn, .int .i64 md, .int .i64 ma, .slice B6 n6 k6, .int .i64 yr, .int .i64 br, .int .i64 hr, .int .i64 wg, .int .i64 pc, .slice D m dc, .slice none 0 0, .map (some mq), .int .i64 0, .slice none 0 0] 203)
      have hB := Blk.new wz 203 #[.slice B1 n1 k1, .slice B2 n2 k2, .slice B3 n2 k3, .int .i64 lim, .int .i64 wm, .slice B4 n4 k4, .int .i64 ep, .slice B5 n5 k5, .int .i64 mn, .int .i64 md, .int .i64 ma, .slice B6 n6 k6, .int .i64 yr, .int .i64 br, .int .i64 hr, .int .i64 wg, .int .i64 pc, .slice D m dc, .slice none 0 0, .map (some mq), .int .i64 0, .slice none 0 0]
      have hsB := hbz.size
      replace hbz := fr_call hbz hb1
      (try replace hP := hP.keep hb1)
      replace hR := hR.keep hb1
      clear hb1
      obtain ⟨bq, hbq⟩ : ∃ q, wz.heap.size = q := ⟨_, rfl⟩
      (try rw [hbq])
      rw [hbq] at hB hsB
      clear hbq
      generalize wz.alloc (.cells #[.slice B1 n1 k1, .slice B2 n2 k2, .slice B3 n2 k3, .int .i64 lim, .int .i64 wm, .slice B4 n4 k4, .int .i64 ep, .slice B5 n5 k5, .int .i64 mn, .int .i64 md, .int .i64 ma, .slice B6 n6 k6, .int .i64 yr, .int .i64 br, .int .i64 hr, .int .i64 wg, .int .i64 pc, .slice D m dc, .slice none 0 0, .map (some mq), .int .i64 0, .slice none 0 0] 203) = wz at *
      refine hK.out _ _ (hkS _ hbz) (fun hHeld => ?_)
      clear hK K
      (try simp only [Act.put, List.setIfInBounds_toArray, List.set_cons_zero, List.set_cons_succ])
      refine wpAnyH_ready (rs := [14]) (by kernel_rfl) (by simp) ?_
      refine (AllReadyH.cons (o := ⟨some 5, .alloc 108, 0, "desk.go:266", #[], none⟩) rfl (fun K hK => ?_) AllReadyH.nil)
      rw [if_pos (by rfl)]
      go_simp
      have hb1 := fr_alloc (fr_refl wz) (.cells #[.pointer none] 108)
      have hP := Blk.new wz 108 #[.pointer none]
      have hsP := hbz.size
      replace hbz := fr_call hbz hb1
      (try replace hR := hR.keep hb1)
      (try replace hB := hB.keep hb1)
      clear hb1
      obtain ⟨pq, hpq⟩ : ∃ q, wz.heap.size = q := ⟨_, rfl⟩
      (try rw [hpq])
      rw [hpq] at hP hsP
      clear hpq
      generalize wz.alloc (.cells #[.pointer none] 108) = wz at *
      refine hK.out _ _ (hkS _ hbz) (fun hHeld => ?_)
      clear hK K
      (try simp only [Act.put, List.setIfInBounds_toArray, List.set_cons_zero, List.set_cons_succ])
      refine wpAnyH_ready (rs := [15]) (by kernel_rfl) (by simp) ?_
      refine (AllReadyH.cons (o := ⟨none, .store 108 (.tmp 5) (.tmp 21), 0, "desk.go:266", #[⟨14, .data⟩, ⟨13, .data⟩, ⟨6, .chain⟩, ⟨0, .phase⟩, ⟨1, .phase⟩, ⟨2, .phase⟩, ⟨3, .phase⟩, ⟨4, .phase⟩, ⟨5, .phase⟩, ⟨6, .phase⟩, ⟨7, .phase⟩, ⟨8, .phase⟩, ⟨9, .phase⟩, ⟨10, .phase⟩, ⟨11, .phase⟩, ⟨12, .phase⟩, ⟨13, .phase⟩, ⟨14, .phase⟩], none⟩) rfl (fun K hK => ?_) AllReadyH.nil)
      rw [if_pos (by rfl)]
      have hcz := hP.cell 0
      have hfz := hP.frozen 0
      go_simp
      have hP2 := hP.set_ 0 (.pointer (some ⟨bq, 0, none⟩))
      have hgs := grown_set wz ⟨pq, 0, none⟩ (.pointer (some ⟨bq, 0, none⟩))
      have hx : Exc (fun i => i = pq) wz (wz.setCell ⟨pq, 0, none⟩ (.pointer (some ⟨bq, 0, none⟩))) := (Exc.refl (fun i => i = pq) wz).set (p := ⟨pq, 0, none⟩) (Or.inl rfl) _
      have hbF := hbz.grown hgs hbz.size (by intro k hk; cases hk; exact hsP)
      refine hK.out _ _ (hkS _ hbF) (fun hHeld => ?_)
      clear hK K
      refine wpAnyH_done (by kernel_rfl) ?_ _
      refine NoPanic.normal ?_
      have hne : bq ≠ pq := fun e => by
       rw [e] at hB
       unfold Blk at hB hP
       rw [hB] at hP
       cases hP
      have hfin : StateAt (wz.setCell ⟨pq, 0, none⟩ (.pointer (some ⟨bq, 0, none⟩))) bq B1 B2 B3 B4 B5 B6 n1 k1 n2 k2 k3 n4 k4 n5 k5 n6 k6 wm br hr wg pc lim ep mn md ma yr D m dc (.map (some mq)) ls hs tg ho cy fe fs f := ⟨hx.blk hB hne, hR.other hP hx, hfm, hcap, HY.out.keep hbF⟩
      go_wp2_with fail
      go_meet
      case rel => exact ⟨pq, bq, B1, B2, B3, B4, B5, B6, k1, k2, k3, k4, k5, k6, _, rfl, hP2, hfin, hsB, hbF⟩
     ·rw [if_pos (by rfl)]
      go_simp
      have hb1 := fr_alloc (fr_refl wz) (.cells #[.pointer none] 108)
      have hP := Blk.new wz 108 #[.pointer none]
      have hsP := hbz.size
      replace hbz := fr_call hbz hb1
      (try replace hR := hR.keep hb1)
      (try replace hB := hB.keep hb1)
      clear hb1
      obtain ⟨pq, hpq⟩ : ∃ q, wz.heap.size = q := ⟨_, rfl⟩
      (try rw [hpq])
      rw [hpq] at hP hsP
      clear hpq
      generalize wz.alloc (.cells #[.pointer none] 108) = wz at *
      refine hK.out _ _ (hkS _ hbz) (fun hHeld => ?_)
      clear hK K
      (try simp only [Act.put, List.setIfInBounds_toArray, List.set_cons_zero, List.set_cons_succ])
      refine wpAnyH_ready (rs := [13]) (by kernel_rfl) (by simp) ?_
      refine (AllReadyH.cons (o := ⟨some 21, .box 203 (.tmp 20), 108, "desk.go:266", #[⟨12, .data⟩], none⟩) rfl (fun K hK => ?_) AllReadyH.nil)
      rw [if_pos (by rfl)]
      go_simp
      have hb1 := fr_alloc (fr_refl wz) (.cells #[.slice B1 n1 k1, .slice B2 n2 k2, .slice B3 n2 k3, .int .i64 lim, .int .i64 wm, .slice B4 n4 k4, .int .i64 ep, .slice B5 n5 k5, .int .i64 mn, .int .i64 md, .int .i64 ma, .slice B6 n6 k6, .int .i64 yr, .int .i64 br, .int .i64 hr, .int .i64 wg, .int .i64 pc, .slice D m dc, .slice none 0 0, .map (some mq), .int .i64 0, .slice none 0 0] 203)
      have hB := Blk.new wz 203 #[.slice B1 n1 k1, .slice B2 n2 k2, .slice B3 n2 k3, .int .i64 lim, .int .i64 wm, .slice B4 n4 k4, .int .i64 ep, .slice B5 n5 k5, .int .i64 mn, .int .i64 md, .int .i64 ma, .slice B6 n6 k6, .int .i64 yr, .int .i64 br, .int .i64 hr, .int .i64 wg, .int .i64 pc, .slice D m dc, .slice none 0 0, .map (some mq), .int .i64 0, .slice none 0 0]
      have hsB := hbz.size
      replace hbz := fr_call hbz hb1
      (try replace hP := hP.keep hb1)
      replace hR := hR.keep hb1
      clear hb1
      obtain ⟨bq, hbq⟩ : ∃ q, wz.heap.size = q := ⟨_, rfl⟩
      (try rw [hbq])
      rw [hbq] at hB hsB
      clear hbq
      generalize wz.alloc (.cells #[.slice B1 n1 k1, .slice B2 n2 k2, .slice B3 n2 k3, .int .i64 lim, .int .i64 wm, .slice B4 n4 k4, .int .i64 ep, .slice B5 n5 k5, .int .i64 mn, .int .i64 md, .int .i64 ma, .slice B6 n6 k6, .int .i64 yr, .int .i64 br, .int .i64 hr, .int .i64 wg, .int .i64 pc, .slice D m dc, .slice none 0 0, .map (some mq), .int .i64 0, .slice none 0 0] 203) = wz at *
      refine hK.out _ _ (hkS _ hbz) (fun hHeld => ?_)
      clear hK K
      (try simp only [Act.put, List.setIfInBounds_toArray, List.set_cons_zero, List.set_cons_succ])
      refine wpAnyH_ready (rs := [15]) (by kernel_rfl) (by simp) ?_
      refine (AllReadyH.cons (o := ⟨none, .store 108 (.tmp 5) (.tmp 21), 0, "desk.go:266", #[⟨14, .data⟩, ⟨13, .data⟩, ⟨6, .chain⟩, ⟨0, .phase⟩, ⟨1, .phase⟩, ⟨2, .phase⟩, ⟨3, .phase⟩, ⟨4, .phase⟩, ⟨5, .phase⟩, ⟨6, .phase⟩, ⟨7, .phase⟩, ⟨8, .phase⟩, ⟨9, .phase⟩, ⟨10, .phase⟩, ⟨11, .phase⟩, ⟨12, .phase⟩, ⟨13, .phase⟩, ⟨14, .phase⟩], none⟩) rfl (fun K hK => ?_) AllReadyH.nil)
      rw [if_pos (by rfl)]
      have hcz := hP.cell 0
      have hfz := hP.frozen 0
      go_simp
      have hP2 := hP.set_ 0 (.pointer (some ⟨bq, 0, none⟩))
      have hgs := grown_set wz ⟨pq, 0, none⟩ (.pointer (some ⟨bq, 0, none⟩))
      have hx : Exc (fun i => i = pq) wz (wz.setCell ⟨pq, 0, none⟩ (.pointer (some ⟨bq, 0, none⟩))) := (Exc.refl (fun i => i = pq) wz).set (p := ⟨pq, 0, none⟩) (Or.inl rfl) _
      have hbF := hbz.grown hgs hbz.size (by intro k hk; cases hk; exact hsP)
      refine hK.out _ _ (hkS _ hbF) (fun hHeld => ?_)
      clear hK K
      refine wpAnyH_done (by kernel_rfl) ?_ _
      refine NoPanic.normal ?_
      have hne : bq ≠ pq := fun e => by
       rw [e] at hB
       unfold Blk at hB hP
       rw [hB] at hP
       cases hP
      have hfin : StateAt (wz.setCell ⟨pq, 0, none⟩ (.pointer (some ⟨bq, 0, none⟩))) bq B1 B2 B3 B4 B5 B6 n1 k1 n2 k2 k3 n4 k4 n5 k5 n6 k6 wm br hr wg pc lim ep mn md ma yr D m dc (.map (some mq)) ls hs tg ho cy fe fs f := ⟨hx.blk hB hne, hR.other hP hx, hfm, hcap, HY.out.keep hbF⟩
      go_wp2_with fail
      go_meet
      case rel => exact ⟨pq, bq, B1, B2, B3, B4, B5, B6, k1, k2, k3, k4, k5, k6, _, rfl, hP2, hfin, hsB, hbF⟩
    ·rw [if_pos (by rfl)]
     go_simp
     have hb1 := fr_alloc (fr_refl wz) (.cells #[.pointer none] 108)
     have hP := Blk.new wz 108 #[.pointer none]
     have hsP := hbz.size
     replace hbz := fr_call hbz hb1
     (try replace hR := hR.keep hb1)
     (try replace hB := hB.keep hb1)
     clear hb1
     obtain ⟨pq, hpq⟩ : ∃ q, wz.heap.size = q := ⟨_, rfl⟩
     (try rw [hpq])
     rw [hpq] at hP hsP
     clear hpq
     generalize wz.alloc (.cells #[.pointer none] 108) = wz at *
     refine hK.out _ _ (hkS _ hbz) (fun hHeld => ?_)
     clear hK K
     (try simp only [Act.put, List.setIfInBounds_toArray, List.set_cons_zero, List.set_cons_succ])
     refine wpAnyH_ready (rs := [11]) (by kernel_rfl) (by simp) ?_
     refine (AllReadyH.cons (o := ⟨some 19, .makeMap 201 none, 201, "desk.go:266", #[], none⟩) rfl (fun K hK => ?_) AllReadyH.nil)
     rw [if_pos (by rfl)]
     go_simp
     have hb1 := fr_alloc (fr_refl wz) (.map #[] 0)
     obtain ⟨mq, hmq⟩ : ∃ q, wz.heap.size = q := ⟨_, rfl⟩
     (try rw [hmq])
     (try rw [hmq] at hb1)
     replace hbz := fr_call hbz (by rw [hmq]; exact hb1)
     (try replace hP := hP.keep (by rw [hmq]; exact hb1))
     (try replace hR := hR.keep (by rw [hmq]; exact hb1))
     clear hmq hb1
     generalize wz.alloc (.map #[] 0) = wz at *
     refine hK.out _ _ (hkS _ hbz) (fun hHeld => ?_)
     clear hK K
     (try simp only [Act.put, List.setIfInBounds_toArray, List.set_cons_zero, List.set_cons_succ])
     refine wpAnyH_take (i := 12) (oi := ⟨some 20, .build 203 #[(0, .tmp 14), (1, .tmp 18), (3, .tmp 19)], 203, "desk.go:266", #[⟨6, .data⟩, ⟨10, .data⟩, ⟨11, .data⟩], none⟩) (v := ?_) rfl (by kernel_rfl) (by kernel_rfl) (by kernel_rfl) (fun _ _ _ h => h) (Or.inl ⟨by rfl, fun W hSw => ?_⟩) hHeld ?_
     rotate_left
     ·(try dsimp only at hSw); go_simp; (try with_reducible rfl)
     (try simp only [Act.put, List.setIfInBounds_toArray, List.set_cons_zero, List.set_cons_succ])
     refine wpAnyH_ready (rs := [13]) (by kernel_rfl) (by simp) ?_
     refine (AllReadyH.cons (o := ⟨some 21, .box 203 (.tmp 20), 108, "desk.go:266", #[⟨12, .data⟩], none⟩) rfl (fun K hK => ?_) AllReadyH.nil)
     rw [if_pos (by rfl)]
     go_simp
     have hb1 := fr_alloc (fr_refl wz) (.cells #[.slice B1 n1 k1, .slice B2 n2 k2, .slice B3 n2 k3, .int .i64 lim, .int .i64 wm, .slice B4 n4 k4, .int .i64 ep, .slice B5 n5 k5, .int .i64 mn, .int .i64 md, .int .i64 ma, .slice B6 n6 k6, .int .i64 yr, .int .i64 br, .int .i64 hr, .int .i64 wg, .int .i64 pc, .slice D m dc, .slice none 0 0, .map (some mq), .int .i64 0, .slice none 0 0] 203)
     have hB := Blk.new wz 203 #[.slice B1 n1 k1, .slice B2 n2 k2, .slice B3 n2 k3, .int .i64 lim, .int .i64 wm, .slice B4 n4 k4, .int .i64 ep, .slice B5 n5 k5, .int .i64 mn, .int .i64 md, .int .i64 ma, .slice B6 n6 k6, .int .i64 yr, .int .i64 br, .int .i64 hr, .int .i64 wg, .int .i64 pc, .slice D m dc, .slice none 0 0, .map (some mq), .int .i64 0, .slice none 0 0]
     have hsB := hbz.size
     replace hbz := fr_call hbz hb1
     (try replace hP := hP.keep hb1)
     replace hR := hR.keep hb1
     clear hb1
     obtain ⟨bq, hbq⟩ : ∃ q, wz.heap.size = q := ⟨_, rfl⟩
     (try rw [hbq])
     rw [hbq] at hB hsB
     clear hbq
     generalize wz.alloc (.cells #[.slice B1 n1 k1, .slice B2 n2 k2, .slice B3 n2 k3, .int .i64 lim, .int .i64 wm, .slice B4 n4 k4, .int .i64 ep, .slice B5 n5 k5, .int .i64 mn, .int .i64 md, .int .i64 ma, .slice B6 n6 k6, .int .i64 yr, .int .i64 br, .int .i64 hr, .int .i64 wg, .int .i64 pc, .slice D m dc, .slice none 0 0, .map (some mq), .int .i64 0, .slice none 0 0] 203) = wz at *
     refine hK.out _ _ (hkS _ hbz) (fun hHeld => ?_)
     clear hK K
     (try simp only [Act.put, List.setIfInBounds_toArray, List.set_cons_zero, List.set_cons_succ])
     refine wpAnyH_ready (rs := [15]) (by kernel_rfl) (by simp) ?_
     refine (AllReadyH.cons (o := ⟨none, .store 108 (.tmp 5) (.tmp 21), 0, "desk.go:266", #[⟨14, .data⟩, ⟨13, .data⟩, ⟨6, .chain⟩, ⟨0, .phase⟩, ⟨1, .phase⟩, ⟨2, .phase⟩, ⟨3, .phase⟩, ⟨4, .phase⟩, ⟨5, .phase⟩, ⟨6, .phase⟩, ⟨7, .phase⟩, ⟨8, .phase⟩, ⟨9, .phase⟩, ⟨10, .phase⟩, ⟨11, .phase⟩, ⟨12, .phase⟩, ⟨13, .phase⟩, ⟨14, .phase⟩], none⟩) rfl (fun K hK => ?_) AllReadyH.nil)
     rw [if_pos (by rfl)]
     have hcz := hP.cell 0
     have hfz := hP.frozen 0
     go_simp
     have hP2 := hP.set_ 0 (.pointer (some ⟨bq, 0, none⟩))
     have hgs := grown_set wz ⟨pq, 0, none⟩ (.pointer (some ⟨bq, 0, none⟩))
     have hx : Exc (fun i => i = pq) wz (wz.setCell ⟨pq, 0, none⟩ (.pointer (some ⟨bq, 0, none⟩))) := (Exc.refl (fun i => i = pq) wz).set (p := ⟨pq, 0, none⟩) (Or.inl rfl) _
     have hbF := hbz.grown hgs hbz.size (by intro k hk; cases hk; exact hsP)
     refine hK.out _ _ (hkS _ hbF) (fun hHeld => ?_)
     clear hK K
     refine wpAnyH_done (by kernel_rfl) ?_ _
     refine NoPanic.normal ?_
     have hne : bq ≠ pq := fun e => by
      rw [e] at hB
      unfold Blk at hB hP
      rw [hB] at hP
      cases hP
     have hfin : StateAt (wz.setCell ⟨pq, 0, none⟩ (.pointer (some ⟨bq, 0, none⟩))) bq B1 B2 B3 B4 B5 B6 n1 k1 n2 k2 k3 n4 k4 n5 k5 n6 k6 wm br hr wg pc lim ep mn md ma yr D m dc (.map (some mq)) ls hs tg ho cy fe fs f := ⟨hx.blk hB hne, hR.other hP hx, hfm, hcap, HY.out.keep hbF⟩
     go_wp2_with fail
     go_meet
     case rel => exact ⟨pq, bq, B1, B2, B3, B4, B5, B6, k1, k2, k3, k4, k5, k6, _, rfl, hP2, hfin, hsB, hbF⟩
   ·rw [if_pos (by rfl)]
    go_simp
    have hb1 := fr_alloc (fr_refl wz) (.map #[] 0)
    obtain ⟨mq, hmq⟩ : ∃ q, wz.heap.size = q := ⟨_, rfl⟩
    (try rw [hmq])
    (try rw [hmq] at hb1)
    replace hbz := fr_call hbz (by rw [hmq]; exact hb1)
    (try replace hP := hP.keep (by rw [hmq]; exact hb1))
    (try replace hR := hR.keep (by rw [hmq]; exact hb1))
    clear hmq hb1
    generalize wz.alloc (.map #[] 0) = wz at *
    refine hK.out _ _ (hkS _ hbz) (fun hHeld => ?_)
    clear hK K
    (try simp only [Act.put, List.setIfInBounds_toArray, List.set_cons_zero, List.set_cons_succ])
    refine wpAnyH_ready (rs := [6, 14]) (by kernel_rfl) (by simp) ?_
    refine (AllReadyH.cons (o := ⟨some 14, .call { callee := .value (.func 34), args := #[.tmp 13], argTypes := #[35] }, 35, "desk.go:266", #[⟨5, .data⟩], none⟩) rfl (fun K hK => ?_) (AllReadyH.cons (o := ⟨some 5, .alloc 108, 0, "desk.go:266", #[], none⟩) rfl (fun K hK => ?_) AllReadyH.nil))
    ·rw [if_pos (by rfl)]
     go_simp
     refine (K1 _ hbz).mono ?_
     rintro e' wz ⟨B1, B2, B3, B4, B5, B6, k1, k2, k3, k4, k5, k6, rfl, hR, hfm, hcap, hb1⟩
     replace hbz := fr_call hbz hb1
     (try replace hP := hP.keep hb1)
     refine hK.out _ _ (hkS _ hbz) (fun hHeld => ?_)
     clear hK K
     (try simp only [Act.put, List.setIfInBounds_toArray, List.set_cons_zero, List.set_cons_succ])
     refine wpAnyH_take (i := 12) (oi := ⟨some 20, .build 203 #[(0, .tmp 14), (1, .tmp 18), (3, .tmp 19)], 203, "desk.go:266", #[⟨6, .data⟩, ⟨10, .data⟩, ⟨11, .data⟩], none⟩) (v := ?_) rfl (by kernel_rfl) (by kernel_rfl) (by kernel_rfl) (fun _ _ _ h => h) (Or.inl ⟨by rfl, fun W hSw => ?_⟩) hHeld ?_
     rotate_left
     ·(try dsimp only at hSw); go_simp; (try with_reducible rfl)
     (try simp only [Act.put, List.setIfInBounds_toArray, List.set_cons_zero, List.set_cons_succ])
     refine wpAnyH_ready (rs := [13, 14]) (by kernel_rfl) (by simp) ?_
     refine (AllReadyH.cons (o := ⟨some 21, .box 203 (.tmp 20), 108, "desk.go:266", #[⟨12, .data⟩], none⟩) rfl (fun K hK => ?_) (AllReadyH.cons (o := ⟨some 5, .alloc 108, 0, "desk.go:266", #[], none⟩) rfl (fun K hK => ?_) AllReadyH.nil))
     ·rw [if_pos (by rfl)]
      go_simp
      have hb1 := fr_alloc (fr_refl wz) (.cells #[.slice B1 n1 k1, .slice B2 n2 k2, .slice B3 n2 k3, .int .i64 lim, .int .i64 wm, .slice B4 n4 k4, .int .i64 ep, .slice B5 n5 k5, .int .i64 mn, .int .i64 md, .int .i64 ma, .slice B6 n6 k6, .int .i64 yr, .int .i64 br, .int .i64 hr, .int .i64 wg, .int .i64 pc, .slice D m dc, .slice none 0 0, .map (some mq), .int .i64 0, .slice none 0 0] 203)
      have hB := Blk.new wz 203 #[.slice B1 n1 k1, .slice B2 n2 k2, .slice B3 n2 k3, .int .i64 lim, .int .i64 wm, .slice B4 n4 k4, .int .i64 ep, .slice B5 n5 k5, .int .i64 mn, .int .i64 md, .int .i64 ma, .slice B6 n6 k6, .int .i64 yr, .int .i64 br, .int .i64 hr, .int .i64 wg, .int .i64 pc, .slice D m dc, .slice none 0 0, .map (some mq), .int .i64 0, .slice none 0 0]
      have hsB := hbz.size
      replace hbz := fr_call hbz hb1
      (try replace hP := hP.keep hb1)
      replace hR := hR.keep hb1
      clear hb1
      obtain ⟨bq, hbq⟩ : ∃ q, wz.heap.size = q := ⟨_, rfl⟩
      (try rw [hbq])
      rw [hbq] at hB hsB
      clear hbq
      generalize wz.alloc (.cells #[.slice B1 n1 k1, .slice B2 n2 k2, .slice B3 n2 k3, .int .i64 lim, .int .i64 wm, .slice B4 n4 k4, .int .i64 ep, .slice B5 n5 k5, .int .i64 mn, .int .i64 md, .int .i64 ma, .slice B6 n6 k6, .int .i64 yr, .int .i64 br, .int .i64 hr, .int .i64 wg, .int .i64 pc, .slice D m dc, .slice none 0 0, .map (some mq), .int .i64 0, .slice none 0 0] 203) = wz at *
      refine hK.out _ _ (hkS _ hbz) (fun hHeld => ?_)
      clear hK K
      (try simp only [Act.put, List.setIfInBounds_toArray, List.set_cons_zero, List.set_cons_succ])
      refine wpAnyH_ready (rs := [14]) (by kernel_rfl) (by simp) ?_
      refine (AllReadyH.cons (o := ⟨some 5, .alloc 108, 0, "desk.go:266", #[], none⟩) rfl (fun K hK => ?_) AllReadyH.nil)
      rw [if_pos (by rfl)]
      go_simp
      have hb1 := fr_alloc (fr_refl wz) (.cells #[.pointer none] 108)
      have hP := Blk.new wz 108 #[.pointer none]
      have hsP := hbz.size
      replace hbz := fr_call hbz hb1
      (try replace hR := hR.keep hb1)
      (try replace hB := hB.keep hb1)
      clear hb1
      obtain ⟨pq, hpq⟩ : ∃ q, wz.heap.size = q := ⟨_, rfl⟩
      (try rw [hpq])
      rw [hpq] at hP hsP
      clear hpq
      generalize wz.alloc (.cells #[.pointer none] 108) = wz at *
      refine hK.out _ _ (hkS _ hbz) (fun hHeld => ?_)
      clear hK K
      (try simp only [Act.put, List.setIfInBounds_toArray, List.set_cons_zero, List.set_cons_succ])
      refine wpAnyH_ready (rs := [15]) (by kernel_rfl) (by simp) ?_
      refine (AllReadyH.cons (o := ⟨none, .store 108 (.tmp 5) (.tmp 21), 0, "desk.go:266", #[⟨14, .data⟩, ⟨13, .data⟩, ⟨6, .chain⟩, ⟨0, .phase⟩, ⟨1, .phase⟩, ⟨2, .phase⟩, ⟨3, .phase⟩, ⟨4, .phase⟩, ⟨5, .phase⟩, ⟨6, .phase⟩, ⟨7, .phase⟩, ⟨8, .phase⟩, ⟨9, .phase⟩, ⟨10, .phase⟩, ⟨11, .phase⟩, ⟨12, .phase⟩, ⟨13, .phase⟩, ⟨14, .phase⟩], none⟩) rfl (fun K hK => ?_) AllReadyH.nil)
      rw [if_pos (by rfl)]
      have hcz := hP.cell 0
      have hfz := hP.frozen 0
      go_simp
      have hP2 := hP.set_ 0 (.pointer (some ⟨bq, 0, none⟩))
      have hgs := grown_set wz ⟨pq, 0, none⟩ (.pointer (some ⟨bq, 0, none⟩))
      have hx : Exc (fun i => i = pq) wz (wz.setCell ⟨pq, 0, none⟩ (.pointer (some ⟨bq, 0, none⟩))) := (Exc.refl (fun i => i = pq) wz).set (p := ⟨pq, 0, none⟩) (Or.inl rfl) _
      have hbF := hbz.grown hgs hbz.size (by intro k hk; cases hk; exact hsP)
      refine hK.out _ _ (hkS _ hbF) (fun hHeld => ?_)
      clear hK K
      refine wpAnyH_done (by kernel_rfl) ?_ _
      refine NoPanic.normal ?_
      have hne : bq ≠ pq := fun e => by
       rw [e] at hB
       unfold Blk at hB hP
       rw [hB] at hP
       cases hP
      have hfin : StateAt (wz.setCell ⟨pq, 0, none⟩ (.pointer (some ⟨bq, 0, none⟩))) bq B1 B2 B3 B4 B5 B6 n1 k1 n2 k2 k3 n4 k4 n5 k5 n6 k6 wm br hr wg pc lim ep mn md ma yr D m dc (.map (some mq)) ls hs tg ho cy fe fs f := ⟨hx.blk hB hne, hR.other hP hx, hfm, hcap, HY.out.keep hbF⟩
      go_wp2_with fail
      go_meet
      case rel => exact ⟨pq, bq, B1, B2, B3, B4, B5, B6, k1, k2, k3, k4, k5, k6, _, rfl, hP2, hfin, hsB, hbF⟩
     ·rw [if_pos (by rfl)]
      go_simp
      have hb1 := fr_alloc (fr_refl wz) (.cells #[.pointer none] 108)
      have hP := Blk.new wz 108 #[.pointer none]
      have hsP := hbz.size
      replace hbz := fr_call hbz hb1
      (try replace hR := hR.keep hb1)
      (try replace hB := hB.keep hb1)
      clear hb1
      obtain ⟨pq, hpq⟩ : ∃ q, wz.heap.size = q := ⟨_, rfl⟩
      (try rw [hpq])
      rw [hpq] at hP hsP
      clear hpq
      generalize wz.alloc (.cells #[.pointer none] 108) = wz at *
      refine hK.out _ _ (hkS _ hbz) (fun hHeld => ?_)
      clear hK K
      (try simp only [Act.put, List.setIfInBounds_toArray, List.set_cons_zero, List.set_cons_succ])
      refine wpAnyH_ready (rs := [13]) (by kernel_rfl) (by simp) ?_
      refine (AllReadyH.cons (o := ⟨some 21, .box 203 (.tmp 20), 108, "desk.go:266", #[⟨12, .data⟩], none⟩) rfl (fun K hK => ?_) AllReadyH.nil)
      rw [if_pos (by rfl)]
      go_simp
      have hb1 := fr_alloc (fr_refl wz) (.cells #[.slice B1 n1 k1, .slice B2 n2 k2, .slice B3 n2 k3, .int .i64 lim, .int .i64 wm, .slice B4 n4 k4, .int .i64 ep, .slice B5 n5 k5, .int .i64 mn, .int .i64 md, .int .i64 ma, .slice B6 n6 k6, .int .i64 yr, .int .i64 br, .int .i64 hr, .int .i64 wg, .int .i64 pc, .slice D m dc, .slice none 0 0, .map (some mq), .int .i64 0, .slice none 0 0] 203)
      have hB := Blk.new wz 203 #[.slice B1 n1 k1, .slice B2 n2 k2, .slice B3 n2 k3, .int .i64 lim, .int .i64 wm, .slice B4 n4 k4, .int .i64 ep, .slice B5 n5 k5, .int .i64 mn, .int .i64 md, .int .i64 ma, .slice B6 n6 k6, .int .i64 yr, .int .i64 br, .int .i64 hr, .int .i64 wg, .int .i64 pc, .slice D m dc, .slice none 0 0, .map (some mq), .int .i64 0, .slice none 0 0]
      have hsB := hbz.size
      replace hbz := fr_call hbz hb1
      (try replace hP := hP.keep hb1)
      replace hR := hR.keep hb1
      clear hb1
      obtain ⟨bq, hbq⟩ : ∃ q, wz.heap.size = q := ⟨_, rfl⟩
      (try rw [hbq])
      rw [hbq] at hB hsB
      clear hbq
      generalize wz.alloc (.cells #[.slice B1 n1 k1, .slice B2 n2 k2, .slice B3 n2 k3, .int .i64 lim, .int .i64 wm, .slice B4 n4 k4, .int .i64 ep, .slice B5 n5 k5, .int .i64 mn, .int .i64 md, .int .i64 ma, .slice B6 n6 k6, .int .i64 yr, .int .i64 br, .int .i64 hr, .int .i64 wg, .int .i64 pc, .slice D m dc, .slice none 0 0, .map (some mq), .int .i64 0, .slice none 0 0] 203) = wz at *
      refine hK.out _ _ (hkS _ hbz) (fun hHeld => ?_)
      clear hK K
      (try simp only [Act.put, List.setIfInBounds_toArray, List.set_cons_zero, List.set_cons_succ])
      refine wpAnyH_ready (rs := [15]) (by kernel_rfl) (by simp) ?_
      refine (AllReadyH.cons (o := ⟨none, .store 108 (.tmp 5) (.tmp 21), 0, "desk.go:266", #[⟨14, .data⟩, ⟨13, .data⟩, ⟨6, .chain⟩, ⟨0, .phase⟩, ⟨1, .phase⟩, ⟨2, .phase⟩, ⟨3, .phase⟩, ⟨4, .phase⟩, ⟨5, .phase⟩, ⟨6, .phase⟩, ⟨7, .phase⟩, ⟨8, .phase⟩, ⟨9, .phase⟩, ⟨10, .phase⟩, ⟨11, .phase⟩, ⟨12, .phase⟩, ⟨13, .phase⟩, ⟨14, .phase⟩], none⟩) rfl (fun K hK => ?_) AllReadyH.nil)
      rw [if_pos (by rfl)]
      have hcz := hP.cell 0
      have hfz := hP.frozen 0
      go_simp
      have hP2 := hP.set_ 0 (.pointer (some ⟨bq, 0, none⟩))
      have hgs := grown_set wz ⟨pq, 0, none⟩ (.pointer (some ⟨bq, 0, none⟩))
      have hx : Exc (fun i => i = pq) wz (wz.setCell ⟨pq, 0, none⟩ (.pointer (some ⟨bq, 0, none⟩))) := (Exc.refl (fun i => i = pq) wz).set (p := ⟨pq, 0, none⟩) (Or.inl rfl) _
      have hbF := hbz.grown hgs hbz.size (by intro k hk; cases hk; exact hsP)
      refine hK.out _ _ (hkS _ hbF) (fun hHeld => ?_)
      clear hK K
      refine wpAnyH_done (by kernel_rfl) ?_ _
      refine NoPanic.normal ?_
      have hne : bq ≠ pq := fun e => by
       rw [e] at hB
       unfold Blk at hB hP
       rw [hB] at hP
       cases hP
      have hfin : StateAt (wz.setCell ⟨pq, 0, none⟩ (.pointer (some ⟨bq, 0, none⟩))) bq B1 B2 B3 B4 B5 B6 n1 k1 n2 k2 k3 n4 k4 n5 k5 n6 k6 wm br hr wg pc lim ep mn md ma yr D m dc (.map (some mq)) ls hs tg ho cy fe fs f := ⟨hx.blk hB hne, hR.other hP hx, hfm, hcap, HY.out.keep hbF⟩
      go_wp2_with fail
      go_meet
      case rel => exact ⟨pq, bq, B1, B2, B3, B4, B5, B6, k1, k2, k3, k4, k5, k6, _, rfl, hP2, hfin, hsB, hbF⟩
    ·rw [if_pos (by rfl)]
     go_simp
     have hb1 := fr_alloc (fr_refl wz) (.cells #[.pointer none] 108)
     have hP := Blk.new wz 108 #[.pointer none]
     have hsP := hbz.size
     replace hbz := fr_call hbz hb1
     (try replace hR := hR.keep hb1)
     (try replace hB := hB.keep hb1)
     clear hb1
     obtain ⟨pq, hpq⟩ : ∃ q, wz.heap.size = q := ⟨_, rfl⟩
     (try rw [hpq])
     rw [hpq] at hP hsP
     clear hpq
     generalize wz.alloc (.cells #[.pointer none] 108) = wz at *
     refine hK.out _ _ (hkS _ hbz) (fun hHeld => ?_)
     clear hK K
     (try simp only [Act.put, List.setIfInBounds_toArray, List.set_cons_zero, List.set_cons_succ])
     refine wpAnyH_ready (rs := [6]) (by kernel_rfl) (by simp) ?_
     refine (AllReadyH.cons (o := ⟨some 14, .call { callee := .value (.func 34), args := #[.tmp 13], argTypes := #[35] }, 35, "desk.go:266", #[⟨5, .data⟩], none⟩) rfl (fun K hK => ?_) AllReadyH.nil)
     rw [if_pos (by rfl)]
     go_simp
     refine (K1 _ hbz).mono ?_
     rintro e' wz ⟨B1, B2, B3, B4, B5, B6, k1, k2, k3, k4, k5, k6, rfl, hR, hfm, hcap, hb1⟩
     replace hbz := fr_call hbz hb1
     (try replace hP := hP.keep hb1)
     refine hK.out _ _ (hkS _ hbz) (fun hHeld => ?_)
     clear hK K
     (try simp only [Act.put, List.setIfInBounds_toArray, List.set_cons_zero, List.set_cons_succ])
     refine wpAnyH_take (i := 12) (oi := ⟨some 20, .build 203 #[(0, .tmp 14), (1, .tmp 18), (3, .tmp 19)], 203, "desk.go:266", #[⟨6, .data⟩, ⟨10, .data⟩, ⟨11, .data⟩], none⟩) (v := ?_) rfl (by kernel_rfl) (by kernel_rfl) (by kernel_rfl) (fun _ _ _ h => h) (Or.inl ⟨by rfl, fun W hSw => ?_⟩) hHeld ?_
     rotate_left
     ·(try dsimp only at hSw); go_simp; (try with_reducible rfl)
     (try simp only [Act.put, List.setIfInBounds_toArray, List.set_cons_zero, List.set_cons_succ])
     refine wpAnyH_ready (rs := [13]) (by kernel_rfl) (by simp) ?_
     refine (AllReadyH.cons (o := ⟨some 21, .box 203 (.tmp 20), 108, "desk.go:266", #[⟨12, .data⟩], none⟩) rfl (fun K hK => ?_) AllReadyH.nil)
     rw [if_pos (by rfl)]
     go_simp
     have hb1 := fr_alloc (fr_refl wz) (.cells #[.slice B1 n1 k1, .slice B2 n2 k2, .slice B3 n2 k3, .int .i64 lim, .int .i64 wm, .slice B4 n4 k4, .int .i64 ep, .slice B5 n5 k5, .int .i64 mn, .int .i64 md, .int .i64 ma, .slice B6 n6 k6, .int .i64 yr, .int .i64 br, .int .i64 hr, .int .i64 wg, .int .i64 pc, .slice D m dc, .slice none 0 0, .map (some mq), .int .i64 0, .slice none 0 0] 203)
     have hB := Blk.new wz 203 #[.slice B1 n1 k1, .slice B2 n2 k2, .slice B3 n2 k3, .int .i64 lim, .int .i64 wm, .slice B4 n4 k4, .int .i64 ep, .slice B5 n5 k5, .int .i64 mn, .int .i64 md, .int .i64 ma, .slice B6 n6 k6, .int .i64 yr, .int .i64 br, .int .i64 hr, .int .i64 wg, .int .i64 pc, .slice D m dc, .slice none 0 0, .map (some mq), .int .i64 0, .slice none 0 0]
     have hsB := hbz.size
     replace hbz := fr_call hbz hb1
     (try replace hP := hP.keep hb1)
     replace hR := hR.keep hb1
     clear hb1
     obtain ⟨bq, hbq⟩ : ∃ q, wz.heap.size = q := ⟨_, rfl⟩
     (try rw [hbq])
     rw [hbq] at hB hsB
     clear hbq
     generalize wz.alloc (.cells #[.slice B1 n1 k1, .slice B2 n2 k2, .slice B3 n2 k3, .int .i64 lim, .int .i64 wm, .slice B4 n4 k4, .int .i64 ep, .slice B5 n5 k5, .int .i64 mn, .int .i64 md, .int .i64 ma, .slice B6 n6 k6, .int .i64 yr, .int .i64 br, .int .i64 hr, .int .i64 wg, .int .i64 pc, .slice D m dc, .slice none 0 0, .map (some mq), .int .i64 0, .slice none 0 0] 203) = wz at *
     refine hK.out _ _ (hkS _ hbz) (fun hHeld => ?_)
     clear hK K
     (try simp only [Act.put, List.setIfInBounds_toArray, List.set_cons_zero, List.set_cons_succ])
     refine wpAnyH_ready (rs := [15]) (by kernel_rfl) (by simp) ?_
     refine (AllReadyH.cons (o := ⟨none, .store 108 (.tmp 5) (.tmp 21), 0, "desk.go:266", #[⟨14, .data⟩, ⟨13, .data⟩, ⟨6, .chain⟩, ⟨0, .phase⟩, ⟨1, .phase⟩, ⟨2, .phase⟩, ⟨3, .phase⟩, ⟨4, .phase⟩, ⟨5, .phase⟩, ⟨6, .phase⟩, ⟨7, .phase⟩, ⟨8, .phase⟩, ⟨9, .phase⟩, ⟨10, .phase⟩, ⟨11, .phase⟩, ⟨12, .phase⟩, ⟨13, .phase⟩, ⟨14, .phase⟩], none⟩) rfl (fun K hK => ?_) AllReadyH.nil)
     rw [if_pos (by rfl)]
     have hcz := hP.cell 0
     have hfz := hP.frozen 0
     go_simp
     have hP2 := hP.set_ 0 (.pointer (some ⟨bq, 0, none⟩))
     have hgs := grown_set wz ⟨pq, 0, none⟩ (.pointer (some ⟨bq, 0, none⟩))
     have hx : Exc (fun i => i = pq) wz (wz.setCell ⟨pq, 0, none⟩ (.pointer (some ⟨bq, 0, none⟩))) := (Exc.refl (fun i => i = pq) wz).set (p := ⟨pq, 0, none⟩) (Or.inl rfl) _
     have hbF := hbz.grown hgs hbz.size (by intro k hk; cases hk; exact hsP)
     refine hK.out _ _ (hkS _ hbF) (fun hHeld => ?_)
     clear hK K
     refine wpAnyH_done (by kernel_rfl) ?_ _
     refine NoPanic.normal ?_
     have hne : bq ≠ pq := fun e => by
      rw [e] at hB
      unfold Blk at hB hP
      rw [hB] at hP
      cases hP
     have hfin : StateAt (wz.setCell ⟨pq, 0, none⟩ (.pointer (some ⟨bq, 0, none⟩))) bq B1 B2 B3 B4 B5 B6 n1 k1 n2 k2 k3 n4 k4 n5 k5 n6 k6 wm br hr wg pc lim ep mn md ma yr D m dc (.map (some mq)) ls hs tg ho cy fe fs f := ⟨hx.blk hB hne, hR.other hP hx, hfm, hcap, HY.out.keep hbF⟩
     go_wp2_with fail
     go_meet
     case rel => exact ⟨pq, bq, B1, B2, B3, B4, B5, B6, k1, k2, k3, k4, k5, k6, _, rfl, hP2, hfin, hsB, hbF⟩
   ·rw [if_pos (by rfl)]
    go_simp
    have hb1 := fr_alloc (fr_refl wz) (.cells #[.pointer none] 108)
    have hP := Blk.new wz 108 #[.pointer none]
    have hsP := hbz.size
    replace hbz := fr_call hbz hb1
    (try replace hR := hR.keep hb1)
    (try replace hB := hB.keep hb1)
    clear hb1
    obtain ⟨pq, hpq⟩ : ∃ q, wz.heap.size = q := ⟨_, rfl⟩
    (try rw [hpq])
    rw [hpq] at hP hsP
    clear hpq
    generalize wz.alloc (.cells #[.pointer none] 108) = wz at *
    refine hK.out _ _ (hkS _ hbz) (fun hHeld => ?_)
    clear hK K
    (try simp only [Act.put, List.setIfInBounds_toArray, List.set_cons_zero, List.set_cons_succ])
    refine wpAnyH_ready (rs := [6, 11]) (by kernel_rfl) (by simp) ?_
    refine (AllReadyH.cons (o := ⟨some 14, .call { callee := .value (.func 34), args := #[.tmp 13], argTypes := #[35] }, 35, "desk.go:266", #[⟨5, .data⟩], none⟩) rfl (fun K hK => ?_) (AllReadyH.cons (o := ⟨some 19, .makeMap 201 none, 201, "desk.go:266", #[], none⟩) rfl (fun K hK => ?_) AllReadyH.nil))
    ·rw [if_pos (by rfl)]
     go_simp
     refine (K1 _ hbz).mono ?_
     rintro e' wz ⟨B1, B2, B3, B4, B5, B6, k1, k2, k3, k4, k5, k6, rfl, hR, hfm, hcap, hb1⟩
     replace hbz := fr_call hbz hb1
     (try replace hP := hP.keep hb1)
     refine hK.out _ _ (hkS _ hbz) (fun hHeld => ?_)
     clear hK K
     (try simp only [Act.put, List.setIfInBounds_toArray, List.set_cons_zero, List.set_cons_succ])
     refine wpAnyH_ready (rs := [11]) (by kernel_rfl) (by simp) ?_
     refine (AllReadyH.cons (o := ⟨some 19, .makeMap 201 none, 201, "desk.go:266", #[], none⟩) rfl (fun K hK => ?_) AllReadyH.nil)
     rw [if_pos (by rfl)]
     go_simp
     have hb1 := fr_alloc (fr_refl wz) (.map #[] 0)
     obtain ⟨mq, hmq⟩ : ∃ q, wz.heap.size = q := ⟨_, rfl⟩
     (try rw [hmq])
     (try rw [hmq] at hb1)
     replace hbz := fr_call hbz (by rw [hmq]; exact hb1)
     (try replace hP := hP.keep (by rw [hmq]; exact hb1))
     (try replace hR := hR.keep (by rw [hmq]; exact hb1))
     clear hmq hb1
     generalize wz.alloc (.map #[] 0) = wz at *
     refine hK.out _ _ (hkS _ hbz) (fun hHeld => ?_)
     clear hK K
     (try simp only [Act.put, List.setIfInBounds_toArray, List.set_cons_zero, List.set_cons_succ])
     refine wpAnyH_take (i := 12) (oi := ⟨some 20, .build 203 #[(0, .tmp 14), (1, .tmp 18), (3, .tmp 19)], 203, "desk.go:266", #[⟨6, .data⟩, ⟨10, .data⟩, ⟨11, .data⟩], none⟩) (v := ?_) rfl (by kernel_rfl) (by kernel_rfl) (by kernel_rfl) (fun _ _ _ h => h) (Or.inl ⟨by rfl, fun W hSw => ?_⟩) hHeld ?_
     rotate_left
     ·(try dsimp only at hSw); go_simp; (try with_reducible rfl)
     (try simp only [Act.put, List.setIfInBounds_toArray, List.set_cons_zero, List.set_cons_succ])
     refine wpAnyH_ready (rs := [13]) (by kernel_rfl) (by simp) ?_
     refine (AllReadyH.cons (o := ⟨some 21, .box 203 (.tmp 20), 108, "desk.go:266", #[⟨12, .data⟩], none⟩) rfl (fun K hK => ?_) AllReadyH.nil)
     rw [if_pos (by rfl)]
     go_simp
     have hb1 := fr_alloc (fr_refl wz) (.cells #[.slice B1 n1 k1, .slice B2 n2 k2, .slice B3 n2 k3, .int .i64 lim, .int .i64 wm, .slice B4 n4 k4, .int .i64 ep, .slice B5 n5 k5, .int .i64 mn, .int .i64 md, .int .i64 ma, .slice B6 n6 k6, .int .i64 yr, .int .i64 br, .int .i64 hr, .int .i64 wg, .int .i64 pc, .slice D m dc, .slice none 0 0, .map (some mq), .int .i64 0, .slice none 0 0] 203)
     have hB := Blk.new wz 203 #[.slice B1 n1 k1, .slice B2 n2 k2, .slice B3 n2 k3, .int .i64 lim, .int .i64 wm, .slice B4 n4 k4, .int .i64 ep, .slice B5 n5 k5, .int .i64 mn, .int .i64 md, .int .i64 ma, .slice B6 n6 k6, .int .i64 yr, .int .i64 br, .int .i64 hr, .int .i64 wg, .int .i64 pc, .slice D m dc, .slice none 0 0, .map (some mq), .int .i64 0, .slice none 0 0]
     have hsB := hbz.size
     replace hbz := fr_call hbz hb1
     (try replace hP := hP.keep hb1)
     replace hR := hR.keep hb1
     clear hb1
     obtain ⟨bq, hbq⟩ : ∃ q, wz.heap.size = q := ⟨_, rfl⟩
     (try rw [hbq])
     rw [hbq] at hB hsB
     clear hbq
     generalize wz.alloc (.cells #[.slice B1 n1 k1, .slice B2 n2 k2, .slice B3 n2 k3, .int .i64 lim, .int .i64 wm, .slice B4 n4 k4, .int .i64 ep, .slice B5 n5 k5, .int .i64 mn, .int .i64 md, .int .i64 ma, .slice B6 n6 k6, .int .i64 yr, .int .i64 br, .int .i64 hr, .int .i64 wg, .int .i64 pc, .slice D m dc, .slice none 0 0, .map (some mq), .int .i64 0, .slice none 0 0] 203) = wz at *
     refine hK.out _ _ (hkS _ hbz) (fun hHeld => ?_)
     clear hK K
     (try simp only [Act.put, List.setIfInBounds_toArray, List.set_cons_zero, List.set_cons_succ])
     refine wpAnyH_ready (rs := [15]) (by kernel_rfl) (by simp) ?_
     refine (AllReadyH.cons (o := ⟨none, .store 108 (.tmp 5) (.tmp 21), 0, "desk.go:266", #[⟨14, .data⟩, ⟨13, .data⟩, ⟨6, .chain⟩, ⟨0, .phase⟩, ⟨1, .phase⟩, ⟨2, .phase⟩, ⟨3, .phase⟩, ⟨4, .phase⟩, ⟨5, .phase⟩, ⟨6, .phase⟩, ⟨7, .phase⟩, ⟨8, .phase⟩, ⟨9, .phase⟩, ⟨10, .phase⟩, ⟨11, .phase⟩, ⟨12, .phase⟩, ⟨13, .phase⟩, ⟨14, .phase⟩], none⟩) rfl (fun K hK => ?_) AllReadyH.nil)
     rw [if_pos (by rfl)]
     have hcz := hP.cell 0
     have hfz := hP.frozen 0
     go_simp
     have hP2 := hP.set_ 0 (.pointer (some ⟨bq, 0, none⟩))
     have hgs := grown_set wz ⟨pq, 0, none⟩ (.pointer (some ⟨bq, 0, none⟩))
     have hx : Exc (fun i => i = pq) wz (wz.setCell ⟨pq, 0, none⟩ (.pointer (some ⟨bq, 0, none⟩))) := (Exc.refl (fun i => i = pq) wz).set (p := ⟨pq, 0, none⟩) (Or.inl rfl) _
     have hbF := hbz.grown hgs hbz.size (by intro k hk; cases hk; exact hsP)
     refine hK.out _ _ (hkS _ hbF) (fun hHeld => ?_)
     clear hK K
     refine wpAnyH_done (by kernel_rfl) ?_ _
     refine NoPanic.normal ?_
     have hne : bq ≠ pq := fun e => by
      rw [e] at hB
      unfold Blk at hB hP
      rw [hB] at hP
      cases hP
     have hfin : StateAt (wz.setCell ⟨pq, 0, none⟩ (.pointer (some ⟨bq, 0, none⟩))) bq B1 B2 B3 B4 B5 B6 n1 k1 n2 k2 k3 n4 k4 n5 k5 n6 k6 wm br hr wg pc lim ep mn md ma yr D m dc (.map (some mq)) ls hs tg ho cy fe fs f := ⟨hx.blk hB hne, hR.other hP hx, hfm, hcap, HY.out.keep hbF⟩
     go_wp2_with fail
     go_meet
     case rel => exact ⟨pq, bq, B1, B2, B3, B4, B5, B6, k1, k2, k3, k4, k5, k6, _, rfl, hP2, hfin, hsB, hbF⟩
    ·rw [if_pos (by rfl)]
     go_simp
     have hb1 := fr_alloc (fr_refl wz) (.map #[] 0)
     obtain ⟨mq, hmq⟩ : ∃ q, wz.heap.size = q := ⟨_, rfl⟩
     (try rw [hmq])
     (try rw [hmq] at hb1)
     replace hbz := fr_call hbz (by rw [hmq]; exact hb1)
     (try replace hP := hP.keep (by rw [hmq]; exact hb1))
     (try replace hR := hR.keep (by rw [hmq]; exact hb1))
     clear hmq hb1
     generalize wz.alloc (.map #[] 0) = wz at *
     refine hK.out _ _ (hkS _ hbz) (fun hHeld => ?_)
     clear hK K
     (try simp only [Act.put, List.setIfInBounds_toArray, List.set_cons_zero, List.set_cons_succ])
     refine wpAnyH_ready (rs := [6]) (by kernel_rfl) (by simp) ?_
     refine (AllReadyH.cons (o := ⟨some 14, .call { callee := .value (.func 34), args := #[.tmp 13], argTypes := #[35] }, 35, "desk.go:266", #[⟨5, .data⟩], none⟩) rfl (fun K hK => ?_) AllReadyH.nil)
     rw [if_pos (by rfl)]
     go_simp
     refine (K1 _ hbz).mono ?_
     rintro e' wz ⟨B1, B2, B3, B4, B5, B6, k1, k2, k3, k4, k5, k6, rfl, hR, hfm, hcap, hb1⟩
     replace hbz := fr_call hbz hb1
     (try replace hP := hP.keep hb1)
     refine hK.out _ _ (hkS _ hbz) (fun hHeld => ?_)
     clear hK K
     (try simp only [Act.put, List.setIfInBounds_toArray, List.set_cons_zero, List.set_cons_succ])
     refine wpAnyH_take (i := 12) (oi := ⟨some 20, .build 203 #[(0, .tmp 14), (1, .tmp 18), (3, .tmp 19)], 203, "desk.go:266", #[⟨6, .data⟩, ⟨10, .data⟩, ⟨11, .data⟩], none⟩) (v := ?_) rfl (by kernel_rfl) (by kernel_rfl) (by kernel_rfl) (fun _ _ _ h => h) (Or.inl ⟨by rfl, fun W hSw => ?_⟩) hHeld ?_
     rotate_left
     ·(try dsimp only at hSw); go_simp; (try with_reducible rfl)
     (try simp only [Act.put, List.setIfInBounds_toArray, List.set_cons_zero, List.set_cons_succ])
     refine wpAnyH_ready (rs := [13]) (by kernel_rfl) (by simp) ?_
     refine (AllReadyH.cons (o := ⟨some 21, .box 203 (.tmp 20), 108, "desk.go:266", #[⟨12, .data⟩], none⟩) rfl (fun K hK => ?_) AllReadyH.nil)
     rw [if_pos (by rfl)]
     go_simp
     have hb1 := fr_alloc (fr_refl wz) (.cells #[.slice B1 n1 k1, .slice B2 n2 k2, .slice B3 n2 k3, .int .i64 lim, .int .i64 wm, .slice B4 n4 k4, .int .i64 ep, .slice B5 n5 k5, .int .i64 mn, .int .i64 md, .int .i64 ma, .slice B6 n6 k6, .int .i64 yr, .int .i64 br, .int .i64 hr, .int .i64 wg, .int .i64 pc, .slice D m dc, .slice none 0 0, .map (some mq), .int .i64 0, .slice none 0 0] 203)
     have hB := Blk.new wz 203 #[.slice B1 n1 k1, .slice B2 n2 k2, .slice B3 n2 k3, .int .i64 lim, .int .i64 wm, .slice B4 n4 k4, .int .i64 ep, .slice B5 n5 k5, .int .i64 mn, .int .i64 md, .int .i64 ma, .slice B6 n6 k6, .int .i64 yr, .int .i64 br, .int .i64 hr, .int .i64 wg, .int .i64 pc, .slice D m dc, .slice none 0 0, .map (some mq), .int .i64 0, .slice none 0 0]
     have hsB := hbz.size
     replace hbz := fr_call hbz hb1
     (try replace hP := hP.keep hb1)
     replace hR := hR.keep hb1
     clear hb1
     obtain ⟨bq, hbq⟩ : ∃ q, wz.heap.size = q := ⟨_, rfl⟩
     (try rw [hbq])
     rw [hbq] at hB hsB
     clear hbq
     generalize wz.alloc (.cells #[.slice B1 n1 k1, .slice B2 n2 k2, .slice B3 n2 k3, .int .i64 lim, .int .i64 wm, .slice B4 n4 k4, .int .i64 ep, .slice B5 n5 k5, .int .i64 mn, .int .i64 md, .int .i64 ma, .slice B6 n6 k6, .int .i64 yr, .int .i64 br, .int .i64 hr, .int .i64 wg, .int .i64 pc, .slice D m dc, .slice none 0 0, .map (some mq), .int .i64 0, .slice none 0 0] 203) = wz at *
     refine hK.out _ _ (hkS _ hbz) (fun hHeld => ?_)
     clear hK K
     (try simp only [Act.put, List.setIfInBounds_toArray, List.set_cons_zero, List.set_cons_succ])
     refine wpAnyH_ready (rs := [15]) (by kernel_rfl) (by simp) ?_
     refine (AllReadyH.cons (o := ⟨none, .store 108 (.tmp 5) (.tmp 21), 0, "desk.go:266", #[⟨14, .data⟩, ⟨13, .data⟩, ⟨6, .chain⟩, ⟨0, .phase⟩, ⟨1, .phase⟩, ⟨2, .phase⟩, ⟨3, .phase⟩, ⟨4, .phase⟩, ⟨5, .phase⟩, ⟨6, .phase⟩, ⟨7, .phase⟩, ⟨8, .phase⟩, ⟨9, .phase⟩, ⟨10, .phase⟩, ⟨11, .phase⟩, ⟨12, .phase⟩, ⟨13, .phase⟩, ⟨14, .phase⟩], none⟩) rfl (fun K hK => ?_) AllReadyH.nil)
     rw [if_pos (by rfl)]
     have hcz := hP.cell 0
     have hfz := hP.frozen 0
     go_simp
     have hP2 := hP.set_ 0 (.pointer (some ⟨bq, 0, none⟩))
     have hgs := grown_set wz ⟨pq, 0, none⟩ (.pointer (some ⟨bq, 0, none⟩))
     have hx : Exc (fun i => i = pq) wz (wz.setCell ⟨pq, 0, none⟩ (.pointer (some ⟨bq, 0, none⟩))) := (Exc.refl (fun i => i = pq) wz).set (p := ⟨pq, 0, none⟩) (Or.inl rfl) _
     have hbF := hbz.grown hgs hbz.size (by intro k hk; cases hk; exact hsP)
     refine hK.out _ _ (hkS _ hbF) (fun hHeld => ?_)
     clear hK K
     refine wpAnyH_done (by kernel_rfl) ?_ _
     refine NoPanic.normal ?_
     have hne : bq ≠ pq := fun e => by
      rw [e] at hB
      unfold Blk at hB hP
      rw [hB] at hP
      cases hP
     have hfin : StateAt (wz.setCell ⟨pq, 0, none⟩ (.pointer (some ⟨bq, 0, none⟩))) bq B1 B2 B3 B4 B5 B6 n1 k1 n2 k2 k3 n4 k4 n5 k5 n6 k6 wm br hr wg pc lim ep mn md ma yr D m dc (.map (some mq)) ls hs tg ho cy fe fs f := ⟨hx.blk hB hne, hR.other hP hx, hfm, hcap, HY.out.keep hbF⟩
     go_wp2_with fail
     go_meet
     case rel => exact ⟨pq, bq, B1, B2, B3, B4, B5, B6, k1, k2, k3, k4, k5, k6, _, rfl, hP2, hfin, hsB, hbF⟩
  ·rw [if_pos (by rfl)]
   go_simp
   have hb1 := fr_alloc (fr_refl wz) (.map #[] 0)
   obtain ⟨mq, hmq⟩ : ∃ q, wz.heap.size = q := ⟨_, rfl⟩
   (try rw [hmq])
   (try rw [hmq] at hb1)
   replace hbz := fr_call hbz (by rw [hmq]; exact hb1)
   (try replace hP := hP.keep (by rw [hmq]; exact hb1))
   (try replace hR := hR.keep (by rw [hmq]; exact hb1))
   clear hmq hb1
   generalize wz.alloc (.map #[] 0) = wz at *
   refine hK.out _ _ (hkS _ hbz) (fun hHeld => ?_)
   clear hK K
   (try simp only [Act.put, List.setIfInBounds_toArray, List.set_cons_zero, List.set_cons_succ])
   refine wpAnyH_ready (rs := [5, 14]) (by kernel_rfl) (by simp) ?_
   refine (AllReadyH.cons (o := ⟨some 13, .load 35 (.tmp 12), 35, "desk.go:266", #[⟨4, .data⟩], none⟩) rfl (fun K hK => ?_) (AllReadyH.cons (o := ⟨some 5, .alloc 108, 0, "desk.go:266", #[], none⟩) rfl (fun K hK => ?_) AllReadyH.nil))
   ·rw [if_pos (by rfl)]
    refine wp_load_blk 35 (.tmp 12) rfl gs rfl _ _ (HS.out.keep hbz) Tryz.underlying35 rfl (by kernel_rfl) ?_
    refine hK.out _ _ (hkS _ hbz) (fun hHeld => ?_)
    clear hK K
    (try simp only [Act.put, List.setIfInBounds_toArray, List.set_cons_zero, List.set_cons_succ])
    refine wpAnyH_ready (rs := [6, 14]) (by kernel_rfl) (by simp) ?_
    refine (AllReadyH.cons (o := ⟨some 14, .call { callee := .value (.func 34), args := #[.tmp 13], argTypes := #[35] }, 35, "desk.go:266", #[⟨5, .data⟩], none⟩) rfl (fun K hK => ?_) (AllReadyH.cons (o := ⟨some 5, .alloc 108, 0, "desk.go:266", #[], none⟩) rfl (fun K hK => ?_) AllReadyH.nil))
    ·rw [if_pos (by rfl)]
     go_simp
     refine (K1 _ hbz).mono ?_
     rintro e' wz ⟨B1, B2, B3, B4, B5, B6, k1, k2, k3, k4, k5, k6, rfl, hR, hfm, hcap, hb1⟩
     replace hbz := fr_call hbz hb1
     (try replace hP := hP.keep hb1)
     refine hK.out _ _ (hkS _ hbz) (fun hHeld => ?_)
     clear hK K
     (try simp only [Act.put, List.setIfInBounds_toArray, List.set_cons_zero, List.set_cons_succ])
     refine wpAnyH_take (i := 12) (oi := ⟨some 20, .build 203 #[(0, .tmp 14), (1, .tmp 18), (3, .tmp 19)], 203, "desk.go:266", #[⟨6, .data⟩, ⟨10, .data⟩, ⟨11, .data⟩], none⟩) (v := ?_) rfl (by kernel_rfl) (by kernel_rfl) (by kernel_rfl) (fun _ _ _ h => h) (Or.inl ⟨by rfl, fun W hSw => ?_⟩) hHeld ?_
     rotate_left
     ·(try dsimp only at hSw); go_simp; (try with_reducible rfl)
     (try simp only [Act.put, List.setIfInBounds_toArray, List.set_cons_zero, List.set_cons_succ])
     refine wpAnyH_ready (rs := [13, 14]) (by kernel_rfl) (by simp) ?_
     refine (AllReadyH.cons (o := ⟨some 21, .box 203 (.tmp 20), 108, "desk.go:266", #[⟨12, .data⟩], none⟩) rfl (fun K hK => ?_) (AllReadyH.cons (o := ⟨some 5, .alloc 108, 0, "desk.go:266", #[], none⟩) rfl (fun K hK => ?_) AllReadyH.nil))
     ·rw [if_pos (by rfl)]
      go_simp
      have hb1 := fr_alloc (fr_refl wz) (.cells #[.slice B1 n1 k1, .slice B2 n2 k2, .slice B3 n2 k3, .int .i64 lim, .int .i64 wm, .slice B4 n4 k4, .int .i64 ep, .slice B5 n5 k5, .int .i64 mn, .int .i64 md, .int .i64 ma, .slice B6 n6 k6, .int .i64 yr, .int .i64 br, .int .i64 hr, .int .i64 wg, .int .i64 pc, .slice D m dc, .slice none 0 0, .map (some mq), .int .i64 0, .slice none 0 0] 203)
      have hB := Blk.new wz 203 #[.slice B1 n1 k1, .slice B2 n2 k2, .slice B3 n2 k3, .int .i64 lim, .int .i64 wm, .slice B4 n4 k4, .int .i64 ep, .slice B5 n5 k5, .int .i64 mn, .int .i64 md, .int .i64 ma, .slice B6 n6 k6, .int .i64 yr, .int .i64 br, .int .i64 hr, .int .i64 wg, .int .i64 pc, .slice D m dc, .slice none 0 0, .map (some mq), .int .i64 0, .slice none 0 0]
      have hsB := hbz.size
      replace hbz := fr_call hbz hb1
      (try replace hP := hP.keep hb1)
      replace hR := hR.keep hb1
      clear hb1
      obtain ⟨bq, hbq⟩ : ∃ q, wz.heap.size = q := ⟨_, rfl⟩
      (try rw [hbq])
      rw [hbq] at hB hsB
      clear hbq
      generalize wz.alloc (.cells #[.slice B1 n1 k1, .slice B2 n2 k2, .slice B3 n2 k3, .int .i64 lim, .int .i64 wm, .slice B4 n4 k4, .int .i64 ep, .slice B5 n5 k5, .int .i64 mn, .int .i64 md, .int .i64 ma, .slice B6 n6 k6, .int .i64 yr, .int .i64 br, .int .i64 hr, .int .i64 wg, .int .i64 pc, .slice D m dc, .slice none 0 0, .map (some mq), .int .i64 0, .slice none 0 0] 203) = wz at *
      refine hK.out _ _ (hkS _ hbz) (fun hHeld => ?_)
      clear hK K
      (try simp only [Act.put, List.setIfInBounds_toArray, List.set_cons_zero, List.set_cons_succ])
      refine wpAnyH_ready (rs := [14]) (by kernel_rfl) (by simp) ?_
      refine (AllReadyH.cons (o := ⟨some 5, .alloc 108, 0, "desk.go:266", #[], none⟩) rfl (fun K hK => ?_) AllReadyH.nil)
      rw [if_pos (by rfl)]
      go_simp
      have hb1 := fr_alloc (fr_refl wz) (.cells #[.pointer none] 108)
      have hP := Blk.new wz 108 #[.pointer none]
      have hsP := hbz.size
      replace hbz := fr_call hbz hb1
      (try replace hR := hR.keep hb1)
      (try replace hB := hB.keep hb1)
      clear hb1
      obtain ⟨pq, hpq⟩ : ∃ q, wz.heap.size = q := ⟨_, rfl⟩
      (try rw [hpq])
      rw [hpq] at hP hsP
      clear hpq
      generalize wz.alloc (.cells #[.pointer none] 108) = wz at *
      refine hK.out _ _ (hkS _ hbz) (fun hHeld => ?_)
      clear hK K
      (try simp only [Act.put, List.setIfInBounds_toArray, List.set_cons_zero, List.set_cons_succ])
      refine wpAnyH_ready (rs := [15]) (by kernel_rfl) (by simp) ?_
      refine (AllReadyH.cons (o := ⟨none, .store 108 (.tmp 5) (.tmp 21), 0, "desk.go:266", #[⟨14, .data⟩, ⟨13, .data⟩, ⟨6, .chain⟩, ⟨0, .phase⟩, ⟨1, .phase⟩, ⟨2, .phase⟩, ⟨3, .phase⟩, ⟨4, .phase⟩, ⟨5, .phase⟩, ⟨6, .phase⟩, ⟨7, .phase⟩, ⟨8, .phase⟩, ⟨9, .phase⟩, ⟨10, .phase⟩, ⟨11, .phase⟩, ⟨12, .phase⟩, ⟨13, .phase⟩, ⟨14, .phase⟩], none⟩) rfl (fun K hK => ?_) AllReadyH.nil)
      rw [if_pos (by rfl)]
      have hcz := hP.cell 0
      have hfz := hP.frozen 0
      go_simp
      have hP2 := hP.set_ 0 (.pointer (some ⟨bq, 0, none⟩))
      have hgs := grown_set wz ⟨pq, 0, none⟩ (.pointer (some ⟨bq, 0, none⟩))
      have hx : Exc (fun i => i = pq) wz (wz.setCell ⟨pq, 0, none⟩ (.pointer (some ⟨bq, 0, none⟩))) := (Exc.refl (fun i => i = pq) wz).set (p := ⟨pq, 0, none⟩) (Or.inl rfl) _
      have hbF := hbz.grown hgs hbz.size (by intro k hk; cases hk; exact hsP)
      refine hK.out _ _ (hkS _ hbF) (fun hHeld => ?_)
      clear hK K
      refine wpAnyH_done (by kernel_rfl) ?_ _
      refine NoPanic.normal ?_
      have hne : bq ≠ pq := fun e => by
       rw [e] at hB
       unfold Blk at hB hP
       rw [hB] at hP
       cases hP
      have hfin : StateAt (wz.setCell ⟨pq, 0, none⟩ (.pointer (some ⟨bq, 0, none⟩))) bq B1 B2 B3 B4 B5 B6 n1 k1 n2 k2 k3 n4 k4 n5 k5 n6 k6 wm br hr wg pc lim ep mn md ma yr D m dc (.map (some mq)) ls hs tg ho cy fe fs f := ⟨hx.blk hB hne, hR.other hP hx, hfm, hcap, HY.out.keep hbF⟩
      go_wp2_with fail
      go_meet
      case rel => exact ⟨pq, bq, B1, B2, B3, B4, B5, B6, k1, k2, k3, k4, k5, k6, _, rfl, hP2, hfin, hsB, hbF⟩
     ·rw [if_pos (by rfl)]
      go_simp
      have hb1 := fr_alloc (fr_refl wz) (.cells #[.pointer none] 108)
      have hP := Blk.new wz 108 #[.pointer none]
      have hsP := hbz.size
      replace hbz := fr_call hbz hb1
      (try replace hR := hR.keep hb1)
      (try replace hB := hB.keep hb1)
      clear hb1
      obtain ⟨pq, hpq⟩ : ∃ q, wz.heap.size = q := ⟨_, rfl⟩
      (try rw [hpq])
      rw [hpq] at hP hsP
      clear hpq
      generalize wz.alloc (.cells #[.pointer none] 108) = wz at *
      refine hK.out _ _ (hkS _ hbz) (fun hHeld => ?_)
      clear hK K
      (try simp only [Act.put, List.setIfInBounds_toArray, List.set_cons_zero, List.set_cons_succ])
      refine wpAnyH_ready (rs := [13]) (by kernel_rfl) (by simp) ?_
      refine (AllReadyH.cons (o := ⟨some 21, .box 203 (.tmp 20), 108, "desk.go:266", #[⟨12, .data⟩], none⟩) rfl (fun K hK => ?_) AllReadyH.nil)
      rw [if_pos (by rfl)]
      go_simp
      have hb1 := fr_alloc (fr_refl wz) (.cells #[.slice B1 n1 k1, .slice B2 n2 k2, .slice B3 n2 k3, .int .i64 lim, .int .i64 wm, .slice B4 n4 k4, .int .i64 ep, .slice B5 n5 k5, .int .i64 mn, .int .i64 md, .int .i64 ma, .slice B6 n6 k6, .int .i64 yr, .int .i64 br, .int .i64 hr, .int .i64 wg, .int .i64 pc, .slice D m dc, .slice none 0 0, .map (some mq), .int .i64 0, .slice none 0 0] 203)
      have hB := Blk.new wz 203 #[.slice B1 n1 k1, .slice B2 n2 k2, .slice B3 n2 k3, .int .i64 lim, .int .i64 wm, .slice B4 n4 k4, .int .i64 ep, .slice B5 n5 k5, .int .i64 mn, .int .i64 md, .int .i64 ma, .slice B6 n6 k6, .int .i64 yr, .int .i64 br, .int .i64 hr, .int .i64 wg, .int .i64 pc, .slice D m dc, .slice none 0 0, .map (some mq), .int .i64 0, .slice none 0 0]
      have hsB := hbz.size
      replace hbz := fr_call hbz hb1
      (try replace hP := hP.keep hb1)
      replace hR := hR.keep hb1
      clear hb1
      obtain ⟨bq, hbq⟩ : ∃ q, wz.heap.size = q := ⟨_, rfl⟩
      (try rw [hbq])
      rw [hbq] at hB hsB
      clear hbq
      generalize wz.alloc (.cells #[.slice B1 n1 k1, .slice B2 n2 k2, .slice B3 n2 k3, .int .i64 lim, .int .i64 wm, .slice B4 n4 k4, .int .i64 ep, .slice B5 n5 k5, .int .i64 mn, .int .i64 md, .int .i64 ma, .slice B6 n6 k6, .int .i64 yr, .int .i64 br, .int .i64 hr, .int .i64 wg, .int .i64 pc, .slice D m dc, .slice none 0 0, .map (some mq), .int .i64 0, .slice none 0 0] 203) = wz at *
      refine hK.out _ _ (hkS _ hbz) (fun hHeld => ?_)
      clear hK K
      (try simp only [Act.put, List.setIfInBounds_toArray, List.set_cons_zero, List.set_cons_succ])
      refine wpAnyH_ready (rs := [15]) (by kernel_rfl) (by simp) ?_
      refine (AllReadyH.cons (o := ⟨none, .store 108 (.tmp 5) (.tmp 21), 0, "desk.go:266", #[⟨14, .data⟩, ⟨13, .data⟩, ⟨6, .chain⟩, ⟨0, .phase⟩, ⟨1, .phase⟩, ⟨2, .phase⟩, ⟨3, .phase⟩, ⟨4, .phase⟩, ⟨5, .phase⟩, ⟨6, .phase⟩, ⟨7, .phase⟩, ⟨8, .phase⟩, ⟨9, .phase⟩, ⟨10, .phase⟩, ⟨11, .phase⟩, ⟨12, .phase⟩, ⟨13, .phase⟩, ⟨14, .phase⟩], none⟩) rfl (fun K hK => ?_) AllReadyH.nil)
      rw [if_pos (by rfl)]
      have hcz := hP.cell 0
      have hfz := hP.frozen 0
      go_simp
      have hP2 := hP.set_ 0 (.pointer (some ⟨bq, 0, none⟩))
      have hgs := grown_set wz ⟨pq, 0, none⟩ (.pointer (some ⟨bq, 0, none⟩))
      have hx : Exc (fun i => i = pq) wz (wz.setCell ⟨pq, 0, none⟩ (.pointer (some ⟨bq, 0, none⟩))) := (Exc.refl (fun i => i = pq) wz).set (p := ⟨pq, 0, none⟩) (Or.inl rfl) _
      have hbF := hbz.grown hgs hbz.size (by intro k hk; cases hk; exact hsP)
      refine hK.out _ _ (hkS _ hbF) (fun hHeld => ?_)
      clear hK K
      refine wpAnyH_done (by kernel_rfl) ?_ _
      refine NoPanic.normal ?_
      have hne : bq ≠ pq := fun e => by
       rw [e] at hB
       unfold Blk at hB hP
       rw [hB] at hP
       cases hP
      have hfin : StateAt (wz.setCell ⟨pq, 0, none⟩ (.pointer (some ⟨bq, 0, none⟩))) bq B1 B2 B3 B4 B5 B6 n1 k1 n2 k2 k3 n4 k4 n5 k5 n6 k6 wm br hr wg pc lim ep mn md ma yr D m dc (.map (some mq)) ls hs tg ho cy fe fs f := ⟨hx.blk hB hne, hR.other hP hx, hfm, hcap, HY.out.keep hbF⟩
      go_wp2_with fail
      go_meet
      case rel => exact ⟨pq, bq, B1, B2, B3, B4, B5, B6, k1, k2, k3, k4, k5, k6, _, rfl, hP2, hfin, hsB, hbF⟩
    ·rw [if_pos (by rfl)]
     go_simp
     have hb1 := fr_alloc (fr_refl wz) (.cells #[.pointer none] 108)
     have hP := Blk.new wz 108 #[.pointer none]
     have hsP := hbz.size
     replace hbz := fr_call hbz hb1
     (try replace hR := hR.keep hb1)
     (try replace hB := hB.keep hb1)
     clear hb1
     obtain ⟨pq, hpq⟩ : ∃ q, wz.heap.size = q := ⟨_, rfl⟩
     (try rw [hpq])
     rw [hpq] at hP hsP
     clear hpq
     generalize wz.alloc (.cells #[.pointer none] 108) = wz at *
     refine hK.out _ _ (hkS _ hbz) (fun hHeld => ?_)
     clear hK K
     (try simp only [Act.put, List.setIfInBounds_toArray, List.set_cons_zero, List.set_cons_succ])
     refine wpAnyH_ready (rs := [6]) (by kernel_rfl) (by simp) ?_
     refine (AllReadyH.cons (o := ⟨some 14, .call { callee := .value (.func 34), args := #[.tmp 13], argTypes := #[35] }, 35, "desk.go:266", #[⟨5, .data⟩], none⟩) rfl (fun K hK => ?_) AllReadyH.nil)
     rw [if_pos (by rfl)]
     go_simp
     refine (K1 _ hbz).mono ?_
     rintro e' wz ⟨B1, B2, B3, B4, B5, B6, k1, k2, k3, k4, k5, k6, rfl, hR, hfm, hcap, hb1⟩
     replace hbz := fr_call hbz hb1
     (try replace hP := hP.keep hb1)
     refine hK.out _ _ (hkS _ hbz) (fun hHeld => ?_)
     clear hK K
     (try simp only [Act.put, List.setIfInBounds_toArray, List.set_cons_zero, List.set_cons_succ])
     refine wpAnyH_take (i := 12) (oi := ⟨some 20, .build 203 #[(0, .tmp 14), (1, .tmp 18), (3, .tmp 19)], 203, "desk.go:266", #[⟨6, .data⟩, ⟨10, .data⟩, ⟨11, .data⟩], none⟩) (v := ?_) rfl (by kernel_rfl) (by kernel_rfl) (by kernel_rfl) (fun _ _ _ h => h) (Or.inl ⟨by rfl, fun W hSw => ?_⟩) hHeld ?_
     rotate_left
     ·(try dsimp only at hSw); go_simp; (try with_reducible rfl)
     (try simp only [Act.put, List.setIfInBounds_toArray, List.set_cons_zero, List.set_cons_succ])
     refine wpAnyH_ready (rs := [13]) (by kernel_rfl) (by simp) ?_
     refine (AllReadyH.cons (o := ⟨some 21, .box 203 (.tmp 20), 108, "desk.go:266", #[⟨12, .data⟩], none⟩) rfl (fun K hK => ?_) AllReadyH.nil)
     rw [if_pos (by rfl)]
     go_simp
     have hb1 := fr_alloc (fr_refl wz) (.cells #[.slice B1 n1 k1, .slice B2 n2 k2, .slice B3 n2 k3, .int .i64 lim, .int .i64 wm, .slice B4 n4 k4, .int .i64 ep, .slice B5 n5 k5, .int .i64 mn, .int .i64 md, .int .i64 ma, .slice B6 n6 k6, .int .i64 yr, .int .i64 br, .int .i64 hr, .int .i64 wg, .int .i64 pc, .slice D m dc, .slice none 0 0, .map (some mq), .int .i64 0, .slice none 0 0] 203)
     have hB := Blk.new wz 203 #[.slice B1 n1 k1, .slice B2 n2 k2, .slice B3 n2 k3, .int .i64 lim, .int .i64 wm, .slice B4 n4 k4, .int .i64 ep, .slice B5 n5 k5, .int .i64 mn, .int .i64 md, .int .i64 ma, .slice B6 n6 k6, .int .i64 yr, .int .i64 br, .int .i64 hr, .int .i64 wg, .int .i64 pc, .slice D m dc, .slice none 0 0, .map (some mq), .int .i64 0, .slice none 0 0]
     have hsB := hbz.size
     replace hbz := fr_call hbz hb1
     (try replace hP := hP.keep hb1)
     replace hR := hR.keep hb1
     clear hb1
     obtain ⟨bq, hbq⟩ : ∃ q, wz.heap.size = q := ⟨_, rfl⟩
     (try rw [hbq])
     rw [hbq] at hB hsB
     clear hbq
     generalize wz.alloc (.cells #[.slice B1 n1 k1, .slice B2 n2 k2, .slice B3 n2 k3, .int .i64 lim, .int .i64 wm, .slice B4 n4 k4, .int .i64 ep, .slice B5 n5 k5, .int .i64 mn, .int .i64 md, .int .i64 ma, .slice B6 n6 k6, .int .i64 yr, .int .i64 br, .int .i64 hr, .int .i64 wg, .int .i64 pc, .slice D m dc, .slice none 0 0, .map (some mq), .int .i64 0, .slice none 0 0] 203) = wz at *
     refine hK.out _ _ (hkS _ hbz) (fun hHeld => ?_)
     clear hK K
     (try simp only [Act.put, List.setIfInBounds_toArray, List.set_cons_zero, List.set_cons_succ])
     refine wpAnyH_ready (rs := [15]) (by kernel_rfl) (by simp) ?_
     refine (AllReadyH.cons (o := ⟨none, .store 108 (.tmp 5) (.tmp 21), 0, "desk.go:266", #[⟨14, .data⟩, ⟨13, .data⟩, ⟨6, .chain⟩, ⟨0, .phase⟩, ⟨1, .phase⟩, ⟨2, .phase⟩, ⟨3, .phase⟩, ⟨4, .phase⟩, ⟨5, .phase⟩, ⟨6, .phase⟩, ⟨7, .phase⟩, ⟨8, .phase⟩, ⟨9, .phase⟩, ⟨10, .phase⟩, ⟨11, .phase⟩, ⟨12, .phase⟩, ⟨13, .phase⟩, ⟨14, .phase⟩], none⟩) rfl (fun K hK => ?_) AllReadyH.nil)
     rw [if_pos (by rfl)]
     have hcz := hP.cell 0
     have hfz := hP.frozen 0
     go_simp
     have hP2 := hP.set_ 0 (.pointer (some ⟨bq, 0, none⟩))
     have hgs := grown_set wz ⟨pq, 0, none⟩ (.pointer (some ⟨bq, 0, none⟩))
     have hx : Exc (fun i => i = pq) wz (wz.setCell ⟨pq, 0, none⟩ (.pointer (some ⟨bq, 0, none⟩))) := (Exc.refl (fun i => i = pq) wz).set (p := ⟨pq, 0, none⟩) (Or.inl rfl) _
     have hbF := hbz.grown hgs hbz.size (by intro k hk; cases hk; exact hsP)
     refine hK.out _ _ (hkS _ hbF) (fun hHeld => ?_)
     clear hK K
     refine wpAnyH_done (by kernel_rfl) ?_ _
     refine NoPanic.normal ?_
     have hne : bq ≠ pq := fun e => by
      rw [e] at hB
      unfold Blk at hB hP
      rw [hB] at hP
      cases hP
     have hfin : StateAt (wz.setCell ⟨pq, 0, none⟩ (.pointer (some ⟨bq, 0, none⟩))) bq B1 B2 B3 B4 B5 B6 n1 k1 n2 k2 k3 n4 k4 n5 k5 n6 k6 wm br hr wg pc lim ep mn md ma yr D m dc (.map (some mq)) ls hs tg ho cy fe fs f := ⟨hx.blk hB hne, hR.other hP hx, hfm, hcap, HY.out.keep hbF⟩
     go_wp2_with fail
     go_meet
     case rel => exact ⟨pq, bq, B1, B2, B3, B4, B5, B6, k1, k2, k3, k4, k5, k6, _, rfl, hP2, hfin, hsB, hbF⟩
   ·rw [if_pos (by rfl)]
    go_simp
    have hb1 := fr_alloc (fr_refl wz) (.cells #[.pointer none] 108)
    have hP := Blk.new wz 108 #[.pointer none]
    have hsP := hbz.size
    replace hbz := fr_call hbz hb1
    (try replace hR := hR.keep hb1)
    (try replace hB := hB.keep hb1)
    clear hb1
    obtain ⟨pq, hpq⟩ : ∃ q, wz.heap.size = q := ⟨_, rfl⟩
    (try rw [hpq])
    rw [hpq] at hP hsP
    clear hpq
    generalize wz.alloc (.cells #[.pointer none] 108) = wz at *
    refine hK.out _ _ (hkS _ hbz) (fun hHeld => ?_)
    clear hK K
    (try simp only [Act.put, List.setIfInBounds_toArray, List.set_cons_zero, List.set_cons_succ])
    refine wpAnyH_ready (rs := [5]) (by kernel_rfl) (by simp) ?_
    refine (AllReadyH.cons (o := ⟨some 13, .load 35 (.tmp 12), 35, "desk.go:266", #[⟨4, .data⟩], none⟩) rfl (fun K hK => ?_) AllReadyH.nil)
    rw [if_pos (by rfl)]
    refine wp_load_blk 35 (.tmp 12) rfl gs rfl _ _ (HS.out.keep hbz) Tryz.underlying35 rfl (by kernel_rfl) ?_
    refine hK.out _ _ (hkS _ hbz) (fun hHeld => ?_)
    clear hK K
    (try simp only [Act.put, List.setIfInBounds_toArray, List.set_cons_zero, List.set_cons_succ])
    refine wpAnyH_ready (rs := [6]) (by kernel_rfl) (by simp) ?_
    refine (AllReadyH.cons (o := ⟨some 14, .call { callee := .value (.func 34), args := #[.tmp 13], argTypes := #[35] }, 35, "desk.go:266", #[⟨5, .data⟩], none⟩) rfl (fun K hK => ?_) AllReadyH.nil)
    rw [if_pos (by rfl)]
    go_simp
    refine (K1 _ hbz).mono ?_
    rintro e' wz ⟨B1, B2, B3, B4, B5, B6, k1, k2, k3, k4, k5, k6, rfl, hR, hfm, hcap, hb1⟩
    replace hbz := fr_call hbz hb1
    (try replace hP := hP.keep hb1)
    refine hK.out _ _ (hkS _ hbz) (fun hHeld => ?_)
    clear hK K
    (try simp only [Act.put, List.setIfInBounds_toArray, List.set_cons_zero, List.set_cons_succ])
    refine wpAnyH_take (i := 12) (oi := ⟨some 20, .build 203 #[(0, .tmp 14), (1, .tmp 18), (3, .tmp 19)], 203, "desk.go:266", #[⟨6, .data⟩, ⟨10, .data⟩, ⟨11, .data⟩], none⟩) (v := ?_) rfl (by kernel_rfl) (by kernel_rfl) (by kernel_rfl) (fun _ _ _ h => h) (Or.inl ⟨by rfl, fun W hSw => ?_⟩) hHeld ?_
    rotate_left
    ·(try dsimp only at hSw); go_simp; (try with_reducible rfl)
    (try simp only [Act.put, List.setIfInBounds_toArray, List.set_cons_zero, List.set_cons_succ])
    refine wpAnyH_ready (rs := [13]) (by kernel_rfl) (by simp) ?_
    refine (AllReadyH.cons (o := ⟨some 21, .box 203 (.tmp 20), 108, "desk.go:266", #[⟨12, .data⟩], none⟩) rfl (fun K hK => ?_) AllReadyH.nil)
    rw [if_pos (by rfl)]
    go_simp
    have hb1 := fr_alloc (fr_refl wz) (.cells #[.slice B1 n1 k1, .slice B2 n2 k2, .slice B3 n2 k3, .int .i64 lim, .int .i64 wm, .slice B4 n4 k4, .int .i64 ep, .slice B5 n5 k5, .int .i64 mn, .int .i64 md, .int .i64 ma, .slice B6 n6 k6, .int .i64 yr, .int .i64 br, .int .i64 hr, .int .i64 wg, .int .i64 pc, .slice D m dc, .slice none 0 0, .map (some mq), .int .i64 0, .slice none 0 0] 203)
    have hB := Blk.new wz 203 #[.slice B1 n1 k1, .slice B2 n2 k2, .slice B3 n2 k3, .int .i64 lim, .int .i64 wm, .slice B4 n4 k4, .int .i64 ep, .slice B5 n5 k5, .int .i64 mn, .int .i64 md, .int .i64 ma, .slice B6 n6 k6, .int .i64 yr, .int .i64 br, .int .i64 hr, .int .i64 wg, .int .i64 pc, .slice D m dc, .slice none 0 0, .map (some mq), .int .i64 0, .slice none 0 0]
    have hsB := hbz.size
    replace hbz := fr_call hbz hb1
    (try replace hP := hP.keep hb1)
    replace hR := hR.keep hb1
    clear hb1
    obtain ⟨bq, hbq⟩ : ∃ q, wz.heap.size = q := ⟨_, rfl⟩
    (try rw [hbq])
    rw [hbq] at hB hsB
    clear hbq
    generalize wz.alloc (.cells #[.slice B1 n1 k1, .slice B2 n2 k2, .slice B3 n2 k3, .int .i64 lim, .int .i64 wm, .slice B4 n4 k4, .int .i64 ep, .slice B5 n5 k5, .int .i64 mn, .int .i64 md, .int .i64 ma, .slice B6 n6 k6, .int .i64 yr, .int .i64 br, .int .i64 hr, .int .i64 wg, .int .i64 pc, .slice D m dc, .slice none 0 0, .map (some mq), .int .i64 0, .slice none 0 0] 203) = wz at *
    refine hK.out _ _ (hkS _ hbz) (fun hHeld => ?_)
    clear hK K
    (try simp only [Act.put, List.setIfInBounds_toArray, List.set_cons_zero, List.set_cons_succ])
    refine wpAnyH_ready (rs := [15]) (by kernel_rfl) (by simp) ?_
    refine (AllReadyH.cons (o := ⟨none, .store 108 (.tmp 5) (.tmp 21), 0, "desk.go:266", #[⟨14, .data⟩, ⟨13, .data⟩, ⟨6, .chain⟩, ⟨0, .phase⟩, ⟨1, .phase⟩, ⟨2, .phase⟩, ⟨3, .phase⟩, ⟨4, .phase⟩, ⟨5, .phase⟩, ⟨6, .phase⟩, ⟨7, .phase⟩, ⟨8, .phase⟩, ⟨9, .phase⟩, ⟨10, .phase⟩, ⟨11, .phase⟩, ⟨12, .phase⟩, ⟨13, .phase⟩, ⟨14, .phase⟩], none⟩) rfl (fun K hK => ?_) AllReadyH.nil)
    rw [if_pos (by rfl)]
    have hcz := hP.cell 0
    have hfz := hP.frozen 0
    go_simp
    have hP2 := hP.set_ 0 (.pointer (some ⟨bq, 0, none⟩))
    have hgs := grown_set wz ⟨pq, 0, none⟩ (.pointer (some ⟨bq, 0, none⟩))
    have hx : Exc (fun i => i = pq) wz (wz.setCell ⟨pq, 0, none⟩ (.pointer (some ⟨bq, 0, none⟩))) := (Exc.refl (fun i => i = pq) wz).set (p := ⟨pq, 0, none⟩) (Or.inl rfl) _
    have hbF := hbz.grown hgs hbz.size (by intro k hk; cases hk; exact hsP)
    refine hK.out _ _ (hkS _ hbF) (fun hHeld => ?_)
    clear hK K
    refine wpAnyH_done (by kernel_rfl) ?_ _
    refine NoPanic.normal ?_
    have hne : bq ≠ pq := fun e => by
     rw [e] at hB
     unfold Blk at hB hP
     rw [hB] at hP
     cases hP
    have hfin : StateAt (wz.setCell ⟨pq, 0, none⟩ (.pointer (some ⟨bq, 0, none⟩))) bq B1 B2 B3 B4 B5 B6 n1 k1 n2 k2 k3 n4 k4 n5 k5 n6 k6 wm br hr wg pc lim ep mn md ma yr D m dc (.map (some mq)) ls hs tg ho cy fe fs f := ⟨hx.blk hB hne, hR.other hP hx, hfm, hcap, HY.out.keep hbF⟩
    go_wp2_with fail
    go_meet
    case rel => exact ⟨pq, bq, B1, B2, B3, B4, B5, B6, k1, k2, k3, k4, k5, k6, _, rfl, hP2, hfin, hsB, hbF⟩
  ·rw [if_pos (by rfl)]
   go_simp
   have hb1 := fr_alloc (fr_refl wz) (.cells #[.pointer none] 108)
   have hP := Blk.new wz 108 #[.pointer none]
   have hsP := hbz.size
   replace hbz := fr_call hbz hb1
   (try replace hR := hR.keep hb1)
   (try replace hB := hB.keep hb1)
   clear hb1
   obtain ⟨pq, hpq⟩ : ∃ q, wz.heap.size = q := ⟨_, rfl⟩
   (try rw [hpq])
   rw [hpq] at hP hsP
   clear hpq
   generalize wz.alloc (.cells #[.pointer none] 108) = wz at *
   refine hK.out _ _ (hkS _ hbz) (fun hHeld => ?_)
   clear hK K
   (try simp only [Act.put, List.setIfInBounds_toArray, List.set_cons_zero, List.set_cons_succ])
   refine wpAnyH_ready (rs := [5, 11]) (by kernel_rfl) (by simp) ?_
   refine (AllReadyH.cons (o := ⟨some 13, .load 35 (.tmp 12), 35, "desk.go:266", #[⟨4, .data⟩], none⟩) rfl (fun K hK => ?_) (AllReadyH.cons (o := ⟨some 19, .makeMap 201 none, 201, "desk.go:266", #[], none⟩) rfl (fun K hK => ?_) AllReadyH.nil))
   ·rw [if_pos (by rfl)]
    refine wp_load_blk 35 (.tmp 12) rfl gs rfl _ _ (HS.out.keep hbz) Tryz.underlying35 rfl (by kernel_rfl) ?_
    refine hK.out _ _ (hkS _ hbz) (fun hHeld => ?_)
    clear hK K
    (try simp only [Act.put, List.setIfInBounds_toArray, List.set_cons_zero, List.set_cons_succ])
    refine wpAnyH_ready (rs := [6, 11]) (by kernel_rfl) (by simp) ?_
    refine (AllReadyH.cons (o := ⟨some 14, .call { callee := .value (.func 34), args := #[.tmp 13], argTypes := #[35] }, 35, "desk.go:266", #[⟨5, .data⟩], none⟩) rfl (fun K hK => ?_) (AllReadyH.cons (o := ⟨some 19, .makeMap 201 none, 201, "desk.go:266", #[], none⟩) rfl (fun K hK => ?_) AllReadyH.nil))
    ·rw [if_pos (by rfl)]
     go_simp
     refine (K1 _ hbz).mono ?_
     rintro e' wz ⟨B1, B2, B3, B4, B5, B6, k1, k2, k3, k4, k5, k6, rfl, hR, hfm, hcap, hb1⟩
     replace hbz := fr_call hbz hb1
     (try replace hP := hP.keep hb1)
     refine hK.out _ _ (hkS _ hbz) (fun hHeld => ?_)
     clear hK K
     (try simp only [Act.put, List.setIfInBounds_toArray, List.set_cons_zero, List.set_cons_succ])
     refine wpAnyH_ready (rs := [11]) (by kernel_rfl) (by simp) ?_
     refine (AllReadyH.cons (o := ⟨some 19, .makeMap 201 none, 201, "desk.go:266", #[], none⟩) rfl (fun K hK => ?_) AllReadyH.nil)
     rw [if_pos (by rfl)]
     go_simp
     have hb1 := fr_alloc (fr_refl wz) (.map #[] 0)
     obtain ⟨mq, hmq⟩ : ∃ q, wz.heap.size = q := ⟨_, rfl⟩
     (try rw [hmq])
     (try rw [hmq] at hb1)
     replace hbz := fr_call hbz (by rw [hmq]; exact hb1)
     (try replace hP := hP.keep (by rw [hmq]; exact hb1))
     (try replace hR := hR.keep (by rw [hmq]; exact hb1))
     clear hmq hb1
     generalize wz.alloc (.map #[] 0) = wz at *
     refine hK.out _ _ (hkS _ hbz) (fun hHeld => ?_)
     clear hK K
     (try simp only [Act.put, List.setIfInBounds_toArray, List.set_cons_zero, List.set_cons_succ])
     refine wpAnyH_take (i := 12) (oi := ⟨some 20, .build 203 #[(0, .tmp 14), (1, .tmp 18), (3, .tmp 19)], 203, "desk.go:266", #[⟨6, .data⟩, ⟨10, .data⟩, ⟨11, .data⟩], none⟩) (v := ?_) rfl (by kernel_rfl) (by kernel_rfl) (by kernel_rfl) (fun _ _ _ h => h) (Or.inl ⟨by rfl, fun W hSw => ?_⟩) hHeld ?_
     rotate_left
     ·(try dsimp only at hSw); go_simp; (try with_reducible rfl)
     (try simp only [Act.put, List.setIfInBounds_toArray, List.set_cons_zero, List.set_cons_succ])
     refine wpAnyH_ready (rs := [13]) (by kernel_rfl) (by simp) ?_
     refine (AllReadyH.cons (o := ⟨some 21, .box 203 (.tmp 20), 108, "desk.go:266", #[⟨12, .data⟩], none⟩) rfl (fun K hK => ?_) AllReadyH.nil)
     rw [if_pos (by rfl)]
     go_simp
     have hb1 := fr_alloc (fr_refl wz) (.cells #[.slice B1 n1 k1, .slice B2 n2 k2, .slice B3 n2 k3, .int .i64 lim, .int .i64 wm, .slice B4 n4 k4, .int .i64 ep, .slice B5 n5 k5, .int .i64 mn, .int .i64 md, .int .i64 ma, .slice B6 n6 k6, .int .i64 yr, .int .i64 br, .int .i64 hr, .int .i64 wg, .int .i64 pc, .slice D m dc, .slice none 0 0, .map (some mq), .int .i64 0, .slice none 0 0] 203)
     have hB := Blk.new wz 203 #[.slice B1 n1 k1, .slice B2 n2 k2, .slice B3 n2 k3, .int .i64 lim, .int .i64 wm, .slice B4 n4 k4, .int .i64 ep, .slice B5 n5 k5, .int .i64 mn, .int .i64 md, .int .i64 ma, .slice B6 n6 k6, .int .i64 yr, .int .i64 br, .int .i64 hr, .int .i64 wg, .int .i64 pc, .slice D m dc, .slice none 0 0, .map (some mq), .int .i64 0, .slice none 0 0]
     have hsB := hbz.size
     replace hbz := fr_call hbz hb1
     (try replace hP := hP.keep hb1)
     replace hR := hR.keep hb1
     clear hb1
     obtain ⟨bq, hbq⟩ : ∃ q, wz.heap.size = q := ⟨_, rfl⟩
     (try rw [hbq])
     rw [hbq] at hB hsB
     clear hbq
     generalize wz.alloc (.cells #[.slice B1 n1 k1, .slice B2 n2 k2, .slice B3 n2 k3, .int .i64 lim, .int .i64 wm, .slice B4 n4 k4, .int .i64 ep, .slice B5 n5 k5, .int .i64 mn, .int .i64 md, .int .i64 ma, .slice B6 n6 k6, .int .i64 yr, .int .i64 br, .int .i64 hr, .int .i64 wg, .int .i64 pc, .slice D m dc, .slice none 0 0, .map (some mq), .int .i64 0, .slice none 0 0] 203) = wz at *
     refine hK.out _ _ (hkS _ hbz) (fun hHeld => ?_)
     clear hK K
     (try simp only [Act.put, List.setIfInBounds_toArray, List.set_cons_zero, List.set_cons_succ])
     refine wpAnyH_ready (rs := [15]) (by kernel_rfl) (by simp) ?_
     refine (AllReadyH.cons (o := ⟨none, .store 108 (.tmp 5) (.tmp 21), 0, "desk.go:266", #[⟨14, .data⟩, ⟨13, .data⟩, ⟨6, .chain⟩, ⟨0, .phase⟩, ⟨1, .phase⟩, ⟨2, .phase⟩, ⟨3, .phase⟩, ⟨4, .phase⟩, ⟨5, .phase⟩, ⟨6, .phase⟩, ⟨7, .phase⟩, ⟨8, .phase⟩, ⟨9, .phase⟩, ⟨10, .phase⟩, ⟨11, .phase⟩, ⟨12, .phase⟩, ⟨13, .phase⟩, ⟨14, .phase⟩], none⟩) rfl (fun K hK => ?_) AllReadyH.nil)
     rw [if_pos (by rfl)]
     have hcz := hP.cell 0
     have hfz := hP.frozen 0
     go_simp
     have hP2 := hP.set_ 0 (.pointer (some ⟨bq, 0, none⟩))
     have hgs := grown_set wz ⟨pq, 0, none⟩ (.pointer (some ⟨bq, 0, none⟩))
     have hx : Exc (fun i => i = pq) wz (wz.setCell ⟨pq, 0, none⟩ (.pointer (some ⟨bq, 0, none⟩))) := (Exc.refl (fun i => i = pq) wz).set (p := ⟨pq, 0, none⟩) (Or.inl rfl) _
     have hbF := hbz.grown hgs hbz.size (by intro k hk; cases hk; exact hsP)
     refine hK.out _ _ (hkS _ hbF) (fun hHeld => ?_)
     clear hK K
     refine wpAnyH_done (by kernel_rfl) ?_ _
     refine NoPanic.normal ?_
     have hne : bq ≠ pq := fun e => by
      rw [e] at hB
      unfold Blk at hB hP
      rw [hB] at hP
      cases hP
     have hfin : StateAt (wz.setCell ⟨pq, 0, none⟩ (.pointer (some ⟨bq, 0, none⟩))) bq B1 B2 B3 B4 B5 B6 n1 k1 n2 k2 k3 n4 k4 n5 k5 n6 k6 wm br hr wg pc lim ep mn md ma yr D m dc (.map (some mq)) ls hs tg ho cy fe fs f := ⟨hx.blk hB hne, hR.other hP hx, hfm, hcap, HY.out.keep hbF⟩
     go_wp2_with fail
     go_meet
     case rel => exact ⟨pq, bq, B1, B2, B3, B4, B5, B6, k1, k2, k3, k4, k5, k6, _, rfl, hP2, hfin, hsB, hbF⟩
    ·rw [if_pos (by rfl)]
     go_simp
     have hb1 := fr_alloc (fr_refl wz) (.map #[] 0)
     obtain ⟨mq, hmq⟩ : ∃ q, wz.heap.size = q := ⟨_, rfl⟩
     (try rw [hmq])
     (try rw [hmq] at hb1)
     replace hbz := fr_call hbz (by rw [hmq]; exact hb1)
     (try replace hP := hP.keep (by rw [hmq]; exact hb1))
     (try replace hR := hR.keep (by rw [hmq]; exact hb1))
     clear hmq hb1
     generalize wz.alloc (.map #[] 0) = wz at *
     refine hK.out _ _ (hkS _ hbz) (fun hHeld => ?_)
     clear hK K
     (try simp only [Act.put, List.setIfInBounds_toArray, List.set_cons_zero, List.set_cons_succ])
     refine wpAnyH_ready (rs := [6]) (by kernel_rfl) (by simp) ?_
     refine (AllReadyH.cons (o := ⟨some 14, .call { callee := .value (.func 34), args := #[.tmp 13], argTypes := #[35] }, 35, "desk.go:266", #[⟨5, .data⟩], none⟩) rfl (fun K hK => ?_) AllReadyH.nil)
     rw [if_pos (by rfl)]
     go_simp
     refine (K1 _ hbz).mono ?_
     rintro e' wz ⟨B1, B2, B3, B4, B5, B6, k1, k2, k3, k4, k5, k6, rfl, hR, hfm, hcap, hb1⟩
     replace hbz := fr_call hbz hb1
     (try replace hP := hP.keep hb1)
     refine hK.out _ _ (hkS _ hbz) (fun hHeld => ?_)
     clear hK K
     (try simp only [Act.put, List.setIfInBounds_toArray, List.set_cons_zero, List.set_cons_succ])
     refine wpAnyH_take (i := 12) (oi := ⟨some 20, .build 203 #[(0, .tmp 14), (1, .tmp 18), (3, .tmp 19)], 203, "desk.go:266", #[⟨6, .data⟩, ⟨10, .data⟩, ⟨11, .data⟩], none⟩) (v := ?_) rfl (by kernel_rfl) (by kernel_rfl) (by kernel_rfl) (fun _ _ _ h => h) (Or.inl ⟨by rfl, fun W hSw => ?_⟩) hHeld ?_
     rotate_left
     ·(try dsimp only at hSw); go_simp; (try with_reducible rfl)
     (try simp only [Act.put, List.setIfInBounds_toArray, List.set_cons_zero, List.set_cons_succ])
     refine wpAnyH_ready (rs := [13]) (by kernel_rfl) (by simp) ?_
     refine (AllReadyH.cons (o := ⟨some 21, .box 203 (.tmp 20), 108, "desk.go:266", #[⟨12, .data⟩], none⟩) rfl (fun K hK => ?_) AllReadyH.nil)
     rw [if_pos (by rfl)]
     go_simp
     have hb1 := fr_alloc (fr_refl wz) (.cells #[.slice B1 n1 k1, .slice B2 n2 k2, .slice B3 n2 k3, .int .i64 lim, .int .i64 wm, .slice B4 n4 k4, .int .i64 ep, .slice B5 n5 k5, .int .i64 mn, .int .i64 md, .int .i64 ma, .slice B6 n6 k6, .int .i64 yr, .int .i64 br, .int .i64 hr, .int .i64 wg, .int .i64 pc, .slice D m dc, .slice none 0 0, .map (some mq), .int .i64 0, .slice none 0 0] 203)
     have hB := Blk.new wz 203 #[.slice B1 n1 k1, .slice B2 n2 k2, .slice B3 n2 k3, .int .i64 lim, .int .i64 wm, .slice B4 n4 k4, .int .i64 ep, .slice B5 n5 k5, .int .i64 mn, .int .i64 md, .int .i64 ma, .slice B6 n6 k6, .int .i64 yr, .int .i64 br, .int .i64 hr, .int .i64 wg, .int .i64 pc, .slice D m dc, .slice none 0 0, .map (some mq), .int .i64 0, .slice none 0 0]
     have hsB := hbz.size
     replace hbz := fr_call hbz hb1
     (try replace hP := hP.keep hb1)
     replace hR := hR.keep hb1
     clear hb1
     obtain ⟨bq, hbq⟩ : ∃ q, wz.heap.size = q := ⟨_, rfl⟩
     (try rw [hbq])
     rw [hbq] at hB hsB
     clear hbq
     generalize wz.alloc (.cells #[.slice B1 n1 k1, .slice B2 n2 k2, .slice B3 n2 k3, .int .i64 lim, .int .i64 wm, .slice B4 n4 k4, .int .i64 ep, .slice B5 n5 k5, .int .i64 mn, .int .i64 md, .int .i64 ma, .slice B6 n6 k6, .int .i64 yr, .int .i64 br, .int .i64 hr, .int .i64 wg, .int .i64 pc, .slice D m dc, .slice none 0 0, .map (some mq), .int .i64 0, .slice none 0 0] 203) = wz at *
     refine hK.out _ _ (hkS _ hbz) (fun hHeld => ?_)
     clear hK K
     (try simp only [Act.put, List.setIfInBounds_toArray, List.set_cons_zero, List.set_cons_succ])
     refine wpAnyH_ready (rs := [15]) (by kernel_rfl) (by simp) ?_
     refine (AllReadyH.cons (o := ⟨none, .store 108 (.tmp 5) (.tmp 21), 0, "desk.go:266", #[⟨14, .data⟩, ⟨13, .data⟩, ⟨6, .chain⟩, ⟨0, .phase⟩, ⟨1, .phase⟩, ⟨2, .phase⟩, ⟨3, .phase⟩, ⟨4, .phase⟩, ⟨5, .phase⟩, ⟨6, .phase⟩, ⟨7, .phase⟩, ⟨8, .phase⟩, ⟨9, .phase⟩, ⟨10, .phase⟩, ⟨11, .phase⟩, ⟨12, .phase⟩, ⟨13, .phase⟩, ⟨14, .phase⟩], none⟩) rfl (fun K hK => ?_) AllReadyH.nil)
     rw [if_pos (by rfl)]
     have hcz := hP.cell 0
     have hfz := hP.frozen 0
     go_simp
     have hP2 := hP.set_ 0 (.pointer (some ⟨bq, 0, none⟩))
     have hgs := grown_set wz ⟨pq, 0, none⟩ (.pointer (some ⟨bq, 0, none⟩))
     have hx : Exc (fun i => i = pq) wz (wz.setCell ⟨pq, 0, none⟩ (.pointer (some ⟨bq, 0, none⟩))) := (Exc.refl (fun i => i = pq) wz).set (p := ⟨pq, 0, none⟩) (Or.inl rfl) _
     have hbF := hbz.grown hgs hbz.size (by intro k hk; cases hk; exact hsP)
     refine hK.out _ _ (hkS _ hbF) (fun hHeld => ?_)
     clear hK K
     refine wpAnyH_done (by kernel_rfl) ?_ _
     refine NoPanic.normal ?_
     have hne : bq ≠ pq := fun e => by
      rw [e] at hB
      unfold Blk at hB hP
      rw [hB] at hP
      cases hP
     have hfin : StateAt (wz.setCell ⟨pq, 0, none⟩ (.pointer (some ⟨bq, 0, none⟩))) bq B1 B2 B3 B4 B5 B6 n1 k1 n2 k2 k3 n4 k4 n5 k5 n6 k6 wm br hr wg pc lim ep mn md ma yr D m dc (.map (some mq)) ls hs tg ho cy fe fs f := ⟨hx.blk hB hne, hR.other hP hx, hfm, hcap, HY.out.keep hbF⟩
     go_wp2_with fail
     go_meet
     case rel => exact ⟨pq, bq, B1, B2, B3, B4, B5, B6, k1, k2, k3, k4, k5, k6, _, rfl, hP2, hfin, hsB, hbF⟩
   ·rw [if_pos (by rfl)]
    go_simp
    have hb1 := fr_alloc (fr_refl wz) (.map #[] 0)
    obtain ⟨mq, hmq⟩ : ∃ q, wz.heap.size = q := ⟨_, rfl⟩
    (try rw [hmq])
    (try rw [hmq] at hb1)
    replace hbz := fr_call hbz (by rw [hmq]; exact hb1)
    (try replace hP := hP.keep (by rw [hmq]; exact hb1))
    (try replace hR := hR.keep (by rw [hmq]; exact hb1))
    clear hmq hb1
    generalize wz.alloc (.map #[] 0) = wz at *
    refine hK.out _ _ (hkS _ hbz) (fun hHeld => ?_)
    clear hK K
    (try simp only [Act.put, List.setIfInBounds_toArray, List.set_cons_zero, List.set_cons_succ])
    refine wpAnyH_ready (rs := [5]) (by kernel_rfl) (by simp) ?_
    refine (AllReadyH.cons (o := ⟨some 13, .load 35 (.tmp 12), 35, "desk.go:266", #[⟨4, .data⟩], none⟩) rfl (fun K hK => ?_) AllReadyH.nil)
    rw [if_pos (by rfl)]
    refine wp_load_blk 35 (.tmp 12) rfl gs rfl _ _ (HS.out.keep hbz) Tryz.underlying35 rfl (by kernel_rfl) ?_
    refine hK.out _ _ (hkS _ hbz) (fun hHeld => ?_)
    clear hK K
    (try simp only [Act.put, List.setIfInBounds_toArray, List.set_cons_zero, List.set_cons_succ])
    refine wpAnyH_ready (rs := [6]) (by kernel_rfl) (by simp) ?_
    refine (AllReadyH.cons (o := ⟨some 14, .call { callee := .value (.func 34), args := #[.tmp 13], argTypes := #[35] }, 35, "desk.go:266", #[⟨5, .data⟩], none⟩) rfl (fun K hK => ?_) AllReadyH.nil)
    rw [if_pos (by rfl)]
    go_simp
    refine (K1 _ hbz).mono ?_
    rintro e' wz ⟨B1, B2, B3, B4, B5, B6, k1, k2, k3, k4, k5, k6, rfl, hR, hfm, hcap, hb1⟩
    replace hbz := fr_call hbz hb1
    (try replace hP := hP.keep hb1)
    refine hK.out _ _ (hkS _ hbz) (fun hHeld => ?_)
    clear hK K
    (try simp only [Act.put, List.setIfInBounds_toArray, List.set_cons_zero, List.set_cons_succ])
    refine wpAnyH_take (i := 12) (oi := ⟨some 20, .build 203 #[(0, .tmp 14), (1, .tmp 18), (3, .tmp 19)], 203, "desk.go:266", #[⟨6, .data⟩, ⟨10, .data⟩, ⟨11, .data⟩], none⟩) (v := ?_) rfl (by kernel_rfl) (by kernel_rfl) (by kernel_rfl) (fun _ _ _ h => h) (Or.inl ⟨by rfl, fun W hSw => ?_⟩) hHeld ?_
    rotate_left
    ·(try dsimp only at hSw); go_simp; (try with_reducible rfl)
    (try simp only [Act.put, List.setIfInBounds_toArray, List.set_cons_zero, List.set_cons_succ])
    refine wpAnyH_ready (rs := [13]) (by kernel_rfl) (by simp) ?_
    refine (AllReadyH.cons (o := ⟨some 21, .box 203 (.tmp 20), 108, "desk.go:266", #[⟨12, .data⟩], none⟩) rfl (fun K hK => ?_) AllReadyH.nil)
    rw [if_pos (by rfl)]
    go_simp
    have hb1 := fr_alloc (fr_refl wz) (.cells #[.slice B1 n1 k1, .slice B2 n2 k2, .slice B3 n2 k3, .int .i64 lim, .int .i64 wm, .slice B4 n4 k4, .int .i64 ep, .slice B5 n5 k5, .int .i64 mn, .int .i64 md, .int .i64 ma, .slice B6 n6 k6, .int .i64 yr, .int .i64 br, .int .i64 hr, .int .i64 wg, .int .i64 pc, .slice D m dc, .slice none 0 0, .map (some mq), .int .i64 0, .slice none 0 0] 203)
    have hB := Blk.new wz 203 #[.slice B1 n1 k1, .slice B2 n2 k2, .slice B3 n2 k3, .int .i64 lim, .int .i64 wm, .slice B4 n4 k4, .int .i64 ep, .slice B5 n5 k5, .int .i64 mn, .int .i64 md, .int .i64 ma, .slice B6 n6 k6, .int .i64 yr, .int .i64 br, .int .i64 hr, .int .i64 wg, .int .i64 pc, .slice D m dc, .slice none 0 0, .map (some mq), .int .i64 0, .slice none 0 0]
    have hsB := hbz.size
    replace hbz := fr_call hbz hb1
    (try replace hP := hP.keep hb1)
    replace hR := hR.keep hb1
    clear hb1
    obtain ⟨bq, hbq⟩ : ∃ q, wz.heap.size = q := ⟨_, rfl⟩
    (try rw [hbq])
    rw [hbq] at hB hsB
    clear hbq
    generalize wz.alloc (.cells #[.slice B1 n1 k1, .slice B2 n2 k2, .slice B3 n2 k3, .int .i64 lim, .int .i64 wm, .slice B4 n4 k4, .int .i64 ep, .slice B5 n5 k5, .int .i64 mn, .int .i64 md, .int .i64 ma, .slice B6 n6 k6, .int .i64 yr, .int .i64 br, .int .i64 hr, .int .i64 wg, .int .i64 pc, .slice D m dc, .slice none 0 0, .map (some mq), .int .i64 0, .slice none 0 0] 203) = wz at *
    refine hK.out _ _ (hkS _ hbz) (fun hHeld => ?_)
    clear hK K
    (try simp only [Act.put, List.setIfInBounds_toArray, List.set_cons_zero, List.set_cons_succ])
    refine wpAnyH_ready (rs := [15]) (by kernel_rfl) (by simp) ?_
    refine (AllReadyH.cons (o := ⟨none, .store 108 (.tmp 5) (.tmp 21), 0, "desk.go:266", #[⟨14, .data⟩, ⟨13, .data⟩, ⟨6, .chain⟩, ⟨0, .phase⟩, ⟨1, .phase⟩, ⟨2, .phase⟩, ⟨3, .phase⟩, ⟨4, .phase⟩, ⟨5, .phase⟩, ⟨6, .phase⟩, ⟨7, .phase⟩, ⟨8, .phase⟩, ⟨9, .phase⟩, ⟨10, .phase⟩, ⟨11, .phase⟩, ⟨12, .phase⟩, ⟨13, .phase⟩, ⟨14, .phase⟩], none⟩) rfl (fun K hK => ?_) AllReadyH.nil)
    rw [if_pos (by rfl)]
    have hcz := hP.cell 0
    have hfz := hP.frozen 0
    go_simp
    have hP2 := hP.set_ 0 (.pointer (some ⟨bq, 0, none⟩))
    have hgs := grown_set wz ⟨pq, 0, none⟩ (.pointer (some ⟨bq, 0, none⟩))
    have hx : Exc (fun i => i = pq) wz (wz.setCell ⟨pq, 0, none⟩ (.pointer (some ⟨bq, 0, none⟩))) := (Exc.refl (fun i => i = pq) wz).set (p := ⟨pq, 0, none⟩) (Or.inl rfl) _
    have hbF := hbz.grown hgs hbz.size (by intro k hk; cases hk; exact hsP)
    refine hK.out _ _ (hkS _ hbF) (fun hHeld => ?_)
    clear hK K
    refine wpAnyH_done (by kernel_rfl) ?_ _
    refine NoPanic.normal ?_
    have hne : bq ≠ pq := fun e => by
     rw [e] at hB
     unfold Blk at hB hP
     rw [hB] at hP
     cases hP
    have hfin : StateAt (wz.setCell ⟨pq, 0, none⟩ (.pointer (some ⟨bq, 0, none⟩))) bq B1 B2 B3 B4 B5 B6 n1 k1 n2 k2 k3 n4 k4 n5 k5 n6 k6 wm br hr wg pc lim ep mn md ma yr D m dc (.map (some mq)) ls hs tg ho cy fe fs f := ⟨hx.blk hB hne, hR.other hP hx, hfm, hcap, HY.out.keep hbF⟩
    go_wp2_with fail
    go_meet
    case rel => exact ⟨pq, bq, B1, B2, B3, B4, B5, B6, k1, k2, k3, k4, k5, k6, _, rfl, hP2, hfin, hsB, hbF⟩
 obtain ⟨p, s, B1, B2, B3, B4, B5, B6, k1, k2, k3, k4, k5, k6, mp, rfl, hP, hSt, hsB, hbc⟩ := hcut
 clear hbz hkS K1
 have HST := Lib.hid hSt
 have hXc := HD.out.keep hbc
 have hcP := fun j => hP.cell j
 have hbt := fr_call hb0 hbc
 clear hSt hN
 obtain ⟨w2, hw2⟩ : ∃ w2, w2 = wc := ⟨_, rfl⟩
 subst hw2
 go_wp2_with fail
 refine (wpIn_wide (n := 6)).1 ?_
 refine wpIn_range_enter2 (gf := 116) rfl (enters_of Tryz.func116 (by kernel_rfl) rfl) (fun fn rec hst hpe hfn htm hpa has hbod => ?_)
 generalize hl : w2.heap.size + 1 = l at *
 obtain ⟨W1, hW1⟩ : ∃ W1, (w2.alloc (.deferred (some []))).alloc (.loop rec) = W1 := ⟨_, rfl⟩
 have hL1 : W1.heap[l]? = some (.loop rec) := by
  rw [← hW1, ← hl]; have := World.alloc_heap_new (w2.alloc (.deferred (some []))) (.loop rec); rwa [World.size_alloc] at this
 have hD1 : W1.heap[w2.heap.size]? = some (.deferred (some [])) := by
  rw [← hW1]; exact (Below.heap_alloc _ _ _ (by simp)).trans (World.alloc_heap_new w2 _)
 have hb21 : Below w2.heap.size w2 W1 := by rw [← hW1]; exact fr_alloc (fr_alloc (fr_refl _) _) _
 rw [hW1]
 refine CallsIn.mono (callsIn_wide.2 (stands_none g gs m dc D sv (.func (.yield l) #[] #[]) W1 (hXc.keep hb21))) ?_
 rintro e W ⟨rfl, rfl⟩
 refine ⟨_, _, run_endLoop hL1 (by rw [hst]; simp), ?_⟩
 rw [hpe]
 have hgl := grownBy_putObj' W1 l (.loop { rec with state := .exhausted, pending := none })
 have hb4 : Below w2.heap.size w2 (W1.putObj l (.loop { rec with state := .exhausted, pending := none })) := hb21.grown hgl hb21.size (by intro k hk; cases hk; omega)
 have hD4 : (W1.putObj l (.loop { rec with state := .exhausted, pending := none })).heap[w2.heap.size]? = some (.deferred (some [])) := (World.putObj_heap_other (by omega)).trans hD1
 generalize W1.putObj l (.loop { rec with state := .exhausted, pending := none }) = W4 at *
 have hP4 := hP.keep hb4
 have hcP4 := fun j => hP4.cell j
 have hs24 := hb4.size
 clear hcP hgl hb21 hL1 hD1 hXc
 go_wp2_with fail
 refine ⟨by simp, .inl ⟨_, _, rfl, run_takeDeferred hD4, ?_⟩⟩
 have hg6 := grownBy_putObj' W4 w2.heap.size (.deferred none)
 have hb6 : Below w2.heap.size w2 (W4.putObj w2.heap.size (.deferred none)) := hb4.grown hg6 hs24 (by intro k hk; cases hk; exact Nat.le_refl _)
 exact ⟨_, results_tmp rfl _ _ _, s, B1, B2, B3, B4, B5, B6, k1, k2, k3, k4, k5, k6, mp, rfl, HST.out.keep hb6, by omega, fr_call hbt hb6⟩
end Go.Proofs.YtkmiphabagoifaaGreatDoor
