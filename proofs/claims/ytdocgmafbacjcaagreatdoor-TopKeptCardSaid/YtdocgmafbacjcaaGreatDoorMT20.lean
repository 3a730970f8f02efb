/- Walks, package journeyman: an entry that sets the hands is made (by gen_zr.py). -/
import Derived.Test.YtdocgmafbacjcaaGreatDoorMT19
namespace Go.Proofs.YtdocgmafbacjcaaGreatDoor
open Go.RowKit Go.Shelf Dl

/-- a desk with entries that set the hands; no number of an entry lies in a block of T -/
structure DeskE (W : World) (B B1 : Nat) (T : Nat → Prop) (g gs : Nat) (A1 A2 A3 A4 A5 A6 : Option Addr) (n1 c1 n2 c2 c3 n4 c4 n5 c5 n6 c6 wm br hr wg pc : Nat) (lim ep mn md ma yr : Int) (D E : Option Addr) (m dc n ec : Nat) (sv : Value) (ds : List Int) (ls : List Lk) (hs : List Int) (tg : List (Int × Int)) (ho cy : List Int) (fe : List Feast) (fs : List Int) (f : Int) : Prop where
 d : DeskAt W g gs A1 A2 A3 A4 A5 A6 n1 c1 n2 c2 c3 n4 c4 n5 c5 n6 c6 wm br hr wg pc lim ep mn md ma yr D m dc (.slice E n ec) sv ls hs tg ho cy fe fs f
 len : ds.length = n
 ev : ∃ rows : List (List Value), OwnS W B1 45 2 (.slice E n ec) rows ∧ rows.length = n ∧ ∀ (i : Nat) (d : Int), ds[i]? = some d → ∃ ad c, rows[i]? = some (entC ad c) ∧ ¬ T ad.block ∧ W.cell? ad = some (.int .i64 d) ∧ ∃ cs fr, W.heap[ad.block]? = some (.cells cs 3 fr)
 sv : OwnS W B1 4 1 sv (List.replicate n [.bool false])
 lo : (B ≤ g ∧ g < B1) ∧ gs < B1 ∧ SuLo B1 A1 A2 A3 A4 A5 A6 n1 n2 n4 n5 n6 ∧ Lo B1 D m
theorem blk_of {W : World} {i : Nat} {o : Obj} (h : W.heap[i]? = some o) : i < W.heap.size := (Array.getElem?_eq_some_iff.1 h).1
section
variable {W W' : World} {B B1 : Nat} {T : Nat → Prop} {g gs : Nat} {A1 A2 A3 A4 A5 A6 : Option Addr} {n1 c1 n2 c2 c3 n4 c4 n5 c5 n6 c6 wm br hr wg pc : Nat} {lim ep mn md ma yr : Int} {D E : Option Addr} {m dc n ec : Nat} {sv : Value} {ds : List Int} {ls : List Lk} {hs : List Int} {tg : List (Int × Int)} {ho cy : List Int} {fe : List Feast} {fs : List Int} {f : Int}
theorem DeskE.entR (h : DeskE W B B1 T g gs A1 A2 A3 A4 A5 A6 n1 c1 n2 c2 c3 n4 c4 n5 c5 n6 c6 wm br hr wg pc lim ep mn md ma yr D E m dc n ec sv ds ls hs tg ho cy fe fs f) : EntR W E n sv ds := by
 obtain ⟨rows, h1, h2, h3⟩ := h.ev
 refine ⟨h.len, ⟨rows, h1.rd, h2, fun i d hi => ?_⟩, fun hn => ?_⟩
 ·obtain ⟨ad, c, e, _, hc, cs, fr, hh⟩ := h3 i d hi
  exact ⟨ad, c, e, blk_of hh, hc⟩
 ·obtain ⟨S, sc, e⟩ := h.sv.form
  rw [List.length_replicate] at e
  have := h.sv
  rw [e] at this
  exact ⟨S, sc, e, this.rd⟩
theorem DeskE.keep (h : DeskE W B B1 T g gs A1 A2 A3 A4 A5 A6 n1 c1 n2 c2 c3 n4 c4 n5 c5 n6 c6 wm br hr wg pc lim ep mn md ma yr D E m dc n ec sv ds ls hs tg ho cy fe fs f) (hb : Below W.heap.size W W') : DeskE W' B B1 T g gs A1 A2 A3 A4 A5 A6 n1 c1 n2 c2 c3 n4 c4 n5 c5 n6 c6 wm br hr wg pc lim ep mn md ma yr D E m dc n ec sv ds ls hs tg ho cy fe fs f := by
 obtain ⟨rows, h1, h2, h3⟩ := h.ev
 refine ⟨h.d.keep hb, h.len, ⟨rows, h1.keep hb, h2, fun i d hi => ?_⟩, h.sv.keep hb, h.lo⟩
 obtain ⟨ad, c, e, hT, hc, cs, fr, hh⟩ := h3 i d hi
 exact ⟨ad, c, e, hT, (hb.cell (blk_of hh)).trans hc, cs, fr, (hb.block _ (blk_of hh)).trans hh⟩
theorem deskAt_exc {ev : Value} {S : Nat → Prop} (h : DeskAt W g gs A1 A2 A3 A4 A5 A6 n1 c1 n2 c2 c3 n4 c4 n5 c5 n6 c6 wm br hr wg pc lim ep mn md ma yr D m dc ev sv ls hs tg ho cy fe fs f) (hl : (B ≤ g ∧ g < B1) ∧ gs < B1 ∧ SuLo B1 A1 A2 A3 A4 A5 A6 n1 n2 n4 n5 n6 ∧ Lo B1 D m) (hx : Exc S W W') (hB : B1 ≤ W.heap.size) (hS : ∀ i, S i → B1 ≤ i) : DeskAt W' g gs A1 A2 A3 A4 A5 A6 n1 c1 n2 c2 c3 n4 c4 n5 c5 n6 c6 wm br hr wg pc lim ep mn md ma yr D m dc ev sv ls hs tg ho cy fe fs f := by
 have hb : Below B1 W W' := ⟨hx.os, hx.tape, hx.output, hx.size, fun k hk => hx.block k (by omega) (fun e => by have := hS k e; omega)⟩
 exact ⟨hx.blk h.d (fun e => by have := hS g e; omega), hx.blk h.s (fun e => by have := hS gs e; omega), h.r.keepLo hl.2.2.1 hb, h.fm, h.cap, h.days.keepLo (yearR_len fs f m) hl.2.2.2 hb⟩
/-- rows of numbers of others change -/
theorem DeskE.exc {T' S : Nat → Prop} (h : DeskE W B B1 T g gs A1 A2 A3 A4 A5 A6 n1 c1 n2 c2 c3 n4 c4 n5 c5 n6 c6 wm br hr wg pc lim ep mn md ma yr D E m dc n ec sv ds ls hs tg ho cy fe fs f) (hx : Exc S W W') (hB : B1 ≤ W.heap.size) (hS : ∀ i, S i → B1 ≤ i ∧ T i ∧ ∃ cs fr, W.heap[i]? = some (.cells cs 3 fr)) (hT : ∀ i, i < W.heap.size → T' i → T i) : DeskE W' B B1 T' g gs A1 A2 A3 A4 A5 A6 n1 c1 n2 c2 c3 n4 c4 n5 c5 n6 c6 wm br hr wg pc lim ep mn md ma yr D E m dc n ec sv ds ls hs tg ho cy fe fs f := by
 obtain ⟨rows, h1, h2, h3⟩ := h.ev
 have hno : ∀ {base k : Nat} {e : TypeId} {v : Value} {rs : List (List Value)}, OwnS W base e k v rs → e ≠ 3 → ∀ i, v.ownBlock = some i → ¬ S i := fun ho hne i e hs => by
  obtain ⟨cs, hc⟩ := ho.cellsOf i e
  obtain ⟨_, _, cs', fr', hh⟩ := hS i hs
  rw [hc] at hh
  cases hh
  exact hne rfl
 refine ⟨deskAt_exc h.d h.lo hx hB (fun i hs => (hS i hs).1), h.len, ⟨rows, ⟨own_exc h1.1 hx (hno h1 (by decide)), h1.2⟩, h2, fun i d hi => ?_⟩, ⟨own_exc h.sv.1 hx (hno h.sv (by decide)), h.sv.2⟩, h.lo⟩
 obtain ⟨ad, c, e, hTa, hc, cs, fr, hh⟩ := h3 i d hi
 have hnS : ¬ S ad.block := fun hs => hTa (hS _ hs).2.1
 exact ⟨ad, c, e, fun ht => hTa (hT _ (blk_of hh) ht), (hx.cell (blk_of hh) hnS).trans hc, cs, fr, (hx.block _ (blk_of hh) hnS).trans hh⟩
end
theorem info_ent : (Tryz.prog.info? 45).map (fun i => (i.zero, i.size, i.bytes)) = some (some (.agg #[.int .i64 0, .slice none 0 0]), 2, 32) := by kernel_rfl
section
variable {o : Oper} {a : Act} {w : World} {K : Act → World → Prop} {Q : Exit → Act → World → Prop}
theorem wp_build_ent {x : Nat} {A : Option Addr} {n c : Nat} (ho : o.op = .buildSlice 90 1 #[(0, .tmp x)]) (hx : a.tmps.getD x undef = .agg #[.int .i64 5, .slice A n c])
  (h : ∀ g w', w.heap.size = g → Blk w' g 45 #[.int .i64 5, .slice A n c] → Below w.heap.size w w' → K (a.put o.dst (.slice (some ⟨g, 0, none⟩) 1 1)) w') : o.wp Tryz.prog a w K Q := by
 have h1 := h w.heap.size (w.alloc (.cells #[.int .i64 5, .slice A n c] 45)) rfl (Blk.new w _ _) (fr_alloc (fr_refl w) _)
 obtain ⟨dst, op, ty, pos, after, guard⟩ := o
 simp only at ho
 subst ho
 have hx' : a.tmps[x]?.getD undef = .agg #[.int .i64 5, .slice A n c] := by simpa using hx
 go_simp
 exact h1
end
/-- neither a pointer nor a slice -/
def Pl : Value → Bool
 | .int _ _ => true
 | .bool _ => true
 | _ => false
section
variable {W W' : World} {p B1 : Nat} {t : TypeId} {cs : Array Value} {S : Nat → Prop}
theorem not_pl {a : Addr} {v : Value} (hP : Blk W p t cs) (hcs : ∀ u ∈ cs.toList, Pl u = false) (hc : W.cell? a = some v) (hv : Pl v = true) : a.block ≠ p := fun e => by
 unfold World.cell? at hc
 rw [e, show W.heap[p]? = _ from hP] at hc
 simp only at hc
 split at hc
 ·cases hc
 ·have := hcs v (by rw [← Array.getElem?_toList] at hc; exact List.mem_of_getElem? hc)
  rw [hv] at this
  cases this
theorem RdS.keepS {k n : Nat} {A : Option Addr} {rows : List (List Value)} (hr : RdS W A k rows) (hn : rows.length = n) (hv : ∀ r ∈ rows, ∃ v, r[0]? = some v ∧ Pl v = true) (hl : Lo B1 A n) (hP : Blk W p t cs) (hcs : ∀ u ∈ cs.toList, Pl u = false) (hx : Exc S W W') (hS : ∀ i, S i → i = p ∨ B1 ≤ i) : RdS W' A k rows := fun h0 => by
 obtain ⟨ad, e, hlt, hc⟩ := hr h0
 obtain ⟨ad', e', hlo⟩ := hl (by omega)
 rw [e] at e'
 cases e'
 obtain ⟨x, hx0, hv0⟩ := hv rows[0] (List.getElem_mem h0)
 have h1 := (hc 0 rows[0] (List.getElem?_eq_getElem h0)).2 0 _ hx0
 have hne := not_pl hP hcs h1 hv0
 rw [block_of_add] at hne
 have hnS : ¬ S ad.block := fun hs => by rcases hS _ hs with h | h <;> omega
 exact ⟨ad, e, Nat.lt_of_lt_of_le hlt hx.size, fun i r hi => ⟨(hc i r hi).1, fun j v hj => (hx.cell (by rw [block_of_add]; exact hlt) (by rw [block_of_add]; exact hnS)).trans ((hc i r hi).2 j v hj)⟩⟩
theorem Rd.keepS {n : Nat} {A : Option Addr} {xs : List Int} (hr : Rd W A n xs) (hl : Lo B1 A n) (hP : Blk W p t cs) (hcs : ∀ u ∈ cs.toList, Pl u = false) (hx : Exc S W W') (hS : ∀ i, S i → i = p ∨ B1 ≤ i) : Rd W' A n xs :=
 ⟨hr.1, fun hn => by
  obtain ⟨ad, e, hlt, hc⟩ := hr.2 hn
  obtain ⟨ad', e', hlo⟩ := hl hn
  rw [e] at e'
  cases e'
  have hne := not_pl hP hcs (hc 0 hn) rfl
  rw [block_of_add] at hne
  have hnS : ¬ S ad.block := fun hs => by rcases hS _ hs with h | h <;> omega
  exact ⟨ad, e, Nat.lt_of_lt_of_le hlt hx.size, fun j hj => (hx.cell (by rw [block_of_add]; exact hlt) (by rw [block_of_add]; exact hnS)).trans (hc j hj)⟩⟩
theorem SuAt.keepS {A1 A2 A3 A4 A5 A6 : Option Addr} {n1 n2 n4 n5 n6 : Nat} {ls : List Lk} {hs : List Int} {tg : List (Int × Int)} {ho cy : List Int} {fe : List Feast} (h : SuAt W A1 A2 A3 A4 A5 A6 n1 n2 n4 n5 n6 ls hs tg ho cy fe) (hl : SuLo B1 A1 A2 A3 A4 A5 A6 n1 n2 n4 n5 n6) (hP : Blk W p t cs) (hcs : ∀ u ∈ cs.toList, Pl u = false) (hx : Exc S W W') (hS : ∀ i, S i → i = p ∨ B1 ≤ i) : SuAt W' A1 A2 A3 A4 A5 A6 n1 n2 n4 n5 n6 ls hs tg ho cy fe :=
 ⟨h.r1.keepS (by rw [List.length_map, h.l1]) (by intro r hr; obtain ⟨q, _, rfl⟩ := List.mem_map.1 hr; exact ⟨_, rfl, rfl⟩) hl.1 hP hcs hx hS, h.l1, h.r2.keepS hl.2.1 hP hcs hx hS, h.r3.keepS (by rw [List.length_map, h.l3]) (by intro r hr; obtain ⟨q, _, rfl⟩ := List.mem_map.1 hr; exact ⟨_, rfl, rfl⟩) hl.2.2.1 hP hcs hx hS, h.l3, h.r4.keepS hl.2.2.2.1 hP hcs hx hS, h.r5.keepS hl.2.2.2.2.1 hP hcs hx hS, h.r6.keepS (by rw [List.length_map, h.l6]) (by intro r hr; obtain ⟨q, _, rfl⟩ := List.mem_map.1 hr; exact ⟨_, rfl, rfl⟩) hl.2.2.2.2.2 hP hcs hx hS, h.l6⟩
end
/-- a clone of one number -/
theorem clone_one {w : World} {A : Option Addr} {c base : Nat} {d : Int} (h : Own w base (.slice A 1 c) [d]) : ∃ g, A = some ⟨g, 0, none⟩ ∧ base ≤ g ∧ w.cell? ⟨g, 0, none⟩ = some (.int .i64 d) ∧ ∃ cs fr, w.heap[g]? = some (.cells cs 3 fr) := by
 have hr := h.rd
 rcases h.2 with ⟨e, _⟩ | ⟨g, cap, cur, e, hb, hh, _⟩
 ·injection e with e1 e2
  cases e2
 ·injection e with e1
  subst e1
  obtain ⟨ad, e2, _, hc⟩ := hr.at_ (show 0 < 1 by omega)
  cases e2
  exact ⟨g, rfl, hb, hc, _, _, hh⟩
section
variable {W W' : World} {B B1 : Nat} {T : Nat → Prop} {g gs : Nat} {A1 A2 A3 A4 A5 A6 : Option Addr} {n1 c1 n2 c2 c3 n4 c4 n5 c5 n6 c6 wm br hr wg pc : Nat} {lim ep mn md ma yr : Int} {D E : Option Addr} {m dc n ec : Nat} {sv : Value} {ds : List Int} {ls : List Lk} {hs : List Int} {tg : List (Int × Int)} {ho cy : List Int} {fe : List Feast} {fs : List Int} {f : Int}
/-- the desk with one entry more -/
theorem enter_fin {E2 : Option Addr} {ec2 gn c' : Nat} {sv2 : Value} {d : Int} {rows : List (List Value)} {cs : Array Value} {fr : Nat × Nat} (h : DeskE W B B1 T g gs A1 A2 A3 A4 A5 A6 n1 c1 n2 c2 c3 n4 c4 n5 c5 n6 c6 wm br hr wg pc lim ep mn md ma yr D E m dc n ec sv ds ls hs tg ho cy fe fs f) (hrl : rows.length = n) (hOE : OwnS W B1 45 2 (.slice E n ec) rows)
  (hrw : ∀ (i : Nat) (d : Int), ds[i]? = some d → ∃ ad c, rows[i]? = some (entC ad c) ∧ ¬ T ad.block ∧ W.cell? ad = some (.int .i64 d) ∧ ∃ cs fr, W.heap[ad.block]? = some (.cells cs 3 fr)) (hT : ∀ i, T i → i < W.heap.size) (hgn : W.heap.size ≤ gn)
  (hG : Blk W' g 93 #[.pointer (some ⟨gs, 0, none⟩), .slice D m dc, .slice E2 (n + 1) ec2, sv2]) (hO : OwnS W' B1 45 2 (.slice E2 (n + 1) ec2) (rows ++ [entC ⟨gn, 0, none⟩ c'])) (hv : OwnS W' B1 4 1 sv2 (List.replicate n [.bool false] ++ [[.bool false]]))
  (hc : W'.cell? ⟨gn, 0, none⟩ = some (.int .i64 d)) (hh : W'.heap[gn]? = some (.cells cs 3 fr)) (hx : Exc (fun i => i = g ∨ (Value.slice E n ec).ownBlock = some i ∨ sv.ownBlock = some i) W W') :
  DeskE W' B B1 T g gs A1 A2 A3 A4 A5 A6 n1 c1 n2 c2 c3 n4 c4 n5 c5 n6 c6 wm br hr wg pc lim ep mn md ma yr D E2 m dc (n + 1) ec2 sv2 (ds ++ [d]) ls hs tg ho cy fe fs f := by
 have hS : ∀ i, (i = g ∨ (Value.slice E n ec).ownBlock = some i ∨ sv.ownBlock = some i) → i = g ∨ B1 ≤ i := fun i e => by
  rcases e with e | e | e
  ·exact Or.inl e
  ·exact Or.inr (hOE.ge i e)
  ·exact Or.inr (h.sv.ge i e)
 have hcs : ∀ u ∈ (#[.pointer (some ⟨gs, 0, none⟩), .slice D m dc, .slice E n ec, sv] : Array Value).toList, Pl u = false := fun u hu => by
  obtain ⟨S0, sc0, e⟩ := h.sv.form
  simp only [List.mem_cons, List.not_mem_nil, or_false] at hu
  rcases hu with rfl | rfl | rfl | rfl
  ·rfl
  ·rfl
  ·rfl
  ·rw [e]; rfl
 have hlo := h.lo
 have hno : ∀ i cs fr, W.heap[i]? = some (.cells cs 3 fr) → ¬ (i = g ∨ (Value.slice E n ec).ownBlock = some i ∨ sv.ownBlock = some i) := fun i cs fr hi e => by
  rcases e with e | e | e
  ·have hg := h.d.d
   unfold Blk at hg
   rw [e, hg] at hi
   cases hi
  ·obtain ⟨cs1, h1⟩ := hOE.cellsOf i e
   rw [h1] at hi
   cases hi
  ·obtain ⟨cs1, h1⟩ := h.sv.cellsOf i e
   rw [h1] at hi
   cases hi
 refine ⟨⟨hG, hx.blk h.d.s (fun e => ?_), h.d.r.keepS hlo.2.2.1 h.d.d hcs hx hS, h.d.fm, h.d.cap, h.d.days.keepS (yearR_len fs f m) (by intro r hr; obtain ⟨q, _, rfl⟩ := List.mem_map.1 hr; exact ⟨_, rfl, rfl⟩) hlo.2.2.2 h.d.d hcs hx hS⟩, by rw [List.length_append, h.len]; rfl, ⟨_, hO, by rw [List.length_append, hrl]; rfl, fun i x hi => ?_⟩, by rw [List.replicate_succ']; exact hv, hlo⟩
 ·rcases hS _ e with e | e
  ·exact h.d.s.ne_ h.d.d (by decide) e
  ·omega
 ·by_cases hin : i < n
  ·rw [List.getElem?_append_left (by rw [h.len]; exact hin)] at hi
   obtain ⟨ad, c, e, hTa, hca, cs1, fr1, hh1⟩ := hrw i x hi
   have hnS := hno _ _ _ hh1
   exact ⟨ad, c, by rw [List.getElem?_append_left (by rw [hrl]; exact hin)]; exact e, hTa, (hx.cell (blk_of hh1) hnS).trans hca, cs1, fr1, (hx.block _ (blk_of hh1) hnS).trans hh1⟩
  ·have hil : i < ds.length + 1 := by have := (List.getElem?_eq_some_iff.1 hi).1; simpa using this
   obtain rfl : i = n := by rw [h.len] at hil; omega
   rw [List.getElem?_append_right (by rw [h.len]; exact Nat.le_refl _), h.len, Nat.sub_self] at hi
   obtain rfl : d = x := by simpa using hi
   exact ⟨⟨gn, 0, none⟩, c', by rw [List.getElem?_append_right (by rw [hrl]; exact Nat.le_refl _), hrl, Nat.sub_self]; rfl, fun ht => by have : gn < W.heap.size := hT gn ht; omega, hc, cs, fr, hh⟩
end
/-- an entry is made, or an error is told -/
def EnterPost (w : World) (B B1 : Nat) (T : Nat → Prop) (g gs : Nat) (A1 A2 A3 A4 A5 A6 : Option Addr) (n1 c1 n2 c2 c3 n4 c4 n5 c5 n6 c6 wm br hr wg pc : Nat) (lim ep mn md ma yr : Int) (D E : Option Addr) (m dc n ec : Nat) (sv : Value) (ds : List Int) (ls : List Lk) (hs : List Int) (tg : List (Int × Int)) (ho cy : List Int) (fe : List Feast) (fs : List Int) (f d : Int) (e : Ending) (w' : World) : Prop :=
 ∃ k : Int, e = .returned (.int .i64 k) ∧ ((¬ k = 0 ∧ Below w.heap.size w w') ∨ (k = 0 ∧ (1 ≤ d ∧ d ≤ (m : Int)) ∧ goB fs f ds d = true ∧ ∃ E' ec' sv', DeskE w' B B1 T g gs A1 A2 A3 A4 A5 A6 n1 c1 n2 c2 c3 n4 c4 n5 c5 n6 c6 wm br hr wg pc lim ep mn md ma yr D E' m dc (n + 1) ec' sv' (ds ++ [d]) ls hs tg ho cy fe fs f ∧ Exc (fun i => i = g ∨ (Value.slice E n ec).ownBlock = some i ∨ sv.ownBlock = some i) w w'))
set_option maxRecDepth 100000 in
set_option maxHeartbeats 16000000 in
theorem Enter_any (B B1 : Nat) (T : Nat → Prop) (g gs : Nat) (A1 A2 A3 A4 A5 A6 : Option Addr) (n1 c1 n2 c2 c3 n4 c4 n5 c5 n6 c6 wm br hr wg pc : Nat) (lim ep mn md ma yr : Int) (D E : Option Addr) (m dc n ec : Nat) (sv : Value) (ds : List Int) (ls : List Lk) (hs : List Int) (tg : List (Int × Int)) (ho cy : List Int) (fe : List Feast) (fs : List Int) (f : Int) (d : Int) (bn : Nat) (w : World) (h : DeskE w B B1 T g gs A1 A2 A3 A4 A5 A6 n1 c1 n2 c2 c3 n4 c4 n5 c5 n6 c6 wm br hr wg pc lim ep mn md ma yr D E m dc n ec sv ds ls hs tg ho cy fe fs f) (hT : ∀ i, T i → i < w.heap.size) (hB1 : B1 ≤ w.heap.size) (hgo : GoAll fs f m ds) (hm : m ≤ 1000) (hn : n ≤ 8) (hbd : n1 ≤ 1000 ∧ n2 ≤ 1000 ∧ n4 ≤ 1000 ∧ n5 ≤ 1000 ∧ n6 ≤ 1000)
  (hN : Blk w bn 3 #[.int .i64 d]) :
  Calls Tryz.prog 8 #[.pointer (some ⟨g, 0, none⟩), .agg #[.int .i64 5, .slice (some ⟨bn, 0, none⟩) 1 1]] w (EnterPost w B B1 T g gs A1 A2 A3 A4 A5 A6 n1 c1 n2 c2 c3 n4 c4 n5 c5 n6 c6 wm br hr wg pc lim ep mn md ma yr D E m dc n ec sv ds ls hs tg ho cy fe fs f d) := by
 have hmf : ∀ (fn : Fn) (first cap : Array Value) (w : World), (Instr.makeFunc fn first cap).run Tryz.prog w = .ok (.func fn first cap) w := fun _ _ _ _ => rfl
 have hta : ∀ w, (Instr.typeAssert (.iface 191 (.agg #[.int .i64 d])) 96 101 true).run Tryz.prog w = .ok (.tuple #[.agg #[.int .i64 0], .bool false]) w := fun w => by kernel_rfl
 have hinv := fun p w => invoke_fine d p w
 have hb0 := fr_alloc (fr_alloc (fr_refl w) (.cells #[.pointer (some ⟨g, 0, none⟩)] 38)) (.cells #[.int .i64 5, .slice (some ⟨bn, 0, none⟩) 1 1] 45)
 have hX := (Blk.new w 38 #[.pointer (some ⟨g, 0, none⟩)]).alloc (.cells #[.int .i64 5, .slice (some ⟨bn, 0, none⟩) 1 1] 45)
 have hY : Blk ((w.alloc (.cells #[.pointer (some ⟨g, 0, none⟩)] 38)).alloc (.cells #[.int .i64 5, .slice (some ⟨bn, 0, none⟩) 1 1] 45)) (w.heap.size + 1) 45 #[.int .i64 5, .slice (some ⟨bn, 0, none⟩) 1 1] := Blk.new_at _ _ (by simp)
 obtain ⟨w1, hw1⟩ : ∃ w1, (w.alloc (.cells #[.pointer (some ⟨g, 0, none⟩)] 38)).alloc (.cells #[.int .i64 5, .slice (some ⟨bn, 0, none⟩) 1 1] 45) = w1 := ⟨_, rfl⟩
 rw [hw1] at hb0 hX hY
 have hlN := hN.lt
 have hs0 := hb0.size
 have H0 := Lib.hid h
 have H := Lib.hid (h.keep hb0)
 have HG := Lib.hid hgo
 have HN := Lib.hid (hN.keep hb0)
 have HT := Lib.hid hT
 have HBD := Lib.hid hbd
 have hd1 := (h.keep hb0).d.d
 have nok : ∀ (k : Int) (W : World), ¬ k = 0 → Below w1.heap.size w1 W → EnterPost w B B1 T g gs A1 A2 A3 A4 A5 A6 n1 c1 n2 c2 c3 n4 c4 n5 c5 n6 c6 wm br hr wg pc lim ep mn md ma yr D E m dc n ec sv ds ls hs tg ho cy fe fs f d (.returned (.int .i64 k)) W := fun k W hk hb => ⟨k, rfl, Or.inl ⟨hk, fr_call hb0 hb⟩⟩
 have HNO := Lib.hid nok
 clear h hgo hN hT hbd nok
 have hcX := hX.cell 0
 have hcY := fun j => hY.cell j
 go_enter Tryz.func8, Tryz.ntmps8
 go_upto_region 1 with (fail)
 (try rw [hw1])
 clear hw1
 go_wp2_with fail
 refine (isOpen_yes g gs _ _ _ w1 hd1).mono ?_
 rintro e w1' ⟨rfl, rfl⟩
 obtain ⟨bf, hbf⟩ : ∃ b, inB d 0 9999 = b := ⟨_, rfl⟩
 go_wp2_with fail
 refine (isFormed_is ⟨bn, 0, none⟩ 1 d w1 (HN.out.cell 0) HN.out.lt bf hbf).mono ?_
 rintro e w2 ⟨rfl, hb2⟩
 cases bf with
 | false =>
  go_wp2_with fail
  go_ret
  exact HNO.out 2 _ (by omega) hb2
 | true =>
 have hG2 := hd1.keep hb2
 have hX2 := hX.keep hb2
 have hY2 := hY.keep hb2
 have hcG := hG2.cell 2
 have hq : ((n : Int) == 24) = false := by rw [beq_eq_false_iff_ne]; omega
 clear hcX hcY hbf
 have hcX := hX2.cell 0
 have hcY := fun j => hY2.cell j
 go_upto_region 7 with (fail)
 go_wp2_with fail
 refine (deedOf_set ⟨bn, 0, none⟩ 1 d w2 ((HN.out.keep hb2).cell 0) (HN.out.keep hb2).lt).mono ?_
 rintro e w3 ⟨rfl, hb3⟩
 replace hb3 := fr_call hb2 hb3
 clear hcX hcY hcG hG2 hX2 hY2 hb2 hq
 unfold dset at *
 go_upto_region 8 with (fail)
 have hb4 := fr_call hb3 (fr_alloc (fr_refl w3) (.cells #[.iface 191 (.agg #[.int .i64 d])] 96))
 have h5 := Blk.new w3 96 #[.iface 191 (.agg #[.int .i64 d])]
 generalize w3.alloc (.cells #[.iface 191 (.agg #[.int .i64 d])] 96) = w4 at *
 have hX4 := hX.keep hb4
 have hY4 := hY.keep hb4
 have hcX := hX4.cell 0
 have hc5 := h5.cell 0
 obtain ⟨bd, hbd'⟩ : ∃ b, inB d 1 (m : Int) = b := ⟨_, rfl⟩
 have hs3 := hb3.size
 go_wp2_with fail
 refine (fine_set g gs m dc D _ sv d w4 (H.out.d.keep hb4).d bd hbd').mono ?_
 rintro e w5 ⟨rfl, hb5⟩
 have hb45 := hb5
 replace hb5 := fr_call hb4 hb5
 clear hinv hcX hc5
 cases bd with
 | false =>
  go_wp2_with fail
  go_ret
  exact HNO.out 2 _ (by omega) hb5
 | true =>
 have hd : 1 ≤ d ∧ d ≤ (m : Int) := of_decide_eq_true hbd'
 have hX5 := hX.keep hb5
 have hY5 := hY.keep hb5
 have h55 := h5.keep hb45
 have hl5 := h55.lt
 have hlX5 := hX5.lt
 have hlY5 := hY5.lt
 have hb6 := fr_alloc (fr_refl w5) (.cells #[.int .i64 0] 39)
 have hEr := Blk.new w5 39 #[.int .i64 0]
 obtain ⟨bg, hbg⟩ : ∃ b, goB fs f ds d = b := ⟨_, rfl⟩
 have hE1 := Enter1_any w3.heap.size w.heap.size g gs A1 A2 A3 A4 A5 A6 n1 c1 n2 c2 c3 n4 c4 n5 c5 n6 c6 wm br hr wg pc lim ep mn md ma yr D E m dc n ec sv ds ls hs tg ho cy fe fs f d bg (w5.alloc (.cells #[.int .i64 0] 39)) ((H.out.d.keep hb5).keep hb6) ((H.out.keep hb5).keep hb6).entR HG.out hm (by omega) HBD.out (h55.alloc _) (hX5.alloc _) hd hbg
 have hcX := hX5.cell 0
 cases bg with
 | false =>
  have hTr := jtry_ref_Enter #[.pointer (some ⟨w3.heap.size, 0, none⟩), .pointer (some ⟨w.heap.size, 0, none⟩)] (fun W => Below (w5.alloc (.cells #[.int .i64 0] 39)).heap.size (w5.alloc (.cells #[.int .i64 0] 39)) W) w5 d (hE1.mono (fun e W h => ⟨h.2.1 rfl, h.2.2, ((hEr.keep h.2.2).cell 0), ((hEr.keep h.2.2).frozen 0)⟩))
  clear hE1
  go_wp2_with fail
  refine hTr.mono ?_
  rintro e w6 ⟨rfl, w7, hb7, rfl⟩
  have hbF : Below w5.heap.size w5 ((w7.alloc (.cells #[dset d] 107)).setCell ⟨w5.heap.size, 0, none⟩ (.int .i64 7)) := fr_set (fr_alloc (fr_call hb6 hb7) _) (Nat.le_refl _) _
  clear hTr
  go_wp2_with fail
  go_ret
  exact HNO.out 7 _ (by omega) (fr_call hb5 hbF)
 | true =>
  have hTr := jtry_ok_Enter #[.pointer (some ⟨w3.heap.size, 0, none⟩), .pointer (some ⟨w.heap.size, 0, none⟩)] (fun W => Below (w5.alloc (.cells #[.int .i64 0] 39)).heap.size (w5.alloc (.cells #[.int .i64 0] 39)) W) w5 (hE1.mono (fun e W h => ⟨h.1 rfl, h.2.2, ((hEr.keep h.2.2).cell 0), ((hEr.keep h.2.2).frozen 0)⟩))
  clear hE1
  go_wp2_with fail
  refine hTr.mono ?_
  rintro e w6 ⟨rfl, w7, hb7, rfl⟩
  have hbF : Below w5.heap.size w5 (w7.setCell ⟨w5.heap.size, 0, none⟩ (.int .i64 0)) := fr_set (fr_call hb6 hb7) (Nat.le_refl _) _
  clear hTr hcX hb7
  generalize w7.setCell ⟨w5.heap.size, 0, none⟩ (.int .i64 0) = w8 at *
  have h58 := h55.keep hbF
  have hc5 := h58.cell 0
  have hb8 := fr_call hb5 hbF
  go_upto_region 14 with (refine wpList_store_blk rfl _ _ _ rfl w8.heap.size 101 _ _ rfl rfl (Blk.new w8 _ _) rfl (by kernel_rfl) (by simp [Value.oneCell']) ?_; intro w9 hQ hgQ)
  have hb89 : Below w8.heap.size w8 w9 := (fr_alloc (fr_refl w8) _).grown hgQ (fr_alloc (fr_refl w8) _).size (by intro k hk; cases hk; exact Nat.le_refl _)
  have hb9 := fr_call hb8 hb89
  have hX9 := hX.keep hb9
  have hY9 := hY.keep hb9
  have H9 := Lib.hid (H.out.keep hb9)
  clear hQ hgQ hc5 h58 h55 h5 hX5 hY5 hbF hEr hb6 hta hX4 hY4 hb4 hb3 hb45 hb5 hb8 hb89
  (try dsimp only [Act.put])
  go_upto_region 16 with (fail)
  (try dsimp only [Act.put])
  obtain ⟨rows, hOE, hrl, hrw⟩ := H9.out.ev
  have hEo : ∀ k, (Value.slice E n ec).ownBlock = some k → k < w.heap.size := fun k e => by
   obtain ⟨rows0, hO0, _⟩ := H0.out.ev
   exact (World.ownsRow.lt hO0.1 k e).2
  have hSo : ∀ k, sv.ownBlock = some k → k < w.heap.size := fun k e => (World.ownsRow.lt H0.out.sv.1 k e).2
  have hG9 := H9.out.d.d
  have hgE : some g ≠ (Value.slice E n ec).ownBlock := ownS_blk hOE hG9 (by decide)
  have hs9 := hb9.size
  have hgl := H0.out.lo.1
  have hglt := H0.out.d.d.lt
  go_cut [57] from 45 (fun s57 wc => ∃ E' ec' c' gn, Blk wc g 93 #[.pointer (some ⟨gs, 0, none⟩), .slice D m dc, .slice E' (n + 1) ec', sv] ∧ OwnS wc B1 45 2 (.slice E' (n + 1) ec') (rows ++ [entC ⟨gn, 0, none⟩ c']) ∧ (w9.heap.size ≤ gn ∧ wc.cell? ⟨gn, 0, none⟩ = some (.int .i64 d) ∧ ∃ cs fr, wc.heap[gn]? = some (.cells cs 3 fr)) ∧ Blk wc w.heap.size 38 #[.pointer (some ⟨g, 0, none⟩)] ∧ OwnS wc B1 4 1 sv (List.replicate n [.bool false]) ∧ Exc (fun i => i = g ∨ (Value.slice E n ec).ownBlock = some i) w9 wc)
  case first =>
   have hbz := fr_drew (fr_refl w9)
   have hxz : Exc (fun i => i = g ∨ (Value.slice E n ec).ownBlock = some i) w9 w9.drew := (Exc.refl _ w9).below hbz
   have hOz := hOE.keep hbz
   have hGz := hG9.keep hbz
   have hNz : Rd w9.drew (some ⟨bn, 0, none⟩) 1 [d] := rd_of_blk (xs := [d]) ((HN.out.keep hb9).keep hbz)
   have hSz : Blk w9.drew w.heap.size 38 #[.pointer (some ⟨g, 0, none⟩)] ∧ Blk w9.drew (w.heap.size + 1) 45 #[.int .i64 5, .slice (some ⟨bn, 0, none⟩) 1 1] := ⟨hX9.keep hbz, hY9.keep hbz⟩
   have hcS := fun W' (h : Blk W' w.heap.size 38 #[.pointer (some ⟨g, 0, none⟩)] ∧ Blk W' (w.heap.size + 1) 45 #[.int .i64 5, .slice (some ⟨bn, 0, none⟩) 1 1]) => And.intro (h.1.cell 0) (And.intro (h.2.cell 0) (h.2.cell 1))
   have hsz : w9.heap.size ≤ w9.drew.heap.size := Nat.le_refl _
   have hvz := H9.out.sv.keep hbz
   refine wp_region_noPanic ?_
   refine wp_region_held_drew (S := fun W' => Blk W' w.heap.size 38 #[.pointer (some ⟨g, 0, none⟩)] ∧ Blk W' (w.heap.size + 1) 45 #[.int .i64 5, .slice (some ⟨bn, 0, none⟩) 1 1]) (by kernel_rfl) hSz (fun hHeld => ?_)
   generalize w9.drew = wz at hbz hxz hOz hGz hNz hHeld hsz hvz ⊢
   -- the region, step by step, in whatever order
   refine tkH 0 ⟨some 45, .load 38 (.tmp 2), 38, "desk.go:307", #[], none⟩ hHeld ?_
   refine tkH 1 ⟨some 46, .load 38 (.tmp 2), 38, "desk.go:307", #[], none⟩ hHeld ?_
   refine tkH 2 ⟨some 47, .nilCheck (.tmp 46), 0, "desk.go:307", #[⟨1, .data⟩], none⟩ hHeld ?_
   refine tkH 3 ⟨some 48, .fieldAddr 93 (.tmp 47) 2, 0, "desk.go:307", #[⟨2, .data⟩], none⟩ hHeld ?_
   refine tkH 5 ⟨some 50, .fieldAddr 45 (.tmp 3) 0, 0, "desk.go:307", #[], none⟩ hHeld ?_
   refine tkH 6 ⟨some 51, .load 43 (.tmp 50), 43, "desk.go:307", #[⟨5, .data⟩], none⟩ hHeld ?_
   refine tkH 7 ⟨some 52, .fieldAddr 45 (.tmp 3) 1, 0, "desk.go:307", #[], none⟩ hHeld ?_
   refine tkH 8 ⟨some 53, .load 23 (.tmp 52), 23, "desk.go:307", #[⟨7, .data⟩], none⟩ hHeld ?_
   refine wpAnyH_ready (rs := [4, 9]) (by kernel_rfl) (by simp) ?_
   refine (AllReadyH.cons (o := ⟨some 49, .load 90 (.tmp 48), 90, "desk.go:307", #[⟨3, .data⟩], none⟩) rfl (fun K hK => ?_) (AllReadyH.cons (o := ⟨some 54, .call { callee := .value (.func 38), args := #[.tmp 53], argTypes := #[23] }, 23, "desk.go:307", #[⟨8, .data⟩], none⟩) rfl (fun K hK => ?_) AllReadyH.nil))
   ·rw [if_pos (by rfl)]
    have hc4 := hGz.cell 2
    go_simp
    refine hK.out _ _ (hHeld) (fun hHeld => ?_)
    clear hK K
    (try simp only [Act.put, List.setIfInBounds_toArray, List.set_cons_zero, List.set_cons_succ])
    refine rdH 9 ⟨some 54, .call { callee := .value (.func 38), args := #[.tmp 53], argTypes := #[23] }, 23, "desk.go:307", #[⟨8, .data⟩], none⟩ fun K hK => ?_
    go_simp
    refine (clone_Int (some ⟨bn, 0, none⟩) 1 1 [d] _ hNz (Or.inr ⟨bn, 0, rfl⟩) (by omega)).mono ?_
    rintro e' wz ⟨A', c', rfl, hC, hb1⟩
    obtain ⟨gn, rfl, hgn, hcn, hhn⟩ := clone_one hC
    have hgn2 : w9.heap.size ≤ gn := by omega
    replace hxz := hxz.below hb1
    replace hsz := Nat.le_trans hsz hb1.size
    replace hOz := hOz.keep hb1
    replace hGz := hGz.keep hb1
    replace hvz := hvz.keep hb1
    refine hK.out _ _ (⟨hHeld.1.keep hb1, hHeld.2.keep hb1⟩) (fun hHeld => ?_)
    clear hK K
    (try simp only [Act.put, List.setIfInBounds_toArray, List.set_cons_zero, List.set_cons_succ])
    refine tkH 10 ⟨some 55, .build 45 #[(0, .tmp 51), (1, .tmp 54)], 45, "desk.go:307", #[⟨6, .data⟩, ⟨9, .data⟩], none⟩ hHeld ?_
    refine rdH 11 ⟨some 56, .buildSlice 90 1 #[(0, .tmp 55)], 90, "desk.go:307", #[⟨10, .data⟩], none⟩ fun K hK => ?_
    refine wp_build_ent rfl rfl ?_
    intro g1 wz hg1 hG1 hb1
    obtain ⟨cs, fr, hhn⟩ := hhn
    replace hcn := (hb1.cell (p := ⟨gn, 0, none⟩) (blk_of hhn)).trans hcn
    replace hhn := (hb1.block _ (blk_of hhn)).trans hhn
    replace hxz := hxz.below hb1
    replace hsz := Nat.le_trans hsz hb1.size
    replace hOz := hOz.keep hb1
    replace hGz := hGz.keep hb1
    replace hvz := hvz.keep hb1
    refine hK.out _ _ (⟨hHeld.1.keep hb1, hHeld.2.keep hb1⟩) (fun hHeld => ?_)
    clear hK K
    (try simp only [Act.put, List.setIfInBounds_toArray, List.set_cons_zero, List.set_cons_succ])
    refine rdH 12 ⟨some 57, .call { callee := .builtin .append, args := #[.tmp 49, .tmp 56], argTypes := #[90, 90] }, 90, "desk.go:307", #[⟨4, .data⟩, ⟨11, .data⟩, ⟨9, .chain⟩], none⟩ fun K hK => ?_
    refine wp_app_row (.tmp 49) (.tmp 56) rfl Tryz.underlying90 info_ent rfl (by omega) (by omega) B1 _ rows rfl hOz g1 rfl (r := entC ⟨gn, 0, none⟩ c') hG1 rfl (by intro u hu; simp only [entC, List.mem_cons, List.not_mem_nil, or_false] at hu; rcases hu with rfl | rfl <;> rfl) (by omega) (by omega) ?_
    intro E2 ec2 wz hO2 hgr
    rw [hrl] at hO2 ⊢
    have hgnE : some gn ≠ (Value.slice E n ec).ownBlock := fun e => by have := hEo gn e.symm; omega
    replace hcn := (World.cell?_of_block (hgr.block _ (blk_of hhn) hgnE)).trans hcn
    replace hhn := (hgr.block _ (blk_of hhn) hgnE).trans hhn
    replace hxz := hxz.grown hgr (fun k e => Or.inl (Or.inr e))
    replace hsz := Nat.le_trans hsz hgr.size
    replace hGz := hGz.grown hgr hgE
    replace hvz : OwnS wz B1 4 1 sv (List.replicate n [.bool false]) := ⟨World.ownsRow.kept hvz.1 hgr (by
     cases hv : sv.ownBlock with
     | none => exact Or.inl rfl
     | some k => exact Or.inr (fun e => by
       obtain ⟨cs1, h1⟩ := hvz.cellsOf k hv
       obtain ⟨cs2, h2⟩ := hOz.cellsOf k e.symm
       rw [h1] at h2
       cases h2)), hvz.2⟩
    refine hK.out _ _ (⟨hHeld.1.grown hgr (fun e => by have := hEo _ e.symm; omega), hHeld.2.grown hgr (fun e => by have := hEo _ e.symm; omega)⟩) (fun hHeld => ?_)
    clear hK K
    (try simp only [Act.put, List.setIfInBounds_toArray, List.set_cons_zero, List.set_cons_succ])
    refine tkH 13 ⟨some 58, .nilCheck (.tmp 45), 0, "desk.go:307", #[⟨0, .data⟩, ⟨0, .phase⟩, ⟨1, .phase⟩, ⟨2, .phase⟩, ⟨3, .phase⟩, ⟨4, .phase⟩, ⟨5, .phase⟩, ⟨6, .phase⟩, ⟨7, .phase⟩, ⟨8, .phase⟩, ⟨9, .phase⟩, ⟨10, .phase⟩, ⟨11, .phase⟩, ⟨12, .phase⟩], none⟩ hHeld ?_
    refine tkH 14 ⟨some 59, .fieldAddr 93 (.tmp 58) 2, 0, "desk.go:307", #[⟨13, .data⟩, ⟨0, .phase⟩, ⟨1, .phase⟩, ⟨2, .phase⟩, ⟨3, .phase⟩, ⟨4, .phase⟩, ⟨5, .phase⟩, ⟨6, .phase⟩, ⟨7, .phase⟩, ⟨8, .phase⟩, ⟨9, .phase⟩, ⟨10, .phase⟩, ⟨11, .phase⟩, ⟨12, .phase⟩], none⟩ hHeld ?_
    refine rdH 15 ⟨none, .store 90 (.tmp 59) (.tmp 57), 0, "desk.go:307", #[⟨14, .data⟩, ⟨12, .data⟩, ⟨12, .chain⟩, ⟨0, .phase⟩, ⟨1, .phase⟩, ⟨2, .phase⟩, ⟨3, .phase⟩, ⟨4, .phase⟩, ⟨5, .phase⟩, ⟨6, .phase⟩, ⟨7, .phase⟩, ⟨8, .phase⟩, ⟨9, .phase⟩, ⟨10, .phase⟩, ⟨11, .phase⟩, ⟨12, .phase⟩], none⟩ fun K hK => ?_
    have hc15 := hGz.cell 2
    have hf15 := hGz.frozen 2
    go_simp
    have hG3 := hGz.set_ 2 (.slice E2 (n + 1) ec2)
    have hgs := grown_set wz ⟨g, 2, none⟩ (.slice E2 (n + 1) ec2)
    have hxF := hxz.grown hgs (fun k e => by cases e; exact Or.inl (Or.inl rfl))
    have hO3 : OwnS (wz.setCell ⟨g, 2, none⟩ (.slice E2 (n + 1) ec2)) B1 45 2 (.slice E2 (n + 1) ec2) (rows ++ [entC ⟨gn, 0, none⟩ c']) := ownS_kept hO2 hgs (ownS_blk hO2 hGz (by decide))
    have hv3 : OwnS (wz.setCell ⟨g, 2, none⟩ (.slice E2 (n + 1) ec2)) B1 4 1 sv (List.replicate n [.bool false]) := ownS_kept hvz hgs (ownS_blk hvz hGz (by decide))
    have hgng : some gn ≠ some g := fun e => by have := Option.some.inj e; omega
    have hcn3 := (World.cell?_of_block (hgs.block _ (blk_of hhn) hgng)).trans hcn
    have hhn3 := (hgs.block _ (blk_of hhn) hgng).trans hhn
    refine hK.out _ _ (⟨hHeld.1.grown hgs (fun e => by have : w.heap.size = g := Option.some.inj e; omega), hHeld.2.grown hgs (fun e => by have : w.heap.size + 1 = g := Option.some.inj e; omega)⟩) (fun hHeld => ?_)
    clear hK K
    refine wpAnyH_done (by kernel_rfl) ?_ _
    refine NoPanic.normal ?_
    go_wp2_with fail
    go_meet
    case rel => exact ⟨E2, ec2, c', gn, hG3, hO3, ⟨hgn2, hcn3, _, _, hhn3⟩, hHeld.1, hv3, hxF⟩
   ·rw [if_pos (by rfl)]
    go_simp
    refine (clone_Int (some ⟨bn, 0, none⟩) 1 1 [d] _ hNz (Or.inr ⟨bn, 0, rfl⟩) (by omega)).mono ?_
    rintro e' wz ⟨A', c', rfl, hC, hb1⟩
    obtain ⟨gn, rfl, hgn, hcn, hhn⟩ := clone_one hC
    have hgn2 : w9.heap.size ≤ gn := by omega
    replace hxz := hxz.below hb1
    replace hsz := Nat.le_trans hsz hb1.size
    replace hOz := hOz.keep hb1
    replace hGz := hGz.keep hb1
    replace hvz := hvz.keep hb1
    refine hK.out _ _ (⟨hHeld.1.keep hb1, hHeld.2.keep hb1⟩) (fun hHeld => ?_)
    clear hK K
    (try simp only [Act.put, List.setIfInBounds_toArray, List.set_cons_zero, List.set_cons_succ])
    refine tkH 10 ⟨some 55, .build 45 #[(0, .tmp 51), (1, .tmp 54)], 45, "desk.go:307", #[⟨6, .data⟩, ⟨9, .data⟩], none⟩ hHeld ?_
    refine wpAnyH_ready (rs := [4, 11]) (by kernel_rfl) (by simp) ?_
    refine (AllReadyH.cons (o := ⟨some 49, .load 90 (.tmp 48), 90, "desk.go:307", #[⟨3, .data⟩], none⟩) rfl (fun K hK => ?_) (AllReadyH.cons (o := ⟨some 56, .buildSlice 90 1 #[(0, .tmp 55)], 90, "desk.go:307", #[⟨10, .data⟩], none⟩) rfl (fun K hK => ?_) AllReadyH.nil))
    ·rw [if_pos (by rfl)]
     have hc4 := hGz.cell 2
     go_simp
     refine hK.out _ _ (hHeld) (fun hHeld => ?_)
     clear hK K
     (try simp only [Act.put, List.setIfInBounds_toArray, List.set_cons_zero, List.set_cons_succ])
     refine rdH 11 ⟨some 56, .buildSlice 90 1 #[(0, .tmp 55)], 90, "desk.go:307", #[⟨10, .data⟩], none⟩ fun K hK => ?_
     refine wp_build_ent rfl rfl ?_
     intro g1 wz hg1 hG1 hb1
     obtain ⟨cs, fr, hhn⟩ := hhn
     replace hcn := (hb1.cell (p := ⟨gn, 0, none⟩) (blk_of hhn)).trans hcn
     replace hhn := (hb1.block _ (blk_of hhn)).trans hhn
     replace hxz := hxz.below hb1
     replace hsz := Nat.le_trans hsz hb1.size
     replace hOz := hOz.keep hb1
     replace hGz := hGz.keep hb1
     replace hvz := hvz.keep hb1
     refine hK.out _ _ (⟨hHeld.1.keep hb1, hHeld.2.keep hb1⟩) (fun hHeld => ?_)
     clear hK K
     (try simp only [Act.put, List.setIfInBounds_toArray, List.set_cons_zero, List.set_cons_succ])
     refine rdH 12 ⟨some 57, .call { callee := .builtin .append, args := #[.tmp 49, .tmp 56], argTypes := #[90, 90] }, 90, "desk.go:307", #[⟨4, .data⟩, ⟨11, .data⟩, ⟨9, .chain⟩], none⟩ fun K hK => ?_
     refine wp_app_row (.tmp 49) (.tmp 56) rfl Tryz.underlying90 info_ent rfl (by omega) (by omega) B1 _ rows rfl hOz g1 rfl (r := entC ⟨gn, 0, none⟩ c') hG1 rfl (by intro u hu; simp only [entC, List.mem_cons, List.not_mem_nil, or_false] at hu; rcases hu with rfl | rfl <;> rfl) (by omega) (by omega) ?_
     intro E2 ec2 wz hO2 hgr
     rw [hrl] at hO2 ⊢
     have hgnE : some gn ≠ (Value.slice E n ec).ownBlock := fun e => by have := hEo gn e.symm; omega
     replace hcn := (World.cell?_of_block (hgr.block _ (blk_of hhn) hgnE)).trans hcn
     replace hhn := (hgr.block _ (blk_of hhn) hgnE).trans hhn
     replace hxz := hxz.grown hgr (fun k e => Or.inl (Or.inr e))
     replace hsz := Nat.le_trans hsz hgr.size
     replace hGz := hGz.grown hgr hgE
     replace hvz : OwnS wz B1 4 1 sv (List.replicate n [.bool false]) := ⟨World.ownsRow.kept hvz.1 hgr (by
      cases hv : sv.ownBlock with
      | none => exact Or.inl rfl
      | some k => exact Or.inr (fun e => by
        obtain ⟨cs1, h1⟩ := hvz.cellsOf k hv
        obtain ⟨cs2, h2⟩ := hOz.cellsOf k e.symm
        rw [h1] at h2
        cases h2)), hvz.2⟩
     refine hK.out _ _ (⟨hHeld.1.grown hgr (fun e => by have := hEo _ e.symm; omega), hHeld.2.grown hgr (fun e => by have := hEo _ e.symm; omega)⟩) (fun hHeld => ?_)
     clear hK K
     (try simp only [Act.put, List.setIfInBounds_toArray, List.set_cons_zero, List.set_cons_succ])
     refine tkH 13 ⟨some 58, .nilCheck (.tmp 45), 0, "desk.go:307", #[⟨0, .data⟩, ⟨0, .phase⟩, ⟨1, .phase⟩, ⟨2, .phase⟩, ⟨3, .phase⟩, ⟨4, .phase⟩, ⟨5, .phase⟩, ⟨6, .phase⟩, ⟨7, .phase⟩, ⟨8, .phase⟩, ⟨9, .phase⟩, ⟨10, .phase⟩, ⟨11, .phase⟩, ⟨12, .phase⟩], none⟩ hHeld ?_
     refine tkH 14 ⟨some 59, .fieldAddr 93 (.tmp 58) 2, 0, "desk.go:307", #[⟨13, .data⟩, ⟨0, .phase⟩, ⟨1, .phase⟩, ⟨2, .phase⟩, ⟨3, .phase⟩, ⟨4, .phase⟩, ⟨5, .phase⟩, ⟨6, .phase⟩, ⟨7, .phase⟩, ⟨8, .phase⟩, ⟨9, .phase⟩, ⟨10, .phase⟩, ⟨11, .phase⟩, ⟨12, .phase⟩], none⟩ hHeld ?_
     refine rdH 15 ⟨none, .store 90 (.tmp 59) (.tmp 57), 0, "desk.go:307", #[⟨14, .data⟩, ⟨12, .data⟩, ⟨12, .chain⟩, ⟨0, .phase⟩, ⟨1, .phase⟩, ⟨2, .phase⟩, ⟨3, .phase⟩, ⟨4, .phase⟩, ⟨5, .phase⟩, ⟨6, .phase⟩, ⟨7, .phase⟩, ⟨8, .phase⟩, ⟨9, .phase⟩, ⟨10, .phase⟩, ⟨11, .phase⟩, ⟨12, .phase⟩], none⟩ fun K hK => ?_
     have hc15 := hGz.cell 2
     have hf15 := hGz.frozen 2
     go_simp
     have hG3 := hGz.set_ 2 (.slice E2 (n + 1) ec2)
     have hgs := grown_set wz ⟨g, 2, none⟩ (.slice E2 (n + 1) ec2)
     have hxF := hxz.grown hgs (fun k e => by cases e; exact Or.inl (Or.inl rfl))
     have hO3 : OwnS (wz.setCell ⟨g, 2, none⟩ (.slice E2 (n + 1) ec2)) B1 45 2 (.slice E2 (n + 1) ec2) (rows ++ [entC ⟨gn, 0, none⟩ c']) := ownS_kept hO2 hgs (ownS_blk hO2 hGz (by decide))
     have hv3 : OwnS (wz.setCell ⟨g, 2, none⟩ (.slice E2 (n + 1) ec2)) B1 4 1 sv (List.replicate n [.bool false]) := ownS_kept hvz hgs (ownS_blk hvz hGz (by decide))
     have hgng : some gn ≠ some g := fun e => by have := Option.some.inj e; omega
     have hcn3 := (World.cell?_of_block (hgs.block _ (blk_of hhn) hgng)).trans hcn
     have hhn3 := (hgs.block _ (blk_of hhn) hgng).trans hhn
     refine hK.out _ _ (⟨hHeld.1.grown hgs (fun e => by have : w.heap.size = g := Option.some.inj e; omega), hHeld.2.grown hgs (fun e => by have : w.heap.size + 1 = g := Option.some.inj e; omega)⟩) (fun hHeld => ?_)
     clear hK K
     refine wpAnyH_done (by kernel_rfl) ?_ _
     refine NoPanic.normal ?_
     go_wp2_with fail
     go_meet
     case rel => exact ⟨E2, ec2, c', gn, hG3, hO3, ⟨hgn2, hcn3, _, _, hhn3⟩, hHeld.1, hv3, hxF⟩
    ·rw [if_pos (by rfl)]
     refine wp_build_ent rfl rfl ?_
     intro g1 wz hg1 hG1 hb1
     obtain ⟨cs, fr, hhn⟩ := hhn
     replace hcn := (hb1.cell (p := ⟨gn, 0, none⟩) (blk_of hhn)).trans hcn
     replace hhn := (hb1.block _ (blk_of hhn)).trans hhn
     replace hxz := hxz.below hb1
     replace hsz := Nat.le_trans hsz hb1.size
     replace hOz := hOz.keep hb1
     replace hGz := hGz.keep hb1
     replace hvz := hvz.keep hb1
     refine hK.out _ _ (⟨hHeld.1.keep hb1, hHeld.2.keep hb1⟩) (fun hHeld => ?_)
     clear hK K
     (try simp only [Act.put, List.setIfInBounds_toArray, List.set_cons_zero, List.set_cons_succ])
     refine rdH 4 ⟨some 49, .load 90 (.tmp 48), 90, "desk.go:307", #[⟨3, .data⟩], none⟩ fun K hK => ?_
     have hc4 := hGz.cell 2
     go_simp
     refine hK.out _ _ (hHeld) (fun hHeld => ?_)
     clear hK K
     (try simp only [Act.put, List.setIfInBounds_toArray, List.set_cons_zero, List.set_cons_succ])
     refine rdH 12 ⟨some 57, .call { callee := .builtin .append, args := #[.tmp 49, .tmp 56], argTypes := #[90, 90] }, 90, "desk.go:307", #[⟨4, .data⟩, ⟨11, .data⟩, ⟨9, .chain⟩], none⟩ fun K hK => ?_
     refine wp_app_row (.tmp 49) (.tmp 56) rfl Tryz.underlying90 info_ent rfl (by omega) (by omega) B1 _ rows rfl hOz g1 rfl (r := entC ⟨gn, 0, none⟩ c') hG1 rfl (by intro u hu; simp only [entC, List.mem_cons, List.not_mem_nil, or_false] at hu; rcases hu with rfl | rfl <;> rfl) (by omega) (by omega) ?_
     intro E2 ec2 wz hO2 hgr
     rw [hrl] at hO2 ⊢
     have hgnE : some gn ≠ (Value.slice E n ec).ownBlock := fun e => by have := hEo gn e.symm; omega
     replace hcn := (World.cell?_of_block (hgr.block _ (blk_of hhn) hgnE)).trans hcn
     replace hhn := (hgr.block _ (blk_of hhn) hgnE).trans hhn
     replace hxz := hxz.grown hgr (fun k e => Or.inl (Or.inr e))
     replace hsz := Nat.le_trans hsz hgr.size
     replace hGz := hGz.grown hgr hgE
     replace hvz : OwnS wz B1 4 1 sv (List.replicate n [.bool false]) := ⟨World.ownsRow.kept hvz.1 hgr (by
      cases hv : sv.ownBlock with
      | none => exact Or.inl rfl
      | some k => exact Or.inr (fun e => by
        obtain ⟨cs1, h1⟩ := hvz.cellsOf k hv
        obtain ⟨cs2, h2⟩ := hOz.cellsOf k e.symm
        rw [h1] at h2
        cases h2)), hvz.2⟩
     refine hK.out _ _ (⟨hHeld.1.grown hgr (fun e => by have := hEo _ e.symm; omega), hHeld.2.grown hgr (fun e => by have := hEo _ e.symm; omega)⟩) (fun hHeld => ?_)
     clear hK K
     (try simp only [Act.put, List.setIfInBounds_toArray, List.set_cons_zero, List.set_cons_succ])
     refine tkH 13 ⟨some 58, .nilCheck (.tmp 45), 0, "desk.go:307", #[⟨0, .data⟩, ⟨0, .phase⟩, ⟨1, .phase⟩, ⟨2, .phase⟩, ⟨3, .phase⟩, ⟨4, .phase⟩, ⟨5, .phase⟩, ⟨6, .phase⟩, ⟨7, .phase⟩, ⟨8, .phase⟩, ⟨9, .phase⟩, ⟨10, .phase⟩, ⟨11, .phase⟩, ⟨12, .phase⟩], none⟩ hHeld ?_
     refine tkH 14 ⟨some 59, .fieldAddr 93 (.tmp 58) 2, 0, "desk.go:307", #[⟨13, .data⟩, ⟨0, .phase⟩, ⟨1, .phase⟩, ⟨2, .phase⟩, ⟨3, .phase⟩, ⟨4, .phase⟩, ⟨5, .phase⟩, ⟨6, .phase⟩, ⟨7, .phase⟩, ⟨8, .phase⟩, ⟨9, .phase⟩, ⟨10, .phase⟩, ⟨11, .phase⟩, ⟨12, .phase⟩], none⟩ hHeld ?_
     refine rdH 15 ⟨none, .store 90 (.tmp 59) (.tmp 57), 0, "desk.go:307", #[⟨14, .data⟩, ⟨12, .data⟩, ⟨12, .chain⟩, ⟨0, .phase⟩, ⟨1, .phase⟩, ⟨2, .phase⟩, ⟨3, .phase⟩, ⟨4, .phase⟩, ⟨5, .phase⟩, ⟨6, .phase⟩, ⟨7, .phase⟩, ⟨8, .phase⟩, ⟨9, .phase⟩, ⟨10, .phase⟩, ⟨11, .phase⟩, ⟨12, .phase⟩], none⟩ fun K hK => ?_
     have hc15 := hGz.cell 2
     have hf15 := hGz.frozen 2
     go_simp
     have hG3 := hGz.set_ 2 (.slice E2 (n + 1) ec2)
     have hgs := grown_set wz ⟨g, 2, none⟩ (.slice E2 (n + 1) ec2)
     have hxF := hxz.grown hgs (fun k e => by cases e; exact Or.inl (Or.inl rfl))
     have hO3 : OwnS (wz.setCell ⟨g, 2, none⟩ (.slice E2 (n + 1) ec2)) B1 45 2 (.slice E2 (n + 1) ec2) (rows ++ [entC ⟨gn, 0, none⟩ c']) := ownS_kept hO2 hgs (ownS_blk hO2 hGz (by decide))
     have hv3 : OwnS (wz.setCell ⟨g, 2, none⟩ (.slice E2 (n + 1) ec2)) B1 4 1 sv (List.replicate n [.bool false]) := ownS_kept hvz hgs (ownS_blk hvz hGz (by decide))
     have hgng : some gn ≠ some g := fun e => by have := Option.some.inj e; omega
     have hcn3 := (World.cell?_of_block (hgs.block _ (blk_of hhn) hgng)).trans hcn
     have hhn3 := (hgs.block _ (blk_of hhn) hgng).trans hhn
     refine hK.out _ _ (⟨hHeld.1.grown hgs (fun e => by have : w.heap.size = g := Option.some.inj e; omega), hHeld.2.grown hgs (fun e => by have : w.heap.size + 1 = g := Option.some.inj e; omega)⟩) (fun hHeld => ?_)
     clear hK K
     refine wpAnyH_done (by kernel_rfl) ?_ _
     refine NoPanic.normal ?_
     go_wp2_with fail
     go_meet
     case rel => exact ⟨E2, ec2, c', gn, hG3, hO3, ⟨hgn2, hcn3, _, _, hhn3⟩, hHeld.1, hv3, hxF⟩
  obtain ⟨E2, ec2, c', gn, hGc, hOc, ⟨hgn, hcn, cs, fr, hhn⟩, hXc, hvc, hxc⟩ := hcut
  obtain ⟨wz, hwz⟩ : ∃ w2, w2 = wc := ⟨_, rfl⟩
  subst hwz
  generalize wz = wa at *
  have hsa := hxc.size
  have hbz := fr_drew (fr_refl wa)
  have hxz : Exc (fun i => i = g ∨ (Value.slice E n ec).ownBlock = some i ∨ sv.ownBlock = some i) w9 wa.drew := (hxc.mono (fun k e => by rcases e with e | e; exact Or.inl e; exact Or.inr (Or.inl e))).below hbz
  have hGz := hGc.keep hbz
  have hOz := hOc.keep hbz
  have hvz := hvc.keep hbz
  have hXz := hXc.keep hbz
  have hcz := (hbz.cell (p := ⟨gn, 0, none⟩) (blk_of hhn)).trans hcn
  have hhz := (hbz.block _ (blk_of hhn)).trans hhn
  have hsz : wa.heap.size ≤ wa.drew.heap.size := Nat.le_refl _
  have hcS := fun W' (h : Blk W' w.heap.size 38 #[.pointer (some ⟨g, 0, none⟩)]) => h.cell 0
  clear hGc hOc hvc hXc hcn hhn hxc
  go_wp2_with fail
  refine wp_region_noPanic ?_
  refine wp_region_held_drew (S := fun W' => Blk W' w.heap.size 38 #[.pointer (some ⟨g, 0, none⟩)]) (by kernel_rfl) hXz (fun hHeld => ?_)
  clear hbz
  generalize wa.drew = wz at hxz hOz hGz hvz hHeld hsz hcz hhz ⊢
  -- the region, step by step, in whatever order
  refine tkH 0 ⟨some 60, .load 38 (.tmp 2), 38, "desk.go:308", #[], none⟩ hHeld ?_
  refine tkH 1 ⟨some 61, .load 38 (.tmp 2), 38, "desk.go:308", #[], none⟩ hHeld ?_
  refine tkH 2 ⟨some 62, .nilCheck (.tmp 61), 0, "desk.go:308", #[⟨1, .data⟩], none⟩ hHeld ?_
  refine tkH 3 ⟨some 63, .fieldAddr 93 (.tmp 62) 3, 0, "desk.go:308", #[⟨2, .data⟩], none⟩ hHeld ?_
  refine wpAnyH_ready (rs := [4, 5]) (by kernel_rfl) (by simp) ?_
  refine (AllReadyH.cons (o := ⟨some 64, .load 91 (.tmp 63), 91, "desk.go:308", #[⟨3, .data⟩], none⟩) rfl (fun K hK => ?_) (AllReadyH.cons (o := ⟨some 65, .buildSlice 91 1 #[(0, .const (.bool false))], 91, "desk.go:308", #[], none⟩) rfl (fun K hK => ?_) AllReadyH.nil))
  ·rw [if_pos (by rfl)]
   have hc4 := hGz.cell 3
   go_simp
   refine hK.out _ _ (hHeld) (fun hHeld => ?_)
   clear hK K
   (try simp only [Act.put, List.setIfInBounds_toArray, List.set_cons_zero, List.set_cons_succ])
   refine rdH 5 ⟨some 65, .buildSlice 91 1 #[(0, .const (.bool false))], 91, "desk.go:308", #[], none⟩ fun K hK => ?_
   refine wp_build_bolc rfl ?_
   intro g1 wz hg1 hG1 hb1
   replace hcz := (hb1.cell (p := ⟨gn, 0, none⟩) (blk_of hhz)).trans hcz
   replace hhz := (hb1.block _ (blk_of hhz)).trans hhz
   replace hxz := hxz.below hb1
   replace hsz := Nat.le_trans hsz hb1.size
   replace hOz := hOz.keep hb1
   replace hGz := hGz.keep hb1
   replace hvz := hvz.keep hb1
   refine hK.out _ _ (hHeld.keep hb1) (fun hHeld => ?_)
   clear hK K
   (try simp only [Act.put, List.setIfInBounds_toArray, List.set_cons_zero, List.set_cons_succ])
   refine rdH 6 ⟨some 66, .call { callee := .builtin .append, args := #[.tmp 64, .tmp 65], argTypes := #[91, 91] }, 91, "desk.go:308", #[⟨4, .data⟩, ⟨5, .data⟩], none⟩ fun K hK => ?_
   refine wp_app_row (.tmp 64) (.tmp 65) rfl Tryz.underlying91 info_bol rfl (by omega) (by omega) B1 _ (List.replicate n [.bool false]) rfl hvz g1 rfl (r := [.bool false]) hG1 rfl (by intro u hu; rw [List.mem_singleton.1 hu]; rfl) (by rw [List.length_replicate]; omega) (by omega) ?_
   intro S2 sc2 wz hv2 hgr
   rw [List.length_replicate] at hv2 ⊢
   have hgnS : some gn ≠ sv.ownBlock := fun e => by have := hSo gn e.symm; omega
   replace hcz := (World.cell?_of_block (hgr.block _ (blk_of hhz) hgnS)).trans hcz
   replace hhz := (hgr.block _ (blk_of hhz) hgnS).trans hhz
   replace hxz := hxz.grown hgr (fun k e => Or.inl (Or.inr (Or.inr e)))
   replace hsz := Nat.le_trans hsz hgr.size
   have hgS : some g ≠ sv.ownBlock := ownS_blk hvz hGz (by decide)
   replace hOz : OwnS wz B1 45 2 (.slice E2 (n + 1) ec2) (rows ++ [entC ⟨gn, 0, none⟩ c']) := ⟨World.ownsRow.kept hOz.1 hgr (by
    cases hv : (Value.slice E2 (n + 1) ec2).ownBlock with
    | none => exact Or.inl rfl
    | some k => exact Or.inr (fun e => by
      obtain ⟨cs1, h1⟩ := hOz.cellsOf k hv
      obtain ⟨cs2, h2⟩ := hvz.cellsOf k e.symm
      rw [h1] at h2
      cases h2)), hOz.2⟩
   replace hGz := hGz.grown hgr hgS
   refine hK.out _ _ (hHeld.grown hgr (fun e => by have := hSo _ e.symm; omega)) (fun hHeld => ?_)
   clear hK K
   (try simp only [Act.put, List.setIfInBounds_toArray, List.set_cons_zero, List.set_cons_succ])
   refine tkH 7 ⟨some 67, .nilCheck (.tmp 60), 0, "desk.go:308", #[⟨0, .data⟩, ⟨0, .phase⟩, ⟨1, .phase⟩, ⟨2, .phase⟩, ⟨3, .phase⟩, ⟨4, .phase⟩, ⟨5, .phase⟩, ⟨6, .phase⟩], none⟩ hHeld ?_
   refine tkH 8 ⟨some 68, .fieldAddr 93 (.tmp 67) 3, 0, "desk.go:308", #[⟨7, .data⟩, ⟨0, .phase⟩, ⟨1, .phase⟩, ⟨2, .phase⟩, ⟨3, .phase⟩, ⟨4, .phase⟩, ⟨5, .phase⟩, ⟨6, .phase⟩], none⟩ hHeld ?_
   refine rdH 9 ⟨none, .store 91 (.tmp 68) (.tmp 66), 0, "desk.go:308", #[⟨8, .data⟩, ⟨6, .data⟩, ⟨6, .chain⟩, ⟨0, .phase⟩, ⟨1, .phase⟩, ⟨2, .phase⟩, ⟨3, .phase⟩, ⟨4, .phase⟩, ⟨5, .phase⟩, ⟨6, .phase⟩], none⟩ fun K hK => ?_
   have hc9 := hGz.cell 3
   have hf9 := hGz.frozen 3
   go_simp
   have hG3 := hGz.set_ 3 (.slice S2 (n + 1) sc2)
   have hgs := grown_set wz ⟨g, 3, none⟩ (.slice S2 (n + 1) sc2)
   have hxF := hxz.grown hgs (fun k e => by cases e; exact Or.inl (Or.inl rfl))
   have hO3 : OwnS (wz.setCell ⟨g, 3, none⟩ (.slice S2 (n + 1) sc2)) B1 45 2 (.slice E2 (n + 1) ec2) (rows ++ [entC ⟨gn, 0, none⟩ c']) := ownS_kept hOz hgs (ownS_blk hOz hGz (by decide))
   have hv3 : OwnS (wz.setCell ⟨g, 3, none⟩ (.slice S2 (n + 1) sc2)) B1 4 1 (.slice S2 (n + 1) sc2) (List.replicate n [.bool false] ++ [[.bool false]]) := ownS_kept hv2 hgs (ownS_blk hv2 hGz (by decide))
   have hgng : some gn ≠ some g := fun e => by have := Option.some.inj e; omega
   have hc3 := (World.cell?_of_block (hgs.block _ (blk_of hhz) hgng)).trans hcz
   have hh3 := (hgs.block _ (blk_of hhz) hgng).trans hhz
   refine hK.out _ _ (hHeld.grown hgs (fun e => by have : w.heap.size = g := Option.some.inj e; omega)) (fun hHeld => ?_)
   clear hK K
   refine wpAnyH_done (by kernel_rfl) ?_ _
   refine NoPanic.normal ?_
   have hfin := enter_fin H9.out hrl hOE hrw (fun i ht => by have := HT.out i ht; omega) hgn hG3 hO3 hv3 hc3 hh3 hxF
   go_wp2_with fail
   go_ret
   exact ⟨0, rfl, Or.inr ⟨rfl, hd, hbg, E2, ec2, _, hfin, Exc.pre (fr_call hb0 hb9) hxF⟩⟩
  ·rw [if_pos (by rfl)]
   refine wp_build_bolc rfl ?_
   intro g1 wz hg1 hG1 hb1
   replace hcz := (hb1.cell (p := ⟨gn, 0, none⟩) (blk_of hhz)).trans hcz
   replace hhz := (hb1.block _ (blk_of hhz)).trans hhz
   replace hxz := hxz.below hb1
   replace hsz := Nat.le_trans hsz hb1.size
   replace hOz := hOz.keep hb1
   replace hGz := hGz.keep hb1
   replace hvz := hvz.keep hb1
   refine hK.out _ _ (hHeld.keep hb1) (fun hHeld => ?_)
   clear hK K
   (try simp only [Act.put, List.setIfInBounds_toArray, List.set_cons_zero, List.set_cons_succ])
   refine rdH 4 ⟨some 64, .load 91 (.tmp 63), 91, "desk.go:308", #[⟨3, .data⟩], none⟩ fun K hK => ?_
   have hc4 := hGz.cell 3
   go_simp
   refine hK.out _ _ (hHeld) (fun hHeld => ?_)
   clear hK K
   (try simp only [Act.put, List.setIfInBounds_toArray, List.set_cons_zero, List.set_cons_succ])
   refine rdH 6 ⟨some 66, .call { callee := .builtin .append, args := #[.tmp 64, .tmp 65], argTypes := #[91, 91] }, 91, "desk.go:308", #[⟨4, .data⟩, ⟨5, .data⟩], none⟩ fun K hK => ?_
   refine wp_app_row (.tmp 64) (.tmp 65) rfl Tryz.underlying91 info_bol rfl (by omega) (by omega) B1 _ (List.replicate n [.bool false]) rfl hvz g1 rfl (r := [.bool false]) hG1 rfl (by intro u hu; rw [List.mem_singleton.1 hu]; rfl) (by rw [List.length_replicate]; omega) (by omega) ?_
   intro S2 sc2 wz hv2 hgr
   rw [List.length_replicate] at hv2 ⊢
   have hgnS : some gn ≠ sv.ownBlock := fun e => by have := hSo gn e.symm; omega
   replace hcz := (World.cell?_of_block (hgr.block _ (blk_of hhz) hgnS)).trans hcz
   replace hhz := (hgr.block _ (blk_of hhz) hgnS).trans hhz
   replace hxz := hxz.grown hgr (fun k e => Or.inl (Or.inr (Or.inr e)))
   replace hsz := Nat.le_trans hsz hgr.size
   have hgS : some g ≠ sv.ownBlock := ownS_blk hvz hGz (by decide)
   replace hOz : OwnS wz B1 45 2 (.slice E2 (n + 1) ec2) (rows ++ [entC ⟨gn, 0, none⟩ c']) := ⟨World.ownsRow.kept hOz.1 hgr (by
    cases hv : (Value.slice E2 (n + 1) ec2).ownBlock with
    | none => exact Or.inl rfl
    | some k => exact Or.inr (fun e => by
      obtain ⟨cs1, h1⟩ := hOz.cellsOf k hv
      obtain ⟨cs2, h2⟩ := hvz.cellsOf k e.symm
      rw [h1] at h2
      cases h2)), hOz.2⟩
   replace hGz := hGz.grown hgr hgS
   refine hK.out _ _ (hHeld.grown hgr (fun e => by have := hSo _ e.symm; omega)) (fun hHeld => ?_)
   clear hK K
   (try simp only [Act.put, List.setIfInBounds_toArray, List.set_cons_zero, List.set_cons_succ])
   refine tkH 7 ⟨some 67, .nilCheck (.tmp 60), 0, "desk.go:308", #[⟨0, .data⟩, ⟨0, .phase⟩, ⟨1, .phase⟩, ⟨2, .phase⟩, ⟨3, .phase⟩, ⟨4, .phase⟩, ⟨5, .phase⟩, ⟨6, .phase⟩], none⟩ hHeld ?_
   refine tkH 8 ⟨some 68, .fieldAddr 93 (.tmp 67) 3, 0, "desk.go:308", #[⟨7, .data⟩, ⟨0, .phase⟩, ⟨1, .phase⟩, ⟨2, .phase⟩, ⟨3, .phase⟩, ⟨4, .phase⟩, ⟨5, .phase⟩, ⟨6, .phase⟩], none⟩ hHeld ?_
   refine rdH 9 ⟨none, .store 91 (.tmp 68) (.tmp 66), 0, "desk.go:308", #[⟨8, .data⟩, ⟨6, .data⟩, ⟨6, .chain⟩, ⟨0, .phase⟩, ⟨1, .phase⟩, ⟨2, .phase⟩, ⟨3, .phase⟩, ⟨4, .phase⟩, ⟨5, .phase⟩, ⟨6, .phase⟩], none⟩ fun K hK => ?_
   have hc9 := hGz.cell 3
   have hf9 := hGz.frozen 3
   go_simp
   have hG3 := hGz.set_ 3 (.slice S2 (n + 1) sc2)
   have hgs := grown_set wz ⟨g, 3, none⟩ (.slice S2 (n + 1) sc2)
   have hxF := hxz.grown hgs (fun k e => by cases e; exact Or.inl (Or.inl rfl))
   have hO3 : OwnS (wz.setCell ⟨g, 3, none⟩ (.slice S2 (n + 1) sc2)) B1 45 2 (.slice E2 (n + 1) ec2) (rows ++ [entC ⟨gn, 0, none⟩ c']) := ownS_kept hOz hgs (ownS_blk hOz hGz (by decide))
   have hv3 : OwnS (wz.setCell ⟨g, 3, none⟩ (.slice S2 (n + 1) sc2)) B1 4 1 (.slice S2 (n + 1) sc2) (List.replicate n [.bool false] ++ [[.bool false]]) := ownS_kept hv2 hgs (ownS_blk hv2 hGz (by decide))
   have hgng : some gn ≠ some g := fun e => by have := Option.some.inj e; omega
   have hc3 := (World.cell?_of_block (hgs.block _ (blk_of hhz) hgng)).trans hcz
   have hh3 := (hgs.block _ (blk_of hhz) hgng).trans hhz
   refine hK.out _ _ (hHeld.grown hgs (fun e => by have : w.heap.size = g := Option.some.inj e; omega)) (fun hHeld => ?_)
   clear hK K
   refine wpAnyH_done (by kernel_rfl) ?_ _
   refine NoPanic.normal ?_
   have hfin := enter_fin H9.out hrl hOE hrw (fun i ht => by have := HT.out i ht; omega) hgn hG3 hO3 hv3 hc3 hh3 hxF
   go_wp2_with fail
   go_ret
   exact ⟨0, rfl, Or.inr ⟨rfl, hd, hbg, E2, ec2, _, hfin, Exc.pre (fr_call hb0 hb9) hxF⟩⟩
end Go.Proofs.YtdocgmafbacjcaaGreatDoor
