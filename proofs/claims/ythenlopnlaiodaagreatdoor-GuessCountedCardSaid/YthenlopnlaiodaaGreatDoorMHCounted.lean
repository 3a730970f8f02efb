/- Plain: a wheel that is counted, for the law GuessCounted. The laws' own helpers: counted. The laws' own helpers: most. The law GuessCounted, walked (by gen_counted.py). The statement of GuessCounted: for every input the law returns true, and the input reads behind the call as it did; the listed table is tied to the program's text. No condition of its own. -/
import Derived.Test.YthenlopnlaiodaaGreatDoorMG16
import Derived.Test.YthenlopnlaiodaaGreatDoorMG11
import Derived.Test.YthenlopnlaiodaaGreatDoorMG13
import Derived.Test.YthenlopnlaiodaaGreatDoorMG2
import Derived.Test.YthenlopnlaiodaaGreatDoorMG17
import Derived.Test.YthenlopnlaiodaaGreatDoorMG20
import Derived.Test.YthenlopnlaiodaaGreatDoorMG21
import Derived.Test.YthenlopnlaiodaaGreatDoorRows
import Derived.Test.YthenlopnlaiodaaGreatDoorCards
import Derived.Test.YthenlopnlaiodaaGreatDoorTie
import Derived.SevenTiedAt
section
namespace Go.Proofs.YthenlopnlaiodaaGreatDoor

/-- a wheel is counted: it has t teeth -/
def setW (ws : List Wh) (i : Nat) (t : Int) : List Wh := ws.set i ⟨t, t⟩
theorem upTo_one (t : Int) : upTo t t = [t] := by rw [upTo_cons (Int.le_refl _), upTo_nil (by omega)]
theorem flat_none {α β : Type} {f : α → List β} {l : List α} (h : ∀ x ∈ l, f x = []) : l.flatMap f = [] := by
 rw [List.flatMap_eq_nil_iff]
 exact h
theorem flat_pick {β : Type} (t : Int) (f : List β) (g : Int → List β) : ∀ (k : Nat) (lo hi : Int), (hi + 1 - lo).toNat = k → lo ≤ t ∧ t ≤ hi → g t = f → (∀ x, x ≠ t → g x = []) → (upTo lo hi).flatMap g = f
 | 0, lo, hi, hk, h, _, _ => absurd h (by omega)
 | k + 1, lo, hi, hk, h, ht, hn => by
  rw [upTo_cons (by omega), List.flatMap_cons]
  by_cases e : lo = t
  ·subst e
   rw [ht, flat_none (fun x hx => hn x (by have := mem_upTo.1 hx; omega)), List.append_nil]
  ·rw [hn lo e, List.nil_append]
   exact flat_pick t f g k (lo + 1) hi (by omega) (by omega) ht hn
theorem allT_set : ∀ (ws : List Wh) (i : Nat) (t : Int), (h : i < ws.length) → ws[i].lo ≤ t ∧ t ≤ ws[i].hi → allT (setW ws i t) = (allT ws).filter (fun x => x[i]?.getD 0 == t)
 | [], i, t, h, _ => by simp at h
 | s :: ws, 0, t, _, hb => by
  have hb : s.lo ≤ t ∧ t ≤ s.hi := hb
  unfold setW
  rw [List.set_cons_zero, allT, allT]
  simp only
  rw [upTo_one, List.flatMap_singleton, List.filter_flatMap]
  symm
  refine flat_pick t _ _ _ s.lo s.hi rfl hb ?_ (fun x hx => ?_)
  ·rw [List.filter_eq_self.2]
   intro a ha
   obtain ⟨b, _, rfl⟩ := List.mem_map.1 ha
   simp
  ·rw [List.filter_eq_nil_iff]
   intro a ha
   obtain ⟨b, _, rfl⟩ := List.mem_map.1 ha
   simpa using hx
 | s :: ws, i + 1, t, h, hb => by
  have ih := allT_set ws i t (by simpa using h) hb
  unfold setW at ih ⊢
  rw [List.set_cons_succ, allT, allT, ih, List.filter_flatMap]
  congr 1
  funext x
  rw [List.filter_map]
  congr 1
theorem guess_set (ws : List Wh) (ns : List Note) (i : Nat) (t : Int) (h : i < ws.length) (hb : ws[i].lo ≤ t ∧ t ≤ ws[i].hi) : guessL (setW ws i t) ns = (guessL ws ns).filter (fun x => x[i]?.getD 0 == t) := by
 unfold guessL
 rw [allT_set ws i t h hb, List.filter_filter, List.filter_filter]
 congr 1
 funext x
 rw [Bool.and_comm]
theorem guess_cnt (ws : List Wh) (ns : List Note) (i : Nat) (t : Int) (h : i < ws.length) (hb : ws[i].lo ≤ t ∧ t ≤ ws[i].hi) : ((guessL (setW ws i t) ns).length : Int) = tally (guessL ws ns) ws.length ((i : Int), t) := by
 rw [guess_set ws ns i t h hb]
 unfold tally cntT
 rw [if_pos ⟨by omega, by simp only; omega⟩, List.countP_eq_length_filter]
 simp
theorem ok_set {ws : List Wh} {ns : List Note} (hv : FindOk ws ns) {i : Nat} {t : Int} (h : i < ws.length) (hb : ws[i].lo ≤ t ∧ t ≤ ws[i].hi) : FindOk (setW ws i t) ns := by
 unfold setW
 refine ⟨by rw [List.length_set]; exact hv.even, by rw [List.length_set]; exact hv.two, by rw [List.length_set]; exact hv.six, hv.eight, fun s hs => ?_, fun n hn => by rw [List.length_set]; exact hv.note n hn⟩
 rcases List.mem_or_eq_of_mem_set hs with hs | rfl
 ·exact hv.wh s hs
 ·have := hv.wh _ (List.getElem_mem h)
  simp only
  omega
/-- the most of f from lo to hi -/
theorem most_step (f : Int → Int) (lo hi a : Int) (h : lo ≤ hi) : (upTo lo hi).foldl (fun a n => max a (f n)) a = (upTo (lo + 1) hi).foldl (fun a n => max a (f n)) (max a (f lo)) := by
 rw [upTo_cons h]; rfl
theorem best_spec (f : Nat → Int) : ∀ n, 0 < n → ∃ b, b < n ∧ bestL ltLeft ((List.range n).map (fun i : Nat => ((i : Int), f i))) = some ((b : Int), f b) ∧ ∀ i, i < n → f b ≤ f i ∧ (f i = f b → b ≤ i)
 | 0, h => absurd h (by omega)
 | 1, _ => ⟨0, by omega, rfl, fun i hi => by
  obtain rfl : i = 0 := by omega
  exact ⟨Int.le_refl _, fun _ => Nat.le_refl _⟩⟩
 | n + 2, _ => by
  obtain ⟨b, hb, he, hs⟩ := best_spec f (n + 1) (by omega)
  rw [List.range_succ, List.map_append, List.map_cons, List.map_nil, bestL_snoc, he]
  unfold bestF ltLeft
  simp only
  by_cases hl : f (n + 1) < f b
  ·refine ⟨n + 1, by omega, by simp [hl], fun i hi => ?_⟩
   by_cases e : i = n + 1
   ·subst e; exact ⟨Int.le_refl _, fun _ => Nat.le_refl _⟩
   ·have := hs i (by omega)
    exact ⟨by omega, fun h => by omega⟩
  ·refine ⟨b, by omega, by simp [hl], fun i hi => ?_⟩
   by_cases e : i = n + 1
   ·subst e; exact ⟨by omega, fun h => by omega⟩
   ·exact hs i (by omega)
/-- what the law says of the wheel to count -/
theorem count_law {ts : List (List Int)} {ws : List Wh} (h : 0 < ws.length) : ∃ b : Nat, b < ws.length ∧ (countL ts ws).1 = b ∧ (countL ts ws).2 = leftL ts ws.length b (ws[b]?.getD ⟨0, 0⟩) ∧
  ∀ i, i < ws.length → leftL ts ws.length b (ws[b]?.getD ⟨0, 0⟩) ≤ leftL ts ws.length i (ws[i]?.getD ⟨0, 0⟩) ∧ (leftL ts ws.length i (ws[i]?.getD ⟨0, 0⟩) = leftL ts ws.length b (ws[b]?.getD ⟨0, 0⟩) → b ≤ i) := by
 obtain ⟨b, hb, he, hs⟩ := best_spec (fun i => leftL ts ws.length i (ws[i]?.getD ⟨0, 0⟩)) ws.length h
 refine ⟨b, hb, ?_, ?_, hs⟩
 ·unfold countL choicesL; rw [he]; rfl
 ·unfold countL choicesL; rw [he]; rfl
end Go.Proofs.YthenlopnlaiodaaGreatDoor
end

section
namespace Go.Proofs.YthenlopnlaiodaaGreatDoor
open Go.RowKit Go.Shelf

theorem info_spanL : (Tryz.prog.info? 47).map (fun i => (i.zero, i.size, i.bytes)) = some (some (.agg #[.int .i64 0, .int .i64 0]), 2, 16) := by kernel_rfl
theorem flat_at {k : Nat} : ∀ {rows : List (List Value)} (_ : ∀ r ∈ rows, r.length = k) (j : Nat) (u : Value), rows.flatten[j]? = some u → ∃ i r t, rows[i]? = some r ∧ r[t]? = some u ∧ j = i * k + t
 | [], _, j, u, h => by simp at h
 | r0 :: rows, hk, j, u, h => by
  rw [List.flatten_cons] at h
  by_cases hj : j < r0.length
  ·rw [List.getElem?_append_left hj] at h
   exact ⟨0, r0, j, rfl, h, by omega⟩
  ·rw [List.getElem?_append_right (by omega)] at h
   obtain ⟨i, r, t, h1, h2, h3⟩ := flat_at (fun r hr => hk r (by simp [hr])) _ u h
   have h0 := hk r0 (by simp)
   exact ⟨i + 1, r, t, by simpa using h1, h2, by rw [Nat.add_mul]; omega⟩
section
variable {o : Oper} {a : Act} {w : World} {K : Act → World → Prop} {Q : Exit → Act → World → Prop}
/-- 'append(s, l...)' of rows of k cells -/
theorem wp_app_rows {T E : TypeId} {z : Value} {k bytes : Nat} (s x : Operand)
  (ho : o.op = .call { callee := .builtin .append, args := #[s, x], argTypes := #[T, T] }) (hu : Tryz.prog.underlying T = some (.slice E)) (hinfo : (Tryz.prog.info? E).map (fun i => (i.zero, i.size, i.bytes)) = some (some z, k, bytes)) (hzk : z.cells.size = k) (hk : 0 < k) (hby : bytes ≤ 1000)
  (base : Nat) (v : Value) (rows : List (List Value)) (hs : a.eval s = v) (hown : OwnS w base E k v rows) (ad : Addr) (n c : Nat) (news : List (List Value)) (hx : a.eval x = .slice (some ad) n c) (hnl : news.length = n) (hrd : RdS w (some ad) k news) (hrl : ∀ r ∈ news, r.length = k) (h1 : ∀ r ∈ news, ∀ u ∈ r, u.oneCell' = true) (hn : rows.length + n < 1000000) (hbase : base ≤ w.heap.size)
  (h : ∀ A c w', OwnS w' base E k (.slice A (rows.length + n) c) (rows ++ news) → w.grownBy w' v.ownBlock → K (a.put o.dst (.slice A (rows.length + n) c)) w') : o.wp Tryz.prog a w K Q := by
 obtain ⟨i0, hi, hz0, hz1, hz2⟩ := info_parts hinfo
 have hb : (rows.length + n) * bytes ≤ 1000000 * 1000 := Nat.mul_le_mul (by omega) hby
 refine wp_append_own w s x _ ho base _ i0 _ k bytes hu hi hz0 hz1 hz2 hzk hk v _ _ hs hown.1 ad n c news.flatten hx (by rw [flat_len hrl, hnl]) ?_ (fun u hu => by
   obtain ⟨r, hr, hur⟩ := List.mem_flatten.1 hu
   exact h1 r hr u hur)
  (by unfold maxLen; omega) (by omega) hbase ?_
 ·intro j u hj
  obtain ⟨i, r, t, e1, e2, rfl⟩ := flat_at hrl j u hj
  obtain ⟨ad', e, _, _, hc⟩ := hrd.at_ e1
  cases e
  exact hc t u e2
 ·intro v' w' hown' hgr _
  have hown2 : OwnS w' base E k v' (rows ++ news) := by
   refine ⟨?_, fun q hq => ?_⟩
   ·rw [List.length_append, List.flatten_append, hnl]
    exact hown'
   ·rcases List.mem_append.1 hq with h2 | h2
    ·exact hown.2 q h2
    ·exact hrl q h2
  obtain ⟨A, c, rfl⟩ := hown2.form
  rw [List.length_append, hnl] at hown2 ⊢
  exact h A c w' hown2 hgr
end
theorem there_own {W : World} {base g c n i : Nat} {rows : List (List Value)} (h : OwnS W base 47 2 (.slice (some ⟨g, 0, none⟩) n c) rows) (hi : i < rows.length) : W.there g (i * 2) 2 := by
 rcases h.1.2 with ⟨h0, _⟩ | ⟨g', cap, cur, hv, _, hB, hle, _, hsz, _⟩
 ·cases h0
 ·injection hv with hA hn _
  cases hA
  have hB2 : Blk W g 47 cur := hB
  intro j hj
  rw [hB2.cell, hB2.frozen]
  exact ⟨by simp; omega, rfl⟩
theorem rds_set {W : World} {g i : Nat} {ws : List Wh} {t : Int} (h : RdS W (some ⟨g, 0, none⟩) 2 (ws.map Wh.cells)) (hi : i < ws.length) : RdS (W.setCells g (i * 2) [.int .i64 t, .int .i64 t]) (some ⟨g, 0, none⟩) 2 ((setW ws i t).map Wh.cells) := fun _ => by
 obtain ⟨ad, e, hlt, hc⟩ := h (by rw [List.length_map]; omega)
 cases e
 have hgr : W.grownBy (W.setCells g (i * 2) [.int .i64 t, .int .i64 t]) (some g) := setCells_grown _ _ _
 refine ⟨_, rfl, Nat.lt_of_lt_of_le hlt hgr.size, fun j r hr => ?_⟩
 have hrow : ∀ k, k < 2 → (W.cell? ⟨g, i * 2 + k, none⟩).isSome = true := fun k hk => by
  have h1 := (hc i ws[i].cells (by simp [hi])).2
  have h2 := h1 k ((ws[i].cells)[k]'(by simpa [Wh.cells] using hk)) (List.getElem?_eq_getElem _)
  rw [add_lit, Nat.zero_add] at h2
  rw [h2]; rfl
 rw [List.getElem?_map] at hr
 unfold setW at hr
 rw [List.getElem?_set] at hr
 by_cases e : i = j
 ·subst e
  rw [if_pos rfl, if_pos hi] at hr
  cases hr
  refine ⟨rfl, fun k v hv => ?_⟩
  have hk : k < 2 := (List.getElem?_eq_some_iff.1 hv).1
  rw [add_lit, Nat.zero_add, World.cell?_setCells_in g [.int .i64 t, .int .i64 t] (i * 2) W hrow k hk]
  rw [← hv]
  exact (List.getElem?_eq_getElem hk).symm
 ·rw [if_neg e] at hr
  have h1 := hc j r (by rw [List.getElem?_map]; exact hr)
  refine ⟨h1.1, fun k v hv => ?_⟩
  have hk : k < 2 := by rw [← h1.1]; exact (List.getElem?_eq_some_iff.1 hv).1
  rw [add_lit, Nat.zero_add, World.cell?_setCells_out g _ _ _ _ (fun _ _ => by simp only [List.length_cons, List.length_nil]; omega)]
  have h2 := h1.2 k v hv
  rw [add_lit, Nat.zero_add] at h2
  exact h2
set_option maxRecDepth 100000 in
set_option maxHeartbeats 8000000 in
theorem counted_any (A N : Option Addr) (c d : Nat) (ws : List Wh) (ns : List Note) (i : Nat) (t : Int) (w : World) (hf : FindAt w A N ws ns) (hi : i < ws.length) (hn : ws.length ≤ 1000) :
  Calls Tryz.prog 88 #[.agg #[.slice A ws.length c, .slice N ns.length d], .int .i64 i, .int .i64 t] w fun e w' => ∃ g k, e = .returned (.agg #[.slice (some ⟨g, 0, none⟩) ws.length k, .slice N ns.length d]) ∧ FindAt w' (some ⟨g, 0, none⟩) N (setW ws i t) ns ∧ Below w.heap.size w w' := by
 have hfr := fr_alloc (fr_alloc (fr_refl w) (.cells #[.slice A ws.length c, .slice N ns.length d] 25)) (.cells #[.slice none 0 0, .slice none 0 0] 25)
 have hX := (Blk.new w 25 #[.slice A ws.length c, .slice N ns.length d]).alloc (.cells #[.slice none 0 0, .slice none 0 0] 25)
 have hR : Blk ((w.alloc (.cells #[.slice A ws.length c, .slice N ns.length d] 25)).alloc (.cells #[.slice none 0 0, .slice none 0 0] 25)) (w.heap.size + 1) 25 #[.slice none 0 0, .slice none 0 0] := Blk.new_at _ _ (by simp)
 obtain ⟨ad, rfl, hab0, _⟩ := whs_at hf.ws hi
 have hwsr := hf.ws.keep hfr
 go_enter Tryz.func88, Tryz.ntmps88
 go_upto_region 1 with (fail)
 generalize (w.alloc (.cells #[.slice (some ad) ws.length c, .slice N ns.length d] 25)).alloc (.cells #[.slice none 0 0, .slice none 0 0] 25) = w1 at *
 have hcX := fun j => hX.cell j
 have hXl := hX.lt
 go_cut [7] from 14 (fun s7 wc => ∃ g7 g1 k1, s7 = .pointer (some ⟨g7, 0, none⟩) ∧ Blk wc g7 25 #[.slice (some ⟨g1, 0, none⟩) ws.length k1, .slice N ns.length d] ∧ OwnS wc (w.heap.size + 1) 47 2 (.slice (some ⟨g1, 0, none⟩) ws.length k1) (ws.map Wh.cells) ∧ w1.heap.size ≤ g7 ∧ Below w1.heap.size w1 wc)
 case first =>
  refine wp_region_noPanic ?_
  refine wp_region_held_drew (S := fun W => (∀ p : Addr, p.block < (w1).heap.size → W.cell? p = (w1).cell? p) ∧ Below (w1).heap.size (w1) W) (by kernel_rfl) ⟨fun _ _ => rfl, fr_drew (fr_refl _)⟩ (fun hHeld => ?_)
  -- the region, step by step, in whatever order
  refine wpAnyH_take (i := 0) (oi := ⟨some 8, .fieldAddr 25 (.tmp 3) 0, 0, "law.go:292", #[], none⟩) (v := ?_) rfl (by kernel_rfl) (by kernel_rfl) (by kernel_rfl) (fun _ _ _ h => h) (Or.inl ⟨by rfl, fun W hSw => ?_⟩) hHeld ?_
  rotate_left
  ·(try dsimp only at hSw); go_simp; (try with_reducible rfl)
  (try simp only [Act.put, List.setIfInBounds_toArray, List.set_cons_zero, List.set_cons_succ])
  refine wpAnyH_take (i := 1) (oi := ⟨some 9, .load 22 (.tmp 8), 22, "law.go:292", #[⟨0, .data⟩], none⟩) (v := ?_) rfl (by kernel_rfl) (by kernel_rfl) (by kernel_rfl) (fun _ _ _ h => h) (Or.inl ⟨by rfl, fun W hSw => ?_⟩) hHeld ?_
  rotate_left
  ·(try dsimp only at hSw); go_simp; (try with_reducible rfl)
  (try simp only [Act.put, List.setIfInBounds_toArray, List.set_cons_zero, List.set_cons_succ])
  refine wpAnyH_take (i := 3) (oi := ⟨some 11, .fieldAddr 25 (.tmp 3) 1, 0, "law.go:292", #[], none⟩) (v := ?_) rfl (by kernel_rfl) (by kernel_rfl) (by kernel_rfl) (fun _ _ _ h => h) (Or.inl ⟨by rfl, fun W hSw => ?_⟩) hHeld ?_
  rotate_left
  ·(try dsimp only at hSw); go_simp; (try with_reducible rfl)
  (try simp only [Act.put, List.setIfInBounds_toArray, List.set_cons_zero, List.set_cons_succ])
  refine wpAnyH_take (i := 4) (oi := ⟨some 12, .load 23 (.tmp 11), 23, "law.go:292", #[⟨3, .data⟩], none⟩) (v := ?_) rfl (by kernel_rfl) (by kernel_rfl) (by kernel_rfl) (fun _ _ _ h => h) (Or.inl ⟨by rfl, fun W hSw => ?_⟩) hHeld ?_
  rotate_left
  ·(try dsimp only at hSw); go_simp; (try with_reducible rfl)
  (try simp only [Act.put, List.setIfInBounds_toArray, List.set_cons_zero, List.set_cons_succ])
  refine wpAnyH_ready (rs := [2, 6]) (by kernel_rfl) (by simp) ?_
  refine (AllReadyH.cons (o := ⟨some 10, .call { callee := .builtin .append, args := #[.const (.slice none 0 0), .tmp 9], argTypes := #[22, 22] }, 22, "law.go:292", #[⟨1, .data⟩], none⟩) rfl (fun K hK => ?_) (AllReadyH.cons (o := ⟨some 7, .alloc 25, 0, "law.go:292", #[], none⟩) rfl (fun K hK => ?_) AllReadyH.nil))
  ·rw [if_pos (by rfl)]
   refine wp_app_rows (z := .agg #[.int .i64 0, .int .i64 0]) (k := 2) (bytes := 16) (.const (.slice none 0 0)) (.tmp 9) rfl Tryz.underlying22 info_spanL rfl (by omega) (by omega) (w.heap.size + 1) (.slice none 0 0) [] rfl (OwnS.nil _ _ _ _) ad ws.length c (ws.map Wh.cells) rfl (List.length_map _) (hwsr.keep hHeld.2) (by intro r hr; obtain ⟨s, _, rfl⟩ := List.mem_map.1 hr; rfl) (by intro r hr u hu; obtain ⟨s, _, rfl⟩ := List.mem_map.1 hr; simp only [Wh.cells, List.mem_cons, List.not_mem_nil, or_false] at hu; rcases hu with rfl | rfl <;> rfl) (by simp; omega) (by have := hHeld.2.size; omega) ?_
   intro A1 k1 wA hown hgA
   simp only [List.length_nil, Nat.zero_add, List.nil_append] at hown ⊢
   have hbA := hHeld.2.grown hgA hHeld.2.size (by intro q hq; cases hq)
   (try replace hZ := hZ.grown hgA (by intro e; cases e))
   refine hK.out _ _ (kp_of hbA) (fun hHeld => ?_)
   clear hK K
   (try simp only [Act.put, List.setIfInBounds_toArray, List.set_cons_zero, List.set_cons_succ])
   refine wpAnyH_take (i := 5) (oi := ⟨some 13, .build 25 #[(0, .tmp 10), (1, .tmp 12)], 25, "law.go:292", #[⟨2, .data⟩, ⟨4, .data⟩], none⟩) (v := ?_) rfl (by kernel_rfl) (by kernel_rfl) (by kernel_rfl) (fun _ _ _ h => h) (Or.inl ⟨by rfl, fun W hSw => ?_⟩) hHeld ?_
   rotate_left
   ·(try dsimp only at hSw); go_simp; (try with_reducible rfl)
   (try simp only [Act.put, List.setIfInBounds_toArray, List.set_cons_zero, List.set_cons_succ])
   refine wpAnyH_ready (rs := [6]) (by kernel_rfl) (by simp) ?_
   refine (AllReadyH.cons (o := ⟨some 7, .alloc 25, 0, "law.go:292", #[], none⟩) rfl (fun K hK => ?_) AllReadyH.nil)
   rw [if_pos (by rfl)]
   refine wp_alloc_new 25 rfl (.agg #[.slice none 0 0, .slice none 0 0]) (by kernel_rfl) ?_
   intro g7 wB hg7 hZ hbB hsB
   have hg7l : w1.heap.size ≤ g7 := by rw [← hg7]; exact hHeld.2.size
   (try replace hown := hown.keep hbB)
   refine hK.out _ _ (kp_step hbB hHeld) (fun hHeld => ?_)
   clear hK K
   (try simp only [Act.put, List.setIfInBounds_toArray, List.set_cons_zero, List.set_cons_succ])
   refine wpAnyH_ready (rs := [7]) (by kernel_rfl) (by simp) ?_
   refine (AllReadyH.cons (o := ⟨none, .store 25 (.tmp 7) (.tmp 13), 0, "law.go:292", #[⟨6, .data⟩, ⟨5, .data⟩, ⟨2, .chain⟩, ⟨0, .phase⟩, ⟨1, .phase⟩, ⟨2, .phase⟩, ⟨3, .phase⟩, ⟨4, .phase⟩, ⟨5, .phase⟩, ⟨6, .phase⟩], none⟩) rfl (fun K hK => ?_) AllReadyH.nil)
   rw [if_pos (by rfl)]
   refine wp_store_blk 25 _ _ rfl g7 25 _ #[.slice A1 ws.length k1, .slice N ns.length d] rfl rfl hZ rfl (by kernel_rfl) (by simp [Value.oneCell']) ?_
   intro wC hZC hgC
   have hbC := hHeld.2.grown hgC hHeld.2.size (by intro q hq; cases hq; exact hg7l)
   refine hK.out _ _ (kp_of hbC) (fun hHeld => ?_)
   clear hK K
   refine wpAnyH_done (by kernel_rfl) ?_ _
   refine NoPanic.normal ?_
   have hownC : OwnS wC (w.heap.size + 1) 47 2 (.slice A1 ws.length k1) (ws.map Wh.cells) := ⟨World.ownsRow.kept hown.1 hgC (.inr (fun e => ownS_not hown hZ (by decide) e.symm)), hown.2⟩
   obtain ⟨g1, e1, _, _⟩ := hownC.addr (by rw [List.length_map]; omega)
   subst e1
   go_wp2_with fail
   go_meet
   case rel => exact ⟨g7, g1, k1, rfl, hZC, hownC, hg7l, hHeld.2⟩
  ·rw [if_pos (by rfl)]
   refine wp_alloc_new 25 rfl (.agg #[.slice none 0 0, .slice none 0 0]) (by kernel_rfl) ?_
   intro g7 wB hg7 hZ hbB hsB
   have hg7l : w1.heap.size ≤ g7 := by rw [← hg7]; exact hHeld.2.size
   (try replace hown := hown.keep hbB)
   refine hK.out _ _ (kp_step hbB hHeld) (fun hHeld => ?_)
   clear hK K
   (try simp only [Act.put, List.setIfInBounds_toArray, List.set_cons_zero, List.set_cons_succ])
   refine wpAnyH_ready (rs := [2]) (by kernel_rfl) (by simp) ?_
   refine (AllReadyH.cons (o := ⟨some 10, .call { callee := .builtin .append, args := #[.const (.slice none 0 0), .tmp 9], argTypes := #[22, 22] }, 22, "law.go:292", #[⟨1, .data⟩], none⟩) rfl (fun K hK => ?_) AllReadyH.nil)
   rw [if_pos (by rfl)]
   refine wp_app_rows (z := .agg #[.int .i64 0, .int .i64 0]) (k := 2) (bytes := 16) (.const (.slice none 0 0)) (.tmp 9) rfl Tryz.underlying22 info_spanL rfl (by omega) (by omega) (w.heap.size + 1) (.slice none 0 0) [] rfl (OwnS.nil _ _ _ _) ad ws.length c (ws.map Wh.cells) rfl (List.length_map _) (hwsr.keep hHeld.2) (by intro r hr; obtain ⟨s, _, rfl⟩ := List.mem_map.1 hr; rfl) (by intro r hr u hu; obtain ⟨s, _, rfl⟩ := List.mem_map.1 hr; simp only [Wh.cells, List.mem_cons, List.not_mem_nil, or_false] at hu; rcases hu with rfl | rfl <;> rfl) (by simp; omega) (by have := hHeld.2.size; omega) ?_
   intro A1 k1 wA hown hgA
   simp only [List.length_nil, Nat.zero_add, List.nil_append] at hown ⊢
   have hbA := hHeld.2.grown hgA hHeld.2.size (by intro q hq; cases hq)
   (try replace hZ := hZ.grown hgA (by intro e; cases e))
   refine hK.out _ _ (kp_of hbA) (fun hHeld => ?_)
   clear hK K
   (try simp only [Act.put, List.setIfInBounds_toArray, List.set_cons_zero, List.set_cons_succ])
   refine wpAnyH_take (i := 5) (oi := ⟨some 13, .build 25 #[(0, .tmp 10), (1, .tmp 12)], 25, "law.go:292", #[⟨2, .data⟩, ⟨4, .data⟩], none⟩) (v := ?_) rfl (by kernel_rfl) (by kernel_rfl) (by kernel_rfl) (fun _ _ _ h => h) (Or.inl ⟨by rfl, fun W hSw => ?_⟩) hHeld ?_
   rotate_left
   ·(try dsimp only at hSw); go_simp; (try with_reducible rfl)
   (try simp only [Act.put, List.setIfInBounds_toArray, List.set_cons_zero, List.set_cons_succ])
   refine wpAnyH_ready (rs := [7]) (by kernel_rfl) (by simp) ?_
   refine (AllReadyH.cons (o := ⟨none, .store 25 (.tmp 7) (.tmp 13), 0, "law.go:292", #[⟨6, .data⟩, ⟨5, .data⟩, ⟨2, .chain⟩, ⟨0, .phase⟩, ⟨1, .phase⟩, ⟨2, .phase⟩, ⟨3, .phase⟩, ⟨4, .phase⟩, ⟨5, .phase⟩, ⟨6, .phase⟩], none⟩) rfl (fun K hK => ?_) AllReadyH.nil)
   rw [if_pos (by rfl)]
   refine wp_store_blk 25 _ _ rfl g7 25 _ #[.slice A1 ws.length k1, .slice N ns.length d] rfl rfl hZ rfl (by kernel_rfl) (by simp [Value.oneCell']) ?_
   intro wC hZC hgC
   have hbC := hHeld.2.grown hgC hHeld.2.size (by intro q hq; cases hq; exact hg7l)
   refine hK.out _ _ (kp_of hbC) (fun hHeld => ?_)
   clear hK K
   refine wpAnyH_done (by kernel_rfl) ?_ _
   refine NoPanic.normal ?_
   have hownC : OwnS wC (w.heap.size + 1) 47 2 (.slice A1 ws.length k1) (ws.map Wh.cells) := ⟨World.ownsRow.kept hown.1 hgC (.inr (fun e => ownS_not hown hZ (by decide) e.symm)), hown.2⟩
   obtain ⟨g1, e1, _, _⟩ := hownC.addr (by rw [List.length_map]; omega)
   subst e1
   go_wp2_with fail
   go_meet
   case rel => exact ⟨g7, g1, k1, rfl, hZC, hownC, hg7l, hHeld.2⟩
 case rest =>
  obtain ⟨g7, g1, k1, rfl, hZ, hown, hg7, hb1⟩ := hcut
  have hfC := fr_call hfr hb1
  have hRC := hR.keep hb1
  have hg1 : w.heap.size + 1 ≤ g1 := hown.ge g1 rfl
  have hcZ := fun j => hZ.cell j
  have hZl := hZ.lt
  have i1 : 0 ≤ (i : Int) := by omega
  have i2 : (i : Int) < (ws.length : Int) := by omega
  clear hcX hXl hX hwsr hb1 hR
  go_upto_region 2 with (fail)
  refine wp_region_noPanic ?_
  have hbz := fr_drew (fr_refl wc)
  refine wp_region_held_drew (S := fun W => W.cell? ⟨g7, 0, none⟩ = some (.slice (some ⟨g1, 0, none⟩) ws.length k1)) (by kernel_rfl) (hZ.cell 0) (fun hHeld => ?_)
  generalize wc.drew = wz at hbz hHeld ⊢
  clear hcZ
  -- the region, step by step, in whatever order
  refine wpAnyH_take (i := 0) (oi := ⟨some 14, .fieldAddr 25 (.tmp 7) 0, 0, "law.go:293", #[], none⟩) (v := ?_) rfl (by kernel_rfl) (by kernel_rfl) (by kernel_rfl) (fun _ _ _ h => h) (Or.inl ⟨by rfl, fun W hSw => ?_⟩) hHeld ?_
  rotate_left
  ·(try dsimp only at hSw); go_simp; (try with_reducible rfl)
  (try simp only [Act.put, List.setIfInBounds_toArray, List.set_cons_zero, List.set_cons_succ])
  refine wpAnyH_take (i := 1) (oi := ⟨some 15, .load 22 (.tmp 14), 22, "law.go:293", #[⟨0, .data⟩], none⟩) (v := ?_) rfl (by kernel_rfl) (by kernel_rfl) (by kernel_rfl) (fun _ _ _ h => h) (Or.inl ⟨by rfl, fun W hSw => ?_⟩) hHeld ?_
  rotate_left
  ·(try dsimp only at hSw); go_simp; (try with_reducible rfl)
  (try simp only [Act.put, List.setIfInBounds_toArray, List.set_cons_zero, List.set_cons_succ])
  refine wpAnyH_take (i := 2) (oi := ⟨some 16, .move (.tmp 1), 3, "law.go:293", #[], none⟩) (v := ?_) rfl (by kernel_rfl) (by kernel_rfl) (by kernel_rfl) (fun _ _ _ h => h) (Or.inl ⟨by rfl, fun W hSw => ?_⟩) hHeld ?_
  rotate_left
  ·(try dsimp only at hSw); go_simp; (try with_reducible rfl)
  (try simp only [Act.put, List.setIfInBounds_toArray, List.set_cons_zero, List.set_cons_succ])
  refine wpAnyH_take (i := 3) (oi := ⟨some 17, .move (.tmp 2), 3, "law.go:293", #[], none⟩) (v := ?_) rfl (by kernel_rfl) (by kernel_rfl) (by kernel_rfl) (fun _ _ _ h => h) (Or.inl ⟨by rfl, fun W hSw => ?_⟩) hHeld ?_
  rotate_left
  ·(try dsimp only at hSw); go_simp; (try with_reducible rfl)
  (try simp only [Act.put, List.setIfInBounds_toArray, List.set_cons_zero, List.set_cons_succ])
  refine wpAnyH_take (i := 4) (oi := ⟨some 18, .move (.tmp 2), 3, "law.go:293", #[], none⟩) (v := ?_) rfl (by kernel_rfl) (by kernel_rfl) (by kernel_rfl) (fun _ _ _ h => h) (Or.inl ⟨by rfl, fun W hSw => ?_⟩) hHeld ?_
  rotate_left
  ·(try dsimp only at hSw); go_simp; (try with_reducible rfl)
  (try simp only [Act.put, List.setIfInBounds_toArray, List.set_cons_zero, List.set_cons_succ])
  refine wpAnyH_ready (rs := [5]) (by kernel_rfl) (by simp) ?_
  refine (AllReadyH.cons (o := ⟨some 19, .call { callee := .value (.func 36), args := #[.tmp 17, .tmp 18], argTypes := #[3, 3] }, 47, "law.go:293", #[⟨3, .data⟩, ⟨4, .data⟩], none⟩) rfl (fun K hK => ?_) AllReadyH.nil)
  rw [if_pos (by rfl)]
  go_simp
  refine (span_any t t _).mono ?_
  rintro e' wS ⟨rfl, hbS⟩
  replace hbz := fr_call hbz hbS
  refine hK.out _ _ ((hZ.keep hbz).cell 0) (fun hHeld => ?_)
  clear hK K
  (try simp only [Act.put, List.setIfInBounds_toArray, List.set_cons_zero, List.set_cons_succ])
  refine wpAnyH_take (i := 6) (oi := ⟨some 20, .indexAddr 22 (.tmp 15) (.tmp 16), 0, "law.go:293", #[⟨1, .data⟩, ⟨2, .data⟩, ⟨0, .phase⟩, ⟨1, .phase⟩, ⟨2, .phase⟩, ⟨3, .phase⟩, ⟨4, .phase⟩, ⟨5, .phase⟩], none⟩) (v := ?_) rfl (by kernel_rfl) (by kernel_rfl) (by kernel_rfl) (fun _ _ _ h => h) (Or.inl ⟨by rfl, fun W hSw => ?_⟩) hHeld ?_
  rotate_left
  ·(try dsimp only at hSw); go_simp; (try with_reducible rfl)
  (try simp only [Act.put, List.setIfInBounds_toArray, List.set_cons_zero, List.set_cons_succ])
  refine wpAnyH_ready (rs := [7]) (by kernel_rfl) (by simp) ?_
  refine (AllReadyH.cons (o := ⟨none, .store 47 (.tmp 20) (.tmp 19), 0, "law.go:293", #[⟨6, .data⟩, ⟨5, .data⟩, ⟨5, .chain⟩, ⟨0, .phase⟩, ⟨1, .phase⟩, ⟨2, .phase⟩, ⟨3, .phase⟩, ⟨4, .phase⟩, ⟨5, .phase⟩], none⟩) rfl (fun K hK => ?_) AllReadyH.nil)
  rw [if_pos (by rfl)]
  have hrdS := hown.rd.keep hbz
  have hset := rds_set (t := t) hrdS hi
  have hgr : wS.grownBy (wS.setCells g1 (i * 2) [.int .i64 t, .int .i64 t]) (some g1) := setCells_grown _ _ _
  have hne := ownS_not hown hZ (by decide)
  have hneR := ownS_not hown hRC (by decide)
  refine wp_store_mid 47 _ _ rfl g1 (i * 2) #[.int .i64 t, .int .i64 t] rfl rfl (there_own (hown.keep hbz) (by rw [List.length_map]; exact hi)) (by kernel_rfl) (by simp [Value.oneCell']) ?_
  have hZD := (hZ.keep hbz).grown hgr hne
  have hRD := (hRC.keep hbz).grown hgr hneR
  have hfD := (fr_call hfC hbz).grown hgr (fr_call hfC hbz).size (by intro q hq; cases hq; omega)
  show K _ (wS.setCells g1 (i * 2) [.int .i64 t, .int .i64 t])
  refine hK.out _ _ (hZD.cell 0) (fun hHeld => ?_)
  clear hK K
  refine wpAnyH_done (by kernel_rfl) ?_ _
  refine NoPanic.normal ?_
  generalize wS.setCells g1 (i * 2) [.int .i64 t, .int .i64 t] = wD at *
  have hcD := fun j => hZD.cell j
  have hlD := hZD.lt
  go_wp2_with (refine wpList_store_blk rfl _ _ _ rfl (w.heap.size + 1) 25 _ #[.slice (some ⟨g1, 0, none⟩) ws.length k1, .slice N ns.length d] rfl rfl hRD rfl (by kernel_rfl) (by simp [Value.oneCell']) ?_; intro W7 hR7 hg7)
  have hfin := hfD.grown hg7 hfD.size (by intro q hq; cases hq; omega)
  have hset7 := hset.far hg7 (by rintro ad' e; cases e; exact fun e => hneR (by rw [← e]; rfl))
  refine bodyPost_ret (results_blk1 rfl _ _ _ _ rfl hR7 Tryz.underlying25 rfl (by kernel_rfl)) rfl ⟨g1, k1, rfl, ⟨hset7, hf.ns.keep hfin⟩, hfin⟩
end Go.Proofs.YthenlopnlaiodaaGreatDoor
end

section
namespace Go.Proofs.YthenlopnlaiodaaGreatDoor
open Go.RowKit Go.Shelf

set_option maxRecDepth 100000 in
set_option maxHeartbeats 8000000 in
theorem most_any (A N : Option Addr) (c d : Nat) (ws : List Wh) (ns : List Note) (i : Nat) (w : World) (hf : FindAt w A N ws ns) (hv : FindOk ws ns) (hi : i < ws.length) :
  Calls Tryz.prog 35 #[.agg #[.slice A ws.length c, .slice N ns.length d], .int .i64 i] w fun e w' => e = .returned (.int .i64 (leftL (guessL ws ns) ws.length i (ws[i]?.getD ⟨0, 0⟩))) ∧ Below w.heap.size w w' := by
 have hfr := fr_alloc (fr_refl w) (.cells #[.slice A ws.length c, .slice N ns.length d] 25)
 have hX := Blk.new w 25 #[.slice A ws.length c, .slice N ns.length d]
 have hcX := fun j => hX.cell j
 have hxl := hX.lt
 replace hf := hf.keep hfr
 have hsix := hv.six
 have hwb := hv.wh _ (List.getElem_mem hi)
 have hget : ws[i]?.getD ⟨0, 0⟩ = ws[i] := by simp [hi]
 rw [hget]
 obtain ⟨ad, rfl, hab, k0, k1⟩ := whs_at hf.ws hi
 have i1 : 0 ≤ (i : Int) := by omega
 have i2 : (i : Int) < (ws.length : Int) := by omega
 have hcn := fun (t : Int) h W hW => (counted_any (some ad) N c d ws ns i t W hW hi (by omega))
 have hok := Lib.hid (fun (t : Int) (h : ws[i].lo ≤ t ∧ t ≤ ws[i].hi) => ok_set hv hi h)
 have hct := Lib.hid (fun (t : Int) (h : ws[i].lo ≤ t ∧ t ≤ ws[i].hi) => guess_cnt ws ns i t hi h)
 have HL := Lib.hid (show leftL (guessL ws ns) ws.length i ws[i] = (upTo ws[i].lo ws[i].hi).foldl (fun a n => max a (tally (guessL ws ns) ws.length ((i : Int), n))) 0 from rfl)
 have htb := Lib.hid (fun (t : Int) => tally_bd (guessL ws ns) ws.length ((i : Int), t))
 generalize leftL (guessL ws ns) ws.length i ws[i] = res at *
 generalize tally (guessL ws ns) ws.length = ta at *
 generalize ws[i].lo = lo at *
 generalize ws[i].hi = hi at *
 have hwb' := Lib.hid hwb
 clear hget hwb
 go_enter Tryz.func35, Tryz.ntmps35
 go_wp2_with fail
 go_loopw [5, 6] (fun v s wr => ∃ (t a : Int), (lo ≤ t ∧ t ≤ hi + 1) ∧ s = .int .i64 t ∧ v = .int .i64 a ∧ Hid (res = (upTo t hi).foldl (fun a n => max a (ta ((i : Int), n))) a) ∧ Below w.heap.size w wr ∧ Below (w.alloc (.cells #[.slice (some ad) ws.length c, .slice N ns.length d] 25)).heap.size (w.alloc (.cells #[.slice (some ad) ws.length c, .slice N ns.length d] 25)) wr) (fun _ s _ => (hi + 1 - intOf s).toNat)
 case atStart => exact ⟨lo, 0, by have := hwb'.out; omega, rfl, rfl, HL, hfr, fr_refl _⟩
 case round =>
  obtain ⟨t, a, ht, rfl, rfl, hres, hbw, hbr⟩ := hrel
  have hXr := hX.keep hbr
  have hcX := fun j => hXr.cell j
  have hxl := hXr.lt
  have hfw := hf.keep hbr
  have hk1 := (hbr.cell (p := ⟨(ad.add (i * 2)).block, (ad.add (i * 2)).off + 1, none⟩) (by show (ad.add (i * 2)).block < _; rw [block_of_add]; exact hab)).trans k1
  have hb6 := hwb'.out
  by_cases hlt : t ≤ hi
  ·have htin : lo ≤ t ∧ t ≤ hi := ⟨ht.1, hlt⟩
   have hst := Lib.hid (show res = (upTo (t + 1) hi).foldl (fun a n => max a (ta ((i : Int), n))) (max a (ta ((i : Int), t))) by rw [hres.out, upTo_cons hlt]; rfl)
   have hgn := hct.out t htin
   have hgu := fun A c W h => Guesses_ok A N c d (setW ws i t) ns W h (hok.out t htin)
   have hsl : (setW ws i t).length = ws.length := by unfold setW; rw [List.length_set]
   rw [hsl, hgn] at hgu
   have hbt := htb.out t
   obtain ⟨v, hv2⟩ : ∃ v, ta ((i : Int), t) = v := ⟨_, rfl⟩
   rw [hv2] at hgu hst hbt
   have hwt : IntKind.i64.wrap (t + 1) = t + 1 := IntWalk.i64_in _ (by omega)
   have hdec : decide (t ≤ hi) = true := decide_eq_true hlt
   clear hf hgn hv2
   go_wp2_with fail
   refine (hcn t (by omega) _ hfw).mono ?_
   rintro e' wA ⟨g, q, rfl, hfA, hbA⟩
   go_wp2_with fail
   refine (hgu _ _ _ hfA).mono ?_
   rintro e' wB ⟨rfl, hbB⟩
   have hbAB := fr_call hbA hbB
   clear hbA hbB hgu hcn hct hok htb
   go_wp2_with fail
   refine ⟨⟨t + 1, max a v, ⟨by omega, by omega⟩, by go_num, rfl, hst, fr_call hbw hbAB, fr_call hbr hbAB⟩, ?_⟩
   simp [intOf]; omega
  ·have hdec : decide (t ≤ hi) = false := decide_eq_false hlt
   have hlt2 : hi < t := by omega
   have hend := Lib.hid (show res = a by rw [hres.out, upTo_nil (by omega)]; rfl)
   clear hf
   go_wp2_with fail
   go_ret
   exact ⟨by rw [hend.out]; rfl, hbw⟩
end Go.Proofs.YthenlopnlaiodaaGreatDoor
end

section
namespace Go.Proofs.YthenlopnlaiodaaGreatDoor
open Go.RowKit Go.Shelf

set_option maxRecDepth 100000 in
set_option maxHeartbeats 16000000 in
theorem counted_true (A N : Option Addr) (c d : Nat) (ws : List Wh) (ns : List Note) (o : Int) (w : World) (hf : FindAt w A N ws ns) (hT : TabP w) (hM : MaxP w) :
  Calls Tryz.prog 7 #[.agg #[.slice A ws.length c, .slice N ns.length d], .int .i64 o] w fun e' w' => e' = .returned (.bool true) ∧ Below w.heap.size w w' := by
 have hfr := fr_alloc (fr_refl w) (.cells #[.slice A ws.length c, .slice N ns.length d] 25)
 have hX0 : Blk (w.alloc (.cells #[.slice A ws.length c, .slice N ns.length d] 25)) (w.heap.size) 25 #[.slice A ws.length c, .slice N ns.length d] := (Blk.new_at _ _ (by simp))
 replace hf := hf.keep hfr
 have hc0 := fun j => hX0.cell j
 have hl0 := hX0.lt
 cases s1 : (decide ((ws.length : Int) ≤ 8) && decide ((ns.length : Int) ≤ 11))
 ·go_enter Tryz.func7, Tryz.ntmps7
  go_wp2_with fail
  refine (short_any A N ws.length ns.length c d _ _ s1).mono ?_
  rintro e' w1 ⟨rfl, hb⟩
  replace hfr := fr_call hfr hb
  replace hf := hf.keep hb
  replace hX0 := hX0.keep hb
  clear hb hc0
  have hc0 := fun j => hX0.cell j
  have hl0 := hX0.lt
  go_wp2_with fail
  refine (known_is _ (hT.keep hfr) (hM.keep hfr)).mono ?_
  rintro e' w1 ⟨rfl, hb⟩
  replace hfr := fr_call hfr hb
  clear hb
  go_wp2_with fail
  go_ret
  exact ⟨rfl, hfr⟩
 ·have s1a : ws.length ≤ 8 ∧ ns.length ≤ 11 := by simp at s1; omega
  cases f1 : findB ws ns
  ·go_enter Tryz.func7, Tryz.ntmps7
   go_wp2_with fail
   refine (short_any A N ws.length ns.length c d _ _ s1).mono ?_
   rintro e' w1 ⟨rfl, hb⟩
   replace hfr := fr_call hfr hb
   replace hf := hf.keep hb
   replace hX0 := hX0.keep hb
   clear hb hc0
   have hc0 := fun j => hX0.cell j
   have hl0 := hX0.lt
   go_wp2_with fail
   refine (Find8_any A N ws.length ns.length c d ws ns _ hf rfl rfl (by omega) (by omega) _ f1).mono ?_
   rintro e' w1 ⟨rfl, hb⟩
   replace hfr := fr_call hfr hb
   replace hf := hf.keep hb
   replace hX0 := hX0.keep hb
   clear hb hc0
   have hc0 := fun j => hX0.cell j
   have hl0 := hX0.lt
   go_wp2_with fail
   refine (known_is _ (hT.keep hfr) (hM.keep hfr)).mono ?_
   rintro e' w1 ⟨rfl, hb⟩
   replace hfr := fr_call hfr hb
   clear hb
   go_wp2_with fail
   go_ret
   exact ⟨rfl, hfr⟩
  ·cases n1 : narrowB ws ns
   ·go_enter Tryz.func7, Tryz.ntmps7
    go_wp2_with fail
    refine (short_any A N ws.length ns.length c d _ _ s1).mono ?_
    rintro e' w1 ⟨rfl, hb⟩
    replace hfr := fr_call hfr hb
    replace hf := hf.keep hb
    replace hX0 := hX0.keep hb
    clear hb hc0
    have hc0 := fun j => hX0.cell j
    have hl0 := hX0.lt
    go_wp2_with fail
    refine (Find8_any A N ws.length ns.length c d ws ns _ hf rfl rfl (by omega) (by omega) _ f1).mono ?_
    rintro e' w1 ⟨rfl, hb⟩
    replace hfr := fr_call hfr hb
    replace hf := hf.keep hb
    replace hX0 := hX0.keep hb
    clear hb hc0
    have hc0 := fun j => hX0.cell j
    have hl0 := hX0.lt
    go_wp2_with fail
    refine (narrow_any A N ws.length ns.length c d ws ns _ hf rfl rfl (by omega) (by omega) _ n1).mono ?_
    rintro e' w1 ⟨rfl, hb⟩
    replace hfr := fr_call hfr hb
    replace hf := hf.keep hb
    replace hX0 := hX0.keep hb
    clear hb hc0
    have hc0 := fun j => hX0.cell j
    have hl0 := hX0.lt
    go_wp2_with fail
    refine (known_is _ (hT.keep hfr) (hM.keep hfr)).mono ?_
    rintro e' w1 ⟨rfl, hb⟩
    replace hfr := fr_call hfr hb
    clear hb
    go_wp2_with fail
    go_ret
    exact ⟨rfl, hfr⟩
   ·by_cases o0 : o < 0
    ·go_enter Tryz.func7, Tryz.ntmps7
     go_wp2_with fail
     refine (short_any A N ws.length ns.length c d _ _ s1).mono ?_
     rintro e' w1 ⟨rfl, hb⟩
     replace hfr := fr_call hfr hb
     replace hf := hf.keep hb
     replace hX0 := hX0.keep hb
     clear hb hc0
     have hc0 := fun j => hX0.cell j
     have hl0 := hX0.lt
     go_wp2_with fail
     refine (Find8_any A N ws.length ns.length c d ws ns _ hf rfl rfl (by omega) (by omega) _ f1).mono ?_
     rintro e' w1 ⟨rfl, hb⟩
     replace hfr := fr_call hfr hb
     replace hf := hf.keep hb
     replace hX0 := hX0.keep hb
     clear hb hc0
     have hc0 := fun j => hX0.cell j
     have hl0 := hX0.lt
     go_wp2_with fail
     refine (narrow_any A N ws.length ns.length c d ws ns _ hf rfl rfl (by omega) (by omega) _ n1).mono ?_
     rintro e' w1 ⟨rfl, hb⟩
     replace hfr := fr_call hfr hb
     replace hf := hf.keep hb
     replace hX0 := hX0.keep hb
     clear hb hc0
     have hc0 := fun j => hX0.cell j
     have hl0 := hX0.lt
     go_wp2_with fail
     refine (known_is _ (hT.keep hfr) (hM.keep hfr)).mono ?_
     rintro e' w1 ⟨rfl, hb⟩
     replace hfr := fr_call hfr hb
     clear hb
     go_wp2_with fail
     go_ret
     exact ⟨rfl, hfr⟩
    ·by_cases o1 : (ws.length : Int) ≤ o
     ·go_enter Tryz.func7, Tryz.ntmps7
      go_wp2_with fail
      refine (short_any A N ws.length ns.length c d _ _ s1).mono ?_
      rintro e' w1 ⟨rfl, hb⟩
      replace hfr := fr_call hfr hb
      replace hf := hf.keep hb
      replace hX0 := hX0.keep hb
      clear hb hc0
      have hc0 := fun j => hX0.cell j
      have hl0 := hX0.lt
      go_wp2_with fail
      refine (Find8_any A N ws.length ns.length c d ws ns _ hf rfl rfl (by omega) (by omega) _ f1).mono ?_
      rintro e' w1 ⟨rfl, hb⟩
      replace hfr := fr_call hfr hb
      replace hf := hf.keep hb
      replace hX0 := hX0.keep hb
      clear hb hc0
      have hc0 := fun j => hX0.cell j
      have hl0 := hX0.lt
      go_wp2_with fail
      refine (narrow_any A N ws.length ns.length c d ws ns _ hf rfl rfl (by omega) (by omega) _ n1).mono ?_
      rintro e' w1 ⟨rfl, hb⟩
      replace hfr := fr_call hfr hb
      replace hf := hf.keep hb
      replace hX0 := hX0.keep hb
      clear hb hc0
      have hc0 := fun j => hX0.cell j
      have hl0 := hX0.lt
      go_wp2_with fail
      refine (known_is _ (hT.keep hfr) (hM.keep hfr)).mono ?_
      rintro e' w1 ⟨rfl, hb⟩
      replace hfr := fr_call hfr hb
      clear hb
      go_wp2_with fail
      go_ret
      exact ⟨rfl, hfr⟩
     ·have hv := find_ok f1
      obtain ⟨i, rfl⟩ : ∃ i : Nat, o = i := ⟨o.toNat, by omega⟩
      have hil : i < ws.length := by omega
      obtain ⟨b, hbl, hb1, hb2, hbs⟩ := count_law (ts := guessL ws ns) (ws := ws) (by omega)
      obtain ⟨hs1, hs2⟩ := hbs i hil
      have hlb := (leftL_bd (guessL ws ns) ws.length b (ws[b]?.getD ⟨0, 0⟩)).2
      have hgs := fun W h => Guesses_ok A N c d ws ns W h hv
      have hmi := fun W h => most_any A N c d ws ns i W h hv hil
      have hmb := fun W h => most_any A N c d ws ns b W h hv hbl
      have hk0 := fun (h0 : guessL ws ns = []) W h => Count_none A N c d ws ns W h hv h0
      have hk1 := fun (h0 : (guessL ws ns).length = 1) W h => Count_one A N c d ws ns W h hv h0
      have hk2 := fun (h0 : 2 ≤ (guessL ws ns).length) W h => Count_some A N c d ws ns W h hv _ rfl h0
      rw [hb1, hb2] at hk2
      have F1 := Lib.hid f1
      unfold RetE at hgs
      unfold RetCC at hk0 hk1 hk2
      rw [← List.length_eq_zero_iff] at hk0
      obtain ⟨L, hL⟩ : ∃ L, leftL (guessL ws ns) ws.length b (ws[b]?.getD ⟨0, 0⟩) = L := ⟨_, rfl⟩
      obtain ⟨X, hX⟩ : ∃ X, leftL (guessL ws ns) ws.length i (ws[i]?.getD ⟨0, 0⟩) = X := ⟨_, rfl⟩
      rw [hL] at hs1 hs2 hlb hmb hk2
      rw [hX] at hs1 hs2 hmi
      obtain ⟨q, hq⟩ : ∃ q, (guessL ws ns).length = q := ⟨_, rfl⟩
      rw [hq] at hlb hgs hk0 hk1 hk2
      have b0 : ¬ ((b : Int) < 0) := by omega
      have b1 : ¬ ((ws.length : Int) ≤ (b : Int)) := by omega
      clear hq hL hX hb1 hb2 hv f1
      by_cases h0 : q = 0
      ·have hq0 : ((0 : Nat) : Int) = 0 := rfl
       subst h0
       rw [hq0] at hgs
       replace hk0 := hk0 rfl
       clear hk1 hk2 hs1 hs2 hlb hmi hmb hq0
       go_enter Tryz.func7, Tryz.ntmps7
       go_wp2_with fail
       refine (short_any A N ws.length ns.length c d _ _ s1).mono ?_
       rintro e' w1 ⟨rfl, hb⟩
       replace hfr := fr_call hfr hb
       replace hf := hf.keep hb
       replace hX0 := hX0.keep hb
       clear hb hc0
       have hc0 := fun j => hX0.cell j
       have hl0 := hX0.lt
       go_wp2_with fail
       refine (Find8_any A N ws.length ns.length c d ws ns _ hf rfl rfl (by omega) (by omega) _ F1.out).mono ?_
       rintro e' w1 ⟨rfl, hb⟩
       replace hfr := fr_call hfr hb
       replace hf := hf.keep hb
       replace hX0 := hX0.keep hb
       clear hb hc0
       have hc0 := fun j => hX0.cell j
       have hl0 := hX0.lt
       go_wp2_with fail
       refine (narrow_any A N ws.length ns.length c d ws ns _ hf rfl rfl (by omega) (by omega) _ n1).mono ?_
       rintro e' w1 ⟨rfl, hb⟩
       replace hfr := fr_call hfr hb
       replace hf := hf.keep hb
       replace hX0 := hX0.keep hb
       clear hb hc0
       have hc0 := fun j => hX0.cell j
       have hl0 := hX0.lt
       go_wp2_with fail
       refine (hk0 _ hf).mono ?_
       rintro e' w1 ⟨rfl, hb⟩
       replace hfr := fr_call hfr hb
       replace hf := hf.keep hb
       replace hX0 := hX0.keep hb
       clear hb hc0
       have hc0 := fun j => hX0.cell j
       have hl0 := hX0.lt
       go_wp2_with fail
       refine (hgs _ hf).mono ?_
       rintro e' w1 ⟨rfl, hb⟩
       replace hfr := fr_call hfr hb
       replace hf := hf.keep hb
       replace hX0 := hX0.keep hb
       clear hb hc0
       have hc0 := fun j => hX0.cell j
       have hl0 := hX0.lt
       go_wp2_with fail
       refine (known_is _ (hT.keep hfr) (hM.keep hfr)).mono ?_
       rintro e' w1 ⟨rfl, hb⟩
       replace hfr := fr_call hfr hb
       clear hb
       go_wp2_with fail
       go_ret
       exact ⟨rfl, hfr⟩
      ·by_cases h1 : q = 1
       ·have hq1 : ((1 : Nat) : Int) = 1 := rfl
        subst h1
        rw [hq1] at hgs
        replace hk1 := hk1 rfl
        clear hk0 hk2 hs1 hs2 hlb hmi hmb hq1
        go_enter Tryz.func7, Tryz.ntmps7
        go_wp2_with fail
        refine (short_any A N ws.length ns.length c d _ _ s1).mono ?_
        rintro e' w1 ⟨rfl, hb⟩
        replace hfr := fr_call hfr hb
        replace hf := hf.keep hb
        replace hX0 := hX0.keep hb
        clear hb hc0
        have hc0 := fun j => hX0.cell j
        have hl0 := hX0.lt
        go_wp2_with fail
        refine (Find8_any A N ws.length ns.length c d ws ns _ hf rfl rfl (by omega) (by omega) _ F1.out).mono ?_
        rintro e' w1 ⟨rfl, hb⟩
        replace hfr := fr_call hfr hb
        replace hf := hf.keep hb
        replace hX0 := hX0.keep hb
        clear hb hc0
        have hc0 := fun j => hX0.cell j
        have hl0 := hX0.lt
        go_wp2_with fail
        refine (narrow_any A N ws.length ns.length c d ws ns _ hf rfl rfl (by omega) (by omega) _ n1).mono ?_
        rintro e' w1 ⟨rfl, hb⟩
        replace hfr := fr_call hfr hb
        replace hf := hf.keep hb
        replace hX0 := hX0.keep hb
        clear hb hc0
        have hc0 := fun j => hX0.cell j
        have hl0 := hX0.lt
        go_wp2_with fail
        refine (hk1 _ hf).mono ?_
        rintro e' w1 ⟨rfl, hb⟩
        replace hfr := fr_call hfr hb
        replace hf := hf.keep hb
        replace hX0 := hX0.keep hb
        clear hb hc0
        have hc0 := fun j => hX0.cell j
        have hl0 := hX0.lt
        go_wp2_with fail
        refine (hgs _ hf).mono ?_
        rintro e' w1 ⟨rfl, hb⟩
        replace hfr := fr_call hfr hb
        replace hf := hf.keep hb
        replace hX0 := hX0.keep hb
        clear hb hc0
        have hc0 := fun j => hX0.cell j
        have hl0 := hX0.lt
        go_wp2_with fail
        refine (known_is _ (hT.keep hfr) (hM.keep hfr)).mono ?_
        rintro e' w1 ⟨rfl, hb⟩
        replace hfr := fr_call hfr hb
        clear hb
        go_wp2_with fail
        go_ret
        exact ⟨rfl, hfr⟩
       ·replace hk2 := hk2 (by omega)
        have q0 : ¬ ((q : Int) < 0) := by omega
        have q1 : ((q : Int) == 0) = false := beq_eq_false_iff_ne.2 (by omega)
        have q2 : ((q : Int) == 1) = false := beq_eq_false_iff_ne.2 (by omega)
        have q3 : 1 < (q : Int) := by omega
        have l1 : (L != L) = false := by simp
        have l2 : ¬ ((q : Int) < L) := by omega
        clear hk0 hk1 h0 h1 hlb
        by_cases hx : L < X
        ·clear hs1 hs2
         go_enter Tryz.func7, Tryz.ntmps7
         go_wp2_with fail
         refine (short_any A N ws.length ns.length c d _ _ s1).mono ?_
         rintro e' w1 ⟨rfl, hb⟩
         replace hfr := fr_call hfr hb
         replace hf := hf.keep hb
         replace hX0 := hX0.keep hb
         clear hb hc0
         have hc0 := fun j => hX0.cell j
         have hl0 := hX0.lt
         go_wp2_with fail
         refine (Find8_any A N ws.length ns.length c d ws ns _ hf rfl rfl (by omega) (by omega) _ F1.out).mono ?_
         rintro e' w1 ⟨rfl, hb⟩
         replace hfr := fr_call hfr hb
         replace hf := hf.keep hb
         replace hX0 := hX0.keep hb
         clear hb hc0
         have hc0 := fun j => hX0.cell j
         have hl0 := hX0.lt
         go_wp2_with fail
         refine (narrow_any A N ws.length ns.length c d ws ns _ hf rfl rfl (by omega) (by omega) _ n1).mono ?_
         rintro e' w1 ⟨rfl, hb⟩
         replace hfr := fr_call hfr hb
         replace hf := hf.keep hb
         replace hX0 := hX0.keep hb
         clear hb hc0
         have hc0 := fun j => hX0.cell j
         have hl0 := hX0.lt
         go_wp2_with fail
         refine (hk2 _ hf).mono ?_
         rintro e' w1 ⟨rfl, hb⟩
         replace hfr := fr_call hfr hb
         replace hf := hf.keep hb
         replace hX0 := hX0.keep hb
         clear hb hc0
         have hc0 := fun j => hX0.cell j
         have hl0 := hX0.lt
         go_wp2_with fail
         refine (hgs _ hf).mono ?_
         rintro e' w1 ⟨rfl, hb⟩
         replace hfr := fr_call hfr hb
         replace hf := hf.keep hb
         replace hX0 := hX0.keep hb
         clear hb hc0
         have hc0 := fun j => hX0.cell j
         have hl0 := hX0.lt
         go_wp2_with fail
         refine (hmb _ hf).mono ?_
         rintro e' w1 ⟨rfl, hb⟩
         replace hfr := fr_call hfr hb
         replace hf := hf.keep hb
         replace hX0 := hX0.keep hb
         clear hb hc0
         have hc0 := fun j => hX0.cell j
         have hl0 := hX0.lt
         go_wp2_with fail
         refine (hmi _ hf).mono ?_
         rintro e' w1 ⟨rfl, hb⟩
         replace hfr := fr_call hfr hb
         replace hf := hf.keep hb
         replace hX0 := hX0.keep hb
         clear hb hc0
         have hc0 := fun j => hX0.cell j
         have hl0 := hX0.lt
         go_wp2_with fail
         refine (known_is _ (hT.keep hfr) (hM.keep hfr)).mono ?_
         rintro e' w1 ⟨rfl, hb⟩
         replace hfr := fr_call hfr hb
         clear hb
         go_wp2_with fail
         go_ret
         exact ⟨rfl, hfr⟩
        ·obtain rfl : X = L := by omega
         have l3 : (X == X) = true := beq_self_eq_true _
         have l4 : (b : Int) ≤ (i : Int) := by have := hs2 rfl; omega
         clear hs1 hs2
         go_enter Tryz.func7, Tryz.ntmps7
         go_wp2_with fail
         refine (short_any A N ws.length ns.length c d _ _ s1).mono ?_
         rintro e' w1 ⟨rfl, hb⟩
         replace hfr := fr_call hfr hb
         replace hf := hf.keep hb
         replace hX0 := hX0.keep hb
         clear hb hc0
         have hc0 := fun j => hX0.cell j
         have hl0 := hX0.lt
         go_wp2_with fail
         refine (Find8_any A N ws.length ns.length c d ws ns _ hf rfl rfl (by omega) (by omega) _ F1.out).mono ?_
         rintro e' w1 ⟨rfl, hb⟩
         replace hfr := fr_call hfr hb
         replace hf := hf.keep hb
         replace hX0 := hX0.keep hb
         clear hb hc0
         have hc0 := fun j => hX0.cell j
         have hl0 := hX0.lt
         go_wp2_with fail
         refine (narrow_any A N ws.length ns.length c d ws ns _ hf rfl rfl (by omega) (by omega) _ n1).mono ?_
         rintro e' w1 ⟨rfl, hb⟩
         replace hfr := fr_call hfr hb
         replace hf := hf.keep hb
         replace hX0 := hX0.keep hb
         clear hb hc0
         have hc0 := fun j => hX0.cell j
         have hl0 := hX0.lt
         go_wp2_with fail
         refine (hk2 _ hf).mono ?_
         rintro e' w1 ⟨rfl, hb⟩
         replace hfr := fr_call hfr hb
         replace hf := hf.keep hb
         replace hX0 := hX0.keep hb
         clear hb hc0
         have hc0 := fun j => hX0.cell j
         have hl0 := hX0.lt
         go_wp2_with fail
         refine (hgs _ hf).mono ?_
         rintro e' w1 ⟨rfl, hb⟩
         replace hfr := fr_call hfr hb
         replace hf := hf.keep hb
         replace hX0 := hX0.keep hb
         clear hb hc0
         have hc0 := fun j => hX0.cell j
         have hl0 := hX0.lt
         go_wp2_with fail
         refine (hmb _ hf).mono ?_
         rintro e' w1 ⟨rfl, hb⟩
         replace hfr := fr_call hfr hb
         replace hf := hf.keep hb
         replace hX0 := hX0.keep hb
         clear hb hc0
         have hc0 := fun j => hX0.cell j
         have hl0 := hX0.lt
         go_wp2_with fail
         refine (hmi _ hf).mono ?_
         rintro e' w1 ⟨rfl, hb⟩
         replace hfr := fr_call hfr hb
         replace hf := hf.keep hb
         replace hX0 := hX0.keep hb
         clear hb hc0
         have hc0 := fun j => hX0.cell j
         have hl0 := hX0.lt
         go_wp2_with fail
         refine (known_is _ (hT.keep hfr) (hM.keep hfr)).mono ?_
         rintro e' w1 ⟨rfl, hb⟩
         replace hfr := fr_call hfr hb
         clear hb
         go_wp2_with fail
         go_ret
         exact ⟨rfl, hfr⟩
end Go.Proofs.YthenlopnlaiodaaGreatDoor
end

section
namespace Go.Proofs.YthenlopnlaiodaaGreatDoor.cGuessCounted
open Go.ChangeShapes Go.WideShapes Go.ChangeAt Go.WideMaps Go.WideElems Go.RowKit
set_option maxRecDepth 100000

theorem lifted (os : Os) (started : os.Started) (H : Type) (enc : TypeId × Value → H) :
  ReturnsInHanded {} Tryz.checked os 7 .any (fun w args => (Rows.guessCountedSpec.pre enc Tryz.prog Tryz.f7 [] false w args ∧ laidMetH Tryz.prog laidT w) ∧ sizedMet enc Tryz.prog Tryz.f7 (OpenSpec.ofChange Rows.guessCountedSpec) false w args)
   (Rows.guessCountedSpec.post enc Tryz.prog Tryz.f7 false true false false) := by
 refine change_and_shaped (C := Tryz.checked) (X := fun w _ => laidMetH Tryz.prog laidT w) (fun _ _ _ hh h => h.of_heap hh) own_none started (by kernel_rfl) Tryz.func7
  (ChangeSpec.witness_shaped (enc := enc) (C := Tryz.checked) (os := os) (X := fun w _ => laidMetH Tryz.prog laidT w) false (doorT os) #[.agg #[.slice none 0 0, .slice none 0 0], .int .i64 0] 8 rfl (World.shaped_of_RefB (by kernel_rfl) (by kernel_rfl)) (by kernel_rfl) (by kernel_rfl) (by kernel_rfl) (doorT_met os _)) ?_
 intro W base args ds gs before hval0 hW hL hsh
 have hval : ∀ (j : Nat) t v, Tryz.f7.params[j]? = some t → args[j]? = some v → Value.okWide Tryz.prog W .any base t v := hval0
 have hW' := hW
 obtain ⟨p, q, hA0, _, _, _, _⟩ := hW
 have hA : DataW.TrodAll enc Tryz.prog W 0 (fun _ => true) true Tryz.f7.params.toList args.toList ds p := hA0
 rw [Tryz.params7] at hA hval
 clear hA0 hval0
 obtain ⟨v0, vs0, d0, ds0, p0, q0, hargs, rfl, rfl, h0, r0⟩ := trodAll_cons hA
 obtain ⟨v1, vs1, d1, ds1, p1, q1, rfl, rfl, rfl, h1, r1⟩ := trodAll_cons r0
 obtain ⟨rfl, rfl, rfl⟩ := trodAll_nil r1
 obtain rfl : args = #[v0, v1] := by cases args; simp_all
 obtain ⟨A0, N0, ws0, ns0, c0, m0, rfl, hf0, hn0, hm0⟩ := find_open (hval 0 25 v0 rfl rfl) h0
 obtain ⟨x1, rfl, _, _, _⟩ := open_int Tryz.underlying3 (hval 1 3 v1 rfl rfl) h1
 refine (counted_true A0 N0 c0 m0 ws0 ns0 x1 W hf0 (tabT_of_laid hL) (maxP_of hsh)).mono fun e W' ⟨he, hb⟩ => ?_
 subst he
 exact ⟨_, rfl, law_post (by kernel_rfl) (by kernel_rfl) rfl hW' rfl rfl rfl hb⟩

theorem row_holds : Rows.GuessCountedSaid :=
 OpenClaim.holds_of_wide 7 Tryz.f7 rfl rfl rfl rfl rfl rfl rfl ⟨rfl, rfl, rfl, rfl, rfl⟩ rfl rfl rfl rfl rfl (by kernel_rfl) Tryz.func7 (by kernel_rfl)
  (of_decide_eq_true (by kernel_rfl)) (by unfold Func.isWrapper; rw [if_neg (of_decide_eq_false (by kernel_rfl))]; exact ⟨rfl, rfl⟩)
  (fun os started H enc _ => lifted os started H enc)

theorem card_holds : Rows.GuessCountedCardSaid :=
 Claim7.holds_tied_plain_at .later [] [.data, .data, .data, .data, .pinned] true _ _ row_holds (fun _ h => by cases h) (by kernel_rfl) (fun _ h => by cases h) guessCounted_row_tie rfl ⟨rfl, rfl⟩ (by kernel_rfl) rfl
  (fun f fn hf hfn => by
   obtain rfl : f = 7 := Option.some.inj ((show Tryz.prog.funcNamed "tellurion/tellurionlaw08.GuessCounted" = some 7 by kernel_rfl).symm.trans hf) |>.symm
   obtain rfl : fn = Tryz.f7 := (Option.some.inj (Tryz.func7.symm.trans hfn)).symm
   exact ⟨by kernel_rfl, fun j t ht => by
    rw [Tryz.params7] at ht
    have hm : t ∈ [25, 3] := by simpa using Array.mem_of_getElem? ht
    have hall : ([25, 3].all fun u => !Tryz.prog.wantsStandIn u) = true := by kernel_rfl
    exact (show Tryz.prog.wantsStandIn t = false by simpa using List.all_eq_true.1 hall t hm)⟩)
  (by kernel_rfl)
end Go.Proofs.YthenlopnlaiodaaGreatDoor.cGuessCounted
end
