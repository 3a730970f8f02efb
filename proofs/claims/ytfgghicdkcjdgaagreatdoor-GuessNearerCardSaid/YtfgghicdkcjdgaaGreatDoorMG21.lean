/- The laws' arguments, opened: finds, trains, notes, fractions, rules. -/
import Derived.Test.YtfgghicdkcjdgaaGreatDoorMG20
import Derived.Test.YtfgghicdkcjdgaaGreatDoorMG2
import Derived.Deep.Slices
import Derived.Deep.Strs
import Derived.Lib.SmallJoins
namespace Go.Proofs.YtfgghicdkcjdgaaGreatDoor
open Go.ChangeShapes Go.WideShapes Go.ChangeAt Go.WideMaps Go.WideElems Go.RowKit Go.Joins Go.Deep
set_option maxRecDepth 100000

theorem cell_lt {w : World} {p : Addr} {v : Value} (h : w.cell? p = some v) : p.block < w.heap.size := by
 rcases Nat.lt_or_ge p.block w.heap.size with hl | hg
 ·exact hl
 ·unfold World.cell? at h
  rw [Array.getElem?_eq_none hg] at h
  cases h

section
variable {H : Type} {enc : TypeId × Value → H} {W : World} {spare : Nat → Bool} {held : Bool} {b : Nat}

theorem rd_open {fuel : Nat} {cs : List Value} {x : DataW H × List MemPlace} (h : DataW.trod enc Tryz.prog W b spare held fuel 34 cs = some x) :
  ∃ A n c xs, cs = [.slice A n c] ∧ Rd W A n xs ∧ n ≤ 9223372036854775807 := by
 rcases open_ints Tryz.underlying34 Tryz.underlying3 (by kernel_rfl) h with ⟨rfl, _⟩ | ⟨a, len, cap, zs, rfl, _, hl, hm, hz, _, hc, _⟩
 ·exact ⟨none, 0, 0, [], rfl, Rd.nil_ _ _, by omega⟩
 ·have hle : len ≤ zs.length := by rw [hz]; split <;> omega
  refine ⟨some a, len, cap, zs.take len, rfl, ⟨by rw [List.length_take]; omega, fun hn => ⟨a, rfl, ?_, fun j hj => ?_⟩⟩, by unfold maxLen at hm; omega⟩
  ·have := cell_lt (hc 0 (by omega))
   rw [block_of_add] at this
   exact this
  ·rw [hc j (by omega), List.getElem?_take, if_pos hj]
   simp [List.getD]

theorem pick_list {α : Type} {P : Nat → α → Prop} : ∀ n, (∀ i, i < n → ∃ x, P i x) → ∃ l : List α, l.length = n ∧ ∀ i x, l[i]? = some x → P i x
 | 0, _ => ⟨[], rfl, fun i x h => by simp at h⟩
 | n + 1, h => by
  obtain ⟨l, hl, hp⟩ := pick_list n (fun i hi => h i (by omega))
  obtain ⟨x, hx⟩ := h n (by omega)
  refine ⟨l ++ [x], by simp [hl], fun i y hy => ?_⟩
  by_cases hi : i < n
  ·rw [List.getElem?_append_left (by omega)] at hy
   exact hp i y hy
  ·rw [List.getElem?_append_right (by omega)] at hy
   by_cases hin : i = n
   ·subst hin
    simp [hl] at hy
    subst hy
    exact hx
   ·rw [List.getElem?_eq_none (by simp; omega)] at hy
    cases hy

theorem rows_open {T : Type} {row : T → List Value} {k : Nat} {S E : TypeId} (hS : Tryz.prog.underlying S = some (.slice E)) (hk : Tryz.prog.cellsOf E = k) (hk0 : 0 < k) (hrl : ∀ f, (row f).length = k) (hE : ∀ {fuel : Nat} {cs : List Value} {x : DataW H × List MemPlace}, DataW.trod enc Tryz.prog W b spare held fuel E cs = some x → ∃ f : T, cs = row f)
  {fuel : Nat} {cs : List Value} {x : DataW H × List MemPlace} (hf : DataW.trod enc Tryz.prog W b spare held fuel S cs = some x) :
  ∃ (A : Option Addr) (l : List T) (c : Nat), cs = [.slice A l.length c] ∧ RdS W A k (l.map row) ∧ l.length ≤ 9223372036854775807 := by
 rcases open_slice hS hf with ⟨h0, _⟩ | ⟨a, len, cap, m, n, D, Pl, hcs, _, hle, hm, hmm, _, hel⟩
 ·exact ⟨none, [], 0, h0, fun hn => by simp at hn, by simp⟩
 ·rw [hk] at hel
  have hml : len ≤ m := by rw [hmm]; split <;> omega
  obtain ⟨l, hl, hp⟩ := pick_list (P := fun i (f : T) => ∀ j u, (row f)[j]? = some u → W.cell? (a.add (i * k + j)) = some u) len (fun i hi => by
   obtain ⟨cs', hc, ht⟩ := hel i (by omega)
   obtain ⟨f, rfl⟩ := hE ht
   obtain ⟨_, _, hat⟩ := World.cells?_some hc
   refine ⟨f, fun j u hu => ?_⟩
   have hj : j < k := by rw [← hrl f]; exact (List.getElem?_eq_some_iff.1 hu).1
   have := hat j hj
   rw [add_of_add] at this
   rw [this, hu])
  refine ⟨some a, l, cap, by rw [hcs, hl], fun hn => ⟨a, rfl, ?_, fun i r hi => ?_⟩, by unfold maxLen at hm; omega⟩
  ·simp only [List.length_map] at hn
   have h0 : l[0]? = some (l[0]'hn) := List.getElem?_eq_getElem hn
   have h1 : (row (l[0]'hn))[0]? = some ((row (l[0]'hn))[0]'(by rw [hrl]; exact hk0)) := List.getElem?_eq_getElem _
   have := cell_lt (hp 0 _ h0 0 _ h1)
   rw [block_of_add] at this
   exact this
  ·rw [List.getElem?_map] at hi
   cases hli : l[i]? with
   | none => rw [hli] at hi; cases hi
   | some f =>
    rw [hli] at hi
    cases hi
    exact ⟨hrl f, fun j u hu => hp i f hli j u hu⟩
theorem two_api.Span {fuel : Nat} {cs : List Value} {x : DataW H × List MemPlace} (h : DataW.trod enc Tryz.prog W b spare held fuel 47 cs = some x) : ∃ f : Wh, cs = f.cells := by
 obtain ⟨y0, y1, n, _, hl, h0, h1⟩ := trod_struct2 Tryz.underlying47 h
 rw [show Tryz.prog.cellsOf 47 = 2 by kernel_rfl] at hl
 rw [show Tryz.prog.cellsOf 3 = 1 by kernel_rfl] at h0 h1
 match cs, hl with
 | [c0, c1], _ =>
  obtain ⟨e0, he0, _, _⟩ := DataW.trod_int Tryz.underlying3 h0
  obtain ⟨e1, he1, _, _⟩ := DataW.trod_int Tryz.underlying3 h1
  simp only [List.drop_zero, List.take_succ_cons, List.take_zero, List.drop_succ_cons, List.cons.injEq, and_true] at he0 he1
  subst he0; subst he1
  exact ⟨⟨e0, e1⟩, rfl⟩
theorem two_api.TrainPair {fuel : Nat} {cs : List Value} {x : DataW H × List MemPlace} (h : DataW.trod enc Tryz.prog W b spare held fuel 98 cs = some x) : ∃ f : Wh, cs = f.cells := by
 obtain ⟨y0, y1, n, _, hl, h0, h1⟩ := trod_struct2 Tryz.underlying98 h
 rw [show Tryz.prog.cellsOf 98 = 2 by kernel_rfl] at hl
 rw [show Tryz.prog.cellsOf 3 = 1 by kernel_rfl] at h0 h1
 match cs, hl with
 | [c0, c1], _ =>
  obtain ⟨e0, he0, _, _⟩ := DataW.trod_int Tryz.underlying3 h0
  obtain ⟨e1, he1, _, _⟩ := DataW.trod_int Tryz.underlying3 h1
  simp only [List.drop_zero, List.take_succ_cons, List.take_zero, List.drop_succ_cons, List.cons.injEq, and_true] at he0 he1
  subst he0; subst he1
  exact ⟨⟨e0, e1⟩, rfl⟩
theorem two_api.TrainFraction {fuel : Nat} {cs : List Value} {x : DataW H × List MemPlace} (h : DataW.trod enc Tryz.prog W b spare held fuel 40 cs = some x) : ∃ f : Wh, cs = f.cells := by
 obtain ⟨y0, y1, n, _, hl, h0, h1⟩ := trod_struct2 Tryz.underlying40 h
 rw [show Tryz.prog.cellsOf 40 = 2 by kernel_rfl] at hl
 rw [show Tryz.prog.cellsOf 3 = 1 by kernel_rfl] at h0 h1
 match cs, hl with
 | [c0, c1], _ =>
  obtain ⟨e0, he0, _, _⟩ := DataW.trod_int Tryz.underlying3 h0
  obtain ⟨e1, he1, _, _⟩ := DataW.trod_int Tryz.underlying3 h1
  simp only [List.drop_zero, List.take_succ_cons, List.take_zero, List.drop_succ_cons, List.cons.injEq, and_true] at he0 he1
  subst he0; subst he1
  exact ⟨⟨e0, e1⟩, rfl⟩
theorem note_cells {fuel : Nat} {cs : List Value} {x : DataW H × List MemPlace} (h : DataW.trod enc Tryz.prog W b spare held fuel 70 cs = some x) : ∃ f : Note, cs = f.cells := by
 obtain ⟨xs, n, _, rfl, hl, hlen, hf⟩ := DataW.trod_struct Tryz.underlying70 h
 rw [show Tryz.prog.cellsOf 70 = 9 by kernel_rfl] at hl
 match xs, hlen with
 | [y0, y1, y2, y3, y4, y5, y6], _ =>
  have h0 : DataW.trod enc Tryz.prog W b spare held n 68 ((cs.drop 0).take (Tryz.prog.cellsOf 68)) = some y0 := hf 0 _ rfl
  have h1 : DataW.trod enc Tryz.prog W b spare held n 3 ((cs.drop 1).take (Tryz.prog.cellsOf 3)) = some y1 := hf 1 _ rfl
  have h2 : DataW.trod enc Tryz.prog W b spare held n 3 ((cs.drop 2).take (Tryz.prog.cellsOf 3)) = some y2 := hf 2 _ rfl
  have h3 : DataW.trod enc Tryz.prog W b spare held n 3 ((cs.drop 3).take (Tryz.prog.cellsOf 3)) = some y3 := hf 3 _ rfl
  have h4 : DataW.trod enc Tryz.prog W b spare held n 3 ((cs.drop 4).take (Tryz.prog.cellsOf 3)) = some y4 := hf 4 _ rfl
  have h5 : DataW.trod enc Tryz.prog W b spare held n 40 ((cs.drop 5).take (Tryz.prog.cellsOf 40)) = some y5 := hf 5 _ rfl
  have h6 : DataW.trod enc Tryz.prog W b spare held n 40 ((cs.drop 7).take (Tryz.prog.cellsOf 40)) = some y6 := hf 6 _ rfl
  rw [show Tryz.prog.cellsOf 3 = 1 by kernel_rfl] at h1 h2 h3 h4
  rw [show Tryz.prog.cellsOf 68 = 1 by kernel_rfl] at h0
  rw [show Tryz.prog.cellsOf 40 = 2 by kernel_rfl] at h5 h6
  match cs, hl with
  | [c0, c1, c2, c3, c4, c5, c6, c7, c8], _ =>
   obtain ⟨e0, he0, _, _⟩ := DataW.trod_int Tryz.underlying68 h0
   obtain ⟨e1, he1, _, _⟩ := DataW.trod_int Tryz.underlying3 h1
   obtain ⟨e2, he2, _, _⟩ := DataW.trod_int Tryz.underlying3 h2
   obtain ⟨e3, he3, _, _⟩ := DataW.trod_int Tryz.underlying3 h3
   obtain ⟨e4, he4, _, _⟩ := DataW.trod_int Tryz.underlying3 h4
   obtain ⟨p, hp⟩ := two_api.TrainFraction h5
   obtain ⟨q, hq⟩ := two_api.TrainFraction h6
   simp only [Wh.cells, List.drop_zero, List.take_succ_cons, List.take_zero, List.drop_succ_cons, List.cons.injEq, and_true] at he0 he1 he2 he3 he4 hp hq
   obtain ⟨rfl, rfl⟩ := hp
   obtain ⟨rfl, rfl⟩ := hq
   subst he0; subst he1; subst he2; subst he3; subst he4
   exact ⟨⟨e0, e1, e2, e3, e4, p.lo, p.hi, q.lo, q.hi⟩, rfl⟩
theorem find_open {r : Reach} {b0 : Nat} {v : Value} {d : DataW H} {p : List MemPlace} (hv : Value.okWide Tryz.prog W r b0 25 v) (h : DataW.Trod enc Tryz.prog W b spare held 25 v d p) :
  ∃ (A N : Option Addr) (ws : List Wh) (ns : List Note) (c m : Nat), v = .agg #[.slice A ws.length c, .slice N ns.length m] ∧ FindAt W A N ws ns ∧ ws.length ≤ 9223372036854775807 ∧ ns.length ≤ 9223372036854775807 := by
 obtain ⟨v0, v1, y0, y1, n, rfl, _, _, h0, h1⟩ := open_agg2 Tryz.underlying25 (by kernel_rfl) (by kernel_rfl) hv h
 obtain ⟨A, ws, c, hc, hr, hn⟩ := rows_open (row := Wh.cells) (k := 2) Tryz.underlying22 (by kernel_rfl) (by omega) (fun _ => rfl) two_api.Span h0
 obtain ⟨N, ns, m, hm, hr2, hn2⟩ := rows_open (row := Note.cells) (k := 9) Tryz.underlying23 (by kernel_rfl) (by omega) (fun _ => rfl) note_cells h1
 cases hc
 cases hm
 exact ⟨A, N, ws, ns, c, m, rfl, ⟨hr, hr2⟩, hn, hn2⟩
theorem train_open {r : Reach} {b0 : Nat} {v : Value} {d : DataW H} {p : List MemPlace} (hv : Value.okWide Tryz.prog W r b0 26 v) (h : DataW.Trod enc Tryz.prog W b spare held 26 v d p) :
  ∃ (A : Option Addr) (x : List Wh) (c : Nat), v = .slice A x.length c ∧ RdS W A 2 (x.map Wh.cells) ∧ x.length ≤ 9223372036854775807 := by
 obtain ⟨fuel, hf⟩ := h
 have hcell : v.cells.toList = [v] := by
  simp only [Value.okWide, Tryz.underlying26] at hv
  cases v <;> simp [Cell.okWide, Cell.ok] at hv <;> rfl
 rw [hcell] at hf
 obtain ⟨A, x, c, hc, hr, hn⟩ := rows_open (row := Wh.cells) (k := 2) Tryz.underlying26 (by kernel_rfl) (by omega) (fun _ => rfl) two_api.TrainPair hf
 cases hc
 exact ⟨A, x, c, rfl, hr, hn⟩
end
end Go.Proofs.YtfgghicdkcjdgaaGreatDoor
