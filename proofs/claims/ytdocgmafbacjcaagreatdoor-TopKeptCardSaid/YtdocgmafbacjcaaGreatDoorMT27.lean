/- The frame of TopKept: a suite that came in reads as lists of numbers (by gen_zu.py). -/
import Derived.Test.YtdocgmafbacjcaaGreatDoorMT26
import Derived.Test.YtdocgmafbacjcaaGreatDoorMT25
import Derived.ChangeArms
namespace Go.Proofs.YtdocgmafbacjcaaGreatDoor
open Go.ChangeShapes Go.WideShapes Go.ChangeAt Go.WideMaps Go.WideElems Go.RowKit Go.Joins Go.Deep
set_option maxRecDepth 100000

theorem pick_list {α : Type} {P : Nat → α → Prop} : ∀ n, (∀ i, i < n → ∃ x, P i x) → ∃ l : List α, l.length = n ∧ ∀ i x, l[i]? = some x → P i x
 | 0, _ => ⟨[], rfl, fun i x h => by simp at h⟩
 | n + 1, h => by
  obtain ⟨l, hl, hp⟩ := pick_list n (fun i hi => h i (by omega))
  obtain ⟨x, hx⟩ := h n (by omega)
  refine ⟨l ++ [x], by simp [hl], fun i y hy => ?_⟩
  by_cases hi : i < n
  ·rw [List.getElem?_append_left (by omega)] at hy
   exact hp i y hy
  ·rw [List.getElem?_append_right (by omega)] at hy
   by_cases hin : i = n
   ·subst hin
    simp [hl] at hy
    subst hy
    exact hx
   ·rw [List.getElem?_eq_none (by simp; omega)] at hy
    cases hy
section
variable {H : Type} {enc : TypeId × Value → H} {W : World} {spare : Nat → Bool} {held : Bool} {b : Nat}
theorem rows_of {α : Type} {t e : TypeId} {k : Nat} {row : α → List Value} (hu : Tryz.prog.underlying t = some (.slice e)) (hk : Tryz.prog.cellsOf e = k) (hk0 : 0 < k) (hrl : ∀ x, (row x).length = k)
  (hel : ∀ (fuel : Nat) (cs : List Value) (x : DataW H × List MemPlace), DataW.trod enc Tryz.prog W b spare held fuel e cs = some x → ∃ f, cs = row f) {fuel : Nat} {cs : List Value} {x : DataW H × List MemPlace} (h : DataW.trod enc Tryz.prog W b spare held fuel t cs = some x) :
  ∃ (A : Option Addr) (c : Nat) (l : List α), cs = [.slice A l.length c] ∧ RdS W A k (l.map row) ∧ l.length ≤ c := by
 rcases open_slice hu h with ⟨h0, _⟩ | ⟨a, len, cap, m, n, D, Pl, hcs, _, hle, hm, hmm, _, hel2⟩
 ·exact ⟨none, 0, [], h0, fun hn => by simp at hn, Nat.le_refl _⟩
 ·rw [hk] at hel2
  have hml : len ≤ m := by rw [hmm]; split <;> omega
  obtain ⟨l, hl, hp⟩ := pick_list (P := fun i (f : α) => ∀ j u, (row f)[j]? = some u → W.cell? (a.add (i * k + j)) = some u) len (fun i hi => by
   obtain ⟨cs', hc, ht⟩ := hel2 i (by omega)
   obtain ⟨f, rfl⟩ := hel _ _ _ ht
   obtain ⟨_, _, hat⟩ := World.cells?_some hc
   refine ⟨f, fun j u hu => ?_⟩
   have hj : j < k := by rw [← hrl f]; exact (List.getElem?_eq_some_iff.1 hu).1
   have := hat j hj
   rw [add_of_add] at this
   rw [this, hu])
  refine ⟨some a, cap, l, by rw [hl]; exact hcs, fun hn => ⟨a, rfl, ?_, fun i r hi => ?_⟩, by omega⟩
  ·simp only [List.length_map] at hn
   have h0 : l[0]? = some (l[0]'hn) := List.getElem?_eq_getElem hn
   have hr0 : (row l[0])[0]? = some ((row l[0])[0]'(by rw [hrl]; exact hk0)) := List.getElem?_eq_getElem _
   have := cell_lt (hp 0 _ h0 0 _ hr0)
   rw [block_of_add] at this
   exact this
  ·rw [List.getElem?_map] at hi
   cases hli : l[i]? with
   | none => rw [hli] at hi; cases hi
   | some f =>
    rw [hli] at hi
    cases hi
    exact ⟨hrl f, fun j u hu => hp i f hli j u hu⟩
theorem int_cell {fuel : Nat} {c : Value} {x : DataW H × List MemPlace} (h : DataW.trod enc Tryz.prog W b spare held fuel 3 [c] = some x) : ∃ z : Int, c = .int .i64 z := by
 obtain ⟨e, he, _, _⟩ := DataW.trod_int Tryz.underlying3 h
 cases he
 exact ⟨e, rfl⟩
theorem pair_cells {fuel : Nat} {cs : List Value} {x : DataW H × List MemPlace} (h : DataW.trod enc Tryz.prog W b spare held fuel 130 cs = some x) : ∃ f : Int × Int, cs = ptC f := by
 obtain ⟨y0, y1, n, _, hl, h0, h1⟩ := trod_struct2 Tryz.underlying130 h
 rw [show Tryz.prog.cellsOf 130 = 2 by kernel_rfl] at hl
 rw [show Tryz.prog.cellsOf 3 = 1 by kernel_rfl] at h0 h1
 match cs, hl with
 | [c0, c1], _ =>
  obtain ⟨z0, rfl⟩ := int_cell h0
  obtain ⟨z1, rfl⟩ := int_cell h1
  exact ⟨(z0, z1), rfl⟩
theorem frac_cells {fuel : Nat} {cs : List Value} {x : DataW H × List MemPlace} (h : DataW.trod enc Tryz.prog W b spare held fuel 52 cs = some x) : ∃ f : Int × Int, cs = ptC f := by
 obtain ⟨y0, y1, n, _, hl, h0, h1⟩ := trod_struct2 Tryz.underlying52 h
 rw [show Tryz.prog.cellsOf 52 = 2 by kernel_rfl] at hl
 rw [show Tryz.prog.cellsOf 3 = 1 by kernel_rfl] at h0 h1
 match cs, hl with
 | [c0, c1], _ =>
  obtain ⟨z0, rfl⟩ := int_cell h0
  obtain ⟨z1, rfl⟩ := int_cell h1
  exact ⟨(z0, z1), rfl⟩
theorem link_cells {fuel : Nat} {cs : List Value} {x : DataW H × List MemPlace} (h : DataW.trod enc Tryz.prog W b spare held fuel 132 cs = some x) : ∃ f : Int × Int × Int, cs = LiC f := by
 obtain ⟨y0, y1, n, _, hl, h0, h1⟩ := trod_struct2 Tryz.underlying132 h
 rw [show Tryz.prog.cellsOf 132 = 3 by kernel_rfl] at hl
 rw [show Tryz.prog.cellsOf 3 = 1 by kernel_rfl] at h0
 rw [show Tryz.prog.cellsOf 130 = 2 by kernel_rfl] at h1
 match cs, hl with
 | [c0, c1, c2], _ =>
  obtain ⟨z0, rfl⟩ := int_cell h0
  obtain ⟨⟨z1, z2⟩, e⟩ := pair_cells h1
  simp only [ptC, List.drop_succ_cons, List.drop_zero, List.take_succ_cons, List.take_zero, List.cons.injEq, and_true] at e
  obtain ⟨rfl, rfl⟩ := e
  exact ⟨(z0, z1, z2), rfl⟩
theorem feast_cells {fuel : Nat} {cs : List Value} {x : DataW H × List MemPlace} (h : DataW.trod enc Tryz.prog W b spare held fuel 137 cs = some x) : ∃ f : Feast, cs = f.row := by
 obtain ⟨y0, y1, y2, y3, n, _, hl, h0, h1, h2, h3⟩ := trod_struct4 Tryz.underlying137 h
 rw [show Tryz.prog.cellsOf 137 = 4 by kernel_rfl] at hl
 rw [show Tryz.prog.cellsOf 3 = 1 by kernel_rfl] at h1 h2 h3
 rw [show Tryz.prog.cellsOf 4 = 1 by kernel_rfl] at h0
 match cs, hl with
 | [c0, c1, c2, c3], _ =>
  obtain ⟨e0, he0, _⟩ := DataW.trod_bool Tryz.underlying4 h0
  obtain ⟨z1, rfl⟩ := int_cell h1
  obtain ⟨z2, rfl⟩ := int_cell h2
  obtain ⟨z3, rfl⟩ := int_cell h3
  simp only [List.drop_zero, List.take_succ_cons, List.take_zero, List.cons.injEq, and_true] at he0
  subst he0
  exact ⟨⟨e0, z1, z2, z3⟩, rfl⟩
theorem sl_fm {r : Reach} {b0 n c : Nat} {t e : TypeId} {A : Option Addr} (ht : Tryz.prog.underlying t = some (.slice e)) (h : Cell.okWide Tryz.prog W r b0 t (.slice A n c)) : Fm A n := by
 unfold Cell.okWide at h
 rw [ht] at h
 simp only at h
 unfold Cell.ok at h
 rw [ht] at h
 cases A with
 | none =>
  cases n with
  | zero => exact Or.inl ⟨rfl, rfl⟩
  | succ n => simp at h
 | some a =>
  obtain ⟨_, _, _, hs, _⟩ := h
  obtain ⟨bl, off, sp⟩ := a
  simp only at hs
  subst hs
  exact Or.inr ⟨bl, off, rfl⟩
theorem suite_open {r : Reach} {b0 : Nat} {v : Value} {d : DataW H} {p : List MemPlace} (hv : Value.okWide Tryz.prog W r b0 35 v) (h : DataW.Trod enc Tryz.prog W b spare held 35 v d p) :
  ∃ (A1 A2 A3 A4 A5 A6 : Option Addr) (n1 c1 n2 c2 n3 c3 n4 c4 n5 c5 n6 c6 : Nat) (lim wm ep mn md ma yr br hrs wg pc : Int) (rows : List (Int × Int × Int)) (hs : List Int) (tg : List (Int × Int)) (ho cy : List Int) (fe : List Feast), v = .agg #[.slice A1 n1 c1, .slice A2 n2 c2, .slice A3 n3 c3, .int .i64 lim, .int .i64 wm, .slice A4 n4 c4, .int .i64 ep, .slice A5 n5 c5, .int .i64 mn, .int .i64 md, .int .i64 ma, .slice A6 n6 c6, .int .i64 yr, .int .i64 br, .int .i64 hrs, .int .i64 wg, .int .i64 pc] ∧
   SuAny W A1 A2 A3 A4 A5 A6 n1 n2 n3 n4 n5 n6 rows hs tg ho cy fe ∧ (Fm A1 n1 ∧ Fm A2 n2 ∧ Fm A3 n3 ∧ Fm A4 n4 ∧ Fm A5 n5 ∧ Fm A6 n6) ∧ n1 ≤ c1 := by
 simp only [Value.okWide, Tryz.underlying35] at hv
 obtain ⟨cs, rfl, hsz, ts, hts, _, hall⟩ := hv
 rw [show Tryz.prog.cellTypes Tryz.prog.depth 35 = some [22, 23, 26, 3, 3, 23, 3, 23, 3, 3, 3, 33, 3, 3, 3, 3, 3] by kernel_rfl] at hts
 obtain rfl := Option.some.inj hts
 rw [show Tryz.prog.cellsOf 35 = 17 by kernel_rfl] at hsz
 obtain ⟨l⟩ := cs
 match l, hsz with
 | [x0, x1, x2, x3, x4, x5, x6, x7, x8, x9, x10, x11, x12, x13, x14, x15, x16], _ =>
  obtain ⟨fuel, hf⟩ := h
  obtain ⟨ys, n, _, _, _, hyl, hfl⟩ := DataW.trod_struct Tryz.underlying35 hf
  have g : ∀ (i : Nat), i < 12 → ∃ y, ys[i]? = some y := fun i hi => ⟨ys[i]'(by rw [hyl]; exact hi), List.getElem?_eq_getElem _⟩
  have h0 := hfl 0 _ rfl
  have h1 := hfl 1 _ rfl
  have h2 := hfl 2 _ rfl
  have h3 := hfl 3 _ rfl
  have h4 := hfl 4 _ rfl
  have h5 := hfl 5 _ rfl
  have h6 := hfl 6 _ rfl
  have h7 := hfl 7 _ rfl
  have h8 := hfl 8 _ rfl
  have h9 := hfl 9 _ rfl
  have h10 := hfl 10 _ rfl
  have h11 := hfl 11 _ rfl
  simp only [List.getElem_toArray, List.getElem_cons_zero, List.getElem_cons_succ] at h0 h1 h2 h3 h4 h5 h6 h7 h8 h9 h10 h11
  rw [show Tryz.prog.cellsOf 25 = 2 by kernel_rfl] at h0
  rw [show Tryz.prog.cellsOf 26 = 1 by kernel_rfl] at h1
  rw [show Tryz.prog.cellsOf 3 = 1 by kernel_rfl] at h2 h7 h8 h9 h10 h11
  rw [show Tryz.prog.cellsOf 28 = 2 by kernel_rfl] at h3
  rw [show Tryz.prog.cellsOf 30 = 2 by kernel_rfl] at h4
  rw [show Tryz.prog.cellsOf 32 = 3 by kernel_rfl] at h5
  rw [show Tryz.prog.cellsOf 33 = 1 by kernel_rfl] at h6
  obtain ⟨y0, e0⟩ := g 0 (by omega)
  obtain ⟨y1, e1⟩ := g 1 (by omega)
  obtain ⟨y2, e2⟩ := g 2 (by omega)
  obtain ⟨y3, e3⟩ := g 3 (by omega)
  obtain ⟨y4, e4⟩ := g 4 (by omega)
  obtain ⟨y5, e5⟩ := g 5 (by omega)
  obtain ⟨y6, e6⟩ := g 6 (by omega)
  obtain ⟨y7, e7⟩ := g 7 (by omega)
  obtain ⟨y8, e8⟩ := g 8 (by omega)
  obtain ⟨y9, e9⟩ := g 9 (by omega)
  obtain ⟨y10, e10⟩ := g 10 (by omega)
  obtain ⟨y11, e11⟩ := g 11 (by omega)
  rw [e0] at h0
  rw [e1] at h1
  rw [e2] at h2
  rw [e3] at h3
  rw [e4] at h4
  rw [e5] at h5
  rw [e6] at h6
  rw [e7] at h7
  rw [e8] at h8
  rw [e9] at h9
  rw [e10] at h10
  rw [e11] at h11
  obtain ⟨p0, p1, m0, _, _, q0, q1⟩ := trod_struct2 Tryz.underlying25 h0
  rw [show Tryz.prog.cellsOf 22 = 1 by kernel_rfl] at q0
  rw [show Tryz.prog.cellsOf 23 = 1 by kernel_rfl] at q1
  obtain ⟨p2, p3, m1, _, _, q2, q3⟩ := trod_struct2 Tryz.underlying28 h3
  rw [show Tryz.prog.cellsOf 3 = 1 by kernel_rfl] at q2
  rw [show Tryz.prog.cellsOf 23 = 1 by kernel_rfl] at q3
  obtain ⟨p4, p5, m2, _, _, q4, q5⟩ := trod_struct2 Tryz.underlying30 h4
  rw [show Tryz.prog.cellsOf 3 = 1 by kernel_rfl] at q4
  rw [show Tryz.prog.cellsOf 23 = 1 by kernel_rfl] at q5
  obtain ⟨p6, p7, p8, m3, _, _, q6, q7, q8⟩ := trod_struct3 Tryz.underlying32 h5
  rw [show Tryz.prog.cellsOf 3 = 1 by kernel_rfl] at q6 q7 q8
  obtain ⟨A1, c1, rows, f1, r1, hc1⟩ := rows_of (k := 3) (row := LiC) Tryz.underlying22 (by kernel_rfl) (by omega) (fun _ => rfl) (fun _ _ _ h => link_cells h) q0
  obtain ⟨A2, n2, c2, hs, f2, r2, _⟩ := rd_open q1
  obtain ⟨A3, c3, tg, f3, r3, _⟩ := rows_of (k := 2) (row := ptC) Tryz.underlying26 (by kernel_rfl) (by omega) (fun _ => rfl) (fun _ _ _ h => frac_cells h) h1
  obtain ⟨A4, n4, c4, ho, f4, r4, _⟩ := rd_open q3
  obtain ⟨A5, n5, c5, cy, f5, r5, _⟩ := rd_open q5
  obtain ⟨A6, c6, fe, f6, r6, _⟩ := rows_of (k := 4) (row := Feast.row) Tryz.underlying33 (by kernel_rfl) (by omega) (fun _ => rfl) (fun _ _ _ h => feast_cells h) h6
  obtain ⟨lim, g2⟩ := int_cell (c := x3) h2
  obtain ⟨wm, g3⟩ := int_cell (c := x4) q2
  obtain ⟨ep, g4⟩ := int_cell (c := x6) q4
  obtain ⟨mn, g5⟩ := int_cell (c := x8) q6
  obtain ⟨md, g6⟩ := int_cell (c := x9) q7
  obtain ⟨ma, g7⟩ := int_cell (c := x10) q8
  obtain ⟨yr, g8⟩ := int_cell (c := x12) h7
  obtain ⟨br, g9⟩ := int_cell (c := x13) h8
  obtain ⟨hrs, g10⟩ := int_cell (c := x14) h9
  obtain ⟨wg, g11⟩ := int_cell (c := x15) h10
  obtain ⟨pc, g12⟩ := int_cell (c := x16) h11
  replace f1 : x0 = .slice A1 rows.length c1 := by simpa [Value.cells] using f1
  replace f2 : x1 = .slice A2 n2 c2 := by simpa [Value.cells] using f2
  replace f3 : x2 = .slice A3 tg.length c3 := by simpa [Value.cells] using f3
  replace f4 : x5 = .slice A4 n4 c4 := by simpa [Value.cells] using f4
  replace f5 : x7 = .slice A5 n5 c5 := by simpa [Value.cells] using f5
  replace f6 : x11 = .slice A6 fe.length c6 := by simpa [Value.cells] using f6
  subst f1 f2 f3 f4 f5 f6 g2 g3 g4 g5 g6 g7 g8 g9 g10 g11 g12
  clear h0 h1 h2 h3 h4 h5 h6 h7 h8 h9 h10 h11 q0 q1 q2 q3 q4 q5 q6 q7 q8 hfl hf
  have o1 : Fm A1 rows.length := by obtain ⟨u, hu, ho⟩ := hall 0 _ rfl; cases hu; exact sl_fm Tryz.underlying22 ho
  have o2 : Fm A2 n2 := by obtain ⟨u, hu, ho⟩ := hall 1 _ rfl; cases hu; exact sl_fm Tryz.underlying23 ho
  have o3 : Fm A3 tg.length := by obtain ⟨u, hu, ho⟩ := hall 2 _ rfl; cases hu; exact sl_fm Tryz.underlying26 ho
  have o4 : Fm A4 n4 := by obtain ⟨u, hu, ho⟩ := hall 5 _ rfl; cases hu; exact sl_fm Tryz.underlying23 ho
  have o5 : Fm A5 n5 := by obtain ⟨u, hu, ho⟩ := hall 7 _ rfl; cases hu; exact sl_fm Tryz.underlying23 ho
  have o6 : Fm A6 fe.length := by obtain ⟨u, hu, ho⟩ := hall 11 _ rfl; cases hu; exact sl_fm Tryz.underlying33 ho
  exact ⟨A1, A2, A3, A4, A5, A6, rows.length, c1, n2, c2, tg.length, c3, n4, c4, n5, c5, fe.length, c6, lim, wm, ep, mn, md, ma, yr, br, hrs, wg, pc, rows, hs, tg, ho, cy, fe, rfl, ⟨r1, rfl, r2, r3, rfl, r4, r5, r6, rfl⟩, ⟨o1, o2, o3, o4, o5, o6⟩, hc1⟩
end
end Go.Proofs.YtdocgmafbacjcaaGreatDoor
