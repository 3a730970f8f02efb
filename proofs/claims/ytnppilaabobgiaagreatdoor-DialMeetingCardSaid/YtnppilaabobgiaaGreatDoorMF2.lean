/- The laws' arguments, opened: feasts. -/
import Derived.Test.YtnppilaabobgiaaGreatDoorMF1
import Derived.Test.YtnppilaabobgiaaGreatDoorMB6
import Derived.ChangeArms
namespace Go.Proofs.YtnppilaabobgiaaGreatDoor
open Go.ChangeShapes Go.WideShapes Go.ChangeAt Go.WideMaps Go.WideElems Go.RowKit Go.Joins Go.Deep
set_option maxRecDepth 100000

section
variable {H : Type} {enc : TypeId × Value → H} {W : World} {spare : Nat → Bool} {held : Bool} {b : Nat}
theorem feast_open {r : Reach} {b0 : Nat} {v : Value} {d : DataW H} {p : List MemPlace} (hv : Value.okWide Tryz.prog W r b0 76 v) (h : DataW.Trod enc Tryz.prog W b spare held 76 v d p) :
    ∃ (x : Bool) (y z u : Int), v = .agg #[.bool x, .int .i64 y, .int .i64 z, .int .i64 u] := by
  obtain ⟨v0, v1, v2, v3, y0, y1, y2, y3, n, rfl, _, _, h0, h1, h2, h3⟩ := open_agg4 Tryz.underlying76 (by kernel_rfl) (by kernel_rfl) hv h
  obtain ⟨e0, he0, _⟩ := DataW.trod_bool Tryz.underlying4 h0
  obtain ⟨e1, he1, _, _⟩ := DataW.trod_int Tryz.underlying3 h1
  obtain ⟨e2, he2, _, _⟩ := DataW.trod_int Tryz.underlying3 h2
  obtain ⟨e3, he3, _, _⟩ := DataW.trod_int Tryz.underlying3 h3
  cases he0; cases he1; cases he2; cases he3
  exact ⟨e0, e1, e2, e3, rfl⟩

theorem feast_cells {fuel : Nat} {cs : List Value} {x : DataW H × List MemPlace} (h : DataW.trod enc Tryz.prog W b spare held fuel 76 cs = some x) : ∃ f : Feast, cs = f.row := by
  obtain ⟨y0, y1, y2, y3, n, _, hl, h0, h1, h2, h3⟩ := trod_struct4 Tryz.underlying76 h
  rw [show Tryz.prog.cellsOf 76 = 4 by kernel_rfl] at hl
  rw [show Tryz.prog.cellsOf 3 = 1 by kernel_rfl] at h1 h2 h3
  rw [show Tryz.prog.cellsOf 4 = 1 by kernel_rfl] at h0
  match cs, hl with
  | [c0, c1, c2, c3], _ =>
    obtain ⟨e0, he0, _⟩ := DataW.trod_bool Tryz.underlying4 h0
    obtain ⟨e1, he1, _, _⟩ := DataW.trod_int Tryz.underlying3 h1
    obtain ⟨e2, he2, _, _⟩ := DataW.trod_int Tryz.underlying3 h2
    obtain ⟨e3, he3, _, _⟩ := DataW.trod_int Tryz.underlying3 h3
    simp only [List.drop_zero, List.take_succ_cons, List.take_zero, List.drop_succ_cons, List.cons.injEq, and_true] at he0 he1 he2 he3
    subst he0; subst he1; subst he2; subst he3
    exact ⟨⟨e0, e1, e2, e3⟩, rfl⟩

theorem feasts_open {r : Reach} {b0 : Nat} {v : Value} {d : DataW H} {p : List MemPlace} (hv : Value.okWide Tryz.prog W r b0 64 v) (h : DataW.Trod enc Tryz.prog W b spare held 64 v d p) :
    ∃ (A : Option Addr) (l : List Feast) (c : Nat), v = .slice A l.length c ∧ RdS W A 4 (l.map Feast.row) ∧ l.length ≤ 9223372036854775807 := by
  obtain ⟨fuel, hf⟩ := h
  have hcell : v.cells.toList = [v] := by
    simp only [Value.okWide, Tryz.underlying64] at hv
    cases v <;> simp [Cell.okWide, Cell.ok] at hv <;> rfl
  rw [hcell] at hf
  rcases open_slice Tryz.underlying64 hf with ⟨h0, _⟩ | ⟨a, len, cap, m, n, D, Pl, hcs, _, hle, hm, hmm, _, hel⟩
  · cases h0
    exact ⟨none, [], 0, rfl, fun hn => by simp at hn, by simp⟩
  · cases hcs
    rw [show Tryz.prog.cellsOf 76 = 4 by kernel_rfl] at hel
    have hml : len ≤ m := by rw [hmm]; split <;> omega
    obtain ⟨l, hl, hp⟩ := pick_list (P := fun i (f : Feast) => ∀ j u, f.row[j]? = some u → W.cell? (a.add (i * 4 + j)) = some u) len (fun i hi => by
      obtain ⟨cs', hc, ht⟩ := hel i (by omega)
      obtain ⟨f, rfl⟩ := feast_cells ht
      obtain ⟨_, _, hat⟩ := World.cells?_some hc
      refine ⟨f, fun j u hu => ?_⟩
      have hj : j < 4 := (List.getElem?_eq_some_iff.1 hu).1
      have := hat j hj
      rw [add_of_add] at this
      rw [this, hu])
    refine ⟨some a, l, cap, by rw [hl], fun hn => ⟨a, rfl, ?_, fun i r hi => ?_⟩, by unfold maxLen at hm; omega⟩
    · simp only [List.length_map] at hn
      have h0 : l[0]? = some (l[0]'hn) := List.getElem?_eq_getElem hn
      have := cell_lt (hp 0 _ h0 0 _ rfl)
      rw [block_of_add] at this
      exact this
    · rw [List.getElem?_map] at hi
      cases hli : l[i]? with
      | none => rw [hli] at hi; cases hi
      | some f =>
        rw [hli] at hi
        cases hi
        exact ⟨rfl, fun j u hu => hp i f hli j u hu⟩
end
end Go.Proofs.YtnppilaabobgiaaGreatDoor
