/- The laws' arguments, opened: a note, a fraction, numbers, a rule. -/
import Derived.Test.YtfgghicdkcjdgaaGreatDoorMG21
namespace Go.Proofs.YtfgghicdkcjdgaaGreatDoor
open Go.ChangeShapes Go.WideShapes Go.ChangeAt Go.WideMaps Go.WideElems Go.RowKit Go.Joins Go.Deep
set_option maxRecDepth 100000

section
variable {H : Type} {enc : TypeId × Value → H} {W : World} {spare : Nat → Bool} {held : Bool} {b : Nat}
theorem note_open {r : Reach} {b0 : Nat} {v : Value} {d : DataW H} {p : List MemPlace} (hv : Value.okWide Tryz.prog W r b0 70 v) (h : DataW.Trod enc Tryz.prog W b spare held 70 v d p) :
  ∃ f : Note, v = .agg f.cells.toArray := by
 obtain ⟨cs, rfl, hsz⟩ := okWide_struct Tryz.underlying70 hv
 obtain ⟨l⟩ := cs
 obtain ⟨fuel, hf⟩ := h
 obtain ⟨f, e⟩ := note_cells hf
 exact ⟨f, by rw [← show l = f.cells from e]⟩
theorem frac_open {r : Reach} {b0 : Nat} {v : Value} {d : DataW H} {p : List MemPlace} (hv : Value.okWide Tryz.prog W r b0 40 v) (h : DataW.Trod enc Tryz.prog W b spare held 40 v d p) :
  ∃ x y, v = .agg #[.int .i64 x, .int .i64 y] := by
 obtain ⟨cs, rfl, hsz⟩ := okWide_struct Tryz.underlying40 hv
 obtain ⟨l⟩ := cs
 obtain ⟨fuel, hf⟩ := h
 obtain ⟨f, e⟩ := two_api.TrainFraction hf
 exact ⟨f.lo, f.hi, by rw [show l = f.cells from e]; rfl⟩
theorem ints_open {r : Reach} {b0 : Nat} {v : Value} {d : DataW H} {p : List MemPlace} (hv : Value.okWide Tryz.prog W r b0 34 v) (h : DataW.Trod enc Tryz.prog W b spare held 34 v d p) :
  ∃ (A : Option Addr) (n c : Nat) (xs : List Int), v = .slice A n c ∧ Rd W A n xs ∧ n ≤ 9223372036854775807 := by
 obtain ⟨fuel, hf⟩ := h
 have hcell : v.cells.toList = [v] := by
  simp only [Value.okWide, Tryz.underlying34] at hv
  cases v <;> simp [Cell.okWide, Cell.ok] at hv <;> rfl
 rw [hcell] at hf
 obtain ⟨A, n, c, xs, hc, hr, hn⟩ := rd_open hf
 cases hc
 exact ⟨A, n, c, xs, rfl, hr, hn⟩
end
end Go.Proofs.YtfgghicdkcjdgaaGreatDoor
