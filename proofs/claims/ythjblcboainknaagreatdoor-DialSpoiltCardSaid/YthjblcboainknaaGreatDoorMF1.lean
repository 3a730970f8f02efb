/- The frame of the laws: an input reads behind the call as it did; the listed table is the library's. The laws' arguments, opened: calendars, moons, dates, realms, facts. -/
import Derived.Test.YthjblcboainknaaGreatDoorMC7
import Derived.Test.YthjblcboainknaaGreatDoorRows
import Derived.ProofKit
import Derived.LaidMore
import Derived.OpenShut
import Derived.Carry
import Derived.Stop.Joined
import Derived.Test.YthjblcboainknaaGreatDoorMC3
import Derived.Deep.Slices
import Derived.Deep.Strs
import Derived.Lib.SmallJoins
section
namespace Go.Proofs.YthjblcboainknaaGreatDoor
open Go.ChangeShapes Go.WideShapes Go.ChangeAt Go.WideMaps Go.WideElems Go.RowKit

theorem own_none : ownKnob Tryz.prog.godebug = none := by kernel_rfl
theorem laid_out : laidOutB Tryz.prog = true := by kernel_rfl

theorem trodAll_stays {H : Type} {enc : TypeId × Value → H} {W W' : World} (hb : Below W.heap.size W W') (ts : List TypeId) : ∀ (vs : List Value) (ds : List (DataW H)) (ps : List MemPlace),
  (∀ t ∈ ts, Tryz.prog.readableRec t = true ∧ t < Tryz.prog.types.size) → (∀ p ∈ ps, p.block < W.heap.size) →
  DataW.TrodAll enc Tryz.prog W 0 (fun _ => true) true ts vs ds ps → DataW.TrodAll enc Tryz.prog W' 0 (fun b => decide (b < W.heap.size)) true ts vs ds ps := by
 induction ts with
 | nil =>
  intro vs ds ps _ _ h
  obtain ⟨rfl, rfl, rfl⟩ := trodAll_nil h
  exact trodAll_mk0
 | cons t ts ih =>
  intro vs ds ps hall hlt h
  obtain ⟨v, vs', d, ds', p, q, rfl, rfl, rfl, h0, hr⟩ := trodAll_cons h
  have ht := hall t (List.mem_cons_self ..)
  exact trodAll_cons_mk (Below.trod laid_out ht.1 ht.2 h0 hb (fun x hx => hlt x (List.mem_append_left _ hx)))
   (ih vs' ds' q (fun t' h' => hall t' (List.mem_cons_of_mem _ h')) (fun x hx => hlt x (List.mem_append_right _ hx)) hr)
noncomputable def tyOk (t : TypeId) : Bool := Tryz.prog.readableRec t && decide (t < Tryz.prog.types.size)
theorem tyOk_all {ts : List TypeId} (h : ts.all tyOk = true) : ∀ t ∈ ts, Tryz.prog.readableRec t = true ∧ t < Tryz.prog.types.size := fun t ht => by
 have := List.all_eq_true.1 h t ht
 unfold tyOk at this
 simp only [Bool.and_eq_true, decide_eq_true_eq] at this
 exact this

theorem law_post {H : Type} {enc : TypeId × Value → H} {f : Func} {s : ChangeSpec} (hpar : f.params.toList.all tyOk = true) (hrt : f.resultTypes = #[4]) (hvars : s.vars = [])
  {W W' : World} {args : Array Value} {ds gs : List (DataW H)} {before : List MemPlace} (hW : DataW.Whole enc Tryz.prog f.params.toList s.vars false W args.toList ds gs before)
  (hres : (s.fn H (ds ++ [])).results = [.lit (.bool true)]) (hargs : (s.fn H (ds ++ [])).args = ds) (hv : (s.fn H (ds ++ [])).vars = []) (hb : Below W.heap.size W W') :
  s.post enc Tryz.prog f false true false false W args (.bool true) W' := by
 have hlt := hW.lt
 have hW2 := hW
 obtain ⟨p, q, hA, hV, rfl, _, _⟩ := hW2
 have hq : gs = [] ∧ q = [] := by
  rw [hvars] at hV
  exact trodVars_none hV
 obtain ⟨rfl, rfl⟩ := hq
 refine ⟨ds, [], p ++ [], [], p, [], hW, ?_, ?_, ?_, hb.frame _, fun h => by cases h⟩
 ·rw [hres, hrt]
  exact trodAll_mk1 (shut_bool Tryz.underlying4 _)
 ·rw [hargs]
  exact trodAll_stays hb _ _ _ _ (tyOk_all hpar) (fun x hx => hlt x (by simpa using hx)) hA
 ·rw [hv, hvars]
  exact rfl

/-- the variables that the rows list -/
def laidL : List (String × DataW Unit) := [("math/bits.deBruijn32tab", Rows.laid_math_bits_deBruijn32tab), ("math/bits.deBruijn64tab", Rows.laid_math_bits_deBruijn64tab), ("internal/strconv.uint64pow10", Rows.laid_internal_strconv_uint64pow10)]
theorem door_met (os : Os) (args : Array Value) : laidMetH Tryz.prog laidL ((World.doorLaid Tryz.prog 24 os).forCall (fun _ _ => 0) ⟨#[], args, []⟩).memory :=
 laidMetH_of_parts3 (fuel := 8) (laidMet_of_run' 8 (by kernel_rfl) (by kernel_rfl)) (by kernel_rfl) (by kernel_rfl)
theorem gPow : Tryz.prog.globalNamed "internal/strconv.uint64pow10" = some 0 := by kernel_rfl
theorem tPow : (Tryz.prog.globals[0]?).map (·.type) = some 181 := by kernel_rfl
theorem tab_of_laid {W : World} (h : laidMetH Tryz.prog laidL W) : TabP W := by
 rw [MakeChecks.laidMetH_plain _ _ _ (by kernel_rfl)] at h
 obtain ⟨ps, ⟨g0, t0, cs0, f0, p0, q0, hg0, ht0, hv0, hd0, ⟨g1, t1, cs1, f1, p1, q1, hg1, ht1, hv1, hd1, ⟨g2, t2, cs2, f2, p2, q2, hg2, ht2, hv2, hd2, _, _⟩, _⟩, _⟩, _, _⟩ := h
 obtain rfl := Option.some.inj (gPow.symm.trans hg2)
 obtain rfl := Option.some.inj (tPow.symm.trans ht2)
 have hc := Lib.cells_of_tab (zs := Lib.pow10Tab) (k := .u64) Tryz.underlying181 Tryz.underlying169 (by kernel_rfl) (by kernel_rfl) hd2
 unfold TabP Lib.TabIs
 rw [hv2]
 rw [← hc]
end Go.Proofs.YthjblcboainknaaGreatDoor
end

section
namespace Go.Proofs.YthjblcboainknaaGreatDoor
open Go.ChangeShapes Go.WideShapes Go.ChangeAt Go.WideMaps Go.WideElems Go.RowKit Go.Joins Go.Deep
set_option maxRecDepth 100000

theorem cell_lt {w : World} {p : Addr} {v : Value} (h : w.cell? p = some v) : p.block < w.heap.size := by
 rcases Nat.lt_or_ge p.block w.heap.size with hl | hg
 ·exact hl
 ·unfold World.cell? at h
  rw [Array.getElem?_eq_none hg] at h
  cases h

section
variable {H : Type} {enc : TypeId × Value → H} {W : World} {spare : Nat → Bool} {held : Bool} {b : Nat}

theorem rd_open {fuel : Nat} {cs : List Value} {x : DataW H × List MemPlace} (h : DataW.trod enc Tryz.prog W b spare held fuel 22 cs = some x) :
  ∃ A n c xs, cs = [.slice A n c] ∧ Rd W A n xs ∧ n ≤ 9223372036854775807 := by
 rcases open_ints Tryz.underlying22 Tryz.underlying3 (by kernel_rfl) h with ⟨rfl, _⟩ | ⟨a, len, cap, zs, rfl, _, hl, hm, hz, _, hc, _⟩
 ·exact ⟨none, 0, 0, [], rfl, Rd.nil_ _ _, by omega⟩
 ·have hle : len ≤ zs.length := by rw [hz]; split <;> omega
  refine ⟨some a, len, cap, zs.take len, rfl, ⟨by rw [List.length_take]; omega, fun hn => ⟨a, rfl, ?_, fun j hj => ?_⟩⟩, by unfold maxLen at hm; omega⟩
  ·have := cell_lt (hc 0 (by omega))
   rw [block_of_add] at this
   exact this
  ·rw [hc j (by omega), List.getElem?_take, if_pos hj]
   simp [List.getD]

theorem cal_open {r : Reach} {b0 : Nat} {v : Value} {d : DataW H} {p : List MemPlace} (hv : Value.okWide Tryz.prog W r b0 24 v) (h : DataW.Trod enc Tryz.prog W b spare held 24 v d p) :
  ∃ e A n c xs, v = .agg #[.int .i64 e, .slice A n c] ∧ Rd W A n xs ∧ n ≤ 9223372036854775807 := by
 obtain ⟨v0, v1, y0, y1, n, rfl, _, _, h0, h1⟩ := open_agg2 Tryz.underlying24 (by kernel_rfl) (by kernel_rfl) hv h
 obtain ⟨e, he, _, _⟩ := DataW.trod_int Tryz.underlying3 h0
 obtain ⟨A, n', c, xs, hc, hr, hn⟩ := rd_open h1
 cases he
 cases hc
 exact ⟨e, A, n', c, xs, rfl, hr, hn⟩

theorem moon_open {r : Reach} {b0 : Nat} {v : Value} {d : DataW H} {p : List MemPlace} (hv : Value.okWide Tryz.prog W r b0 26 v) (h : DataW.Trod enc Tryz.prog W b spare held 26 v d p) :
  ∃ x y z, v = .agg #[.int .i64 x, .int .i64 y, .int .i64 z] := by
 obtain ⟨v0, v1, v2, y0, y1, y2, n, rfl, _, _, h0, h1, h2⟩ := open_agg3 Tryz.underlying26 (by kernel_rfl) (by kernel_rfl) hv h
 obtain ⟨e0, he0, _, _⟩ := DataW.trod_int Tryz.underlying3 h0
 obtain ⟨e1, he1, _, _⟩ := DataW.trod_int Tryz.underlying3 h1
 obtain ⟨e2, he2, _, _⟩ := DataW.trod_int Tryz.underlying3 h2
 cases he0; cases he1; cases he2
 exact ⟨e0, e1, e2, rfl⟩

theorem date_open {r : Reach} {b0 : Nat} {v : Value} {d : DataW H} {p : List MemPlace} (hv : Value.okWide Tryz.prog W r b0 50 v) (h : DataW.Trod enc Tryz.prog W b spare held 50 v d p) :
  ∃ x y z, v = .agg #[.int .i64 x, .int .i64 y, .int .i64 z] := by
 obtain ⟨v0, v1, v2, y0, y1, y2, n, rfl, _, _, h0, h1, h2⟩ := open_agg3 Tryz.underlying50 (by kernel_rfl) (by kernel_rfl) hv h
 obtain ⟨e0, he0, _, _⟩ := DataW.trod_int Tryz.underlying3 h0
 obtain ⟨e1, he1, _, _⟩ := DataW.trod_int Tryz.underlying3 h1
 obtain ⟨e2, he2, _, _⟩ := DataW.trod_int Tryz.underlying3 h2
 cases he0; cases he1; cases he2
 exact ⟨e0, e1, e2, rfl⟩

theorem fact_open {r : Reach} {b0 : Nat} {v : Value} {d : DataW H} {p : List MemPlace} (hv : Value.okWide Tryz.prog W r b0 69 v) (h : DataW.Trod enc Tryz.prog W b spare held 69 v d p) :
  ∃ x y z u, v = .agg #[.int .i64 x, .int .i64 y, .int .i64 z, .int .i64 u] := by
 obtain ⟨v0, v1, v2, v3, y0, y1, y2, y3, n, rfl, _, _, h0, h1, h2, h3⟩ := open_agg4 Tryz.underlying69 (by kernel_rfl) (by kernel_rfl) hv h
 obtain ⟨e0, he0, _, _⟩ := DataW.trod_int Tryz.underlying67 h0
 obtain ⟨e1, he1, _, _⟩ := DataW.trod_int Tryz.underlying3 h1
 obtain ⟨e2, he2, _, _⟩ := DataW.trod_int Tryz.underlying3 h2
 obtain ⟨e3, he3, _, _⟩ := DataW.trod_int Tryz.underlying3 h3
 cases he0; cases he1; cases he2; cases he3
 exact ⟨e0, e1, e2, e3, rfl⟩

theorem cal_cells {fuel : Nat} {cs : List Value} {x : DataW H × List MemPlace} (h : DataW.trod enc Tryz.prog W b spare held fuel 24 cs = some x) :
  ∃ e A n c xs, cs = [.int .i64 e, .slice A n c] ∧ Rd W A n xs ∧ n ≤ 9223372036854775807 := by
 obtain ⟨y0, y1, n, _, hl, h0, h1⟩ := trod_struct2 Tryz.underlying24 h
 rw [show Tryz.prog.cellsOf 24 = 2 by kernel_rfl] at hl
 rw [show Tryz.prog.cellsOf 3 = 1 by kernel_rfl] at h0
 rw [show Tryz.prog.cellsOf 22 = 1 by kernel_rfl] at h1
 match cs, hl with
 | [c0, c1], _ =>
  obtain ⟨e, he, _, _⟩ := DataW.trod_int Tryz.underlying3 h0
  obtain ⟨A, n', c, xs, hc, hr, hn⟩ := rd_open h1
  simp only [List.drop_zero, List.take_succ_cons, List.take_zero, List.drop_succ_cons, List.cons.injEq, and_true] at he hc
  subst he; subst hc
  exact ⟨e, A, n', c, xs, rfl, hr, hn⟩

theorem realm_open {r : Reach} {b0 : Nat} {v : Value} {d : DataW H} {p : List MemPlace} (hv : Value.okWide Tryz.prog W r b0 55 v) (h : DataW.Trod enc Tryz.prog W b spare held 55 v d p) :
  ∃ e1 A1 n1 k1 xs1 e2 A2 n2 k2 xs2 l, v = .agg #[.int .i64 e1, .slice A1 n1 k1, .int .i64 e2, .slice A2 n2 k2, .int .i64 l] ∧ (Rd W A1 n1 xs1 ∧ n1 ≤ 9223372036854775807) ∧ Rd W A2 n2 xs2 ∧ n2 ≤ 9223372036854775807 := by
 obtain ⟨cs, rfl, hsz⟩ := okWide_struct Tryz.underlying55 hv
 rw [show Tryz.prog.cellsOf 55 = 5 by kernel_rfl] at hsz
 obtain ⟨l⟩ := cs
 match l, hsz with
 | [c0, c1, c2, c3, c4], _ =>
  obtain ⟨fuel, hf⟩ := h
  obtain ⟨y0, y1, y2, n, _, _, h0, h1, h2⟩ := trod_struct3 Tryz.underlying55 hf
  rw [show Tryz.prog.cellsOf 3 = 1 by kernel_rfl] at h2
  rw [show Tryz.prog.cellsOf 24 = 2 by kernel_rfl] at h0 h1
  obtain ⟨e1, A1, n1, k1, xs1, e, hr1, hn1⟩ := cal_cells h0
  obtain ⟨e2, A2, n2, k2, xs2, e', hr2, hn2⟩ := cal_cells h1
  obtain ⟨l, hl, _, _⟩ := DataW.trod_int Tryz.underlying3 h2
  simp only [Value.cells, List.drop_zero, List.take_succ_cons, List.take_zero, List.drop_succ_cons, List.cons.injEq, and_true] at e e' hl
  obtain ⟨rfl, rfl⟩ := e
  obtain ⟨rfl, rfl⟩ := e'
  subst hl
  exact ⟨e1, A1, n1, k1, xs1, e2, A2, n2, k2, xs2, l, rfl, ⟨hr1, hn1⟩, hr2, hn2⟩

theorem fact_cells {fuel : Nat} {cs : List Value} {x : DataW H × List MemPlace} (h : DataW.trod enc Tryz.prog W b spare held fuel 69 cs = some x) : ∃ f : Fact, cs = f.row := by
 obtain ⟨y0, y1, y2, y3, n, _, hl, h0, h1, h2, h3⟩ := trod_struct4 Tryz.underlying69 h
 rw [show Tryz.prog.cellsOf 69 = 4 by kernel_rfl] at hl
 rw [show Tryz.prog.cellsOf 3 = 1 by kernel_rfl] at h1 h2 h3
 rw [show Tryz.prog.cellsOf 67 = 1 by kernel_rfl] at h0
 match cs, hl with
 | [c0, c1, c2, c3], _ =>
  obtain ⟨e0, he0, _, _⟩ := DataW.trod_int Tryz.underlying67 h0
  obtain ⟨e1, he1, _, _⟩ := DataW.trod_int Tryz.underlying3 h1
  obtain ⟨e2, he2, _, _⟩ := DataW.trod_int Tryz.underlying3 h2
  obtain ⟨e3, he3, _, _⟩ := DataW.trod_int Tryz.underlying3 h3
  simp only [List.drop_zero, List.take_succ_cons, List.take_zero, List.drop_succ_cons, List.cons.injEq, and_true] at he0 he1 he2 he3
  subst he0; subst he1; subst he2; subst he3
  exact ⟨⟨e0, e1, e2, e3⟩, rfl⟩

theorem pick_list {α : Type} {P : Nat → α → Prop} : ∀ n, (∀ i, i < n → ∃ x, P i x) → ∃ l : List α, l.length = n ∧ ∀ i x, l[i]? = some x → P i x
 | 0, _ => ⟨[], rfl, fun i x h => by simp at h⟩
 | n + 1, h => by
  obtain ⟨l, hl, hp⟩ := pick_list n (fun i hi => h i (by omega))
  obtain ⟨x, hx⟩ := h n (by omega)
  refine ⟨l ++ [x], by simp [hl], fun i y hy => ?_⟩
  by_cases hi : i < n
  ·rw [List.getElem?_append_left (by omega)] at hy
   exact hp i y hy
  ·rw [List.getElem?_append_right (by omega)] at hy
   by_cases hin : i = n
   ·subst hin
    simp [hl] at hy
    subst hy
    exact hx
   ·rw [List.getElem?_eq_none (by simp; omega)] at hy
    cases hy

theorem facts_open {r : Reach} {b0 : Nat} {v : Value} {d : DataW H} {p : List MemPlace} (hv : Value.okWide Tryz.prog W r b0 27 v) (h : DataW.Trod enc Tryz.prog W b spare held 27 v d p) :
  ∃ (A : Option Addr) (l : List Fact) (c : Nat), v = .slice A l.length c ∧ RdS W A 4 (l.map Fact.row) ∧ l.length ≤ 9223372036854775807 := by
 obtain ⟨fuel, hf⟩ := h
 have hcell : v.cells.toList = [v] := by
  simp only [Value.okWide, Tryz.underlying27] at hv
  cases v <;> simp [Cell.okWide, Cell.ok] at hv <;> rfl
 rw [hcell] at hf
 rcases open_slice Tryz.underlying27 hf with ⟨h0, _⟩ | ⟨a, len, cap, m, n, D, Pl, hcs, _, hle, hm, hmm, _, hel⟩
 ·cases h0
  exact ⟨none, [], 0, rfl, fun hn => by simp at hn, by simp⟩
 ·cases hcs
  rw [show Tryz.prog.cellsOf 69 = 4 by kernel_rfl] at hel
  have hml : len ≤ m := by rw [hmm]; split <;> omega
  obtain ⟨l, hl, hp⟩ := pick_list (P := fun i (f : Fact) => ∀ j u, f.row[j]? = some u → W.cell? (a.add (i * 4 + j)) = some u) len (fun i hi => by
   obtain ⟨cs', hc, ht⟩ := hel i (by omega)
   obtain ⟨f, rfl⟩ := fact_cells ht
   obtain ⟨_, _, hat⟩ := World.cells?_some hc
   refine ⟨f, fun j u hu => ?_⟩
   have hj : j < 4 := (List.getElem?_eq_some_iff.1 hu).1
   have := hat j hj
   rw [add_of_add] at this
   rw [this, hu])
  refine ⟨some a, l, cap, by rw [hl], fun hn => ⟨a, rfl, ?_, fun i r hi => ?_⟩, by unfold maxLen at hm; omega⟩
  ·simp only [List.length_map] at hn
   have h0 : l[0]? = some (l[0]'hn) := List.getElem?_eq_getElem hn
   have := cell_lt (hp 0 _ h0 0 _ rfl)
   rw [block_of_add] at this
   exact this
  ·rw [List.getElem?_map] at hi
   cases hli : l[i]? with
   | none => rw [hli] at hi; cases hi
   | some f =>
    rw [hli] at hi
    cases hi
    exact ⟨rfl, fun j u hu => hp i f hli j u hu⟩
end
end Go.Proofs.YthjblcboainknaaGreatDoor
end
