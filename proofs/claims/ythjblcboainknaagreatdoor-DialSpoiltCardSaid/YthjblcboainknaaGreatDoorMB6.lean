/- Walks: feasts as defined. Slices of structs that read as rows; the search of a slice by a function; areFeasts. Walk: the days of feasts in a year. Walks: Feasts, isRange. Walk: Meet's 'twice'. Walk: Meet (begun). Walk: Meet's errors. -/
import Derived.Test.YthjblcboainknaaGreatDoorMB5
import Derived.Outline
import Derived.Deep.LoopGhost
section
namespace Go.Proofs.YthjblcboainknaaGreatDoor
open Go.RowKit Dl

structure Feast where
 mv : Bool
 m : Int
 d : Int
 a : Int
def feastB (f : Feast) : Bool := if f.mv = true then (f.m == 0 && f.d == 0 && inB f.a (-60) 60) else (f.a == 0 && inB f.m 1 12 && inB f.d 1 31)

end Go.Proofs.YthjblcboainknaaGreatDoor
end

section
namespace Go.Proofs.YthjblcboainknaaGreatDoor
open Go.RowKit Dl

/-- the slice value that begins at A reads as the rows, each of k cells -/
def RdS (w : World) (A : Option Addr) (k : Nat) (rows : List (List Value)) : Prop :=
 0 < rows.length → ∃ ad, A = some ad ∧ ad.block < w.heap.size ∧ ∀ i r, rows[i]? = some r → r.length = k ∧ ∀ j v, r[j]? = some v → w.cell? (ad.add (i * k + j)) = some v
theorem RdS.keep {w w' : World} {A : Option Addr} {k : Nat} {rows : List (List Value)} (h : RdS w A k rows) (hb : Below w.heap.size w w') : RdS w' A k rows := fun hn => by
 obtain ⟨ad, e, hlt, hc⟩ := h hn
 exact ⟨ad, e, Nat.lt_of_lt_of_le hlt hb.size, fun i r hr => ⟨(hc i r hr).1, fun j v hv => (hb.cell (by rw [block_of_add]; exact hlt)).trans ((hc i r hr).2 j v hv)⟩⟩
theorem RdS.at_ {w : World} {A : Option Addr} {k : Nat} {rows : List (List Value)} (h : RdS w A k rows) {i : Nat} {r : List Value} (hi : rows[i]? = some r) :
  ∃ ad, A = some ad ∧ ad.block < w.heap.size ∧ r.length = k ∧ ∀ j v, r[j]? = some v → w.cell? (ad.add (i * k + j)) = some v := by
 have hl : i < rows.length := (List.getElem?_eq_some_iff.1 hi).1
 obtain ⟨ad, e, hlt, hc⟩ := h (by omega)
 exact ⟨ad, e, hlt, (hc i r hi).1, (hc i r hi).2⟩

def Feast.row (f : Feast) : List Value := [.bool f.mv, .int .i64 f.m, .int .i64 f.d, .int .i64 f.a]
def feastsB (l : List Feast) : Bool := decide (l.length ≤ 6) && l.all feastB

theorem all_step {α : Type} {p : α → Bool} {l : List α} {k : Nat} (h : k < l.length) (ha : (l.take k).all p = true) (hf : p l[k] = true) : (l.take (k + 1)).all p = true := by
 rw [List.take_succ_eq_append_getElem h, List.all_append, ha]; simp [hf]
theorem all_no {α : Type} {p : α → Bool} {l : List α} {k : Nat} (h : k < l.length) (hf : p l[k] = false) : l.all p = false := by
 rw [List.all_eq_false]; exact ⟨l[k], List.getElem_mem h, by simp [hf]⟩

end Go.Proofs.YthjblcboainknaaGreatDoor
end

section
namespace Go.Proofs.YthjblcboainknaaGreatDoor
open Go.RowKit Dl

def feastDay (e : Int) (cs : List Int) (num den add y : Int) (f : Feast) : Int :=
 if f.mv = true then easterDay e cs num den add y + f.a else if realB cs y f.m f.d = true then dayOf e cs ⟨y, f.m, f.d⟩ else -1

theorem grown_own {a b c : World} {r s : Option Nat} (h : a.grownBy b r) (k : b.grownBy c s) (hs : ∀ i, s = some i → a.heap.size ≤ i) : a.grownBy c r :=
 ⟨k.os.trans h.os, k.tape.trans h.tape, k.output.trans h.output, Nat.le_trans h.size k.size, fun i hi hne => (k.block i (Nat.lt_of_lt_of_le hi h.size) (by intro e; have := hs i e.symm; omega)).trans (h.block i hi hne)⟩
theorem EMap.far {w w' : World} {M : Nat} {f : Int → Int} {s : Option Nat} (h : EMap w M f) (k : w.grownBy w' s) (hs : some M ≠ s) : EMap w' M f := by
 obtain ⟨es, clock, hb, hx⟩ := h
 exact ⟨es, clock, (k.block M (heap_lt hb) hs).trans hb, hx⟩
theorem RdS.farM {w w' : World} {A : Option Addr} {k M : Nat} {rows : List (List Value)} {f : Int → Int} (hk : 0 < k) (h : RdS w A k rows) (hE : EMap w M f) (hg : w.grownBy w' (some M)) : RdS w' A k rows := fun hn => by
 obtain ⟨ad, e, hlt, hc⟩ := h hn
 have hne : ad.block ≠ M := by
  obtain ⟨es, clock, hm, _⟩ := hE
  intro e'
  have h0 := hc 0 rows[0] (by simp [hn])
  have h1 := h0.2 0 rows[0][0] (by rw [List.getElem?_eq_getElem])
  unfold World.cell? at h1
  rw [block_of_add, e', hm] at h1
  cases h1
 exact ⟨ad, e, Nat.lt_of_lt_of_le hlt hg.size, fun i r hr => ⟨(hc i r hr).1, fun j v hv => (World.cell?_of_block (hg.block _ (by rw [block_of_add]; exact hlt) (by rw [block_of_add]; intro e'; cases e'; exact hne rfl))).trans ((hc i r hr).2 j v hv)⟩⟩

theorem day_of_21 {e y : Int} {cs : List Int} (he : 0 ≤ e ∧ e ≤ 1000) (hy : 0 ≤ y ∧ y ≤ 4000) : -10000000 ≤ dayOf e cs ⟨y, 3, 21⟩ ∧ dayOf e cs ⟨y, 3, 21⟩ ≤ 10000000 := by
 have a := cum_bounds (leapB cs y) 3 (by decide) (by decide)
 have b := firstDay_bounds e cs y hy.1
 have hc : dayOf e cs ⟨y, 3, 21⟩ = firstDay e cs y + cum (leapB cs y) 3 + 21 - 1 := rfl
 omega
theorem owns_far {w w' : World} {base M : Nat} {v : Value} {xs : List Int} (h : Own w base v xs) (k : w.grownBy w' (some M)) (hM : M < base) : Own w' base v xs :=
 World.ownsRow.kept h k (.inr (by intro e; have := own_ge h M e; omega))

theorem Own.cap {w : World} {base : Nat} {A : Option Addr} {n c : Nat} {xs : List Int} (h : Own w base (.slice A n c) xs) : n ≤ c := by
 rcases h.2 with ⟨h0, _⟩ | ⟨g, cap, cur, hv, _, _, hle, _⟩
 ·injection h0 with _ h1 h2
  omega
 ·injection hv with _ h1 h2
  omega

end Go.Proofs.YthjblcboainknaaGreatDoor
end

section
namespace Go.Proofs.YthjblcboainknaaGreatDoor
open Go.RowKit Dl

def rangeB (a b : Int) : Bool := inB a 0 4000 && inB b 0 4000 && inB (b - a) 0 400
theorem isRange_is (a b : Int) (w : World) (v : Bool) (hv : rangeB a b = v) : Calls Tryz.prog 68 #[.int .i64 a, .int .i64 b] w fun e' w' => e' = .returned (.bool v) ∧ w' = w := by
 subst hv
 unfold rangeB
 cases ha : inB a 0 4000
 ·go_enter Tryz.func68, Tryz.ntmps68
  go_wp2_with fail
  refine (isYear_is _ _ _ ha).mono ?_
  rintro e' w' ⟨rfl, rfl⟩
  go_wp2_with fail
  go_ret
  exact ⟨rfl, rfl⟩
 ·cases hb : inB b 0 4000
  ·go_enter Tryz.func68, Tryz.ntmps68
   go_wp2_with fail
   refine (isYear_is _ _ _ ha).mono ?_
   rintro e' w' ⟨rfl, rfl⟩
   go_wp2_with fail
   refine (isYear_is _ _ _ hb).mono ?_
   rintro e' w' ⟨rfl, rfl⟩
   go_wp2_with fail
   go_ret
   exact ⟨rfl, rfl⟩
  ·have h1 := inB_iff.1 ha
   have h2 := inB_iff.1 hb
   have hw : IntKind.i64.wrap (b - a) = b - a := IntWalk.i64_in _ (by omega)
   cases hc : inB (b - a) 0 400
   all_goals (
    go_enter Tryz.func68, Tryz.ntmps68
    go_wp2_with fail
    refine (isYear_is _ _ _ ha).mono ?_
    rintro e' w' ⟨rfl, rfl⟩
    go_wp2_with fail
    refine (isYear_is _ _ _ hb).mono ?_
    rintro e' w' ⟨rfl, rfl⟩
    go_wp2_with fail
    refine (in_is _ _ _ _ _ hc).mono ?_
    rintro e' w' ⟨rfl, rfl⟩
    go_wp2_with fail
    go_ret
    exact ⟨rfl, rfl⟩)
end Go.Proofs.YthjblcboainknaaGreatDoor
end

section
namespace Go.Proofs.YthjblcboainknaaGreatDoor
open Go.RowKit Dl

end Go.Proofs.YthjblcboainknaaGreatDoor
end

section
namespace Go.Proofs.YthjblcboainknaaGreatDoor
open Go.RowKit Dl

/-- does a row hold a day from 0 on twice -/
def twiceAt (ds : List Int) (i : Nat) : Bool := decide (ds[i]?.getD 0 ≥ 0) && (ds.take i).contains (ds[i]?.getD 0)
def twiceB (ds : List Int) : Bool := (List.range ds.length).any (twiceAt ds)
def meetOf (e : Int) (cs : List Int) (num den add : Int) (l : List Feast) (a : Int) (n : Nat) : List Int :=
 ((List.range n).map (fun (k : Nat) => a + (k : Int))).filter (fun y => twiceB (l.map (feastDay e cs num den add y)))

theorem meet_no {e num den add a : Int} {cs : List Int} {l : List Feast} {k : Nat} (h : twiceB (l.map (feastDay e cs num den add (a + k))) = false) : meetOf e cs num den add l a (k + 1) = meetOf e cs num den add l a k := by
 unfold meetOf
 rw [List.range_succ, List.map_append, List.filter_append]
 simp [h]
theorem meet_yes {e num den add a : Int} {cs : List Int} {l : List Feast} {k : Nat} (h : twiceB (l.map (feastDay e cs num den add (a + k))) = true) : meetOf e cs num den add l a (k + 1) = meetOf e cs num den add l a k ++ [a + k] := by
 unfold meetOf
 rw [List.range_succ, List.map_append, List.filter_append]
 simp [h]

end Go.Proofs.YthjblcboainknaaGreatDoor
end

section
namespace Go.Proofs.YthjblcboainknaaGreatDoor
open Go.RowKit Dl

end Go.Proofs.YthjblcboainknaaGreatDoor
end
