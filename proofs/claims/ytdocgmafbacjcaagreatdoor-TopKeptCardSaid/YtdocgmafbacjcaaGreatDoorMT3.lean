/- Walks: feasts as defined. Slices of structs that read as rows; the search of a slice by a function; areFeasts. Walk: the days of feasts in a year. Walks: Feasts, isRange. Ported by port.py: The words for slices of structs and of slices, for what a loop leaves as it was, and for a statement over an iterator (gathered from the texts of the first seat). Plain: wheels, notes, finds; the trains of a find; the notes that a train breaks; guesses. Walk: the small tests of package guess: in, isTeeth, isFraction, above, isNote, isFind. Walk: product, wheels. Operations in a region that draws its order: a new variable, a new slice of one element. Walk: isFind, the searches of its lists. Plain: even marks as the high steps of a cam; for TopMarked. Walks, package cam: cams, their changes, cams that are turned. Reference: marks as they are defined; a list that is turned. Walks, package plate: Even. -/
import Derived.Test.YtdocgmafbacjcaaGreatDoorMT2
import Derived.Outline
import Derived.RangeFuncNested
import Derived.RangeFuncBound
import Derived.OwnWalkIn
import Derived.TacticsInMore
import Derived.LoopIn
import Derived.LoopNIn
import Derived.Shelf.RegionOpen
import Derived.Deep.CutRange
import Derived.Lib.Hide
import Derived.Test.YtdocgmafbacjcaaGreatDoorMT1
import Derived.BigRegion
import Derived.Test.YtdocgmafbacjcaaGreatDoorShelf
section
namespace Go.Proofs.YtdocgmafbacjcaaGreatDoor
open Go.RowKit Dl

structure Feast where
 mv : Bool
 m : Int
 d : Int
 a : Int
def feastB (f : Feast) : Bool := if f.mv = true then (f.m == 0 && f.d == 0 && inB f.a (-60) 60) else (f.a == 0 && inB f.m 1 12 && inB f.d 1 31)

set_option maxHeartbeats 2000000 in
theorem areFeasts1_is (f : Feast) (w : World) (b : Bool) (hb : feastB f = !b) :
  Calls Tryz.prog 222 #[.agg #[.bool f.mv, .int .i64 f.m, .int .i64 f.d, .int .i64 f.a]] w fun e' w' => e' = .returned (.bool b) ∧ Below w.heap.size w w' := by
 obtain ⟨mv, m, d, a⟩ := f
 obtain rfl : b = !feastB ⟨mv, m, d, a⟩ := by rw [hb]; simp
 clear hb
 cases mv
 ·cases ha : (a == 0)
  ·have ha' : (a != 0) = true := by simpa using ha
   have hv : feastB ⟨false, m, d, a⟩ = false := by simp only [feastB, Bool.false_eq_true, if_false, ha, Bool.false_and]
   rw [hv]
   go_enter Tryz.func222, Tryz.ntmps222
   go_wp2_with fail
   go_ret
   exact ⟨rfl, fr_alloc (fr_refl _) _⟩
  ·have ha' : (a != 0) = false := by simpa using ha
   cases hm : inB m 1 12
   ·have hv : feastB ⟨false, m, d, a⟩ = false := by simp only [feastB, Bool.false_eq_true, if_false, ha, hm, Bool.false_and, Bool.and_false]
    rw [hv]
    go_enter Tryz.func222, Tryz.ntmps222
    go_wp2_with fail
    refine (in_is _ _ _ _ _ hm).mono ?_
    rintro e w' ⟨rfl, rfl⟩
    go_wp2_with fail
    go_ret
    exact ⟨rfl, fr_alloc (fr_refl _) _⟩
   ·have hv : feastB ⟨false, m, d, a⟩ = inB d 1 31 := by simp only [feastB, Bool.false_eq_true, if_false, ha, hm, Bool.true_and]
    rw [hv]
    go_enter Tryz.func222, Tryz.ntmps222
    go_wp2_with fail
    refine (in_is _ _ _ _ _ hm).mono ?_
    rintro e w' ⟨rfl, rfl⟩
    go_wp2_with fail
    refine (in_is _ _ _ _ _ rfl).mono ?_
    rintro e w' ⟨rfl, rfl⟩
    go_wp2_with fail
    go_ret
    exact ⟨rfl, fr_alloc (fr_refl _) _⟩
 ·cases hm : (m == 0)
  ·have hm' : (m != 0) = true := by simpa using hm
   have hv : feastB ⟨true, m, d, a⟩ = false := by simp only [feastB, if_true, hm, Bool.false_and]
   rw [hv]
   go_enter Tryz.func222, Tryz.ntmps222
   go_wp2_with fail
   go_ret
   exact ⟨rfl, fr_alloc (fr_refl _) _⟩
  ·have hm' : (m != 0) = false := by simpa using hm
   cases hd : (d == 0)
   ·have hd' : (d != 0) = true := by simpa using hd
    have hv : feastB ⟨true, m, d, a⟩ = false := by simp only [feastB, if_true, hm, hd, Bool.false_and, Bool.and_false]
    rw [hv]
    go_enter Tryz.func222, Tryz.ntmps222
    go_wp2_with fail
    go_ret
    exact ⟨rfl, fr_alloc (fr_refl _) _⟩
   ·have hd' : (d != 0) = false := by simpa using hd
    have hv : feastB ⟨true, m, d, a⟩ = inB a (-60) 60 := by simp only [feastB, if_true, hm, hd, Bool.true_and]
    rw [hv]
    go_enter Tryz.func222, Tryz.ntmps222
    go_wp2_with fail
    refine (in_is _ _ _ _ _ rfl).mono ?_
    rintro e w' ⟨rfl, rfl⟩
    go_wp2_with fail
    go_ret
    exact ⟨rfl, fr_alloc (fr_refl _) _⟩
end Go.Proofs.YtdocgmafbacjcaaGreatDoor
end

section
namespace Go.Proofs.YtdocgmafbacjcaaGreatDoor
open Go.RowKit Dl

/-- the slice value that begins at A reads as the rows, each of k cells -/
def RdS (w : World) (A : Option Addr) (k : Nat) (rows : List (List Value)) : Prop :=
 0 < rows.length → ∃ ad, A = some ad ∧ ad.block < w.heap.size ∧ ∀ i r, rows[i]? = some r → r.length = k ∧ ∀ j v, r[j]? = some v → w.cell? (ad.add (i * k + j)) = some v
theorem RdS.keep {w w' : World} {A : Option Addr} {k : Nat} {rows : List (List Value)} (h : RdS w A k rows) (hb : Below w.heap.size w w') : RdS w' A k rows := fun hn => by
 obtain ⟨ad, e, hlt, hc⟩ := h hn
 exact ⟨ad, e, Nat.lt_of_lt_of_le hlt hb.size, fun i r hr => ⟨(hc i r hr).1, fun j v hv => (hb.cell (by rw [block_of_add]; exact hlt)).trans ((hc i r hr).2 j v hv)⟩⟩
theorem RdS.at_ {w : World} {A : Option Addr} {k : Nat} {rows : List (List Value)} (h : RdS w A k rows) {i : Nat} {r : List Value} (hi : rows[i]? = some r) :
  ∃ ad, A = some ad ∧ ad.block < w.heap.size ∧ r.length = k ∧ ∀ j v, r[j]? = some v → w.cell? (ad.add (i * k + j)) = some v := by
 have hl : i < rows.length := (List.getElem?_eq_some_iff.1 hi).1
 obtain ⟨ad, e, hlt, hc⟩ := h (by omega)
 exact ⟨ad, e, hlt, (hc i r hi).1, (hc i r hi).2⟩

def Feast.row (f : Feast) : List Value := [.bool f.mv, .int .i64 f.m, .int .i64 f.d, .int .i64 f.a]
def feastsB (l : List Feast) : Bool := decide (l.length ≤ 6) && l.all feastB

theorem all_step {α : Type} {p : α → Bool} {l : List α} {k : Nat} (h : k < l.length) (ha : (l.take k).all p = true) (hf : p l[k] = true) : (l.take (k + 1)).all p = true := by
 rw [List.take_succ_eq_append_getElem h, List.all_append, ha]; simp [hf]
theorem all_no {α : Type} {p : α → Bool} {l : List α} {k : Nat} (h : k < l.length) (hf : p l[k] = false) : l.all p = false := by
 rw [List.all_eq_false]; exact ⟨l[k], List.getElem_mem h, by simp [hf]⟩

set_option maxRecDepth 100000 in
set_option maxHeartbeats 2000000 in
theorem indexFeast (A : Option Addr) (c : Nat) (l : List Feast) (w : World) (hr : RdS w A 4 (l.map Feast.row)) (hn : l.length ≤ 9223372036854775807) (b : Bool) (hb : l.all feastB = b) :
  Calls Tryz.prog 244 #[.slice A l.length c, .func (.func 222) #[] #[]] w fun e' w' => ∃ k : Int, e' = .returned (.int .i64 k) ∧ ((b = true ∧ k = -1) ∨ (b = false ∧ 0 ≤ k)) ∧ Below w.heap.size w w' := by
 go_enter Tryz.func244, Tryz.ntmps244
 go_wp2
 generalize hlen : l.length = n at *
 have HL := Lib.hid hlen
 clear hlen
 go_loopw [8] (fun i wr => ∃ k : Nat, k ≤ n ∧ i = .int .i64 k ∧ (l.take k).all feastB = true ∧ Below w.heap.size w wr) (fun i _ => n - (intOf i).toNat)
 case atStart => exact ⟨0, Nat.zero_le _, rfl, by simp, fr_refl _⟩
 case round =>
  obtain ⟨k, hk, rfl, hall, hbel⟩ := hrel
  by_cases hlt : k < n
  ·have hkl : k < l.length := by have := HL.out; omega
   have hrow : (l.map Feast.row)[k]? = some (l[k].row) := by simp [hkl]
   obtain ⟨ad, rfl, hab, _, hc⟩ := (hr.keep hbel).at_ hrow
   have hq : ∀ j, ad.add (k * 4 + (j + 1)) = (ad.add (k * 4)).add (j + 1) := fun j => by
    unfold Addr.add; by_cases h0 : k * 4 = 0 <;> simp [h0, Nat.add_assoc]
   have hc0 : wr.cell? (ad.add (k * 4)) = some (.bool l[k].mv) := hc 0 _ rfl
   have hc1 : wr.cell? ⟨(ad.add (k * 4)).block, (ad.add (k * 4)).off + 1, none⟩ = _ := (congrArg wr.cell? (hq 0)).symm.trans (hc 1 _ rfl)
   have hc2 : wr.cell? ⟨(ad.add (k * 4)).block, (ad.add (k * 4)).off + 2, none⟩ = _ := (congrArg wr.cell? (hq 1)).symm.trans (hc 2 _ rfl)
   have hc3 : wr.cell? ⟨(ad.add (k * 4)).block, (ad.add (k * 4)).off + 3, none⟩ = _ := (congrArg wr.cell? (hq 2)).symm.trans (hc 3 _ rfl)
   clear hc hrow hr hq
   go_wp2_with fail
   cases hf : feastB l[k]
   ·refine (areFeasts1_is _ _ true (by simp [hf])).mono ?_
    rintro e w1 ⟨rfl, hb1⟩
    go_wp2_with fail
    go_ret
    refine ⟨k, rfl, Or.inr ⟨?_, by omega⟩, fr_call hbel hb1⟩
    rw [← hb]
    exact all_no hkl hf
   ·refine (areFeasts1_is _ _ false (by simp [hf])).mono ?_
    rintro e w1 ⟨rfl, hb1⟩
    go_wp2_with fail
    refine ⟨⟨k + 1, hlt, rfl, all_step hkl hall hf, fr_call hbel hb1⟩, ?_⟩
    simp [intOf]; omega
  ·go_wp2_with fail
   go_ret
   refine ⟨-1, rfl, Or.inl ⟨?_, rfl⟩, hbel⟩
   rw [← hb, ← List.take_of_length_le (l := l) (i := k) (by have := HL.out; omega)]; exact hall

set_option maxHeartbeats 2000000 in
theorem containsFeast (A : Option Addr) (c : Nat) (l : List Feast) (w : World) (hr : RdS w A 4 (l.map Feast.row)) (hn : l.length ≤ 9223372036854775807) (b : Bool) (hb : l.all feastB = b) :
  Calls Tryz.prog 221 #[.slice A l.length c, .func (.func 222) #[] #[]] w fun e' w' => e' = .returned (.bool (!b)) ∧ Below w.heap.size w w' := by
 go_enter Tryz.func221, Tryz.ntmps221
 go_wp2_with fail
 refine (indexFeast A c l w hr hn b hb).mono ?_
 rintro e w1 ⟨k, rfl, hk, hb1⟩
 go_wp2_with fail
 go_ret
 refine ⟨ret_bool ?_, hb1⟩
 rcases hk with ⟨rfl, rfl⟩ | ⟨rfl, hk⟩
 ·rfl
 ·simpa using hk

set_option maxHeartbeats 2000000 in
theorem areFeasts_is (A : Option Addr) (c : Nat) (l : List Feast) (w : World) (hr : RdS w A 4 (l.map Feast.row)) (hn : l.length ≤ 9223372036854775807) :
  Calls Tryz.prog 163 #[.slice A l.length c] w fun e' w' => e' = .returned (.bool (feastsB l)) ∧ Below w.heap.size w w' := by
 have h0 := containsFeast A c l w hr hn _ rfl
 unfold feastsB
 generalize l.all feastB = b at *
 by_cases h6 : l.length ≤ 6
 ·have h6' : decide (l.length ≤ 6) = true := by simpa using h6
  have h6i : decide ((l.length : Int) ≤ 6) = true := decide_eq_true (by omega)
  rw [h6', Bool.true_and]
  clear h6'
  go_enter Tryz.func163, Tryz.ntmps163
  go_wp2_with fail
  refine h0.mono ?_
  rintro e w1 ⟨rfl, hb1⟩
  go_wp2_with fail
  go_ret
  exact ⟨ret_bool (by simp), hb1⟩
 ·have h6' : decide (l.length ≤ 6) = false := by simpa using h6
  have h6i : decide ((l.length : Int) ≤ 6) = false := decide_eq_false (by omega)
  rw [h6', Bool.false_and]
  clear h6'
  go_enter Tryz.func163, Tryz.ntmps163
  go_wp2_with fail
  go_ret
  exact ⟨rfl, fr_refl _⟩
end Go.Proofs.YtdocgmafbacjcaaGreatDoor
end

section
namespace Go.Proofs.YtdocgmafbacjcaaGreatDoor
open Go.RowKit Dl

def feastDay (e : Int) (cs : List Int) (num den add y : Int) (f : Feast) : Int :=
 if f.mv = true then easterDay e cs num den add y + f.a else if realB cs y f.m f.d = true then dayOf e cs ⟨y, f.m, f.d⟩ else -1

theorem grown_own {a b c : World} {r s : Option Nat} (h : a.grownBy b r) (k : b.grownBy c s) (hs : ∀ i, s = some i → a.heap.size ≤ i) : a.grownBy c r :=
 ⟨k.os.trans h.os, k.tape.trans h.tape, k.output.trans h.output, Nat.le_trans h.size k.size, fun i hi hne => (k.block i (Nat.lt_of_lt_of_le hi h.size) (by intro e; have := hs i e.symm; omega)).trans (h.block i hi hne)⟩
theorem EMap.far {w w' : World} {M : Nat} {f : Int → Int} {s : Option Nat} (h : EMap w M f) (k : w.grownBy w' s) (hs : some M ≠ s) : EMap w' M f := by
 obtain ⟨es, clock, hb, hx⟩ := h
 exact ⟨es, clock, (k.block M (heap_lt hb) hs).trans hb, hx⟩
theorem RdS.farM {w w' : World} {A : Option Addr} {k M : Nat} {rows : List (List Value)} {f : Int → Int} (hk : 0 < k) (h : RdS w A k rows) (hE : EMap w M f) (hg : w.grownBy w' (some M)) : RdS w' A k rows := fun hn => by
 obtain ⟨ad, e, hlt, hc⟩ := h hn
 have hne : ad.block ≠ M := by
  obtain ⟨es, clock, hm, _⟩ := hE
  intro e'
  have h0 := hc 0 rows[0] (by simp [hn])
  have h1 := h0.2 0 rows[0][0] (by rw [List.getElem?_eq_getElem])
  unfold World.cell? at h1
  rw [block_of_add, e', hm] at h1
  cases h1
 exact ⟨ad, e, Nat.lt_of_lt_of_le hlt hg.size, fun i r hr => ⟨(hc i r hr).1, fun j v hv => (World.cell?_of_block (hg.block _ (by rw [block_of_add]; exact hlt) (by rw [block_of_add]; intro e'; cases e'; exact hne rfl))).trans ((hc i r hr).2 j v hv)⟩⟩

theorem day_of_21 {e y : Int} {cs : List Int} (he : 0 ≤ e ∧ e ≤ 1000) (hy : 0 ≤ y ∧ y ≤ 4000) : -10000000 ≤ dayOf e cs ⟨y, 3, 21⟩ ∧ dayOf e cs ⟨y, 3, 21⟩ ≤ 10000000 := by
 have a := cum_bounds (leapB cs y) 3 (by decide) (by decide)
 have b := firstDay_bounds e cs y hy.1
 have hc : dayOf e cs ⟨y, 3, 21⟩ = firstDay e cs y + cum (leapB cs y) 3 + 21 - 1 := rfl
 omega
theorem owns_far {w w' : World} {base M : Nat} {v : Value} {xs : List Int} (h : Own w base v xs) (k : w.grownBy w' (some M)) (hM : M < base) : Own w' base v xs :=
 World.ownsRow.kept h k (.inr (by intro e; have := own_ge h M e; omega))

theorem Own.cap {w : World} {base : Nat} {A : Option Addr} {n c : Nat} {xs : List Int} (h : Own w base (.slice A n c) xs) : n ≤ c := by
 rcases h.2 with ⟨h0, _⟩ | ⟨g, cap, cur, hv, _, _, hle, _⟩
 ·injection h0 with _ h1 h2
  omega
 ·injection hv with _ h1 h2
  omega

set_option maxRecDepth 100000 in
set_option maxHeartbeats 4000000 in
theorem feasts_any (A F L : Option Addr) (n c fc lc M : Nat) (cs : List Int) (e num den add y : Int) (l : List Feast) (w : World) (hr : Rd w A n cs) (hn : n ≤ 3) (hpos : Cyc cs) (hF : Rd w F 4002 (firsts e cs))
  (hL : RdS w L 4 (l.map Feast.row)) (hl : feastsB l = true)
  (he : 0 ≤ e ∧ e ≤ 1000) (hm : MoonOk num den add) (hy : 0 ≤ y ∧ y ≤ 4000) (hE : EMap w M (easterDay e cs num den add)) :
  Calls Tryz.prog 166 #[.agg #[.int .i64 e, .slice A n c, .int .i64 num, .int .i64 den, .int .i64 add, .slice F 4002 fc, .map (some M)], .slice L l.length lc, .int .i64 y] w fun e' w' =>
   ∃ B b, e' = .returned (.slice B (l.map (feastDay e cs num den add y)).length b) ∧ Rd w' B (l.map (feastDay e cs num den add y)).length (l.map (feastDay e cs num den add y)) ∧ Fresh w.heap.size B ∧ EMap w' M (easterDay e cs num den add) ∧ w.grownBy w' (some M) ∧ (l.map (feastDay e cs num den add y)).length ≤ b := by
 have hB1 := Blk.new w 245 #[.int .i64 e, .slice A n c, .int .i64 num, .int .i64 den, .int .i64 add, .slice F 4002 fc, .map (some M)]
 have g1 := fr_alloc (fr_refl w) (.cells #[.int .i64 e, .slice A n c, .int .i64 num, .int .i64 den, .int .i64 add, .slice F 4002 fc, .map (some M)] 245)
 go_enter Tryz.func166, Tryz.ntmps166
 go_wp2_with fail
 replace hr := hr.keep g1
 replace hF := hF.keep g1
 replace hL := hL.keep g1
 replace hE := hE.keep g1
 generalize w.alloc (.cells #[.int .i64 e, .slice A n c, .int .i64 num, .int .i64 den, .int .i64 add, .slice F 4002 fc, .map (some M)] 245) = W1 at *
 generalize hb1e : w.heap.size = b1 at *
 have HB := Lib.hid hb1e
 clear hb1e
 have hl6 : l.length ≤ 6 := by unfold feastsB at hl; simp at hl; exact hl.1
 have hla : ∀ f ∈ l, feastB f = true := by unfold feastsB at hl; simp at hl; exact hl.2
 have hbW : b1 ≤ W1.heap.size := Nat.le_of_lt hB1.lt
 generalize hlen : l.length = nl at *
 have HL := Lib.hid hlen
 clear hlen hl
 go_loopw [7, 14] (fun v i wr => ∃ k : Nat, k ≤ nl ∧ i = .int .i64 k ∧ Own wr W1.heap.size v ((l.take k).map (feastDay e cs num den add y)) ∧ EMap wr M (easterDay e cs num den add) ∧ W1.grownBy wr (some M)) (fun _ i _ => nl - (intOf i).toNat)
 case atStart => exact ⟨0, Nat.zero_le _, rfl, by simpa using Own.nil W1 W1.heap.size, hE, World.grownBy.refl _ _⟩
 case round =>
  obtain ⟨k, hk, rfl, hown, hEr, hgr⟩ := hrel
  have hBr := hB1.grown hgr (by have := hE.ne_blk hB1; simpa using this)
  have hcB := fun j => hBr.cell j
  have hrr := hr.farM hE hgr
  have hFr := hF.farM hE hgr
  have hLr := hL.farM (by decide) hE hgr
  have hMr := heap_lt hE.choose_spec.choose_spec.1
  by_cases hlt : k < nl
  ·have hkl : k < l.length := by have := HL.out; omega
   have hrow : (l.map Feast.row)[k]? = some (l[k].row) := by simp [hkl]
   obtain ⟨ad, rfl, hab, _, hc⟩ := hLr.at_ hrow
   have hq : ∀ j, ad.add (k * 4 + (j + 1)) = (ad.add (k * 4)).add (j + 1) := fun j => by
    unfold Addr.add; by_cases h0 : k * 4 = 0 <;> simp [h0, Nat.add_assoc]
   have hc0 : wr.cell? (ad.add (k * 4)) = some (.bool l[k].mv) := hc 0 _ rfl
   have hc1 : wr.cell? ⟨(ad.add (k * 4)).block, (ad.add (k * 4)).off + 1, none⟩ = _ := (congrArg wr.cell? (hq 0)).symm.trans (hc 1 _ rfl)
   have hc2 : wr.cell? ⟨(ad.add (k * 4)).block, (ad.add (k * 4)).off + 2, none⟩ = _ := (congrArg wr.cell? (hq 1)).symm.trans (hc 2 _ rfl)
   have hc3 : wr.cell? ⟨(ad.add (k * 4)).block, (ad.add (k * 4)).off + 3, none⟩ = _ := (congrArg wr.cell? (hq 2)).symm.trans (hc 3 _ rfl)
   have hfk := hla l[k] (List.getElem_mem hkl)
   have hstep : (l.take (k + 1)).map (feastDay e cs num den add y) = (l.take k).map (feastDay e cs num den add y) ++ [feastDay e cs num den add y l[k]] := by
    rw [List.take_succ_eq_append_getElem hkl, List.map_append]; rfl
   generalize l[k] = f at *
   obtain ⟨mv, fm, fd, fa⟩ := f
   clear hc hrow hq
   have hbl := hBr.lt
   have hrl := Nat.le_trans hgr.size (Nat.le_refl _)
   cases mv
   ·have g2 := fr_alloc (fr_alloc (fr_refl wr) (.cells #[.bool false, .int .i64 fm, .int .i64 fd, .int .i64 fa] 137)) (.cells #[.int .i64 y, .int .i64 fm, .int .i64 fd] 173)
    have hFb : Blk ((wr.alloc (.cells #[.bool false, .int .i64 fm, .int .i64 fd, .int .i64 fa] 137)).alloc (.cells #[.int .i64 y, .int .i64 fm, .int .i64 fd] 173)) wr.heap.size 137 #[.bool false, .int .i64 fm, .int .i64 fd, .int .i64 fa] := (Blk.new wr _ _).alloc _
    have hDb : Blk ((wr.alloc (.cells #[.bool false, .int .i64 fm, .int .i64 fd, .int .i64 fa] 137)).alloc (.cells #[.int .i64 y, .int .i64 fm, .int .i64 fd] 173)) (wr.heap.size + 1) 173 #[.int .i64 y, .int .i64 fm, .int .i64 fd] := Blk.new_at _ _ (by simp)
    obtain ⟨hm12, hd31⟩ : (1 ≤ fm ∧ fm ≤ 12) ∧ (1 ≤ fd ∧ fd ≤ 31) := by
     unfold feastB at hfk
     simp only [Bool.false_eq_true, if_false, Bool.and_eq_true, beq_iff_eq] at hfk
     exact ⟨inB_iff.1 hfk.1.2, inB_iff.1 hfk.2⟩
    go_wp2_with fail
    cases hrb : realB cs y fm fd
    ·refine (isDate_is A n c cs _ _ _ _ _ _ y fm fd _ (hrr.keep g2) hn hpos _ hrb).mono ?_
     rintro e' wa ⟨rfl, hb1⟩
     have hfd : feastDay e cs num den add y ⟨false, fm, fd, fa⟩ = -1 := by unfold feastDay; simp [hrb]
     rw [hfd] at hstep
     have hownz := (hown.keep g2).keep hb1
     have hEz := (hEr.keep g2).keep hb1
     have hgz := grown_below (grown_below hgr g2) hb1
     have hlenx : ((l.take k).map (feastDay e cs num den add y)).length < 1000000 := by simp; omega
     go_wp2_with (at_builtin; refine app_int rfl (.tmp 38) (.tmp 40) rfl W1.heap.size _ ((l.take k).map (feastDay e cs num den add y)) rfl rfl hownz hlenx hgz.size ?_; intro B0 cap0 wy hown' hg)
     have ha := fr_alloc (fr_refl wa) (.cells #[.int .i64 (-1)] 3)
     have hge := own_ge hownz
     refine ⟨⟨k + 1, hlt, rfl, by rw [hstep]; rw [List.length_map, List.length_take] at hown'; exact hown', (hEz.keep ha).far hg (fun e0 => by have := hge M e0.symm; omega), grown_own (grown_below hgz ha) hg hge⟩, ?_⟩
     simp [intOf]; omega
    ·refine (isDate_is A n c cs _ _ _ _ _ _ y fm fd _ (hrr.keep g2) hn hpos _ hrb).mono ?_
     rintro e' wa ⟨rfl, hb1⟩
     have hfd : feastDay e cs num den add y ⟨false, fm, fd, fa⟩ = dayOf e cs ⟨y, fm, fd⟩ := by unfold feastDay; simp [hrb]
     rw [hfd] at hstep
     have hDa := fun j => (hDb.keep hb1).cell j
     have hBa := fun j => ((hBr.keep g2).keep hb1).cell j
     go_wp2_with fail
     refine (day_any A F n c fc cs e _ _ _ _ y fm fd _ ((hrr.keep g2).keep hb1) hn hpos ((hFr.keep g2).keep hb1) he hy hm12 hd31).mono ?_
     rintro e' wb ⟨rfl, hb2⟩
     have hownz := ((hown.keep g2).keep hb1).keep hb2
     have hEz := ((hEr.keep g2).keep hb1).keep hb2
     have hgz := grown_below (grown_below (grown_below hgr g2) hb1) hb2
     have hlenx : ((l.take k).map (feastDay e cs num den add y)).length < 1000000 := by simp; omega
     go_wp2_with (at_builtin; refine app_int rfl (.tmp 38) (.tmp 40) rfl W1.heap.size _ ((l.take k).map (feastDay e cs num den add y)) rfl rfl hownz hlenx hgz.size ?_; intro B0 cap0 wy hown' hg)
     have ha := fr_alloc (fr_refl wb) (.cells #[.int .i64 (dayOf e cs ⟨y, fm, fd⟩)] 3)
     have hge := own_ge hownz
     refine ⟨⟨k + 1, hlt, rfl, by rw [hstep]; rw [List.length_map, List.length_take] at hown'; exact hown', (hEz.keep ha).far hg (fun e0 => by have := hge M e0.symm; omega), grown_own (grown_below hgz ha) hg hge⟩, ?_⟩
     simp [intOf]; omega
   ·have g2 := fr_alloc (fr_alloc (fr_refl wr) (.cells #[.bool true, .int .i64 fm, .int .i64 fd, .int .i64 fa] 137)) (.cells #[.int .i64 y, .int .i64 fm, .int .i64 fd] 173)
    have hFb : Blk ((wr.alloc (.cells #[.bool true, .int .i64 fm, .int .i64 fd, .int .i64 fa] 137)).alloc (.cells #[.int .i64 y, .int .i64 fm, .int .i64 fd] 173)) wr.heap.size 137 #[.bool true, .int .i64 fm, .int .i64 fd, .int .i64 fa] := (Blk.new wr _ _).alloc _
    have hDb : Blk ((wr.alloc (.cells #[.bool true, .int .i64 fm, .int .i64 fd, .int .i64 fa] 137)).alloc (.cells #[.int .i64 y, .int .i64 fm, .int .i64 fd] 173)) (wr.heap.size + 1) 173 #[.int .i64 y, .int .i64 fm, .int .i64 fd] := Blk.new_at _ _ (by simp)
    have ha60 : -60 ≤ fa ∧ fa ≤ 60 := by
     unfold feastB at hfk
     simp only [if_true, Bool.and_eq_true, beq_iff_eq] at hfk
     exact inB_iff.1 hfk.2
    have hfd : feastDay e cs num den add y ⟨true, fm, fd, fa⟩ = easterDay e cs num den add y + fa := by unfold feastDay; simp
    rw [hfd] at hstep
    have heb := easter_bounds (e := e) (cs := cs) (y := y) hm
    have hdb := day_of_21 (cs := cs) he hy
    have hwrap : IntKind.i64.wrap (easterDay e cs num den add y + fa) = easterDay e cs num den add y + fa := IntWalk.i64_in _ (by omega)
    go_wp2_with fail
    have hB4 := hBr.keep g2
    have hE4 := hEr.keep g2
    have hr4 := hrr.keep g2
    have hF4 := hFr.keep g2
    have ho4 := hown.keep g2
    have hg4 := grown_below hgr g2
    clear hc0 hc1 hc2 hc3 hcB
    generalize (wr.alloc (.cells #[.bool true, .int .i64 fm, .int .i64 fd, .int .i64 fa] 137)).alloc (.cells #[.int .i64 y, .int .i64 fm, .int .i64 fd] 173) = w4 at *
    generalize wr.heap.size = bf at *
    have hcB := fun j => hB4.cell j
    have hcF := fun j => hFb.cell j
    refine wp_region_noPanic ?_
    refine wp_region_held_drew (S := fun W => (∀ j, W.cell? ⟨b1, j, none⟩ = (#[.int .i64 e, .slice A n c, .int .i64 num, .int .i64 den, .int .i64 add, .slice F 4002 fc, .map (some M)] : Array Value)[j]?) ∧ (∀ j, W.cell? ⟨bf, j, none⟩ = (#[.bool true, .int .i64 fm, .int .i64 fd, .int .i64 fa] : Array Value)[j]?)) (by kernel_rfl) ⟨hcB, hcF⟩ (fun hHeld => ?_)
    -- the region, step by step
    refine wpAnyH_take (i := 0) (oi := ⟨some 26, .load 245 (.tmp 3), 245, "dial.go:317", #[], none⟩) (v := ?_) rfl (by kernel_rfl) (by kernel_rfl) (by kernel_rfl) (fun _ _ _ h => h) (Or.inl ⟨by rfl, fun W hSw => ?_⟩) hHeld ?_
    rotate_left
    ·(try dsimp only at hSw); go_simp; (try with_reducible rfl)
    (try simp only [Act.put, List.setIfInBounds_toArray, List.set_cons_zero, List.set_cons_succ])
    refine wpAnyH_take (i := 1) (oi := ⟨some 27, .move (.tmp 2), 3, "dial.go:317", #[], none⟩) (v := ?_) rfl (by kernel_rfl) (by kernel_rfl) (by kernel_rfl) (fun _ _ _ h => h) (Or.inl ⟨by rfl, fun W hSw => ?_⟩) hHeld ?_
    rotate_left
    ·(try dsimp only at hSw); go_simp; (try with_reducible rfl)
    (try simp only [Act.put, List.setIfInBounds_toArray, List.set_cons_zero, List.set_cons_succ])
    refine wpAnyH_take (i := 3) (oi := ⟨some 29, .fieldAddr 137 (.tmp 9) 3, 0, "dial.go:317", #[], none⟩) (v := ?_) rfl (by kernel_rfl) (by kernel_rfl) (by kernel_rfl) (fun _ _ _ h => h) (Or.inl ⟨by rfl, fun W hSw => ?_⟩) hHeld ?_
    rotate_left
    ·(try dsimp only at hSw); go_simp; (try with_reducible rfl)
    (try simp only [Act.put, List.setIfInBounds_toArray, List.set_cons_zero, List.set_cons_succ])
    refine wpAnyH_take (i := 4) (oi := ⟨some 30, .load 3 (.tmp 29), 3, "dial.go:317", #[⟨3, .data⟩], none⟩) (v := ?_) rfl (by kernel_rfl) (by kernel_rfl) (by kernel_rfl) (fun _ _ _ h => h) (Or.inl ⟨by rfl, fun W hSw => ?_⟩) hHeld ?_
    rotate_left
    ·(try dsimp only at hSw); go_simp; (try with_reducible rfl)
    (try simp only [Act.put, List.setIfInBounds_toArray, List.set_cons_zero, List.set_cons_succ])
    refine wpAnyH_ready (rs := [2]) (by kernel_rfl) (by simp) ?_
    refine AllReadyH.cons (o := ⟨some 28, .call { callee := .value (.func 224), args := #[.tmp 26, .tmp 27], argTypes := #[245, 3] }, 3, "dial.go:317", #[⟨0, .data⟩, ⟨1, .data⟩], none⟩) rfl (fun K hK => ?_) AllReadyH.nil
    go_simp
    refine (sunday_any A F n c fc M cs e num den add y _ (hr4.keep (fr_drew (fr_refl _))) hn hpos (hF4.keep (fr_drew (fr_refl _))) he hm hy (hE4.keep (fr_drew (fr_refl _)))).mono ?_
    rintro e' w5 ⟨rfl, hE5, hg5⟩
    have hd4 := fr_drew (fr_refl w4)
    have hB5 := (hB4.keep hd4).grown hg5 (by have := (hE4.keep hd4).ne_blk (hB4.keep hd4); simpa using this)
    have hF5 := (hFb.keep hd4).grown hg5 (by have := (hE4.keep hd4).ne_blk (hFb.keep hd4); simpa using this)
    have hg45 := grown_trans (grown_below hg4 hd4) hg5
    have ho5 := owns_far (ho4.keep hd4) hg5 hMr
    refine hK.out _ _ (⟨fun j => hB5.cell j, fun j => hF5.cell j⟩) (fun hHeld => ?_)
    clear hK K
    (try simp only [Act.put, List.setIfInBounds_toArray, List.set_cons_zero, List.set_cons_succ])
    refine wpAnyH_take (i := 5) (oi := ⟨some 31, .binOp .add 3 (.tmp 28) (.tmp 30) 3, 3, "dial.go:317", #[⟨2, .data⟩, ⟨4, .data⟩], none⟩) (v := ?_) rfl (by kernel_rfl) (by kernel_rfl) (by kernel_rfl) (fun _ _ _ h => h) (Or.inl ⟨by rfl, fun W hSw => ?_⟩) hHeld ?_
    rotate_left
    ·(try dsimp only at hSw); go_simp; (try with_reducible rfl)
    (try simp only [Act.put, List.setIfInBounds_toArray, List.set_cons_zero, List.set_cons_succ])
    refine wpAnyH_take (i := 6) (oi := ⟨some 10, .assign (.tmp 31), 3, "dial.go:317", #[⟨5, .data⟩, ⟨2, .chain⟩, ⟨0, .phase⟩, ⟨1, .phase⟩, ⟨2, .phase⟩, ⟨3, .phase⟩, ⟨4, .phase⟩, ⟨5, .phase⟩], none⟩) (v := ?_) rfl (by kernel_rfl) (by kernel_rfl) (by kernel_rfl) (fun _ _ _ h => h) (Or.inl ⟨by rfl, fun W hSw => ?_⟩) hHeld ?_
    rotate_left
    ·(try dsimp only at hSw); go_simp; (try with_reducible rfl)
    (try simp only [Act.put, List.setIfInBounds_toArray, List.set_cons_zero, List.set_cons_succ])
    refine wpAnyH_done (by kernel_rfl) ?_ _
    refine NoPanic.normal ?_
    clear hcB hcF hHeld
    have hlenx : ((l.take k).map (feastDay e cs num den add y)).length < 1000000 := by simp; omega
    go_wp2_with (at_builtin; refine app_int rfl (.tmp 38) (.tmp 40) rfl W1.heap.size _ ((l.take k).map (feastDay e cs num den add y)) rfl rfl ho5 hlenx hg45.size ?_; intro B0 cap0 wy hown' hg)
    have ha := fr_alloc (fr_refl w5) (.cells #[.int .i64 (easterDay e cs num den add y + fa)] 3)
    have hge := own_ge ho5
    refine ⟨⟨k + 1, hlt, rfl, by rw [hstep]; rw [List.length_map, List.length_take] at hown'; exact hown', (hE5.keep ha).far hg (fun e0 => by have := hge M e0.symm; omega), grown_own (grown_below hg45 ha) hg hge⟩, ?_⟩
    simp [intOf]; omega
  ·have hk' : k = nl := by omega
   subst hk'
   have hT : l.take k = l := List.take_of_length_le (by have := HL.out; omega)
   rw [hT] at hown
   go_wp2_with fail
   obtain ⟨B, b, rfl⟩ := hown.form
   go_ret
   obtain rfl := HB.out
   exact ⟨B, b, rfl, hown.rd, fun ad e0 => Nat.le_trans hbW (hown.fresh ad e0), hEr, below_grown g1 hgr, hown.cap⟩
end Go.Proofs.YtdocgmafbacjcaaGreatDoor
end

section
namespace Go.Proofs.YtdocgmafbacjcaaGreatDoor
open Go.RowKit Dl

set_option maxRecDepth 100000 in
set_option maxHeartbeats 4000000 in
theorem Feasts_ok (A L : Option Addr) (n c lc : Nat) (cs : List Int) (e num den add y : Int) (l : List Feast) (w : World) (hr : Rd w A n cs) (hn : n ≤ 9223372036854775807) (hL : RdS w L 4 (l.map Feast.row)) (hln : l.length ≤ 9223372036854775807) (hok : calOk e cs = true) (hmb : moonB num den add = true) (hl : feastsB l = true) (hyb : inB y 0 4000 = true) :
  Calls Tryz.prog 94 #[.agg #[.int .i64 e, .slice A n c], .agg #[.int .i64 num, .int .i64 den, .int .i64 add], .slice L l.length lc, .int .i64 y] w fun e' w' =>
   ∃ B b, e' = .returned (.tuple #[.slice B (l.map (feastDay e cs num den add y)).length b, .int .i64 0]) ∧ Rd w' B (l.map (feastDay e cs num den add y)).length (l.map (feastDay e cs num den add y)) ∧ Below w.heap.size w w' := by
 obtain ⟨he, ⟨hn1, hn2⟩, hpos⟩ := calOk_parts hok
 rw [hr.len] at hn1 hn2
 have hm := moonB_ok hmb
 have hy := inB_iff.1 hyb
 have g1 := fr_alloc (fr_alloc (fr_refl w) (.cells #[.int .i64 e, .slice A n c] 30)) (.cells #[.int .i64 num, .int .i64 den, .int .i64 add] 32)
 go_enter Tryz.func94, Tryz.ntmps94
 go_wp2_with fail
 refine (isCalendar_is A n c cs e _ (hr.keep g1) hn _ hok).mono ?_
 rintro e' w1 ⟨rfl, hb1⟩
 obtain ⟨hc_w1, hf_w1⟩ := bcell hb1
 have hz0_w1 : w.heap.size < w1.heap.size := Nat.lt_of_lt_of_le (by first | omega | (simp; done) | (simp; omega)) hb1.size
 have hz1_w1 : w.heap.size + 1 < w1.heap.size := Nat.lt_of_lt_of_le (by first | omega | (simp; done) | (simp; omega)) hb1.size
 go_wp2_with fail
 refine (isMoon_is _ _ _ _ _ hmb).mono ?_
 rintro e' w2 ⟨rfl, hb2⟩
 obtain ⟨hc_w2, hf_w2⟩ := bcell hb2
 have hz0_w2 : w.heap.size < w2.heap.size := Nat.lt_of_lt_of_le (by first | omega | (simp; done) | (simp; omega)) hb2.size
 have hz1_w2 : w.heap.size + 1 < w2.heap.size := Nat.lt_of_lt_of_le (by first | omega | (simp; done) | (simp; omega)) hb2.size
 go_wp2_with fail
 refine (areFeasts_is L lc l _ (((hL.keep g1).keep hb1).keep hb2) hln).mono ?_
 rintro e' w3 ⟨rfl, hb3⟩
 rw [hl]
 obtain ⟨hc_w3, hf_w3⟩ := bcell hb3
 have hz0_w3 : w.heap.size < w3.heap.size := Nat.lt_of_lt_of_le (by first | omega | (simp; done) | (simp; omega)) hb3.size
 have hz1_w3 : w.heap.size + 1 < w3.heap.size := Nat.lt_of_lt_of_le (by first | omega | (simp; done) | (simp; omega)) hb3.size
 go_wp2_with fail
 refine (isYear_is _ _ _ hyb).mono ?_
 rintro e' w3' ⟨rfl, rfl⟩
 go_wp2_with fail
 have hb := fr_call (fr_call (fr_call g1 hb1) hb2) hb3
 refine (open_any A n c cs e num den add _ (hr.keep hb) hok).mono ?_
 rintro e' w4 ⟨F, fc, M, rfl, hF, hM1, hM2, hb4, hFf⟩
 go_wp2_with fail
 refine (feasts_any A F L n c fc lc M cs e num den add y l _ ((hr.keep hb).keep hb4) hn2 hpos hF ((hL.keep hb).keep hb4) hl he hm hy (EMap.empty _ hM2)).mono ?_
 rintro e' w5 ⟨B, b, rfl, hB, hBf, hE5, hg5, _⟩
 have hfin : Below w.heap.size w w5 := (fr_call hb hb4).grown hg5 (fr_call hb hb4).size (by intro k hk; cases hk; exact Nat.le_trans hb.size hM1)
 go_wp2_with fail
 go_ret2
 refine ⟨B, b, ?_, hB, hfin⟩
 rw [List.length_map]
 rfl

end Go.Proofs.YtdocgmafbacjcaaGreatDoor
end

section
namespace Go.Proofs.YtdocgmafbacjcaaGreatDoor

section
open Go.RowKit Go.Shelf

/-- the slice value v is nil, or a row of structs of the call's own -/
def OwnS (w : World) (base : Nat) (e : TypeId) (k : Nat) (v : Value) (rows : List (List Value)) : Prop := w.ownsRow base e k v rows.length rows.flatten ∧ ∀ r ∈ rows, r.length = k
theorem flat_len {k : Nat} : ∀ {rows : List (List Value)}, (∀ r ∈ rows, r.length = k) → rows.flatten.length = rows.length * k
 | [], _ => by simp
 | r :: rows, h => by
  have h1 := h r (by simp)
  have h2 := flat_len (rows := rows) (fun r hr => h r (by simp [hr]))
  simp only [List.flatten_cons, List.length_append, List.length_cons, h1, h2, Nat.add_mul]
  omega
theorem flat_get {k : Nat} : ∀ {rows : List (List Value)} (_ : ∀ r ∈ rows, r.length = k) (i : Nat) (r : List Value) (j : Nat) (v : Value), rows[i]? = some r → r[j]? = some v → rows.flatten[i * k + j]? = some v
 | [], _, i, r, j, v, h1, _ => by simp at h1
 | r0 :: rows, h, 0, r, j, v, h1, h2 => by
  have : r0 = r := by simpa using h1
  subst this
  have hj : j < r0.length := (List.getElem?_eq_some_iff.1 h2).1
  simp only [List.flatten_cons, Nat.zero_mul, Nat.zero_add]
  rw [List.getElem?_append_left hj]
  exact h2
 | r0 :: rows, h, i + 1, r, j, v, h1, h2 => by
  have h0 := h r0 (by simp)
  have := flat_get (rows := rows) (fun r hr => h r (by simp [hr])) i r j v (by simpa using h1) h2
  simp only [List.flatten_cons]
  rw [List.getElem?_append_right (by rw [h0, Nat.add_mul]; omega), h0]
  rw [show (i + 1) * k + j - k = i * k + j by rw [Nat.add_mul]; omega]
  exact this
theorem OwnS.nil (w : World) (base : Nat) (e : TypeId) (k : Nat) : OwnS w base e k (.slice none 0 0) [] := ⟨World.ownsRow_nil w base e k, fun r h => by cases h⟩
theorem OwnS.keep {w w' : World} {base : Nat} {e : TypeId} {k : Nat} {v : Value} {rows : List (List Value)} (h : OwnS w base e k v rows) (hb : Below w.heap.size w w') : OwnS w' base e k v rows := ⟨owns_keep h.1 hb, h.2⟩
theorem OwnS.far {w w' : World} {base M : Nat} {e : TypeId} {k : Nat} {v : Value} {rows : List (List Value)} (h : OwnS w base e k v rows) (hg : w.grownBy w' (some M)) (hM : M < base) : OwnS w' base e k v rows :=
 ⟨World.ownsRow.kept h.1 hg (.inr (by intro e'; have := (World.ownsRow.lt h.1 M e').1; omega)), h.2⟩
theorem OwnS.form {w : World} {base : Nat} {e : TypeId} {k : Nat} {v : Value} {rows : List (List Value)} (h : OwnS w base e k v rows) : ∃ A c, v = .slice A rows.length c := by
 rcases h.1.2 with ⟨rfl, h0⟩ | ⟨g, cap, cur, rfl, _⟩
 ·exact ⟨none, 0, by rw [h0]⟩
 ·exact ⟨_, _, rfl⟩
theorem OwnS.rd {w : World} {base : Nat} {e : TypeId} {k n c : Nat} {A : Option Addr} {rows : List (List Value)} (h : OwnS w base e k (.slice A n c) rows) : RdS w A k rows := fun hpos => by
 have hc := h.1.2
 rcases hc with ⟨h0, h1⟩ | ⟨g, cap, cur, hv, hb, hh, _⟩
 ·omega
 ·injection hv with hA _ _
  subst hA
  refine ⟨_, rfl, heap_lt hh, fun i r hi => ⟨h.2 r (List.mem_of_getElem? hi), fun j v hj => ?_⟩⟩
  have := World.ownsRow.cells h.1 (g := g) (by simp [Value.ownBlock]) _ _ (flat_get h.2 i r j v hi hj)
  exact this
theorem OwnS.fresh {w : World} {base : Nat} {e : TypeId} {k n c : Nat} {A : Option Addr} {rows : List (List Value)} (h : OwnS w base e k (.slice A n c) rows) : Fresh base A := by
 intro ad e'
 subst e'
 rcases h.1.2 with ⟨h0, _⟩ | ⟨g, cap, cur, hv, hb, _⟩
 ·cases h0
 ·injection hv with hA _ _
  cases hA
  exact hb
theorem OwnS.ge {w : World} {base : Nat} {e : TypeId} {k : Nat} {v : Value} {rows : List (List Value)} (h : OwnS w base e k v rows) : ∀ i, v.ownBlock = some i → base ≤ i := fun i hi => (World.ownsRow.lt h.1 i hi).1

/-- 'append(out, x)', the row of structs being the call's own -/
theorem app_row {ops : Array Oper} {rest : List Oper} {o : Oper} {a : Act} {Q : Exit → Act → World → Prop} {W : World} {E T : TypeId} {z : Value} {k bytes : Nat} {r : List Value} (hgd : o.guard = none) (s x : Operand)
  (ho : o.op = .call { callee := .builtin .append, args := #[s, x], argTypes := #[T, T] }) (hu : Tryz.prog.underlying T = some (.slice E)) (hinfo : (Tryz.prog.info? E).map (fun i => (i.zero, i.size, i.bytes)) = some (some z, k, bytes)) (hzk : z.cells.size = k) (hk : 0 < k) (hby : bytes ≤ 1000)
  (base : Nat) (v : Value) (rows : List (List Value)) (hs : a.eval s = v) (hx : a.eval x = .slice (some ⟨W.heap.size, 0, none⟩) 1 1) (hown : OwnS W base E k v rows) (hrl : r.length = k) (h1 : ∀ u ∈ r, u.oneCell' = true) (hn : rows.length < 1000000) (hbase : base ≤ W.heap.size)
  (h : ∀ A c w', OwnS w' base E k (.slice A (rows.length + 1) c) (rows ++ [r]) → (W.alloc (.cells r.toArray E)).grownBy w' v.ownBlock → wpList Tryz.prog ops Q rest (a.put o.dst (.slice A (rows.length + 1) c)) w') :
  wpList Tryz.prog ops Q (o :: rest) a (W.alloc (.cells r.toArray E)) := by
 obtain ⟨i0, hi, hz0, hz1, hz2⟩ := info_parts hinfo
 have hb : (rows.length + 1) * bytes ≤ 1000000 * 1000 := Nat.mul_le_mul (by omega) hby
 refine wpList_append_own _ hgd s x _ ho base _ i0 _ k bytes hu hi hz0 hz1 hz2 hzk hk v _ _ hs (World.ownsRow.alloc hown.1 _) ⟨W.heap.size, 0, none⟩ 1 1 r hx (by rw [hrl]; omega) ?_ h1
  (by unfold maxLen; omega) (by omega) (by simp; omega) ?_
 ·intro j u hj
  rw [add_lit, Nat.zero_add, cell_new]
  simpa using hj
 ·intro v' w' hown' hg _
  have hown2 : OwnS w' base E k v' (rows ++ [r]) := by
   refine ⟨?_, fun q hq => ?_⟩
   ·rw [List.length_append, List.flatten_append]
    simpa using hown'
   ·rcases List.mem_append.1 hq with h2 | h2
    ·exact hown.2 q h2
    ·have : q = r := by simpa using h2
     rw [this]; exact hrl
  obtain ⟨A, c, rfl⟩ := hown2.form
  rw [List.length_append] at hown2 ⊢
  exact h A c w' hown2 hg

theorem RdS.far {w w' : World} {A : Option Addr} {k g : Nat} {rows : List (List Value)} (h : RdS w A k rows) (hg : w.grownBy w' (some g)) (hne : ∀ ad, A = some ad → ad.block ≠ g) : RdS w' A k rows := fun hn => by
 obtain ⟨ad, e, hlt, hc⟩ := h hn
 exact ⟨ad, e, Nat.lt_of_lt_of_le hlt hg.size, fun i r hr => ⟨(hc i r hr).1, fun j v hv => (World.cell?_of_block (hg.block _ (by rw [block_of_add]; exact hlt) (by rw [block_of_add]; intro e'; cases e'; exact hne ad e rfl))).trans ((hc i r hr).2 j v hv)⟩⟩

theorem OwnS.addr {w : World} {base : Nat} {e : TypeId} {k n c : Nat} {A : Option Addr} {rows : List (List Value)} (h : OwnS w base e k (.slice A n c) rows) (hp : 0 < rows.length) : ∃ g, A = some ⟨g, 0, none⟩ ∧ g < w.heap.size ∧ n ≤ c := by
 rcases h.1.2 with ⟨h0, h1⟩ | ⟨g, cap, cur, hv, hb, hh, hle, _⟩
 ·omega
 ·injection hv with hA h1 h2
  exact ⟨g, hA, heap_lt hh, by omega⟩

/-- W is w with new blocks, and writes to the blocks of S alone -/
structure Exc (S : Nat → Prop) (w W : World) : Prop where
 os : W.os = w.os
 tape : W.tape = w.tape
 output : W.output = w.output
 size : w.heap.size ≤ W.heap.size
 block : ∀ k, k < w.heap.size → ¬ S k → W.heap[k]? = w.heap[k]?
section
variable {S : Nat → Prop} {w W W' : World}
theorem Exc.refl (S : Nat → Prop) (w : World) : Exc S w w := ⟨rfl, rfl, rfl, Nat.le_refl _, fun _ _ _ => rfl⟩
theorem Exc.below (h : Exc S w W) (hb : Below W.heap.size W W') : Exc S w W' :=
 ⟨hb.os.trans h.os, hb.tape.trans h.tape, hb.output.trans h.output, Nat.le_trans h.size hb.size, fun k hk hn => (hb.block k (Nat.lt_of_lt_of_le hk h.size)).trans (h.block k hk hn)⟩
theorem Exc.grown {r : Option Nat} (h : Exc S w W) (hg : W.grownBy W' r) (hr : ∀ k, r = some k → S k ∨ w.heap.size ≤ k) : Exc S w W' :=
 ⟨hg.os.trans h.os, hg.tape.trans h.tape, hg.output.trans h.output, Nat.le_trans h.size hg.size, fun k hk hn => (hg.block k (Nat.lt_of_lt_of_le hk h.size) (by
  intro e
  rcases hr k e.symm with h1 | h1
  ·exact hn h1
  ·omega)).trans (h.block k hk hn)⟩
theorem grown_set (W : World) (p : Addr) (u : Value) : W.grownBy (W.setCell p u) (some p.block) :=
 ⟨rfl, rfl, rfl, by simp, fun k _ hne => Below.heap_setCell _ _ _ _ (fun e => hne (by rw [e]))⟩
theorem Exc.set (h : Exc S w W) {p : Addr} (hp : S p.block ∨ w.heap.size ≤ p.block) (u : Value) : Exc S w (W.setCell p u) :=
 h.grown (grown_set W p u) (fun k e => by cases e; exact hp)
theorem Exc.alloc (h : Exc S w W) (o : Obj) : Exc S w (W.alloc o) := h.below (fr_alloc (fr_refl W) o)
theorem Exc.put (h : Exc S w W) {l : Nat} (o : Obj) (hl : S l ∨ w.heap.size ≤ l) : Exc S w (W.putObj l o) :=
 h.grown (grownBy_putObj' W l o) (fun k e => by cases e; exact hl)
theorem Exc.blk {g : Nat} {t : TypeId} {cs : Array Value} (h : Exc S w W) (hB : Blk w g t cs) (hg : ¬ S g) : Blk W g t cs := (h.block g hB.lt hg).trans hB
theorem Exc.cell {p : Addr} (h : Exc S w W) (hp : p.block < w.heap.size) (hg : ¬ S p.block) : W.cell? p = w.cell? p := World.cell?_of_block (h.block _ hp hg)
theorem Exc.rd {A : Option Addr} {n : Nat} {xs : List Int} (h : Exc S w W) (hr : Rd w A n xs) (hA : ∀ ad, A = some ad → ¬ S ad.block) : Rd W A n xs :=
 ⟨hr.1, fun hn => by
  obtain ⟨ad, e, hlt, hc⟩ := hr.2 hn
  exact ⟨ad, e, Nat.lt_of_lt_of_le hlt h.size, fun j hj => (h.cell (by rw [block_of_add]; exact hlt) (by rw [block_of_add]; exact hA ad e)).trans (hc j hj)⟩⟩
theorem Exc.toBelow {N : Nat} {w0 : World} (h : Exc S w W) (hb : Below N w0 w) (hS : ∀ k, S k → N ≤ k) (hN : N ≤ w.heap.size) : Below N w0 W :=
 ⟨h.os.trans hb.os, h.tape.trans hb.tape, h.output.trans hb.output, Nat.le_trans hb.size h.size, fun k hk => (h.block k (Nat.lt_of_lt_of_le hk hN) (fun hs => by have := hS k hs; omega)).trans (hb.block k hk)⟩
theorem Exc.mono {S' : Nat → Prop} (h : Exc S w W) (hS : ∀ k, S k → S' k) : Exc S' w W := ⟨h.os, h.tape, h.output, h.size, fun k hk hn => h.block k hk (fun hs => hn (hS k hs))⟩
theorem Exc.trans_ {S' : Nat → Prop} (h : Exc S w W) (k : Exc S' W W') (hS : ∀ i, S' i → S i ∨ w.heap.size ≤ i) : Exc S w W' :=
 ⟨k.os.trans h.os, k.tape.trans h.tape, k.output.trans h.output, Nat.le_trans h.size k.size, fun i hi hn => (k.block i (Nat.lt_of_lt_of_le hi h.size) (fun hs => by
  rcases hS i hs with h1 | h1
  ·exact hn h1
  ·omega)).trans (h.block i hi hn)⟩
end
section
variable {F : Fence} {n : Nat} {P : Program}
end


theorem Obj_cells_ne {W : World} {g l : Nat} {t : TypeId} {cs : Array Value} {o : Obj} (hB : Blk W g t cs) (hl : W.heap[l]? = some o) (ho : o.isCells = false) : g ≠ l := by
 rintro rfl
 unfold Blk at hB
 rw [hB] at hl
 cases hl
 cases ho
/-- the statement, up to the iterator's call -/
theorem wpIn_range_enter {P : Program} {g : Operand} {ps : Array Tmp} {assign body : Code} {Q : Exit → Act → World → Prop} {a : Act} {w : World} {n gf : Nat} {lb : Array Value}
  (hg : a.eval g = .func (.func gf) #[] lb) (eg : ∀ args w, (callFunc gf args).run P w = .ok (.enter gf args) w)
  (hcall : ∀ (fn : Nat) (rec : Loop), rec.state = .ready → rec.pending = none → rec.fn = fn → rec.tmps = a.tmps → rec.params = ps → rec.assign = assign → rec.body = body →
   CallsIn Fence.wide n P gf (#[.func (.yield (w.heap.size + 1)) #[] #[]] ++ lb) ((w.alloc (.deferred (some []))).alloc (.loop rec)) (rangePost Fence.wide (n + 1) P (w.heap.size + 1) Q { a with defers := { target := .collected w.heap.size, args := #[] } :: a.defers })) :
  (Code.rangeFunc g ps assign body).wpIn Fence.wide (n + 1) P Q a w := by
 refine wpIn_rangeFunc (fun fn _ => ?_)
 obtain ⟨rec, hrec⟩ : ∃ rec : Loop, rec = { state := .ready, pending := none, fn, tmps := a.tmps, params := ps, assign, body, defers := w.heap.size } := ⟨_, rfl⟩
 obtain ⟨W1, hW1⟩ : ∃ W1, (w.alloc (.deferred (some []))).alloc (.loop rec) = W1 := ⟨_, rfl⟩
 have hc := hcall fn rec (by rw [hrec]) (by rw [hrec]) (by rw [hrec]) (by rw [hrec]) (by rw [hrec]) (by rw [hrec]) (by rw [hrec])
 rw [hW1] at hc
 refine ⟨w.heap.size + 1, [{ target := .collected w.heap.size, args := #[] }], W1, { target := .fn (.func gf) lb, args := #[.func (.yield (w.heap.size + 1)) #[] #[]] }, W1, gf, #[.func (.yield (w.heap.size + 1)) #[] #[]] ++ lb, W1, ?_, ?_, ?_, ?_, ?_, ?_⟩
 ·rw [← hW1, hrec]; exact run_enterLoop_outer _ _ _ _ _
 ·simp only [resolve, hg]
  simp [go_sem]
 ·exact fun _ _ => trivial
 ·simp [invoke, go_sem, eg]
 ·intro h; cases h
 ·exact hc
end

section
structure Note where
 k : Int
 a : Int
 b : Int
 lo : Int
 hi : Int
 ln : Int
 ld : Int
 mn : Int
 md : Int
def Note.cells (n : Note) : List Value := [.int .i64 n.k, .int .i64 n.a, .int .i64 n.b, .int .i64 n.lo, .int .i64 n.hi, .int .i64 n.ln, .int .i64 n.ld, .int .i64 n.mn, .int .i64 n.md]
structure Wh where
 lo : Int
 hi : Int
def Wh.cells (s : Wh) : List Value := [.int .i64 s.lo, .int .i64 s.hi]
def teethB (x : Int) : Bool := inB x 4 60
def Fits : List Wh → List Int → Prop
 | [], [] => True
 | s :: ws, x :: t => (s.lo ≤ x ∧ x ≤ s.hi) ∧ Fits ws t
 | _, _ => False
theorem Fits.len : ∀ {ws : List Wh} {t : List Int}, Fits ws t → t.length = ws.length
 | [], [], _ => rfl
 | [], _ :: _, h => absurd h (by simp [Fits])
 | _ :: _, [], h => absurd h (by simp [Fits])
 | _ :: ws, _ :: t, h => by simp [Fits.len h.2]
end

section
open Go.RowKit Go.Shelf

theorem mul_wrap {a b : Int} (ha : -1000000000 ≤ a ∧ a ≤ 1000000000) (hb : -1000000000 ≤ b ∧ b ≤ 1000000000) : IntKind.i64.wrap (a * b) = a * b := by
 refine IntWalk.i64_in _ ?_
 have h1 : (a * b).natAbs ≤ 1000000000 * 1000000000 := by rw [Int.natAbs_mul]; exact Nat.mul_le_mul (by omega) (by omega)
 omega
theorem mul_wrap64 {a b : Int} (ha : -1000000000 ≤ a ∧ a ≤ 1000000000) (hb : -1000000000 ≤ b ∧ b ≤ 1000000000) : wrap64 (a * b) = a * b := by
 refine IntWalk.wrap64_in _ ?_
 have h1 : (a * b).natAbs ≤ 1000000000 * 1000000000 := by rw [Int.natAbs_mul]; exact Nat.mul_le_mul (by omega) (by omega)
 omega
end

section
open Go.RowKit Go.Shelf

/-- the product of the first k numbers -/
def prL (xs : List Int) : Nat → Int
 | 0 => 1
 | k + 1 => prL xs k * xs[k]?.getD 0
theorem get_bd {xs : List Int} {B : Int} (h : ∀ x ∈ xs, 0 ≤ x ∧ x ≤ B) (hB : 0 ≤ B) (k : Nat) : 0 ≤ xs[k]?.getD 0 ∧ xs[k]?.getD 0 ≤ B := by
 cases hk : xs[k]? with
 | none => exact ⟨Int.le_refl _, hB⟩
 | some x => exact h x (List.mem_of_getElem? hk)
theorem prL_bd {xs : List Int} (h : ∀ x ∈ xs, 0 ≤ x ∧ x ≤ 100) : ∀ k, 0 ≤ prL xs k ∧ prL xs k ≤ ((100 ^ k : Nat) : Int)
 | 0 => by simp [prL]
 | k + 1 => by
  obtain ⟨h1, h2⟩ := prL_bd h k
  obtain ⟨h3, h4⟩ := get_bd h (by omega) k
  refine ⟨Int.mul_nonneg h1 h3, ?_⟩
  have := Int.mul_le_mul h2 h4 h3 (by omega)
  rw [Nat.pow_succ]; push_cast at this ⊢; exact this
theorem pow100 {k : Nat} (h : k ≤ 4) : (100 ^ k : Nat) ≤ 100000000 := Nat.le_trans (Nat.pow_le_pow_right (by decide) h) (by decide)
theorem own_mono {w : World} {b b' : Nat} {v : Value} {xs : List Int} (h : Own w b v xs) (hb : b' ≤ b) : Own w b' v xs := by
 refine ⟨h.1, ?_⟩
 rcases h.2 with h1 | ⟨g, cap, cur, h1, h2, h3⟩
 ·exact Or.inl h1
 ·exact Or.inr ⟨g, cap, cur, h1, by omega, h3⟩
end

section
open Go.RowKit Go.Shelf
section
variable {P : Program} {o : Oper} {a : Act} {w : World} {K : Act → World → Prop} {Q : Exit → Act → World → Prop}
theorem wp_alloc_new (T : TypeId) (ho : o.op = .alloc T) (z : Value) (hz : (zeroValue T).run P w = .ok z w)
  (h : ∀ g W, w.heap.size = g → Blk W g T z.cells → Below w.heap.size w W → W.heap.size = g + 1 → K (a.put o.dst (.pointer (some ⟨g, 0, none⟩))) W) : o.wp P a w K Q := by
 have := h w.heap.size (w.alloc (.cells z.cells T)) rfl (Blk.new _ _ _) (fr_alloc (fr_refl _) _) (by simp)
 unfold Oper.wp
 simp [execOp, ho, Instr.alloc, newVar, newRow, hz, Result.andThen, go_sem]
 exact this
end
end

section
open Go.RowKit Go.Shelf

theorem RdS.nth {w : World} {A : Option Addr} {k : Nat} {rows : List (List Value)} (h : RdS w A k rows) {i : Nat} {r : List Value} (hi : rows[i]? = some r) :
  ∃ ad, A = some ad ∧ ad.block < w.heap.size ∧ (∀ v, r[0]? = some v → w.cell? (ad.add (i * k)) = some v) ∧ ∀ j v, r[j + 1]? = some v → w.cell? ⟨(ad.add (i * k)).block, (ad.add (i * k)).off + (j + 1), none⟩ = some v := by
 obtain ⟨ad, e, hb, _, hc⟩ := h.at_ hi
 refine ⟨ad, e, hb, fun v hv => hc 0 v hv, fun j v hv => ?_⟩
 have := hc (j + 1) v hv
 have h2 : ad.add (i * k + (j + 1)) = (ad.add (i * k)).add (j + 1) := by unfold Addr.add; by_cases h0 : i * k = 0 <;> simp [h0, Nat.add_assoc]
 rw [h2] at this
 exact this
theorem whs_at {w : World} {A : Option Addr} {ws : List Wh} (h : RdS w A 2 (ws.map Wh.cells)) {k : Nat} (hk : k < ws.length) :
  ∃ ad, A = some ad ∧ ad.block < w.heap.size ∧ w.cell? (ad.add (k * 2)) = some (.int .i64 ws[k].lo) ∧ w.cell? ⟨(ad.add (k * 2)).block, (ad.add (k * 2)).off + 1, none⟩ = some (.int .i64 ws[k].hi) := by
 obtain ⟨ad, e, hb, h0, h1⟩ := h.nth (i := k) (r := ws[k].cells) (by simp [hk])
 exact ⟨ad, e, hb, h0 _ rfl, h1 0 _ rfl⟩
end
end Go.Proofs.YtdocgmafbacjcaaGreatDoor
end

section
namespace Go.Proofs.YtdocgmafbacjcaaGreatDoor

/-- turned by some steps a list is another one -/
def SameAt (a b : List Int) (k : Nat) : Prop := ∀ i, i < a.length → a[i]?.getD 0 = b[(i + k) % b.length]?.getD 0
theorem count_one {b : Nat} (x : Nat) (hx : x < b) : (List.range b).countP (fun i => decide (i = x)) = 1 := by
 induction b with
 | zero => omega
 | succ b ih =>
  rw [List.range_succ, List.countP_append, List.countP_singleton]
  by_cases h : x = b
  ·subst h
   rw [List.countP_eq_zero.2 (fun i hi => by have := List.mem_range.1 hi; simp; omega)]
   simp
  ·rw [ih (by omega)]
   simp [Ne.symm h]
end Go.Proofs.YtdocgmafbacjcaaGreatDoor
end

section
namespace Go.Proofs.YtdocgmafbacjcaaGreatDoor
open Go.RowKit

set_option maxHeartbeats 400000 in
theorem cin_is (x lo hi : Int) (w : World) (b : Bool) (hb : inB x lo hi = b) :
  Calls Tryz.prog 210 #[.int .i64 x, .int .i64 lo, .int .i64 hi] w fun e w' => e = .returned (.bool b) ∧ w = w' := by
 subst hb
 by_cases h : lo ≤ x
 ·go_enter Tryz.func210, Tryz.ntmps210
  go_wp2
  go_ret
  exact ⟨ret_bool (by simp [inB, h]), rfl⟩
 ·go_enter Tryz.func210, Tryz.ntmps210
  go_wp2
  go_ret
  exact ⟨ret_bool (by simp only [inB]; rw [eq_comm, decide_eq_false_iff_not]; omega), rfl⟩
set_option maxHeartbeats 2000000 in
theorem isHeight_is (x : Int) (w : World) (b : Bool) (hb : inB x 0 30 = b) :
  Calls Tryz.prog 212 #[.int .i64 x] w fun e w' => e = .returned (.bool b) ∧ w = w' := by
 go_enter Tryz.func212, Tryz.ntmps212
 go_wp2_with fail
 refine (cin_is _ _ _ _ _ hb).mono ?_
 rintro e w' ⟨rfl, rfl⟩
 go_wp2_with fail
 go_ret
 exact ⟨rfl, rfl⟩
set_option maxHeartbeats 2000000 in
theorem isCam1_yes (x : Int) (w : World) (h1 : inB x 0 30 = true) :
  Calls Tryz.prog 211 #[.int .i64 x] w fun e w' => e = .returned (.bool false) ∧ w = w' := by
 go_enter Tryz.func211, Tryz.ntmps211
 go_wp2_with fail
 refine (isHeight_is _ _ _ h1).mono ?_
 rintro e w' ⟨rfl, rfl⟩
 go_wp2_with fail
 go_ret
 exact ⟨rfl, rfl⟩
/-- heights of a cam -/
def HeightsOk (l : List Int) : Prop := ∀ x ∈ l, 0 ≤ x ∧ x ≤ 30
set_option maxRecDepth 100000 in
set_option maxHeartbeats 4000000 in
theorem index_cam (A : Option Addr) (n c : Nat) (l : List Int) (w : World) (hr : Rd w A n l) (hn : n ≤ 1000) (ht : HeightsOk l) :
  Calls Tryz.prog 174 #[.slice A n c, .func (.func 211) #[] #[]] w fun e' w' => e' = .returned (.int .i64 (-1)) ∧ w = w' := by
 have HL := Lib.hid hr.len
 go_enter Tryz.func174, Tryz.ntmps174
 go_wp2
 go_loopw [8] (fun i wr => ∃ k : Nat, k ≤ n ∧ i = .int .i64 k ∧ wr = w) (fun i _ => n - (intOf i).toNat)
 case atStart => exact ⟨0, Nat.zero_le _, rfl, rfl⟩
 case round =>
  obtain ⟨k, hk, rfl, rfl⟩ := hrel
  by_cases hlt : k < n
  ·have hkl : k < l.length := by have := HL.out; omega
   obtain ⟨ad, rfl, hab, hc0⟩ := hr.at_ hlt
   have htk : inB (l[k]?.getD 0) 0 30 = true := by
    rw [show l[k]?.getD 0 = l[k] by simp [hkl]]
    exact inB_yes (ht _ (List.getElem_mem hkl))
   generalize l[k]?.getD 0 = y at *
   clear hr
   go_wp2_with fail
   refine (isCam1_yes _ _ htk).mono ?_
   rintro e w1 ⟨rfl, rfl⟩
   go_wp2_with fail
   refine ⟨⟨k + 1, hlt, rfl, trivial⟩, ?_⟩
   simp [intOf]; omega
  ·go_wp2_with fail
   go_ret
   exact ⟨rfl, rfl⟩
set_option maxHeartbeats 2000000 in
theorem contains_cam (A : Option Addr) (n c : Nat) (l : List Int) (w : World) (hr : Rd w A n l) (hn : n ≤ 1000) (ht : HeightsOk l) :
  Calls Tryz.prog 105 #[.slice A n c, .func (.func 211) #[] #[]] w fun e' w' => e' = .returned (.bool false) ∧ w = w' := by
 go_enter Tryz.func105, Tryz.ntmps105
 go_wp2_with fail
 refine (index_cam A n c l w hr hn ht).mono ?_
 rintro e w1 ⟨rfl, rfl⟩
 go_wp2_with fail
 go_ret
 exact ⟨rfl, rfl⟩
set_option maxHeartbeats 2000000 in
theorem isCam_yes (A : Option Addr) (n c : Nat) (l : List Int) (w : World) (hr : Rd w A n l) (hn : 3 ≤ n ∧ n ≤ 24) (ht : HeightsOk l) :
  Calls Tryz.prog 150 #[.slice A n c] w fun e' w' => e' = .returned (.bool true) ∧ w = w' := by
 have hi : inB (n : Int) 3 24 = true := inB_yes (by omega)
 have hc := contains_cam A n c l w hr (by omega) ht
 clear hr ht
 go_enter Tryz.func150, Tryz.ntmps150
 go_wp2_with fail
 refine (cin_is _ _ _ _ _ hi).mono ?_
 rintro e w' ⟨rfl, rfl⟩
 go_wp2_with fail
 refine hc.mono ?_
 rintro e w1 ⟨rfl, rfl⟩
 go_wp2_with fail
 go_ret
 exact ⟨rfl, rfl⟩
set_option maxHeartbeats 2000000 in
theorem areCams_yes (A B : Option Addr) (n c d : Nat) (a b : List Int) (w : World) (ha : Rd w A n a) (hb : Rd w B n b) (hn : 3 ≤ n ∧ n ≤ 24) (h1 : HeightsOk a) (h2 : HeightsOk b) :
  Calls Tryz.prog 83 #[.slice A n c, .slice B n d] w fun e' w' => e' = .returned (.bool true) ∧ w = w' := by
 have q1 := isCam_yes A n c a w ha hn h1
 have q2 := isCam_yes B n d b w hb hn h2
 have q3 : ((n : Int) == (n : Int)) = true := beq_self_eq_true _
 clear ha hb hn h1 h2
 go_enter Tryz.func83, Tryz.ntmps83
 go_wp2_with fail
 refine q1.mono ?_
 rintro e w' ⟨rfl, rfl⟩
 go_wp2_with fail
 refine q2.mono ?_
 rintro e w' ⟨rfl, rfl⟩
 go_wp2_with fail
 go_ret
 exact ⟨rfl, rfl⟩
set_option maxRecDepth 100000 in
set_option maxHeartbeats 8000000 in
theorem turned_any (A B : Option Addr) (n c d k : Nat) (a b : List Int) (w : World) (ha : Rd w A n a) (hb : Rd w B n b) (hn : 3 ≤ n ∧ n ≤ 24) (h1 : HeightsOk a) (h2 : HeightsOk b) (hk : k < n) (hs : SameAt a b k) (hno : ∀ j, j < k → ¬ SameAt a b j) :
  Calls Tryz.prog 25 #[.slice A n c, .slice B n d] w fun e' w' => e' = .returned (.tuple #[.int .i64 k, .int .i64 0]) ∧ w = w' := by
 have hac := areCams_yes A B n c d a b w ha hb hn h1 h2
 have HA := Lib.hid ha.len
 have HB := Lib.hid hb.len
 have HS := Lib.hid hs
 have HNO := Lib.hid hno
 clear h1 h2 hs hno
 go_enter Tryz.func25, Tryz.ntmps25
 go_wp2_with fail
 go_step3
 go_wp2_with fail
 refine hac.mono ?_
 rintro e w' ⟨rfl, rfl⟩
 clear hac
 go_wp2_with fail
 go_step3
 go_wp2_with fail
 go_loopg [15] n (fun gh t wr => ∃ j : Nat, j + gh = n ∧ j ≤ k ∧ t = .int .i64 j ∧ wr = w)
 case atStart => exact ⟨0, Nat.zero_add _, Nat.zero_le _, rfl, rfl⟩
 case round =>
  obtain ⟨j, hjg, hj, rfl, rfl⟩ := hrel
  cases gk with
  | zero => omega
  | succ gn =>
   have j1 : (j : Int) < (n : Int) := by omega
   go_wp2_with fail
   go_loopg [20] n (fun gi t w' => ∃ i : Nat, i + gi = n ∧ t = .int .i64 i ∧ Hid (∀ z, z < i → a[z]?.getD 0 = b[(z + j) % b.length]?.getD 0) ∧ w' = wr)
   case atStart => exact ⟨0, Nat.zero_add _, rfl, Lib.hid (fun _ h => absurd h (by omega)), rfl⟩
   case round =>
    obtain ⟨i, hig, rfl, hall, rfl⟩ := hrel
    cases gk with
    | zero =>
     obtain rfl : i = n := by omega
     have hsj : SameAt a b j := fun z hz => hall.out z (by rw [← HA.out]; exact hz)
     obtain rfl : j = k := by
      rcases Nat.lt_or_ge j k with h | h
      ·exact absurd hsj (HNO.out j h)
      ·omega
     clear hsj ha hb
     have q0 : ¬ (i : Int) < (i : Int) := by omega
     go_wp2_with fail
     go_ret2
     exact ⟨rfl, rfl⟩
    | succ gj =>
     have hlt : i < n := by omega
     obtain ⟨ad, rfl, hab, ca⟩ := ha.at_ hlt
     obtain ⟨m, hm⟩ : ∃ m, (i + j) % n = m := ⟨_, rfl⟩
     have hmn : m < n := by rw [← hm]; exact Nat.mod_lt _ (by omega)
     obtain ⟨ae, rfl, hae, cb⟩ := hb.at_ hmn
     have i1 : 0 ≤ (i : Int) := by omega
     have i2 : (i : Int) < (n : Int) := by omega
     have m1 : 0 ≤ (m : Int) := by omega
     have m2 : (m : Int) < (n : Int) := by omega
     have z1 : IntKind.i64.wrap ((i : Int) + (j : Int)) = (i : Int) + (j : Int) := IntWalk.i64_in _ (by omega)
     have z2 : ((i : Int) + (j : Int)).tmod (n : Int) = (m : Int) := by
      rw [← hm, ← Int.natCast_add]
      rfl
     have z3 : IntKind.i64.wrap (m : Int) = (m : Int) := IntWalk.i64_in _ (by omega)
     have z4 : ((n : Int) == 0) = false := beq_eq_false_iff_ne.2 (by omega)
     have HM := Lib.hid (show b[(i + j) % b.length]?.getD 0 = b[m]?.getD 0 by rw [HB.out, hm])
     obtain ⟨x, hx⟩ : ∃ x, a[i]?.getD 0 = x := ⟨_, rfl⟩
     obtain ⟨y, hy⟩ : ∃ y, b[m]?.getD 0 = y := ⟨_, rfl⟩
     rw [hx] at ca
     rw [hy] at cb HM
     have HX := Lib.hid hx
     have hxl : i < a.length := by rw [HA.out]; exact hlt
     clear hm hx hy ha hb
     by_cases hxy : x = y
     ·subst hxy
      have d0 : (x != x) = false := by simp
      have HN := Lib.hid (show ∀ z, z < i + 1 → a[z]?.getD 0 = b[(z + j) % b.length]?.getD 0 from fun z hz => by
       by_cases e : z = i
       ·subst e; rw [HX.out, HM.out]
       ·exact hall.out z (by omega))
      go_wp2_with fail
      go_roundg gj
      case measure => omega
      case rel => exact ⟨i + 1, by omega, by go_num, HN, rfl⟩
     ·have d0 : (x != y) = true := bne_iff_ne.2 hxy
      have hjk : j < k := by
       rcases Nat.lt_or_ge j k with h | h
       ·exact h
       ·obtain rfl : j = k := by omega
        exact absurd (by have := HS.out i hxl; rw [HX.out, HM.out] at this; exact this) hxy
      clear hxy
      go_wp2_with fail
      go_roundg gn
      case measure => omega
      case rel => exact ⟨j + 1, by omega, by omega, by go_num, rfl⟩
end Go.Proofs.YtdocgmafbacjcaaGreatDoor
end

section
namespace Go.Proofs.YtdocgmafbacjcaaGreatDoor
open Go.RowKit

end Go.Proofs.YtdocgmafbacjcaaGreatDoor
end

section
namespace Go.Proofs.YtdocgmafbacjcaaGreatDoor
open Go.RowKit

set_option maxHeartbeats 400000 in
theorem pin_is (x lo hi : Int) (w : World) (b : Bool) (hb : inB x lo hi = b) :
  Calls Tryz.prog 77 #[.int .i64 x, .int .i64 lo, .int .i64 hi] w fun e w' => e = .returned (.bool b) ∧ w = w' := by
 subst hb
 by_cases h : lo ≤ x
 ·go_enter Tryz.func77, Tryz.ntmps77
  go_wp2
  go_ret
  exact ⟨ret_bool (by simp [inB, h]), rfl⟩
 ·go_enter Tryz.func77, Tryz.ntmps77
  go_wp2
  go_ret
  exact ⟨ret_bool (by simp only [inB]; rw [eq_comm, decide_eq_false_iff_not]; omega), rfl⟩
theorem rdA {w : World} {A : Option Addr} {n : Nat} {xs : List Int} (h : Rd w A n xs) (hn : 0 < n) :
  ∃ b off, A = some ⟨b, off, none⟩ ∧ b < w.heap.size ∧ ∀ j, j < n → w.cell? ⟨b, off + j, none⟩ = some (.int .i64 (xs[j]?.getD 0)) := by
 obtain ⟨ad, e, hb, hc⟩ := h.2 hn
 obtain ⟨b, off, spot⟩ := ad
 have h0 := hc 0 hn
 cases spot with
 | none => exact ⟨b, off, e, hb, fun j hj => by have := hc j hj; rw [add_lit] at this; exact this⟩
 | some s =>
  exfalso
  simp only [Addr.add, if_true] at h0
  unfold World.cell? at h0
  split at h0 <;> simp at h0
theorem hasI_any (A : Option Addr) (n c : Nat) (xs : List Int) (x : Int) (w : World) (hr : Rd w A n xs) (hn : n ≤ 9223372036854775807) (b : Bool) (hb : xs.contains x = b) :
  Calls Tryz.prog 103 #[.slice A n c, .int .i64 x] w fun e' w' => e' = .returned (.bool b) ∧ w = w' := by
 subst hb
 by_cases h0 : n = 0
 ·subst h0
  have := hr.len
  obtain rfl : xs = [] := List.length_eq_zero_iff.1 this
  exact (Tryz.slices_Contains_int_empty A c x w).mono fun _ _ h => ⟨h.1, h.2.symm⟩
 ·obtain ⟨b0, off, rfl, hlt, hc⟩ := rdA hr (by omega)
  have hlen := hr.len
  have htake : xs.take n = xs := List.take_of_length_le (by omega)
  refine (Tryz.slices_Contains_int b0 off n c xs x w (by omega) hn (fun j hj => ?_)).mono ?_
  ·rw [hc j (by omega)]; simp
  ·rw [htake]; exact fun _ _ h => ⟨h.1, h.2.symm⟩
end Go.Proofs.YtdocgmafbacjcaaGreatDoor
end
