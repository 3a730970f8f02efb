/- Walks: feasts as defined. Slices of structs that read as rows; the search of a slice by a function; areFeasts. Walk: the days of feasts in a year. Walks: Feasts, isRange. Walk: Meet's 'twice'. Walk: Meet (begun). Walk: Meet's errors. -/
import Derived.Test.YtnppilaabobgiaaGreatDoorMB5
import Derived.Outline
import Derived.Deep.LoopGhost
section
namespace Go.Proofs.YtnppilaabobgiaaGreatDoor
open Go.RowKit Dl

structure Feast where
  mv : Bool
  m : Int
  d : Int
  a : Int
def feastB (f : Feast) : Bool := if f.mv = true then (f.m == 0 && f.d == 0 && inB f.a (-60) 60) else (f.a == 0 && inB f.m 1 12 && inB f.d 1 31)

set_option maxHeartbeats 2000000 in
theorem areFeasts1_is (f : Feast) (w : World) (b : Bool) (hb : feastB f = !b) :
    Calls Tryz.prog 128 #[.agg #[.bool f.mv, .int .i64 f.m, .int .i64 f.d, .int .i64 f.a]] w fun e' w' => e' = .returned (.bool b) ∧ Below w.heap.size w w' := by
  obtain ⟨mv, m, d, a⟩ := f
  obtain rfl : b = !feastB ⟨mv, m, d, a⟩ := by rw [hb]; simp
  clear hb
  cases mv
  · cases ha : (a == 0)
    · have ha' : (a != 0) = true := by simpa using ha
      have hv : feastB ⟨false, m, d, a⟩ = false := by simp only [feastB, Bool.false_eq_true, if_false, ha, Bool.false_and]
      rw [hv]
      go_enter Tryz.func128, Tryz.ntmps128
      go_wp2_with fail
      go_ret
      exact ⟨rfl, fr_alloc (fr_refl _) _⟩
    · have ha' : (a != 0) = false := by simpa using ha
      cases hm : inB m 1 12
      · have hv : feastB ⟨false, m, d, a⟩ = false := by simp only [feastB, Bool.false_eq_true, if_false, ha, hm, Bool.false_and, Bool.and_false]
        rw [hv]
        go_enter Tryz.func128, Tryz.ntmps128
        go_wp2_with fail
        refine (in_is _ _ _ _ _ hm).mono ?_
        rintro e w' ⟨rfl, rfl⟩
        go_wp2_with fail
        go_ret
        exact ⟨rfl, fr_alloc (fr_refl _) _⟩
      · have hv : feastB ⟨false, m, d, a⟩ = inB d 1 31 := by simp only [feastB, Bool.false_eq_true, if_false, ha, hm, Bool.true_and]
        rw [hv]
        go_enter Tryz.func128, Tryz.ntmps128
        go_wp2_with fail
        refine (in_is _ _ _ _ _ hm).mono ?_
        rintro e w' ⟨rfl, rfl⟩
        go_wp2_with fail
        refine (in_is _ _ _ _ _ rfl).mono ?_
        rintro e w' ⟨rfl, rfl⟩
        go_wp2_with fail
        go_ret
        exact ⟨rfl, fr_alloc (fr_refl _) _⟩
  · cases hm : (m == 0)
    · have hm' : (m != 0) = true := by simpa using hm
      have hv : feastB ⟨true, m, d, a⟩ = false := by simp only [feastB, if_true, hm, Bool.false_and]
      rw [hv]
      go_enter Tryz.func128, Tryz.ntmps128
      go_wp2_with fail
      go_ret
      exact ⟨rfl, fr_alloc (fr_refl _) _⟩
    · have hm' : (m != 0) = false := by simpa using hm
      cases hd : (d == 0)
      · have hd' : (d != 0) = true := by simpa using hd
        have hv : feastB ⟨true, m, d, a⟩ = false := by simp only [feastB, if_true, hm, hd, Bool.false_and, Bool.and_false]
        rw [hv]
        go_enter Tryz.func128, Tryz.ntmps128
        go_wp2_with fail
        go_ret
        exact ⟨rfl, fr_alloc (fr_refl _) _⟩
      · have hd' : (d != 0) = false := by simpa using hd
        have hv : feastB ⟨true, m, d, a⟩ = inB a (-60) 60 := by simp only [feastB, if_true, hm, hd, Bool.true_and]
        rw [hv]
        go_enter Tryz.func128, Tryz.ntmps128
        go_wp2_with fail
        refine (in_is _ _ _ _ _ rfl).mono ?_
        rintro e w' ⟨rfl, rfl⟩
        go_wp2_with fail
        go_ret
        exact ⟨rfl, fr_alloc (fr_refl _) _⟩
end Go.Proofs.YtnppilaabobgiaaGreatDoor
end

section
namespace Go.Proofs.YtnppilaabobgiaaGreatDoor
open Go.RowKit Dl

/-- the slice value that begins at A reads as the rows, each of k cells -/
def RdS (w : World) (A : Option Addr) (k : Nat) (rows : List (List Value)) : Prop :=
  0 < rows.length → ∃ ad, A = some ad ∧ ad.block < w.heap.size ∧ ∀ i r, rows[i]? = some r → r.length = k ∧ ∀ j v, r[j]? = some v → w.cell? (ad.add (i * k + j)) = some v
theorem RdS.keep {w w' : World} {A : Option Addr} {k : Nat} {rows : List (List Value)} (h : RdS w A k rows) (hb : Below w.heap.size w w') : RdS w' A k rows := fun hn => by
  obtain ⟨ad, e, hlt, hc⟩ := h hn
  exact ⟨ad, e, Nat.lt_of_lt_of_le hlt hb.size, fun i r hr => ⟨(hc i r hr).1, fun j v hv => (hb.cell (by rw [block_of_add]; exact hlt)).trans ((hc i r hr).2 j v hv)⟩⟩
theorem RdS.at_ {w : World} {A : Option Addr} {k : Nat} {rows : List (List Value)} (h : RdS w A k rows) {i : Nat} {r : List Value} (hi : rows[i]? = some r) :
    ∃ ad, A = some ad ∧ ad.block < w.heap.size ∧ r.length = k ∧ ∀ j v, r[j]? = some v → w.cell? (ad.add (i * k + j)) = some v := by
  have hl : i < rows.length := (List.getElem?_eq_some_iff.1 hi).1
  obtain ⟨ad, e, hlt, hc⟩ := h (by omega)
  exact ⟨ad, e, hlt, (hc i r hi).1, (hc i r hi).2⟩

def Feast.row (f : Feast) : List Value := [.bool f.mv, .int .i64 f.m, .int .i64 f.d, .int .i64 f.a]
def feastsB (l : List Feast) : Bool := decide (l.length ≤ 6) && l.all feastB

theorem all_step {α : Type} {p : α → Bool} {l : List α} {k : Nat} (h : k < l.length) (ha : (l.take k).all p = true) (hf : p l[k] = true) : (l.take (k + 1)).all p = true := by
  rw [List.take_succ_eq_append_getElem h, List.all_append, ha]; simp [hf]
theorem all_no {α : Type} {p : α → Bool} {l : List α} {k : Nat} (h : k < l.length) (hf : p l[k] = false) : l.all p = false := by
  rw [List.all_eq_false]; exact ⟨l[k], List.getElem_mem h, by simp [hf]⟩

set_option maxRecDepth 100000 in
set_option maxHeartbeats 2000000 in
theorem indexFeast (A : Option Addr) (c : Nat) (l : List Feast) (w : World) (hr : RdS w A 4 (l.map Feast.row)) (hn : l.length ≤ 9223372036854775807) (b : Bool) (hb : l.all feastB = b) :
    Calls Tryz.prog 156 #[.slice A l.length c, .func (.func 128) #[] #[]] w fun e' w' => ∃ k : Int, e' = .returned (.int .i64 k) ∧ ((b = true ∧ k = -1) ∨ (b = false ∧ 0 ≤ k)) ∧ Below w.heap.size w w' := by
  go_enter Tryz.func156, Tryz.ntmps156
  go_wp2
  generalize hlen : l.length = n at *
  have HL := Lib.hid hlen
  clear hlen
  go_loopw [8] (fun i wr => ∃ k : Nat, k ≤ n ∧ i = .int .i64 k ∧ (l.take k).all feastB = true ∧ Below w.heap.size w wr) (fun i _ => n - (intOf i).toNat)
  case atStart => exact ⟨0, Nat.zero_le _, rfl, by simp, fr_refl _⟩
  case round =>
    obtain ⟨k, hk, rfl, hall, hbel⟩ := hrel
    by_cases hlt : k < n
    · have hkl : k < l.length := by have := HL.out; omega
      have hrow : (l.map Feast.row)[k]? = some (l[k].row) := by simp [hkl]
      obtain ⟨ad, rfl, hab, _, hc⟩ := (hr.keep hbel).at_ hrow
      have hq : ∀ j, ad.add (k * 4 + (j + 1)) = (ad.add (k * 4)).add (j + 1) := fun j => by
        unfold Addr.add; by_cases h0 : k * 4 = 0 <;> simp [h0, Nat.add_assoc]
      have hc0 : wr.cell? (ad.add (k * 4)) = some (.bool l[k].mv) := hc 0 _ rfl
      have hc1 : wr.cell? ⟨(ad.add (k * 4)).block, (ad.add (k * 4)).off + 1, none⟩ = _ := (congrArg wr.cell? (hq 0)).symm.trans (hc 1 _ rfl)
      have hc2 : wr.cell? ⟨(ad.add (k * 4)).block, (ad.add (k * 4)).off + 2, none⟩ = _ := (congrArg wr.cell? (hq 1)).symm.trans (hc 2 _ rfl)
      have hc3 : wr.cell? ⟨(ad.add (k * 4)).block, (ad.add (k * 4)).off + 3, none⟩ = _ := (congrArg wr.cell? (hq 2)).symm.trans (hc 3 _ rfl)
      clear hc hrow hr hq
      go_wp2_with fail
      cases hf : feastB l[k]
      · refine (areFeasts1_is _ _ true (by simp [hf])).mono ?_
        rintro e w1 ⟨rfl, hb1⟩
        go_wp2_with fail
        go_ret
        refine ⟨k, rfl, Or.inr ⟨?_, by omega⟩, fr_call hbel hb1⟩
        rw [← hb]
        exact all_no hkl hf
      · refine (areFeasts1_is _ _ false (by simp [hf])).mono ?_
        rintro e w1 ⟨rfl, hb1⟩
        go_wp2_with fail
        refine ⟨⟨k + 1, hlt, rfl, all_step hkl hall hf, fr_call hbel hb1⟩, ?_⟩
        simp [intOf]; omega
    · go_wp2_with fail
      go_ret
      refine ⟨-1, rfl, Or.inl ⟨?_, rfl⟩, hbel⟩
      rw [← hb, ← List.take_of_length_le (l := l) (i := k) (by have := HL.out; omega)]; exact hall

set_option maxHeartbeats 2000000 in
theorem containsFeast (A : Option Addr) (c : Nat) (l : List Feast) (w : World) (hr : RdS w A 4 (l.map Feast.row)) (hn : l.length ≤ 9223372036854775807) (b : Bool) (hb : l.all feastB = b) :
    Calls Tryz.prog 127 #[.slice A l.length c, .func (.func 128) #[] #[]] w fun e' w' => e' = .returned (.bool (!b)) ∧ Below w.heap.size w w' := by
  go_enter Tryz.func127, Tryz.ntmps127
  go_wp2_with fail
  refine (indexFeast A c l w hr hn b hb).mono ?_
  rintro e w1 ⟨k, rfl, hk, hb1⟩
  go_wp2_with fail
  go_ret
  refine ⟨ret_bool ?_, hb1⟩
  rcases hk with ⟨rfl, rfl⟩ | ⟨rfl, hk⟩
  · rfl
  · simpa using hk

set_option maxHeartbeats 2000000 in
theorem areFeasts_is (A : Option Addr) (c : Nat) (l : List Feast) (w : World) (hr : RdS w A 4 (l.map Feast.row)) (hn : l.length ≤ 9223372036854775807) :
    Calls Tryz.prog 95 #[.slice A l.length c] w fun e' w' => e' = .returned (.bool (feastsB l)) ∧ Below w.heap.size w w' := by
  have h0 := containsFeast A c l w hr hn _ rfl
  unfold feastsB
  generalize l.all feastB = b at *
  by_cases h6 : l.length ≤ 6
  · have h6' : decide (l.length ≤ 6) = true := by simpa using h6
    have h6i : decide ((l.length : Int) ≤ 6) = true := decide_eq_true (by omega)
    rw [h6', Bool.true_and]
    clear h6'
    go_enter Tryz.func95, Tryz.ntmps95
    go_wp2_with fail
    refine h0.mono ?_
    rintro e w1 ⟨rfl, hb1⟩
    go_wp2_with fail
    go_ret
    exact ⟨ret_bool (by simp), hb1⟩
  · have h6' : decide (l.length ≤ 6) = false := by simpa using h6
    have h6i : decide ((l.length : Int) ≤ 6) = false := decide_eq_false (by omega)
    rw [h6', Bool.false_and]
    clear h6'
    go_enter Tryz.func95, Tryz.ntmps95
    go_wp2_with fail
    go_ret
    exact ⟨rfl, fr_refl _⟩
end Go.Proofs.YtnppilaabobgiaaGreatDoor
end

section
namespace Go.Proofs.YtnppilaabobgiaaGreatDoor
open Go.RowKit Dl

def feastDay (e : Int) (cs : List Int) (num den add y : Int) (f : Feast) : Int :=
  if f.mv = true then easterDay e cs num den add y + f.a else if realB cs y f.m f.d = true then dayOf e cs ⟨y, f.m, f.d⟩ else -1

theorem grown_own {a b c : World} {r s : Option Nat} (h : a.grownBy b r) (k : b.grownBy c s) (hs : ∀ i, s = some i → a.heap.size ≤ i) : a.grownBy c r :=
  ⟨k.os.trans h.os, k.tape.trans h.tape, k.output.trans h.output, Nat.le_trans h.size k.size, fun i hi hne => (k.block i (Nat.lt_of_lt_of_le hi h.size) (by intro e; have := hs i e.symm; omega)).trans (h.block i hi hne)⟩
theorem EMap.far {w w' : World} {M : Nat} {f : Int → Int} {s : Option Nat} (h : EMap w M f) (k : w.grownBy w' s) (hs : some M ≠ s) : EMap w' M f := by
  obtain ⟨es, clock, hb, hx⟩ := h
  exact ⟨es, clock, (k.block M (heap_lt hb) hs).trans hb, hx⟩
theorem RdS.farM {w w' : World} {A : Option Addr} {k M : Nat} {rows : List (List Value)} {f : Int → Int} (hk : 0 < k) (h : RdS w A k rows) (hE : EMap w M f) (hg : w.grownBy w' (some M)) : RdS w' A k rows := fun hn => by
  obtain ⟨ad, e, hlt, hc⟩ := h hn
  have hne : ad.block ≠ M := by
    obtain ⟨es, clock, hm, _⟩ := hE
    intro e'
    have h0 := hc 0 rows[0] (by simp [hn])
    have h1 := h0.2 0 rows[0][0] (by rw [List.getElem?_eq_getElem])
    unfold World.cell? at h1
    rw [block_of_add, e', hm] at h1
    cases h1
  exact ⟨ad, e, Nat.lt_of_lt_of_le hlt hg.size, fun i r hr => ⟨(hc i r hr).1, fun j v hv => (World.cell?_of_block (hg.block _ (by rw [block_of_add]; exact hlt) (by rw [block_of_add]; intro e'; cases e'; exact hne rfl))).trans ((hc i r hr).2 j v hv)⟩⟩

theorem day_of_21 {e y : Int} {cs : List Int} (he : 0 ≤ e ∧ e ≤ 1000) (hy : 0 ≤ y ∧ y ≤ 4000) : -10000000 ≤ dayOf e cs ⟨y, 3, 21⟩ ∧ dayOf e cs ⟨y, 3, 21⟩ ≤ 10000000 := by
  have a := cum_bounds (leapB cs y) 3 (by decide) (by decide)
  have b := firstDay_bounds e cs y hy.1
  have hc : dayOf e cs ⟨y, 3, 21⟩ = firstDay e cs y + cum (leapB cs y) 3 + 21 - 1 := rfl
  omega
theorem owns_far {w w' : World} {base M : Nat} {v : Value} {xs : List Int} (h : Own w base v xs) (k : w.grownBy w' (some M)) (hM : M < base) : Own w' base v xs :=
  World.ownsRow.kept h k (.inr (by intro e; have := own_ge h M e; omega))

theorem Own.cap {w : World} {base : Nat} {A : Option Addr} {n c : Nat} {xs : List Int} (h : Own w base (.slice A n c) xs) : n ≤ c := by
  rcases h.2 with ⟨h0, _⟩ | ⟨g, cap, cur, hv, _, _, hle, _⟩
  · injection h0 with _ h1 h2
    omega
  · injection hv with _ h1 h2
    omega

set_option maxRecDepth 100000 in
set_option maxHeartbeats 4000000 in
theorem feasts_any (A F L : Option Addr) (n c fc lc M : Nat) (cs : List Int) (e num den add y : Int) (l : List Feast) (w : World) (hr : Rd w A n cs) (hn : n ≤ 3) (hpos : Cyc cs) (hF : Rd w F 4002 (firsts e cs))
    (hL : RdS w L 4 (l.map Feast.row)) (hl : feastsB l = true)
    (he : 0 ≤ e ∧ e ≤ 1000) (hm : MoonOk num den add) (hy : 0 ≤ y ∧ y ≤ 4000) (hE : EMap w M (easterDay e cs num den add)) :
    Calls Tryz.prog 96 #[.agg #[.int .i64 e, .slice A n c, .int .i64 num, .int .i64 den, .int .i64 add, .slice F 4002 fc, .map (some M)], .slice L l.length lc, .int .i64 y] w fun e' w' =>
      ∃ B b, e' = .returned (.slice B (l.map (feastDay e cs num den add y)).length b) ∧ Rd w' B (l.map (feastDay e cs num den add y)).length (l.map (feastDay e cs num den add y)) ∧ Fresh w.heap.size B ∧ EMap w' M (easterDay e cs num den add) ∧ w.grownBy w' (some M) ∧ (l.map (feastDay e cs num den add y)).length ≤ b := by
  have hB1 := Blk.new w 114 #[.int .i64 e, .slice A n c, .int .i64 num, .int .i64 den, .int .i64 add, .slice F 4002 fc, .map (some M)]
  have g1 := fr_alloc (fr_refl w) (.cells #[.int .i64 e, .slice A n c, .int .i64 num, .int .i64 den, .int .i64 add, .slice F 4002 fc, .map (some M)] 114)
  go_enter Tryz.func96, Tryz.ntmps96
  go_wp2_with fail
  replace hr := hr.keep g1
  replace hF := hF.keep g1
  replace hL := hL.keep g1
  replace hE := hE.keep g1
  generalize w.alloc (.cells #[.int .i64 e, .slice A n c, .int .i64 num, .int .i64 den, .int .i64 add, .slice F 4002 fc, .map (some M)] 114) = W1 at *
  generalize hb1e : w.heap.size = b1 at *
  have HB := Lib.hid hb1e
  clear hb1e
  have hl6 : l.length ≤ 6 := by unfold feastsB at hl; simp at hl; exact hl.1
  have hla : ∀ f ∈ l, feastB f = true := by unfold feastsB at hl; simp at hl; exact hl.2
  have hbW : b1 ≤ W1.heap.size := Nat.le_of_lt hB1.lt
  generalize hlen : l.length = nl at *
  have HL := Lib.hid hlen
  clear hlen hl
  go_loopw [7, 14] (fun v i wr => ∃ k : Nat, k ≤ nl ∧ i = .int .i64 k ∧ Own wr W1.heap.size v ((l.take k).map (feastDay e cs num den add y)) ∧ EMap wr M (easterDay e cs num den add) ∧ W1.grownBy wr (some M)) (fun _ i _ => nl - (intOf i).toNat)
  case atStart => exact ⟨0, Nat.zero_le _, rfl, by simpa using Own.nil W1 W1.heap.size, hE, World.grownBy.refl _ _⟩
  case round =>
    obtain ⟨k, hk, rfl, hown, hEr, hgr⟩ := hrel
    have hBr := hB1.grown hgr (by have := hE.ne_blk hB1; simpa using this)
    have hcB := fun j => hBr.cell j
    have hrr := hr.farM hE hgr
    have hFr := hF.farM hE hgr
    have hLr := hL.farM (by decide) hE hgr
    have hMr := heap_lt hE.choose_spec.choose_spec.1
    by_cases hlt : k < nl
    · have hkl : k < l.length := by have := HL.out; omega
      have hrow : (l.map Feast.row)[k]? = some (l[k].row) := by simp [hkl]
      obtain ⟨ad, rfl, hab, _, hc⟩ := hLr.at_ hrow
      have hq : ∀ j, ad.add (k * 4 + (j + 1)) = (ad.add (k * 4)).add (j + 1) := fun j => by
        unfold Addr.add; by_cases h0 : k * 4 = 0 <;> simp [h0, Nat.add_assoc]
      have hc0 : wr.cell? (ad.add (k * 4)) = some (.bool l[k].mv) := hc 0 _ rfl
      have hc1 : wr.cell? ⟨(ad.add (k * 4)).block, (ad.add (k * 4)).off + 1, none⟩ = _ := (congrArg wr.cell? (hq 0)).symm.trans (hc 1 _ rfl)
      have hc2 : wr.cell? ⟨(ad.add (k * 4)).block, (ad.add (k * 4)).off + 2, none⟩ = _ := (congrArg wr.cell? (hq 1)).symm.trans (hc 2 _ rfl)
      have hc3 : wr.cell? ⟨(ad.add (k * 4)).block, (ad.add (k * 4)).off + 3, none⟩ = _ := (congrArg wr.cell? (hq 2)).symm.trans (hc 3 _ rfl)
      have hfk := hla l[k] (List.getElem_mem hkl)
      have hstep : (l.take (k + 1)).map (feastDay e cs num den add y) = (l.take k).map (feastDay e cs num den add y) ++ [feastDay e cs num den add y l[k]] := by
        rw [List.take_succ_eq_append_getElem hkl, List.map_append]; rfl
      generalize l[k] = f at *
      obtain ⟨mv, fm, fd, fa⟩ := f
      clear hc hrow hq
      have hbl := hBr.lt
      have hrl := Nat.le_trans hgr.size (Nat.le_refl _)
      cases mv
      · have g2 := fr_alloc (fr_alloc (fr_refl wr) (.cells #[.bool false, .int .i64 fm, .int .i64 fd, .int .i64 fa] 76)) (.cells #[.int .i64 y, .int .i64 fm, .int .i64 fd] 41)
        have hFb : Blk ((wr.alloc (.cells #[.bool false, .int .i64 fm, .int .i64 fd, .int .i64 fa] 76)).alloc (.cells #[.int .i64 y, .int .i64 fm, .int .i64 fd] 41)) wr.heap.size 76 #[.bool false, .int .i64 fm, .int .i64 fd, .int .i64 fa] := (Blk.new wr _ _).alloc _
        have hDb : Blk ((wr.alloc (.cells #[.bool false, .int .i64 fm, .int .i64 fd, .int .i64 fa] 76)).alloc (.cells #[.int .i64 y, .int .i64 fm, .int .i64 fd] 41)) (wr.heap.size + 1) 41 #[.int .i64 y, .int .i64 fm, .int .i64 fd] := Blk.new_at _ _ (by simp)
        obtain ⟨hm12, hd31⟩ : (1 ≤ fm ∧ fm ≤ 12) ∧ (1 ≤ fd ∧ fd ≤ 31) := by
          unfold feastB at hfk
          simp only [Bool.false_eq_true, if_false, Bool.and_eq_true, beq_iff_eq] at hfk
          exact ⟨inB_iff.1 hfk.1.2, inB_iff.1 hfk.2⟩
        go_wp2_with fail
        cases hrb : realB cs y fm fd
        · refine (isDate_is A n c cs _ _ _ _ _ _ y fm fd _ (hrr.keep g2) hn hpos _ hrb).mono ?_
          rintro e' wa ⟨rfl, hb1⟩
          have hfd : feastDay e cs num den add y ⟨false, fm, fd, fa⟩ = -1 := by unfold feastDay; simp [hrb]
          rw [hfd] at hstep
          have hownz := (hown.keep g2).keep hb1
          have hEz := (hEr.keep g2).keep hb1
          have hgz := grown_below (grown_below hgr g2) hb1
          have hlenx : ((l.take k).map (feastDay e cs num den add y)).length < 1000000 := by simp; omega
          go_wp2_with (at_builtin; refine app_int rfl (.tmp 38) (.tmp 40) rfl W1.heap.size _ ((l.take k).map (feastDay e cs num den add y)) rfl rfl hownz hlenx hgz.size ?_; intro B0 cap0 wy hown' hg)
          have ha := fr_alloc (fr_refl wa) (.cells #[.int .i64 (-1)] 3)
          have hge := own_ge hownz
          refine ⟨⟨k + 1, hlt, rfl, by rw [hstep]; rw [List.length_map, List.length_take] at hown'; exact hown', (hEz.keep ha).far hg (fun e0 => by have := hge M e0.symm; omega), grown_own (grown_below hgz ha) hg hge⟩, ?_⟩
          simp [intOf]; omega
        · refine (isDate_is A n c cs _ _ _ _ _ _ y fm fd _ (hrr.keep g2) hn hpos _ hrb).mono ?_
          rintro e' wa ⟨rfl, hb1⟩
          have hfd : feastDay e cs num den add y ⟨false, fm, fd, fa⟩ = dayOf e cs ⟨y, fm, fd⟩ := by unfold feastDay; simp [hrb]
          rw [hfd] at hstep
          have hDa := fun j => (hDb.keep hb1).cell j
          have hBa := fun j => ((hBr.keep g2).keep hb1).cell j
          go_wp2_with fail
          refine (day_any A F n c fc cs e _ _ _ _ y fm fd _ ((hrr.keep g2).keep hb1) hn hpos ((hFr.keep g2).keep hb1) he hy hm12 hd31).mono ?_
          rintro e' wb ⟨rfl, hb2⟩
          have hownz := ((hown.keep g2).keep hb1).keep hb2
          have hEz := ((hEr.keep g2).keep hb1).keep hb2
          have hgz := grown_below (grown_below (grown_below hgr g2) hb1) hb2
          have hlenx : ((l.take k).map (feastDay e cs num den add y)).length < 1000000 := by simp; omega
          go_wp2_with (at_builtin; refine app_int rfl (.tmp 38) (.tmp 40) rfl W1.heap.size _ ((l.take k).map (feastDay e cs num den add y)) rfl rfl hownz hlenx hgz.size ?_; intro B0 cap0 wy hown' hg)
          have ha := fr_alloc (fr_refl wb) (.cells #[.int .i64 (dayOf e cs ⟨y, fm, fd⟩)] 3)
          have hge := own_ge hownz
          refine ⟨⟨k + 1, hlt, rfl, by rw [hstep]; rw [List.length_map, List.length_take] at hown'; exact hown', (hEz.keep ha).far hg (fun e0 => by have := hge M e0.symm; omega), grown_own (grown_below hgz ha) hg hge⟩, ?_⟩
          simp [intOf]; omega
      · have g2 := fr_alloc (fr_alloc (fr_refl wr) (.cells #[.bool true, .int .i64 fm, .int .i64 fd, .int .i64 fa] 76)) (.cells #[.int .i64 y, .int .i64 fm, .int .i64 fd] 41)
        have hFb : Blk ((wr.alloc (.cells #[.bool true, .int .i64 fm, .int .i64 fd, .int .i64 fa] 76)).alloc (.cells #[.int .i64 y, .int .i64 fm, .int .i64 fd] 41)) wr.heap.size 76 #[.bool true, .int .i64 fm, .int .i64 fd, .int .i64 fa] := (Blk.new wr _ _).alloc _
        have hDb : Blk ((wr.alloc (.cells #[.bool true, .int .i64 fm, .int .i64 fd, .int .i64 fa] 76)).alloc (.cells #[.int .i64 y, .int .i64 fm, .int .i64 fd] 41)) (wr.heap.size + 1) 41 #[.int .i64 y, .int .i64 fm, .int .i64 fd] := Blk.new_at _ _ (by simp)
        have ha60 : -60 ≤ fa ∧ fa ≤ 60 := by
          unfold feastB at hfk
          simp only [if_true, Bool.and_eq_true, beq_iff_eq] at hfk
          exact inB_iff.1 hfk.2
        have hfd : feastDay e cs num den add y ⟨true, fm, fd, fa⟩ = easterDay e cs num den add y + fa := by unfold feastDay; simp
        rw [hfd] at hstep
        have heb := easter_bounds (e := e) (cs := cs) (y := y) hm
        have hdb := day_of_21 (cs := cs) he hy
        have hwrap : IntKind.i64.wrap (easterDay e cs num den add y + fa) = easterDay e cs num den add y + fa := IntWalk.i64_in _ (by omega)
        go_wp2_with fail
        have hB4 := hBr.keep g2
        have hE4 := hEr.keep g2
        have hr4 := hrr.keep g2
        have hF4 := hFr.keep g2
        have ho4 := hown.keep g2
        have hg4 := grown_below hgr g2
        clear hc0 hc1 hc2 hc3 hcB
        generalize (wr.alloc (.cells #[.bool true, .int .i64 fm, .int .i64 fd, .int .i64 fa] 76)).alloc (.cells #[.int .i64 y, .int .i64 fm, .int .i64 fd] 41) = w4 at *
        generalize wr.heap.size = bf at *
        have hcB := fun j => hB4.cell j
        have hcF := fun j => hFb.cell j
        refine wp_region_noPanic ?_
        refine wp_region_held_drew (S := fun W => (∀ j, W.cell? ⟨b1, j, none⟩ = (#[.int .i64 e, .slice A n c, .int .i64 num, .int .i64 den, .int .i64 add, .slice F 4002 fc, .map (some M)] : Array Value)[j]?) ∧ (∀ j, W.cell? ⟨bf, j, none⟩ = (#[.bool true, .int .i64 fm, .int .i64 fd, .int .i64 fa] : Array Value)[j]?)) (by kernel_rfl) ⟨hcB, hcF⟩ (fun hHeld => ?_)
        -- the region, step by step
        refine wpAnyH_take (i := 0) (oi := ⟨some 26, .load 114 (.tmp 3), 114, "dial.go:317", #[], none⟩) (v := ?_) rfl (by kernel_rfl) (by kernel_rfl) (by kernel_rfl) (fun _ _ _ h => h) (Or.inl ⟨by rfl, fun W hSw => ?_⟩) hHeld ?_
        rotate_left
        · (try dsimp only at hSw); go_simp; (try with_reducible rfl)
        (try simp only [Act.put, List.setIfInBounds_toArray, List.set_cons_zero, List.set_cons_succ])
        refine wpAnyH_take (i := 1) (oi := ⟨some 27, .move (.tmp 2), 3, "dial.go:317", #[], none⟩) (v := ?_) rfl (by kernel_rfl) (by kernel_rfl) (by kernel_rfl) (fun _ _ _ h => h) (Or.inl ⟨by rfl, fun W hSw => ?_⟩) hHeld ?_
        rotate_left
        · (try dsimp only at hSw); go_simp; (try with_reducible rfl)
        (try simp only [Act.put, List.setIfInBounds_toArray, List.set_cons_zero, List.set_cons_succ])
        refine wpAnyH_take (i := 3) (oi := ⟨some 29, .fieldAddr 76 (.tmp 9) 3, 0, "dial.go:317", #[], none⟩) (v := ?_) rfl (by kernel_rfl) (by kernel_rfl) (by kernel_rfl) (fun _ _ _ h => h) (Or.inl ⟨by rfl, fun W hSw => ?_⟩) hHeld ?_
        rotate_left
        · (try dsimp only at hSw); go_simp; (try with_reducible rfl)
        (try simp only [Act.put, List.setIfInBounds_toArray, List.set_cons_zero, List.set_cons_succ])
        refine wpAnyH_take (i := 4) (oi := ⟨some 30, .load 3 (.tmp 29), 3, "dial.go:317", #[⟨3, .data⟩], none⟩) (v := ?_) rfl (by kernel_rfl) (by kernel_rfl) (by kernel_rfl) (fun _ _ _ h => h) (Or.inl ⟨by rfl, fun W hSw => ?_⟩) hHeld ?_
        rotate_left
        · (try dsimp only at hSw); go_simp; (try with_reducible rfl)
        (try simp only [Act.put, List.setIfInBounds_toArray, List.set_cons_zero, List.set_cons_succ])
        refine wpAnyH_ready (rs := [2]) (by kernel_rfl) (by simp) ?_
        refine AllReadyH.cons (o := ⟨some 28, .call { callee := .value (.func 94), args := #[.tmp 26, .tmp 27], argTypes := #[114, 3] }, 3, "dial.go:317", #[⟨0, .data⟩, ⟨1, .data⟩], none⟩) rfl (fun K hK => ?_) AllReadyH.nil
        go_simp
        refine (sunday_any A F n c fc M cs e num den add y _ (hr4.keep (fr_drew (fr_refl _))) hn hpos (hF4.keep (fr_drew (fr_refl _))) he hm hy (hE4.keep (fr_drew (fr_refl _)))).mono ?_
        rintro e' w5 ⟨rfl, hE5, hg5⟩
        have hd4 := fr_drew (fr_refl w4)
        have hB5 := (hB4.keep hd4).grown hg5 (by have := (hE4.keep hd4).ne_blk (hB4.keep hd4); simpa using this)
        have hF5 := (hFb.keep hd4).grown hg5 (by have := (hE4.keep hd4).ne_blk (hFb.keep hd4); simpa using this)
        have hg45 := grown_trans (grown_below hg4 hd4) hg5
        have ho5 := owns_far (ho4.keep hd4) hg5 hMr
        refine hK.out _ _ (⟨fun j => hB5.cell j, fun j => hF5.cell j⟩) (fun hHeld => ?_)
        clear hK K
        (try simp only [Act.put, List.setIfInBounds_toArray, List.set_cons_zero, List.set_cons_succ])
        refine wpAnyH_take (i := 5) (oi := ⟨some 31, .binOp .add 3 (.tmp 28) (.tmp 30) 3, 3, "dial.go:317", #[⟨2, .data⟩, ⟨4, .data⟩], none⟩) (v := ?_) rfl (by kernel_rfl) (by kernel_rfl) (by kernel_rfl) (fun _ _ _ h => h) (Or.inl ⟨by rfl, fun W hSw => ?_⟩) hHeld ?_
        rotate_left
        · (try dsimp only at hSw); go_simp; (try with_reducible rfl)
        (try simp only [Act.put, List.setIfInBounds_toArray, List.set_cons_zero, List.set_cons_succ])
        refine wpAnyH_take (i := 6) (oi := ⟨some 10, .assign (.tmp 31), 3, "dial.go:317", #[⟨5, .data⟩, ⟨2, .chain⟩, ⟨0, .phase⟩, ⟨1, .phase⟩, ⟨2, .phase⟩, ⟨3, .phase⟩, ⟨4, .phase⟩, ⟨5, .phase⟩], none⟩) (v := ?_) rfl (by kernel_rfl) (by kernel_rfl) (by kernel_rfl) (fun _ _ _ h => h) (Or.inl ⟨by rfl, fun W hSw => ?_⟩) hHeld ?_
        rotate_left
        · (try dsimp only at hSw); go_simp; (try with_reducible rfl)
        (try simp only [Act.put, List.setIfInBounds_toArray, List.set_cons_zero, List.set_cons_succ])
        refine wpAnyH_done (by kernel_rfl) ?_ _
        refine NoPanic.normal ?_
        clear hcB hcF hHeld
        have hlenx : ((l.take k).map (feastDay e cs num den add y)).length < 1000000 := by simp; omega
        go_wp2_with (at_builtin; refine app_int rfl (.tmp 38) (.tmp 40) rfl W1.heap.size _ ((l.take k).map (feastDay e cs num den add y)) rfl rfl ho5 hlenx hg45.size ?_; intro B0 cap0 wy hown' hg)
        have ha := fr_alloc (fr_refl w5) (.cells #[.int .i64 (easterDay e cs num den add y + fa)] 3)
        have hge := own_ge ho5
        refine ⟨⟨k + 1, hlt, rfl, by rw [hstep]; rw [List.length_map, List.length_take] at hown'; exact hown', (hE5.keep ha).far hg (fun e0 => by have := hge M e0.symm; omega), grown_own (grown_below hg45 ha) hg hge⟩, ?_⟩
        simp [intOf]; omega
    · have hk' : k = nl := by omega
      subst hk'
      have hT : l.take k = l := List.take_of_length_le (by have := HL.out; omega)
      rw [hT] at hown
      go_wp2_with fail
      obtain ⟨B, b, rfl⟩ := hown.form
      go_ret
      obtain rfl := HB.out
      exact ⟨B, b, rfl, hown.rd, fun ad e0 => Nat.le_trans hbW (hown.fresh ad e0), hEr, below_grown g1 hgr, hown.cap⟩
end Go.Proofs.YtnppilaabobgiaaGreatDoor
end

section
namespace Go.Proofs.YtnppilaabobgiaaGreatDoor
open Go.RowKit Dl

set_option maxRecDepth 100000 in
set_option maxHeartbeats 4000000 in
theorem Feasts_ok (A L : Option Addr) (n c lc : Nat) (cs : List Int) (e num den add y : Int) (l : List Feast) (w : World) (hr : Rd w A n cs) (hn : n ≤ 9223372036854775807) (hL : RdS w L 4 (l.map Feast.row)) (hln : l.length ≤ 9223372036854775807) (hok : calOk e cs = true) (hmb : moonB num den add = true) (hl : feastsB l = true) (hyb : inB y 0 4000 = true) :
    Calls Tryz.prog 41 #[.agg #[.int .i64 e, .slice A n c], .agg #[.int .i64 num, .int .i64 den, .int .i64 add], .slice L l.length lc, .int .i64 y] w fun e' w' =>
      ∃ B b, e' = .returned (.tuple #[.slice B (l.map (feastDay e cs num den add y)).length b, .int .i64 0]) ∧ Rd w' B (l.map (feastDay e cs num den add y)).length (l.map (feastDay e cs num den add y)) ∧ Below w.heap.size w w' := by
  obtain ⟨he, ⟨hn1, hn2⟩, hpos⟩ := calOk_parts hok
  rw [hr.len] at hn1 hn2
  have hm := moonB_ok hmb
  have hy := inB_iff.1 hyb
  have g1 := fr_alloc (fr_alloc (fr_refl w) (.cells #[.int .i64 e, .slice A n c] 24)) (.cells #[.int .i64 num, .int .i64 den, .int .i64 add] 63)
  go_enter Tryz.func41, Tryz.ntmps41
  go_wp2_with fail
  refine (isCalendar_is A n c cs e _ (hr.keep g1) hn _ hok).mono ?_
  rintro e' w1 ⟨rfl, hb1⟩
  obtain ⟨hc_w1, hf_w1⟩ := bcell hb1
  have hz0_w1 : w.heap.size < w1.heap.size := Nat.lt_of_lt_of_le (by first | omega | (simp; done) | (simp; omega)) hb1.size
  have hz1_w1 : w.heap.size + 1 < w1.heap.size := Nat.lt_of_lt_of_le (by first | omega | (simp; done) | (simp; omega)) hb1.size
  go_wp2_with fail
  refine (isMoon_is _ _ _ _ _ hmb).mono ?_
  rintro e' w2 ⟨rfl, hb2⟩
  obtain ⟨hc_w2, hf_w2⟩ := bcell hb2
  have hz0_w2 : w.heap.size < w2.heap.size := Nat.lt_of_lt_of_le (by first | omega | (simp; done) | (simp; omega)) hb2.size
  have hz1_w2 : w.heap.size + 1 < w2.heap.size := Nat.lt_of_lt_of_le (by first | omega | (simp; done) | (simp; omega)) hb2.size
  go_wp2_with fail
  refine (areFeasts_is L lc l _ (((hL.keep g1).keep hb1).keep hb2) hln).mono ?_
  rintro e' w3 ⟨rfl, hb3⟩
  rw [hl]
  obtain ⟨hc_w3, hf_w3⟩ := bcell hb3
  have hz0_w3 : w.heap.size < w3.heap.size := Nat.lt_of_lt_of_le (by first | omega | (simp; done) | (simp; omega)) hb3.size
  have hz1_w3 : w.heap.size + 1 < w3.heap.size := Nat.lt_of_lt_of_le (by first | omega | (simp; done) | (simp; omega)) hb3.size
  go_wp2_with fail
  refine (isYear_is _ _ _ hyb).mono ?_
  rintro e' w3' ⟨rfl, rfl⟩
  go_wp2_with fail
  have hb := fr_call (fr_call (fr_call g1 hb1) hb2) hb3
  refine (open_any A n c cs e num den add _ (hr.keep hb) hok).mono ?_
  rintro e' w4 ⟨F, fc, M, rfl, hF, hM1, hM2, hb4, hFf⟩
  go_wp2_with fail
  refine (feasts_any A F L n c fc lc M cs e num den add y l _ ((hr.keep hb).keep hb4) hn2 hpos hF ((hL.keep hb).keep hb4) hl he hm hy (EMap.empty _ hM2)).mono ?_
  rintro e' w5 ⟨B, b, rfl, hB, hBf, hE5, hg5, _⟩
  have hfin : Below w.heap.size w w5 := (fr_call hb hb4).grown hg5 (fr_call hb hb4).size (by intro k hk; cases hk; exact Nat.le_trans hb.size hM1)
  go_wp2_with fail
  go_ret2
  refine ⟨B, b, ?_, hB, hfin⟩
  rw [List.length_map]
  rfl

set_option maxRecDepth 100000 in
set_option maxHeartbeats 4000000 in
theorem Feasts_bad (A L : Option Addr) (n c lc : Nat) (cs : List Int) (e num den add y : Int) (l : List Feast) (w : World) (hr : Rd w A n cs) (hn : n ≤ 9223372036854775807) (hL : RdS w L 4 (l.map Feast.row)) (hln : l.length ≤ 9223372036854775807) (hbad : calOk e cs = false ∨ moonB num den add = false ∨ feastsB l = false ∨ inB y 0 4000 = false) :
    Calls Tryz.prog 41 #[.agg #[.int .i64 e, .slice A n c], .agg #[.int .i64 num, .int .i64 den, .int .i64 add], .slice L l.length lc, .int .i64 y] w fun e' w' =>
      e' = .returned (.tuple #[.slice none 0 0, .int .i64 2]) ∧ Below w.heap.size w w' := by
  have g1 := fr_alloc (fr_alloc (fr_refl w) (.cells #[.int .i64 e, .slice A n c] 24)) (.cells #[.int .i64 num, .int .i64 den, .int .i64 add] 63)
  cases hok : calOk e cs
  · go_enter Tryz.func41, Tryz.ntmps41
    go_wp2_with fail
    refine (isCalendar_is A n c cs e _ (hr.keep g1) hn _ hok).mono ?_
    rintro e' w1 ⟨rfl, hb1⟩
    go_wp2_with fail
    go_ret2
    exact ⟨rfl, fr_call g1 hb1⟩
  · cases hmb : moonB num den add
    · go_enter Tryz.func41, Tryz.ntmps41
      go_wp2_with fail
      refine (isCalendar_is A n c cs e _ (hr.keep g1) hn _ hok).mono ?_
      rintro e' w1 ⟨rfl, hb1⟩
      obtain ⟨hc_w1, hf_w1⟩ := bcell hb1
      have hz0_w1 : w.heap.size < w1.heap.size := Nat.lt_of_lt_of_le (by first | omega | (simp; done) | (simp; omega)) hb1.size
      have hz1_w1 : w.heap.size + 1 < w1.heap.size := Nat.lt_of_lt_of_le (by first | omega | (simp; done) | (simp; omega)) hb1.size
      go_wp2_with fail
      refine (isMoon_is _ _ _ _ _ hmb).mono ?_
      rintro e' w2 ⟨rfl, hb2⟩
      go_wp2_with fail
      go_ret2
      exact ⟨rfl, fr_call (fr_call g1 hb1) hb2⟩
    · cases hl : feastsB l
      · go_enter Tryz.func41, Tryz.ntmps41
        go_wp2_with fail
        refine (isCalendar_is A n c cs e _ (hr.keep g1) hn _ hok).mono ?_
        rintro e' w1 ⟨rfl, hb1⟩
        obtain ⟨hc_w1, hf_w1⟩ := bcell hb1
        have hz0_w1 : w.heap.size < w1.heap.size := Nat.lt_of_lt_of_le (by first | omega | (simp; done) | (simp; omega)) hb1.size
        have hz1_w1 : w.heap.size + 1 < w1.heap.size := Nat.lt_of_lt_of_le (by first | omega | (simp; done) | (simp; omega)) hb1.size
        go_wp2_with fail
        refine (isMoon_is _ _ _ _ _ hmb).mono ?_
        rintro e' w2 ⟨rfl, hb2⟩
        obtain ⟨hc_w2, hf_w2⟩ := bcell hb2
        have hz0_w2 : w.heap.size < w2.heap.size := Nat.lt_of_lt_of_le (by first | omega | (simp; done) | (simp; omega)) hb2.size
        have hz1_w2 : w.heap.size + 1 < w2.heap.size := Nat.lt_of_lt_of_le (by first | omega | (simp; done) | (simp; omega)) hb2.size
        go_wp2_with fail
        refine (areFeasts_is L lc l _ (((hL.keep g1).keep hb1).keep hb2) hln).mono ?_
        rintro e' w3 ⟨rfl, hb3⟩
        rw [hl]
        go_wp2_with fail
        go_ret2
        exact ⟨rfl, fr_call (fr_call (fr_call g1 hb1) hb2) hb3⟩
      · have hyb : inB y 0 4000 = false := by
          rcases hbad with h | h | h | h
          · rw [hok] at h; cases h
          · rw [hmb] at h; cases h
          · rw [hl] at h; cases h
          · exact h
        go_enter Tryz.func41, Tryz.ntmps41
        go_wp2_with fail
        refine (isCalendar_is A n c cs e _ (hr.keep g1) hn _ hok).mono ?_
        rintro e' w1 ⟨rfl, hb1⟩
        obtain ⟨hc_w1, hf_w1⟩ := bcell hb1
        have hz0_w1 : w.heap.size < w1.heap.size := Nat.lt_of_lt_of_le (by first | omega | (simp; done) | (simp; omega)) hb1.size
        have hz1_w1 : w.heap.size + 1 < w1.heap.size := Nat.lt_of_lt_of_le (by first | omega | (simp; done) | (simp; omega)) hb1.size
        go_wp2_with fail
        refine (isMoon_is _ _ _ _ _ hmb).mono ?_
        rintro e' w2 ⟨rfl, hb2⟩
        obtain ⟨hc_w2, hf_w2⟩ := bcell hb2
        have hz0_w2 : w.heap.size < w2.heap.size := Nat.lt_of_lt_of_le (by first | omega | (simp; done) | (simp; omega)) hb2.size
        have hz1_w2 : w.heap.size + 1 < w2.heap.size := Nat.lt_of_lt_of_le (by first | omega | (simp; done) | (simp; omega)) hb2.size
        go_wp2_with fail
        refine (areFeasts_is L lc l _ (((hL.keep g1).keep hb1).keep hb2) hln).mono ?_
        rintro e' w3 ⟨rfl, hb3⟩
        rw [hl]
        go_wp2_with fail
        refine (isYear_is _ _ _ hyb).mono ?_
        rintro e' w3' ⟨rfl, rfl⟩
        go_wp2_with fail
        go_ret2
        exact ⟨rfl, fr_call (fr_call (fr_call g1 hb1) hb2) hb3⟩

def rangeB (a b : Int) : Bool := inB a 0 4000 && inB b 0 4000 && inB (b - a) 0 400
theorem isRange_is (a b : Int) (w : World) (v : Bool) (hv : rangeB a b = v) : Calls Tryz.prog 100 #[.int .i64 a, .int .i64 b] w fun e' w' => e' = .returned (.bool v) ∧ w' = w := by
  subst hv
  unfold rangeB
  cases ha : inB a 0 4000
  · go_enter Tryz.func100, Tryz.ntmps100
    go_wp2_with fail
    refine (isYear_is _ _ _ ha).mono ?_
    rintro e' w' ⟨rfl, rfl⟩
    go_wp2_with fail
    go_ret
    exact ⟨rfl, rfl⟩
  · cases hb : inB b 0 4000
    · go_enter Tryz.func100, Tryz.ntmps100
      go_wp2_with fail
      refine (isYear_is _ _ _ ha).mono ?_
      rintro e' w' ⟨rfl, rfl⟩
      go_wp2_with fail
      refine (isYear_is _ _ _ hb).mono ?_
      rintro e' w' ⟨rfl, rfl⟩
      go_wp2_with fail
      go_ret
      exact ⟨rfl, rfl⟩
    · have h1 := inB_iff.1 ha
      have h2 := inB_iff.1 hb
      have hw : IntKind.i64.wrap (b - a) = b - a := IntWalk.i64_in _ (by omega)
      cases hc : inB (b - a) 0 400
      all_goals (
        go_enter Tryz.func100, Tryz.ntmps100
        go_wp2_with fail
        refine (isYear_is _ _ _ ha).mono ?_
        rintro e' w' ⟨rfl, rfl⟩
        go_wp2_with fail
        refine (isYear_is _ _ _ hb).mono ?_
        rintro e' w' ⟨rfl, rfl⟩
        go_wp2_with fail
        refine (in_is _ _ _ _ _ hc).mono ?_
        rintro e' w' ⟨rfl, rfl⟩
        go_wp2_with fail
        go_ret
        exact ⟨rfl, rfl⟩)
end Go.Proofs.YtnppilaabobgiaaGreatDoor
end

section
namespace Go.Proofs.YtnppilaabobgiaaGreatDoor
open Go.RowKit Dl

theorem contains_any (A : Option Addr) (n c : Nat) (xs : List Int) (x : Int) (w : World) (hr : Rd w A n xs) (hn : n ≤ 9223372036854775807) (b : Bool) (hb : xs.contains x = b) :
    Calls Tryz.prog 102 #[.slice A n c, .int .i64 x] w fun e' w' => e' = .returned (.bool b) ∧ w = w' := by
  subst hb
  by_cases h0 : n = 0
  · subst h0
    have := hr.len
    obtain rfl : xs = [] := List.length_eq_zero_iff.1 this
    exact (Tryz.slices_Contains_int_empty A c x w).mono fun _ _ h => ⟨h.1, h.2.symm⟩
  · obtain ⟨b0, off, rfl, hlt, hc⟩ := hr.addr (by omega)
    have hlen := hr.len
    have htake : xs.take n = xs := List.take_of_length_le (by omega)
    refine (Tryz.slices_Contains_int b0 off n c xs x w (by omega) hn (fun j hj => ?_)).mono ?_
    · rw [hc j (by omega)]; simp
    · rw [htake]; exact fun _ _ h => ⟨h.1, h.2.symm⟩

set_option maxRecDepth 100000 in
set_option maxHeartbeats 2000000 in
theorem twice_any (B : Option Addr) (nb b g i : Nat) (ds : List Int) (w : World) (hg : ∀ j, w.cell? ⟨g, j, none⟩ = (#[.slice B nb b] : Array Value)[j]?) (hB : Rd w B nb ds) (hi : i < nb) (hnb : nb ≤ 6) (hcap : nb ≤ b) (x : Int) (hx : ds[i]?.getD 0 = x) (v : Bool) (hv : (decide (x ≥ 0) && (ds.take i).contains x) = v) :
    Calls Tryz.prog 101 #[.int .i64 i, .pointer (some ⟨g, 0, none⟩)] w fun e w' => e = .returned (.bool v) ∧ Below w.heap.size w w' := by
  obtain ⟨ad, rfl, hab, hci⟩ := hB.at_ hi
  rw [hx] at hci
  have hT := hB.take (Nat.le_of_lt hi)
  have hib : i ≤ b := by omega
  have hiN : (0 : Int) ≤ (i : Int) := Int.natCast_nonneg i
  cases h0 : decide (x ≥ 0)
  · rw [h0, Bool.false_and] at hv
    subst hv
    go_enter Tryz.func101, Tryz.ntmps101
    go_wp2_with fail
    go_quiet (fail)
    go_wp2
    go_ret
    exact ⟨rfl, fr_drewN (fr_refl _) _⟩
  · rw [h0, Bool.true_and] at hv
    go_enter Tryz.func101, Tryz.ntmps101
    go_wp2_with fail
    go_quiet ((go_at_call 102; exact quiet_left (contains_any _ _ _ _ _ _ (hT.keep (fr_drewN (fr_refl _) _)) (by omega) _ hv)))
    go_wp2
    go_ret
    exact ⟨rfl, fr_drewN (fr_refl _) _⟩
end Go.Proofs.YtnppilaabobgiaaGreatDoor
end

section
namespace Go.Proofs.YtnppilaabobgiaaGreatDoor
open Go.RowKit Dl

/-- does a row hold a day from 0 on twice -/
def twiceAt (ds : List Int) (i : Nat) : Bool := decide (ds[i]?.getD 0 ≥ 0) && (ds.take i).contains (ds[i]?.getD 0)
def twiceB (ds : List Int) : Bool := (List.range ds.length).any (twiceAt ds)
def meetOf (e : Int) (cs : List Int) (num den add : Int) (l : List Feast) (a : Int) (n : Nat) : List Int :=
  ((List.range n).map (fun (k : Nat) => a + (k : Int))).filter (fun y => twiceB (l.map (feastDay e cs num den add y)))

theorem meet_no {e num den add a : Int} {cs : List Int} {l : List Feast} {k : Nat} (h : twiceB (l.map (feastDay e cs num den add (a + k))) = false) : meetOf e cs num den add l a (k + 1) = meetOf e cs num den add l a k := by
  unfold meetOf
  rw [List.range_succ, List.map_append, List.filter_append]
  simp [h]
theorem meet_yes {e num den add a : Int} {cs : List Int} {l : List Feast} {k : Nat} (h : twiceB (l.map (feastDay e cs num den add (a + k))) = true) : meetOf e cs num den add l a (k + 1) = meetOf e cs num den add l a k ++ [a + k] := by
  unfold meetOf
  rw [List.range_succ, List.map_append, List.filter_append]
  simp [h]

set_option maxRecDepth 100000 in
set_option maxHeartbeats 4000000 in
theorem Meet_ok (A L : Option Addr) (n c lc : Nat) (cs : List Int) (e num den add y z : Int) (l : List Feast) (w : World) (hr : Rd w A n cs) (hn : n ≤ 9223372036854775807) (hL : RdS w L 4 (l.map Feast.row)) (hln : l.length ≤ 9223372036854775807) (hok : calOk e cs = true) (hmb : moonB num den add = true) (hl : feastsB l = true) (hyb : rangeB y z = true) :
    Calls Tryz.prog 47 #[.agg #[.int .i64 e, .slice A n c], .agg #[.int .i64 num, .int .i64 den, .int .i64 add], .slice L l.length lc, .int .i64 y, .int .i64 z] w fun e' w' =>
      ∃ B b, e' = .returned (.tuple #[.slice B (meetOf e cs num den add l y (z - y + 1).toNat).length b, .int .i64 0]) ∧ Rd w' B (meetOf e cs num den add l y (z - y + 1).toNat).length (meetOf e cs num den add l y (z - y + 1).toNat) ∧ Below w.heap.size w w' := by
  obtain ⟨he, ⟨hn1, hn2⟩, hpos⟩ := calOk_parts hok
  rw [hr.len] at hn1 hn2
  have hm := moonB_ok hmb
  have hy : (0 ≤ y ∧ y ≤ 4000) ∧ (0 ≤ z ∧ z ≤ 4000) ∧ (0 ≤ z - y ∧ z - y ≤ 400) := by
    unfold rangeB at hyb
    simp only [Bool.and_eq_true] at hyb
    exact ⟨inB_iff.1 hyb.1.1, inB_iff.1 hyb.1.2, inB_iff.1 hyb.2⟩
  have g1 := fr_alloc (fr_alloc (fr_refl w) (.cells #[.int .i64 e, .slice A n c] 24)) (.cells #[.int .i64 num, .int .i64 den, .int .i64 add] 63)
  go_enter Tryz.func47, Tryz.ntmps47
  go_wp2
  go_step3
  go_wp2_with fail
  refine (isCalendar_is A n c cs e _ (hr.keep g1) hn _ hok).mono ?_
  rintro e' w1 ⟨rfl, hb1⟩
  obtain ⟨hc_w1, hf_w1⟩ := bcell hb1
  have hz0_w1 : w.heap.size < w1.heap.size := Nat.lt_of_lt_of_le (by first | omega | (simp; done) | (simp; omega)) hb1.size
  have hz1_w1 : w.heap.size + 1 < w1.heap.size := Nat.lt_of_lt_of_le (by first | omega | (simp; done) | (simp; omega)) hb1.size
  go_wp2_with fail
  refine (isMoon_is _ _ _ _ _ hmb).mono ?_
  rintro e' w2 ⟨rfl, hb2⟩
  obtain ⟨hc_w2, hf_w2⟩ := bcell hb2
  have hz0_w2 : w.heap.size < w2.heap.size := Nat.lt_of_lt_of_le (by first | omega | (simp; done) | (simp; omega)) hb2.size
  have hz1_w2 : w.heap.size + 1 < w2.heap.size := Nat.lt_of_lt_of_le (by first | omega | (simp; done) | (simp; omega)) hb2.size
  go_wp2_with fail
  refine (areFeasts_is L lc l _ (((hL.keep g1).keep hb1).keep hb2) hln).mono ?_
  rintro e' w3 ⟨rfl, hb3⟩
  rw [hl]
  obtain ⟨hc_w3, hf_w3⟩ := bcell hb3
  have hz0_w3 : w.heap.size < w3.heap.size := Nat.lt_of_lt_of_le (by first | omega | (simp; done) | (simp; omega)) hb3.size
  have hz1_w3 : w.heap.size + 1 < w3.heap.size := Nat.lt_of_lt_of_le (by first | omega | (simp; done) | (simp; omega)) hb3.size
  go_wp2_with fail
  refine (isRange_is _ _ _ _ hyb).mono ?_
  rintro e' w3' ⟨rfl, rfl⟩
  go_wp2_with fail
  have hb := fr_call (fr_call (fr_call g1 hb1) hb2) hb3
  refine (open_any A n c cs e num den add _ (hr.keep hb) hok).mono ?_
  rintro e' w4 ⟨F, fc, M, rfl, hF, hM1, hM2, hb4, hFf⟩
  go_wp2_with fail
  have hB5 := Blk.new w4 114 #[.int .i64 e, .slice A n c, .int .i64 num, .int .i64 den, .int .i64 add, .slice F 4002 fc, .map (some M)]
  have g5 := fr_alloc (fr_refl w4) (.cells #[.int .i64 e, .slice A n c, .int .i64 num, .int .i64 den, .int .i64 add, .slice F 4002 fc, .map (some M)] 114)
  have hfr := fr_call (fr_call hb hb4) g5
  have hr5 := ((hr.keep hb).keep hb4).keep g5
  have hL5 := ((hL.keep hb).keep hb4).keep g5
  have hF5 := hF.keep g5
  have hE5 := (EMap.empty (easterDay e cs num den add) hM2).keep g5
  have hMw : w.heap.size ≤ M := Nat.le_trans hb.size hM1
  clear hc_w1 hf_w1 hz0_w1 hz1_w1 hc_w2 hf_w2 hz0_w2 hz1_w2 hc_w3 hf_w3 hz0_w3 hz1_w3 hb1 hb2 hb3 hb hM1 hM2 hb4 hFf hF g5 g1 hr hL
  generalize w4.alloc (.cells #[.int .i64 e, .slice A n c, .int .i64 num, .int .i64 den, .int .i64 add, .slice F 4002 fc, .map (some M)] 114) = w5 at *
  generalize w4.heap.size = b5 at *
  go_step3
  go_wp2_with fail
  obtain ⟨nY, hnY⟩ : ∃ nY : Nat, (z - y + 1).toNat = nY := ⟨_, rfl⟩
  have HN := Lib.hid hnY
  have hYz : y + nY = z + 1 := by omega
  have HFR := Lib.hid hfr
  clear hnY hfr
  have hMl := heap_lt hE5.choose_spec.choose_spec.1
  go_loopg [13, 14] nY (fun g v i wx => ∃ k : Nat, k + g = nY ∧ i = .int .i64 (y + k) ∧ Own wx w5.heap.size v (meetOf e cs num den add l y k) ∧ EMap wx M (easterDay e cs num den add) ∧ w5.grownBy wx (some M))
  case atStart => exact ⟨0, by omega, by simp, Own.nil _ _, hE5, World.grownBy.refl _ _⟩
  case round =>
    obtain ⟨k, hkg, rfl, hown, hEx, hgx⟩ := hrel
    have hBx := hB5.grown hgx (by have := hE5.ne_blk hB5; simpa using this)
    have hcB := fun j => hBx.cell j
    have hrx := hr5.farM hE5 hgx
    have hFx := hF5.farM hE5 hgx
    have hLx := hL5.farM (by decide) hE5 hgx
    have hbl := hBx.lt
    cases gk with
    | zero =>
      have hkz : ¬ (y + (k : Int) ≤ z) := by omega
      obtain ⟨B, b, rfl⟩ := hown.form
      obtain rfl : k = nY := by omega
      go_wp2_with fail
      go_ret2
      rw [HN.out]
      exact ⟨B, b, rfl, hown.rd, HFR.out.grown hgx HFR.out.size (by intro i hi; cases hi; exact hMw)⟩
    | succ g =>
      have hkz : y + (k : Int) ≤ z := by omega
      go_wp2_with fail
      refine (feasts_any A F L n c fc lc M cs e num den add (y + k) l _ hrx hn2 hpos hFx hLx hl he hm ⟨by omega, by omega⟩ hEx).mono ?_
      rintro e' w6 ⟨B, bc, rfl, hB, hBf, hE6, hg6, hcap⟩
      have hd6 : (l.map (feastDay e cs num den add (y + k))).length ≤ 6 := by unfold feastsB at hl; simp at hl; simpa using hl.1
      generalize hds : l.map (feastDay e cs num den add (y + k)) = ds at *
      have HD := Lib.hid hds
      clear hds
      have ho6 := owns_far hown hg6 hMl
      have hg56 := grown_trans hgx hg6
      have ha6 := fr_alloc (fr_refl w6) (.cells #[.slice B ds.length bc] 22)
      have hBX := Blk.new w6 22 #[.slice B ds.length bc]
      go_wp2_with fail
      replace hB := hB.keep ha6
      replace hE6 := hE6.keep ha6
      replace ho6 := ho6.keep ha6
      replace hg56 := grown_below hg56 ha6
      generalize w6.alloc (.cells #[.slice B ds.length bc] 22) = w7 at *
      generalize w6.heap.size = b6 at *
      clear hcB hrx hFx hLx hbl hBx hown hgx hg6 hEx ha6
      generalize hlen : ds.length = nd at *
      go_loopg [13, 53] nd (fun g2 s13 s53 wy => ∃ j : Nat, j + g2 = nd ∧ s53 = .int .i64 j ∧ Own wy w5.heap.size s13 (meetOf e cs num den add l y k) ∧ (List.range j).any (twiceAt ds) = false ∧ Below w7.heap.size w7 wy)
      case atStart => exact ⟨0, by omega, rfl, ho6, rfl, fr_refl _⟩
      case round =>
        obtain ⟨j, hjg, rfl, hoy, hany, hby⟩ := hrel
        have hcX := fun i => (hBX.keep hby).cell i
        cases gk with
        | zero =>
          have hjz : ¬ ((j : Int) < (nd : Int)) := by omega
          obtain rfl : j = nd := by omega
          go_wp2_with fail
          go_roundg g
          case measure => omega
          case rel => exact ⟨k + 1, by omega, by first | (simp; omega) | omega, by rw [meet_no (by rw [HD.out]; unfold twiceB; rw [hlen]; exact hany)]; exact hoy, hE6.keep hby, grown_below hg56 hby⟩
        | succ g2 =>
          have hjz : (j : Int) < (nd : Int) := by omega
          cases ht : twiceAt ds j
          · go_wp2_with fail
            refine (twice_any B nd bc b6 j ds _ hcX (hB.keep hby) (by omega) hd6 hcap _ rfl _ ht).mono ?_
            rintro e' wz ⟨rfl, hbz⟩
            go_wp2_with fail
            go_roundg g2
            case measure => omega
            case rel => exact ⟨j + 1, by omega, by first | rfl | simp, hoy.keep hbz, by rw [List.range_succ, List.any_append, hany]; simp [ht], fr_call hby hbz⟩
          · go_wp2_with fail
            refine (twice_any B nd bc b6 j ds _ hcX (hB.keep hby) (by omega) hd6 hcap _ rfl _ ht).mono ?_
            rintro e' wz ⟨rfl, hbz⟩
            have hoz := hoy.keep hbz
            have hgz := grown_below (grown_below hg56 hby) hbz
            have hEz := (hE6.keep hby).keep hbz
            have hlenx : (meetOf e cs num den add l y k).length < 1000000 := by
              have : (meetOf e cs num den add l y k).length ≤ k := by unfold meetOf; exact Nat.le_trans (List.length_filter_le _ _) (by simp)
              omega
            go_wp2_with (at_builtin; refine app_int rfl (.tmp 59) (.tmp 61) rfl w5.heap.size _ (meetOf e cs num den add l y k) rfl rfl hoz hlenx hgz.size ?_; intro B0 cap0 wv hown' hg)
            have ha := fr_alloc (fr_refl wz) (.cells #[.int .i64 (y + k)] 3)
            have hge := own_ge hoz
            have htw : twiceB ds = true := by
              unfold twiceB
              rw [List.any_eq_true]
              exact ⟨j, by rw [List.mem_range]; omega, ht⟩
            go_roundg g
            case measure => omega
            case rel => exact ⟨k + 1, by omega, by first | (simp; omega) | omega, by rw [meet_yes (by rw [HD.out]; exact htw)]; exact hown', (hEz.keep ha).far hg (fun e0 => by have := hge M e0.symm; omega), grown_own (grown_below hgz ha) hg hge⟩
end Go.Proofs.YtnppilaabobgiaaGreatDoor
end

section
namespace Go.Proofs.YtnppilaabobgiaaGreatDoor
open Go.RowKit Dl

set_option maxRecDepth 100000 in
set_option maxHeartbeats 4000000 in
theorem Meet_bad (A L : Option Addr) (n c lc : Nat) (cs : List Int) (e num den add y z : Int) (l : List Feast) (w : World) (hr : Rd w A n cs) (hn : n ≤ 9223372036854775807) (hL : RdS w L 4 (l.map Feast.row)) (hln : l.length ≤ 9223372036854775807) (hbad : calOk e cs = false ∨ moonB num den add = false ∨ feastsB l = false ∨ rangeB y z = false) :
    Calls Tryz.prog 47 #[.agg #[.int .i64 e, .slice A n c], .agg #[.int .i64 num, .int .i64 den, .int .i64 add], .slice L l.length lc, .int .i64 y, .int .i64 z] w fun e' w' =>
      e' = .returned (.tuple #[.slice none 0 0, .int .i64 2]) ∧ Below w.heap.size w w' := by
  have g1 := fr_alloc (fr_alloc (fr_refl w) (.cells #[.int .i64 e, .slice A n c] 24)) (.cells #[.int .i64 num, .int .i64 den, .int .i64 add] 63)
  cases hok : calOk e cs
  · go_enter Tryz.func47, Tryz.ntmps47
    go_wp2
    go_step3
    go_wp2_with fail
    refine (isCalendar_is A n c cs e _ (hr.keep g1) hn _ hok).mono ?_
    rintro e' w1 ⟨rfl, hb1⟩
    go_wp2_with fail
    rw [Exit.noGoto_ret]
    go_ret2
    exact ⟨rfl, fr_call g1 hb1⟩
  · cases hmb : moonB num den add
    · go_enter Tryz.func47, Tryz.ntmps47
      go_wp2
      go_step3
      go_wp2_with fail
      refine (isCalendar_is A n c cs e _ (hr.keep g1) hn _ hok).mono ?_
      rintro e' w1 ⟨rfl, hb1⟩
      obtain ⟨hc_w1, hf_w1⟩ := bcell hb1
      have hz0_w1 : w.heap.size < w1.heap.size := Nat.lt_of_lt_of_le (by first | omega | (simp; done) | (simp; omega)) hb1.size
      have hz1_w1 : w.heap.size + 1 < w1.heap.size := Nat.lt_of_lt_of_le (by first | omega | (simp; done) | (simp; omega)) hb1.size
      go_wp2_with fail
      refine (isMoon_is _ _ _ _ _ hmb).mono ?_
      rintro e' w2 ⟨rfl, hb2⟩
      go_wp2_with fail
      rw [Exit.noGoto_ret]
      go_ret2
      exact ⟨rfl, fr_call (fr_call g1 hb1) hb2⟩
    · cases hl : feastsB l
      · go_enter Tryz.func47, Tryz.ntmps47
        go_wp2
        go_step3
        go_wp2_with fail
        refine (isCalendar_is A n c cs e _ (hr.keep g1) hn _ hok).mono ?_
        rintro e' w1 ⟨rfl, hb1⟩
        obtain ⟨hc_w1, hf_w1⟩ := bcell hb1
        have hz0_w1 : w.heap.size < w1.heap.size := Nat.lt_of_lt_of_le (by first | omega | (simp; done) | (simp; omega)) hb1.size
        have hz1_w1 : w.heap.size + 1 < w1.heap.size := Nat.lt_of_lt_of_le (by first | omega | (simp; done) | (simp; omega)) hb1.size
        go_wp2_with fail
        refine (isMoon_is _ _ _ _ _ hmb).mono ?_
        rintro e' w2 ⟨rfl, hb2⟩
        obtain ⟨hc_w2, hf_w2⟩ := bcell hb2
        have hz0_w2 : w.heap.size < w2.heap.size := Nat.lt_of_lt_of_le (by first | omega | (simp; done) | (simp; omega)) hb2.size
        have hz1_w2 : w.heap.size + 1 < w2.heap.size := Nat.lt_of_lt_of_le (by first | omega | (simp; done) | (simp; omega)) hb2.size
        go_wp2_with fail
        refine (areFeasts_is L lc l _ (((hL.keep g1).keep hb1).keep hb2) hln).mono ?_
        rintro e' w3 ⟨rfl, hb3⟩
        rw [hl]
        go_wp2_with fail
        rw [Exit.noGoto_ret]
        go_ret2
        exact ⟨rfl, fr_call (fr_call (fr_call g1 hb1) hb2) hb3⟩
      · have hyb : rangeB y z = false := by
          rcases hbad with h | h | h | h
          · rw [hok] at h; cases h
          · rw [hmb] at h; cases h
          · rw [hl] at h; cases h
          · exact h
        go_enter Tryz.func47, Tryz.ntmps47
        go_wp2
        go_step3
        go_wp2_with fail
        refine (isCalendar_is A n c cs e _ (hr.keep g1) hn _ hok).mono ?_
        rintro e' w1 ⟨rfl, hb1⟩
        obtain ⟨hc_w1, hf_w1⟩ := bcell hb1
        have hz0_w1 : w.heap.size < w1.heap.size := Nat.lt_of_lt_of_le (by first | omega | (simp; done) | (simp; omega)) hb1.size
        have hz1_w1 : w.heap.size + 1 < w1.heap.size := Nat.lt_of_lt_of_le (by first | omega | (simp; done) | (simp; omega)) hb1.size
        go_wp2_with fail
        refine (isMoon_is _ _ _ _ _ hmb).mono ?_
        rintro e' w2 ⟨rfl, hb2⟩
        obtain ⟨hc_w2, hf_w2⟩ := bcell hb2
        have hz0_w2 : w.heap.size < w2.heap.size := Nat.lt_of_lt_of_le (by first | omega | (simp; done) | (simp; omega)) hb2.size
        have hz1_w2 : w.heap.size + 1 < w2.heap.size := Nat.lt_of_lt_of_le (by first | omega | (simp; done) | (simp; omega)) hb2.size
        go_wp2_with fail
        refine (areFeasts_is L lc l _ (((hL.keep g1).keep hb1).keep hb2) hln).mono ?_
        rintro e' w3 ⟨rfl, hb3⟩
        rw [hl]
        go_wp2_with fail
        refine (isRange_is _ _ _ _ hyb).mono ?_
        rintro e' w3' ⟨rfl, rfl⟩
        go_wp2_with fail
        rw [Exit.noGoto_ret]
        go_ret2
        exact ⟨rfl, fr_call (fr_call (fr_call g1 hb1) hb2) hb3⟩

end Go.Proofs.YtnppilaabobgiaaGreatDoor
end
