/- Walk: isFind, the searches of its lists. Walk: isFind. Walk: product, wheels. Walk: does a train agree with a note of some kind? Operations in a region that draws its order: a new variable, a new slice of one element. Walk: ratio. Walk: a train agrees with a note, kind by kind. -/
import Derived.Test.YtfgghicdkcjdgaaGreatDoorMG1
section
namespace Go.Proofs.YtfgghicdkcjdgaaGreatDoor
open Go.RowKit Go.Shelf

theorem add_off (ad : Addr) (m j : Nat) : ad.add (m + (j + 1)) = ⟨(ad.add m).block, (ad.add m).off + (j + 1), none⟩ ∨ ad.spot ≠ none := by
 obtain ⟨b, o, s⟩ := ad
 cases s with
 | none => left; unfold Addr.add; by_cases h0 : m = 0 <;> simp [h0, Nat.add_assoc]
 | some s => right; simp
theorem cell_spot {w : World} {ad : Addr} {v : Value} (h : w.cell? ad = some v) : ad.spot = none := by
 unfold World.cell? at h
 split at h
 ·cases hs : ad.spot with
  | none => rfl
  | some s => simp [hs] at h
 ·cases h
theorem spot_add (ad : Addr) (n : Nat) (h : ad.spot = none) : (ad.add n).spot = none := by
 unfold Addr.add
 split
 ·exact h
 ·rfl
theorem RdS.nth {w : World} {A : Option Addr} {k : Nat} {rows : List (List Value)} (h : RdS w A k rows) {i : Nat} {r : List Value} (hi : rows[i]? = some r) :
  ∃ ad, A = some ad ∧ ad.block < w.heap.size ∧ (∀ v, r[0]? = some v → w.cell? (ad.add (i * k)) = some v) ∧ ∀ j v, r[j + 1]? = some v → w.cell? ⟨(ad.add (i * k)).block, (ad.add (i * k)).off + (j + 1), none⟩ = some v := by
 obtain ⟨ad, e, hb, _, hc⟩ := h.at_ hi
 refine ⟨ad, e, hb, fun v hv => hc 0 v hv, fun j v hv => ?_⟩
 have := hc (j + 1) v hv
 have h2 : ad.add (i * k + (j + 1)) = (ad.add (i * k)).add (j + 1) := by unfold Addr.add; by_cases h0 : i * k = 0 <;> simp [h0, Nat.add_assoc]
 rw [h2] at this
 exact this
theorem whs_at {w : World} {A : Option Addr} {ws : List Wh} (h : RdS w A 2 (ws.map Wh.cells)) {k : Nat} (hk : k < ws.length) :
  ∃ ad, A = some ad ∧ ad.block < w.heap.size ∧ w.cell? (ad.add (k * 2)) = some (.int .i64 ws[k].lo) ∧ w.cell? ⟨(ad.add (k * 2)).block, (ad.add (k * 2)).off + 1, none⟩ = some (.int .i64 ws[k].hi) := by
 obtain ⟨ad, e, hb, h0, h1⟩ := h.nth (i := k) (r := ws[k].cells) (by simp [hk])
 exact ⟨ad, e, hb, h0 _ rfl, h1 0 _ rfl⟩
theorem notes_at {w : World} {A : Option Addr} {ns : List Note} (h : RdS w A 9 (ns.map Note.cells)) {k : Nat} (hk : k < ns.length) :
  ∃ ad, A = some ad ∧ ad.block < w.heap.size ∧ w.cell? (ad.add (k * 9)) = some (.int .i64 ns[k].k) ∧ w.cell? ⟨(ad.add (k * 9)).block, (ad.add (k * 9)).off + 1, none⟩ = some (.int .i64 ns[k].a) ∧ w.cell? ⟨(ad.add (k * 9)).block, (ad.add (k * 9)).off + 2, none⟩ = some (.int .i64 ns[k].b) ∧
   w.cell? ⟨(ad.add (k * 9)).block, (ad.add (k * 9)).off + 3, none⟩ = some (.int .i64 ns[k].lo) ∧ w.cell? ⟨(ad.add (k * 9)).block, (ad.add (k * 9)).off + 4, none⟩ = some (.int .i64 ns[k].hi) ∧ w.cell? ⟨(ad.add (k * 9)).block, (ad.add (k * 9)).off + 5, none⟩ = some (.int .i64 ns[k].ln) ∧
   w.cell? ⟨(ad.add (k * 9)).block, (ad.add (k * 9)).off + 6, none⟩ = some (.int .i64 ns[k].ld) ∧ w.cell? ⟨(ad.add (k * 9)).block, (ad.add (k * 9)).off + 7, none⟩ = some (.int .i64 ns[k].mn) ∧ w.cell? ⟨(ad.add (k * 9)).block, (ad.add (k * 9)).off + 8, none⟩ = some (.int .i64 ns[k].md) := by
 obtain ⟨ad, e, hb, h0, h1⟩ := h.nth (i := k) (r := ns[k].cells) (by simp [hk])
 exact ⟨ad, e, hb, h0 _ rfl, h1 0 _ rfl, h1 1 _ rfl, h1 2 _ rfl, h1 3 _ rfl, h1 4 _ rfl, h1 5 _ rfl, h1 6 _ rfl, h1 7 _ rfl⟩

set_option maxRecDepth 100000 in
set_option maxHeartbeats 4000000 in
theorem index_wheels (A : Option Addr) (c : Nat) (l : List Wh) (w : World) (hr : RdS w A 2 (l.map Wh.cells)) (hn : l.length ≤ 9223372036854775807) (hM : ∀ s ∈ l, MoW s) (b : Bool) (hb : l.all whB = b) :
  Calls Tryz.prog 138 #[.slice A l.length c, .func (.func 102) #[] #[]] w fun e' w' => ∃ k : Int, e' = .returned (.int .i64 k) ∧ ((b = true ∧ k = -1) ∨ (b = false ∧ 0 ≤ k)) ∧ Below w.heap.size w w' := by
 go_enter Tryz.func138, Tryz.ntmps138
 go_wp2
 generalize hlen : l.length = n at *
 have HL := Lib.hid hlen
 clear hlen
 go_loopw [8] (fun i wr => ∃ k : Nat, k ≤ n ∧ i = .int .i64 k ∧ (l.take k).all whB = true ∧ Below w.heap.size w wr) (fun i _ => n - (intOf i).toNat)
 case atStart => exact ⟨0, Nat.zero_le _, rfl, by simp, fr_refl _⟩
 case round =>
  obtain ⟨k, hk, rfl, hall, hbel⟩ := hrel
  by_cases hlt : k < n
  ·have hkl : k < l.length := by have := HL.out; omega
   obtain ⟨ad, rfl, hab, hc0, hc1⟩ := whs_at (hr.keep hbel) hkl
   clear hr
   go_wp2_with fail
   cases hf : whB l[k]
   ·refine (isFind1_is _ _ (hM _ (List.getElem_mem hkl)) true (by simp [hf])).mono ?_
    rintro e w1 ⟨rfl, hb1⟩
    go_wp2_with fail
    go_ret
    refine ⟨k, rfl, Or.inr ⟨?_, by omega⟩, fr_call hbel hb1⟩
    rw [← hb]
    exact all_no hkl hf
   ·refine (isFind1_is _ _ (hM _ (List.getElem_mem hkl)) false (by simp [hf])).mono ?_
    rintro e w1 ⟨rfl, hb1⟩
    go_wp2_with fail
    refine ⟨⟨k + 1, hlt, rfl, all_step hkl hall hf, fr_call hbel hb1⟩, ?_⟩
    simp [intOf]; omega
  ·go_wp2_with fail
   go_ret
   refine ⟨-1, rfl, Or.inl ⟨?_, rfl⟩, hbel⟩
   rw [← hb, ← List.take_of_length_le (l := l) (i := k) (by have := HL.out; omega)]; exact hall
set_option maxHeartbeats 2000000 in
theorem contains_wheels (A : Option Addr) (c : Nat) (l : List Wh) (w : World) (hr : RdS w A 2 (l.map Wh.cells)) (hn : l.length ≤ 9223372036854775807) (hM : ∀ s ∈ l, MoW s) (b : Bool) (hb : l.all whB = b) :
  Calls Tryz.prog 101 #[.slice A l.length c, .func (.func 102) #[] #[]] w fun e' w' => e' = .returned (.bool (!b)) ∧ Below w.heap.size w w' := by
 go_enter Tryz.func101, Tryz.ntmps101
 go_wp2_with fail
 refine (index_wheels A c l w hr hn hM b hb).mono ?_
 rintro e w1 ⟨k, rfl, hk, hb1⟩
 go_wp2_with fail
 go_ret
 refine ⟨ret_bool ?_, hb1⟩
 rcases hk with ⟨rfl, rfl⟩ | ⟨rfl, hk⟩
 ·rfl
 ·simpa using hk
set_option maxRecDepth 100000 in
set_option maxHeartbeats 8000000 in
theorem index_notes (A : Option Addr) (c p : Nat) (m : Int) (l : List Note) (w : World) (hr : RdS w A 9 (l.map Note.cells)) (hn : l.length ≤ 9223372036854775807) (hp : Blk w p 3 #[.int .i64 m]) (hm : 0 ≤ m ∧ m ≤ 1000) (hM : ∀ s ∈ l, MoN s) (b : Bool) (hb : l.all (fun n => noteB n m) = b) :
  Calls Tryz.prog 139 #[.slice A l.length c, .func (.func 105) #[] #[.pointer (some ⟨p, 0, none⟩)]] w fun e' w' => ∃ k : Int, e' = .returned (.int .i64 k) ∧ ((b = true ∧ k = -1) ∨ (b = false ∧ 0 ≤ k)) ∧ Below w.heap.size w w' := by
 go_enter Tryz.func139, Tryz.ntmps139
 go_wp2
 generalize hlen : l.length = n at *
 have HL := Lib.hid hlen
 clear hlen
 go_loopw [8] (fun i wr => ∃ k : Nat, k ≤ n ∧ i = .int .i64 k ∧ (l.take k).all (fun n => noteB n m) = true ∧ Below w.heap.size w wr) (fun i _ => n - (intOf i).toNat)
 case atStart => exact ⟨0, Nat.zero_le _, rfl, by simp, fr_refl _⟩
 case round =>
  obtain ⟨k, hk, rfl, hall, hbel⟩ := hrel
  by_cases hlt : k < n
  ·have hkl : k < l.length := by have := HL.out; omega
   have hpr := hp.keep hbel
   obtain ⟨ad, rfl, hab, hc0, hc1, hc2, hc3, hc4, hc5, hc6, hc7, hc8⟩ := notes_at (hr.keep hbel) hkl
   clear hr
   go_wp2_with fail
   cases hf : noteB l[k] m
   ·refine (isFind2_is _ p m _ hpr (hM _ (List.getElem_mem hkl)) hm true (by simp [hf])).mono ?_
    rintro e w1 ⟨rfl, hb1⟩
    go_wp2_with fail
    go_ret
    refine ⟨k, rfl, Or.inr ⟨?_, by omega⟩, fr_call hbel hb1⟩
    rw [← hb]
    exact all_no (p := fun n => noteB n m) hkl hf
   ·refine (isFind2_is _ p m _ hpr (hM _ (List.getElem_mem hkl)) hm false (by simp [hf])).mono ?_
    rintro e w1 ⟨rfl, hb1⟩
    go_wp2_with fail
    refine ⟨⟨k + 1, hlt, rfl, all_step (p := fun n => noteB n m) hkl hall hf, fr_call hbel hb1⟩, ?_⟩
    simp [intOf]; omega
  ·go_wp2_with fail
   go_ret
   refine ⟨-1, rfl, Or.inl ⟨?_, rfl⟩, hbel⟩
   rw [← hb, ← List.take_of_length_le (l := l) (i := k) (by have := HL.out; omega)]; exact hall
set_option maxHeartbeats 2000000 in
theorem contains_notes (A : Option Addr) (c p : Nat) (m : Int) (l : List Note) (w : World) (hr : RdS w A 9 (l.map Note.cells)) (hn : l.length ≤ 9223372036854775807) (hp : Blk w p 3 #[.int .i64 m]) (hm : 0 ≤ m ∧ m ≤ 1000) (hM : ∀ s ∈ l, MoN s) (b : Bool) (hb : l.all (fun n => noteB n m) = b) :
  Calls Tryz.prog 104 #[.slice A l.length c, .func (.func 105) #[] #[.pointer (some ⟨p, 0, none⟩)]] w fun e' w' => e' = .returned (.bool (!b)) ∧ Below w.heap.size w w' := by
 go_enter Tryz.func104, Tryz.ntmps104
 go_wp2_with fail
 refine (index_notes A c p m l w hr hn hp hm hM b hb).mono ?_
 rintro e w1 ⟨k, rfl, hk, hb1⟩
 go_wp2_with fail
 go_ret
 refine ⟨ret_bool ?_, hb1⟩
 rcases hk with ⟨rfl, rfl⟩ | ⟨rfl, hk⟩
 ·rfl
 ·simpa using hk
end Go.Proofs.YtfgghicdkcjdgaaGreatDoor
end

section
namespace Go.Proofs.YtfgghicdkcjdgaaGreatDoor
open Go.RowKit Go.Shelf

/-- a find in memory: its wheels and its notes -/
structure FindAt (w : World) (A N : Option Addr) (ws : List Wh) (ns : List Note) : Prop where
 ws : RdS w A 2 (ws.map Wh.cells)
 ns : RdS w N 9 (ns.map Note.cells)
theorem FindAt.keep {w w' : World} {A N : Option Addr} {ws : List Wh} {ns : List Note} (h : FindAt w A N ws ns) (hb : Below w.heap.size w w') : FindAt w' A N ws ns := ⟨h.ws.keep hb, h.ns.keep hb⟩
def MoF (ws : List Wh) (ns : List Note) : Prop := (∀ s ∈ ws, MoW s) ∧ ∀ n ∈ ns, MoN n
set_option maxRecDepth 100000 in
set_option maxHeartbeats 8000000 in
theorem isFind_is (A N : Option Addr) (c d : Nat) (ws : List Wh) (ns : List Note) (w : World) (hf : FindAt w A N ws ns) (hn : ws.length ≤ 1000) (hm : ns.length ≤ 9223372036854775807) (hM : MoF ws ns) (b : Bool) (hb : findB ws ns = b) :
  Calls Tryz.prog 46 #[.agg #[.slice A ws.length c, .slice N ns.length d]] w fun e w' => e = .returned (.bool b) ∧ Below w.heap.size w w' := by
 subst hb
 have hmf : ∀ (fn : Fn) (first cap : Array Value) (w : World), (Instr.makeFunc fn first cap).run Tryz.prog w = .ok (.func fn first cap) w := fun _ _ _ _ => rfl
 have g2 := fr_alloc (fr_alloc (fr_refl w) (.cells #[.slice A ws.length c, .slice N ns.length d] 25)) (.cells #[.int .i64 (ws.length : Int)] 3)
 have hX : Blk ((w.alloc (.cells #[.slice A ws.length c, .slice N ns.length d] 25)).alloc (.cells #[.int .i64 (ws.length : Int)] 3)) w.heap.size 25 #[.slice A ws.length c, .slice N ns.length d] := (Blk.new w _ _).alloc _
 have hY : Blk ((w.alloc (.cells #[.slice A ws.length c, .slice N ns.length d] 25)).alloc (.cells #[.int .i64 (ws.length : Int)] 3)) (w.heap.size + 1) 3 #[.int .i64 (ws.length : Int)] := Blk.new_at _ _ (by simp)
 have h1 := contains_wheels A c ws _ (hf.ws.keep g2) (by omega) hM.1 _ rfl
 have hN := hf.ns.keep g2
 have hM2 := hM.2
 clear hM hf
 generalize hlen : ws.length = n at *
 have HL := Lib.hid hlen
 clear hlen
 unfold findB
 rw [HL.out]
 cases c1 : ((n : Int) % 2 == 0)
 ·have e1 : decide ((n : Int) % 2 = 0) = false := c1
  rw [e1]
  clear e1
  go_enter Tryz.func46, Tryz.ntmps46
  go_wp2_with fail
  go_ret
  exact ⟨rfl, g2⟩
 have e1 : decide ((n : Int) % 2 = 0) = true := c1
 rw [e1]
 clear e1
 cases c2 : inB (n : Int) 2 6
 ·go_enter Tryz.func46, Tryz.ntmps46
  go_wp2_with fail
  refine (in_is _ _ _ _ _ c2).mono ?_
  rintro e w' ⟨rfl, rfl⟩
  go_wp2_with fail
  go_ret
  exact ⟨rfl, g2⟩
 by_cases c3 : ns.length ≤ 8
 ·have d3 : decide (ns.length ≤ 8) = true := decide_eq_true c3
  have d4 : decide ((ns.length : Int) ≤ 8) = true := decide_eq_true (by omega)
  cases c4 : ws.all whB
  ·rw [c4] at h1
   rw [d3]
   go_enter Tryz.func46, Tryz.ntmps46
   go_wp2_with fail
   refine (in_is _ _ _ _ _ c2).mono ?_
   rintro e w' ⟨rfl, rfl⟩
   go_wp2_with fail
   refine h1.mono ?_
   rintro e w1 ⟨rfl, hb1⟩
   go_wp2_with fail
   go_ret
   exact ⟨rfl, fr_call g2 hb1⟩
  ·rw [c4] at h1
   rw [d3]
   go_enter Tryz.func46, Tryz.ntmps46
   go_wp2_with fail
   refine (in_is _ _ _ _ _ c2).mono ?_
   rintro e w' ⟨rfl, rfl⟩
   go_wp2_with fail
   refine h1.mono ?_
   rintro e w1 ⟨rfl, hb1⟩
   replace hX := hX.keep hb1
   replace hY := hY.keep hb1
   replace hN := hN.keep hb1
   have hc := fun j => hX.cell j
   go_wp2_with fail
   refine (contains_notes N d (w.heap.size + 1) (n : Int) ns w1 hN hm hY (by omega) hM2 _ rfl).mono ?_
   rintro e w2 ⟨rfl, hb2⟩
   clear hc
   go_wp2_with fail
   go_ret
   exact ⟨ret_bool (by simp), fr_call (fr_call g2 hb1) hb2⟩
 ·have d3 : decide (ns.length ≤ 8) = false := decide_eq_false c3
  have d4 : decide ((ns.length : Int) ≤ 8) = false := decide_eq_false (by omega)
  rw [d3]
  go_enter Tryz.func46, Tryz.ntmps46
  go_wp2_with fail
  refine (in_is _ _ _ _ _ c2).mono ?_
  rintro e w' ⟨rfl, rfl⟩
  go_wp2_with fail
  go_ret
  exact ⟨rfl, g2⟩
end Go.Proofs.YtfgghicdkcjdgaaGreatDoor
end

section
namespace Go.Proofs.YtfgghicdkcjdgaaGreatDoor
open Go.RowKit Go.Shelf

/-- the product of the first k numbers -/
def prL (xs : List Int) : Nat → Int
 | 0 => 1
 | k + 1 => prL xs k * xs[k]?.getD 0
theorem get_bd {xs : List Int} {B : Int} (h : ∀ x ∈ xs, 0 ≤ x ∧ x ≤ B) (hB : 0 ≤ B) (k : Nat) : 0 ≤ xs[k]?.getD 0 ∧ xs[k]?.getD 0 ≤ B := by
 cases hk : xs[k]? with
 | none => exact ⟨Int.le_refl _, hB⟩
 | some x => exact h x (List.mem_of_getElem? hk)
theorem prL_bd {xs : List Int} (h : ∀ x ∈ xs, 0 ≤ x ∧ x ≤ 100) : ∀ k, 0 ≤ prL xs k ∧ prL xs k ≤ ((100 ^ k : Nat) : Int)
 | 0 => by simp [prL]
 | k + 1 => by
  obtain ⟨h1, h2⟩ := prL_bd h k
  obtain ⟨h3, h4⟩ := get_bd h (by omega) k
  refine ⟨Int.mul_nonneg h1 h3, ?_⟩
  have := Int.mul_le_mul h2 h4 h3 (by omega)
  rw [Nat.pow_succ]; push_cast at this ⊢; exact this
theorem pow100 {k : Nat} (h : k ≤ 4) : (100 ^ k : Nat) ≤ 100000000 := Nat.le_trans (Nat.pow_le_pow_right (by decide) h) (by decide)
set_option maxHeartbeats 2000000 in
theorem product_any (A : Option Addr) (n c : Nat) (xs : List Int) (w : World) (hr : Rd w A n xs) (hn : n ≤ 4) (hb : ∀ x ∈ xs, 0 ≤ x ∧ x ≤ 100) :
  Calls Tryz.prog 140 #[.slice A n c] w fun e w' => e = .returned (.int .i64 (prL xs n)) ∧ w = w' := by
 go_enter Tryz.func140, Tryz.ntmps140
 go_wp2
 go_loop [3, 8] (fun v i => ∃ k : Nat, k ≤ n ∧ i = .int .i64 k ∧ v = .int .i64 (prL xs k)) (fun _ i => n - (intOf i).toNat)
 case atStart => exact ⟨0, Nat.zero_le _, rfl, rfl⟩
 case round =>
  obtain ⟨k, hk, rfl, rfl⟩ := hrel
  by_cases hlt : k < n
  ·obtain ⟨ad, rfl, hlb, hcell⟩ := hr.at_ hlt
   have h1 := prL_bd hb k
   have h2 := get_bd hb (by omega) k
   have h3 := pow100 (show k ≤ 4 by omega)
   have hs : prL xs (k + 1) = prL xs k * xs[k]?.getD 0 := rfl
   have HS := Lib.hid hs
   have q1 := mul_wrap (a := prL xs k) (b := xs[k]?.getD 0) (by omega) (by omega)
   have q2 := mul_wrap64 (a := prL xs k) (b := xs[k]?.getD 0) (by omega) (by omega)
   clear hs h3
   generalize prL xs k = v at *
   generalize xs[k]?.getD 0 = x at *
   go_wp2_with fail
   go_round
   case rel => exact ⟨k + 1, hlt, by go_num, by rw [HS.out]⟩
   case measure => simp [intOf]; omega
  ·obtain rfl : k = n := by omega
   go_wp2_with fail
   go_ret
   exact ⟨rfl, rfl⟩

/-- the driving (d = 0) or driven wheels of the pairs from the a-th on, k of them -/
def selW (t : List Int) (a d k : Nat) : List Int := (List.range k).map (fun i => t[2 * (a + i) + d]?.getD 0)
theorem selW_len (t : List Int) (a d k : Nat) : (selW t a d k).length = k := by simp [selW]
theorem selW_succ (t : List Int) (a d k : Nat) : selW t a d (k + 1) = selW t a d k ++ [t[2 * (a + k) + d]?.getD 0] := by simp [selW, List.range_succ]
theorem selW_get (t : List Int) (a d k i : Nat) (h : i < k) : (selW t a d k)[i]?.getD 0 = t[2 * (a + i) + d]?.getD 0 := by simp [selW, h]
theorem selW_bd {t : List Int} {B : Int} (h : ∀ x ∈ t, 0 ≤ x ∧ x ≤ B) (hB : 0 ≤ B) (a d k : Nat) : ∀ x ∈ selW t a d k, 0 ≤ x ∧ x ≤ B := by
 intro x hx
 obtain ⟨i, _, rfl⟩ := List.mem_map.1 hx
 exact get_bd h hB _
theorem own_mono {w : World} {b b' : Nat} {v : Value} {xs : List Int} (h : Own w b v xs) (hb : b' ≤ b) : Own w b' v xs := by
 refine ⟨h.1, ?_⟩
 rcases h.2 with h1 | ⟨g, cap, cur, h1, h2, h3⟩
 ·exact Or.inl h1
 ·exact Or.inr ⟨g, cap, cur, h1, by omega, h3⟩
/-- a list of numbers is returned -/
def RetI (w : World) (xs : List Int) (e : Ending) (w' : World) : Prop := ∃ A c, e = .returned (.slice A xs.length c) ∧ Rd w' A xs.length xs ∧ Below w.heap.size w w'
def RetO (w : World) (xs : List Int) (e : Ending) (w' : World) : Prop := ∃ A c, e = .returned (.slice A xs.length c) ∧ Own w' w.heap.size (.slice A xs.length c) xs ∧ Below w.heap.size w w'
set_option maxHeartbeats 4000000 in
theorem wheels_any (A : Option Addr) (n c a b d : Nat) (t : List Int) (w : World) (hr : Rd w A n t) (hn : n ≤ 1000) (hab : a ≤ b + 1) (hb : 2 * b + d < n) (hd : d ≤ 1) :
  Calls Tryz.prog 141 #[.slice A n c, .int .i64 a, .int .i64 b, .int .i64 d] w (RetI w (selW t a d (b + 1 - a))) := by
 go_enter Tryz.func141, Tryz.ntmps141
 go_wp2
 go_loopw [9, 10] (fun v i wr => ∃ k : Nat, a + k ≤ b + 1 ∧ i = .int .i64 (a + k : Nat) ∧ Own wr w.heap.size v (selW t a d k) ∧ Below w.heap.size w wr) (fun _ i _ => b + 1 - (intOf i).toNat)
 case atStart => exact ⟨0, by omega, rfl, Own.nil _ _, fr_refl _⟩
 case round =>
  obtain ⟨k, hk, rfl, hown, hbel⟩ := hrel
  obtain ⟨p, hp⟩ : ∃ p, a + k = p := ⟨_, rfl⟩
  have HP := Lib.hid hp
  rw [hp] at hk ⊢
  by_cases hlt : p ≤ b
  ·obtain ⟨q, hq⟩ : ∃ q : Nat, 2 * p + d = q := ⟨_, rfl⟩
   have HQ := Lib.hid hq
   have hqn : q < n := by omega
   have hix : 2 * (p : Int) + (d : Int) = (q : Int) := by omega
   have hlt' : (p : Int) ≤ (b : Int) := by omega
   have hw1 : IntKind.i64.wrap (2 * (p : Int)) = 2 * (p : Int) := IntWalk.i64_in _ (by omega)
   obtain ⟨ad, rfl, hlb, hcell⟩ := (hr.keep hbel).at_ hqn
   have hsz := hbel.size
   have hkp : k ≤ p := by omega
   clear hp hq
   go_wp2_with (at_builtin; go_must (refine app_int rfl (.tmp 17) (.tmp 25) rfl w.heap.size _ (selW t a d k) rfl rfl hown (by rw [selW_len]; omega) hsz ?_); intro A1 c1 w1 hown1 hg1)
   have hbel1 : Below w.heap.size w w1 := (fr_alloc hbel _).grown hg1 (by simp; omega) (own_ge hown)
   go_roundw
   case rel =>
    have e : selW t a d (k + 1) = selW t a d k ++ [t[q]?.getD 0] := by rw [selW_succ, HP.out, HQ.out]
    exact ⟨k + 1, by have := HP.out; omega, by have := HP.out; rw [← this]; go_num, by rw [e]; rw [selW_len] at hown1 ⊢; exact hown1, hbel1⟩
   case measure => simp [intOf]; omega
  ·have e : k = b + 1 - a := by have := HP.out; omega
   subst e
   obtain ⟨A1, c1, rfl⟩ := hown.form
   have hlt' : ¬ (p : Int) ≤ (b : Int) := by omega
   clear hp
   go_wp2_with fail
   go_ret
   exact ⟨A1, c1, rfl, hown.rd, hbel⟩
end Go.Proofs.YtfgghicdkcjdgaaGreatDoor
end

section
namespace Go.Proofs.YtfgghicdkcjdgaaGreatDoor
open Go.RowKit Go.Shelf

def NV (k a b lo hi ln ld mn md : Int) : Value := .agg #[.int .i64 k, .int .i64 a, .int .i64 b, .int .i64 lo, .int .i64 hi, .int .i64 ln, .int .i64 ld, .int .i64 mn, .int .i64 md]
def TeethOk (t : List Int) : Prop := ∀ x ∈ t, 4 ≤ x ∧ x ≤ 60
theorem teeth_get {t : List Int} (h : TeethOk t) {k : Nat} (hk : k < t.length) : 4 ≤ t[k]?.getD 0 ∧ t[k]?.getD 0 ≤ 60 := by
 have e : t[k]? = some t[k] := List.getElem?_eq_getElem hk
 rw [e]; exact h _ (List.getElem_mem hk)
set_option maxRecDepth 100000 in
set_option maxHeartbeats 4000000 in
theorem arc_is (A : Option Addr) (n c a : Nat) (t : List Int) (k b lo hi ln ld mn md : Int) (w : World) (hr : Rd w A n t) (ha : a < n) (ht : TeethOk t) (hb : 0 ≤ b ∧ b ≤ 1000) (hlo : 0 ≤ lo ∧ lo ≤ 1000) (hhi : 0 ≤ hi ∧ hi ≤ 1000) :
  Calls Tryz.prog 108 #[.slice A n c, .agg #[.int .i64 k, .int .i64 a, .int .i64 b, .int .i64 lo, .int .i64 hi, .int .i64 ln, .int .i64 ld, .int .i64 mn, .int .i64 md]] w fun e w' => e = .returned (.bool (inB (360 * b) (lo * t[a]?.getD 0) (hi * t[a]?.getD 0))) ∧ Below w.heap.size w w' := by
 have hx := teeth_get ht (k := a) (by rw [hr.len]; exact ha)
 obtain ⟨ad, rfl, hlb, hcell⟩ := (hr.alloc (.cells #[.int .i64 k, .int .i64 a, .int .i64 b, .int .i64 lo, .int .i64 hi, .int .i64 ln, .int .i64 ld, .int .i64 mn, .int .i64 md] 70)).at_ ha
 generalize t[a]?.getD 0 = x at *
 obtain ⟨x1, x2⟩ := hx
 obtain ⟨b1, b2⟩ := hb
 obtain ⟨l1, l2⟩ := hlo
 obtain ⟨h1, h2⟩ := hhi
 have q0 : IntKind.i64.wrap (360 * b) = 360 * b := IntWalk.i64_in _ (by omega)
 have q1 := mul_wrap (a := lo) (b := x) (by omega) (by omega)
 have q2 := mul_wrap (a := hi) (b := x) (by omega) (by omega)
 have i1 : 0 ≤ (a : Int) := by omega
 have i2 : (a : Int) < (n : Int) := by omega
 clear hr ht
 go_enter Tryz.func108, Tryz.ntmps108
 go_wp2_with fail
 go_quiet ((go_at_call 100; exact quiet_left (in_is _ _ _ _ _ rfl)))
 go_wp2_with fail
 go_ret
 exact ⟨rfl, fr_drewN (fr_alloc (fr_refl _) _) _⟩

set_option maxRecDepth 100000 in
set_option maxHeartbeats 4000000 in
theorem sum_is (A : Option Addr) (n c a : Nat) (t : List Int) (k b lo hi ln ld mn md : Int) (w : World) (hr : Rd w A n t) (hn : n ≤ 1000) (ha : 2 * a + 1 < n) (ht : TeethOk t) :
  Calls Tryz.prog 109 #[.slice A n c, .agg #[.int .i64 k, .int .i64 a, .int .i64 b, .int .i64 lo, .int .i64 hi, .int .i64 ln, .int .i64 ld, .int .i64 mn, .int .i64 md]] w fun e w' => e = .returned (.bool (inB (t[2 * a]?.getD 0 + t[2 * a + 1]?.getD 0) lo hi)) ∧ Below w.heap.size w w' := by
 have hx := teeth_get ht (k := 2 * a) (by rw [hr.len]; omega)
 have hy := teeth_get ht (k := 2 * a + 1) (by rw [hr.len]; omega)
 have hr1 := hr.alloc (.cells #[.int .i64 k, .int .i64 a, .int .i64 b, .int .i64 lo, .int .i64 hi, .int .i64 ln, .int .i64 ld, .int .i64 mn, .int .i64 md] 70)
 obtain ⟨q, hq⟩ : ∃ q, 2 * a = q := ⟨_, rfl⟩
 rw [hq] at ha hx hy ⊢
 obtain ⟨ad, rfl, _, hcell⟩ := hr1.at_ (show q < n by omega)
 obtain ⟨ad', e, _, hcell2⟩ := hr1.at_ (show q + 1 < n by omega)
 cases e
 have hix : 2 * (a : Int) = (q : Int) := by omega
 generalize t[q]?.getD 0 = x at *
 generalize t[q + 1]?.getD 0 = y at *
 obtain ⟨x1, x2⟩ := hx
 obtain ⟨y1, y2⟩ := hy
 have hq1 : (q : Int) + 1 = ((q + 1 : Nat) : Int) := by omega
 obtain ⟨q', hq'⟩ : ∃ q', q + 1 = q' := ⟨_, rfl⟩
 rw [hq'] at hcell2 hq1 ha
 have q0 : IntKind.i64.wrap (x + y) = x + y := IntWalk.i64_in _ (by omega)
 have q1 : IntKind.i64.wrap (q : Int) = (q : Int) := IntWalk.i64_in _ (by omega)
 have q2 : IntKind.i64.wrap (q' : Int) = (q' : Int) := IntWalk.i64_in _ (by omega)
 have i1 : 0 ≤ (q : Int) := by omega
 have i2 : (q : Int) < (n : Int) := by omega
 have i3 : 0 ≤ (q' : Int) := by omega
 have i4 : (q' : Int) < (n : Int) := by omega
 clear hr ht hr1 hq hq'
 go_enter Tryz.func109, Tryz.ntmps109
 go_wp2_with fail
 go_quiet ((go_at_call 100; exact quiet_left (in_is _ _ _ _ _ rfl)))
 go_wp2_with fail
 go_ret
 exact ⟨rfl, fr_drewN (fr_alloc (fr_refl _) _) _⟩
set_option maxRecDepth 100000 in
set_option maxHeartbeats 4000000 in
theorem same_is (A : Option Addr) (n c a b : Nat) (t : List Int) (k lo hi ln ld mn md : Int) (w : World) (hr : Rd w A n t) (ha : a < n) (hb : b < n) :
  Calls Tryz.prog 111 #[.slice A n c, .agg #[.int .i64 k, .int .i64 a, .int .i64 b, .int .i64 lo, .int .i64 hi, .int .i64 ln, .int .i64 ld, .int .i64 mn, .int .i64 md]] w fun e w' => e = .returned (.bool (t[a]?.getD 0 == t[b]?.getD 0)) ∧ Below w.heap.size w w' := by
 have hr1 := hr.alloc (.cells #[.int .i64 k, .int .i64 a, .int .i64 b, .int .i64 lo, .int .i64 hi, .int .i64 ln, .int .i64 ld, .int .i64 mn, .int .i64 md] 70)
 obtain ⟨ad, rfl, _, hcell⟩ := hr1.at_ ha
 obtain ⟨ad', e, _, hcell2⟩ := hr1.at_ hb
 cases e
 generalize t[a]?.getD 0 = x at *
 generalize t[b]?.getD 0 = y at *
 clear hr hr1
 go_enter Tryz.func111, Tryz.ntmps111
 go_wp2_with fail
 go_quiet (fail)
 go_wp2_with fail
 go_ret
 exact ⟨rfl, fr_drewN (fr_alloc (fr_refl _) _) _⟩
set_option maxRecDepth 100000 in
set_option maxHeartbeats 4000000 in
theorem part_is (A : Option Addr) (n c a : Nat) (t : List Int) (k b lo hi ln ld mn md : Int) (w : World) (hr : Rd w A n t) (ha : a < n) (ht : TeethOk t) (hb : 2 ≤ b ∧ b ≤ 12) :
  Calls Tryz.prog 112 #[.slice A n c, .agg #[.int .i64 k, .int .i64 a, .int .i64 b, .int .i64 lo, .int .i64 hi, .int .i64 ln, .int .i64 ld, .int .i64 mn, .int .i64 md]] w fun e w' => e = .returned (.bool (t[a]?.getD 0 % b == 0)) ∧ Below w.heap.size w w' := by
 have hx := teeth_get ht (k := a) (by rw [hr.len]; omega)
 have hr1 := hr.alloc (.cells #[.int .i64 k, .int .i64 a, .int .i64 b, .int .i64 lo, .int .i64 hi, .int .i64 ln, .int .i64 ld, .int .i64 mn, .int .i64 md] 70)
 obtain ⟨ad, rfl, _, hcell⟩ := hr1.at_ ha
 generalize t[a]?.getD 0 = x at *
 obtain ⟨x1, x2⟩ := hx
 obtain ⟨b1, b2⟩ := hb
 have hb0 : ¬ b = 0 := by omega
 have hm : x.tmod b = x % b := Int.tmod_eq_emod_of_nonneg (by omega)
 have hw : IntKind.i64.wrap (x % b) = x % b := IntWalk.i64_in _ (by have := Int.emod_nonneg x hb0; have := Int.emod_lt_of_pos x (show 0 < b by omega); omega)
 clear hr hr1 ht
 go_enter Tryz.func112, Tryz.ntmps112
 go_wp2_with fail
 go_quiet (fail)
 go_wp2_with fail
 go_ret
 exact ⟨rfl, fr_drewN (fr_alloc (fr_refl _) _) _⟩
end Go.Proofs.YtfgghicdkcjdgaaGreatDoor
end

section
namespace Go.Proofs.YtfgghicdkcjdgaaGreatDoor
open Go.RowKit Go.Shelf
section
variable {P : Program} {o : Oper} {a : Act} {w : World} {K : Act → World → Prop} {Q : Exit → Act → World → Prop}
theorem wp_alloc_new (T : TypeId) (ho : o.op = .alloc T) (z : Value) (hz : (zeroValue T).run P w = .ok z w)
  (h : ∀ g W, w.heap.size = g → Blk W g T z.cells → Below w.heap.size w W → W.heap.size = g + 1 → K (a.put o.dst (.pointer (some ⟨g, 0, none⟩))) W) : o.wp P a w K Q := by
 have := h w.heap.size (w.alloc (.cells z.cells T)) rfl (Blk.new _ _ _) (fr_alloc (fr_refl _) _) (by simp)
 unfold Oper.wp
 simp [execOp, ho, Instr.alloc, newVar, newRow, hz, Result.andThen, go_sem]
 exact this
end
end Go.Proofs.YtfgghicdkcjdgaaGreatDoor
end

section
namespace Go.Proofs.YtfgghicdkcjdgaaGreatDoor
open Go.RowKit Go.Shelf

theorem frac_zero (w : World) : (zeroValue 40).run Tryz.prog w = .ok (.agg #[.int .i64 0, .int .i64 0]) w := by kernel_rfl
theorem wheels_0 (A : Option Addr) (n c a b : Nat) (t : List Int) (w : World) (hr : Rd w A n t) (hn : n ≤ 1000) (hab : a ≤ b + 1) (hb : 2 * b + 1 < n) :
  Calls Tryz.prog 141 #[.slice A n c, .int .i64 a, .int .i64 b, .int .i64 0] w (RetI w (selW t a 0 (b + 1 - a))) := wheels_any A n c a b 0 t w hr hn hab (by omega) (by omega)
theorem wheels_1 (A : Option Addr) (n c a b : Nat) (t : List Int) (w : World) (hr : Rd w A n t) (hn : n ≤ 1000) (hab : a ≤ b + 1) (hb : 2 * b + 1 < n) :
  Calls Tryz.prog 141 #[.slice A n c, .int .i64 a, .int .i64 b, .int .i64 1] w (RetI w (selW t a 1 (b + 1 - a))) := wheels_any A n c a b 1 t w hr hn hab (by omega) (by omega)
/-- a fraction in a block of its own -/
def FracCut (lo : Nat) (x y : Int) (w : World) (s : Value) (W : World) : Prop := ∃ g, s = .pointer (some ⟨g, 0, none⟩) ∧ lo ≤ g ∧ Blk W g 40 #[.int .i64 x, .int .i64 y] ∧ Below w.heap.size w W
theorem moFrac {x : Int} {k : Nat} (hk : k ≤ 4) (h : 0 ≤ x ∧ x ≤ ((100 ^ k : Nat) : Int)) : Mo x := by
 have := pow100 hk
 exact ⟨by omega, by omega⟩
set_option maxRecDepth 100000 in
set_option maxHeartbeats 8000000 in
theorem ratio_is (A : Option Addr) (n c a b : Nat) (t : List Int) (k lo hi ln ld mn md : Int) (w : World) (hr : Rd w A n t) (hn : n ≤ 6) (hab : a ≤ b) (hb : 2 * b + 1 < n) (ht : TeethOk t) (h1 : Mo ln) (h2 : Mo ld) (h3 : Mo mn) (h4 : Mo md)
  (X Y : Int) (hX : prL (selW t a 0 (b + 1 - a)) (b + 1 - a) = X) (hY : prL (selW t a 1 (b + 1 - a)) (b + 1 - a) = Y) :
  Calls Tryz.prog 110 #[.slice A n c, .agg #[.int .i64 k, .int .i64 a, .int .i64 b, .int .i64 lo, .int .i64 hi, .int .i64 ln, .int .i64 ld, .int .i64 mn, .int .i64 md]] w fun e w' => e = .returned (.bool (!aboveB ln ld X Y && !aboveB X Y mn md)) ∧ Below w.heap.size w w' := by
 have ht' : ∀ x ∈ t, 0 ≤ x ∧ x ≤ 100 := fun x hx => by have := ht x hx; omega
 have hbX := selW_bd ht' (by omega) a 0 (b + 1 - a)
 have hbY := selW_bd ht' (by omega) a 1 (b + 1 - a)
 have mX : Mo X := by rw [← hX]; exact moFrac (by omega) (prL_bd hbX (b + 1 - a))
 have mY : Mo Y := by rw [← hY]; exact moFrac (by omega) (prL_bd hbY (b + 1 - a))
 have HX := Lib.hid hX
 have HY := Lib.hid hY
 have HBX := Lib.hid hbX
 have HBY := Lib.hid hbY
 clear hX hY hbX hbY ht ht'
 have hB := Blk.new w 70 #[.int .i64 k, .int .i64 a, .int .i64 b, .int .i64 lo, .int .i64 hi, .int .i64 ln, .int .i64 ld, .int .i64 mn, .int .i64 md]
 have hf := fr_alloc (fr_refl w) (.cells #[.int .i64 k, .int .i64 a, .int .i64 b, .int .i64 lo, .int .i64 hi, .int .i64 ln, .int .i64 ld, .int .i64 mn, .int .i64 md] 70)
 replace hr := hr.keep hf
 go_enter Tryz.func110, Tryz.ntmps110
 go_upto_region 1 with (fail)
 generalize w.alloc (.cells #[.int .i64 k, .int .i64 a, .int .i64 b, .int .i64 lo, .int .i64 hi, .int .i64 ln, .int .i64 ld, .int .i64 mn, .int .i64 md] 70) = wo at *
 have hlB := hB.lt
 have hlw := hf.size
 go_cut [5] from 21 (fun s5 wc => FracCut wo.heap.size X Y wo s5 wc)
 case first =>
  have hcB := fun j => hB.cell j
  refine wp_region_noPanic ?_
  refine wp_region_held_drew (S := fun W => (∀ p : Addr, p.block < (wo).heap.size → W.cell? p = (wo).cell? p) ∧ Below (wo).heap.size (wo) W) (by kernel_rfl) ⟨fun _ _ => rfl, fr_drew (fr_refl _)⟩ (fun hHeld => ?_)
  generalize wo.drew = wz at hHeld ⊢
  -- the region, step by step, in whatever order
  refine wpAnyH_take (i := 0) (oi := ⟨some 6, .move (.tmp 0), 96, "guess.go:93", #[], none⟩) (v := ?_) rfl (by kernel_rfl) (by kernel_rfl) (by kernel_rfl) (fun _ _ _ h => h) (Or.inl ⟨by rfl, fun W hSw => ?_⟩) hHeld ?_
  rotate_left
  ·(try dsimp only at hSw); go_simp; (try with_reducible rfl)
  (try simp only [Act.put, List.setIfInBounds_toArray, List.set_cons_zero, List.set_cons_succ])
  refine wpAnyH_take (i := 1) (oi := ⟨some 7, .fieldAddr 70 (.tmp 3) 1, 0, "guess.go:93", #[], none⟩) (v := ?_) rfl (by kernel_rfl) (by kernel_rfl) (by kernel_rfl) (fun _ _ _ h => h) (Or.inl ⟨by rfl, fun W hSw => ?_⟩) hHeld ?_
  rotate_left
  ·(try dsimp only at hSw); go_simp; (try with_reducible rfl)
  (try simp only [Act.put, List.setIfInBounds_toArray, List.set_cons_zero, List.set_cons_succ])
  refine wpAnyH_take (i := 2) (oi := ⟨some 8, .load 3 (.tmp 7), 3, "guess.go:93", #[⟨1, .data⟩], none⟩) (v := ?_) rfl (by kernel_rfl) (by kernel_rfl) (by kernel_rfl) (fun _ _ _ h => h) (Or.inl ⟨by rfl, fun W hSw => ?_⟩) hHeld ?_
  rotate_left
  ·(try dsimp only at hSw); go_simp; (try with_reducible rfl)
  (try simp only [Act.put, List.setIfInBounds_toArray, List.set_cons_zero, List.set_cons_succ])
  refine wpAnyH_take (i := 3) (oi := ⟨some 9, .fieldAddr 70 (.tmp 3) 2, 0, "guess.go:93", #[], none⟩) (v := ?_) rfl (by kernel_rfl) (by kernel_rfl) (by kernel_rfl) (fun _ _ _ h => h) (Or.inl ⟨by rfl, fun W hSw => ?_⟩) hHeld ?_
  rotate_left
  ·(try dsimp only at hSw); go_simp; (try with_reducible rfl)
  (try simp only [Act.put, List.setIfInBounds_toArray, List.set_cons_zero, List.set_cons_succ])
  refine wpAnyH_take (i := 4) (oi := ⟨some 10, .load 3 (.tmp 9), 3, "guess.go:93", #[⟨3, .data⟩], none⟩) (v := ?_) rfl (by kernel_rfl) (by kernel_rfl) (by kernel_rfl) (fun _ _ _ h => h) (Or.inl ⟨by rfl, fun W hSw => ?_⟩) hHeld ?_
  rotate_left
  ·(try dsimp only at hSw); go_simp; (try with_reducible rfl)
  (try simp only [Act.put, List.setIfInBounds_toArray, List.set_cons_zero, List.set_cons_succ])
  refine wpAnyH_take (i := 7) (oi := ⟨some 13, .move (.tmp 0), 96, "guess.go:93", #[], none⟩) (v := ?_) rfl (by kernel_rfl) (by kernel_rfl) (by kernel_rfl) (fun _ _ _ h => h) (Or.inl ⟨by rfl, fun W hSw => ?_⟩) hHeld ?_
  rotate_left
  ·(try dsimp only at hSw); go_simp; (try with_reducible rfl)
  (try simp only [Act.put, List.setIfInBounds_toArray, List.set_cons_zero, List.set_cons_succ])
  refine wpAnyH_take (i := 8) (oi := ⟨some 14, .fieldAddr 70 (.tmp 3) 1, 0, "guess.go:93", #[], none⟩) (v := ?_) rfl (by kernel_rfl) (by kernel_rfl) (by kernel_rfl) (fun _ _ _ h => h) (Or.inl ⟨by rfl, fun W hSw => ?_⟩) hHeld ?_
  rotate_left
  ·(try dsimp only at hSw); go_simp; (try with_reducible rfl)
  (try simp only [Act.put, List.setIfInBounds_toArray, List.set_cons_zero, List.set_cons_succ])
  refine wpAnyH_take (i := 9) (oi := ⟨some 15, .load 3 (.tmp 14), 3, "guess.go:93", #[⟨8, .data⟩], none⟩) (v := ?_) rfl (by kernel_rfl) (by kernel_rfl) (by kernel_rfl) (fun _ _ _ h => h) (Or.inl ⟨by rfl, fun W hSw => ?_⟩) hHeld ?_
  rotate_left
  ·(try dsimp only at hSw); go_simp; (try with_reducible rfl)
  (try simp only [Act.put, List.setIfInBounds_toArray, List.set_cons_zero, List.set_cons_succ])
  refine wpAnyH_take (i := 10) (oi := ⟨some 16, .fieldAddr 70 (.tmp 3) 2, 0, "guess.go:93", #[], none⟩) (v := ?_) rfl (by kernel_rfl) (by kernel_rfl) (by kernel_rfl) (fun _ _ _ h => h) (Or.inl ⟨by rfl, fun W hSw => ?_⟩) hHeld ?_
  rotate_left
  ·(try dsimp only at hSw); go_simp; (try with_reducible rfl)
  (try simp only [Act.put, List.setIfInBounds_toArray, List.set_cons_zero, List.set_cons_succ])
  refine wpAnyH_take (i := 11) (oi := ⟨some 17, .load 3 (.tmp 16), 3, "guess.go:93", #[⟨10, .data⟩], none⟩) (v := ?_) rfl (by kernel_rfl) (by kernel_rfl) (by kernel_rfl) (fun _ _ _ h => h) (Or.inl ⟨by rfl, fun W hSw => ?_⟩) hHeld ?_
  rotate_left
  ·(try dsimp only at hSw); go_simp; (try with_reducible rfl)
  (try simp only [Act.put, List.setIfInBounds_toArray, List.set_cons_zero, List.set_cons_succ])
  refine wpAnyH_ready (rs := [5, 15]) (by kernel_rfl) (by simp) ?_
  refine (AllReadyH.cons (o := ⟨some 11, .call { callee := .value (.func 141), args := #[.tmp 6, .tmp 8, .tmp 10, .const (.int .i64 0)], argTypes := #[96, 3, 3, 3] }, 34, "guess.go:93", #[⟨0, .data⟩, ⟨2, .data⟩, ⟨4, .data⟩], none⟩) rfl (fun K hK => ?_) (AllReadyH.cons (o := ⟨some 5, .alloc 40, 0, "guess.go:93", #[], none⟩) rfl (fun K hK => ?_) AllReadyH.nil))
  ·rw [if_pos (by rfl)]
   go_simp
   refine (wheels_0 A n c a b t wz (hr.keep hHeld.2) (by omega) (by omega) hb).mono ?_
   rintro e' wz ⟨A1, c1, rfl, hw1, hb1⟩
   (try replace hG := hG.keep hb1)
   rw [selW_len] at hw1 ⊢
   refine hK.out _ _ (kp_step hb1 hHeld) (fun hHeld => ?_)
   clear hK K
   (try simp only [Act.put, List.setIfInBounds_toArray, List.set_cons_zero, List.set_cons_succ])
   refine wpAnyH_ready (rs := [6, 15]) (by kernel_rfl) (by simp) ?_
   refine (AllReadyH.cons (o := ⟨some 12, .call { callee := .value (.func 140), args := #[.tmp 11], argTypes := #[34] }, 3, "guess.go:93", #[⟨5, .data⟩, ⟨5, .chain⟩], none⟩) rfl (fun K hK => ?_) (AllReadyH.cons (o := ⟨some 5, .alloc 40, 0, "guess.go:93", #[], none⟩) rfl (fun K hK => ?_) AllReadyH.nil))
   ·rw [if_pos (by rfl)]
    go_simp
    refine (product_any A1 _ c1 _ wz hw1 (by omega) HBX.out).mono ?_
    rintro e' w' ⟨rfl, rfl⟩
    rw [HX.out]
    refine hK.out _ _ (hHeld) (fun hHeld => ?_)
    clear hK K
    (try simp only [Act.put, List.setIfInBounds_toArray, List.set_cons_zero, List.set_cons_succ])
    refine wpAnyH_ready (rs := [12, 15]) (by kernel_rfl) (by simp) ?_
    refine (AllReadyH.cons (o := ⟨some 18, .call { callee := .value (.func 141), args := #[.tmp 13, .tmp 15, .tmp 17, .const (.int .i64 1)], argTypes := #[96, 3, 3, 3] }, 34, "guess.go:93", #[⟨7, .data⟩, ⟨9, .data⟩, ⟨11, .data⟩, ⟨6, .chain⟩], none⟩) rfl (fun K hK => ?_) (AllReadyH.cons (o := ⟨some 5, .alloc 40, 0, "guess.go:93", #[], none⟩) rfl (fun K hK => ?_) AllReadyH.nil))
    ·rw [if_pos (by rfl)]
     go_simp
     refine (wheels_1 A n c a b t wz (hr.keep hHeld.2) (by omega) (by omega) hb).mono ?_
     rintro e' wz ⟨A2, c2, rfl, hw2, hb1⟩
     (try replace hG := hG.keep hb1)
     rw [selW_len] at hw2 ⊢
     refine hK.out _ _ (kp_step hb1 hHeld) (fun hHeld => ?_)
     clear hK K
     (try simp only [Act.put, List.setIfInBounds_toArray, List.set_cons_zero, List.set_cons_succ])
     refine wpAnyH_ready (rs := [13, 15]) (by kernel_rfl) (by simp) ?_
     refine (AllReadyH.cons (o := ⟨some 19, .call { callee := .value (.func 140), args := #[.tmp 18], argTypes := #[34] }, 3, "guess.go:93", #[⟨12, .data⟩, ⟨12, .chain⟩], none⟩) rfl (fun K hK => ?_) (AllReadyH.cons (o := ⟨some 5, .alloc 40, 0, "guess.go:93", #[], none⟩) rfl (fun K hK => ?_) AllReadyH.nil))
     ·rw [if_pos (by rfl)]
      go_simp
      refine (product_any A2 _ c2 _ wz hw2 (by omega) HBY.out).mono ?_
      rintro e' w' ⟨rfl, rfl⟩
      rw [HY.out]
      refine hK.out _ _ (hHeld) (fun hHeld => ?_)
      clear hK K
      (try simp only [Act.put, List.setIfInBounds_toArray, List.set_cons_zero, List.set_cons_succ])
      refine wpAnyH_take (i := 14) (oi := ⟨some 20, .build 40 #[(0, .tmp 12), (1, .tmp 19)], 40, "guess.go:93", #[⟨6, .data⟩, ⟨13, .data⟩], none⟩) (v := ?_) rfl (by kernel_rfl) (by kernel_rfl) (by kernel_rfl) (fun _ _ _ h => h) (Or.inl ⟨by rfl, fun W hSw => ?_⟩) hHeld ?_
      rotate_left
      ·(try dsimp only at hSw); go_simp; (try with_reducible rfl)
      (try simp only [Act.put, List.setIfInBounds_toArray, List.set_cons_zero, List.set_cons_succ])
      refine wpAnyH_ready (rs := [15]) (by kernel_rfl) (by simp) ?_
      refine (AllReadyH.cons (o := ⟨some 5, .alloc 40, 0, "guess.go:93", #[], none⟩) rfl (fun K hK => ?_) AllReadyH.nil)
      rw [if_pos (by rfl)]
      refine wp_alloc_new 40 rfl _ (frac_zero _) ?_
      intro g wz hgz hG hb1 _
      have hgo : wo.heap.size ≤ g := by have := hHeld.2.size; omega
      (try replace hw1 := hw1.keep hb1)
      (try replace hw2 := hw2.keep hb1)
      refine hK.out _ _ (kp_step hb1 hHeld) (fun hHeld => ?_)
      clear hK K
      (try simp only [Act.put, List.setIfInBounds_toArray, List.set_cons_zero, List.set_cons_succ])
      refine wpAnyH_ready (rs := [16]) (by kernel_rfl) (by simp) ?_
      refine (AllReadyH.cons (o := ⟨none, .store 40 (.tmp 5) (.tmp 20), 0, "guess.go:93", #[⟨15, .data⟩, ⟨14, .data⟩, ⟨13, .chain⟩, ⟨0, .phase⟩, ⟨1, .phase⟩, ⟨2, .phase⟩, ⟨3, .phase⟩, ⟨4, .phase⟩, ⟨5, .phase⟩, ⟨6, .phase⟩, ⟨7, .phase⟩, ⟨8, .phase⟩, ⟨9, .phase⟩, ⟨10, .phase⟩, ⟨11, .phase⟩, ⟨12, .phase⟩, ⟨13, .phase⟩, ⟨14, .phase⟩, ⟨15, .phase⟩], none⟩) rfl (fun K hK => ?_) AllReadyH.nil)
      rw [if_pos (by rfl)]
      refine wp_store_blk _ _ _ rfl g 40 _ _ rfl rfl hG rfl (by kernel_rfl) (by simp [Value.oneCell']) ?_
      intro wz hG hgr
      have hfin : Below wo.heap.size wo wz := hHeld.2.grown hgr hHeld.2.size (by intro k hk; cases hk; exact hgo)
      refine hK.out _ _ (kp_of hfin) (fun hHeld => ?_)
      clear hK K
      refine wpAnyH_done (by kernel_rfl) ?_ _
      refine NoPanic.normal ?_
      go_wp2_with fail
      go_meet
      case rel => exact ⟨g, rfl, hgo, hG, hfin⟩
     ·rw [if_pos (by rfl)]
      refine wp_alloc_new 40 rfl _ (frac_zero _) ?_
      intro g wz hgz hG hb1 _
      have hgo : wo.heap.size ≤ g := by have := hHeld.2.size; omega
      (try replace hw1 := hw1.keep hb1)
      (try replace hw2 := hw2.keep hb1)
      refine hK.out _ _ (kp_step hb1 hHeld) (fun hHeld => ?_)
      clear hK K
      (try simp only [Act.put, List.setIfInBounds_toArray, List.set_cons_zero, List.set_cons_succ])
      refine wpAnyH_ready (rs := [13]) (by kernel_rfl) (by simp) ?_
      refine (AllReadyH.cons (o := ⟨some 19, .call { callee := .value (.func 140), args := #[.tmp 18], argTypes := #[34] }, 3, "guess.go:93", #[⟨12, .data⟩, ⟨12, .chain⟩], none⟩) rfl (fun K hK => ?_) AllReadyH.nil)
      rw [if_pos (by rfl)]
      go_simp
      refine (product_any A2 _ c2 _ wz hw2 (by omega) HBY.out).mono ?_
      rintro e' w' ⟨rfl, rfl⟩
      rw [HY.out]
      refine hK.out _ _ (hHeld) (fun hHeld => ?_)
      clear hK K
      (try simp only [Act.put, List.setIfInBounds_toArray, List.set_cons_zero, List.set_cons_succ])
      refine wpAnyH_take (i := 14) (oi := ⟨some 20, .build 40 #[(0, .tmp 12), (1, .tmp 19)], 40, "guess.go:93", #[⟨6, .data⟩, ⟨13, .data⟩], none⟩) (v := ?_) rfl (by kernel_rfl) (by kernel_rfl) (by kernel_rfl) (fun _ _ _ h => h) (Or.inl ⟨by rfl, fun W hSw => ?_⟩) hHeld ?_
      rotate_left
      ·(try dsimp only at hSw); go_simp; (try with_reducible rfl)
      (try simp only [Act.put, List.setIfInBounds_toArray, List.set_cons_zero, List.set_cons_succ])
      refine wpAnyH_ready (rs := [16]) (by kernel_rfl) (by simp) ?_
      refine (AllReadyH.cons (o := ⟨none, .store 40 (.tmp 5) (.tmp 20), 0, "guess.go:93", #[⟨15, .data⟩, ⟨14, .data⟩, ⟨13, .chain⟩, ⟨0, .phase⟩, ⟨1, .phase⟩, ⟨2, .phase⟩, ⟨3, .phase⟩, ⟨4, .phase⟩, ⟨5, .phase⟩, ⟨6, .phase⟩, ⟨7, .phase⟩, ⟨8, .phase⟩, ⟨9, .phase⟩, ⟨10, .phase⟩, ⟨11, .phase⟩, ⟨12, .phase⟩, ⟨13, .phase⟩, ⟨14, .phase⟩, ⟨15, .phase⟩], none⟩) rfl (fun K hK => ?_) AllReadyH.nil)
      rw [if_pos (by rfl)]
      refine wp_store_blk _ _ _ rfl g 40 _ _ rfl rfl hG rfl (by kernel_rfl) (by simp [Value.oneCell']) ?_
      intro wz hG hgr
      have hfin : Below wo.heap.size wo wz := hHeld.2.grown hgr hHeld.2.size (by intro k hk; cases hk; exact hgo)
      refine hK.out _ _ (kp_of hfin) (fun hHeld => ?_)
      clear hK K
      refine wpAnyH_done (by kernel_rfl) ?_ _
      refine NoPanic.normal ?_
      go_wp2_with fail
      go_meet
      case rel => exact ⟨g, rfl, hgo, hG, hfin⟩
    ·rw [if_pos (by rfl)]
     refine wp_alloc_new 40 rfl _ (frac_zero _) ?_
     intro g wz hgz hG hb1 _
     have hgo : wo.heap.size ≤ g := by have := hHeld.2.size; omega
     (try replace hw1 := hw1.keep hb1)
     (try replace hw2 := hw2.keep hb1)
     refine hK.out _ _ (kp_step hb1 hHeld) (fun hHeld => ?_)
     clear hK K
     (try simp only [Act.put, List.setIfInBounds_toArray, List.set_cons_zero, List.set_cons_succ])
     refine wpAnyH_ready (rs := [12]) (by kernel_rfl) (by simp) ?_
     refine (AllReadyH.cons (o := ⟨some 18, .call { callee := .value (.func 141), args := #[.tmp 13, .tmp 15, .tmp 17, .const (.int .i64 1)], argTypes := #[96, 3, 3, 3] }, 34, "guess.go:93", #[⟨7, .data⟩, ⟨9, .data⟩, ⟨11, .data⟩, ⟨6, .chain⟩], none⟩) rfl (fun K hK => ?_) AllReadyH.nil)
     rw [if_pos (by rfl)]
     go_simp
     refine (wheels_1 A n c a b t wz (hr.keep hHeld.2) (by omega) (by omega) hb).mono ?_
     rintro e' wz ⟨A2, c2, rfl, hw2, hb1⟩
     (try replace hG := hG.keep hb1)
     rw [selW_len] at hw2 ⊢
     refine hK.out _ _ (kp_step hb1 hHeld) (fun hHeld => ?_)
     clear hK K
     (try simp only [Act.put, List.setIfInBounds_toArray, List.set_cons_zero, List.set_cons_succ])
     refine wpAnyH_ready (rs := [13]) (by kernel_rfl) (by simp) ?_
     refine (AllReadyH.cons (o := ⟨some 19, .call { callee := .value (.func 140), args := #[.tmp 18], argTypes := #[34] }, 3, "guess.go:93", #[⟨12, .data⟩, ⟨12, .chain⟩], none⟩) rfl (fun K hK => ?_) AllReadyH.nil)
     rw [if_pos (by rfl)]
     go_simp
     refine (product_any A2 _ c2 _ wz hw2 (by omega) HBY.out).mono ?_
     rintro e' w' ⟨rfl, rfl⟩
     rw [HY.out]
     refine hK.out _ _ (hHeld) (fun hHeld => ?_)
     clear hK K
     (try simp only [Act.put, List.setIfInBounds_toArray, List.set_cons_zero, List.set_cons_succ])
     refine wpAnyH_take (i := 14) (oi := ⟨some 20, .build 40 #[(0, .tmp 12), (1, .tmp 19)], 40, "guess.go:93", #[⟨6, .data⟩, ⟨13, .data⟩], none⟩) (v := ?_) rfl (by kernel_rfl) (by kernel_rfl) (by kernel_rfl) (fun _ _ _ h => h) (Or.inl ⟨by rfl, fun W hSw => ?_⟩) hHeld ?_
     rotate_left
     ·(try dsimp only at hSw); go_simp; (try with_reducible rfl)
     (try simp only [Act.put, List.setIfInBounds_toArray, List.set_cons_zero, List.set_cons_succ])
     refine wpAnyH_ready (rs := [16]) (by kernel_rfl) (by simp) ?_
     refine (AllReadyH.cons (o := ⟨none, .store 40 (.tmp 5) (.tmp 20), 0, "guess.go:93", #[⟨15, .data⟩, ⟨14, .data⟩, ⟨13, .chain⟩, ⟨0, .phase⟩, ⟨1, .phase⟩, ⟨2, .phase⟩, ⟨3, .phase⟩, ⟨4, .phase⟩, ⟨5, .phase⟩, ⟨6, .phase⟩, ⟨7, .phase⟩, ⟨8, .phase⟩, ⟨9, .phase⟩, ⟨10, .phase⟩, ⟨11, .phase⟩, ⟨12, .phase⟩, ⟨13, .phase⟩, ⟨14, .phase⟩, ⟨15, .phase⟩], none⟩) rfl (fun K hK => ?_) AllReadyH.nil)
     rw [if_pos (by rfl)]
     refine wp_store_blk _ _ _ rfl g 40 _ _ rfl rfl hG rfl (by kernel_rfl) (by simp [Value.oneCell']) ?_
     intro wz hG hgr
     have hfin : Below wo.heap.size wo wz := hHeld.2.grown hgr hHeld.2.size (by intro k hk; cases hk; exact hgo)
     refine hK.out _ _ (kp_of hfin) (fun hHeld => ?_)
     clear hK K
     refine wpAnyH_done (by kernel_rfl) ?_ _
     refine NoPanic.normal ?_
     go_wp2_with fail
     go_meet
     case rel => exact ⟨g, rfl, hgo, hG, hfin⟩
   ·rw [if_pos (by rfl)]
    refine wp_alloc_new 40 rfl _ (frac_zero _) ?_
    intro g wz hgz hG hb1 _
    have hgo : wo.heap.size ≤ g := by have := hHeld.2.size; omega
    (try replace hw1 := hw1.keep hb1)
    (try replace hw2 := hw2.keep hb1)
    refine hK.out _ _ (kp_step hb1 hHeld) (fun hHeld => ?_)
    clear hK K
    (try simp only [Act.put, List.setIfInBounds_toArray, List.set_cons_zero, List.set_cons_succ])
    refine wpAnyH_ready (rs := [6]) (by kernel_rfl) (by simp) ?_
    refine (AllReadyH.cons (o := ⟨some 12, .call { callee := .value (.func 140), args := #[.tmp 11], argTypes := #[34] }, 3, "guess.go:93", #[⟨5, .data⟩, ⟨5, .chain⟩], none⟩) rfl (fun K hK => ?_) AllReadyH.nil)
    rw [if_pos (by rfl)]
    go_simp
    refine (product_any A1 _ c1 _ wz hw1 (by omega) HBX.out).mono ?_
    rintro e' w' ⟨rfl, rfl⟩
    rw [HX.out]
    refine hK.out _ _ (hHeld) (fun hHeld => ?_)
    clear hK K
    (try simp only [Act.put, List.setIfInBounds_toArray, List.set_cons_zero, List.set_cons_succ])
    refine wpAnyH_ready (rs := [12]) (by kernel_rfl) (by simp) ?_
    refine (AllReadyH.cons (o := ⟨some 18, .call { callee := .value (.func 141), args := #[.tmp 13, .tmp 15, .tmp 17, .const (.int .i64 1)], argTypes := #[96, 3, 3, 3] }, 34, "guess.go:93", #[⟨7, .data⟩, ⟨9, .data⟩, ⟨11, .data⟩, ⟨6, .chain⟩], none⟩) rfl (fun K hK => ?_) AllReadyH.nil)
    rw [if_pos (by rfl)]
    go_simp
    refine (wheels_1 A n c a b t wz (hr.keep hHeld.2) (by omega) (by omega) hb).mono ?_
    rintro e' wz ⟨A2, c2, rfl, hw2, hb1⟩
    (try replace hG := hG.keep hb1)
    rw [selW_len] at hw2 ⊢
    refine hK.out _ _ (kp_step hb1 hHeld) (fun hHeld => ?_)
    clear hK K
    (try simp only [Act.put, List.setIfInBounds_toArray, List.set_cons_zero, List.set_cons_succ])
    refine wpAnyH_ready (rs := [13]) (by kernel_rfl) (by simp) ?_
    refine (AllReadyH.cons (o := ⟨some 19, .call { callee := .value (.func 140), args := #[.tmp 18], argTypes := #[34] }, 3, "guess.go:93", #[⟨12, .data⟩, ⟨12, .chain⟩], none⟩) rfl (fun K hK => ?_) AllReadyH.nil)
    rw [if_pos (by rfl)]
    go_simp
    refine (product_any A2 _ c2 _ wz hw2 (by omega) HBY.out).mono ?_
    rintro e' w' ⟨rfl, rfl⟩
    rw [HY.out]
    refine hK.out _ _ (hHeld) (fun hHeld => ?_)
    clear hK K
    (try simp only [Act.put, List.setIfInBounds_toArray, List.set_cons_zero, List.set_cons_succ])
    refine wpAnyH_take (i := 14) (oi := ⟨some 20, .build 40 #[(0, .tmp 12), (1, .tmp 19)], 40, "guess.go:93", #[⟨6, .data⟩, ⟨13, .data⟩], none⟩) (v := ?_) rfl (by kernel_rfl) (by kernel_rfl) (by kernel_rfl) (fun _ _ _ h => h) (Or.inl ⟨by rfl, fun W hSw => ?_⟩) hHeld ?_
    rotate_left
    ·(try dsimp only at hSw); go_simp; (try with_reducible rfl)
    (try simp only [Act.put, List.setIfInBounds_toArray, List.set_cons_zero, List.set_cons_succ])
    refine wpAnyH_ready (rs := [16]) (by kernel_rfl) (by simp) ?_
    refine (AllReadyH.cons (o := ⟨none, .store 40 (.tmp 5) (.tmp 20), 0, "guess.go:93", #[⟨15, .data⟩, ⟨14, .data⟩, ⟨13, .chain⟩, ⟨0, .phase⟩, ⟨1, .phase⟩, ⟨2, .phase⟩, ⟨3, .phase⟩, ⟨4, .phase⟩, ⟨5, .phase⟩, ⟨6, .phase⟩, ⟨7, .phase⟩, ⟨8, .phase⟩, ⟨9, .phase⟩, ⟨10, .phase⟩, ⟨11, .phase⟩, ⟨12, .phase⟩, ⟨13, .phase⟩, ⟨14, .phase⟩, ⟨15, .phase⟩], none⟩) rfl (fun K hK => ?_) AllReadyH.nil)
    rw [if_pos (by rfl)]
    refine wp_store_blk _ _ _ rfl g 40 _ _ rfl rfl hG rfl (by kernel_rfl) (by simp [Value.oneCell']) ?_
    intro wz hG hgr
    have hfin : Below wo.heap.size wo wz := hHeld.2.grown hgr hHeld.2.size (by intro k hk; cases hk; exact hgo)
    refine hK.out _ _ (kp_of hfin) (fun hHeld => ?_)
    clear hK K
    refine wpAnyH_done (by kernel_rfl) ?_ _
    refine NoPanic.normal ?_
    go_wp2_with fail
    go_meet
    case rel => exact ⟨g, rfl, hgo, hG, hfin⟩
  ·rw [if_pos (by rfl)]
   refine wp_alloc_new 40 rfl _ (frac_zero _) ?_
   intro g wz hgz hG hb1 _
   have hgo : wo.heap.size ≤ g := by have := hHeld.2.size; omega
   (try replace hw1 := hw1.keep hb1)
   (try replace hw2 := hw2.keep hb1)
   refine hK.out _ _ (kp_step hb1 hHeld) (fun hHeld => ?_)
   clear hK K
   (try simp only [Act.put, List.setIfInBounds_toArray, List.set_cons_zero, List.set_cons_succ])
   refine wpAnyH_ready (rs := [5]) (by kernel_rfl) (by simp) ?_
   refine (AllReadyH.cons (o := ⟨some 11, .call { callee := .value (.func 141), args := #[.tmp 6, .tmp 8, .tmp 10, .const (.int .i64 0)], argTypes := #[96, 3, 3, 3] }, 34, "guess.go:93", #[⟨0, .data⟩, ⟨2, .data⟩, ⟨4, .data⟩], none⟩) rfl (fun K hK => ?_) AllReadyH.nil)
   rw [if_pos (by rfl)]
   go_simp
   refine (wheels_0 A n c a b t wz (hr.keep hHeld.2) (by omega) (by omega) hb).mono ?_
   rintro e' wz ⟨A1, c1, rfl, hw1, hb1⟩
   (try replace hG := hG.keep hb1)
   rw [selW_len] at hw1 ⊢
   refine hK.out _ _ (kp_step hb1 hHeld) (fun hHeld => ?_)
   clear hK K
   (try simp only [Act.put, List.setIfInBounds_toArray, List.set_cons_zero, List.set_cons_succ])
   refine wpAnyH_ready (rs := [6]) (by kernel_rfl) (by simp) ?_
   refine (AllReadyH.cons (o := ⟨some 12, .call { callee := .value (.func 140), args := #[.tmp 11], argTypes := #[34] }, 3, "guess.go:93", #[⟨5, .data⟩, ⟨5, .chain⟩], none⟩) rfl (fun K hK => ?_) AllReadyH.nil)
   rw [if_pos (by rfl)]
   go_simp
   refine (product_any A1 _ c1 _ wz hw1 (by omega) HBX.out).mono ?_
   rintro e' w' ⟨rfl, rfl⟩
   rw [HX.out]
   refine hK.out _ _ (hHeld) (fun hHeld => ?_)
   clear hK K
   (try simp only [Act.put, List.setIfInBounds_toArray, List.set_cons_zero, List.set_cons_succ])
   refine wpAnyH_ready (rs := [12]) (by kernel_rfl) (by simp) ?_
   refine (AllReadyH.cons (o := ⟨some 18, .call { callee := .value (.func 141), args := #[.tmp 13, .tmp 15, .tmp 17, .const (.int .i64 1)], argTypes := #[96, 3, 3, 3] }, 34, "guess.go:93", #[⟨7, .data⟩, ⟨9, .data⟩, ⟨11, .data⟩, ⟨6, .chain⟩], none⟩) rfl (fun K hK => ?_) AllReadyH.nil)
   rw [if_pos (by rfl)]
   go_simp
   refine (wheels_1 A n c a b t wz (hr.keep hHeld.2) (by omega) (by omega) hb).mono ?_
   rintro e' wz ⟨A2, c2, rfl, hw2, hb1⟩
   (try replace hG := hG.keep hb1)
   rw [selW_len] at hw2 ⊢
   refine hK.out _ _ (kp_step hb1 hHeld) (fun hHeld => ?_)
   clear hK K
   (try simp only [Act.put, List.setIfInBounds_toArray, List.set_cons_zero, List.set_cons_succ])
   refine wpAnyH_ready (rs := [13]) (by kernel_rfl) (by simp) ?_
   refine (AllReadyH.cons (o := ⟨some 19, .call { callee := .value (.func 140), args := #[.tmp 18], argTypes := #[34] }, 3, "guess.go:93", #[⟨12, .data⟩, ⟨12, .chain⟩], none⟩) rfl (fun K hK => ?_) AllReadyH.nil)
   rw [if_pos (by rfl)]
   go_simp
   refine (product_any A2 _ c2 _ wz hw2 (by omega) HBY.out).mono ?_
   rintro e' w' ⟨rfl, rfl⟩
   rw [HY.out]
   refine hK.out _ _ (hHeld) (fun hHeld => ?_)
   clear hK K
   (try simp only [Act.put, List.setIfInBounds_toArray, List.set_cons_zero, List.set_cons_succ])
   refine wpAnyH_take (i := 14) (oi := ⟨some 20, .build 40 #[(0, .tmp 12), (1, .tmp 19)], 40, "guess.go:93", #[⟨6, .data⟩, ⟨13, .data⟩], none⟩) (v := ?_) rfl (by kernel_rfl) (by kernel_rfl) (by kernel_rfl) (fun _ _ _ h => h) (Or.inl ⟨by rfl, fun W hSw => ?_⟩) hHeld ?_
   rotate_left
   ·(try dsimp only at hSw); go_simp; (try with_reducible rfl)
   (try simp only [Act.put, List.setIfInBounds_toArray, List.set_cons_zero, List.set_cons_succ])
   refine wpAnyH_ready (rs := [16]) (by kernel_rfl) (by simp) ?_
   refine (AllReadyH.cons (o := ⟨none, .store 40 (.tmp 5) (.tmp 20), 0, "guess.go:93", #[⟨15, .data⟩, ⟨14, .data⟩, ⟨13, .chain⟩, ⟨0, .phase⟩, ⟨1, .phase⟩, ⟨2, .phase⟩, ⟨3, .phase⟩, ⟨4, .phase⟩, ⟨5, .phase⟩, ⟨6, .phase⟩, ⟨7, .phase⟩, ⟨8, .phase⟩, ⟨9, .phase⟩, ⟨10, .phase⟩, ⟨11, .phase⟩, ⟨12, .phase⟩, ⟨13, .phase⟩, ⟨14, .phase⟩, ⟨15, .phase⟩], none⟩) rfl (fun K hK => ?_) AllReadyH.nil)
   rw [if_pos (by rfl)]
   refine wp_store_blk _ _ _ rfl g 40 _ _ rfl rfl hG rfl (by kernel_rfl) (by simp [Value.oneCell']) ?_
   intro wz hG hgr
   have hfin : Below wo.heap.size wo wz := hHeld.2.grown hgr hHeld.2.size (by intro k hk; cases hk; exact hgo)
   refine hK.out _ _ (kp_of hfin) (fun hHeld => ?_)
   clear hK K
   refine wpAnyH_done (by kernel_rfl) ?_ _
   refine NoPanic.normal ?_
   go_wp2_with fail
   go_meet
   case rel => exact ⟨g, rfl, hgo, hG, hfin⟩
 case rest =>
  obtain ⟨g, rfl, hgo, hG, hbc⟩ := hcut
  replace hB := hB.keep hbc
  replace hf := hf.trans (hbc.mono hlw)
  have hcB := fun j => hB.cell j
  have hcG := fun j => hG.cell j
  have hlG := hG.lt
  clear hr hbc
  cases q1 : aboveB ln ld X Y
  ·go_wp2_with fail
   refine (above_is _ _ _ _ _ h1 h2 mX mY _ q1).mono ?_
   rintro e w1 ⟨rfl, hb1⟩
   replace hf := hf.trans (hb1.mono hf.size)
   replace hB := hB.keep hb1
   replace hG := hG.keep hb1
   replace hcB := fun j => hB.cell j
   replace hcG := fun j => hG.cell j
   clear hb1
   go_wp2_with fail
   refine (above_is _ _ _ _ _ mX mY h3 h4 _ rfl).mono ?_
   rintro e w2 ⟨rfl, hb2⟩
   replace hf := hf.trans (hb2.mono hf.size)
   clear hcB hcG hB hG hb2
   go_wp2_with fail
   go_ret
   exact ⟨ret_bool (by rw [q1]; rfl), hf⟩
  ·go_wp2_with fail
   refine (above_is _ _ _ _ _ h1 h2 mX mY _ q1).mono ?_
   rintro e w1 ⟨rfl, hb1⟩
   replace hf := hf.trans (hb1.mono hf.size)
   clear hcB hcG hb1
   go_wp2_with fail
   go_ret
   exact ⟨ret_bool (by rw [q1]; rfl), hf⟩
end Go.Proofs.YtfgghicdkcjdgaaGreatDoor
end

section
namespace Go.Proofs.YtfgghicdkcjdgaaGreatDoor
open Go.RowKit Go.Shelf

theorem atT_nat (t : List Int) (a : Nat) : atT t (a : Int) = t[a]?.getD 0 := by unfold atT; simp
theorem prodT_sel (t : List Int) (a d : Nat) (m : Nat) : ∀ k, k ≤ m → prL (selW t a d m) k = prodT t (a : Int) (d : Int) k
 | 0, _ => rfl
 | k + 1, h => by
  have ih := prodT_sel t a d m k (by omega)
  simp only [prL, prodT]
  rw [ih, selW_get t a d m k (by omega)]
  congr 1
theorem and_parts {a b : Bool} (h : (a && b) = true) : a = true ∧ b = true := by simpa using h
theorem agree_1 (A : Option Addr) (n c : Nat) (t : List Int) (a b lo hi ln ld mn md : Int) (w : World) (hr : Rd w A n t) (_ : n ≤ 6) (ht : TeethOk t) (hv : noteB ⟨1, a, b, lo, hi, ln, ld, mn, md⟩ (n : Int) = true) :
  Calls Tryz.prog 108 #[.slice A n c, .agg #[.int .i64 1, .int .i64 a, .int .i64 b, .int .i64 lo, .int .i64 hi, .int .i64 ln, .int .i64 ld, .int .i64 mn, .int .i64 md]] w fun e w' => e = .returned (.bool (agreeB ⟨1, a, b, lo, hi, ln, ld, mn, md⟩ t)) ∧ Below w.heap.size w w' := by
 have hv : (noneB ⟨1, a, b, lo, hi, ln, ld, mn, md⟩ && (inB a 0 ((n : Int) - 1) && (inB b 1 60 && (inB lo 1 hi && decide (hi ≤ 360))))) = true := hv
 obtain ⟨_, hv⟩ := and_parts hv
 obtain ⟨v1, hv⟩ := and_parts hv
 obtain ⟨v2, hv⟩ := and_parts hv
 obtain ⟨v3, v4⟩ := and_parts hv
 have v1 := inB_iff.1 v1
 have v2 := inB_iff.1 v2
 have v3 := inB_iff.1 v3
 have v4 := of_decide_eq_true v4
 obtain ⟨a, rfl⟩ := Int.eq_ofNat_of_zero_le v1.1
 refine (arc_is A n c a t 1 b lo hi ln ld mn md w hr (by omega) ht (by omega) (by omega) (by omega)).mono ?_
 rintro e w' ⟨rfl, hb⟩
 exact ⟨ret_bool (by rw [← atT_nat]; rfl), hb⟩
theorem agree_2 (A : Option Addr) (n c : Nat) (t : List Int) (a b lo hi ln ld mn md : Int) (w : World) (hr : Rd w A n t) (hn : n ≤ 6) (ht : TeethOk t) (hv : noteB ⟨2, a, b, lo, hi, ln, ld, mn, md⟩ (n : Int) = true) :
  Calls Tryz.prog 109 #[.slice A n c, .agg #[.int .i64 2, .int .i64 a, .int .i64 b, .int .i64 lo, .int .i64 hi, .int .i64 ln, .int .i64 ld, .int .i64 mn, .int .i64 md]] w fun e w' => e = .returned (.bool (agreeB ⟨2, a, b, lo, hi, ln, ld, mn, md⟩ t)) ∧ Below w.heap.size w w' := by
 have hv : (noneB ⟨2, a, b, lo, hi, ln, ld, mn, md⟩ && (inB a 0 ((n : Int) / 2 - 1) && (b == 0 && (inB lo 1 hi && decide (hi ≤ 120))))) = true := hv
 obtain ⟨_, hv⟩ := and_parts hv
 obtain ⟨v1, _⟩ := and_parts hv
 have v1 := inB_iff.1 v1
 obtain ⟨a, rfl⟩ := Int.eq_ofNat_of_zero_le v1.1
 refine (sum_is A n c a t 2 b lo hi ln ld mn md w hr (by omega) (by omega) ht).mono ?_
 rintro e w' ⟨rfl, hb⟩
 refine ⟨ret_bool ?_, hb⟩
 rw [← atT_nat, ← atT_nat]
 rfl
theorem agree_3 (A : Option Addr) (n c : Nat) (t : List Int) (a b lo hi ln ld mn md : Int) (w : World) (hr : Rd w A n t) (hn : n ≤ 6) (ht : TeethOk t) (hv : noteB ⟨3, a, b, lo, hi, ln, ld, mn, md⟩ (n : Int) = true) :
  Calls Tryz.prog 110 #[.slice A n c, .agg #[.int .i64 3, .int .i64 a, .int .i64 b, .int .i64 lo, .int .i64 hi, .int .i64 ln, .int .i64 ld, .int .i64 mn, .int .i64 md]] w fun e w' => e = .returned (.bool (agreeB ⟨3, a, b, lo, hi, ln, ld, mn, md⟩ t)) ∧ Below w.heap.size w w' := by
 have hv : (bareB ⟨3, a, b, lo, hi, ln, ld, mn, md⟩ && (inB a 0 b && (decide (b < (n : Int) / 2) && (fracB ln ld && (fracB mn md && !aboveB ln ld mn md))))) = true := hv
 obtain ⟨_, hv⟩ := and_parts hv
 obtain ⟨v1, hv⟩ := and_parts hv
 obtain ⟨v2, hv⟩ := and_parts hv
 obtain ⟨v3, hv⟩ := and_parts hv
 obtain ⟨v4, _⟩ := and_parts hv
 have v1 := inB_iff.1 v1
 have v2 := of_decide_eq_true v2
 obtain ⟨v5, v6⟩ := and_parts v3
 obtain ⟨v7, v8⟩ := and_parts v4
 have v5 := inB_iff.1 v5
 have v6 := inB_iff.1 v6
 have v7 := inB_iff.1 v7
 have v8 := inB_iff.1 v8
 obtain ⟨a, rfl⟩ := Int.eq_ofNat_of_zero_le v1.1
 obtain ⟨b, rfl⟩ := Int.eq_ofNat_of_zero_le (show 0 ≤ b by omega)
 have hab : a ≤ b := by omega
 refine (ratio_is A n c a b t 3 lo hi ln ld mn md w hr hn hab (by omega) ht ⟨by omega, by omega⟩ ⟨by omega, by omega⟩ ⟨by omega, by omega⟩ ⟨by omega, by omega⟩ _ _ (prodT_sel t a 0 _ _ (Nat.le_refl _)) (prodT_sel t a 1 _ _ (Nat.le_refl _))).mono ?_
 rintro e w' ⟨rfl, hb⟩
 refine ⟨ret_bool ?_, hb⟩
 have hk : ((b : Int) + 1 - (a : Int)).toNat = b + 1 - a := by omega
 show _ = (!aboveB ln ld (prodT t a 0 ((b : Int) + 1 - (a : Int)).toNat) (prodT t a 1 ((b : Int) + 1 - (a : Int)).toNat) && !aboveB (prodT t a 0 ((b : Int) + 1 - (a : Int)).toNat) (prodT t a 1 ((b : Int) + 1 - (a : Int)).toNat) mn md)
 rw [hk]
 rfl
theorem agree_4 (A : Option Addr) (n c : Nat) (t : List Int) (a b lo hi ln ld mn md : Int) (w : World) (hr : Rd w A n t) (_ : n ≤ 6) (_ : TeethOk t) (hv : noteB ⟨4, a, b, lo, hi, ln, ld, mn, md⟩ (n : Int) = true) :
  Calls Tryz.prog 111 #[.slice A n c, .agg #[.int .i64 4, .int .i64 a, .int .i64 b, .int .i64 lo, .int .i64 hi, .int .i64 ln, .int .i64 ld, .int .i64 mn, .int .i64 md]] w fun e w' => e = .returned (.bool (agreeB ⟨4, a, b, lo, hi, ln, ld, mn, md⟩ t)) ∧ Below w.heap.size w w' := by
 have hv : (noneB ⟨4, a, b, lo, hi, ln, ld, mn, md⟩ && (bareB ⟨4, a, b, lo, hi, ln, ld, mn, md⟩ && (inB a 0 (b - 1) && decide (b < (n : Int))))) = true := hv
 obtain ⟨_, hv⟩ := and_parts hv
 obtain ⟨_, hv⟩ := and_parts hv
 obtain ⟨v1, v2⟩ := and_parts hv
 have v1 := inB_iff.1 v1
 have v2 := of_decide_eq_true v2
 obtain ⟨a, rfl⟩ := Int.eq_ofNat_of_zero_le v1.1
 obtain ⟨b, rfl⟩ := Int.eq_ofNat_of_zero_le (show 0 ≤ b by omega)
 refine (same_is A n c a b t 4 lo hi ln ld mn md w hr (by omega) (by omega)).mono ?_
 rintro e w' ⟨rfl, hb⟩
 exact ⟨ret_bool (by rw [← atT_nat, ← atT_nat]; rfl), hb⟩
theorem agree_5 (A : Option Addr) (n c : Nat) (t : List Int) (a b lo hi ln ld mn md : Int) (w : World) (hr : Rd w A n t) (_ : n ≤ 6) (ht : TeethOk t) (hv : noteB ⟨5, a, b, lo, hi, ln, ld, mn, md⟩ (n : Int) = true) :
  Calls Tryz.prog 112 #[.slice A n c, .agg #[.int .i64 5, .int .i64 a, .int .i64 b, .int .i64 lo, .int .i64 hi, .int .i64 ln, .int .i64 ld, .int .i64 mn, .int .i64 md]] w fun e w' => e = .returned (.bool (agreeB ⟨5, a, b, lo, hi, ln, ld, mn, md⟩ t)) ∧ Below w.heap.size w w' := by
 have hv : (noneB ⟨5, a, b, lo, hi, ln, ld, mn, md⟩ && (bareB ⟨5, a, b, lo, hi, ln, ld, mn, md⟩ && (inB a 0 ((n : Int) - 1) && inB b 2 12))) = true := hv
 obtain ⟨_, hv⟩ := and_parts hv
 obtain ⟨_, hv⟩ := and_parts hv
 obtain ⟨v1, v2⟩ := and_parts hv
 have v1 := inB_iff.1 v1
 have v2 := inB_iff.1 v2
 obtain ⟨a, rfl⟩ := Int.eq_ofNat_of_zero_le v1.1
 refine (part_is A n c a t 5 b lo hi ln ld mn md w hr (by omega) ht (by omega)).mono ?_
 rintro e w' ⟨rfl, hb⟩
 exact ⟨ret_bool (by rw [← atT_nat]; rfl), hb⟩
end Go.Proofs.YtfgghicdkcjdgaaGreatDoor
end
