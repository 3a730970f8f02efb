/- Walk: the date of a day. Walks: 'try': something is done, and a panic of this package is given back as an error. Walks: realms; the date of a day in a realm. -/
import Derived.Test.YthjblcboainknaaGreatDoorMB2
import Derived.Test.YthjblcboainknaaGreatDoorMP
import Derived.Test.YthjblcboainknaaGreatDoorShelf
import Derived.Defers
import Derived.Recover
import Derived.Laws.Pointers
import Derived.Laws.EntriesVeiled
import Derived.Outline
import Derived.Test.YthjblcboainknaaGreatDoorMB1
section
namespace Go.Proofs.YthjblcboainknaaGreatDoor
open Go.RowKit Dl

theorem Rd.addr {w : World} {A : Option Addr} {n : Nat} {xs : List Int} (h : Rd w A n xs) (hn : 0 < n) :
  ∃ b off, A = some ⟨b, off, none⟩ ∧ b < w.heap.size ∧ ∀ j, j < n → w.cell? ⟨b, off + j, none⟩ = some (.int .i64 (xs[j]?.getD 0)) := by
 obtain ⟨ad, e, hb, hc⟩ := h.2 hn
 obtain ⟨b, off, spot⟩ := ad
 have h0 := hc 0 hn
 cases spot with
 | none => exact ⟨b, off, e, hb, fun j hj => by have := hc j hj; rw [add_lit] at this; exact this⟩
 | some s =>
  exfalso
  simp only [Addr.add, if_true] at h0
  unfold World.cell? at h0
  split at h0 <;> simp at h0

theorem mtab_nat (b : Bool) (k : Nat) (h : k < 12) : (mtab b)[k]?.getD 0 = mlen b (k + 1) := by
 have := mtab_at b (k + 1) (by omega) (by omega)
 rw [show ((k : Int) + 1).toNat - 1 = k by omega] at this
 exact this
theorem firsts_eq (e : Int) (cs : List Int) : firsts e cs = (List.range 4002).map (firstN e cs) := rfl

/-- BinarySearch over the first days -/
theorem search_any (F : Option Addr) (fc : Nat) (cs : List Int) (e x : Int) (w : World) (hF : Rd w F 4002 (firsts e cs)) (k : Nat) (b : Bool)
  (hk : ((List.range 4002).map (firstN e cs)).countP (· < x) = k) (hb : ((List.range 4002).map (firstN e cs)).contains x = b) :
  Calls Tryz.prog 91 #[.slice F 4002 fc, .int .i64 x] w fun e' w' => e' = .returned (.tuple #[.int .i64 k, .bool b]) ∧ Below w.heap.size w w' := by
 obtain ⟨b0, off, rfl, hlt, hc⟩ := hF.addr (by omega)
 have hlen : (firsts e cs).length = 4002 := hF.len
 have htake : (firsts e cs).take 4002 = (List.range 4002).map (firstN e cs) := by rw [List.take_of_length_le (by omega), firsts_eq]
 refine (Tryz.slices_BinarySearch_int b0 off 4002 fc (firsts e cs) x w (by omega) (by omega) (fun j hj => ?_) (by rw [htake]; exact firsts_sorted _ _ _)).mono ?_
 ·rw [hc j (by omega)]; simp
 ·rintro e' w' ⟨rfl, q, rfl⟩
  rw [htake, hk, hb]
  exact ⟨rfl, fr_drewN (fr_refl _) _⟩

set_option maxRecDepth 100000 in
set_option maxHeartbeats 2000000 in
theorem date_some (A F : Option Addr) (n c fc : Nat) (cs : List Int) (e m1 m2 m3 : Int) (g : Value) (day : Int) (x : Date) (w : World) (hr : Rd w A n cs) (hn : n ≤ 3) (hpos : Cyc cs) (hF : Rd w F 4002 (firsts e cs))
  (he : 0 ≤ e ∧ e ≤ 1000) (hx : dateOf e cs day = some x) :
  Calls Tryz.prog 62 #[.agg #[.int .i64 e, .slice A n c, .int .i64 m1, .int .i64 m2, .int .i64 m3, .slice F 4002 fc, g], .int .i64 day] w fun e' w' =>
   e' = .returned (.agg #[.int .i64 x.y, .int .i64 x.m, .int .i64 x.d]) ∧ Below w.heap.size w w' := by
 obtain ⟨hreal, hday⟩ := dateOf_some.1 hx
 obtain ⟨y, m, d⟩ := x
 have hdb := dayOf_bounds (e := e) hreal
 obtain ⟨r1, r2, r3, r4, r5, r6⟩ := hreal
 simp only at r1 r2 r3 r4 r5 r6 hdb
 rw [hday] at hdb
 unfold dayOf at hday
 simp only at hday
 have hfb := firstDay_bounds e cs y r1
 have hcb := cum_bounds (leapB cs y) m r3 r4
 have hr0 := hr.alloc (.cells #[.int .i64 e, .slice A n c, .int .i64 m1, .int .i64 m2, .int .i64 m3, .slice F 4002 fc, g] 89)
 have hF0 := hF.alloc (.cells #[.int .i64 e, .slice A n c, .int .i64 m1, .int .i64 m2, .int .i64 m3, .slice F 4002 fc, g] 89)
 have hyear : inB y 0 4000 = true := inB_yes ⟨r1, r2⟩
 have hkb : ∃ (k : Nat) (b : Bool), ((List.range 4002).map (firstN e cs)).countP (· < day) = k ∧ ((List.range 4002).map (firstN e cs)).contains day = b ∧ ((b = true ∧ (k : Int) = y) ∨ (b = false ∧ (k : Int) = y + 1)) := by
  rw [firstDay_succ _ _ _ r1] at hdb
  by_cases h0 : firstDay e cs y = day
  ·have := firsts_found e cs 4002 y.toNat (by omega)
   unfold firstDay at h0
   rw [h0] at this
   exact ⟨_, _, this.1, this.2, .inl ⟨rfl, by omega⟩⟩
  ·have hs := firstDay_succ e cs y r1
   have e1 : (y + 1).toNat = y.toNat + 1 := by omega
   have := firsts_between e cs 4002 y.toNat day (by omega) (by unfold firstDay at h0 hdb; omega) (fun _ => by unfold firstDay at hs hdb; rw [e1] at hs; omega)
   exact ⟨_, _, this.1, this.2, .inr ⟨rfl, by omega⟩⟩
 obtain ⟨k, b, hk, hb, hkb⟩ := hkb
 obtain ⟨lp, hlp⟩ : ∃ lp, leapB cs y = lp := ⟨_, rfl⟩
 have hml := mlen_pos (leapB cs y) m
 have hday2 : day ≤ 10000000 := by omega
 have hday0 : 0 ≤ day := by omega
 rw [hlp] at hday r6 hcb hml
 have HLP := Lib.hid hlp
 clear hlp
 generalize hfd : firstDay e cs y = fy at *
 have HFD := Lib.hid hfd
 clear hfd
 have hcm := cum_succ lp m r3 r4
 have hlow : ∀ j : Nat, (j : Int) + 1 < m → cum lp (j + 2) ≤ cum lp m := fun j hj => by
  have := month_lt lp (m := j + 1) (m' := m) (by omega) (by omega) (by omega)
  rw [show ((j : Int) + 1 + 1) = j + 2 by omega] at this
  exact this
 have hy3 : y < 4002 := by omega
 rcases hkb with ⟨rfl, hky⟩ | ⟨rfl, hky⟩
 all_goals
  go_enter Tryz.func62, Tryz.ntmps62
  go_wp2_with fail
  refine (search_any F fc cs e day _ (hF0.alloc _) k _ hk hb).mono ?_
  rintro e' w1 ⟨rfl, hb1⟩
  obtain ⟨hc_w1, hf_w1⟩ := bcell hb1
  have hz0_w1 : w.heap.size < w1.heap.size := Nat.lt_of_lt_of_le (by first | omega | (simp; done) | (simp; omega)) hb1.size
  have hz1_w1 : w.heap.size + 1 < w1.heap.size := Nat.lt_of_lt_of_le (by first | omega | (simp; done) | (simp; omega)) hb1.size
  have hky0 : (0 : Int) ≤ (k : Int) := Int.natCast_nonneg k
  go_wp2_with fail
  refine (isYear_is _ _ _ hyear).mono ?_
  rintro e' w1' ⟨rfl, rfl⟩
  have hr1 := hr0.keep (fr_call (fr_alloc (fr_refl _) (.cells #[.int .i64 0, .int .i64 0, .int .i64 0] 50)) hb1)
  have hF1 := hF0.keep (fr_call (fr_alloc (fr_refl _) (.cells #[.int .i64 0, .int .i64 0, .int .i64 0] 50)) hb1)
  obtain ⟨ad, rfl, hab, hfc⟩ := fst_at hF1 (y := y) r1 (by omega)
  rw [HFD.out] at hfc
  clear hF1
  go_wp2_with fail
  refine (leap_any A n c cs _ _ _ _ _ _ y _ hr1 hn hpos r1 (by omega)).mono ?_
  rw [HLP.out]
  rintro e' w2 ⟨rfl, hb2⟩
  go_wp2_with fail
  refine (months_any _ _).mono ?_
  rintro e' w3 ⟨gm, rfl, hrm, hb3⟩
  have hb23 := fr_call hb2 hb3
  obtain ⟨hc_w3, hf_w3⟩ := bcell hb23
  have hz0_w3 : w.heap.size < w3.heap.size := Nat.lt_of_lt_of_le (by first | omega | (simp; done) | (simp; omega)) hb23.size
  have hz1_w3 : w.heap.size + 1 < w3.heap.size := Nat.lt_of_lt_of_le (by first | omega | (simp; done) | (simp; omega)) hb23.size
  have hfr3 := fr_call (fr_call (fr_alloc (fr_alloc (fr_refl w) (.cells #[.int .i64 e, .slice A n c, .int .i64 m1, .int .i64 m2, .int .i64 m3, .slice (some ad) 4002 fc, g] 89)) (.cells #[.int .i64 0, .int .i64 0, .int .i64 0] 50)) hb1) hb23
  have hcR : ∀ j, w3.cell? ⟨w.heap.size + 1, j, none⟩ = (#[.int .i64 0, .int .i64 0, .int .i64 0] : Array Value)[j]? := fun j => by
   rw [hc_w3 _ _ hz1_w1, hc_w1 _ _ (by simp)]
   have := cell_new (w.alloc (.cells #[.int .i64 e, .slice A n c, .int .i64 m1, .int .i64 m2, .int .i64 m3, .slice (some ad) 4002 fc, g] 89)) #[.int .i64 0, .int .i64 0, .int .i64 0] 50 j
   rw [World.size_alloc] at this
   exact this
  have hfR : ∀ j, w3.frozen? ⟨w.heap.size + 1, j, none⟩ = false := fun j => by
   rw [hf_w3 _ _ hz1_w1, hf_w1 _ _ (by simp)]
   exact (Blk.new_at (w := w.alloc (.cells #[.int .i64 e, .slice A n c, .int .i64 m1, .int .i64 m2, .int .i64 m3, .slice (some ad) 4002 fc, g] 89)) 50 #[.int .i64 0, .int .i64 0, .int .i64 0] (by simp)).frozen j
  have hrow := hrm.row
  clear hc_w1 hf_w1 hc_w3 hf_w3 hb1 hb2 hb3 hb23 hr0 hr1 hF hF0 hr
  go_wp2_with fail
  clear hz0_w1 hz1_w1 hz0_w3 hfc hab
  have hfy1 : 0 ≤ fy := by omega
  have hfy2 : fy ≤ 10000000 := by omega
  have HDAY := Lib.hid hday
  have HCM := Lib.hid hcm
  clear hday hcm hfb hdb
  go_loop [7, 39] (fun l i => ∃ k : Nat, (k : Int) + 1 ≤ m ∧ i = .int .i64 k ∧ l = .int .i64 (day - fy - cum lp (k + 1))) (fun _ i => 12 - (intOf i).toNat)
  case atStart => exact ⟨0, by omega, rfl, by rw [show cum lp ((0 : Nat) + 1) = 0 from rfl, Int.sub_zero]⟩
  case round =>
   obtain ⟨k', hk', rfl, rfl⟩ := hrel
   have hcell := hrow k' (by omega)
   rw [mtab_nat _ _ (by omega)] at hcell
   have hcb' := cum_bounds lp (k' + 1) (by omega) (by omega)
   have hml' := mlen_pos lp (k' + 1)
   have hlow' := hlow k'
   have HS := Lib.hid (cum_succ lp (k' + 1) (by omega) (by omega))
   clear hrow hlow hk hb
   have hk12 : (k' : Int) < 12 := by omega
   by_cases hkm : (k' : Int) + 1 = m
   ·obtain rfl := hkm
    have hlt : day - fy - cum lp (k' + 1) < mlen lp (k' + 1) := by have := HDAY.out; omega
    have hge : 0 ≤ day - fy - cum lp (k' + 1) := by have := HDAY.out; omega
    generalize hq : cum lp (k' + 1) = q at *
    generalize hq2 : mlen lp (k' + 1) = q2 at *
    clear hq hq2
    go_wp2
    refine bodyPost_ret (v := .agg #[.int .i64 y, .int .i64 (k' + 1), .int .i64 (day - fy - q + 1)]) (by simp [results, Tryz.results62, go_sem, hcR]) rfl ⟨?_, ?_⟩
    ·have e1 : d = day - fy - q + 1 := by have := HDAY.out; omega
     rw [e1]
    ·(repeat (refine fr_set ?_ (by simp) _)); exact hfr3
   ·have hl2 := hlow' (by omega)
    have hlt : ¬ day - fy - cum lp (k' + 1) < mlen lp (k' + 1) := by have := HDAY.out; have := HS.out; rw [show (k' : Int) + 1 + 1 = k' + 2 by omega] at this; omega
    clear hlow' hl2
    generalize hq : cum lp (k' + 1) = q at *
    generalize hq2 : mlen lp (k' + 1) = q2 at *
    have HQ := Lib.hid hq
    have HQ2 := Lib.hid hq2
    clear hq hq2
    go_wp2
    go_round
    case rel => exact ⟨k' + 1, by omega, by go_num, by rw [show (((k' + 1 : Nat) : Int) + 1) = k' + 1 + 1 by omega, HS.out]; go_num⟩
    case measure => simp [intOf]; omega

/-- what date gives up with -/
def awayV (day : Int) : List PanicEntry := [{ v := .iface 127 (.agg #[.int .i64 day]), recovered := false }]

set_option maxRecDepth 100000 in
set_option maxHeartbeats 2000000 in
theorem date_none (A F : Option Addr) (n c fc : Nat) (cs : List Int) (e m1 m2 m3 : Int) (g : Value) (day : Int) (w : World) (hF : Rd w F 4002 (firsts e cs)) (hx : dateOf e cs day = none) :
  Calls Tryz.prog 62 #[.agg #[.int .i64 e, .slice A n c, .int .i64 m1, .int .i64 m2, .int .i64 m3, .slice F 4002 fc, g], .int .i64 day] w fun e' w' =>
   e' = .panicked (awayV day) ∧ Below w.heap.size w w' := by
 have hF0 := hF.alloc (.cells #[.int .i64 e, .slice A n c, .int .i64 m1, .int .i64 m2, .int .i64 m3, .slice F 4002 fc, g] 89)
 have hkb : ∃ (k : Nat) (b : Bool), ((List.range 4002).map (firstN e cs)).countP (· < day) = k ∧ ((List.range 4002).map (firstN e cs)).contains day = b ∧ ((b = true ∧ k = 4001) ∨ (b = false ∧ k = 4002) ∨ (b = false ∧ k = 0)) := by
  rcases dateOf_none.1 hx with h | h
  ·have := firsts_before e cs 4002 day h
   exact ⟨_, _, this.1, this.2, .inr (.inr ⟨rfl, rfl⟩)⟩
  ·have h' : firstN e cs 4001 ≤ day := h
   by_cases h0 : firstN e cs 4001 = day
   ·have := firsts_found e cs 4002 4001 (by omega)
    rw [h0] at this
    exact ⟨_, _, this.1, this.2, .inl ⟨rfl, rfl⟩⟩
   ·have := firsts_between e cs 4002 4001 day (by omega) (by omega) (fun h => by omega)
    exact ⟨_, _, this.1, this.2, .inr (.inl ⟨rfl, rfl⟩)⟩
 obtain ⟨k, b, hk, hb, hkb⟩ := hkb
 have hy1 : inB 4001 0 4000 = false := by decide
 have hy2 : inB (-1) 0 4000 = false := by decide
 unfold awayV
 rcases hkb with ⟨rfl, rfl⟩ | ⟨rfl, rfl⟩ | ⟨rfl, rfl⟩
 all_goals
  go_enter Tryz.func62, Tryz.ntmps62
  go_wp2_with fail
  refine (search_any F fc cs e day _ (hF0.alloc _) _ _ hk hb).mono ?_
  rintro e' w1 ⟨rfl, hb1⟩
  obtain ⟨hc_w1, hf_w1⟩ := bcell hb1
  have hz0_w1 : w.heap.size < w1.heap.size := Nat.lt_of_lt_of_le (by first | omega | (simp; done) | (simp; omega)) hb1.size
  have hz1_w1 : w.heap.size + 1 < w1.heap.size := Nat.lt_of_lt_of_le (by first | omega | (simp; done) | (simp; omega)) hb1.size
  clear hk hb
  go_wp2_with fail
  first | refine (isYear_is _ _ _ hy1).mono ?_ | refine (isYear_is _ _ _ hy2).mono ?_
  rintro e' w1' ⟨rfl, rfl⟩
  clear hy1 hy2
  go_wp2_with fail
  exact ⟨rfl, rfl, fr_call (fr_alloc (fr_alloc (fr_refl w) _) _) hb1⟩
end Go.Proofs.YthjblcboainknaaGreatDoor
end

section
namespace Go.Proofs.YthjblcboainknaaGreatDoor
open Go.RowKit Dl

set_option maxHeartbeats 1000000 in
theorem try1_idle (p : Addr) (w : World) :
  CallsD Tryz.prog 83 #[.pointer (some p)] .returning w fun e u' w' => e = .returned (.tuple #[]) ∧ u' = .returning ∧ w' = w := by
 refine callsD_of_wpS Tryz.func83 rfl fun c₀ cs hu => ?_
 simp only [Tryz.ntmps83, List.size_toArray, List.length_cons, List.length_nil, Nat.reduceAdd, Nat.reduceSub, Array.replicate_succ, Array.replicate_zero, List.push_toArray, List.append_toArray, List.nil_append, List.cons_append]
 apply wpS_seq
 apply wpS_region
 simp [wpOpsS, go_sem, recoverD, hu, Exit.thenS]
 refine wpS_of_wp ?_
 go_wp2
 cases c₀
 simp_all [bodyPostS, results, Tryz.results83]

set_option maxHeartbeats 1000000 in
theorem try1_away (p : Addr) (x day : Int) (older : List PanicEntry) (w : World) (hc : w.cell? p = some (.int .i64 x)) (hz : w.frozen? p = false) :
  CallsD Tryz.prog 83 #[.pointer (some p)] (.panicking ({ v := .iface 127 (.agg #[.int .i64 day]), recovered := false } :: older)) w fun e u' w' =>
   e = .returned (.tuple #[]) ∧ u' = .panicking ({ v := .iface 127 (.agg #[.int .i64 day]), recovered := true } :: older) ∧ w' = (w.alloc (.cells #[.int .i64 day] 127)).setCell p (.int .i64 5) := by
 refine callsD_of_wpS Tryz.func83 rfl fun c₀ cs hu => ?_
 simp only [Tryz.ntmps83, List.size_toArray, List.length_cons, List.length_nil, Nat.reduceAdd, Nat.reduceSub, Array.replicate_succ, Array.replicate_zero, List.push_toArray, List.append_toArray, List.nil_append, List.cons_append]
 apply wpS_seq
 apply wpS_region
 simp [wpOpsS, go_sem, recoverD, hu, Exit.thenS]
 have HU := Lib.hid hu
 clear hu
 have heq : ∀ w, (binOp .eql 20 (.iface 127 (.agg #[.int .i64 day])) .nilIface).run Tryz.prog w = .ok (.bool false) w := fun w => by kernel_rfl
 have hta : ∀ w, (Instr.typeAssert (.iface 127 (.agg #[.int .i64 day])) 20 127 true).run Tryz.prog w = .ok (.tuple #[.agg #[.int .i64 day], .bool true]) w := fun w => by kernel_rfl
 have hpl := World.block_lt_of_cell? w p hc
 have hA := fr_alloc (fr_refl w) (.cells #[.int .i64 day] 127)
 have hc2 := (hA.cell hpl).trans hc
 have hz2 := (hA.frozen hpl).trans hz
 clear hA
 refine wpS_of_wp ?_
 go_wp2
 have hu := HU.out
 cases c₀
 simp_all [bodyPostS, results, Tryz.results83]
set_option maxHeartbeats 1000000 in
theorem try1_none (p : Addr) (x : Int) (why : ByteArray) (older : List PanicEntry) (w : World) (hc : w.cell? p = some (.int .i64 x)) (hz : w.frozen? p = false) :
  CallsD Tryz.prog 83 #[.pointer (some p)] (.panicking ({ v := .iface 129 (.agg #[.string why]), recovered := false } :: older)) w fun e u' w' =>
   e = .returned (.tuple #[]) ∧ u' = .panicking ({ v := .iface 129 (.agg #[.string why]), recovered := true } :: older) ∧ w' = (w.alloc (.cells #[.string why] 129)).setCell p (.int .i64 4) := by
 refine callsD_of_wpS Tryz.func83 rfl fun c₀ cs hu => ?_
 simp only [Tryz.ntmps83, List.size_toArray, List.length_cons, List.length_nil, Nat.reduceAdd, Nat.reduceSub, Array.replicate_succ, Array.replicate_zero, List.push_toArray, List.append_toArray, List.nil_append, List.cons_append]
 apply wpS_seq
 apply wpS_region
 simp [wpOpsS, go_sem, recoverD, hu, Exit.thenS]
 have HU := Lib.hid hu
 clear hu
 have heq : ∀ w, (binOp .eql 20 (.iface 129 (.agg #[.string why])) .nilIface).run Tryz.prog w = .ok (.bool false) w := fun w => by kernel_rfl
 have hta : ∀ w, (Instr.typeAssert (.iface 129 (.agg #[.string why])) 20 129 true).run Tryz.prog w = .ok (.tuple #[.agg #[.string why], .bool true]) w := fun w => by kernel_rfl
 have htb : ∀ w, (Instr.typeAssert (.iface 129 (.agg #[.string why])) 20 127 true).run Tryz.prog w = .ok (.tuple #[.agg #[.int .i64 0], .bool false]) w := fun w => by kernel_rfl
 have hpl := World.block_lt_of_cell? w p hc
 have hA := fr_alloc (fr_refl w) (.cells #[.string why] 129)
 have hc2 := (hA.cell hpl).trans hc
 have hz2 := (hA.frozen hpl).trans hz
 clear hA
 refine wpS_of_wp ?_
 go_wp2
 have hu := HU.out
 cases c₀
 simp_all [bodyPostS, results, Tryz.results83]

/-- what is given up with by 'none' -/
def noneV (why : ByteArray) : List PanicEntry := [{ v := .iface 129 (.agg #[.string why]), recovered := false }]

set_option maxHeartbeats 1000000 in
theorem try_ok_On (cap : Array Value) (R : World → Prop) (w : World)
  (h : Calls Tryz.prog 55 cap (w.alloc (.cells #[.int .i64 0] 31)) fun e w' => e = .returned (.tuple #[]) ∧ R w' ∧ w'.cell? ⟨w.heap.size, 0, none⟩ = some (.int .i64 0) ∧ w'.frozen? ⟨w.heap.size, 0, none⟩ = false) :
  Calls Tryz.prog 41 #[.func (.func 55) #[] cap] w fun e w'' => e = .returned (.int .i64 0) ∧ ∃ w', R w' ∧ w'' = w'.setCell ⟨w.heap.size, 0, none⟩ (.int .i64 0) := by
 have hmf : ∀ (fn : Fn) (first cap : Array Value) (w : World), (Instr.makeFunc fn first cap).run Tryz.prog w = .ok (.func fn first cap) w := fun _ _ _ _ => rfl
 have H := Lib.hid h
 clear h
 go_enter_defers Tryz.func41, Tryz.ntmps41
 go_wp2_with fail
 refine (H.out).mono ?_
 rintro e w' ⟨rfl, hR, hc, hf⟩
 go_wp2
 refine leaves_cons (f := 83) (args := #[.pointer (some ⟨w.heap.size, 0, none⟩)]) (by simp) (by simp [go_sem]) ?_
 refine (try1_idle ⟨w.heap.size, 0, none⟩ _).mono ?_
 rintro e u' w'' ⟨rfl, rfl, rfl⟩
 simp [Leaves, settle, results, Tryz.results41, go_sem, hc]
 exact ⟨w', hR, rfl⟩

set_option maxHeartbeats 1000000 in
theorem try_away_On (cap : Array Value) (R : World → Prop) (w : World) (day : Int)
  (h : Calls Tryz.prog 55 cap (w.alloc (.cells #[.int .i64 0] 31)) fun e w' => e = .panicked (awayV day) ∧ R w' ∧ w'.cell? ⟨w.heap.size, 0, none⟩ = some (.int .i64 0) ∧ w'.frozen? ⟨w.heap.size, 0, none⟩ = false) :
  Calls Tryz.prog 41 #[.func (.func 55) #[] cap] w fun e w'' => e = .returned (.int .i64 5) ∧ ∃ w', R w' ∧ w'' = (w'.alloc (.cells #[.int .i64 day] 127)).setCell ⟨w.heap.size, 0, none⟩ (.int .i64 5) := by
 have hmf : ∀ (fn : Fn) (first cap : Array Value) (w : World), (Instr.makeFunc fn first cap).run Tryz.prog w = .ok (.func fn first cap) w := fun _ _ _ _ => rfl
 have H := Lib.hid h
 clear h
 go_enter_defers Tryz.func41, Tryz.ntmps41
 go_wp2_with fail
 refine (H.out).mono ?_
 rintro e w' ⟨rfl, hR, hc, hf⟩
 go_wp2
 refine leaves_cons (f := 83) (args := #[.pointer (some ⟨w.heap.size, 0, none⟩)]) (by simp) (by simp [go_sem]) ?_
 refine (try1_away ⟨w.heap.size, 0, none⟩ 0 day [] _ hc hf).mono ?_
 rintro e u' w'' ⟨rfl, rfl, rfl⟩
 have hpl := World.block_lt_of_cell? w' _ hc
 have hc2 := ((fr_alloc (fr_refl w') (.cells #[.int .i64 day] 127)).cell hpl).trans hc
 simp [Leaves, settle, results, Tryz.results41, go_sem, hc2]
 exact ⟨w', hR, rfl⟩
set_option maxHeartbeats 1000000 in
theorem try_ok_Keep (cap : Array Value) (R : World → Prop) (w : World)
  (h : Calls Tryz.prog 65 cap (w.alloc (.cells #[.int .i64 0] 31)) fun e w' => e = .returned (.tuple #[]) ∧ R w' ∧ w'.cell? ⟨w.heap.size, 0, none⟩ = some (.int .i64 0) ∧ w'.frozen? ⟨w.heap.size, 0, none⟩ = false) :
  Calls Tryz.prog 41 #[.func (.func 65) #[] cap] w fun e w'' => e = .returned (.int .i64 0) ∧ ∃ w', R w' ∧ w'' = w'.setCell ⟨w.heap.size, 0, none⟩ (.int .i64 0) := by
 have hmf : ∀ (fn : Fn) (first cap : Array Value) (w : World), (Instr.makeFunc fn first cap).run Tryz.prog w = .ok (.func fn first cap) w := fun _ _ _ _ => rfl
 have H := Lib.hid h
 clear h
 go_enter_defers Tryz.func41, Tryz.ntmps41
 go_wp2_with fail
 refine (H.out).mono ?_
 rintro e w' ⟨rfl, hR, hc, hf⟩
 go_wp2
 refine leaves_cons (f := 83) (args := #[.pointer (some ⟨w.heap.size, 0, none⟩)]) (by simp) (by simp [go_sem]) ?_
 refine (try1_idle ⟨w.heap.size, 0, none⟩ _).mono ?_
 rintro e u' w'' ⟨rfl, rfl, rfl⟩
 simp [Leaves, settle, results, Tryz.results41, go_sem, hc]
 exact ⟨w', hR, rfl⟩

set_option maxHeartbeats 1000000 in
theorem try_away_Keep (cap : Array Value) (R : World → Prop) (w : World) (day : Int)
  (h : Calls Tryz.prog 65 cap (w.alloc (.cells #[.int .i64 0] 31)) fun e w' => e = .panicked (awayV day) ∧ R w' ∧ w'.cell? ⟨w.heap.size, 0, none⟩ = some (.int .i64 0) ∧ w'.frozen? ⟨w.heap.size, 0, none⟩ = false) :
  Calls Tryz.prog 41 #[.func (.func 65) #[] cap] w fun e w'' => e = .returned (.int .i64 5) ∧ ∃ w', R w' ∧ w'' = (w'.alloc (.cells #[.int .i64 day] 127)).setCell ⟨w.heap.size, 0, none⟩ (.int .i64 5) := by
 have hmf : ∀ (fn : Fn) (first cap : Array Value) (w : World), (Instr.makeFunc fn first cap).run Tryz.prog w = .ok (.func fn first cap) w := fun _ _ _ _ => rfl
 have H := Lib.hid h
 clear h
 go_enter_defers Tryz.func41, Tryz.ntmps41
 go_wp2_with fail
 refine (H.out).mono ?_
 rintro e w' ⟨rfl, hR, hc, hf⟩
 go_wp2
 refine leaves_cons (f := 83) (args := #[.pointer (some ⟨w.heap.size, 0, none⟩)]) (by simp) (by simp [go_sem]) ?_
 refine (try1_away ⟨w.heap.size, 0, none⟩ 0 day [] _ hc hf).mono ?_
 rintro e u' w'' ⟨rfl, rfl, rfl⟩
 have hpl := World.block_lt_of_cell? w' _ hc
 have hc2 := ((fr_alloc (fr_refl w') (.cells #[.int .i64 day] 127)).cell hpl).trans hc
 simp [Leaves, settle, results, Tryz.results41, go_sem, hc2]
 exact ⟨w', hR, rfl⟩
set_option maxHeartbeats 1000000 in
theorem try_ok_Read (cap : Array Value) (R : World → Prop) (w : World)
  (h : Calls Tryz.prog 42 cap (w.alloc (.cells #[.int .i64 0] 31)) fun e w' => e = .returned (.tuple #[]) ∧ R w' ∧ w'.cell? ⟨w.heap.size, 0, none⟩ = some (.int .i64 0) ∧ w'.frozen? ⟨w.heap.size, 0, none⟩ = false) :
  Calls Tryz.prog 41 #[.func (.func 42) #[] cap] w fun e w'' => e = .returned (.int .i64 0) ∧ ∃ w', R w' ∧ w'' = w'.setCell ⟨w.heap.size, 0, none⟩ (.int .i64 0) := by
 have hmf : ∀ (fn : Fn) (first cap : Array Value) (w : World), (Instr.makeFunc fn first cap).run Tryz.prog w = .ok (.func fn first cap) w := fun _ _ _ _ => rfl
 have H := Lib.hid h
 clear h
 go_enter_defers Tryz.func41, Tryz.ntmps41
 go_wp2_with fail
 refine (H.out).mono ?_
 rintro e w' ⟨rfl, hR, hc, hf⟩
 go_wp2
 refine leaves_cons (f := 83) (args := #[.pointer (some ⟨w.heap.size, 0, none⟩)]) (by simp) (by simp [go_sem]) ?_
 refine (try1_idle ⟨w.heap.size, 0, none⟩ _).mono ?_
 rintro e u' w'' ⟨rfl, rfl, rfl⟩
 simp [Leaves, settle, results, Tryz.results41, go_sem, hc]
 exact ⟨w', hR, rfl⟩

set_option maxHeartbeats 1000000 in
theorem try_away_Read (cap : Array Value) (R : World → Prop) (w : World) (day : Int)
  (h : Calls Tryz.prog 42 cap (w.alloc (.cells #[.int .i64 0] 31)) fun e w' => e = .panicked (awayV day) ∧ R w' ∧ w'.cell? ⟨w.heap.size, 0, none⟩ = some (.int .i64 0) ∧ w'.frozen? ⟨w.heap.size, 0, none⟩ = false) :
  Calls Tryz.prog 41 #[.func (.func 42) #[] cap] w fun e w'' => e = .returned (.int .i64 5) ∧ ∃ w', R w' ∧ w'' = (w'.alloc (.cells #[.int .i64 day] 127)).setCell ⟨w.heap.size, 0, none⟩ (.int .i64 5) := by
 have hmf : ∀ (fn : Fn) (first cap : Array Value) (w : World), (Instr.makeFunc fn first cap).run Tryz.prog w = .ok (.func fn first cap) w := fun _ _ _ _ => rfl
 have H := Lib.hid h
 clear h
 go_enter_defers Tryz.func41, Tryz.ntmps41
 go_wp2_with fail
 refine (H.out).mono ?_
 rintro e w' ⟨rfl, hR, hc, hf⟩
 go_wp2
 refine leaves_cons (f := 83) (args := #[.pointer (some ⟨w.heap.size, 0, none⟩)]) (by simp) (by simp [go_sem]) ?_
 refine (try1_away ⟨w.heap.size, 0, none⟩ 0 day [] _ hc hf).mono ?_
 rintro e u' w'' ⟨rfl, rfl, rfl⟩
 have hpl := World.block_lt_of_cell? w' _ hc
 have hc2 := ((fr_alloc (fr_refl w') (.cells #[.int .i64 day] 127)).cell hpl).trans hc
 simp [Leaves, settle, results, Tryz.results41, go_sem, hc2]
 exact ⟨w', hR, rfl⟩
end Go.Proofs.YthjblcboainknaaGreatDoor
end

section
namespace Go.Proofs.YthjblcboainknaaGreatDoor
open Go.RowKit Dl

def realmOk (e1 : Int) (c1 : List Int) (e2 : Int) (c2 : List Int) (last : Int) : Bool := calOk e1 c1 && calOk e2 c2 && inB last 0 2000000

set_option maxRecDepth 100000 in
set_option maxHeartbeats 1000000 in
theorem isRealm_is (A1 A2 : Option Addr) (n1 k1 n2 k2 : Nat) (c1 c2 : List Int) (e1 e2 last : Int) (w : World) (hr1 : Rd w A1 n1 c1) (hr2 : Rd w A2 n2 c2) (hn1 : n1 ≤ 9223372036854775807) (hn2 : n2 ≤ 9223372036854775807)
  (b : Bool) (hb : realmOk e1 c1 e2 c2 last = b) :
  Calls Tryz.prog 53 #[.agg #[.int .i64 e1, .slice A1 n1 k1, .int .i64 e2, .slice A2 n2 k2, .int .i64 last]] w fun e' w' => e' = .returned (.bool b) ∧ Below w.heap.size w w' := by
 subst hb
 have hr10 := hr1.alloc (.cells #[.int .i64 e1, .slice A1 n1 k1, .int .i64 e2, .slice A2 n2 k2, .int .i64 last] 55)
 have hr20 := hr2.alloc (.cells #[.int .i64 e1, .slice A1 n1 k1, .int .i64 e2, .slice A2 n2 k2, .int .i64 last] 55)
 have hfr := fr_alloc (fr_refl w) (.cells #[.int .i64 e1, .slice A1 n1 k1, .int .i64 e2, .slice A2 n2 k2, .int .i64 last] 55)
 unfold realmOk
 cases h1 : calOk e1 c1
 ·simp only [Bool.false_and]
  go_enter Tryz.func53, Tryz.ntmps53
  go_wp2_with fail
  refine (isCalendar_is A1 n1 k1 c1 e1 _ hr10 hn1 _ h1).mono ?_
  rintro e' w1 ⟨rfl, hb1⟩
  go_wp2_with fail
  go_ret
  exact ⟨rfl, fr_call hfr hb1⟩
 ·cases h2 : calOk e2 c2
  ·simp only [Bool.and_false, Bool.false_and]
   go_enter Tryz.func53, Tryz.ntmps53
   go_wp2_with fail
   refine (isCalendar_is A1 n1 k1 c1 e1 _ hr10 hn1 _ h1).mono ?_
   rintro e' w1 ⟨rfl, hb1⟩
   obtain ⟨hc_w1, hf_w1⟩ := bcell hb1
   have hz0_w1 : w.heap.size < w1.heap.size := Nat.lt_of_lt_of_le (by first | omega | (simp; done) | (simp; omega)) hb1.size
   go_wp2_with fail
   refine (isCalendar_is A2 n2 k2 c2 e2 _ (hr20.keep hb1) hn2 _ h2).mono ?_
   rintro e' w2 ⟨rfl, hb2⟩
   go_wp2_with fail
   go_ret
   exact ⟨rfl, fr_call (fr_call hfr hb1) hb2⟩
  ·simp only [Bool.and_self, Bool.true_and]
   cases h3 : inB last 0 2000000
   all_goals
    go_enter Tryz.func53, Tryz.ntmps53
    go_wp2_with fail
    refine (isCalendar_is A1 n1 k1 c1 e1 _ hr10 hn1 _ h1).mono ?_
    rintro e' w1 ⟨rfl, hb1⟩
    obtain ⟨hc_w1, hf_w1⟩ := bcell hb1
    have hz0_w1 : w.heap.size < w1.heap.size := Nat.lt_of_lt_of_le (by first | omega | (simp; done) | (simp; omega)) hb1.size
    go_wp2_with fail
    refine (isCalendar_is A2 n2 k2 c2 e2 _ (hr20.keep hb1) hn2 _ h2).mono ?_
    rintro e' w2 ⟨rfl, hb2⟩
    obtain ⟨hc_w2, hf_w2⟩ := bcell hb2
    have hz0_w2 : w.heap.size < w2.heap.size := Nat.lt_of_lt_of_le (by first | omega | (simp; done) | (simp; omega)) hb2.size
    go_wp2_with fail
    refine (isDay_is _ _ _ h3).mono ?_
    rintro e' w3 ⟨rfl, rfl⟩
    go_wp2_with fail
    go_ret
    exact ⟨rfl, fr_call (fr_call hfr hb1) hb2⟩

set_option maxRecDepth 100000 in
set_option maxHeartbeats 4000000 in
theorem opens_any (A1 A2 : Option Addr) (n1 k1 n2 k2 : Nat) (c1 c2 : List Int) (e1 e2 last : Int) (w : World) (hr1 : Rd w A1 n1 c1) (hr2 : Rd w A2 n2 c2) (h1 : calOk e1 c1 = true) (h2 : calOk e2 c2 = true) :
  Calls Tryz.prog 56 #[.agg #[.int .i64 e1, .slice A1 n1 k1, .int .i64 e2, .slice A2 n2 k2, .int .i64 last]] w fun e' w' => ∃ F1 f1 M1 F2 f2 M2,
   e' = .returned (.agg #[.int .i64 e1, .slice A1 n1 k1, .int .i64 e2, .slice A2 n2 k2, .int .i64 last, .int .i64 e1, .slice A1 n1 k1, .int .i64 0, .int .i64 0, .int .i64 0, .slice F1 4002 f1, .map (some M1), .int .i64 e2, .slice A2 n2 k2, .int .i64 0, .int .i64 0, .int .i64 0, .slice F2 4002 f2, .map (some M2)]) ∧
   Rd w' F1 4002 (firsts e1 c1) ∧ Rd w' F2 4002 (firsts e2 c2) ∧ Below w.heap.size w w' := by
 have hr10 := (hr1.alloc (.cells #[.int .i64 e1, .slice A1 n1 k1, .int .i64 e2, .slice A2 n2 k2, .int .i64 last] 55)).alloc (.cells #[.int .i64 0, .slice none 0 0, .int .i64 0, .slice none 0 0, .int .i64 0, .int .i64 0, .slice none 0 0, .int .i64 0, .int .i64 0, .int .i64 0, .slice none 0 0, .map none, .int .i64 0, .slice none 0 0, .int .i64 0, .int .i64 0, .int .i64 0, .slice none 0 0, .map none] 96)
 have hr20 := (hr2.alloc (.cells #[.int .i64 e1, .slice A1 n1 k1, .int .i64 e2, .slice A2 n2 k2, .int .i64 last] 55)).alloc (.cells #[.int .i64 0, .slice none 0 0, .int .i64 0, .slice none 0 0, .int .i64 0, .int .i64 0, .slice none 0 0, .int .i64 0, .int .i64 0, .int .i64 0, .slice none 0 0, .map none, .int .i64 0, .slice none 0 0, .int .i64 0, .int .i64 0, .int .i64 0, .slice none 0 0, .map none] 96)
 have hZ : Blk ((w.alloc (.cells #[.int .i64 e1, .slice A1 n1 k1, .int .i64 e2, .slice A2 n2 k2, .int .i64 last] 55)).alloc (.cells #[.int .i64 0, .slice none 0 0, .int .i64 0, .slice none 0 0, .int .i64 0, .int .i64 0, .slice none 0 0, .int .i64 0, .int .i64 0, .int .i64 0, .slice none 0 0, .map none, .int .i64 0, .slice none 0 0, .int .i64 0, .int .i64 0, .int .i64 0, .slice none 0 0, .map none] 96)) (w.heap.size + 1) 96 #[.int .i64 0, .slice none 0 0, .int .i64 0, .slice none 0 0, .int .i64 0, .int .i64 0, .slice none 0 0, .int .i64 0, .int .i64 0, .int .i64 0, .slice none 0 0, .map none, .int .i64 0, .slice none 0 0, .int .i64 0, .int .i64 0, .int .i64 0, .slice none 0 0, .map none] := Blk.new_at _ _ (by simp)
 go_enter Tryz.func56, Tryz.ntmps56
 go_wp2_with fail
 refine wp_region_noPanic ?_
 refine wp_region_held_drew (S := fun W => (∀ p : Addr, p.block < w.heap.size + 1 → W.cell? p = ((w.alloc (.cells #[.int .i64 e1, .slice A1 n1 k1, .int .i64 e2, .slice A2 n2 k2, .int .i64 last] 55)).alloc (.cells #[.int .i64 0, .slice none 0 0, .int .i64 0, .slice none 0 0, .int .i64 0, .int .i64 0, .slice none 0 0, .int .i64 0, .int .i64 0, .int .i64 0, .slice none 0 0, .map none, .int .i64 0, .slice none 0 0, .int .i64 0, .int .i64 0, .int .i64 0, .slice none 0 0, .map none] 96)).cell? p) ∧ Below (w.heap.size + 1) ((w.alloc (.cells #[.int .i64 e1, .slice A1 n1 k1, .int .i64 e2, .slice A2 n2 k2, .int .i64 last] 55)).alloc (.cells #[.int .i64 0, .slice none 0 0, .int .i64 0, .slice none 0 0, .int .i64 0, .int .i64 0, .slice none 0 0, .int .i64 0, .int .i64 0, .int .i64 0, .slice none 0 0, .map none, .int .i64 0, .slice none 0 0, .int .i64 0, .int .i64 0, .int .i64 0, .slice none 0 0, .map none] 96)) W) (by kernel_rfl) (kp_of (fr_drew (fr_refl _) |>.mono (by simp))) (fun hHeld => ?_)
 -- the region, step by step
 refine wpAnyH_take (i := 0) (oi := ⟨some 3, .load 55 (.tmp 1), 55, "dial.go:210", #[], none⟩) (v := ?_) rfl (by kernel_rfl) (by kernel_rfl) (by kernel_rfl) (fun _ _ _ h => h) (Or.inl ⟨by rfl, fun W hSw => ?_⟩) hHeld ?_
 rotate_left
 ·(try dsimp only at hSw); go_simp; (try with_reducible rfl)
 (try simp only [Act.put, List.setIfInBounds_toArray, List.set_cons_zero, List.set_cons_succ])
 refine wpAnyH_take (i := 1) (oi := ⟨some 4, .fieldAddr 55 (.tmp 1) 0, 0, "dial.go:210", #[], none⟩) (v := ?_) rfl (by kernel_rfl) (by kernel_rfl) (by kernel_rfl) (fun _ _ _ h => h) (Or.inl ⟨by rfl, fun W hSw => ?_⟩) hHeld ?_
 rotate_left
 ·(try dsimp only at hSw); go_simp; (try with_reducible rfl)
 (try simp only [Act.put, List.setIfInBounds_toArray, List.set_cons_zero, List.set_cons_succ])
 refine wpAnyH_take (i := 2) (oi := ⟨some 5, .load 24 (.tmp 4), 24, "dial.go:210", #[⟨1, .data⟩], none⟩) (v := ?_) rfl (by kernel_rfl) (by kernel_rfl) (by kernel_rfl) (fun _ _ _ h => h) (Or.inl ⟨by rfl, fun W hSw => ?_⟩) hHeld ?_
 rotate_left
 ·(try dsimp only at hSw); go_simp; (try with_reducible rfl)
 (try simp only [Act.put, List.setIfInBounds_toArray, List.set_cons_zero, List.set_cons_succ])
 refine wpAnyH_take (i := 3) (oi := ⟨some 6, .build 26 #[], 26, "dial.go:210", #[], none⟩) (v := ?_) rfl (by kernel_rfl) (by kernel_rfl) (by kernel_rfl) (fun _ _ _ h => h) (Or.inl ⟨by rfl, fun W hSw => ?_⟩) hHeld ?_
 rotate_left
 ·(try dsimp only at hSw); go_simp; (try with_reducible rfl)
 (try simp only [Act.put, List.setIfInBounds_toArray, List.set_cons_zero, List.set_cons_succ])
 refine wpAnyH_take (i := 5) (oi := ⟨some 8, .fieldAddr 55 (.tmp 1) 1, 0, "dial.go:210", #[], none⟩) (v := ?_) rfl (by kernel_rfl) (by kernel_rfl) (by kernel_rfl) (fun _ _ _ h => h) (Or.inl ⟨by rfl, fun W hSw => ?_⟩) hHeld ?_
 rotate_left
 ·(try dsimp only at hSw); go_simp; (try with_reducible rfl)
 (try simp only [Act.put, List.setIfInBounds_toArray, List.set_cons_zero, List.set_cons_succ])
 refine wpAnyH_take (i := 6) (oi := ⟨some 9, .load 24 (.tmp 8), 24, "dial.go:210", #[⟨5, .data⟩], none⟩) (v := ?_) rfl (by kernel_rfl) (by kernel_rfl) (by kernel_rfl) (fun _ _ _ h => h) (Or.inl ⟨by rfl, fun W hSw => ?_⟩) hHeld ?_
 rotate_left
 ·(try dsimp only at hSw); go_simp; (try with_reducible rfl)
 (try simp only [Act.put, List.setIfInBounds_toArray, List.set_cons_zero, List.set_cons_succ])
 refine wpAnyH_take (i := 7) (oi := ⟨some 10, .build 26 #[], 26, "dial.go:210", #[], none⟩) (v := ?_) rfl (by kernel_rfl) (by kernel_rfl) (by kernel_rfl) (fun _ _ _ h => h) (Or.inl ⟨by rfl, fun W hSw => ?_⟩) hHeld ?_
 rotate_left
 ·(try dsimp only at hSw); go_simp; (try with_reducible rfl)
 (try simp only [Act.put, List.setIfInBounds_toArray, List.set_cons_zero, List.set_cons_succ])
 refine wpAnyH_ready (rs := [4]) (by kernel_rfl) (by simp) ?_
 refine AllReadyH.cons (o := ⟨some 7, .call { callee := .value (.func 50), args := #[.tmp 5, .tmp 6], argTypes := #[24, 26] }, 89, "dial.go:210", #[⟨2, .data⟩, ⟨3, .data⟩], none⟩) rfl (fun K hK => ?_) AllReadyH.nil
 go_simp
 refine (open_any A1 n1 k1 c1 e1 0 0 0 _ (hr10.keep (fr_drew (fr_refl _))) h1).mono ?_
 rintro e' w1 ⟨F1, f1, M1, rfl, hF1, hM1, hM1', hb1, hf1⟩
 have hb01 := fr_call (fr_drew (fr_refl _)) hb1
 have hZ1 := hZ.keep hb01
 refine hK.out _ _ (kpn_step hb1 hHeld (by simp)) (fun hHeld => ?_)
 clear hK K
 (try simp only [Act.put, List.setIfInBounds_toArray, List.set_cons_zero, List.set_cons_succ])
 refine wpAnyH_ready (rs := [8]) (by kernel_rfl) (by simp) ?_
 refine AllReadyH.cons (o := ⟨some 11, .call { callee := .value (.func 50), args := #[.tmp 9, .tmp 10], argTypes := #[24, 26] }, 89, "dial.go:210", #[⟨6, .data⟩, ⟨7, .data⟩, ⟨4, .chain⟩], none⟩) rfl (fun K hK => ?_) AllReadyH.nil
 go_simp
 refine (open_any A2 n2 k2 c2 e2 0 0 0 _ (hr20.keep hb01) h2).mono ?_
 rintro e' w2 ⟨F2, f2, M2, rfl, hF2, hM2, hM2', hb2, hf2⟩
 have hZ2 := hZ1.keep hb2
 have hF12 := hF1.keep hb2
 have hfr2 := fr_call (fr_call (fr_alloc (fr_alloc (fr_refl w) _) _) hb01) hb2
 refine hK.out _ _ (kpn_step hb2 hHeld (by simp)) (fun hHeld => ?_)
 clear hK K
 (try simp only [Act.put, List.setIfInBounds_toArray, List.set_cons_zero, List.set_cons_succ])
 refine wpAnyH_take (i := 9) (oi := ⟨some 12, .build 96 #[(0, .tmp 3), (1, .tmp 7), (2, .tmp 11)], 96, "dial.go:210", #[⟨0, .data⟩, ⟨4, .data⟩, ⟨8, .data⟩], none⟩) (v := ?_) rfl (by kernel_rfl) (by kernel_rfl) (by kernel_rfl) (fun _ _ _ h => h) (Or.inl ⟨by rfl, fun W hSw => ?_⟩) hHeld ?_
 rotate_left
 ·(try dsimp only at hSw); go_simp; (try with_reducible rfl)
 (try simp only [Act.put, List.setIfInBounds_toArray, List.set_cons_zero, List.set_cons_succ])
 refine wpAnyH_ready (rs := [10]) (by kernel_rfl) (by simp) ?_
 refine AllReadyH.cons (o := ⟨none, .store 96 (.tmp 2) (.tmp 12), 0, "dial.go:210", #[⟨9, .data⟩, ⟨8, .chain⟩, ⟨0, .phase⟩, ⟨1, .phase⟩, ⟨2, .phase⟩, ⟨3, .phase⟩, ⟨4, .phase⟩, ⟨5, .phase⟩, ⟨6, .phase⟩, ⟨7, .phase⟩, ⟨8, .phase⟩, ⟨9, .phase⟩], none⟩) rfl (fun K hK => ?_) AllReadyH.nil
 rw [if_pos (by rfl)]
 refine wp_store_blk _ _ _ rfl (w.heap.size + 1) 96 _ _ rfl rfl hZ2 rfl (by kernel_rfl) (by simp [Value.oneCell']) ?_
 intro w3 hZ3 hg3
 have hfr3 := hfr2.grown hg3 hfr2.size (by intro k hk; cases hk; omega)
 have hF23 := hF2.far hg3 (hf2.ne (Nat.lt_of_lt_of_le (by simp) (Nat.le_trans hb01.size (Nat.le_refl _))))
 have hF13 := hF12.far hg3 (hf1.ne (by simp))
 refine hK.out _ _ (kp_of (hHeld.2.grown hg3 (Nat.le_trans (by simp) hHeld.2.size) (by intro k hk; cases hk; omega))) (fun hHeld => ?_)
 clear hK K
 refine wpAnyH_done (by kernel_rfl) ?_ _
 refine NoPanic.normal ?_
 go_wp2
 refine bodyPost_ret (results_blk1 rfl _ _ _ _ rfl hZ3 Tryz.underlying96 rfl (by kernel_rfl)) rfl ⟨F1, f1, M1, F2, f2, M2, rfl, hF13, hF23, hfr3⟩

def onOf (e1 : Int) (c1 : List Int) (e2 : Int) (c2 : List Int) (last day : Int) : Option Date := if day ≤ last then dateOf e1 c1 day else dateOf e2 c2 day

set_option maxRecDepth 100000 in
set_option maxHeartbeats 4000000 in
theorem on_some (A1 A2 F1 F2 : Option Addr) (n1 k1 n2 k2 f1 f2 M1 M2 : Nat) (c1 c2 : List Int) (e1 e2 last day : Int) (w : World) (hr1 : Rd w A1 n1 c1) (hr2 : Rd w A2 n2 c2) (h1 : calOk e1 c1 = true) (h2 : calOk e2 c2 = true)
  (hF1 : Rd w F1 4002 (firsts e1 c1)) (hF2 : Rd w F2 4002 (firsts e2 c2)) (x : Date) (hx : onOf e1 c1 e2 c2 last day = some x) :
  Calls Tryz.prog 57 #[.agg #[.int .i64 e1, .slice A1 n1 k1, .int .i64 e2, .slice A2 n2 k2, .int .i64 last, .int .i64 e1, .slice A1 n1 k1, .int .i64 0, .int .i64 0, .int .i64 0, .slice F1 4002 f1, .map (some M1), .int .i64 e2, .slice A2 n2 k2, .int .i64 0, .int .i64 0, .int .i64 0, .slice F2 4002 f2, .map (some M2)], .int .i64 day] w fun e' w' => e' = .returned (.agg #[.int .i64 x.y, .int .i64 x.m, .int .i64 x.d]) ∧ Below w.heap.size w w' := by
 obtain ⟨he1, ⟨hn1, hn2⟩, hp1⟩ := calOk_parts h1
 obtain ⟨he2, ⟨hn3, hn4⟩, hp2⟩ := calOk_parts h2
 rw [hr1.len] at hn1 hn2
 rw [hr2.len] at hn3 hn4
 have g1 := fr_alloc (fr_alloc (fr_refl w) (.cells #[.int .i64 e1, .slice A1 n1 k1, .int .i64 e2, .slice A2 n2 k2, .int .i64 last, .int .i64 e1, .slice A1 n1 k1, .int .i64 0, .int .i64 0, .int .i64 0, .slice F1 4002 f1, .map (some M1), .int .i64 e2, .slice A2 n2 k2, .int .i64 0, .int .i64 0, .int .i64 0, .slice F2 4002 f2, .map (some M2)] 96)) (.cells #[.int .i64 0, .int .i64 0, .int .i64 0] 50)
 have hr10 := hr1.keep g1
 have hr20 := hr2.keep g1
 have hF10 := hF1.keep g1
 have hF20 := hF2.keep g1
 have hZ : Blk ((w.alloc (.cells #[.int .i64 e1, .slice A1 n1 k1, .int .i64 e2, .slice A2 n2 k2, .int .i64 last, .int .i64 e1, .slice A1 n1 k1, .int .i64 0, .int .i64 0, .int .i64 0, .slice F1 4002 f1, .map (some M1), .int .i64 e2, .slice A2 n2 k2, .int .i64 0, .int .i64 0, .int .i64 0, .slice F2 4002 f2, .map (some M2)] 96)).alloc (.cells #[.int .i64 0, .int .i64 0, .int .i64 0] 50)) (w.heap.size + 1) 50 #[.int .i64 0, .int .i64 0, .int .i64 0] := Blk.new_at _ _ (by simp)
 by_cases hl : day ≤ last
 ·have hx' : dateOf e1 c1 day = some x := by unfold onOf at hx; rw [if_pos hl] at hx; exact hx
  clear hx
  go_enter Tryz.func57, Tryz.ntmps57
  go_wp2_with fail
  refine (date_some A1 F1 n1 k1 f1 c1 e1 _ _ _ _ day x _ hr10 hn2 hp1 hF10 he1 hx').mono ?_
  rintro e' w1 ⟨rfl, hb1⟩
  have hZ1 := hZ.keep hb1
  go_wp2_with (refine wpList_store_blk rfl _ _ _ rfl (w.heap.size + 1) 50 _ _ rfl rfl hZ1 rfl (by kernel_rfl) (by simp [Value.oneCell']) ?_; intro w2 hZ2 hg2)
  refine bodyPost_ret (results_blk1 rfl _ _ _ _ rfl hZ2 Tryz.underlying50 rfl (by kernel_rfl)) rfl ⟨rfl, (fr_call g1 hb1).grown hg2 (fr_call g1 hb1).size (by intro k hk; cases hk; omega)⟩
 ·have hx' : dateOf e2 c2 day = some x := by unfold onOf at hx; rw [if_neg hl] at hx; exact hx
  clear hx
  go_enter Tryz.func57, Tryz.ntmps57
  go_wp2_with fail
  refine (date_some A2 F2 n2 k2 f2 c2 e2 _ _ _ _ day x _ hr20 hn4 hp2 hF20 he2 hx').mono ?_
  rintro e' w1 ⟨rfl, hb1⟩
  have hZ1 := hZ.keep hb1
  go_wp2_with (refine wpList_store_blk rfl _ _ _ rfl (w.heap.size + 1) 50 _ _ rfl rfl hZ1 rfl (by kernel_rfl) (by simp [Value.oneCell']) ?_; intro w2 hZ2 hg2)
  refine bodyPost_ret (results_blk1 rfl _ _ _ _ rfl hZ2 Tryz.underlying50 rfl (by kernel_rfl)) rfl ⟨rfl, (fr_call g1 hb1).grown hg2 (fr_call g1 hb1).size (by intro k hk; cases hk; omega)⟩

set_option maxRecDepth 100000 in
set_option maxHeartbeats 4000000 in
theorem on_none (A1 A2 F1 F2 : Option Addr) (n1 k1 n2 k2 f1 f2 M1 M2 : Nat) (c1 c2 : List Int) (e1 e2 last day : Int) (w : World) (hr1 : Rd w A1 n1 c1) (hr2 : Rd w A2 n2 c2) (h1 : calOk e1 c1 = true) (h2 : calOk e2 c2 = true)
  (hF1 : Rd w F1 4002 (firsts e1 c1)) (hF2 : Rd w F2 4002 (firsts e2 c2)) (hx : onOf e1 c1 e2 c2 last day = none) :
  Calls Tryz.prog 57 #[.agg #[.int .i64 e1, .slice A1 n1 k1, .int .i64 e2, .slice A2 n2 k2, .int .i64 last, .int .i64 e1, .slice A1 n1 k1, .int .i64 0, .int .i64 0, .int .i64 0, .slice F1 4002 f1, .map (some M1), .int .i64 e2, .slice A2 n2 k2, .int .i64 0, .int .i64 0, .int .i64 0, .slice F2 4002 f2, .map (some M2)], .int .i64 day] w fun e' w' => e' = .panicked (awayV day) ∧ Below w.heap.size w w' := by
 obtain ⟨he1, ⟨hn1, hn2⟩, hp1⟩ := calOk_parts h1
 obtain ⟨he2, ⟨hn3, hn4⟩, hp2⟩ := calOk_parts h2
 rw [hr1.len] at hn1 hn2
 rw [hr2.len] at hn3 hn4
 have g1 := fr_alloc (fr_alloc (fr_refl w) (.cells #[.int .i64 e1, .slice A1 n1 k1, .int .i64 e2, .slice A2 n2 k2, .int .i64 last, .int .i64 e1, .slice A1 n1 k1, .int .i64 0, .int .i64 0, .int .i64 0, .slice F1 4002 f1, .map (some M1), .int .i64 e2, .slice A2 n2 k2, .int .i64 0, .int .i64 0, .int .i64 0, .slice F2 4002 f2, .map (some M2)] 96)) (.cells #[.int .i64 0, .int .i64 0, .int .i64 0] 50)
 have hr10 := hr1.keep g1
 have hr20 := hr2.keep g1
 have hF10 := hF1.keep g1
 have hF20 := hF2.keep g1
 have _hZ : Blk ((w.alloc (.cells #[.int .i64 e1, .slice A1 n1 k1, .int .i64 e2, .slice A2 n2 k2, .int .i64 last, .int .i64 e1, .slice A1 n1 k1, .int .i64 0, .int .i64 0, .int .i64 0, .slice F1 4002 f1, .map (some M1), .int .i64 e2, .slice A2 n2 k2, .int .i64 0, .int .i64 0, .int .i64 0, .slice F2 4002 f2, .map (some M2)] 96)).alloc (.cells #[.int .i64 0, .int .i64 0, .int .i64 0] 50)) (w.heap.size + 1) 50 #[.int .i64 0, .int .i64 0, .int .i64 0] := Blk.new_at _ _ (by simp)
 by_cases hl : day ≤ last
 ·have hx' : dateOf e1 c1 day = none := by unfold onOf at hx; rw [if_pos hl] at hx; exact hx
  clear hx
  go_enter Tryz.func57, Tryz.ntmps57
  go_wp2_with fail
  refine (date_none A1 F1 n1 k1 f1 c1 e1 _ _ _ _ day _ hF10 hx').mono ?_
  rintro e' w1 ⟨rfl, hb1⟩
  go_wp2_with fail
  exact ⟨rfl, rfl, fr_call g1 hb1⟩
 ·have hx' : dateOf e2 c2 day = none := by unfold onOf at hx; rw [if_neg hl] at hx; exact hx
  clear hx
  go_enter Tryz.func57, Tryz.ntmps57
  go_wp2_with fail
  refine (date_none A2 F2 n2 k2 f2 c2 e2 _ _ _ _ day _ hF20 hx').mono ?_
  rintro e' w1 ⟨rfl, hb1⟩
  go_wp2_with fail
  exact ⟨rfl, rfl, fr_call g1 hb1⟩
end Go.Proofs.YthjblcboainknaaGreatDoor
end
