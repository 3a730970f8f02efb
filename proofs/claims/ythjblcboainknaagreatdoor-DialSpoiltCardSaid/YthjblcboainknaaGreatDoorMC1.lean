/- Walks: the dials of Keep: dialOf, shown, set. What a loop leaves as it was but for some blocks; the steps of a dial. Walk: the days of a realm, one after another, as an iterator. A dial's methods called through its interface, in a round. -/
import Derived.Test.YthjblcboainknaaGreatDoorMB6
import Derived.RangeFuncNested
import Derived.RangeFuncBound
import Derived.OwnWalkIn
import Derived.TacticsInMore
import Derived.LoopIn
import Derived.Shelf.RegionOpen
import Derived.Outline
section
namespace Go.Proofs.YthjblcboainknaaGreatDoor
open Go.RowKit Dl

inductive Dial where
 | plain (d : Int)
 | annual (d m : Int)
 | leaps (d m y : Int)
def Dial.val : Dial → Value
 | .plain d => .iface 139 (.agg #[.int .i64 d])
 | .annual d m => .iface 141 (.agg #[.int .i64 d, .int .i64 m])
 | .leaps d m y => .iface 143 (.agg #[.int .i64 d, .int .i64 m, .int .i64 y])
def Dial.day : Dial → Int
 | .plain d => d
 | .annual d _ => d
 | .leaps d _ _ => d

set_option maxHeartbeats 2000000 in
theorem plainSet (d0 y m d : Int) (w : World) : Calls Tryz.prog 163 #[.agg #[.int .i64 d0], .agg #[.int .i64 y, .int .i64 m, .int .i64 d]] w fun e w' => e = .returned (Dial.plain d).val ∧ Below w.heap.size w w' := by
 go_enter Tryz.func163, Tryz.ntmps163
 go_wp2_with fail
 go_ret
 exact ⟨rfl, fr_alloc (fr_alloc (fr_refl _) _) _⟩
set_option maxHeartbeats 2000000 in
theorem annualSet (d0 m0 y m d : Int) (w : World) : Calls Tryz.prog 165 #[.agg #[.int .i64 d0, .int .i64 m0], .agg #[.int .i64 y, .int .i64 m, .int .i64 d]] w fun e w' => e = .returned (Dial.annual d m).val ∧ Below w.heap.size w w' := by
 go_enter Tryz.func165, Tryz.ntmps165
 go_wp2_with fail
 go_ret
 exact ⟨rfl, fr_alloc (fr_alloc (fr_refl _) _) _⟩
set_option maxHeartbeats 2000000 in
theorem leapsSet (d0 m0 y0 y m d : Int) (w : World) : Calls Tryz.prog 167 #[.agg #[.int .i64 d0, .int .i64 m0, .int .i64 y0], .agg #[.int .i64 y, .int .i64 m, .int .i64 d]] w fun e w' => e = .returned (Dial.leaps d m y).val ∧ Below w.heap.size w w' := by
 go_enter Tryz.func167, Tryz.ntmps167
 go_wp2_with fail
 go_ret
 exact ⟨rfl, fr_alloc (fr_alloc (fr_refl _) _) _⟩

set_option maxHeartbeats 2000000 in
theorem plainNext (d : Int) (w : World) (hd : 1 ≤ d ∧ d ≤ 31) : Calls Tryz.prog 162 #[.agg #[.int .i64 d]] w fun e w' => e = .returned (Dial.plain (d % 31 + 1)).val ∧ Below w.heap.size w w' := by
 have h1 : d.tmod 31 = d % 31 := Int.tmod_eq_emod_of_nonneg (by omega)
 have h2 : IntKind.i64.wrap (d % 31) = d % 31 := IntWalk.i64_in _ (by omega)
 have h3 : IntKind.i64.wrap (d % 31 + 1) = d % 31 + 1 := IntWalk.i64_in _ (by omega)
 go_enter Tryz.func162, Tryz.ntmps162
 go_wp2_with fail
 go_ret
 exact ⟨rfl, fr_alloc (fr_refl _) _⟩

set_option maxRecDepth 100000 in
set_option maxHeartbeats 2000000 in
theorem shown_is (x : Dial) (w : World) : Calls Tryz.prog 67 #[x.val] w fun e w' => e = .returned (.int .i64 x.day) ∧ Below w.heap.size w w' := by
 cases x with
 | plain d =>
  unfold Dial.val Dial.day
  have h1 : ∀ w, (Instr.typeAssert (.iface 139 (.agg #[.int .i64 d])) 101 139 true).run Tryz.prog w = .ok (.tuple #[.agg #[.int .i64 d], .bool true]) w := fun w => by kernel_rfl
  go_enter Tryz.func67, Tryz.ntmps67
  go_wp2_with fail
  go_ret
  exact ⟨rfl, fr_alloc (fr_refl _) _⟩
 | annual d m =>
  unfold Dial.val Dial.day
  have h1 : ∀ w, (Instr.typeAssert (.iface 141 (.agg #[.int .i64 d, .int .i64 m])) 101 139 true).run Tryz.prog w = .ok (.tuple #[.agg #[.int .i64 0], .bool false]) w := fun w => by kernel_rfl
  have h2 : ∀ w, (Instr.typeAssert (.iface 141 (.agg #[.int .i64 d, .int .i64 m])) 101 141 true).run Tryz.prog w = .ok (.tuple #[.agg #[.int .i64 d, .int .i64 m], .bool true]) w := fun w => by kernel_rfl
  go_enter Tryz.func67, Tryz.ntmps67
  go_wp2_with fail
  go_ret
  exact ⟨rfl, fr_alloc (fr_refl _) _⟩
 | leaps d m y =>
  unfold Dial.val Dial.day
  have h1 : ∀ w, (Instr.typeAssert (.iface 143 (.agg #[.int .i64 d, .int .i64 m, .int .i64 y])) 101 139 true).run Tryz.prog w = .ok (.tuple #[.agg #[.int .i64 0], .bool false]) w := fun w => by kernel_rfl
  have h2 : ∀ w, (Instr.typeAssert (.iface 143 (.agg #[.int .i64 d, .int .i64 m, .int .i64 y])) 101 141 true).run Tryz.prog w = .ok (.tuple #[.agg #[.int .i64 0, .int .i64 0], .bool false]) w := fun w => by kernel_rfl
  have h3 : ∀ w, (Instr.typeAssert (.iface 143 (.agg #[.int .i64 d, .int .i64 m, .int .i64 y])) 101 143 true).run Tryz.prog w = .ok (.tuple #[.agg #[.int .i64 d, .int .i64 m, .int .i64 y], .bool true]) w := fun w => by kernel_rfl
  go_enter Tryz.func67, Tryz.ntmps67
  go_wp2_with fail
  go_ret
  exact ⟨rfl, fr_alloc (fr_refl _) _⟩

def dialK (k : Int) : Option Dial := if k = 1 then some (.plain 0) else if k = 2 then some (.annual 0 0) else if k = 3 then some (.leaps 0 0 0) else none

def dialV (k : Int) : Value := match dialK k with
 | some x => x.val
 | none => .nilIface
set_option maxRecDepth 100000 in
set_option maxHeartbeats 2000000 in
theorem dialOf_some (k : Int) (x : Dial) (w : World) (h : dialK k = some x) : Calls Tryz.prog 64 #[.int .i64 k] w fun e w' => e = .returned (.tuple #[x.val, .bool true]) ∧ w' = w := by
 unfold dialK at h
 by_cases h1 : k = 1
 ·rw [if_pos h1] at h
  obtain rfl := h1
  cases h
  go_enter Tryz.func64, Tryz.ntmps64
  go_wp2_with fail
  go_ret2
  exact ⟨rfl, rfl⟩
 ·rw [if_neg h1] at h
  by_cases h2 : k = 2
  ·rw [if_pos h2] at h
   obtain rfl := h2
   cases h
   go_enter Tryz.func64, Tryz.ntmps64
   go_wp2_with fail
   go_ret2
   exact ⟨rfl, rfl⟩
  ·rw [if_neg h2] at h
   by_cases h3 : k = 3
   ·rw [if_pos h3] at h
    obtain rfl := h3
    cases h
    go_enter Tryz.func64, Tryz.ntmps64
    go_wp2_with fail
    go_ret2
    exact ⟨rfl, rfl⟩
   ·rw [if_neg h3] at h; cases h
set_option maxRecDepth 100000 in
set_option maxHeartbeats 2000000 in
theorem dialOf_none (k : Int) (w : World) (h : dialK k = none) : Calls Tryz.prog 64 #[.int .i64 k] w fun e w' => e = .returned (.tuple #[.nilIface, .bool false]) ∧ w' = w := by
 unfold dialK at h
 have h1 : ¬ k = 1 := by rintro rfl; simp at h
 have h2 : ¬ k = 2 := by rintro rfl; simp at h
 have h3 : ¬ k = 3 := by rintro rfl; simp at h
 clear h
 go_enter Tryz.func64, Tryz.ntmps64
 go_wp2_with fail
 go_ret2
 exact ⟨rfl, rfl⟩

def annualN (d m : Int) : Dial := if d < mlen true m then .annual (d + 1) m else .annual 1 (m % 12 + 1)
def leapsN (d m y : Int) : Dial := if d < mlen (decide (y % 4 = 0)) m then .leaps (d + 1) m y else .leaps 1 (m % 12 + 1) (y + m / 12)

set_option maxRecDepth 100000 in
set_option maxHeartbeats 2000000 in
theorem annualNext (d m : Int) (w : World) (hd : 1 ≤ d ∧ d ≤ 31) (hm : 1 ≤ m ∧ m ≤ 12) : Calls Tryz.prog 164 #[.agg #[.int .i64 d, .int .i64 m]] w fun e w' => e = .returned (annualN d m).val ∧ Below w.heap.size w w' := by
 obtain ⟨hd1, hd2⟩ := hd
 obtain ⟨hm1, hm2⟩ := hm
 have hi1 : m - 1 < 12 := by omega
 have hi0 : 0 ≤ m - 1 := by omega
 have hwm : IntKind.i64.wrap (m - 1) = m - 1 := IntWalk.i64_in _ (by omega)
 have hwd : IntKind.i64.wrap (d + 1) = d + 1 := IntWalk.i64_in _ (by omega)
 have h1 : m.tmod 12 = m % 12 := Int.tmod_eq_emod_of_nonneg (by omega)
 have h2 : IntKind.i64.wrap (m % 12) = m % 12 := IntWalk.i64_in _ (by omega)
 have h3 : IntKind.i64.wrap (m % 12 + 1) = m % 12 + 1 := IntWalk.i64_in _ (by omega)
 unfold annualN
 by_cases hlt : d < mlen true m
 all_goals
  (first | rw [if_pos hlt] | rw [if_neg hlt])
  unfold Dial.val
  go_enter Tryz.func164, Tryz.ntmps164
  go_wp2_with fail
  refine wp_region_noPanic ?_
  refine wp_region_held_drew (S := fun W => (∀ p : Addr, p.block < (w.alloc (.cells #[.int .i64 d, .int .i64 m] 141)).heap.size → W.cell? p = (w.alloc (.cells #[.int .i64 d, .int .i64 m] 141)).cell? p) ∧ Below (w.alloc (.cells #[.int .i64 d, .int .i64 m] 141)).heap.size (w.alloc (.cells #[.int .i64 d, .int .i64 m] 141)) W) (by kernel_rfl) ⟨fun _ _ => rfl, fr_drew (fr_refl _)⟩ (fun hHeld => ?_)
  -- the region, step by step
  refine wpAnyH_take (i := 0) (oi := ⟨some 3, .fieldAddr 141 (.tmp 1) 0, 0, "keep.go:27", #[], none⟩) (v := ?_) rfl (by kernel_rfl) (by kernel_rfl) (by kernel_rfl) (fun _ _ _ h => h) (Or.inl ⟨by rfl, fun W hSw => ?_⟩) hHeld ?_
  rotate_left
  ·(try dsimp only at hSw); go_simp; (try with_reducible rfl)
  (try simp only [Act.put, List.setIfInBounds_toArray, List.set_cons_zero, List.set_cons_succ])
  refine wpAnyH_take (i := 1) (oi := ⟨some 4, .load 3 (.tmp 3), 3, "keep.go:27", #[⟨0, .data⟩], none⟩) (v := ?_) rfl (by kernel_rfl) (by kernel_rfl) (by kernel_rfl) (fun _ _ _ h => h) (Or.inl ⟨by rfl, fun W hSw => ?_⟩) hHeld ?_
  rotate_left
  ·(try dsimp only at hSw); go_simp; (try with_reducible rfl)
  (try simp only [Act.put, List.setIfInBounds_toArray, List.set_cons_zero, List.set_cons_succ])
  refine wpAnyH_take (i := 3) (oi := ⟨some 6, .fieldAddr 141 (.tmp 1) 1, 0, "keep.go:27", #[], none⟩) (v := ?_) rfl (by kernel_rfl) (by kernel_rfl) (by kernel_rfl) (fun _ _ _ h => h) (Or.inl ⟨by rfl, fun W hSw => ?_⟩) hHeld ?_
  rotate_left
  ·(try dsimp only at hSw); go_simp; (try with_reducible rfl)
  (try simp only [Act.put, List.setIfInBounds_toArray, List.set_cons_zero, List.set_cons_succ])
  refine wpAnyH_take (i := 4) (oi := ⟨some 7, .load 3 (.tmp 6), 3, "keep.go:27", #[⟨3, .data⟩], none⟩) (v := ?_) rfl (by kernel_rfl) (by kernel_rfl) (by kernel_rfl) (fun _ _ _ h => h) (Or.inl ⟨by rfl, fun W hSw => ?_⟩) hHeld ?_
  rotate_left
  ·(try dsimp only at hSw); go_simp; (try with_reducible rfl)
  (try simp only [Act.put, List.setIfInBounds_toArray, List.set_cons_zero, List.set_cons_succ])
  refine wpAnyH_take (i := 5) (oi := ⟨some 8, .binOp .sub 3 (.tmp 7) (.const (.int .i64 1)) 3, 3, "keep.go:27", #[⟨4, .data⟩], none⟩) (v := ?_) rfl (by kernel_rfl) (by kernel_rfl) (by kernel_rfl) (fun _ _ _ h => h) (Or.inl ⟨by rfl, fun W hSw => ?_⟩) hHeld ?_
  rotate_left
  ·(try dsimp only at hSw); go_simp; (try with_reducible rfl)
  (try simp only [Act.put, List.setIfInBounds_toArray, List.set_cons_zero, List.set_cons_succ])
  refine wpAnyH_ready (rs := [2]) (by kernel_rfl) (by simp) ?_
  refine AllReadyH.cons (o := ⟨some 5, .call { callee := .value (.func 89), args := #[.const (.bool true)], argTypes := #[4] }, 22, "keep.go:27", #[], none⟩) rfl (fun K hK => ?_) AllReadyH.nil
  go_simp
  refine (months_any _ _).mono ?_
  rintro e' w2 ⟨gm, rfl, hrm, hb⟩
  have hrow := hrm.row (m.toNat - 1) (by omega)
  rw [mtab_at _ _ hm1 hm2] at hrow
  refine hK.out _ _ (kp_step hb hHeld) (fun hHeld => ?_)
  clear hK K
  (try simp only [Act.put, List.setIfInBounds_toArray, List.set_cons_zero, List.set_cons_succ])
  refine wpAnyH_mono (S' := fun W => ((∀ p : Addr, p.block < (w.alloc (.cells #[.int .i64 d, .int .i64 m] 141)).heap.size → W.cell? p = (w.alloc (.cells #[.int .i64 d, .int .i64 m] 141)).cell? p) ∧ Below (w.alloc (.cells #[.int .i64 d, .int .i64 m] 141)).heap.size (w.alloc (.cells #[.int .i64 d, .int .i64 m] 141)) W) ∧ W.cell? ⟨gm, m.toNat - 1, none⟩ = some (.int .i64 (mlen true m))) (fun _ h => h.1) _ _ _ _ ?_
  replace hHeld := And.intro hHeld hrow
  refine wpAnyH_take (i := 6) (oi := ⟨some 9, .indexAddr 22 (.tmp 5) (.tmp 8), 0, "keep.go:27", #[⟨2, .data⟩, ⟨5, .data⟩], none⟩) (v := ?_) rfl (by kernel_rfl) (by kernel_rfl) (by kernel_rfl) (fun _ _ _ h => h) (Or.inl ⟨by rfl, fun W hSw => ?_⟩) hHeld ?_
  rotate_left
  ·(try dsimp only at hSw); go_simp; (try with_reducible rfl)
  (try simp only [Act.put, List.setIfInBounds_toArray, List.set_cons_zero, List.set_cons_succ])
  refine wpAnyH_take (i := 7) (oi := ⟨some 10, .load 3 (.tmp 9), 3, "keep.go:27", #[⟨6, .data⟩], none⟩) (v := ?_) rfl (by kernel_rfl) (by kernel_rfl) (by kernel_rfl) (fun _ _ _ h => h) (Or.inl ⟨by rfl, fun W hSw => ?_⟩) hHeld ?_
  rotate_left
  ·(try dsimp only at hSw); go_simp; (try with_reducible rfl)
  (try simp only [Act.put, List.setIfInBounds_toArray, List.set_cons_zero, List.set_cons_succ])
  refine wpAnyH_take (i := 8) (oi := ⟨some 11, .binOp .lss 3 (.tmp 4) (.tmp 10) 3, 4, "keep.go:27", #[⟨1, .data⟩, ⟨7, .data⟩], none⟩) (v := ?_) rfl (by kernel_rfl) (by kernel_rfl) (by kernel_rfl) (fun _ _ _ h => h) (Or.inl ⟨by rfl, fun W hSw => ?_⟩) hHeld ?_
  rotate_left
  ·(try dsimp only at hSw); go_simp; (try with_reducible rfl)
  (try simp only [Act.put, List.setIfInBounds_toArray, List.set_cons_zero, List.set_cons_succ])
  refine wpAnyH_done (by kernel_rfl) ?_ _
  refine NoPanic.normal ?_
  have hB := (Blk.new w 141 #[.int .i64 d, .int .i64 m]).keep hHeld.1.2
  have hcB := fun j => hB.cell j
  clear hrow
  go_wp2
  go_ret
  exact ⟨rfl, fr_call (fr_alloc (fr_refl _) _) hHeld.1.2⟩

set_option maxRecDepth 100000 in
set_option maxHeartbeats 4000000 in
theorem leapsNext (d m y : Int) (w : World) (hd : 1 ≤ d ∧ d ≤ 31) (hm : 1 ≤ m ∧ m ≤ 12) (hy : 0 ≤ y ∧ y ≤ 100000) : Calls Tryz.prog 166 #[.agg #[.int .i64 d, .int .i64 m, .int .i64 y]] w fun e w' => e = .returned (leapsN d m y).val ∧ Below w.heap.size w w' := by
 obtain ⟨hd1, hd2⟩ := hd
 obtain ⟨hm1, hm2⟩ := hm
 obtain ⟨hy1, hy2⟩ := hy
 have hi1 : m - 1 < 12 := by omega
 have hi0 : 0 ≤ m - 1 := by omega
 have hwm : IntKind.i64.wrap (m - 1) = m - 1 := IntWalk.i64_in _ (by omega)
 have hwd : IntKind.i64.wrap (d + 1) = d + 1 := IntWalk.i64_in _ (by omega)
 have h1 : m.tmod 12 = m % 12 := Int.tmod_eq_emod_of_nonneg (by omega)
 have h2 : IntKind.i64.wrap (m % 12) = m % 12 := IntWalk.i64_in _ (by omega)
 have h3 : IntKind.i64.wrap (m % 12 + 1) = m % 12 + 1 := IntWalk.i64_in _ (by omega)
 have h4 : y.tmod 4 = y % 4 := Int.tmod_eq_emod_of_nonneg (by omega)
 have h5 : IntKind.i64.wrap (y % 4) = y % 4 := IntWalk.i64_in _ (by omega)
 have h6 : m.tdiv 12 = m / 12 := Int.tdiv_eq_ediv_of_nonneg (by omega)
 have h7 : IntKind.i64.wrap (m / 12) = m / 12 := IntWalk.i64_in _ (by omega)
 have h8 : IntKind.i64.wrap (y + m / 12) = y + m / 12 := IntWalk.i64_in _ (by omega)
 unfold leapsN
 cases hq : decide (y % 4 = 0)
 all_goals
  have hq' := hq
  simp only [decide_eq_true_eq, decide_eq_false_iff_not] at hq'
  clear hq
 ·have hq3 : (y % 4 == 0) = false := by simpa using hq'
  clear hq'
  by_cases hlt : d < mlen false m
  all_goals
   (first | rw [if_pos hlt] | rw [if_neg hlt])
   unfold Dial.val
   go_enter Tryz.func166, Tryz.ntmps166
   go_wp2_with fail
   refine wp_region_noPanic ?_
   refine wp_region_held_drew (S := fun W => (∀ p : Addr, p.block < (w.alloc (.cells #[.int .i64 d, .int .i64 m, .int .i64 y] 143)).heap.size → W.cell? p = (w.alloc (.cells #[.int .i64 d, .int .i64 m, .int .i64 y] 143)).cell? p) ∧ Below (w.alloc (.cells #[.int .i64 d, .int .i64 m, .int .i64 y] 143)).heap.size (w.alloc (.cells #[.int .i64 d, .int .i64 m, .int .i64 y] 143)) W) (by kernel_rfl) ⟨fun _ _ => rfl, fr_drew (fr_refl _)⟩ (fun hHeld => ?_)
   -- the region, step by step
   refine wpAnyH_take (i := 0) (oi := ⟨some 3, .fieldAddr 143 (.tmp 1) 0, 0, "keep.go:34", #[], none⟩) (v := ?_) rfl (by kernel_rfl) (by kernel_rfl) (by kernel_rfl) (fun _ _ _ h => h) (Or.inl ⟨by rfl, fun W hSw => ?_⟩) hHeld ?_
   rotate_left
   ·(try dsimp only at hSw); go_simp; (try with_reducible rfl)
   (try simp only [Act.put, List.setIfInBounds_toArray, List.set_cons_zero, List.set_cons_succ])
   refine wpAnyH_take (i := 1) (oi := ⟨some 4, .load 3 (.tmp 3), 3, "keep.go:34", #[⟨0, .data⟩], none⟩) (v := ?_) rfl (by kernel_rfl) (by kernel_rfl) (by kernel_rfl) (fun _ _ _ h => h) (Or.inl ⟨by rfl, fun W hSw => ?_⟩) hHeld ?_
   rotate_left
   ·(try dsimp only at hSw); go_simp; (try with_reducible rfl)
   (try simp only [Act.put, List.setIfInBounds_toArray, List.set_cons_zero, List.set_cons_succ])
   refine wpAnyH_take (i := 2) (oi := ⟨some 5, .fieldAddr 143 (.tmp 1) 2, 0, "keep.go:34", #[], none⟩) (v := ?_) rfl (by kernel_rfl) (by kernel_rfl) (by kernel_rfl) (fun _ _ _ h => h) (Or.inl ⟨by rfl, fun W hSw => ?_⟩) hHeld ?_
   rotate_left
   ·(try dsimp only at hSw); go_simp; (try with_reducible rfl)
   (try simp only [Act.put, List.setIfInBounds_toArray, List.set_cons_zero, List.set_cons_succ])
   refine wpAnyH_take (i := 3) (oi := ⟨some 6, .load 3 (.tmp 5), 3, "keep.go:34", #[⟨2, .data⟩], none⟩) (v := ?_) rfl (by kernel_rfl) (by kernel_rfl) (by kernel_rfl) (fun _ _ _ h => h) (Or.inl ⟨by rfl, fun W hSw => ?_⟩) hHeld ?_
   rotate_left
   ·(try dsimp only at hSw); go_simp; (try with_reducible rfl)
   (try simp only [Act.put, List.setIfInBounds_toArray, List.set_cons_zero, List.set_cons_succ])
   refine wpAnyH_take (i := 4) (oi := ⟨some 7, .binOp .rem 3 (.tmp 6) (.const (.int .i64 4)) 3, 3, "keep.go:34", #[⟨3, .data⟩], none⟩) (v := ?_) rfl (by kernel_rfl) (by kernel_rfl) (by kernel_rfl) (fun _ _ _ h => h) (Or.inl ⟨by rfl, fun W hSw => ?_⟩) hHeld ?_
   rotate_left
   ·(try dsimp only at hSw); go_simp; (try with_reducible rfl)
   (try simp only [Act.put, List.setIfInBounds_toArray, List.set_cons_zero, List.set_cons_succ])
   refine wpAnyH_take (i := 5) (oi := ⟨some 8, .binOp .eql 3 (.tmp 7) (.const (.int .i64 0)) 3, 4, "keep.go:34", #[⟨4, .data⟩], none⟩) (v := ?_) rfl (by kernel_rfl) (by kernel_rfl) (by kernel_rfl) (fun _ _ _ h => h) (Or.inl ⟨by rfl, fun W hSw => ?_⟩) hHeld ?_
   rotate_left
   ·(try dsimp only at hSw); go_simp; (try with_reducible rfl)
   (try simp only [Act.put, List.setIfInBounds_toArray, List.set_cons_zero, List.set_cons_succ])
   refine wpAnyH_take (i := 7) (oi := ⟨some 10, .fieldAddr 143 (.tmp 1) 1, 0, "keep.go:34", #[], none⟩) (v := ?_) rfl (by kernel_rfl) (by kernel_rfl) (by kernel_rfl) (fun _ _ _ h => h) (Or.inl ⟨by rfl, fun W hSw => ?_⟩) hHeld ?_
   rotate_left
   ·(try dsimp only at hSw); go_simp; (try with_reducible rfl)
   (try simp only [Act.put, List.setIfInBounds_toArray, List.set_cons_zero, List.set_cons_succ])
   refine wpAnyH_take (i := 8) (oi := ⟨some 11, .load 3 (.tmp 10), 3, "keep.go:34", #[⟨7, .data⟩], none⟩) (v := ?_) rfl (by kernel_rfl) (by kernel_rfl) (by kernel_rfl) (fun _ _ _ h => h) (Or.inl ⟨by rfl, fun W hSw => ?_⟩) hHeld ?_
   rotate_left
   ·(try dsimp only at hSw); go_simp; (try with_reducible rfl)
   (try simp only [Act.put, List.setIfInBounds_toArray, List.set_cons_zero, List.set_cons_succ])
   refine wpAnyH_take (i := 9) (oi := ⟨some 12, .binOp .sub 3 (.tmp 11) (.const (.int .i64 1)) 3, 3, "keep.go:34", #[⟨8, .data⟩], none⟩) (v := ?_) rfl (by kernel_rfl) (by kernel_rfl) (by kernel_rfl) (fun _ _ _ h => h) (Or.inl ⟨by rfl, fun W hSw => ?_⟩) hHeld ?_
   rotate_left
   ·(try dsimp only at hSw); go_simp; (try with_reducible rfl)
   (try simp only [Act.put, List.setIfInBounds_toArray, List.set_cons_zero, List.set_cons_succ])
   refine wpAnyH_ready (rs := [6]) (by kernel_rfl) (by simp) ?_
   refine AllReadyH.cons (o := ⟨some 9, .call { callee := .value (.func 89), args := #[.tmp 8], argTypes := #[4] }, 22, "keep.go:34", #[⟨5, .data⟩], none⟩) rfl (fun K hK => ?_) AllReadyH.nil
   go_simp
   refine (months_any _ _).mono ?_
   rintro e' w2 ⟨gm, rfl, hrm, hb⟩
   have hrow := hrm.row (m.toNat - 1) (by omega)
   rw [mtab_at _ _ hm1 hm2] at hrow
   refine hK.out _ _ (kp_step hb hHeld) (fun hHeld => ?_)
   clear hK K
   (try simp only [Act.put, List.setIfInBounds_toArray, List.set_cons_zero, List.set_cons_succ])
   refine wpAnyH_mono (S' := fun W => ((∀ p : Addr, p.block < (w.alloc (.cells #[.int .i64 d, .int .i64 m, .int .i64 y] 143)).heap.size → W.cell? p = (w.alloc (.cells #[.int .i64 d, .int .i64 m, .int .i64 y] 143)).cell? p) ∧ Below (w.alloc (.cells #[.int .i64 d, .int .i64 m, .int .i64 y] 143)).heap.size (w.alloc (.cells #[.int .i64 d, .int .i64 m, .int .i64 y] 143)) W) ∧ W.cell? ⟨gm, m.toNat - 1, none⟩ = some (.int .i64 (mlen false m))) (fun _ h => h.1) _ _ _ _ ?_
   replace hHeld := And.intro hHeld hrow
   refine wpAnyH_take (i := 10) (oi := ⟨some 13, .indexAddr 22 (.tmp 9) (.tmp 12), 0, "keep.go:34", #[⟨6, .data⟩, ⟨9, .data⟩], none⟩) (v := ?_) rfl (by kernel_rfl) (by kernel_rfl) (by kernel_rfl) (fun _ _ _ h => h) (Or.inl ⟨by rfl, fun W hSw => ?_⟩) hHeld ?_
   rotate_left
   ·(try dsimp only at hSw); go_simp; (try with_reducible rfl)
   (try simp only [Act.put, List.setIfInBounds_toArray, List.set_cons_zero, List.set_cons_succ])
   refine wpAnyH_take (i := 11) (oi := ⟨some 14, .load 3 (.tmp 13), 3, "keep.go:34", #[⟨10, .data⟩], none⟩) (v := ?_) rfl (by kernel_rfl) (by kernel_rfl) (by kernel_rfl) (fun _ _ _ h => h) (Or.inl ⟨by rfl, fun W hSw => ?_⟩) hHeld ?_
   rotate_left
   ·(try dsimp only at hSw); go_simp; (try with_reducible rfl)
   (try simp only [Act.put, List.setIfInBounds_toArray, List.set_cons_zero, List.set_cons_succ])
   refine wpAnyH_take (i := 12) (oi := ⟨some 15, .binOp .lss 3 (.tmp 4) (.tmp 14) 3, 4, "keep.go:34", #[⟨1, .data⟩, ⟨11, .data⟩], none⟩) (v := ?_) rfl (by kernel_rfl) (by kernel_rfl) (by kernel_rfl) (fun _ _ _ h => h) (Or.inl ⟨by rfl, fun W hSw => ?_⟩) hHeld ?_
   rotate_left
   ·(try dsimp only at hSw); go_simp; (try with_reducible rfl)
   (try simp only [Act.put, List.setIfInBounds_toArray, List.set_cons_zero, List.set_cons_succ])
   refine wpAnyH_done (by kernel_rfl) ?_ _
   refine NoPanic.normal ?_
   have hB := (Blk.new w 143 #[.int .i64 d, .int .i64 m, .int .i64 y]).keep hHeld.1.2
   have hcB := fun j => hB.cell j
   clear hrow
   go_wp2
   go_ret
   exact ⟨rfl, fr_call (fr_alloc (fr_refl _) _) hHeld.1.2⟩
 ·have hq3 : (y % 4 == 0) = true := by simpa using hq'
  clear hq'
  by_cases hlt : d < mlen true m
  all_goals
   (first | rw [if_pos hlt] | rw [if_neg hlt])
   unfold Dial.val
   go_enter Tryz.func166, Tryz.ntmps166
   go_wp2_with fail
   refine wp_region_noPanic ?_
   refine wp_region_held_drew (S := fun W => (∀ p : Addr, p.block < (w.alloc (.cells #[.int .i64 d, .int .i64 m, .int .i64 y] 143)).heap.size → W.cell? p = (w.alloc (.cells #[.int .i64 d, .int .i64 m, .int .i64 y] 143)).cell? p) ∧ Below (w.alloc (.cells #[.int .i64 d, .int .i64 m, .int .i64 y] 143)).heap.size (w.alloc (.cells #[.int .i64 d, .int .i64 m, .int .i64 y] 143)) W) (by kernel_rfl) ⟨fun _ _ => rfl, fr_drew (fr_refl _)⟩ (fun hHeld => ?_)
   -- the region, step by step
   refine wpAnyH_take (i := 0) (oi := ⟨some 3, .fieldAddr 143 (.tmp 1) 0, 0, "keep.go:34", #[], none⟩) (v := ?_) rfl (by kernel_rfl) (by kernel_rfl) (by kernel_rfl) (fun _ _ _ h => h) (Or.inl ⟨by rfl, fun W hSw => ?_⟩) hHeld ?_
   rotate_left
   ·(try dsimp only at hSw); go_simp; (try with_reducible rfl)
   (try simp only [Act.put, List.setIfInBounds_toArray, List.set_cons_zero, List.set_cons_succ])
   refine wpAnyH_take (i := 1) (oi := ⟨some 4, .load 3 (.tmp 3), 3, "keep.go:34", #[⟨0, .data⟩], none⟩) (v := ?_) rfl (by kernel_rfl) (by kernel_rfl) (by kernel_rfl) (fun _ _ _ h => h) (Or.inl ⟨by rfl, fun W hSw => ?_⟩) hHeld ?_
   rotate_left
   ·(try dsimp only at hSw); go_simp; (try with_reducible rfl)
   (try simp only [Act.put, List.setIfInBounds_toArray, List.set_cons_zero, List.set_cons_succ])
   refine wpAnyH_take (i := 2) (oi := ⟨some 5, .fieldAddr 143 (.tmp 1) 2, 0, "keep.go:34", #[], none⟩) (v := ?_) rfl (by kernel_rfl) (by kernel_rfl) (by kernel_rfl) (fun _ _ _ h => h) (Or.inl ⟨by rfl, fun W hSw => ?_⟩) hHeld ?_
   rotate_left
   ·(try dsimp only at hSw); go_simp; (try with_reducible rfl)
   (try simp only [Act.put, List.setIfInBounds_toArray, List.set_cons_zero, List.set_cons_succ])
   refine wpAnyH_take (i := 3) (oi := ⟨some 6, .load 3 (.tmp 5), 3, "keep.go:34", #[⟨2, .data⟩], none⟩) (v := ?_) rfl (by kernel_rfl) (by kernel_rfl) (by kernel_rfl) (fun _ _ _ h => h) (Or.inl ⟨by rfl, fun W hSw => ?_⟩) hHeld ?_
   rotate_left
   ·(try dsimp only at hSw); go_simp; (try with_reducible rfl)
   (try simp only [Act.put, List.setIfInBounds_toArray, List.set_cons_zero, List.set_cons_succ])
   refine wpAnyH_take (i := 4) (oi := ⟨some 7, .binOp .rem 3 (.tmp 6) (.const (.int .i64 4)) 3, 3, "keep.go:34", #[⟨3, .data⟩], none⟩) (v := ?_) rfl (by kernel_rfl) (by kernel_rfl) (by kernel_rfl) (fun _ _ _ h => h) (Or.inl ⟨by rfl, fun W hSw => ?_⟩) hHeld ?_
   rotate_left
   ·(try dsimp only at hSw); go_simp; (try with_reducible rfl)
   (try simp only [Act.put, List.setIfInBounds_toArray, List.set_cons_zero, List.set_cons_succ])
   refine wpAnyH_take (i := 5) (oi := ⟨some 8, .binOp .eql 3 (.tmp 7) (.const (.int .i64 0)) 3, 4, "keep.go:34", #[⟨4, .data⟩], none⟩) (v := ?_) rfl (by kernel_rfl) (by kernel_rfl) (by kernel_rfl) (fun _ _ _ h => h) (Or.inl ⟨by rfl, fun W hSw => ?_⟩) hHeld ?_
   rotate_left
   ·(try dsimp only at hSw); go_simp; (try with_reducible rfl)
   (try simp only [Act.put, List.setIfInBounds_toArray, List.set_cons_zero, List.set_cons_succ])
   refine wpAnyH_take (i := 7) (oi := ⟨some 10, .fieldAddr 143 (.tmp 1) 1, 0, "keep.go:34", #[], none⟩) (v := ?_) rfl (by kernel_rfl) (by kernel_rfl) (by kernel_rfl) (fun _ _ _ h => h) (Or.inl ⟨by rfl, fun W hSw => ?_⟩) hHeld ?_
   rotate_left
   ·(try dsimp only at hSw); go_simp; (try with_reducible rfl)
   (try simp only [Act.put, List.setIfInBounds_toArray, List.set_cons_zero, List.set_cons_succ])
   refine wpAnyH_take (i := 8) (oi := ⟨some 11, .load 3 (.tmp 10), 3, "keep.go:34", #[⟨7, .data⟩], none⟩) (v := ?_) rfl (by kernel_rfl) (by kernel_rfl) (by kernel_rfl) (fun _ _ _ h => h) (Or.inl ⟨by rfl, fun W hSw => ?_⟩) hHeld ?_
   rotate_left
   ·(try dsimp only at hSw); go_simp; (try with_reducible rfl)
   (try simp only [Act.put, List.setIfInBounds_toArray, List.set_cons_zero, List.set_cons_succ])
   refine wpAnyH_take (i := 9) (oi := ⟨some 12, .binOp .sub 3 (.tmp 11) (.const (.int .i64 1)) 3, 3, "keep.go:34", #[⟨8, .data⟩], none⟩) (v := ?_) rfl (by kernel_rfl) (by kernel_rfl) (by kernel_rfl) (fun _ _ _ h => h) (Or.inl ⟨by rfl, fun W hSw => ?_⟩) hHeld ?_
   rotate_left
   ·(try dsimp only at hSw); go_simp; (try with_reducible rfl)
   (try simp only [Act.put, List.setIfInBounds_toArray, List.set_cons_zero, List.set_cons_succ])
   refine wpAnyH_ready (rs := [6]) (by kernel_rfl) (by simp) ?_
   refine AllReadyH.cons (o := ⟨some 9, .call { callee := .value (.func 89), args := #[.tmp 8], argTypes := #[4] }, 22, "keep.go:34", #[⟨5, .data⟩], none⟩) rfl (fun K hK => ?_) AllReadyH.nil
   go_simp
   refine (months_any _ _).mono ?_
   rintro e' w2 ⟨gm, rfl, hrm, hb⟩
   have hrow := hrm.row (m.toNat - 1) (by omega)
   rw [mtab_at _ _ hm1 hm2] at hrow
   refine hK.out _ _ (kp_step hb hHeld) (fun hHeld => ?_)
   clear hK K
   (try simp only [Act.put, List.setIfInBounds_toArray, List.set_cons_zero, List.set_cons_succ])
   refine wpAnyH_mono (S' := fun W => ((∀ p : Addr, p.block < (w.alloc (.cells #[.int .i64 d, .int .i64 m, .int .i64 y] 143)).heap.size → W.cell? p = (w.alloc (.cells #[.int .i64 d, .int .i64 m, .int .i64 y] 143)).cell? p) ∧ Below (w.alloc (.cells #[.int .i64 d, .int .i64 m, .int .i64 y] 143)).heap.size (w.alloc (.cells #[.int .i64 d, .int .i64 m, .int .i64 y] 143)) W) ∧ W.cell? ⟨gm, m.toNat - 1, none⟩ = some (.int .i64 (mlen true m))) (fun _ h => h.1) _ _ _ _ ?_
   replace hHeld := And.intro hHeld hrow
   refine wpAnyH_take (i := 10) (oi := ⟨some 13, .indexAddr 22 (.tmp 9) (.tmp 12), 0, "keep.go:34", #[⟨6, .data⟩, ⟨9, .data⟩], none⟩) (v := ?_) rfl (by kernel_rfl) (by kernel_rfl) (by kernel_rfl) (fun _ _ _ h => h) (Or.inl ⟨by rfl, fun W hSw => ?_⟩) hHeld ?_
   rotate_left
   ·(try dsimp only at hSw); go_simp; (try with_reducible rfl)
   (try simp only [Act.put, List.setIfInBounds_toArray, List.set_cons_zero, List.set_cons_succ])
   refine wpAnyH_take (i := 11) (oi := ⟨some 14, .load 3 (.tmp 13), 3, "keep.go:34", #[⟨10, .data⟩], none⟩) (v := ?_) rfl (by kernel_rfl) (by kernel_rfl) (by kernel_rfl) (fun _ _ _ h => h) (Or.inl ⟨by rfl, fun W hSw => ?_⟩) hHeld ?_
   rotate_left
   ·(try dsimp only at hSw); go_simp; (try with_reducible rfl)
   (try simp only [Act.put, List.setIfInBounds_toArray, List.set_cons_zero, List.set_cons_succ])
   refine wpAnyH_take (i := 12) (oi := ⟨some 15, .binOp .lss 3 (.tmp 4) (.tmp 14) 3, 4, "keep.go:34", #[⟨1, .data⟩, ⟨11, .data⟩], none⟩) (v := ?_) rfl (by kernel_rfl) (by kernel_rfl) (by kernel_rfl) (fun _ _ _ h => h) (Or.inl ⟨by rfl, fun W hSw => ?_⟩) hHeld ?_
   rotate_left
   ·(try dsimp only at hSw); go_simp; (try with_reducible rfl)
   (try simp only [Act.put, List.setIfInBounds_toArray, List.set_cons_zero, List.set_cons_succ])
   refine wpAnyH_done (by kernel_rfl) ?_ _
   refine NoPanic.normal ?_
   have hB := (Blk.new w 143 #[.int .i64 d, .int .i64 m, .int .i64 y]).keep hHeld.1.2
   have hcB := fun j => hB.cell j
   clear hrow
   go_wp2
   go_ret
   exact ⟨rfl, fr_call (fr_alloc (fr_refl _) _) hHeld.1.2⟩
end Go.Proofs.YthjblcboainknaaGreatDoor
end

section
namespace Go.Proofs.YthjblcboainknaaGreatDoor
open Go.RowKit Dl

/-- W is w with new blocks, and writes to the blocks of S alone -/
structure Exc (S : Nat → Prop) (w W : World) : Prop where
 os : W.os = w.os
 tape : W.tape = w.tape
 output : W.output = w.output
 size : w.heap.size ≤ W.heap.size
 block : ∀ k, k < w.heap.size → ¬ S k → W.heap[k]? = w.heap[k]?
section
variable {S : Nat → Prop} {w W W' : World}
theorem Exc.refl (S : Nat → Prop) (w : World) : Exc S w w := ⟨rfl, rfl, rfl, Nat.le_refl _, fun _ _ _ => rfl⟩
theorem Exc.below (h : Exc S w W) (hb : Below W.heap.size W W') : Exc S w W' :=
 ⟨hb.os.trans h.os, hb.tape.trans h.tape, hb.output.trans h.output, Nat.le_trans h.size hb.size, fun k hk hn => (hb.block k (Nat.lt_of_lt_of_le hk h.size)).trans (h.block k hk hn)⟩
theorem Exc.grown {r : Option Nat} (h : Exc S w W) (hg : W.grownBy W' r) (hr : ∀ k, r = some k → S k ∨ w.heap.size ≤ k) : Exc S w W' :=
 ⟨hg.os.trans h.os, hg.tape.trans h.tape, hg.output.trans h.output, Nat.le_trans h.size hg.size, fun k hk hn => (hg.block k (Nat.lt_of_lt_of_le hk h.size) (by
  intro e
  rcases hr k e.symm with h1 | h1
  ·exact hn h1
  ·omega)).trans (h.block k hk hn)⟩
theorem grown_set (W : World) (p : Addr) (u : Value) : W.grownBy (W.setCell p u) (some p.block) :=
 ⟨rfl, rfl, rfl, by simp, fun k _ hne => Below.heap_setCell _ _ _ _ (fun e => hne (by rw [e]))⟩
theorem Exc.set (h : Exc S w W) {p : Addr} (hp : S p.block ∨ w.heap.size ≤ p.block) (u : Value) : Exc S w (W.setCell p u) :=
 h.grown (grown_set W p u) (fun k e => by cases e; exact hp)
theorem Exc.alloc (h : Exc S w W) (o : Obj) : Exc S w (W.alloc o) := h.below (fr_alloc (fr_refl W) o)
theorem Exc.put (h : Exc S w W) {l : Nat} (o : Obj) (hl : S l ∨ w.heap.size ≤ l) : Exc S w (W.putObj l o) :=
 h.grown (grownBy_putObj' W l o) (fun k e => by cases e; exact hl)
theorem Exc.blk {g : Nat} {t : TypeId} {cs : Array Value} (h : Exc S w W) (hB : Blk w g t cs) (hg : ¬ S g) : Blk W g t cs := (h.block g hB.lt hg).trans hB
theorem Exc.cell {p : Addr} (h : Exc S w W) (hp : p.block < w.heap.size) (hg : ¬ S p.block) : W.cell? p = w.cell? p := World.cell?_of_block (h.block _ hp hg)
theorem Exc.rd {A : Option Addr} {n : Nat} {xs : List Int} (h : Exc S w W) (hr : Rd w A n xs) (hA : ∀ ad, A = some ad → ¬ S ad.block) : Rd W A n xs :=
 ⟨hr.1, fun hn => by
  obtain ⟨ad, e, hlt, hc⟩ := hr.2 hn
  exact ⟨ad, e, Nat.lt_of_lt_of_le hlt h.size, fun j hj => (h.cell (by rw [block_of_add]; exact hlt) (by rw [block_of_add]; exact hA ad e)).trans (hc j hj)⟩⟩
theorem Exc.toBelow {N : Nat} {w0 : World} (h : Exc S w W) (hb : Below N w0 w) (hS : ∀ k, S k → N ≤ k) (hN : N ≤ w.heap.size) : Below N w0 W :=
 ⟨h.os.trans hb.os, h.tape.trans hb.tape, h.output.trans hb.output, Nat.le_trans hb.size h.size, fun k hk => (h.block k (Nat.lt_of_lt_of_le hk hN) (fun hs => by have := hS k hs; omega)).trans (hb.block k hk)⟩
theorem Exc.mono {S' : Nat → Prop} (h : Exc S w W) (hS : ∀ k, S k → S' k) : Exc S' w W := ⟨h.os, h.tape, h.output, h.size, fun k hk hn => h.block k hk (fun hs => hn (hS k hs))⟩
theorem Exc.trans_ {S' : Nat → Prop} (h : Exc S w W) (k : Exc S' W W') (hS : ∀ i, S' i → S i ∨ w.heap.size ≤ i) : Exc S w W' :=
 ⟨k.os.trans h.os, k.tape.trans h.tape, k.output.trans h.output, Nat.le_trans h.size k.size, fun i hi hn => (k.block i (Nat.lt_of_lt_of_le hi h.size) (fun hs => by
  rcases hS i hs with h1 | h1
  ·exact hn h1
  ·omega)).trans (h.block i hi hn)⟩
end
/-- a row of at least two cells is no block of one cell -/
theorem rd_ne_one {w : World} {A : Option Addr} {n g : Nat} {xs : List Int} {t : TypeId} {v : Value} (hr : Rd w A n xs) (hn : 2 ≤ n) (hB : Blk w g t #[v]) : ∀ ad, A = some ad → ad.block ≠ g := by
 rintro ad rfl rfl
 obtain ⟨ad', e, _, hc⟩ := hr.2 (by omega)
 cases e
 have h0 := hc 0 (by omega)
 have h1 := hc 1 (by omega)
 obtain ⟨b, o, p⟩ := ad
 unfold Blk at hB
 unfold World.cell? at h0 h1
 simp only [block_of_add, hB] at h0 h1
 simp only [Addr.add] at h0 h1
 by_cases ho : o = 0 <;> simp_all
theorem heap_keep_other {W W' : World} {l : Nat} {o : Obj} (h : W.heap[l]? = some o) (ho : o.isCells = false) (hk : KeepsOthers W W') : W'.heap[l]? = some o := hk.same l o h ho
theorem keeps_below {W W' : World} (hb : Below W.heap.size W W') : KeepsOthers W W' := ⟨hb.size, fun k _ hk _ => (hb.block k (Array.getElem?_eq_some_iff.1 hk).1).trans hk⟩

section
variable {F : Fence} {n : Nat} {P : Program}
/-- a load of a whole struct, in a fence -/
theorem wpListIn_load_blk {ops : Array Oper} {rest : List Oper} {o : Oper} {a : Act} {w : World} {Q : Exit → Act → World → Prop} (hgd : o.guard = none) (ty : TypeId) (x : Operand) (ho : o.op = .load ty x)
  (g : Nat) (hx : a.eval x = .pointer (some ⟨g, 0, none⟩)) (t : TypeId) (cs : Array Value) (hB : Blk w g t cs) {d : TypeDesc} (hu : P.underlying ty = some d) (hd : (match d with | .struct _ | .array _ _ => true | _ => false) = true) (hi : (P.info? ty).map (·.size) = some cs.size)
  (h : wpListIn F n P ops Q rest (a.put o.dst (.agg cs)) w) : wpListIn F n P ops Q (o :: rest) a w := by
 refine wpListIn_plain hgd fun K hK' => ?_
 unfold Oper.wpIn
 refine ⟨?_, ?_⟩
 ·simp [Oper.about, ho]
 ·rw [Oper.semAt_plain F _ _ (by rw [ho]; intro c hc'; cases hc')]
  unfold execOp
  simp only [ho, hx, Instr.loadAt, Instr.sureAddr, Sem.run_bind, Sem.run_pure, Result.andThen_ok, run_loadVar_row w g t ty cs (0, 0) d hB hu hd hi]
  exact hK' _ _ h
end

def Dial.next : Dial → Dial
 | .plain d => .plain (d % 31 + 1)
 | .annual d m => annualN d m
 | .leaps d m y => leapsN d m y
def Dial.set : Dial → Date → Dial
 | .plain _, x => .plain x.d
 | .annual _ _, x => .annual x.d x.m
 | .leaps _ _ _, x => .leaps x.d x.m x.y
/-- what a dial may show after k days -/
def Dial.good (k : Int) : Dial → Prop
 | .plain d => 1 ≤ d ∧ d ≤ 31
 | .annual d m => (1 ≤ d ∧ d ≤ 31) ∧ 1 ≤ m ∧ m ≤ 12
 | .leaps d m y => (1 ≤ d ∧ d ≤ 31) ∧ (1 ≤ m ∧ m ≤ 12) ∧ 0 ≤ y ∧ y ≤ k
theorem good_next {x : Dial} {k : Int} (h : x.good k) : x.next.good (k + 1) := by
 cases x with
 | plain d => obtain ⟨h1, h2⟩ := h; exact ⟨by omega, by omega⟩
 | annual d m =>
  obtain ⟨⟨h1, h2⟩, h3, h4⟩ := h
  have := mlen_pos true m
  show Dial.good (k + 1) (annualN d m)
  unfold annualN
  by_cases hlt : d < mlen true m
  ·rw [if_pos hlt]; exact ⟨⟨by omega, by omega⟩, h3, h4⟩
  ·rw [if_neg hlt]; exact ⟨⟨by omega, by omega⟩, by omega, by omega⟩
 | leaps d m y =>
  obtain ⟨⟨h1, h2⟩, ⟨h3, h4⟩, h5, h6⟩ := h
  have := mlen_pos (decide (y % 4 = 0)) m
  show Dial.good (k + 1) (leapsN d m y)
  unfold leapsN
  by_cases hlt : d < mlen (decide (y % 4 = 0)) m
  ·rw [if_pos hlt]; exact ⟨⟨by omega, by omega⟩, ⟨h3, h4⟩, by omega, by omega⟩
  ·rw [if_neg hlt]; exact ⟨⟨by omega, by omega⟩, ⟨by omega, by omega⟩, by omega, by omega⟩
theorem good_set {x : Dial} {k : Int} {t : Date} {cs : List Int} (h : real cs t) (hk : 4000 ≤ k) : (x.set t).good k := by
 obtain ⟨h1, h2, h3, h4, h5, h6⟩ := h
 have := mlen_pos (leapB cs t.y) t.m
 cases x
 ·exact ⟨by omega, by omega⟩
 ·exact ⟨⟨by omega, by omega⟩, by omega, by omega⟩
 ·exact ⟨⟨by omega, by omega⟩, ⟨by omega, by omega⟩, by omega, by omega⟩
theorem good_mono {x : Dial} {k k' : Int} (h : x.good k) (hk : k ≤ k') : x.good k' := by
 cases x
 ·exact h
 ·exact h
 ·exact ⟨h.1, h.2.1, h.2.2.1, by have := h.2.2.2; omega⟩
end Go.Proofs.YthjblcboainknaaGreatDoor
end

section
namespace Go.Proofs.YthjblcboainknaaGreatDoor
open Go.RowKit Go.Shelf Dl
attribute [local go_sem] Oper.semAt_some

theorem firstBad (f : Nat → Option Date) (N : Nat) : (∀ k, k < N → f k ≠ none) ∨ ∃ k, k < N ∧ f k = none ∧ ∀ j, j < k → f j ≠ none := by
 induction N with
 | zero => exact Or.inl (fun k h => absurd h (by omega))
 | succ N ih =>
  rcases ih with h | ⟨k, h1, h2, h3⟩
  ·cases hN : f N
   ·exact Or.inr ⟨N, by omega, hN, h⟩
   ·refine Or.inl (fun k hk => ?_)
    by_cases e : k = N
    ·subst e; rw [hN]; simp
    ·exact h k (by omega)
  ·exact Or.inr ⟨k, by omega, h2, h3⟩

def DaysPost (on : Int → Option Date) (fr : Int) (N : Nat) (J : Nat → World → Prop) (e : Ending) (W' : World) : Prop :=
 (∃ v, e = .returned v ∧ J N W' ∧ ∀ k : Nat, k < N → on (fr + k) ≠ none) ∨ (∃ k : Nat, k < N ∧ on (fr + k) = none ∧ e = .panicked (awayV (fr + k)) ∧ J k W' ∧ ∀ j : Nat, j < k → on (fr + j) ≠ none)

set_option maxRecDepth 100000 in
set_option maxHeartbeats 4000000 in
theorem days1_in (m l bf bt br : Nat) (A1 A2 F1 F2 : Option Addr) (n1 k1 n2 k2 f1 f2 M1 M2 : Nat) (c1 c2 : List Int) (e1 e2 last fr tz : Int) (h1 : calOk e1 c1 = true) (h2 : calOk e2 c2 = true) (J : Nat → World → Prop) (N : Nat) (hN : fr + N = tz + 1) (hf0 : 0 ≤ fr) (ht0 : tz ≤ 2000000)
  (hJk : ∀ k W W', J k W → Below W.heap.size W W' → J k W')
  (hJc : ∀ k W, J k W → (W.cell? ⟨bf, 0, none⟩ = some (.int .i64 fr) ∧ W.cell? ⟨bt, 0, none⟩ = some (.int .i64 tz)) ∧
   Blk W br 96 #[.int .i64 e1, .slice A1 n1 k1, .int .i64 e2, .slice A2 n2 k2, .int .i64 last, .int .i64 e1, .slice A1 n1 k1, .int .i64 0, .int .i64 0, .int .i64 0, .slice F1 4002 f1, .map (some M1), .int .i64 e2, .slice A2 n2 k2, .int .i64 0, .int .i64 0, .int .i64 0, .slice F2 4002 f2, .map (some M2)] ∧
   (Rd W A1 n1 c1 ∧ Rd W A2 n2 c2) ∧ (Rd W F1 4002 (firsts e1 c1) ∧ Rd W F2 4002 (firsts e2 c2)))
  (hY : ∀ k x W, J k W → k < N → onOf e1 c1 e2 c2 last (fr + k) = some x → YieldAt Fence.wide m Tryz.prog l #[.int .i64 (fr + k), .agg #[.int .i64 x.y, .int .i64 x.m, .int .i64 x.d]] W fun e W' => e = .returned (.bool true) ∧ J (k + 1) W')
  (W : World) (h0 : J 0 W) :
  CallsIn Fence.wide (m + 1) Tryz.prog 93 #[.func (.yield l) #[] #[], .pointer (some ⟨bf, 0, none⟩), .pointer (some ⟨bt, 0, none⟩), .pointer (some ⟨br, 0, none⟩)] W (DaysPost (onOf e1 c1 e2 c2 last) fr N J) := by
 refine callsIn_of_wp Tryz.func93 rfl trivial ?_ rfl
 simp only [Tryz.ntmps93, List.size_toArray, List.length_cons, List.length_nil, Nat.reduceAdd, Nat.reduceSub, Array.replicate_succ, Array.replicate_zero, List.push_toArray, List.append_toArray, List.nil_append, List.cons_append]
 have hc0 := (hJc 0 W h0).1.1
 gi_wp2
 gi_loopw [5] (fun p wr => ∃ k : Nat, k ≤ N ∧ p = .int .i64 (fr + k) ∧ J k wr ∧ ∀ j : Nat, j < k → onOf e1 c1 e2 c2 last (fr + j) ≠ none) (fun p wr => (tz + 1 - intOf p).toNat)
 case atStart => exact ⟨0, Nat.zero_le _, by simp, h0, fun j hj => absurd hj (by omega)⟩
 case round =>
  obtain ⟨k, hk, rfl, hJ, hno⟩ := hrel
  obtain ⟨⟨hcf, hct⟩, hBr, ⟨hr1, hr2⟩, hF1, hF2⟩ := hJc k wr hJ
  by_cases hlt : k < N
  ·have hle : fr + (k : Int) ≤ tz := by omega
   gi_wp2_with (refine wpListIn_load_blk rfl _ _ rfl br rfl _ _ hBr Tryz.underlying96 rfl (by kernel_rfl) ?_)
   cases hx : onOf e1 c1 e2 c2 last (fr + k) with
   | none =>
    refine ⟨trivial, ?_⟩
    refine CallsIn.mono (callsIn_wide.2 (on_none A1 A2 F1 F2 n1 k1 n2 k2 f1 f2 M1 M2 c1 c2 e1 e2 last (fr + k) wr hr1 hr2 h1 h2 hF1 hF2 hx)) ?_
    rintro e w1 ⟨rfl, hb1⟩
    gi_wp2
    exact ⟨rfl, Or.inr ⟨k, hlt, hx, rfl, hJk k wr w1 hJ hb1, hno⟩⟩
   | some x =>
    refine ⟨trivial, ?_⟩
    refine CallsIn.mono (callsIn_wide.2 (on_some A1 A2 F1 F2 n1 k1 n2 k2 f1 f2 M1 M2 c1 c2 e1 e2 last (fr + k) wr hr1 hr2 h1 h2 hF1 hF2 x hx)) ?_
    rintro e w1 ⟨rfl, hb1⟩
    have hJ1 := hJk k wr w1 hJ hb1
    obtain ⟨fn, tmps, assign, body, hy, hR⟩ := hY k x w1 hJ1 hlt hx
    gi_wp2
    refine hR.mono ?_
    rintro e W3 ⟨rfl, hJ3⟩
    gi_wp2
    go_roundw
    case rel => exact ⟨k + 1, hlt, by go_num, hJ3, fun j hj => by
     by_cases e : j = k
     ·subst e; rw [hx]; simp
     ·exact hno j (by omega)⟩
    case measure => simp [intOf]; omega
  ·have hle : ¬ fr + (k : Int) ≤ tz := by omega
   obtain rfl : k = N := by omega
   gi_wp2
   go_end0
   exact Or.inl ⟨_, rfl, hJ, hno⟩
end Go.Proofs.YthjblcboainknaaGreatDoor
end

section
namespace Go.Proofs.YthjblcboainknaaGreatDoor
open Go.RowKit Go.Shelf Dl
attribute [local go_sem] Oper.semAt_some

/-- 'append(out, y)', the row being the call's own, in a fence -/
theorem app_int_in {F : Fence} {n : Nat} {ops : Array Oper} {rest : List Oper} {o : Oper} {a : Act} {Q : Exit → Act → World → Prop} {W : World} {y : Int} (hgd : o.guard = none) (s x : Operand)
  (ho : o.op = .call { callee := .builtin .append, args := #[s, x], argTypes := #[22, 22] })
  (base : Nat) (v : Value) (xs : List Int) (hs : a.eval s = v) (hx : a.eval x = .slice (some ⟨W.heap.size, 0, none⟩) 1 1) (hown : Own W base v xs) (hn : xs.length < 1000000) (hbase : base ≤ W.heap.size)
  (h : ∀ A c w', Own w' base (.slice A (xs.length + 1) c) (xs ++ [y]) → (W.alloc (.cells #[.int .i64 y] 3)).grownBy w' v.ownBlock → wpListIn F n Tryz.prog ops Q rest (a.put o.dst (.slice A (xs.length + 1) c)) w') :
  wpListIn F n Tryz.prog ops Q (o :: rest) a (W.alloc (.cells #[.int .i64 y] 3)) := by
 obtain ⟨i0, hi, hz0, hz1, hz2⟩ := info_parts info_int
 refine wpListIn_append_own _ hgd s x _ ho base _ i0 _ 1 8 Tryz.underlying22 hi hz0 hz1 hz2 rfl (by omega) v _ _ hs (World.ownsRow.alloc hown _) ⟨W.heap.size, 0, none⟩ 1 1 [.int .i64 y] hx rfl ?_ (by simp [Value.oneCell'])
  (by unfold maxLen; omega) (by omega) (by simp; omega) ?_
 ·intro j u hj
  match j, hj with
  | 0, hj => simp at hj; subst hj; rw [add_lit, cell_new]; rfl
 ·intro v' w' hown' hg _
  have hown2 : Own w' base v' (xs ++ [y]) := by
   unfold Own
   rw [List.length_append, List.map_append]
   exact hown'
  obtain ⟨A, c, rfl⟩ := hown2.form
  rw [List.length_append] at hown2 ⊢
  exact h A c w' hown2 hg

section
variable {ops : Array Oper} {rest : List Oper} {dst : Option Tmp} {ty : TypeId} {pos : String} {after : Array Edge} {a : Act} {w : World} {Q : Exit → Act → World → Prop} {l m : Nat}
set_option maxRecDepth 100000 in
set_option maxHeartbeats 2000000 in
theorem wpListIn_setDial (x : Dial) (t : Date) (p q : Nat)
  (hx : a.tmps.getD p undef = x.val) (hq : a.tmps.getD q undef = .agg #[.int .i64 t.y, .int .i64 t.m, .int .i64 t.d])
  (h : ∀ w', Below w.heap.size w w' → wpListIn (Fence.wide.inRound l) m Tryz.prog ops Q rest (a.put dst (x.set t).val) w') :
  wpListIn (Fence.wide.inRound l) m Tryz.prog ops Q ({ dst, op := .call { callee := .invoke (.tmp p) "tellurion/dial.set", args := #[.tmp q], argTypes := #[50] }, type := ty, pos, after, guard := none } :: rest) a w := by
 refine wpListIn_plain rfl fun K hK' => ?_
 cases x with
 | plain d =>
  unfold Dial.val at hx
  have hm : ∀ fuel w, (method (fuel + 1) 139 (.agg #[.int .i64 d]) "tellurion/dial.set").run Tryz.prog w = .ok (163, .agg #[.int .i64 d]) w := fun _ _ => by kernel_rfl
  go_simp
  refine ⟨trivial, (fun h => by cases h), CallsIn.mono (CallsIn.inRound l (callsIn_wide.2 (plainSet d t.y t.m t.d w))) ?_⟩
  rintro e w1 ⟨rfl, hb⟩
  exact hK' _ _ (h w1 hb)
 | annual d mm =>
  unfold Dial.val at hx
  have hm : ∀ fuel w, (method (fuel + 1) 141 (.agg #[.int .i64 d, .int .i64 mm]) "tellurion/dial.set").run Tryz.prog w = .ok (165, .agg #[.int .i64 d, .int .i64 mm]) w := fun _ _ => by kernel_rfl
  go_simp
  refine ⟨trivial, (fun h => by cases h), CallsIn.mono (CallsIn.inRound l (callsIn_wide.2 (annualSet d mm t.y t.m t.d w))) ?_⟩
  rintro e w1 ⟨rfl, hb⟩
  exact hK' _ _ (h w1 hb)
 | leaps d mm y =>
  unfold Dial.val at hx
  have hm : ∀ fuel w, (method (fuel + 1) 143 (.agg #[.int .i64 d, .int .i64 mm, .int .i64 y]) "tellurion/dial.set").run Tryz.prog w = .ok (167, .agg #[.int .i64 d, .int .i64 mm, .int .i64 y]) w := fun _ _ => by kernel_rfl
  go_simp
  refine ⟨trivial, (fun h => by cases h), CallsIn.mono (CallsIn.inRound l (callsIn_wide.2 (leapsSet d mm y t.y t.m t.d w))) ?_⟩
  rintro e w1 ⟨rfl, hb⟩
  exact hK' _ _ (h w1 hb)
set_option maxRecDepth 100000 in
set_option maxHeartbeats 2000000 in
theorem wpListIn_nextDial (x : Dial) (k : Int) (hg : x.good k) (hk : k ≤ 100000) (p : Nat)
  (hx : a.tmps.getD p undef = x.val)
  (h : ∀ w', Below w.heap.size w w' → wpListIn (Fence.wide.inRound l) m Tryz.prog ops Q rest (a.put dst x.next.val) w') :
  wpListIn (Fence.wide.inRound l) m Tryz.prog ops Q ({ dst, op := .call { callee := .invoke (.tmp p) "tellurion/dial.next", args := #[], argTypes := #[] }, type := ty, pos, after, guard := none } :: rest) a w := by
 refine wpListIn_plain rfl fun K hK' => ?_
 cases x with
 | plain d =>
  unfold Dial.val at hx
  have hm : ∀ fuel w, (method (fuel + 1) 139 (.agg #[.int .i64 d]) "tellurion/dial.next").run Tryz.prog w = .ok (162, .agg #[.int .i64 d]) w := fun _ _ => by kernel_rfl
  have Hg := Lib.hid hg
  clear hg
  go_simp
  refine ⟨trivial, (fun h => by cases h), CallsIn.mono (CallsIn.inRound l (callsIn_wide.2 (plainNext d w Hg.out))) ?_⟩
  rintro e w1 ⟨rfl, hb⟩
  exact hK' _ _ (h w1 hb)
 | annual d mm =>
  unfold Dial.val at hx
  have hm : ∀ fuel w, (method (fuel + 1) 141 (.agg #[.int .i64 d, .int .i64 mm]) "tellurion/dial.next").run Tryz.prog w = .ok (164, .agg #[.int .i64 d, .int .i64 mm]) w := fun _ _ => by kernel_rfl
  have Hg := Lib.hid hg
  clear hg
  go_simp
  refine ⟨trivial, (fun h => by cases h), CallsIn.mono (CallsIn.inRound l (callsIn_wide.2 (annualNext d mm w Hg.out.1 Hg.out.2))) ?_⟩
  rintro e w1 ⟨rfl, hb⟩
  exact hK' _ _ (h w1 hb)
 | leaps d mm y =>
  unfold Dial.val at hx
  have hm : ∀ fuel w, (method (fuel + 1) 143 (.agg #[.int .i64 d, .int .i64 mm, .int .i64 y]) "tellurion/dial.next").run Tryz.prog w = .ok (166, .agg #[.int .i64 d, .int .i64 mm, .int .i64 y]) w := fun _ _ => by kernel_rfl
  have Hg := Lib.hid hg
  clear hg
  go_simp
  refine ⟨trivial, (fun h => by cases h), CallsIn.mono (CallsIn.inRound l (callsIn_wide.2 (leapsNext d mm y w Hg.out.1 Hg.out.2.1 ⟨Hg.out.2.2.1, by have := Hg.out.2.2.2; omega⟩))) ?_⟩
  rintro e w1 ⟨rfl, hb⟩
  exact hK' _ _ (h w1 hb)
set_option maxRecDepth 100000 in
set_option maxHeartbeats 2000000 in
theorem wpListIn_storeDial (x : Dial) (p q g : Nat) (u : Value)
  (hp : a.tmps.getD p undef = .pointer (some ⟨g, 0, none⟩)) (hq : a.tmps.getD q undef = x.val) (hc : w.cell? ⟨g, 0, none⟩ = some u) (hf : w.frozen? ⟨g, 0, none⟩ = false)
  (h : wpListIn (Fence.wide.inRound l) m Tryz.prog ops Q rest a (w.setCell ⟨g, 0, none⟩ x.val)) :
  wpListIn (Fence.wide.inRound l) m Tryz.prog ops Q ({ dst := none, op := .store 101 (.tmp p) (.tmp q), type := ty, pos, after, guard := none } :: rest) a w := by
 refine wpListIn_plain rfl fun K hK' => ?_
 replace hK' := hK' _ _ h
 clear h
 cases x with
 | plain d => unfold Dial.val at hq hK'; go_simp; exact hK'
 | annual d mm => unfold Dial.val at hq hK'; go_simp; exact hK'
 | leaps d mm y => unfold Dial.val at hq hK'; go_simp; exact hK'
end
end Go.Proofs.YthjblcboainknaaGreatDoor
end
