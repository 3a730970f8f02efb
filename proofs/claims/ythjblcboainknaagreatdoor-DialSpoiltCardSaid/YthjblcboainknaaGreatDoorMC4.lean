/- Walks: the answer to a question; whether a fact is so. -/
import Derived.Test.YthjblcboainknaaGreatDoorMB5
import Derived.Test.YthjblcboainknaaGreatDoorMC3
import Derived.Test.YthjblcboainknaaGreatDoorProg
import Derived.WalkKit
import Derived.WalkSpells
import Derived.WalkLawsBesides
import Derived.LoopTactic
import Derived.Deep.LoopGhost
import Derived.Lib.Hide
import Derived.Deep.Draws
import Derived.Deep.QuietTactic
import Derived.BigQuiet
import Derived.Deep.RegionHeld3
import Derived.OwnWalk
import Derived.Laws.Rows
import Derived.Deep.DeepMust
import Derived.Defers
import Derived.Recover
import Derived.Laws.Pointers
import Derived.Laws.EntriesVeiled
import Derived.Outline
import Derived.Deep.MidRow
import Derived.RangeFuncNested
import Derived.RangeFuncBound
import Derived.OwnWalkIn
import Derived.TacticsInMore
import Derived.LoopIn
import Derived.Shelf.RegionOpen
import Derived.Sort.CutIn
import Derived.Deep.Cut
namespace Go.Proofs.YthjblcboainknaaGreatDoor
open Go.RowKit Dl

set_option maxRecDepth 100000 in
set_option maxHeartbeats 8000000 in
theorem answer1 (A F : Option Addr) (n c fc M : Nat) (cs : List Int) (e num den add y m d v : Int) (w : World) (hr : Rd w A n cs) (hn : n ≤ 3) (hpos : Cyc cs) (hF : Rd w F 4002 (firsts e cs)) (he : 0 ≤ e ∧ e ≤ 1000) (hm : MoonOk num den add) (hy : 0 ≤ y ∧ y ≤ 4000) (hE : EMap w M (easterDay e cs num den add)) :
  Calls Tryz.prog 71 #[.agg #[.int .i64 e, .slice A n c, .int .i64 num, .int .i64 den, .int .i64 add, .slice F 4002 fc, .map (some M), .int .i64 y], .agg #[.int .i64 1, .int .i64 m, .int .i64 d, .int .i64 v]] w fun e' w' =>
   e' = .returned (.int .i64 (ansOf e cs num den add y ⟨1, m, d, v⟩)) ∧ EMap w' M (easterDay e cs num den add) ∧ w.grownBy w' (some M) := by
 have _used : True := (fun _ _ _ _ _ _ _ => trivial) hr hn hpos hF he hm hy
 have hmf : ∀ (fn : Fn) (first cap : Array Value) (w : World), (Instr.makeFunc fn first cap).run Tryz.prog w = .ok (.func fn first cap) w := fun _ _ _ _ => rfl
 have hix : ∀ (x0 x1 x2 x3 x4 : Value) (w : World), (Instr.index 145 (.agg #[x0, x1, x2, x3, x4]) (.int .i64 0)).run Tryz.prog w = .ok x0 w := fun _ _ _ _ _ _ => by kernel_rfl
 have hw0 : IntKind.i64.wrap 0 = 0 := IntWalk.i64_in _ (by omega)
 have g1 := fr_alloc (fr_alloc (fr_refl w) (.cells #[.int .i64 e, .slice A n c, .int .i64 num, .int .i64 den, .int .i64 add, .slice F 4002 fc, .map (some M), .int .i64 y] 113)) (.cells #[.int .i64 1, .int .i64 m, .int .i64 d, .int .i64 v] 69)
 have hB0 := (Blk.new w 113 #[.int .i64 e, .slice A n c, .int .i64 num, .int .i64 den, .int .i64 add, .slice F 4002 fc, .map (some M), .int .i64 y]).alloc (.cells #[.int .i64 1, .int .i64 m, .int .i64 d, .int .i64 v] 69)
 have hB1 := Blk.new (w.alloc (.cells #[.int .i64 e, .slice A n c, .int .i64 num, .int .i64 den, .int .i64 add, .slice F 4002 fc, .map (some M), .int .i64 y] 113)) 69 #[.int .i64 1, .int .i64 m, .int .i64 d, .int .i64 v]
 go_enter Tryz.func71, Tryz.ntmps71
 go_wp2_with fail
 have hz1 : (w.alloc (.cells #[.int .i64 e, .slice A n c, .int .i64 num, .int .i64 den, .int .i64 add, .slice F 4002 fc, .map (some M), .int .i64 y] 113)).heap.size = w.heap.size + 1 := by simp
 rw [hz1] at hB1
 clear hz1
 generalize (w.alloc (.cells #[.int .i64 e, .slice A n c, .int .i64 num, .int .i64 den, .int .i64 add, .slice F 4002 fc, .map (some M), .int .i64 y] 113)).alloc (.cells #[.int .i64 1, .int .i64 m, .int .i64 d, .int .i64 v] 69) = w1 at *
 have hc0 := fun j => hB0.cell j
 have hc1 := fun j => hB1.cell j
 generalize hb0 : w.heap.size = b0 at *
 have HB0 := Lib.hid hb0
 clear hb0
 refine wp_region_noPanic ?_
 refine wp_region_held_drew (S := fun W => (∀ j, W.cell? ⟨b0, j, none⟩ = (#[.int .i64 e, .slice A n c, .int .i64 num, .int .i64 den, .int .i64 add, .slice F 4002 fc, .map (some M), .int .i64 y] : Array Value)[j]?) ∧ (∀ j, W.cell? ⟨b0 + 1, j, none⟩ = (#[.int .i64 1, .int .i64 m, .int .i64 d, .int .i64 v] : Array Value)[j]?)) (by kernel_rfl) ⟨hc0, hc1⟩ (fun hHeld => ?_)
 -- the region, step by step
 refine wpAnyH_take (i := 0) (oi := ⟨some 5, .load 113 (.tmp 2), 113, "keep.go:193", #[], none⟩) (v := ?_) rfl (by kernel_rfl) (by kernel_rfl) (by kernel_rfl) (fun _ _ _ h => h) (Or.inl ⟨by rfl, fun W hSw => ?_⟩) hHeld ?_
 rotate_left
 ·(try dsimp only at hSw); go_simp; (try with_reducible rfl)
 (try simp only [Act.put, List.setIfInBounds_toArray, List.set_cons_zero, List.set_cons_succ])
 refine wpAnyH_take (i := 1) (oi := ⟨some 6, .makeFunc (.func 98) #[.tmp 5] #[], 118, "keep.go:193", #[⟨0, .data⟩], none⟩) (v := ?_) rfl (by kernel_rfl) (by kernel_rfl) (by kernel_rfl) (fun _ _ _ h => h) (Or.inl ⟨by rfl, fun W hSw => ?_⟩) hHeld ?_
 rotate_left
 ·(try dsimp only at hSw); go_simp; (try with_reducible rfl)
 (try simp only [Act.put, List.setIfInBounds_toArray, List.set_cons_zero, List.set_cons_succ])
 refine wpAnyH_take (i := 2) (oi := ⟨some 7, .load 113 (.tmp 2), 113, "keep.go:193", #[], none⟩) (v := ?_) rfl (by kernel_rfl) (by kernel_rfl) (by kernel_rfl) (fun _ _ _ h => h) (Or.inl ⟨by rfl, fun W hSw => ?_⟩) hHeld ?_
 rotate_left
 ·(try dsimp only at hSw); go_simp; (try with_reducible rfl)
 (try simp only [Act.put, List.setIfInBounds_toArray, List.set_cons_zero, List.set_cons_succ])
 refine wpAnyH_take (i := 3) (oi := ⟨some 8, .makeFunc (.func 99) #[.tmp 7] #[], 118, "keep.go:193", #[⟨2, .data⟩], none⟩) (v := ?_) rfl (by kernel_rfl) (by kernel_rfl) (by kernel_rfl) (fun _ _ _ h => h) (Or.inl ⟨by rfl, fun W hSw => ?_⟩) hHeld ?_
 rotate_left
 ·(try dsimp only at hSw); go_simp; (try with_reducible rfl)
 (try simp only [Act.put, List.setIfInBounds_toArray, List.set_cons_zero, List.set_cons_succ])
 refine wpAnyH_take (i := 4) (oi := ⟨some 9, .load 113 (.tmp 2), 113, "keep.go:193", #[], none⟩) (v := ?_) rfl (by kernel_rfl) (by kernel_rfl) (by kernel_rfl) (fun _ _ _ h => h) (Or.inl ⟨by rfl, fun W hSw => ?_⟩) hHeld ?_
 rotate_left
 ·(try dsimp only at hSw); go_simp; (try with_reducible rfl)
 (try simp only [Act.put, List.setIfInBounds_toArray, List.set_cons_zero, List.set_cons_succ])
 refine wpAnyH_take (i := 5) (oi := ⟨some 10, .makeFunc (.func 100) #[.tmp 9] #[], 118, "keep.go:193", #[⟨4, .data⟩], none⟩) (v := ?_) rfl (by kernel_rfl) (by kernel_rfl) (by kernel_rfl) (fun _ _ _ h => h) (Or.inl ⟨by rfl, fun W hSw => ?_⟩) hHeld ?_
 rotate_left
 ·(try dsimp only at hSw); go_simp; (try with_reducible rfl)
 (try simp only [Act.put, List.setIfInBounds_toArray, List.set_cons_zero, List.set_cons_succ])
 refine wpAnyH_take (i := 6) (oi := ⟨some 11, .load 113 (.tmp 2), 113, "keep.go:193", #[], none⟩) (v := ?_) rfl (by kernel_rfl) (by kernel_rfl) (by kernel_rfl) (fun _ _ _ h => h) (Or.inl ⟨by rfl, fun W hSw => ?_⟩) hHeld ?_
 rotate_left
 ·(try dsimp only at hSw); go_simp; (try with_reducible rfl)
 (try simp only [Act.put, List.setIfInBounds_toArray, List.set_cons_zero, List.set_cons_succ])
 refine wpAnyH_take (i := 7) (oi := ⟨some 12, .makeFunc (.func 101) #[.tmp 11] #[], 118, "keep.go:193", #[⟨6, .data⟩], none⟩) (v := ?_) rfl (by kernel_rfl) (by kernel_rfl) (by kernel_rfl) (fun _ _ _ h => h) (Or.inl ⟨by rfl, fun W hSw => ?_⟩) hHeld ?_
 rotate_left
 ·(try dsimp only at hSw); go_simp; (try with_reducible rfl)
 (try simp only [Act.put, List.setIfInBounds_toArray, List.set_cons_zero, List.set_cons_succ])
 refine wpAnyH_take (i := 8) (oi := ⟨some 13, .load 113 (.tmp 2), 113, "keep.go:193", #[], none⟩) (v := ?_) rfl (by kernel_rfl) (by kernel_rfl) (by kernel_rfl) (fun _ _ _ h => h) (Or.inl ⟨by rfl, fun W hSw => ?_⟩) hHeld ?_
 rotate_left
 ·(try dsimp only at hSw); go_simp; (try with_reducible rfl)
 (try simp only [Act.put, List.setIfInBounds_toArray, List.set_cons_zero, List.set_cons_succ])
 refine wpAnyH_take (i := 9) (oi := ⟨some 14, .makeFunc (.func 102) #[.tmp 13] #[], 118, "keep.go:193", #[⟨8, .data⟩], none⟩) (v := ?_) rfl (by kernel_rfl) (by kernel_rfl) (by kernel_rfl) (fun _ _ _ h => h) (Or.inl ⟨by rfl, fun W hSw => ?_⟩) hHeld ?_
 rotate_left
 ·(try dsimp only at hSw); go_simp; (try with_reducible rfl)
 (try simp only [Act.put, List.setIfInBounds_toArray, List.set_cons_zero, List.set_cons_succ])
 refine wpAnyH_take (i := 10) (oi := ⟨some 15, .build 145 #[(0, .tmp 6), (1, .tmp 8), (2, .tmp 10), (3, .tmp 12), (4, .tmp 14)], 145, "keep.go:193", #[⟨1, .data⟩, ⟨3, .data⟩, ⟨5, .data⟩, ⟨7, .data⟩, ⟨9, .data⟩], none⟩) (v := ?_) rfl (by kernel_rfl) (by kernel_rfl) (by kernel_rfl) (fun _ _ _ h => h) (Or.inl ⟨by rfl, fun W hSw => ?_⟩) hHeld ?_
 rotate_left
 ·(try dsimp only at hSw); go_simp; (try with_reducible rfl)
 (try simp only [Act.put, List.setIfInBounds_toArray, List.set_cons_zero, List.set_cons_succ])
 refine wpAnyH_take (i := 11) (oi := ⟨some 16, .fieldAddr 69 (.tmp 3) 0, 0, "keep.go:193", #[], none⟩) (v := ?_) rfl (by kernel_rfl) (by kernel_rfl) (by kernel_rfl) (fun _ _ _ h => h) (Or.inl ⟨by rfl, fun W hSw => ?_⟩) hHeld ?_
 rotate_left
 ·(try dsimp only at hSw); go_simp; (try with_reducible rfl)
 (try simp only [Act.put, List.setIfInBounds_toArray, List.set_cons_zero, List.set_cons_succ])
 refine wpAnyH_take (i := 12) (oi := ⟨some 17, .load 67 (.tmp 16), 67, "keep.go:193", #[⟨11, .data⟩], none⟩) (v := ?_) rfl (by kernel_rfl) (by kernel_rfl) (by kernel_rfl) (fun _ _ _ h => h) (Or.inl ⟨by rfl, fun W hSw => ?_⟩) hHeld ?_
 rotate_left
 ·(try dsimp only at hSw); go_simp; (try with_reducible rfl)
 (try simp only [Act.put, List.setIfInBounds_toArray, List.set_cons_zero, List.set_cons_succ])
 refine wpAnyH_take (i := 13) (oi := ⟨some 18, .binOp .sub 67 (.tmp 17) (.const (.int .i64 1)) 67, 67, "keep.go:193", #[⟨12, .data⟩], none⟩) (v := ?_) rfl (by kernel_rfl) (by kernel_rfl) (by kernel_rfl) (fun _ _ _ h => h) (Or.inl ⟨by rfl, fun W hSw => ?_⟩) hHeld ?_
 rotate_left
 ·(try dsimp only at hSw); go_simp; (try with_reducible rfl)
 (try simp only [Act.put, List.setIfInBounds_toArray, List.set_cons_zero, List.set_cons_succ])
 refine wpAnyH_take (i := 14) (oi := ⟨some 19, .index 145 (.tmp 15) (.tmp 18), 118, "keep.go:193", #[⟨10, .data⟩, ⟨13, .data⟩], none⟩) (v := ?_) rfl (by kernel_rfl) (by kernel_rfl) (by kernel_rfl) (fun _ _ _ h => h) (Or.inl ⟨by rfl, fun W hSw => ?_⟩) hHeld ?_
 rotate_left
 ·(try dsimp only at hSw); go_simp; (try with_reducible rfl)
 (try simp only [Act.put, List.setIfInBounds_toArray, List.set_cons_zero, List.set_cons_succ])
 refine wpAnyH_take (i := 15) (oi := ⟨some 20, .load 69 (.tmp 3), 69, "keep.go:193", #[], none⟩) (v := ?_) rfl (by kernel_rfl) (by kernel_rfl) (by kernel_rfl) (fun _ _ _ h => h) (Or.inl ⟨by rfl, fun W hSw => ?_⟩) hHeld ?_
 rotate_left
 ·(try dsimp only at hSw); go_simp; (try with_reducible rfl)
 (try simp only [Act.put, List.setIfInBounds_toArray, List.set_cons_zero, List.set_cons_succ])
 refine wpAnyH_ready (rs := [16]) (by kernel_rfl) (by simp) ?_
 refine AllReadyH.cons (o := ⟨some 21, .call { callee := .value (.tmp 19), args := #[.tmp 20], argTypes := #[69] }, 3, "keep.go:193", #[⟨14, .data⟩, ⟨15, .data⟩], none⟩) rfl (fun K hK => ?_) AllReadyH.nil
 go_simp
 have g2 : Below w.heap.size w w1 := by rw [HB0.out]; exact g1
 have g3 := fr_call g2 (fr_drew (fr_refl w1))
 refine (askWeekday A F n c fc cs e _ _ _ _ y 1 m d v _ (hr.keep g3) hn hpos (hF.keep g3) he).mono ?_
 rintro e' w2 ⟨rfl, hb2⟩
 have hfr := fr_call g3 hb2
 have hb12 := fr_call (fr_drew (fr_refl w1)) hb2
 refine hK.out _ _ (⟨fun j => (hB0.keep hb12).cell j, fun j => (hB1.keep hb12).cell j⟩) (fun hHeld => ?_)
 clear hK K
 (try simp only [Act.put, List.setIfInBounds_toArray, List.set_cons_zero, List.set_cons_succ])
 refine wpAnyH_take (i := 17) (oi := ⟨some 4, .assign (.tmp 21), 3, "keep.go:193", #[⟨16, .data⟩, ⟨16, .chain⟩, ⟨0, .phase⟩, ⟨1, .phase⟩, ⟨2, .phase⟩, ⟨3, .phase⟩, ⟨4, .phase⟩, ⟨5, .phase⟩, ⟨6, .phase⟩, ⟨7, .phase⟩, ⟨8, .phase⟩, ⟨9, .phase⟩, ⟨10, .phase⟩, ⟨11, .phase⟩, ⟨12, .phase⟩, ⟨13, .phase⟩, ⟨14, .phase⟩, ⟨15, .phase⟩, ⟨16, .phase⟩], none⟩) (v := ?_) rfl (by kernel_rfl) (by kernel_rfl) (by kernel_rfl) (fun _ _ _ h => h) (Or.inl ⟨by rfl, fun W hSw => ?_⟩) hHeld ?_
 rotate_left
 ·(try dsimp only at hSw); go_simp; (try with_reducible rfl)
 (try simp only [Act.put, List.setIfInBounds_toArray, List.set_cons_zero, List.set_cons_succ])
 refine wpAnyH_done (by kernel_rfl) ?_ _
 refine NoPanic.normal ?_
 clear hc0 hc1 hHeld
 go_wp2
 go_ret
 exact ⟨by rw [ansOf_1] <;> rfl, hE.keep hfr, grown_below (World.grownBy.refl w _) hfr⟩

set_option maxRecDepth 100000 in
set_option maxHeartbeats 8000000 in
theorem answer2 (A F : Option Addr) (n c fc M : Nat) (cs : List Int) (e num den add y m d v : Int) (w : World) (hr : Rd w A n cs) (hn : n ≤ 3) (hpos : Cyc cs) (hF : Rd w F 4002 (firsts e cs)) (he : 0 ≤ e ∧ e ≤ 1000) (hm : MoonOk num den add) (hy : 0 ≤ y ∧ y ≤ 4000) (hE : EMap w M (easterDay e cs num den add)) :
  Calls Tryz.prog 71 #[.agg #[.int .i64 e, .slice A n c, .int .i64 num, .int .i64 den, .int .i64 add, .slice F 4002 fc, .map (some M), .int .i64 y], .agg #[.int .i64 2, .int .i64 m, .int .i64 d, .int .i64 v]] w fun e' w' =>
   e' = .returned (.int .i64 (ansOf e cs num den add y ⟨2, m, d, v⟩)) ∧ EMap w' M (easterDay e cs num den add) ∧ w.grownBy w' (some M) := by
 have _used : True := (fun _ _ _ _ _ _ _ => trivial) hr hn hpos hF he hm hy
 have hmf : ∀ (fn : Fn) (first cap : Array Value) (w : World), (Instr.makeFunc fn first cap).run Tryz.prog w = .ok (.func fn first cap) w := fun _ _ _ _ => rfl
 have hix : ∀ (x0 x1 x2 x3 x4 : Value) (w : World), (Instr.index 145 (.agg #[x0, x1, x2, x3, x4]) (.int .i64 1)).run Tryz.prog w = .ok x1 w := fun _ _ _ _ _ _ => by kernel_rfl
 have hw0 : IntKind.i64.wrap 1 = 1 := IntWalk.i64_in _ (by omega)
 have g1 := fr_alloc (fr_alloc (fr_refl w) (.cells #[.int .i64 e, .slice A n c, .int .i64 num, .int .i64 den, .int .i64 add, .slice F 4002 fc, .map (some M), .int .i64 y] 113)) (.cells #[.int .i64 2, .int .i64 m, .int .i64 d, .int .i64 v] 69)
 have hB0 := (Blk.new w 113 #[.int .i64 e, .slice A n c, .int .i64 num, .int .i64 den, .int .i64 add, .slice F 4002 fc, .map (some M), .int .i64 y]).alloc (.cells #[.int .i64 2, .int .i64 m, .int .i64 d, .int .i64 v] 69)
 have hB1 := Blk.new (w.alloc (.cells #[.int .i64 e, .slice A n c, .int .i64 num, .int .i64 den, .int .i64 add, .slice F 4002 fc, .map (some M), .int .i64 y] 113)) 69 #[.int .i64 2, .int .i64 m, .int .i64 d, .int .i64 v]
 go_enter Tryz.func71, Tryz.ntmps71
 go_wp2_with fail
 have hz1 : (w.alloc (.cells #[.int .i64 e, .slice A n c, .int .i64 num, .int .i64 den, .int .i64 add, .slice F 4002 fc, .map (some M), .int .i64 y] 113)).heap.size = w.heap.size + 1 := by simp
 rw [hz1] at hB1
 clear hz1
 generalize (w.alloc (.cells #[.int .i64 e, .slice A n c, .int .i64 num, .int .i64 den, .int .i64 add, .slice F 4002 fc, .map (some M), .int .i64 y] 113)).alloc (.cells #[.int .i64 2, .int .i64 m, .int .i64 d, .int .i64 v] 69) = w1 at *
 have hc0 := fun j => hB0.cell j
 have hc1 := fun j => hB1.cell j
 generalize hb0 : w.heap.size = b0 at *
 have HB0 := Lib.hid hb0
 clear hb0
 refine wp_region_noPanic ?_
 refine wp_region_held_drew (S := fun W => (∀ j, W.cell? ⟨b0, j, none⟩ = (#[.int .i64 e, .slice A n c, .int .i64 num, .int .i64 den, .int .i64 add, .slice F 4002 fc, .map (some M), .int .i64 y] : Array Value)[j]?) ∧ (∀ j, W.cell? ⟨b0 + 1, j, none⟩ = (#[.int .i64 2, .int .i64 m, .int .i64 d, .int .i64 v] : Array Value)[j]?)) (by kernel_rfl) ⟨hc0, hc1⟩ (fun hHeld => ?_)
 -- the region, step by step
 refine wpAnyH_take (i := 0) (oi := ⟨some 5, .load 113 (.tmp 2), 113, "keep.go:193", #[], none⟩) (v := ?_) rfl (by kernel_rfl) (by kernel_rfl) (by kernel_rfl) (fun _ _ _ h => h) (Or.inl ⟨by rfl, fun W hSw => ?_⟩) hHeld ?_
 rotate_left
 ·(try dsimp only at hSw); go_simp; (try with_reducible rfl)
 (try simp only [Act.put, List.setIfInBounds_toArray, List.set_cons_zero, List.set_cons_succ])
 refine wpAnyH_take (i := 1) (oi := ⟨some 6, .makeFunc (.func 98) #[.tmp 5] #[], 118, "keep.go:193", #[⟨0, .data⟩], none⟩) (v := ?_) rfl (by kernel_rfl) (by kernel_rfl) (by kernel_rfl) (fun _ _ _ h => h) (Or.inl ⟨by rfl, fun W hSw => ?_⟩) hHeld ?_
 rotate_left
 ·(try dsimp only at hSw); go_simp; (try with_reducible rfl)
 (try simp only [Act.put, List.setIfInBounds_toArray, List.set_cons_zero, List.set_cons_succ])
 refine wpAnyH_take (i := 2) (oi := ⟨some 7, .load 113 (.tmp 2), 113, "keep.go:193", #[], none⟩) (v := ?_) rfl (by kernel_rfl) (by kernel_rfl) (by kernel_rfl) (fun _ _ _ h => h) (Or.inl ⟨by rfl, fun W hSw => ?_⟩) hHeld ?_
 rotate_left
 ·(try dsimp only at hSw); go_simp; (try with_reducible rfl)
 (try simp only [Act.put, List.setIfInBounds_toArray, List.set_cons_zero, List.set_cons_succ])
 refine wpAnyH_take (i := 3) (oi := ⟨some 8, .makeFunc (.func 99) #[.tmp 7] #[], 118, "keep.go:193", #[⟨2, .data⟩], none⟩) (v := ?_) rfl (by kernel_rfl) (by kernel_rfl) (by kernel_rfl) (fun _ _ _ h => h) (Or.inl ⟨by rfl, fun W hSw => ?_⟩) hHeld ?_
 rotate_left
 ·(try dsimp only at hSw); go_simp; (try with_reducible rfl)
 (try simp only [Act.put, List.setIfInBounds_toArray, List.set_cons_zero, List.set_cons_succ])
 refine wpAnyH_take (i := 4) (oi := ⟨some 9, .load 113 (.tmp 2), 113, "keep.go:193", #[], none⟩) (v := ?_) rfl (by kernel_rfl) (by kernel_rfl) (by kernel_rfl) (fun _ _ _ h => h) (Or.inl ⟨by rfl, fun W hSw => ?_⟩) hHeld ?_
 rotate_left
 ·(try dsimp only at hSw); go_simp; (try with_reducible rfl)
 (try simp only [Act.put, List.setIfInBounds_toArray, List.set_cons_zero, List.set_cons_succ])
 refine wpAnyH_take (i := 5) (oi := ⟨some 10, .makeFunc (.func 100) #[.tmp 9] #[], 118, "keep.go:193", #[⟨4, .data⟩], none⟩) (v := ?_) rfl (by kernel_rfl) (by kernel_rfl) (by kernel_rfl) (fun _ _ _ h => h) (Or.inl ⟨by rfl, fun W hSw => ?_⟩) hHeld ?_
 rotate_left
 ·(try dsimp only at hSw); go_simp; (try with_reducible rfl)
 (try simp only [Act.put, List.setIfInBounds_toArray, List.set_cons_zero, List.set_cons_succ])
 refine wpAnyH_take (i := 6) (oi := ⟨some 11, .load 113 (.tmp 2), 113, "keep.go:193", #[], none⟩) (v := ?_) rfl (by kernel_rfl) (by kernel_rfl) (by kernel_rfl) (fun _ _ _ h => h) (Or.inl ⟨by rfl, fun W hSw => ?_⟩) hHeld ?_
 rotate_left
 ·(try dsimp only at hSw); go_simp; (try with_reducible rfl)
 (try simp only [Act.put, List.setIfInBounds_toArray, List.set_cons_zero, List.set_cons_succ])
 refine wpAnyH_take (i := 7) (oi := ⟨some 12, .makeFunc (.func 101) #[.tmp 11] #[], 118, "keep.go:193", #[⟨6, .data⟩], none⟩) (v := ?_) rfl (by kernel_rfl) (by kernel_rfl) (by kernel_rfl) (fun _ _ _ h => h) (Or.inl ⟨by rfl, fun W hSw => ?_⟩) hHeld ?_
 rotate_left
 ·(try dsimp only at hSw); go_simp; (try with_reducible rfl)
 (try simp only [Act.put, List.setIfInBounds_toArray, List.set_cons_zero, List.set_cons_succ])
 refine wpAnyH_take (i := 8) (oi := ⟨some 13, .load 113 (.tmp 2), 113, "keep.go:193", #[], none⟩) (v := ?_) rfl (by kernel_rfl) (by kernel_rfl) (by kernel_rfl) (fun _ _ _ h => h) (Or.inl ⟨by rfl, fun W hSw => ?_⟩) hHeld ?_
 rotate_left
 ·(try dsimp only at hSw); go_simp; (try with_reducible rfl)
 (try simp only [Act.put, List.setIfInBounds_toArray, List.set_cons_zero, List.set_cons_succ])
 refine wpAnyH_take (i := 9) (oi := ⟨some 14, .makeFunc (.func 102) #[.tmp 13] #[], 118, "keep.go:193", #[⟨8, .data⟩], none⟩) (v := ?_) rfl (by kernel_rfl) (by kernel_rfl) (by kernel_rfl) (fun _ _ _ h => h) (Or.inl ⟨by rfl, fun W hSw => ?_⟩) hHeld ?_
 rotate_left
 ·(try dsimp only at hSw); go_simp; (try with_reducible rfl)
 (try simp only [Act.put, List.setIfInBounds_toArray, List.set_cons_zero, List.set_cons_succ])
 refine wpAnyH_take (i := 10) (oi := ⟨some 15, .build 145 #[(0, .tmp 6), (1, .tmp 8), (2, .tmp 10), (3, .tmp 12), (4, .tmp 14)], 145, "keep.go:193", #[⟨1, .data⟩, ⟨3, .data⟩, ⟨5, .data⟩, ⟨7, .data⟩, ⟨9, .data⟩], none⟩) (v := ?_) rfl (by kernel_rfl) (by kernel_rfl) (by kernel_rfl) (fun _ _ _ h => h) (Or.inl ⟨by rfl, fun W hSw => ?_⟩) hHeld ?_
 rotate_left
 ·(try dsimp only at hSw); go_simp; (try with_reducible rfl)
 (try simp only [Act.put, List.setIfInBounds_toArray, List.set_cons_zero, List.set_cons_succ])
 refine wpAnyH_take (i := 11) (oi := ⟨some 16, .fieldAddr 69 (.tmp 3) 0, 0, "keep.go:193", #[], none⟩) (v := ?_) rfl (by kernel_rfl) (by kernel_rfl) (by kernel_rfl) (fun _ _ _ h => h) (Or.inl ⟨by rfl, fun W hSw => ?_⟩) hHeld ?_
 rotate_left
 ·(try dsimp only at hSw); go_simp; (try with_reducible rfl)
 (try simp only [Act.put, List.setIfInBounds_toArray, List.set_cons_zero, List.set_cons_succ])
 refine wpAnyH_take (i := 12) (oi := ⟨some 17, .load 67 (.tmp 16), 67, "keep.go:193", #[⟨11, .data⟩], none⟩) (v := ?_) rfl (by kernel_rfl) (by kernel_rfl) (by kernel_rfl) (fun _ _ _ h => h) (Or.inl ⟨by rfl, fun W hSw => ?_⟩) hHeld ?_
 rotate_left
 ·(try dsimp only at hSw); go_simp; (try with_reducible rfl)
 (try simp only [Act.put, List.setIfInBounds_toArray, List.set_cons_zero, List.set_cons_succ])
 refine wpAnyH_take (i := 13) (oi := ⟨some 18, .binOp .sub 67 (.tmp 17) (.const (.int .i64 1)) 67, 67, "keep.go:193", #[⟨12, .data⟩], none⟩) (v := ?_) rfl (by kernel_rfl) (by kernel_rfl) (by kernel_rfl) (fun _ _ _ h => h) (Or.inl ⟨by rfl, fun W hSw => ?_⟩) hHeld ?_
 rotate_left
 ·(try dsimp only at hSw); go_simp; (try with_reducible rfl)
 (try simp only [Act.put, List.setIfInBounds_toArray, List.set_cons_zero, List.set_cons_succ])
 refine wpAnyH_take (i := 14) (oi := ⟨some 19, .index 145 (.tmp 15) (.tmp 18), 118, "keep.go:193", #[⟨10, .data⟩, ⟨13, .data⟩], none⟩) (v := ?_) rfl (by kernel_rfl) (by kernel_rfl) (by kernel_rfl) (fun _ _ _ h => h) (Or.inl ⟨by rfl, fun W hSw => ?_⟩) hHeld ?_
 rotate_left
 ·(try dsimp only at hSw); go_simp; (try with_reducible rfl)
 (try simp only [Act.put, List.setIfInBounds_toArray, List.set_cons_zero, List.set_cons_succ])
 refine wpAnyH_take (i := 15) (oi := ⟨some 20, .load 69 (.tmp 3), 69, "keep.go:193", #[], none⟩) (v := ?_) rfl (by kernel_rfl) (by kernel_rfl) (by kernel_rfl) (fun _ _ _ h => h) (Or.inl ⟨by rfl, fun W hSw => ?_⟩) hHeld ?_
 rotate_left
 ·(try dsimp only at hSw); go_simp; (try with_reducible rfl)
 (try simp only [Act.put, List.setIfInBounds_toArray, List.set_cons_zero, List.set_cons_succ])
 refine wpAnyH_ready (rs := [16]) (by kernel_rfl) (by simp) ?_
 refine AllReadyH.cons (o := ⟨some 21, .call { callee := .value (.tmp 19), args := #[.tmp 20], argTypes := #[69] }, 3, "keep.go:193", #[⟨14, .data⟩, ⟨15, .data⟩], none⟩) rfl (fun K hK => ?_) AllReadyH.nil
 go_simp
 have g2 : Below w.heap.size w w1 := by rw [HB0.out]; exact g1
 have g3 := fr_call g2 (fr_drew (fr_refl w1))
 refine (askAge A F n c fc cs e num den add _ y 2 m d v _ (hr.keep g3) hn hpos (hF.keep g3) he hm).mono ?_
 rintro e' w2 ⟨rfl, hb2⟩
 have hfr := fr_call g3 hb2
 have hb12 := fr_call (fr_drew (fr_refl w1)) hb2
 refine hK.out _ _ (⟨fun j => (hB0.keep hb12).cell j, fun j => (hB1.keep hb12).cell j⟩) (fun hHeld => ?_)
 clear hK K
 (try simp only [Act.put, List.setIfInBounds_toArray, List.set_cons_zero, List.set_cons_succ])
 refine wpAnyH_take (i := 17) (oi := ⟨some 4, .assign (.tmp 21), 3, "keep.go:193", #[⟨16, .data⟩, ⟨16, .chain⟩, ⟨0, .phase⟩, ⟨1, .phase⟩, ⟨2, .phase⟩, ⟨3, .phase⟩, ⟨4, .phase⟩, ⟨5, .phase⟩, ⟨6, .phase⟩, ⟨7, .phase⟩, ⟨8, .phase⟩, ⟨9, .phase⟩, ⟨10, .phase⟩, ⟨11, .phase⟩, ⟨12, .phase⟩, ⟨13, .phase⟩, ⟨14, .phase⟩, ⟨15, .phase⟩, ⟨16, .phase⟩], none⟩) (v := ?_) rfl (by kernel_rfl) (by kernel_rfl) (by kernel_rfl) (fun _ _ _ h => h) (Or.inl ⟨by rfl, fun W hSw => ?_⟩) hHeld ?_
 rotate_left
 ·(try dsimp only at hSw); go_simp; (try with_reducible rfl)
 (try simp only [Act.put, List.setIfInBounds_toArray, List.set_cons_zero, List.set_cons_succ])
 refine wpAnyH_done (by kernel_rfl) ?_ _
 refine NoPanic.normal ?_
 clear hc0 hc1 hHeld
 go_wp2
 go_ret
 exact ⟨by rw [ansOf_2] <;> rfl, hE.keep hfr, grown_below (World.grownBy.refl w _) hfr⟩

set_option maxRecDepth 100000 in
set_option maxHeartbeats 8000000 in
theorem answer3 (A F : Option Addr) (n c fc M : Nat) (cs : List Int) (e num den add y m d v : Int) (w : World) (hr : Rd w A n cs) (hn : n ≤ 3) (hpos : Cyc cs) (hF : Rd w F 4002 (firsts e cs)) (he : 0 ≤ e ∧ e ≤ 1000) (hm : MoonOk num den add) (hy : 0 ≤ y ∧ y ≤ 4000) (hE : EMap w M (easterDay e cs num den add)) :
  Calls Tryz.prog 71 #[.agg #[.int .i64 e, .slice A n c, .int .i64 num, .int .i64 den, .int .i64 add, .slice F 4002 fc, .map (some M), .int .i64 y], .agg #[.int .i64 3, .int .i64 m, .int .i64 d, .int .i64 v]] w fun e' w' =>
   e' = .returned (.int .i64 (ansOf e cs num den add y ⟨3, m, d, v⟩)) ∧ EMap w' M (easterDay e cs num den add) ∧ w.grownBy w' (some M) := by
 have _used : True := (fun _ _ _ _ _ _ _ => trivial) hr hn hpos hF he hm hy
 have hmf : ∀ (fn : Fn) (first cap : Array Value) (w : World), (Instr.makeFunc fn first cap).run Tryz.prog w = .ok (.func fn first cap) w := fun _ _ _ _ => rfl
 have hix : ∀ (x0 x1 x2 x3 x4 : Value) (w : World), (Instr.index 145 (.agg #[x0, x1, x2, x3, x4]) (.int .i64 2)).run Tryz.prog w = .ok x2 w := fun _ _ _ _ _ _ => by kernel_rfl
 have hw0 : IntKind.i64.wrap 2 = 2 := IntWalk.i64_in _ (by omega)
 have g1 := fr_alloc (fr_alloc (fr_refl w) (.cells #[.int .i64 e, .slice A n c, .int .i64 num, .int .i64 den, .int .i64 add, .slice F 4002 fc, .map (some M), .int .i64 y] 113)) (.cells #[.int .i64 3, .int .i64 m, .int .i64 d, .int .i64 v] 69)
 have hB0 := (Blk.new w 113 #[.int .i64 e, .slice A n c, .int .i64 num, .int .i64 den, .int .i64 add, .slice F 4002 fc, .map (some M), .int .i64 y]).alloc (.cells #[.int .i64 3, .int .i64 m, .int .i64 d, .int .i64 v] 69)
 have hB1 := Blk.new (w.alloc (.cells #[.int .i64 e, .slice A n c, .int .i64 num, .int .i64 den, .int .i64 add, .slice F 4002 fc, .map (some M), .int .i64 y] 113)) 69 #[.int .i64 3, .int .i64 m, .int .i64 d, .int .i64 v]
 go_enter Tryz.func71, Tryz.ntmps71
 go_wp2_with fail
 have hz1 : (w.alloc (.cells #[.int .i64 e, .slice A n c, .int .i64 num, .int .i64 den, .int .i64 add, .slice F 4002 fc, .map (some M), .int .i64 y] 113)).heap.size = w.heap.size + 1 := by simp
 rw [hz1] at hB1
 clear hz1
 generalize (w.alloc (.cells #[.int .i64 e, .slice A n c, .int .i64 num, .int .i64 den, .int .i64 add, .slice F 4002 fc, .map (some M), .int .i64 y] 113)).alloc (.cells #[.int .i64 3, .int .i64 m, .int .i64 d, .int .i64 v] 69) = w1 at *
 have hc0 := fun j => hB0.cell j
 have hc1 := fun j => hB1.cell j
 generalize hb0 : w.heap.size = b0 at *
 have HB0 := Lib.hid hb0
 clear hb0
 refine wp_region_noPanic ?_
 refine wp_region_held_drew (S := fun W => (∀ j, W.cell? ⟨b0, j, none⟩ = (#[.int .i64 e, .slice A n c, .int .i64 num, .int .i64 den, .int .i64 add, .slice F 4002 fc, .map (some M), .int .i64 y] : Array Value)[j]?) ∧ (∀ j, W.cell? ⟨b0 + 1, j, none⟩ = (#[.int .i64 3, .int .i64 m, .int .i64 d, .int .i64 v] : Array Value)[j]?)) (by kernel_rfl) ⟨hc0, hc1⟩ (fun hHeld => ?_)
 -- the region, step by step
 refine wpAnyH_take (i := 0) (oi := ⟨some 5, .load 113 (.tmp 2), 113, "keep.go:193", #[], none⟩) (v := ?_) rfl (by kernel_rfl) (by kernel_rfl) (by kernel_rfl) (fun _ _ _ h => h) (Or.inl ⟨by rfl, fun W hSw => ?_⟩) hHeld ?_
 rotate_left
 ·(try dsimp only at hSw); go_simp; (try with_reducible rfl)
 (try simp only [Act.put, List.setIfInBounds_toArray, List.set_cons_zero, List.set_cons_succ])
 refine wpAnyH_take (i := 1) (oi := ⟨some 6, .makeFunc (.func 98) #[.tmp 5] #[], 118, "keep.go:193", #[⟨0, .data⟩], none⟩) (v := ?_) rfl (by kernel_rfl) (by kernel_rfl) (by kernel_rfl) (fun _ _ _ h => h) (Or.inl ⟨by rfl, fun W hSw => ?_⟩) hHeld ?_
 rotate_left
 ·(try dsimp only at hSw); go_simp; (try with_reducible rfl)
 (try simp only [Act.put, List.setIfInBounds_toArray, List.set_cons_zero, List.set_cons_succ])
 refine wpAnyH_take (i := 2) (oi := ⟨some 7, .load 113 (.tmp 2), 113, "keep.go:193", #[], none⟩) (v := ?_) rfl (by kernel_rfl) (by kernel_rfl) (by kernel_rfl) (fun _ _ _ h => h) (Or.inl ⟨by rfl, fun W hSw => ?_⟩) hHeld ?_
 rotate_left
 ·(try dsimp only at hSw); go_simp; (try with_reducible rfl)
 (try simp only [Act.put, List.setIfInBounds_toArray, List.set_cons_zero, List.set_cons_succ])
 refine wpAnyH_take (i := 3) (oi := ⟨some 8, .makeFunc (.func 99) #[.tmp 7] #[], 118, "keep.go:193", #[⟨2, .data⟩], none⟩) (v := ?_) rfl (by kernel_rfl) (by kernel_rfl) (by kernel_rfl) (fun _ _ _ h => h) (Or.inl ⟨by rfl, fun W hSw => ?_⟩) hHeld ?_
 rotate_left
 ·(try dsimp only at hSw); go_simp; (try with_reducible rfl)
 (try simp only [Act.put, List.setIfInBounds_toArray, List.set_cons_zero, List.set_cons_succ])
 refine wpAnyH_take (i := 4) (oi := ⟨some 9, .load 113 (.tmp 2), 113, "keep.go:193", #[], none⟩) (v := ?_) rfl (by kernel_rfl) (by kernel_rfl) (by kernel_rfl) (fun _ _ _ h => h) (Or.inl ⟨by rfl, fun W hSw => ?_⟩) hHeld ?_
 rotate_left
 ·(try dsimp only at hSw); go_simp; (try with_reducible rfl)
 (try simp only [Act.put, List.setIfInBounds_toArray, List.set_cons_zero, List.set_cons_succ])
 refine wpAnyH_take (i := 5) (oi := ⟨some 10, .makeFunc (.func 100) #[.tmp 9] #[], 118, "keep.go:193", #[⟨4, .data⟩], none⟩) (v := ?_) rfl (by kernel_rfl) (by kernel_rfl) (by kernel_rfl) (fun _ _ _ h => h) (Or.inl ⟨by rfl, fun W hSw => ?_⟩) hHeld ?_
 rotate_left
 ·(try dsimp only at hSw); go_simp; (try with_reducible rfl)
 (try simp only [Act.put, List.setIfInBounds_toArray, List.set_cons_zero, List.set_cons_succ])
 refine wpAnyH_take (i := 6) (oi := ⟨some 11, .load 113 (.tmp 2), 113, "keep.go:193", #[], none⟩) (v := ?_) rfl (by kernel_rfl) (by kernel_rfl) (by kernel_rfl) (fun _ _ _ h => h) (Or.inl ⟨by rfl, fun W hSw => ?_⟩) hHeld ?_
 rotate_left
 ·(try dsimp only at hSw); go_simp; (try with_reducible rfl)
 (try simp only [Act.put, List.setIfInBounds_toArray, List.set_cons_zero, List.set_cons_succ])
 refine wpAnyH_take (i := 7) (oi := ⟨some 12, .makeFunc (.func 101) #[.tmp 11] #[], 118, "keep.go:193", #[⟨6, .data⟩], none⟩) (v := ?_) rfl (by kernel_rfl) (by kernel_rfl) (by kernel_rfl) (fun _ _ _ h => h) (Or.inl ⟨by rfl, fun W hSw => ?_⟩) hHeld ?_
 rotate_left
 ·(try dsimp only at hSw); go_simp; (try with_reducible rfl)
 (try simp only [Act.put, List.setIfInBounds_toArray, List.set_cons_zero, List.set_cons_succ])
 refine wpAnyH_take (i := 8) (oi := ⟨some 13, .load 113 (.tmp 2), 113, "keep.go:193", #[], none⟩) (v := ?_) rfl (by kernel_rfl) (by kernel_rfl) (by kernel_rfl) (fun _ _ _ h => h) (Or.inl ⟨by rfl, fun W hSw => ?_⟩) hHeld ?_
 rotate_left
 ·(try dsimp only at hSw); go_simp; (try with_reducible rfl)
 (try simp only [Act.put, List.setIfInBounds_toArray, List.set_cons_zero, List.set_cons_succ])
 refine wpAnyH_take (i := 9) (oi := ⟨some 14, .makeFunc (.func 102) #[.tmp 13] #[], 118, "keep.go:193", #[⟨8, .data⟩], none⟩) (v := ?_) rfl (by kernel_rfl) (by kernel_rfl) (by kernel_rfl) (fun _ _ _ h => h) (Or.inl ⟨by rfl, fun W hSw => ?_⟩) hHeld ?_
 rotate_left
 ·(try dsimp only at hSw); go_simp; (try with_reducible rfl)
 (try simp only [Act.put, List.setIfInBounds_toArray, List.set_cons_zero, List.set_cons_succ])
 refine wpAnyH_take (i := 10) (oi := ⟨some 15, .build 145 #[(0, .tmp 6), (1, .tmp 8), (2, .tmp 10), (3, .tmp 12), (4, .tmp 14)], 145, "keep.go:193", #[⟨1, .data⟩, ⟨3, .data⟩, ⟨5, .data⟩, ⟨7, .data⟩, ⟨9, .data⟩], none⟩) (v := ?_) rfl (by kernel_rfl) (by kernel_rfl) (by kernel_rfl) (fun _ _ _ h => h) (Or.inl ⟨by rfl, fun W hSw => ?_⟩) hHeld ?_
 rotate_left
 ·(try dsimp only at hSw); go_simp; (try with_reducible rfl)
 (try simp only [Act.put, List.setIfInBounds_toArray, List.set_cons_zero, List.set_cons_succ])
 refine wpAnyH_take (i := 11) (oi := ⟨some 16, .fieldAddr 69 (.tmp 3) 0, 0, "keep.go:193", #[], none⟩) (v := ?_) rfl (by kernel_rfl) (by kernel_rfl) (by kernel_rfl) (fun _ _ _ h => h) (Or.inl ⟨by rfl, fun W hSw => ?_⟩) hHeld ?_
 rotate_left
 ·(try dsimp only at hSw); go_simp; (try with_reducible rfl)
 (try simp only [Act.put, List.setIfInBounds_toArray, List.set_cons_zero, List.set_cons_succ])
 refine wpAnyH_take (i := 12) (oi := ⟨some 17, .load 67 (.tmp 16), 67, "keep.go:193", #[⟨11, .data⟩], none⟩) (v := ?_) rfl (by kernel_rfl) (by kernel_rfl) (by kernel_rfl) (fun _ _ _ h => h) (Or.inl ⟨by rfl, fun W hSw => ?_⟩) hHeld ?_
 rotate_left
 ·(try dsimp only at hSw); go_simp; (try with_reducible rfl)
 (try simp only [Act.put, List.setIfInBounds_toArray, List.set_cons_zero, List.set_cons_succ])
 refine wpAnyH_take (i := 13) (oi := ⟨some 18, .binOp .sub 67 (.tmp 17) (.const (.int .i64 1)) 67, 67, "keep.go:193", #[⟨12, .data⟩], none⟩) (v := ?_) rfl (by kernel_rfl) (by kernel_rfl) (by kernel_rfl) (fun _ _ _ h => h) (Or.inl ⟨by rfl, fun W hSw => ?_⟩) hHeld ?_
 rotate_left
 ·(try dsimp only at hSw); go_simp; (try with_reducible rfl)
 (try simp only [Act.put, List.setIfInBounds_toArray, List.set_cons_zero, List.set_cons_succ])
 refine wpAnyH_take (i := 14) (oi := ⟨some 19, .index 145 (.tmp 15) (.tmp 18), 118, "keep.go:193", #[⟨10, .data⟩, ⟨13, .data⟩], none⟩) (v := ?_) rfl (by kernel_rfl) (by kernel_rfl) (by kernel_rfl) (fun _ _ _ h => h) (Or.inl ⟨by rfl, fun W hSw => ?_⟩) hHeld ?_
 rotate_left
 ·(try dsimp only at hSw); go_simp; (try with_reducible rfl)
 (try simp only [Act.put, List.setIfInBounds_toArray, List.set_cons_zero, List.set_cons_succ])
 refine wpAnyH_take (i := 15) (oi := ⟨some 20, .load 69 (.tmp 3), 69, "keep.go:193", #[], none⟩) (v := ?_) rfl (by kernel_rfl) (by kernel_rfl) (by kernel_rfl) (fun _ _ _ h => h) (Or.inl ⟨by rfl, fun W hSw => ?_⟩) hHeld ?_
 rotate_left
 ·(try dsimp only at hSw); go_simp; (try with_reducible rfl)
 (try simp only [Act.put, List.setIfInBounds_toArray, List.set_cons_zero, List.set_cons_succ])
 refine wpAnyH_ready (rs := [16]) (by kernel_rfl) (by simp) ?_
 refine AllReadyH.cons (o := ⟨some 21, .call { callee := .value (.tmp 19), args := #[.tmp 20], argTypes := #[69] }, 3, "keep.go:193", #[⟨14, .data⟩, ⟨15, .data⟩], none⟩) rfl (fun K hK => ?_) AllReadyH.nil
 go_simp
 have g2 : Below w.heap.size w w1 := by rw [HB0.out]; exact g1
 have g3 := fr_call g2 (fr_drew (fr_refl w1))
 have hE3 := hE.keep g3
 refine (askFeast A F n c fc M cs e num den add y 3 m d v _ (hr.keep g3) hn hpos (hF.keep g3) he hm hy (hE.keep g3)).mono ?_
 rintro e' w2 ⟨rfl, hE2, hg2⟩
 have hd := fr_drew (fr_refl w1)
 have h0 := (hB0.keep hd).grown hg2 (by have := hE3.ne_blk (hB0.keep hd); simpa using this)
 have h1 := (hB1.keep hd).grown hg2 (by have := hE3.ne_blk (hB1.keep hd); simpa using this)
 refine hK.out _ _ (⟨fun j => h0.cell j, fun j => h1.cell j⟩) (fun hHeld => ?_)
 clear hK K
 (try simp only [Act.put, List.setIfInBounds_toArray, List.set_cons_zero, List.set_cons_succ])
 refine wpAnyH_take (i := 17) (oi := ⟨some 4, .assign (.tmp 21), 3, "keep.go:193", #[⟨16, .data⟩, ⟨16, .chain⟩, ⟨0, .phase⟩, ⟨1, .phase⟩, ⟨2, .phase⟩, ⟨3, .phase⟩, ⟨4, .phase⟩, ⟨5, .phase⟩, ⟨6, .phase⟩, ⟨7, .phase⟩, ⟨8, .phase⟩, ⟨9, .phase⟩, ⟨10, .phase⟩, ⟨11, .phase⟩, ⟨12, .phase⟩, ⟨13, .phase⟩, ⟨14, .phase⟩, ⟨15, .phase⟩, ⟨16, .phase⟩], none⟩) (v := ?_) rfl (by kernel_rfl) (by kernel_rfl) (by kernel_rfl) (fun _ _ _ h => h) (Or.inl ⟨by rfl, fun W hSw => ?_⟩) hHeld ?_
 rotate_left
 ·(try dsimp only at hSw); go_simp; (try with_reducible rfl)
 (try simp only [Act.put, List.setIfInBounds_toArray, List.set_cons_zero, List.set_cons_succ])
 refine wpAnyH_done (by kernel_rfl) ?_ _
 refine NoPanic.normal ?_
 clear hc0 hc1 hHeld
 go_wp2
 go_ret
 exact ⟨by rw [ansOf_3] <;> rfl, hE2, below_grown g3 hg2⟩

set_option maxRecDepth 100000 in
set_option maxHeartbeats 8000000 in
theorem answer4 (A F : Option Addr) (n c fc M : Nat) (cs : List Int) (e num den add y m d v : Int) (w : World) (hr : Rd w A n cs) (hn : n ≤ 3) (hpos : Cyc cs) (hF : Rd w F 4002 (firsts e cs)) (he : 0 ≤ e ∧ e ≤ 1000) (hm : MoonOk num den add) (hy : 0 ≤ y ∧ y ≤ 4000) (hE : EMap w M (easterDay e cs num den add)) :
  Calls Tryz.prog 71 #[.agg #[.int .i64 e, .slice A n c, .int .i64 num, .int .i64 den, .int .i64 add, .slice F 4002 fc, .map (some M), .int .i64 y], .agg #[.int .i64 4, .int .i64 m, .int .i64 d, .int .i64 v]] w fun e' w' =>
   e' = .returned (.int .i64 (ansOf e cs num den add y ⟨4, m, d, v⟩)) ∧ EMap w' M (easterDay e cs num den add) ∧ w.grownBy w' (some M) := by
 have _used : True := (fun _ _ _ _ _ _ _ => trivial) hr hn hpos hF he hm hy
 have hmf : ∀ (fn : Fn) (first cap : Array Value) (w : World), (Instr.makeFunc fn first cap).run Tryz.prog w = .ok (.func fn first cap) w := fun _ _ _ _ => rfl
 have hix : ∀ (x0 x1 x2 x3 x4 : Value) (w : World), (Instr.index 145 (.agg #[x0, x1, x2, x3, x4]) (.int .i64 3)).run Tryz.prog w = .ok x3 w := fun _ _ _ _ _ _ => by kernel_rfl
 have hw0 : IntKind.i64.wrap 3 = 3 := IntWalk.i64_in _ (by omega)
 have g1 := fr_alloc (fr_alloc (fr_refl w) (.cells #[.int .i64 e, .slice A n c, .int .i64 num, .int .i64 den, .int .i64 add, .slice F 4002 fc, .map (some M), .int .i64 y] 113)) (.cells #[.int .i64 4, .int .i64 m, .int .i64 d, .int .i64 v] 69)
 have hB0 := (Blk.new w 113 #[.int .i64 e, .slice A n c, .int .i64 num, .int .i64 den, .int .i64 add, .slice F 4002 fc, .map (some M), .int .i64 y]).alloc (.cells #[.int .i64 4, .int .i64 m, .int .i64 d, .int .i64 v] 69)
 have hB1 := Blk.new (w.alloc (.cells #[.int .i64 e, .slice A n c, .int .i64 num, .int .i64 den, .int .i64 add, .slice F 4002 fc, .map (some M), .int .i64 y] 113)) 69 #[.int .i64 4, .int .i64 m, .int .i64 d, .int .i64 v]
 go_enter Tryz.func71, Tryz.ntmps71
 go_wp2_with fail
 have hz1 : (w.alloc (.cells #[.int .i64 e, .slice A n c, .int .i64 num, .int .i64 den, .int .i64 add, .slice F 4002 fc, .map (some M), .int .i64 y] 113)).heap.size = w.heap.size + 1 := by simp
 rw [hz1] at hB1
 clear hz1
 generalize (w.alloc (.cells #[.int .i64 e, .slice A n c, .int .i64 num, .int .i64 den, .int .i64 add, .slice F 4002 fc, .map (some M), .int .i64 y] 113)).alloc (.cells #[.int .i64 4, .int .i64 m, .int .i64 d, .int .i64 v] 69) = w1 at *
 have hc0 := fun j => hB0.cell j
 have hc1 := fun j => hB1.cell j
 generalize hb0 : w.heap.size = b0 at *
 have HB0 := Lib.hid hb0
 clear hb0
 refine wp_region_noPanic ?_
 refine wp_region_held_drew (S := fun W => (∀ j, W.cell? ⟨b0, j, none⟩ = (#[.int .i64 e, .slice A n c, .int .i64 num, .int .i64 den, .int .i64 add, .slice F 4002 fc, .map (some M), .int .i64 y] : Array Value)[j]?) ∧ (∀ j, W.cell? ⟨b0 + 1, j, none⟩ = (#[.int .i64 4, .int .i64 m, .int .i64 d, .int .i64 v] : Array Value)[j]?)) (by kernel_rfl) ⟨hc0, hc1⟩ (fun hHeld => ?_)
 -- the region, step by step
 refine wpAnyH_take (i := 0) (oi := ⟨some 5, .load 113 (.tmp 2), 113, "keep.go:193", #[], none⟩) (v := ?_) rfl (by kernel_rfl) (by kernel_rfl) (by kernel_rfl) (fun _ _ _ h => h) (Or.inl ⟨by rfl, fun W hSw => ?_⟩) hHeld ?_
 rotate_left
 ·(try dsimp only at hSw); go_simp; (try with_reducible rfl)
 (try simp only [Act.put, List.setIfInBounds_toArray, List.set_cons_zero, List.set_cons_succ])
 refine wpAnyH_take (i := 1) (oi := ⟨some 6, .makeFunc (.func 98) #[.tmp 5] #[], 118, "keep.go:193", #[⟨0, .data⟩], none⟩) (v := ?_) rfl (by kernel_rfl) (by kernel_rfl) (by kernel_rfl) (fun _ _ _ h => h) (Or.inl ⟨by rfl, fun W hSw => ?_⟩) hHeld ?_
 rotate_left
 ·(try dsimp only at hSw); go_simp; (try with_reducible rfl)
 (try simp only [Act.put, List.setIfInBounds_toArray, List.set_cons_zero, List.set_cons_succ])
 refine wpAnyH_take (i := 2) (oi := ⟨some 7, .load 113 (.tmp 2), 113, "keep.go:193", #[], none⟩) (v := ?_) rfl (by kernel_rfl) (by kernel_rfl) (by kernel_rfl) (fun _ _ _ h => h) (Or.inl ⟨by rfl, fun W hSw => ?_⟩) hHeld ?_
 rotate_left
 ·(try dsimp only at hSw); go_simp; (try with_reducible rfl)
 (try simp only [Act.put, List.setIfInBounds_toArray, List.set_cons_zero, List.set_cons_succ])
 refine wpAnyH_take (i := 3) (oi := ⟨some 8, .makeFunc (.func 99) #[.tmp 7] #[], 118, "keep.go:193", #[⟨2, .data⟩], none⟩) (v := ?_) rfl (by kernel_rfl) (by kernel_rfl) (by kernel_rfl) (fun _ _ _ h => h) (Or.inl ⟨by rfl, fun W hSw => ?_⟩) hHeld ?_
 rotate_left
 ·(try dsimp only at hSw); go_simp; (try with_reducible rfl)
 (try simp only [Act.put, List.setIfInBounds_toArray, List.set_cons_zero, List.set_cons_succ])
 refine wpAnyH_take (i := 4) (oi := ⟨some 9, .load 113 (.tmp 2), 113, "keep.go:193", #[], none⟩) (v := ?_) rfl (by kernel_rfl) (by kernel_rfl) (by kernel_rfl) (fun _ _ _ h => h) (Or.inl ⟨by rfl, fun W hSw => ?_⟩) hHeld ?_
 rotate_left
 ·(try dsimp only at hSw); go_simp; (try with_reducible rfl)
 (try simp only [Act.put, List.setIfInBounds_toArray, List.set_cons_zero, List.set_cons_succ])
 refine wpAnyH_take (i := 5) (oi := ⟨some 10, .makeFunc (.func 100) #[.tmp 9] #[], 118, "keep.go:193", #[⟨4, .data⟩], none⟩) (v := ?_) rfl (by kernel_rfl) (by kernel_rfl) (by kernel_rfl) (fun _ _ _ h => h) (Or.inl ⟨by rfl, fun W hSw => ?_⟩) hHeld ?_
 rotate_left
 ·(try dsimp only at hSw); go_simp; (try with_reducible rfl)
 (try simp only [Act.put, List.setIfInBounds_toArray, List.set_cons_zero, List.set_cons_succ])
 refine wpAnyH_take (i := 6) (oi := ⟨some 11, .load 113 (.tmp 2), 113, "keep.go:193", #[], none⟩) (v := ?_) rfl (by kernel_rfl) (by kernel_rfl) (by kernel_rfl) (fun _ _ _ h => h) (Or.inl ⟨by rfl, fun W hSw => ?_⟩) hHeld ?_
 rotate_left
 ·(try dsimp only at hSw); go_simp; (try with_reducible rfl)
 (try simp only [Act.put, List.setIfInBounds_toArray, List.set_cons_zero, List.set_cons_succ])
 refine wpAnyH_take (i := 7) (oi := ⟨some 12, .makeFunc (.func 101) #[.tmp 11] #[], 118, "keep.go:193", #[⟨6, .data⟩], none⟩) (v := ?_) rfl (by kernel_rfl) (by kernel_rfl) (by kernel_rfl) (fun _ _ _ h => h) (Or.inl ⟨by rfl, fun W hSw => ?_⟩) hHeld ?_
 rotate_left
 ·(try dsimp only at hSw); go_simp; (try with_reducible rfl)
 (try simp only [Act.put, List.setIfInBounds_toArray, List.set_cons_zero, List.set_cons_succ])
 refine wpAnyH_take (i := 8) (oi := ⟨some 13, .load 113 (.tmp 2), 113, "keep.go:193", #[], none⟩) (v := ?_) rfl (by kernel_rfl) (by kernel_rfl) (by kernel_rfl) (fun _ _ _ h => h) (Or.inl ⟨by rfl, fun W hSw => ?_⟩) hHeld ?_
 rotate_left
 ·(try dsimp only at hSw); go_simp; (try with_reducible rfl)
 (try simp only [Act.put, List.setIfInBounds_toArray, List.set_cons_zero, List.set_cons_succ])
 refine wpAnyH_take (i := 9) (oi := ⟨some 14, .makeFunc (.func 102) #[.tmp 13] #[], 118, "keep.go:193", #[⟨8, .data⟩], none⟩) (v := ?_) rfl (by kernel_rfl) (by kernel_rfl) (by kernel_rfl) (fun _ _ _ h => h) (Or.inl ⟨by rfl, fun W hSw => ?_⟩) hHeld ?_
 rotate_left
 ·(try dsimp only at hSw); go_simp; (try with_reducible rfl)
 (try simp only [Act.put, List.setIfInBounds_toArray, List.set_cons_zero, List.set_cons_succ])
 refine wpAnyH_take (i := 10) (oi := ⟨some 15, .build 145 #[(0, .tmp 6), (1, .tmp 8), (2, .tmp 10), (3, .tmp 12), (4, .tmp 14)], 145, "keep.go:193", #[⟨1, .data⟩, ⟨3, .data⟩, ⟨5, .data⟩, ⟨7, .data⟩, ⟨9, .data⟩], none⟩) (v := ?_) rfl (by kernel_rfl) (by kernel_rfl) (by kernel_rfl) (fun _ _ _ h => h) (Or.inl ⟨by rfl, fun W hSw => ?_⟩) hHeld ?_
 rotate_left
 ·(try dsimp only at hSw); go_simp; (try with_reducible rfl)
 (try simp only [Act.put, List.setIfInBounds_toArray, List.set_cons_zero, List.set_cons_succ])
 refine wpAnyH_take (i := 11) (oi := ⟨some 16, .fieldAddr 69 (.tmp 3) 0, 0, "keep.go:193", #[], none⟩) (v := ?_) rfl (by kernel_rfl) (by kernel_rfl) (by kernel_rfl) (fun _ _ _ h => h) (Or.inl ⟨by rfl, fun W hSw => ?_⟩) hHeld ?_
 rotate_left
 ·(try dsimp only at hSw); go_simp; (try with_reducible rfl)
 (try simp only [Act.put, List.setIfInBounds_toArray, List.set_cons_zero, List.set_cons_succ])
 refine wpAnyH_take (i := 12) (oi := ⟨some 17, .load 67 (.tmp 16), 67, "keep.go:193", #[⟨11, .data⟩], none⟩) (v := ?_) rfl (by kernel_rfl) (by kernel_rfl) (by kernel_rfl) (fun _ _ _ h => h) (Or.inl ⟨by rfl, fun W hSw => ?_⟩) hHeld ?_
 rotate_left
 ·(try dsimp only at hSw); go_simp; (try with_reducible rfl)
 (try simp only [Act.put, List.setIfInBounds_toArray, List.set_cons_zero, List.set_cons_succ])
 refine wpAnyH_take (i := 13) (oi := ⟨some 18, .binOp .sub 67 (.tmp 17) (.const (.int .i64 1)) 67, 67, "keep.go:193", #[⟨12, .data⟩], none⟩) (v := ?_) rfl (by kernel_rfl) (by kernel_rfl) (by kernel_rfl) (fun _ _ _ h => h) (Or.inl ⟨by rfl, fun W hSw => ?_⟩) hHeld ?_
 rotate_left
 ·(try dsimp only at hSw); go_simp; (try with_reducible rfl)
 (try simp only [Act.put, List.setIfInBounds_toArray, List.set_cons_zero, List.set_cons_succ])
 refine wpAnyH_take (i := 14) (oi := ⟨some 19, .index 145 (.tmp 15) (.tmp 18), 118, "keep.go:193", #[⟨10, .data⟩, ⟨13, .data⟩], none⟩) (v := ?_) rfl (by kernel_rfl) (by kernel_rfl) (by kernel_rfl) (fun _ _ _ h => h) (Or.inl ⟨by rfl, fun W hSw => ?_⟩) hHeld ?_
 rotate_left
 ·(try dsimp only at hSw); go_simp; (try with_reducible rfl)
 (try simp only [Act.put, List.setIfInBounds_toArray, List.set_cons_zero, List.set_cons_succ])
 refine wpAnyH_take (i := 15) (oi := ⟨some 20, .load 69 (.tmp 3), 69, "keep.go:193", #[], none⟩) (v := ?_) rfl (by kernel_rfl) (by kernel_rfl) (by kernel_rfl) (fun _ _ _ h => h) (Or.inl ⟨by rfl, fun W hSw => ?_⟩) hHeld ?_
 rotate_left
 ·(try dsimp only at hSw); go_simp; (try with_reducible rfl)
 (try simp only [Act.put, List.setIfInBounds_toArray, List.set_cons_zero, List.set_cons_succ])
 refine wpAnyH_ready (rs := [16]) (by kernel_rfl) (by simp) ?_
 refine AllReadyH.cons (o := ⟨some 21, .call { callee := .value (.tmp 19), args := #[.tmp 20], argTypes := #[69] }, 3, "keep.go:193", #[⟨14, .data⟩, ⟨15, .data⟩], none⟩) rfl (fun K hK => ?_) AllReadyH.nil
 go_simp
 have g2 : Below w.heap.size w w1 := by rw [HB0.out]; exact g1
 have g3 := fr_call g2 (fr_drew (fr_refl w1))
 refine (askGolden _ _ _ _ _ _ _ y 4 m d v _ hy).mono ?_
 rintro e' w2 ⟨rfl, hb2⟩
 have hfr := fr_call g3 hb2
 have hb12 := fr_call (fr_drew (fr_refl w1)) hb2
 refine hK.out _ _ (⟨fun j => (hB0.keep hb12).cell j, fun j => (hB1.keep hb12).cell j⟩) (fun hHeld => ?_)
 clear hK K
 (try simp only [Act.put, List.setIfInBounds_toArray, List.set_cons_zero, List.set_cons_succ])
 refine wpAnyH_take (i := 17) (oi := ⟨some 4, .assign (.tmp 21), 3, "keep.go:193", #[⟨16, .data⟩, ⟨16, .chain⟩, ⟨0, .phase⟩, ⟨1, .phase⟩, ⟨2, .phase⟩, ⟨3, .phase⟩, ⟨4, .phase⟩, ⟨5, .phase⟩, ⟨6, .phase⟩, ⟨7, .phase⟩, ⟨8, .phase⟩, ⟨9, .phase⟩, ⟨10, .phase⟩, ⟨11, .phase⟩, ⟨12, .phase⟩, ⟨13, .phase⟩, ⟨14, .phase⟩, ⟨15, .phase⟩, ⟨16, .phase⟩], none⟩) (v := ?_) rfl (by kernel_rfl) (by kernel_rfl) (by kernel_rfl) (fun _ _ _ h => h) (Or.inl ⟨by rfl, fun W hSw => ?_⟩) hHeld ?_
 rotate_left
 ·(try dsimp only at hSw); go_simp; (try with_reducible rfl)
 (try simp only [Act.put, List.setIfInBounds_toArray, List.set_cons_zero, List.set_cons_succ])
 refine wpAnyH_done (by kernel_rfl) ?_ _
 refine NoPanic.normal ?_
 clear hc0 hc1 hHeld
 go_wp2
 go_ret
 exact ⟨by rw [ansOf_4] <;> rfl, hE.keep hfr, grown_below (World.grownBy.refl w _) hfr⟩

set_option maxRecDepth 100000 in
set_option maxHeartbeats 8000000 in
theorem answer5 (A F : Option Addr) (n c fc M : Nat) (cs : List Int) (e num den add y m d v : Int) (w : World) (hr : Rd w A n cs) (hn : n ≤ 3) (hpos : Cyc cs) (hF : Rd w F 4002 (firsts e cs)) (he : 0 ≤ e ∧ e ≤ 1000) (hm : MoonOk num den add) (hy : 0 ≤ y ∧ y ≤ 4000) (hE : EMap w M (easterDay e cs num den add)) :
  Calls Tryz.prog 71 #[.agg #[.int .i64 e, .slice A n c, .int .i64 num, .int .i64 den, .int .i64 add, .slice F 4002 fc, .map (some M), .int .i64 y], .agg #[.int .i64 5, .int .i64 m, .int .i64 d, .int .i64 v]] w fun e' w' =>
   e' = .returned (.int .i64 (ansOf e cs num den add y ⟨5, m, d, v⟩)) ∧ EMap w' M (easterDay e cs num den add) ∧ w.grownBy w' (some M) := by
 have _used : True := (fun _ _ _ _ _ _ _ => trivial) hr hn hpos hF he hm hy
 have hmf : ∀ (fn : Fn) (first cap : Array Value) (w : World), (Instr.makeFunc fn first cap).run Tryz.prog w = .ok (.func fn first cap) w := fun _ _ _ _ => rfl
 have hix : ∀ (x0 x1 x2 x3 x4 : Value) (w : World), (Instr.index 145 (.agg #[x0, x1, x2, x3, x4]) (.int .i64 4)).run Tryz.prog w = .ok x4 w := fun _ _ _ _ _ _ => by kernel_rfl
 have hw0 : IntKind.i64.wrap 4 = 4 := IntWalk.i64_in _ (by omega)
 have g1 := fr_alloc (fr_alloc (fr_refl w) (.cells #[.int .i64 e, .slice A n c, .int .i64 num, .int .i64 den, .int .i64 add, .slice F 4002 fc, .map (some M), .int .i64 y] 113)) (.cells #[.int .i64 5, .int .i64 m, .int .i64 d, .int .i64 v] 69)
 have hB0 := (Blk.new w 113 #[.int .i64 e, .slice A n c, .int .i64 num, .int .i64 den, .int .i64 add, .slice F 4002 fc, .map (some M), .int .i64 y]).alloc (.cells #[.int .i64 5, .int .i64 m, .int .i64 d, .int .i64 v] 69)
 have hB1 := Blk.new (w.alloc (.cells #[.int .i64 e, .slice A n c, .int .i64 num, .int .i64 den, .int .i64 add, .slice F 4002 fc, .map (some M), .int .i64 y] 113)) 69 #[.int .i64 5, .int .i64 m, .int .i64 d, .int .i64 v]
 go_enter Tryz.func71, Tryz.ntmps71
 go_wp2_with fail
 have hz1 : (w.alloc (.cells #[.int .i64 e, .slice A n c, .int .i64 num, .int .i64 den, .int .i64 add, .slice F 4002 fc, .map (some M), .int .i64 y] 113)).heap.size = w.heap.size + 1 := by simp
 rw [hz1] at hB1
 clear hz1
 generalize (w.alloc (.cells #[.int .i64 e, .slice A n c, .int .i64 num, .int .i64 den, .int .i64 add, .slice F 4002 fc, .map (some M), .int .i64 y] 113)).alloc (.cells #[.int .i64 5, .int .i64 m, .int .i64 d, .int .i64 v] 69) = w1 at *
 have hc0 := fun j => hB0.cell j
 have hc1 := fun j => hB1.cell j
 generalize hb0 : w.heap.size = b0 at *
 have HB0 := Lib.hid hb0
 clear hb0
 refine wp_region_noPanic ?_
 refine wp_region_held_drew (S := fun W => (∀ j, W.cell? ⟨b0, j, none⟩ = (#[.int .i64 e, .slice A n c, .int .i64 num, .int .i64 den, .int .i64 add, .slice F 4002 fc, .map (some M), .int .i64 y] : Array Value)[j]?) ∧ (∀ j, W.cell? ⟨b0 + 1, j, none⟩ = (#[.int .i64 5, .int .i64 m, .int .i64 d, .int .i64 v] : Array Value)[j]?)) (by kernel_rfl) ⟨hc0, hc1⟩ (fun hHeld => ?_)
 -- the region, step by step
 refine wpAnyH_take (i := 0) (oi := ⟨some 5, .load 113 (.tmp 2), 113, "keep.go:193", #[], none⟩) (v := ?_) rfl (by kernel_rfl) (by kernel_rfl) (by kernel_rfl) (fun _ _ _ h => h) (Or.inl ⟨by rfl, fun W hSw => ?_⟩) hHeld ?_
 rotate_left
 ·(try dsimp only at hSw); go_simp; (try with_reducible rfl)
 (try simp only [Act.put, List.setIfInBounds_toArray, List.set_cons_zero, List.set_cons_succ])
 refine wpAnyH_take (i := 1) (oi := ⟨some 6, .makeFunc (.func 98) #[.tmp 5] #[], 118, "keep.go:193", #[⟨0, .data⟩], none⟩) (v := ?_) rfl (by kernel_rfl) (by kernel_rfl) (by kernel_rfl) (fun _ _ _ h => h) (Or.inl ⟨by rfl, fun W hSw => ?_⟩) hHeld ?_
 rotate_left
 ·(try dsimp only at hSw); go_simp; (try with_reducible rfl)
 (try simp only [Act.put, List.setIfInBounds_toArray, List.set_cons_zero, List.set_cons_succ])
 refine wpAnyH_take (i := 2) (oi := ⟨some 7, .load 113 (.tmp 2), 113, "keep.go:193", #[], none⟩) (v := ?_) rfl (by kernel_rfl) (by kernel_rfl) (by kernel_rfl) (fun _ _ _ h => h) (Or.inl ⟨by rfl, fun W hSw => ?_⟩) hHeld ?_
 rotate_left
 ·(try dsimp only at hSw); go_simp; (try with_reducible rfl)
 (try simp only [Act.put, List.setIfInBounds_toArray, List.set_cons_zero, List.set_cons_succ])
 refine wpAnyH_take (i := 3) (oi := ⟨some 8, .makeFunc (.func 99) #[.tmp 7] #[], 118, "keep.go:193", #[⟨2, .data⟩], none⟩) (v := ?_) rfl (by kernel_rfl) (by kernel_rfl) (by kernel_rfl) (fun _ _ _ h => h) (Or.inl ⟨by rfl, fun W hSw => ?_⟩) hHeld ?_
 rotate_left
 ·(try dsimp only at hSw); go_simp; (try with_reducible rfl)
 (try simp only [Act.put, List.setIfInBounds_toArray, List.set_cons_zero, List.set_cons_succ])
 refine wpAnyH_take (i := 4) (oi := ⟨some 9, .load 113 (.tmp 2), 113, "keep.go:193", #[], none⟩) (v := ?_) rfl (by kernel_rfl) (by kernel_rfl) (by kernel_rfl) (fun _ _ _ h => h) (Or.inl ⟨by rfl, fun W hSw => ?_⟩) hHeld ?_
 rotate_left
 ·(try dsimp only at hSw); go_simp; (try with_reducible rfl)
 (try simp only [Act.put, List.setIfInBounds_toArray, List.set_cons_zero, List.set_cons_succ])
 refine wpAnyH_take (i := 5) (oi := ⟨some 10, .makeFunc (.func 100) #[.tmp 9] #[], 118, "keep.go:193", #[⟨4, .data⟩], none⟩) (v := ?_) rfl (by kernel_rfl) (by kernel_rfl) (by kernel_rfl) (fun _ _ _ h => h) (Or.inl ⟨by rfl, fun W hSw => ?_⟩) hHeld ?_
 rotate_left
 ·(try dsimp only at hSw); go_simp; (try with_reducible rfl)
 (try simp only [Act.put, List.setIfInBounds_toArray, List.set_cons_zero, List.set_cons_succ])
 refine wpAnyH_take (i := 6) (oi := ⟨some 11, .load 113 (.tmp 2), 113, "keep.go:193", #[], none⟩) (v := ?_) rfl (by kernel_rfl) (by kernel_rfl) (by kernel_rfl) (fun _ _ _ h => h) (Or.inl ⟨by rfl, fun W hSw => ?_⟩) hHeld ?_
 rotate_left
 ·(try dsimp only at hSw); go_simp; (try with_reducible rfl)
 (try simp only [Act.put, List.setIfInBounds_toArray, List.set_cons_zero, List.set_cons_succ])
 refine wpAnyH_take (i := 7) (oi := ⟨some 12, .makeFunc (.func 101) #[.tmp 11] #[], 118, "keep.go:193", #[⟨6, .data⟩], none⟩) (v := ?_) rfl (by kernel_rfl) (by kernel_rfl) (by kernel_rfl) (fun _ _ _ h => h) (Or.inl ⟨by rfl, fun W hSw => ?_⟩) hHeld ?_
 rotate_left
 ·(try dsimp only at hSw); go_simp; (try with_reducible rfl)
 (try simp only [Act.put, List.setIfInBounds_toArray, List.set_cons_zero, List.set_cons_succ])
 refine wpAnyH_take (i := 8) (oi := ⟨some 13, .load 113 (.tmp 2), 113, "keep.go:193", #[], none⟩) (v := ?_) rfl (by kernel_rfl) (by kernel_rfl) (by kernel_rfl) (fun _ _ _ h => h) (Or.inl ⟨by rfl, fun W hSw => ?_⟩) hHeld ?_
 rotate_left
 ·(try dsimp only at hSw); go_simp; (try with_reducible rfl)
 (try simp only [Act.put, List.setIfInBounds_toArray, List.set_cons_zero, List.set_cons_succ])
 refine wpAnyH_take (i := 9) (oi := ⟨some 14, .makeFunc (.func 102) #[.tmp 13] #[], 118, "keep.go:193", #[⟨8, .data⟩], none⟩) (v := ?_) rfl (by kernel_rfl) (by kernel_rfl) (by kernel_rfl) (fun _ _ _ h => h) (Or.inl ⟨by rfl, fun W hSw => ?_⟩) hHeld ?_
 rotate_left
 ·(try dsimp only at hSw); go_simp; (try with_reducible rfl)
 (try simp only [Act.put, List.setIfInBounds_toArray, List.set_cons_zero, List.set_cons_succ])
 refine wpAnyH_take (i := 10) (oi := ⟨some 15, .build 145 #[(0, .tmp 6), (1, .tmp 8), (2, .tmp 10), (3, .tmp 12), (4, .tmp 14)], 145, "keep.go:193", #[⟨1, .data⟩, ⟨3, .data⟩, ⟨5, .data⟩, ⟨7, .data⟩, ⟨9, .data⟩], none⟩) (v := ?_) rfl (by kernel_rfl) (by kernel_rfl) (by kernel_rfl) (fun _ _ _ h => h) (Or.inl ⟨by rfl, fun W hSw => ?_⟩) hHeld ?_
 rotate_left
 ·(try dsimp only at hSw); go_simp; (try with_reducible rfl)
 (try simp only [Act.put, List.setIfInBounds_toArray, List.set_cons_zero, List.set_cons_succ])
 refine wpAnyH_take (i := 11) (oi := ⟨some 16, .fieldAddr 69 (.tmp 3) 0, 0, "keep.go:193", #[], none⟩) (v := ?_) rfl (by kernel_rfl) (by kernel_rfl) (by kernel_rfl) (fun _ _ _ h => h) (Or.inl ⟨by rfl, fun W hSw => ?_⟩) hHeld ?_
 rotate_left
 ·(try dsimp only at hSw); go_simp; (try with_reducible rfl)
 (try simp only [Act.put, List.setIfInBounds_toArray, List.set_cons_zero, List.set_cons_succ])
 refine wpAnyH_take (i := 12) (oi := ⟨some 17, .load 67 (.tmp 16), 67, "keep.go:193", #[⟨11, .data⟩], none⟩) (v := ?_) rfl (by kernel_rfl) (by kernel_rfl) (by kernel_rfl) (fun _ _ _ h => h) (Or.inl ⟨by rfl, fun W hSw => ?_⟩) hHeld ?_
 rotate_left
 ·(try dsimp only at hSw); go_simp; (try with_reducible rfl)
 (try simp only [Act.put, List.setIfInBounds_toArray, List.set_cons_zero, List.set_cons_succ])
 refine wpAnyH_take (i := 13) (oi := ⟨some 18, .binOp .sub 67 (.tmp 17) (.const (.int .i64 1)) 67, 67, "keep.go:193", #[⟨12, .data⟩], none⟩) (v := ?_) rfl (by kernel_rfl) (by kernel_rfl) (by kernel_rfl) (fun _ _ _ h => h) (Or.inl ⟨by rfl, fun W hSw => ?_⟩) hHeld ?_
 rotate_left
 ·(try dsimp only at hSw); go_simp; (try with_reducible rfl)
 (try simp only [Act.put, List.setIfInBounds_toArray, List.set_cons_zero, List.set_cons_succ])
 refine wpAnyH_take (i := 14) (oi := ⟨some 19, .index 145 (.tmp 15) (.tmp 18), 118, "keep.go:193", #[⟨10, .data⟩, ⟨13, .data⟩], none⟩) (v := ?_) rfl (by kernel_rfl) (by kernel_rfl) (by kernel_rfl) (fun _ _ _ h => h) (Or.inl ⟨by rfl, fun W hSw => ?_⟩) hHeld ?_
 rotate_left
 ·(try dsimp only at hSw); go_simp; (try with_reducible rfl)
 (try simp only [Act.put, List.setIfInBounds_toArray, List.set_cons_zero, List.set_cons_succ])
 refine wpAnyH_take (i := 15) (oi := ⟨some 20, .load 69 (.tmp 3), 69, "keep.go:193", #[], none⟩) (v := ?_) rfl (by kernel_rfl) (by kernel_rfl) (by kernel_rfl) (fun _ _ _ h => h) (Or.inl ⟨by rfl, fun W hSw => ?_⟩) hHeld ?_
 rotate_left
 ·(try dsimp only at hSw); go_simp; (try with_reducible rfl)
 (try simp only [Act.put, List.setIfInBounds_toArray, List.set_cons_zero, List.set_cons_succ])
 refine wpAnyH_ready (rs := [16]) (by kernel_rfl) (by simp) ?_
 refine AllReadyH.cons (o := ⟨some 21, .call { callee := .value (.tmp 19), args := #[.tmp 20], argTypes := #[69] }, 3, "keep.go:193", #[⟨14, .data⟩, ⟨15, .data⟩], none⟩) rfl (fun K hK => ?_) AllReadyH.nil
 go_simp
 have g2 : Below w.heap.size w w1 := by rw [HB0.out]; exact g1
 have g3 := fr_call g2 (fr_drew (fr_refl w1))
 refine (askLength A n c cs _ _ _ _ _ _ y 5 m d v _ (hr.keep g3) hn hpos hy).mono ?_
 rintro e' w2 ⟨rfl, hb2⟩
 have hfr := fr_call g3 hb2
 have hb12 := fr_call (fr_drew (fr_refl w1)) hb2
 refine hK.out _ _ (⟨fun j => (hB0.keep hb12).cell j, fun j => (hB1.keep hb12).cell j⟩) (fun hHeld => ?_)
 clear hK K
 (try simp only [Act.put, List.setIfInBounds_toArray, List.set_cons_zero, List.set_cons_succ])
 refine wpAnyH_take (i := 17) (oi := ⟨some 4, .assign (.tmp 21), 3, "keep.go:193", #[⟨16, .data⟩, ⟨16, .chain⟩, ⟨0, .phase⟩, ⟨1, .phase⟩, ⟨2, .phase⟩, ⟨3, .phase⟩, ⟨4, .phase⟩, ⟨5, .phase⟩, ⟨6, .phase⟩, ⟨7, .phase⟩, ⟨8, .phase⟩, ⟨9, .phase⟩, ⟨10, .phase⟩, ⟨11, .phase⟩, ⟨12, .phase⟩, ⟨13, .phase⟩, ⟨14, .phase⟩, ⟨15, .phase⟩, ⟨16, .phase⟩], none⟩) (v := ?_) rfl (by kernel_rfl) (by kernel_rfl) (by kernel_rfl) (fun _ _ _ h => h) (Or.inl ⟨by rfl, fun W hSw => ?_⟩) hHeld ?_
 rotate_left
 ·(try dsimp only at hSw); go_simp; (try with_reducible rfl)
 (try simp only [Act.put, List.setIfInBounds_toArray, List.set_cons_zero, List.set_cons_succ])
 refine wpAnyH_done (by kernel_rfl) ?_ _
 refine NoPanic.normal ?_
 clear hc0 hc1 hHeld
 go_wp2
 go_ret
 exact ⟨by rw [ansOf_5] <;> rfl, hE.keep hfr, grown_below (World.grownBy.refl w _) hfr⟩

end Go.Proofs.YthjblcboainknaaGreatDoor
