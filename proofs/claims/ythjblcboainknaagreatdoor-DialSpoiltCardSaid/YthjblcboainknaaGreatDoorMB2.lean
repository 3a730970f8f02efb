/- Walks: whether a date is one of a calendar; the day of a date. Walks: what is as defined (calendars, realms, moons); weekdays; the moon's age. Walk: a calendar with its moon is opened. Walks: whether any date is one of a calendar; Day. -/
import Derived.Test.YthjblcboainknaaGreatDoorMB1
import Derived.Test.YthjblcboainknaaGreatDoorMP
import Derived.Deep.DeepMust
section
namespace Go.Proofs.YthjblcboainknaaGreatDoor
open Go.RowKit Dl

theorem twelve {m : Int} (h1 : 1 ≤ m) (h2 : m ≤ 12) : m = 1 ∨ m = 2 ∨ m = 3 ∨ m = 4 ∨ m = 5 ∨ m = 6 ∨ m = 7 ∨ m = 8 ∨ m = 9 ∨ m = 10 ∨ m = 11 ∨ m = 12 := by omega
theorem mtab_len (b : Bool) : (mtab b).length = 12 := rfl
theorem mtab_at (b : Bool) (m : Int) (h1 : 1 ≤ m) (h2 : m ≤ 12) : (mtab b)[m.toNat - 1]?.getD 0 = mlen b m := by
 rcases twelve h1 h2 with rfl | rfl | rfl | rfl | rfl | rfl | rfl | rfl | rfl | rfl | rfl | rfl <;> cases b <;> rfl
theorem Rd.row {w : World} {g : Nat} {n : Nat} {xs : List Int} (h : Rd w (some ⟨g, 0, none⟩) n xs) : ∀ j, j < n → w.cell? ⟨g, j, none⟩ = some (.int .i64 (xs[j]?.getD 0)) := by
 intro j hj
 obtain ⟨ad, e, _, hc⟩ := h.2 (by omega)
 cases e
 have := hc j hj
 rw [add_lit, Nat.zero_add] at this
 exact this

set_option maxRecDepth 100000 in
set_option maxHeartbeats 2000000 in
theorem isDate_ok (A : Option Addr) (n c : Nat) (cs : List Int) (e m1 m2 m3 f g : Value) (y m d : Int) (w : World) (hr : Rd w A n cs) (hn : n ≤ 3) (hpos : Cyc cs)
  (hy : 0 ≤ y ∧ y ≤ 4000) (hm : 1 ≤ m ∧ m ≤ 12) :
  Calls Tryz.prog 51 #[.agg #[e, .slice A n c, m1, m2, m3, f, g], .agg #[.int .i64 y, .int .i64 m, .int .i64 d]] w fun e w' =>
   e = .returned (.bool (inB d 1 (mlen (leapB cs y) m))) ∧ Below w.heap.size w w' := by
 have hy1 := hy.1
 have hy2 := hy.2
 have hm1 := hm.1
 have hm2 := hm.2
 have hb1 := inB_yes hy
 have hb2 := inB_yes hm
 clear hy hm
 have hi1 : m - 1 < 12 := by omega
 have hi0 : 0 ≤ m - 1 := by omega
 have hwm : IntKind.i64.wrap (m - 1) = m - 1 := IntWalk.i64_in _ (by omega)
 go_enter Tryz.func51, Tryz.ntmps51
 go_wp2_with fail
 have hr0 := (hr.alloc (.cells #[e, .slice A n c, m1, m2, m3, f, g] 89)).alloc (.cells #[.int .i64 y, .int .i64 m, .int .i64 d] 50)
 refine wp_region_noPanic ?_
 refine wp_region_held_drew (S := fun W => (∀ p : Addr, p.block < ((w.alloc (.cells #[e, .slice A n c, m1, m2, m3, f, g] 89)).alloc (.cells #[.int .i64 y, .int .i64 m, .int .i64 d] 50)).heap.size → W.cell? p = ((w.alloc (.cells #[e, .slice A n c, m1, m2, m3, f, g] 89)).alloc (.cells #[.int .i64 y, .int .i64 m, .int .i64 d] 50)).cell? p) ∧ Below ((w.alloc (.cells #[e, .slice A n c, m1, m2, m3, f, g] 89)).alloc (.cells #[.int .i64 y, .int .i64 m, .int .i64 d] 50)).heap.size ((w.alloc (.cells #[e, .slice A n c, m1, m2, m3, f, g] 89)).alloc (.cells #[.int .i64 y, .int .i64 m, .int .i64 d] 50)) W) (by kernel_rfl) ⟨fun _ _ => rfl, fr_drew (fr_refl _)⟩ (fun hHeld => ?_)
 -- the region, step by step
 refine wpAnyH_take (i := 0) (oi := ⟨some 5, .fieldAddr 50 (.tmp 3) 0, 0, "dial.go:94", #[], none⟩) (v := ?_) rfl (by kernel_rfl) (by kernel_rfl) (by kernel_rfl) (fun _ _ _ h => h) (Or.inl ⟨by rfl, fun W hSw => ?_⟩) hHeld ?_
 rotate_left
 ·(try dsimp only at hSw); go_simp; (try with_reducible rfl)
 (try simp only [Act.put, List.setIfInBounds_toArray, List.set_cons_zero, List.set_cons_succ])
 refine wpAnyH_take (i := 1) (oi := ⟨some 6, .load 3 (.tmp 5), 3, "dial.go:94", #[⟨0, .data⟩], none⟩) (v := ?_) rfl (by kernel_rfl) (by kernel_rfl) (by kernel_rfl) (fun _ _ _ h => h) (Or.inl ⟨by rfl, fun W hSw => ?_⟩) hHeld ?_
 rotate_left
 ·(try dsimp only at hSw); go_simp; (try with_reducible rfl)
 (try simp only [Act.put, List.setIfInBounds_toArray, List.set_cons_zero, List.set_cons_succ])
 refine wpAnyH_ready (rs := [2]) (by kernel_rfl) (by simp) ?_
 refine AllReadyH.cons (o := ⟨some 7, .call { callee := .value (.func 58), args := #[.tmp 6], argTypes := #[3] }, 4, "dial.go:94", #[⟨1, .data⟩], none⟩) rfl (fun K hK => ?_) AllReadyH.nil
 go_simp
 refine (isYear_is _ _ _ hb1).mono ?_
 rintro e' w' ⟨rfl, rfl⟩
 refine hK.out _ _ (hHeld) (fun hHeld => ?_)
 clear hK K
 (try simp only [Act.put, List.setIfInBounds_toArray, List.set_cons_zero, List.set_cons_succ])
 refine wpAnyH_take (i := 3) (oi := ⟨some 8, .move (.tmp 7), 4, "dial.go:94", #[⟨2, .data⟩, ⟨2, .chain⟩], none⟩) (v := ?_) rfl (by kernel_rfl) (by kernel_rfl) (by kernel_rfl) (fun _ _ _ h => h) (Or.inl ⟨by rfl, fun W hSw => ?_⟩) hHeld ?_
 rotate_left
 ·(try dsimp only at hSw); go_simp; (try with_reducible rfl)
 (try simp only [Act.put, List.setIfInBounds_toArray, List.set_cons_zero, List.set_cons_succ])
 refine wpAnyH_take (i := 4) (oi := ⟨some 9, .fieldAddr 50 (.tmp 3) 1, 0, "dial.go:94", #[⟨3, .guard⟩], some (3, true)⟩) (v := ?_) rfl (by kernel_rfl) (by kernel_rfl) (by kernel_rfl) (fun _ _ _ h => h) (Or.inl ⟨by rfl, fun W hSw => ?_⟩) hHeld ?_
 rotate_left
 ·(try dsimp only at hSw); go_simp; (try with_reducible rfl)
 (try simp only [Act.put, List.setIfInBounds_toArray, List.set_cons_zero, List.set_cons_succ])
 refine wpAnyH_take (i := 5) (oi := ⟨some 10, .load 3 (.tmp 9), 3, "dial.go:94", #[⟨4, .data⟩, ⟨3, .guard⟩], some (3, true)⟩) (v := ?_) rfl (by kernel_rfl) (by kernel_rfl) (by kernel_rfl) (fun _ _ _ h => h) (Or.inl ⟨by rfl, fun W hSw => ?_⟩) hHeld ?_
 rotate_left
 ·(try dsimp only at hSw); go_simp; (try with_reducible rfl)
 (try simp only [Act.put, List.setIfInBounds_toArray, List.set_cons_zero, List.set_cons_succ])
 refine wpAnyH_ready (rs := [6]) (by kernel_rfl) (by simp) ?_
 refine AllReadyH.cons (o := ⟨some 11, .call { callee := .value (.func 61), args := #[.tmp 10, .const (.int .i64 1), .const (.int .i64 12)], argTypes := #[3, 3, 3] }, 4, "dial.go:94", #[⟨5, .data⟩, ⟨3, .chain⟩, ⟨3, .guard⟩], some (3, true)⟩) rfl (fun K hK => ?_) AllReadyH.nil
 go_simp
 refine (in_is _ _ _ _ _ hb2).mono ?_
 rintro e' w' ⟨rfl, rfl⟩
 refine hK.out _ _ (hHeld) (fun hHeld => ?_)
 clear hK K
 (try simp only [Act.put, List.setIfInBounds_toArray, List.set_cons_zero, List.set_cons_succ])
 refine wpAnyH_take (i := 7) (oi := ⟨some 12, .pick (.tmp 8) (.tmp 11) (.const (.bool false)), 4, "dial.go:94", #[⟨3, .data⟩, ⟨6, .data⟩], none⟩) (v := ?_) rfl (by kernel_rfl) (by kernel_rfl) (by kernel_rfl) (fun _ _ _ h => h) (Or.inl ⟨by rfl, fun W hSw => ?_⟩) hHeld ?_
 rotate_left
 ·(try dsimp only at hSw); go_simp; (try with_reducible rfl)
 (try simp only [Act.put, List.setIfInBounds_toArray, List.set_cons_zero, List.set_cons_succ])
 refine wpAnyH_take (i := 8) (oi := ⟨some 13, .move (.tmp 12), 4, "dial.go:94", #[⟨7, .data⟩, ⟨6, .chain⟩], none⟩) (v := ?_) rfl (by kernel_rfl) (by kernel_rfl) (by kernel_rfl) (fun _ _ _ h => h) (Or.inl ⟨by rfl, fun W hSw => ?_⟩) hHeld ?_
 rotate_left
 ·(try dsimp only at hSw); go_simp; (try with_reducible rfl)
 (try simp only [Act.put, List.setIfInBounds_toArray, List.set_cons_zero, List.set_cons_succ])
 refine wpAnyH_take (i := 9) (oi := ⟨some 14, .fieldAddr 50 (.tmp 3) 2, 0, "dial.go:94", #[⟨8, .guard⟩], some (8, true)⟩) (v := ?_) rfl (by kernel_rfl) (by kernel_rfl) (by kernel_rfl) (fun _ _ _ h => h) (Or.inl ⟨by rfl, fun W hSw => ?_⟩) hHeld ?_
 rotate_left
 ·(try dsimp only at hSw); go_simp; (try with_reducible rfl)
 (try simp only [Act.put, List.setIfInBounds_toArray, List.set_cons_zero, List.set_cons_succ])
 refine wpAnyH_take (i := 10) (oi := ⟨some 15, .load 3 (.tmp 14), 3, "dial.go:94", #[⟨9, .data⟩, ⟨8, .guard⟩], some (8, true)⟩) (v := ?_) rfl (by kernel_rfl) (by kernel_rfl) (by kernel_rfl) (fun _ _ _ h => h) (Or.inl ⟨by rfl, fun W hSw => ?_⟩) hHeld ?_
 rotate_left
 ·(try dsimp only at hSw); go_simp; (try with_reducible rfl)
 (try simp only [Act.put, List.setIfInBounds_toArray, List.set_cons_zero, List.set_cons_succ])
 refine wpAnyH_take (i := 11) (oi := ⟨some 16, .load 89 (.tmp 2), 89, "dial.go:94", #[⟨8, .guard⟩], some (8, true)⟩) (v := ?_) rfl (by kernel_rfl) (by kernel_rfl) (by kernel_rfl) (fun _ _ _ h => h) (Or.inl ⟨by rfl, fun W hSw => ?_⟩) hHeld ?_
 rotate_left
 ·(try dsimp only at hSw); go_simp; (try with_reducible rfl)
 (try simp only [Act.put, List.setIfInBounds_toArray, List.set_cons_zero, List.set_cons_succ])
 refine wpAnyH_take (i := 12) (oi := ⟨some 17, .fieldAddr 50 (.tmp 3) 0, 0, "dial.go:94", #[⟨8, .guard⟩], some (8, true)⟩) (v := ?_) rfl (by kernel_rfl) (by kernel_rfl) (by kernel_rfl) (fun _ _ _ h => h) (Or.inl ⟨by rfl, fun W hSw => ?_⟩) hHeld ?_
 rotate_left
 ·(try dsimp only at hSw); go_simp; (try with_reducible rfl)
 (try simp only [Act.put, List.setIfInBounds_toArray, List.set_cons_zero, List.set_cons_succ])
 refine wpAnyH_take (i := 13) (oi := ⟨some 18, .load 3 (.tmp 17), 3, "dial.go:94", #[⟨12, .data⟩, ⟨8, .guard⟩], some (8, true)⟩) (v := ?_) rfl (by kernel_rfl) (by kernel_rfl) (by kernel_rfl) (fun _ _ _ h => h) (Or.inl ⟨by rfl, fun W hSw => ?_⟩) hHeld ?_
 rotate_left
 ·(try dsimp only at hSw); go_simp; (try with_reducible rfl)
 (try simp only [Act.put, List.setIfInBounds_toArray, List.set_cons_zero, List.set_cons_succ])
 refine wpAnyH_take (i := 16) (oi := ⟨some 21, .fieldAddr 50 (.tmp 3) 1, 0, "dial.go:94", #[⟨8, .guard⟩], some (8, true)⟩) (v := ?_) rfl (by kernel_rfl) (by kernel_rfl) (by kernel_rfl) (fun _ _ _ h => h) (Or.inl ⟨by rfl, fun W hSw => ?_⟩) hHeld ?_
 rotate_left
 ·(try dsimp only at hSw); go_simp; (try with_reducible rfl)
 (try simp only [Act.put, List.setIfInBounds_toArray, List.set_cons_zero, List.set_cons_succ])
 refine wpAnyH_take (i := 17) (oi := ⟨some 22, .load 3 (.tmp 21), 3, "dial.go:94", #[⟨16, .data⟩, ⟨8, .guard⟩], some (8, true)⟩) (v := ?_) rfl (by kernel_rfl) (by kernel_rfl) (by kernel_rfl) (fun _ _ _ h => h) (Or.inl ⟨by rfl, fun W hSw => ?_⟩) hHeld ?_
 rotate_left
 ·(try dsimp only at hSw); go_simp; (try with_reducible rfl)
 (try simp only [Act.put, List.setIfInBounds_toArray, List.set_cons_zero, List.set_cons_succ])
 refine wpAnyH_take (i := 18) (oi := ⟨some 23, .binOp .sub 3 (.tmp 22) (.const (.int .i64 1)) 3, 3, "dial.go:94", #[⟨17, .data⟩, ⟨8, .guard⟩], some (8, true)⟩) (v := ?_) rfl (by kernel_rfl) (by kernel_rfl) (by kernel_rfl) (fun _ _ _ h => h) (Or.inl ⟨by rfl, fun W hSw => ?_⟩) hHeld ?_
 rotate_left
 ·(try dsimp only at hSw); go_simp; (try with_reducible rfl)
 (try simp only [Act.put, List.setIfInBounds_toArray, List.set_cons_zero, List.set_cons_succ])
 refine wpAnyH_ready (rs := [14]) (by kernel_rfl) (by simp) ?_
 refine AllReadyH.cons (o := ⟨some 19, .call { callee := .value (.func 60), args := #[.tmp 16, .tmp 18], argTypes := #[89, 3] }, 4, "dial.go:94", #[⟨11, .data⟩, ⟨13, .data⟩, ⟨8, .chain⟩, ⟨8, .guard⟩], some (8, true)⟩) rfl (fun K hK => ?_) AllReadyH.nil
 go_simp
 refine (leap_any A n c cs _ _ _ _ _ _ y _ (hr0.keep hHeld.2) hn hpos hy1 (by omega)).mono ?_
 rintro e' w1 ⟨rfl, hb⟩
 refine hK.out _ _ (kp_step hb hHeld) (fun hHeld => ?_)
 clear hK K
 (try simp only [Act.put, List.setIfInBounds_toArray, List.set_cons_zero, List.set_cons_succ])
 refine wpAnyH_ready (rs := [15]) (by kernel_rfl) (by simp) ?_
 refine AllReadyH.cons (o := ⟨some 20, .call { callee := .value (.func 89), args := #[.tmp 19], argTypes := #[4] }, 22, "dial.go:94", #[⟨14, .data⟩, ⟨14, .chain⟩, ⟨8, .guard⟩], some (8, true)⟩) rfl (fun K hK => ?_) AllReadyH.nil
 go_simp
 refine (months_any _ _).mono ?_
 rintro e' w2 ⟨gm, rfl, hrm, hb⟩
 have hrow := hrm.row (m.toNat - 1) (by omega)
 rw [mtab_at _ _ hm1 hm2] at hrow
 refine hK.out _ _ (kp_step hb hHeld) (fun hHeld => ?_)
 clear hK K
 (try simp only [Act.put, List.setIfInBounds_toArray, List.set_cons_zero, List.set_cons_succ])
 refine wpAnyH_mono (S' := fun W => ((∀ p : Addr, p.block < ((w.alloc (.cells #[e, .slice A n c, m1, m2, m3, f, g] 89)).alloc (.cells #[.int .i64 y, .int .i64 m, .int .i64 d] 50)).heap.size → W.cell? p = ((w.alloc (.cells #[e, .slice A n c, m1, m2, m3, f, g] 89)).alloc (.cells #[.int .i64 y, .int .i64 m, .int .i64 d] 50)).cell? p) ∧ Below ((w.alloc (.cells #[e, .slice A n c, m1, m2, m3, f, g] 89)).alloc (.cells #[.int .i64 y, .int .i64 m, .int .i64 d] 50)).heap.size ((w.alloc (.cells #[e, .slice A n c, m1, m2, m3, f, g] 89)).alloc (.cells #[.int .i64 y, .int .i64 m, .int .i64 d] 50)) W) ∧ W.cell? ⟨gm, m.toNat - 1, none⟩ = some (.int .i64 (mlen (leapB cs y) m))) (fun _ h => h.1) _ _ _ _ ?_
 replace hHeld := And.intro hHeld hrow
 refine wpAnyH_take (i := 19) (oi := ⟨some 24, .indexAddr 22 (.tmp 20) (.tmp 23), 0, "dial.go:94", #[⟨15, .data⟩, ⟨18, .data⟩, ⟨8, .guard⟩], some (8, true)⟩) (v := ?_) rfl (by kernel_rfl) (by kernel_rfl) (by kernel_rfl) (fun _ _ _ h => h) (Or.inl ⟨by rfl, fun W hSw => ?_⟩) hHeld ?_
 rotate_left
 ·(try dsimp only at hSw); go_simp; (try with_reducible rfl)
 (try simp only [Act.put, List.setIfInBounds_toArray, List.set_cons_zero, List.set_cons_succ])
 refine wpAnyH_take (i := 20) (oi := ⟨some 25, .load 3 (.tmp 24), 3, "dial.go:94", #[⟨19, .data⟩, ⟨8, .guard⟩], some (8, true)⟩) (v := ?_) rfl (by kernel_rfl) (by kernel_rfl) (by kernel_rfl) (fun _ _ _ h => h) (Or.inl ⟨by rfl, fun W hSw => ?_⟩) hHeld ?_
 rotate_left
 ·(try dsimp only at hSw); go_simp; (try with_reducible rfl)
 (try simp only [Act.put, List.setIfInBounds_toArray, List.set_cons_zero, List.set_cons_succ])
 refine wpAnyH_ready (rs := [21]) (by kernel_rfl) (by simp) ?_
 refine AllReadyH.cons (o := ⟨some 26, .call { callee := .value (.func 61), args := #[.tmp 15, .const (.int .i64 1), .tmp 25], argTypes := #[3, 3, 3] }, 4, "dial.go:94", #[⟨10, .data⟩, ⟨20, .data⟩, ⟨15, .chain⟩, ⟨8, .guard⟩], some (8, true)⟩) rfl (fun K hK => ?_) AllReadyH.nil
 go_simp
 refine (in_is _ _ _ _ _ rfl).mono ?_
 rintro e' w3 ⟨rfl, rfl⟩
 refine hK.out _ _ (hHeld) (fun hHeld => ?_)
 clear hK K
 (try simp only [Act.put, List.setIfInBounds_toArray, List.set_cons_zero, List.set_cons_succ])
 refine wpAnyH_take (i := 22) (oi := ⟨some 27, .pick (.tmp 13) (.tmp 26) (.const (.bool false)), 4, "dial.go:94", #[⟨8, .data⟩, ⟨21, .data⟩], none⟩) (v := ?_) rfl (by kernel_rfl) (by kernel_rfl) (by kernel_rfl) (fun _ _ _ h => h) (Or.inl ⟨by rfl, fun W hSw => ?_⟩) hHeld ?_
 rotate_left
 ·(try dsimp only at hSw); go_simp; (try with_reducible rfl)
 (try simp only [Act.put, List.setIfInBounds_toArray, List.set_cons_zero, List.set_cons_succ])
 refine wpAnyH_take (i := 23) (oi := ⟨some 4, .assign (.tmp 27), 4, "dial.go:94", #[⟨22, .data⟩, ⟨21, .chain⟩, ⟨0, .phase⟩, ⟨1, .phase⟩, ⟨2, .phase⟩, ⟨3, .phase⟩, ⟨4, .phase⟩, ⟨5, .phase⟩, ⟨6, .phase⟩, ⟨7, .phase⟩, ⟨8, .phase⟩, ⟨9, .phase⟩, ⟨10, .phase⟩, ⟨11, .phase⟩, ⟨12, .phase⟩, ⟨13, .phase⟩, ⟨14, .phase⟩, ⟨15, .phase⟩, ⟨16, .phase⟩, ⟨17, .phase⟩, ⟨18, .phase⟩, ⟨19, .phase⟩, ⟨20, .phase⟩, ⟨21, .phase⟩, ⟨22, .phase⟩], none⟩) (v := ?_) rfl (by kernel_rfl) (by kernel_rfl) (by kernel_rfl) (fun _ _ _ h => h) (Or.inl ⟨by rfl, fun W hSw => ?_⟩) hHeld ?_
 rotate_left
 ·(try dsimp only at hSw); go_simp; (try with_reducible rfl)
 (try simp only [Act.put, List.setIfInBounds_toArray, List.set_cons_zero, List.set_cons_succ])
 refine wpAnyH_done (by kernel_rfl) ?_ _
 refine NoPanic.normal ?_
 go_wp2
 go_ret
 exact ⟨rfl, fr_call (fr_alloc (fr_alloc (fr_refl _) _) _) hHeld.1.2⟩

/-- the first days of the years 0 to 4001 -/
def firsts (e : Int) (cs : List Int) : List Int := (List.range 4002).map (firstN e cs)
theorem firsts_len (e : Int) (cs : List Int) : (firsts e cs).length = 4002 := by unfold firsts; rw [List.length_map, List.length_range]
theorem firsts_at (e : Int) (cs : List Int) (k : Nat) (h : k < 4002) : (firsts e cs)[k]?.getD 0 = firstN e cs k := by
 unfold firsts; rw [List.getElem?_map, List.getElem?_range h]; rfl
theorem fst_at {w : World} {F : Option Addr} {e : Int} {cs : List Int} (h : Rd w F 4002 (firsts e cs)) {y : Int} (h0 : 0 ≤ y) (h1 : y ≤ 4001) :
  ∃ ad, F = some ad ∧ ad.block < w.heap.size ∧ w.cell? (ad.add y.toNat) = some (.int .i64 (firstDay e cs y)) := by
 obtain ⟨ad, e1, hb, hc⟩ := h.at_ (k := y.toNat) (by omega)
 exact ⟨ad, e1, hb, by rw [hc, firsts_at _ _ _ (by omega)]; rfl⟩

theorem mtab_cum (b : Bool) (m : Int) (h1 : 1 ≤ m) (h2 : m ≤ 12) : ((mtab b).take (m.toNat - 1)).sum = cum b m := by
 rcases twelve h1 h2 with rfl | rfl | rfl | rfl | rfl | rfl | rfl | rfl | rfl | rfl | rfl | rfl <;> cases b <;> rfl
theorem mtab_take_bounds (b : Bool) (j : Nat) : ∀ k, k < ((mtab b).take j).length → 0 ≤ ((mtab b).take j)[k]?.getD 0 ∧ ((mtab b).take j)[k]?.getD 0 ≤ 1000 := by
 intro k hk
 rw [List.length_take] at hk
 rw [List.getElem?_take, if_pos (by omega)]
 exact mtab_bounds b k (by omega)
theorem cum_bounds (b : Bool) (m : Int) (h1 : 1 ≤ m) (h2 : m ≤ 12) : 0 ≤ cum b m ∧ cum b m ≤ 335 := by
 rcases twelve h1 h2 with rfl | rfl | rfl | rfl | rfl | rfl | rfl | rfl | rfl | rfl | rfl | rfl <;> cases b <;> decide

set_option maxRecDepth 100000 in
set_option maxHeartbeats 2000000 in
theorem day_any (A F : Option Addr) (n c fc : Nat) (cs : List Int) (e : Int) (m1 m2 m3 g : Value) (y m d : Int) (w : World) (hr : Rd w A n cs) (hn : n ≤ 3) (hpos : Cyc cs) (hF : Rd w F 4002 (firsts e cs))
  (he : 0 ≤ e ∧ e ≤ 1000) (hy : 0 ≤ y ∧ y ≤ 4000) (hm : 1 ≤ m ∧ m ≤ 12) (hd : 1 ≤ d ∧ d ≤ 31) :
  Calls Tryz.prog 52 #[.agg #[.int .i64 e, .slice A n c, m1, m2, m3, .slice F 4002 fc, g], .agg #[.int .i64 y, .int .i64 m, .int .i64 d]] w fun e' w' =>
   e' = .returned (.int .i64 (dayOf e cs ⟨y, m, d⟩)) ∧ Below w.heap.size w w' := by
 obtain ⟨hy1, hy2⟩ := hy
 obtain ⟨hm1, hm2⟩ := hm
 obtain ⟨hd1, hd2⟩ := hd
 have hwm : IntKind.i64.wrap (m - 1) = m - 1 := IntWalk.i64_in _ (by omega)
 have hi0 : 0 ≤ m - 1 := by omega
 have hi1 : m - 1 ≤ 12 := by omega
 have hy3 : y < 4002 := by omega
 obtain ⟨ad, rfl, hab, hfc⟩ := fst_at hF hy1 (by omega)
 have hcb := cum_bounds (leapB cs y) m hm1 hm2
 have hfb := firstDay_bounds e cs y hy1
 have hadN : (ad.add y.toNat).block < w.heap.size + 2 := by rw [block_of_add]; omega
 generalize hf : firstDay e cs y = fy at *
 generalize hq : cum (leapB cs y) m = cm at *
 have hw1 : IntKind.i64.wrap (fy + cm) = fy + cm := IntWalk.i64_in _ (by omega)
 have hw2 : IntKind.i64.wrap (fy + cm + d) = fy + cm + d := IntWalk.i64_in _ (by omega)
 have hw3 : IntKind.i64.wrap (fy + cm + d - 1) = fy + cm + d - 1 := IntWalk.i64_in _ (by omega)
 have hfc2 : ((w.alloc (.cells #[.int .i64 e, .slice A n c, m1, m2, m3, .slice (some ad) 4002 fc, g] 89)).alloc (.cells #[.int .i64 y, .int .i64 m, .int .i64 d] 50)).cell? (ad.add y.toNat) = some (.int .i64 fy) := by
  rw [World.cell?_alloc_lt, World.cell?_alloc_lt]
  ·exact hfc
  ·rw [block_of_add]; exact hab
  ·rw [block_of_add]; simp; omega
 have HF := Lib.hid hf
 have HQ := Lib.hid hq
 clear hf hq hF hfc
 go_enter Tryz.func52, Tryz.ntmps52
 go_wp2_with fail
 have hr0 := (hr.alloc (.cells #[.int .i64 e, .slice A n c, m1, m2, m3, .slice (some ad) 4002 fc, g] 89)).alloc (.cells #[.int .i64 y, .int .i64 m, .int .i64 d] 50)
 refine wp_region_noPanic ?_
 refine wp_region_held_drew (S := fun W => (∀ p : Addr, p.block < ((w.alloc (.cells #[.int .i64 e, .slice A n c, m1, m2, m3, .slice (some ad) 4002 fc, g] 89)).alloc (.cells #[.int .i64 y, .int .i64 m, .int .i64 d] 50)).heap.size → W.cell? p = ((w.alloc (.cells #[.int .i64 e, .slice A n c, m1, m2, m3, .slice (some ad) 4002 fc, g] 89)).alloc (.cells #[.int .i64 y, .int .i64 m, .int .i64 d] 50)).cell? p) ∧ Below ((w.alloc (.cells #[.int .i64 e, .slice A n c, m1, m2, m3, .slice (some ad) 4002 fc, g] 89)).alloc (.cells #[.int .i64 y, .int .i64 m, .int .i64 d] 50)).heap.size ((w.alloc (.cells #[.int .i64 e, .slice A n c, m1, m2, m3, .slice (some ad) 4002 fc, g] 89)).alloc (.cells #[.int .i64 y, .int .i64 m, .int .i64 d] 50)) W) (by kernel_rfl) ⟨fun _ _ => rfl, fr_drew (fr_refl _)⟩ (fun hHeld => ?_)
 -- the region, step by step
 refine wpAnyH_take (i := 0) (oi := ⟨some 5, .fieldAddr 89 (.tmp 2) 2, 0, "dial.go:99", #[], none⟩) (v := ?_) rfl (by kernel_rfl) (by kernel_rfl) (by kernel_rfl) (fun _ _ _ h => h) (Or.inl ⟨by rfl, fun W hSw => ?_⟩) hHeld ?_
 rotate_left
 ·(try dsimp only at hSw); go_simp; (try with_reducible rfl)
 (try simp only [Act.put, List.setIfInBounds_toArray, List.set_cons_zero, List.set_cons_succ])
 refine wpAnyH_take (i := 1) (oi := ⟨some 6, .load 22 (.tmp 5), 22, "dial.go:99", #[⟨0, .data⟩], none⟩) (v := ?_) rfl (by kernel_rfl) (by kernel_rfl) (by kernel_rfl) (fun _ _ _ h => h) (Or.inl ⟨by rfl, fun W hSw => ?_⟩) hHeld ?_
 rotate_left
 ·(try dsimp only at hSw); go_simp; (try with_reducible rfl)
 (try simp only [Act.put, List.setIfInBounds_toArray, List.set_cons_zero, List.set_cons_succ])
 refine wpAnyH_take (i := 2) (oi := ⟨some 7, .fieldAddr 50 (.tmp 3) 0, 0, "dial.go:99", #[], none⟩) (v := ?_) rfl (by kernel_rfl) (by kernel_rfl) (by kernel_rfl) (fun _ _ _ h => h) (Or.inl ⟨by rfl, fun W hSw => ?_⟩) hHeld ?_
 rotate_left
 ·(try dsimp only at hSw); go_simp; (try with_reducible rfl)
 (try simp only [Act.put, List.setIfInBounds_toArray, List.set_cons_zero, List.set_cons_succ])
 refine wpAnyH_take (i := 3) (oi := ⟨some 8, .load 3 (.tmp 7), 3, "dial.go:99", #[⟨2, .data⟩], none⟩) (v := ?_) rfl (by kernel_rfl) (by kernel_rfl) (by kernel_rfl) (fun _ _ _ h => h) (Or.inl ⟨by rfl, fun W hSw => ?_⟩) hHeld ?_
 rotate_left
 ·(try dsimp only at hSw); go_simp; (try with_reducible rfl)
 (try simp only [Act.put, List.setIfInBounds_toArray, List.set_cons_zero, List.set_cons_succ])
 refine wpAnyH_take (i := 4) (oi := ⟨some 9, .indexAddr 22 (.tmp 6) (.tmp 8), 0, "dial.go:99", #[⟨1, .data⟩, ⟨3, .data⟩], none⟩) (v := ?_) rfl (by kernel_rfl) (by kernel_rfl) (by kernel_rfl) (fun _ _ _ h => h) (Or.inl ⟨by rfl, fun W hSw => ?_⟩) hHeld ?_
 rotate_left
 ·(try dsimp only at hSw); go_simp; (try with_reducible rfl)
 (try simp only [Act.put, List.setIfInBounds_toArray, List.set_cons_zero, List.set_cons_succ])
 refine wpAnyH_take (i := 5) (oi := ⟨some 10, .load 3 (.tmp 9), 3, "dial.go:99", #[⟨4, .data⟩], none⟩) (v := ?_) rfl (by kernel_rfl) (by kernel_rfl) (by kernel_rfl) (fun _ _ _ h => h) (Or.inl ⟨by rfl, fun W hSw => ?_⟩) hHeld ?_
 rotate_left
 ·(try dsimp only at hSw); go_simp; (try with_reducible rfl)
 (try simp only [Act.put, List.setIfInBounds_toArray, List.set_cons_zero, List.set_cons_succ])
 refine wpAnyH_take (i := 6) (oi := ⟨some 11, .load 89 (.tmp 2), 89, "dial.go:99", #[], none⟩) (v := ?_) rfl (by kernel_rfl) (by kernel_rfl) (by kernel_rfl) (fun _ _ _ h => h) (Or.inl ⟨by rfl, fun W hSw => ?_⟩) hHeld ?_
 rotate_left
 ·(try dsimp only at hSw); go_simp; (try with_reducible rfl)
 (try simp only [Act.put, List.setIfInBounds_toArray, List.set_cons_zero, List.set_cons_succ])
 refine wpAnyH_take (i := 7) (oi := ⟨some 12, .fieldAddr 50 (.tmp 3) 0, 0, "dial.go:99", #[], none⟩) (v := ?_) rfl (by kernel_rfl) (by kernel_rfl) (by kernel_rfl) (fun _ _ _ h => h) (Or.inl ⟨by rfl, fun W hSw => ?_⟩) hHeld ?_
 rotate_left
 ·(try dsimp only at hSw); go_simp; (try with_reducible rfl)
 (try simp only [Act.put, List.setIfInBounds_toArray, List.set_cons_zero, List.set_cons_succ])
 refine wpAnyH_take (i := 8) (oi := ⟨some 13, .load 3 (.tmp 12), 3, "dial.go:99", #[⟨7, .data⟩], none⟩) (v := ?_) rfl (by kernel_rfl) (by kernel_rfl) (by kernel_rfl) (fun _ _ _ h => h) (Or.inl ⟨by rfl, fun W hSw => ?_⟩) hHeld ?_
 rotate_left
 ·(try dsimp only at hSw); go_simp; (try with_reducible rfl)
 (try simp only [Act.put, List.setIfInBounds_toArray, List.set_cons_zero, List.set_cons_succ])
 refine wpAnyH_take (i := 11) (oi := ⟨some 16, .fieldAddr 50 (.tmp 3) 1, 0, "dial.go:99", #[], none⟩) (v := ?_) rfl (by kernel_rfl) (by kernel_rfl) (by kernel_rfl) (fun _ _ _ h => h) (Or.inl ⟨by rfl, fun W hSw => ?_⟩) hHeld ?_
 rotate_left
 ·(try dsimp only at hSw); go_simp; (try with_reducible rfl)
 (try simp only [Act.put, List.setIfInBounds_toArray, List.set_cons_zero, List.set_cons_succ])
 refine wpAnyH_take (i := 12) (oi := ⟨some 17, .load 3 (.tmp 16), 3, "dial.go:99", #[⟨11, .data⟩], none⟩) (v := ?_) rfl (by kernel_rfl) (by kernel_rfl) (by kernel_rfl) (fun _ _ _ h => h) (Or.inl ⟨by rfl, fun W hSw => ?_⟩) hHeld ?_
 rotate_left
 ·(try dsimp only at hSw); go_simp; (try with_reducible rfl)
 (try simp only [Act.put, List.setIfInBounds_toArray, List.set_cons_zero, List.set_cons_succ])
 refine wpAnyH_take (i := 13) (oi := ⟨some 18, .binOp .sub 3 (.tmp 17) (.const (.int .i64 1)) 3, 3, "dial.go:99", #[⟨12, .data⟩], none⟩) (v := ?_) rfl (by kernel_rfl) (by kernel_rfl) (by kernel_rfl) (fun _ _ _ h => h) (Or.inl ⟨by rfl, fun W hSw => ?_⟩) hHeld ?_
 rotate_left
 ·(try dsimp only at hSw); go_simp; (try with_reducible rfl)
 (try simp only [Act.put, List.setIfInBounds_toArray, List.set_cons_zero, List.set_cons_succ])
 refine wpAnyH_take (i := 17) (oi := ⟨some 22, .fieldAddr 50 (.tmp 3) 2, 0, "dial.go:99", #[], none⟩) (v := ?_) rfl (by kernel_rfl) (by kernel_rfl) (by kernel_rfl) (fun _ _ _ h => h) (Or.inl ⟨by rfl, fun W hSw => ?_⟩) hHeld ?_
 rotate_left
 ·(try dsimp only at hSw); go_simp; (try with_reducible rfl)
 (try simp only [Act.put, List.setIfInBounds_toArray, List.set_cons_zero, List.set_cons_succ])
 refine wpAnyH_take (i := 18) (oi := ⟨some 23, .load 3 (.tmp 22), 3, "dial.go:99", #[⟨17, .data⟩], none⟩) (v := ?_) rfl (by kernel_rfl) (by kernel_rfl) (by kernel_rfl) (fun _ _ _ h => h) (Or.inl ⟨by rfl, fun W hSw => ?_⟩) hHeld ?_
 rotate_left
 ·(try dsimp only at hSw); go_simp; (try with_reducible rfl)
 (try simp only [Act.put, List.setIfInBounds_toArray, List.set_cons_zero, List.set_cons_succ])
 refine wpAnyH_ready (rs := [9]) (by kernel_rfl) (by simp) ?_
 refine AllReadyH.cons (o := ⟨some 14, .call { callee := .value (.func 60), args := #[.tmp 11, .tmp 13], argTypes := #[89, 3] }, 4, "dial.go:99", #[⟨6, .data⟩, ⟨8, .data⟩], none⟩) rfl (fun K hK => ?_) AllReadyH.nil
 go_simp
 refine (leap_any A n c cs _ _ _ _ _ _ y _ (hr0.keep hHeld.2) hn hpos hy1 (by omega)).mono ?_
 rintro e' w1 ⟨rfl, hb⟩
 refine hK.out _ _ (kp_step hb hHeld) (fun hHeld => ?_)
 clear hK K
 (try simp only [Act.put, List.setIfInBounds_toArray, List.set_cons_zero, List.set_cons_succ])
 refine wpAnyH_ready (rs := [10]) (by kernel_rfl) (by simp) ?_
 refine AllReadyH.cons (o := ⟨some 15, .call { callee := .value (.func 89), args := #[.tmp 14], argTypes := #[4] }, 22, "dial.go:99", #[⟨9, .data⟩, ⟨9, .chain⟩], none⟩) rfl (fun K hK => ?_) AllReadyH.nil
 go_simp
 refine (months_any _ _).mono ?_
 rintro e' w2 ⟨gm, rfl, hrm, hb⟩
 refine hK.out _ _ (kp_step hb hHeld) (fun hHeld => ?_)
 clear hK K
 (try simp only [Act.put, List.setIfInBounds_toArray, List.set_cons_zero, List.set_cons_succ])
 refine wpAnyH_take (i := 14) (oi := ⟨some 19, .slice 22 (.tmp 15) none (some (.tmp 18)) none, 22, "dial.go:99", #[⟨10, .data⟩, ⟨13, .data⟩], none⟩) (v := ?_) rfl (by kernel_rfl) (by kernel_rfl) (by kernel_rfl) (fun _ _ _ h => h) (Or.inl ⟨by rfl, fun W hSw => ?_⟩) hHeld ?_
 rotate_left
 ·(try dsimp only at hSw); go_simp; (try with_reducible rfl)
 (try simp only [Act.put, List.setIfInBounds_toArray, List.set_cons_zero, List.set_cons_succ])
 refine wpAnyH_ready (rs := [15]) (by kernel_rfl) (by simp) ?_
 refine AllReadyH.cons (o := ⟨some 20, .call { callee := .value (.func 90), args := #[.tmp 19], argTypes := #[22] }, 3, "dial.go:99", #[⟨14, .data⟩, ⟨10, .chain⟩], none⟩) rfl (fun K hK => ?_) AllReadyH.nil
 go_simp
 refine (sum_any _ _ _ _ _ (hrm.take (k := m.toNat - 1) (by omega)) (by omega) (mtab_take_bounds _ _)).mono ?_
 rw [mtab_cum _ _ hm1 hm2, HQ.out]
 rintro e' w3 ⟨rfl, rfl⟩
 refine hK.out _ _ (hHeld) (fun hHeld => ?_)
 clear hK K
 (try simp only [Act.put, List.setIfInBounds_toArray, List.set_cons_zero, List.set_cons_succ])
 refine wpAnyH_take (i := 16) (oi := ⟨some 21, .binOp .add 3 (.tmp 10) (.tmp 20) 3, 3, "dial.go:99", #[⟨5, .data⟩, ⟨15, .data⟩], none⟩) (v := ?_) rfl (by kernel_rfl) (by kernel_rfl) (by kernel_rfl) (fun _ _ _ h => h) (Or.inl ⟨by rfl, fun W hSw => ?_⟩) hHeld ?_
 rotate_left
 ·(try dsimp only at hSw); go_simp; (try with_reducible rfl)
 (try simp only [Act.put, List.setIfInBounds_toArray, List.set_cons_zero, List.set_cons_succ])
 refine wpAnyH_take (i := 19) (oi := ⟨some 24, .binOp .add 3 (.tmp 21) (.tmp 23) 3, 3, "dial.go:99", #[⟨16, .data⟩, ⟨18, .data⟩], none⟩) (v := ?_) rfl (by kernel_rfl) (by kernel_rfl) (by kernel_rfl) (fun _ _ _ h => h) (Or.inl ⟨by rfl, fun W hSw => ?_⟩) hHeld ?_
 rotate_left
 ·(try dsimp only at hSw); go_simp; (try with_reducible rfl)
 (try simp only [Act.put, List.setIfInBounds_toArray, List.set_cons_zero, List.set_cons_succ])
 refine wpAnyH_take (i := 20) (oi := ⟨some 25, .binOp .sub 3 (.tmp 24) (.const (.int .i64 1)) 3, 3, "dial.go:99", #[⟨19, .data⟩], none⟩) (v := ?_) rfl (by kernel_rfl) (by kernel_rfl) (by kernel_rfl) (fun _ _ _ h => h) (Or.inl ⟨by rfl, fun W hSw => ?_⟩) hHeld ?_
 rotate_left
 ·(try dsimp only at hSw); go_simp; (try with_reducible rfl)
 (try simp only [Act.put, List.setIfInBounds_toArray, List.set_cons_zero, List.set_cons_succ])
 refine wpAnyH_take (i := 21) (oi := ⟨some 4, .assign (.tmp 25), 3, "dial.go:99", #[⟨20, .data⟩, ⟨15, .chain⟩, ⟨0, .phase⟩, ⟨1, .phase⟩, ⟨2, .phase⟩, ⟨3, .phase⟩, ⟨4, .phase⟩, ⟨5, .phase⟩, ⟨6, .phase⟩, ⟨7, .phase⟩, ⟨8, .phase⟩, ⟨9, .phase⟩, ⟨10, .phase⟩, ⟨11, .phase⟩, ⟨12, .phase⟩, ⟨13, .phase⟩, ⟨14, .phase⟩, ⟨15, .phase⟩, ⟨16, .phase⟩, ⟨17, .phase⟩, ⟨18, .phase⟩, ⟨19, .phase⟩, ⟨20, .phase⟩], none⟩) (v := ?_) rfl (by kernel_rfl) (by kernel_rfl) (by kernel_rfl) (fun _ _ _ h => h) (Or.inl ⟨by rfl, fun W hSw => ?_⟩) hHeld ?_
 rotate_left
 ·(try dsimp only at hSw); go_simp; (try with_reducible rfl)
 (try simp only [Act.put, List.setIfInBounds_toArray, List.set_cons_zero, List.set_cons_succ])
 refine wpAnyH_done (by kernel_rfl) ?_ _
 refine NoPanic.normal ?_
 go_wp2
 go_ret
 exact ⟨ret_int (by unfold dayOf; simp only [HF.out, HQ.out]), fr_call (fr_alloc (fr_alloc (fr_refl _) _) _) hHeld.2⟩
end Go.Proofs.YthjblcboainknaaGreatDoor
end

section
namespace Go.Proofs.YthjblcboainknaaGreatDoor
open Go.RowKit Dl

def okCyc : Int → List Int → Bool
 | _, [] => true
 | last, x :: xs => inB x (last + 1) 1000 && okCyc x xs
def calOk (e : Int) (cs : List Int) : Bool := inB e 0 1000 && inB (cs.length : Int) 1 3 && okCyc 1 cs

theorem okCyc_pos : ∀ (cs : List Int) (last : Int), 1 ≤ last → okCyc last cs = true → ∀ k, k < cs.length → last < cs[k]?.getD 0 ∧ cs[k]?.getD 0 ≤ 1000
 | [], _, _, _ => fun k hk => absurd hk (by simp)
 | x :: xs, last, hl, h => by
  simp only [okCyc, Bool.and_eq_true] at h
  obtain ⟨h1, h2⟩ := h
  have h1' := inB_iff.1 h1
  intro k hk
  cases k with
  | zero => simp; omega
  | succ k =>
   have := okCyc_pos xs x (by omega) h2 k (by simpa using hk)
   simp only [List.getElem?_cons_succ]
   omega
theorem calOk_parts {e : Int} {cs : List Int} (h : calOk e cs = true) : (0 ≤ e ∧ e ≤ 1000) ∧ (1 ≤ cs.length ∧ cs.length ≤ 3) ∧ Cyc cs := by
 unfold calOk at h
 simp only [Bool.and_eq_true] at h
 obtain ⟨⟨h1, h2⟩, h3⟩ := h
 have h1' := inB_iff.1 h1
 have h2' := inB_iff.1 h2
 refine ⟨h1', by omega, fun k hk => ?_⟩
 have := okCyc_pos cs 1 (by omega) h3 k hk
 omega

theorem okCyc_drop (cs : List Int) (last : Int) (k : Nat) (hk : k < cs.length) (hb : inB (cs[k]?.getD 0) (last + 1) 1000 = true) : okCyc last (cs.drop k) = okCyc (cs[k]?.getD 0) (cs.drop (k + 1)) := by
 rw [List.drop_eq_getElem_cons hk]
 have e : cs[k]?.getD 0 = cs[k] := by simp [hk]
 rw [e] at hb
 simp only [okCyc, hb, Bool.true_and, e]
theorem okCyc_drop_no (cs : List Int) (last : Int) (k : Nat) (hk : k < cs.length) (hb : inB (cs[k]?.getD 0) (last + 1) 1000 = false) : okCyc last (cs.drop k) = false := by
 rw [List.drop_eq_getElem_cons hk]
 have e : cs[k]?.getD 0 = cs[k] := by simp [hk]
 rw [e] at hb
 simp only [okCyc, hb, Bool.false_and]

set_option maxHeartbeats 1000000 in
theorem isCalendar_is (A : Option Addr) (n c : Nat) (cs : List Int) (e : Int) (w : World) (hr : Rd w A n cs) (hn : n ≤ 9223372036854775807) (b : Bool) (hb : calOk e cs = b) :
  Calls Tryz.prog 35 #[.agg #[.int .i64 e, .slice A n c]] w fun e' w' => e' = .returned (.bool b) ∧ Below w.heap.size w w' := by
 subst hb
 have hlen := hr.len
 by_cases he : inB e 0 1000 = true
 ·by_cases hl : inB (n : Int) 1 3 = true
  ·have hl2 := inB_iff.1 hl
   have hc : calOk e cs = okCyc 1 cs := by unfold calOk; rw [hlen, he, hl]; rfl
   rw [hc]
   clear hc
   have hw' := hr.alloc (Obj.cells #[.int .i64 e, .slice A n c] 24)
   go_enter Tryz.func35, Tryz.ntmps35
   go_wp2_with (first | (go_at_call 61; (with_reducible refine (in_is _ _ _ _ _ he).mono ?_); rintro e w' ⟨rfl, rfl⟩) | (go_at_call 61; (with_reducible refine (in_is _ _ _ _ _ hl).mono ?_); rintro e w' ⟨rfl, rfl⟩))
   go_loop [3, 20] (fun b i => ∃ (k : Nat) (last : Int), k ≤ n ∧ i = .int .i64 k ∧ b = .int .i64 last ∧ 1 ≤ last ∧ last ≤ 1000 ∧ okCyc 1 cs = okCyc last (cs.drop k)) (fun _ i => n - (intOf i).toNat)
   case atStart => exact ⟨0, 1, Nat.zero_le _, rfl, rfl, by omega, by omega, rfl⟩
   case round =>
    obtain ⟨k, last, hk, rfl, rfl, hl1, hl3, hq⟩ := hrel
    have HQ := Lib.hid hq
    clear hq
    by_cases hlt : k < n
    ·obtain ⟨ad, rfl, hb, hc⟩ := hw'.at_ hlt
     have H1 := Lib.hid (okCyc_drop cs last k (by omega))
     have H2 := Lib.hid (okCyc_drop_no cs last k (by omega))
     generalize hx : cs[k]?.getD 0 = x at *
     clear hx
     by_cases hi : inB x (last + 1) 1000 = true
     ·have hi2 := inB_iff.1 hi
      go_wp2_with (go_at_call 61; refine (in_is _ _ _ _ _ hi).mono ?_; rintro e w' ⟨rfl, rfl⟩)
      go_round
      case rel => exact ⟨k + 1, x, by omega, by go_num, rfl, by omega, by omega, by rw [HQ.out, H1.out hi]⟩
      case measure => simp [intOf]; omega
     ·have hi3 : inB x (last + 1) 1000 = false := by simpa using hi
      go_wp2_with (go_at_call 61; refine (in_is _ _ _ _ _ hi3).mono ?_; rintro e w' ⟨rfl, rfl⟩)
      go_ret
      exact ⟨ret_bool (by rw [HQ.out, H2.out hi3]), fr_alloc (fr_refl _) _⟩
    ·go_wp2
     go_ret
     obtain rfl : k = n := by omega
     refine ⟨ret_bool ?_, fr_alloc (fr_refl _) _⟩
     rw [HQ.out, List.drop_of_length_le (by omega)]
     rfl
  ·have hl3 : inB (n : Int) 1 3 = false := by simpa using hl
   have hc : calOk e cs = false := by unfold calOk; rw [hlen, hl3]; simp
   rw [hc]
   go_enter Tryz.func35, Tryz.ntmps35
   go_wp2_with (first | (go_at_call 61; (with_reducible refine (in_is _ _ _ _ _ he).mono ?_); rintro e w' ⟨rfl, rfl⟩) | (go_at_call 61; (with_reducible refine (in_is _ _ _ _ _ hl3).mono ?_); rintro e w' ⟨rfl, rfl⟩))
   go_ret
   exact ⟨rfl, fr_alloc (fr_refl _) _⟩
 ·have he3 : inB e 0 1000 = false := by simpa using he
  have hc : calOk e cs = false := by unfold calOk; rw [he3]; simp
  rw [hc]
  go_enter Tryz.func35, Tryz.ntmps35
  go_wp2_with (go_at_call 61; refine (in_is _ _ _ _ _ he3).mono ?_; rintro e w' ⟨rfl, rfl⟩)
  go_ret
  exact ⟨rfl, fr_alloc (fr_refl _) _⟩


def wkd (d : Int) : Int := (d + 4) % 7
set_option maxHeartbeats 400000 in
theorem weekday_any (d : Int) (w : World) (h0 : -4 ≤ d) (h1 : d ≤ 100000000) :
  Calls Tryz.prog 59 #[.int .i64 d] w fun e' w' => e' = .returned (.int .i64 (wkd d)) ∧ w = w' := by
 go_enter Tryz.func59, Tryz.ntmps59
 go_wp2
 go_ret
 exact ⟨rfl, rfl⟩

def moonB (num den add : Int) : Bool := inB den 1 1000 && inB num (29 * den) (30 * den) && inB add 0 (num - 1)
theorem moonB_ok {num den add : Int} (h : moonB num den add = true) : MoonOk num den add := by
 unfold moonB at h
 simp only [Bool.and_eq_true] at h
 obtain ⟨⟨h1, h2⟩, h3⟩ := h
 have h1 := inB_iff.1 h1
 have h2 := inB_iff.1 h2
 have h3 := inB_iff.1 h3
 exact ⟨h1.1, h1.2, h2.1, h2.2, h3.1, h3.2⟩

set_option maxHeartbeats 1000000 in
theorem isMoon_is (num den add : Int) (w : World) (b : Bool) (hb : moonB num den add = b) :
  Calls Tryz.prog 36 #[.agg #[.int .i64 num, .int .i64 den, .int .i64 add]] w fun e' w' => e' = .returned (.bool b) ∧ Below w.heap.size w w' := by
 subst hb
 by_cases h1 : inB den 1 1000 = true
 ·have h1' := inB_iff.1 h1
  by_cases h2 : inB num (29 * den) (30 * den) = true
  ·have h2' := inB_iff.1 h2
   have hc : moonB num den add = inB add 0 (num - 1) := by unfold moonB; rw [h1, h2]; rfl
   rw [hc]
   go_enter Tryz.func36, Tryz.ntmps36
   go_wp2_with fail
   refine (in_is _ _ _ _ _ h1).mono ?_
   rintro e w' ⟨rfl, rfl⟩
   go_wp2_with fail
   refine (in_is _ _ _ _ _ h2).mono ?_
   rintro e w' ⟨rfl, rfl⟩
   go_wp2_with fail
   refine (in_is _ _ _ _ _ rfl).mono ?_
   rintro e w' ⟨rfl, rfl⟩
   go_wp2_with fail
   go_ret
   exact ⟨rfl, fr_alloc (fr_refl _) _⟩
  ·have h2' : inB num (29 * den) (30 * den) = false := by simpa using h2
   have hc : moonB num den add = false := by unfold moonB; rw [h2']; simp
   rw [hc]
   go_enter Tryz.func36, Tryz.ntmps36
   go_wp2_with fail
   refine (in_is _ _ _ _ _ h1).mono ?_
   rintro e w' ⟨rfl, rfl⟩
   go_wp2_with fail
   refine (in_is _ _ _ _ _ h2').mono ?_
   rintro e w' ⟨rfl, rfl⟩
   go_wp2_with fail
   go_ret
   exact ⟨rfl, fr_alloc (fr_refl _) _⟩
 ·have h1' : inB den 1 1000 = false := by simpa using h1
  have hc : moonB num den add = false := by unfold moonB; rw [h1']; simp
  rw [hc]
  go_enter Tryz.func36, Tryz.ntmps36
  go_wp2_with fail
  refine (in_is _ _ _ _ _ h1').mono ?_
  rintro e w' ⟨rfl, rfl⟩
  go_wp2_with fail
  go_ret
  exact ⟨rfl, fr_alloc (fr_refl _) _⟩

theorem tdiv_floor (n b : Int) (hb : 0 < b) : (n < n.tdiv b * b → n.tdiv b - 1 = n / b) ∧ (¬ n < n.tdiv b * b → n.tdiv b = n / b) := by
 have h1 := Int.mul_tdiv_add_tmod n b
 have h2 := Int.mul_ediv_add_emod n b
 have h3 := Int.emod_nonneg n (show b ≠ 0 by omega)
 have h4 := Int.emod_lt_of_pos n hb
 have h5 : (n.tmod b).natAbs < b.natAbs := by
  rw [Int.natAbs_tmod]
  exact Nat.mod_lt _ (by omega)
 rw [Int.mul_comm] at h1 h2
 generalize n.tdiv b = q at *
 generalize n.tmod b = r at *
 generalize n / b = q' at *
 generalize n % b = r' at *
 have key : (q' - q) * b = r - r' := by rw [Int.sub_mul]; omega
 constructor
 ·intro h
  have a1 : (q' - q) * b < 0 * b := by omega
  have a2 : (-2) * b < (q' - q) * b := by omega
  have := Int.lt_of_mul_lt_mul_right a1 (by omega)
  have := Int.lt_of_mul_lt_mul_right a2 (by omega)
  omega
 ·intro h
  have a1 : (q' - q) * b < 1 * b := by omega
  have a2 : (-1) * b < (q' - q) * b := by omega
  have := Int.lt_of_mul_lt_mul_right a1 (by omega)
  have := Int.lt_of_mul_lt_mul_right a2 (by omega)
  omega

set_option maxHeartbeats 1000000 in
theorem down_any (n b : Int) (w : World) (hb : 0 < b) (hb2 : b ≤ 100000) (h0 : -1000000000000 ≤ n) (h1 : n ≤ 1000000000000) :
  Calls Tryz.prog 113 #[.int .i64 n, .int .i64 b] w fun e' w' => e' = .returned (.int .i64 (n / b)) ∧ w = w' := by
 obtain ⟨T1, T2⟩ := tdiv_floor n b hb
 have q1 : -1000000000000 ≤ n.tdiv b ∧ n.tdiv b ≤ 1000000000000 := by
  have : (n.tdiv b).natAbs ≤ n.natAbs := by rw [Int.natAbs_tdiv]; exact Nat.div_le_self _ _
  omega
 have q2 : -1000000000000 ≤ n.tdiv b * b ∧ n.tdiv b * b ≤ 1000000000000 := by
  have : (n.tdiv b * b).natAbs ≤ n.natAbs := by rw [Int.natAbs_mul, Int.natAbs_tdiv]; exact Nat.div_mul_le_self _ _
  omega
 obtain ⟨q3, q4⟩ := q1
 obtain ⟨q5, q6⟩ := q2
 have hne : ¬ b = 0 := by omega
 have hw1 : IntKind.i64.wrap (n.tdiv b) = n.tdiv b := IntWalk.i64_in _ (by omega)
 have hw2 : IntKind.i64.wrap (n.tdiv b * b) = n.tdiv b * b := IntWalk.i64_in _ (by omega)
 have HT1 := Lib.hid T1
 have HT2 := Lib.hid T2
 clear T1 T2
 by_cases hlt : n < n.tdiv b * b
 ·go_enter Tryz.func113, Tryz.ntmps113
  go_wp2
  go_ret
  exact ⟨ret_int (HT1.out hlt), rfl⟩
 ·go_enter Tryz.func113, Tryz.ntmps113
  go_wp2
  go_ret
  exact ⟨ret_int (HT2.out hlt), rfl⟩

set_option maxHeartbeats 1000000 in
theorem age_any (num den add d : Int) (w : World) (h : MoonOk num den add) (h0 : -1000 ≤ d) (h1 : d ≤ 10000000) :
  Calls Tryz.prog 92 #[.agg #[.int .i64 num, .int .i64 den, .int .i64 add], .int .i64 d] w fun e' w' => e' = .returned (.int .i64 (ageOf num den add d)) ∧ Below w.heap.size w w' := by
 have hp := h.npos
 have hd1 := h.d1
 have hd2 := h.d2
 have hn1 := h.n1
 have hn2 := h.n2
 have ha1 := h.a1
 have ha2 := h.a2
 have m1 : -1000000 ≤ (d + 1) * den ∧ (d + 1) * den ≤ 10001000000 := by
  constructor
  ·have : (-1000) * 1000 ≤ (d + 1) * den := by
    by_cases hz : 0 ≤ d + 1
    ·have := Int.mul_nonneg hz (by omega : (0:Int) ≤ den); omega
    ·have a : (-1000) * den ≤ (d + 1) * den := Int.mul_le_mul_of_nonneg_right (by omega) (by omega)
     omega
   omega
  ·have a : (d + 1) * den ≤ 10000001 * den := Int.mul_le_mul_of_nonneg_right (by omega) (by omega)
   omega
 obtain ⟨m1a, m1b⟩ := m1
 have hL := new_last h d
 have hN := new_next h d
 have hk : -40000000 ≤ lastK num den add d * num ∧ lastK num den add d * num ≤ 10001000000 := by
  have a := Int.mul_ediv_add_emod ((d + 1) * den - 1 - add) num
  have b := Int.emod_nonneg ((d + 1) * den - 1 - add) (show num ≠ 0 by omega)
  have c := Int.emod_lt_of_pos ((d + 1) * den - 1 - add) hp
  rw [Int.mul_comm] at a
  unfold lastK
  omega
 obtain ⟨k1, k2⟩ := hk
 have hage := age_range h d
 unfold ageOf at hage ⊢
 unfold newDay at hage hL hN ⊢
 have HK := Lib.hid (show lastK num den add d = ((d + 1) * den - 1 - add) / num from rfl)
 generalize hkk : lastK num den add d = kk at *
 clear hkk hN hL
 have hw1 : IntKind.i64.wrap (d + 1) = d + 1 := IntWalk.i64_in _ (by omega)
 have hw2 : IntKind.i64.wrap ((d + 1) * den) = (d + 1) * den := IntWalk.i64_in _ (by omega)
 have hw3 : IntKind.i64.wrap ((d + 1) * den - 1) = (d + 1) * den - 1 := IntWalk.i64_in _ (by omega)
 have hw4 : IntKind.i64.wrap ((d + 1) * den - 1 - add) = (d + 1) * den - 1 - add := IntWalk.i64_in _ (by omega)
 have hw5 : IntKind.i64.wrap (kk * num) = kk * num := IntWalk.i64_in _ (by omega)
 have hw6 : IntKind.i64.wrap (kk * num + add) = kk * num + add := IntWalk.i64_in _ (by omega)
 have hw7 : IntKind.i64.wrap (d - (kk * num + add) / den) = d - (kk * num + add) / den := IntWalk.i64_in _ (by omega)
 clear hage
 go_enter Tryz.func92, Tryz.ntmps92
 go_wp2_with fail
 refine (down_any _ _ _ hp (by omega) (by omega) (by omega)).mono ?_
 rw [← HK.out]
 rintro e' w' ⟨rfl, rfl⟩
 go_wp2_with fail
 refine (down_any _ _ _ (by omega) (by omega) (by omega) (by omega)).mono ?_
 rintro e' w' ⟨rfl, rfl⟩
 go_wp2_with fail
 go_ret
 exact ⟨rfl, fr_alloc (fr_refl _) _⟩
end Go.Proofs.YthjblcboainknaaGreatDoor
end

section
namespace Go.Proofs.YthjblcboainknaaGreatDoor
open Go.RowKit Dl

def firstsK (e : Int) (cs : List Int) (k : Nat) : List Int := (List.range k).map (firstN e cs)
theorem firstsK_len (e : Int) (cs : List Int) (k : Nat) : (firstsK e cs k).length = k := by unfold firstsK; rw [List.length_map, List.length_range]
theorem firstsK_succ (e : Int) (cs : List Int) (k : Nat) : firstsK e cs (k + 1) = firstsK e cs k ++ [firstN e cs k] := by unfold firstsK; rw [List.range_succ, List.map_append]; rfl

set_option maxRecDepth 100000 in
set_option maxHeartbeats 2000000 in
theorem open_any (A : Option Addr) (n c : Nat) (cs : List Int) (e m1 m2 m3 : Int) (w : World) (hr : Rd w A n cs) (hok : calOk e cs = true) :
  Calls Tryz.prog 50 #[.agg #[.int .i64 e, .slice A n c], .agg #[.int .i64 m1, .int .i64 m2, .int .i64 m3]] w fun e' w' =>
   ∃ F fc M, e' = .returned (.agg #[.int .i64 e, .slice A n c, .int .i64 m1, .int .i64 m2, .int .i64 m3, .slice F 4002 fc, .map (some M)]) ∧ Rd w' F 4002 (firsts e cs) ∧ w.heap.size ≤ M ∧ w'.heap[M]? = some (.map #[] 0) ∧ Below w.heap.size w w' ∧ Fresh w.heap.size F := by
 obtain ⟨⟨he1, he2⟩, ⟨hn1, hn2⟩, hpos⟩ := calOk_parts hok
 rw [hr.len] at hn1 hn2
 have hmm := @run_makeMap Tryz.prog
 go_enter Tryz.func50, Tryz.ntmps50
 go_wp2
 go_loopw [6, 14] (fun a i wr => ∃ (k : Nat) (v : Value), k ≤ 4002 ∧ i = .int .i64 k ∧ a = .int .i64 (firstN e cs k) ∧ Own wr w.heap.size v (firstsK e cs k) ∧
   Blk wr (w.heap.size + 1 + 1 + 1 + 1) 89 #[.int .i64 e, .slice A n c, .int .i64 m1, .int .i64 m2, .int .i64 m3, v, .map (some (w.heap.size + 1 + 1 + 1))] ∧
   wr.heap[w.heap.size + 1 + 1 + 1]? = some (.map #[] 0) ∧
   Blk wr (w.heap.size + 1 + 1) 89 #[.int .i64 0, .slice none 0 0, .int .i64 0, .int .i64 0, .int .i64 0, .slice none 0 0, .map none] ∧ Below w.heap.size w wr ∧ w.heap.size + 1 + 1 + 1 + 1 < wr.heap.size)
  (fun _ i _ => 4002 - (intOf i).toNat)
 case atStart =>
  refine ⟨0, .slice none 0 0, by omega, rfl, rfl, Own.nil _ _, ?_, ?_, ?_, fr_alloc (fr_alloc (fr_alloc (fr_alloc (fr_alloc (fr_refl _) _) _) _) _) _, by simp⟩
  ·exact Blk.new_at _ _ (by simp)
  ·rw [Below.heap_alloc _ _ _ (by simp)]; exact heap_new_at _ (by simp)
  ·exact ((Blk.new_at _ _ (by simp)).alloc _).alloc _
 case round =>
  obtain ⟨k, v, hk, rfl, rfl, hown, hB, hM, hR, hbel, hsz⟩ := hrel
  have hcB := fun j => hB.cell j
  have hfB := fun j => hB.frozen j
  have hne1 := own_blk_ne hown hB (by decide)
  have hne2 := own_blk_ne hown hR (by decide)
  have hne3 := own_map_ne hown hM
  have hfn := firstN_bounds e cs k
  have hyl := yearLen_pos cs k
  have hsucc : firstN e cs (k + 1) = firstN e cs k + yearLen cs k := rfl
  generalize hfk : firstN e cs k = fk at *
  have HFK := Lib.hid hfk
  have HS := Lib.hid hsucc
  clear hfk hsucc
  by_cases hlt : k < 4002
  ·go_wp2_with (at_builtin; go_must (refine app_int rfl (.tmp 18) (.tmp 20) rfl w.heap.size v (firstsK e cs k) rfl rfl hown (by rw [firstsK_len]; omega) hbel.size ?_); intro A1 c1 w1 hown1 hg1; have hB1 := (hB.alloc _).grown hg1 (Ne.symm hne1); have hcB1 := fun j => hB1.cell j; have hfB1 := fun j => hB1.frozen j)
   have hR1 := (hR.alloc _).grown hg1 (Ne.symm hne2)
   have hM1 := (hg1.block _ (by simp; omega) (Ne.symm hne3)).trans ((Below.heap_alloc wr (.cells #[.int .i64 fk] 3) _ (by omega)).trans hM)
   have hbel1 : Below w.heap.size w w1 := (fr_alloc hbel _).grown hg1 (by have := hbel.size; simp; omega) (own_ge hown)
   have hsz1 := hg1.size
   rw [firstsK_len, ← HFK.out, ← firstsK_succ] at hown1
   clear hcB hfB hne1 hne2 hne3 hg1 hB hM hR hbel hown
   refine (days_any A n c cs _ _ _ _ _ _ k _ (hr.keep (fr_set hbel1 (by simp; omega) _)) hn2 hpos (by omega) (by omega)).mono ?_
   rintro e' w2 ⟨rfl, hb2⟩
   have hB2 := (hB1.set_ 5 (.slice A1 ((firstsK e cs k).length + 1) c1)).keep hb2
   have hR2 := (hR1.far (p := ⟨w.heap.size + 1 + 1 + 1 + 1, 5, none⟩) (by simp) (.slice A1 ((firstsK e cs k).length + 1) c1)).keep hb2
   have hM2 := (hb2.block (w.heap.size + 1 + 1 + 1) (by simp [World.setCell] at *; omega)).trans ((Below.heap_setCell _ _ _ _ (by simp)).trans hM1)
   have hown2 := (hown1.set (i := 5) (u := .slice A1 ((firstsK e cs k).length + 1) c1) hB1 (by decide)).keep hb2
   go_wp2
   go_roundw
   case rel =>
    rw [firstsK_len] at hB2
    refine ⟨k + 1, .slice A1 (k + 1) c1, by omega, by go_num, by rw [HS.out], hown2, hB2, hM2, hR2, fr_call (fr_set hbel1 (by simp; omega) _) hb2, ?_⟩
    have := hb2.size
    simp [World.setCell] at *
    omega
   case measure => simp [intOf]; omega
  ·obtain rfl : k = 4002 := by omega
   obtain ⟨A1, c1, rfl⟩ := hown.form
   rw [firstsK_len] at hown hB hcB
   have hcR := fun j => hR.cell j
   have hfR := fun j => hR.frozen j
   go_wp2
   refine bodyPost_ret (v := .agg #[.int .i64 e, .slice A n c, .int .i64 m1, .int .i64 m2, .int .i64 m3, .slice A1 4002 c1, .map (some (w.heap.size + 1 + 1 + 1))]) (by simp [results, Tryz.results50, go_sem, hcR]) rfl ⟨A1, c1, _, rfl, ?_, ?_, ?_, ?_, hown.fresh⟩
   ·have h : OwnB wr w.heap.size (.slice A1 4002 c1) (firstsK e cs 4002) (w.heap.size + 1 + 1) 89 := ⟨hown, _, hR⟩
    exact (show OwnB _ w.heap.size (.slice A1 4002 c1) (firstsK e cs 4002) (w.heap.size + 1 + 1) 89 by (repeat (refine OwnB.set ?_ (by decide))); exact h).1.rd
   ·omega
   ·(repeat (rw [Below.heap_setCell _ _ _ _ (by simp)])); exact hM
   ·(repeat (refine fr_set ?_ (by simp; omega) _)); exact hbel
end Go.Proofs.YthjblcboainknaaGreatDoor
end

section
namespace Go.Proofs.YthjblcboainknaaGreatDoor
open Go.RowKit Dl

def realB (cs : List Int) (y m d : Int) : Bool := inB y 0 4000 && inB m 1 12 && inB d 1 (mlen (leapB cs y) m)
theorem realB_iff {cs : List Int} {y m d : Int} : realB cs y m d = true ↔ real cs ⟨y, m, d⟩ := by
 unfold realB real
 simp only [Bool.and_eq_true, inB_iff]
 constructor
 ·rintro ⟨⟨h1, h2⟩, h3⟩; exact ⟨h1.1, h1.2, h2.1, h2.2, h3.1, h3.2⟩
 ·rintro ⟨h1, h2, h3, h4, h5, h6⟩; exact ⟨⟨⟨h1, h2⟩, h3, h4⟩, h5, h6⟩

set_option maxRecDepth 100000 in
set_option maxHeartbeats 2000000 in
theorem isDate_noyear (A : Option Addr) (n c : Nat) (e m1 m2 m3 f g : Value) (y m d : Int) (w : World) (hy : inB y 0 4000 = false) :
  Calls Tryz.prog 51 #[.agg #[e, .slice A n c, m1, m2, m3, f, g], .agg #[.int .i64 y, .int .i64 m, .int .i64 d]] w fun e w' =>
   e = .returned (.bool false) ∧ Below w.heap.size w w' := by
 go_enter Tryz.func51, Tryz.ntmps51
 go_wp2_with fail
 go_quiet ((go_at_call 58; exact quiet_left (isYear_is _ _ _ hy)))
 go_wp2
 go_ret
 exact ⟨rfl, fr_drewN (fr_alloc (fr_alloc (fr_refl _) _) _) _⟩

set_option maxRecDepth 100000 in
set_option maxHeartbeats 2000000 in
theorem isDate_nomonth (A : Option Addr) (n c : Nat) (e m1 m2 m3 f g : Value) (y m d : Int) (w : World) (hy : inB y 0 4000 = true) (hm : inB m 1 12 = false) :
  Calls Tryz.prog 51 #[.agg #[e, .slice A n c, m1, m2, m3, f, g], .agg #[.int .i64 y, .int .i64 m, .int .i64 d]] w fun e w' =>
   e = .returned (.bool false) ∧ Below w.heap.size w w' := by
 go_enter Tryz.func51, Tryz.ntmps51
 go_wp2_with fail
 go_quiet ((first | (go_at_call 58; exact quiet_left (isYear_is _ _ _ hy)) | (go_at_call 61; exact quiet_left (in_is _ _ _ _ _ hm))))
 go_wp2
 go_ret
 exact ⟨rfl, fr_drewN (fr_alloc (fr_alloc (fr_refl _) _) _) _⟩

theorem isDate_is (A : Option Addr) (n c : Nat) (cs : List Int) (e m1 m2 m3 f g : Value) (y m d : Int) (w : World) (hr : Rd w A n cs) (hn : n ≤ 3) (hpos : Cyc cs) (b : Bool) (hb : realB cs y m d = b) :
  Calls Tryz.prog 51 #[.agg #[e, .slice A n c, m1, m2, m3, f, g], .agg #[.int .i64 y, .int .i64 m, .int .i64 d]] w fun e w' =>
   e = .returned (.bool b) ∧ Below w.heap.size w w' := by
 subst hb
 unfold realB
 cases hy : inB y 0 4000
 ·exact isDate_noyear A n c e m1 m2 m3 f g y m d w hy
 ·cases hm : inB m 1 12
  ·exact isDate_nomonth A n c e m1 m2 m3 f g y m d w hy hm
  ·exact isDate_ok A n c cs e m1 m2 m3 f g y m d w hr hn hpos (inB_iff.1 hy) (inB_iff.1 hm)

set_option maxRecDepth 100000 in
set_option maxHeartbeats 2000000 in
theorem Day_bad (A : Option Addr) (n c : Nat) (cs : List Int) (e y m d : Int) (w : World) (hr : Rd w A n cs) (hn : n ≤ 9223372036854775807) (hok : calOk e cs = false) :
  Calls Tryz.prog 18 #[.agg #[.int .i64 e, .slice A n c], .agg #[.int .i64 y, .int .i64 m, .int .i64 d]] w fun e' w' =>
   e' = .returned (.tuple #[.int .i64 0, .int .i64 2]) ∧ Below w.heap.size w w' := by
 go_enter Tryz.func18, Tryz.ntmps18
 go_wp2_with fail
 refine (isCalendar_is A n c cs e _ ((hr.alloc _).alloc _) hn _ hok).mono ?_
 rintro e' w1 ⟨rfl, hb1⟩
 go_wp2_with fail
 go_ret2
 exact ⟨rfl, fr_call (fr_alloc (fr_alloc (fr_refl _) _) _) hb1⟩

set_option maxRecDepth 100000 in
set_option maxHeartbeats 2000000 in
theorem Day_no (A : Option Addr) (n c : Nat) (cs : List Int) (e y m d : Int) (w : World) (hr : Rd w A n cs) (hn : n ≤ 9223372036854775807) (hok : calOk e cs = true) (hreal : realB cs y m d = false) :
  Calls Tryz.prog 18 #[.agg #[.int .i64 e, .slice A n c], .agg #[.int .i64 y, .int .i64 m, .int .i64 d]] w fun e' w' =>
   e' = .returned (.tuple #[.int .i64 0, .int .i64 2]) ∧ Below w.heap.size w w' := by
 obtain ⟨he, ⟨hn1, hn2⟩, hpos⟩ := calOk_parts hok
 rw [hr.len] at hn1 hn2
 have hr0 := (hr.alloc (.cells #[.int .i64 e, .slice A n c] 24)).alloc (.cells #[.int .i64 y, .int .i64 m, .int .i64 d] 50)
 go_enter Tryz.func18, Tryz.ntmps18
 go_wp2_with fail
 refine (isCalendar_is A n c cs e _ hr0 hn _ hok).mono ?_
 rintro e' w1 ⟨rfl, hb1⟩
 obtain ⟨hc_w1, hf_w1⟩ := bcell hb1
 have hz0_w1 : w.heap.size < w1.heap.size := Nat.lt_of_lt_of_le (by first | omega | (simp; done) | (simp; omega)) hb1.size
 have hz1_w1 : w.heap.size + 1 < w1.heap.size := Nat.lt_of_lt_of_le (by first | omega | (simp; done) | (simp; omega)) hb1.size
 go_wp2_with fail
 refine (open_any A n c cs e 0 0 0 _ (hr0.keep hb1) hok).mono ?_
 rintro e' w2 ⟨F, fc, M, rfl, hF, hM1, hM2, hb2, _⟩
 obtain ⟨hc_w2, hf_w2⟩ := bcell hb2
 have hz0_w2 : w.heap.size < w2.heap.size := Nat.lt_of_lt_of_le (by first | omega | (simp; done) | (simp; omega)) hb2.size
 have hz1_w2 : w.heap.size + 1 < w2.heap.size := Nat.lt_of_lt_of_le (by first | omega | (simp; done) | (simp; omega)) hb2.size
 have hr2 := (hr0.keep hb1).keep hb2
 have hfr := fr_call (fr_call (fr_alloc (fr_alloc (fr_refl w) (.cells #[.int .i64 e, .slice A n c] 24)) (.cells #[.int .i64 y, .int .i64 m, .int .i64 d] 50)) hb1) hb2
 go_wp2_with fail
 refine (isDate_is A n c cs _ _ _ _ _ _ y m d _ (hr2.alloc _) hn2 hpos _ hreal).mono ?_
 rintro e' w3 ⟨rfl, hb3⟩
 go_wp2_with fail
 go_ret2
 exact ⟨rfl, fr_call (fr_alloc hfr _) hb3⟩

set_option maxRecDepth 100000 in
set_option maxHeartbeats 2000000 in
theorem Day_yes (A : Option Addr) (n c : Nat) (cs : List Int) (e y m d : Int) (w : World) (hr : Rd w A n cs) (hn : n ≤ 9223372036854775807) (hok : calOk e cs = true) (hreal : realB cs y m d = true) :
  Calls Tryz.prog 18 #[.agg #[.int .i64 e, .slice A n c], .agg #[.int .i64 y, .int .i64 m, .int .i64 d]] w fun e' w' =>
   e' = .returned (.tuple #[.int .i64 (dayOf e cs ⟨y, m, d⟩), .int .i64 0]) ∧ Below w.heap.size w w' := by
 obtain ⟨he, ⟨hn1, hn2⟩, hpos⟩ := calOk_parts hok
 rw [hr.len] at hn1 hn2
 have hr0 := (hr.alloc (.cells #[.int .i64 e, .slice A n c] 24)).alloc (.cells #[.int .i64 y, .int .i64 m, .int .i64 d] 50)
 go_enter Tryz.func18, Tryz.ntmps18
 go_wp2_with fail
 refine (isCalendar_is A n c cs e _ hr0 hn _ hok).mono ?_
 rintro e' w1 ⟨rfl, hb1⟩
 obtain ⟨hc_w1, hf_w1⟩ := bcell hb1
 have hz0_w1 : w.heap.size < w1.heap.size := Nat.lt_of_lt_of_le (by first | omega | (simp; done) | (simp; omega)) hb1.size
 have hz1_w1 : w.heap.size + 1 < w1.heap.size := Nat.lt_of_lt_of_le (by first | omega | (simp; done) | (simp; omega)) hb1.size
 go_wp2_with fail
 refine (open_any A n c cs e 0 0 0 _ (hr0.keep hb1) hok).mono ?_
 rintro e' w2 ⟨F, fc, M, rfl, hF, hM1, hM2, hb2, _⟩
 obtain ⟨hc_w2, hf_w2⟩ := bcell hb2
 have hz0_w2 : w.heap.size < w2.heap.size := Nat.lt_of_lt_of_le (by first | omega | (simp; done) | (simp; omega)) hb2.size
 have hz1_w2 : w.heap.size + 1 < w2.heap.size := Nat.lt_of_lt_of_le (by first | omega | (simp; done) | (simp; omega)) hb2.size
 have hr2 := (hr0.keep hb1).keep hb2
 have hfr := fr_call (fr_call (fr_alloc (fr_alloc (fr_refl w) (.cells #[.int .i64 e, .slice A n c] 24)) (.cells #[.int .i64 y, .int .i64 m, .int .i64 d] 50)) hb1) hb2
 go_wp2_with fail
 obtain ⟨ry, rm, rd⟩ : (0 ≤ y ∧ y ≤ 4000) ∧ (1 ≤ m ∧ m ≤ 12) ∧ (1 ≤ d ∧ d ≤ 31) := by
  obtain ⟨a1, a2, a3, a4, a5, a6⟩ := realB_iff.1 hreal
  have := mlen_pos (leapB cs y) m
  simp only at a1 a2 a3 a4 a5 a6
  omega
 refine (isDate_is A n c cs _ _ _ _ _ _ y m d _ (hr2.alloc _) hn2 hpos _ hreal).mono ?_
 rintro e' w3 ⟨rfl, hb3⟩
 obtain ⟨hc_w3, hf_w3⟩ := bcell hb3
 have hz0_w3 : w.heap.size < w3.heap.size := Nat.lt_of_lt_of_le (by first | omega | (simp; done) | (simp; omega)) hb3.size
 have hz1_w3 : w.heap.size + 1 < w3.heap.size := Nat.lt_of_lt_of_le (by first | omega | (simp; done) | (simp; omega)) hb3.size
 have hz4 : w2.heap.size < w3.heap.size := Nat.lt_of_lt_of_le (by simp) hb3.size
 go_wp2_with fail
 refine (day_any A F n c fc cs e _ _ _ _ y m d _ ((hr2.alloc _).keep hb3) hn2 hpos ((hF.alloc _).keep hb3) he ry rm rd).mono ?_
 rintro e' w4 ⟨rfl, hb4⟩
 go_wp2_with fail
 go_ret2
 exact ⟨rfl, fr_call (fr_call (fr_alloc hfr _) hb3) hb4⟩

end Go.Proofs.YthjblcboainknaaGreatDoor
end
