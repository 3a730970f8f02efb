/- Walks: Date and On. Walks: On. -/
import Derived.Test.YthjblcboainknaaGreatDoorMB3
section
namespace Go.Proofs.YthjblcboainknaaGreatDoor
open Go.RowKit Dl

/-- what Date returns -/
def dateV (o : Option Date) : Value := match o with | some x => .tuple #[.agg #[.int .i64 x.y, .int .i64 x.m, .int .i64 x.d], .int .i64 0] | none => .tuple #[.agg #[.int .i64 0, .int .i64 0, .int .i64 0], .int .i64 5]

end Go.Proofs.YthjblcboainknaaGreatDoor
end

section
namespace Go.Proofs.YthjblcboainknaaGreatDoor
open Go.RowKit Dl

set_option maxRecDepth 100000 in
set_option maxHeartbeats 4000000 in
theorem On1_some (A1 A2 : Option Addr) (n1 k1 n2 k2 b0 b1 b2 : Nat) (c1 c2 : List Int) (e1 e2 last day : Int) (z : Array Value) (x : Date) (w : World) (hr1 : Rd w A1 n1 c1) (hr2 : Rd w A2 n2 c2) (h1 : calOk e1 c1 = true) (h2 : calOk e2 c2 = true) (hx : onOf e1 c1 e2 c2 last day = some x)
  (hB0 : Blk w b0 55 #[.int .i64 e1, .slice A1 n1 k1, .int .i64 e2, .slice A2 n2 k2, .int .i64 last]) (hB1 : Blk w b1 3 #[.int .i64 day]) (hB2 : Blk w b2 50 z) (hz : z.size = 3) :
  Calls Tryz.prog 55 #[.pointer (some ⟨b0, 0, none⟩), .pointer (some ⟨b1, 0, none⟩), .pointer (some ⟨b2, 0, none⟩)] w fun e' w' =>
   e' = .returned (.tuple #[]) ∧ Blk w' b2 50 #[.int .i64 x.y, .int .i64 x.m, .int .i64 x.d] ∧ w.grownBy w' (some b2) := by
 have hc00 := hB0.cell 0
 have hc01 := hB0.cell 1
 have hc02 := hB0.cell 2
 have hc03 := hB0.cell 3
 have hc04 := hB0.cell 4
 have hc1 := hB1.cell 0
 simp only [List.getElem?_toArray, List.getElem?_cons_zero, List.getElem?_cons_succ] at hc00 hc01 hc02 hc03 hc04 hc1
 go_enter Tryz.func55, Tryz.ntmps55
 go_wp2_with fail
 refine wp_region_noPanic ?_
 refine wp_region_held_drew (S := fun W => (W.cell? ⟨b0, 0, none⟩ = some (.int .i64 e1) ∧ W.cell? ⟨b0, 1, none⟩ = some (.slice A1 n1 k1) ∧ W.cell? ⟨b0, 2, none⟩ = some (.int .i64 e2) ∧ W.cell? ⟨b0, 3, none⟩ = some (.slice A2 n2 k2) ∧ W.cell? ⟨b0, 4, none⟩ = some (.int .i64 last) ∧ W.cell? ⟨b1, 0, none⟩ = some (.int .i64 day)) ∧ w.grownBy W (some b2)) (by kernel_rfl)
  ⟨⟨hc00, hc01, hc02, hc03, hc04, hc1⟩, grown_below (World.grownBy.refl w _) (fr_drew (fr_refl _))⟩ (fun hHeld => ?_)
 -- the region, step by step
 refine wpAnyH_take (i := 0) (oi := ⟨some 3, .load 55 (.tmp 0), 55, "dial.go:227", #[], none⟩) (v := ?_) rfl (by kernel_rfl) (by kernel_rfl) (by kernel_rfl) (fun _ _ _ h => h) (Or.inl ⟨by rfl, fun W hSw => ?_⟩) hHeld ?_
 rotate_left
 ·(try dsimp only at hSw); go_simp; (try with_reducible rfl)
 (try simp only [Act.put, List.setIfInBounds_toArray, List.set_cons_zero, List.set_cons_succ])
 refine wpAnyH_take (i := 2) (oi := ⟨some 5, .load 3 (.tmp 1), 3, "dial.go:227", #[], none⟩) (v := ?_) rfl (by kernel_rfl) (by kernel_rfl) (by kernel_rfl) (fun _ _ _ h => h) (Or.inl ⟨by rfl, fun W hSw => ?_⟩) hHeld ?_
 rotate_left
 ·(try dsimp only at hSw); go_simp; (try with_reducible rfl)
 (try simp only [Act.put, List.setIfInBounds_toArray, List.set_cons_zero, List.set_cons_succ])
 refine wpAnyH_ready (rs := [1]) (by kernel_rfl) (by simp) ?_
 refine AllReadyH.cons (o := ⟨some 4, .call { callee := .value (.func 56), args := #[.tmp 3], argTypes := #[55] }, 96, "dial.go:227", #[⟨0, .data⟩], none⟩) rfl (fun K hK => ?_) AllReadyH.nil
 go_simp
 refine (opens_any A1 A2 n1 k1 n2 k2 c1 c2 e1 e2 last _ (hr1.keep (fr_drew (fr_refl _))) (hr2.keep (fr_drew (fr_refl _))) h1 h2).mono ?_
 rintro e' w1 ⟨F1, f1, M1, F2, f2, M2, rfl, hF1, hF2, hb1⟩
 have hb01 := fr_call (fr_drew (fr_refl w)) hb1
 refine hK.out _ _ (⟨⟨by rw [(hB0.keep hb01).cell]; rfl, by rw [(hB0.keep hb01).cell]; rfl, by rw [(hB0.keep hb01).cell]; rfl, by rw [(hB0.keep hb01).cell]; rfl, by rw [(hB0.keep hb01).cell]; rfl, by rw [(hB1.keep hb01).cell]; rfl⟩, grown_below hHeld.2 hb1⟩) (fun hHeld => ?_)
 clear hK K
 (try simp only [Act.put, List.setIfInBounds_toArray, List.set_cons_zero, List.set_cons_succ])
 refine wpAnyH_ready (rs := [3]) (by kernel_rfl) (by simp) ?_
 refine AllReadyH.cons (o := ⟨some 6, .call { callee := .value (.func 57), args := #[.tmp 4, .tmp 5], argTypes := #[96, 3] }, 50, "dial.go:227", #[⟨1, .data⟩, ⟨2, .data⟩, ⟨1, .chain⟩], none⟩) rfl (fun K hK => ?_) AllReadyH.nil
 go_simp
 refine (on_some A1 A2 F1 F2 n1 k1 n2 k2 f1 f2 M1 M2 c1 c2 e1 e2 last day _ (hr1.keep hb01) (hr2.keep hb01) h1 h2 hF1 hF2 x hx).mono ?_
 rintro e' w2 ⟨rfl, hb2⟩
 have hb02 := fr_call hb01 hb2
 refine hK.out _ _ (⟨⟨by rw [(hB0.keep hb02).cell]; rfl, by rw [(hB0.keep hb02).cell]; rfl, by rw [(hB0.keep hb02).cell]; rfl, by rw [(hB0.keep hb02).cell]; rfl, by rw [(hB0.keep hb02).cell]; rfl, by rw [(hB1.keep hb02).cell]; rfl⟩, grown_below hHeld.2 hb2⟩) (fun hHeld => ?_)
 clear hK K
 (try simp only [Act.put, List.setIfInBounds_toArray, List.set_cons_zero, List.set_cons_succ])
 refine wpAnyH_ready (rs := [4]) (by kernel_rfl) (by simp) ?_
 refine AllReadyH.cons (o := ⟨none, .store 50 (.tmp 2) (.tmp 6), 0, "dial.go:227", #[⟨3, .data⟩, ⟨3, .chain⟩, ⟨0, .phase⟩, ⟨1, .phase⟩, ⟨2, .phase⟩, ⟨3, .phase⟩], none⟩) rfl (fun K hK => ?_) AllReadyH.nil
 rw [if_pos (by rfl)]
 refine wp_store_blk _ _ _ rfl b2 50 _ _ rfl rfl (hB2.keep hb02) (by rw [hz]; rfl) (by kernel_rfl) (by simp [Value.oneCell']) ?_
 intro w3 hZ3 hg3
 have h0 := (hB0.keep hb02).grown hg3 (by have := hB0.ne_ hB2 (by decide); simpa using this)
 have h1' := (hB1.keep hb02).grown hg3 (by have := hB1.ne_ hB2 (by decide); simpa using this)
 refine hK.out _ _ (⟨⟨by rw [h0.cell]; rfl, by rw [h0.cell]; rfl, by rw [h0.cell]; rfl, by rw [h0.cell]; rfl, by rw [h0.cell]; rfl, by rw [h1'.cell]; rfl⟩, grown_trans hHeld.2 hg3⟩) (fun hHeld => ?_)
 clear hK K
 refine wpAnyH_done (by kernel_rfl) ?_ _
 refine NoPanic.normal ?_
 go_wp2
 go_end0
 exact ⟨rfl, hZ3, hHeld.2⟩

set_option maxRecDepth 100000 in
set_option maxHeartbeats 4000000 in
theorem On1_none (A1 A2 : Option Addr) (n1 k1 n2 k2 b0 b1 b2 : Nat) (c1 c2 : List Int) (e1 e2 last day : Int) (w : World) (hr1 : Rd w A1 n1 c1) (hr2 : Rd w A2 n2 c2) (h1 : calOk e1 c1 = true) (h2 : calOk e2 c2 = true) (hx : onOf e1 c1 e2 c2 last day = none)
  (hB0 : Blk w b0 55 #[.int .i64 e1, .slice A1 n1 k1, .int .i64 e2, .slice A2 n2 k2, .int .i64 last]) (hB1 : Blk w b1 3 #[.int .i64 day]) :
  Calls Tryz.prog 55 #[.pointer (some ⟨b0, 0, none⟩), .pointer (some ⟨b1, 0, none⟩), .pointer (some ⟨b2, 0, none⟩)] w fun e' w' =>
   e' = .panicked (awayV day) ∧ Below w.heap.size w w' := by
 have hc00 := hB0.cell 0
 have hc01 := hB0.cell 1
 have hc02 := hB0.cell 2
 have hc03 := hB0.cell 3
 have hc04 := hB0.cell 4
 have hc1 := hB1.cell 0
 simp only [List.getElem?_toArray, List.getElem?_cons_zero, List.getElem?_cons_succ] at hc00 hc01 hc02 hc03 hc04 hc1
 go_enter Tryz.func55, Tryz.ntmps55
 go_wp2_with fail
 refine wp_region_held_drew (S := fun W => (W.cell? ⟨b0, 0, none⟩ = some (.int .i64 e1) ∧ W.cell? ⟨b0, 1, none⟩ = some (.slice A1 n1 k1) ∧ W.cell? ⟨b0, 2, none⟩ = some (.int .i64 e2) ∧ W.cell? ⟨b0, 3, none⟩ = some (.slice A2 n2 k2) ∧ W.cell? ⟨b0, 4, none⟩ = some (.int .i64 last) ∧ W.cell? ⟨b1, 0, none⟩ = some (.int .i64 day)) ∧ Below w.heap.size w W) (by kernel_rfl)
  ⟨⟨hc00, hc01, hc02, hc03, hc04, hc1⟩, fr_drew (fr_refl _)⟩ (fun hHeld => ?_)
 -- the region, step by step
 refine wpAnyH_take (i := 0) (oi := ⟨some 3, .load 55 (.tmp 0), 55, "dial.go:227", #[], none⟩) (v := ?_) rfl (by kernel_rfl) (by kernel_rfl) (by kernel_rfl) (fun _ _ _ h => h) (Or.inl ⟨by rfl, fun W hSw => ?_⟩) hHeld ?_
 rotate_left
 ·(try dsimp only at hSw); go_simp; (try with_reducible rfl)
 (try simp only [Act.put, List.setIfInBounds_toArray, List.set_cons_zero, List.set_cons_succ])
 refine wpAnyH_take (i := 2) (oi := ⟨some 5, .load 3 (.tmp 1), 3, "dial.go:227", #[], none⟩) (v := ?_) rfl (by kernel_rfl) (by kernel_rfl) (by kernel_rfl) (fun _ _ _ h => h) (Or.inl ⟨by rfl, fun W hSw => ?_⟩) hHeld ?_
 rotate_left
 ·(try dsimp only at hSw); go_simp; (try with_reducible rfl)
 (try simp only [Act.put, List.setIfInBounds_toArray, List.set_cons_zero, List.set_cons_succ])
 refine wpAnyH_ready (rs := [1]) (by kernel_rfl) (by simp) ?_
 refine AllReadyH.cons (o := ⟨some 4, .call { callee := .value (.func 56), args := #[.tmp 3], argTypes := #[55] }, 96, "dial.go:227", #[⟨0, .data⟩], none⟩) rfl (fun K hK => ?_) AllReadyH.nil
 go_simp
 refine (opens_any A1 A2 n1 k1 n2 k2 c1 c2 e1 e2 last _ (hr1.keep (fr_drew (fr_refl _))) (hr2.keep (fr_drew (fr_refl _))) h1 h2).mono ?_
 rintro e' w1 ⟨F1, f1, M1, F2, f2, M2, rfl, hF1, hF2, hb1⟩
 have hb01 := fr_call (fr_drew (fr_refl w)) hb1
 refine hK.out _ _ (⟨⟨by rw [(hB0.keep hb01).cell]; rfl, by rw [(hB0.keep hb01).cell]; rfl, by rw [(hB0.keep hb01).cell]; rfl, by rw [(hB0.keep hb01).cell]; rfl, by rw [(hB0.keep hb01).cell]; rfl, by rw [(hB1.keep hb01).cell]; rfl⟩, fr_call hHeld.2 hb1⟩) (fun hHeld => ?_)
 clear hK K
 (try simp only [Act.put, List.setIfInBounds_toArray, List.set_cons_zero, List.set_cons_succ])
 refine wpAnyH_ready (rs := [3]) (by kernel_rfl) (by simp) ?_
 refine AllReadyH.cons (o := ⟨some 6, .call { callee := .value (.func 57), args := #[.tmp 4, .tmp 5], argTypes := #[96, 3] }, 50, "dial.go:227", #[⟨1, .data⟩, ⟨2, .data⟩, ⟨1, .chain⟩], none⟩) rfl (fun K hK => ?_) AllReadyH.nil
 go_simp
 refine (on_none A1 A2 F1 F2 n1 k1 n2 k2 f1 f2 M1 M2 c1 c2 e1 e2 last day _ (hr1.keep hb01) (hr2.keep hb01) h1 h2 hF1 hF2 hx).mono ?_
 rintro e' w2 ⟨rfl, hb2⟩
 exact ⟨rfl, rfl, fr_call hb01 hb2⟩

set_option maxRecDepth 100000 in
set_option maxHeartbeats 4000000 in
theorem On_bad (A1 A2 : Option Addr) (n1 k1 n2 k2 : Nat) (c1 c2 : List Int) (e1 e2 last day : Int) (w : World) (hr1 : Rd w A1 n1 c1) (hr2 : Rd w A2 n2 c2) (hn1 : n1 ≤ 9223372036854775807) (hn2 : n2 ≤ 9223372036854775807) (hok : realmOk e1 c1 e2 c2 last = false ∨ inB day 0 2000000 = false) :
  Calls Tryz.prog 21 #[.agg #[.int .i64 e1, .slice A1 n1 k1, .int .i64 e2, .slice A2 n2 k2, .int .i64 last], .int .i64 day] w fun e' w' =>
   e' = .returned (.tuple #[.agg #[.int .i64 0, .int .i64 0, .int .i64 0], .int .i64 2]) ∧ Below w.heap.size w w' := by
 have g1 := fr_alloc (fr_alloc (fr_alloc (fr_refl w) (.cells #[.int .i64 e1, .slice A1 n1 k1, .int .i64 e2, .slice A2 n2 k2, .int .i64 last] 55)) (.cells #[.int .i64 day] 3)) (.cells #[.int .i64 0, .int .i64 0, .int .i64 0] 50)
 have hZ : Blk (((w.alloc (.cells #[.int .i64 e1, .slice A1 n1 k1, .int .i64 e2, .slice A2 n2 k2, .int .i64 last] 55)).alloc (.cells #[.int .i64 day] 3)).alloc (.cells #[.int .i64 0, .int .i64 0, .int .i64 0] 50)) (w.heap.size + 1 + 1) 50 #[.int .i64 0, .int .i64 0, .int .i64 0] := Blk.new_at _ _ (by simp)
 cases hc : realmOk e1 c1 e2 c2 last
 ·go_enter Tryz.func21, Tryz.ntmps21
  go_wp2_with fail
  refine (isRealm_is A1 A2 n1 k1 n2 k2 c1 c2 e1 e2 last _ (hr1.keep g1) (hr2.keep g1) hn1 hn2 _ hc).mono ?_
  rintro e' w1 ⟨rfl, hb1⟩
  have hZ1 := hZ.keep hb1
  go_wp2_with (refine wpList_store_blk rfl _ _ _ rfl (w.heap.size + 1 + 1) 50 _ _ rfl rfl hZ1 rfl (by kernel_rfl) (by simp [Value.oneCell']) ?_; intro w2 hZ2 hg2)
  refine bodyPost_ret (results_blk_tmp rfl _ _ _ _ rfl hZ2 Tryz.underlying50 rfl (by kernel_rfl)) rfl ⟨rfl, (fr_call g1 hb1).grown hg2 (fr_call g1 hb1).size (by intro k hk; cases hk; omega)⟩
 ·have hd : inB day 0 2000000 = false := by
   rcases hok with h | h
   ·rw [hc] at h; cases h
   ·exact h
  go_enter Tryz.func21, Tryz.ntmps21
  go_wp2_with fail
  refine (isRealm_is A1 A2 n1 k1 n2 k2 c1 c2 e1 e2 last _ (hr1.keep g1) (hr2.keep g1) hn1 hn2 _ hc).mono ?_
  rintro e' w1 ⟨rfl, hb1⟩
  obtain ⟨hc_w1, hf_w1⟩ := bcell hb1
  have hz0_w1 : w.heap.size < w1.heap.size := Nat.lt_of_lt_of_le (by first | omega | (simp; done) | (simp; omega)) hb1.size
  have hz1_w1 : w.heap.size + 1 < w1.heap.size := Nat.lt_of_lt_of_le (by first | omega | (simp; done) | (simp; omega)) hb1.size
  have hz2_w1 : w.heap.size + 1 + 1 < w1.heap.size := Nat.lt_of_lt_of_le (by first | omega | (simp; done) | (simp; omega)) hb1.size
  have hZ1 := hZ.keep hb1
  go_wp2_with fail
  refine (isDay_is _ _ _ hd).mono ?_
  rintro e' w1' ⟨rfl, rfl⟩
  clear hc_w1 hf_w1
  go_wp2_with (refine wpList_store_blk rfl _ _ _ rfl (w.heap.size + 1 + 1) 50 _ _ rfl rfl hZ1 rfl (by kernel_rfl) (by simp [Value.oneCell']) ?_; intro w2 hZ2 hg2)
  refine bodyPost_ret (results_blk_tmp rfl _ _ _ _ rfl hZ2 Tryz.underlying50 rfl (by kernel_rfl)) rfl ⟨rfl, (fr_call g1 hb1).grown hg2 (fr_call g1 hb1).size (by intro k hk; cases hk; omega)⟩

set_option maxRecDepth 100000 in
set_option maxHeartbeats 4000000 in
theorem On_ok (A1 A2 : Option Addr) (n1 k1 n2 k2 : Nat) (c1 c2 : List Int) (e1 e2 last day : Int) (w : World) (hr1 : Rd w A1 n1 c1) (hr2 : Rd w A2 n2 c2) (hn1 : n1 ≤ 9223372036854775807) (hn2 : n2 ≤ 9223372036854775807) (hok : realmOk e1 c1 e2 c2 last = true) (hd : inB day 0 2000000 = true) :
  Calls Tryz.prog 21 #[.agg #[.int .i64 e1, .slice A1 n1 k1, .int .i64 e2, .slice A2 n2 k2, .int .i64 last], .int .i64 day] w fun e' w' =>
   e' = .returned (dateV (onOf e1 c1 e2 c2 last day)) ∧ Below w.heap.size w w' := by
 have hmf : ∀ (fn : Fn) (first cap : Array Value) (w : World), (Instr.makeFunc fn first cap).run Tryz.prog w = .ok (.func fn first cap) w := fun _ _ _ _ => rfl
 have g1 := fr_alloc (fr_alloc (fr_alloc (fr_refl w) (.cells #[.int .i64 e1, .slice A1 n1 k1, .int .i64 e2, .slice A2 n2 k2, .int .i64 last] 55)) (.cells #[.int .i64 day] 3)) (.cells #[.int .i64 0, .int .i64 0, .int .i64 0] 50)
 have hZ : Blk (((w.alloc (.cells #[.int .i64 e1, .slice A1 n1 k1, .int .i64 e2, .slice A2 n2 k2, .int .i64 last] 55)).alloc (.cells #[.int .i64 day] 3)).alloc (.cells #[.int .i64 0, .int .i64 0, .int .i64 0] 50)) (w.heap.size + 1 + 1) 50 #[.int .i64 0, .int .i64 0, .int .i64 0] := Blk.new_at _ _ (by simp)
 have hC : Blk (((w.alloc (.cells #[.int .i64 e1, .slice A1 n1 k1, .int .i64 e2, .slice A2 n2 k2, .int .i64 last] 55)).alloc (.cells #[.int .i64 day] 3)).alloc (.cells #[.int .i64 0, .int .i64 0, .int .i64 0] 50)) w.heap.size 55 #[.int .i64 e1, .slice A1 n1 k1, .int .i64 e2, .slice A2 n2 k2, .int .i64 last] := ((Blk.new w _ _).alloc _).alloc _
 have hD : Blk (((w.alloc (.cells #[.int .i64 e1, .slice A1 n1 k1, .int .i64 e2, .slice A2 n2 k2, .int .i64 last] 55)).alloc (.cells #[.int .i64 day] 3)).alloc (.cells #[.int .i64 0, .int .i64 0, .int .i64 0] 50)) (w.heap.size + 1) 3 #[.int .i64 day] := (Blk.new_at _ _ (by simp)).alloc _
 obtain ⟨hk1, hk2⟩ : calOk e1 c1 = true ∧ calOk e2 c2 = true := by
  unfold realmOk at hok
  simp only [Bool.and_eq_true] at hok
  exact hok.1
 rcases hx : onOf e1 c1 e2 c2 last day with _ | x
 all_goals
  unfold dateV
  simp only []
  go_enter Tryz.func21, Tryz.ntmps21
  go_wp2_with fail
  refine (isRealm_is A1 A2 n1 k1 n2 k2 c1 c2 e1 e2 last _ (hr1.keep g1) (hr2.keep g1) hn1 hn2 _ hok).mono ?_
  rintro e' w1 ⟨rfl, hb1⟩
  obtain ⟨hc_w1, hf_w1⟩ := bcell hb1
  have hz0_w1 : w.heap.size < w1.heap.size := Nat.lt_of_lt_of_le (by first | omega | (simp; done) | (simp; omega)) hb1.size
  have hz1_w1 : w.heap.size + 1 < w1.heap.size := Nat.lt_of_lt_of_le (by first | omega | (simp; done) | (simp; omega)) hb1.size
  have hz2_w1 : w.heap.size + 1 + 1 < w1.heap.size := Nat.lt_of_lt_of_le (by first | omega | (simp; done) | (simp; omega)) hb1.size
  go_wp2_with fail
  refine (isDay_is _ _ _ hd).mono ?_
  rintro e' w1' ⟨rfl, rfl⟩
  go_wp2_with fail
  have hC2 := ((hC.keep hb1).alloc (.cells #[.int .i64 0, .int .i64 0, .int .i64 0] 50)).alloc (.cells #[.int .i64 0] 31)
  have hD2 := ((hD.keep hb1).alloc (.cells #[.int .i64 0, .int .i64 0, .int .i64 0] 50)).alloc (.cells #[.int .i64 0] 31)
  have hZ2 := ((hZ.keep hb1).alloc (.cells #[.int .i64 0, .int .i64 0, .int .i64 0] 50)).alloc (.cells #[.int .i64 0] 31)
  have hB2 := (Blk.new w1 50 #[.int .i64 0, .int .i64 0, .int .i64 0]).alloc (.cells #[.int .i64 0] 31)
  have hE2 := Blk.new (w1.alloc (.cells #[.int .i64 0, .int .i64 0, .int .i64 0] 50)) 31 #[.int .i64 0]
  have hr12 := (((hr1.keep g1).keep hb1).alloc (.cells #[.int .i64 0, .int .i64 0, .int .i64 0] 50)).alloc (.cells #[.int .i64 0] 31)
  have hr22 := (((hr2.keep g1).keep hb1).alloc (.cells #[.int .i64 0, .int .i64 0, .int .i64 0] 50)).alloc (.cells #[.int .i64 0] 31)
  have g2 := fr_alloc (fr_alloc (fr_call g1 hb1) (.cells #[.int .i64 0, .int .i64 0, .int .i64 0] 50)) (.cells #[.int .i64 0] 31)
  clear hc_w1 hf_w1
 ·refine (try_away_On _ (fun W' => Below ((w1.alloc (.cells #[.int .i64 0, .int .i64 0, .int .i64 0] 50)).alloc (.cells #[.int .i64 0] 31)).heap.size ((w1.alloc (.cells #[.int .i64 0, .int .i64 0, .int .i64 0] 50)).alloc (.cells #[.int .i64 0] 31)) W') _ day ?_).mono ?_
  ·refine (On1_none A1 A2 n1 k1 n2 k2 w.heap.size (w.heap.size + 1) w1.heap.size c1 c2 e1 e2 last day _ hr12 hr22 hk1 hk2 hx hC2 hD2).mono ?_
   rintro e' W' ⟨rfl, hb⟩
   exact ⟨rfl, hb, by rw [(hE2.keep hb).cell]; rfl, (hE2.keep hb).frozen 0⟩
  rintro e' w3 ⟨rfl, w', hb, hw3⟩
  have hZ3 := ((hZ2.keep hb).alloc (.cells #[.int .i64 day] 127)).far (p := ⟨(w1.alloc (.cells #[.int .i64 0, .int .i64 0, .int .i64 0] 50)).heap.size, 0, none⟩) (by simp; omega) (.int .i64 5)
  have g3 := fr_set (fr_alloc (fr_call g2 hb) (.cells #[.int .i64 day] 127)) (p := ⟨(w1.alloc (.cells #[.int .i64 0, .int .i64 0, .int .i64 0] 50)).heap.size, 0, none⟩) (by simp; omega) (.int .i64 5)
  rw [← hw3] at hZ3 g3
  clear hw3 hb hZ2 hC2 hD2 hB2 hE2 hr12 hr22 g2
  go_wp2_with (refine wpList_store_blk rfl _ _ _ rfl (w.heap.size + 1 + 1) 50 _ _ rfl rfl hZ3 rfl (by kernel_rfl) (by simp [Value.oneCell']) ?_; intro w4 hZ4 hg4)
  refine bodyPost_ret (results_blk_tmp rfl _ _ _ _ rfl hZ4 Tryz.underlying50 rfl (by kernel_rfl)) rfl ⟨rfl, g3.grown hg4 g3.size (by intro k hk; cases hk; omega)⟩
 ·refine (try_ok_On _ (fun W' => Blk W' w1.heap.size 50 #[.int .i64 x.y, .int .i64 x.m, .int .i64 x.d] ∧ ((w1.alloc (.cells #[.int .i64 0, .int .i64 0, .int .i64 0] 50)).alloc (.cells #[.int .i64 0] 31)).grownBy W' (some w1.heap.size)) _ ?_).mono ?_
  ·refine (On1_some A1 A2 n1 k1 n2 k2 w.heap.size (w.heap.size + 1) w1.heap.size c1 c2 e1 e2 last day _ x _ hr12 hr22 hk1 hk2 hx hC2 hD2 hB2 rfl).mono ?_
   rintro e' W' ⟨rfl, h1, h2⟩
   have hE3 := hE2.grown h2 (by simp)
   exact ⟨rfl, ⟨h1, h2⟩, by rw [hE3.cell]; rfl, hE3.frozen 0⟩
  rintro e' w3 ⟨rfl, w', ⟨h1, h2⟩, hw3⟩
  have hX3 := h1.far (p := ⟨(w1.alloc (.cells #[.int .i64 0, .int .i64 0, .int .i64 0] 50)).heap.size, 0, none⟩) (by simp) (.int .i64 0)
  have hZ3 := (hZ2.grown h2 (by simp; omega)).far (p := ⟨(w1.alloc (.cells #[.int .i64 0, .int .i64 0, .int .i64 0] 50)).heap.size, 0, none⟩) (by simp; omega) (.int .i64 0)
  have g3 := fr_set (g2.grown h2 g2.size (by intro k hk; cases hk; omega)) (p := ⟨(w1.alloc (.cells #[.int .i64 0, .int .i64 0, .int .i64 0] 50)).heap.size, 0, none⟩) (by simp; omega) (.int .i64 0)
  rw [← hw3] at hX3 hZ3 g3
  clear hw3 h1 h2 hZ2 hC2 hD2 hB2 hE2 hr12 hr22 g2
  have hcX := fun j => hX3.cell j
  go_wp2_with (refine wpList_store_blk rfl _ _ _ rfl (w.heap.size + 1 + 1) 50 _ _ rfl rfl hZ3 rfl (by kernel_rfl) (by simp [Value.oneCell']) ?_; intro w4 hZ4 hg4)
  refine bodyPost_ret (results_blk_tmp rfl _ _ _ _ rfl hZ4 Tryz.underlying50 rfl (by kernel_rfl)) rfl ⟨rfl, g3.grown hg4 g3.size (by intro k hk; cases hk; omega)⟩
end Go.Proofs.YthjblcboainknaaGreatDoor
end
