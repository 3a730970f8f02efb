/- Reference: the date behind a date. The laws' helper few; a date's block made in a region. Slices of feasts that are put together in a region. -/
import Derived.Test.YtnppilaabobgiaaGreatDoorMD1
import Derived.Test.YtnppilaabobgiaaGreatDoorMB1
import Derived.Test.YtnppilaabobgiaaGreatDoorMB2
import Derived.Test.YtnppilaabobgiaaGreatDoorMP
import Derived.Test.YtnppilaabobgiaaGreatDoorME2
import Derived.Test.YtnppilaabobgiaaGreatDoorMB6
section
namespace Go.Proofs.YtnppilaabobgiaaGreatDoor
open Go.RowKit Dl

set_option maxRecDepth 100000 in
set_option maxHeartbeats 4000000 in
theorem rNext_any (A : Option Addr) (n c : Nat) (cs : List Int) (e y m d : Int) (z : Date) (w : World) (hr : Rd w A n cs) (hok : calOk e cs = true) (hq : realB cs y m d = true) (hz : nxt cs ⟨y, m, d⟩ = z) :
    Calls Tryz.prog 29 #[.agg #[.int .i64 e, .slice A n c], .agg #[.int .i64 y, .int .i64 m, .int .i64 d]] w fun e' w' => e' = .returned (.agg #[.int .i64 z.y, .int .i64 z.m, .int .i64 z.d]) ∧ Below w.heap.size w w' := by
  subst hz
  obtain ⟨hy1, hy2, hm1, hm2, hd1, hd2⟩ := realB_iff.1 hq
  simp only at hy1 hy2 hm1 hm2 hd1 hd2
  obtain ⟨he, ⟨hn1, hn2⟩, hpos⟩ := calOk_parts hok
  rw [hr.len] at hn1 hn2
  have hml := mlen_pos (leapB cs y) m
  have g3 := fr_alloc (fr_alloc (fr_alloc (fr_refl w) (.cells #[.int .i64 e, .slice A n c] 24)) (.cells #[.int .i64 y, .int .i64 m, .int .i64 d] 41)) (.cells #[.int .i64 0, .int .i64 0, .int .i64 0] 41)
  have hD0 : Blk (((w.alloc (.cells #[.int .i64 e, .slice A n c] 24)).alloc (.cells #[.int .i64 y, .int .i64 m, .int .i64 d] 41)).alloc (.cells #[.int .i64 0, .int .i64 0, .int .i64 0] 41)) (w.heap.size + 1) 41 #[.int .i64 y, .int .i64 m, .int .i64 d] := (Blk.new_at _ _ (by simp)).alloc _
  have hZ0 : Blk (((w.alloc (.cells #[.int .i64 e, .slice A n c] 24)).alloc (.cells #[.int .i64 y, .int .i64 m, .int .i64 d] 41)).alloc (.cells #[.int .i64 0, .int .i64 0, .int .i64 0] 41)) (w.heap.size + 1 + 1) 41 #[.int .i64 0, .int .i64 0, .int .i64 0] := Blk.new_at _ _ (by simp)
  have hr0 := hr.keep g3
  obtain ⟨ml, gml⟩ : ∃ ml, mlen (leapB cs y) m = ml := ⟨_, rfl⟩
  have hv1 : d < ml → nxt cs ⟨y, m, d⟩ = ⟨y, m, d + 1⟩ := fun h => by unfold nxt; rw [if_pos (by show d < mlen (leapB cs y) m; omega)]
  have hv2 : ¬ d < ml → m < 12 → nxt cs ⟨y, m, d⟩ = ⟨y, m + 1, 1⟩ := fun h h2 => by unfold nxt; rw [if_neg (by show ¬ d < mlen (leapB cs y) m; omega), if_pos h2]
  have hv3 : ¬ d < ml → ¬ m < 12 → nxt cs ⟨y, m, d⟩ = ⟨y + 1, 1, 1⟩ := fun h h2 => by unfold nxt; rw [if_neg (by show ¬ d < mlen (leapB cs y) m; omega), if_neg h2]
  rw [gml] at hd2 hml
  have HML := Lib.hid gml
  clear gml
  by_cases h1 : d < ml
  · rw [hv1 h1]
    clear hv1 hv2 hv3
    go_enter Tryz.func29, Tryz.ntmps29
    go_wp2_with fail
    refine wp_region_noPanic ?_
    refine wp_region_held_drew (S := fun W => (∀ p : Addr, p.block < (((w.alloc (.cells #[.int .i64 e, .slice A n c] 24)).alloc (.cells #[.int .i64 y, .int .i64 m, .int .i64 d] 41)).alloc (.cells #[.int .i64 0, .int .i64 0, .int .i64 0] 41)).heap.size → W.cell? p = (((w.alloc (.cells #[.int .i64 e, .slice A n c] 24)).alloc (.cells #[.int .i64 y, .int .i64 m, .int .i64 d] 41)).alloc (.cells #[.int .i64 0, .int .i64 0, .int .i64 0] 41)).cell? p) ∧ Below (((w.alloc (.cells #[.int .i64 e, .slice A n c] 24)).alloc (.cells #[.int .i64 y, .int .i64 m, .int .i64 d] 41)).alloc (.cells #[.int .i64 0, .int .i64 0, .int .i64 0] 41)).heap.size (((w.alloc (.cells #[.int .i64 e, .slice A n c] 24)).alloc (.cells #[.int .i64 y, .int .i64 m, .int .i64 d] 41)).alloc (.cells #[.int .i64 0, .int .i64 0, .int .i64 0] 41)) W) (by kernel_rfl) ⟨fun _ _ => rfl, fr_drew (fr_refl _)⟩ (fun hHeld => ?_)
    -- the region, step by step
    refine wpAnyH_take (i := 0) (oi := ⟨some 5, .fieldAddr 41 (.tmp 3) 2, 0, "ref.go:103", #[], none⟩) (v := ?_) rfl (by kernel_rfl) (by kernel_rfl) (by kernel_rfl) (fun _ _ _ h => h) (Or.inl ⟨by rfl, fun W hSw => ?_⟩) hHeld ?_
    rotate_left
    · (try dsimp only at hSw); go_simp; (try with_reducible rfl)
    (try simp only [Act.put, List.setIfInBounds_toArray, List.set_cons_zero, List.set_cons_succ])
    refine wpAnyH_take (i := 1) (oi := ⟨some 6, .load 3 (.tmp 5), 3, "ref.go:103", #[⟨0, .data⟩], none⟩) (v := ?_) rfl (by kernel_rfl) (by kernel_rfl) (by kernel_rfl) (fun _ _ _ h => h) (Or.inl ⟨by rfl, fun W hSw => ?_⟩) hHeld ?_
    rotate_left
    · (try dsimp only at hSw); go_simp; (try with_reducible rfl)
    (try simp only [Act.put, List.setIfInBounds_toArray, List.set_cons_zero, List.set_cons_succ])
    refine wpAnyH_take (i := 2) (oi := ⟨some 7, .fieldAddr 41 (.tmp 3) 1, 0, "ref.go:103", #[], none⟩) (v := ?_) rfl (by kernel_rfl) (by kernel_rfl) (by kernel_rfl) (fun _ _ _ h => h) (Or.inl ⟨by rfl, fun W hSw => ?_⟩) hHeld ?_
    rotate_left
    · (try dsimp only at hSw); go_simp; (try with_reducible rfl)
    (try simp only [Act.put, List.setIfInBounds_toArray, List.set_cons_zero, List.set_cons_succ])
    refine wpAnyH_take (i := 3) (oi := ⟨some 8, .load 3 (.tmp 7), 3, "ref.go:103", #[⟨2, .data⟩], none⟩) (v := ?_) rfl (by kernel_rfl) (by kernel_rfl) (by kernel_rfl) (fun _ _ _ h => h) (Or.inl ⟨by rfl, fun W hSw => ?_⟩) hHeld ?_
    rotate_left
    · (try dsimp only at hSw); go_simp; (try with_reducible rfl)
    (try simp only [Act.put, List.setIfInBounds_toArray, List.set_cons_zero, List.set_cons_succ])
    refine wpAnyH_take (i := 4) (oi := ⟨some 9, .load 24 (.tmp 2), 24, "ref.go:103", #[], none⟩) (v := ?_) rfl (by kernel_rfl) (by kernel_rfl) (by kernel_rfl) (fun _ _ _ h => h) (Or.inl ⟨by rfl, fun W hSw => ?_⟩) hHeld ?_
    rotate_left
    · (try dsimp only at hSw); go_simp; (try with_reducible rfl)
    (try simp only [Act.put, List.setIfInBounds_toArray, List.set_cons_zero, List.set_cons_succ])
    refine wpAnyH_take (i := 5) (oi := ⟨some 10, .fieldAddr 41 (.tmp 3) 0, 0, "ref.go:103", #[], none⟩) (v := ?_) rfl (by kernel_rfl) (by kernel_rfl) (by kernel_rfl) (fun _ _ _ h => h) (Or.inl ⟨by rfl, fun W hSw => ?_⟩) hHeld ?_
    rotate_left
    · (try dsimp only at hSw); go_simp; (try with_reducible rfl)
    (try simp only [Act.put, List.setIfInBounds_toArray, List.set_cons_zero, List.set_cons_succ])
    refine wpAnyH_take (i := 6) (oi := ⟨some 11, .load 3 (.tmp 10), 3, "ref.go:103", #[⟨5, .data⟩], none⟩) (v := ?_) rfl (by kernel_rfl) (by kernel_rfl) (by kernel_rfl) (fun _ _ _ h => h) (Or.inl ⟨by rfl, fun W hSw => ?_⟩) hHeld ?_
    rotate_left
    · (try dsimp only at hSw); go_simp; (try with_reducible rfl)
    (try simp only [Act.put, List.setIfInBounds_toArray, List.set_cons_zero, List.set_cons_succ])
    refine wpAnyH_ready (rs := [7]) (by kernel_rfl) (by simp) ?_
    refine AllReadyH.cons (o := ⟨some 12, .call { callee := .value (.func 80), args := #[.tmp 9, .tmp 11], argTypes := #[24, 3] }, 4, "ref.go:103", #[⟨4, .data⟩, ⟨6, .data⟩], none⟩) rfl (fun K hK => ?_) AllReadyH.nil
    go_simp
    refine (rLeap_any A n c cs e y _ (hr0.keep hHeld.2) hn2 hpos hy1 (by omega)).mono ?_
    rintro e' wA ⟨rfl, hb⟩
    refine hK.out _ _ (kp_step hb hHeld) (fun hHeld => ?_)
    clear hK K
    (try simp only [Act.put, List.setIfInBounds_toArray, List.set_cons_zero, List.set_cons_succ])
    refine wpAnyH_ready (rs := [8]) (by kernel_rfl) (by simp) ?_
    refine AllReadyH.cons (o := ⟨some 13, .call { callee := .value (.func 79), args := #[.tmp 8, .tmp 12], argTypes := #[3, 4] }, 3, "ref.go:103", #[⟨3, .data⟩, ⟨7, .data⟩, ⟨7, .chain⟩], none⟩) rfl (fun K hK => ?_) AllReadyH.nil
    go_simp
    refine (rLength_any m (leapB cs y) _ hm1 hm2).mono ?_
    rw [HML.out]
    rintro e' wB ⟨rfl, hb⟩
    refine hK.out _ _ (kp_step hb hHeld) (fun hHeld => ?_)
    clear hK K
    (try simp only [Act.put, List.setIfInBounds_toArray, List.set_cons_zero, List.set_cons_succ])
    refine wpAnyH_take (i := 9) (oi := ⟨some 14, .binOp .lss 3 (.tmp 6) (.tmp 13) 3, 4, "ref.go:103", #[⟨1, .data⟩, ⟨8, .data⟩], none⟩) (v := ?_) rfl (by kernel_rfl) (by kernel_rfl) (by kernel_rfl) (fun _ _ _ h => h) (Or.inl ⟨by rfl, fun W hSw => ?_⟩) hHeld ?_
    rotate_left
    · (try dsimp only at hSw); go_simp; (try with_reducible rfl)
    (try simp only [Act.put, List.setIfInBounds_toArray, List.set_cons_zero, List.set_cons_succ])
    refine wpAnyH_done (by kernel_rfl) ?_ _
    refine NoPanic.normal ?_
    have hD1 := hD0.keep hHeld.2
    have hZ1 := hZ0.keep hHeld.2
    have hcD := fun j => hD1.cell j
    have hlD := hD1.lt
    have g4 := fr_call g3 hHeld.2
    clear hD0 hZ0 hHeld
    go_wp2_with (refine wpList_store_blk rfl _ _ _ rfl (w.heap.size + 1 + 1) 41 _ _ rfl rfl hZ1 rfl (by kernel_rfl) (by simp [Value.oneCell']) ?_; intro w2 hZ2 hg2)
    refine bodyPost_ret (results_blk1 rfl _ _ _ _ rfl hZ2 Tryz.underlying41 rfl (by kernel_rfl)) rfl ⟨rfl, g4.grown hg2 g4.size (by intro k hk; cases hk; omega)⟩
  · by_cases h2 : m < 12
    · rw [hv2 h1 h2]
      clear hv1 hv2 hv3
      go_enter Tryz.func29, Tryz.ntmps29
      go_wp2_with fail
      refine wp_region_noPanic ?_
      refine wp_region_held_drew (S := fun W => (∀ p : Addr, p.block < (((w.alloc (.cells #[.int .i64 e, .slice A n c] 24)).alloc (.cells #[.int .i64 y, .int .i64 m, .int .i64 d] 41)).alloc (.cells #[.int .i64 0, .int .i64 0, .int .i64 0] 41)).heap.size → W.cell? p = (((w.alloc (.cells #[.int .i64 e, .slice A n c] 24)).alloc (.cells #[.int .i64 y, .int .i64 m, .int .i64 d] 41)).alloc (.cells #[.int .i64 0, .int .i64 0, .int .i64 0] 41)).cell? p) ∧ Below (((w.alloc (.cells #[.int .i64 e, .slice A n c] 24)).alloc (.cells #[.int .i64 y, .int .i64 m, .int .i64 d] 41)).alloc (.cells #[.int .i64 0, .int .i64 0, .int .i64 0] 41)).heap.size (((w.alloc (.cells #[.int .i64 e, .slice A n c] 24)).alloc (.cells #[.int .i64 y, .int .i64 m, .int .i64 d] 41)).alloc (.cells #[.int .i64 0, .int .i64 0, .int .i64 0] 41)) W) (by kernel_rfl) ⟨fun _ _ => rfl, fr_drew (fr_refl _)⟩ (fun hHeld => ?_)
      -- the region, step by step
      refine wpAnyH_take (i := 0) (oi := ⟨some 5, .fieldAddr 41 (.tmp 3) 2, 0, "ref.go:103", #[], none⟩) (v := ?_) rfl (by kernel_rfl) (by kernel_rfl) (by kernel_rfl) (fun _ _ _ h => h) (Or.inl ⟨by rfl, fun W hSw => ?_⟩) hHeld ?_
      rotate_left
      · (try dsimp only at hSw); go_simp; (try with_reducible rfl)
      (try simp only [Act.put, List.setIfInBounds_toArray, List.set_cons_zero, List.set_cons_succ])
      refine wpAnyH_take (i := 1) (oi := ⟨some 6, .load 3 (.tmp 5), 3, "ref.go:103", #[⟨0, .data⟩], none⟩) (v := ?_) rfl (by kernel_rfl) (by kernel_rfl) (by kernel_rfl) (fun _ _ _ h => h) (Or.inl ⟨by rfl, fun W hSw => ?_⟩) hHeld ?_
      rotate_left
      · (try dsimp only at hSw); go_simp; (try with_reducible rfl)
      (try simp only [Act.put, List.setIfInBounds_toArray, List.set_cons_zero, List.set_cons_succ])
      refine wpAnyH_take (i := 2) (oi := ⟨some 7, .fieldAddr 41 (.tmp 3) 1, 0, "ref.go:103", #[], none⟩) (v := ?_) rfl (by kernel_rfl) (by kernel_rfl) (by kernel_rfl) (fun _ _ _ h => h) (Or.inl ⟨by rfl, fun W hSw => ?_⟩) hHeld ?_
      rotate_left
      · (try dsimp only at hSw); go_simp; (try with_reducible rfl)
      (try simp only [Act.put, List.setIfInBounds_toArray, List.set_cons_zero, List.set_cons_succ])
      refine wpAnyH_take (i := 3) (oi := ⟨some 8, .load 3 (.tmp 7), 3, "ref.go:103", #[⟨2, .data⟩], none⟩) (v := ?_) rfl (by kernel_rfl) (by kernel_rfl) (by kernel_rfl) (fun _ _ _ h => h) (Or.inl ⟨by rfl, fun W hSw => ?_⟩) hHeld ?_
      rotate_left
      · (try dsimp only at hSw); go_simp; (try with_reducible rfl)
      (try simp only [Act.put, List.setIfInBounds_toArray, List.set_cons_zero, List.set_cons_succ])
      refine wpAnyH_take (i := 4) (oi := ⟨some 9, .load 24 (.tmp 2), 24, "ref.go:103", #[], none⟩) (v := ?_) rfl (by kernel_rfl) (by kernel_rfl) (by kernel_rfl) (fun _ _ _ h => h) (Or.inl ⟨by rfl, fun W hSw => ?_⟩) hHeld ?_
      rotate_left
      · (try dsimp only at hSw); go_simp; (try with_reducible rfl)
      (try simp only [Act.put, List.setIfInBounds_toArray, List.set_cons_zero, List.set_cons_succ])
      refine wpAnyH_take (i := 5) (oi := ⟨some 10, .fieldAddr 41 (.tmp 3) 0, 0, "ref.go:103", #[], none⟩) (v := ?_) rfl (by kernel_rfl) (by kernel_rfl) (by kernel_rfl) (fun _ _ _ h => h) (Or.inl ⟨by rfl, fun W hSw => ?_⟩) hHeld ?_
      rotate_left
      · (try dsimp only at hSw); go_simp; (try with_reducible rfl)
      (try simp only [Act.put, List.setIfInBounds_toArray, List.set_cons_zero, List.set_cons_succ])
      refine wpAnyH_take (i := 6) (oi := ⟨some 11, .load 3 (.tmp 10), 3, "ref.go:103", #[⟨5, .data⟩], none⟩) (v := ?_) rfl (by kernel_rfl) (by kernel_rfl) (by kernel_rfl) (fun _ _ _ h => h) (Or.inl ⟨by rfl, fun W hSw => ?_⟩) hHeld ?_
      rotate_left
      · (try dsimp only at hSw); go_simp; (try with_reducible rfl)
      (try simp only [Act.put, List.setIfInBounds_toArray, List.set_cons_zero, List.set_cons_succ])
      refine wpAnyH_ready (rs := [7]) (by kernel_rfl) (by simp) ?_
      refine AllReadyH.cons (o := ⟨some 12, .call { callee := .value (.func 80), args := #[.tmp 9, .tmp 11], argTypes := #[24, 3] }, 4, "ref.go:103", #[⟨4, .data⟩, ⟨6, .data⟩], none⟩) rfl (fun K hK => ?_) AllReadyH.nil
      go_simp
      refine (rLeap_any A n c cs e y _ (hr0.keep hHeld.2) hn2 hpos hy1 (by omega)).mono ?_
      rintro e' wA ⟨rfl, hb⟩
      refine hK.out _ _ (kp_step hb hHeld) (fun hHeld => ?_)
      clear hK K
      (try simp only [Act.put, List.setIfInBounds_toArray, List.set_cons_zero, List.set_cons_succ])
      refine wpAnyH_ready (rs := [8]) (by kernel_rfl) (by simp) ?_
      refine AllReadyH.cons (o := ⟨some 13, .call { callee := .value (.func 79), args := #[.tmp 8, .tmp 12], argTypes := #[3, 4] }, 3, "ref.go:103", #[⟨3, .data⟩, ⟨7, .data⟩, ⟨7, .chain⟩], none⟩) rfl (fun K hK => ?_) AllReadyH.nil
      go_simp
      refine (rLength_any m (leapB cs y) _ hm1 hm2).mono ?_
      rw [HML.out]
      rintro e' wB ⟨rfl, hb⟩
      refine hK.out _ _ (kp_step hb hHeld) (fun hHeld => ?_)
      clear hK K
      (try simp only [Act.put, List.setIfInBounds_toArray, List.set_cons_zero, List.set_cons_succ])
      refine wpAnyH_take (i := 9) (oi := ⟨some 14, .binOp .lss 3 (.tmp 6) (.tmp 13) 3, 4, "ref.go:103", #[⟨1, .data⟩, ⟨8, .data⟩], none⟩) (v := ?_) rfl (by kernel_rfl) (by kernel_rfl) (by kernel_rfl) (fun _ _ _ h => h) (Or.inl ⟨by rfl, fun W hSw => ?_⟩) hHeld ?_
      rotate_left
      · (try dsimp only at hSw); go_simp; (try with_reducible rfl)
      (try simp only [Act.put, List.setIfInBounds_toArray, List.set_cons_zero, List.set_cons_succ])
      refine wpAnyH_done (by kernel_rfl) ?_ _
      refine NoPanic.normal ?_
      have hD1 := hD0.keep hHeld.2
      have hZ1 := hZ0.keep hHeld.2
      have hcD := fun j => hD1.cell j
      have hlD := hD1.lt
      have g4 := fr_call g3 hHeld.2
      clear hD0 hZ0 hHeld
      go_wp2_with (refine wpList_store_blk rfl _ _ _ rfl (w.heap.size + 1 + 1) 41 _ _ rfl rfl hZ1 rfl (by kernel_rfl) (by simp [Value.oneCell']) ?_; intro w2 hZ2 hg2)
      refine bodyPost_ret (results_blk1 rfl _ _ _ _ rfl hZ2 Tryz.underlying41 rfl (by kernel_rfl)) rfl ⟨rfl, g4.grown hg2 g4.size (by intro k hk; cases hk; omega)⟩
    · rw [hv3 h1 h2]
      clear hv1 hv2 hv3
      go_enter Tryz.func29, Tryz.ntmps29
      go_wp2_with fail
      refine wp_region_noPanic ?_
      refine wp_region_held_drew (S := fun W => (∀ p : Addr, p.block < (((w.alloc (.cells #[.int .i64 e, .slice A n c] 24)).alloc (.cells #[.int .i64 y, .int .i64 m, .int .i64 d] 41)).alloc (.cells #[.int .i64 0, .int .i64 0, .int .i64 0] 41)).heap.size → W.cell? p = (((w.alloc (.cells #[.int .i64 e, .slice A n c] 24)).alloc (.cells #[.int .i64 y, .int .i64 m, .int .i64 d] 41)).alloc (.cells #[.int .i64 0, .int .i64 0, .int .i64 0] 41)).cell? p) ∧ Below (((w.alloc (.cells #[.int .i64 e, .slice A n c] 24)).alloc (.cells #[.int .i64 y, .int .i64 m, .int .i64 d] 41)).alloc (.cells #[.int .i64 0, .int .i64 0, .int .i64 0] 41)).heap.size (((w.alloc (.cells #[.int .i64 e, .slice A n c] 24)).alloc (.cells #[.int .i64 y, .int .i64 m, .int .i64 d] 41)).alloc (.cells #[.int .i64 0, .int .i64 0, .int .i64 0] 41)) W) (by kernel_rfl) ⟨fun _ _ => rfl, fr_drew (fr_refl _)⟩ (fun hHeld => ?_)
      -- the region, step by step
      refine wpAnyH_take (i := 0) (oi := ⟨some 5, .fieldAddr 41 (.tmp 3) 2, 0, "ref.go:103", #[], none⟩) (v := ?_) rfl (by kernel_rfl) (by kernel_rfl) (by kernel_rfl) (fun _ _ _ h => h) (Or.inl ⟨by rfl, fun W hSw => ?_⟩) hHeld ?_
      rotate_left
      · (try dsimp only at hSw); go_simp; (try with_reducible rfl)
      (try simp only [Act.put, List.setIfInBounds_toArray, List.set_cons_zero, List.set_cons_succ])
      refine wpAnyH_take (i := 1) (oi := ⟨some 6, .load 3 (.tmp 5), 3, "ref.go:103", #[⟨0, .data⟩], none⟩) (v := ?_) rfl (by kernel_rfl) (by kernel_rfl) (by kernel_rfl) (fun _ _ _ h => h) (Or.inl ⟨by rfl, fun W hSw => ?_⟩) hHeld ?_
      rotate_left
      · (try dsimp only at hSw); go_simp; (try with_reducible rfl)
      (try simp only [Act.put, List.setIfInBounds_toArray, List.set_cons_zero, List.set_cons_succ])
      refine wpAnyH_take (i := 2) (oi := ⟨some 7, .fieldAddr 41 (.tmp 3) 1, 0, "ref.go:103", #[], none⟩) (v := ?_) rfl (by kernel_rfl) (by kernel_rfl) (by kernel_rfl) (fun _ _ _ h => h) (Or.inl ⟨by rfl, fun W hSw => ?_⟩) hHeld ?_
      rotate_left
      · (try dsimp only at hSw); go_simp; (try with_reducible rfl)
      (try simp only [Act.put, List.setIfInBounds_toArray, List.set_cons_zero, List.set_cons_succ])
      refine wpAnyH_take (i := 3) (oi := ⟨some 8, .load 3 (.tmp 7), 3, "ref.go:103", #[⟨2, .data⟩], none⟩) (v := ?_) rfl (by kernel_rfl) (by kernel_rfl) (by kernel_rfl) (fun _ _ _ h => h) (Or.inl ⟨by rfl, fun W hSw => ?_⟩) hHeld ?_
      rotate_left
      · (try dsimp only at hSw); go_simp; (try with_reducible rfl)
      (try simp only [Act.put, List.setIfInBounds_toArray, List.set_cons_zero, List.set_cons_succ])
      refine wpAnyH_take (i := 4) (oi := ⟨some 9, .load 24 (.tmp 2), 24, "ref.go:103", #[], none⟩) (v := ?_) rfl (by kernel_rfl) (by kernel_rfl) (by kernel_rfl) (fun _ _ _ h => h) (Or.inl ⟨by rfl, fun W hSw => ?_⟩) hHeld ?_
      rotate_left
      · (try dsimp only at hSw); go_simp; (try with_reducible rfl)
      (try simp only [Act.put, List.setIfInBounds_toArray, List.set_cons_zero, List.set_cons_succ])
      refine wpAnyH_take (i := 5) (oi := ⟨some 10, .fieldAddr 41 (.tmp 3) 0, 0, "ref.go:103", #[], none⟩) (v := ?_) rfl (by kernel_rfl) (by kernel_rfl) (by kernel_rfl) (fun _ _ _ h => h) (Or.inl ⟨by rfl, fun W hSw => ?_⟩) hHeld ?_
      rotate_left
      · (try dsimp only at hSw); go_simp; (try with_reducible rfl)
      (try simp only [Act.put, List.setIfInBounds_toArray, List.set_cons_zero, List.set_cons_succ])
      refine wpAnyH_take (i := 6) (oi := ⟨some 11, .load 3 (.tmp 10), 3, "ref.go:103", #[⟨5, .data⟩], none⟩) (v := ?_) rfl (by kernel_rfl) (by kernel_rfl) (by kernel_rfl) (fun _ _ _ h => h) (Or.inl ⟨by rfl, fun W hSw => ?_⟩) hHeld ?_
      rotate_left
      · (try dsimp only at hSw); go_simp; (try with_reducible rfl)
      (try simp only [Act.put, List.setIfInBounds_toArray, List.set_cons_zero, List.set_cons_succ])
      refine wpAnyH_ready (rs := [7]) (by kernel_rfl) (by simp) ?_
      refine AllReadyH.cons (o := ⟨some 12, .call { callee := .value (.func 80), args := #[.tmp 9, .tmp 11], argTypes := #[24, 3] }, 4, "ref.go:103", #[⟨4, .data⟩, ⟨6, .data⟩], none⟩) rfl (fun K hK => ?_) AllReadyH.nil
      go_simp
      refine (rLeap_any A n c cs e y _ (hr0.keep hHeld.2) hn2 hpos hy1 (by omega)).mono ?_
      rintro e' wA ⟨rfl, hb⟩
      refine hK.out _ _ (kp_step hb hHeld) (fun hHeld => ?_)
      clear hK K
      (try simp only [Act.put, List.setIfInBounds_toArray, List.set_cons_zero, List.set_cons_succ])
      refine wpAnyH_ready (rs := [8]) (by kernel_rfl) (by simp) ?_
      refine AllReadyH.cons (o := ⟨some 13, .call { callee := .value (.func 79), args := #[.tmp 8, .tmp 12], argTypes := #[3, 4] }, 3, "ref.go:103", #[⟨3, .data⟩, ⟨7, .data⟩, ⟨7, .chain⟩], none⟩) rfl (fun K hK => ?_) AllReadyH.nil
      go_simp
      refine (rLength_any m (leapB cs y) _ hm1 hm2).mono ?_
      rw [HML.out]
      rintro e' wB ⟨rfl, hb⟩
      refine hK.out _ _ (kp_step hb hHeld) (fun hHeld => ?_)
      clear hK K
      (try simp only [Act.put, List.setIfInBounds_toArray, List.set_cons_zero, List.set_cons_succ])
      refine wpAnyH_take (i := 9) (oi := ⟨some 14, .binOp .lss 3 (.tmp 6) (.tmp 13) 3, 4, "ref.go:103", #[⟨1, .data⟩, ⟨8, .data⟩], none⟩) (v := ?_) rfl (by kernel_rfl) (by kernel_rfl) (by kernel_rfl) (fun _ _ _ h => h) (Or.inl ⟨by rfl, fun W hSw => ?_⟩) hHeld ?_
      rotate_left
      · (try dsimp only at hSw); go_simp; (try with_reducible rfl)
      (try simp only [Act.put, List.setIfInBounds_toArray, List.set_cons_zero, List.set_cons_succ])
      refine wpAnyH_done (by kernel_rfl) ?_ _
      refine NoPanic.normal ?_
      have hD1 := hD0.keep hHeld.2
      have hZ1 := hZ0.keep hHeld.2
      have hcD := fun j => hD1.cell j
      have hlD := hD1.lt
      have g4 := fr_call g3 hHeld.2
      clear hD0 hZ0 hHeld
      go_wp2_with (refine wpList_store_blk rfl _ _ _ rfl (w.heap.size + 1 + 1) 41 _ _ rfl rfl hZ1 rfl (by kernel_rfl) (by simp [Value.oneCell']) ?_; intro w2 hZ2 hg2)
      refine bodyPost_ret (results_blk1 rfl _ _ _ _ rfl hZ2 Tryz.underlying41 rfl (by kernel_rfl)) rfl ⟨rfl, g4.grown hg2 g4.size (by intro k hk; cases hk; omega)⟩
end Go.Proofs.YtnppilaabobgiaaGreatDoor
end

section
namespace Go.Proofs.YtnppilaabobgiaaGreatDoor
open Go.RowKit

set_option maxHeartbeats 1000000 in
theorem lfew_is (A : Option Addr) (n c : Nat) (w : World) (b : Bool) (hb : decide ((n : Int) ≤ 8) = b) :
    Calls Tryz.prog 39 #[.slice A n c] w fun e w' => e = .returned (.bool b) ∧ w = w' := by
  subst hb
  go_enter Tryz.func39, Tryz.ntmps39
  go_wp2
  go_ret
  exact ⟨by simp, rfl⟩
section
variable {o : Oper} {a : Act} {w : World} {K : Act → World → Prop} {Q : Exit → Act → World → Prop}
theorem wp_allocD (ho : o.op = .alloc 41)
    (h : ∀ g w', Blk w' g 41 #[.int .i64 0, .int .i64 0, .int .i64 0] → Below w.heap.size w w' → w.heap.size ≤ g → K (a.put o.dst (.pointer (some ⟨g, 0, none⟩))) w') : o.wp Tryz.prog a w K Q := by
  have h1 := h w.heap.size (w.alloc (.cells #[.int .i64 0, .int .i64 0, .int .i64 0] 41)) (Blk.new w _ _) (fr_alloc (fr_refl w) _) (Nat.le_refl _)
  obtain ⟨dst, op, ty, pos, after, guard⟩ := o
  simp only at ho
  subst ho
  go_simp
  exact h1
end
end Go.Proofs.YtnppilaabobgiaaGreatDoor
end

section
namespace Go.Proofs.YtnppilaabobgiaaGreatDoor
open Go.RowKit Dl

theorem feast_rows (l : List Feast) : ∀ r ∈ l.map Feast.row, r.length = 4 := fun r hr => by
  obtain ⟨f, _, rfl⟩ := List.mem_map.1 hr
  rfl
theorem info_feast : (Tryz.prog.info? 76).map (fun i => (i.zero, i.size, i.bytes)) = some (some (.agg #[.bool false, .int .i64 0, .int .i64 0, .int .i64 0]), 4, 32) := by kernel_rfl
theorem OwnS.len4f {w : World} {base : Nat} {v : Value} {l : List Feast} (h : OwnS w base 76 4 v (l.map Feast.row)) : ∃ A c, v = .slice A l.length c := by
  obtain ⟨A, c, e⟩ := h.form
  rw [List.length_map] at e
  exact ⟨A, c, e⟩
section
variable {o : Oper} {a : Act} {w : World} {K : Act → World → Prop} {Q : Exit → Act → World → Prop}
theorem wp_build1t {x : Nat} {f : Feast} (ho : o.op = .buildSlice 64 1 #[(0, .tmp x)]) (hx : a.tmps.getD x undef = .agg #[.bool f.mv, .int .i64 f.m, .int .i64 f.d, .int .i64 f.a])
    (h : ∀ g w', RdS w' (some ⟨g, 0, none⟩) 4 ([f].map Feast.row) → Below w.heap.size w w' → w.heap.size ≤ g → K (a.put o.dst (.slice (some ⟨g, 0, none⟩) 1 1)) w') : o.wp Tryz.prog a w K Q := by
  have h1 := h w.heap.size (w.alloc (.cells #[.bool f.mv, .int .i64 f.m, .int .i64 f.d, .int .i64 f.a] 76)) (rdS_of_blk (Blk.new w 76 #[.bool f.mv, .int .i64 f.m, .int .i64 f.d, .int .i64 f.a]) (feast_rows [f])) (fr_alloc (fr_refl w) _) (Nat.le_refl _)
  obtain ⟨dst, op, ty, pos, after, guard⟩ := o
  simp only at ho
  subst ho
  have hx' : a.tmps[x]?.getD undef = .agg #[.bool f.mv, .int .i64 f.m, .int .i64 f.d, .int .i64 f.a] := by simpa using hx
  go_simp
  exact h1
/-- 'append(s, xs...)' of feasts, the row s being the call's own -/
theorem wp_app_feasts (s x : Operand) (ho : o.op = .call { callee := .builtin .append, args := #[s, x], argTypes := #[64, 64] }) (base : Nat) (v : Value) (l1 : List Feast) (hs : a.eval s = v) (hown : OwnS w base 76 4 v (l1.map Feast.row))
    (A : Option Addr) (n c : Nat) (l2 : List Feast) (hx : a.eval x = .slice A n c) (hl2 : l2.length = n) (hr : RdS w A 4 (l2.map Feast.row)) (hn1 : l1.length ≤ 1000000) (hn2 : n ≤ 1000000) (hbase : base ≤ w.heap.size)
    (h : ∀ A' c' w', OwnS w' base 76 4 (.slice A' (l1.length + n) c') ((l1 ++ l2).map Feast.row) → w.grownBy w' v.ownBlock → K (a.put o.dst (.slice A' (l1.length + n) c')) w') : o.wp Tryz.prog a w K Q := by
  obtain ⟨i0, hi, hz0, hz1, hz2⟩ := info_parts info_feast
  cases A with
  | none =>
    have hn0 : n = 0 := by
      rcases Nat.eq_zero_or_pos n with h0 | h0
      · exact h0
      · obtain ⟨ad, e, _⟩ := hr (by rw [List.length_map]; omega)
        cases e
    subst hn0
    obtain rfl : l2 = [] := List.eq_nil_of_length_eq_zero hl2
    obtain ⟨A1, c1, hv⟩ := hown.len4f
    have hrun := run_app_none (ty := o.type) Tryz.underlying64 hi hown.1 c
    rw [List.append_nil] at h
    have h1 := h A1 c1 w (by rw [← show v = .slice A1 (l1.length + 0) c1 by rw [hv, Nat.add_zero]]; exact hown) (World.grownBy.refl w _)
    rw [Nat.add_zero, ← hv] at h1
    unfold Oper.wp
    simp [execOp, ho, resolve, invoke, builtin, hs, hx, hrun, Result.andThen]
    exact h1
  | some ad =>
    have hfl : (l2.map Feast.row).flatten.length = n * 4 := by rw [flat_len (feast_rows l2), List.length_map, hl2]
    refine wp_append_own w s x _ ho base _ i0 _ 4 32 Tryz.underlying64 hi hz0 hz1 hz2 rfl (by omega) v _ _ hs hown.1 ad n c (l2.map Feast.row).flatten hx hfl ?_ ?_
      (by rw [List.length_map]; unfold maxLen; omega) (by rw [List.length_map]; omega) hbase ?_
    · intro j u hj
      have hjl := (List.getElem?_eq_some_iff.1 hj).1
      rw [hfl] at hjl
      have hi4 : j / 4 < l2.length := by omega
      have hrow : (l2.map Feast.row)[j / 4]? = some (l2[j / 4].row) := by simp [hi4]
      obtain ⟨ad', e, _, _, hc⟩ := hr.at_ hrow
      cases e
      have hr4 : (l2[j / 4].row).length = 4 := rfl
      obtain ⟨u', hu'⟩ : ∃ u', (l2[j / 4].row)[j % 4]? = some u' := ⟨(l2[j / 4].row)[j % 4]'(by rw [hr4]; omega), List.getElem?_eq_getElem _⟩
      have h1 := flat_get (feast_rows l2) (j / 4) _ (j % 4) u' hrow hu'
      rw [show j / 4 * 4 + j % 4 = j by omega, hj] at h1
      cases h1
      have := hc (j % 4) _ hu'
      rw [show j / 4 * 4 + j % 4 = j by omega] at this
      exact this
    · intro u hu
      obtain ⟨r, hr1, hr2⟩ := List.mem_flatten.1 hu
      obtain ⟨f, _, rfl⟩ := List.mem_map.1 hr1
      simp only [Feast.row, List.mem_cons, List.not_mem_nil, or_false] at hr2
      rcases hr2 with rfl | rfl | rfl | rfl <;> rfl
    · intro v' w' hown' hg _
      have hown2 : OwnS w' base 76 4 v' ((l1 ++ l2).map Feast.row) := by
        refine ⟨?_, feast_rows _⟩
        rw [List.map_append, List.length_append, List.flatten_append, List.length_map, List.length_map, hl2]
        rw [List.length_map] at hown'
        exact hown'
      obtain ⟨A', c', rfl⟩ := hown2.len4f
      rw [List.length_append, hl2] at hown2 ⊢
      exact h A' c' w' hown2 hg
end
end Go.Proofs.YtnppilaabobgiaaGreatDoor
end
