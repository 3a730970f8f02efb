/- The laws' helper so: whether a fact is so, as other calls tell it. -/
import Derived.Test.YtnpgdifidejohaaGreatDoorMEC
import Derived.Test.YtnpgdifidejohaaGreatDoorMGG
import Derived.Test.YtnpgdifidejohaaGreatDoorMC5
import Derived.Test.YtnpgdifidejohaaGreatDoorMD4
import Derived.Test.YtnpgdifidejohaaGreatDoorMB5
import Derived.Test.YtnpgdifidejohaaGreatDoorMB2
import Derived.Test.YtnpgdifidejohaaGreatDoorMD1
namespace Go.Proofs.YtnpgdifidejohaaGreatDoor
open Go.RowKit Dl

theorem real29 (cs : List Int) (y : Int) (hy : 0 ≤ y ∧ y ≤ 4000) : realB cs y 2 29 = leapB cs y := by
  unfold realB
  rw [inB_yes hy, inB_yes (by omega : (1 : Int) ≤ 2 ∧ (2 : Int) ≤ 12)]
  cases leapB cs y <;> rfl
theorem easter_same {e y m d m' d' E : Int} {cs : List Int} (h : dateOf e cs E = some ⟨y, m', d'⟩) : (realB cs y m d && (dayOf e cs ⟨y, m, d⟩ == E)) = ((m' == m) && (d' == d)) := by
  obtain ⟨hr, hd⟩ := dateOf_some.1 h
  rw [Bool.eq_iff_iff]
  simp only [Bool.and_eq_true, beq_iff_eq]
  constructor
  · rintro ⟨h1, h2⟩
    have h3 : dateOf e cs E = some ⟨y, m, d⟩ := dateOf_some.2 ⟨realB_iff.1 h1, h2⟩
    rw [h] at h3
    injection h3 with h3
    injection h3 with _ h4 h5
    exact ⟨h4, h5⟩
  · rintro ⟨rfl, rfl⟩
    exact ⟨realB_iff.2 hr, hd⟩
theorem fact_value {k m d v : Int} (h : kindB ⟨k, m, d, v⟩ (val_areFacts ⟨k, m, d, v⟩) = true) : 0 ≤ v ∧ (k = 5 → v = 365 ∨ v = 366) := by
  rw [fact_parts] at h
  simp only [Bool.and_eq_true] at h
  have := inB_iff.1 h.2
  constructor
  · split at this <;> (try split at this) <;> (try split at this) <;> omega
  · rintro rfl
    simp at this
    omega

set_option maxRecDepth 100000 in
set_option maxHeartbeats 8000000 in
theorem lso1 (A : Option Addr) (n c : Nat) (cs : List Int) (e num den add y m d v : Int) (w : World) (hr : Rd w A n cs) (hn : n ≤ 9223372036854775807) (hok : calOk e cs = true) (hm : moonB num den add = true) (hyb : inB y 0 4000 = true) (hv : 0 ≤ v) :
    Calls Tryz.prog 55 #[.agg #[.int .i64 e, .slice A n c], .agg #[.int .i64 num, .int .i64 den, .int .i64 add], .agg #[.int .i64 1, .int .i64 m, .int .i64 d, .int .i64 v], .int .i64 y] w fun e' w' => e' = .returned (.bool (soB e cs num den add y ⟨1, m, d, v⟩)) ∧ Below w.heap.size w w' := by
  have hy2 := inB_iff.1 hyb
  have _u := hm
  have g1 := fr_alloc (fr_alloc (fr_alloc (fr_refl w) (.cells #[.int .i64 e, .slice A n c] 24)) (.cells #[.int .i64 num, .int .i64 den, .int .i64 add] 65)) (.cells #[.int .i64 1, .int .i64 m, .int .i64 d, .int .i64 v] 77)
  have hX0 : Blk (((w.alloc (.cells #[.int .i64 e, .slice A n c] 24)).alloc (.cells #[.int .i64 num, .int .i64 den, .int .i64 add] 65)).alloc (.cells #[.int .i64 1, .int .i64 m, .int .i64 d, .int .i64 v] 77)) (w.heap.size) 24 #[.int .i64 e, .slice A n c] := (((Blk.new_at _ _ (by simp)).alloc _).alloc _)
  have hX1 : Blk (((w.alloc (.cells #[.int .i64 e, .slice A n c] 24)).alloc (.cells #[.int .i64 num, .int .i64 den, .int .i64 add] 65)).alloc (.cells #[.int .i64 1, .int .i64 m, .int .i64 d, .int .i64 v] 77)) (w.heap.size + 1) 65 #[.int .i64 num, .int .i64 den, .int .i64 add] := ((Blk.new_at _ _ (by simp)).alloc _)
  have hX2 : Blk (((w.alloc (.cells #[.int .i64 e, .slice A n c] 24)).alloc (.cells #[.int .i64 num, .int .i64 den, .int .i64 add] 65)).alloc (.cells #[.int .i64 1, .int .i64 m, .int .i64 d, .int .i64 v] 77)) (w.heap.size + 1 + 1) 77 #[.int .i64 1, .int .i64 m, .int .i64 d, .int .i64 v] := (Blk.new_at _ _ (by simp))
  cases hq : realB cs y m d
  · have hs : soB e cs num den add y ⟨1, m, d, v⟩ = false := by
      unfold soB
      rw [ansOf_1]
      unfold ans1
      rw [hq]
      simp
      omega
    rw [hs]
    clear hs
    go_enter Tryz.func55, Tryz.ntmps55
    go_wp2_with fail
    have hfr := g1
    replace hr := hr.keep g1
    have hc0 := fun j => hX0.cell j
    have hc1 := fun j => hX1.cell j
    have hc2 := fun j => hX2.cell j
    have hl0 := hX0.lt
    have hl1 := hX1.lt
    have hl2 := hX2.lt
    refine (ldate_is _ _ _ _).mono ?_
    rintro e' w1 ⟨rfl, hb⟩
    replace hr := hr.keep hb
    replace hfr := fr_call hfr hb
    replace hX0 := hX0.keep hb
    replace hc0 := fun j => hX0.cell j
    replace hl0 := hX0.lt
    replace hX1 := hX1.keep hb
    replace hc1 := fun j => hX1.cell j
    replace hl1 := hX1.lt
    replace hX2 := hX2.keep hb
    replace hc2 := fun j => hX2.cell j
    replace hl2 := hX2.lt
    clear hb
    go_wp2_with fail
    have ga := fr_alloc (fr_refl w1) (.cells #[.int .i64 y, .int .i64 m, .int .i64 d] 38)
    replace hr := hr.keep ga
    replace hfr := fr_call hfr ga
    replace hX0 := hX0.keep ga
    replace hc0 := fun j => hX0.cell j
    replace hl0 := hX0.lt
    replace hX1 := hX1.keep ga
    replace hc1 := fun j => hX1.cell j
    replace hl1 := hX1.lt
    replace hX2 := hX2.keep ga
    replace hc2 := fun j => hX2.cell j
    replace hl2 := hX2.lt
    have hX3 := Blk.new w1 38 #[.int .i64 y, .int .i64 m, .int .i64 d]
    have hc3 := fun j => hX3.cell j
    have hl3 := hX3.lt
    clear ga
    refine (Day_no A n c cs e y m d _ hr hn hok hq).mono ?_
    rintro e' w2 ⟨rfl, hb⟩
    replace hr := hr.keep hb
    replace hfr := fr_call hfr hb
    replace hX0 := hX0.keep hb
    replace hc0 := fun j => hX0.cell j
    replace hl0 := hX0.lt
    replace hX1 := hX1.keep hb
    replace hc1 := fun j => hX1.cell j
    replace hl1 := hX1.lt
    replace hX2 := hX2.keep hb
    replace hc2 := fun j => hX2.cell j
    replace hl2 := hX2.lt
    replace hX3 := hX3.keep hb
    replace hc3 := fun j => hX3.cell j
    replace hl3 := hX3.lt
    clear hb
    go_wp2_with fail
    go_ret
    exact ⟨rfl, hfr⟩
  · obtain ⟨hy, hmm, hd⟩ := real_range hq
    have hdr : 0 ≤ dayOf e cs ⟨y, m, d⟩ ∧ dayOf e cs ⟨y, m, d⟩ ≤ 2000000 := by
      have h1 := firstDay_bounds e cs y hy.1
      have h2 := cum_bounds (leapB cs y) m hmm.1 hmm.2
      have h3 := (calOk_parts hok).1
      unfold dayOf
      simp only
      omega
    obtain ⟨dq, gd⟩ : ∃ q, dayOf e cs ⟨y, m, d⟩ = q := ⟨_, rfl⟩
    rw [gd] at hdr
    have HD := Lib.hid gd
    clear gd
    have hnum : inB dq 0 2000000 = true := inB_yes hdr
    obtain ⟨hdr1, hdr2⟩ := hdr
    obtain ⟨wq, gw⟩ : ∃ q, wkd dq = q := ⟨_, rfl⟩
    have HW := Lib.hid gw
    have hs : soB e cs num den add y ⟨1, m, d, v⟩ = (wq == v) := by unfold soB; rw [ansOf_1]; unfold ans1; rw [hq, HD.out, gw]; rfl
    rw [hs]
    clear hs gw
    go_enter Tryz.func55, Tryz.ntmps55
    go_wp2_with fail
    have hfr := g1
    replace hr := hr.keep g1
    have hc0 := fun j => hX0.cell j
    have hc1 := fun j => hX1.cell j
    have hc2 := fun j => hX2.cell j
    have hl0 := hX0.lt
    have hl1 := hX1.lt
    have hl2 := hX2.lt
    refine (ldate_is _ _ _ _).mono ?_
    rintro e' w1 ⟨rfl, hb⟩
    replace hr := hr.keep hb
    replace hfr := fr_call hfr hb
    replace hX0 := hX0.keep hb
    replace hc0 := fun j => hX0.cell j
    replace hl0 := hX0.lt
    replace hX1 := hX1.keep hb
    replace hc1 := fun j => hX1.cell j
    replace hl1 := hX1.lt
    replace hX2 := hX2.keep hb
    replace hc2 := fun j => hX2.cell j
    replace hl2 := hX2.lt
    clear hb
    go_wp2_with fail
    have ga := fr_alloc (fr_refl w1) (.cells #[.int .i64 y, .int .i64 m, .int .i64 d] 38)
    replace hr := hr.keep ga
    replace hfr := fr_call hfr ga
    replace hX0 := hX0.keep ga
    replace hc0 := fun j => hX0.cell j
    replace hl0 := hX0.lt
    replace hX1 := hX1.keep ga
    replace hc1 := fun j => hX1.cell j
    replace hl1 := hX1.lt
    replace hX2 := hX2.keep ga
    replace hc2 := fun j => hX2.cell j
    replace hl2 := hX2.lt
    have hX3 := Blk.new w1 38 #[.int .i64 y, .int .i64 m, .int .i64 d]
    have hc3 := fun j => hX3.cell j
    have hl3 := hX3.lt
    clear ga
    refine (Day_yes A n c cs e y m d _ hr hn hok hq).mono ?_
    rw [HD.out]
    rintro e' w2 ⟨rfl, hb⟩
    replace hr := hr.keep hb
    replace hfr := fr_call hfr hb
    replace hX0 := hX0.keep hb
    replace hc0 := fun j => hX0.cell j
    replace hl0 := hX0.lt
    replace hX1 := hX1.keep hb
    replace hc1 := fun j => hX1.cell j
    replace hl1 := hX1.lt
    replace hX2 := hX2.keep hb
    replace hc2 := fun j => hX2.cell j
    replace hl2 := hX2.lt
    replace hX3 := hX3.keep hb
    replace hc3 := fun j => hX3.cell j
    replace hl3 := hX3.lt
    clear hb
    go_wp2_with fail
    refine (rNumber_is _ _ _ hnum).mono ?_
    rintro e' w3 ⟨rfl, rfl⟩
    go_wp2_with fail
    refine wp_region_noPanic ?_
    refine wp_region_held_drew (S := fun W => (∀ p : Addr, p.block < (w2).heap.size → W.cell? p = (w2).cell? p) ∧ Below (w2).heap.size (w2) W) (by kernel_rfl) ⟨fun _ _ => rfl, fr_drew (fr_refl _)⟩ (fun hHeld => ?_)
    -- the region, step by step
    refine wpAnyH_take (i := 0) (oi := ⟨some 61, .move (.tmp 12), 3, "law.go:433", #[], none⟩) (v := ?_) rfl (by kernel_rfl) (by kernel_rfl) (by kernel_rfl) (fun _ _ _ h => h) (Or.inl ⟨by rfl, fun W hSw => ?_⟩) hHeld ?_
    rotate_left
    · (try dsimp only at hSw); go_simp; (try with_reducible rfl)
    (try simp only [Act.put, List.setIfInBounds_toArray, List.set_cons_zero, List.set_cons_succ])
    refine wpAnyH_take (i := 2) (oi := ⟨some 63, .fieldAddr 77 (.tmp 6) 3, 0, "law.go:433", #[], none⟩) (v := ?_) rfl (by kernel_rfl) (by kernel_rfl) (by kernel_rfl) (fun _ _ _ h => h) (Or.inl ⟨by rfl, fun W hSw => ?_⟩) hHeld ?_
    rotate_left
    · (try dsimp only at hSw); go_simp; (try with_reducible rfl)
    (try simp only [Act.put, List.setIfInBounds_toArray, List.set_cons_zero, List.set_cons_succ])
    refine wpAnyH_take (i := 3) (oi := ⟨some 64, .load 3 (.tmp 63), 3, "law.go:433", #[⟨2, .data⟩], none⟩) (v := ?_) rfl (by kernel_rfl) (by kernel_rfl) (by kernel_rfl) (fun _ _ _ h => h) (Or.inl ⟨by rfl, fun W hSw => ?_⟩) hHeld ?_
    rotate_left
    · (try dsimp only at hSw); go_simp; (try with_reducible rfl)
    (try simp only [Act.put, List.setIfInBounds_toArray, List.set_cons_zero, List.set_cons_succ])
    refine wpAnyH_ready (rs := [1]) (by kernel_rfl) (by simp) ?_
    refine AllReadyH.cons (o := ⟨some 62, .call { callee := .value (.func 26), args := #[.tmp 61], argTypes := #[3] }, 3, "law.go:433", #[⟨0, .data⟩], none⟩) rfl (fun K hK => ?_) AllReadyH.nil
    go_simp
    refine (rWeekday_any dq _ (by omega) (by omega)).mono ?_
    rw [HW.out]
    rintro e' wA ⟨rfl, rfl⟩
    refine hK.out _ _ (hHeld) (fun hHeld => ?_)
    clear hK K
    (try simp only [Act.put, List.setIfInBounds_toArray, List.set_cons_zero, List.set_cons_succ])
    refine wpAnyH_take (i := 4) (oi := ⟨some 65, .binOp .eql 3 (.tmp 62) (.tmp 64) 3, 4, "law.go:433", #[⟨1, .data⟩, ⟨3, .data⟩], none⟩) (v := ?_) rfl (by kernel_rfl) (by kernel_rfl) (by kernel_rfl) (fun _ _ _ h => h) (Or.inl ⟨by rfl, fun W hSw => ?_⟩) hHeld ?_
    rotate_left
    · (try dsimp only at hSw); go_simp; (try with_reducible rfl)
    (try simp only [Act.put, List.setIfInBounds_toArray, List.set_cons_zero, List.set_cons_succ])
    refine wpAnyH_take (i := 5) (oi := ⟨some 8, .assign (.tmp 65), 4, "law.go:433", #[⟨4, .data⟩, ⟨1, .chain⟩, ⟨0, .phase⟩, ⟨1, .phase⟩, ⟨2, .phase⟩, ⟨3, .phase⟩, ⟨4, .phase⟩], none⟩) (v := ?_) rfl (by kernel_rfl) (by kernel_rfl) (by kernel_rfl) (fun _ _ _ h => h) (Or.inl ⟨by rfl, fun W hSw => ?_⟩) hHeld ?_
    rotate_left
    · (try dsimp only at hSw); go_simp; (try with_reducible rfl)
    (try simp only [Act.put, List.setIfInBounds_toArray, List.set_cons_zero, List.set_cons_succ])
    refine wpAnyH_done (by kernel_rfl) ?_ _
    refine NoPanic.normal ?_
    replace hr := hr.keep hHeld.2
    replace hfr := fr_call hfr hHeld.2
    replace hX0 := hX0.keep hHeld.2
    replace hc0 := fun j => hX0.cell j
    replace hl0 := hX0.lt
    replace hX1 := hX1.keep hHeld.2
    replace hc1 := fun j => hX1.cell j
    replace hl1 := hX1.lt
    replace hX2 := hX2.keep hHeld.2
    replace hc2 := fun j => hX2.cell j
    replace hl2 := hX2.lt
    replace hX3 := hX3.keep hHeld.2
    replace hc3 := fun j => hX3.cell j
    replace hl3 := hX3.lt
    clear hHeld
    go_wp2_with fail
    go_ret
    exact ⟨rfl, hfr⟩

set_option maxRecDepth 100000 in
set_option maxHeartbeats 8000000 in
theorem lso2 (A : Option Addr) (n c : Nat) (cs : List Int) (e num den add y m d v : Int) (w : World) (hr : Rd w A n cs) (hn : n ≤ 9223372036854775807) (hok : calOk e cs = true) (hm : moonB num den add = true) (hyb : inB y 0 4000 = true) (hv : 0 ≤ v) :
    Calls Tryz.prog 55 #[.agg #[.int .i64 e, .slice A n c], .agg #[.int .i64 num, .int .i64 den, .int .i64 add], .agg #[.int .i64 2, .int .i64 m, .int .i64 d, .int .i64 v], .int .i64 y] w fun e' w' => e' = .returned (.bool (soB e cs num den add y ⟨2, m, d, v⟩)) ∧ Below w.heap.size w w' := by
  have hy2 := inB_iff.1 hyb
  have _u := hm
  have g1 := fr_alloc (fr_alloc (fr_alloc (fr_refl w) (.cells #[.int .i64 e, .slice A n c] 24)) (.cells #[.int .i64 num, .int .i64 den, .int .i64 add] 65)) (.cells #[.int .i64 2, .int .i64 m, .int .i64 d, .int .i64 v] 77)
  have hX0 : Blk (((w.alloc (.cells #[.int .i64 e, .slice A n c] 24)).alloc (.cells #[.int .i64 num, .int .i64 den, .int .i64 add] 65)).alloc (.cells #[.int .i64 2, .int .i64 m, .int .i64 d, .int .i64 v] 77)) (w.heap.size) 24 #[.int .i64 e, .slice A n c] := (((Blk.new_at _ _ (by simp)).alloc _).alloc _)
  have hX1 : Blk (((w.alloc (.cells #[.int .i64 e, .slice A n c] 24)).alloc (.cells #[.int .i64 num, .int .i64 den, .int .i64 add] 65)).alloc (.cells #[.int .i64 2, .int .i64 m, .int .i64 d, .int .i64 v] 77)) (w.heap.size + 1) 65 #[.int .i64 num, .int .i64 den, .int .i64 add] := ((Blk.new_at _ _ (by simp)).alloc _)
  have hX2 : Blk (((w.alloc (.cells #[.int .i64 e, .slice A n c] 24)).alloc (.cells #[.int .i64 num, .int .i64 den, .int .i64 add] 65)).alloc (.cells #[.int .i64 2, .int .i64 m, .int .i64 d, .int .i64 v] 77)) (w.heap.size + 1 + 1) 77 #[.int .i64 2, .int .i64 m, .int .i64 d, .int .i64 v] := (Blk.new_at _ _ (by simp))
  cases hq : realB cs y m d
  · have hs : soB e cs num den add y ⟨2, m, d, v⟩ = false := by
      unfold soB
      rw [ansOf_2]
      unfold ans2
      rw [hq]
      simp
      omega
    rw [hs]
    clear hs
    go_enter Tryz.func55, Tryz.ntmps55
    go_wp2_with fail
    have hfr := g1
    replace hr := hr.keep g1
    have hc0 := fun j => hX0.cell j
    have hc1 := fun j => hX1.cell j
    have hc2 := fun j => hX2.cell j
    have hl0 := hX0.lt
    have hl1 := hX1.lt
    have hl2 := hX2.lt
    refine (ldate_is _ _ _ _).mono ?_
    rintro e' w1 ⟨rfl, hb⟩
    replace hr := hr.keep hb
    replace hfr := fr_call hfr hb
    replace hX0 := hX0.keep hb
    replace hc0 := fun j => hX0.cell j
    replace hl0 := hX0.lt
    replace hX1 := hX1.keep hb
    replace hc1 := fun j => hX1.cell j
    replace hl1 := hX1.lt
    replace hX2 := hX2.keep hb
    replace hc2 := fun j => hX2.cell j
    replace hl2 := hX2.lt
    clear hb
    go_wp2_with fail
    have ga := fr_alloc (fr_refl w1) (.cells #[.int .i64 y, .int .i64 m, .int .i64 d] 38)
    replace hr := hr.keep ga
    replace hfr := fr_call hfr ga
    replace hX0 := hX0.keep ga
    replace hc0 := fun j => hX0.cell j
    replace hl0 := hX0.lt
    replace hX1 := hX1.keep ga
    replace hc1 := fun j => hX1.cell j
    replace hl1 := hX1.lt
    replace hX2 := hX2.keep ga
    replace hc2 := fun j => hX2.cell j
    replace hl2 := hX2.lt
    have hX3 := Blk.new w1 38 #[.int .i64 y, .int .i64 m, .int .i64 d]
    have hc3 := fun j => hX3.cell j
    have hl3 := hX3.lt
    clear ga
    refine (Day_no A n c cs e y m d _ hr hn hok hq).mono ?_
    rintro e' w2 ⟨rfl, hb⟩
    replace hr := hr.keep hb
    replace hfr := fr_call hfr hb
    replace hX0 := hX0.keep hb
    replace hc0 := fun j => hX0.cell j
    replace hl0 := hX0.lt
    replace hX1 := hX1.keep hb
    replace hc1 := fun j => hX1.cell j
    replace hl1 := hX1.lt
    replace hX2 := hX2.keep hb
    replace hc2 := fun j => hX2.cell j
    replace hl2 := hX2.lt
    replace hX3 := hX3.keep hb
    replace hc3 := fun j => hX3.cell j
    replace hl3 := hX3.lt
    clear hb
    go_wp2_with fail
    go_ret
    exact ⟨rfl, hfr⟩
  · obtain ⟨hy, hmm, hd⟩ := real_range hq
    have hdr : 0 ≤ dayOf e cs ⟨y, m, d⟩ ∧ dayOf e cs ⟨y, m, d⟩ ≤ 2000000 := by
      have h1 := firstDay_bounds e cs y hy.1
      have h2 := cum_bounds (leapB cs y) m hmm.1 hmm.2
      have h3 := (calOk_parts hok).1
      unfold dayOf
      simp only
      omega
    obtain ⟨dq, gd⟩ : ∃ q, dayOf e cs ⟨y, m, d⟩ = q := ⟨_, rfl⟩
    rw [gd] at hdr
    have HD := Lib.hid gd
    clear gd
    have hnum : inB dq 0 2000000 = true := inB_yes hdr
    obtain ⟨hdr1, hdr2⟩ := hdr
    obtain ⟨wq, gw⟩ : ∃ q, ageOf num den add dq = q := ⟨_, rfl⟩
    have HW := Lib.hid gw
    have hs : soB e cs num den add y ⟨2, m, d, v⟩ = (wq == v) := by unfold soB; rw [ansOf_2]; unfold ans2; rw [hq, HD.out, gw]; rfl
    rw [hs]
    clear hs gw
    go_enter Tryz.func55, Tryz.ntmps55
    go_wp2_with fail
    have hfr := g1
    replace hr := hr.keep g1
    have hc0 := fun j => hX0.cell j
    have hc1 := fun j => hX1.cell j
    have hc2 := fun j => hX2.cell j
    have hl0 := hX0.lt
    have hl1 := hX1.lt
    have hl2 := hX2.lt
    refine (ldate_is _ _ _ _).mono ?_
    rintro e' w1 ⟨rfl, hb⟩
    replace hr := hr.keep hb
    replace hfr := fr_call hfr hb
    replace hX0 := hX0.keep hb
    replace hc0 := fun j => hX0.cell j
    replace hl0 := hX0.lt
    replace hX1 := hX1.keep hb
    replace hc1 := fun j => hX1.cell j
    replace hl1 := hX1.lt
    replace hX2 := hX2.keep hb
    replace hc2 := fun j => hX2.cell j
    replace hl2 := hX2.lt
    clear hb
    go_wp2_with fail
    have ga := fr_alloc (fr_refl w1) (.cells #[.int .i64 y, .int .i64 m, .int .i64 d] 38)
    replace hr := hr.keep ga
    replace hfr := fr_call hfr ga
    replace hX0 := hX0.keep ga
    replace hc0 := fun j => hX0.cell j
    replace hl0 := hX0.lt
    replace hX1 := hX1.keep ga
    replace hc1 := fun j => hX1.cell j
    replace hl1 := hX1.lt
    replace hX2 := hX2.keep ga
    replace hc2 := fun j => hX2.cell j
    replace hl2 := hX2.lt
    have hX3 := Blk.new w1 38 #[.int .i64 y, .int .i64 m, .int .i64 d]
    have hc3 := fun j => hX3.cell j
    have hl3 := hX3.lt
    clear ga
    refine (Day_yes A n c cs e y m d _ hr hn hok hq).mono ?_
    rw [HD.out]
    rintro e' w2 ⟨rfl, hb⟩
    replace hr := hr.keep hb
    replace hfr := fr_call hfr hb
    replace hX0 := hX0.keep hb
    replace hc0 := fun j => hX0.cell j
    replace hl0 := hX0.lt
    replace hX1 := hX1.keep hb
    replace hc1 := fun j => hX1.cell j
    replace hl1 := hX1.lt
    replace hX2 := hX2.keep hb
    replace hc2 := fun j => hX2.cell j
    replace hl2 := hX2.lt
    replace hX3 := hX3.keep hb
    replace hc3 := fun j => hX3.cell j
    replace hl3 := hX3.lt
    clear hb
    go_wp2_with fail
    refine (rNumber_is _ _ _ hnum).mono ?_
    rintro e' w3 ⟨rfl, rfl⟩
    go_wp2_with fail
    refine (Age_ok num den add dq _ hm hnum).mono ?_
    rw [HW.out]
    rintro e' w4 ⟨rfl, hb⟩
    replace hr := hr.keep hb
    replace hfr := fr_call hfr hb
    replace hX0 := hX0.keep hb
    replace hc0 := fun j => hX0.cell j
    replace hl0 := hX0.lt
    replace hX1 := hX1.keep hb
    replace hc1 := fun j => hX1.cell j
    replace hl1 := hX1.lt
    replace hX2 := hX2.keep hb
    replace hc2 := fun j => hX2.cell j
    replace hl2 := hX2.lt
    replace hX3 := hX3.keep hb
    replace hc3 := fun j => hX3.cell j
    replace hl3 := hX3.lt
    clear hb
    go_wp2_with fail
    go_ret
    exact ⟨rfl, hfr⟩

set_option maxRecDepth 100000 in
set_option maxHeartbeats 8000000 in
theorem lso3 (A : Option Addr) (n c : Nat) (cs : List Int) (e num den add y m d v : Int) (w : World) (hr : Rd w A n cs) (hn : n ≤ 9223372036854775807) (hok : calOk e cs = true) (hm : moonB num den add = true) (hyb : inB y 0 4000 = true) :
    Calls Tryz.prog 55 #[.agg #[.int .i64 e, .slice A n c], .agg #[.int .i64 num, .int .i64 den, .int .i64 add], .agg #[.int .i64 3, .int .i64 m, .int .i64 d, .int .i64 v], .int .i64 y] w fun e' w' => e' = .returned (.bool (soB e cs num den add y ⟨3, m, d, v⟩)) ∧ Below w.heap.size w w' := by
  have hy2 := inB_iff.1 hyb
  have _u := hm
  have g1 := fr_alloc (fr_alloc (fr_alloc (fr_refl w) (.cells #[.int .i64 e, .slice A n c] 24)) (.cells #[.int .i64 num, .int .i64 den, .int .i64 add] 65)) (.cells #[.int .i64 3, .int .i64 m, .int .i64 d, .int .i64 v] 77)
  have hX0 : Blk (((w.alloc (.cells #[.int .i64 e, .slice A n c] 24)).alloc (.cells #[.int .i64 num, .int .i64 den, .int .i64 add] 65)).alloc (.cells #[.int .i64 3, .int .i64 m, .int .i64 d, .int .i64 v] 77)) (w.heap.size) 24 #[.int .i64 e, .slice A n c] := (((Blk.new_at _ _ (by simp)).alloc _).alloc _)
  have hX1 : Blk (((w.alloc (.cells #[.int .i64 e, .slice A n c] 24)).alloc (.cells #[.int .i64 num, .int .i64 den, .int .i64 add] 65)).alloc (.cells #[.int .i64 3, .int .i64 m, .int .i64 d, .int .i64 v] 77)) (w.heap.size + 1) 65 #[.int .i64 num, .int .i64 den, .int .i64 add] := ((Blk.new_at _ _ (by simp)).alloc _)
  have hX2 : Blk (((w.alloc (.cells #[.int .i64 e, .slice A n c] 24)).alloc (.cells #[.int .i64 num, .int .i64 den, .int .i64 add] 65)).alloc (.cells #[.int .i64 3, .int .i64 m, .int .i64 d, .int .i64 v] 77)) (w.heap.size + 1 + 1) 77 #[.int .i64 3, .int .i64 m, .int .i64 d, .int .i64 v] := (Blk.new_at _ _ (by simp))
  obtain ⟨m', d', hq, hE0, _⟩ := easter_when (e := e) (cs := cs) (moonB_ok hm) hy2
  have hX0' : dateOf e cs (easterDay e cs num den add y) = some ⟨y, m', d'⟩ := dateOf_some.2 ⟨realB_iff.1 hq, hE0⟩
  have hs : soB e cs num den add y ⟨3, m, d, v⟩ = ((m' == m) && (d' == d)) := by
    unfold soB
    rw [ansOf_3]
    unfold ans3
    rw [easter_same hX0']
    cases (m' == m) <;> cases (d' == d) <;> rfl
  rw [hs]
  have HX := Lib.hid hX0'
  clear hs hX0' hE0 hq
  cases h1 : (m' == m)
  · simp only [Bool.false_and]
    have h1' : ¬ m' = m := by simpa using h1
    go_enter Tryz.func55, Tryz.ntmps55
    go_wp2_with fail
    have hfr := g1
    replace hr := hr.keep g1
    have hc0 := fun j => hX0.cell j
    have hc1 := fun j => hX1.cell j
    have hc2 := fun j => hX2.cell j
    have hl0 := hX0.lt
    have hl1 := hX1.lt
    have hl2 := hX2.lt
    refine (ldate_is _ _ _ _).mono ?_
    rintro e' w1 ⟨rfl, hb⟩
    replace hr := hr.keep hb
    replace hfr := fr_call hfr hb
    replace hX0 := hX0.keep hb
    replace hc0 := fun j => hX0.cell j
    replace hl0 := hX0.lt
    replace hX1 := hX1.keep hb
    replace hc1 := fun j => hX1.cell j
    replace hl1 := hX1.lt
    replace hX2 := hX2.keep hb
    replace hc2 := fun j => hX2.cell j
    replace hl2 := hX2.lt
    clear hb
    go_wp2_with fail
    have ga := fr_alloc (fr_refl w1) (.cells #[.int .i64 y, .int .i64 m, .int .i64 d] 38)
    replace hr := hr.keep ga
    replace hfr := fr_call hfr ga
    replace hX0 := hX0.keep ga
    replace hc0 := fun j => hX0.cell j
    replace hl0 := hX0.lt
    replace hX1 := hX1.keep ga
    replace hc1 := fun j => hX1.cell j
    replace hl1 := hX1.lt
    replace hX2 := hX2.keep ga
    replace hc2 := fun j => hX2.cell j
    replace hl2 := hX2.lt
    have hX3 := Blk.new w1 38 #[.int .i64 y, .int .i64 m, .int .i64 d]
    have hc3 := fun j => hX3.cell j
    have hl3 := hX3.lt
    clear ga
    refine (Easter_ok A n c cs e num den add y ⟨y, m', d'⟩ _ hr hn hok hm hyb HX.out).mono ?_
    rintro e' w2 ⟨rfl, hb⟩
    replace hr := hr.keep hb
    replace hfr := fr_call hfr hb
    replace hX0 := hX0.keep hb
    replace hc0 := fun j => hX0.cell j
    replace hl0 := hX0.lt
    replace hX1 := hX1.keep hb
    replace hc1 := fun j => hX1.cell j
    replace hl1 := hX1.lt
    replace hX2 := hX2.keep hb
    replace hc2 := fun j => hX2.cell j
    replace hl2 := hX2.lt
    replace hX3 := hX3.keep hb
    replace hc3 := fun j => hX3.cell j
    replace hl3 := hX3.lt
    clear hb
    go_wp2_with fail
    have ga := fr_alloc (fr_refl w2) (.cells #[.int .i64 y, .int .i64 m', .int .i64 d'] 38)
    replace hr := hr.keep ga
    replace hfr := fr_call hfr ga
    replace hX0 := hX0.keep ga
    replace hc0 := fun j => hX0.cell j
    replace hl0 := hX0.lt
    replace hX1 := hX1.keep ga
    replace hc1 := fun j => hX1.cell j
    replace hl1 := hX1.lt
    replace hX2 := hX2.keep ga
    replace hc2 := fun j => hX2.cell j
    replace hl2 := hX2.lt
    replace hX3 := hX3.keep ga
    replace hc3 := fun j => hX3.cell j
    replace hl3 := hX3.lt
    have hX4 := Blk.new w2 38 #[.int .i64 y, .int .i64 m', .int .i64 d']
    have hc4 := fun j => hX4.cell j
    have hl4 := hX4.lt
    clear ga
    go_ret
    exact ⟨rfl, hfr⟩
  · have h1' : m' = m := by simpa using h1
    subst h1'
    cases h2 : (d' == d)
    · have h2' : ¬ d' = d := by simpa using h2
      simp only [Bool.and_false]
      go_enter Tryz.func55, Tryz.ntmps55
      go_wp2_with fail
      have hfr := g1
      replace hr := hr.keep g1
      have hc0 := fun j => hX0.cell j
      have hc1 := fun j => hX1.cell j
      have hc2 := fun j => hX2.cell j
      have hl0 := hX0.lt
      have hl1 := hX1.lt
      have hl2 := hX2.lt
      refine (ldate_is _ _ _ _).mono ?_
      rintro e' w1 ⟨rfl, hb⟩
      replace hr := hr.keep hb
      replace hfr := fr_call hfr hb
      replace hX0 := hX0.keep hb
      replace hc0 := fun j => hX0.cell j
      replace hl0 := hX0.lt
      replace hX1 := hX1.keep hb
      replace hc1 := fun j => hX1.cell j
      replace hl1 := hX1.lt
      replace hX2 := hX2.keep hb
      replace hc2 := fun j => hX2.cell j
      replace hl2 := hX2.lt
      clear hb
      go_wp2_with fail
      have ga := fr_alloc (fr_refl w1) (.cells #[.int .i64 y, .int .i64 m', .int .i64 d] 38)
      replace hr := hr.keep ga
      replace hfr := fr_call hfr ga
      replace hX0 := hX0.keep ga
      replace hc0 := fun j => hX0.cell j
      replace hl0 := hX0.lt
      replace hX1 := hX1.keep ga
      replace hc1 := fun j => hX1.cell j
      replace hl1 := hX1.lt
      replace hX2 := hX2.keep ga
      replace hc2 := fun j => hX2.cell j
      replace hl2 := hX2.lt
      have hX3 := Blk.new w1 38 #[.int .i64 y, .int .i64 m', .int .i64 d]
      have hc3 := fun j => hX3.cell j
      have hl3 := hX3.lt
      clear ga
      refine (Easter_ok A n c cs e num den add y ⟨y, m', d'⟩ _ hr hn hok hm hyb HX.out).mono ?_
      rintro e' w2 ⟨rfl, hb⟩
      replace hr := hr.keep hb
      replace hfr := fr_call hfr hb
      replace hX0 := hX0.keep hb
      replace hc0 := fun j => hX0.cell j
      replace hl0 := hX0.lt
      replace hX1 := hX1.keep hb
      replace hc1 := fun j => hX1.cell j
      replace hl1 := hX1.lt
      replace hX2 := hX2.keep hb
      replace hc2 := fun j => hX2.cell j
      replace hl2 := hX2.lt
      replace hX3 := hX3.keep hb
      replace hc3 := fun j => hX3.cell j
      replace hl3 := hX3.lt
      clear hb
      go_wp2_with fail
      have ga := fr_alloc (fr_refl w2) (.cells #[.int .i64 y, .int .i64 m', .int .i64 d'] 38)
      replace hr := hr.keep ga
      replace hfr := fr_call hfr ga
      replace hX0 := hX0.keep ga
      replace hc0 := fun j => hX0.cell j
      replace hl0 := hX0.lt
      replace hX1 := hX1.keep ga
      replace hc1 := fun j => hX1.cell j
      replace hl1 := hX1.lt
      replace hX2 := hX2.keep ga
      replace hc2 := fun j => hX2.cell j
      replace hl2 := hX2.lt
      replace hX3 := hX3.keep ga
      replace hc3 := fun j => hX3.cell j
      replace hl3 := hX3.lt
      have hX4 := Blk.new w2 38 #[.int .i64 y, .int .i64 m', .int .i64 d']
      have hc4 := fun j => hX4.cell j
      have hl4 := hX4.lt
      clear ga
      go_ret
      exact ⟨rfl, hfr⟩
    · have h2' : d' = d := by simpa using h2
      subst h2'
      simp only [Bool.and_self]
      go_enter Tryz.func55, Tryz.ntmps55
      go_wp2_with fail
      have hfr := g1
      replace hr := hr.keep g1
      have hc0 := fun j => hX0.cell j
      have hc1 := fun j => hX1.cell j
      have hc2 := fun j => hX2.cell j
      have hl0 := hX0.lt
      have hl1 := hX1.lt
      have hl2 := hX2.lt
      refine (ldate_is _ _ _ _).mono ?_
      rintro e' w1 ⟨rfl, hb⟩
      replace hr := hr.keep hb
      replace hfr := fr_call hfr hb
      replace hX0 := hX0.keep hb
      replace hc0 := fun j => hX0.cell j
      replace hl0 := hX0.lt
      replace hX1 := hX1.keep hb
      replace hc1 := fun j => hX1.cell j
      replace hl1 := hX1.lt
      replace hX2 := hX2.keep hb
      replace hc2 := fun j => hX2.cell j
      replace hl2 := hX2.lt
      clear hb
      go_wp2_with fail
      have ga := fr_alloc (fr_refl w1) (.cells #[.int .i64 y, .int .i64 m', .int .i64 d'] 38)
      replace hr := hr.keep ga
      replace hfr := fr_call hfr ga
      replace hX0 := hX0.keep ga
      replace hc0 := fun j => hX0.cell j
      replace hl0 := hX0.lt
      replace hX1 := hX1.keep ga
      replace hc1 := fun j => hX1.cell j
      replace hl1 := hX1.lt
      replace hX2 := hX2.keep ga
      replace hc2 := fun j => hX2.cell j
      replace hl2 := hX2.lt
      have hX3 := Blk.new w1 38 #[.int .i64 y, .int .i64 m', .int .i64 d']
      have hc3 := fun j => hX3.cell j
      have hl3 := hX3.lt
      clear ga
      refine (Easter_ok A n c cs e num den add y ⟨y, m', d'⟩ _ hr hn hok hm hyb HX.out).mono ?_
      rintro e' w2 ⟨rfl, hb⟩
      replace hr := hr.keep hb
      replace hfr := fr_call hfr hb
      replace hX0 := hX0.keep hb
      replace hc0 := fun j => hX0.cell j
      replace hl0 := hX0.lt
      replace hX1 := hX1.keep hb
      replace hc1 := fun j => hX1.cell j
      replace hl1 := hX1.lt
      replace hX2 := hX2.keep hb
      replace hc2 := fun j => hX2.cell j
      replace hl2 := hX2.lt
      replace hX3 := hX3.keep hb
      replace hc3 := fun j => hX3.cell j
      replace hl3 := hX3.lt
      clear hb
      go_wp2_with fail
      have ga := fr_alloc (fr_refl w2) (.cells #[.int .i64 y, .int .i64 m', .int .i64 d'] 38)
      replace hr := hr.keep ga
      replace hfr := fr_call hfr ga
      replace hX0 := hX0.keep ga
      replace hc0 := fun j => hX0.cell j
      replace hl0 := hX0.lt
      replace hX1 := hX1.keep ga
      replace hc1 := fun j => hX1.cell j
      replace hl1 := hX1.lt
      replace hX2 := hX2.keep ga
      replace hc2 := fun j => hX2.cell j
      replace hl2 := hX2.lt
      replace hX3 := hX3.keep ga
      replace hc3 := fun j => hX3.cell j
      replace hl3 := hX3.lt
      have hX4 := Blk.new w2 38 #[.int .i64 y, .int .i64 m', .int .i64 d']
      have hc4 := fun j => hX4.cell j
      have hl4 := hX4.lt
      clear ga
      go_ret
      exact ⟨rfl, hfr⟩

set_option maxRecDepth 100000 in
set_option maxHeartbeats 8000000 in
theorem lso4 (A : Option Addr) (n c : Nat) (cs : List Int) (e num den add y m d v : Int) (w : World) (hr : Rd w A n cs) (hn : n ≤ 9223372036854775807) (hok : calOk e cs = true) (hm : moonB num den add = true) (hyb : inB y 0 4000 = true) :
    Calls Tryz.prog 55 #[.agg #[.int .i64 e, .slice A n c], .agg #[.int .i64 num, .int .i64 den, .int .i64 add], .agg #[.int .i64 4, .int .i64 m, .int .i64 d, .int .i64 v], .int .i64 y] w fun e' w' => e' = .returned (.bool (soB e cs num den add y ⟨4, m, d, v⟩)) ∧ Below w.heap.size w w' := by
  have hy2 := inB_iff.1 hyb
  have _u := hm
  have g1 := fr_alloc (fr_alloc (fr_alloc (fr_refl w) (.cells #[.int .i64 e, .slice A n c] 24)) (.cells #[.int .i64 num, .int .i64 den, .int .i64 add] 65)) (.cells #[.int .i64 4, .int .i64 m, .int .i64 d, .int .i64 v] 77)
  have hX0 : Blk (((w.alloc (.cells #[.int .i64 e, .slice A n c] 24)).alloc (.cells #[.int .i64 num, .int .i64 den, .int .i64 add] 65)).alloc (.cells #[.int .i64 4, .int .i64 m, .int .i64 d, .int .i64 v] 77)) (w.heap.size) 24 #[.int .i64 e, .slice A n c] := (((Blk.new_at _ _ (by simp)).alloc _).alloc _)
  have hX1 : Blk (((w.alloc (.cells #[.int .i64 e, .slice A n c] 24)).alloc (.cells #[.int .i64 num, .int .i64 den, .int .i64 add] 65)).alloc (.cells #[.int .i64 4, .int .i64 m, .int .i64 d, .int .i64 v] 77)) (w.heap.size + 1) 65 #[.int .i64 num, .int .i64 den, .int .i64 add] := ((Blk.new_at _ _ (by simp)).alloc _)
  have hX2 : Blk (((w.alloc (.cells #[.int .i64 e, .slice A n c] 24)).alloc (.cells #[.int .i64 num, .int .i64 den, .int .i64 add] 65)).alloc (.cells #[.int .i64 4, .int .i64 m, .int .i64 d, .int .i64 v] 77)) (w.heap.size + 1 + 1) 77 #[.int .i64 4, .int .i64 m, .int .i64 d, .int .i64 v] := (Blk.new_at _ _ (by simp))
  have hs : soB e cs num den add y ⟨4, m, d, v⟩ = (y % 19 + 1 == v) := by unfold soB; rw [ansOf_4]; rfl
  rw [hs]
  clear hs
  have _u := And.intro hn hok
  go_enter Tryz.func55, Tryz.ntmps55
  go_wp2_with fail
  have hfr := g1
  replace hr := hr.keep g1
  have hc0 := fun j => hX0.cell j
  have hc1 := fun j => hX1.cell j
  have hc2 := fun j => hX2.cell j
  have hl0 := hX0.lt
  have hl1 := hX1.lt
  have hl2 := hX2.lt
  refine (ldate_is _ _ _ _).mono ?_
  rintro e' w1 ⟨rfl, hb⟩
  replace hr := hr.keep hb
  replace hfr := fr_call hfr hb
  replace hX0 := hX0.keep hb
  replace hc0 := fun j => hX0.cell j
  replace hl0 := hX0.lt
  replace hX1 := hX1.keep hb
  replace hc1 := fun j => hX1.cell j
  replace hl1 := hX1.lt
  replace hX2 := hX2.keep hb
  replace hc2 := fun j => hX2.cell j
  replace hl2 := hX2.lt
  clear hb
  go_wp2_with fail
  have ga := fr_alloc (fr_refl w1) (.cells #[.int .i64 y, .int .i64 m, .int .i64 d] 38)
  replace hr := hr.keep ga
  replace hfr := fr_call hfr ga
  replace hX0 := hX0.keep ga
  replace hc0 := fun j => hX0.cell j
  replace hl0 := hX0.lt
  replace hX1 := hX1.keep ga
  replace hc1 := fun j => hX1.cell j
  replace hl1 := hX1.lt
  replace hX2 := hX2.keep ga
  replace hc2 := fun j => hX2.cell j
  replace hl2 := hX2.lt
  have hX3 := Blk.new w1 38 #[.int .i64 y, .int .i64 m, .int .i64 d]
  have hc3 := fun j => hX3.cell j
  have hl3 := hX3.lt
  clear ga
  go_ret
  exact ⟨rfl, hfr⟩

set_option maxRecDepth 100000 in
set_option maxHeartbeats 8000000 in
theorem lso5 (A : Option Addr) (n c : Nat) (cs : List Int) (e num den add y m d v : Int) (w : World) (hr : Rd w A n cs) (hn : n ≤ 9223372036854775807) (hok : calOk e cs = true) (hm : moonB num den add = true) (hyb : inB y 0 4000 = true) (hv : v = 365 ∨ v = 366) :
    Calls Tryz.prog 55 #[.agg #[.int .i64 e, .slice A n c], .agg #[.int .i64 num, .int .i64 den, .int .i64 add], .agg #[.int .i64 5, .int .i64 m, .int .i64 d, .int .i64 v], .int .i64 y] w fun e' w' => e' = .returned (.bool (soB e cs num den add y ⟨5, m, d, v⟩)) ∧ Below w.heap.size w w' := by
  have hy2 := inB_iff.1 hyb
  have _u := hm
  have g1 := fr_alloc (fr_alloc (fr_alloc (fr_refl w) (.cells #[.int .i64 e, .slice A n c] 24)) (.cells #[.int .i64 num, .int .i64 den, .int .i64 add] 65)) (.cells #[.int .i64 5, .int .i64 m, .int .i64 d, .int .i64 v] 77)
  have hX0 : Blk (((w.alloc (.cells #[.int .i64 e, .slice A n c] 24)).alloc (.cells #[.int .i64 num, .int .i64 den, .int .i64 add] 65)).alloc (.cells #[.int .i64 5, .int .i64 m, .int .i64 d, .int .i64 v] 77)) (w.heap.size) 24 #[.int .i64 e, .slice A n c] := (((Blk.new_at _ _ (by simp)).alloc _).alloc _)
  have hX1 : Blk (((w.alloc (.cells #[.int .i64 e, .slice A n c] 24)).alloc (.cells #[.int .i64 num, .int .i64 den, .int .i64 add] 65)).alloc (.cells #[.int .i64 5, .int .i64 m, .int .i64 d, .int .i64 v] 77)) (w.heap.size + 1) 65 #[.int .i64 num, .int .i64 den, .int .i64 add] := ((Blk.new_at _ _ (by simp)).alloc _)
  have hX2 : Blk (((w.alloc (.cells #[.int .i64 e, .slice A n c] 24)).alloc (.cells #[.int .i64 num, .int .i64 den, .int .i64 add] 65)).alloc (.cells #[.int .i64 5, .int .i64 m, .int .i64 d, .int .i64 v] 77)) (w.heap.size + 1 + 1) 77 #[.int .i64 5, .int .i64 m, .int .i64 d, .int .i64 v] := (Blk.new_at _ _ (by simp))
  have hs : soB e cs num den add y ⟨5, m, d, v⟩ = (yearLen cs y == v) := by unfold soB; rw [ansOf_5]; rfl
  rw [hs]
  clear hs
  unfold yearLen
  have hq := real29 cs y hy2
  cases hlp : leapB cs y
  · rw [hlp] at hq
    rcases hv with rfl | rfl
    · skip
      go_enter Tryz.func55, Tryz.ntmps55
      go_wp2_with fail
      have hfr := g1
      replace hr := hr.keep g1
      have hc0 := fun j => hX0.cell j
      have hc1 := fun j => hX1.cell j
      have hc2 := fun j => hX2.cell j
      have hl0 := hX0.lt
      have hl1 := hX1.lt
      have hl2 := hX2.lt
      refine (ldate_is _ _ _ _).mono ?_
      rintro e' w1 ⟨rfl, hb⟩
      replace hr := hr.keep hb
      replace hfr := fr_call hfr hb
      replace hX0 := hX0.keep hb
      replace hc0 := fun j => hX0.cell j
      replace hl0 := hX0.lt
      replace hX1 := hX1.keep hb
      replace hc1 := fun j => hX1.cell j
      replace hl1 := hX1.lt
      replace hX2 := hX2.keep hb
      replace hc2 := fun j => hX2.cell j
      replace hl2 := hX2.lt
      clear hb
      go_wp2_with fail
      have ga := fr_alloc (fr_refl w1) (.cells #[.int .i64 y, .int .i64 m, .int .i64 d] 38)
      replace hr := hr.keep ga
      replace hfr := fr_call hfr ga
      replace hX0 := hX0.keep ga
      replace hc0 := fun j => hX0.cell j
      replace hl0 := hX0.lt
      replace hX1 := hX1.keep ga
      replace hc1 := fun j => hX1.cell j
      replace hl1 := hX1.lt
      replace hX2 := hX2.keep ga
      replace hc2 := fun j => hX2.cell j
      replace hl2 := hX2.lt
      have hX3 := Blk.new w1 38 #[.int .i64 y, .int .i64 m, .int .i64 d]
      have hc3 := fun j => hX3.cell j
      have hl3 := hX3.lt
      clear ga
      generalize w1.alloc (.cells #[.int .i64 y, .int .i64 m, .int .i64 d] 38) = wz at *
      refine wp_region_noPanic ?_
      refine wp_region_held_drew (S := fun W => (∀ p : Addr, p.block < (wz).heap.size → W.cell? p = (wz).cell? p) ∧ Below (wz).heap.size (wz) W) (by kernel_rfl) ⟨fun _ _ => rfl, fr_drew (fr_refl _)⟩ (fun hHeld => ?_)
      -- the region, step by step
      refine wpAnyH_take (i := 0) (oi := ⟨some 89, .load 24 (.tmp 4), 24, "law.go:441", #[], none⟩) (v := ?_) rfl (by kernel_rfl) (by kernel_rfl) (by kernel_rfl) (fun _ _ _ h => h) (Or.inl ⟨by rfl, fun W hSw => ?_⟩) hHeld ?_
      rotate_left
      · (try dsimp only at hSw); go_simp; (try with_reducible rfl)
      (try simp only [Act.put, List.setIfInBounds_toArray, List.set_cons_zero, List.set_cons_succ])
      refine wpAnyH_take (i := 1) (oi := ⟨some 90, .move (.tmp 3), 3, "law.go:441", #[], none⟩) (v := ?_) rfl (by kernel_rfl) (by kernel_rfl) (by kernel_rfl) (fun _ _ _ h => h) (Or.inl ⟨by rfl, fun W hSw => ?_⟩) hHeld ?_
      rotate_left
      · (try dsimp only at hSw); go_simp; (try with_reducible rfl)
      (try simp only [Act.put, List.setIfInBounds_toArray, List.set_cons_zero, List.set_cons_succ])
      refine wpAnyH_ready (rs := [2]) (by kernel_rfl) (by simp) ?_
      refine AllReadyH.cons (o := ⟨some 91, .call { callee := .value (.func 54), args := #[.const (.int .i64 29), .const (.int .i64 2), .tmp 90], argTypes := #[3, 3, 3] }, 38, "law.go:441", #[⟨1, .data⟩], none⟩) rfl (fun K hK => ?_) AllReadyH.nil
      go_simp
      refine (ldate_is _ _ _ _).mono ?_
      rintro e' wA ⟨rfl, hb⟩
      refine hK.out _ _ (kp_step hb hHeld) (fun hHeld => ?_)
      clear hK K
      (try simp only [Act.put, List.setIfInBounds_toArray, List.set_cons_zero, List.set_cons_succ])
      refine wpAnyH_ready (rs := [3]) (by kernel_rfl) (by simp) ?_
      refine AllReadyH.cons (o := ⟨some 92, .call { callee := .value (.func 24), args := #[.tmp 89, .tmp 91], argTypes := #[24, 38] }, 30, "law.go:441", #[⟨0, .data⟩, ⟨2, .data⟩, ⟨2, .chain⟩], none⟩) rfl (fun K hK => ?_) AllReadyH.nil
      go_simp
      refine (Day_no A n c cs e y 2 29 _ (hr.keep hHeld.2) hn hok hq).mono ?_
      rintro e' wB ⟨rfl, hb⟩
      refine hK.out _ _ (kp_step hb hHeld) (fun hHeld => ?_)
      clear hK K
      (try simp only [Act.put, List.setIfInBounds_toArray, List.set_cons_zero, List.set_cons_succ])
      refine wpAnyH_take (i := 4) (oi := ⟨some 88, .move (.tmp 92), 30, "law.go:441", #[⟨3, .data⟩], none⟩) (v := ?_) rfl (by kernel_rfl) (by kernel_rfl) (by kernel_rfl) (fun _ _ _ h => h) (Or.inl ⟨by rfl, fun W hSw => ?_⟩) hHeld ?_
      rotate_left
      · (try dsimp only at hSw); go_simp; (try with_reducible rfl)
      (try simp only [Act.put, List.setIfInBounds_toArray, List.set_cons_zero, List.set_cons_succ])
      refine wpAnyH_take (i := 5) (oi := ⟨some 93, .extract (.tmp 88) 0, 3, "law.go:441", #[⟨4, .data⟩], none⟩) (v := ?_) rfl (by kernel_rfl) (by kernel_rfl) (by kernel_rfl) (fun _ _ _ h => h) (Or.inl ⟨by rfl, fun W hSw => ?_⟩) hHeld ?_
      rotate_left
      · (try dsimp only at hSw); go_simp; (try with_reducible rfl)
      (try simp only [Act.put, List.setIfInBounds_toArray, List.set_cons_zero, List.set_cons_succ])
      refine wpAnyH_take (i := 6) (oi := ⟨some 94, .extract (.tmp 88) 1, 27, "law.go:441", #[⟨4, .data⟩, ⟨7, .gcOnly .lateStores⟩], none⟩) (v := ?_) rfl (by kernel_rfl) (by kernel_rfl) (by kernel_rfl) (fun _ _ _ h => h) (Or.inl ⟨by rfl, fun W hSw => ?_⟩) hHeld ?_
      rotate_left
      · (try dsimp only at hSw); go_simp; (try with_reducible rfl)
      (try simp only [Act.put, List.setIfInBounds_toArray, List.set_cons_zero, List.set_cons_succ])
      refine wpAnyH_take (i := 7) (oi := ⟨some 16, .assign (.tmp 93), 3, "law.go:441", #[⟨5, .data⟩, ⟨3, .chain⟩, ⟨0, .phase⟩, ⟨1, .phase⟩, ⟨2, .phase⟩, ⟨3, .phase⟩, ⟨4, .phase⟩, ⟨5, .phase⟩, ⟨6, .textOnly .lateStores⟩], none⟩) (v := ?_) rfl (by kernel_rfl) (by kernel_rfl) (by kernel_rfl) (fun _ _ _ h => h) (Or.inl ⟨by rfl, fun W hSw => ?_⟩) hHeld ?_
      rotate_left
      · (try dsimp only at hSw); go_simp; (try with_reducible rfl)
      (try simp only [Act.put, List.setIfInBounds_toArray, List.set_cons_zero, List.set_cons_succ])
      refine wpAnyH_take (i := 8) (oi := ⟨some 17, .assign (.tmp 94), 27, "law.go:441", #[⟨6, .data⟩, ⟨7, .chain⟩, ⟨0, .phase⟩, ⟨1, .phase⟩, ⟨2, .phase⟩, ⟨3, .phase⟩, ⟨4, .phase⟩, ⟨5, .phase⟩, ⟨6, .phase⟩, ⟨7, .phase⟩], none⟩) (v := ?_) rfl (by kernel_rfl) (by kernel_rfl) (by kernel_rfl) (fun _ _ _ h => h) (Or.inl ⟨by rfl, fun W hSw => ?_⟩) hHeld ?_
      rotate_left
      · (try dsimp only at hSw); go_simp; (try with_reducible rfl)
      (try simp only [Act.put, List.setIfInBounds_toArray, List.set_cons_zero, List.set_cons_succ])
      refine wpAnyH_done (by kernel_rfl) ?_ _
      refine NoPanic.normal ?_
      replace hr := hr.keep hHeld.2
      replace hfr := fr_call hfr hHeld.2
      replace hX0 := hX0.keep hHeld.2
      replace hc0 := fun j => hX0.cell j
      replace hl0 := hX0.lt
      replace hX1 := hX1.keep hHeld.2
      replace hc1 := fun j => hX1.cell j
      replace hl1 := hX1.lt
      replace hX2 := hX2.keep hHeld.2
      replace hc2 := fun j => hX2.cell j
      replace hl2 := hX2.lt
      replace hX3 := hX3.keep hHeld.2
      replace hc3 := fun j => hX3.cell j
      replace hl3 := hX3.lt
      clear hHeld
      go_wp2_with fail
      go_ret
      exact ⟨rfl, hfr⟩
    · skip
      go_enter Tryz.func55, Tryz.ntmps55
      go_wp2_with fail
      have hfr := g1
      replace hr := hr.keep g1
      have hc0 := fun j => hX0.cell j
      have hc1 := fun j => hX1.cell j
      have hc2 := fun j => hX2.cell j
      have hl0 := hX0.lt
      have hl1 := hX1.lt
      have hl2 := hX2.lt
      refine (ldate_is _ _ _ _).mono ?_
      rintro e' w1 ⟨rfl, hb⟩
      replace hr := hr.keep hb
      replace hfr := fr_call hfr hb
      replace hX0 := hX0.keep hb
      replace hc0 := fun j => hX0.cell j
      replace hl0 := hX0.lt
      replace hX1 := hX1.keep hb
      replace hc1 := fun j => hX1.cell j
      replace hl1 := hX1.lt
      replace hX2 := hX2.keep hb
      replace hc2 := fun j => hX2.cell j
      replace hl2 := hX2.lt
      clear hb
      go_wp2_with fail
      have ga := fr_alloc (fr_refl w1) (.cells #[.int .i64 y, .int .i64 m, .int .i64 d] 38)
      replace hr := hr.keep ga
      replace hfr := fr_call hfr ga
      replace hX0 := hX0.keep ga
      replace hc0 := fun j => hX0.cell j
      replace hl0 := hX0.lt
      replace hX1 := hX1.keep ga
      replace hc1 := fun j => hX1.cell j
      replace hl1 := hX1.lt
      replace hX2 := hX2.keep ga
      replace hc2 := fun j => hX2.cell j
      replace hl2 := hX2.lt
      have hX3 := Blk.new w1 38 #[.int .i64 y, .int .i64 m, .int .i64 d]
      have hc3 := fun j => hX3.cell j
      have hl3 := hX3.lt
      clear ga
      generalize w1.alloc (.cells #[.int .i64 y, .int .i64 m, .int .i64 d] 38) = wz at *
      refine wp_region_noPanic ?_
      refine wp_region_held_drew (S := fun W => (∀ p : Addr, p.block < (wz).heap.size → W.cell? p = (wz).cell? p) ∧ Below (wz).heap.size (wz) W) (by kernel_rfl) ⟨fun _ _ => rfl, fr_drew (fr_refl _)⟩ (fun hHeld => ?_)
      -- the region, step by step
      refine wpAnyH_take (i := 0) (oi := ⟨some 89, .load 24 (.tmp 4), 24, "law.go:441", #[], none⟩) (v := ?_) rfl (by kernel_rfl) (by kernel_rfl) (by kernel_rfl) (fun _ _ _ h => h) (Or.inl ⟨by rfl, fun W hSw => ?_⟩) hHeld ?_
      rotate_left
      · (try dsimp only at hSw); go_simp; (try with_reducible rfl)
      (try simp only [Act.put, List.setIfInBounds_toArray, List.set_cons_zero, List.set_cons_succ])
      refine wpAnyH_take (i := 1) (oi := ⟨some 90, .move (.tmp 3), 3, "law.go:441", #[], none⟩) (v := ?_) rfl (by kernel_rfl) (by kernel_rfl) (by kernel_rfl) (fun _ _ _ h => h) (Or.inl ⟨by rfl, fun W hSw => ?_⟩) hHeld ?_
      rotate_left
      · (try dsimp only at hSw); go_simp; (try with_reducible rfl)
      (try simp only [Act.put, List.setIfInBounds_toArray, List.set_cons_zero, List.set_cons_succ])
      refine wpAnyH_ready (rs := [2]) (by kernel_rfl) (by simp) ?_
      refine AllReadyH.cons (o := ⟨some 91, .call { callee := .value (.func 54), args := #[.const (.int .i64 29), .const (.int .i64 2), .tmp 90], argTypes := #[3, 3, 3] }, 38, "law.go:441", #[⟨1, .data⟩], none⟩) rfl (fun K hK => ?_) AllReadyH.nil
      go_simp
      refine (ldate_is _ _ _ _).mono ?_
      rintro e' wA ⟨rfl, hb⟩
      refine hK.out _ _ (kp_step hb hHeld) (fun hHeld => ?_)
      clear hK K
      (try simp only [Act.put, List.setIfInBounds_toArray, List.set_cons_zero, List.set_cons_succ])
      refine wpAnyH_ready (rs := [3]) (by kernel_rfl) (by simp) ?_
      refine AllReadyH.cons (o := ⟨some 92, .call { callee := .value (.func 24), args := #[.tmp 89, .tmp 91], argTypes := #[24, 38] }, 30, "law.go:441", #[⟨0, .data⟩, ⟨2, .data⟩, ⟨2, .chain⟩], none⟩) rfl (fun K hK => ?_) AllReadyH.nil
      go_simp
      refine (Day_no A n c cs e y 2 29 _ (hr.keep hHeld.2) hn hok hq).mono ?_
      rintro e' wB ⟨rfl, hb⟩
      refine hK.out _ _ (kp_step hb hHeld) (fun hHeld => ?_)
      clear hK K
      (try simp only [Act.put, List.setIfInBounds_toArray, List.set_cons_zero, List.set_cons_succ])
      refine wpAnyH_take (i := 4) (oi := ⟨some 88, .move (.tmp 92), 30, "law.go:441", #[⟨3, .data⟩], none⟩) (v := ?_) rfl (by kernel_rfl) (by kernel_rfl) (by kernel_rfl) (fun _ _ _ h => h) (Or.inl ⟨by rfl, fun W hSw => ?_⟩) hHeld ?_
      rotate_left
      · (try dsimp only at hSw); go_simp; (try with_reducible rfl)
      (try simp only [Act.put, List.setIfInBounds_toArray, List.set_cons_zero, List.set_cons_succ])
      refine wpAnyH_take (i := 5) (oi := ⟨some 93, .extract (.tmp 88) 0, 3, "law.go:441", #[⟨4, .data⟩], none⟩) (v := ?_) rfl (by kernel_rfl) (by kernel_rfl) (by kernel_rfl) (fun _ _ _ h => h) (Or.inl ⟨by rfl, fun W hSw => ?_⟩) hHeld ?_
      rotate_left
      · (try dsimp only at hSw); go_simp; (try with_reducible rfl)
      (try simp only [Act.put, List.setIfInBounds_toArray, List.set_cons_zero, List.set_cons_succ])
      refine wpAnyH_take (i := 6) (oi := ⟨some 94, .extract (.tmp 88) 1, 27, "law.go:441", #[⟨4, .data⟩, ⟨7, .gcOnly .lateStores⟩], none⟩) (v := ?_) rfl (by kernel_rfl) (by kernel_rfl) (by kernel_rfl) (fun _ _ _ h => h) (Or.inl ⟨by rfl, fun W hSw => ?_⟩) hHeld ?_
      rotate_left
      · (try dsimp only at hSw); go_simp; (try with_reducible rfl)
      (try simp only [Act.put, List.setIfInBounds_toArray, List.set_cons_zero, List.set_cons_succ])
      refine wpAnyH_take (i := 7) (oi := ⟨some 16, .assign (.tmp 93), 3, "law.go:441", #[⟨5, .data⟩, ⟨3, .chain⟩, ⟨0, .phase⟩, ⟨1, .phase⟩, ⟨2, .phase⟩, ⟨3, .phase⟩, ⟨4, .phase⟩, ⟨5, .phase⟩, ⟨6, .textOnly .lateStores⟩], none⟩) (v := ?_) rfl (by kernel_rfl) (by kernel_rfl) (by kernel_rfl) (fun _ _ _ h => h) (Or.inl ⟨by rfl, fun W hSw => ?_⟩) hHeld ?_
      rotate_left
      · (try dsimp only at hSw); go_simp; (try with_reducible rfl)
      (try simp only [Act.put, List.setIfInBounds_toArray, List.set_cons_zero, List.set_cons_succ])
      refine wpAnyH_take (i := 8) (oi := ⟨some 17, .assign (.tmp 94), 27, "law.go:441", #[⟨6, .data⟩, ⟨7, .chain⟩, ⟨0, .phase⟩, ⟨1, .phase⟩, ⟨2, .phase⟩, ⟨3, .phase⟩, ⟨4, .phase⟩, ⟨5, .phase⟩, ⟨6, .phase⟩, ⟨7, .phase⟩], none⟩) (v := ?_) rfl (by kernel_rfl) (by kernel_rfl) (by kernel_rfl) (fun _ _ _ h => h) (Or.inl ⟨by rfl, fun W hSw => ?_⟩) hHeld ?_
      rotate_left
      · (try dsimp only at hSw); go_simp; (try with_reducible rfl)
      (try simp only [Act.put, List.setIfInBounds_toArray, List.set_cons_zero, List.set_cons_succ])
      refine wpAnyH_done (by kernel_rfl) ?_ _
      refine NoPanic.normal ?_
      replace hr := hr.keep hHeld.2
      replace hfr := fr_call hfr hHeld.2
      replace hX0 := hX0.keep hHeld.2
      replace hc0 := fun j => hX0.cell j
      replace hl0 := hX0.lt
      replace hX1 := hX1.keep hHeld.2
      replace hc1 := fun j => hX1.cell j
      replace hl1 := hX1.lt
      replace hX2 := hX2.keep hHeld.2
      replace hc2 := fun j => hX2.cell j
      replace hl2 := hX2.lt
      replace hX3 := hX3.keep hHeld.2
      replace hc3 := fun j => hX3.cell j
      replace hl3 := hX3.lt
      clear hHeld
      go_wp2_with fail
      go_ret
      exact ⟨rfl, hfr⟩
  · rw [hlp] at hq
    rcases hv with rfl | rfl
    · skip
      go_enter Tryz.func55, Tryz.ntmps55
      go_wp2_with fail
      have hfr := g1
      replace hr := hr.keep g1
      have hc0 := fun j => hX0.cell j
      have hc1 := fun j => hX1.cell j
      have hc2 := fun j => hX2.cell j
      have hl0 := hX0.lt
      have hl1 := hX1.lt
      have hl2 := hX2.lt
      refine (ldate_is _ _ _ _).mono ?_
      rintro e' w1 ⟨rfl, hb⟩
      replace hr := hr.keep hb
      replace hfr := fr_call hfr hb
      replace hX0 := hX0.keep hb
      replace hc0 := fun j => hX0.cell j
      replace hl0 := hX0.lt
      replace hX1 := hX1.keep hb
      replace hc1 := fun j => hX1.cell j
      replace hl1 := hX1.lt
      replace hX2 := hX2.keep hb
      replace hc2 := fun j => hX2.cell j
      replace hl2 := hX2.lt
      clear hb
      go_wp2_with fail
      have ga := fr_alloc (fr_refl w1) (.cells #[.int .i64 y, .int .i64 m, .int .i64 d] 38)
      replace hr := hr.keep ga
      replace hfr := fr_call hfr ga
      replace hX0 := hX0.keep ga
      replace hc0 := fun j => hX0.cell j
      replace hl0 := hX0.lt
      replace hX1 := hX1.keep ga
      replace hc1 := fun j => hX1.cell j
      replace hl1 := hX1.lt
      replace hX2 := hX2.keep ga
      replace hc2 := fun j => hX2.cell j
      replace hl2 := hX2.lt
      have hX3 := Blk.new w1 38 #[.int .i64 y, .int .i64 m, .int .i64 d]
      have hc3 := fun j => hX3.cell j
      have hl3 := hX3.lt
      clear ga
      generalize w1.alloc (.cells #[.int .i64 y, .int .i64 m, .int .i64 d] 38) = wz at *
      refine wp_region_noPanic ?_
      refine wp_region_held_drew (S := fun W => (∀ p : Addr, p.block < (wz).heap.size → W.cell? p = (wz).cell? p) ∧ Below (wz).heap.size (wz) W) (by kernel_rfl) ⟨fun _ _ => rfl, fr_drew (fr_refl _)⟩ (fun hHeld => ?_)
      -- the region, step by step
      refine wpAnyH_take (i := 0) (oi := ⟨some 89, .load 24 (.tmp 4), 24, "law.go:441", #[], none⟩) (v := ?_) rfl (by kernel_rfl) (by kernel_rfl) (by kernel_rfl) (fun _ _ _ h => h) (Or.inl ⟨by rfl, fun W hSw => ?_⟩) hHeld ?_
      rotate_left
      · (try dsimp only at hSw); go_simp; (try with_reducible rfl)
      (try simp only [Act.put, List.setIfInBounds_toArray, List.set_cons_zero, List.set_cons_succ])
      refine wpAnyH_take (i := 1) (oi := ⟨some 90, .move (.tmp 3), 3, "law.go:441", #[], none⟩) (v := ?_) rfl (by kernel_rfl) (by kernel_rfl) (by kernel_rfl) (fun _ _ _ h => h) (Or.inl ⟨by rfl, fun W hSw => ?_⟩) hHeld ?_
      rotate_left
      · (try dsimp only at hSw); go_simp; (try with_reducible rfl)
      (try simp only [Act.put, List.setIfInBounds_toArray, List.set_cons_zero, List.set_cons_succ])
      refine wpAnyH_ready (rs := [2]) (by kernel_rfl) (by simp) ?_
      refine AllReadyH.cons (o := ⟨some 91, .call { callee := .value (.func 54), args := #[.const (.int .i64 29), .const (.int .i64 2), .tmp 90], argTypes := #[3, 3, 3] }, 38, "law.go:441", #[⟨1, .data⟩], none⟩) rfl (fun K hK => ?_) AllReadyH.nil
      go_simp
      refine (ldate_is _ _ _ _).mono ?_
      rintro e' wA ⟨rfl, hb⟩
      refine hK.out _ _ (kp_step hb hHeld) (fun hHeld => ?_)
      clear hK K
      (try simp only [Act.put, List.setIfInBounds_toArray, List.set_cons_zero, List.set_cons_succ])
      refine wpAnyH_ready (rs := [3]) (by kernel_rfl) (by simp) ?_
      refine AllReadyH.cons (o := ⟨some 92, .call { callee := .value (.func 24), args := #[.tmp 89, .tmp 91], argTypes := #[24, 38] }, 30, "law.go:441", #[⟨0, .data⟩, ⟨2, .data⟩, ⟨2, .chain⟩], none⟩) rfl (fun K hK => ?_) AllReadyH.nil
      go_simp
      refine (Day_yes A n c cs e y 2 29 _ (hr.keep hHeld.2) hn hok hq).mono ?_
      rintro e' wB ⟨rfl, hb⟩
      refine hK.out _ _ (kp_step hb hHeld) (fun hHeld => ?_)
      clear hK K
      (try simp only [Act.put, List.setIfInBounds_toArray, List.set_cons_zero, List.set_cons_succ])
      refine wpAnyH_take (i := 4) (oi := ⟨some 88, .move (.tmp 92), 30, "law.go:441", #[⟨3, .data⟩], none⟩) (v := ?_) rfl (by kernel_rfl) (by kernel_rfl) (by kernel_rfl) (fun _ _ _ h => h) (Or.inl ⟨by rfl, fun W hSw => ?_⟩) hHeld ?_
      rotate_left
      · (try dsimp only at hSw); go_simp; (try with_reducible rfl)
      (try simp only [Act.put, List.setIfInBounds_toArray, List.set_cons_zero, List.set_cons_succ])
      refine wpAnyH_take (i := 5) (oi := ⟨some 93, .extract (.tmp 88) 0, 3, "law.go:441", #[⟨4, .data⟩], none⟩) (v := ?_) rfl (by kernel_rfl) (by kernel_rfl) (by kernel_rfl) (fun _ _ _ h => h) (Or.inl ⟨by rfl, fun W hSw => ?_⟩) hHeld ?_
      rotate_left
      · (try dsimp only at hSw); go_simp; (try with_reducible rfl)
      (try simp only [Act.put, List.setIfInBounds_toArray, List.set_cons_zero, List.set_cons_succ])
      refine wpAnyH_take (i := 6) (oi := ⟨some 94, .extract (.tmp 88) 1, 27, "law.go:441", #[⟨4, .data⟩, ⟨7, .gcOnly .lateStores⟩], none⟩) (v := ?_) rfl (by kernel_rfl) (by kernel_rfl) (by kernel_rfl) (fun _ _ _ h => h) (Or.inl ⟨by rfl, fun W hSw => ?_⟩) hHeld ?_
      rotate_left
      · (try dsimp only at hSw); go_simp; (try with_reducible rfl)
      (try simp only [Act.put, List.setIfInBounds_toArray, List.set_cons_zero, List.set_cons_succ])
      refine wpAnyH_take (i := 7) (oi := ⟨some 16, .assign (.tmp 93), 3, "law.go:441", #[⟨5, .data⟩, ⟨3, .chain⟩, ⟨0, .phase⟩, ⟨1, .phase⟩, ⟨2, .phase⟩, ⟨3, .phase⟩, ⟨4, .phase⟩, ⟨5, .phase⟩, ⟨6, .textOnly .lateStores⟩], none⟩) (v := ?_) rfl (by kernel_rfl) (by kernel_rfl) (by kernel_rfl) (fun _ _ _ h => h) (Or.inl ⟨by rfl, fun W hSw => ?_⟩) hHeld ?_
      rotate_left
      · (try dsimp only at hSw); go_simp; (try with_reducible rfl)
      (try simp only [Act.put, List.setIfInBounds_toArray, List.set_cons_zero, List.set_cons_succ])
      refine wpAnyH_take (i := 8) (oi := ⟨some 17, .assign (.tmp 94), 27, "law.go:441", #[⟨6, .data⟩, ⟨7, .chain⟩, ⟨0, .phase⟩, ⟨1, .phase⟩, ⟨2, .phase⟩, ⟨3, .phase⟩, ⟨4, .phase⟩, ⟨5, .phase⟩, ⟨6, .phase⟩, ⟨7, .phase⟩], none⟩) (v := ?_) rfl (by kernel_rfl) (by kernel_rfl) (by kernel_rfl) (fun _ _ _ h => h) (Or.inl ⟨by rfl, fun W hSw => ?_⟩) hHeld ?_
      rotate_left
      · (try dsimp only at hSw); go_simp; (try with_reducible rfl)
      (try simp only [Act.put, List.setIfInBounds_toArray, List.set_cons_zero, List.set_cons_succ])
      refine wpAnyH_done (by kernel_rfl) ?_ _
      refine NoPanic.normal ?_
      replace hr := hr.keep hHeld.2
      replace hfr := fr_call hfr hHeld.2
      replace hX0 := hX0.keep hHeld.2
      replace hc0 := fun j => hX0.cell j
      replace hl0 := hX0.lt
      replace hX1 := hX1.keep hHeld.2
      replace hc1 := fun j => hX1.cell j
      replace hl1 := hX1.lt
      replace hX2 := hX2.keep hHeld.2
      replace hc2 := fun j => hX2.cell j
      replace hl2 := hX2.lt
      replace hX3 := hX3.keep hHeld.2
      replace hc3 := fun j => hX3.cell j
      replace hl3 := hX3.lt
      clear hHeld
      go_wp2_with fail
      go_ret
      exact ⟨rfl, hfr⟩
    · skip
      go_enter Tryz.func55, Tryz.ntmps55
      go_wp2_with fail
      have hfr := g1
      replace hr := hr.keep g1
      have hc0 := fun j => hX0.cell j
      have hc1 := fun j => hX1.cell j
      have hc2 := fun j => hX2.cell j
      have hl0 := hX0.lt
      have hl1 := hX1.lt
      have hl2 := hX2.lt
      refine (ldate_is _ _ _ _).mono ?_
      rintro e' w1 ⟨rfl, hb⟩
      replace hr := hr.keep hb
      replace hfr := fr_call hfr hb
      replace hX0 := hX0.keep hb
      replace hc0 := fun j => hX0.cell j
      replace hl0 := hX0.lt
      replace hX1 := hX1.keep hb
      replace hc1 := fun j => hX1.cell j
      replace hl1 := hX1.lt
      replace hX2 := hX2.keep hb
      replace hc2 := fun j => hX2.cell j
      replace hl2 := hX2.lt
      clear hb
      go_wp2_with fail
      have ga := fr_alloc (fr_refl w1) (.cells #[.int .i64 y, .int .i64 m, .int .i64 d] 38)
      replace hr := hr.keep ga
      replace hfr := fr_call hfr ga
      replace hX0 := hX0.keep ga
      replace hc0 := fun j => hX0.cell j
      replace hl0 := hX0.lt
      replace hX1 := hX1.keep ga
      replace hc1 := fun j => hX1.cell j
      replace hl1 := hX1.lt
      replace hX2 := hX2.keep ga
      replace hc2 := fun j => hX2.cell j
      replace hl2 := hX2.lt
      have hX3 := Blk.new w1 38 #[.int .i64 y, .int .i64 m, .int .i64 d]
      have hc3 := fun j => hX3.cell j
      have hl3 := hX3.lt
      clear ga
      generalize w1.alloc (.cells #[.int .i64 y, .int .i64 m, .int .i64 d] 38) = wz at *
      refine wp_region_noPanic ?_
      refine wp_region_held_drew (S := fun W => (∀ p : Addr, p.block < (wz).heap.size → W.cell? p = (wz).cell? p) ∧ Below (wz).heap.size (wz) W) (by kernel_rfl) ⟨fun _ _ => rfl, fr_drew (fr_refl _)⟩ (fun hHeld => ?_)
      -- the region, step by step
      refine wpAnyH_take (i := 0) (oi := ⟨some 89, .load 24 (.tmp 4), 24, "law.go:441", #[], none⟩) (v := ?_) rfl (by kernel_rfl) (by kernel_rfl) (by kernel_rfl) (fun _ _ _ h => h) (Or.inl ⟨by rfl, fun W hSw => ?_⟩) hHeld ?_
      rotate_left
      · (try dsimp only at hSw); go_simp; (try with_reducible rfl)
      (try simp only [Act.put, List.setIfInBounds_toArray, List.set_cons_zero, List.set_cons_succ])
      refine wpAnyH_take (i := 1) (oi := ⟨some 90, .move (.tmp 3), 3, "law.go:441", #[], none⟩) (v := ?_) rfl (by kernel_rfl) (by kernel_rfl) (by kernel_rfl) (fun _ _ _ h => h) (Or.inl ⟨by rfl, fun W hSw => ?_⟩) hHeld ?_
      rotate_left
      · (try dsimp only at hSw); go_simp; (try with_reducible rfl)
      (try simp only [Act.put, List.setIfInBounds_toArray, List.set_cons_zero, List.set_cons_succ])
      refine wpAnyH_ready (rs := [2]) (by kernel_rfl) (by simp) ?_
      refine AllReadyH.cons (o := ⟨some 91, .call { callee := .value (.func 54), args := #[.const (.int .i64 29), .const (.int .i64 2), .tmp 90], argTypes := #[3, 3, 3] }, 38, "law.go:441", #[⟨1, .data⟩], none⟩) rfl (fun K hK => ?_) AllReadyH.nil
      go_simp
      refine (ldate_is _ _ _ _).mono ?_
      rintro e' wA ⟨rfl, hb⟩
      refine hK.out _ _ (kp_step hb hHeld) (fun hHeld => ?_)
      clear hK K
      (try simp only [Act.put, List.setIfInBounds_toArray, List.set_cons_zero, List.set_cons_succ])
      refine wpAnyH_ready (rs := [3]) (by kernel_rfl) (by simp) ?_
      refine AllReadyH.cons (o := ⟨some 92, .call { callee := .value (.func 24), args := #[.tmp 89, .tmp 91], argTypes := #[24, 38] }, 30, "law.go:441", #[⟨0, .data⟩, ⟨2, .data⟩, ⟨2, .chain⟩], none⟩) rfl (fun K hK => ?_) AllReadyH.nil
      go_simp
      refine (Day_yes A n c cs e y 2 29 _ (hr.keep hHeld.2) hn hok hq).mono ?_
      rintro e' wB ⟨rfl, hb⟩
      refine hK.out _ _ (kp_step hb hHeld) (fun hHeld => ?_)
      clear hK K
      (try simp only [Act.put, List.setIfInBounds_toArray, List.set_cons_zero, List.set_cons_succ])
      refine wpAnyH_take (i := 4) (oi := ⟨some 88, .move (.tmp 92), 30, "law.go:441", #[⟨3, .data⟩], none⟩) (v := ?_) rfl (by kernel_rfl) (by kernel_rfl) (by kernel_rfl) (fun _ _ _ h => h) (Or.inl ⟨by rfl, fun W hSw => ?_⟩) hHeld ?_
      rotate_left
      · (try dsimp only at hSw); go_simp; (try with_reducible rfl)
      (try simp only [Act.put, List.setIfInBounds_toArray, List.set_cons_zero, List.set_cons_succ])
      refine wpAnyH_take (i := 5) (oi := ⟨some 93, .extract (.tmp 88) 0, 3, "law.go:441", #[⟨4, .data⟩], none⟩) (v := ?_) rfl (by kernel_rfl) (by kernel_rfl) (by kernel_rfl) (fun _ _ _ h => h) (Or.inl ⟨by rfl, fun W hSw => ?_⟩) hHeld ?_
      rotate_left
      · (try dsimp only at hSw); go_simp; (try with_reducible rfl)
      (try simp only [Act.put, List.setIfInBounds_toArray, List.set_cons_zero, List.set_cons_succ])
      refine wpAnyH_take (i := 6) (oi := ⟨some 94, .extract (.tmp 88) 1, 27, "law.go:441", #[⟨4, .data⟩, ⟨7, .gcOnly .lateStores⟩], none⟩) (v := ?_) rfl (by kernel_rfl) (by kernel_rfl) (by kernel_rfl) (fun _ _ _ h => h) (Or.inl ⟨by rfl, fun W hSw => ?_⟩) hHeld ?_
      rotate_left
      · (try dsimp only at hSw); go_simp; (try with_reducible rfl)
      (try simp only [Act.put, List.setIfInBounds_toArray, List.set_cons_zero, List.set_cons_succ])
      refine wpAnyH_take (i := 7) (oi := ⟨some 16, .assign (.tmp 93), 3, "law.go:441", #[⟨5, .data⟩, ⟨3, .chain⟩, ⟨0, .phase⟩, ⟨1, .phase⟩, ⟨2, .phase⟩, ⟨3, .phase⟩, ⟨4, .phase⟩, ⟨5, .phase⟩, ⟨6, .textOnly .lateStores⟩], none⟩) (v := ?_) rfl (by kernel_rfl) (by kernel_rfl) (by kernel_rfl) (fun _ _ _ h => h) (Or.inl ⟨by rfl, fun W hSw => ?_⟩) hHeld ?_
      rotate_left
      · (try dsimp only at hSw); go_simp; (try with_reducible rfl)
      (try simp only [Act.put, List.setIfInBounds_toArray, List.set_cons_zero, List.set_cons_succ])
      refine wpAnyH_take (i := 8) (oi := ⟨some 17, .assign (.tmp 94), 27, "law.go:441", #[⟨6, .data⟩, ⟨7, .chain⟩, ⟨0, .phase⟩, ⟨1, .phase⟩, ⟨2, .phase⟩, ⟨3, .phase⟩, ⟨4, .phase⟩, ⟨5, .phase⟩, ⟨6, .phase⟩, ⟨7, .phase⟩], none⟩) (v := ?_) rfl (by kernel_rfl) (by kernel_rfl) (by kernel_rfl) (fun _ _ _ h => h) (Or.inl ⟨by rfl, fun W hSw => ?_⟩) hHeld ?_
      rotate_left
      · (try dsimp only at hSw); go_simp; (try with_reducible rfl)
      (try simp only [Act.put, List.setIfInBounds_toArray, List.set_cons_zero, List.set_cons_succ])
      refine wpAnyH_done (by kernel_rfl) ?_ _
      refine NoPanic.normal ?_
      replace hr := hr.keep hHeld.2
      replace hfr := fr_call hfr hHeld.2
      replace hX0 := hX0.keep hHeld.2
      replace hc0 := fun j => hX0.cell j
      replace hl0 := hX0.lt
      replace hX1 := hX1.keep hHeld.2
      replace hc1 := fun j => hX1.cell j
      replace hl1 := hX1.lt
      replace hX2 := hX2.keep hHeld.2
      replace hc2 := fun j => hX2.cell j
      replace hl2 := hX2.lt
      replace hX3 := hX3.keep hHeld.2
      replace hc3 := fun j => hX3.cell j
      replace hl3 := hX3.lt
      clear hHeld
      go_wp2_with fail
      go_ret
      exact ⟨rfl, hfr⟩

theorem lso_is (A : Option Addr) (n c : Nat) (cs : List Int) (e num den add y k m d v : Int) (w : World) (hr : Rd w A n cs) (hn : n ≤ 9223372036854775807) (hok : calOk e cs = true) (hm : moonB num den add = true) (hyb : inB y 0 4000 = true) (hk : kindB ⟨k, m, d, v⟩ (val_areFacts ⟨k, m, d, v⟩) = true) :
    Calls Tryz.prog 55 #[.agg #[.int .i64 e, .slice A n c], .agg #[.int .i64 num, .int .i64 den, .int .i64 add], .agg #[.int .i64 k, .int .i64 m, .int .i64 d, .int .i64 v], .int .i64 y] w fun e' w' => e' = .returned (.bool (soB e cs num den add y ⟨k, m, d, v⟩)) ∧ Below w.heap.size w w' := by
  have hv := fact_value hk
  have h5 := kind_range hk
  simp only at h5
  have : k = 1 ∨ k = 2 ∨ k = 3 ∨ k = 4 ∨ k = 5 := by omega
  rcases this with rfl | rfl | rfl | rfl | rfl
  · exact lso1 A n c cs e num den add y m d v w hr hn hok hm hyb hv.1
  · exact lso2 A n c cs e num den add y m d v w hr hn hok hm hyb hv.1
  · exact lso3 A n c cs e num den add y m d v w hr hn hok hm hyb
  · exact lso4 A n c cs e num den add y m d v w hr hn hok hm hyb
  · exact lso5 A n c cs e num den add y m d v w hr hn hok hm hyb (hv.2 rfl)

end Go.Proofs.YtnpgdifidejohaaGreatDoor
