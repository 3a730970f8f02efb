/- Reference: feasts as defined. Reference: the days of feasts in a year. Reference: the years in which feasts meet. -/
import Derived.Test.YtnppilaabobgiaaGreatDoorMB6
import Derived.Test.YtnppilaabobgiaaGreatDoorMD1
import Derived.Test.YtnppilaabobgiaaGreatDoorMD2
import Derived.Test.YtnppilaabobgiaaGreatDoorMC7
import Derived.Test.YtnppilaabobgiaaGreatDoorMB1
section
namespace Go.Proofs.YtnppilaabobgiaaGreatDoor
open Go.RowKit Dl

set_option maxRecDepth 100000 in
set_option maxHeartbeats 4000000 in
theorem rFeast_is (f : Feast) (w : World) (b : Bool) (hb : feastB f = b) :
    Calls Tryz.prog 98 #[.agg #[.bool f.mv, .int .i64 f.m, .int .i64 f.d, .int .i64 f.a]] w fun e' w' => e' = .returned (.bool b) ∧ Below w.heap.size w w' := by
  subst hb
  obtain ⟨mv, m, d, a⟩ := f
  cases mv
  · cases hm : inB m 1 12
    · have hv : feastB ⟨false, m, d, a⟩ = false := by simp only [feastB, Bool.false_eq_true, if_false, hm, Bool.false_and, Bool.and_false]
      rw [hv]
      go_enter Tryz.func98, Tryz.ntmps98
      go_wp2_with fail
      refine (rin_is _ _ _ _ _ hm).mono ?_
      rintro e w' ⟨rfl, rfl⟩
      go_wp2_with fail
      go_ret
      exact ⟨rfl, fr_alloc (fr_refl _) _⟩
    · cases hd : inB d 1 31
      · have hv : feastB ⟨false, m, d, a⟩ = false := by simp only [feastB, Bool.false_eq_true, if_false, hd, Bool.and_false]
        rw [hv]
        go_enter Tryz.func98, Tryz.ntmps98
        go_wp2_with fail
        refine (rin_is _ _ _ _ _ hm).mono ?_
        rintro e w' ⟨rfl, rfl⟩
        go_wp2_with fail
        refine (rin_is _ _ _ _ _ hd).mono ?_
        rintro e w' ⟨rfl, rfl⟩
        go_wp2_with fail
        go_ret
        exact ⟨rfl, fr_alloc (fr_refl _) _⟩
      · have hv : feastB ⟨false, m, d, a⟩ = (a == 0) := by simp only [feastB, Bool.false_eq_true, if_false, hm, hd, Bool.and_true]
        rw [hv]
        go_enter Tryz.func98, Tryz.ntmps98
        go_wp2_with fail
        refine (rin_is _ _ _ _ _ hm).mono ?_
        rintro e w' ⟨rfl, rfl⟩
        go_wp2_with fail
        refine (rin_is _ _ _ _ _ hd).mono ?_
        rintro e w' ⟨rfl, rfl⟩
        go_wp2_with fail
        go_ret
        exact ⟨rfl, fr_alloc (fr_refl _) _⟩
  · cases hm : (m == 0)
    · have hv : feastB ⟨true, m, d, a⟩ = false := by simp only [feastB, if_true, hm, Bool.false_and]
      rw [hv]
      go_enter Tryz.func98, Tryz.ntmps98
      go_wp2_with fail
      go_ret
      exact ⟨rfl, fr_alloc (fr_refl _) _⟩
    · cases hd : (d == 0)
      · have hv : feastB ⟨true, m, d, a⟩ = false := by simp only [feastB, if_true, hm, hd, Bool.false_and, Bool.and_false]
        rw [hv]
        go_enter Tryz.func98, Tryz.ntmps98
        go_wp2_with fail
        go_ret
        exact ⟨rfl, fr_alloc (fr_refl _) _⟩
      · have hv : feastB ⟨true, m, d, a⟩ = inB a (-60) 60 := by simp only [feastB, if_true, hm, hd, Bool.true_and]
        rw [hv]
        go_enter Tryz.func98, Tryz.ntmps98
        go_wp2_with fail
        refine (rin_is _ _ _ _ _ rfl).mono ?_
        rintro e w' ⟨rfl, rfl⟩
        go_wp2_with fail
        go_ret
        exact ⟨rfl, fr_alloc (fr_refl _) _⟩

set_option maxRecDepth 100000 in
set_option maxHeartbeats 2000000 in
theorem rFeasts_is (A : Option Addr) (c : Nat) (l : List Feast) (w : World) (hr : RdS w A 4 (l.map Feast.row)) (hn : l.length ≤ 9223372036854775807) (b : Bool) (hb : feastsB l = b) :
    Calls Tryz.prog 44 #[.slice A l.length c] w fun e' w' => e' = .returned (.bool b) ∧ Below w.heap.size w w' := by
  subst hb
  go_enter Tryz.func44, Tryz.ntmps44
  go_wp2
  generalize hlen : l.length = n at *
  have HL := Lib.hid hlen
  have HF := Lib.hid (show feastsB l = (decide (l.length ≤ 6) && l.all feastB) from rfl)
  clear hlen
  go_loopw [3] (fun i wr => ∃ k : Nat, k ≤ n ∧ i = .int .i64 k ∧ (l.take k).all feastB = true ∧ Below w.heap.size w wr) (fun i _ => n - (intOf i).toNat)
  case atStart => exact ⟨0, Nat.zero_le _, rfl, by simp, fr_refl _⟩
  case round =>
    obtain ⟨k, hk, rfl, hall, hbel⟩ := hrel
    by_cases hlt : k < n
    · have hkl : k < l.length := by have := HL.out; omega
      have hrow : (l.map Feast.row)[k]? = some (l[k].row) := by simp [hkl]
      obtain ⟨ad, rfl, hab, _, hc⟩ := (hr.keep hbel).at_ hrow
      have hq : ∀ j, ad.add (k * 4 + (j + 1)) = (ad.add (k * 4)).add (j + 1) := fun j => by
        unfold Addr.add; by_cases h0 : k * 4 = 0 <;> simp [h0, Nat.add_assoc]
      have hc0 : wr.cell? (ad.add (k * 4)) = some (.bool l[k].mv) := hc 0 _ rfl
      have hc1 : wr.cell? ⟨(ad.add (k * 4)).block, (ad.add (k * 4)).off + 1, none⟩ = _ := (congrArg wr.cell? (hq 0)).symm.trans (hc 1 _ rfl)
      have hc2 : wr.cell? ⟨(ad.add (k * 4)).block, (ad.add (k * 4)).off + 2, none⟩ = _ := (congrArg wr.cell? (hq 1)).symm.trans (hc 2 _ rfl)
      have hc3 : wr.cell? ⟨(ad.add (k * 4)).block, (ad.add (k * 4)).off + 3, none⟩ = _ := (congrArg wr.cell? (hq 2)).symm.trans (hc 3 _ rfl)
      clear hc hrow hr hq
      cases hf : feastB l[k]
      · have hno := Lib.hid (show feastsB l = false by rw [HF.out]; rw [show l.all feastB = false from all_no hkl hf]; simp)
        go_wp2_with fail
        refine (rFeast_is _ _ false hf).mono ?_
        rintro e w1 ⟨rfl, hb1⟩
        go_wp2_with fail
        go_ret
        exact ⟨ret_bool (by rw [hno.out]), fr_call hbel hb1⟩
      · have hst := Lib.hid (all_step hkl hall hf)
        go_wp2_with fail
        refine (rFeast_is _ _ true hf).mono ?_
        rintro e w1 ⟨rfl, hb1⟩
        go_wp2_with fail
        go_roundw
        case rel => exact ⟨k + 1, hlt, by go_num, hst.out, fr_call hbel hb1⟩
        case measure => simp [intOf]; omega
    · have hfin := Lib.hid (show feastsB l = decide (n ≤ 6) by
        rw [HF.out, HL.out]
        rw [List.take_of_length_le (by have := HL.out; omega)] at hall
        rw [hall, Bool.and_true])
      go_wp2_with fail
      go_ret
      exact ⟨ret_bool (by rw [hfin.out]; simp; omega), hbel⟩
end Go.Proofs.YtnppilaabobgiaaGreatDoor
end

section
namespace Go.Proofs.YtnppilaabobgiaaGreatDoor
open Go.RowKit Dl

theorem Blk.keepB' {w w' : World} {g N : Nat} {t : TypeId} {cs : Array Value} (h : Blk w g t cs) (hb : Below N w w') (hg : g < N) : Blk w' g t cs := (hb.block g hg).trans h
theorem easter_small' {e y num den add : Int} {cs : List Int} (hok : calOk e cs = true) (hm : MoonOk num den add) (hy : 0 ≤ y ∧ y ≤ 4000) : 0 ≤ easterDay e cs num den add y ∧ easterDay e cs num den add y ≤ 3000000 := by
  have h1 := march_bounds e cs y (calOk_parts hok).1 hy
  have h2 := easter_bounds (e := e) (cs := cs) (y := y) hm
  omega

set_option maxRecDepth 100000 in
set_option maxHeartbeats 4000000 in
theorem rFeastDay_any (A : Option Addr) (n c : Nat) (cs : List Int) (e num den add y : Int) (f : Feast) (w : World) (hr : Rd w A n cs) (hok : calOk e cs = true) (hm : MoonOk num den add) (hy1 : 0 ≤ y) (hy2 : y ≤ 4000) (hf : feastB f = true) :
    Calls Tryz.prog 99 #[.agg #[.int .i64 e, .slice A n c], .agg #[.int .i64 num, .int .i64 den, .int .i64 add], .agg #[.bool f.mv, .int .i64 f.m, .int .i64 f.d, .int .i64 f.a], .int .i64 y] w fun e' w' => e' = .returned (.int .i64 (feastDay e cs num den add y f)) ∧ Below w.heap.size w w' := by
  obtain ⟨mv, m, d, a⟩ := f
  simp only
  cases mv
  · obtain ⟨hm12, hd31⟩ : (1 ≤ m ∧ m ≤ 12) ∧ (1 ≤ d ∧ d ≤ 31) := by
      unfold feastB at hf
      simp only [Bool.false_eq_true, if_false, Bool.and_eq_true, beq_iff_eq] at hf
      exact ⟨inB_iff.1 hf.1.2, inB_iff.1 hf.2⟩
    have g4 := fr_alloc (fr_alloc (fr_alloc (fr_alloc (fr_refl w) (.cells #[.int .i64 e, .slice A n c] 24)) (.cells #[.int .i64 num, .int .i64 den, .int .i64 add] 63)) (.cells #[.bool false, .int .i64 m, .int .i64 d, .int .i64 a] 76)) (.cells #[.int .i64 y, .int .i64 m, .int .i64 d] 41)
    have hC0 : Blk ((((w.alloc (.cells #[.int .i64 e, .slice A n c] 24)).alloc (.cells #[.int .i64 num, .int .i64 den, .int .i64 add] 63)).alloc (.cells #[.bool false, .int .i64 m, .int .i64 d, .int .i64 a] 76)).alloc (.cells #[.int .i64 y, .int .i64 m, .int .i64 d] 41)) w.heap.size 24 #[.int .i64 e, .slice A n c] := (((Blk.new_at _ _ (by simp)).alloc _).alloc _).alloc _
    have hD0 : Blk ((((w.alloc (.cells #[.int .i64 e, .slice A n c] 24)).alloc (.cells #[.int .i64 num, .int .i64 den, .int .i64 add] 63)).alloc (.cells #[.bool false, .int .i64 m, .int .i64 d, .int .i64 a] 76)).alloc (.cells #[.int .i64 y, .int .i64 m, .int .i64 d] 41)) (w.heap.size + 1 + 1 + 1) 41 #[.int .i64 y, .int .i64 m, .int .i64 d] := Blk.new_at _ _ (by simp)
    cases hrb : realB cs y m d
    · have hfd : feastDay e cs num den add y ⟨false, m, d, a⟩ = -1 := by unfold feastDay; simp [hrb]
      rw [hfd]
      clear hfd hC0 hD0
      go_enter Tryz.func99, Tryz.ntmps99
      go_wp2_with fail
      refine (rReal_is A n c cs e y m d _ (hr.keep g4) hok _ hrb).mono ?_
      rintro e' w1 ⟨rfl, hb1⟩
      go_wp2_with fail
      go_ret
      exact ⟨rfl, fr_call g4 hb1⟩
    · have hfd : feastDay e cs num den add y ⟨false, m, d, a⟩ = dayOf e cs ⟨y, m, d⟩ := by unfold feastDay; simp [hrb]
      rw [hfd]
      clear hfd
      go_enter Tryz.func99, Tryz.ntmps99
      go_wp2_with fail
      refine (rReal_is A n c cs e y m d _ (hr.keep g4) hok _ hrb).mono ?_
      rintro e' w1 ⟨rfl, hb1⟩
      have hC1 := hC0.keep hb1
      have hD1 := hD0.keep hb1
      have hcC := fun j => hC1.cell j
      have hcD := fun j => hD1.cell j
      have hlC := hC1.lt
      have hlD := hD1.lt
      clear hC0 hD0
      go_wp2_with fail
      refine (rDay_any A n c cs e y m d _ ((hr.keep g4).keep hb1) hok hy1 hy2 hm12.1 hm12.2 hd31.1 hd31.2).mono ?_
      rintro e' w2 ⟨rfl, hb2⟩
      go_wp2_with fail
      go_ret
      exact ⟨rfl, fr_call (fr_call g4 hb1) hb2⟩
  · have ha : -60 ≤ a ∧ a ≤ 60 := by
      unfold feastB at hf
      simp only [if_true, Bool.and_eq_true, beq_iff_eq] at hf
      exact inB_iff.1 hf.2
    have hfd : feastDay e cs num den add y ⟨true, m, d, a⟩ = easterDay e cs num den add y + a := by unfold feastDay; simp
    rw [hfd]
    have hE := easter_small' (e := e) (cs := cs) hok hm ⟨hy1, hy2⟩
    obtain ⟨E, gE⟩ : ∃ E, easterDay e cs num den add y = E := ⟨_, rfl⟩
    rw [gE] at hE ⊢
    have HE := Lib.hid gE
    have hw : IntKind.i64.wrap (E + a) = E + a := IntWalk.i64_in _ (by omega)
    clear hfd gE
    have g3 := fr_alloc (fr_alloc (fr_alloc (fr_refl w) (.cells #[.int .i64 e, .slice A n c] 24)) (.cells #[.int .i64 num, .int .i64 den, .int .i64 add] 63)) (.cells #[.bool true, .int .i64 m, .int .i64 d, .int .i64 a] 76)
    have hr0 := hr.keep g3
    go_enter Tryz.func99, Tryz.ntmps99
    go_wp2_with fail
    refine wp_region_noPanic ?_
    refine wp_region_held_drew (S := fun W => (∀ p : Addr, p.block < ((((w.alloc (.cells #[.int .i64 e, .slice A n c] 24)).alloc (.cells #[.int .i64 num, .int .i64 den, .int .i64 add] 63)).alloc (.cells #[.bool true, .int .i64 m, .int .i64 d, .int .i64 a] 76))).heap.size → W.cell? p = ((((w.alloc (.cells #[.int .i64 e, .slice A n c] 24)).alloc (.cells #[.int .i64 num, .int .i64 den, .int .i64 add] 63)).alloc (.cells #[.bool true, .int .i64 m, .int .i64 d, .int .i64 a] 76))).cell? p) ∧ Below ((((w.alloc (.cells #[.int .i64 e, .slice A n c] 24)).alloc (.cells #[.int .i64 num, .int .i64 den, .int .i64 add] 63)).alloc (.cells #[.bool true, .int .i64 m, .int .i64 d, .int .i64 a] 76))).heap.size ((((w.alloc (.cells #[.int .i64 e, .slice A n c] 24)).alloc (.cells #[.int .i64 num, .int .i64 den, .int .i64 add] 63)).alloc (.cells #[.bool true, .int .i64 m, .int .i64 d, .int .i64 a] 76))) W) (by kernel_rfl) ⟨fun _ _ => rfl, fr_drew (fr_refl _)⟩ (fun hHeld => ?_)
    -- the region, step by step
    refine wpAnyH_take (i := 0) (oi := ⟨some 12, .load 24 (.tmp 4), 24, "ref.go:256", #[], none⟩) (v := ?_) rfl (by kernel_rfl) (by kernel_rfl) (by kernel_rfl) (fun _ _ _ h => h) (Or.inl ⟨by rfl, fun W hSw => ?_⟩) hHeld ?_
    rotate_left
    · (try dsimp only at hSw); go_simp; (try with_reducible rfl)
    (try simp only [Act.put, List.setIfInBounds_toArray, List.set_cons_zero, List.set_cons_succ])
    refine wpAnyH_take (i := 1) (oi := ⟨some 13, .load 63 (.tmp 5), 63, "ref.go:256", #[], none⟩) (v := ?_) rfl (by kernel_rfl) (by kernel_rfl) (by kernel_rfl) (fun _ _ _ h => h) (Or.inl ⟨by rfl, fun W hSw => ?_⟩) hHeld ?_
    rotate_left
    · (try dsimp only at hSw); go_simp; (try with_reducible rfl)
    (try simp only [Act.put, List.setIfInBounds_toArray, List.set_cons_zero, List.set_cons_succ])
    refine wpAnyH_take (i := 2) (oi := ⟨some 14, .move (.tmp 3), 3, "ref.go:256", #[], none⟩) (v := ?_) rfl (by kernel_rfl) (by kernel_rfl) (by kernel_rfl) (fun _ _ _ h => h) (Or.inl ⟨by rfl, fun W hSw => ?_⟩) hHeld ?_
    rotate_left
    · (try dsimp only at hSw); go_simp; (try with_reducible rfl)
    (try simp only [Act.put, List.setIfInBounds_toArray, List.set_cons_zero, List.set_cons_succ])
    refine wpAnyH_take (i := 4) (oi := ⟨some 16, .fieldAddr 76 (.tmp 6) 3, 0, "ref.go:256", #[], none⟩) (v := ?_) rfl (by kernel_rfl) (by kernel_rfl) (by kernel_rfl) (fun _ _ _ h => h) (Or.inl ⟨by rfl, fun W hSw => ?_⟩) hHeld ?_
    rotate_left
    · (try dsimp only at hSw); go_simp; (try with_reducible rfl)
    (try simp only [Act.put, List.setIfInBounds_toArray, List.set_cons_zero, List.set_cons_succ])
    refine wpAnyH_take (i := 5) (oi := ⟨some 17, .load 3 (.tmp 16), 3, "ref.go:256", #[⟨4, .data⟩], none⟩) (v := ?_) rfl (by kernel_rfl) (by kernel_rfl) (by kernel_rfl) (fun _ _ _ h => h) (Or.inl ⟨by rfl, fun W hSw => ?_⟩) hHeld ?_
    rotate_left
    · (try dsimp only at hSw); go_simp; (try with_reducible rfl)
    (try simp only [Act.put, List.setIfInBounds_toArray, List.set_cons_zero, List.set_cons_succ])
    refine wpAnyH_ready (rs := [3]) (by kernel_rfl) (by simp) ?_
    refine AllReadyH.cons (o := ⟨some 15, .call { callee := .value (.func 43), args := #[.tmp 12, .tmp 13, .tmp 14], argTypes := #[24, 63, 3] }, 3, "ref.go:256", #[⟨0, .data⟩, ⟨1, .data⟩, ⟨2, .data⟩], none⟩) rfl (fun K hK => ?_) AllReadyH.nil
    go_simp
    refine (rEasterDay_any A n c cs e num den add y _ (hr0.keep hHeld.2) hok hm hy1 hy2).mono ?_
    rw [HE.out]
    rintro e' wA ⟨rfl, hb⟩
    refine hK.out _ _ (kp_step hb hHeld) (fun hHeld => ?_)
    clear hK K
    (try simp only [Act.put, List.setIfInBounds_toArray, List.set_cons_zero, List.set_cons_succ])
    refine wpAnyH_take (i := 6) (oi := ⟨some 18, .binOp .add 3 (.tmp 15) (.tmp 17) 3, 3, "ref.go:256", #[⟨3, .data⟩, ⟨5, .data⟩], none⟩) (v := ?_) rfl (by kernel_rfl) (by kernel_rfl) (by kernel_rfl) (fun _ _ _ h => h) (Or.inl ⟨by rfl, fun W hSw => ?_⟩) hHeld ?_
    rotate_left
    · (try dsimp only at hSw); go_simp; (try with_reducible rfl)
    (try simp only [Act.put, List.setIfInBounds_toArray, List.set_cons_zero, List.set_cons_succ])
    refine wpAnyH_take (i := 7) (oi := ⟨some 8, .assign (.tmp 18), 3, "ref.go:256", #[⟨6, .data⟩, ⟨3, .chain⟩, ⟨0, .phase⟩, ⟨1, .phase⟩, ⟨2, .phase⟩, ⟨3, .phase⟩, ⟨4, .phase⟩, ⟨5, .phase⟩, ⟨6, .phase⟩], none⟩) (v := ?_) rfl (by kernel_rfl) (by kernel_rfl) (by kernel_rfl) (fun _ _ _ h => h) (Or.inl ⟨by rfl, fun W hSw => ?_⟩) hHeld ?_
    rotate_left
    · (try dsimp only at hSw); go_simp; (try with_reducible rfl)
    (try simp only [Act.put, List.setIfInBounds_toArray, List.set_cons_zero, List.set_cons_succ])
    refine wpAnyH_done (by kernel_rfl) ?_ _
    refine NoPanic.normal ?_
    go_wp2
    go_ret
    exact ⟨rfl, fr_call g3 hHeld.2⟩

set_option maxRecDepth 100000 in
set_option maxHeartbeats 8000000 in
theorem rFeastDays_any (A L : Option Addr) (n c lc : Nat) (cs : List Int) (e num den add y : Int) (l : List Feast) (w : World) (hr : Rd w A n cs) (hL : RdS w L 4 (l.map Feast.row)) (hln : l.length ≤ 9223372036854775807) (hok : calOk e cs = true) (hmb : moonB num den add = true) (hl : feastsB l = true) (hy1 : 0 ≤ y) (hy2 : y ≤ 4000) :
    Calls Tryz.prog 45 #[.agg #[.int .i64 e, .slice A n c], .agg #[.int .i64 num, .int .i64 den, .int .i64 add], .slice L l.length lc, .int .i64 y] w fun e' w' =>
      ∃ B b, e' = .returned (.slice B (l.map (feastDay e cs num den add y)).length b) ∧ Rd w' B (l.map (feastDay e cs num den add y)).length (l.map (feastDay e cs num den add y)) ∧ Below w.heap.size w w' := by
  have hm := moonB_ok hmb
  have _u := hln
  have hla : ∀ f ∈ l, feastB f = true := by unfold feastsB at hl; simp at hl; exact hl.2
  have hl6 : l.length ≤ 6 := by unfold feastsB at hl; simp at hl; exact hl.1
  have g1 := fr_alloc (fr_alloc (fr_refl w) (.cells #[.int .i64 e, .slice A n c] 24)) (.cells #[.int .i64 num, .int .i64 den, .int .i64 add] 63)
  have hC0 : Blk ((w.alloc (.cells #[.int .i64 e, .slice A n c] 24)).alloc (.cells #[.int .i64 num, .int .i64 den, .int .i64 add] 63)) w.heap.size 24 #[.int .i64 e, .slice A n c] := (Blk.new_at _ _ (by simp)).alloc _
  have hM0 : Blk ((w.alloc (.cells #[.int .i64 e, .slice A n c] 24)).alloc (.cells #[.int .i64 num, .int .i64 den, .int .i64 add] 63)) (w.heap.size + 1) 63 #[.int .i64 num, .int .i64 den, .int .i64 add] := Blk.new_at _ _ (by simp)
  go_enter Tryz.func45, Tryz.ntmps45
  go_wp2_with fail
  generalize hlen : l.length = nl at *
  have HL := Lib.hid hlen
  clear hlen hl
  go_loopw [9, 10] (fun v' i wx => ∃ j : Nat, j ≤ nl ∧ i = .int .i64 j ∧ Own wx (w.heap.size + 1 + 1) v' ((l.take j).map (feastDay e cs num den add y)) ∧ Blk wx w.heap.size 24 #[.int .i64 e, .slice A n c] ∧ Blk wx (w.heap.size + 1) 63 #[.int .i64 num, .int .i64 den, .int .i64 add] ∧ Below w.heap.size w wx) (fun _ i _ => nl - (intOf i).toNat)
  case atStart => exact ⟨0, Nat.zero_le _, rfl, Own.nil _ _, hC0, hM0, g1⟩
  case round =>
    clear hC0 hM0 g1
    obtain ⟨j, hj, rfl, hown, hC, hMo, hbel⟩ := hrel
    obtain ⟨B0, b0, rfl⟩ := hown.form
    by_cases hltj : j < nl
    · have hjl : j < l.length := by have := HL.out; omega
      have hrow : (l.map Feast.row)[j]? = some (l[j].row) := by simp [hjl]
      obtain ⟨ad, rfl, hab, _, hc⟩ := (hL.keep hbel).at_ hrow
      have hq : ∀ i, ad.add (j * 4 + (i + 1)) = (ad.add (j * 4)).add (i + 1) := fun i => by
        unfold Addr.add; by_cases h0 : j * 4 = 0 <;> simp [h0, Nat.add_assoc]
      have hadw : ad.block < w.heap.size := by
        obtain ⟨ad', e1, h1, _⟩ := hL.at_ hrow
        cases e1; exact h1
      have hadk : (ad.add (j * 4)).block = ad.block := block_of_add _ _
      have hab2 : (ad.add (j * 4)).block < wr.heap.size := by rw [block_of_add]; exact hab
      have hab3 : (ad.add (j * 4)).block < w.heap.size + 1 + 1 := by omega
      have hc0 : wr.cell? (ad.add (j * 4)) = some (.bool l[j].mv) := hc 0 _ rfl
      have hc1 : wr.cell? ⟨(ad.add (j * 4)).block, (ad.add (j * 4)).off + 1, none⟩ = some (.int .i64 l[j].m) := (congrArg wr.cell? (hq 0)).symm.trans (hc 1 _ rfl)
      have hc2 : wr.cell? ⟨(ad.add (j * 4)).block, (ad.add (j * 4)).off + 2, none⟩ = some (.int .i64 l[j].d) := (congrArg wr.cell? (hq 1)).symm.trans (hc 2 _ rfl)
      have hc3 : wr.cell? ⟨(ad.add (j * 4)).block, (ad.add (j * 4)).off + 3, none⟩ = some (.int .i64 l[j].a) := (congrArg wr.cell? (hq 2)).symm.trans (hc 3 _ rfl)
      have hfk := hla l[j] (List.getElem_mem hjl)
      have hst : (l.take (j + 1)).map (feastDay e cs num den add y) = (l.take j).map (feastDay e cs num den add y) ++ [feastDay e cs num den add y l[j]] := by
        rw [List.take_succ_eq_append_getElem hjl, List.map_append]; rfl
      have htl : ((l.take j).map (feastDay e cs num den add y)).length ≤ 100000 := by rw [List.length_map, List.length_take]; omega
      generalize (l.take j).map (feastDay e cs num den add y) = zs at *
      have HST := Lib.hid hst
      clear hst hrow hq hc hadk hla
      generalize l[j] = fj at *
      obtain ⟨mv, fm, fd, fa⟩ := fj
      simp only at hc0 hc1 hc2 hc3
      have hCc := fun i => hC.cell i
      have hMc := fun i => hMo.cell i
      have hclt := hC.lt
      have hmlt := hMo.lt
      have hj0 : (0 : Int) ≤ (j : Int) := Int.natCast_nonneg j
      have hji : (j : Int) < (nl : Int) := by omega
      have hN : w.heap.size + 1 + 1 ≤ wr.heap.size := by omega
      have HFK := Lib.hid hfk
      clear hfk
      go_wp2_with fail
      refine wp_region_noPanic ?_
      refine wp_region_held_drew (S := fun W => (∀ p : Addr, p.block < w.heap.size + 1 + 1 → W.cell? p = (wr).cell? p) ∧ Below (w.heap.size + 1 + 1) (wr) W) (by kernel_rfl) ⟨fun _ _ => rfl, (fr_drew (fr_refl _)).mono (by omega)⟩ (fun hHeld => ?_)
      have hown := hown.keep (fr_drew (fr_refl wr))
      -- the region, step by step
      refine wpAnyH_take (i := 0) (oi := ⟨some 17, .move (.tmp 9), 22, "ref.go:269", #[], none⟩) (v := ?_) rfl (by kernel_rfl) (by kernel_rfl) (by kernel_rfl) (fun _ _ _ h => h) (Or.inl ⟨by rfl, fun W hSw => ?_⟩) hHeld ?_
      rotate_left
      · (try dsimp only at hSw); go_simp; (try with_reducible rfl)
      (try simp only [Act.put, List.setIfInBounds_toArray, List.set_cons_zero, List.set_cons_succ])
      refine wpAnyH_take (i := 1) (oi := ⟨some 18, .load 24 (.tmp 4), 24, "ref.go:269", #[], none⟩) (v := ?_) rfl (by kernel_rfl) (by kernel_rfl) (by kernel_rfl) (fun _ _ _ h => h) (Or.inl ⟨by rfl, fun W hSw => ?_⟩) hHeld ?_
      rotate_left
      · (try dsimp only at hSw); go_simp; (try with_reducible rfl)
      (try simp only [Act.put, List.setIfInBounds_toArray, List.set_cons_zero, List.set_cons_succ])
      refine wpAnyH_take (i := 2) (oi := ⟨some 19, .load 63 (.tmp 5), 63, "ref.go:269", #[], none⟩) (v := ?_) rfl (by kernel_rfl) (by kernel_rfl) (by kernel_rfl) (fun _ _ _ h => h) (Or.inl ⟨by rfl, fun W hSw => ?_⟩) hHeld ?_
      rotate_left
      · (try dsimp only at hSw); go_simp; (try with_reducible rfl)
      (try simp only [Act.put, List.setIfInBounds_toArray, List.set_cons_zero, List.set_cons_succ])
      refine wpAnyH_take (i := 3) (oi := ⟨some 20, .move (.tmp 2), 64, "ref.go:269", #[], none⟩) (v := ?_) rfl (by kernel_rfl) (by kernel_rfl) (by kernel_rfl) (fun _ _ _ h => h) (Or.inl ⟨by rfl, fun W hSw => ?_⟩) hHeld ?_
      rotate_left
      · (try dsimp only at hSw); go_simp; (try with_reducible rfl)
      (try simp only [Act.put, List.setIfInBounds_toArray, List.set_cons_zero, List.set_cons_succ])
      refine wpAnyH_take (i := 4) (oi := ⟨some 21, .move (.tmp 10), 3, "ref.go:269", #[], none⟩) (v := ?_) rfl (by kernel_rfl) (by kernel_rfl) (by kernel_rfl) (fun _ _ _ h => h) (Or.inl ⟨by rfl, fun W hSw => ?_⟩) hHeld ?_
      rotate_left
      · (try dsimp only at hSw); go_simp; (try with_reducible rfl)
      (try simp only [Act.put, List.setIfInBounds_toArray, List.set_cons_zero, List.set_cons_succ])
      refine wpAnyH_take (i := 5) (oi := ⟨some 22, .indexAddr 64 (.tmp 20) (.tmp 21), 0, "ref.go:269", #[⟨3, .data⟩, ⟨4, .data⟩], none⟩) (v := ?_) rfl (by kernel_rfl) (by kernel_rfl) (by kernel_rfl) (fun _ _ _ h => h) (Or.inl ⟨by rfl, fun W hSw => ?_⟩) hHeld ?_
      rotate_left
      · (try dsimp only at hSw); go_simp; (try with_reducible rfl)
      (try simp only [Act.put, List.setIfInBounds_toArray, List.set_cons_zero, List.set_cons_succ])
      refine wpAnyH_take (i := 6) (oi := ⟨some 23, .load 76 (.tmp 22), 76, "ref.go:269", #[⟨5, .data⟩], none⟩) (v := ?_) rfl (by kernel_rfl) (by kernel_rfl) (by kernel_rfl) (fun _ _ _ h => h) (Or.inl ⟨by rfl, fun W hSw => ?_⟩) hHeld ?_
      rotate_left
      · (try dsimp only at hSw); go_simp; (try with_reducible rfl)
      (try simp only [Act.put, List.setIfInBounds_toArray, List.set_cons_zero, List.set_cons_succ])
      refine wpAnyH_take (i := 7) (oi := ⟨some 24, .move (.tmp 3), 3, "ref.go:269", #[], none⟩) (v := ?_) rfl (by kernel_rfl) (by kernel_rfl) (by kernel_rfl) (fun _ _ _ h => h) (Or.inl ⟨by rfl, fun W hSw => ?_⟩) hHeld ?_
      rotate_left
      · (try dsimp only at hSw); go_simp; (try with_reducible rfl)
      (try simp only [Act.put, List.setIfInBounds_toArray, List.set_cons_zero, List.set_cons_succ])
      refine wpAnyH_ready (rs := [8]) (by kernel_rfl) (by simp) ?_
      refine AllReadyH.cons (o := ⟨some 25, .call { callee := .value (.func 99), args := #[.tmp 18, .tmp 19, .tmp 23, .tmp 24], argTypes := #[24, 63, 76, 3] }, 3, "ref.go:269", #[⟨1, .data⟩, ⟨2, .data⟩, ⟨6, .data⟩, ⟨7, .data⟩], none⟩) rfl (fun K hK => ?_) AllReadyH.nil
      go_simp
      refine (rFeastDay_any A n c cs e num den add y ⟨mv, fm, fd, fa⟩ _ (hr.keep (hbel.trans (hHeld.2.mono (by omega)))) hok hm hy1 hy2 HFK.out).mono ?_
      rintro e' wA ⟨rfl, hb⟩
      replace hown := hown.keep hb
      refine hK.out _ _ (kpn_step hb hHeld hN) (fun hHeld => ?_)
      clear hK K
      (try simp only [Act.put, List.setIfInBounds_toArray, List.set_cons_zero, List.set_cons_succ])
      refine wpAnyH_ready (rs := [9]) (by kernel_rfl) (by simp) ?_
      refine AllReadyH.cons (o := ⟨some 26, .buildSlice 22 1 #[(0, .tmp 25)], 22, "ref.go:269", #[⟨8, .data⟩], none⟩) rfl (fun K hK => ?_) AllReadyH.nil
      rw [if_pos (by rfl)]
      refine wp_build1 rfl rfl ?_
      intro gA WA hOA hbA hgA
      replace hown := hown.keep hbA
      refine hK.out _ _ (kpn_step hbA hHeld hN) (fun hHeld => ?_)
      clear hK K
      (try simp only [Act.put, List.setIfInBounds_toArray, List.set_cons_zero, List.set_cons_succ])
      refine wpAnyH_ready (rs := [10]) (by kernel_rfl) (by simp) ?_
      refine AllReadyH.cons (o := ⟨some 27, .call { callee := .builtin .append, args := #[.tmp 17, .tmp 26], argTypes := #[22, 22] }, 22, "ref.go:269", #[⟨0, .data⟩, ⟨9, .data⟩, ⟨8, .chain⟩], none⟩) rfl (fun K hK => ?_) AllReadyH.nil
      rw [if_pos (by rfl)]
      refine wp_app_slice _ _ rfl (w.heap.size + 1 + 1) _ zs rfl hown (some ⟨gA, 0, none⟩) 1 1 [_] rfl (rd_of_blk (xs := [_]) hOA) (by omega) (by omega) (by omega) (Nat.le_trans hN hHeld.2.size) ?_
      intro A' c' WP hOP hgP
      have hbP : Below (w.heap.size + 1 + 1) wr WP := hHeld.2.grown hgP (Nat.le_trans hN hHeld.2.size) (own_ge hown)
      refine hK.out _ _ (kp_of hbP) (fun hHeld => ?_)
      clear hK K
      (try simp only [Act.put, List.setIfInBounds_toArray, List.set_cons_zero, List.set_cons_succ])
      refine wpAnyH_take (i := 11) (oi := ⟨some 9, .assign (.tmp 27), 22, "ref.go:269", #[⟨10, .data⟩, ⟨10, .chain⟩, ⟨0, .phase⟩, ⟨1, .phase⟩, ⟨2, .phase⟩, ⟨3, .phase⟩, ⟨4, .phase⟩, ⟨5, .phase⟩, ⟨6, .phase⟩, ⟨7, .phase⟩, ⟨8, .phase⟩, ⟨9, .phase⟩, ⟨10, .phase⟩], none⟩) (v := ?_) rfl (by kernel_rfl) (by kernel_rfl) (by kernel_rfl) (fun _ _ _ h => h) (Or.inl ⟨by rfl, fun W hSw => ?_⟩) hHeld ?_
      rotate_left
      · (try dsimp only at hSw); go_simp; (try with_reducible rfl)
      (try simp only [Act.put, List.setIfInBounds_toArray, List.set_cons_zero, List.set_cons_succ])
      refine wpAnyH_done (by kernel_rfl) ?_ _
      refine NoPanic.normal ?_
      go_wp2_with fail
      refine ⟨⟨j + 1, hltj, by go_num, by rw [HST.out]; exact hOP, hC.keepB' hbP (by omega), hMo.keepB' hbP (by omega), hbel.trans (hbP.mono (by omega))⟩, ?_⟩
      simp [intOf]; omega
    · obtain rfl : j = nl := by omega
      rw [List.take_of_length_le (by have := HL.out; omega)] at hown
      rw [List.take_of_length_le (by have := HL.out; omega)]
      go_wp2_with fail
      go_ret
      exact ⟨B0, b0, rfl, hown.rd, hbel⟩
end Go.Proofs.YtnppilaabobgiaaGreatDoor
end

section
namespace Go.Proofs.YtnppilaabobgiaaGreatDoor
open Go.RowKit Dl

theorem twice_none {xs : List Int} (h : ∀ i, i < xs.length → twiceAt xs i = false) : twiceB xs = false := by
  unfold twiceB
  rw [List.any_eq_false]
  intro i hi
  rw [h i (List.mem_range.1 hi)]
  exact Bool.false_ne_true
theorem twice_some {xs : List Int} {i : Nat} (hi : i < xs.length) (h : twiceAt xs i = true) : twiceB xs = true := by
  unfold twiceB
  rw [List.any_eq_true]
  exact ⟨i, List.mem_range.2 hi, h⟩
theorem meet_len (e num den add a : Int) (cs : List Int) (l : List Feast) : ∀ k, (meetOf e cs num den add l a k).length ≤ k := by
  intro k
  induction k with
  | zero => simp [meetOf]
  | succ k ih =>
    cases h : twiceB (l.map (feastDay e cs num den add (a + k)))
    · rw [meet_no h]; omega
    · rw [meet_yes h, List.length_append]; simp; omega

set_option maxRecDepth 100000 in
set_option maxHeartbeats 4000000 in
theorem rTwice_is (A : Option Addr) (n c : Nat) (xs : List Int) (w : World) (hr : Rd w A n xs) (hn : n ≤ 9223372036854775807) (b : Bool) (hb : twiceB xs = b) :
    Calls Tryz.prog 35 #[.slice A n c] w fun e' w' => e' = .returned (.bool b) ∧ Below w.heap.size w w' := by
  subst hb
  have HL := Lib.hid hr.len
  go_enter Tryz.func35, Tryz.ntmps35
  go_wp2_with fail
  go_loopw [3] (fun i wx => ∃ k : Nat, k ≤ n ∧ i = .int .i64 k ∧ (∀ j, j < k → twiceAt xs j = false) ∧ Below w.heap.size w wx) (fun i _ => n - (intOf i).toNat)
  case atStart => exact ⟨0, Nat.zero_le _, rfl, fun j hj => absurd hj (by omega), fr_refl _⟩
  case round =>
    obtain ⟨k, hk, rfl, hno, hbel⟩ := hrel
    have HNO := Lib.hid hno
    clear hno
    by_cases hltk : k < n
    · obtain ⟨x, gx⟩ : ∃ x, xs[k]?.getD 0 = x := ⟨_, rfl⟩
      have GX := Lib.hid gx
      clear gx
      have hki : (k : Int) < (n : Int) := by omega
      have hk0 : (0 : Int) ≤ (k : Int) := Int.natCast_nonneg k
      go_wp2_with fail
      obtain ⟨wo, rfl⟩ : ∃ wo : World, wo = wr := ⟨_, rfl⟩
      go_loopw [4] (fun i wx => ∃ j : Nat, j ≤ k ∧ i = .int .i64 j ∧ (0 ≤ x → ∀ t, t < j → xs[t]?.getD 0 ≠ x) ∧ Below w.heap.size w wx) (fun i _ => k - (intOf i).toNat)
      case atStart => exact ⟨0, Nat.zero_le _, rfl, fun _ j hj => absurd hj (by omega), hbel⟩
      case round =>
        clear hbel
        obtain ⟨j, hj, rfl, hne, hbel⟩ := hrel
        have HNE := Lib.hid hne
        clear hne
        by_cases hltj : j < k
        · obtain ⟨ad, rfl, hab, hc⟩ := (hr.keep hbel).at_ hltk
          obtain ⟨ad2, e2, hab2, hc2⟩ := (hr.keep hbel).at_ (show j < n by omega)
          obtain rfl : ad = ad2 := by injection e2
          rw [GX.out] at hc
          obtain ⟨z, gz⟩ : ∃ z, xs[j]?.getD 0 = z := ⟨_, rfl⟩
          rw [gz] at hc2
          have GZ := Lib.hid gz
          clear gz e2
          have hji : (j : Int) < (n : Int) := by omega
          have hj0 : (0 : Int) ≤ (j : Int) := Int.natCast_nonneg j
          have habk : (ad.add k).block < wr.heap.size := by rw [block_of_add]; exact hab
          have habj : (ad.add j).block < wr.heap.size := by rw [block_of_add]; exact hab
          by_cases hxz : x = z
          · by_cases hx0 : 0 ≤ x
            · have HQ := Lib.hid (show twiceB xs = true from twice_some (i := k) (by have := HL.out; omega) (by
                unfold twiceAt
                rw [GX.out, Bool.and_eq_true]
                refine ⟨decide_eq_true hx0, ?_⟩
                rw [List.contains_iff_mem]
                have hjl : j < xs.length := by have := HL.out; omega
                have : xs[j]?.getD 0 ∈ xs.take k := by
                  rw [List.getElem?_eq_getElem hjl]
                  simp only [Option.getD_some]
                  have h1 : j < (xs.take k).length := by rw [List.length_take]; omega
                  have h2 : (xs.take k)[j] = xs[j] := by simp
                  rw [← h2]
                  exact List.getElem_mem h1
                rw [GZ.out, ← hxz] at this
                exact this))
              have hd1 : decide (x = z) = true := decide_eq_true hxz
              have hd2 : (x == z) = true := beq_iff_eq.2 hxz
              have hd3 : decide (0 ≤ x) = true := decide_eq_true hx0
              have HXZ := Lib.hid hxz
              clear hxz
              go_wp2_with fail
              go_quiet (fail)
              go_wp2
              go_ret
              exact ⟨ret_bool HQ.out.symm, fr_drewN hbel _⟩
            · have hd1 : decide (x = z) = true := decide_eq_true hxz
              have hd2 : (x == z) = true := beq_iff_eq.2 hxz
              have hd3 : decide (0 ≤ x) = false := decide_eq_false hx0
              have HXZ := Lib.hid hxz
              clear hxz
              go_wp2_with fail
              go_quiet (fail)
              go_wp2
              go_roundw
              case rel => exact ⟨j + 1, by omega, by go_num, fun h => absurd h (by omega), fr_drewN hbel _⟩
              case measure => simp [intOf]; omega
          · have hd1 : decide (x = z) = false := decide_eq_false hxz
            have hd2 : (x == z) = false := beq_eq_false_iff_ne.2 hxz
            have HXZ := Lib.hid hxz
            clear hxz
            go_wp2_with fail
            go_quiet (fail)
            go_wp2
            go_roundw
            case rel =>
              refine ⟨j + 1, by omega, by go_num, fun h0 t ht => ?_, fr_drewN hbel _⟩
              by_cases htj : t = j
              · subst htj; rw [GZ.out]; exact fun e => HXZ.out e.symm
              · exact HNE.out h0 t (by omega)
            case measure => simp [intOf]; omega
        · have hjk : j = k := by omega
          subst hjk
          go_wp2_with fail
          refine ⟨⟨j + 1, hltk, by go_num, fun t ht => ?_, hbel⟩, ?_⟩
          · by_cases htj : t = j
            · subst htj
              unfold twiceAt
              rw [GX.out, Bool.and_eq_false_iff]
              by_cases hx0 : 0 ≤ x
              · right
                rw [Bool.eq_false_iff]
                intro hc
                rw [List.contains_iff_mem] at hc
                obtain ⟨i, hi, he⟩ := List.getElem_of_mem hc
                rw [List.length_take] at hi
                have hix : i < xs.length := by omega
                rw [List.getElem_take] at he
                exact HNE.out hx0 i (by omega) (by rw [List.getElem?_eq_getElem hix]; exact he)
              · left
                exact decide_eq_false (by omega)
            · exact HNO.out t (by omega)
          · simp [intOf]; omega
    · have HQ := Lib.hid (twice_none (xs := xs) (fun i hi => HNO.out i (by have := HL.out; omega)))
      go_wp2_with fail
      go_ret
      exact ⟨ret_bool HQ.out.symm, hbel⟩

set_option maxRecDepth 100000 in
set_option maxHeartbeats 8000000 in
theorem rMeet_any (A L : Option Addr) (n c lc : Nat) (cs : List Int) (e num den add y z : Int) (l : List Feast) (w : World) (hr : Rd w A n cs) (hL : RdS w L 4 (l.map Feast.row)) (hln : l.length ≤ 9223372036854775807) (hok : calOk e cs = true) (hmb : moonB num den add = true) (hl : feastsB l = true) (hyb : rangeB y z = true) :
    Calls Tryz.prog 48 #[.agg #[.int .i64 e, .slice A n c], .agg #[.int .i64 num, .int .i64 den, .int .i64 add], .slice L l.length lc, .int .i64 y, .int .i64 z] w fun e' w' =>
      ∃ B b, e' = .returned (.slice B (meetOf e cs num den add l y (z - y + 1).toNat).length b) ∧ Rd w' B (meetOf e cs num den add l y (z - y + 1).toNat).length (meetOf e cs num den add l y (z - y + 1).toNat) ∧ Below w.heap.size w w' := by
  have hr4 := hyb
  unfold rangeB at hr4
  simp only [Bool.and_eq_true] at hr4
  obtain ⟨⟨hy0, hz0⟩, hyz0⟩ := hr4
  obtain ⟨hy1, hy2⟩ := inB_iff.1 hy0
  obtain ⟨hz1, hz2⟩ := inB_iff.1 hz0
  obtain ⟨hyz1, hyz2⟩ := inB_iff.1 hyz0
  clear hy0 hz0 hyz0
  have g1 := fr_alloc (fr_alloc (fr_refl w) (.cells #[.int .i64 e, .slice A n c] 24)) (.cells #[.int .i64 num, .int .i64 den, .int .i64 add] 63)
  have hC0 : Blk ((w.alloc (.cells #[.int .i64 e, .slice A n c] 24)).alloc (.cells #[.int .i64 num, .int .i64 den, .int .i64 add] 63)) w.heap.size 24 #[.int .i64 e, .slice A n c] := (Blk.new_at _ _ (by simp)).alloc _
  have hM0 : Blk ((w.alloc (.cells #[.int .i64 e, .slice A n c] 24)).alloc (.cells #[.int .i64 num, .int .i64 den, .int .i64 add] 63)) (w.heap.size + 1) 63 #[.int .i64 num, .int .i64 den, .int .i64 add] := Blk.new_at _ _ (by simp)
  obtain ⟨nY, hnY⟩ : ∃ nY : Nat, (z - y + 1).toNat = nY := ⟨_, rfl⟩
  have HN := Lib.hid hnY
  have hYz : y + nY = z + 1 := by omega
  clear hnY
  go_enter Tryz.func48, Tryz.ntmps48
  go_wp2_with fail
  go_loopw [11, 12] (fun v i wx => ∃ k : Nat, k ≤ nY ∧ i = .int .i64 (y + k) ∧ Own wx w.heap.size v (meetOf e cs num den add l y k) ∧ Blk wx w.heap.size 24 #[.int .i64 e, .slice A n c] ∧ Blk wx (w.heap.size + 1) 63 #[.int .i64 num, .int .i64 den, .int .i64 add] ∧ Below w.heap.size w wx) (fun _ i _ => (z + 1 - intOf i).toNat)
  case atStart => exact ⟨0, Nat.zero_le _, by simp, Own.nil _ _, hC0, hM0, g1⟩
  case round =>
    clear hC0 hM0 g1
    obtain ⟨k, hk, rfl, hown, hC, hMo, hbel⟩ := hrel
    obtain ⟨B0, b0, rfl⟩ := hown.form
    by_cases hlt : k < nY
    · have hkz : y + (k : Int) ≤ z := by omega
      have hwk : IntKind.i64.wrap (y + (k : Int) + 1) = y + (k : Int) + 1 := IntWalk.i64_in _ (by omega)
      have hlen := meet_len e num den add y cs l k
      have hCc := fun i => hC.cell i
      have hMc := fun i => hMo.cell i
      have hclt := hC.lt
      have hmlt := hMo.lt
      have hfl : (l.map (feastDay e cs num den add (y + k))).length ≤ 9223372036854775807 := by rw [List.length_map]; exact hln
      have hst : ∀ b, twiceB (l.map (feastDay e cs num den add (y + k))) = b → meetOf e cs num den add l y (k + 1) = if b = true then meetOf e cs num den add l y k ++ [y + k] else meetOf e cs num den add l y k := fun b hb => by
        cases b
        · rw [meet_no hb]; rfl
        · rw [meet_yes hb]; rfl
      obtain ⟨fs, gfs⟩ : ∃ fs, l.map (feastDay e cs num den add (y + k)) = fs := ⟨_, rfl⟩
      rw [gfs] at hfl hst
      have GFS := Lib.hid gfs
      have HST := Lib.hid hst
      clear gfs hst
      have hky1 : 0 ≤ y + (k : Int) := by omega
      have hky2 : y + (k : Int) ≤ 4000 := by omega
      cases htw : twiceB fs
      · have HQ := Lib.hid (HST.out _ htw)
        go_wp2_with fail
        refine (rFeastDays_any A L n c lc cs e num den add (y + k) l _ (hr.keep hbel) (hL.keep hbel) hln hok hmb hl hky1 hky2).mono ?_
        rw [GFS.out]
        rintro e' w1 ⟨BF, bF, rfl, hrF, hb1⟩
        go_wp2_with fail
        refine (rTwice_is BF fs.length bF fs _ hrF hfl _ htw).mono ?_
        rintro e' w2 ⟨rfl, hb2⟩
        go_wp2_with fail
        refine ⟨⟨k + 1, hlt, by first | rfl | (congr 1; push_cast; omega), by rw [HQ.out]; exact (hown.keep hb1).keep hb2, (hC.keep hb1).keep hb2, (hMo.keep hb1).keep hb2, fr_call (fr_call hbel hb1) hb2⟩, ?_⟩
        simp [intOf]; omega
      · have HQ := Lib.hid (HST.out _ htw)
        go_wp2_with fail
        refine (rFeastDays_any A L n c lc cs e num den add (y + k) l _ (hr.keep hbel) (hL.keep hbel) hln hok hmb hl hky1 hky2).mono ?_
        rw [GFS.out]
        rintro e' w1 ⟨BF, bF, rfl, hrF, hb1⟩
        go_wp2_with fail
        refine (rTwice_is BF fs.length bF fs _ hrF hfl _ htw).mono ?_
        rintro e' w2 ⟨rfl, hb2⟩
        have hown2 := (hown.keep hb1).keep hb2
        have hb02 := fr_call (fr_call hbel hb1) hb2
        go_wp2_with (at_builtin; refine app_int rfl (.tmp 25) (.tmp 27) rfl w.heap.size _ (meetOf e cs num den add l y k) rfl rfl hown2 (by omega) hb02.size ?_; intro B2 cap2 wC hown' hg)
        have ha := fr_alloc (fr_refl w2) (.cells #[.int .i64 (y + k)] 3)
        have hge := own_ge hown2
        have hC' := (((hC.keep hb1).keep hb2).keep ha).grown hg (Ne.symm (own_blk_ne hown2 ((hC.keep hb1).keep hb2) (by decide)))
        have hM' := (((hMo.keep hb1).keep hb2).keep ha).grown hg (Ne.symm (own_blk_ne hown2 ((hMo.keep hb1).keep hb2) (by decide)))
        have hfr := (fr_call hb02 ha).grown hg (fr_call hb02 ha).size hge
        refine ⟨⟨k + 1, hlt, by first | rfl | (congr 1; push_cast; omega), by rw [HQ.out]; exact hown', hC', hM', hfr⟩, ?_⟩
        simp [intOf]; omega
    · obtain rfl : k = nY := by omega
      have hkz : ¬ (y + (k : Int) ≤ z) := by omega
      go_wp2_with fail
      go_ret
      rw [HN.out]
      exact ⟨B0, ⟨b0, rfl⟩, hown.rd, hbel⟩
end Go.Proofs.YtnppilaabobgiaaGreatDoor
end
