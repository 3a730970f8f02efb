/- Reference: how many years are left at most with a question. Reference: the best question. -/
import Derived.Test.YtnpgdifidejohaaGreatDoorMC6
import Derived.Test.YtnpgdifidejohaaGreatDoorMC7
import Derived.Test.YtnpgdifidejohaaGreatDoorMD4
import Derived.Test.YtnpgdifidejohaaGreatDoorProg
import Derived.WalkKit
import Derived.WalkSpells
import Derived.WalkLawsBesides
import Derived.LoopTactic
import Derived.Deep.LoopGhost
import Derived.Lib.Hide
import Derived.Deep.Draws
import Derived.Deep.QuietTactic
import Derived.BigQuiet
import Derived.Deep.RegionHeld3
import Derived.OwnWalk
import Derived.Laws.Rows
import Derived.Deep.DeepMust
import Derived.Defers
import Derived.Recover
import Derived.Laws.Pointers
import Derived.Laws.EntriesVeiled
import Derived.Outline
import Derived.Deep.MidRow
import Derived.RangeFuncNested
import Derived.RangeFuncBound
import Derived.OwnWalkIn
import Derived.TacticsInMore
import Derived.LoopIn
import Derived.Shelf.RegionOpen
import Derived.Sort.CutIn
import Derived.Deep.Cut
import Derived.Maps.OwnOps
import Derived.Maps.OwnSet
import Derived.IntWalk
import Derived.Lib.LaidTab
import Derived.Lib.ItoaNum
import Derived.Sort.Grow
import Derived.Test.YtnpgdifidejohaaGreatDoorMC5
import Derived.Test.YtnpgdifidejohaaGreatDoorMB1
section
namespace Go.Proofs.YtnpgdifidejohaaGreatDoor
open Go.RowKit Dl

def mAll (xs : List Int) : Nat → Int
  | 0 => 0
  | k + 1 => max (mAll xs k) ((xs.count (xs[k]?.getD 0) : Nat) : Int)
theorem mostPre_count (xs : List Int) : ∀ k, k ≤ xs.length → ∀ x, (((xs.take k).count x : Nat) : Int) ≤ mostPre xs k := by
  intro k
  induction k with
  | zero => intro _ x; simp [mostPre]
  | succ k ih =>
    intro hk x
    have h1 := ih (by omega) x
    have hs := take_snoc' xs k (by omega)
    simp only [mostPre]
    by_cases hx : xs[k]?.getD 0 = x
    · rw [hx]; omega
    · have : (xs.take (k + 1)).count x = (xs.take k).count x := by
        rw [hs, List.count_append]; simp [hx]
      rw [this]; omega
theorem mostPre_all (xs : List Int) : mostPre xs xs.length = mAll xs xs.length := by
  have h1 : ∀ k, k ≤ xs.length → mostPre xs k ≤ mAll xs k := by
    intro k
    induction k with
    | zero => intro _; exact Int.le_refl _
    | succ k ih =>
      intro hk
      have := ih (by omega)
      have hc : (xs.take (k + 1)).count (xs[k]?.getD 0) ≤ xs.count (xs[k]?.getD 0) := (List.take_sublist (k + 1) xs).count_le _
      simp only [mostPre, mAll]
      omega
  have h2 : ∀ k, mAll xs k ≤ mostPre xs xs.length := by
    intro k
    induction k with
    | zero => simp only [mAll]; exact (mostPre_bounds xs xs.length).1
    | succ k ih =>
      have := mostPre_count xs xs.length (Nat.le_refl _) (xs[k]?.getD 0)
      rw [List.take_of_length_le (Nat.le_refl _)] at this
      simp only [mAll]
      omega
  have a := h1 xs.length (Nat.le_refl _)
  have b := h2 xs.length
  omega
theorem mAll_bounds (xs : List Int) : ∀ k, 0 ≤ mAll xs k ∧ mAll xs k ≤ xs.length := by
  intro k
  induction k with
  | zero => simp [mAll]
  | succ k ih =>
    have := List.count_le_length (a := xs[k]?.getD 0) (l := xs)
    simp only [mAll]
    omega
theorem count_snoc (xs : List Int) (k : Nat) (hk : k < xs.length) (x : Int) : (xs.take (k + 1)).count x = (xs.take k).count x + if xs[k]?.getD 0 = x then 1 else 0 := by
  rw [take_snoc' xs k hk, List.count_append]
  by_cases h : xs[k]?.getD 0 = x <;> simp [h]

theorem Blk.keepB {w w' : World} {g N : Nat} {t : TypeId} {cs : Array Value} (h : Blk w g t cs) (hb : Below N w w') (hg : g < N) : Blk w' g t cs := (hb.block g hg).trans h

set_option maxRecDepth 100000 in
set_option maxHeartbeats 8000000 in
theorem rLeft_any (A Y : Option Addr) (n c ny yc : Nat) (cs ys : List Int) (e num den add k m d v : Int) (w : World) (hr : Rd w A n cs) (hok : calOk e cs = true) (hm : MoonOk num den add) (hk : k = 1 ∨ k = 2 ∨ k = 3 ∨ k = 4 ∨ k = 5) (hY : Rd w Y ny ys) (hny : ny ≤ 100000) (hyr : ∀ y ∈ ys, 0 ≤ y ∧ y ≤ 4000) :
    Calls Tryz.prog 100 #[.agg #[.int .i64 e, .slice A n c], .agg #[.int .i64 num, .int .i64 den, .int .i64 add], .agg #[.int .i64 k, .int .i64 m, .int .i64 d, .int .i64 v], .slice Y ny yc] w fun e' w' =>
      e' = .returned (.int .i64 (leftOf e cs num den add ys ⟨k, m, d, v⟩)) ∧ Below w.heap.size w w' := by
  have g1 := fr_alloc (fr_alloc (fr_alloc (fr_refl w) (.cells #[.int .i64 e, .slice A n c] 24)) (.cells #[.int .i64 num, .int .i64 den, .int .i64 add] 65)) (.cells #[.int .i64 k, .int .i64 m, .int .i64 d, .int .i64 v] 77)
  have hC0 : Blk (((w.alloc (.cells #[.int .i64 e, .slice A n c] 24)).alloc (.cells #[.int .i64 num, .int .i64 den, .int .i64 add] 65)).alloc (.cells #[.int .i64 k, .int .i64 m, .int .i64 d, .int .i64 v] 77)) w.heap.size 24 #[.int .i64 e, .slice A n c] := ((Blk.new_at _ _ (by simp)).alloc _).alloc _
  have hM0 : Blk (((w.alloc (.cells #[.int .i64 e, .slice A n c] 24)).alloc (.cells #[.int .i64 num, .int .i64 den, .int .i64 add] 65)).alloc (.cells #[.int .i64 k, .int .i64 m, .int .i64 d, .int .i64 v] 77)) (w.heap.size + 1) 65 #[.int .i64 num, .int .i64 den, .int .i64 add] := (Blk.new_at _ _ (by simp)).alloc _
  have hF0 : Blk (((w.alloc (.cells #[.int .i64 e, .slice A n c] 24)).alloc (.cells #[.int .i64 num, .int .i64 den, .int .i64 add] 65)).alloc (.cells #[.int .i64 k, .int .i64 m, .int .i64 d, .int .i64 v] 77)) (w.heap.size + 1 + 1) 77 #[.int .i64 k, .int .i64 m, .int .i64 d, .int .i64 v] := Blk.new_at _ _ (by simp)
  have HK := Lib.hid hk
  have hyl := hY.len
  have HLF := Lib.hid (show leftOf e cs num den add ys ⟨k, m, d, v⟩ = mAll (ys.map (fun y => ansOf e cs num den add y ⟨k, m, d, v⟩)) ny by
    unfold leftOf
    have := mostPre_all (ys.map (fun y => ansOf e cs num den add y ⟨k, m, d, v⟩))
    rw [List.length_map] at this
    rw [this, hyl])
  obtain ⟨xs, hxs⟩ : ∃ xs : List Int, ys.map (fun y => ansOf e cs num den add y ⟨k, m, d, v⟩) = xs := ⟨_, rfl⟩
  have hxl : xs.length = ny := by rw [← hxs, List.length_map, hyl]
  have HXS := Lib.hid hxs
  have HXL := Lib.hid hxl
  have HYL := Lib.hid hyl
  rw [hxs] at HLF
  clear hxs hxl hk hyl
  go_enter Tryz.func100, Tryz.ntmps100
  go_wp2_with fail
  go_loopw [9, 10] (fun v' i wx => ∃ j : Nat, j ≤ ny ∧ i = .int .i64 j ∧ Own wx (w.heap.size + 1 + 1 + 1) v' (xs.take j) ∧ Blk wx w.heap.size 24 #[.int .i64 e, .slice A n c] ∧ Blk wx (w.heap.size + 1) 65 #[.int .i64 num, .int .i64 den, .int .i64 add] ∧ Blk wx (w.heap.size + 1 + 1) 77 #[.int .i64 k, .int .i64 m, .int .i64 d, .int .i64 v] ∧ Below w.heap.size w wx) (fun _ i _ => ny - (intOf i).toNat)
  case atStart => exact ⟨0, Nat.zero_le _, rfl, Own.nil _ _, hC0, hM0, hF0, g1⟩
  case round =>
    clear hC0 hM0 hF0 g1
    obtain ⟨j, hj, rfl, hown, hC, hMo, hF, hbel⟩ := hrel
    by_cases hltj : j < ny
    · obtain ⟨B0, b0, rfl⟩ := hown.form
      have hjl : j < ys.length := by have := HYL.out; omega
      obtain ⟨ad, rfl, hab, hc⟩ := (hY.keep hbel).at_ hltj
      have hab2 : (ad.add j).block < wr.heap.size := by rw [block_of_add]; exact hab
      have hyj : ys[j]?.getD 0 = ys[j] := by simp [hjl]
      rw [hyj] at hc
      have hya := hyr ys[j] (List.getElem_mem hjl)
      have hst : xs.take (j + 1) = xs.take j ++ [ansOf e cs num den add ys[j] ⟨k, m, d, v⟩] := by
        rw [take_snoc' xs j (by rw [HXL.out]; exact hltj)]
        rw [← HXS.out]; simp [hjl]
      have htl : (xs.take j).length ≤ 100000 := by rw [List.length_take]; omega
      generalize xs.take j = zs at *
      have HST := Lib.hid hst
      clear hst hyj
      generalize ys[j] = yj at *
      have hCc := fun i => hC.cell i
      have hMc := fun i => hMo.cell i
      have hFc := fun i => hF.cell i
      have hclt := hC.lt
      have hmlt := hMo.lt
      have hflt := hF.lt
      have hrr := hr.keep hbel
      have hj0 : (0 : Int) ≤ (j : Int) := Int.natCast_nonneg j
      have hji : (j : Int) < (ny : Int) := by omega
      have hadw : ad.block < w.heap.size := by
        obtain ⟨ad', e1, h1, _⟩ := hY.2 (by omega)
        cases e1; exact h1
      have hadk : (ad.add j).block = ad.block := block_of_add _ _
      have hab3 : (ad.add j).block < w.heap.size + 1 + 1 + 1 := by omega
      clear hadk
      go_wp2_with fail
      refine wp_region_noPanic ?_
      refine wp_region_held_drew (S := fun W => (∀ p : Addr, p.block < w.heap.size + 1 + 1 + 1 → W.cell? p = (wr).cell? p) ∧ Below (w.heap.size + 1 + 1 + 1) (wr) W) (by kernel_rfl) ⟨fun _ _ => rfl, (fr_drew (fr_refl _)).mono (by omega)⟩ (fun hHeld => ?_)
      have hown := hown.keep (fr_drew (fr_refl wr))
      have hN : w.heap.size + 1 + 1 + 1 ≤ wr.heap.size := by omega
      -- the region, step by step
      refine wpAnyH_take (i := 0) (oi := ⟨some 21, .move (.tmp 9), 22, "ref.go:460", #[], none⟩) (v := ?_) rfl (by kernel_rfl) (by kernel_rfl) (by kernel_rfl) (fun _ _ _ h => h) (Or.inl ⟨by rfl, fun W hSw => ?_⟩) hHeld ?_
      rotate_left
      · (try dsimp only at hSw); go_simp; (try with_reducible rfl)
      (try simp only [Act.put, List.setIfInBounds_toArray, List.set_cons_zero, List.set_cons_succ])
      refine wpAnyH_take (i := 1) (oi := ⟨some 22, .load 24 (.tmp 4), 24, "ref.go:460", #[], none⟩) (v := ?_) rfl (by kernel_rfl) (by kernel_rfl) (by kernel_rfl) (fun _ _ _ h => h) (Or.inl ⟨by rfl, fun W hSw => ?_⟩) hHeld ?_
      rotate_left
      · (try dsimp only at hSw); go_simp; (try with_reducible rfl)
      (try simp only [Act.put, List.setIfInBounds_toArray, List.set_cons_zero, List.set_cons_succ])
      refine wpAnyH_take (i := 2) (oi := ⟨some 23, .load 65 (.tmp 5), 65, "ref.go:460", #[], none⟩) (v := ?_) rfl (by kernel_rfl) (by kernel_rfl) (by kernel_rfl) (fun _ _ _ h => h) (Or.inl ⟨by rfl, fun W hSw => ?_⟩) hHeld ?_
      rotate_left
      · (try dsimp only at hSw); go_simp; (try with_reducible rfl)
      (try simp only [Act.put, List.setIfInBounds_toArray, List.set_cons_zero, List.set_cons_succ])
      refine wpAnyH_take (i := 3) (oi := ⟨some 24, .load 77 (.tmp 6), 77, "ref.go:460", #[], none⟩) (v := ?_) rfl (by kernel_rfl) (by kernel_rfl) (by kernel_rfl) (fun _ _ _ h => h) (Or.inl ⟨by rfl, fun W hSw => ?_⟩) hHeld ?_
      rotate_left
      · (try dsimp only at hSw); go_simp; (try with_reducible rfl)
      (try simp only [Act.put, List.setIfInBounds_toArray, List.set_cons_zero, List.set_cons_succ])
      refine wpAnyH_take (i := 4) (oi := ⟨some 25, .move (.tmp 3), 22, "ref.go:460", #[], none⟩) (v := ?_) rfl (by kernel_rfl) (by kernel_rfl) (by kernel_rfl) (fun _ _ _ h => h) (Or.inl ⟨by rfl, fun W hSw => ?_⟩) hHeld ?_
      rotate_left
      · (try dsimp only at hSw); go_simp; (try with_reducible rfl)
      (try simp only [Act.put, List.setIfInBounds_toArray, List.set_cons_zero, List.set_cons_succ])
      refine wpAnyH_take (i := 5) (oi := ⟨some 26, .move (.tmp 10), 3, "ref.go:460", #[], none⟩) (v := ?_) rfl (by kernel_rfl) (by kernel_rfl) (by kernel_rfl) (fun _ _ _ h => h) (Or.inl ⟨by rfl, fun W hSw => ?_⟩) hHeld ?_
      rotate_left
      · (try dsimp only at hSw); go_simp; (try with_reducible rfl)
      (try simp only [Act.put, List.setIfInBounds_toArray, List.set_cons_zero, List.set_cons_succ])
      refine wpAnyH_take (i := 6) (oi := ⟨some 27, .indexAddr 22 (.tmp 25) (.tmp 26), 0, "ref.go:460", #[⟨4, .data⟩, ⟨5, .data⟩], none⟩) (v := ?_) rfl (by kernel_rfl) (by kernel_rfl) (by kernel_rfl) (fun _ _ _ h => h) (Or.inl ⟨by rfl, fun W hSw => ?_⟩) hHeld ?_
      rotate_left
      · (try dsimp only at hSw); go_simp; (try with_reducible rfl)
      (try simp only [Act.put, List.setIfInBounds_toArray, List.set_cons_zero, List.set_cons_succ])
      refine wpAnyH_take (i := 7) (oi := ⟨some 28, .load 3 (.tmp 27), 3, "ref.go:460", #[⟨6, .data⟩], none⟩) (v := ?_) rfl (by kernel_rfl) (by kernel_rfl) (by kernel_rfl) (fun _ _ _ h => h) (Or.inl ⟨by rfl, fun W hSw => ?_⟩) hHeld ?_
      rotate_left
      · (try dsimp only at hSw); go_simp; (try with_reducible rfl)
      (try simp only [Act.put, List.setIfInBounds_toArray, List.set_cons_zero, List.set_cons_succ])
      refine wpAnyH_ready (rs := [8]) (by kernel_rfl) (by simp) ?_
      refine AllReadyH.cons (o := ⟨some 29, .call { callee := .value (.func 119), args := #[.tmp 22, .tmp 23, .tmp 24, .tmp 28], argTypes := #[24, 65, 77, 3] }, 3, "ref.go:460", #[⟨1, .data⟩, ⟨2, .data⟩, ⟨3, .data⟩, ⟨7, .data⟩], none⟩) rfl (fun K hK => ?_) AllReadyH.nil
      go_simp
      refine (rAnswer_any A n c cs e num den add yj k m d v _ (hr.keep (hbel.trans (hHeld.2.mono (by omega)))) hok hm hya.1 hya.2 HK.out).mono ?_
      rintro e' wA ⟨rfl, hb⟩
      replace hown := hown.keep hb
      refine hK.out _ _ (kpn_step hb hHeld hN) (fun hHeld => ?_)
      clear hK K
      (try simp only [Act.put, List.setIfInBounds_toArray, List.set_cons_zero, List.set_cons_succ])
      refine wpAnyH_ready (rs := [9]) (by kernel_rfl) (by simp) ?_
      refine AllReadyH.cons (o := ⟨some 30, .buildSlice 22 1 #[(0, .tmp 29)], 22, "ref.go:460", #[⟨8, .data⟩], none⟩) rfl (fun K hK => ?_) AllReadyH.nil
      rw [if_pos (by rfl)]
      refine wp_build1 rfl rfl ?_
      intro gA WA hOA hbA hgA
      replace hown := hown.keep hbA
      refine hK.out _ _ (kpn_step hbA hHeld hN) (fun hHeld => ?_)
      clear hK K
      (try simp only [Act.put, List.setIfInBounds_toArray, List.set_cons_zero, List.set_cons_succ])
      refine wpAnyH_ready (rs := [10]) (by kernel_rfl) (by simp) ?_
      refine AllReadyH.cons (o := ⟨some 31, .call { callee := .builtin .append, args := #[.tmp 21, .tmp 30], argTypes := #[22, 22] }, 22, "ref.go:460", #[⟨0, .data⟩, ⟨9, .data⟩, ⟨8, .chain⟩], none⟩) rfl (fun K hK => ?_) AllReadyH.nil
      rw [if_pos (by rfl)]
      refine wp_app_slice _ _ rfl (w.heap.size + 1 + 1 + 1) _ zs rfl hown (some ⟨gA, 0, none⟩) 1 1 [_] rfl (rd_of_blk (xs := [_]) hOA) (by omega) (by omega) (by omega) (Nat.le_trans hN hHeld.2.size) ?_
      intro A' c' WP hOP hgP
      have hbP : Below (w.heap.size + 1 + 1 + 1) wr WP := hHeld.2.grown hgP (Nat.le_trans hN hHeld.2.size) (own_ge hown)
      refine hK.out _ _ (kp_of hbP) (fun hHeld => ?_)
      clear hK K
      (try simp only [Act.put, List.setIfInBounds_toArray, List.set_cons_zero, List.set_cons_succ])
      refine wpAnyH_take (i := 11) (oi := ⟨some 9, .assign (.tmp 31), 22, "ref.go:460", #[⟨10, .data⟩, ⟨10, .chain⟩, ⟨0, .phase⟩, ⟨1, .phase⟩, ⟨2, .phase⟩, ⟨3, .phase⟩, ⟨4, .phase⟩, ⟨5, .phase⟩, ⟨6, .phase⟩, ⟨7, .phase⟩, ⟨8, .phase⟩, ⟨9, .phase⟩, ⟨10, .phase⟩], none⟩) (v := ?_) rfl (by kernel_rfl) (by kernel_rfl) (by kernel_rfl) (fun _ _ _ h => h) (Or.inl ⟨by rfl, fun W hSw => ?_⟩) hHeld ?_
      rotate_left
      · (try dsimp only at hSw); go_simp; (try with_reducible rfl)
      (try simp only [Act.put, List.setIfInBounds_toArray, List.set_cons_zero, List.set_cons_succ])
      refine wpAnyH_done (by kernel_rfl) ?_ _
      refine NoPanic.normal ?_
      go_wp2_with fail
      refine ⟨⟨j + 1, hltj, by go_num, by rw [HST.out]; exact hOP, hC.keepB hbP (by omega), hMo.keepB hbP (by omega), hF.keepB hbP (by omega), hbel.trans (hbP.mono (by omega))⟩, ?_⟩
      simp [intOf]; omega
    · obtain rfl : j = ny := by omega
      obtain ⟨B0, b0, hv⟩ := hown.form
      rw [List.take_of_length_le (by have := HXL.out; omega), HXL.out] at hv
      rw [List.take_of_length_le (by have := HXL.out; omega)] at hown
      subst hv
      have hX := hown.rd
      clear hown hC hMo hF
      go_wp2_with fail
      obtain ⟨wo, rfl⟩ : ∃ wo : World, wo = wr := ⟨_, rfl⟩
      go_loopw [11, 12] (fun mo i wx => ∃ j2 : Nat, j2 ≤ j ∧ i = .int .i64 j2 ∧ mo = .int .i64 (mAll xs j2) ∧ Below wo.heap.size wo wx) (fun _ i _ => j - (intOf i).toNat)
      case atStart => exact ⟨0, Nat.zero_le _, rfl, rfl, fr_refl _⟩
      case round =>
        obtain ⟨j2, hj2, rfl, rfl, hb2⟩ := hrel
        by_cases hlt2 : j2 < j
        · have hst2 : mAll xs (j2 + 1) = max (mAll xs j2) ((xs.count (xs[j2]?.getD 0) : Nat) : Int) := rfl
          have hmb := mAll_bounds xs j2
          rw [HXL.out] at hmb
          obtain ⟨hmb1, hmb2⟩ := hmb
          have hXj := fun w1 (hb : Below wo.heap.size wo w1) => (hX.keep hb).at_ hlt2
          obtain ⟨x2, hx2⟩ : ∃ x2, xs[j2]?.getD 0 = x2 := ⟨_, rfl⟩
          rw [hx2] at hst2 hXj
          have HST2 := Lib.hid hst2
          clear hst2 hx2
          have HXJ := Lib.hid hXj
          clear hXj
          go_wp2_with fail
          obtain ⟨wq, rfl⟩ : ∃ wq : World, wq = wr := ⟨_, rfl⟩
          go_loopw [13, 14] (fun n i wx => ∃ j3 : Nat, j3 ≤ j ∧ i = .int .i64 j3 ∧ n = .int .i64 (((xs.take j3).count x2 : Nat) : Int) ∧ Below wo.heap.size wo wx) (fun _ i _ => j - (intOf i).toNat)
          case atStart => exact ⟨0, Nat.zero_le _, rfl, rfl, hb2⟩
          case round =>
            obtain ⟨j3, hj3, rfl, rfl, hb3⟩ := hrel
            have hcb : (xs.take j3).count x2 ≤ j3 := Nat.le_trans List.count_le_length (List.length_take_le _ _)
            by_cases hlt3 : j3 < j
            · have HC := Lib.hid (count_snoc xs j3 (by rw [HXL.out]; exact hlt3) x2)
              obtain ⟨ad2, rfl, hab2, hc2⟩ := HXJ.out _ hb3
              obtain ⟨ad3, had, hab3, hc3⟩ := (hX.keep hb3).at_ hlt3
              cases had
              have hlt' : (j3 : Int) < (j : Int) := by omega
              have hlt2' : (j2 : Int) < (j : Int) := by omega
              have hp3 : (0 : Int) ≤ (j3 : Int) := by omega
              have hp2 : (0 : Int) ≤ (j2 : Int) := by omega
              obtain ⟨x3, hx3⟩ : ∃ x3, xs[j3]?.getD 0 = x3 := ⟨_, rfl⟩
              rw [hx3] at HC hc3
              clear hx3
              generalize (xs.take j3).count x2 = ct at *
              by_cases hxx : x3 = x2
              · have hdx : decide (x3 = x2) = true := decide_eq_true hxx
                have HC2 := Lib.hid (show (xs.take (j3 + 1)).count x2 = ct + 1 by rw [HC.out, if_pos hxx])
                subst hxx
                go_wp2_with fail
                go_quiet (fail)
                go_wp2
                refine ⟨⟨j3 + 1, hlt3, by go_num, by rw [HC2.out]; go_num, fr_drewN hb3 _⟩, ?_⟩
                simp [intOf]; omega
              · have hdx : decide (x3 = x2) = false := decide_eq_false hxx
                have HC2 := Lib.hid (show (xs.take (j3 + 1)).count x2 = ct by rw [HC.out, if_neg hxx]; rfl)
                go_wp2_with fail
                go_quiet (fail)
                go_wp2
                refine ⟨⟨j3 + 1, hlt3, by go_num, by rw [HC2.out], fr_drewN hb3 _⟩, ?_⟩
                simp [intOf]; omega
            · obtain rfl : j3 = j := by omega
              have hct : (xs.take j3).count x2 = xs.count x2 := by rw [List.take_of_length_le (by have := HXL.out; omega)]
              rw [hct] at hcb
              have HCT := Lib.hid hct
              clear hct
              go_wp2_with fail
              refine ⟨⟨j2 + 1, hlt2, by go_num, by rw [HST2.out, HCT.out], hb3⟩, ?_⟩
              simp [intOf]; omega
        · obtain rfl : j2 = j := by omega
          go_wp2_with fail
          go_ret
          exact ⟨ret_int HLF.out.symm, hbel.trans (hb2.mono hbel.size)⟩
end Go.Proofs.YtnpgdifidejohaaGreatDoor
end

section
namespace Go.Proofs.YtnpgdifidejohaaGreatDoor
open Go.RowKit Dl

def AskRel (f : Nat → Int) (k : Nat) (b l : Value) : Prop := (k = 0 ∧ b = .int .i64 0 ∧ l = .int .i64 0) ∨ (0 < k ∧ b = .int .i64 ((bestN f k).1 : Int) ∧ l = .int .i64 (bestN f k).2)
theorem best_fst (f : Nat → Int) : ∀ k, 0 < k → (bestN f k).1 < k := by
  intro k
  induction k with
  | zero => intro h; omega
  | succ k ih =>
    intro _
    simp only [bestN]
    split
    · simp
    · cases k with
      | zero => simp [bestN]
      | succ k => have := ih (by omega); omega

set_option maxRecDepth 100000 in
set_option maxHeartbeats 8000000 in
theorem rAsk_any (A Y Q : Option Addr) (n c ny yc qc : Nat) (cs ys : List Int) (e num den add : Int) (q : List Fact) (w : World) (hr : Rd w A n cs) (hok : calOk e cs = true) (hm : MoonOk num den add) (hQ : RdS w Q 4 (q.map Fact.row)) (hqn : q.length ≤ 9223372036854775807) (hq : asksB q = true) (hY : Rd w Y ny ys) (hny : ny ≤ 100000) (hyr : ∀ y ∈ ys, 0 ≤ y ∧ y ≤ 4000) :
    Calls Tryz.prog 49 #[.agg #[.int .i64 e, .slice A n c], .agg #[.int .i64 num, .int .i64 den, .int .i64 add], .slice Q q.length qc, .slice Y ny yc] w fun e' w' =>
      e' = .returned (.tuple #[.int .i64 ((bestN (fun i => leftOf e cs num den add ys (q[i]?.getD ⟨0, 0, 0, 0⟩)) q.length).1 : Int), .int .i64 (bestN (fun i => leftOf e cs num den add ys (q[i]?.getD ⟨0, 0, 0, 0⟩)) q.length).2]) ∧ Below w.heap.size w w' := by
  have hkinds := asks_kinds hq
  have hq6 : 1 ≤ q.length := by
    have h6 := hq
    unfold asksB at h6
    simp only [Bool.and_eq_true] at h6
    have := inB_iff.1 h6.1
    omega
  have g1 := fr_alloc (fr_alloc (fr_refl w) (.cells #[.int .i64 e, .slice A n c] 24)) (.cells #[.int .i64 num, .int .i64 den, .int .i64 add] 65)
  have hC0 : Blk ((w.alloc (.cells #[.int .i64 e, .slice A n c] 24)).alloc (.cells #[.int .i64 num, .int .i64 den, .int .i64 add] 65)) w.heap.size 24 #[.int .i64 e, .slice A n c] := (Blk.new_at _ _ (by simp)).alloc _
  have hM0 : Blk ((w.alloc (.cells #[.int .i64 e, .slice A n c] 24)).alloc (.cells #[.int .i64 num, .int .i64 den, .int .i64 add] 65)) (w.heap.size + 1) 65 #[.int .i64 num, .int .i64 den, .int .i64 add] := Blk.new_at _ _ (by simp)
  obtain ⟨lf, hlf⟩ : ∃ lf : Nat → Int, (fun i => leftOf e cs num den add ys (q[i]?.getD ⟨0, 0, 0, 0⟩)) = lf := ⟨_, rfl⟩
  have HLF := Lib.hid hlf
  clear hlf
  go_enter Tryz.func49, Tryz.ntmps49
  go_wp2_with fail
  generalize hnq : q.length = nq at *
  have HNQ := Lib.hid hnq
  clear hnq
  go_loopw [10, 11, 12] (fun b l i wx => ∃ k : Nat, k ≤ nq ∧ i = .int .i64 k ∧ AskRel lf k b l ∧ Blk wx w.heap.size 24 #[.int .i64 e, .slice A n c] ∧ Blk wx (w.heap.size + 1) 65 #[.int .i64 num, .int .i64 den, .int .i64 add] ∧ Below w.heap.size w wx) (fun _ _ i _ => nq - (intOf i).toNat)
  case atStart => exact ⟨0, Nat.zero_le _, rfl, Or.inl ⟨rfl, rfl, rfl⟩, hC0, hM0, g1⟩
  case round =>
    clear hC0 hM0 g1
    obtain ⟨k, hk, rfl, hab, hC, hMo, hbel⟩ := hrel
    by_cases hlt : k < nq
    · have hkl : k < q.length := by have := HNQ.out; omega
      have hrow : (q.map Fact.row)[k]? = some (q[k].row) := by simp [hkl]
      obtain ⟨ad, rfl, had, _, hc⟩ := (hQ.keep hbel).at_ hrow
      have hqa : ∀ i, ad.add (k * 4 + (i + 1)) = (ad.add (k * 4)).add (i + 1) := fun i => by
        unfold Addr.add; by_cases h0 : k * 4 = 0 <;> simp [h0, Nat.add_assoc]
      have hab2 : (ad.add (k * 4)).block < wr.heap.size := by rw [block_of_add]; exact had
      have hc0 : wr.cell? (ad.add (k * 4)) = some (.int .i64 q[k].k) := hc 0 _ rfl
      have hc1 : wr.cell? ⟨(ad.add (k * 4)).block, (ad.add (k * 4)).off + 1, none⟩ = some (.int .i64 q[k].m) := (congrArg wr.cell? (hqa 0)).symm.trans (hc 1 _ rfl)
      have hc2 : wr.cell? ⟨(ad.add (k * 4)).block, (ad.add (k * 4)).off + 2, none⟩ = some (.int .i64 q[k].d) := (congrArg wr.cell? (hqa 1)).symm.trans (hc 2 _ rfl)
      have hc3 : wr.cell? ⟨(ad.add (k * 4)).block, (ad.add (k * 4)).off + 3, none⟩ = some (.int .i64 q[k].v) := (congrArg wr.cell? (hqa 2)).symm.trans (hc 3 _ rfl)
      have hkk := hkinds q[k] (List.getElem_mem hkl)
      have hlk : lf k = leftOf e cs num den add ys q[k] := by rw [← HLF.out]; simp [hkl]
      have HLK := Lib.hid hlk
      clear hc hrow hqa hlk
      generalize q[k] = fj at *
      obtain ⟨fk, fm, fd, fv⟩ := fj
      simp only at hc0 hc1 hc2 hc3 hkk
      have HK := Lib.hid (show fk = 1 ∨ fk = 2 ∨ fk = 3 ∨ fk = 4 ∨ fk = 5 by omega)
      clear hkk
      have hCc := fun i => hC.cell i
      have hMc := fun i => hMo.cell i
      have hclt := hC.lt
      have hmlt := hMo.lt
      have hrr := hr.keep hbel
      have hYr := hY.keep hbel
      have hj0 : (0 : Int) ≤ (k : Int) := Int.natCast_nonneg k
      have hji : (k : Int) < (nq : Int) := by omega
      have HB1 := Lib.hid (show bestN lf (k + 1) = if lf k < (bestN lf k).2 then (k, lf k) else bestN lf k from rfl)
      have HBF := Lib.hid (best_fst lf k)
      rcases hab with ⟨hk0, rfl, rfl⟩ | ⟨hk0, rfl, rfl⟩
      · have hkb : ((k : Int) == 0) = true := by rw [hk0]; rfl
        have HK0 := Lib.hid (show (bestN lf (k + 1)).1 = k ∧ (bestN lf (k + 1)).2 = lf k by rw [hk0]; simp [bestN])
        clear hk0
        generalize lf k = lk at *
        go_wp2_with fail
        refine wp_region_noPanic ?_
        refine wp_region_held_drew (S := fun W => (∀ p : Addr, p.block < (wr).heap.size → W.cell? p = (wr).cell? p) ∧ Below (wr).heap.size (wr) W) (by kernel_rfl) ⟨fun _ _ => rfl, fr_drew (fr_refl _)⟩ (fun hHeld => ?_)
        -- the region, step by step
        refine wpAnyH_take (i := 0) (oi := ⟨some 20, .load 24 (.tmp 4), 24, "ref.go:479", #[], none⟩) (v := ?_) rfl (by kernel_rfl) (by kernel_rfl) (by kernel_rfl) (fun _ _ _ h => h) (Or.inl ⟨by rfl, fun W hSw => ?_⟩) hHeld ?_
        rotate_left
        · (try dsimp only at hSw); go_simp; (try with_reducible rfl)
        (try simp only [Act.put, List.setIfInBounds_toArray, List.set_cons_zero, List.set_cons_succ])
        refine wpAnyH_take (i := 1) (oi := ⟨some 21, .load 65 (.tmp 5), 65, "ref.go:479", #[], none⟩) (v := ?_) rfl (by kernel_rfl) (by kernel_rfl) (by kernel_rfl) (fun _ _ _ h => h) (Or.inl ⟨by rfl, fun W hSw => ?_⟩) hHeld ?_
        rotate_left
        · (try dsimp only at hSw); go_simp; (try with_reducible rfl)
        (try simp only [Act.put, List.setIfInBounds_toArray, List.set_cons_zero, List.set_cons_succ])
        refine wpAnyH_take (i := 2) (oi := ⟨some 22, .move (.tmp 2), 66, "ref.go:479", #[], none⟩) (v := ?_) rfl (by kernel_rfl) (by kernel_rfl) (by kernel_rfl) (fun _ _ _ h => h) (Or.inl ⟨by rfl, fun W hSw => ?_⟩) hHeld ?_
        rotate_left
        · (try dsimp only at hSw); go_simp; (try with_reducible rfl)
        (try simp only [Act.put, List.setIfInBounds_toArray, List.set_cons_zero, List.set_cons_succ])
        refine wpAnyH_take (i := 3) (oi := ⟨some 23, .move (.tmp 12), 3, "ref.go:479", #[], none⟩) (v := ?_) rfl (by kernel_rfl) (by kernel_rfl) (by kernel_rfl) (fun _ _ _ h => h) (Or.inl ⟨by rfl, fun W hSw => ?_⟩) hHeld ?_
        rotate_left
        · (try dsimp only at hSw); go_simp; (try with_reducible rfl)
        (try simp only [Act.put, List.setIfInBounds_toArray, List.set_cons_zero, List.set_cons_succ])
        refine wpAnyH_take (i := 4) (oi := ⟨some 24, .indexAddr 66 (.tmp 22) (.tmp 23), 0, "ref.go:479", #[⟨2, .data⟩, ⟨3, .data⟩], none⟩) (v := ?_) rfl (by kernel_rfl) (by kernel_rfl) (by kernel_rfl) (fun _ _ _ h => h) (Or.inl ⟨by rfl, fun W hSw => ?_⟩) hHeld ?_
        rotate_left
        · (try dsimp only at hSw); go_simp; (try with_reducible rfl)
        (try simp only [Act.put, List.setIfInBounds_toArray, List.set_cons_zero, List.set_cons_succ])
        refine wpAnyH_take (i := 5) (oi := ⟨some 25, .load 77 (.tmp 24), 77, "ref.go:479", #[⟨4, .data⟩], none⟩) (v := ?_) rfl (by kernel_rfl) (by kernel_rfl) (by kernel_rfl) (fun _ _ _ h => h) (Or.inl ⟨by rfl, fun W hSw => ?_⟩) hHeld ?_
        rotate_left
        · (try dsimp only at hSw); go_simp; (try with_reducible rfl)
        (try simp only [Act.put, List.setIfInBounds_toArray, List.set_cons_zero, List.set_cons_succ])
        refine wpAnyH_take (i := 6) (oi := ⟨some 26, .move (.tmp 3), 22, "ref.go:479", #[], none⟩) (v := ?_) rfl (by kernel_rfl) (by kernel_rfl) (by kernel_rfl) (fun _ _ _ h => h) (Or.inl ⟨by rfl, fun W hSw => ?_⟩) hHeld ?_
        rotate_left
        · (try dsimp only at hSw); go_simp; (try with_reducible rfl)
        (try simp only [Act.put, List.setIfInBounds_toArray, List.set_cons_zero, List.set_cons_succ])
        refine wpAnyH_ready (rs := [7]) (by kernel_rfl) (by simp) ?_
        refine AllReadyH.cons (o := ⟨some 27, .call { callee := .value (.func 100), args := #[.tmp 20, .tmp 21, .tmp 25, .tmp 26], argTypes := #[24, 65, 77, 22] }, 3, "ref.go:479", #[⟨0, .data⟩, ⟨1, .data⟩, ⟨5, .data⟩, ⟨6, .data⟩], none⟩) rfl (fun K hK => ?_) AllReadyH.nil
        go_simp
        refine (rLeft_any A Y n c ny yc cs ys e num den add fk fm fd fv _ (hrr.keep hHeld.2) hok hm HK.out (hYr.keep hHeld.2) hny hyr).mono ?_
        rw [← HLK.out]
        rintro e' wA ⟨rfl, hb⟩
        refine hK.out _ _ (kp_step hb hHeld) (fun hHeld => ?_)
        clear hK K
        (try simp only [Act.put, List.setIfInBounds_toArray, List.set_cons_zero, List.set_cons_succ])
        refine wpAnyH_take (i := 8) (oi := ⟨some 13, .assign (.tmp 27), 3, "ref.go:479", #[⟨7, .data⟩, ⟨7, .chain⟩, ⟨0, .phase⟩, ⟨1, .phase⟩, ⟨2, .phase⟩, ⟨3, .phase⟩, ⟨4, .phase⟩, ⟨5, .phase⟩, ⟨6, .phase⟩, ⟨7, .phase⟩], none⟩) (v := ?_) rfl (by kernel_rfl) (by kernel_rfl) (by kernel_rfl) (fun _ _ _ h => h) (Or.inl ⟨by rfl, fun W hSw => ?_⟩) hHeld ?_
        rotate_left
        · (try dsimp only at hSw); go_simp; (try with_reducible rfl)
        (try simp only [Act.put, List.setIfInBounds_toArray, List.set_cons_zero, List.set_cons_succ])
        refine wpAnyH_done (by kernel_rfl) ?_ _
        refine NoPanic.normal ?_
        go_wp2_with fail
        refine ⟨⟨k + 1, hlt, by go_num, Or.inr ⟨by omega, by rw [HK0.out.1], by rw [HK0.out.2]⟩, hC.keep hHeld.2, hMo.keep hHeld.2, fr_call hbel hHeld.2⟩, ?_⟩
        simp [intOf]; omega
      · have hkb : ((k : Int) == 0) = false := beq_eq_false_iff_ne.2 (by omega)
        generalize bestN lf k = bk at *
        by_cases hl : lf k < bk.2
        · have HV := Lib.hid (show bestN lf (k + 1) = (k, lf k) by rw [HB1.out, if_pos hl])
          generalize lf k = lk at *
          go_wp2_with fail
          refine wp_region_noPanic ?_
          refine wp_region_held_drew (S := fun W => (∀ p : Addr, p.block < (wr).heap.size → W.cell? p = (wr).cell? p) ∧ Below (wr).heap.size (wr) W) (by kernel_rfl) ⟨fun _ _ => rfl, fr_drew (fr_refl _)⟩ (fun hHeld => ?_)
          -- the region, step by step
          refine wpAnyH_take (i := 0) (oi := ⟨some 20, .load 24 (.tmp 4), 24, "ref.go:479", #[], none⟩) (v := ?_) rfl (by kernel_rfl) (by kernel_rfl) (by kernel_rfl) (fun _ _ _ h => h) (Or.inl ⟨by rfl, fun W hSw => ?_⟩) hHeld ?_
          rotate_left
          · (try dsimp only at hSw); go_simp; (try with_reducible rfl)
          (try simp only [Act.put, List.setIfInBounds_toArray, List.set_cons_zero, List.set_cons_succ])
          refine wpAnyH_take (i := 1) (oi := ⟨some 21, .load 65 (.tmp 5), 65, "ref.go:479", #[], none⟩) (v := ?_) rfl (by kernel_rfl) (by kernel_rfl) (by kernel_rfl) (fun _ _ _ h => h) (Or.inl ⟨by rfl, fun W hSw => ?_⟩) hHeld ?_
          rotate_left
          · (try dsimp only at hSw); go_simp; (try with_reducible rfl)
          (try simp only [Act.put, List.setIfInBounds_toArray, List.set_cons_zero, List.set_cons_succ])
          refine wpAnyH_take (i := 2) (oi := ⟨some 22, .move (.tmp 2), 66, "ref.go:479", #[], none⟩) (v := ?_) rfl (by kernel_rfl) (by kernel_rfl) (by kernel_rfl) (fun _ _ _ h => h) (Or.inl ⟨by rfl, fun W hSw => ?_⟩) hHeld ?_
          rotate_left
          · (try dsimp only at hSw); go_simp; (try with_reducible rfl)
          (try simp only [Act.put, List.setIfInBounds_toArray, List.set_cons_zero, List.set_cons_succ])
          refine wpAnyH_take (i := 3) (oi := ⟨some 23, .move (.tmp 12), 3, "ref.go:479", #[], none⟩) (v := ?_) rfl (by kernel_rfl) (by kernel_rfl) (by kernel_rfl) (fun _ _ _ h => h) (Or.inl ⟨by rfl, fun W hSw => ?_⟩) hHeld ?_
          rotate_left
          · (try dsimp only at hSw); go_simp; (try with_reducible rfl)
          (try simp only [Act.put, List.setIfInBounds_toArray, List.set_cons_zero, List.set_cons_succ])
          refine wpAnyH_take (i := 4) (oi := ⟨some 24, .indexAddr 66 (.tmp 22) (.tmp 23), 0, "ref.go:479", #[⟨2, .data⟩, ⟨3, .data⟩], none⟩) (v := ?_) rfl (by kernel_rfl) (by kernel_rfl) (by kernel_rfl) (fun _ _ _ h => h) (Or.inl ⟨by rfl, fun W hSw => ?_⟩) hHeld ?_
          rotate_left
          · (try dsimp only at hSw); go_simp; (try with_reducible rfl)
          (try simp only [Act.put, List.setIfInBounds_toArray, List.set_cons_zero, List.set_cons_succ])
          refine wpAnyH_take (i := 5) (oi := ⟨some 25, .load 77 (.tmp 24), 77, "ref.go:479", #[⟨4, .data⟩], none⟩) (v := ?_) rfl (by kernel_rfl) (by kernel_rfl) (by kernel_rfl) (fun _ _ _ h => h) (Or.inl ⟨by rfl, fun W hSw => ?_⟩) hHeld ?_
          rotate_left
          · (try dsimp only at hSw); go_simp; (try with_reducible rfl)
          (try simp only [Act.put, List.setIfInBounds_toArray, List.set_cons_zero, List.set_cons_succ])
          refine wpAnyH_take (i := 6) (oi := ⟨some 26, .move (.tmp 3), 22, "ref.go:479", #[], none⟩) (v := ?_) rfl (by kernel_rfl) (by kernel_rfl) (by kernel_rfl) (fun _ _ _ h => h) (Or.inl ⟨by rfl, fun W hSw => ?_⟩) hHeld ?_
          rotate_left
          · (try dsimp only at hSw); go_simp; (try with_reducible rfl)
          (try simp only [Act.put, List.setIfInBounds_toArray, List.set_cons_zero, List.set_cons_succ])
          refine wpAnyH_ready (rs := [7]) (by kernel_rfl) (by simp) ?_
          refine AllReadyH.cons (o := ⟨some 27, .call { callee := .value (.func 100), args := #[.tmp 20, .tmp 21, .tmp 25, .tmp 26], argTypes := #[24, 65, 77, 22] }, 3, "ref.go:479", #[⟨0, .data⟩, ⟨1, .data⟩, ⟨5, .data⟩, ⟨6, .data⟩], none⟩) rfl (fun K hK => ?_) AllReadyH.nil
          go_simp
          refine (rLeft_any A Y n c ny yc cs ys e num den add fk fm fd fv _ (hrr.keep hHeld.2) hok hm HK.out (hYr.keep hHeld.2) hny hyr).mono ?_
          rw [← HLK.out]
          rintro e' wA ⟨rfl, hb⟩
          refine hK.out _ _ (kp_step hb hHeld) (fun hHeld => ?_)
          clear hK K
          (try simp only [Act.put, List.setIfInBounds_toArray, List.set_cons_zero, List.set_cons_succ])
          refine wpAnyH_take (i := 8) (oi := ⟨some 13, .assign (.tmp 27), 3, "ref.go:479", #[⟨7, .data⟩, ⟨7, .chain⟩, ⟨0, .phase⟩, ⟨1, .phase⟩, ⟨2, .phase⟩, ⟨3, .phase⟩, ⟨4, .phase⟩, ⟨5, .phase⟩, ⟨6, .phase⟩, ⟨7, .phase⟩], none⟩) (v := ?_) rfl (by kernel_rfl) (by kernel_rfl) (by kernel_rfl) (fun _ _ _ h => h) (Or.inl ⟨by rfl, fun W hSw => ?_⟩) hHeld ?_
          rotate_left
          · (try dsimp only at hSw); go_simp; (try with_reducible rfl)
          (try simp only [Act.put, List.setIfInBounds_toArray, List.set_cons_zero, List.set_cons_succ])
          refine wpAnyH_done (by kernel_rfl) ?_ _
          refine NoPanic.normal ?_
          go_wp2_with fail
          refine ⟨⟨k + 1, hlt, by go_num, Or.inr ⟨by omega, by rw [HV.out], by rw [HV.out]⟩, hC.keep hHeld.2, hMo.keep hHeld.2, fr_call hbel hHeld.2⟩, ?_⟩
          simp [intOf]; omega
        · have HV := Lib.hid (show bestN lf (k + 1) = bk by rw [HB1.out, if_neg hl])
          generalize lf k = lk at *
          go_wp2_with fail
          refine wp_region_noPanic ?_
          refine wp_region_held_drew (S := fun W => (∀ p : Addr, p.block < (wr).heap.size → W.cell? p = (wr).cell? p) ∧ Below (wr).heap.size (wr) W) (by kernel_rfl) ⟨fun _ _ => rfl, fr_drew (fr_refl _)⟩ (fun hHeld => ?_)
          -- the region, step by step
          refine wpAnyH_take (i := 0) (oi := ⟨some 20, .load 24 (.tmp 4), 24, "ref.go:479", #[], none⟩) (v := ?_) rfl (by kernel_rfl) (by kernel_rfl) (by kernel_rfl) (fun _ _ _ h => h) (Or.inl ⟨by rfl, fun W hSw => ?_⟩) hHeld ?_
          rotate_left
          · (try dsimp only at hSw); go_simp; (try with_reducible rfl)
          (try simp only [Act.put, List.setIfInBounds_toArray, List.set_cons_zero, List.set_cons_succ])
          refine wpAnyH_take (i := 1) (oi := ⟨some 21, .load 65 (.tmp 5), 65, "ref.go:479", #[], none⟩) (v := ?_) rfl (by kernel_rfl) (by kernel_rfl) (by kernel_rfl) (fun _ _ _ h => h) (Or.inl ⟨by rfl, fun W hSw => ?_⟩) hHeld ?_
          rotate_left
          · (try dsimp only at hSw); go_simp; (try with_reducible rfl)
          (try simp only [Act.put, List.setIfInBounds_toArray, List.set_cons_zero, List.set_cons_succ])
          refine wpAnyH_take (i := 2) (oi := ⟨some 22, .move (.tmp 2), 66, "ref.go:479", #[], none⟩) (v := ?_) rfl (by kernel_rfl) (by kernel_rfl) (by kernel_rfl) (fun _ _ _ h => h) (Or.inl ⟨by rfl, fun W hSw => ?_⟩) hHeld ?_
          rotate_left
          · (try dsimp only at hSw); go_simp; (try with_reducible rfl)
          (try simp only [Act.put, List.setIfInBounds_toArray, List.set_cons_zero, List.set_cons_succ])
          refine wpAnyH_take (i := 3) (oi := ⟨some 23, .move (.tmp 12), 3, "ref.go:479", #[], none⟩) (v := ?_) rfl (by kernel_rfl) (by kernel_rfl) (by kernel_rfl) (fun _ _ _ h => h) (Or.inl ⟨by rfl, fun W hSw => ?_⟩) hHeld ?_
          rotate_left
          · (try dsimp only at hSw); go_simp; (try with_reducible rfl)
          (try simp only [Act.put, List.setIfInBounds_toArray, List.set_cons_zero, List.set_cons_succ])
          refine wpAnyH_take (i := 4) (oi := ⟨some 24, .indexAddr 66 (.tmp 22) (.tmp 23), 0, "ref.go:479", #[⟨2, .data⟩, ⟨3, .data⟩], none⟩) (v := ?_) rfl (by kernel_rfl) (by kernel_rfl) (by kernel_rfl) (fun _ _ _ h => h) (Or.inl ⟨by rfl, fun W hSw => ?_⟩) hHeld ?_
          rotate_left
          · (try dsimp only at hSw); go_simp; (try with_reducible rfl)
          (try simp only [Act.put, List.setIfInBounds_toArray, List.set_cons_zero, List.set_cons_succ])
          refine wpAnyH_take (i := 5) (oi := ⟨some 25, .load 77 (.tmp 24), 77, "ref.go:479", #[⟨4, .data⟩], none⟩) (v := ?_) rfl (by kernel_rfl) (by kernel_rfl) (by kernel_rfl) (fun _ _ _ h => h) (Or.inl ⟨by rfl, fun W hSw => ?_⟩) hHeld ?_
          rotate_left
          · (try dsimp only at hSw); go_simp; (try with_reducible rfl)
          (try simp only [Act.put, List.setIfInBounds_toArray, List.set_cons_zero, List.set_cons_succ])
          refine wpAnyH_take (i := 6) (oi := ⟨some 26, .move (.tmp 3), 22, "ref.go:479", #[], none⟩) (v := ?_) rfl (by kernel_rfl) (by kernel_rfl) (by kernel_rfl) (fun _ _ _ h => h) (Or.inl ⟨by rfl, fun W hSw => ?_⟩) hHeld ?_
          rotate_left
          · (try dsimp only at hSw); go_simp; (try with_reducible rfl)
          (try simp only [Act.put, List.setIfInBounds_toArray, List.set_cons_zero, List.set_cons_succ])
          refine wpAnyH_ready (rs := [7]) (by kernel_rfl) (by simp) ?_
          refine AllReadyH.cons (o := ⟨some 27, .call { callee := .value (.func 100), args := #[.tmp 20, .tmp 21, .tmp 25, .tmp 26], argTypes := #[24, 65, 77, 22] }, 3, "ref.go:479", #[⟨0, .data⟩, ⟨1, .data⟩, ⟨5, .data⟩, ⟨6, .data⟩], none⟩) rfl (fun K hK => ?_) AllReadyH.nil
          go_simp
          refine (rLeft_any A Y n c ny yc cs ys e num den add fk fm fd fv _ (hrr.keep hHeld.2) hok hm HK.out (hYr.keep hHeld.2) hny hyr).mono ?_
          rw [← HLK.out]
          rintro e' wA ⟨rfl, hb⟩
          refine hK.out _ _ (kp_step hb hHeld) (fun hHeld => ?_)
          clear hK K
          (try simp only [Act.put, List.setIfInBounds_toArray, List.set_cons_zero, List.set_cons_succ])
          refine wpAnyH_take (i := 8) (oi := ⟨some 13, .assign (.tmp 27), 3, "ref.go:479", #[⟨7, .data⟩, ⟨7, .chain⟩, ⟨0, .phase⟩, ⟨1, .phase⟩, ⟨2, .phase⟩, ⟨3, .phase⟩, ⟨4, .phase⟩, ⟨5, .phase⟩, ⟨6, .phase⟩, ⟨7, .phase⟩], none⟩) (v := ?_) rfl (by kernel_rfl) (by kernel_rfl) (by kernel_rfl) (fun _ _ _ h => h) (Or.inl ⟨by rfl, fun W hSw => ?_⟩) hHeld ?_
          rotate_left
          · (try dsimp only at hSw); go_simp; (try with_reducible rfl)
          (try simp only [Act.put, List.setIfInBounds_toArray, List.set_cons_zero, List.set_cons_succ])
          refine wpAnyH_done (by kernel_rfl) ?_ _
          refine NoPanic.normal ?_
          go_wp2_with fail
          refine ⟨⟨k + 1, hlt, by go_num, Or.inr ⟨by omega, by rw [HV.out], by rw [HV.out]⟩, hC.keep hHeld.2, hMo.keep hHeld.2, fr_call hbel hHeld.2⟩, ?_⟩
          simp [intOf]; omega
    · obtain rfl : k = nq := by omega
      rcases hab with ⟨hk0, rfl, rfl⟩ | ⟨hk0, rfl, rfl⟩
      · omega
      · go_wp2_with fail
        go_ret2
        rw [HLF.out, HNQ.out]
        exact ⟨rfl, hbel⟩
end Go.Proofs.YtnpgdifidejohaaGreatDoor
end
