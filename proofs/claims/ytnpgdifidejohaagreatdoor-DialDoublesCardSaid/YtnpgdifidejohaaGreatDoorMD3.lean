/- Reference: years that are alike. Reference: all days of a date. -/
import Derived.Test.YtnpgdifidejohaaGreatDoorMBG
import Derived.Test.YtnpgdifidejohaaGreatDoorMD1
import Derived.Test.YtnpgdifidejohaaGreatDoorProg
import Derived.WalkKit
import Derived.WalkSpells
import Derived.WalkLawsBesides
import Derived.LoopTactic
import Derived.Deep.LoopGhost
import Derived.Lib.Hide
import Derived.Deep.Draws
import Derived.Deep.QuietTactic
import Derived.BigQuiet
import Derived.Deep.RegionHeld3
import Derived.OwnWalk
import Derived.Laws.Rows
import Derived.Deep.DeepMust
import Derived.Defers
import Derived.Recover
import Derived.Laws.Pointers
import Derived.Laws.EntriesVeiled
import Derived.Outline
import Derived.Deep.MidRow
import Derived.Deep.CutRange
import Derived.Test.YtnpgdifidejohaaGreatDoorMBL
import Derived.RangeFuncNested
import Derived.RangeFuncBound
import Derived.OwnWalkIn
import Derived.TacticsInMore
import Derived.LoopIn
import Derived.Shelf.RegionOpen
import Derived.Sort.CutIn
import Derived.Deep.Cut
import Derived.Maps.OwnOps
import Derived.Maps.OwnSet
import Derived.IntWalk
import Derived.Lib.LaidTab
import Derived.Lib.ItoaNum
import Derived.Sort.Grow
section
namespace Go.Proofs.YtnpgdifidejohaaGreatDoor
open Go.RowKit Dl

def rlikeZ (o : Option Int) : Int := match o with | some z => z | none => -1

set_option maxRecDepth 100000 in
set_option maxHeartbeats 2000000 in
theorem rLike_any (A : Option Addr) (n c : Nat) (cs : List Int) (e y : Int) (w : World) (hr : Rd w A n cs) (hok : calOk e cs = true) (hy1 : 0 ≤ y) (hy2 : y ≤ 4000) :
    Calls Tryz.prog 22 #[.agg #[.int .i64 e, .slice A n c], .int .i64 y] w fun e' w' => e' = .returned (.int .i64 (rlikeZ (likeOf e cs y))) ∧ Below w.heap.size w w' := by
  obtain ⟨⟨he1, he2⟩, ⟨hn1, hn2⟩, hpos⟩ := calOk_parts hok
  rw [hr.len] at hn1 hn2
  have hr0 := hr.alloc (.cells #[.int .i64 e, .slice A n c] 24)
  have hC0 : Blk (w.alloc (.cells #[.int .i64 e, .slice A n c] 24)) w.heap.size 24 #[.int .i64 e, .slice A n c] := Blk.new w _ _
  have hfb := firstDay_bounds e cs y hy1
  obtain ⟨fy, gy⟩ : ∃ q, firstDay e cs y = q := ⟨_, rfl⟩
  have GY := Lib.hid gy
  rw [gy] at hfb
  clear gy
  obtain ⟨wy, gwy⟩ : ∃ q, wkd fy = q := ⟨_, rfl⟩
  have HWY := Lib.hid gwy
  clear gwy
  go_enter Tryz.func22, Tryz.ntmps22
  go_wp2_with fail
  refine wp_region_noPanic ?_
  refine wp_region_held_drew (S := fun W => (∀ p : Addr, p.block < (w.alloc (.cells #[.int .i64 e, .slice A n c] 24)).heap.size → W.cell? p = (w.alloc (.cells #[.int .i64 e, .slice A n c] 24)).cell? p) ∧ Below (w.alloc (.cells #[.int .i64 e, .slice A n c] 24)).heap.size (w.alloc (.cells #[.int .i64 e, .slice A n c] 24)) W) (by kernel_rfl) ⟨fun _ _ => rfl, fr_drew (fr_refl _)⟩ (fun hHeld => ?_)
  -- the region, step by step
  refine wpAnyH_take (i := 0) (oi := ⟨some 8, .load 24 (.tmp 2), 24, "ref.go:154", #[], none⟩) (v := ?_) rfl (by kernel_rfl) (by kernel_rfl) (by kernel_rfl) (fun _ _ _ h => h) (Or.inl ⟨by rfl, fun W hSw => ?_⟩) hHeld ?_
  rotate_left
  · (try dsimp only at hSw); go_simp; (try with_reducible rfl)
  (try simp only [Act.put, List.setIfInBounds_toArray, List.set_cons_zero, List.set_cons_succ])
  refine wpAnyH_take (i := 1) (oi := ⟨some 9, .move (.tmp 1), 3, "ref.go:154", #[], none⟩) (v := ?_) rfl (by kernel_rfl) (by kernel_rfl) (by kernel_rfl) (fun _ _ _ h => h) (Or.inl ⟨by rfl, fun W hSw => ?_⟩) hHeld ?_
  rotate_left
  · (try dsimp only at hSw); go_simp; (try with_reducible rfl)
  (try simp only [Act.put, List.setIfInBounds_toArray, List.set_cons_zero, List.set_cons_succ])
  refine wpAnyH_take (i := 4) (oi := ⟨some 12, .load 24 (.tmp 2), 24, "ref.go:154", #[], none⟩) (v := ?_) rfl (by kernel_rfl) (by kernel_rfl) (by kernel_rfl) (fun _ _ _ h => h) (Or.inl ⟨by rfl, fun W hSw => ?_⟩) hHeld ?_
  rotate_left
  · (try dsimp only at hSw); go_simp; (try with_reducible rfl)
  (try simp only [Act.put, List.setIfInBounds_toArray, List.set_cons_zero, List.set_cons_succ])
  refine wpAnyH_take (i := 5) (oi := ⟨some 13, .move (.tmp 1), 3, "ref.go:154", #[], none⟩) (v := ?_) rfl (by kernel_rfl) (by kernel_rfl) (by kernel_rfl) (fun _ _ _ h => h) (Or.inl ⟨by rfl, fun W hSw => ?_⟩) hHeld ?_
  rotate_left
  · (try dsimp only at hSw); go_simp; (try with_reducible rfl)
  (try simp only [Act.put, List.setIfInBounds_toArray, List.set_cons_zero, List.set_cons_succ])
  refine wpAnyH_ready (rs := [2]) (by kernel_rfl) (by simp) ?_
  refine AllReadyH.cons (o := ⟨some 10, .call { callee := .value (.func 70), args := #[.tmp 8, .tmp 9], argTypes := #[24, 3] }, 3, "ref.go:154", #[⟨0, .data⟩, ⟨1, .data⟩], none⟩) rfl (fun K hK => ?_) AllReadyH.nil
  go_simp
  refine (rFirst_any A n c cs e y _ (hr0.keep hHeld.2) hn2 hpos he1 he2 hy1 (by omega)).mono ?_
  rw [GY.out]
  rintro e' wA ⟨rfl, hb⟩
  refine hK.out _ _ (kp_step hb hHeld) (fun hHeld => ?_)
  clear hK K
  (try simp only [Act.put, List.setIfInBounds_toArray, List.set_cons_zero, List.set_cons_succ])
  refine wpAnyH_ready (rs := [3]) (by kernel_rfl) (by simp) ?_
  refine AllReadyH.cons (o := ⟨some 11, .call { callee := .value (.func 26), args := #[.tmp 10], argTypes := #[3] }, 3, "ref.go:154", #[⟨2, .data⟩, ⟨2, .chain⟩], none⟩) rfl (fun K hK => ?_) AllReadyH.nil
  go_simp
  refine (rWeekday_any fy _ (by omega) (by omega)).mono ?_
  rw [HWY.out]
  rintro e' wA ⟨rfl, rfl⟩
  refine hK.out _ _ (hHeld) (fun hHeld => ?_)
  clear hK K
  (try simp only [Act.put, List.setIfInBounds_toArray, List.set_cons_zero, List.set_cons_succ])
  refine wpAnyH_ready (rs := [6]) (by kernel_rfl) (by simp) ?_
  refine AllReadyH.cons (o := ⟨some 14, .call { callee := .value (.func 70), args := #[.tmp 12, .tmp 13], argTypes := #[24, 3] }, 3, "ref.go:154", #[⟨4, .data⟩, ⟨5, .data⟩, ⟨3, .chain⟩], none⟩) rfl (fun K hK => ?_) AllReadyH.nil
  go_simp
  refine (rFirst_any A n c cs e y _ (hr0.keep hHeld.2) hn2 hpos he1 he2 hy1 (by omega)).mono ?_
  rw [GY.out]
  rintro e' wA ⟨rfl, hb⟩
  refine hK.out _ _ (kp_step hb hHeld) (fun hHeld => ?_)
  clear hK K
  (try simp only [Act.put, List.setIfInBounds_toArray, List.set_cons_zero, List.set_cons_succ])
  refine wpAnyH_take (i := 7) (oi := ⟨some 5, .assign (.tmp 11), 3, "ref.go:154", #[⟨3, .data⟩, ⟨6, .chain⟩, ⟨0, .phase⟩, ⟨1, .phase⟩, ⟨2, .phase⟩, ⟨3, .phase⟩, ⟨4, .textOnly .lateStores⟩, ⟨5, .textOnly .lateStores⟩, ⟨6, .textOnly .lateStoresUnsure⟩], none⟩) (v := ?_) rfl (by kernel_rfl) (by kernel_rfl) (by kernel_rfl) (fun _ _ _ h => h) (Or.inl ⟨by rfl, fun W hSw => ?_⟩) hHeld ?_
  rotate_left
  · (try dsimp only at hSw); go_simp; (try with_reducible rfl)
  (try simp only [Act.put, List.setIfInBounds_toArray, List.set_cons_zero, List.set_cons_succ])
  refine wpAnyH_take (i := 8) (oi := ⟨some 6, .assign (.tmp 14), 3, "ref.go:154", #[⟨6, .data⟩, ⟨7, .chain⟩, ⟨0, .phase⟩, ⟨1, .phase⟩, ⟨2, .phase⟩, ⟨3, .phase⟩, ⟨4, .phase⟩, ⟨5, .phase⟩, ⟨6, .phase⟩, ⟨7, .phase⟩], none⟩) (v := ?_) rfl (by kernel_rfl) (by kernel_rfl) (by kernel_rfl) (fun _ _ _ h => h) (Or.inl ⟨by rfl, fun W hSw => ?_⟩) hHeld ?_
  rotate_left
  · (try dsimp only at hSw); go_simp; (try with_reducible rfl)
  (try simp only [Act.put, List.setIfInBounds_toArray, List.set_cons_zero, List.set_cons_succ])
  refine wpAnyH_done (by kernel_rfl) ?_ _
  refine NoPanic.normal ?_
  have hCs := hC0.keep hHeld.2
  have hfr := fr_call (fr_alloc (fr_refl w) (.cells #[.int .i64 e, .slice A n c] 24)) hHeld.2
  go_wp2_with fail
  go_loopw [6, 7] (fun d i wr => ∃ z : Int, y + 1 ≤ z ∧ z ≤ 4001 ∧ i = .int .i64 z ∧ d = .int .i64 (firstDay e cs (z - 1)) ∧ likeOf e cs y = likeGo e cs y (4001 - z).toNat z ∧ Blk wr w.heap.size 24 #[.int .i64 e, .slice A n c] ∧ Below w.heap.size w wr) (fun _ i _ => (4001 - intOf i).toNat)
  case atStart => exact ⟨y + 1, by omega, by omega, rfl, by rw [show y + 1 - 1 = y by omega, GY.out], by unfold likeOf; rw [show (4000 - y).toNat = (4001 - (y + 1)).toNat by omega], hCs, hfr⟩
  case round =>
    clear hCs hfr hHeld hC0 hr0
    obtain ⟨z, hz1, hz2, rfl, rfl, hgo, hC, hbel⟩ := hrel
    have HG := Lib.hid hgo
    clear hgo
    have hCc := fun j => hC.cell j
    have hCf := fun j => hC.frozen j
    by_cases hlt : z ≤ 4000
    · have hsuc := firstDay_succ e cs (z - 1) (by omega)
      rw [show z - 1 + 1 = z by omega] at hsuc
      have hfz := firstDay_bounds e cs (z - 1) (by omega)
      have hyz := yearLen_pos cs (z - 1)
      have hwz : IntKind.i64.wrap (z - 1) = z - 1 := IntWalk.i64_in _ (by omega)
      have hlk : likeB e cs y z = ((leapB cs z == leapB cs y) && (wkd (firstDay e cs z) == wy)) := by unfold likeB; rw [GY.out, HWY.out]
      have HLK := Lib.hid hlk
      clear hlk
      obtain ⟨fz, gz⟩ : ∃ q, firstDay e cs z = q := ⟨_, rfl⟩
      have GZ := Lib.hid gz
      rw [gz] at hsuc HLK
      clear gz
      generalize firstDay e cs (z - 1) = fp at *
      have hx1 : -4 ≤ fz := by omega
      have hx2 : fz ≤ 100000000 := by omega
      have HS := Lib.hid hsuc
      clear hsuc
      go_wp2_with fail
      refine (rLong_any A n c cs e (z - 1) _ (hr.keep hbel) hn2 hpos (by omega) (by omega)).mono ?_
      have HS2 := HS.out
      clear HS
      generalize yearLen cs (z - 1) = yl at *
      rintro e' w1 ⟨rfl, hb1⟩
      have hwf : IntKind.i64.wrap (fp + yl) = fp + yl := IntWalk.i64_in _ (by omega)
      have hC1 := hC.keep hb1
      have hbel1 := fr_call hbel hb1
      have hr1 := hr.keep hbel1
      have hz3 := hC1.lt
      have hC1c := fun j => hC1.cell j
      have hC1f := fun j => hC1.frozen j
      subst HS2
      clear hC hbel hb1 hCc hCf
      go_upto_region 6 with (fail)
      go_cut [39] from 17 to 40 (fun s39 wc => s39 = .bool (likeB e cs y z) ∧ Blk wc w.heap.size 24 #[.int .i64 e, .slice A n c] ∧ Below w.heap.size w wc)
      case first =>
        cases hq : (wkd (fp + yl) == wy)
        · have hv : likeB e cs y z = false := by rw [HLK.out, hq, Bool.and_false]
          have HV := Lib.hid hv
          clear hv
          have hqb := hq
          rw [beq_eq_false_iff_ne] at hq
          have hqd : decide (wkd (fp + yl) = wy) = false := decide_eq_false hq
          refine wp_region_noPanic ?_
          refine wp_region_held_drew (S := fun W => (∀ p : Addr, p.block < (w1).heap.size → W.cell? p = (w1).cell? p) ∧ Below (w1).heap.size (w1) W) (by kernel_rfl) ⟨fun _ _ => rfl, fr_drew (fr_refl _)⟩ (fun hHeld => ?_)
          -- the region, step by step
          refine wpAnyH_take (i := 0) (oi := ⟨some 27, .move (.tmp 6), 3, "ref.go:157", #[], none⟩) (v := ?_) rfl (by kernel_rfl) (by kernel_rfl) (by kernel_rfl) (fun _ _ _ h => h) (Or.inl ⟨by rfl, fun W hSw => ?_⟩) hHeld ?_
          rotate_left
          · (try dsimp only at hSw); go_simp; (try with_reducible rfl)
          (try simp only [Act.put, List.setIfInBounds_toArray, List.set_cons_zero, List.set_cons_succ])
          refine wpAnyH_take (i := 2) (oi := ⟨some 29, .move (.tmp 5), 3, "ref.go:157", #[], none⟩) (v := ?_) rfl (by kernel_rfl) (by kernel_rfl) (by kernel_rfl) (fun _ _ _ h => h) (Or.inl ⟨by rfl, fun W hSw => ?_⟩) hHeld ?_
          rotate_left
          · (try dsimp only at hSw); go_simp; (try with_reducible rfl)
          (try simp only [Act.put, List.setIfInBounds_toArray, List.set_cons_zero, List.set_cons_succ])
          refine wpAnyH_ready (rs := [1]) (by kernel_rfl) (by simp) ?_
          refine AllReadyH.cons (o := ⟨some 28, .call { callee := .value (.func 26), args := #[.tmp 27], argTypes := #[3] }, 3, "ref.go:157", #[⟨0, .data⟩], none⟩) rfl (fun K hK => ?_) AllReadyH.nil
          go_simp
          refine (rWeekday_any (fp + yl) _ hx1 hx2).mono ?_
          rintro e' wA ⟨rfl, rfl⟩
          refine hK.out _ _ (hHeld) (fun hHeld => ?_)
          clear hK K
          (try simp only [Act.put, List.setIfInBounds_toArray, List.set_cons_zero, List.set_cons_succ])
          refine wpAnyH_take (i := 3) (oi := ⟨some 30, .binOp .eql 3 (.tmp 28) (.tmp 29) 3, 4, "ref.go:157", #[⟨1, .data⟩, ⟨2, .data⟩], none⟩) (v := ?_) rfl (by kernel_rfl) (by kernel_rfl) (by kernel_rfl) (fun _ _ _ h => h) (Or.inl ⟨by rfl, fun W hSw => ?_⟩) hHeld ?_
          rotate_left
          · (try dsimp only at hSw); go_simp; (try with_reducible rfl)
          (try simp only [Act.put, List.setIfInBounds_toArray, List.set_cons_zero, List.set_cons_succ])
          refine wpAnyH_take (i := 4) (oi := ⟨some 31, .move (.tmp 30), 4, "ref.go:157", #[⟨3, .data⟩, ⟨1, .chain⟩], none⟩) (v := ?_) rfl (by kernel_rfl) (by kernel_rfl) (by kernel_rfl) (fun _ _ _ h => h) (Or.inl ⟨by rfl, fun W hSw => ?_⟩) hHeld ?_
          rotate_left
          · (try dsimp only at hSw); go_simp; (try with_reducible rfl)
          (try simp only [Act.put, List.setIfInBounds_toArray, List.set_cons_zero, List.set_cons_succ])
          refine wpAnyH_take (i := 5) (oi := ⟨some 32, .load 24 (.tmp 2), 24, "ref.go:157", #[⟨4, .guard⟩], some (4, true)⟩) (v := undef) rfl (by kernel_rfl) (by kernel_rfl) (by kernel_rfl) (fun _ _ _ h => h) (Or.inr ⟨by rfl, rfl⟩) hHeld ?_
          (try simp only [Act.put, List.setIfInBounds_toArray, List.set_cons_zero, List.set_cons_succ])
          refine wpAnyH_take (i := 6) (oi := ⟨some 33, .move (.tmp 7), 3, "ref.go:157", #[⟨4, .guard⟩], some (4, true)⟩) (v := undef) rfl (by kernel_rfl) (by kernel_rfl) (by kernel_rfl) (fun _ _ _ h => h) (Or.inr ⟨by rfl, rfl⟩) hHeld ?_
          (try simp only [Act.put, List.setIfInBounds_toArray, List.set_cons_zero, List.set_cons_succ])
          refine wpAnyH_take (i := 7) (oi := ⟨some 34, .call { callee := .value (.func 71), args := #[.tmp 32, .tmp 33], argTypes := #[24, 3] }, 4, "ref.go:157", #[⟨5, .data⟩, ⟨6, .data⟩, ⟨4, .chain⟩, ⟨4, .guard⟩], some (4, true)⟩) (v := undef) rfl (by kernel_rfl) (by kernel_rfl) (by kernel_rfl) (fun _ _ _ h => h) (Or.inr ⟨by rfl, rfl⟩) hHeld ?_
          (try simp only [Act.put, List.setIfInBounds_toArray, List.set_cons_zero, List.set_cons_succ])
          refine wpAnyH_take (i := 8) (oi := ⟨some 35, .load 24 (.tmp 2), 24, "ref.go:157", #[⟨4, .guard⟩], some (4, true)⟩) (v := undef) rfl (by kernel_rfl) (by kernel_rfl) (by kernel_rfl) (fun _ _ _ h => h) (Or.inr ⟨by rfl, rfl⟩) hHeld ?_
          (try simp only [Act.put, List.setIfInBounds_toArray, List.set_cons_zero, List.set_cons_succ])
          refine wpAnyH_take (i := 9) (oi := ⟨some 36, .move (.tmp 1), 3, "ref.go:157", #[⟨4, .guard⟩], some (4, true)⟩) (v := undef) rfl (by kernel_rfl) (by kernel_rfl) (by kernel_rfl) (fun _ _ _ h => h) (Or.inr ⟨by rfl, rfl⟩) hHeld ?_
          (try simp only [Act.put, List.setIfInBounds_toArray, List.set_cons_zero, List.set_cons_succ])
          refine wpAnyH_take (i := 10) (oi := ⟨some 37, .call { callee := .value (.func 71), args := #[.tmp 35, .tmp 36], argTypes := #[24, 3] }, 4, "ref.go:157", #[⟨8, .data⟩, ⟨9, .data⟩, ⟨7, .chain⟩, ⟨4, .guard⟩], some (4, true)⟩) (v := undef) rfl (by kernel_rfl) (by kernel_rfl) (by kernel_rfl) (fun _ _ _ h => h) (Or.inr ⟨by rfl, rfl⟩) hHeld ?_
          (try simp only [Act.put, List.setIfInBounds_toArray, List.set_cons_zero, List.set_cons_succ])
          refine wpAnyH_take (i := 11) (oi := ⟨some 38, .binOp .eql 4 (.tmp 34) (.tmp 37) 4, 4, "ref.go:157", #[⟨7, .data⟩, ⟨10, .data⟩, ⟨4, .guard⟩], some (4, true)⟩) (v := undef) rfl (by kernel_rfl) (by kernel_rfl) (by kernel_rfl) (fun _ _ _ h => h) (Or.inr ⟨by rfl, rfl⟩) hHeld ?_
          (try simp only [Act.put, List.setIfInBounds_toArray, List.set_cons_zero, List.set_cons_succ])
          refine wpAnyH_take (i := 12) (oi := ⟨some 39, .pick (.tmp 31) (.tmp 38) (.const (.bool false)), 4, "ref.go:157", #[⟨4, .data⟩, ⟨11, .data⟩], none⟩) (v := ?_) rfl (by kernel_rfl) (by kernel_rfl) (by kernel_rfl) (fun _ _ _ h => h) (Or.inl ⟨by rfl, fun W hSw => ?_⟩) hHeld ?_
          rotate_left
          · (try dsimp only at hSw); go_simp; (try with_reducible rfl)
          (try simp only [Act.put, List.setIfInBounds_toArray, List.set_cons_zero, List.set_cons_succ])
          refine wpAnyH_done (by kernel_rfl) ?_ _
          refine NoPanic.normal ?_
          go_wp2_with fail
          go_meet
          case rel => exact ⟨by rw [HV.out]; try rfl, hC1.keep hHeld.2, fr_call hbel1 hHeld.2⟩
        · have hv : likeB e cs y z = (leapB cs z == leapB cs y) := by rw [HLK.out, hq, Bool.and_true]
          have HV := Lib.hid hv
          clear hv
          rw [beq_iff_eq] at hq
          refine wp_region_noPanic ?_
          refine wp_region_held_drew (S := fun W => (∀ p : Addr, p.block < (w1).heap.size → W.cell? p = (w1).cell? p) ∧ Below (w1).heap.size (w1) W) (by kernel_rfl) ⟨fun _ _ => rfl, fr_drew (fr_refl _)⟩ (fun hHeld => ?_)
          -- the region, step by step
          refine wpAnyH_take (i := 0) (oi := ⟨some 27, .move (.tmp 6), 3, "ref.go:157", #[], none⟩) (v := ?_) rfl (by kernel_rfl) (by kernel_rfl) (by kernel_rfl) (fun _ _ _ h => h) (Or.inl ⟨by rfl, fun W hSw => ?_⟩) hHeld ?_
          rotate_left
          · (try dsimp only at hSw); go_simp; (try with_reducible rfl)
          (try simp only [Act.put, List.setIfInBounds_toArray, List.set_cons_zero, List.set_cons_succ])
          refine wpAnyH_take (i := 2) (oi := ⟨some 29, .move (.tmp 5), 3, "ref.go:157", #[], none⟩) (v := ?_) rfl (by kernel_rfl) (by kernel_rfl) (by kernel_rfl) (fun _ _ _ h => h) (Or.inl ⟨by rfl, fun W hSw => ?_⟩) hHeld ?_
          rotate_left
          · (try dsimp only at hSw); go_simp; (try with_reducible rfl)
          (try simp only [Act.put, List.setIfInBounds_toArray, List.set_cons_zero, List.set_cons_succ])
          refine wpAnyH_ready (rs := [1]) (by kernel_rfl) (by simp) ?_
          refine AllReadyH.cons (o := ⟨some 28, .call { callee := .value (.func 26), args := #[.tmp 27], argTypes := #[3] }, 3, "ref.go:157", #[⟨0, .data⟩], none⟩) rfl (fun K hK => ?_) AllReadyH.nil
          go_simp
          refine (rWeekday_any (fp + yl) _ hx1 hx2).mono ?_
          rw [hq]
          rintro e' wA ⟨rfl, rfl⟩
          refine hK.out _ _ (hHeld) (fun hHeld => ?_)
          clear hK K
          (try simp only [Act.put, List.setIfInBounds_toArray, List.set_cons_zero, List.set_cons_succ])
          refine wpAnyH_take (i := 3) (oi := ⟨some 30, .binOp .eql 3 (.tmp 28) (.tmp 29) 3, 4, "ref.go:157", #[⟨1, .data⟩, ⟨2, .data⟩], none⟩) (v := ?_) rfl (by kernel_rfl) (by kernel_rfl) (by kernel_rfl) (fun _ _ _ h => h) (Or.inl ⟨by rfl, fun W hSw => ?_⟩) hHeld ?_
          rotate_left
          · (try dsimp only at hSw); go_simp; (try with_reducible rfl)
          (try simp only [Act.put, List.setIfInBounds_toArray, List.set_cons_zero, List.set_cons_succ])
          refine wpAnyH_take (i := 4) (oi := ⟨some 31, .move (.tmp 30), 4, "ref.go:157", #[⟨3, .data⟩, ⟨1, .chain⟩], none⟩) (v := ?_) rfl (by kernel_rfl) (by kernel_rfl) (by kernel_rfl) (fun _ _ _ h => h) (Or.inl ⟨by rfl, fun W hSw => ?_⟩) hHeld ?_
          rotate_left
          · (try dsimp only at hSw); go_simp; (try with_reducible rfl)
          (try simp only [Act.put, List.setIfInBounds_toArray, List.set_cons_zero, List.set_cons_succ])
          refine wpAnyH_take (i := 5) (oi := ⟨some 32, .load 24 (.tmp 2), 24, "ref.go:157", #[⟨4, .guard⟩], some (4, true)⟩) (v := ?_) rfl (by kernel_rfl) (by kernel_rfl) (by kernel_rfl) (fun _ _ _ h => h) (Or.inl ⟨by rfl, fun W hSw => ?_⟩) hHeld ?_
          rotate_left
          · (try dsimp only at hSw); go_simp; (try with_reducible rfl)
          (try simp only [Act.put, List.setIfInBounds_toArray, List.set_cons_zero, List.set_cons_succ])
          refine wpAnyH_take (i := 6) (oi := ⟨some 33, .move (.tmp 7), 3, "ref.go:157", #[⟨4, .guard⟩], some (4, true)⟩) (v := ?_) rfl (by kernel_rfl) (by kernel_rfl) (by kernel_rfl) (fun _ _ _ h => h) (Or.inl ⟨by rfl, fun W hSw => ?_⟩) hHeld ?_
          rotate_left
          · (try dsimp only at hSw); go_simp; (try with_reducible rfl)
          (try simp only [Act.put, List.setIfInBounds_toArray, List.set_cons_zero, List.set_cons_succ])
          refine wpAnyH_take (i := 8) (oi := ⟨some 35, .load 24 (.tmp 2), 24, "ref.go:157", #[⟨4, .guard⟩], some (4, true)⟩) (v := ?_) rfl (by kernel_rfl) (by kernel_rfl) (by kernel_rfl) (fun _ _ _ h => h) (Or.inl ⟨by rfl, fun W hSw => ?_⟩) hHeld ?_
          rotate_left
          · (try dsimp only at hSw); go_simp; (try with_reducible rfl)
          (try simp only [Act.put, List.setIfInBounds_toArray, List.set_cons_zero, List.set_cons_succ])
          refine wpAnyH_take (i := 9) (oi := ⟨some 36, .move (.tmp 1), 3, "ref.go:157", #[⟨4, .guard⟩], some (4, true)⟩) (v := ?_) rfl (by kernel_rfl) (by kernel_rfl) (by kernel_rfl) (fun _ _ _ h => h) (Or.inl ⟨by rfl, fun W hSw => ?_⟩) hHeld ?_
          rotate_left
          · (try dsimp only at hSw); go_simp; (try with_reducible rfl)
          (try simp only [Act.put, List.setIfInBounds_toArray, List.set_cons_zero, List.set_cons_succ])
          refine wpAnyH_ready (rs := [7]) (by kernel_rfl) (by simp) ?_
          refine AllReadyH.cons (o := ⟨some 34, .call { callee := .value (.func 71), args := #[.tmp 32, .tmp 33], argTypes := #[24, 3] }, 4, "ref.go:157", #[⟨5, .data⟩, ⟨6, .data⟩, ⟨4, .chain⟩, ⟨4, .guard⟩], some (4, true)⟩) rfl (fun K hK => ?_) AllReadyH.nil
          go_simp
          refine (rLeap_any A n c cs e z _ (hr1.keep hHeld.2) hn2 hpos (by omega) (by omega)).mono ?_
          rintro e' wA ⟨rfl, hb⟩
          refine hK.out _ _ (kp_step hb hHeld) (fun hHeld => ?_)
          clear hK K
          (try simp only [Act.put, List.setIfInBounds_toArray, List.set_cons_zero, List.set_cons_succ])
          refine wpAnyH_ready (rs := [10]) (by kernel_rfl) (by simp) ?_
          refine AllReadyH.cons (o := ⟨some 37, .call { callee := .value (.func 71), args := #[.tmp 35, .tmp 36], argTypes := #[24, 3] }, 4, "ref.go:157", #[⟨8, .data⟩, ⟨9, .data⟩, ⟨7, .chain⟩, ⟨4, .guard⟩], some (4, true)⟩) rfl (fun K hK => ?_) AllReadyH.nil
          go_simp
          refine (rLeap_any A n c cs e y _ (hr1.keep hHeld.2) hn2 hpos hy1 (by omega)).mono ?_
          rintro e' wA ⟨rfl, hb⟩
          refine hK.out _ _ (kp_step hb hHeld) (fun hHeld => ?_)
          clear hK K
          (try simp only [Act.put, List.setIfInBounds_toArray, List.set_cons_zero, List.set_cons_succ])
          refine wpAnyH_take (i := 11) (oi := ⟨some 38, .binOp .eql 4 (.tmp 34) (.tmp 37) 4, 4, "ref.go:157", #[⟨7, .data⟩, ⟨10, .data⟩, ⟨4, .guard⟩], some (4, true)⟩) (v := ?_) rfl (by kernel_rfl) (by kernel_rfl) (by kernel_rfl) (fun _ _ _ h => h) (Or.inl ⟨by rfl, fun W hSw => ?_⟩) hHeld ?_
          rotate_left
          · (try dsimp only at hSw); go_simp; (try with_reducible rfl)
          (try simp only [Act.put, List.setIfInBounds_toArray, List.set_cons_zero, List.set_cons_succ])
          refine wpAnyH_take (i := 12) (oi := ⟨some 39, .pick (.tmp 31) (.tmp 38) (.const (.bool false)), 4, "ref.go:157", #[⟨4, .data⟩, ⟨11, .data⟩], none⟩) (v := ?_) rfl (by kernel_rfl) (by kernel_rfl) (by kernel_rfl) (fun _ _ _ h => h) (Or.inl ⟨by rfl, fun W hSw => ?_⟩) hHeld ?_
          rotate_left
          · (try dsimp only at hSw); go_simp; (try with_reducible rfl)
          (try simp only [Act.put, List.setIfInBounds_toArray, List.set_cons_zero, List.set_cons_succ])
          refine wpAnyH_done (by kernel_rfl) ?_ _
          refine NoPanic.normal ?_
          go_wp2_with fail
          go_meet
          case rel => exact ⟨by rw [HV.out]; try rfl, hC1.keep hHeld.2, fr_call hbel1 hHeld.2⟩
      case rest =>
        obtain ⟨rfl, hC', hbel'⟩ := hcut
        cases hl : likeB e cs y z
        · have HL := Lib.hid hl
          go_wp2_with fail
          go_roundw
          case rel => exact ⟨z + 1, by omega, by omega, by go_num, by rw [show z + 1 - 1 = z by omega, GZ.out], by rw [HG.out, show (4001 - z).toNat = (4001 - (z + 1)).toNat + 1 by omega, likeGo, if_neg (by rw [HL.out]; simp)], hC', hbel'⟩
          case measure => simp [intOf]; omega
        · have HL := Lib.hid hl
          go_wp2_with fail
          go_ret
          refine ⟨ret_int ?_, hbel'⟩
          rw [HG.out, show (4001 - z).toNat = (4001 - (z + 1)).toNat + 1 by omega, likeGo, if_pos HL.out]
          rfl
    · obtain rfl : z = 4001 := by omega
      go_wp2_with fail
      go_ret
      exact ⟨ret_int (by rw [HG.out]; rfl), hbel⟩
end Go.Proofs.YtnpgdifidejohaaGreatDoor
end

section
namespace Go.Proofs.YtnpgdifidejohaaGreatDoor
open Go.RowKit Dl

def selL (b : Bool) (x : List Int) : List Int := if b = true then x else []
def db1 (c : List Int) (e last y m d : Int) : Bool := realB c y m d && decide (dayOf e c ⟨y, m, d⟩ ≤ last)
def db2 (c : List Int) (e last y m d : Int) : Bool := realB c y m d && decide (last < dayOf e c ⟨y, m, d⟩)
theorem db1_yes {c : List Int} {e last y m d : Int} (h : db1 c e last y m d = true) : realB c y m d = true ∧ dayOf e c ⟨y, m, d⟩ ≤ last := by
  unfold db1 at h; simpa using h
theorem db2_yes {c : List Int} {e last y m d : Int} (h : db2 c e last y m d = true) : realB c y m d = true ∧ last < dayOf e c ⟨y, m, d⟩ := by
  unfold db2 at h; simpa using h

set_option maxRecDepth 100000 in
set_option maxHeartbeats 2000000 in
theorem rDays_any (A1 A2 : Option Addr) (n1 k1 n2 k2 : Nat) (c1 c2 : List Int) (e1 e2 last y m d : Int) (w : World) (hr1 : Rd w A1 n1 c1) (hr2 : Rd w A2 n2 c2) (hk1 : calOk e1 c1 = true) (hk2 : calOk e2 c2 = true) :
    Calls Tryz.prog 33 #[.agg #[.int .i64 e1, .slice A1 n1 k1, .int .i64 e2, .slice A2 n2 k2, .int .i64 last], .agg #[.int .i64 y, .int .i64 m, .int .i64 d]] w fun e' w' =>
      ∃ A c, e' = .returned (.slice A (daysOf e1 c1 e2 c2 last y m d).length c) ∧ Rd w' A (daysOf e1 c1 e2 c2 last y m d).length (daysOf e1 c1 e2 c2 last y m d) ∧ Below w.heap.size w w' := by
  have hL : daysOf e1 c1 e2 c2 last y m d = selL (db1 c1 e1 last y m d) [dayOf e1 c1 ⟨y, m, d⟩] ++ selL (db2 c2 e2 last y m d) [dayOf e2 c2 ⟨y, m, d⟩] := rfl
  rw [hL]
  clear hL
  have hfr0 := fr_alloc (fr_alloc (fr_refl w) (.cells #[.int .i64 e1, .slice A1 n1 k1, .int .i64 e2, .slice A2 n2 k2, .int .i64 last] 45)) (.cells #[.int .i64 y, .int .i64 m, .int .i64 d] 38)
  have hR0 : Blk ((w.alloc (.cells #[.int .i64 e1, .slice A1 n1 k1, .int .i64 e2, .slice A2 n2 k2, .int .i64 last] 45)).alloc (.cells #[.int .i64 y, .int .i64 m, .int .i64 d] 38)) w.heap.size 45 #[.int .i64 e1, .slice A1 n1 k1, .int .i64 e2, .slice A2 n2 k2, .int .i64 last] := (Blk.new w _ _).alloc _
  have hD0 : Blk ((w.alloc (.cells #[.int .i64 e1, .slice A1 n1 k1, .int .i64 e2, .slice A2 n2 k2, .int .i64 last] 45)).alloc (.cells #[.int .i64 y, .int .i64 m, .int .i64 d] 38)) (w.heap.size + 1) 38 #[.int .i64 y, .int .i64 m, .int .i64 d] := Blk.new_at _ _ (by simp)
  go_enter Tryz.func33, Tryz.ntmps33
  go_upto_region 2 with (fail)
  generalize (w.alloc (.cells #[.int .i64 e1, .slice A1 n1 k1, .int .i64 e2, .slice A2 n2 k2, .int .i64 last] 45)).alloc (.cells #[.int .i64 y, .int .i64 m, .int .i64 d] 38) = wo at *
  obtain ⟨hfr, hR, hD⟩ : Below w.heap.size w wo ∧ Blk wo w.heap.size 45 #[.int .i64 e1, .slice A1 n1 k1, .int .i64 e2, .slice A2 n2 k2, .int .i64 last] ∧ Blk wo (w.heap.size + 1) 38 #[.int .i64 y, .int .i64 m, .int .i64 d] := ⟨hfr0, hR0, hD0⟩
  clear hfr0 hR0 hD0
  go_cut [18] from 6 (fun s18 wc => s18 = .bool (db1 c1 e1 last y m d) ∧ Blk wc w.heap.size 45 #[.int .i64 e1, .slice A1 n1 k1, .int .i64 e2, .slice A2 n2 k2, .int .i64 last] ∧ Blk wc (w.heap.size + 1) 38 #[.int .i64 y, .int .i64 m, .int .i64 d] ∧ Below w.heap.size w wc)
  case first =>
    have hcR := fun j => hR.cell j
    have hcD := fun j => hD.cell j
    have hz0 := hR.lt
    have hz1 := hD.lt
    cases hq : realB c1 y m d
    · refine wp_region_noPanic ?_
      refine wp_region_held_drew (S := fun W => (∀ p : Addr, p.block < (wo).heap.size → W.cell? p = (wo).cell? p) ∧ Below (wo).heap.size (wo) W) (by kernel_rfl) ⟨fun _ _ => rfl, fr_drew (fr_refl _)⟩ (fun hHeld => ?_)
      -- the region, step by step
      refine wpAnyH_take (i := 0) (oi := ⟨some 6, .fieldAddr 45 (.tmp 2) 0, 0, "ref.go:181", #[], none⟩) (v := ?_) rfl (by kernel_rfl) (by kernel_rfl) (by kernel_rfl) (fun _ _ _ h => h) (Or.inl ⟨by rfl, fun W hSw => ?_⟩) hHeld ?_
      rotate_left
      · (try dsimp only at hSw); go_simp; (try with_reducible rfl)
      (try simp only [Act.put, List.setIfInBounds_toArray, List.set_cons_zero, List.set_cons_succ])
      refine wpAnyH_take (i := 1) (oi := ⟨some 7, .load 24 (.tmp 6), 24, "ref.go:181", #[⟨0, .data⟩], none⟩) (v := ?_) rfl (by kernel_rfl) (by kernel_rfl) (by kernel_rfl) (fun _ _ _ h => h) (Or.inl ⟨by rfl, fun W hSw => ?_⟩) hHeld ?_
      rotate_left
      · (try dsimp only at hSw); go_simp; (try with_reducible rfl)
      (try simp only [Act.put, List.setIfInBounds_toArray, List.set_cons_zero, List.set_cons_succ])
      refine wpAnyH_take (i := 2) (oi := ⟨some 8, .load 38 (.tmp 3), 38, "ref.go:181", #[], none⟩) (v := ?_) rfl (by kernel_rfl) (by kernel_rfl) (by kernel_rfl) (fun _ _ _ h => h) (Or.inl ⟨by rfl, fun W hSw => ?_⟩) hHeld ?_
      rotate_left
      · (try dsimp only at hSw); go_simp; (try with_reducible rfl)
      (try simp only [Act.put, List.setIfInBounds_toArray, List.set_cons_zero, List.set_cons_succ])
      refine wpAnyH_ready (rs := [3]) (by kernel_rfl) (by simp) ?_
      refine AllReadyH.cons (o := ⟨some 9, .call { callee := .value (.func 23), args := #[.tmp 7, .tmp 8], argTypes := #[24, 38] }, 4, "ref.go:181", #[⟨1, .data⟩, ⟨2, .data⟩], none⟩) rfl (fun K hK => ?_) AllReadyH.nil
      go_simp
      refine (rReal_is A1 n1 k1 c1 e1 y m d _ ((hr1.keep hfr).keep hHeld.2) hk1 _ hq).mono ?_
      rintro e' wA ⟨rfl, hb⟩
      refine hK.out _ _ (kp_step hb hHeld) (fun hHeld => ?_)
      clear hK K
      (try simp only [Act.put, List.setIfInBounds_toArray, List.set_cons_zero, List.set_cons_succ])
      refine wpAnyH_take (i := 4) (oi := ⟨some 10, .move (.tmp 9), 4, "ref.go:181", #[⟨3, .data⟩, ⟨3, .chain⟩], none⟩) (v := ?_) rfl (by kernel_rfl) (by kernel_rfl) (by kernel_rfl) (fun _ _ _ h => h) (Or.inl ⟨by rfl, fun W hSw => ?_⟩) hHeld ?_
      rotate_left
      · (try dsimp only at hSw); go_simp; (try with_reducible rfl)
      (try simp only [Act.put, List.setIfInBounds_toArray, List.set_cons_zero, List.set_cons_succ])
      refine wpAnyH_take (i := 5) (oi := ⟨some 11, .fieldAddr 45 (.tmp 2) 0, 0, "ref.go:181", #[⟨4, .guard⟩], some (4, true)⟩) (v := undef) rfl (by kernel_rfl) (by kernel_rfl) (by kernel_rfl) (fun _ _ _ h => h) (Or.inr ⟨by rfl, rfl⟩) hHeld ?_
      (try simp only [Act.put, List.setIfInBounds_toArray, List.set_cons_zero, List.set_cons_succ])
      refine wpAnyH_take (i := 6) (oi := ⟨some 12, .load 24 (.tmp 11), 24, "ref.go:181", #[⟨5, .data⟩, ⟨4, .guard⟩], some (4, true)⟩) (v := undef) rfl (by kernel_rfl) (by kernel_rfl) (by kernel_rfl) (fun _ _ _ h => h) (Or.inr ⟨by rfl, rfl⟩) hHeld ?_
      (try simp only [Act.put, List.setIfInBounds_toArray, List.set_cons_zero, List.set_cons_succ])
      refine wpAnyH_take (i := 7) (oi := ⟨some 13, .load 38 (.tmp 3), 38, "ref.go:181", #[⟨4, .guard⟩], some (4, true)⟩) (v := undef) rfl (by kernel_rfl) (by kernel_rfl) (by kernel_rfl) (fun _ _ _ h => h) (Or.inr ⟨by rfl, rfl⟩) hHeld ?_
      (try simp only [Act.put, List.setIfInBounds_toArray, List.set_cons_zero, List.set_cons_succ])
      refine wpAnyH_take (i := 8) (oi := ⟨some 14, .call { callee := .value (.func 82), args := #[.tmp 12, .tmp 13], argTypes := #[24, 38] }, 3, "ref.go:181", #[⟨6, .data⟩, ⟨7, .data⟩, ⟨4, .chain⟩, ⟨4, .guard⟩], some (4, true)⟩) (v := undef) rfl (by kernel_rfl) (by kernel_rfl) (by kernel_rfl) (fun _ _ _ h => h) (Or.inr ⟨by rfl, rfl⟩) hHeld ?_
      (try simp only [Act.put, List.setIfInBounds_toArray, List.set_cons_zero, List.set_cons_succ])
      refine wpAnyH_take (i := 9) (oi := ⟨some 15, .fieldAddr 45 (.tmp 2) 2, 0, "ref.go:181", #[⟨4, .guard⟩], some (4, true)⟩) (v := undef) rfl (by kernel_rfl) (by kernel_rfl) (by kernel_rfl) (fun _ _ _ h => h) (Or.inr ⟨by rfl, rfl⟩) hHeld ?_
      (try simp only [Act.put, List.setIfInBounds_toArray, List.set_cons_zero, List.set_cons_succ])
      refine wpAnyH_take (i := 10) (oi := ⟨some 16, .load 3 (.tmp 15), 3, "ref.go:181", #[⟨9, .data⟩, ⟨4, .guard⟩], some (4, true)⟩) (v := undef) rfl (by kernel_rfl) (by kernel_rfl) (by kernel_rfl) (fun _ _ _ h => h) (Or.inr ⟨by rfl, rfl⟩) hHeld ?_
      (try simp only [Act.put, List.setIfInBounds_toArray, List.set_cons_zero, List.set_cons_succ])
      refine wpAnyH_take (i := 11) (oi := ⟨some 17, .binOp .leq 3 (.tmp 14) (.tmp 16) 3, 4, "ref.go:181", #[⟨8, .data⟩, ⟨10, .data⟩, ⟨4, .guard⟩], some (4, true)⟩) (v := undef) rfl (by kernel_rfl) (by kernel_rfl) (by kernel_rfl) (fun _ _ _ h => h) (Or.inr ⟨by rfl, rfl⟩) hHeld ?_
      (try simp only [Act.put, List.setIfInBounds_toArray, List.set_cons_zero, List.set_cons_succ])
      refine wpAnyH_take (i := 12) (oi := ⟨some 18, .pick (.tmp 10) (.tmp 17) (.const (.bool false)), 4, "ref.go:181", #[⟨4, .data⟩, ⟨11, .data⟩], none⟩) (v := ?_) rfl (by kernel_rfl) (by kernel_rfl) (by kernel_rfl) (fun _ _ _ h => h) (Or.inl ⟨by rfl, fun W hSw => ?_⟩) hHeld ?_
      rotate_left
      · (try dsimp only at hSw); go_simp; (try with_reducible rfl)
      (try simp only [Act.put, List.setIfInBounds_toArray, List.set_cons_zero, List.set_cons_succ])
      refine wpAnyH_done (by kernel_rfl) ?_ _
      refine NoPanic.normal ?_
      go_wp2_with fail
      go_meet
      case rel => exact ⟨by unfold db1; rw [hq]; rfl, hR.keep hHeld.2, hD.keep hHeld.2, fr_call hfr hHeld.2⟩
    · obtain ⟨hy, hm, hd⟩ := real_parts hq
      refine wp_region_noPanic ?_
      refine wp_region_held_drew (S := fun W => (∀ p : Addr, p.block < (wo).heap.size → W.cell? p = (wo).cell? p) ∧ Below (wo).heap.size (wo) W) (by kernel_rfl) ⟨fun _ _ => rfl, fr_drew (fr_refl _)⟩ (fun hHeld => ?_)
      -- the region, step by step
      refine wpAnyH_take (i := 0) (oi := ⟨some 6, .fieldAddr 45 (.tmp 2) 0, 0, "ref.go:181", #[], none⟩) (v := ?_) rfl (by kernel_rfl) (by kernel_rfl) (by kernel_rfl) (fun _ _ _ h => h) (Or.inl ⟨by rfl, fun W hSw => ?_⟩) hHeld ?_
      rotate_left
      · (try dsimp only at hSw); go_simp; (try with_reducible rfl)
      (try simp only [Act.put, List.setIfInBounds_toArray, List.set_cons_zero, List.set_cons_succ])
      refine wpAnyH_take (i := 1) (oi := ⟨some 7, .load 24 (.tmp 6), 24, "ref.go:181", #[⟨0, .data⟩], none⟩) (v := ?_) rfl (by kernel_rfl) (by kernel_rfl) (by kernel_rfl) (fun _ _ _ h => h) (Or.inl ⟨by rfl, fun W hSw => ?_⟩) hHeld ?_
      rotate_left
      · (try dsimp only at hSw); go_simp; (try with_reducible rfl)
      (try simp only [Act.put, List.setIfInBounds_toArray, List.set_cons_zero, List.set_cons_succ])
      refine wpAnyH_take (i := 2) (oi := ⟨some 8, .load 38 (.tmp 3), 38, "ref.go:181", #[], none⟩) (v := ?_) rfl (by kernel_rfl) (by kernel_rfl) (by kernel_rfl) (fun _ _ _ h => h) (Or.inl ⟨by rfl, fun W hSw => ?_⟩) hHeld ?_
      rotate_left
      · (try dsimp only at hSw); go_simp; (try with_reducible rfl)
      (try simp only [Act.put, List.setIfInBounds_toArray, List.set_cons_zero, List.set_cons_succ])
      refine wpAnyH_ready (rs := [3]) (by kernel_rfl) (by simp) ?_
      refine AllReadyH.cons (o := ⟨some 9, .call { callee := .value (.func 23), args := #[.tmp 7, .tmp 8], argTypes := #[24, 38] }, 4, "ref.go:181", #[⟨1, .data⟩, ⟨2, .data⟩], none⟩) rfl (fun K hK => ?_) AllReadyH.nil
      go_simp
      refine (rReal_is A1 n1 k1 c1 e1 y m d _ ((hr1.keep hfr).keep hHeld.2) hk1 _ hq).mono ?_
      rintro e' wA ⟨rfl, hb⟩
      refine hK.out _ _ (kp_step hb hHeld) (fun hHeld => ?_)
      clear hK K
      (try simp only [Act.put, List.setIfInBounds_toArray, List.set_cons_zero, List.set_cons_succ])
      refine wpAnyH_take (i := 4) (oi := ⟨some 10, .move (.tmp 9), 4, "ref.go:181", #[⟨3, .data⟩, ⟨3, .chain⟩], none⟩) (v := ?_) rfl (by kernel_rfl) (by kernel_rfl) (by kernel_rfl) (fun _ _ _ h => h) (Or.inl ⟨by rfl, fun W hSw => ?_⟩) hHeld ?_
      rotate_left
      · (try dsimp only at hSw); go_simp; (try with_reducible rfl)
      (try simp only [Act.put, List.setIfInBounds_toArray, List.set_cons_zero, List.set_cons_succ])
      refine wpAnyH_take (i := 5) (oi := ⟨some 11, .fieldAddr 45 (.tmp 2) 0, 0, "ref.go:181", #[⟨4, .guard⟩], some (4, true)⟩) (v := ?_) rfl (by kernel_rfl) (by kernel_rfl) (by kernel_rfl) (fun _ _ _ h => h) (Or.inl ⟨by rfl, fun W hSw => ?_⟩) hHeld ?_
      rotate_left
      · (try dsimp only at hSw); go_simp; (try with_reducible rfl)
      (try simp only [Act.put, List.setIfInBounds_toArray, List.set_cons_zero, List.set_cons_succ])
      refine wpAnyH_take (i := 6) (oi := ⟨some 12, .load 24 (.tmp 11), 24, "ref.go:181", #[⟨5, .data⟩, ⟨4, .guard⟩], some (4, true)⟩) (v := ?_) rfl (by kernel_rfl) (by kernel_rfl) (by kernel_rfl) (fun _ _ _ h => h) (Or.inl ⟨by rfl, fun W hSw => ?_⟩) hHeld ?_
      rotate_left
      · (try dsimp only at hSw); go_simp; (try with_reducible rfl)
      (try simp only [Act.put, List.setIfInBounds_toArray, List.set_cons_zero, List.set_cons_succ])
      refine wpAnyH_take (i := 7) (oi := ⟨some 13, .load 38 (.tmp 3), 38, "ref.go:181", #[⟨4, .guard⟩], some (4, true)⟩) (v := ?_) rfl (by kernel_rfl) (by kernel_rfl) (by kernel_rfl) (fun _ _ _ h => h) (Or.inl ⟨by rfl, fun W hSw => ?_⟩) hHeld ?_
      rotate_left
      · (try dsimp only at hSw); go_simp; (try with_reducible rfl)
      (try simp only [Act.put, List.setIfInBounds_toArray, List.set_cons_zero, List.set_cons_succ])
      refine wpAnyH_take (i := 9) (oi := ⟨some 15, .fieldAddr 45 (.tmp 2) 2, 0, "ref.go:181", #[⟨4, .guard⟩], some (4, true)⟩) (v := ?_) rfl (by kernel_rfl) (by kernel_rfl) (by kernel_rfl) (fun _ _ _ h => h) (Or.inl ⟨by rfl, fun W hSw => ?_⟩) hHeld ?_
      rotate_left
      · (try dsimp only at hSw); go_simp; (try with_reducible rfl)
      (try simp only [Act.put, List.setIfInBounds_toArray, List.set_cons_zero, List.set_cons_succ])
      refine wpAnyH_take (i := 10) (oi := ⟨some 16, .load 3 (.tmp 15), 3, "ref.go:181", #[⟨9, .data⟩, ⟨4, .guard⟩], some (4, true)⟩) (v := ?_) rfl (by kernel_rfl) (by kernel_rfl) (by kernel_rfl) (fun _ _ _ h => h) (Or.inl ⟨by rfl, fun W hSw => ?_⟩) hHeld ?_
      rotate_left
      · (try dsimp only at hSw); go_simp; (try with_reducible rfl)
      (try simp only [Act.put, List.setIfInBounds_toArray, List.set_cons_zero, List.set_cons_succ])
      refine wpAnyH_ready (rs := [8]) (by kernel_rfl) (by simp) ?_
      refine AllReadyH.cons (o := ⟨some 14, .call { callee := .value (.func 82), args := #[.tmp 12, .tmp 13], argTypes := #[24, 38] }, 3, "ref.go:181", #[⟨6, .data⟩, ⟨7, .data⟩, ⟨4, .chain⟩, ⟨4, .guard⟩], some (4, true)⟩) rfl (fun K hK => ?_) AllReadyH.nil
      go_simp
      refine (rDay_any A1 n1 k1 c1 e1 y m d _ ((hr1.keep hfr).keep hHeld.2) hk1 hy.1 hy.2 hm.1 hm.2 hd.1 hd.2).mono ?_
      rintro e' wA ⟨rfl, hb⟩
      refine hK.out _ _ (kp_step hb hHeld) (fun hHeld => ?_)
      clear hK K
      (try simp only [Act.put, List.setIfInBounds_toArray, List.set_cons_zero, List.set_cons_succ])
      refine wpAnyH_take (i := 11) (oi := ⟨some 17, .binOp .leq 3 (.tmp 14) (.tmp 16) 3, 4, "ref.go:181", #[⟨8, .data⟩, ⟨10, .data⟩, ⟨4, .guard⟩], some (4, true)⟩) (v := ?_) rfl (by kernel_rfl) (by kernel_rfl) (by kernel_rfl) (fun _ _ _ h => h) (Or.inl ⟨by rfl, fun W hSw => ?_⟩) hHeld ?_
      rotate_left
      · (try dsimp only at hSw); go_simp; (try with_reducible rfl)
      (try simp only [Act.put, List.setIfInBounds_toArray, List.set_cons_zero, List.set_cons_succ])
      refine wpAnyH_take (i := 12) (oi := ⟨some 18, .pick (.tmp 10) (.tmp 17) (.const (.bool false)), 4, "ref.go:181", #[⟨4, .data⟩, ⟨11, .data⟩], none⟩) (v := ?_) rfl (by kernel_rfl) (by kernel_rfl) (by kernel_rfl) (fun _ _ _ h => h) (Or.inl ⟨by rfl, fun W hSw => ?_⟩) hHeld ?_
      rotate_left
      · (try dsimp only at hSw); go_simp; (try with_reducible rfl)
      (try simp only [Act.put, List.setIfInBounds_toArray, List.set_cons_zero, List.set_cons_succ])
      refine wpAnyH_done (by kernel_rfl) ?_ _
      refine NoPanic.normal ?_
      go_wp2_with fail
      go_meet
      case rel => exact ⟨by unfold db1; rw [hq]; rfl, hR.keep hHeld.2, hD.keep hHeld.2, fr_call hfr hHeld.2⟩
  case rest =>
    obtain ⟨rfl, hR', hD', hfr'⟩ := hcut
    clear hR hD hfr
    obtain ⟨hR, hD, hfr⟩ := And.intro hR' (And.intro hD' hfr')
    clear hR' hD' hfr'
    cases hb1 : db1 c1 e1 last y m d
    · go_upto_region 4 with (fail)
      go_cut [38] from 26 (fun s38 wd => s38 = .bool (db2 c2 e2 last y m d) ∧ Blk wd w.heap.size 45 #[.int .i64 e1, .slice A1 n1 k1, .int .i64 e2, .slice A2 n2 k2, .int .i64 last] ∧ Blk wd (w.heap.size + 1) 38 #[.int .i64 y, .int .i64 m, .int .i64 d] ∧ Below w.heap.size w wd)
      case first =>
        have hcR := fun j => hR.cell j
        have hcD := fun j => hD.cell j
        have hz0 := hR.lt
        have hz1 := hD.lt
        cases hq : realB c2 y m d
        · refine wp_region_noPanic ?_
          refine wp_region_held_drew (S := fun W => (∀ p : Addr, p.block < (wc).heap.size → W.cell? p = (wc).cell? p) ∧ Below (wc).heap.size (wc) W) (by kernel_rfl) ⟨fun _ _ => rfl, fr_drew (fr_refl _)⟩ (fun hHeld => ?_)
          -- the region, step by step
          refine wpAnyH_take (i := 0) (oi := ⟨some 26, .fieldAddr 45 (.tmp 2) 1, 0, "ref.go:184", #[], none⟩) (v := ?_) rfl (by kernel_rfl) (by kernel_rfl) (by kernel_rfl) (fun _ _ _ h => h) (Or.inl ⟨by rfl, fun W hSw => ?_⟩) hHeld ?_
          rotate_left
          · (try dsimp only at hSw); go_simp; (try with_reducible rfl)
          (try simp only [Act.put, List.setIfInBounds_toArray, List.set_cons_zero, List.set_cons_succ])
          refine wpAnyH_take (i := 1) (oi := ⟨some 27, .load 24 (.tmp 26), 24, "ref.go:184", #[⟨0, .data⟩], none⟩) (v := ?_) rfl (by kernel_rfl) (by kernel_rfl) (by kernel_rfl) (fun _ _ _ h => h) (Or.inl ⟨by rfl, fun W hSw => ?_⟩) hHeld ?_
          rotate_left
          · (try dsimp only at hSw); go_simp; (try with_reducible rfl)
          (try simp only [Act.put, List.setIfInBounds_toArray, List.set_cons_zero, List.set_cons_succ])
          refine wpAnyH_take (i := 2) (oi := ⟨some 28, .load 38 (.tmp 3), 38, "ref.go:184", #[], none⟩) (v := ?_) rfl (by kernel_rfl) (by kernel_rfl) (by kernel_rfl) (fun _ _ _ h => h) (Or.inl ⟨by rfl, fun W hSw => ?_⟩) hHeld ?_
          rotate_left
          · (try dsimp only at hSw); go_simp; (try with_reducible rfl)
          (try simp only [Act.put, List.setIfInBounds_toArray, List.set_cons_zero, List.set_cons_succ])
          refine wpAnyH_ready (rs := [3]) (by kernel_rfl) (by simp) ?_
          refine AllReadyH.cons (o := ⟨some 29, .call { callee := .value (.func 23), args := #[.tmp 27, .tmp 28], argTypes := #[24, 38] }, 4, "ref.go:184", #[⟨1, .data⟩, ⟨2, .data⟩], none⟩) rfl (fun K hK => ?_) AllReadyH.nil
          go_simp
          refine (rReal_is A2 n2 k2 c2 e2 y m d _ ((hr2.keep hfr).keep hHeld.2) hk2 _ hq).mono ?_
          rintro e' wA ⟨rfl, hb⟩
          refine hK.out _ _ (kp_step hb hHeld) (fun hHeld => ?_)
          clear hK K
          (try simp only [Act.put, List.setIfInBounds_toArray, List.set_cons_zero, List.set_cons_succ])
          refine wpAnyH_take (i := 4) (oi := ⟨some 30, .move (.tmp 29), 4, "ref.go:184", #[⟨3, .data⟩, ⟨3, .chain⟩], none⟩) (v := ?_) rfl (by kernel_rfl) (by kernel_rfl) (by kernel_rfl) (fun _ _ _ h => h) (Or.inl ⟨by rfl, fun W hSw => ?_⟩) hHeld ?_
          rotate_left
          · (try dsimp only at hSw); go_simp; (try with_reducible rfl)
          (try simp only [Act.put, List.setIfInBounds_toArray, List.set_cons_zero, List.set_cons_succ])
          refine wpAnyH_take (i := 5) (oi := ⟨some 31, .fieldAddr 45 (.tmp 2) 1, 0, "ref.go:184", #[⟨4, .guard⟩], some (4, true)⟩) (v := undef) rfl (by kernel_rfl) (by kernel_rfl) (by kernel_rfl) (fun _ _ _ h => h) (Or.inr ⟨by rfl, rfl⟩) hHeld ?_
          (try simp only [Act.put, List.setIfInBounds_toArray, List.set_cons_zero, List.set_cons_succ])
          refine wpAnyH_take (i := 6) (oi := ⟨some 32, .load 24 (.tmp 31), 24, "ref.go:184", #[⟨5, .data⟩, ⟨4, .guard⟩], some (4, true)⟩) (v := undef) rfl (by kernel_rfl) (by kernel_rfl) (by kernel_rfl) (fun _ _ _ h => h) (Or.inr ⟨by rfl, rfl⟩) hHeld ?_
          (try simp only [Act.put, List.setIfInBounds_toArray, List.set_cons_zero, List.set_cons_succ])
          refine wpAnyH_take (i := 7) (oi := ⟨some 33, .load 38 (.tmp 3), 38, "ref.go:184", #[⟨4, .guard⟩], some (4, true)⟩) (v := undef) rfl (by kernel_rfl) (by kernel_rfl) (by kernel_rfl) (fun _ _ _ h => h) (Or.inr ⟨by rfl, rfl⟩) hHeld ?_
          (try simp only [Act.put, List.setIfInBounds_toArray, List.set_cons_zero, List.set_cons_succ])
          refine wpAnyH_take (i := 8) (oi := ⟨some 34, .call { callee := .value (.func 82), args := #[.tmp 32, .tmp 33], argTypes := #[24, 38] }, 3, "ref.go:184", #[⟨6, .data⟩, ⟨7, .data⟩, ⟨4, .chain⟩, ⟨4, .guard⟩], some (4, true)⟩) (v := undef) rfl (by kernel_rfl) (by kernel_rfl) (by kernel_rfl) (fun _ _ _ h => h) (Or.inr ⟨by rfl, rfl⟩) hHeld ?_
          (try simp only [Act.put, List.setIfInBounds_toArray, List.set_cons_zero, List.set_cons_succ])
          refine wpAnyH_take (i := 9) (oi := ⟨some 35, .fieldAddr 45 (.tmp 2) 2, 0, "ref.go:184", #[⟨4, .guard⟩], some (4, true)⟩) (v := undef) rfl (by kernel_rfl) (by kernel_rfl) (by kernel_rfl) (fun _ _ _ h => h) (Or.inr ⟨by rfl, rfl⟩) hHeld ?_
          (try simp only [Act.put, List.setIfInBounds_toArray, List.set_cons_zero, List.set_cons_succ])
          refine wpAnyH_take (i := 10) (oi := ⟨some 36, .load 3 (.tmp 35), 3, "ref.go:184", #[⟨9, .data⟩, ⟨4, .guard⟩], some (4, true)⟩) (v := undef) rfl (by kernel_rfl) (by kernel_rfl) (by kernel_rfl) (fun _ _ _ h => h) (Or.inr ⟨by rfl, rfl⟩) hHeld ?_
          (try simp only [Act.put, List.setIfInBounds_toArray, List.set_cons_zero, List.set_cons_succ])
          refine wpAnyH_take (i := 11) (oi := ⟨some 37, .binOp .gtr 3 (.tmp 34) (.tmp 36) 3, 4, "ref.go:184", #[⟨8, .data⟩, ⟨10, .data⟩, ⟨4, .guard⟩], some (4, true)⟩) (v := undef) rfl (by kernel_rfl) (by kernel_rfl) (by kernel_rfl) (fun _ _ _ h => h) (Or.inr ⟨by rfl, rfl⟩) hHeld ?_
          (try simp only [Act.put, List.setIfInBounds_toArray, List.set_cons_zero, List.set_cons_succ])
          refine wpAnyH_take (i := 12) (oi := ⟨some 38, .pick (.tmp 30) (.tmp 37) (.const (.bool false)), 4, "ref.go:184", #[⟨4, .data⟩, ⟨11, .data⟩], none⟩) (v := ?_) rfl (by kernel_rfl) (by kernel_rfl) (by kernel_rfl) (fun _ _ _ h => h) (Or.inl ⟨by rfl, fun W hSw => ?_⟩) hHeld ?_
          rotate_left
          · (try dsimp only at hSw); go_simp; (try with_reducible rfl)
          (try simp only [Act.put, List.setIfInBounds_toArray, List.set_cons_zero, List.set_cons_succ])
          refine wpAnyH_done (by kernel_rfl) ?_ _
          refine NoPanic.normal ?_
          go_wp2_with fail
          go_meet
          case rel => exact ⟨by unfold db2; rw [hq]; rfl, hR.keep hHeld.2, hD.keep hHeld.2, fr_call hfr hHeld.2⟩
        · obtain ⟨hy, hm, hd⟩ := real_parts hq
          refine wp_region_noPanic ?_
          refine wp_region_held_drew (S := fun W => (∀ p : Addr, p.block < (wc).heap.size → W.cell? p = (wc).cell? p) ∧ Below (wc).heap.size (wc) W) (by kernel_rfl) ⟨fun _ _ => rfl, fr_drew (fr_refl _)⟩ (fun hHeld => ?_)
          -- the region, step by step
          refine wpAnyH_take (i := 0) (oi := ⟨some 26, .fieldAddr 45 (.tmp 2) 1, 0, "ref.go:184", #[], none⟩) (v := ?_) rfl (by kernel_rfl) (by kernel_rfl) (by kernel_rfl) (fun _ _ _ h => h) (Or.inl ⟨by rfl, fun W hSw => ?_⟩) hHeld ?_
          rotate_left
          · (try dsimp only at hSw); go_simp; (try with_reducible rfl)
          (try simp only [Act.put, List.setIfInBounds_toArray, List.set_cons_zero, List.set_cons_succ])
          refine wpAnyH_take (i := 1) (oi := ⟨some 27, .load 24 (.tmp 26), 24, "ref.go:184", #[⟨0, .data⟩], none⟩) (v := ?_) rfl (by kernel_rfl) (by kernel_rfl) (by kernel_rfl) (fun _ _ _ h => h) (Or.inl ⟨by rfl, fun W hSw => ?_⟩) hHeld ?_
          rotate_left
          · (try dsimp only at hSw); go_simp; (try with_reducible rfl)
          (try simp only [Act.put, List.setIfInBounds_toArray, List.set_cons_zero, List.set_cons_succ])
          refine wpAnyH_take (i := 2) (oi := ⟨some 28, .load 38 (.tmp 3), 38, "ref.go:184", #[], none⟩) (v := ?_) rfl (by kernel_rfl) (by kernel_rfl) (by kernel_rfl) (fun _ _ _ h => h) (Or.inl ⟨by rfl, fun W hSw => ?_⟩) hHeld ?_
          rotate_left
          · (try dsimp only at hSw); go_simp; (try with_reducible rfl)
          (try simp only [Act.put, List.setIfInBounds_toArray, List.set_cons_zero, List.set_cons_succ])
          refine wpAnyH_ready (rs := [3]) (by kernel_rfl) (by simp) ?_
          refine AllReadyH.cons (o := ⟨some 29, .call { callee := .value (.func 23), args := #[.tmp 27, .tmp 28], argTypes := #[24, 38] }, 4, "ref.go:184", #[⟨1, .data⟩, ⟨2, .data⟩], none⟩) rfl (fun K hK => ?_) AllReadyH.nil
          go_simp
          refine (rReal_is A2 n2 k2 c2 e2 y m d _ ((hr2.keep hfr).keep hHeld.2) hk2 _ hq).mono ?_
          rintro e' wA ⟨rfl, hb⟩
          refine hK.out _ _ (kp_step hb hHeld) (fun hHeld => ?_)
          clear hK K
          (try simp only [Act.put, List.setIfInBounds_toArray, List.set_cons_zero, List.set_cons_succ])
          refine wpAnyH_take (i := 4) (oi := ⟨some 30, .move (.tmp 29), 4, "ref.go:184", #[⟨3, .data⟩, ⟨3, .chain⟩], none⟩) (v := ?_) rfl (by kernel_rfl) (by kernel_rfl) (by kernel_rfl) (fun _ _ _ h => h) (Or.inl ⟨by rfl, fun W hSw => ?_⟩) hHeld ?_
          rotate_left
          · (try dsimp only at hSw); go_simp; (try with_reducible rfl)
          (try simp only [Act.put, List.setIfInBounds_toArray, List.set_cons_zero, List.set_cons_succ])
          refine wpAnyH_take (i := 5) (oi := ⟨some 31, .fieldAddr 45 (.tmp 2) 1, 0, "ref.go:184", #[⟨4, .guard⟩], some (4, true)⟩) (v := ?_) rfl (by kernel_rfl) (by kernel_rfl) (by kernel_rfl) (fun _ _ _ h => h) (Or.inl ⟨by rfl, fun W hSw => ?_⟩) hHeld ?_
          rotate_left
          · (try dsimp only at hSw); go_simp; (try with_reducible rfl)
          (try simp only [Act.put, List.setIfInBounds_toArray, List.set_cons_zero, List.set_cons_succ])
          refine wpAnyH_take (i := 6) (oi := ⟨some 32, .load 24 (.tmp 31), 24, "ref.go:184", #[⟨5, .data⟩, ⟨4, .guard⟩], some (4, true)⟩) (v := ?_) rfl (by kernel_rfl) (by kernel_rfl) (by kernel_rfl) (fun _ _ _ h => h) (Or.inl ⟨by rfl, fun W hSw => ?_⟩) hHeld ?_
          rotate_left
          · (try dsimp only at hSw); go_simp; (try with_reducible rfl)
          (try simp only [Act.put, List.setIfInBounds_toArray, List.set_cons_zero, List.set_cons_succ])
          refine wpAnyH_take (i := 7) (oi := ⟨some 33, .load 38 (.tmp 3), 38, "ref.go:184", #[⟨4, .guard⟩], some (4, true)⟩) (v := ?_) rfl (by kernel_rfl) (by kernel_rfl) (by kernel_rfl) (fun _ _ _ h => h) (Or.inl ⟨by rfl, fun W hSw => ?_⟩) hHeld ?_
          rotate_left
          · (try dsimp only at hSw); go_simp; (try with_reducible rfl)
          (try simp only [Act.put, List.setIfInBounds_toArray, List.set_cons_zero, List.set_cons_succ])
          refine wpAnyH_take (i := 9) (oi := ⟨some 35, .fieldAddr 45 (.tmp 2) 2, 0, "ref.go:184", #[⟨4, .guard⟩], some (4, true)⟩) (v := ?_) rfl (by kernel_rfl) (by kernel_rfl) (by kernel_rfl) (fun _ _ _ h => h) (Or.inl ⟨by rfl, fun W hSw => ?_⟩) hHeld ?_
          rotate_left
          · (try dsimp only at hSw); go_simp; (try with_reducible rfl)
          (try simp only [Act.put, List.setIfInBounds_toArray, List.set_cons_zero, List.set_cons_succ])
          refine wpAnyH_take (i := 10) (oi := ⟨some 36, .load 3 (.tmp 35), 3, "ref.go:184", #[⟨9, .data⟩, ⟨4, .guard⟩], some (4, true)⟩) (v := ?_) rfl (by kernel_rfl) (by kernel_rfl) (by kernel_rfl) (fun _ _ _ h => h) (Or.inl ⟨by rfl, fun W hSw => ?_⟩) hHeld ?_
          rotate_left
          · (try dsimp only at hSw); go_simp; (try with_reducible rfl)
          (try simp only [Act.put, List.setIfInBounds_toArray, List.set_cons_zero, List.set_cons_succ])
          refine wpAnyH_ready (rs := [8]) (by kernel_rfl) (by simp) ?_
          refine AllReadyH.cons (o := ⟨some 34, .call { callee := .value (.func 82), args := #[.tmp 32, .tmp 33], argTypes := #[24, 38] }, 3, "ref.go:184", #[⟨6, .data⟩, ⟨7, .data⟩, ⟨4, .chain⟩, ⟨4, .guard⟩], some (4, true)⟩) rfl (fun K hK => ?_) AllReadyH.nil
          go_simp
          refine (rDay_any A2 n2 k2 c2 e2 y m d _ ((hr2.keep hfr).keep hHeld.2) hk2 hy.1 hy.2 hm.1 hm.2 hd.1 hd.2).mono ?_
          rintro e' wA ⟨rfl, hb⟩
          refine hK.out _ _ (kp_step hb hHeld) (fun hHeld => ?_)
          clear hK K
          (try simp only [Act.put, List.setIfInBounds_toArray, List.set_cons_zero, List.set_cons_succ])
          refine wpAnyH_take (i := 11) (oi := ⟨some 37, .binOp .gtr 3 (.tmp 34) (.tmp 36) 3, 4, "ref.go:184", #[⟨8, .data⟩, ⟨10, .data⟩, ⟨4, .guard⟩], some (4, true)⟩) (v := ?_) rfl (by kernel_rfl) (by kernel_rfl) (by kernel_rfl) (fun _ _ _ h => h) (Or.inl ⟨by rfl, fun W hSw => ?_⟩) hHeld ?_
          rotate_left
          · (try dsimp only at hSw); go_simp; (try with_reducible rfl)
          (try simp only [Act.put, List.setIfInBounds_toArray, List.set_cons_zero, List.set_cons_succ])
          refine wpAnyH_take (i := 12) (oi := ⟨some 38, .pick (.tmp 30) (.tmp 37) (.const (.bool false)), 4, "ref.go:184", #[⟨4, .data⟩, ⟨11, .data⟩], none⟩) (v := ?_) rfl (by kernel_rfl) (by kernel_rfl) (by kernel_rfl) (fun _ _ _ h => h) (Or.inl ⟨by rfl, fun W hSw => ?_⟩) hHeld ?_
          rotate_left
          · (try dsimp only at hSw); go_simp; (try with_reducible rfl)
          (try simp only [Act.put, List.setIfInBounds_toArray, List.set_cons_zero, List.set_cons_succ])
          refine wpAnyH_done (by kernel_rfl) ?_ _
          refine NoPanic.normal ?_
          go_wp2_with fail
          go_meet
          case rel => exact ⟨by unfold db2; rw [hq]; rfl, hR.keep hHeld.2, hD.keep hHeld.2, fr_call hfr hHeld.2⟩
      case rest =>
        obtain ⟨rfl, hR', hD', hfr'⟩ := hcut
        clear hR hD hfr
        obtain ⟨hR, hD, hfr⟩ := And.intro hR' (And.intro hD' hfr')
        clear hR' hD' hfr'
        cases hb2 : db2 c2 e2 last y m d
        · go_wp2_with fail
          go_ret
          (try rw [hb1]); (try rw [hb2])
          exact ⟨none, 0, rfl, Rd.nil_ _ _, hfr⟩
        · obtain ⟨hq, hle⟩ := db2_yes hb2
          obtain ⟨hy, hm, hd⟩ := real_parts hq
          have hcR := fun j => hR.cell j
          have hcD := fun j => hD.cell j
          go_wp2_with fail
          refine (rDay_any A2 n2 k2 c2 e2 y m d _ (hr2.keep hfr) hk2 hy.1 hy.2 hm.1 hm.2 hd.1 hd.2).mono ?_
          rintro e' wB ⟨rfl, hb⟩
          replace hR := hR.keep hb
          replace hD := hD.keep hb
          replace hfr := fr_call hfr hb
          have hown := Own.nil wB w.heap.size
          clear hb hcR hcD
          go_wp2_with (at_builtin; refine app_int rfl (.tmp 39) (.tmp 44) rfl w.heap.size _ [] rfl rfl hown (by simp) hfr.size ?_; intro B2 cap2 wC hown' hg)
          have ha := fr_alloc (fr_refl wB) (.cells #[.int .i64 (dayOf e2 c2 ⟨y, m, d⟩)] 3)
          have hge := own_ge hown
          have hR' := (hR.keep ha).grown hg (Ne.symm (own_blk_ne hown hR (by decide)))
          have hD' := (hD.keep ha).grown hg (Ne.symm (own_blk_ne hown hD (by decide)))
          replace hfr := (fr_call hfr ha).grown hg (fr_call hfr ha).size hge
          replace hR := hR'
          replace hD := hD'
          replace hown := hown'
          clear hown' hR' hD' hg hge ha
          go_wp2_with fail
          go_ret
          (try rw [hb1]); (try rw [hb2])
          exact ⟨_, _, rfl, hown.rd, hfr⟩
    · obtain ⟨hq, hle⟩ := db1_yes hb1
      obtain ⟨hy, hm, hd⟩ := real_parts hq
      have hcR := fun j => hR.cell j
      have hcD := fun j => hD.cell j
      go_wp2_with fail
      refine (rDay_any A1 n1 k1 c1 e1 y m d _ (hr1.keep hfr) hk1 hy.1 hy.2 hm.1 hm.2 hd.1 hd.2).mono ?_
      rintro e' wB ⟨rfl, hb⟩
      replace hR := hR.keep hb
      replace hD := hD.keep hb
      replace hfr := fr_call hfr hb
      have hown := Own.nil wB w.heap.size
      clear hb hcR hcD
      go_wp2_with (at_builtin; refine app_int rfl (.tmp 19) (.tmp 24) rfl w.heap.size _ [] rfl rfl hown (by simp) hfr.size ?_; intro B1 cap1 wC hown' hg)
      have ha := fr_alloc (fr_refl wB) (.cells #[.int .i64 (dayOf e1 c1 ⟨y, m, d⟩)] 3)
      have hge := own_ge hown
      have hR' := (hR.keep ha).grown hg (Ne.symm (own_blk_ne hown hR (by decide)))
      have hD' := (hD.keep ha).grown hg (Ne.symm (own_blk_ne hown hD (by decide)))
      replace hfr := (fr_call hfr ha).grown hg (fr_call hfr ha).size hge
      replace hR := hR'
      replace hD := hD'
      replace hown := hown'
      clear hown' hR' hD' hg hge ha
      go_upto_region 4 with (fail)
      go_cut [38] from 26 (fun s38 wd => s38 = .bool (db2 c2 e2 last y m d) ∧ Own wd w.heap.size (.slice B1 1 cap1) [dayOf e1 c1 ⟨y, m, d⟩] ∧ Blk wd w.heap.size 45 #[.int .i64 e1, .slice A1 n1 k1, .int .i64 e2, .slice A2 n2 k2, .int .i64 last] ∧ Blk wd (w.heap.size + 1) 38 #[.int .i64 y, .int .i64 m, .int .i64 d] ∧ Below w.heap.size w wd)
      case first =>
        have hcR := fun j => hR.cell j
        have hcD := fun j => hD.cell j
        have hz0 := hR.lt
        have hz1 := hD.lt
        cases hq : realB c2 y m d
        · refine wp_region_noPanic ?_
          refine wp_region_held_drew (S := fun W => (∀ p : Addr, p.block < (wC).heap.size → W.cell? p = (wC).cell? p) ∧ Below (wC).heap.size (wC) W) (by kernel_rfl) ⟨fun _ _ => rfl, fr_drew (fr_refl _)⟩ (fun hHeld => ?_)
          -- the region, step by step
          refine wpAnyH_take (i := 0) (oi := ⟨some 26, .fieldAddr 45 (.tmp 2) 1, 0, "ref.go:184", #[], none⟩) (v := ?_) rfl (by kernel_rfl) (by kernel_rfl) (by kernel_rfl) (fun _ _ _ h => h) (Or.inl ⟨by rfl, fun W hSw => ?_⟩) hHeld ?_
          rotate_left
          · (try dsimp only at hSw); go_simp; (try with_reducible rfl)
          (try simp only [Act.put, List.setIfInBounds_toArray, List.set_cons_zero, List.set_cons_succ])
          refine wpAnyH_take (i := 1) (oi := ⟨some 27, .load 24 (.tmp 26), 24, "ref.go:184", #[⟨0, .data⟩], none⟩) (v := ?_) rfl (by kernel_rfl) (by kernel_rfl) (by kernel_rfl) (fun _ _ _ h => h) (Or.inl ⟨by rfl, fun W hSw => ?_⟩) hHeld ?_
          rotate_left
          · (try dsimp only at hSw); go_simp; (try with_reducible rfl)
          (try simp only [Act.put, List.setIfInBounds_toArray, List.set_cons_zero, List.set_cons_succ])
          refine wpAnyH_take (i := 2) (oi := ⟨some 28, .load 38 (.tmp 3), 38, "ref.go:184", #[], none⟩) (v := ?_) rfl (by kernel_rfl) (by kernel_rfl) (by kernel_rfl) (fun _ _ _ h => h) (Or.inl ⟨by rfl, fun W hSw => ?_⟩) hHeld ?_
          rotate_left
          · (try dsimp only at hSw); go_simp; (try with_reducible rfl)
          (try simp only [Act.put, List.setIfInBounds_toArray, List.set_cons_zero, List.set_cons_succ])
          refine wpAnyH_ready (rs := [3]) (by kernel_rfl) (by simp) ?_
          refine AllReadyH.cons (o := ⟨some 29, .call { callee := .value (.func 23), args := #[.tmp 27, .tmp 28], argTypes := #[24, 38] }, 4, "ref.go:184", #[⟨1, .data⟩, ⟨2, .data⟩], none⟩) rfl (fun K hK => ?_) AllReadyH.nil
          go_simp
          refine (rReal_is A2 n2 k2 c2 e2 y m d _ ((hr2.keep hfr).keep hHeld.2) hk2 _ hq).mono ?_
          rintro e' wA ⟨rfl, hb⟩
          refine hK.out _ _ (kp_step hb hHeld) (fun hHeld => ?_)
          clear hK K
          (try simp only [Act.put, List.setIfInBounds_toArray, List.set_cons_zero, List.set_cons_succ])
          refine wpAnyH_take (i := 4) (oi := ⟨some 30, .move (.tmp 29), 4, "ref.go:184", #[⟨3, .data⟩, ⟨3, .chain⟩], none⟩) (v := ?_) rfl (by kernel_rfl) (by kernel_rfl) (by kernel_rfl) (fun _ _ _ h => h) (Or.inl ⟨by rfl, fun W hSw => ?_⟩) hHeld ?_
          rotate_left
          · (try dsimp only at hSw); go_simp; (try with_reducible rfl)
          (try simp only [Act.put, List.setIfInBounds_toArray, List.set_cons_zero, List.set_cons_succ])
          refine wpAnyH_take (i := 5) (oi := ⟨some 31, .fieldAddr 45 (.tmp 2) 1, 0, "ref.go:184", #[⟨4, .guard⟩], some (4, true)⟩) (v := undef) rfl (by kernel_rfl) (by kernel_rfl) (by kernel_rfl) (fun _ _ _ h => h) (Or.inr ⟨by rfl, rfl⟩) hHeld ?_
          (try simp only [Act.put, List.setIfInBounds_toArray, List.set_cons_zero, List.set_cons_succ])
          refine wpAnyH_take (i := 6) (oi := ⟨some 32, .load 24 (.tmp 31), 24, "ref.go:184", #[⟨5, .data⟩, ⟨4, .guard⟩], some (4, true)⟩) (v := undef) rfl (by kernel_rfl) (by kernel_rfl) (by kernel_rfl) (fun _ _ _ h => h) (Or.inr ⟨by rfl, rfl⟩) hHeld ?_
          (try simp only [Act.put, List.setIfInBounds_toArray, List.set_cons_zero, List.set_cons_succ])
          refine wpAnyH_take (i := 7) (oi := ⟨some 33, .load 38 (.tmp 3), 38, "ref.go:184", #[⟨4, .guard⟩], some (4, true)⟩) (v := undef) rfl (by kernel_rfl) (by kernel_rfl) (by kernel_rfl) (fun _ _ _ h => h) (Or.inr ⟨by rfl, rfl⟩) hHeld ?_
          (try simp only [Act.put, List.setIfInBounds_toArray, List.set_cons_zero, List.set_cons_succ])
          refine wpAnyH_take (i := 8) (oi := ⟨some 34, .call { callee := .value (.func 82), args := #[.tmp 32, .tmp 33], argTypes := #[24, 38] }, 3, "ref.go:184", #[⟨6, .data⟩, ⟨7, .data⟩, ⟨4, .chain⟩, ⟨4, .guard⟩], some (4, true)⟩) (v := undef) rfl (by kernel_rfl) (by kernel_rfl) (by kernel_rfl) (fun _ _ _ h => h) (Or.inr ⟨by rfl, rfl⟩) hHeld ?_
          (try simp only [Act.put, List.setIfInBounds_toArray, List.set_cons_zero, List.set_cons_succ])
          refine wpAnyH_take (i := 9) (oi := ⟨some 35, .fieldAddr 45 (.tmp 2) 2, 0, "ref.go:184", #[⟨4, .guard⟩], some (4, true)⟩) (v := undef) rfl (by kernel_rfl) (by kernel_rfl) (by kernel_rfl) (fun _ _ _ h => h) (Or.inr ⟨by rfl, rfl⟩) hHeld ?_
          (try simp only [Act.put, List.setIfInBounds_toArray, List.set_cons_zero, List.set_cons_succ])
          refine wpAnyH_take (i := 10) (oi := ⟨some 36, .load 3 (.tmp 35), 3, "ref.go:184", #[⟨9, .data⟩, ⟨4, .guard⟩], some (4, true)⟩) (v := undef) rfl (by kernel_rfl) (by kernel_rfl) (by kernel_rfl) (fun _ _ _ h => h) (Or.inr ⟨by rfl, rfl⟩) hHeld ?_
          (try simp only [Act.put, List.setIfInBounds_toArray, List.set_cons_zero, List.set_cons_succ])
          refine wpAnyH_take (i := 11) (oi := ⟨some 37, .binOp .gtr 3 (.tmp 34) (.tmp 36) 3, 4, "ref.go:184", #[⟨8, .data⟩, ⟨10, .data⟩, ⟨4, .guard⟩], some (4, true)⟩) (v := undef) rfl (by kernel_rfl) (by kernel_rfl) (by kernel_rfl) (fun _ _ _ h => h) (Or.inr ⟨by rfl, rfl⟩) hHeld ?_
          (try simp only [Act.put, List.setIfInBounds_toArray, List.set_cons_zero, List.set_cons_succ])
          refine wpAnyH_take (i := 12) (oi := ⟨some 38, .pick (.tmp 30) (.tmp 37) (.const (.bool false)), 4, "ref.go:184", #[⟨4, .data⟩, ⟨11, .data⟩], none⟩) (v := ?_) rfl (by kernel_rfl) (by kernel_rfl) (by kernel_rfl) (fun _ _ _ h => h) (Or.inl ⟨by rfl, fun W hSw => ?_⟩) hHeld ?_
          rotate_left
          · (try dsimp only at hSw); go_simp; (try with_reducible rfl)
          (try simp only [Act.put, List.setIfInBounds_toArray, List.set_cons_zero, List.set_cons_succ])
          refine wpAnyH_done (by kernel_rfl) ?_ _
          refine NoPanic.normal ?_
          go_wp2_with fail
          go_meet
          case rel => exact ⟨by unfold db2; rw [hq]; rfl, hown.keep hHeld.2, hR.keep hHeld.2, hD.keep hHeld.2, fr_call hfr hHeld.2⟩
        · obtain ⟨hy, hm, hd⟩ := real_parts hq
          refine wp_region_noPanic ?_
          refine wp_region_held_drew (S := fun W => (∀ p : Addr, p.block < (wC).heap.size → W.cell? p = (wC).cell? p) ∧ Below (wC).heap.size (wC) W) (by kernel_rfl) ⟨fun _ _ => rfl, fr_drew (fr_refl _)⟩ (fun hHeld => ?_)
          -- the region, step by step
          refine wpAnyH_take (i := 0) (oi := ⟨some 26, .fieldAddr 45 (.tmp 2) 1, 0, "ref.go:184", #[], none⟩) (v := ?_) rfl (by kernel_rfl) (by kernel_rfl) (by kernel_rfl) (fun _ _ _ h => h) (Or.inl ⟨by rfl, fun W hSw => ?_⟩) hHeld ?_
          rotate_left
          · (try dsimp only at hSw); go_simp; (try with_reducible rfl)
          (try simp only [Act.put, List.setIfInBounds_toArray, List.set_cons_zero, List.set_cons_succ])
          refine wpAnyH_take (i := 1) (oi := ⟨some 27, .load 24 (.tmp 26), 24, "ref.go:184", #[⟨0, .data⟩], none⟩) (v := ?_) rfl (by kernel_rfl) (by kernel_rfl) (by kernel_rfl) (fun _ _ _ h => h) (Or.inl ⟨by rfl, fun W hSw => ?_⟩) hHeld ?_
          rotate_left
          · (try dsimp only at hSw); go_simp; (try with_reducible rfl)
          (try simp only [Act.put, List.setIfInBounds_toArray, List.set_cons_zero, List.set_cons_succ])
          refine wpAnyH_take (i := 2) (oi := ⟨some 28, .load 38 (.tmp 3), 38, "ref.go:184", #[], none⟩) (v := ?_) rfl (by kernel_rfl) (by kernel_rfl) (by kernel_rfl) (fun _ _ _ h => h) (Or.inl ⟨by rfl, fun W hSw => ?_⟩) hHeld ?_
          rotate_left
          · (try dsimp only at hSw); go_simp; (try with_reducible rfl)
          (try simp only [Act.put, List.setIfInBounds_toArray, List.set_cons_zero, List.set_cons_succ])
          refine wpAnyH_ready (rs := [3]) (by kernel_rfl) (by simp) ?_
          refine AllReadyH.cons (o := ⟨some 29, .call { callee := .value (.func 23), args := #[.tmp 27, .tmp 28], argTypes := #[24, 38] }, 4, "ref.go:184", #[⟨1, .data⟩, ⟨2, .data⟩], none⟩) rfl (fun K hK => ?_) AllReadyH.nil
          go_simp
          refine (rReal_is A2 n2 k2 c2 e2 y m d _ ((hr2.keep hfr).keep hHeld.2) hk2 _ hq).mono ?_
          rintro e' wA ⟨rfl, hb⟩
          refine hK.out _ _ (kp_step hb hHeld) (fun hHeld => ?_)
          clear hK K
          (try simp only [Act.put, List.setIfInBounds_toArray, List.set_cons_zero, List.set_cons_succ])
          refine wpAnyH_take (i := 4) (oi := ⟨some 30, .move (.tmp 29), 4, "ref.go:184", #[⟨3, .data⟩, ⟨3, .chain⟩], none⟩) (v := ?_) rfl (by kernel_rfl) (by kernel_rfl) (by kernel_rfl) (fun _ _ _ h => h) (Or.inl ⟨by rfl, fun W hSw => ?_⟩) hHeld ?_
          rotate_left
          · (try dsimp only at hSw); go_simp; (try with_reducible rfl)
          (try simp only [Act.put, List.setIfInBounds_toArray, List.set_cons_zero, List.set_cons_succ])
          refine wpAnyH_take (i := 5) (oi := ⟨some 31, .fieldAddr 45 (.tmp 2) 1, 0, "ref.go:184", #[⟨4, .guard⟩], some (4, true)⟩) (v := ?_) rfl (by kernel_rfl) (by kernel_rfl) (by kernel_rfl) (fun _ _ _ h => h) (Or.inl ⟨by rfl, fun W hSw => ?_⟩) hHeld ?_
          rotate_left
          · (try dsimp only at hSw); go_simp; (try with_reducible rfl)
          (try simp only [Act.put, List.setIfInBounds_toArray, List.set_cons_zero, List.set_cons_succ])
          refine wpAnyH_take (i := 6) (oi := ⟨some 32, .load 24 (.tmp 31), 24, "ref.go:184", #[⟨5, .data⟩, ⟨4, .guard⟩], some (4, true)⟩) (v := ?_) rfl (by kernel_rfl) (by kernel_rfl) (by kernel_rfl) (fun _ _ _ h => h) (Or.inl ⟨by rfl, fun W hSw => ?_⟩) hHeld ?_
          rotate_left
          · (try dsimp only at hSw); go_simp; (try with_reducible rfl)
          (try simp only [Act.put, List.setIfInBounds_toArray, List.set_cons_zero, List.set_cons_succ])
          refine wpAnyH_take (i := 7) (oi := ⟨some 33, .load 38 (.tmp 3), 38, "ref.go:184", #[⟨4, .guard⟩], some (4, true)⟩) (v := ?_) rfl (by kernel_rfl) (by kernel_rfl) (by kernel_rfl) (fun _ _ _ h => h) (Or.inl ⟨by rfl, fun W hSw => ?_⟩) hHeld ?_
          rotate_left
          · (try dsimp only at hSw); go_simp; (try with_reducible rfl)
          (try simp only [Act.put, List.setIfInBounds_toArray, List.set_cons_zero, List.set_cons_succ])
          refine wpAnyH_take (i := 9) (oi := ⟨some 35, .fieldAddr 45 (.tmp 2) 2, 0, "ref.go:184", #[⟨4, .guard⟩], some (4, true)⟩) (v := ?_) rfl (by kernel_rfl) (by kernel_rfl) (by kernel_rfl) (fun _ _ _ h => h) (Or.inl ⟨by rfl, fun W hSw => ?_⟩) hHeld ?_
          rotate_left
          · (try dsimp only at hSw); go_simp; (try with_reducible rfl)
          (try simp only [Act.put, List.setIfInBounds_toArray, List.set_cons_zero, List.set_cons_succ])
          refine wpAnyH_take (i := 10) (oi := ⟨some 36, .load 3 (.tmp 35), 3, "ref.go:184", #[⟨9, .data⟩, ⟨4, .guard⟩], some (4, true)⟩) (v := ?_) rfl (by kernel_rfl) (by kernel_rfl) (by kernel_rfl) (fun _ _ _ h => h) (Or.inl ⟨by rfl, fun W hSw => ?_⟩) hHeld ?_
          rotate_left
          · (try dsimp only at hSw); go_simp; (try with_reducible rfl)
          (try simp only [Act.put, List.setIfInBounds_toArray, List.set_cons_zero, List.set_cons_succ])
          refine wpAnyH_ready (rs := [8]) (by kernel_rfl) (by simp) ?_
          refine AllReadyH.cons (o := ⟨some 34, .call { callee := .value (.func 82), args := #[.tmp 32, .tmp 33], argTypes := #[24, 38] }, 3, "ref.go:184", #[⟨6, .data⟩, ⟨7, .data⟩, ⟨4, .chain⟩, ⟨4, .guard⟩], some (4, true)⟩) rfl (fun K hK => ?_) AllReadyH.nil
          go_simp
          refine (rDay_any A2 n2 k2 c2 e2 y m d _ ((hr2.keep hfr).keep hHeld.2) hk2 hy.1 hy.2 hm.1 hm.2 hd.1 hd.2).mono ?_
          rintro e' wA ⟨rfl, hb⟩
          refine hK.out _ _ (kp_step hb hHeld) (fun hHeld => ?_)
          clear hK K
          (try simp only [Act.put, List.setIfInBounds_toArray, List.set_cons_zero, List.set_cons_succ])
          refine wpAnyH_take (i := 11) (oi := ⟨some 37, .binOp .gtr 3 (.tmp 34) (.tmp 36) 3, 4, "ref.go:184", #[⟨8, .data⟩, ⟨10, .data⟩, ⟨4, .guard⟩], some (4, true)⟩) (v := ?_) rfl (by kernel_rfl) (by kernel_rfl) (by kernel_rfl) (fun _ _ _ h => h) (Or.inl ⟨by rfl, fun W hSw => ?_⟩) hHeld ?_
          rotate_left
          · (try dsimp only at hSw); go_simp; (try with_reducible rfl)
          (try simp only [Act.put, List.setIfInBounds_toArray, List.set_cons_zero, List.set_cons_succ])
          refine wpAnyH_take (i := 12) (oi := ⟨some 38, .pick (.tmp 30) (.tmp 37) (.const (.bool false)), 4, "ref.go:184", #[⟨4, .data⟩, ⟨11, .data⟩], none⟩) (v := ?_) rfl (by kernel_rfl) (by kernel_rfl) (by kernel_rfl) (fun _ _ _ h => h) (Or.inl ⟨by rfl, fun W hSw => ?_⟩) hHeld ?_
          rotate_left
          · (try dsimp only at hSw); go_simp; (try with_reducible rfl)
          (try simp only [Act.put, List.setIfInBounds_toArray, List.set_cons_zero, List.set_cons_succ])
          refine wpAnyH_done (by kernel_rfl) ?_ _
          refine NoPanic.normal ?_
          go_wp2_with fail
          go_meet
          case rel => exact ⟨by unfold db2; rw [hq]; rfl, hown.keep hHeld.2, hR.keep hHeld.2, hD.keep hHeld.2, fr_call hfr hHeld.2⟩
      case rest =>
        obtain ⟨rfl, hownk, hR', hD', hfr'⟩ := hcut
        clear hR hD hfr
        obtain ⟨hR, hD, hfr⟩ := And.intro hR' (And.intro hD' hfr')
        clear hR' hD' hfr'
        cases hb2 : db2 c2 e2 last y m d
        · go_wp2_with fail
          go_ret
          (try rw [hb1]); (try rw [hb2])
          exact ⟨_, _, rfl, hownk.rd, hfr⟩
        · obtain ⟨hq, hle⟩ := db2_yes hb2
          obtain ⟨hy, hm, hd⟩ := real_parts hq
          have hcR := fun j => hR.cell j
          have hcD := fun j => hD.cell j
          go_wp2_with fail
          refine (rDay_any A2 n2 k2 c2 e2 y m d _ (hr2.keep hfr) hk2 hy.1 hy.2 hm.1 hm.2 hd.1 hd.2).mono ?_
          rintro e' wB ⟨rfl, hb⟩
          replace hR := hR.keep hb
          replace hD := hD.keep hb
          replace hfr := fr_call hfr hb
          have hown := hownk.keep hb
          clear hb hcR hcD
          go_wp2_with (at_builtin; refine app_int rfl (.tmp 39) (.tmp 44) rfl w.heap.size _ [dayOf e1 c1 ⟨y, m, d⟩] rfl rfl hown (by simp) hfr.size ?_; intro B2 cap2 wC hown' hg)
          have ha := fr_alloc (fr_refl wB) (.cells #[.int .i64 (dayOf e2 c2 ⟨y, m, d⟩)] 3)
          have hge := own_ge hown
          have hR' := (hR.keep ha).grown hg (Ne.symm (own_blk_ne hown hR (by decide)))
          have hD' := (hD.keep ha).grown hg (Ne.symm (own_blk_ne hown hD (by decide)))
          replace hfr := (fr_call hfr ha).grown hg (fr_call hfr ha).size hge
          replace hR := hR'
          replace hD := hD'
          replace hown := hown'
          clear hown' hR' hD' hg hge ha
          go_wp2_with fail
          go_ret
          (try rw [hb1]); (try rw [hb2])
          exact ⟨_, _, rfl, hown.rd, hfr⟩
end Go.Proofs.YtnpgdifidejohaaGreatDoor
end
