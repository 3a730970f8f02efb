/- Walks, package plate: apart, touch (by gen_apart.py). -/
import Derived.Test.YtkmiphabagoifaaGreatDoorMT7
namespace Go.Proofs.YtkmiphabagoifaaGreatDoor
open Go.RowKit
attribute [local go_sem] Oper.semAt_some

set_option maxRecDepth 100000 in
set_option maxHeartbeats 16000000 in
theorem apart_no (pw ph pp pg po : Int) (A B M : Option Addr) (n nc m mc k kc a b l : Nat) (gn : Value) (L : List (Int × Int)) (ws : List PWh) (cs : List PPt) (w : World) (hM : MapM w l L) (hA : RdS w A 2 (cs.map PPt.cells)) (hn : cs.length = n) (hB : RdS w B 4 (ws.map PWh.cells)) (hm : ws.length = m) (hal : a ≤ b) (ha : a < m) (hb : b < m) (x y : PWh) (hx : ws[a]? = some x) (hy : ws[b]? = some y)
  (p q : Nat) (hp : x.centre = (p : Int)) (hq : y.centre = (q : Int)) (c d : PPt) (hc : cs[p]? = some c) (hd : cs[q]? = some d) (hco : PtOk c) (hdo : PtOk d) (ht : (0 ≤ x.teeth ∧ x.teeth ≤ 50) ∧ 0 ≤ y.teeth ∧ y.teeth ≤ 50) (hno : L.contains ((a : Int), (b : Int)) = false) :
  Calls Tryz.prog 157 #[.agg #[.int .i64 pw, .int .i64 ph, .int .i64 pp, .int .i64 pg, .int .i64 po, .slice A n nc, .slice B m mc, .slice M k kc, .map (some l), gn], .int .i64 a, .int .i64 b] w fun e w' => e = .returned (.bool false) ∧ Below w.heap.size w w' := by
 have hb0 := fr_alloc (fr_refl w) (.cells #[.int .i64 pw, .int .i64 ph, .int .i64 pp, .int .i64 pg, .int .i64 po, .slice A n nc, .slice B m mc, .slice M k kc, .map (some l), gn] 151)
 have hX := Blk.new w 151 #[.int .i64 pw, .int .i64 ph, .int .i64 pp, .int .i64 pg, .int .i64 po, .slice A n nc, .slice B m mc, .slice M k kc, .map (some l), gn]
 obtain ⟨w1, hw1⟩ : ∃ w1, w.alloc (.cells #[.int .i64 pw, .int .i64 ph, .int .i64 pp, .int .i64 pg, .int .i64 po, .slice A n nc, .slice B m mc, .slice M k kc, .map (some l), gn] 151) = w1 := ⟨_, rfl⟩
 rw [hw1] at hb0 hX
 have hme := fun W (h : Below w1.heap.size w1 W) (bb : Bool) (hbb : L.contains ((a : Int), (b : Int)) = bb) => mesh_is pw ph pp pg po A B M n nc m mc k kc a b l gn L W ((hM.keep hb0).keep h) hal bb hbb
 have hle := fun W (h : Below w1.heap.size w1 W) => level_is pw ph pp pg po A B M n nc m mc k kc a b (.map (some l)) gn ws W ((hB.keep hb0).keep h) hm ha hb x y hx hy
 have hce := fun W (h : Below w1.heap.size w1 W) => centred_is pw ph pp pg po A B M n nc m mc k kc a b (.map (some l)) gn ws W ((hB.keep hb0).keep h) hm ha hb x y hx hy
 have hsu := fun W (h : Below w1.heap.size w1 W) => lsum_is pw ph pp pg po A B M n nc m mc k kc a b (.map (some l)) gn ws W ((hB.keep hb0).keep h) hm ha hb x y hx hy ht
 have hfa := fun W (h : Below w1.heap.size w1 W) => far_is pw ph pp pg po A B M n nc m mc k kc a b (.map (some l)) gn ws cs W ((hA.keep hb0).keep h) hn ((hB.keep hb0).keep h) hm ha hb x y hx hy p q hp hq c d hc hd hco hdo
 have hlX := hX.lt
 have hcX := fun j => hX.cell j
 have hkS : ∀ W, Below w1.heap.size w1 W → (∀ j, W.cell? ⟨w.heap.size, j, none⟩ = (#[.int .i64 pw, .int .i64 ph, .int .i64 pp, .int .i64 pg, .int .i64 po, .slice A n nc, .slice B m mc, .slice M k kc, .map (some l), gn] : Array Value)[j]?) := fun W hb => fun j => (hX.keep hb).cell j
 replace hme := fun W h => hme W h false hno
 clear hM hA hB hx hy hc hd hp hq hX hco hdo hn hm ha hb hal
 clear hle hce hfa hno
 go_enter Tryz.func157, Tryz.ntmps157
 go_upto_region 1 with (fail)
 (try rw [hw1])
 clear hw1
 go_wp2_with fail
 refine (hsu _ (fr_refl _)).mono ?_
 rintro e' w2 ⟨rfl, hbB⟩
 clear hcX
 go_upto_region 2 with (fail)
 refine wp_region_noPanic ?_
 have hbz := fr_drew (fr_refl w2)
 replace hbz := fr_call hbB hbz
 refine wp_region_held_drew (S := fun W => (∀ j, W.cell? ⟨w.heap.size, j, none⟩ = (#[.int .i64 pw, .int .i64 ph, .int .i64 pp, .int .i64 pg, .int .i64 po, .slice A n nc, .slice B m mc, .slice M k kc, .map (some l), gn] : Array Value)[j]?)) (by kernel_rfl) (hkS _ hbz) (fun hHeld => ?_)
 generalize w2.drew = wz at hbz hHeld ⊢
 -- the region, step by step, in whatever order
 refine wpAnyH_take (i := 0) (oi := ⟨some 12, .load 151 (.tmp 3), 151, "plate.go:93", #[], none⟩) (v := ?_) rfl (by kernel_rfl) (by kernel_rfl) (by kernel_rfl) (fun _ _ _ h => h) (Or.inl ⟨by rfl, fun W hSw => ?_⟩) hHeld ?_
 rotate_left
 ·(try dsimp only at hSw); go_simp; (try with_reducible rfl)
 (try simp only [Act.put, List.setIfInBounds_toArray, List.set_cons_zero, List.set_cons_succ])
 refine wpAnyH_take (i := 1) (oi := ⟨some 13, .move (.tmp 1), 3, "plate.go:93", #[], none⟩) (v := ?_) rfl (by kernel_rfl) (by kernel_rfl) (by kernel_rfl) (fun _ _ _ h => h) (Or.inl ⟨by rfl, fun W hSw => ?_⟩) hHeld ?_
 rotate_left
 ·(try dsimp only at hSw); go_simp; (try with_reducible rfl)
 (try simp only [Act.put, List.setIfInBounds_toArray, List.set_cons_zero, List.set_cons_succ])
 refine wpAnyH_take (i := 2) (oi := ⟨some 14, .move (.tmp 2), 3, "plate.go:93", #[], none⟩) (v := ?_) rfl (by kernel_rfl) (by kernel_rfl) (by kernel_rfl) (fun _ _ _ h => h) (Or.inl ⟨by rfl, fun W hSw => ?_⟩) hHeld ?_
 rotate_left
 ·(try dsimp only at hSw); go_simp; (try with_reducible rfl)
 (try simp only [Act.put, List.setIfInBounds_toArray, List.set_cons_zero, List.set_cons_succ])
 refine wpAnyH_ready (rs := [3]) (by kernel_rfl) (by simp) ?_
 refine (AllReadyH.cons (o := ⟨some 15, .call { callee := .value (.func 213), args := #[.tmp 12, .tmp 13, .tmp 14], argTypes := #[151, 3, 3] }, 4, "plate.go:93", #[⟨0, .data⟩, ⟨1, .data⟩, ⟨2, .data⟩], none⟩) rfl (fun K hK => ?_) AllReadyH.nil)
 rw [if_pos (by rfl)]
 go_simp
 refine (hme _ hbz).mono ?_
 rintro e' wz ⟨rfl, hb1⟩
 replace hbz := fr_call hbz hb1
 refine hK.out _ _ (hkS _ hbz) (fun hHeld => ?_)
 clear hK K
 (try simp only [Act.put, List.setIfInBounds_toArray, List.set_cons_zero, List.set_cons_succ])
 refine wpAnyH_take (i := 4) (oi := ⟨some 16, .move (.tmp 15), 4, "plate.go:93", #[⟨3, .data⟩, ⟨3, .chain⟩], none⟩) (v := ?_) rfl (by kernel_rfl) (by kernel_rfl) (by kernel_rfl) (fun _ _ _ h => h) (Or.inl ⟨by rfl, fun W hSw => ?_⟩) hHeld ?_
 rotate_left
 ·(try dsimp only at hSw); go_simp; (try with_reducible rfl)
 (try simp only [Act.put, List.setIfInBounds_toArray, List.set_cons_zero, List.set_cons_succ])
 refine wpAnyH_take (i := 5) (oi := ⟨some 17, .load 151 (.tmp 3), 151, "plate.go:93", #[⟨4, .guard⟩], some (4, true)⟩) (v := undef) rfl (by kernel_rfl) (by kernel_rfl) (by kernel_rfl) (fun _ _ _ h => h) (Or.inr ⟨by rfl, rfl⟩) hHeld ?_
 (try simp only [Act.put, List.setIfInBounds_toArray, List.set_cons_zero, List.set_cons_succ])
 refine wpAnyH_take (i := 6) (oi := ⟨some 18, .move (.tmp 1), 3, "plate.go:93", #[⟨4, .guard⟩], some (4, true)⟩) (v := undef) rfl (by kernel_rfl) (by kernel_rfl) (by kernel_rfl) (fun _ _ _ h => h) (Or.inr ⟨by rfl, rfl⟩) hHeld ?_
 (try simp only [Act.put, List.setIfInBounds_toArray, List.set_cons_zero, List.set_cons_succ])
 refine wpAnyH_take (i := 7) (oi := ⟨some 19, .move (.tmp 2), 3, "plate.go:93", #[⟨4, .guard⟩], some (4, true)⟩) (v := undef) rfl (by kernel_rfl) (by kernel_rfl) (by kernel_rfl) (fun _ _ _ h => h) (Or.inr ⟨by rfl, rfl⟩) hHeld ?_
 (try simp only [Act.put, List.setIfInBounds_toArray, List.set_cons_zero, List.set_cons_succ])
 refine wpAnyH_take (i := 8) (oi := ⟨some 20, .call { callee := .value (.func 214), args := #[.tmp 17, .tmp 18, .tmp 19], argTypes := #[151, 3, 3] }, 4, "plate.go:93", #[⟨5, .data⟩, ⟨6, .data⟩, ⟨7, .data⟩, ⟨4, .chain⟩, ⟨4, .guard⟩], some (4, true)⟩) (v := undef) rfl (by kernel_rfl) (by kernel_rfl) (by kernel_rfl) (fun _ _ _ h => h) (Or.inr ⟨by rfl, rfl⟩) hHeld ?_
 (try simp only [Act.put, List.setIfInBounds_toArray, List.set_cons_zero, List.set_cons_succ])
 refine wpAnyH_take (i := 9) (oi := ⟨some 21, .unOp .not 4 (.tmp 20), 4, "plate.go:93", #[⟨8, .data⟩, ⟨4, .guard⟩], some (4, true)⟩) (v := undef) rfl (by kernel_rfl) (by kernel_rfl) (by kernel_rfl) (fun _ _ _ h => h) (Or.inr ⟨by rfl, rfl⟩) hHeld ?_
 (try simp only [Act.put, List.setIfInBounds_toArray, List.set_cons_zero, List.set_cons_succ])
 refine wpAnyH_take (i := 10) (oi := ⟨some 22, .move (.tmp 21), 4, "plate.go:93", #[⟨9, .data⟩, ⟨8, .chain⟩, ⟨4, .guard⟩], some (4, true)⟩) (v := undef) rfl (by kernel_rfl) (by kernel_rfl) (by kernel_rfl) (fun _ _ _ h => h) (Or.inr ⟨by rfl, rfl⟩) hHeld ?_
 (try simp only [Act.put, List.setIfInBounds_toArray, List.set_cons_zero, List.set_cons_succ])
 refine wpAnyH_take (i := 11) (oi := ⟨some 23, .load 151 (.tmp 3), 151, "plate.go:93", #[⟨10, .guard⟩], some (10, false)⟩) (v := undef) rfl (by kernel_rfl) (by kernel_rfl) (by kernel_rfl) (fun _ _ _ h => h) (Or.inr ⟨by rfl, rfl⟩) hHeld ?_
 (try simp only [Act.put, List.setIfInBounds_toArray, List.set_cons_zero, List.set_cons_succ])
 refine wpAnyH_take (i := 12) (oi := ⟨some 24, .move (.tmp 1), 3, "plate.go:93", #[⟨10, .guard⟩], some (10, false)⟩) (v := undef) rfl (by kernel_rfl) (by kernel_rfl) (by kernel_rfl) (fun _ _ _ h => h) (Or.inr ⟨by rfl, rfl⟩) hHeld ?_
 (try simp only [Act.put, List.setIfInBounds_toArray, List.set_cons_zero, List.set_cons_succ])
 refine wpAnyH_take (i := 13) (oi := ⟨some 25, .move (.tmp 2), 3, "plate.go:93", #[⟨10, .guard⟩], some (10, false)⟩) (v := undef) rfl (by kernel_rfl) (by kernel_rfl) (by kernel_rfl) (fun _ _ _ h => h) (Or.inr ⟨by rfl, rfl⟩) hHeld ?_
 (try simp only [Act.put, List.setIfInBounds_toArray, List.set_cons_zero, List.set_cons_succ])
 refine wpAnyH_take (i := 14) (oi := ⟨some 26, .call { callee := .value (.func 215), args := #[.tmp 23, .tmp 24, .tmp 25], argTypes := #[151, 3, 3] }, 4, "plate.go:93", #[⟨11, .data⟩, ⟨12, .data⟩, ⟨13, .data⟩, ⟨10, .chain⟩, ⟨10, .guard⟩], some (10, false)⟩) (v := undef) rfl (by kernel_rfl) (by kernel_rfl) (by kernel_rfl) (fun _ _ _ h => h) (Or.inr ⟨by rfl, rfl⟩) hHeld ?_
 (try simp only [Act.put, List.setIfInBounds_toArray, List.set_cons_zero, List.set_cons_succ])
 refine wpAnyH_take (i := 15) (oi := ⟨some 27, .pick (.tmp 22) (.const (.bool true)) (.tmp 26), 4, "plate.go:93", #[⟨10, .data⟩, ⟨14, .data⟩, ⟨4, .guard⟩], some (4, true)⟩) (v := undef) rfl (by kernel_rfl) (by kernel_rfl) (by kernel_rfl) (fun _ _ _ h => h) (Or.inr ⟨by rfl, rfl⟩) hHeld ?_
 (try simp only [Act.put, List.setIfInBounds_toArray, List.set_cons_zero, List.set_cons_succ])
 refine wpAnyH_take (i := 16) (oi := ⟨some 28, .move (.tmp 27), 4, "plate.go:93", #[⟨15, .data⟩, ⟨14, .chain⟩, ⟨4, .guard⟩], some (4, true)⟩) (v := undef) rfl (by kernel_rfl) (by kernel_rfl) (by kernel_rfl) (fun _ _ _ h => h) (Or.inr ⟨by rfl, rfl⟩) hHeld ?_
 (try simp only [Act.put, List.setIfInBounds_toArray, List.set_cons_zero, List.set_cons_succ])
 refine wpAnyH_take (i := 17) (oi := ⟨some 29, .load 151 (.tmp 3), 151, "plate.go:93", #[⟨16, .guard⟩], some (16, false)⟩) (v := undef) rfl (by kernel_rfl) (by kernel_rfl) (by kernel_rfl) (fun _ _ _ h => h) (Or.inr ⟨by rfl, rfl⟩) hHeld ?_
 (try simp only [Act.put, List.setIfInBounds_toArray, List.set_cons_zero, List.set_cons_succ])
 refine wpAnyH_take (i := 18) (oi := ⟨some 30, .move (.tmp 1), 3, "plate.go:93", #[⟨16, .guard⟩], some (16, false)⟩) (v := undef) rfl (by kernel_rfl) (by kernel_rfl) (by kernel_rfl) (fun _ _ _ h => h) (Or.inr ⟨by rfl, rfl⟩) hHeld ?_
 (try simp only [Act.put, List.setIfInBounds_toArray, List.set_cons_zero, List.set_cons_succ])
 refine wpAnyH_take (i := 19) (oi := ⟨some 31, .move (.tmp 2), 3, "plate.go:93", #[⟨16, .guard⟩], some (16, false)⟩) (v := undef) rfl (by kernel_rfl) (by kernel_rfl) (by kernel_rfl) (fun _ _ _ h => h) (Or.inr ⟨by rfl, rfl⟩) hHeld ?_
 (try simp only [Act.put, List.setIfInBounds_toArray, List.set_cons_zero, List.set_cons_succ])
 refine wpAnyH_take (i := 20) (oi := ⟨some 32, .call { callee := .value (.func 216), args := #[.tmp 29, .tmp 30, .tmp 31], argTypes := #[151, 3, 3] }, 3, "plate.go:93", #[⟨17, .data⟩, ⟨18, .data⟩, ⟨19, .data⟩, ⟨16, .chain⟩, ⟨16, .guard⟩], some (16, false)⟩) (v := undef) rfl (by kernel_rfl) (by kernel_rfl) (by kernel_rfl) (fun _ _ _ h => h) (Or.inr ⟨by rfl, rfl⟩) hHeld ?_
 (try simp only [Act.put, List.setIfInBounds_toArray, List.set_cons_zero, List.set_cons_succ])
 refine wpAnyH_take (i := 21) (oi := ⟨some 33, .move (.tmp 7), 3, "plate.go:93", #[⟨16, .guard⟩], some (16, false)⟩) (v := undef) rfl (by kernel_rfl) (by kernel_rfl) (by kernel_rfl) (fun _ _ _ h => h) (Or.inr ⟨by rfl, rfl⟩) hHeld ?_
 (try simp only [Act.put, List.setIfInBounds_toArray, List.set_cons_zero, List.set_cons_succ])
 refine wpAnyH_take (i := 22) (oi := ⟨some 34, .call { callee := .value (.func 217), args := #[.tmp 33], argTypes := #[3] }, 3, "plate.go:93", #[⟨21, .data⟩, ⟨20, .chain⟩, ⟨16, .guard⟩], some (16, false)⟩) (v := undef) rfl (by kernel_rfl) (by kernel_rfl) (by kernel_rfl) (fun _ _ _ h => h) (Or.inr ⟨by rfl, rfl⟩) hHeld ?_
 (try simp only [Act.put, List.setIfInBounds_toArray, List.set_cons_zero, List.set_cons_succ])
 refine wpAnyH_take (i := 23) (oi := ⟨some 35, .binOp .lss 3 (.tmp 32) (.tmp 34) 3, 4, "plate.go:93", #[⟨20, .data⟩, ⟨22, .data⟩, ⟨16, .guard⟩], some (16, false)⟩) (v := undef) rfl (by kernel_rfl) (by kernel_rfl) (by kernel_rfl) (fun _ _ _ h => h) (Or.inr ⟨by rfl, rfl⟩) hHeld ?_
 (try simp only [Act.put, List.setIfInBounds_toArray, List.set_cons_zero, List.set_cons_succ])
 refine wpAnyH_take (i := 24) (oi := ⟨some 36, .pick (.tmp 28) (.const (.bool true)) (.tmp 35), 4, "plate.go:93", #[⟨16, .data⟩, ⟨23, .data⟩, ⟨4, .guard⟩], some (4, true)⟩) (v := undef) rfl (by kernel_rfl) (by kernel_rfl) (by kernel_rfl) (fun _ _ _ h => h) (Or.inr ⟨by rfl, rfl⟩) hHeld ?_
 (try simp only [Act.put, List.setIfInBounds_toArray, List.set_cons_zero, List.set_cons_succ])
 refine wpAnyH_take (i := 25) (oi := ⟨some 37, .move (.tmp 36), 4, "plate.go:93", #[⟨24, .data⟩, ⟨22, .chain⟩, ⟨4, .guard⟩], some (4, true)⟩) (v := undef) rfl (by kernel_rfl) (by kernel_rfl) (by kernel_rfl) (fun _ _ _ h => h) (Or.inr ⟨by rfl, rfl⟩) hHeld ?_
 (try simp only [Act.put, List.setIfInBounds_toArray, List.set_cons_zero, List.set_cons_succ])
 refine wpAnyH_take (i := 26) (oi := ⟨some 38, .load 151 (.tmp 3), 151, "plate.go:93", #[⟨25, .guard⟩], some (25, false)⟩) (v := undef) rfl (by kernel_rfl) (by kernel_rfl) (by kernel_rfl) (fun _ _ _ h => h) (Or.inr ⟨by rfl, rfl⟩) hHeld ?_
 (try simp only [Act.put, List.setIfInBounds_toArray, List.set_cons_zero, List.set_cons_succ])
 refine wpAnyH_take (i := 27) (oi := ⟨some 39, .move (.tmp 1), 3, "plate.go:93", #[⟨25, .guard⟩], some (25, false)⟩) (v := undef) rfl (by kernel_rfl) (by kernel_rfl) (by kernel_rfl) (fun _ _ _ h => h) (Or.inr ⟨by rfl, rfl⟩) hHeld ?_
 (try simp only [Act.put, List.setIfInBounds_toArray, List.set_cons_zero, List.set_cons_succ])
 refine wpAnyH_take (i := 28) (oi := ⟨some 40, .move (.tmp 2), 3, "plate.go:93", #[⟨25, .guard⟩], some (25, false)⟩) (v := undef) rfl (by kernel_rfl) (by kernel_rfl) (by kernel_rfl) (fun _ _ _ h => h) (Or.inr ⟨by rfl, rfl⟩) hHeld ?_
 (try simp only [Act.put, List.setIfInBounds_toArray, List.set_cons_zero, List.set_cons_succ])
 refine wpAnyH_take (i := 29) (oi := ⟨some 41, .call { callee := .value (.func 216), args := #[.tmp 38, .tmp 39, .tmp 40], argTypes := #[151, 3, 3] }, 3, "plate.go:93", #[⟨26, .data⟩, ⟨27, .data⟩, ⟨28, .data⟩, ⟨25, .chain⟩, ⟨25, .guard⟩], some (25, false)⟩) (v := undef) rfl (by kernel_rfl) (by kernel_rfl) (by kernel_rfl) (fun _ _ _ h => h) (Or.inr ⟨by rfl, rfl⟩) hHeld ?_
 (try simp only [Act.put, List.setIfInBounds_toArray, List.set_cons_zero, List.set_cons_succ])
 refine wpAnyH_take (i := 30) (oi := ⟨some 42, .move (.tmp 7), 3, "plate.go:93", #[⟨25, .guard⟩], some (25, false)⟩) (v := undef) rfl (by kernel_rfl) (by kernel_rfl) (by kernel_rfl) (fun _ _ _ h => h) (Or.inr ⟨by rfl, rfl⟩) hHeld ?_
 (try simp only [Act.put, List.setIfInBounds_toArray, List.set_cons_zero, List.set_cons_succ])
 refine wpAnyH_take (i := 31) (oi := ⟨some 43, .fieldAddr 151 (.tmp 3) 0, 0, "plate.go:93", #[⟨25, .guard⟩], some (25, false)⟩) (v := undef) rfl (by kernel_rfl) (by kernel_rfl) (by kernel_rfl) (fun _ _ _ h => h) (Or.inr ⟨by rfl, rfl⟩) hHeld ?_
 (try simp only [Act.put, List.setIfInBounds_toArray, List.set_cons_zero, List.set_cons_succ])
 refine wpAnyH_take (i := 32) (oi := ⟨some 44, .fieldAddr 86 (.tmp 43) 2, 0, "plate.go:93", #[⟨31, .data⟩, ⟨25, .guard⟩], some (25, false)⟩) (v := undef) rfl (by kernel_rfl) (by kernel_rfl) (by kernel_rfl) (fun _ _ _ h => h) (Or.inr ⟨by rfl, rfl⟩) hHeld ?_
 (try simp only [Act.put, List.setIfInBounds_toArray, List.set_cons_zero, List.set_cons_succ])
 refine wpAnyH_take (i := 33) (oi := ⟨some 45, .load 3 (.tmp 44), 3, "plate.go:93", #[⟨32, .data⟩, ⟨25, .guard⟩], some (25, false)⟩) (v := undef) rfl (by kernel_rfl) (by kernel_rfl) (by kernel_rfl) (fun _ _ _ h => h) (Or.inr ⟨by rfl, rfl⟩) hHeld ?_
 (try simp only [Act.put, List.setIfInBounds_toArray, List.set_cons_zero, List.set_cons_succ])
 refine wpAnyH_take (i := 34) (oi := ⟨some 46, .binOp .add 3 (.tmp 42) (.tmp 45) 3, 3, "plate.go:93", #[⟨30, .data⟩, ⟨33, .data⟩, ⟨25, .guard⟩], some (25, false)⟩) (v := undef) rfl (by kernel_rfl) (by kernel_rfl) (by kernel_rfl) (fun _ _ _ h => h) (Or.inr ⟨by rfl, rfl⟩) hHeld ?_
 (try simp only [Act.put, List.setIfInBounds_toArray, List.set_cons_zero, List.set_cons_succ])
 refine wpAnyH_take (i := 35) (oi := ⟨some 47, .call { callee := .value (.func 217), args := #[.tmp 46], argTypes := #[3] }, 3, "plate.go:93", #[⟨34, .data⟩, ⟨29, .chain⟩, ⟨25, .guard⟩], some (25, false)⟩) (v := undef) rfl (by kernel_rfl) (by kernel_rfl) (by kernel_rfl) (fun _ _ _ h => h) (Or.inr ⟨by rfl, rfl⟩) hHeld ?_
 (try simp only [Act.put, List.setIfInBounds_toArray, List.set_cons_zero, List.set_cons_succ])
 refine wpAnyH_take (i := 36) (oi := ⟨some 48, .binOp .gtr 3 (.tmp 41) (.tmp 47) 3, 4, "plate.go:93", #[⟨29, .data⟩, ⟨35, .data⟩, ⟨25, .guard⟩], some (25, false)⟩) (v := undef) rfl (by kernel_rfl) (by kernel_rfl) (by kernel_rfl) (fun _ _ _ h => h) (Or.inr ⟨by rfl, rfl⟩) hHeld ?_
 (try simp only [Act.put, List.setIfInBounds_toArray, List.set_cons_zero, List.set_cons_succ])
 refine wpAnyH_take (i := 37) (oi := ⟨some 49, .pick (.tmp 37) (.const (.bool true)) (.tmp 48), 4, "plate.go:93", #[⟨25, .data⟩, ⟨36, .data⟩, ⟨4, .guard⟩], some (4, true)⟩) (v := undef) rfl (by kernel_rfl) (by kernel_rfl) (by kernel_rfl) (fun _ _ _ h => h) (Or.inr ⟨by rfl, rfl⟩) hHeld ?_
 (try simp only [Act.put, List.setIfInBounds_toArray, List.set_cons_zero, List.set_cons_succ])
 refine wpAnyH_take (i := 38) (oi := ⟨some 50, .pick (.tmp 16) (.tmp 49) (.const (.bool false)), 4, "plate.go:93", #[⟨4, .data⟩, ⟨37, .data⟩], none⟩) (v := ?_) rfl (by kernel_rfl) (by kernel_rfl) (by kernel_rfl) (fun _ _ _ h => h) (Or.inl ⟨by rfl, fun W hSw => ?_⟩) hHeld ?_
 rotate_left
 ·(try dsimp only at hSw); go_simp; (try with_reducible rfl)
 (try simp only [Act.put, List.setIfInBounds_toArray, List.set_cons_zero, List.set_cons_succ])
 refine wpAnyH_take (i := 39) (oi := ⟨some 6, .assign (.tmp 50), 4, "plate.go:93", #[⟨38, .data⟩, ⟨35, .chain⟩, ⟨0, .phase⟩, ⟨1, .phase⟩, ⟨2, .phase⟩, ⟨3, .phase⟩, ⟨4, .phase⟩, ⟨5, .phase⟩, ⟨6, .phase⟩, ⟨7, .phase⟩, ⟨8, .phase⟩, ⟨9, .phase⟩, ⟨10, .phase⟩, ⟨11, .phase⟩, ⟨12, .phase⟩, ⟨13, .phase⟩, ⟨14, .phase⟩, ⟨15, .phase⟩, ⟨16, .phase⟩, ⟨17, .phase⟩, ⟨18, .phase⟩, ⟨19, .phase⟩, ⟨20, .phase⟩, ⟨21, .phase⟩, ⟨22, .phase⟩, ⟨23, .phase⟩, ⟨24, .phase⟩, ⟨25, .phase⟩, ⟨26, .phase⟩, ⟨27, .phase⟩, ⟨28, .phase⟩, ⟨29, .phase⟩, ⟨30, .phase⟩, ⟨31, .phase⟩, ⟨32, .phase⟩, ⟨33, .phase⟩, ⟨34, .phase⟩, ⟨35, .phase⟩, ⟨36, .phase⟩, ⟨37, .phase⟩, ⟨38, .phase⟩], none⟩) (v := ?_) rfl (by kernel_rfl) (by kernel_rfl) (by kernel_rfl) (fun _ _ _ h => h) (Or.inl ⟨by rfl, fun W hSw => ?_⟩) hHeld ?_
 rotate_left
 ·(try dsimp only at hSw); go_simp; (try with_reducible rfl)
 (try simp only [Act.put, List.setIfInBounds_toArray, List.set_cons_zero, List.set_cons_succ])
 refine wpAnyH_done (by kernel_rfl) ?_ _
 refine NoPanic.normal ?_
 go_wp2_with fail
 go_ret
 exact ⟨rfl, fr_call hb0 hbz⟩
set_option maxRecDepth 100000 in
set_option maxHeartbeats 16000000 in
theorem apart_near (pw ph pp pg po : Int) (A B M : Option Addr) (n nc m mc k kc a b l : Nat) (gn : Value) (L : List (Int × Int)) (ws : List PWh) (cs : List PPt) (w : World) (hM : MapM w l L) (hA : RdS w A 2 (cs.map PPt.cells)) (hn : cs.length = n) (hB : RdS w B 4 (ws.map PWh.cells)) (hm : ws.length = m) (hal : a ≤ b) (ha : a < m) (hb : b < m) (x y : PWh) (hx : ws[a]? = some x) (hy : ws[b]? = some y)
  (p q : Nat) (hp : x.centre = (p : Int)) (hq : y.centre = (q : Int)) (c d : PPt) (hc : cs[p]? = some c) (hd : cs[q]? = some d) (hco : PtOk c) (hdo : PtOk d) (ht : (0 ≤ x.teeth ∧ x.teeth ≤ 50) ∧ 0 ≤ y.teeth ∧ y.teeth ≤ 50) (hyes : L.contains ((a : Int), (b : Int)) = true) (hll : x.layer = y.layer) (hcc : x.centre ≠ y.centre) (hpp : 0 ≤ pp ∧ pp ≤ 4) (hfs : farP c d < (x.teeth + y.teeth) * (x.teeth + y.teeth)) :
  Calls Tryz.prog 157 #[.agg #[.int .i64 pw, .int .i64 ph, .int .i64 pp, .int .i64 pg, .int .i64 po, .slice A n nc, .slice B m mc, .slice M k kc, .map (some l), gn], .int .i64 a, .int .i64 b] w fun e w' => e = .returned (.bool true) ∧ Below w.heap.size w w' := by
 have hb0 := fr_alloc (fr_refl w) (.cells #[.int .i64 pw, .int .i64 ph, .int .i64 pp, .int .i64 pg, .int .i64 po, .slice A n nc, .slice B m mc, .slice M k kc, .map (some l), gn] 151)
 have hX := Blk.new w 151 #[.int .i64 pw, .int .i64 ph, .int .i64 pp, .int .i64 pg, .int .i64 po, .slice A n nc, .slice B m mc, .slice M k kc, .map (some l), gn]
 obtain ⟨w1, hw1⟩ : ∃ w1, w.alloc (.cells #[.int .i64 pw, .int .i64 ph, .int .i64 pp, .int .i64 pg, .int .i64 po, .slice A n nc, .slice B m mc, .slice M k kc, .map (some l), gn] 151) = w1 := ⟨_, rfl⟩
 rw [hw1] at hb0 hX
 have hme := fun W (h : Below w1.heap.size w1 W) (bb : Bool) (hbb : L.contains ((a : Int), (b : Int)) = bb) => mesh_is pw ph pp pg po A B M n nc m mc k kc a b l gn L W ((hM.keep hb0).keep h) hal bb hbb
 have hle := fun W (h : Below w1.heap.size w1 W) => level_is pw ph pp pg po A B M n nc m mc k kc a b (.map (some l)) gn ws W ((hB.keep hb0).keep h) hm ha hb x y hx hy
 have hce := fun W (h : Below w1.heap.size w1 W) => centred_is pw ph pp pg po A B M n nc m mc k kc a b (.map (some l)) gn ws W ((hB.keep hb0).keep h) hm ha hb x y hx hy
 have hsu := fun W (h : Below w1.heap.size w1 W) => lsum_is pw ph pp pg po A B M n nc m mc k kc a b (.map (some l)) gn ws W ((hB.keep hb0).keep h) hm ha hb x y hx hy ht
 have hfa := fun W (h : Below w1.heap.size w1 W) => far_is pw ph pp pg po A B M n nc m mc k kc a b (.map (some l)) gn ws cs W ((hA.keep hb0).keep h) hn ((hB.keep hb0).keep h) hm ha hb x y hx hy p q hp hq c d hc hd hco hdo
 have hlX := hX.lt
 have hcX := fun j => hX.cell j
 have hkS : ∀ W, Below w1.heap.size w1 W → (∀ j, W.cell? ⟨w.heap.size, j, none⟩ = (#[.int .i64 pw, .int .i64 ph, .int .i64 pp, .int .i64 pg, .int .i64 po, .slice A n nc, .slice B m mc, .slice M k kc, .map (some l), gn] : Array Value)[j]?) := fun W hb => fun j => (hX.keep hb).cell j
 replace hme := fun W h => hme W h true hyes
 rw [show (x.layer == y.layer) = true from beq_iff_eq.2 hll] at hle
 rw [show (x.centre == y.centre) = false from beq_eq_false_iff_ne.2 hcc] at hce
 obtain ⟨s, hs⟩ : ∃ s, x.teeth + y.teeth = s := ⟨_, rfl⟩
 obtain ⟨f, hf⟩ : ∃ f, farP c d = f := ⟨_, rfl⟩
 have hsb : 0 ≤ s ∧ s ≤ 100 := by omega
 rw [hs] at hsu hfs
 rw [hf] at hfa hfs
 have hq1 := fun W => square_is s W (by omega)
 have hq2 := fun W => square_is (s + pp) W (by omega)
 have z1 : IntKind.i64.wrap (s + pp) = s + pp := IntWalk.i64_in _ (by omega)
 have d1 : decide (f < s * s) = true := decide_eq_true hfs
 clear hM hA hB hx hy hc hd hp hq hX hco hdo hn hm ha hb hal
 clear hyes hll hcc hs hf hfs ht
 go_enter Tryz.func157, Tryz.ntmps157
 go_upto_region 1 with (fail)
 (try rw [hw1])
 clear hw1
 go_wp2_with fail
 refine (hsu _ (fr_refl _)).mono ?_
 rintro e' w2 ⟨rfl, hbB⟩
 clear hcX
 go_upto_region 2 with (fail)
 refine wp_region_noPanic ?_
 have hbz := fr_drew (fr_refl w2)
 replace hbz := fr_call hbB hbz
 refine wp_region_held_drew (S := fun W => (∀ j, W.cell? ⟨w.heap.size, j, none⟩ = (#[.int .i64 pw, .int .i64 ph, .int .i64 pp, .int .i64 pg, .int .i64 po, .slice A n nc, .slice B m mc, .slice M k kc, .map (some l), gn] : Array Value)[j]?)) (by kernel_rfl) (hkS _ hbz) (fun hHeld => ?_)
 generalize w2.drew = wz at hbz hHeld ⊢
 -- the region, step by step, in whatever order
 refine wpAnyH_take (i := 0) (oi := ⟨some 12, .load 151 (.tmp 3), 151, "plate.go:93", #[], none⟩) (v := ?_) rfl (by kernel_rfl) (by kernel_rfl) (by kernel_rfl) (fun _ _ _ h => h) (Or.inl ⟨by rfl, fun W hSw => ?_⟩) hHeld ?_
 rotate_left
 ·(try dsimp only at hSw); go_simp; (try with_reducible rfl)
 (try simp only [Act.put, List.setIfInBounds_toArray, List.set_cons_zero, List.set_cons_succ])
 refine wpAnyH_take (i := 1) (oi := ⟨some 13, .move (.tmp 1), 3, "plate.go:93", #[], none⟩) (v := ?_) rfl (by kernel_rfl) (by kernel_rfl) (by kernel_rfl) (fun _ _ _ h => h) (Or.inl ⟨by rfl, fun W hSw => ?_⟩) hHeld ?_
 rotate_left
 ·(try dsimp only at hSw); go_simp; (try with_reducible rfl)
 (try simp only [Act.put, List.setIfInBounds_toArray, List.set_cons_zero, List.set_cons_succ])
 refine wpAnyH_take (i := 2) (oi := ⟨some 14, .move (.tmp 2), 3, "plate.go:93", #[], none⟩) (v := ?_) rfl (by kernel_rfl) (by kernel_rfl) (by kernel_rfl) (fun _ _ _ h => h) (Or.inl ⟨by rfl, fun W hSw => ?_⟩) hHeld ?_
 rotate_left
 ·(try dsimp only at hSw); go_simp; (try with_reducible rfl)
 (try simp only [Act.put, List.setIfInBounds_toArray, List.set_cons_zero, List.set_cons_succ])
 refine wpAnyH_ready (rs := [3]) (by kernel_rfl) (by simp) ?_
 refine (AllReadyH.cons (o := ⟨some 15, .call { callee := .value (.func 213), args := #[.tmp 12, .tmp 13, .tmp 14], argTypes := #[151, 3, 3] }, 4, "plate.go:93", #[⟨0, .data⟩, ⟨1, .data⟩, ⟨2, .data⟩], none⟩) rfl (fun K hK => ?_) AllReadyH.nil)
 rw [if_pos (by rfl)]
 go_simp
 refine (hme _ hbz).mono ?_
 rintro e' wz ⟨rfl, hb1⟩
 replace hbz := fr_call hbz hb1
 refine hK.out _ _ (hkS _ hbz) (fun hHeld => ?_)
 clear hK K
 (try simp only [Act.put, List.setIfInBounds_toArray, List.set_cons_zero, List.set_cons_succ])
 refine wpAnyH_take (i := 4) (oi := ⟨some 16, .move (.tmp 15), 4, "plate.go:93", #[⟨3, .data⟩, ⟨3, .chain⟩], none⟩) (v := ?_) rfl (by kernel_rfl) (by kernel_rfl) (by kernel_rfl) (fun _ _ _ h => h) (Or.inl ⟨by rfl, fun W hSw => ?_⟩) hHeld ?_
 rotate_left
 ·(try dsimp only at hSw); go_simp; (try with_reducible rfl)
 (try simp only [Act.put, List.setIfInBounds_toArray, List.set_cons_zero, List.set_cons_succ])
 refine wpAnyH_take (i := 5) (oi := ⟨some 17, .load 151 (.tmp 3), 151, "plate.go:93", #[⟨4, .guard⟩], some (4, true)⟩) (v := ?_) rfl (by kernel_rfl) (by kernel_rfl) (by kernel_rfl) (fun _ _ _ h => h) (Or.inl ⟨by rfl, fun W hSw => ?_⟩) hHeld ?_
 rotate_left
 ·(try dsimp only at hSw); go_simp; (try with_reducible rfl)
 (try simp only [Act.put, List.setIfInBounds_toArray, List.set_cons_zero, List.set_cons_succ])
 refine wpAnyH_take (i := 6) (oi := ⟨some 18, .move (.tmp 1), 3, "plate.go:93", #[⟨4, .guard⟩], some (4, true)⟩) (v := ?_) rfl (by kernel_rfl) (by kernel_rfl) (by kernel_rfl) (fun _ _ _ h => h) (Or.inl ⟨by rfl, fun W hSw => ?_⟩) hHeld ?_
 rotate_left
 ·(try dsimp only at hSw); go_simp; (try with_reducible rfl)
 (try simp only [Act.put, List.setIfInBounds_toArray, List.set_cons_zero, List.set_cons_succ])
 refine wpAnyH_take (i := 7) (oi := ⟨some 19, .move (.tmp 2), 3, "plate.go:93", #[⟨4, .guard⟩], some (4, true)⟩) (v := ?_) rfl (by kernel_rfl) (by kernel_rfl) (by kernel_rfl) (fun _ _ _ h => h) (Or.inl ⟨by rfl, fun W hSw => ?_⟩) hHeld ?_
 rotate_left
 ·(try dsimp only at hSw); go_simp; (try with_reducible rfl)
 (try simp only [Act.put, List.setIfInBounds_toArray, List.set_cons_zero, List.set_cons_succ])
 refine wpAnyH_ready (rs := [8]) (by kernel_rfl) (by simp) ?_
 refine (AllReadyH.cons (o := ⟨some 20, .call { callee := .value (.func 214), args := #[.tmp 17, .tmp 18, .tmp 19], argTypes := #[151, 3, 3] }, 4, "plate.go:93", #[⟨5, .data⟩, ⟨6, .data⟩, ⟨7, .data⟩, ⟨4, .chain⟩, ⟨4, .guard⟩], some (4, true)⟩) rfl (fun K hK => ?_) AllReadyH.nil)
 rw [if_pos (by rfl)]
 go_simp
 refine (hle _ hbz).mono ?_
 rintro e' wz ⟨rfl, hb1⟩
 replace hbz := fr_call hbz hb1
 refine hK.out _ _ (hkS _ hbz) (fun hHeld => ?_)
 clear hK K
 (try simp only [Act.put, List.setIfInBounds_toArray, List.set_cons_zero, List.set_cons_succ])
 refine wpAnyH_take (i := 9) (oi := ⟨some 21, .unOp .not 4 (.tmp 20), 4, "plate.go:93", #[⟨8, .data⟩, ⟨4, .guard⟩], some (4, true)⟩) (v := ?_) rfl (by kernel_rfl) (by kernel_rfl) (by kernel_rfl) (fun _ _ _ h => h) (Or.inl ⟨by rfl, fun W hSw => ?_⟩) hHeld ?_
 rotate_left
 ·(try dsimp only at hSw); go_simp; (try with_reducible rfl)
 (try simp only [Act.put, List.setIfInBounds_toArray, List.set_cons_zero, List.set_cons_succ])
 refine wpAnyH_take (i := 10) (oi := ⟨some 22, .move (.tmp 21), 4, "plate.go:93", #[⟨9, .data⟩, ⟨8, .chain⟩, ⟨4, .guard⟩], some (4, true)⟩) (v := ?_) rfl (by kernel_rfl) (by kernel_rfl) (by kernel_rfl) (fun _ _ _ h => h) (Or.inl ⟨by rfl, fun W hSw => ?_⟩) hHeld ?_
 rotate_left
 ·(try dsimp only at hSw); go_simp; (try with_reducible rfl)
 (try simp only [Act.put, List.setIfInBounds_toArray, List.set_cons_zero, List.set_cons_succ])
 refine wpAnyH_take (i := 11) (oi := ⟨some 23, .load 151 (.tmp 3), 151, "plate.go:93", #[⟨10, .guard⟩], some (10, false)⟩) (v := ?_) rfl (by kernel_rfl) (by kernel_rfl) (by kernel_rfl) (fun _ _ _ h => h) (Or.inl ⟨by rfl, fun W hSw => ?_⟩) hHeld ?_
 rotate_left
 ·(try dsimp only at hSw); go_simp; (try with_reducible rfl)
 (try simp only [Act.put, List.setIfInBounds_toArray, List.set_cons_zero, List.set_cons_succ])
 refine wpAnyH_take (i := 12) (oi := ⟨some 24, .move (.tmp 1), 3, "plate.go:93", #[⟨10, .guard⟩], some (10, false)⟩) (v := ?_) rfl (by kernel_rfl) (by kernel_rfl) (by kernel_rfl) (fun _ _ _ h => h) (Or.inl ⟨by rfl, fun W hSw => ?_⟩) hHeld ?_
 rotate_left
 ·(try dsimp only at hSw); go_simp; (try with_reducible rfl)
 (try simp only [Act.put, List.setIfInBounds_toArray, List.set_cons_zero, List.set_cons_succ])
 refine wpAnyH_take (i := 13) (oi := ⟨some 25, .move (.tmp 2), 3, "plate.go:93", #[⟨10, .guard⟩], some (10, false)⟩) (v := ?_) rfl (by kernel_rfl) (by kernel_rfl) (by kernel_rfl) (fun _ _ _ h => h) (Or.inl ⟨by rfl, fun W hSw => ?_⟩) hHeld ?_
 rotate_left
 ·(try dsimp only at hSw); go_simp; (try with_reducible rfl)
 (try simp only [Act.put, List.setIfInBounds_toArray, List.set_cons_zero, List.set_cons_succ])
 refine wpAnyH_ready (rs := [14]) (by kernel_rfl) (by simp) ?_
 refine (AllReadyH.cons (o := ⟨some 26, .call { callee := .value (.func 215), args := #[.tmp 23, .tmp 24, .tmp 25], argTypes := #[151, 3, 3] }, 4, "plate.go:93", #[⟨11, .data⟩, ⟨12, .data⟩, ⟨13, .data⟩, ⟨10, .chain⟩, ⟨10, .guard⟩], some (10, false)⟩) rfl (fun K hK => ?_) AllReadyH.nil)
 rw [if_pos (by rfl)]
 go_simp
 refine (hce _ hbz).mono ?_
 rintro e' wz ⟨rfl, hb1⟩
 replace hbz := fr_call hbz hb1
 refine hK.out _ _ (hkS _ hbz) (fun hHeld => ?_)
 clear hK K
 (try simp only [Act.put, List.setIfInBounds_toArray, List.set_cons_zero, List.set_cons_succ])
 refine wpAnyH_take (i := 15) (oi := ⟨some 27, .pick (.tmp 22) (.const (.bool true)) (.tmp 26), 4, "plate.go:93", #[⟨10, .data⟩, ⟨14, .data⟩, ⟨4, .guard⟩], some (4, true)⟩) (v := ?_) rfl (by kernel_rfl) (by kernel_rfl) (by kernel_rfl) (fun _ _ _ h => h) (Or.inl ⟨by rfl, fun W hSw => ?_⟩) hHeld ?_
 rotate_left
 ·(try dsimp only at hSw); go_simp; (try with_reducible rfl)
 (try simp only [Act.put, List.setIfInBounds_toArray, List.set_cons_zero, List.set_cons_succ])
 refine wpAnyH_take (i := 16) (oi := ⟨some 28, .move (.tmp 27), 4, "plate.go:93", #[⟨15, .data⟩, ⟨14, .chain⟩, ⟨4, .guard⟩], some (4, true)⟩) (v := ?_) rfl (by kernel_rfl) (by kernel_rfl) (by kernel_rfl) (fun _ _ _ h => h) (Or.inl ⟨by rfl, fun W hSw => ?_⟩) hHeld ?_
 rotate_left
 ·(try dsimp only at hSw); go_simp; (try with_reducible rfl)
 (try simp only [Act.put, List.setIfInBounds_toArray, List.set_cons_zero, List.set_cons_succ])
 refine wpAnyH_take (i := 17) (oi := ⟨some 29, .load 151 (.tmp 3), 151, "plate.go:93", #[⟨16, .guard⟩], some (16, false)⟩) (v := ?_) rfl (by kernel_rfl) (by kernel_rfl) (by kernel_rfl) (fun _ _ _ h => h) (Or.inl ⟨by rfl, fun W hSw => ?_⟩) hHeld ?_
 rotate_left
 ·(try dsimp only at hSw); go_simp; (try with_reducible rfl)
 (try simp only [Act.put, List.setIfInBounds_toArray, List.set_cons_zero, List.set_cons_succ])
 refine wpAnyH_take (i := 18) (oi := ⟨some 30, .move (.tmp 1), 3, "plate.go:93", #[⟨16, .guard⟩], some (16, false)⟩) (v := ?_) rfl (by kernel_rfl) (by kernel_rfl) (by kernel_rfl) (fun _ _ _ h => h) (Or.inl ⟨by rfl, fun W hSw => ?_⟩) hHeld ?_
 rotate_left
 ·(try dsimp only at hSw); go_simp; (try with_reducible rfl)
 (try simp only [Act.put, List.setIfInBounds_toArray, List.set_cons_zero, List.set_cons_succ])
 refine wpAnyH_take (i := 19) (oi := ⟨some 31, .move (.tmp 2), 3, "plate.go:93", #[⟨16, .guard⟩], some (16, false)⟩) (v := ?_) rfl (by kernel_rfl) (by kernel_rfl) (by kernel_rfl) (fun _ _ _ h => h) (Or.inl ⟨by rfl, fun W hSw => ?_⟩) hHeld ?_
 rotate_left
 ·(try dsimp only at hSw); go_simp; (try with_reducible rfl)
 (try simp only [Act.put, List.setIfInBounds_toArray, List.set_cons_zero, List.set_cons_succ])
 refine wpAnyH_take (i := 21) (oi := ⟨some 33, .move (.tmp 7), 3, "plate.go:93", #[⟨16, .guard⟩], some (16, false)⟩) (v := ?_) rfl (by kernel_rfl) (by kernel_rfl) (by kernel_rfl) (fun _ _ _ h => h) (Or.inl ⟨by rfl, fun W hSw => ?_⟩) hHeld ?_
 rotate_left
 ·(try dsimp only at hSw); go_simp; (try with_reducible rfl)
 (try simp only [Act.put, List.setIfInBounds_toArray, List.set_cons_zero, List.set_cons_succ])
 refine wpAnyH_ready (rs := [20]) (by kernel_rfl) (by simp) ?_
 refine (AllReadyH.cons (o := ⟨some 32, .call { callee := .value (.func 216), args := #[.tmp 29, .tmp 30, .tmp 31], argTypes := #[151, 3, 3] }, 3, "plate.go:93", #[⟨17, .data⟩, ⟨18, .data⟩, ⟨19, .data⟩, ⟨16, .chain⟩, ⟨16, .guard⟩], some (16, false)⟩) rfl (fun K hK => ?_) AllReadyH.nil)
 rw [if_pos (by rfl)]
 go_simp
 refine (hfa _ hbz).mono ?_
 rintro e' wz ⟨rfl, hb1⟩
 replace hbz := fr_call hbz hb1
 refine hK.out _ _ (hkS _ hbz) (fun hHeld => ?_)
 clear hK K
 (try simp only [Act.put, List.setIfInBounds_toArray, List.set_cons_zero, List.set_cons_succ])
 refine wpAnyH_ready (rs := [22]) (by kernel_rfl) (by simp) ?_
 refine (AllReadyH.cons (o := ⟨some 34, .call { callee := .value (.func 217), args := #[.tmp 33], argTypes := #[3] }, 3, "plate.go:93", #[⟨21, .data⟩, ⟨20, .chain⟩, ⟨16, .guard⟩], some (16, false)⟩) rfl (fun K hK => ?_) AllReadyH.nil)
 rw [if_pos (by rfl)]
 go_simp
 refine (hq1 _).mono ?_
 rintro e' wq ⟨rfl, rfl⟩
 refine hK.out _ _ (hkS _ hbz) (fun hHeld => ?_)
 clear hK K
 (try simp only [Act.put, List.setIfInBounds_toArray, List.set_cons_zero, List.set_cons_succ])
 refine wpAnyH_take (i := 23) (oi := ⟨some 35, .binOp .lss 3 (.tmp 32) (.tmp 34) 3, 4, "plate.go:93", #[⟨20, .data⟩, ⟨22, .data⟩, ⟨16, .guard⟩], some (16, false)⟩) (v := ?_) rfl (by kernel_rfl) (by kernel_rfl) (by kernel_rfl) (fun _ _ _ h => h) (Or.inl ⟨by rfl, fun W hSw => ?_⟩) hHeld ?_
 rotate_left
 ·(try dsimp only at hSw); go_simp; (try with_reducible rfl)
 (try simp only [Act.put, List.setIfInBounds_toArray, List.set_cons_zero, List.set_cons_succ])
 refine wpAnyH_take (i := 24) (oi := ⟨some 36, .pick (.tmp 28) (.const (.bool true)) (.tmp 35), 4, "plate.go:93", #[⟨16, .data⟩, ⟨23, .data⟩, ⟨4, .guard⟩], some (4, true)⟩) (v := ?_) rfl (by kernel_rfl) (by kernel_rfl) (by kernel_rfl) (fun _ _ _ h => h) (Or.inl ⟨by rfl, fun W hSw => ?_⟩) hHeld ?_
 rotate_left
 ·(try dsimp only at hSw); go_simp; (try with_reducible rfl)
 (try simp only [Act.put, List.setIfInBounds_toArray, List.set_cons_zero, List.set_cons_succ])
 refine wpAnyH_take (i := 25) (oi := ⟨some 37, .move (.tmp 36), 4, "plate.go:93", #[⟨24, .data⟩, ⟨22, .chain⟩, ⟨4, .guard⟩], some (4, true)⟩) (v := ?_) rfl (by kernel_rfl) (by kernel_rfl) (by kernel_rfl) (fun _ _ _ h => h) (Or.inl ⟨by rfl, fun W hSw => ?_⟩) hHeld ?_
 rotate_left
 ·(try dsimp only at hSw); go_simp; (try with_reducible rfl)
 (try simp only [Act.put, List.setIfInBounds_toArray, List.set_cons_zero, List.set_cons_succ])
 refine wpAnyH_take (i := 26) (oi := ⟨some 38, .load 151 (.tmp 3), 151, "plate.go:93", #[⟨25, .guard⟩], some (25, false)⟩) (v := undef) rfl (by kernel_rfl) (by kernel_rfl) (by kernel_rfl) (fun _ _ _ h => h) (Or.inr ⟨by rfl, rfl⟩) hHeld ?_
 (try simp only [Act.put, List.setIfInBounds_toArray, List.set_cons_zero, List.set_cons_succ])
 refine wpAnyH_take (i := 27) (oi := ⟨some 39, .move (.tmp 1), 3, "plate.go:93", #[⟨25, .guard⟩], some (25, false)⟩) (v := undef) rfl (by kernel_rfl) (by kernel_rfl) (by kernel_rfl) (fun _ _ _ h => h) (Or.inr ⟨by rfl, rfl⟩) hHeld ?_
 (try simp only [Act.put, List.setIfInBounds_toArray, List.set_cons_zero, List.set_cons_succ])
 refine wpAnyH_take (i := 28) (oi := ⟨some 40, .move (.tmp 2), 3, "plate.go:93", #[⟨25, .guard⟩], some (25, false)⟩) (v := undef) rfl (by kernel_rfl) (by kernel_rfl) (by kernel_rfl) (fun _ _ _ h => h) (Or.inr ⟨by rfl, rfl⟩) hHeld ?_
 (try simp only [Act.put, List.setIfInBounds_toArray, List.set_cons_zero, List.set_cons_succ])
 refine wpAnyH_take (i := 29) (oi := ⟨some 41, .call { callee := .value (.func 216), args := #[.tmp 38, .tmp 39, .tmp 40], argTypes := #[151, 3, 3] }, 3, "plate.go:93", #[⟨26, .data⟩, ⟨27, .data⟩, ⟨28, .data⟩, ⟨25, .chain⟩, ⟨25, .guard⟩], some (25, false)⟩) (v := undef) rfl (by kernel_rfl) (by kernel_rfl) (by kernel_rfl) (fun _ _ _ h => h) (Or.inr ⟨by rfl, rfl⟩) hHeld ?_
 (try simp only [Act.put, List.setIfInBounds_toArray, List.set_cons_zero, List.set_cons_succ])
 refine wpAnyH_take (i := 30) (oi := ⟨some 42, .move (.tmp 7), 3, "plate.go:93", #[⟨25, .guard⟩], some (25, false)⟩) (v := undef) rfl (by kernel_rfl) (by kernel_rfl) (by kernel_rfl) (fun _ _ _ h => h) (Or.inr ⟨by rfl, rfl⟩) hHeld ?_
 (try simp only [Act.put, List.setIfInBounds_toArray, List.set_cons_zero, List.set_cons_succ])
 refine wpAnyH_take (i := 31) (oi := ⟨some 43, .fieldAddr 151 (.tmp 3) 0, 0, "plate.go:93", #[⟨25, .guard⟩], some (25, false)⟩) (v := undef) rfl (by kernel_rfl) (by kernel_rfl) (by kernel_rfl) (fun _ _ _ h => h) (Or.inr ⟨by rfl, rfl⟩) hHeld ?_
 (try simp only [Act.put, List.setIfInBounds_toArray, List.set_cons_zero, List.set_cons_succ])
 refine wpAnyH_take (i := 32) (oi := ⟨some 44, .fieldAddr 86 (.tmp 43) 2, 0, "plate.go:93", #[⟨31, .data⟩, ⟨25, .guard⟩], some (25, false)⟩) (v := undef) rfl (by kernel_rfl) (by kernel_rfl) (by kernel_rfl) (fun _ _ _ h => h) (Or.inr ⟨by rfl, rfl⟩) hHeld ?_
 (try simp only [Act.put, List.setIfInBounds_toArray, List.set_cons_zero, List.set_cons_succ])
 refine wpAnyH_take (i := 33) (oi := ⟨some 45, .load 3 (.tmp 44), 3, "plate.go:93", #[⟨32, .data⟩, ⟨25, .guard⟩], some (25, false)⟩) (v := undef) rfl (by kernel_rfl) (by kernel_rfl) (by kernel_rfl) (fun _ _ _ h => h) (Or.inr ⟨by rfl, rfl⟩) hHeld ?_
 (try simp only [Act.put, List.setIfInBounds_toArray, List.set_cons_zero, List.set_cons_succ])
 refine wpAnyH_take (i := 34) (oi := ⟨some 46, .binOp .add 3 (.tmp 42) (.tmp 45) 3, 3, "plate.go:93", #[⟨30, .data⟩, ⟨33, .data⟩, ⟨25, .guard⟩], some (25, false)⟩) (v := undef) rfl (by kernel_rfl) (by kernel_rfl) (by kernel_rfl) (fun _ _ _ h => h) (Or.inr ⟨by rfl, rfl⟩) hHeld ?_
 (try simp only [Act.put, List.setIfInBounds_toArray, List.set_cons_zero, List.set_cons_succ])
 refine wpAnyH_take (i := 35) (oi := ⟨some 47, .call { callee := .value (.func 217), args := #[.tmp 46], argTypes := #[3] }, 3, "plate.go:93", #[⟨34, .data⟩, ⟨29, .chain⟩, ⟨25, .guard⟩], some (25, false)⟩) (v := undef) rfl (by kernel_rfl) (by kernel_rfl) (by kernel_rfl) (fun _ _ _ h => h) (Or.inr ⟨by rfl, rfl⟩) hHeld ?_
 (try simp only [Act.put, List.setIfInBounds_toArray, List.set_cons_zero, List.set_cons_succ])
 refine wpAnyH_take (i := 36) (oi := ⟨some 48, .binOp .gtr 3 (.tmp 41) (.tmp 47) 3, 4, "plate.go:93", #[⟨29, .data⟩, ⟨35, .data⟩, ⟨25, .guard⟩], some (25, false)⟩) (v := undef) rfl (by kernel_rfl) (by kernel_rfl) (by kernel_rfl) (fun _ _ _ h => h) (Or.inr ⟨by rfl, rfl⟩) hHeld ?_
 (try simp only [Act.put, List.setIfInBounds_toArray, List.set_cons_zero, List.set_cons_succ])
 refine wpAnyH_take (i := 37) (oi := ⟨some 49, .pick (.tmp 37) (.const (.bool true)) (.tmp 48), 4, "plate.go:93", #[⟨25, .data⟩, ⟨36, .data⟩, ⟨4, .guard⟩], some (4, true)⟩) (v := ?_) rfl (by kernel_rfl) (by kernel_rfl) (by kernel_rfl) (fun _ _ _ h => h) (Or.inl ⟨by rfl, fun W hSw => ?_⟩) hHeld ?_
 rotate_left
 ·(try dsimp only at hSw); go_simp; (try with_reducible rfl)
 (try simp only [Act.put, List.setIfInBounds_toArray, List.set_cons_zero, List.set_cons_succ])
 refine wpAnyH_take (i := 38) (oi := ⟨some 50, .pick (.tmp 16) (.tmp 49) (.const (.bool false)), 4, "plate.go:93", #[⟨4, .data⟩, ⟨37, .data⟩], none⟩) (v := ?_) rfl (by kernel_rfl) (by kernel_rfl) (by kernel_rfl) (fun _ _ _ h => h) (Or.inl ⟨by rfl, fun W hSw => ?_⟩) hHeld ?_
 rotate_left
 ·(try dsimp only at hSw); go_simp; (try with_reducible rfl)
 (try simp only [Act.put, List.setIfInBounds_toArray, List.set_cons_zero, List.set_cons_succ])
 refine wpAnyH_take (i := 39) (oi := ⟨some 6, .assign (.tmp 50), 4, "plate.go:93", #[⟨38, .data⟩, ⟨35, .chain⟩, ⟨0, .phase⟩, ⟨1, .phase⟩, ⟨2, .phase⟩, ⟨3, .phase⟩, ⟨4, .phase⟩, ⟨5, .phase⟩, ⟨6, .phase⟩, ⟨7, .phase⟩, ⟨8, .phase⟩, ⟨9, .phase⟩, ⟨10, .phase⟩, ⟨11, .phase⟩, ⟨12, .phase⟩, ⟨13, .phase⟩, ⟨14, .phase⟩, ⟨15, .phase⟩, ⟨16, .phase⟩, ⟨17, .phase⟩, ⟨18, .phase⟩, ⟨19, .phase⟩, ⟨20, .phase⟩, ⟨21, .phase⟩, ⟨22, .phase⟩, ⟨23, .phase⟩, ⟨24, .phase⟩, ⟨25, .phase⟩, ⟨26, .phase⟩, ⟨27, .phase⟩, ⟨28, .phase⟩, ⟨29, .phase⟩, ⟨30, .phase⟩, ⟨31, .phase⟩, ⟨32, .phase⟩, ⟨33, .phase⟩, ⟨34, .phase⟩, ⟨35, .phase⟩, ⟨36, .phase⟩, ⟨37, .phase⟩, ⟨38, .phase⟩], none⟩) (v := ?_) rfl (by kernel_rfl) (by kernel_rfl) (by kernel_rfl) (fun _ _ _ h => h) (Or.inl ⟨by rfl, fun W hSw => ?_⟩) hHeld ?_
 rotate_left
 ·(try dsimp only at hSw); go_simp; (try with_reducible rfl)
 (try simp only [Act.put, List.setIfInBounds_toArray, List.set_cons_zero, List.set_cons_succ])
 refine wpAnyH_done (by kernel_rfl) ?_ _
 refine NoPanic.normal ?_
 go_wp2_with fail
 go_ret
 exact ⟨rfl, fr_call hb0 hbz⟩
set_option maxRecDepth 100000 in
set_option maxHeartbeats 16000000 in
theorem apart_far (pw ph pp pg po : Int) (A B M : Option Addr) (n nc m mc k kc a b l : Nat) (gn : Value) (L : List (Int × Int)) (ws : List PWh) (cs : List PPt) (w : World) (hM : MapM w l L) (hA : RdS w A 2 (cs.map PPt.cells)) (hn : cs.length = n) (hB : RdS w B 4 (ws.map PWh.cells)) (hm : ws.length = m) (hal : a ≤ b) (ha : a < m) (hb : b < m) (x y : PWh) (hx : ws[a]? = some x) (hy : ws[b]? = some y)
  (p q : Nat) (hp : x.centre = (p : Int)) (hq : y.centre = (q : Int)) (c d : PPt) (hc : cs[p]? = some c) (hd : cs[q]? = some d) (hco : PtOk c) (hdo : PtOk d) (ht : (0 ≤ x.teeth ∧ x.teeth ≤ 50) ∧ 0 ≤ y.teeth ∧ y.teeth ≤ 50) (hyes : L.contains ((a : Int), (b : Int)) = true) (hll : x.layer = y.layer) (hcc : x.centre ≠ y.centre) (hpp : 0 ≤ pp ∧ pp ≤ 4) (hfs : ¬ farP c d < (x.teeth + y.teeth) * (x.teeth + y.teeth)) :
  Calls Tryz.prog 157 #[.agg #[.int .i64 pw, .int .i64 ph, .int .i64 pp, .int .i64 pg, .int .i64 po, .slice A n nc, .slice B m mc, .slice M k kc, .map (some l), gn], .int .i64 a, .int .i64 b] w fun e w' => e = .returned (.bool (decide ((x.teeth + y.teeth + pp) * (x.teeth + y.teeth + pp) < farP c d))) ∧ Below w.heap.size w w' := by
 have hb0 := fr_alloc (fr_refl w) (.cells #[.int .i64 pw, .int .i64 ph, .int .i64 pp, .int .i64 pg, .int .i64 po, .slice A n nc, .slice B m mc, .slice M k kc, .map (some l), gn] 151)
 have hX := Blk.new w 151 #[.int .i64 pw, .int .i64 ph, .int .i64 pp, .int .i64 pg, .int .i64 po, .slice A n nc, .slice B m mc, .slice M k kc, .map (some l), gn]
 obtain ⟨w1, hw1⟩ : ∃ w1, w.alloc (.cells #[.int .i64 pw, .int .i64 ph, .int .i64 pp, .int .i64 pg, .int .i64 po, .slice A n nc, .slice B m mc, .slice M k kc, .map (some l), gn] 151) = w1 := ⟨_, rfl⟩
 rw [hw1] at hb0 hX
 have hme := fun W (h : Below w1.heap.size w1 W) (bb : Bool) (hbb : L.contains ((a : Int), (b : Int)) = bb) => mesh_is pw ph pp pg po A B M n nc m mc k kc a b l gn L W ((hM.keep hb0).keep h) hal bb hbb
 have hle := fun W (h : Below w1.heap.size w1 W) => level_is pw ph pp pg po A B M n nc m mc k kc a b (.map (some l)) gn ws W ((hB.keep hb0).keep h) hm ha hb x y hx hy
 have hce := fun W (h : Below w1.heap.size w1 W) => centred_is pw ph pp pg po A B M n nc m mc k kc a b (.map (some l)) gn ws W ((hB.keep hb0).keep h) hm ha hb x y hx hy
 have hsu := fun W (h : Below w1.heap.size w1 W) => lsum_is pw ph pp pg po A B M n nc m mc k kc a b (.map (some l)) gn ws W ((hB.keep hb0).keep h) hm ha hb x y hx hy ht
 have hfa := fun W (h : Below w1.heap.size w1 W) => far_is pw ph pp pg po A B M n nc m mc k kc a b (.map (some l)) gn ws cs W ((hA.keep hb0).keep h) hn ((hB.keep hb0).keep h) hm ha hb x y hx hy p q hp hq c d hc hd hco hdo
 have hlX := hX.lt
 have hcX := fun j => hX.cell j
 have hkS : ∀ W, Below w1.heap.size w1 W → (∀ j, W.cell? ⟨w.heap.size, j, none⟩ = (#[.int .i64 pw, .int .i64 ph, .int .i64 pp, .int .i64 pg, .int .i64 po, .slice A n nc, .slice B m mc, .slice M k kc, .map (some l), gn] : Array Value)[j]?) := fun W hb => fun j => (hX.keep hb).cell j
 replace hme := fun W h => hme W h true hyes
 rw [show (x.layer == y.layer) = true from beq_iff_eq.2 hll] at hle
 rw [show (x.centre == y.centre) = false from beq_eq_false_iff_ne.2 hcc] at hce
 obtain ⟨s, hs⟩ : ∃ s, x.teeth + y.teeth = s := ⟨_, rfl⟩
 obtain ⟨f, hf⟩ : ∃ f, farP c d = f := ⟨_, rfl⟩
 have hsb : 0 ≤ s ∧ s ≤ 100 := by omega
 rw [hs] at hsu hfs ⊢
 rw [hf] at hfa hfs ⊢
 have hq1 := fun W => square_is s W (by omega)
 have hq2 := fun W => square_is (s + pp) W (by omega)
 have z1 : IntKind.i64.wrap (s + pp) = s + pp := IntWalk.i64_in _ (by omega)
 have d1 : decide (f < s * s) = false := decide_eq_false hfs
 clear hM hA hB hx hy hc hd hp hq hX hco hdo hn hm ha hb hal
 clear hyes hll hcc hs hf hfs ht
 go_enter Tryz.func157, Tryz.ntmps157
 go_upto_region 1 with (fail)
 (try rw [hw1])
 clear hw1
 go_wp2_with fail
 refine (hsu _ (fr_refl _)).mono ?_
 rintro e' w2 ⟨rfl, hbB⟩
 clear hcX
 go_upto_region 2 with (fail)
 refine wp_region_noPanic ?_
 have hbz := fr_drew (fr_refl w2)
 replace hbz := fr_call hbB hbz
 refine wp_region_held_drew (S := fun W => (∀ j, W.cell? ⟨w.heap.size, j, none⟩ = (#[.int .i64 pw, .int .i64 ph, .int .i64 pp, .int .i64 pg, .int .i64 po, .slice A n nc, .slice B m mc, .slice M k kc, .map (some l), gn] : Array Value)[j]?)) (by kernel_rfl) (hkS _ hbz) (fun hHeld => ?_)
 generalize w2.drew = wz at hbz hHeld ⊢
 -- the region, step by step, in whatever order
 refine wpAnyH_take (i := 0) (oi := ⟨some 12, .load 151 (.tmp 3), 151, "plate.go:93", #[], none⟩) (v := ?_) rfl (by kernel_rfl) (by kernel_rfl) (by kernel_rfl) (fun _ _ _ h => h) (Or.inl ⟨by rfl, fun W hSw => ?_⟩) hHeld ?_
 rotate_left
 ·(try dsimp only at hSw); go_simp; (try with_reducible rfl)
 (try simp only [Act.put, List.setIfInBounds_toArray, List.set_cons_zero, List.set_cons_succ])
 refine wpAnyH_take (i := 1) (oi := ⟨some 13, .move (.tmp 1), 3, "plate.go:93", #[], none⟩) (v := ?_) rfl (by kernel_rfl) (by kernel_rfl) (by kernel_rfl) (fun _ _ _ h => h) (Or.inl ⟨by rfl, fun W hSw => ?_⟩) hHeld ?_
 rotate_left
 ·(try dsimp only at hSw); go_simp; (try with_reducible rfl)
 (try simp only [Act.put, List.setIfInBounds_toArray, List.set_cons_zero, List.set_cons_succ])
 refine wpAnyH_take (i := 2) (oi := ⟨some 14, .move (.tmp 2), 3, "plate.go:93", #[], none⟩) (v := ?_) rfl (by kernel_rfl) (by kernel_rfl) (by kernel_rfl) (fun _ _ _ h => h) (Or.inl ⟨by rfl, fun W hSw => ?_⟩) hHeld ?_
 rotate_left
 ·(try dsimp only at hSw); go_simp; (try with_reducible rfl)
 (try simp only [Act.put, List.setIfInBounds_toArray, List.set_cons_zero, List.set_cons_succ])
 refine wpAnyH_ready (rs := [3]) (by kernel_rfl) (by simp) ?_
 refine (AllReadyH.cons (o := ⟨some 15, .call { callee := .value (.func 213), args := #[.tmp 12, .tmp 13, .tmp 14], argTypes := #[151, 3, 3] }, 4, "plate.go:93", #[⟨0, .data⟩, ⟨1, .data⟩, ⟨2, .data⟩], none⟩) rfl (fun K hK => ?_) AllReadyH.nil)
 rw [if_pos (by rfl)]
 go_simp
 refine (hme _ hbz).mono ?_
 rintro e' wz ⟨rfl, hb1⟩
 replace hbz := fr_call hbz hb1
 refine hK.out _ _ (hkS _ hbz) (fun hHeld => ?_)
 clear hK K
 (try simp only [Act.put, List.setIfInBounds_toArray, List.set_cons_zero, List.set_cons_succ])
 refine wpAnyH_take (i := 4) (oi := ⟨some 16, .move (.tmp 15), 4, "plate.go:93", #[⟨3, .data⟩, ⟨3, .chain⟩], none⟩) (v := ?_) rfl (by kernel_rfl) (by kernel_rfl) (by kernel_rfl) (fun _ _ _ h => h) (Or.inl ⟨by rfl, fun W hSw => ?_⟩) hHeld ?_
 rotate_left
 ·(try dsimp only at hSw); go_simp; (try with_reducible rfl)
 (try simp only [Act.put, List.setIfInBounds_toArray, List.set_cons_zero, List.set_cons_succ])
 refine wpAnyH_take (i := 5) (oi := ⟨some 17, .load 151 (.tmp 3), 151, "plate.go:93", #[⟨4, .guard⟩], some (4, true)⟩) (v := ?_) rfl (by kernel_rfl) (by kernel_rfl) (by kernel_rfl) (fun _ _ _ h => h) (Or.inl ⟨by rfl, fun W hSw => ?_⟩) hHeld ?_
 rotate_left
 ·(try dsimp only at hSw); go_simp; (try with_reducible rfl)
 (try simp only [Act.put, List.setIfInBounds_toArray, List.set_cons_zero, List.set_cons_succ])
 refine wpAnyH_take (i := 6) (oi := ⟨some 18, .move (.tmp 1), 3, "plate.go:93", #[⟨4, .guard⟩], some (4, true)⟩) (v := ?_) rfl (by kernel_rfl) (by kernel_rfl) (by kernel_rfl) (fun _ _ _ h => h) (Or.inl ⟨by rfl, fun W hSw => ?_⟩) hHeld ?_
 rotate_left
 ·(try dsimp only at hSw); go_simp; (try with_reducible rfl)
 (try simp only [Act.put, List.setIfInBounds_toArray, List.set_cons_zero, List.set_cons_succ])
 refine wpAnyH_take (i := 7) (oi := ⟨some 19, .move (.tmp 2), 3, "plate.go:93", #[⟨4, .guard⟩], some (4, true)⟩) (v := ?_) rfl (by kernel_rfl) (by kernel_rfl) (by kernel_rfl) (fun _ _ _ h => h) (Or.inl ⟨by rfl, fun W hSw => ?_⟩) hHeld ?_
 rotate_left
 ·(try dsimp only at hSw); go_simp; (try with_reducible rfl)
 (try simp only [Act.put, List.setIfInBounds_toArray, List.set_cons_zero, List.set_cons_succ])
 refine wpAnyH_ready (rs := [8]) (by kernel_rfl) (by simp) ?_
 refine (AllReadyH.cons (o := ⟨some 20, .call { callee := .value (.func 214), args := #[.tmp 17, .tmp 18, .tmp 19], argTypes := #[151, 3, 3] }, 4, "plate.go:93", #[⟨5, .data⟩, ⟨6, .data⟩, ⟨7, .data⟩, ⟨4, .chain⟩, ⟨4, .guard⟩], some (4, true)⟩) rfl (fun K hK => ?_) AllReadyH.nil)
 rw [if_pos (by rfl)]
 go_simp
 refine (hle _ hbz).mono ?_
 rintro e' wz ⟨rfl, hb1⟩
 replace hbz := fr_call hbz hb1
 refine hK.out _ _ (hkS _ hbz) (fun hHeld => ?_)
 clear hK K
 (try simp only [Act.put, List.setIfInBounds_toArray, List.set_cons_zero, List.set_cons_succ])
 refine wpAnyH_take (i := 9) (oi := ⟨some 21, .unOp .not 4 (.tmp 20), 4, "plate.go:93", #[⟨8, .data⟩, ⟨4, .guard⟩], some (4, true)⟩) (v := ?_) rfl (by kernel_rfl) (by kernel_rfl) (by kernel_rfl) (fun _ _ _ h => h) (Or.inl ⟨by rfl, fun W hSw => ?_⟩) hHeld ?_
 rotate_left
 ·(try dsimp only at hSw); go_simp; (try with_reducible rfl)
 (try simp only [Act.put, List.setIfInBounds_toArray, List.set_cons_zero, List.set_cons_succ])
 refine wpAnyH_take (i := 10) (oi := ⟨some 22, .move (.tmp 21), 4, "plate.go:93", #[⟨9, .data⟩, ⟨8, .chain⟩, ⟨4, .guard⟩], some (4, true)⟩) (v := ?_) rfl (by kernel_rfl) (by kernel_rfl) (by kernel_rfl) (fun _ _ _ h => h) (Or.inl ⟨by rfl, fun W hSw => ?_⟩) hHeld ?_
 rotate_left
 ·(try dsimp only at hSw); go_simp; (try with_reducible rfl)
 (try simp only [Act.put, List.setIfInBounds_toArray, List.set_cons_zero, List.set_cons_succ])
 refine wpAnyH_take (i := 11) (oi := ⟨some 23, .load 151 (.tmp 3), 151, "plate.go:93", #[⟨10, .guard⟩], some (10, false)⟩) (v := ?_) rfl (by kernel_rfl) (by kernel_rfl) (by kernel_rfl) (fun _ _ _ h => h) (Or.inl ⟨by rfl, fun W hSw => ?_⟩) hHeld ?_
 rotate_left
 ·(try dsimp only at hSw); go_simp; (try with_reducible rfl)
 (try simp only [Act.put, List.setIfInBounds_toArray, List.set_cons_zero, List.set_cons_succ])
 refine wpAnyH_take (i := 12) (oi := ⟨some 24, .move (.tmp 1), 3, "plate.go:93", #[⟨10, .guard⟩], some (10, false)⟩) (v := ?_) rfl (by kernel_rfl) (by kernel_rfl) (by kernel_rfl) (fun _ _ _ h => h) (Or.inl ⟨by rfl, fun W hSw => ?_⟩) hHeld ?_
 rotate_left
 ·(try dsimp only at hSw); go_simp; (try with_reducible rfl)
 (try simp only [Act.put, List.setIfInBounds_toArray, List.set_cons_zero, List.set_cons_succ])
 refine wpAnyH_take (i := 13) (oi := ⟨some 25, .move (.tmp 2), 3, "plate.go:93", #[⟨10, .guard⟩], some (10, false)⟩) (v := ?_) rfl (by kernel_rfl) (by kernel_rfl) (by kernel_rfl) (fun _ _ _ h => h) (Or.inl ⟨by rfl, fun W hSw => ?_⟩) hHeld ?_
 rotate_left
 ·(try dsimp only at hSw); go_simp; (try with_reducible rfl)
 (try simp only [Act.put, List.setIfInBounds_toArray, List.set_cons_zero, List.set_cons_succ])
 refine wpAnyH_ready (rs := [14]) (by kernel_rfl) (by simp) ?_
 refine (AllReadyH.cons (o := ⟨some 26, .call { callee := .value (.func 215), args := #[.tmp 23, .tmp 24, .tmp 25], argTypes := #[151, 3, 3] }, 4, "plate.go:93", #[⟨11, .data⟩, ⟨12, .data⟩, ⟨13, .data⟩, ⟨10, .chain⟩, ⟨10, .guard⟩], some (10, false)⟩) rfl (fun K hK => ?_) AllReadyH.nil)
 rw [if_pos (by rfl)]
 go_simp
 refine (hce _ hbz).mono ?_
 rintro e' wz ⟨rfl, hb1⟩
 replace hbz := fr_call hbz hb1
 refine hK.out _ _ (hkS _ hbz) (fun hHeld => ?_)
 clear hK K
 (try simp only [Act.put, List.setIfInBounds_toArray, List.set_cons_zero, List.set_cons_succ])
 refine wpAnyH_take (i := 15) (oi := ⟨some 27, .pick (.tmp 22) (.const (.bool true)) (.tmp 26), 4, "plate.go:93", #[⟨10, .data⟩, ⟨14, .data⟩, ⟨4, .guard⟩], some (4, true)⟩) (v := ?_) rfl (by kernel_rfl) (by kernel_rfl) (by kernel_rfl) (fun _ _ _ h => h) (Or.inl ⟨by rfl, fun W hSw => ?_⟩) hHeld ?_
 rotate_left
 ·(try dsimp only at hSw); go_simp; (try with_reducible rfl)
 (try simp only [Act.put, List.setIfInBounds_toArray, List.set_cons_zero, List.set_cons_succ])
 refine wpAnyH_take (i := 16) (oi := ⟨some 28, .move (.tmp 27), 4, "plate.go:93", #[⟨15, .data⟩, ⟨14, .chain⟩, ⟨4, .guard⟩], some (4, true)⟩) (v := ?_) rfl (by kernel_rfl) (by kernel_rfl) (by kernel_rfl) (fun _ _ _ h => h) (Or.inl ⟨by rfl, fun W hSw => ?_⟩) hHeld ?_
 rotate_left
 ·(try dsimp only at hSw); go_simp; (try with_reducible rfl)
 (try simp only [Act.put, List.setIfInBounds_toArray, List.set_cons_zero, List.set_cons_succ])
 refine wpAnyH_take (i := 17) (oi := ⟨some 29, .load 151 (.tmp 3), 151, "plate.go:93", #[⟨16, .guard⟩], some (16, false)⟩) (v := ?_) rfl (by kernel_rfl) (by kernel_rfl) (by kernel_rfl) (fun _ _ _ h => h) (Or.inl ⟨by rfl, fun W hSw => ?_⟩) hHeld ?_
 rotate_left
 ·(try dsimp only at hSw); go_simp; (try with_reducible rfl)
 (try simp only [Act.put, List.setIfInBounds_toArray, List.set_cons_zero, List.set_cons_succ])
 refine wpAnyH_take (i := 18) (oi := ⟨some 30, .move (.tmp 1), 3, "plate.go:93", #[⟨16, .guard⟩], some (16, false)⟩) (v := ?_) rfl (by kernel_rfl) (by kernel_rfl) (by kernel_rfl) (fun _ _ _ h => h) (Or.inl ⟨by rfl, fun W hSw => ?_⟩) hHeld ?_
 rotate_left
 ·(try dsimp only at hSw); go_simp; (try with_reducible rfl)
 (try simp only [Act.put, List.setIfInBounds_toArray, List.set_cons_zero, List.set_cons_succ])
 refine wpAnyH_take (i := 19) (oi := ⟨some 31, .move (.tmp 2), 3, "plate.go:93", #[⟨16, .guard⟩], some (16, false)⟩) (v := ?_) rfl (by kernel_rfl) (by kernel_rfl) (by kernel_rfl) (fun _ _ _ h => h) (Or.inl ⟨by rfl, fun W hSw => ?_⟩) hHeld ?_
 rotate_left
 ·(try dsimp only at hSw); go_simp; (try with_reducible rfl)
 (try simp only [Act.put, List.setIfInBounds_toArray, List.set_cons_zero, List.set_cons_succ])
 refine wpAnyH_take (i := 21) (oi := ⟨some 33, .move (.tmp 7), 3, "plate.go:93", #[⟨16, .guard⟩], some (16, false)⟩) (v := ?_) rfl (by kernel_rfl) (by kernel_rfl) (by kernel_rfl) (fun _ _ _ h => h) (Or.inl ⟨by rfl, fun W hSw => ?_⟩) hHeld ?_
 rotate_left
 ·(try dsimp only at hSw); go_simp; (try with_reducible rfl)
 (try simp only [Act.put, List.setIfInBounds_toArray, List.set_cons_zero, List.set_cons_succ])
 refine wpAnyH_ready (rs := [20]) (by kernel_rfl) (by simp) ?_
 refine (AllReadyH.cons (o := ⟨some 32, .call { callee := .value (.func 216), args := #[.tmp 29, .tmp 30, .tmp 31], argTypes := #[151, 3, 3] }, 3, "plate.go:93", #[⟨17, .data⟩, ⟨18, .data⟩, ⟨19, .data⟩, ⟨16, .chain⟩, ⟨16, .guard⟩], some (16, false)⟩) rfl (fun K hK => ?_) AllReadyH.nil)
 rw [if_pos (by rfl)]
 go_simp
 refine (hfa _ hbz).mono ?_
 rintro e' wz ⟨rfl, hb1⟩
 replace hbz := fr_call hbz hb1
 refine hK.out _ _ (hkS _ hbz) (fun hHeld => ?_)
 clear hK K
 (try simp only [Act.put, List.setIfInBounds_toArray, List.set_cons_zero, List.set_cons_succ])
 refine wpAnyH_ready (rs := [22]) (by kernel_rfl) (by simp) ?_
 refine (AllReadyH.cons (o := ⟨some 34, .call { callee := .value (.func 217), args := #[.tmp 33], argTypes := #[3] }, 3, "plate.go:93", #[⟨21, .data⟩, ⟨20, .chain⟩, ⟨16, .guard⟩], some (16, false)⟩) rfl (fun K hK => ?_) AllReadyH.nil)
 rw [if_pos (by rfl)]
 go_simp
 refine (hq1 _).mono ?_
 rintro e' wq ⟨rfl, rfl⟩
 refine hK.out _ _ (hkS _ hbz) (fun hHeld => ?_)
 clear hK K
 (try simp only [Act.put, List.setIfInBounds_toArray, List.set_cons_zero, List.set_cons_succ])
 refine wpAnyH_take (i := 23) (oi := ⟨some 35, .binOp .lss 3 (.tmp 32) (.tmp 34) 3, 4, "plate.go:93", #[⟨20, .data⟩, ⟨22, .data⟩, ⟨16, .guard⟩], some (16, false)⟩) (v := ?_) rfl (by kernel_rfl) (by kernel_rfl) (by kernel_rfl) (fun _ _ _ h => h) (Or.inl ⟨by rfl, fun W hSw => ?_⟩) hHeld ?_
 rotate_left
 ·(try dsimp only at hSw); go_simp; (try with_reducible rfl)
 (try simp only [Act.put, List.setIfInBounds_toArray, List.set_cons_zero, List.set_cons_succ])
 refine wpAnyH_take (i := 24) (oi := ⟨some 36, .pick (.tmp 28) (.const (.bool true)) (.tmp 35), 4, "plate.go:93", #[⟨16, .data⟩, ⟨23, .data⟩, ⟨4, .guard⟩], some (4, true)⟩) (v := ?_) rfl (by kernel_rfl) (by kernel_rfl) (by kernel_rfl) (fun _ _ _ h => h) (Or.inl ⟨by rfl, fun W hSw => ?_⟩) hHeld ?_
 rotate_left
 ·(try dsimp only at hSw); go_simp; (try with_reducible rfl)
 (try simp only [Act.put, List.setIfInBounds_toArray, List.set_cons_zero, List.set_cons_succ])
 refine wpAnyH_take (i := 25) (oi := ⟨some 37, .move (.tmp 36), 4, "plate.go:93", #[⟨24, .data⟩, ⟨22, .chain⟩, ⟨4, .guard⟩], some (4, true)⟩) (v := ?_) rfl (by kernel_rfl) (by kernel_rfl) (by kernel_rfl) (fun _ _ _ h => h) (Or.inl ⟨by rfl, fun W hSw => ?_⟩) hHeld ?_
 rotate_left
 ·(try dsimp only at hSw); go_simp; (try with_reducible rfl)
 (try simp only [Act.put, List.setIfInBounds_toArray, List.set_cons_zero, List.set_cons_succ])
 refine wpAnyH_take (i := 26) (oi := ⟨some 38, .load 151 (.tmp 3), 151, "plate.go:93", #[⟨25, .guard⟩], some (25, false)⟩) (v := ?_) rfl (by kernel_rfl) (by kernel_rfl) (by kernel_rfl) (fun _ _ _ h => h) (Or.inl ⟨by rfl, fun W hSw => ?_⟩) hHeld ?_
 rotate_left
 ·(try dsimp only at hSw); go_simp; (try with_reducible rfl)
 (try simp only [Act.put, List.setIfInBounds_toArray, List.set_cons_zero, List.set_cons_succ])
 refine wpAnyH_take (i := 27) (oi := ⟨some 39, .move (.tmp 1), 3, "plate.go:93", #[⟨25, .guard⟩], some (25, false)⟩) (v := ?_) rfl (by kernel_rfl) (by kernel_rfl) (by kernel_rfl) (fun _ _ _ h => h) (Or.inl ⟨by rfl, fun W hSw => ?_⟩) hHeld ?_
 rotate_left
 ·(try dsimp only at hSw); go_simp; (try with_reducible rfl)
 (try simp only [Act.put, List.setIfInBounds_toArray, List.set_cons_zero, List.set_cons_succ])
 refine wpAnyH_take (i := 28) (oi := ⟨some 40, .move (.tmp 2), 3, "plate.go:93", #[⟨25, .guard⟩], some (25, false)⟩) (v := ?_) rfl (by kernel_rfl) (by kernel_rfl) (by kernel_rfl) (fun _ _ _ h => h) (Or.inl ⟨by rfl, fun W hSw => ?_⟩) hHeld ?_
 rotate_left
 ·(try dsimp only at hSw); go_simp; (try with_reducible rfl)
 (try simp only [Act.put, List.setIfInBounds_toArray, List.set_cons_zero, List.set_cons_succ])
 refine wpAnyH_take (i := 30) (oi := ⟨some 42, .move (.tmp 7), 3, "plate.go:93", #[⟨25, .guard⟩], some (25, false)⟩) (v := ?_) rfl (by kernel_rfl) (by kernel_rfl) (by kernel_rfl) (fun _ _ _ h => h) (Or.inl ⟨by rfl, fun W hSw => ?_⟩) hHeld ?_
 rotate_left
 ·(try dsimp only at hSw); go_simp; (try with_reducible rfl)
 (try simp only [Act.put, List.setIfInBounds_toArray, List.set_cons_zero, List.set_cons_succ])
 refine wpAnyH_take (i := 31) (oi := ⟨some 43, .fieldAddr 151 (.tmp 3) 0, 0, "plate.go:93", #[⟨25, .guard⟩], some (25, false)⟩) (v := ?_) rfl (by kernel_rfl) (by kernel_rfl) (by kernel_rfl) (fun _ _ _ h => h) (Or.inl ⟨by rfl, fun W hSw => ?_⟩) hHeld ?_
 rotate_left
 ·(try dsimp only at hSw); go_simp; (try with_reducible rfl)
 (try simp only [Act.put, List.setIfInBounds_toArray, List.set_cons_zero, List.set_cons_succ])
 refine wpAnyH_take (i := 32) (oi := ⟨some 44, .fieldAddr 86 (.tmp 43) 2, 0, "plate.go:93", #[⟨31, .data⟩, ⟨25, .guard⟩], some (25, false)⟩) (v := ?_) rfl (by kernel_rfl) (by kernel_rfl) (by kernel_rfl) (fun _ _ _ h => h) (Or.inl ⟨by rfl, fun W hSw => ?_⟩) hHeld ?_
 rotate_left
 ·(try dsimp only at hSw); go_simp; (try with_reducible rfl)
 (try simp only [Act.put, List.setIfInBounds_toArray, List.set_cons_zero, List.set_cons_succ])
 refine wpAnyH_take (i := 33) (oi := ⟨some 45, .load 3 (.tmp 44), 3, "plate.go:93", #[⟨32, .data⟩, ⟨25, .guard⟩], some (25, false)⟩) (v := ?_) rfl (by kernel_rfl) (by kernel_rfl) (by kernel_rfl) (fun _ _ _ h => h) (Or.inl ⟨by rfl, fun W hSw => ?_⟩) hHeld ?_
 rotate_left
 ·(try dsimp only at hSw); go_simp; (try with_reducible rfl)
 (try simp only [Act.put, List.setIfInBounds_toArray, List.set_cons_zero, List.set_cons_succ])
 refine wpAnyH_take (i := 34) (oi := ⟨some 46, .binOp .add 3 (.tmp 42) (.tmp 45) 3, 3, "plate.go:93", #[⟨30, .data⟩, ⟨33, .data⟩, ⟨25, .guard⟩], some (25, false)⟩) (v := ?_) rfl (by kernel_rfl) (by kernel_rfl) (by kernel_rfl) (fun _ _ _ h => h) (Or.inl ⟨by rfl, fun W hSw => ?_⟩) hHeld ?_
 rotate_left
 ·(try dsimp only at hSw); go_simp; (try with_reducible rfl)
 (try simp only [Act.put, List.setIfInBounds_toArray, List.set_cons_zero, List.set_cons_succ])
 refine wpAnyH_ready (rs := [29]) (by kernel_rfl) (by simp) ?_
 refine (AllReadyH.cons (o := ⟨some 41, .call { callee := .value (.func 216), args := #[.tmp 38, .tmp 39, .tmp 40], argTypes := #[151, 3, 3] }, 3, "plate.go:93", #[⟨26, .data⟩, ⟨27, .data⟩, ⟨28, .data⟩, ⟨25, .chain⟩, ⟨25, .guard⟩], some (25, false)⟩) rfl (fun K hK => ?_) AllReadyH.nil)
 rw [if_pos (by rfl)]
 go_simp
 refine (hfa _ hbz).mono ?_
 rintro e' wz ⟨rfl, hb1⟩
 replace hbz := fr_call hbz hb1
 refine hK.out _ _ (hkS _ hbz) (fun hHeld => ?_)
 clear hK K
 (try simp only [Act.put, List.setIfInBounds_toArray, List.set_cons_zero, List.set_cons_succ])
 refine wpAnyH_ready (rs := [35]) (by kernel_rfl) (by simp) ?_
 refine (AllReadyH.cons (o := ⟨some 47, .call { callee := .value (.func 217), args := #[.tmp 46], argTypes := #[3] }, 3, "plate.go:93", #[⟨34, .data⟩, ⟨29, .chain⟩, ⟨25, .guard⟩], some (25, false)⟩) rfl (fun K hK => ?_) AllReadyH.nil)
 rw [if_pos (by rfl)]
 go_simp
 refine (hq2 _).mono ?_
 rintro e' wq ⟨rfl, rfl⟩
 refine hK.out _ _ (hkS _ hbz) (fun hHeld => ?_)
 clear hK K
 (try simp only [Act.put, List.setIfInBounds_toArray, List.set_cons_zero, List.set_cons_succ])
 refine wpAnyH_take (i := 36) (oi := ⟨some 48, .binOp .gtr 3 (.tmp 41) (.tmp 47) 3, 4, "plate.go:93", #[⟨29, .data⟩, ⟨35, .data⟩, ⟨25, .guard⟩], some (25, false)⟩) (v := ?_) rfl (by kernel_rfl) (by kernel_rfl) (by kernel_rfl) (fun _ _ _ h => h) (Or.inl ⟨by rfl, fun W hSw => ?_⟩) hHeld ?_
 rotate_left
 ·(try dsimp only at hSw); go_simp; (try with_reducible rfl)
 (try simp only [Act.put, List.setIfInBounds_toArray, List.set_cons_zero, List.set_cons_succ])
 refine wpAnyH_take (i := 37) (oi := ⟨some 49, .pick (.tmp 37) (.const (.bool true)) (.tmp 48), 4, "plate.go:93", #[⟨25, .data⟩, ⟨36, .data⟩, ⟨4, .guard⟩], some (4, true)⟩) (v := ?_) rfl (by kernel_rfl) (by kernel_rfl) (by kernel_rfl) (fun _ _ _ h => h) (Or.inl ⟨by rfl, fun W hSw => ?_⟩) hHeld ?_
 rotate_left
 ·(try dsimp only at hSw); go_simp; (try with_reducible rfl)
 (try simp only [Act.put, List.setIfInBounds_toArray, List.set_cons_zero, List.set_cons_succ])
 refine wpAnyH_take (i := 38) (oi := ⟨some 50, .pick (.tmp 16) (.tmp 49) (.const (.bool false)), 4, "plate.go:93", #[⟨4, .data⟩, ⟨37, .data⟩], none⟩) (v := ?_) rfl (by kernel_rfl) (by kernel_rfl) (by kernel_rfl) (fun _ _ _ h => h) (Or.inl ⟨by rfl, fun W hSw => ?_⟩) hHeld ?_
 rotate_left
 ·(try dsimp only at hSw); go_simp; (try with_reducible rfl)
 (try simp only [Act.put, List.setIfInBounds_toArray, List.set_cons_zero, List.set_cons_succ])
 refine wpAnyH_take (i := 39) (oi := ⟨some 6, .assign (.tmp 50), 4, "plate.go:93", #[⟨38, .data⟩, ⟨35, .chain⟩, ⟨0, .phase⟩, ⟨1, .phase⟩, ⟨2, .phase⟩, ⟨3, .phase⟩, ⟨4, .phase⟩, ⟨5, .phase⟩, ⟨6, .phase⟩, ⟨7, .phase⟩, ⟨8, .phase⟩, ⟨9, .phase⟩, ⟨10, .phase⟩, ⟨11, .phase⟩, ⟨12, .phase⟩, ⟨13, .phase⟩, ⟨14, .phase⟩, ⟨15, .phase⟩, ⟨16, .phase⟩, ⟨17, .phase⟩, ⟨18, .phase⟩, ⟨19, .phase⟩, ⟨20, .phase⟩, ⟨21, .phase⟩, ⟨22, .phase⟩, ⟨23, .phase⟩, ⟨24, .phase⟩, ⟨25, .phase⟩, ⟨26, .phase⟩, ⟨27, .phase⟩, ⟨28, .phase⟩, ⟨29, .phase⟩, ⟨30, .phase⟩, ⟨31, .phase⟩, ⟨32, .phase⟩, ⟨33, .phase⟩, ⟨34, .phase⟩, ⟨35, .phase⟩, ⟨36, .phase⟩, ⟨37, .phase⟩, ⟨38, .phase⟩], none⟩) (v := ?_) rfl (by kernel_rfl) (by kernel_rfl) (by kernel_rfl) (fun _ _ _ h => h) (Or.inl ⟨by rfl, fun W hSw => ?_⟩) hHeld ?_
 rotate_left
 ·(try dsimp only at hSw); go_simp; (try with_reducible rfl)
 (try simp only [Act.put, List.setIfInBounds_toArray, List.set_cons_zero, List.set_cons_succ])
 refine wpAnyH_done (by kernel_rfl) ?_ _
 refine NoPanic.normal ?_
 go_wp2_with fail
 go_ret
 exact ⟨rfl, fr_call hb0 hbz⟩
set_option maxRecDepth 100000 in
set_option maxHeartbeats 16000000 in
theorem touch_mesh (pw ph pp pg po : Int) (A B M : Option Addr) (n nc m mc k kc a b l : Nat) (gn : Value) (L : List (Int × Int)) (ws : List PWh) (cs : List PPt) (w : World) (hM : MapM w l L) (hA : RdS w A 2 (cs.map PPt.cells)) (hn : cs.length = n) (hB : RdS w B 4 (ws.map PWh.cells)) (hm : ws.length = m) (hal : a ≤ b) (ha : a < m) (hb : b < m) (x y : PWh) (hx : ws[a]? = some x) (hy : ws[b]? = some y)
  (p q : Nat) (hp : x.centre = (p : Int)) (hq : y.centre = (q : Int)) (c d : PPt) (hc : cs[p]? = some c) (hd : cs[q]? = some d) (hco : PtOk c) (hdo : PtOk d) (ht : (0 ≤ x.teeth ∧ x.teeth ≤ 50) ∧ 0 ≤ y.teeth ∧ y.teeth ≤ 50) (hyes : L.contains ((a : Int), (b : Int)) = true) :
  Calls Tryz.prog 158 #[.agg #[.int .i64 pw, .int .i64 ph, .int .i64 pp, .int .i64 pg, .int .i64 po, .slice A n nc, .slice B m mc, .slice M k kc, .map (some l), gn], .int .i64 a, .int .i64 b] w fun e w' => e = .returned (.bool false) ∧ Below w.heap.size w w' := by
 have hb0 := fr_alloc (fr_refl w) (.cells #[.int .i64 pw, .int .i64 ph, .int .i64 pp, .int .i64 pg, .int .i64 po, .slice A n nc, .slice B m mc, .slice M k kc, .map (some l), gn] 151)
 have hX := Blk.new w 151 #[.int .i64 pw, .int .i64 ph, .int .i64 pp, .int .i64 pg, .int .i64 po, .slice A n nc, .slice B m mc, .slice M k kc, .map (some l), gn]
 obtain ⟨w1, hw1⟩ : ∃ w1, w.alloc (.cells #[.int .i64 pw, .int .i64 ph, .int .i64 pp, .int .i64 pg, .int .i64 po, .slice A n nc, .slice B m mc, .slice M k kc, .map (some l), gn] 151) = w1 := ⟨_, rfl⟩
 rw [hw1] at hb0 hX
 have hme := fun W (h : Below w1.heap.size w1 W) (bb : Bool) (hbb : L.contains ((a : Int), (b : Int)) = bb) => mesh_is pw ph pp pg po A B M n nc m mc k kc a b l gn L W ((hM.keep hb0).keep h) hal bb hbb
 have hle := fun W (h : Below w1.heap.size w1 W) => level_is pw ph pp pg po A B M n nc m mc k kc a b (.map (some l)) gn ws W ((hB.keep hb0).keep h) hm ha hb x y hx hy
 have hce := fun W (h : Below w1.heap.size w1 W) => centred_is pw ph pp pg po A B M n nc m mc k kc a b (.map (some l)) gn ws W ((hB.keep hb0).keep h) hm ha hb x y hx hy
 have hsu := fun W (h : Below w1.heap.size w1 W) => lsum_is pw ph pp pg po A B M n nc m mc k kc a b (.map (some l)) gn ws W ((hB.keep hb0).keep h) hm ha hb x y hx hy ht
 have hfa := fun W (h : Below w1.heap.size w1 W) => far_is pw ph pp pg po A B M n nc m mc k kc a b (.map (some l)) gn ws cs W ((hA.keep hb0).keep h) hn ((hB.keep hb0).keep h) hm ha hb x y hx hy p q hp hq c d hc hd hco hdo
 have hlX := hX.lt
 have hcX := fun j => hX.cell j
 have hkS : ∀ W, Below w1.heap.size w1 W → (∀ j, W.cell? ⟨w.heap.size, j, none⟩ = (#[.int .i64 pw, .int .i64 ph, .int .i64 pp, .int .i64 pg, .int .i64 po, .slice A n nc, .slice B m mc, .slice M k kc, .map (some l), gn] : Array Value)[j]?) := fun W hb => fun j => (hX.keep hb).cell j
 replace hme := fun W h => hme W h true hyes
 clear hyes hle hce
 clear hM hA hB hx hy hc hd hp hq hX hco hdo hn hm ha hb hal
 clear hsu hfa ht hcX
 go_enter Tryz.func158, Tryz.ntmps158
 go_upto_region 1 with (fail)
 (try rw [hw1])
 clear hw1
 refine wp_region_noPanic ?_
 have hbz := fr_drew (fr_refl w1)
 refine wp_region_held_drew (S := fun W => (∀ j, W.cell? ⟨w.heap.size, j, none⟩ = (#[.int .i64 pw, .int .i64 ph, .int .i64 pp, .int .i64 pg, .int .i64 po, .slice A n nc, .slice B m mc, .slice M k kc, .map (some l), gn] : Array Value)[j]?)) (by kernel_rfl) (hkS _ hbz) (fun hHeld => ?_)
 generalize w1.drew = wz at hbz hHeld ⊢
 -- the region, step by step, in whatever order
 refine wpAnyH_take (i := 0) (oi := ⟨some 7, .load 151 (.tmp 3), 151, "plate.go:97", #[], none⟩) (v := ?_) rfl (by kernel_rfl) (by kernel_rfl) (by kernel_rfl) (fun _ _ _ h => h) (Or.inl ⟨by rfl, fun W hSw => ?_⟩) hHeld ?_
 rotate_left
 ·(try dsimp only at hSw); go_simp; (try with_reducible rfl)
 (try simp only [Act.put, List.setIfInBounds_toArray, List.set_cons_zero, List.set_cons_succ])
 refine wpAnyH_take (i := 1) (oi := ⟨some 8, .move (.tmp 1), 3, "plate.go:97", #[], none⟩) (v := ?_) rfl (by kernel_rfl) (by kernel_rfl) (by kernel_rfl) (fun _ _ _ h => h) (Or.inl ⟨by rfl, fun W hSw => ?_⟩) hHeld ?_
 rotate_left
 ·(try dsimp only at hSw); go_simp; (try with_reducible rfl)
 (try simp only [Act.put, List.setIfInBounds_toArray, List.set_cons_zero, List.set_cons_succ])
 refine wpAnyH_take (i := 2) (oi := ⟨some 9, .move (.tmp 2), 3, "plate.go:97", #[], none⟩) (v := ?_) rfl (by kernel_rfl) (by kernel_rfl) (by kernel_rfl) (fun _ _ _ h => h) (Or.inl ⟨by rfl, fun W hSw => ?_⟩) hHeld ?_
 rotate_left
 ·(try dsimp only at hSw); go_simp; (try with_reducible rfl)
 (try simp only [Act.put, List.setIfInBounds_toArray, List.set_cons_zero, List.set_cons_succ])
 refine wpAnyH_ready (rs := [3]) (by kernel_rfl) (by simp) ?_
 refine (AllReadyH.cons (o := ⟨some 10, .call { callee := .value (.func 213), args := #[.tmp 7, .tmp 8, .tmp 9], argTypes := #[151, 3, 3] }, 4, "plate.go:97", #[⟨0, .data⟩, ⟨1, .data⟩, ⟨2, .data⟩], none⟩) rfl (fun K hK => ?_) AllReadyH.nil)
 rw [if_pos (by rfl)]
 go_simp
 refine (hme _ hbz).mono ?_
 rintro e' wz ⟨rfl, hb1⟩
 replace hbz := fr_call hbz hb1
 refine hK.out _ _ (hkS _ hbz) (fun hHeld => ?_)
 clear hK K
 (try simp only [Act.put, List.setIfInBounds_toArray, List.set_cons_zero, List.set_cons_succ])
 refine wpAnyH_take (i := 4) (oi := ⟨some 11, .unOp .not 4 (.tmp 10), 4, "plate.go:97", #[⟨3, .data⟩], none⟩) (v := ?_) rfl (by kernel_rfl) (by kernel_rfl) (by kernel_rfl) (fun _ _ _ h => h) (Or.inl ⟨by rfl, fun W hSw => ?_⟩) hHeld ?_
 rotate_left
 ·(try dsimp only at hSw); go_simp; (try with_reducible rfl)
 (try simp only [Act.put, List.setIfInBounds_toArray, List.set_cons_zero, List.set_cons_succ])
 refine wpAnyH_take (i := 5) (oi := ⟨some 12, .move (.tmp 11), 4, "plate.go:97", #[⟨4, .data⟩, ⟨3, .chain⟩], none⟩) (v := ?_) rfl (by kernel_rfl) (by kernel_rfl) (by kernel_rfl) (fun _ _ _ h => h) (Or.inl ⟨by rfl, fun W hSw => ?_⟩) hHeld ?_
 rotate_left
 ·(try dsimp only at hSw); go_simp; (try with_reducible rfl)
 (try simp only [Act.put, List.setIfInBounds_toArray, List.set_cons_zero, List.set_cons_succ])
 refine wpAnyH_take (i := 6) (oi := ⟨some 13, .load 151 (.tmp 3), 151, "plate.go:97", #[⟨5, .guard⟩], some (5, true)⟩) (v := undef) rfl (by kernel_rfl) (by kernel_rfl) (by kernel_rfl) (fun _ _ _ h => h) (Or.inr ⟨by rfl, rfl⟩) hHeld ?_
 (try simp only [Act.put, List.setIfInBounds_toArray, List.set_cons_zero, List.set_cons_succ])
 refine wpAnyH_take (i := 7) (oi := ⟨some 14, .move (.tmp 1), 3, "plate.go:97", #[⟨5, .guard⟩], some (5, true)⟩) (v := undef) rfl (by kernel_rfl) (by kernel_rfl) (by kernel_rfl) (fun _ _ _ h => h) (Or.inr ⟨by rfl, rfl⟩) hHeld ?_
 (try simp only [Act.put, List.setIfInBounds_toArray, List.set_cons_zero, List.set_cons_succ])
 refine wpAnyH_take (i := 8) (oi := ⟨some 15, .move (.tmp 2), 3, "plate.go:97", #[⟨5, .guard⟩], some (5, true)⟩) (v := undef) rfl (by kernel_rfl) (by kernel_rfl) (by kernel_rfl) (fun _ _ _ h => h) (Or.inr ⟨by rfl, rfl⟩) hHeld ?_
 (try simp only [Act.put, List.setIfInBounds_toArray, List.set_cons_zero, List.set_cons_succ])
 refine wpAnyH_take (i := 9) (oi := ⟨some 16, .call { callee := .value (.func 214), args := #[.tmp 13, .tmp 14, .tmp 15], argTypes := #[151, 3, 3] }, 4, "plate.go:97", #[⟨6, .data⟩, ⟨7, .data⟩, ⟨8, .data⟩, ⟨5, .chain⟩, ⟨5, .guard⟩], some (5, true)⟩) (v := undef) rfl (by kernel_rfl) (by kernel_rfl) (by kernel_rfl) (fun _ _ _ h => h) (Or.inr ⟨by rfl, rfl⟩) hHeld ?_
 (try simp only [Act.put, List.setIfInBounds_toArray, List.set_cons_zero, List.set_cons_succ])
 refine wpAnyH_take (i := 10) (oi := ⟨some 17, .pick (.tmp 12) (.tmp 16) (.const (.bool false)), 4, "plate.go:97", #[⟨5, .data⟩, ⟨9, .data⟩], none⟩) (v := ?_) rfl (by kernel_rfl) (by kernel_rfl) (by kernel_rfl) (fun _ _ _ h => h) (Or.inl ⟨by rfl, fun W hSw => ?_⟩) hHeld ?_
 rotate_left
 ·(try dsimp only at hSw); go_simp; (try with_reducible rfl)
 (try simp only [Act.put, List.setIfInBounds_toArray, List.set_cons_zero, List.set_cons_succ])
 refine wpAnyH_take (i := 11) (oi := ⟨some 18, .move (.tmp 17), 4, "plate.go:97", #[⟨10, .data⟩, ⟨9, .chain⟩], none⟩) (v := ?_) rfl (by kernel_rfl) (by kernel_rfl) (by kernel_rfl) (fun _ _ _ h => h) (Or.inl ⟨by rfl, fun W hSw => ?_⟩) hHeld ?_
 rotate_left
 ·(try dsimp only at hSw); go_simp; (try with_reducible rfl)
 (try simp only [Act.put, List.setIfInBounds_toArray, List.set_cons_zero, List.set_cons_succ])
 refine wpAnyH_take (i := 12) (oi := ⟨some 19, .load 151 (.tmp 3), 151, "plate.go:97", #[⟨11, .guard⟩], some (11, true)⟩) (v := undef) rfl (by kernel_rfl) (by kernel_rfl) (by kernel_rfl) (fun _ _ _ h => h) (Or.inr ⟨by rfl, rfl⟩) hHeld ?_
 (try simp only [Act.put, List.setIfInBounds_toArray, List.set_cons_zero, List.set_cons_succ])
 refine wpAnyH_take (i := 13) (oi := ⟨some 20, .move (.tmp 1), 3, "plate.go:97", #[⟨11, .guard⟩], some (11, true)⟩) (v := undef) rfl (by kernel_rfl) (by kernel_rfl) (by kernel_rfl) (fun _ _ _ h => h) (Or.inr ⟨by rfl, rfl⟩) hHeld ?_
 (try simp only [Act.put, List.setIfInBounds_toArray, List.set_cons_zero, List.set_cons_succ])
 refine wpAnyH_take (i := 14) (oi := ⟨some 21, .move (.tmp 2), 3, "plate.go:97", #[⟨11, .guard⟩], some (11, true)⟩) (v := undef) rfl (by kernel_rfl) (by kernel_rfl) (by kernel_rfl) (fun _ _ _ h => h) (Or.inr ⟨by rfl, rfl⟩) hHeld ?_
 (try simp only [Act.put, List.setIfInBounds_toArray, List.set_cons_zero, List.set_cons_succ])
 refine wpAnyH_take (i := 15) (oi := ⟨some 22, .call { callee := .value (.func 215), args := #[.tmp 19, .tmp 20, .tmp 21], argTypes := #[151, 3, 3] }, 4, "plate.go:97", #[⟨12, .data⟩, ⟨13, .data⟩, ⟨14, .data⟩, ⟨11, .chain⟩, ⟨11, .guard⟩], some (11, true)⟩) (v := undef) rfl (by kernel_rfl) (by kernel_rfl) (by kernel_rfl) (fun _ _ _ h => h) (Or.inr ⟨by rfl, rfl⟩) hHeld ?_
 (try simp only [Act.put, List.setIfInBounds_toArray, List.set_cons_zero, List.set_cons_succ])
 refine wpAnyH_take (i := 16) (oi := ⟨some 23, .unOp .not 4 (.tmp 22), 4, "plate.go:97", #[⟨15, .data⟩, ⟨11, .guard⟩], some (11, true)⟩) (v := undef) rfl (by kernel_rfl) (by kernel_rfl) (by kernel_rfl) (fun _ _ _ h => h) (Or.inr ⟨by rfl, rfl⟩) hHeld ?_
 (try simp only [Act.put, List.setIfInBounds_toArray, List.set_cons_zero, List.set_cons_succ])
 refine wpAnyH_take (i := 17) (oi := ⟨some 24, .pick (.tmp 18) (.tmp 23) (.const (.bool false)), 4, "plate.go:97", #[⟨11, .data⟩, ⟨16, .data⟩], none⟩) (v := ?_) rfl (by kernel_rfl) (by kernel_rfl) (by kernel_rfl) (fun _ _ _ h => h) (Or.inl ⟨by rfl, fun W hSw => ?_⟩) hHeld ?_
 rotate_left
 ·(try dsimp only at hSw); go_simp; (try with_reducible rfl)
 (try simp only [Act.put, List.setIfInBounds_toArray, List.set_cons_zero, List.set_cons_succ])
 refine wpAnyH_take (i := 18) (oi := ⟨some 25, .move (.tmp 24), 4, "plate.go:97", #[⟨17, .data⟩, ⟨15, .chain⟩], none⟩) (v := ?_) rfl (by kernel_rfl) (by kernel_rfl) (by kernel_rfl) (fun _ _ _ h => h) (Or.inl ⟨by rfl, fun W hSw => ?_⟩) hHeld ?_
 rotate_left
 ·(try dsimp only at hSw); go_simp; (try with_reducible rfl)
 (try simp only [Act.put, List.setIfInBounds_toArray, List.set_cons_zero, List.set_cons_succ])
 refine wpAnyH_take (i := 19) (oi := ⟨some 26, .load 151 (.tmp 3), 151, "plate.go:97", #[⟨18, .guard⟩], some (18, true)⟩) (v := undef) rfl (by kernel_rfl) (by kernel_rfl) (by kernel_rfl) (fun _ _ _ h => h) (Or.inr ⟨by rfl, rfl⟩) hHeld ?_
 (try simp only [Act.put, List.setIfInBounds_toArray, List.set_cons_zero, List.set_cons_succ])
 refine wpAnyH_take (i := 20) (oi := ⟨some 27, .move (.tmp 1), 3, "plate.go:97", #[⟨18, .guard⟩], some (18, true)⟩) (v := undef) rfl (by kernel_rfl) (by kernel_rfl) (by kernel_rfl) (fun _ _ _ h => h) (Or.inr ⟨by rfl, rfl⟩) hHeld ?_
 (try simp only [Act.put, List.setIfInBounds_toArray, List.set_cons_zero, List.set_cons_succ])
 refine wpAnyH_take (i := 21) (oi := ⟨some 28, .move (.tmp 2), 3, "plate.go:97", #[⟨18, .guard⟩], some (18, true)⟩) (v := undef) rfl (by kernel_rfl) (by kernel_rfl) (by kernel_rfl) (fun _ _ _ h => h) (Or.inr ⟨by rfl, rfl⟩) hHeld ?_
 (try simp only [Act.put, List.setIfInBounds_toArray, List.set_cons_zero, List.set_cons_succ])
 refine wpAnyH_take (i := 22) (oi := ⟨some 29, .call { callee := .value (.func 216), args := #[.tmp 26, .tmp 27, .tmp 28], argTypes := #[151, 3, 3] }, 3, "plate.go:97", #[⟨19, .data⟩, ⟨20, .data⟩, ⟨21, .data⟩, ⟨18, .chain⟩, ⟨18, .guard⟩], some (18, true)⟩) (v := undef) rfl (by kernel_rfl) (by kernel_rfl) (by kernel_rfl) (fun _ _ _ h => h) (Or.inr ⟨by rfl, rfl⟩) hHeld ?_
 (try simp only [Act.put, List.setIfInBounds_toArray, List.set_cons_zero, List.set_cons_succ])
 refine wpAnyH_take (i := 23) (oi := ⟨some 30, .load 151 (.tmp 3), 151, "plate.go:97", #[⟨18, .guard⟩], some (18, true)⟩) (v := undef) rfl (by kernel_rfl) (by kernel_rfl) (by kernel_rfl) (fun _ _ _ h => h) (Or.inr ⟨by rfl, rfl⟩) hHeld ?_
 (try simp only [Act.put, List.setIfInBounds_toArray, List.set_cons_zero, List.set_cons_succ])
 refine wpAnyH_take (i := 24) (oi := ⟨some 31, .move (.tmp 1), 3, "plate.go:97", #[⟨18, .guard⟩], some (18, true)⟩) (v := undef) rfl (by kernel_rfl) (by kernel_rfl) (by kernel_rfl) (fun _ _ _ h => h) (Or.inr ⟨by rfl, rfl⟩) hHeld ?_
 (try simp only [Act.put, List.setIfInBounds_toArray, List.set_cons_zero, List.set_cons_succ])
 refine wpAnyH_take (i := 25) (oi := ⟨some 32, .move (.tmp 2), 3, "plate.go:97", #[⟨18, .guard⟩], some (18, true)⟩) (v := undef) rfl (by kernel_rfl) (by kernel_rfl) (by kernel_rfl) (fun _ _ _ h => h) (Or.inr ⟨by rfl, rfl⟩) hHeld ?_
 (try simp only [Act.put, List.setIfInBounds_toArray, List.set_cons_zero, List.set_cons_succ])
 refine wpAnyH_take (i := 26) (oi := ⟨some 33, .call { callee := .value (.func 212), args := #[.tmp 30, .tmp 31, .tmp 32], argTypes := #[151, 3, 3] }, 3, "plate.go:97", #[⟨23, .data⟩, ⟨24, .data⟩, ⟨25, .data⟩, ⟨22, .chain⟩, ⟨18, .guard⟩], some (18, true)⟩) (v := undef) rfl (by kernel_rfl) (by kernel_rfl) (by kernel_rfl) (fun _ _ _ h => h) (Or.inr ⟨by rfl, rfl⟩) hHeld ?_
 (try simp only [Act.put, List.setIfInBounds_toArray, List.set_cons_zero, List.set_cons_succ])
 refine wpAnyH_take (i := 27) (oi := ⟨some 34, .fieldAddr 151 (.tmp 3) 0, 0, "plate.go:97", #[⟨18, .guard⟩], some (18, true)⟩) (v := undef) rfl (by kernel_rfl) (by kernel_rfl) (by kernel_rfl) (fun _ _ _ h => h) (Or.inr ⟨by rfl, rfl⟩) hHeld ?_
 (try simp only [Act.put, List.setIfInBounds_toArray, List.set_cons_zero, List.set_cons_succ])
 refine wpAnyH_take (i := 28) (oi := ⟨some 35, .fieldAddr 86 (.tmp 34) 3, 0, "plate.go:97", #[⟨27, .data⟩, ⟨18, .guard⟩], some (18, true)⟩) (v := undef) rfl (by kernel_rfl) (by kernel_rfl) (by kernel_rfl) (fun _ _ _ h => h) (Or.inr ⟨by rfl, rfl⟩) hHeld ?_
 (try simp only [Act.put, List.setIfInBounds_toArray, List.set_cons_zero, List.set_cons_succ])
 refine wpAnyH_take (i := 29) (oi := ⟨some 36, .load 3 (.tmp 35), 3, "plate.go:97", #[⟨28, .data⟩, ⟨18, .guard⟩], some (18, true)⟩) (v := undef) rfl (by kernel_rfl) (by kernel_rfl) (by kernel_rfl) (fun _ _ _ h => h) (Or.inr ⟨by rfl, rfl⟩) hHeld ?_
 (try simp only [Act.put, List.setIfInBounds_toArray, List.set_cons_zero, List.set_cons_succ])
 refine wpAnyH_take (i := 30) (oi := ⟨some 37, .binOp .add 3 (.tmp 33) (.tmp 36) 3, 3, "plate.go:97", #[⟨26, .data⟩, ⟨29, .data⟩, ⟨18, .guard⟩], some (18, true)⟩) (v := undef) rfl (by kernel_rfl) (by kernel_rfl) (by kernel_rfl) (fun _ _ _ h => h) (Or.inr ⟨by rfl, rfl⟩) hHeld ?_
 (try simp only [Act.put, List.setIfInBounds_toArray, List.set_cons_zero, List.set_cons_succ])
 refine wpAnyH_take (i := 31) (oi := ⟨some 38, .call { callee := .value (.func 217), args := #[.tmp 37], argTypes := #[3] }, 3, "plate.go:97", #[⟨30, .data⟩, ⟨26, .chain⟩, ⟨18, .guard⟩], some (18, true)⟩) (v := undef) rfl (by kernel_rfl) (by kernel_rfl) (by kernel_rfl) (fun _ _ _ h => h) (Or.inr ⟨by rfl, rfl⟩) hHeld ?_
 (try simp only [Act.put, List.setIfInBounds_toArray, List.set_cons_zero, List.set_cons_succ])
 refine wpAnyH_take (i := 32) (oi := ⟨some 39, .binOp .lss 3 (.tmp 29) (.tmp 38) 3, 4, "plate.go:97", #[⟨22, .data⟩, ⟨31, .data⟩, ⟨18, .guard⟩], some (18, true)⟩) (v := undef) rfl (by kernel_rfl) (by kernel_rfl) (by kernel_rfl) (fun _ _ _ h => h) (Or.inr ⟨by rfl, rfl⟩) hHeld ?_
 (try simp only [Act.put, List.setIfInBounds_toArray, List.set_cons_zero, List.set_cons_succ])
 refine wpAnyH_take (i := 33) (oi := ⟨some 40, .pick (.tmp 25) (.tmp 39) (.const (.bool false)), 4, "plate.go:97", #[⟨18, .data⟩, ⟨32, .data⟩], none⟩) (v := ?_) rfl (by kernel_rfl) (by kernel_rfl) (by kernel_rfl) (fun _ _ _ h => h) (Or.inl ⟨by rfl, fun W hSw => ?_⟩) hHeld ?_
 rotate_left
 ·(try dsimp only at hSw); go_simp; (try with_reducible rfl)
 (try simp only [Act.put, List.setIfInBounds_toArray, List.set_cons_zero, List.set_cons_succ])
 refine wpAnyH_take (i := 34) (oi := ⟨some 6, .assign (.tmp 40), 4, "plate.go:97", #[⟨33, .data⟩, ⟨31, .chain⟩, ⟨0, .phase⟩, ⟨1, .phase⟩, ⟨2, .phase⟩, ⟨3, .phase⟩, ⟨4, .phase⟩, ⟨5, .phase⟩, ⟨6, .phase⟩, ⟨7, .phase⟩, ⟨8, .phase⟩, ⟨9, .phase⟩, ⟨10, .phase⟩, ⟨11, .phase⟩, ⟨12, .phase⟩, ⟨13, .phase⟩, ⟨14, .phase⟩, ⟨15, .phase⟩, ⟨16, .phase⟩, ⟨17, .phase⟩, ⟨18, .phase⟩, ⟨19, .phase⟩, ⟨20, .phase⟩, ⟨21, .phase⟩, ⟨22, .phase⟩, ⟨23, .phase⟩, ⟨24, .phase⟩, ⟨25, .phase⟩, ⟨26, .phase⟩, ⟨27, .phase⟩, ⟨28, .phase⟩, ⟨29, .phase⟩, ⟨30, .phase⟩, ⟨31, .phase⟩, ⟨32, .phase⟩, ⟨33, .phase⟩], none⟩) (v := ?_) rfl (by kernel_rfl) (by kernel_rfl) (by kernel_rfl) (fun _ _ _ h => h) (Or.inl ⟨by rfl, fun W hSw => ?_⟩) hHeld ?_
 rotate_left
 ·(try dsimp only at hSw); go_simp; (try with_reducible rfl)
 (try simp only [Act.put, List.setIfInBounds_toArray, List.set_cons_zero, List.set_cons_succ])
 refine wpAnyH_done (by kernel_rfl) ?_ _
 refine NoPanic.normal ?_
 go_wp2_with fail
 go_ret
 exact ⟨rfl, fr_call hb0 hbz⟩
set_option maxRecDepth 100000 in
set_option maxHeartbeats 16000000 in
theorem touch_level (pw ph pp pg po : Int) (A B M : Option Addr) (n nc m mc k kc a b l : Nat) (gn : Value) (L : List (Int × Int)) (ws : List PWh) (cs : List PPt) (w : World) (hM : MapM w l L) (hA : RdS w A 2 (cs.map PPt.cells)) (hn : cs.length = n) (hB : RdS w B 4 (ws.map PWh.cells)) (hm : ws.length = m) (hal : a ≤ b) (ha : a < m) (hb : b < m) (x y : PWh) (hx : ws[a]? = some x) (hy : ws[b]? = some y)
  (p q : Nat) (hp : x.centre = (p : Int)) (hq : y.centre = (q : Int)) (c d : PPt) (hc : cs[p]? = some c) (hd : cs[q]? = some d) (hco : PtOk c) (hdo : PtOk d) (ht : (0 ≤ x.teeth ∧ x.teeth ≤ 50) ∧ 0 ≤ y.teeth ∧ y.teeth ≤ 50) (hno : L.contains ((a : Int), (b : Int)) = false) (hll : x.layer ≠ y.layer) :
  Calls Tryz.prog 158 #[.agg #[.int .i64 pw, .int .i64 ph, .int .i64 pp, .int .i64 pg, .int .i64 po, .slice A n nc, .slice B m mc, .slice M k kc, .map (some l), gn], .int .i64 a, .int .i64 b] w fun e w' => e = .returned (.bool false) ∧ Below w.heap.size w w' := by
 have hb0 := fr_alloc (fr_refl w) (.cells #[.int .i64 pw, .int .i64 ph, .int .i64 pp, .int .i64 pg, .int .i64 po, .slice A n nc, .slice B m mc, .slice M k kc, .map (some l), gn] 151)
 have hX := Blk.new w 151 #[.int .i64 pw, .int .i64 ph, .int .i64 pp, .int .i64 pg, .int .i64 po, .slice A n nc, .slice B m mc, .slice M k kc, .map (some l), gn]
 obtain ⟨w1, hw1⟩ : ∃ w1, w.alloc (.cells #[.int .i64 pw, .int .i64 ph, .int .i64 pp, .int .i64 pg, .int .i64 po, .slice A n nc, .slice B m mc, .slice M k kc, .map (some l), gn] 151) = w1 := ⟨_, rfl⟩
 rw [hw1] at hb0 hX
 have hme := fun W (h : Below w1.heap.size w1 W) (bb : Bool) (hbb : L.contains ((a : Int), (b : Int)) = bb) => mesh_is pw ph pp pg po A B M n nc m mc k kc a b l gn L W ((hM.keep hb0).keep h) hal bb hbb
 have hle := fun W (h : Below w1.heap.size w1 W) => level_is pw ph pp pg po A B M n nc m mc k kc a b (.map (some l)) gn ws W ((hB.keep hb0).keep h) hm ha hb x y hx hy
 have hce := fun W (h : Below w1.heap.size w1 W) => centred_is pw ph pp pg po A B M n nc m mc k kc a b (.map (some l)) gn ws W ((hB.keep hb0).keep h) hm ha hb x y hx hy
 have hsu := fun W (h : Below w1.heap.size w1 W) => lsum_is pw ph pp pg po A B M n nc m mc k kc a b (.map (some l)) gn ws W ((hB.keep hb0).keep h) hm ha hb x y hx hy ht
 have hfa := fun W (h : Below w1.heap.size w1 W) => far_is pw ph pp pg po A B M n nc m mc k kc a b (.map (some l)) gn ws cs W ((hA.keep hb0).keep h) hn ((hB.keep hb0).keep h) hm ha hb x y hx hy p q hp hq c d hc hd hco hdo
 have hlX := hX.lt
 have hcX := fun j => hX.cell j
 have hkS : ∀ W, Below w1.heap.size w1 W → (∀ j, W.cell? ⟨w.heap.size, j, none⟩ = (#[.int .i64 pw, .int .i64 ph, .int .i64 pp, .int .i64 pg, .int .i64 po, .slice A n nc, .slice B m mc, .slice M k kc, .map (some l), gn] : Array Value)[j]?) := fun W hb => fun j => (hX.keep hb).cell j
 replace hme := fun W h => hme W h false hno
 rw [show (x.layer == y.layer) = false from beq_eq_false_iff_ne.2 hll] at hle
 clear hno hll hce
 clear hM hA hB hx hy hc hd hp hq hX hco hdo hn hm ha hb hal
 clear hsu hfa ht hcX
 go_enter Tryz.func158, Tryz.ntmps158
 go_upto_region 1 with (fail)
 (try rw [hw1])
 clear hw1
 refine wp_region_noPanic ?_
 have hbz := fr_drew (fr_refl w1)
 refine wp_region_held_drew (S := fun W => (∀ j, W.cell? ⟨w.heap.size, j, none⟩ = (#[.int .i64 pw, .int .i64 ph, .int .i64 pp, .int .i64 pg, .int .i64 po, .slice A n nc, .slice B m mc, .slice M k kc, .map (some l), gn] : Array Value)[j]?)) (by kernel_rfl) (hkS _ hbz) (fun hHeld => ?_)
 generalize w1.drew = wz at hbz hHeld ⊢
 -- the region, step by step, in whatever order
 refine wpAnyH_take (i := 0) (oi := ⟨some 7, .load 151 (.tmp 3), 151, "plate.go:97", #[], none⟩) (v := ?_) rfl (by kernel_rfl) (by kernel_rfl) (by kernel_rfl) (fun _ _ _ h => h) (Or.inl ⟨by rfl, fun W hSw => ?_⟩) hHeld ?_
 rotate_left
 ·(try dsimp only at hSw); go_simp; (try with_reducible rfl)
 (try simp only [Act.put, List.setIfInBounds_toArray, List.set_cons_zero, List.set_cons_succ])
 refine wpAnyH_take (i := 1) (oi := ⟨some 8, .move (.tmp 1), 3, "plate.go:97", #[], none⟩) (v := ?_) rfl (by kernel_rfl) (by kernel_rfl) (by kernel_rfl) (fun _ _ _ h => h) (Or.inl ⟨by rfl, fun W hSw => ?_⟩) hHeld ?_
 rotate_left
 ·(try dsimp only at hSw); go_simp; (try with_reducible rfl)
 (try simp only [Act.put, List.setIfInBounds_toArray, List.set_cons_zero, List.set_cons_succ])
 refine wpAnyH_take (i := 2) (oi := ⟨some 9, .move (.tmp 2), 3, "plate.go:97", #[], none⟩) (v := ?_) rfl (by kernel_rfl) (by kernel_rfl) (by kernel_rfl) (fun _ _ _ h => h) (Or.inl ⟨by rfl, fun W hSw => ?_⟩) hHeld ?_
 rotate_left
 ·(try dsimp only at hSw); go_simp; (try with_reducible rfl)
 (try simp only [Act.put, List.setIfInBounds_toArray, List.set_cons_zero, List.set_cons_succ])
 refine wpAnyH_ready (rs := [3]) (by kernel_rfl) (by simp) ?_
 refine (AllReadyH.cons (o := ⟨some 10, .call { callee := .value (.func 213), args := #[.tmp 7, .tmp 8, .tmp 9], argTypes := #[151, 3, 3] }, 4, "plate.go:97", #[⟨0, .data⟩, ⟨1, .data⟩, ⟨2, .data⟩], none⟩) rfl (fun K hK => ?_) AllReadyH.nil)
 rw [if_pos (by rfl)]
 go_simp
 refine (hme _ hbz).mono ?_
 rintro e' wz ⟨rfl, hb1⟩
 replace hbz := fr_call hbz hb1
 refine hK.out _ _ (hkS _ hbz) (fun hHeld => ?_)
 clear hK K
 (try simp only [Act.put, List.setIfInBounds_toArray, List.set_cons_zero, List.set_cons_succ])
 refine wpAnyH_take (i := 4) (oi := ⟨some 11, .unOp .not 4 (.tmp 10), 4, "plate.go:97", #[⟨3, .data⟩], none⟩) (v := ?_) rfl (by kernel_rfl) (by kernel_rfl) (by kernel_rfl) (fun _ _ _ h => h) (Or.inl ⟨by rfl, fun W hSw => ?_⟩) hHeld ?_
 rotate_left
 ·(try dsimp only at hSw); go_simp; (try with_reducible rfl)
 (try simp only [Act.put, List.setIfInBounds_toArray, List.set_cons_zero, List.set_cons_succ])
 refine wpAnyH_take (i := 5) (oi := ⟨some 12, .move (.tmp 11), 4, "plate.go:97", #[⟨4, .data⟩, ⟨3, .chain⟩], none⟩) (v := ?_) rfl (by kernel_rfl) (by kernel_rfl) (by kernel_rfl) (fun _ _ _ h => h) (Or.inl ⟨by rfl, fun W hSw => ?_⟩) hHeld ?_
 rotate_left
 ·(try dsimp only at hSw); go_simp; (try with_reducible rfl)
 (try simp only [Act.put, List.setIfInBounds_toArray, List.set_cons_zero, List.set_cons_succ])
 refine wpAnyH_take (i := 6) (oi := ⟨some 13, .load 151 (.tmp 3), 151, "plate.go:97", #[⟨5, .guard⟩], some (5, true)⟩) (v := ?_) rfl (by kernel_rfl) (by kernel_rfl) (by kernel_rfl) (fun _ _ _ h => h) (Or.inl ⟨by rfl, fun W hSw => ?_⟩) hHeld ?_
 rotate_left
 ·(try dsimp only at hSw); go_simp; (try with_reducible rfl)
 (try simp only [Act.put, List.setIfInBounds_toArray, List.set_cons_zero, List.set_cons_succ])
 refine wpAnyH_take (i := 7) (oi := ⟨some 14, .move (.tmp 1), 3, "plate.go:97", #[⟨5, .guard⟩], some (5, true)⟩) (v := ?_) rfl (by kernel_rfl) (by kernel_rfl) (by kernel_rfl) (fun _ _ _ h => h) (Or.inl ⟨by rfl, fun W hSw => ?_⟩) hHeld ?_
 rotate_left
 ·(try dsimp only at hSw); go_simp; (try with_reducible rfl)
 (try simp only [Act.put, List.setIfInBounds_toArray, List.set_cons_zero, List.set_cons_succ])
 refine wpAnyH_take (i := 8) (oi := ⟨some 15, .move (.tmp 2), 3, "plate.go:97", #[⟨5, .guard⟩], some (5, true)⟩) (v := ?_) rfl (by kernel_rfl) (by kernel_rfl) (by kernel_rfl) (fun _ _ _ h => h) (Or.inl ⟨by rfl, fun W hSw => ?_⟩) hHeld ?_
 rotate_left
 ·(try dsimp only at hSw); go_simp; (try with_reducible rfl)
 (try simp only [Act.put, List.setIfInBounds_toArray, List.set_cons_zero, List.set_cons_succ])
 refine wpAnyH_ready (rs := [9]) (by kernel_rfl) (by simp) ?_
 refine (AllReadyH.cons (o := ⟨some 16, .call { callee := .value (.func 214), args := #[.tmp 13, .tmp 14, .tmp 15], argTypes := #[151, 3, 3] }, 4, "plate.go:97", #[⟨6, .data⟩, ⟨7, .data⟩, ⟨8, .data⟩, ⟨5, .chain⟩, ⟨5, .guard⟩], some (5, true)⟩) rfl (fun K hK => ?_) AllReadyH.nil)
 rw [if_pos (by rfl)]
 go_simp
 refine (hle _ hbz).mono ?_
 rintro e' wz ⟨rfl, hb1⟩
 replace hbz := fr_call hbz hb1
 refine hK.out _ _ (hkS _ hbz) (fun hHeld => ?_)
 clear hK K
 (try simp only [Act.put, List.setIfInBounds_toArray, List.set_cons_zero, List.set_cons_succ])
 refine wpAnyH_take (i := 10) (oi := ⟨some 17, .pick (.tmp 12) (.tmp 16) (.const (.bool false)), 4, "plate.go:97", #[⟨5, .data⟩, ⟨9, .data⟩], none⟩) (v := ?_) rfl (by kernel_rfl) (by kernel_rfl) (by kernel_rfl) (fun _ _ _ h => h) (Or.inl ⟨by rfl, fun W hSw => ?_⟩) hHeld ?_
 rotate_left
 ·(try dsimp only at hSw); go_simp; (try with_reducible rfl)
 (try simp only [Act.put, List.setIfInBounds_toArray, List.set_cons_zero, List.set_cons_succ])
 refine wpAnyH_take (i := 11) (oi := ⟨some 18, .move (.tmp 17), 4, "plate.go:97", #[⟨10, .data⟩, ⟨9, .chain⟩], none⟩) (v := ?_) rfl (by kernel_rfl) (by kernel_rfl) (by kernel_rfl) (fun _ _ _ h => h) (Or.inl ⟨by rfl, fun W hSw => ?_⟩) hHeld ?_
 rotate_left
 ·(try dsimp only at hSw); go_simp; (try with_reducible rfl)
 (try simp only [Act.put, List.setIfInBounds_toArray, List.set_cons_zero, List.set_cons_succ])
 refine wpAnyH_take (i := 12) (oi := ⟨some 19, .load 151 (.tmp 3), 151, "plate.go:97", #[⟨11, .guard⟩], some (11, true)⟩) (v := undef) rfl (by kernel_rfl) (by kernel_rfl) (by kernel_rfl) (fun _ _ _ h => h) (Or.inr ⟨by rfl, rfl⟩) hHeld ?_
 (try simp only [Act.put, List.setIfInBounds_toArray, List.set_cons_zero, List.set_cons_succ])
 refine wpAnyH_take (i := 13) (oi := ⟨some 20, .move (.tmp 1), 3, "plate.go:97", #[⟨11, .guard⟩], some (11, true)⟩) (v := undef) rfl (by kernel_rfl) (by kernel_rfl) (by kernel_rfl) (fun _ _ _ h => h) (Or.inr ⟨by rfl, rfl⟩) hHeld ?_
 (try simp only [Act.put, List.setIfInBounds_toArray, List.set_cons_zero, List.set_cons_succ])
 refine wpAnyH_take (i := 14) (oi := ⟨some 21, .move (.tmp 2), 3, "plate.go:97", #[⟨11, .guard⟩], some (11, true)⟩) (v := undef) rfl (by kernel_rfl) (by kernel_rfl) (by kernel_rfl) (fun _ _ _ h => h) (Or.inr ⟨by rfl, rfl⟩) hHeld ?_
 (try simp only [Act.put, List.setIfInBounds_toArray, List.set_cons_zero, List.set_cons_succ])
 refine wpAnyH_take (i := 15) (oi := ⟨some 22, .call { callee := .value (.func 215), args := #[.tmp 19, .tmp 20, .tmp 21], argTypes := #[151, 3, 3] }, 4, "plate.go:97", #[⟨12, .data⟩, ⟨13, .data⟩, ⟨14, .data⟩, ⟨11, .chain⟩, ⟨11, .guard⟩], some (11, true)⟩) (v := undef) rfl (by kernel_rfl) (by kernel_rfl) (by kernel_rfl) (fun _ _ _ h => h) (Or.inr ⟨by rfl, rfl⟩) hHeld ?_
 (try simp only [Act.put, List.setIfInBounds_toArray, List.set_cons_zero, List.set_cons_succ])
 refine wpAnyH_take (i := 16) (oi := ⟨some 23, .unOp .not 4 (.tmp 22), 4, "plate.go:97", #[⟨15, .data⟩, ⟨11, .guard⟩], some (11, true)⟩) (v := undef) rfl (by kernel_rfl) (by kernel_rfl) (by kernel_rfl) (fun _ _ _ h => h) (Or.inr ⟨by rfl, rfl⟩) hHeld ?_
 (try simp only [Act.put, List.setIfInBounds_toArray, List.set_cons_zero, List.set_cons_succ])
 refine wpAnyH_take (i := 17) (oi := ⟨some 24, .pick (.tmp 18) (.tmp 23) (.const (.bool false)), 4, "plate.go:97", #[⟨11, .data⟩, ⟨16, .data⟩], none⟩) (v := ?_) rfl (by kernel_rfl) (by kernel_rfl) (by kernel_rfl) (fun _ _ _ h => h) (Or.inl ⟨by rfl, fun W hSw => ?_⟩) hHeld ?_
 rotate_left
 ·(try dsimp only at hSw); go_simp; (try with_reducible rfl)
 (try simp only [Act.put, List.setIfInBounds_toArray, List.set_cons_zero, List.set_cons_succ])
 refine wpAnyH_take (i := 18) (oi := ⟨some 25, .move (.tmp 24), 4, "plate.go:97", #[⟨17, .data⟩, ⟨15, .chain⟩], none⟩) (v := ?_) rfl (by kernel_rfl) (by kernel_rfl) (by kernel_rfl) (fun _ _ _ h => h) (Or.inl ⟨by rfl, fun W hSw => ?_⟩) hHeld ?_
 rotate_left
 ·(try dsimp only at hSw); go_simp; (try with_reducible rfl)
 (try simp only [Act.put, List.setIfInBounds_toArray, List.set_cons_zero, List.set_cons_succ])
 refine wpAnyH_take (i := 19) (oi := ⟨some 26, .load 151 (.tmp 3), 151, "plate.go:97", #[⟨18, .guard⟩], some (18, true)⟩) (v := undef) rfl (by kernel_rfl) (by kernel_rfl) (by kernel_rfl) (fun _ _ _ h => h) (Or.inr ⟨by rfl, rfl⟩) hHeld ?_
 (try simp only [Act.put, List.setIfInBounds_toArray, List.set_cons_zero, List.set_cons_succ])
 refine wpAnyH_take (i := 20) (oi := ⟨some 27, .move (.tmp 1), 3, "plate.go:97", #[⟨18, .guard⟩], some (18, true)⟩) (v := undef) rfl (by kernel_rfl) (by kernel_rfl) (by kernel_rfl) (fun _ _ _ h => h) (Or.inr ⟨by rfl, rfl⟩) hHeld ?_
 (try simp only [Act.put, List.setIfInBounds_toArray, List.set_cons_zero, List.set_cons_succ])
 refine wpAnyH_take (i := 21) (oi := ⟨some 28, .move (.tmp 2), 3, "plate.go:97", #[⟨18, .guard⟩], some (18, true)⟩) (v := undef) rfl (by kernel_rfl) (by kernel_rfl) (by kernel_rfl) (fun _ _ _ h => h) (Or.inr ⟨by rfl, rfl⟩) hHeld ?_
 (try simp only [Act.put, List.setIfInBounds_toArray, List.set_cons_zero, List.set_cons_succ])
 refine wpAnyH_take (i := 22) (oi := ⟨some 29, .call { callee := .value (.func 216), args := #[.tmp 26, .tmp 27, .tmp 28], argTypes := #[151, 3, 3] }, 3, "plate.go:97", #[⟨19, .data⟩, ⟨20, .data⟩, ⟨21, .data⟩, ⟨18, .chain⟩, ⟨18, .guard⟩], some (18, true)⟩) (v := undef) rfl (by kernel_rfl) (by kernel_rfl) (by kernel_rfl) (fun _ _ _ h => h) (Or.inr ⟨by rfl, rfl⟩) hHeld ?_
 (try simp only [Act.put, List.setIfInBounds_toArray, List.set_cons_zero, List.set_cons_succ])
 refine wpAnyH_take (i := 23) (oi := ⟨some 30, .load 151 (.tmp 3), 151, "plate.go:97", #[⟨18, .guard⟩], some (18, true)⟩) (v := undef) rfl (by kernel_rfl) (by kernel_rfl) (by kernel_rfl) (fun _ _ _ h => h) (Or.inr ⟨by rfl, rfl⟩) hHeld ?_
 (try simp only [Act.put, List.setIfInBounds_toArray, List.set_cons_zero, List.set_cons_succ])
 refine wpAnyH_take (i := 24) (oi := ⟨some 31, .move (.tmp 1), 3, "plate.go:97", #[⟨18, .guard⟩], some (18, true)⟩) (v := undef) rfl (by kernel_rfl) (by kernel_rfl) (by kernel_rfl) (fun _ _ _ h => h) (Or.inr ⟨by rfl, rfl⟩) hHeld ?_
 (try simp only [Act.put, List.setIfInBounds_toArray, List.set_cons_zero, List.set_cons_succ])
 refine wpAnyH_take (i := 25) (oi := ⟨some 32, .move (.tmp 2), 3, "plate.go:97", #[⟨18, .guard⟩], some (18, true)⟩) (v := undef) rfl (by kernel_rfl) (by kernel_rfl) (by kernel_rfl) (fun _ _ _ h => h) (Or.inr ⟨by rfl, rfl⟩) hHeld ?_
 (try simp only [Act.put, List.setIfInBounds_toArray, List.set_cons_zero, List.set_cons_succ])
 refine wpAnyH_take (i := 26) (oi := ⟨some 33, .call { callee := .value (.func 212), args := #[.tmp 30, .tmp 31, .tmp 32], argTypes := #[151, 3, 3] }, 3, "plate.go:97", #[⟨23, .data⟩, ⟨24, .data⟩, ⟨25, .data⟩, ⟨22, .chain⟩, ⟨18, .guard⟩], some (18, true)⟩) (v := undef) rfl (by kernel_rfl) (by kernel_rfl) (by kernel_rfl) (fun _ _ _ h => h) (Or.inr ⟨by rfl, rfl⟩) hHeld ?_
 (try simp only [Act.put, List.setIfInBounds_toArray, List.set_cons_zero, List.set_cons_succ])
 refine wpAnyH_take (i := 27) (oi := ⟨some 34, .fieldAddr 151 (.tmp 3) 0, 0, "plate.go:97", #[⟨18, .guard⟩], some (18, true)⟩) (v := undef) rfl (by kernel_rfl) (by kernel_rfl) (by kernel_rfl) (fun _ _ _ h => h) (Or.inr ⟨by rfl, rfl⟩) hHeld ?_
 (try simp only [Act.put, List.setIfInBounds_toArray, List.set_cons_zero, List.set_cons_succ])
 refine wpAnyH_take (i := 28) (oi := ⟨some 35, .fieldAddr 86 (.tmp 34) 3, 0, "plate.go:97", #[⟨27, .data⟩, ⟨18, .guard⟩], some (18, true)⟩) (v := undef) rfl (by kernel_rfl) (by kernel_rfl) (by kernel_rfl) (fun _ _ _ h => h) (Or.inr ⟨by rfl, rfl⟩) hHeld ?_
 (try simp only [Act.put, List.setIfInBounds_toArray, List.set_cons_zero, List.set_cons_succ])
 refine wpAnyH_take (i := 29) (oi := ⟨some 36, .load 3 (.tmp 35), 3, "plate.go:97", #[⟨28, .data⟩, ⟨18, .guard⟩], some (18, true)⟩) (v := undef) rfl (by kernel_rfl) (by kernel_rfl) (by kernel_rfl) (fun _ _ _ h => h) (Or.inr ⟨by rfl, rfl⟩) hHeld ?_
 (try simp only [Act.put, List.setIfInBounds_toArray, List.set_cons_zero, List.set_cons_succ])
 refine wpAnyH_take (i := 30) (oi := ⟨some 37, .binOp .add 3 (.tmp 33) (.tmp 36) 3, 3, "plate.go:97", #[⟨26, .data⟩, ⟨29, .data⟩, ⟨18, .guard⟩], some (18, true)⟩) (v := undef) rfl (by kernel_rfl) (by kernel_rfl) (by kernel_rfl) (fun _ _ _ h => h) (Or.inr ⟨by rfl, rfl⟩) hHeld ?_
 (try simp only [Act.put, List.setIfInBounds_toArray, List.set_cons_zero, List.set_cons_succ])
 refine wpAnyH_take (i := 31) (oi := ⟨some 38, .call { callee := .value (.func 217), args := #[.tmp 37], argTypes := #[3] }, 3, "plate.go:97", #[⟨30, .data⟩, ⟨26, .chain⟩, ⟨18, .guard⟩], some (18, true)⟩) (v := undef) rfl (by kernel_rfl) (by kernel_rfl) (by kernel_rfl) (fun _ _ _ h => h) (Or.inr ⟨by rfl, rfl⟩) hHeld ?_
 (try simp only [Act.put, List.setIfInBounds_toArray, List.set_cons_zero, List.set_cons_succ])
 refine wpAnyH_take (i := 32) (oi := ⟨some 39, .binOp .lss 3 (.tmp 29) (.tmp 38) 3, 4, "plate.go:97", #[⟨22, .data⟩, ⟨31, .data⟩, ⟨18, .guard⟩], some (18, true)⟩) (v := undef) rfl (by kernel_rfl) (by kernel_rfl) (by kernel_rfl) (fun _ _ _ h => h) (Or.inr ⟨by rfl, rfl⟩) hHeld ?_
 (try simp only [Act.put, List.setIfInBounds_toArray, List.set_cons_zero, List.set_cons_succ])
 refine wpAnyH_take (i := 33) (oi := ⟨some 40, .pick (.tmp 25) (.tmp 39) (.const (.bool false)), 4, "plate.go:97", #[⟨18, .data⟩, ⟨32, .data⟩], none⟩) (v := ?_) rfl (by kernel_rfl) (by kernel_rfl) (by kernel_rfl) (fun _ _ _ h => h) (Or.inl ⟨by rfl, fun W hSw => ?_⟩) hHeld ?_
 rotate_left
 ·(try dsimp only at hSw); go_simp; (try with_reducible rfl)
 (try simp only [Act.put, List.setIfInBounds_toArray, List.set_cons_zero, List.set_cons_succ])
 refine wpAnyH_take (i := 34) (oi := ⟨some 6, .assign (.tmp 40), 4, "plate.go:97", #[⟨33, .data⟩, ⟨31, .chain⟩, ⟨0, .phase⟩, ⟨1, .phase⟩, ⟨2, .phase⟩, ⟨3, .phase⟩, ⟨4, .phase⟩, ⟨5, .phase⟩, ⟨6, .phase⟩, ⟨7, .phase⟩, ⟨8, .phase⟩, ⟨9, .phase⟩, ⟨10, .phase⟩, ⟨11, .phase⟩, ⟨12, .phase⟩, ⟨13, .phase⟩, ⟨14, .phase⟩, ⟨15, .phase⟩, ⟨16, .phase⟩, ⟨17, .phase⟩, ⟨18, .phase⟩, ⟨19, .phase⟩, ⟨20, .phase⟩, ⟨21, .phase⟩, ⟨22, .phase⟩, ⟨23, .phase⟩, ⟨24, .phase⟩, ⟨25, .phase⟩, ⟨26, .phase⟩, ⟨27, .phase⟩, ⟨28, .phase⟩, ⟨29, .phase⟩, ⟨30, .phase⟩, ⟨31, .phase⟩, ⟨32, .phase⟩, ⟨33, .phase⟩], none⟩) (v := ?_) rfl (by kernel_rfl) (by kernel_rfl) (by kernel_rfl) (fun _ _ _ h => h) (Or.inl ⟨by rfl, fun W hSw => ?_⟩) hHeld ?_
 rotate_left
 ·(try dsimp only at hSw); go_simp; (try with_reducible rfl)
 (try simp only [Act.put, List.setIfInBounds_toArray, List.set_cons_zero, List.set_cons_succ])
 refine wpAnyH_done (by kernel_rfl) ?_ _
 refine NoPanic.normal ?_
 go_wp2_with fail
 go_ret
 exact ⟨rfl, fr_call hb0 hbz⟩
end Go.Proofs.YtkmiphabagoifaaGreatDoor
