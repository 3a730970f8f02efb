/- Walks, package plate: apart, touch (by gen_apart.py). -/
import Derived.Test.YtdocgmafbacjcaaGreatDoorMT4
namespace Go.Proofs.YtdocgmafbacjcaaGreatDoor
open Go.RowKit
attribute [local go_sem] Oper.semAt_some

set_option maxRecDepth 100000 in
set_option maxHeartbeats 16000000 in
theorem apart_no (pw ph pp pg po : Int) (A B M : Option Addr) (n nc m mc k kc a b l : Nat) (gn : Value) (L : List (Int × Int)) (ws : List PWh) (cs : List PPt) (w : World) (hM : MapM w l L) (hA : RdS w A 2 (cs.map PPt.cells)) (hn : cs.length = n) (hB : RdS w B 4 (ws.map PWh.cells)) (hm : ws.length = m) (hal : a ≤ b) (ha : a < m) (hb : b < m) (x y : PWh) (hx : ws[a]? = some x) (hy : ws[b]? = some y)
  (p q : Nat) (hp : x.centre = (p : Int)) (hq : y.centre = (q : Int)) (c d : PPt) (hc : cs[p]? = some c) (hd : cs[q]? = some d) (hco : PtOk c) (hdo : PtOk d) (ht : (0 ≤ x.teeth ∧ x.teeth ≤ 50) ∧ 0 ≤ y.teeth ∧ y.teeth ≤ 50) (hno : L.contains ((a : Int), (b : Int)) = false) :
  Calls Tryz.prog 145 #[.agg #[.int .i64 pw, .int .i64 ph, .int .i64 pp, .int .i64 pg, .int .i64 po, .slice A n nc, .slice B m mc, .slice M k kc, .map (some l), gn], .int .i64 a, .int .i64 b] w fun e w' => e = .returned (.bool false) ∧ Below w.heap.size w w' := by
 have hb0 := fr_alloc (fr_refl w) (.cells #[.int .i64 pw, .int .i64 ph, .int .i64 pp, .int .i64 pg, .int .i64 po, .slice A n nc, .slice B m mc, .slice M k kc, .map (some l), gn] 143)
 have hX := Blk.new w 143 #[.int .i64 pw, .int .i64 ph, .int .i64 pp, .int .i64 pg, .int .i64 po, .slice A n nc, .slice B m mc, .slice M k kc, .map (some l), gn]
 obtain ⟨w1, hw1⟩ : ∃ w1, w.alloc (.cells #[.int .i64 pw, .int .i64 ph, .int .i64 pp, .int .i64 pg, .int .i64 po, .slice A n nc, .slice B m mc, .slice M k kc, .map (some l), gn] 143) = w1 := ⟨_, rfl⟩
 rw [hw1] at hb0 hX
 have hme := fun W (h : Below w1.heap.size w1 W) (bb : Bool) (hbb : L.contains ((a : Int), (b : Int)) = bb) => mesh_is pw ph pp pg po A B M n nc m mc k kc a b l gn L W ((hM.keep hb0).keep h) hal bb hbb
 have hle := fun W (h : Below w1.heap.size w1 W) => level_is pw ph pp pg po A B M n nc m mc k kc a b (.map (some l)) gn ws W ((hB.keep hb0).keep h) hm ha hb x y hx hy
 have hce := fun W (h : Below w1.heap.size w1 W) => centred_is pw ph pp pg po A B M n nc m mc k kc a b (.map (some l)) gn ws W ((hB.keep hb0).keep h) hm ha hb x y hx hy
 have hsu := fun W (h : Below w1.heap.size w1 W) => lsum_is pw ph pp pg po A B M n nc m mc k kc a b (.map (some l)) gn ws W ((hB.keep hb0).keep h) hm ha hb x y hx hy ht
 have hfa := fun W (h : Below w1.heap.size w1 W) => far_is pw ph pp pg po A B M n nc m mc k kc a b (.map (some l)) gn ws cs W ((hA.keep hb0).keep h) hn ((hB.keep hb0).keep h) hm ha hb x y hx hy p q hp hq c d hc hd hco hdo
 have hlX := hX.lt
 have hcX := fun j => hX.cell j
 have hkS : ∀ W, Below w1.heap.size w1 W → (∀ j, W.cell? ⟨w.heap.size, j, none⟩ = (#[.int .i64 pw, .int .i64 ph, .int .i64 pp, .int .i64 pg, .int .i64 po, .slice A n nc, .slice B m mc, .slice M k kc, .map (some l), gn] : Array Value)[j]?) := fun W hb => fun j => (hX.keep hb).cell j
 replace hme := fun W h => hme W h false hno
 clear hM hA hB hx hy hc hd hp hq hX hco hdo hn hm ha hb hal
 clear hle hce hfa hno
 go_enter Tryz.func145, Tryz.ntmps145
 go_upto_region 1 with (fail)
 (try rw [hw1])
 clear hw1
 go_wp2_with fail
 refine (hsu _ (fr_refl _)).mono ?_
 rintro e' w2 ⟨rfl, hbB⟩
 clear hcX
 go_upto_region 2 with (fail)
 refine wp_region_noPanic ?_
 have hbz := fr_drew (fr_refl w2)
 replace hbz := fr_call hbB hbz
 refine wp_region_held_drew (S := fun W => (∀ j, W.cell? ⟨w.heap.size, j, none⟩ = (#[.int .i64 pw, .int .i64 ph, .int .i64 pp, .int .i64 pg, .int .i64 po, .slice A n nc, .slice B m mc, .slice M k kc, .map (some l), gn] : Array Value)[j]?)) (by kernel_rfl) (hkS _ hbz) (fun hHeld => ?_)
 generalize w2.drew = wz at hbz hHeld ⊢
 -- the region, step by step, in whatever order
 refine tkH 0 ⟨some 12, .load 143 (.tmp 3), 143, "plate.go:93", #[], none⟩ hHeld ?_
 refine tkH 1 ⟨some 13, .move (.tmp 1), 3, "plate.go:93", #[], none⟩ hHeld ?_
 refine tkH 2 ⟨some 14, .move (.tmp 2), 3, "plate.go:93", #[], none⟩ hHeld ?_
 refine rdH 3 ⟨some 15, .call { callee := .value (.func 203), args := #[.tmp 12, .tmp 13, .tmp 14], argTypes := #[143, 3, 3] }, 4, "plate.go:93", #[⟨0, .data⟩, ⟨1, .data⟩, ⟨2, .data⟩], none⟩ fun K hK => ?_
 go_simp
 refine (hme _ hbz).mono ?_
 rintro e' wz ⟨rfl, hb1⟩
 replace hbz := fr_call hbz hb1
 refine hK.out _ _ (hkS _ hbz) (fun hHeld => ?_)
 clear hK K
 (try simp only [Act.put, List.setIfInBounds_toArray, List.set_cons_zero, List.set_cons_succ])
 refine tkH 4 ⟨some 16, .move (.tmp 15), 4, "plate.go:93", #[⟨3, .data⟩, ⟨3, .chain⟩], none⟩ hHeld ?_
 refine tkH 5 ⟨some 17, .load 143 (.tmp 3), 143, "plate.go:93", #[⟨4, .guard⟩], some (4, true)⟩ hHeld ?_ (v := undef) (hy := Or.inr ⟨by rfl, rfl⟩)
 refine tkH 6 ⟨some 18, .move (.tmp 1), 3, "plate.go:93", #[⟨4, .guard⟩], some (4, true)⟩ hHeld ?_ (v := undef) (hy := Or.inr ⟨by rfl, rfl⟩)
 refine tkH 7 ⟨some 19, .move (.tmp 2), 3, "plate.go:93", #[⟨4, .guard⟩], some (4, true)⟩ hHeld ?_ (v := undef) (hy := Or.inr ⟨by rfl, rfl⟩)
 refine tkH 8 ⟨some 20, .call { callee := .value (.func 204), args := #[.tmp 17, .tmp 18, .tmp 19], argTypes := #[143, 3, 3] }, 4, "plate.go:93", #[⟨5, .data⟩, ⟨6, .data⟩, ⟨7, .data⟩, ⟨4, .chain⟩, ⟨4, .guard⟩], some (4, true)⟩ hHeld ?_ (v := undef) (hy := Or.inr ⟨by rfl, rfl⟩)
 refine tkH 9 ⟨some 21, .unOp .not 4 (.tmp 20), 4, "plate.go:93", #[⟨8, .data⟩, ⟨4, .guard⟩], some (4, true)⟩ hHeld ?_ (v := undef) (hy := Or.inr ⟨by rfl, rfl⟩)
 refine tkH 10 ⟨some 22, .move (.tmp 21), 4, "plate.go:93", #[⟨9, .data⟩, ⟨8, .chain⟩, ⟨4, .guard⟩], some (4, true)⟩ hHeld ?_ (v := undef) (hy := Or.inr ⟨by rfl, rfl⟩)
 refine tkH 11 ⟨some 23, .load 143 (.tmp 3), 143, "plate.go:93", #[⟨10, .guard⟩], some (10, false)⟩ hHeld ?_ (v := undef) (hy := Or.inr ⟨by rfl, rfl⟩)
 refine tkH 12 ⟨some 24, .move (.tmp 1), 3, "plate.go:93", #[⟨10, .guard⟩], some (10, false)⟩ hHeld ?_ (v := undef) (hy := Or.inr ⟨by rfl, rfl⟩)
 refine tkH 13 ⟨some 25, .move (.tmp 2), 3, "plate.go:93", #[⟨10, .guard⟩], some (10, false)⟩ hHeld ?_ (v := undef) (hy := Or.inr ⟨by rfl, rfl⟩)
 refine tkH 14 ⟨some 26, .call { callee := .value (.func 205), args := #[.tmp 23, .tmp 24, .tmp 25], argTypes := #[143, 3, 3] }, 4, "plate.go:93", #[⟨11, .data⟩, ⟨12, .data⟩, ⟨13, .data⟩, ⟨10, .chain⟩, ⟨10, .guard⟩], some (10, false)⟩ hHeld ?_ (v := undef) (hy := Or.inr ⟨by rfl, rfl⟩)
 refine tkH 15 ⟨some 27, .pick (.tmp 22) (.const (.bool true)) (.tmp 26), 4, "plate.go:93", #[⟨10, .data⟩, ⟨14, .data⟩, ⟨4, .guard⟩], some (4, true)⟩ hHeld ?_ (v := undef) (hy := Or.inr ⟨by rfl, rfl⟩)
 refine tkH 16 ⟨some 28, .move (.tmp 27), 4, "plate.go:93", #[⟨15, .data⟩, ⟨14, .chain⟩, ⟨4, .guard⟩], some (4, true)⟩ hHeld ?_ (v := undef) (hy := Or.inr ⟨by rfl, rfl⟩)
 refine tkH 17 ⟨some 29, .load 143 (.tmp 3), 143, "plate.go:93", #[⟨16, .guard⟩], some (16, false)⟩ hHeld ?_ (v := undef) (hy := Or.inr ⟨by rfl, rfl⟩)
 refine tkH 18 ⟨some 30, .move (.tmp 1), 3, "plate.go:93", #[⟨16, .guard⟩], some (16, false)⟩ hHeld ?_ (v := undef) (hy := Or.inr ⟨by rfl, rfl⟩)
 refine tkH 19 ⟨some 31, .move (.tmp 2), 3, "plate.go:93", #[⟨16, .guard⟩], some (16, false)⟩ hHeld ?_ (v := undef) (hy := Or.inr ⟨by rfl, rfl⟩)
 refine tkH 20 ⟨some 32, .call { callee := .value (.func 206), args := #[.tmp 29, .tmp 30, .tmp 31], argTypes := #[143, 3, 3] }, 3, "plate.go:93", #[⟨17, .data⟩, ⟨18, .data⟩, ⟨19, .data⟩, ⟨16, .chain⟩, ⟨16, .guard⟩], some (16, false)⟩ hHeld ?_ (v := undef) (hy := Or.inr ⟨by rfl, rfl⟩)
 refine tkH 21 ⟨some 33, .move (.tmp 7), 3, "plate.go:93", #[⟨16, .guard⟩], some (16, false)⟩ hHeld ?_ (v := undef) (hy := Or.inr ⟨by rfl, rfl⟩)
 refine tkH 22 ⟨some 34, .call { callee := .value (.func 207), args := #[.tmp 33], argTypes := #[3] }, 3, "plate.go:93", #[⟨21, .data⟩, ⟨20, .chain⟩, ⟨16, .guard⟩], some (16, false)⟩ hHeld ?_ (v := undef) (hy := Or.inr ⟨by rfl, rfl⟩)
 refine tkH 23 ⟨some 35, .binOp .lss 3 (.tmp 32) (.tmp 34) 3, 4, "plate.go:93", #[⟨20, .data⟩, ⟨22, .data⟩, ⟨16, .guard⟩], some (16, false)⟩ hHeld ?_ (v := undef) (hy := Or.inr ⟨by rfl, rfl⟩)
 refine tkH 24 ⟨some 36, .pick (.tmp 28) (.const (.bool true)) (.tmp 35), 4, "plate.go:93", #[⟨16, .data⟩, ⟨23, .data⟩, ⟨4, .guard⟩], some (4, true)⟩ hHeld ?_ (v := undef) (hy := Or.inr ⟨by rfl, rfl⟩)
 refine tkH 25 ⟨some 37, .move (.tmp 36), 4, "plate.go:93", #[⟨24, .data⟩, ⟨22, .chain⟩, ⟨4, .guard⟩], some (4, true)⟩ hHeld ?_ (v := undef) (hy := Or.inr ⟨by rfl, rfl⟩)
 refine tkH 26 ⟨some 38, .load 143 (.tmp 3), 143, "plate.go:93", #[⟨25, .guard⟩], some (25, false)⟩ hHeld ?_ (v := undef) (hy := Or.inr ⟨by rfl, rfl⟩)
 refine tkH 27 ⟨some 39, .move (.tmp 1), 3, "plate.go:93", #[⟨25, .guard⟩], some (25, false)⟩ hHeld ?_ (v := undef) (hy := Or.inr ⟨by rfl, rfl⟩)
 refine tkH 28 ⟨some 40, .move (.tmp 2), 3, "plate.go:93", #[⟨25, .guard⟩], some (25, false)⟩ hHeld ?_ (v := undef) (hy := Or.inr ⟨by rfl, rfl⟩)
 refine tkH 29 ⟨some 41, .call { callee := .value (.func 206), args := #[.tmp 38, .tmp 39, .tmp 40], argTypes := #[143, 3, 3] }, 3, "plate.go:93", #[⟨26, .data⟩, ⟨27, .data⟩, ⟨28, .data⟩, ⟨25, .chain⟩, ⟨25, .guard⟩], some (25, false)⟩ hHeld ?_ (v := undef) (hy := Or.inr ⟨by rfl, rfl⟩)
 refine tkH 30 ⟨some 42, .move (.tmp 7), 3, "plate.go:93", #[⟨25, .guard⟩], some (25, false)⟩ hHeld ?_ (v := undef) (hy := Or.inr ⟨by rfl, rfl⟩)
 refine tkH 31 ⟨some 43, .fieldAddr 143 (.tmp 3) 0, 0, "plate.go:93", #[⟨25, .guard⟩], some (25, false)⟩ hHeld ?_ (v := undef) (hy := Or.inr ⟨by rfl, rfl⟩)
 refine tkH 32 ⟨some 44, .fieldAddr 79 (.tmp 43) 2, 0, "plate.go:93", #[⟨31, .data⟩, ⟨25, .guard⟩], some (25, false)⟩ hHeld ?_ (v := undef) (hy := Or.inr ⟨by rfl, rfl⟩)
 refine tkH 33 ⟨some 45, .load 3 (.tmp 44), 3, "plate.go:93", #[⟨32, .data⟩, ⟨25, .guard⟩], some (25, false)⟩ hHeld ?_ (v := undef) (hy := Or.inr ⟨by rfl, rfl⟩)
 refine tkH 34 ⟨some 46, .binOp .add 3 (.tmp 42) (.tmp 45) 3, 3, "plate.go:93", #[⟨30, .data⟩, ⟨33, .data⟩, ⟨25, .guard⟩], some (25, false)⟩ hHeld ?_ (v := undef) (hy := Or.inr ⟨by rfl, rfl⟩)
 refine tkH 35 ⟨some 47, .call { callee := .value (.func 207), args := #[.tmp 46], argTypes := #[3] }, 3, "plate.go:93", #[⟨34, .data⟩, ⟨29, .chain⟩, ⟨25, .guard⟩], some (25, false)⟩ hHeld ?_ (v := undef) (hy := Or.inr ⟨by rfl, rfl⟩)
 refine tkH 36 ⟨some 48, .binOp .gtr 3 (.tmp 41) (.tmp 47) 3, 4, "plate.go:93", #[⟨29, .data⟩, ⟨35, .data⟩, ⟨25, .guard⟩], some (25, false)⟩ hHeld ?_ (v := undef) (hy := Or.inr ⟨by rfl, rfl⟩)
 refine tkH 37 ⟨some 49, .pick (.tmp 37) (.const (.bool true)) (.tmp 48), 4, "plate.go:93", #[⟨25, .data⟩, ⟨36, .data⟩, ⟨4, .guard⟩], some (4, true)⟩ hHeld ?_ (v := undef) (hy := Or.inr ⟨by rfl, rfl⟩)
 refine tkH 38 ⟨some 50, .pick (.tmp 16) (.tmp 49) (.const (.bool false)), 4, "plate.go:93", #[⟨4, .data⟩, ⟨37, .data⟩], none⟩ hHeld ?_
 refine tkH 39 ⟨some 6, .assign (.tmp 50), 4, "plate.go:93", #[⟨38, .data⟩, ⟨35, .chain⟩, ⟨0, .phase⟩, ⟨1, .phase⟩, ⟨2, .phase⟩, ⟨3, .phase⟩, ⟨4, .phase⟩, ⟨5, .phase⟩, ⟨6, .phase⟩, ⟨7, .phase⟩, ⟨8, .phase⟩, ⟨9, .phase⟩, ⟨10, .phase⟩, ⟨11, .phase⟩, ⟨12, .phase⟩, ⟨13, .phase⟩, ⟨14, .phase⟩, ⟨15, .phase⟩, ⟨16, .phase⟩, ⟨17, .phase⟩, ⟨18, .phase⟩, ⟨19, .phase⟩, ⟨20, .phase⟩, ⟨21, .phase⟩, ⟨22, .phase⟩, ⟨23, .phase⟩, ⟨24, .phase⟩, ⟨25, .phase⟩, ⟨26, .phase⟩, ⟨27, .phase⟩, ⟨28, .phase⟩, ⟨29, .phase⟩, ⟨30, .phase⟩, ⟨31, .phase⟩, ⟨32, .phase⟩, ⟨33, .phase⟩, ⟨34, .phase⟩, ⟨35, .phase⟩, ⟨36, .phase⟩, ⟨37, .phase⟩, ⟨38, .phase⟩], none⟩ hHeld ?_
 refine wpAnyH_done (by kernel_rfl) ?_ _
 refine NoPanic.normal ?_
 go_wp2_with fail
 go_ret
 exact ⟨rfl, fr_call hb0 hbz⟩
set_option maxRecDepth 100000 in
set_option maxHeartbeats 16000000 in
theorem apart_near (pw ph pp pg po : Int) (A B M : Option Addr) (n nc m mc k kc a b l : Nat) (gn : Value) (L : List (Int × Int)) (ws : List PWh) (cs : List PPt) (w : World) (hM : MapM w l L) (hA : RdS w A 2 (cs.map PPt.cells)) (hn : cs.length = n) (hB : RdS w B 4 (ws.map PWh.cells)) (hm : ws.length = m) (hal : a ≤ b) (ha : a < m) (hb : b < m) (x y : PWh) (hx : ws[a]? = some x) (hy : ws[b]? = some y)
  (p q : Nat) (hp : x.centre = (p : Int)) (hq : y.centre = (q : Int)) (c d : PPt) (hc : cs[p]? = some c) (hd : cs[q]? = some d) (hco : PtOk c) (hdo : PtOk d) (ht : (0 ≤ x.teeth ∧ x.teeth ≤ 50) ∧ 0 ≤ y.teeth ∧ y.teeth ≤ 50) (hyes : L.contains ((a : Int), (b : Int)) = true) (hll : x.layer = y.layer) (hcc : x.centre ≠ y.centre) (hpp : 0 ≤ pp ∧ pp ≤ 4) (hfs : farP c d < (x.teeth + y.teeth) * (x.teeth + y.teeth)) :
  Calls Tryz.prog 145 #[.agg #[.int .i64 pw, .int .i64 ph, .int .i64 pp, .int .i64 pg, .int .i64 po, .slice A n nc, .slice B m mc, .slice M k kc, .map (some l), gn], .int .i64 a, .int .i64 b] w fun e w' => e = .returned (.bool true) ∧ Below w.heap.size w w' := by
 have hb0 := fr_alloc (fr_refl w) (.cells #[.int .i64 pw, .int .i64 ph, .int .i64 pp, .int .i64 pg, .int .i64 po, .slice A n nc, .slice B m mc, .slice M k kc, .map (some l), gn] 143)
 have hX := Blk.new w 143 #[.int .i64 pw, .int .i64 ph, .int .i64 pp, .int .i64 pg, .int .i64 po, .slice A n nc, .slice B m mc, .slice M k kc, .map (some l), gn]
 obtain ⟨w1, hw1⟩ : ∃ w1, w.alloc (.cells #[.int .i64 pw, .int .i64 ph, .int .i64 pp, .int .i64 pg, .int .i64 po, .slice A n nc, .slice B m mc, .slice M k kc, .map (some l), gn] 143) = w1 := ⟨_, rfl⟩
 rw [hw1] at hb0 hX
 have hme := fun W (h : Below w1.heap.size w1 W) (bb : Bool) (hbb : L.contains ((a : Int), (b : Int)) = bb) => mesh_is pw ph pp pg po A B M n nc m mc k kc a b l gn L W ((hM.keep hb0).keep h) hal bb hbb
 have hle := fun W (h : Below w1.heap.size w1 W) => level_is pw ph pp pg po A B M n nc m mc k kc a b (.map (some l)) gn ws W ((hB.keep hb0).keep h) hm ha hb x y hx hy
 have hce := fun W (h : Below w1.heap.size w1 W) => centred_is pw ph pp pg po A B M n nc m mc k kc a b (.map (some l)) gn ws W ((hB.keep hb0).keep h) hm ha hb x y hx hy
 have hsu := fun W (h : Below w1.heap.size w1 W) => lsum_is pw ph pp pg po A B M n nc m mc k kc a b (.map (some l)) gn ws W ((hB.keep hb0).keep h) hm ha hb x y hx hy ht
 have hfa := fun W (h : Below w1.heap.size w1 W) => far_is pw ph pp pg po A B M n nc m mc k kc a b (.map (some l)) gn ws cs W ((hA.keep hb0).keep h) hn ((hB.keep hb0).keep h) hm ha hb x y hx hy p q hp hq c d hc hd hco hdo
 have hlX := hX.lt
 have hcX := fun j => hX.cell j
 have hkS : ∀ W, Below w1.heap.size w1 W → (∀ j, W.cell? ⟨w.heap.size, j, none⟩ = (#[.int .i64 pw, .int .i64 ph, .int .i64 pp, .int .i64 pg, .int .i64 po, .slice A n nc, .slice B m mc, .slice M k kc, .map (some l), gn] : Array Value)[j]?) := fun W hb => fun j => (hX.keep hb).cell j
 replace hme := fun W h => hme W h true hyes
 rw [show (x.layer == y.layer) = true from beq_iff_eq.2 hll] at hle
 rw [show (x.centre == y.centre) = false from beq_eq_false_iff_ne.2 hcc] at hce
 obtain ⟨s, hs⟩ : ∃ s, x.teeth + y.teeth = s := ⟨_, rfl⟩
 obtain ⟨f, hf⟩ : ∃ f, farP c d = f := ⟨_, rfl⟩
 have hsb : 0 ≤ s ∧ s ≤ 100 := by omega
 rw [hs] at hsu hfs
 rw [hf] at hfa hfs
 have hq1 := fun W => square_is s W (by omega)
 have hq2 := fun W => square_is (s + pp) W (by omega)
 have z1 : IntKind.i64.wrap (s + pp) = s + pp := IntWalk.i64_in _ (by omega)
 have d1 : decide (f < s * s) = true := decide_eq_true hfs
 clear hM hA hB hx hy hc hd hp hq hX hco hdo hn hm ha hb hal
 clear hyes hll hcc hs hf hfs ht
 go_enter Tryz.func145, Tryz.ntmps145
 go_upto_region 1 with (fail)
 (try rw [hw1])
 clear hw1
 go_wp2_with fail
 refine (hsu _ (fr_refl _)).mono ?_
 rintro e' w2 ⟨rfl, hbB⟩
 clear hcX
 go_upto_region 2 with (fail)
 refine wp_region_noPanic ?_
 have hbz := fr_drew (fr_refl w2)
 replace hbz := fr_call hbB hbz
 refine wp_region_held_drew (S := fun W => (∀ j, W.cell? ⟨w.heap.size, j, none⟩ = (#[.int .i64 pw, .int .i64 ph, .int .i64 pp, .int .i64 pg, .int .i64 po, .slice A n nc, .slice B m mc, .slice M k kc, .map (some l), gn] : Array Value)[j]?)) (by kernel_rfl) (hkS _ hbz) (fun hHeld => ?_)
 generalize w2.drew = wz at hbz hHeld ⊢
 -- the region, step by step, in whatever order
 refine tkH 0 ⟨some 12, .load 143 (.tmp 3), 143, "plate.go:93", #[], none⟩ hHeld ?_
 refine tkH 1 ⟨some 13, .move (.tmp 1), 3, "plate.go:93", #[], none⟩ hHeld ?_
 refine tkH 2 ⟨some 14, .move (.tmp 2), 3, "plate.go:93", #[], none⟩ hHeld ?_
 refine rdH 3 ⟨some 15, .call { callee := .value (.func 203), args := #[.tmp 12, .tmp 13, .tmp 14], argTypes := #[143, 3, 3] }, 4, "plate.go:93", #[⟨0, .data⟩, ⟨1, .data⟩, ⟨2, .data⟩], none⟩ fun K hK => ?_
 go_simp
 refine (hme _ hbz).mono ?_
 rintro e' wz ⟨rfl, hb1⟩
 replace hbz := fr_call hbz hb1
 refine hK.out _ _ (hkS _ hbz) (fun hHeld => ?_)
 clear hK K
 (try simp only [Act.put, List.setIfInBounds_toArray, List.set_cons_zero, List.set_cons_succ])
 refine tkH 4 ⟨some 16, .move (.tmp 15), 4, "plate.go:93", #[⟨3, .data⟩, ⟨3, .chain⟩], none⟩ hHeld ?_
 refine tkH 5 ⟨some 17, .load 143 (.tmp 3), 143, "plate.go:93", #[⟨4, .guard⟩], some (4, true)⟩ hHeld ?_
 refine tkH 6 ⟨some 18, .move (.tmp 1), 3, "plate.go:93", #[⟨4, .guard⟩], some (4, true)⟩ hHeld ?_
 refine tkH 7 ⟨some 19, .move (.tmp 2), 3, "plate.go:93", #[⟨4, .guard⟩], some (4, true)⟩ hHeld ?_
 refine rdH 8 ⟨some 20, .call { callee := .value (.func 204), args := #[.tmp 17, .tmp 18, .tmp 19], argTypes := #[143, 3, 3] }, 4, "plate.go:93", #[⟨5, .data⟩, ⟨6, .data⟩, ⟨7, .data⟩, ⟨4, .chain⟩, ⟨4, .guard⟩], some (4, true)⟩ fun K hK => ?_
 go_simp
 refine (hle _ hbz).mono ?_
 rintro e' wz ⟨rfl, hb1⟩
 replace hbz := fr_call hbz hb1
 refine hK.out _ _ (hkS _ hbz) (fun hHeld => ?_)
 clear hK K
 (try simp only [Act.put, List.setIfInBounds_toArray, List.set_cons_zero, List.set_cons_succ])
 refine tkH 9 ⟨some 21, .unOp .not 4 (.tmp 20), 4, "plate.go:93", #[⟨8, .data⟩, ⟨4, .guard⟩], some (4, true)⟩ hHeld ?_
 refine tkH 10 ⟨some 22, .move (.tmp 21), 4, "plate.go:93", #[⟨9, .data⟩, ⟨8, .chain⟩, ⟨4, .guard⟩], some (4, true)⟩ hHeld ?_
 refine tkH 11 ⟨some 23, .load 143 (.tmp 3), 143, "plate.go:93", #[⟨10, .guard⟩], some (10, false)⟩ hHeld ?_
 refine tkH 12 ⟨some 24, .move (.tmp 1), 3, "plate.go:93", #[⟨10, .guard⟩], some (10, false)⟩ hHeld ?_
 refine tkH 13 ⟨some 25, .move (.tmp 2), 3, "plate.go:93", #[⟨10, .guard⟩], some (10, false)⟩ hHeld ?_
 refine rdH 14 ⟨some 26, .call { callee := .value (.func 205), args := #[.tmp 23, .tmp 24, .tmp 25], argTypes := #[143, 3, 3] }, 4, "plate.go:93", #[⟨11, .data⟩, ⟨12, .data⟩, ⟨13, .data⟩, ⟨10, .chain⟩, ⟨10, .guard⟩], some (10, false)⟩ fun K hK => ?_
 go_simp
 refine (hce _ hbz).mono ?_
 rintro e' wz ⟨rfl, hb1⟩
 replace hbz := fr_call hbz hb1
 refine hK.out _ _ (hkS _ hbz) (fun hHeld => ?_)
 clear hK K
 (try simp only [Act.put, List.setIfInBounds_toArray, List.set_cons_zero, List.set_cons_succ])
 refine tkH 15 ⟨some 27, .pick (.tmp 22) (.const (.bool true)) (.tmp 26), 4, "plate.go:93", #[⟨10, .data⟩, ⟨14, .data⟩, ⟨4, .guard⟩], some (4, true)⟩ hHeld ?_
 refine tkH 16 ⟨some 28, .move (.tmp 27), 4, "plate.go:93", #[⟨15, .data⟩, ⟨14, .chain⟩, ⟨4, .guard⟩], some (4, true)⟩ hHeld ?_
 refine tkH 17 ⟨some 29, .load 143 (.tmp 3), 143, "plate.go:93", #[⟨16, .guard⟩], some (16, false)⟩ hHeld ?_
 refine tkH 18 ⟨some 30, .move (.tmp 1), 3, "plate.go:93", #[⟨16, .guard⟩], some (16, false)⟩ hHeld ?_
 refine tkH 19 ⟨some 31, .move (.tmp 2), 3, "plate.go:93", #[⟨16, .guard⟩], some (16, false)⟩ hHeld ?_
 refine tkH 21 ⟨some 33, .move (.tmp 7), 3, "plate.go:93", #[⟨16, .guard⟩], some (16, false)⟩ hHeld ?_
 refine rdH 20 ⟨some 32, .call { callee := .value (.func 206), args := #[.tmp 29, .tmp 30, .tmp 31], argTypes := #[143, 3, 3] }, 3, "plate.go:93", #[⟨17, .data⟩, ⟨18, .data⟩, ⟨19, .data⟩, ⟨16, .chain⟩, ⟨16, .guard⟩], some (16, false)⟩ fun K hK => ?_
 go_simp
 refine (hfa _ hbz).mono ?_
 rintro e' wz ⟨rfl, hb1⟩
 replace hbz := fr_call hbz hb1
 refine hK.out _ _ (hkS _ hbz) (fun hHeld => ?_)
 clear hK K
 (try simp only [Act.put, List.setIfInBounds_toArray, List.set_cons_zero, List.set_cons_succ])
 refine rdH 22 ⟨some 34, .call { callee := .value (.func 207), args := #[.tmp 33], argTypes := #[3] }, 3, "plate.go:93", #[⟨21, .data⟩, ⟨20, .chain⟩, ⟨16, .guard⟩], some (16, false)⟩ fun K hK => ?_
 go_simp
 refine (hq1 _).mono ?_
 rintro e' wq ⟨rfl, rfl⟩
 refine hK.out _ _ (hkS _ hbz) (fun hHeld => ?_)
 clear hK K
 (try simp only [Act.put, List.setIfInBounds_toArray, List.set_cons_zero, List.set_cons_succ])
 refine tkH 23 ⟨some 35, .binOp .lss 3 (.tmp 32) (.tmp 34) 3, 4, "plate.go:93", #[⟨20, .data⟩, ⟨22, .data⟩, ⟨16, .guard⟩], some (16, false)⟩ hHeld ?_
 refine tkH 24 ⟨some 36, .pick (.tmp 28) (.const (.bool true)) (.tmp 35), 4, "plate.go:93", #[⟨16, .data⟩, ⟨23, .data⟩, ⟨4, .guard⟩], some (4, true)⟩ hHeld ?_
 refine tkH 25 ⟨some 37, .move (.tmp 36), 4, "plate.go:93", #[⟨24, .data⟩, ⟨22, .chain⟩, ⟨4, .guard⟩], some (4, true)⟩ hHeld ?_
 refine tkH 26 ⟨some 38, .load 143 (.tmp 3), 143, "plate.go:93", #[⟨25, .guard⟩], some (25, false)⟩ hHeld ?_ (v := undef) (hy := Or.inr ⟨by rfl, rfl⟩)
 refine tkH 27 ⟨some 39, .move (.tmp 1), 3, "plate.go:93", #[⟨25, .guard⟩], some (25, false)⟩ hHeld ?_ (v := undef) (hy := Or.inr ⟨by rfl, rfl⟩)
 refine tkH 28 ⟨some 40, .move (.tmp 2), 3, "plate.go:93", #[⟨25, .guard⟩], some (25, false)⟩ hHeld ?_ (v := undef) (hy := Or.inr ⟨by rfl, rfl⟩)
 refine tkH 29 ⟨some 41, .call { callee := .value (.func 206), args := #[.tmp 38, .tmp 39, .tmp 40], argTypes := #[143, 3, 3] }, 3, "plate.go:93", #[⟨26, .data⟩, ⟨27, .data⟩, ⟨28, .data⟩, ⟨25, .chain⟩, ⟨25, .guard⟩], some (25, false)⟩ hHeld ?_ (v := undef) (hy := Or.inr ⟨by rfl, rfl⟩)
 refine tkH 30 ⟨some 42, .move (.tmp 7), 3, "plate.go:93", #[⟨25, .guard⟩], some (25, false)⟩ hHeld ?_ (v := undef) (hy := Or.inr ⟨by rfl, rfl⟩)
 refine tkH 31 ⟨some 43, .fieldAddr 143 (.tmp 3) 0, 0, "plate.go:93", #[⟨25, .guard⟩], some (25, false)⟩ hHeld ?_ (v := undef) (hy := Or.inr ⟨by rfl, rfl⟩)
 refine tkH 32 ⟨some 44, .fieldAddr 79 (.tmp 43) 2, 0, "plate.go:93", #[⟨31, .data⟩, ⟨25, .guard⟩], some (25, false)⟩ hHeld ?_ (v := undef) (hy := Or.inr ⟨by rfl, rfl⟩)
 refine tkH 33 ⟨some 45, .load 3 (.tmp 44), 3, "plate.go:93", #[⟨32, .data⟩, ⟨25, .guard⟩], some (25, false)⟩ hHeld ?_ (v := undef) (hy := Or.inr ⟨by rfl, rfl⟩)
 refine tkH 34 ⟨some 46, .binOp .add 3 (.tmp 42) (.tmp 45) 3, 3, "plate.go:93", #[⟨30, .data⟩, ⟨33, .data⟩, ⟨25, .guard⟩], some (25, false)⟩ hHeld ?_ (v := undef) (hy := Or.inr ⟨by rfl, rfl⟩)
 refine tkH 35 ⟨some 47, .call { callee := .value (.func 207), args := #[.tmp 46], argTypes := #[3] }, 3, "plate.go:93", #[⟨34, .data⟩, ⟨29, .chain⟩, ⟨25, .guard⟩], some (25, false)⟩ hHeld ?_ (v := undef) (hy := Or.inr ⟨by rfl, rfl⟩)
 refine tkH 36 ⟨some 48, .binOp .gtr 3 (.tmp 41) (.tmp 47) 3, 4, "plate.go:93", #[⟨29, .data⟩, ⟨35, .data⟩, ⟨25, .guard⟩], some (25, false)⟩ hHeld ?_ (v := undef) (hy := Or.inr ⟨by rfl, rfl⟩)
 refine tkH 37 ⟨some 49, .pick (.tmp 37) (.const (.bool true)) (.tmp 48), 4, "plate.go:93", #[⟨25, .data⟩, ⟨36, .data⟩, ⟨4, .guard⟩], some (4, true)⟩ hHeld ?_
 refine tkH 38 ⟨some 50, .pick (.tmp 16) (.tmp 49) (.const (.bool false)), 4, "plate.go:93", #[⟨4, .data⟩, ⟨37, .data⟩], none⟩ hHeld ?_
 refine tkH 39 ⟨some 6, .assign (.tmp 50), 4, "plate.go:93", #[⟨38, .data⟩, ⟨35, .chain⟩, ⟨0, .phase⟩, ⟨1, .phase⟩, ⟨2, .phase⟩, ⟨3, .phase⟩, ⟨4, .phase⟩, ⟨5, .phase⟩, ⟨6, .phase⟩, ⟨7, .phase⟩, ⟨8, .phase⟩, ⟨9, .phase⟩, ⟨10, .phase⟩, ⟨11, .phase⟩, ⟨12, .phase⟩, ⟨13, .phase⟩, ⟨14, .phase⟩, ⟨15, .phase⟩, ⟨16, .phase⟩, ⟨17, .phase⟩, ⟨18, .phase⟩, ⟨19, .phase⟩, ⟨20, .phase⟩, ⟨21, .phase⟩, ⟨22, .phase⟩, ⟨23, .phase⟩, ⟨24, .phase⟩, ⟨25, .phase⟩, ⟨26, .phase⟩, ⟨27, .phase⟩, ⟨28, .phase⟩, ⟨29, .phase⟩, ⟨30, .phase⟩, ⟨31, .phase⟩, ⟨32, .phase⟩, ⟨33, .phase⟩, ⟨34, .phase⟩, ⟨35, .phase⟩, ⟨36, .phase⟩, ⟨37, .phase⟩, ⟨38, .phase⟩], none⟩ hHeld ?_
 refine wpAnyH_done (by kernel_rfl) ?_ _
 refine NoPanic.normal ?_
 go_wp2_with fail
 go_ret
 exact ⟨rfl, fr_call hb0 hbz⟩
set_option maxRecDepth 100000 in
set_option maxHeartbeats 16000000 in
theorem apart_far (pw ph pp pg po : Int) (A B M : Option Addr) (n nc m mc k kc a b l : Nat) (gn : Value) (L : List (Int × Int)) (ws : List PWh) (cs : List PPt) (w : World) (hM : MapM w l L) (hA : RdS w A 2 (cs.map PPt.cells)) (hn : cs.length = n) (hB : RdS w B 4 (ws.map PWh.cells)) (hm : ws.length = m) (hal : a ≤ b) (ha : a < m) (hb : b < m) (x y : PWh) (hx : ws[a]? = some x) (hy : ws[b]? = some y)
  (p q : Nat) (hp : x.centre = (p : Int)) (hq : y.centre = (q : Int)) (c d : PPt) (hc : cs[p]? = some c) (hd : cs[q]? = some d) (hco : PtOk c) (hdo : PtOk d) (ht : (0 ≤ x.teeth ∧ x.teeth ≤ 50) ∧ 0 ≤ y.teeth ∧ y.teeth ≤ 50) (hyes : L.contains ((a : Int), (b : Int)) = true) (hll : x.layer = y.layer) (hcc : x.centre ≠ y.centre) (hpp : 0 ≤ pp ∧ pp ≤ 4) (hfs : ¬ farP c d < (x.teeth + y.teeth) * (x.teeth + y.teeth)) :
  Calls Tryz.prog 145 #[.agg #[.int .i64 pw, .int .i64 ph, .int .i64 pp, .int .i64 pg, .int .i64 po, .slice A n nc, .slice B m mc, .slice M k kc, .map (some l), gn], .int .i64 a, .int .i64 b] w fun e w' => e = .returned (.bool (decide ((x.teeth + y.teeth + pp) * (x.teeth + y.teeth + pp) < farP c d))) ∧ Below w.heap.size w w' := by
 have hb0 := fr_alloc (fr_refl w) (.cells #[.int .i64 pw, .int .i64 ph, .int .i64 pp, .int .i64 pg, .int .i64 po, .slice A n nc, .slice B m mc, .slice M k kc, .map (some l), gn] 143)
 have hX := Blk.new w 143 #[.int .i64 pw, .int .i64 ph, .int .i64 pp, .int .i64 pg, .int .i64 po, .slice A n nc, .slice B m mc, .slice M k kc, .map (some l), gn]
 obtain ⟨w1, hw1⟩ : ∃ w1, w.alloc (.cells #[.int .i64 pw, .int .i64 ph, .int .i64 pp, .int .i64 pg, .int .i64 po, .slice A n nc, .slice B m mc, .slice M k kc, .map (some l), gn] 143) = w1 := ⟨_, rfl⟩
 rw [hw1] at hb0 hX
 have hme := fun W (h : Below w1.heap.size w1 W) (bb : Bool) (hbb : L.contains ((a : Int), (b : Int)) = bb) => mesh_is pw ph pp pg po A B M n nc m mc k kc a b l gn L W ((hM.keep hb0).keep h) hal bb hbb
 have hle := fun W (h : Below w1.heap.size w1 W) => level_is pw ph pp pg po A B M n nc m mc k kc a b (.map (some l)) gn ws W ((hB.keep hb0).keep h) hm ha hb x y hx hy
 have hce := fun W (h : Below w1.heap.size w1 W) => centred_is pw ph pp pg po A B M n nc m mc k kc a b (.map (some l)) gn ws W ((hB.keep hb0).keep h) hm ha hb x y hx hy
 have hsu := fun W (h : Below w1.heap.size w1 W) => lsum_is pw ph pp pg po A B M n nc m mc k kc a b (.map (some l)) gn ws W ((hB.keep hb0).keep h) hm ha hb x y hx hy ht
 have hfa := fun W (h : Below w1.heap.size w1 W) => far_is pw ph pp pg po A B M n nc m mc k kc a b (.map (some l)) gn ws cs W ((hA.keep hb0).keep h) hn ((hB.keep hb0).keep h) hm ha hb x y hx hy p q hp hq c d hc hd hco hdo
 have hlX := hX.lt
 have hcX := fun j => hX.cell j
 have hkS : ∀ W, Below w1.heap.size w1 W → (∀ j, W.cell? ⟨w.heap.size, j, none⟩ = (#[.int .i64 pw, .int .i64 ph, .int .i64 pp, .int .i64 pg, .int .i64 po, .slice A n nc, .slice B m mc, .slice M k kc, .map (some l), gn] : Array Value)[j]?) := fun W hb => fun j => (hX.keep hb).cell j
 replace hme := fun W h => hme W h true hyes
 rw [show (x.layer == y.layer) = true from beq_iff_eq.2 hll] at hle
 rw [show (x.centre == y.centre) = false from beq_eq_false_iff_ne.2 hcc] at hce
 obtain ⟨s, hs⟩ : ∃ s, x.teeth + y.teeth = s := ⟨_, rfl⟩
 obtain ⟨f, hf⟩ : ∃ f, farP c d = f := ⟨_, rfl⟩
 have hsb : 0 ≤ s ∧ s ≤ 100 := by omega
 rw [hs] at hsu hfs ⊢
 rw [hf] at hfa hfs ⊢
 have hq1 := fun W => square_is s W (by omega)
 have hq2 := fun W => square_is (s + pp) W (by omega)
 have z1 : IntKind.i64.wrap (s + pp) = s + pp := IntWalk.i64_in _ (by omega)
 have d1 : decide (f < s * s) = false := decide_eq_false hfs
 clear hM hA hB hx hy hc hd hp hq hX hco hdo hn hm ha hb hal
 clear hyes hll hcc hs hf hfs ht
 go_enter Tryz.func145, Tryz.ntmps145
 go_upto_region 1 with (fail)
 (try rw [hw1])
 clear hw1
 go_wp2_with fail
 refine (hsu _ (fr_refl _)).mono ?_
 rintro e' w2 ⟨rfl, hbB⟩
 clear hcX
 go_upto_region 2 with (fail)
 refine wp_region_noPanic ?_
 have hbz := fr_drew (fr_refl w2)
 replace hbz := fr_call hbB hbz
 refine wp_region_held_drew (S := fun W => (∀ j, W.cell? ⟨w.heap.size, j, none⟩ = (#[.int .i64 pw, .int .i64 ph, .int .i64 pp, .int .i64 pg, .int .i64 po, .slice A n nc, .slice B m mc, .slice M k kc, .map (some l), gn] : Array Value)[j]?)) (by kernel_rfl) (hkS _ hbz) (fun hHeld => ?_)
 generalize w2.drew = wz at hbz hHeld ⊢
 -- the region, step by step, in whatever order
 refine tkH 0 ⟨some 12, .load 143 (.tmp 3), 143, "plate.go:93", #[], none⟩ hHeld ?_
 refine tkH 1 ⟨some 13, .move (.tmp 1), 3, "plate.go:93", #[], none⟩ hHeld ?_
 refine tkH 2 ⟨some 14, .move (.tmp 2), 3, "plate.go:93", #[], none⟩ hHeld ?_
 refine rdH 3 ⟨some 15, .call { callee := .value (.func 203), args := #[.tmp 12, .tmp 13, .tmp 14], argTypes := #[143, 3, 3] }, 4, "plate.go:93", #[⟨0, .data⟩, ⟨1, .data⟩, ⟨2, .data⟩], none⟩ fun K hK => ?_
 go_simp
 refine (hme _ hbz).mono ?_
 rintro e' wz ⟨rfl, hb1⟩
 replace hbz := fr_call hbz hb1
 refine hK.out _ _ (hkS _ hbz) (fun hHeld => ?_)
 clear hK K
 (try simp only [Act.put, List.setIfInBounds_toArray, List.set_cons_zero, List.set_cons_succ])
 refine tkH 4 ⟨some 16, .move (.tmp 15), 4, "plate.go:93", #[⟨3, .data⟩, ⟨3, .chain⟩], none⟩ hHeld ?_
 refine tkH 5 ⟨some 17, .load 143 (.tmp 3), 143, "plate.go:93", #[⟨4, .guard⟩], some (4, true)⟩ hHeld ?_
 refine tkH 6 ⟨some 18, .move (.tmp 1), 3, "plate.go:93", #[⟨4, .guard⟩], some (4, true)⟩ hHeld ?_
 refine tkH 7 ⟨some 19, .move (.tmp 2), 3, "plate.go:93", #[⟨4, .guard⟩], some (4, true)⟩ hHeld ?_
 refine rdH 8 ⟨some 20, .call { callee := .value (.func 204), args := #[.tmp 17, .tmp 18, .tmp 19], argTypes := #[143, 3, 3] }, 4, "plate.go:93", #[⟨5, .data⟩, ⟨6, .data⟩, ⟨7, .data⟩, ⟨4, .chain⟩, ⟨4, .guard⟩], some (4, true)⟩ fun K hK => ?_
 go_simp
 refine (hle _ hbz).mono ?_
 rintro e' wz ⟨rfl, hb1⟩
 replace hbz := fr_call hbz hb1
 refine hK.out _ _ (hkS _ hbz) (fun hHeld => ?_)
 clear hK K
 (try simp only [Act.put, List.setIfInBounds_toArray, List.set_cons_zero, List.set_cons_succ])
 refine tkH 9 ⟨some 21, .unOp .not 4 (.tmp 20), 4, "plate.go:93", #[⟨8, .data⟩, ⟨4, .guard⟩], some (4, true)⟩ hHeld ?_
 refine tkH 10 ⟨some 22, .move (.tmp 21), 4, "plate.go:93", #[⟨9, .data⟩, ⟨8, .chain⟩, ⟨4, .guard⟩], some (4, true)⟩ hHeld ?_
 refine tkH 11 ⟨some 23, .load 143 (.tmp 3), 143, "plate.go:93", #[⟨10, .guard⟩], some (10, false)⟩ hHeld ?_
 refine tkH 12 ⟨some 24, .move (.tmp 1), 3, "plate.go:93", #[⟨10, .guard⟩], some (10, false)⟩ hHeld ?_
 refine tkH 13 ⟨some 25, .move (.tmp 2), 3, "plate.go:93", #[⟨10, .guard⟩], some (10, false)⟩ hHeld ?_
 refine rdH 14 ⟨some 26, .call { callee := .value (.func 205), args := #[.tmp 23, .tmp 24, .tmp 25], argTypes := #[143, 3, 3] }, 4, "plate.go:93", #[⟨11, .data⟩, ⟨12, .data⟩, ⟨13, .data⟩, ⟨10, .chain⟩, ⟨10, .guard⟩], some (10, false)⟩ fun K hK => ?_
 go_simp
 refine (hce _ hbz).mono ?_
 rintro e' wz ⟨rfl, hb1⟩
 replace hbz := fr_call hbz hb1
 refine hK.out _ _ (hkS _ hbz) (fun hHeld => ?_)
 clear hK K
 (try simp only [Act.put, List.setIfInBounds_toArray, List.set_cons_zero, List.set_cons_succ])
 refine tkH 15 ⟨some 27, .pick (.tmp 22) (.const (.bool true)) (.tmp 26), 4, "plate.go:93", #[⟨10, .data⟩, ⟨14, .data⟩, ⟨4, .guard⟩], some (4, true)⟩ hHeld ?_
 refine tkH 16 ⟨some 28, .move (.tmp 27), 4, "plate.go:93", #[⟨15, .data⟩, ⟨14, .chain⟩, ⟨4, .guard⟩], some (4, true)⟩ hHeld ?_
 refine tkH 17 ⟨some 29, .load 143 (.tmp 3), 143, "plate.go:93", #[⟨16, .guard⟩], some (16, false)⟩ hHeld ?_
 refine tkH 18 ⟨some 30, .move (.tmp 1), 3, "plate.go:93", #[⟨16, .guard⟩], some (16, false)⟩ hHeld ?_
 refine tkH 19 ⟨some 31, .move (.tmp 2), 3, "plate.go:93", #[⟨16, .guard⟩], some (16, false)⟩ hHeld ?_
 refine tkH 21 ⟨some 33, .move (.tmp 7), 3, "plate.go:93", #[⟨16, .guard⟩], some (16, false)⟩ hHeld ?_
 refine rdH 20 ⟨some 32, .call { callee := .value (.func 206), args := #[.tmp 29, .tmp 30, .tmp 31], argTypes := #[143, 3, 3] }, 3, "plate.go:93", #[⟨17, .data⟩, ⟨18, .data⟩, ⟨19, .data⟩, ⟨16, .chain⟩, ⟨16, .guard⟩], some (16, false)⟩ fun K hK => ?_
 go_simp
 refine (hfa _ hbz).mono ?_
 rintro e' wz ⟨rfl, hb1⟩
 replace hbz := fr_call hbz hb1
 refine hK.out _ _ (hkS _ hbz) (fun hHeld => ?_)
 clear hK K
 (try simp only [Act.put, List.setIfInBounds_toArray, List.set_cons_zero, List.set_cons_succ])
 refine rdH 22 ⟨some 34, .call { callee := .value (.func 207), args := #[.tmp 33], argTypes := #[3] }, 3, "plate.go:93", #[⟨21, .data⟩, ⟨20, .chain⟩, ⟨16, .guard⟩], some (16, false)⟩ fun K hK => ?_
 go_simp
 refine (hq1 _).mono ?_
 rintro e' wq ⟨rfl, rfl⟩
 refine hK.out _ _ (hkS _ hbz) (fun hHeld => ?_)
 clear hK K
 (try simp only [Act.put, List.setIfInBounds_toArray, List.set_cons_zero, List.set_cons_succ])
 refine tkH 23 ⟨some 35, .binOp .lss 3 (.tmp 32) (.tmp 34) 3, 4, "plate.go:93", #[⟨20, .data⟩, ⟨22, .data⟩, ⟨16, .guard⟩], some (16, false)⟩ hHeld ?_
 refine tkH 24 ⟨some 36, .pick (.tmp 28) (.const (.bool true)) (.tmp 35), 4, "plate.go:93", #[⟨16, .data⟩, ⟨23, .data⟩, ⟨4, .guard⟩], some (4, true)⟩ hHeld ?_
 refine tkH 25 ⟨some 37, .move (.tmp 36), 4, "plate.go:93", #[⟨24, .data⟩, ⟨22, .chain⟩, ⟨4, .guard⟩], some (4, true)⟩ hHeld ?_
 refine tkH 26 ⟨some 38, .load 143 (.tmp 3), 143, "plate.go:93", #[⟨25, .guard⟩], some (25, false)⟩ hHeld ?_
 refine tkH 27 ⟨some 39, .move (.tmp 1), 3, "plate.go:93", #[⟨25, .guard⟩], some (25, false)⟩ hHeld ?_
 refine tkH 28 ⟨some 40, .move (.tmp 2), 3, "plate.go:93", #[⟨25, .guard⟩], some (25, false)⟩ hHeld ?_
 refine tkH 30 ⟨some 42, .move (.tmp 7), 3, "plate.go:93", #[⟨25, .guard⟩], some (25, false)⟩ hHeld ?_
 refine tkH 31 ⟨some 43, .fieldAddr 143 (.tmp 3) 0, 0, "plate.go:93", #[⟨25, .guard⟩], some (25, false)⟩ hHeld ?_
 refine tkH 32 ⟨some 44, .fieldAddr 79 (.tmp 43) 2, 0, "plate.go:93", #[⟨31, .data⟩, ⟨25, .guard⟩], some (25, false)⟩ hHeld ?_
 refine tkH 33 ⟨some 45, .load 3 (.tmp 44), 3, "plate.go:93", #[⟨32, .data⟩, ⟨25, .guard⟩], some (25, false)⟩ hHeld ?_
 refine tkH 34 ⟨some 46, .binOp .add 3 (.tmp 42) (.tmp 45) 3, 3, "plate.go:93", #[⟨30, .data⟩, ⟨33, .data⟩, ⟨25, .guard⟩], some (25, false)⟩ hHeld ?_
 refine rdH 29 ⟨some 41, .call { callee := .value (.func 206), args := #[.tmp 38, .tmp 39, .tmp 40], argTypes := #[143, 3, 3] }, 3, "plate.go:93", #[⟨26, .data⟩, ⟨27, .data⟩, ⟨28, .data⟩, ⟨25, .chain⟩, ⟨25, .guard⟩], some (25, false)⟩ fun K hK => ?_
 go_simp
 refine (hfa _ hbz).mono ?_
 rintro e' wz ⟨rfl, hb1⟩
 replace hbz := fr_call hbz hb1
 refine hK.out _ _ (hkS _ hbz) (fun hHeld => ?_)
 clear hK K
 (try simp only [Act.put, List.setIfInBounds_toArray, List.set_cons_zero, List.set_cons_succ])
 refine rdH 35 ⟨some 47, .call { callee := .value (.func 207), args := #[.tmp 46], argTypes := #[3] }, 3, "plate.go:93", #[⟨34, .data⟩, ⟨29, .chain⟩, ⟨25, .guard⟩], some (25, false)⟩ fun K hK => ?_
 go_simp
 refine (hq2 _).mono ?_
 rintro e' wq ⟨rfl, rfl⟩
 refine hK.out _ _ (hkS _ hbz) (fun hHeld => ?_)
 clear hK K
 (try simp only [Act.put, List.setIfInBounds_toArray, List.set_cons_zero, List.set_cons_succ])
 refine tkH 36 ⟨some 48, .binOp .gtr 3 (.tmp 41) (.tmp 47) 3, 4, "plate.go:93", #[⟨29, .data⟩, ⟨35, .data⟩, ⟨25, .guard⟩], some (25, false)⟩ hHeld ?_
 refine tkH 37 ⟨some 49, .pick (.tmp 37) (.const (.bool true)) (.tmp 48), 4, "plate.go:93", #[⟨25, .data⟩, ⟨36, .data⟩, ⟨4, .guard⟩], some (4, true)⟩ hHeld ?_
 refine tkH 38 ⟨some 50, .pick (.tmp 16) (.tmp 49) (.const (.bool false)), 4, "plate.go:93", #[⟨4, .data⟩, ⟨37, .data⟩], none⟩ hHeld ?_
 refine tkH 39 ⟨some 6, .assign (.tmp 50), 4, "plate.go:93", #[⟨38, .data⟩, ⟨35, .chain⟩, ⟨0, .phase⟩, ⟨1, .phase⟩, ⟨2, .phase⟩, ⟨3, .phase⟩, ⟨4, .phase⟩, ⟨5, .phase⟩, ⟨6, .phase⟩, ⟨7, .phase⟩, ⟨8, .phase⟩, ⟨9, .phase⟩, ⟨10, .phase⟩, ⟨11, .phase⟩, ⟨12, .phase⟩, ⟨13, .phase⟩, ⟨14, .phase⟩, ⟨15, .phase⟩, ⟨16, .phase⟩, ⟨17, .phase⟩, ⟨18, .phase⟩, ⟨19, .phase⟩, ⟨20, .phase⟩, ⟨21, .phase⟩, ⟨22, .phase⟩, ⟨23, .phase⟩, ⟨24, .phase⟩, ⟨25, .phase⟩, ⟨26, .phase⟩, ⟨27, .phase⟩, ⟨28, .phase⟩, ⟨29, .phase⟩, ⟨30, .phase⟩, ⟨31, .phase⟩, ⟨32, .phase⟩, ⟨33, .phase⟩, ⟨34, .phase⟩, ⟨35, .phase⟩, ⟨36, .phase⟩, ⟨37, .phase⟩, ⟨38, .phase⟩], none⟩ hHeld ?_
 refine wpAnyH_done (by kernel_rfl) ?_ _
 refine NoPanic.normal ?_
 go_wp2_with fail
 go_ret
 exact ⟨rfl, fr_call hb0 hbz⟩
set_option maxRecDepth 100000 in
set_option maxHeartbeats 16000000 in
theorem touch_mesh (pw ph pp pg po : Int) (A B M : Option Addr) (n nc m mc k kc a b l : Nat) (gn : Value) (L : List (Int × Int)) (ws : List PWh) (cs : List PPt) (w : World) (hM : MapM w l L) (hA : RdS w A 2 (cs.map PPt.cells)) (hn : cs.length = n) (hB : RdS w B 4 (ws.map PWh.cells)) (hm : ws.length = m) (hal : a ≤ b) (ha : a < m) (hb : b < m) (x y : PWh) (hx : ws[a]? = some x) (hy : ws[b]? = some y)
  (p q : Nat) (hp : x.centre = (p : Int)) (hq : y.centre = (q : Int)) (c d : PPt) (hc : cs[p]? = some c) (hd : cs[q]? = some d) (hco : PtOk c) (hdo : PtOk d) (ht : (0 ≤ x.teeth ∧ x.teeth ≤ 50) ∧ 0 ≤ y.teeth ∧ y.teeth ≤ 50) (hyes : L.contains ((a : Int), (b : Int)) = true) :
  Calls Tryz.prog 146 #[.agg #[.int .i64 pw, .int .i64 ph, .int .i64 pp, .int .i64 pg, .int .i64 po, .slice A n nc, .slice B m mc, .slice M k kc, .map (some l), gn], .int .i64 a, .int .i64 b] w fun e w' => e = .returned (.bool false) ∧ Below w.heap.size w w' := by
 have hb0 := fr_alloc (fr_refl w) (.cells #[.int .i64 pw, .int .i64 ph, .int .i64 pp, .int .i64 pg, .int .i64 po, .slice A n nc, .slice B m mc, .slice M k kc, .map (some l), gn] 143)
 have hX := Blk.new w 143 #[.int .i64 pw, .int .i64 ph, .int .i64 pp, .int .i64 pg, .int .i64 po, .slice A n nc, .slice B m mc, .slice M k kc, .map (some l), gn]
 obtain ⟨w1, hw1⟩ : ∃ w1, w.alloc (.cells #[.int .i64 pw, .int .i64 ph, .int .i64 pp, .int .i64 pg, .int .i64 po, .slice A n nc, .slice B m mc, .slice M k kc, .map (some l), gn] 143) = w1 := ⟨_, rfl⟩
 rw [hw1] at hb0 hX
 have hme := fun W (h : Below w1.heap.size w1 W) (bb : Bool) (hbb : L.contains ((a : Int), (b : Int)) = bb) => mesh_is pw ph pp pg po A B M n nc m mc k kc a b l gn L W ((hM.keep hb0).keep h) hal bb hbb
 have hle := fun W (h : Below w1.heap.size w1 W) => level_is pw ph pp pg po A B M n nc m mc k kc a b (.map (some l)) gn ws W ((hB.keep hb0).keep h) hm ha hb x y hx hy
 have hce := fun W (h : Below w1.heap.size w1 W) => centred_is pw ph pp pg po A B M n nc m mc k kc a b (.map (some l)) gn ws W ((hB.keep hb0).keep h) hm ha hb x y hx hy
 have hsu := fun W (h : Below w1.heap.size w1 W) => lsum_is pw ph pp pg po A B M n nc m mc k kc a b (.map (some l)) gn ws W ((hB.keep hb0).keep h) hm ha hb x y hx hy ht
 have hfa := fun W (h : Below w1.heap.size w1 W) => far_is pw ph pp pg po A B M n nc m mc k kc a b (.map (some l)) gn ws cs W ((hA.keep hb0).keep h) hn ((hB.keep hb0).keep h) hm ha hb x y hx hy p q hp hq c d hc hd hco hdo
 have hlX := hX.lt
 have hcX := fun j => hX.cell j
 have hkS : ∀ W, Below w1.heap.size w1 W → (∀ j, W.cell? ⟨w.heap.size, j, none⟩ = (#[.int .i64 pw, .int .i64 ph, .int .i64 pp, .int .i64 pg, .int .i64 po, .slice A n nc, .slice B m mc, .slice M k kc, .map (some l), gn] : Array Value)[j]?) := fun W hb => fun j => (hX.keep hb).cell j
 replace hme := fun W h => hme W h true hyes
 clear hyes hle hce
 clear hM hA hB hx hy hc hd hp hq hX hco hdo hn hm ha hb hal
 clear hsu hfa ht hcX
 go_enter Tryz.func146, Tryz.ntmps146
 go_upto_region 1 with (fail)
 (try rw [hw1])
 clear hw1
 refine wp_region_noPanic ?_
 have hbz := fr_drew (fr_refl w1)
 refine wp_region_held_drew (S := fun W => (∀ j, W.cell? ⟨w.heap.size, j, none⟩ = (#[.int .i64 pw, .int .i64 ph, .int .i64 pp, .int .i64 pg, .int .i64 po, .slice A n nc, .slice B m mc, .slice M k kc, .map (some l), gn] : Array Value)[j]?)) (by kernel_rfl) (hkS _ hbz) (fun hHeld => ?_)
 generalize w1.drew = wz at hbz hHeld ⊢
 -- the region, step by step, in whatever order
 refine tkH 0 ⟨some 7, .load 143 (.tmp 3), 143, "plate.go:97", #[], none⟩ hHeld ?_
 refine tkH 1 ⟨some 8, .move (.tmp 1), 3, "plate.go:97", #[], none⟩ hHeld ?_
 refine tkH 2 ⟨some 9, .move (.tmp 2), 3, "plate.go:97", #[], none⟩ hHeld ?_
 refine rdH 3 ⟨some 10, .call { callee := .value (.func 203), args := #[.tmp 7, .tmp 8, .tmp 9], argTypes := #[143, 3, 3] }, 4, "plate.go:97", #[⟨0, .data⟩, ⟨1, .data⟩, ⟨2, .data⟩], none⟩ fun K hK => ?_
 go_simp
 refine (hme _ hbz).mono ?_
 rintro e' wz ⟨rfl, hb1⟩
 replace hbz := fr_call hbz hb1
 refine hK.out _ _ (hkS _ hbz) (fun hHeld => ?_)
 clear hK K
 (try simp only [Act.put, List.setIfInBounds_toArray, List.set_cons_zero, List.set_cons_succ])
 refine tkH 4 ⟨some 11, .unOp .not 4 (.tmp 10), 4, "plate.go:97", #[⟨3, .data⟩], none⟩ hHeld ?_
 refine tkH 5 ⟨some 12, .move (.tmp 11), 4, "plate.go:97", #[⟨4, .data⟩, ⟨3, .chain⟩], none⟩ hHeld ?_
 refine tkH 6 ⟨some 13, .load 143 (.tmp 3), 143, "plate.go:97", #[⟨5, .guard⟩], some (5, true)⟩ hHeld ?_ (v := undef) (hy := Or.inr ⟨by rfl, rfl⟩)
 refine tkH 7 ⟨some 14, .move (.tmp 1), 3, "plate.go:97", #[⟨5, .guard⟩], some (5, true)⟩ hHeld ?_ (v := undef) (hy := Or.inr ⟨by rfl, rfl⟩)
 refine tkH 8 ⟨some 15, .move (.tmp 2), 3, "plate.go:97", #[⟨5, .guard⟩], some (5, true)⟩ hHeld ?_ (v := undef) (hy := Or.inr ⟨by rfl, rfl⟩)
 refine tkH 9 ⟨some 16, .call { callee := .value (.func 204), args := #[.tmp 13, .tmp 14, .tmp 15], argTypes := #[143, 3, 3] }, 4, "plate.go:97", #[⟨6, .data⟩, ⟨7, .data⟩, ⟨8, .data⟩, ⟨5, .chain⟩, ⟨5, .guard⟩], some (5, true)⟩ hHeld ?_ (v := undef) (hy := Or.inr ⟨by rfl, rfl⟩)
 refine tkH 10 ⟨some 17, .pick (.tmp 12) (.tmp 16) (.const (.bool false)), 4, "plate.go:97", #[⟨5, .data⟩, ⟨9, .data⟩], none⟩ hHeld ?_
 refine tkH 11 ⟨some 18, .move (.tmp 17), 4, "plate.go:97", #[⟨10, .data⟩, ⟨9, .chain⟩], none⟩ hHeld ?_
 refine tkH 12 ⟨some 19, .load 143 (.tmp 3), 143, "plate.go:97", #[⟨11, .guard⟩], some (11, true)⟩ hHeld ?_ (v := undef) (hy := Or.inr ⟨by rfl, rfl⟩)
 refine tkH 13 ⟨some 20, .move (.tmp 1), 3, "plate.go:97", #[⟨11, .guard⟩], some (11, true)⟩ hHeld ?_ (v := undef) (hy := Or.inr ⟨by rfl, rfl⟩)
 refine tkH 14 ⟨some 21, .move (.tmp 2), 3, "plate.go:97", #[⟨11, .guard⟩], some (11, true)⟩ hHeld ?_ (v := undef) (hy := Or.inr ⟨by rfl, rfl⟩)
 refine tkH 15 ⟨some 22, .call { callee := .value (.func 205), args := #[.tmp 19, .tmp 20, .tmp 21], argTypes := #[143, 3, 3] }, 4, "plate.go:97", #[⟨12, .data⟩, ⟨13, .data⟩, ⟨14, .data⟩, ⟨11, .chain⟩, ⟨11, .guard⟩], some (11, true)⟩ hHeld ?_ (v := undef) (hy := Or.inr ⟨by rfl, rfl⟩)
 refine tkH 16 ⟨some 23, .unOp .not 4 (.tmp 22), 4, "plate.go:97", #[⟨15, .data⟩, ⟨11, .guard⟩], some (11, true)⟩ hHeld ?_ (v := undef) (hy := Or.inr ⟨by rfl, rfl⟩)
 refine tkH 17 ⟨some 24, .pick (.tmp 18) (.tmp 23) (.const (.bool false)), 4, "plate.go:97", #[⟨11, .data⟩, ⟨16, .data⟩], none⟩ hHeld ?_
 refine tkH 18 ⟨some 25, .move (.tmp 24), 4, "plate.go:97", #[⟨17, .data⟩, ⟨15, .chain⟩], none⟩ hHeld ?_
 refine tkH 19 ⟨some 26, .load 143 (.tmp 3), 143, "plate.go:97", #[⟨18, .guard⟩], some (18, true)⟩ hHeld ?_ (v := undef) (hy := Or.inr ⟨by rfl, rfl⟩)
 refine tkH 20 ⟨some 27, .move (.tmp 1), 3, "plate.go:97", #[⟨18, .guard⟩], some (18, true)⟩ hHeld ?_ (v := undef) (hy := Or.inr ⟨by rfl, rfl⟩)
 refine tkH 21 ⟨some 28, .move (.tmp 2), 3, "plate.go:97", #[⟨18, .guard⟩], some (18, true)⟩ hHeld ?_ (v := undef) (hy := Or.inr ⟨by rfl, rfl⟩)
 refine tkH 22 ⟨some 29, .call { callee := .value (.func 206), args := #[.tmp 26, .tmp 27, .tmp 28], argTypes := #[143, 3, 3] }, 3, "plate.go:97", #[⟨19, .data⟩, ⟨20, .data⟩, ⟨21, .data⟩, ⟨18, .chain⟩, ⟨18, .guard⟩], some (18, true)⟩ hHeld ?_ (v := undef) (hy := Or.inr ⟨by rfl, rfl⟩)
 refine tkH 23 ⟨some 30, .load 143 (.tmp 3), 143, "plate.go:97", #[⟨18, .guard⟩], some (18, true)⟩ hHeld ?_ (v := undef) (hy := Or.inr ⟨by rfl, rfl⟩)
 refine tkH 24 ⟨some 31, .move (.tmp 1), 3, "plate.go:97", #[⟨18, .guard⟩], some (18, true)⟩ hHeld ?_ (v := undef) (hy := Or.inr ⟨by rfl, rfl⟩)
 refine tkH 25 ⟨some 32, .move (.tmp 2), 3, "plate.go:97", #[⟨18, .guard⟩], some (18, true)⟩ hHeld ?_ (v := undef) (hy := Or.inr ⟨by rfl, rfl⟩)
 refine tkH 26 ⟨some 33, .call { callee := .value (.func 202), args := #[.tmp 30, .tmp 31, .tmp 32], argTypes := #[143, 3, 3] }, 3, "plate.go:97", #[⟨23, .data⟩, ⟨24, .data⟩, ⟨25, .data⟩, ⟨22, .chain⟩, ⟨18, .guard⟩], some (18, true)⟩ hHeld ?_ (v := undef) (hy := Or.inr ⟨by rfl, rfl⟩)
 refine tkH 27 ⟨some 34, .fieldAddr 143 (.tmp 3) 0, 0, "plate.go:97", #[⟨18, .guard⟩], some (18, true)⟩ hHeld ?_ (v := undef) (hy := Or.inr ⟨by rfl, rfl⟩)
 refine tkH 28 ⟨some 35, .fieldAddr 79 (.tmp 34) 3, 0, "plate.go:97", #[⟨27, .data⟩, ⟨18, .guard⟩], some (18, true)⟩ hHeld ?_ (v := undef) (hy := Or.inr ⟨by rfl, rfl⟩)
 refine tkH 29 ⟨some 36, .load 3 (.tmp 35), 3, "plate.go:97", #[⟨28, .data⟩, ⟨18, .guard⟩], some (18, true)⟩ hHeld ?_ (v := undef) (hy := Or.inr ⟨by rfl, rfl⟩)
 refine tkH 30 ⟨some 37, .binOp .add 3 (.tmp 33) (.tmp 36) 3, 3, "plate.go:97", #[⟨26, .data⟩, ⟨29, .data⟩, ⟨18, .guard⟩], some (18, true)⟩ hHeld ?_ (v := undef) (hy := Or.inr ⟨by rfl, rfl⟩)
 refine tkH 31 ⟨some 38, .call { callee := .value (.func 207), args := #[.tmp 37], argTypes := #[3] }, 3, "plate.go:97", #[⟨30, .data⟩, ⟨26, .chain⟩, ⟨18, .guard⟩], some (18, true)⟩ hHeld ?_ (v := undef) (hy := Or.inr ⟨by rfl, rfl⟩)
 refine tkH 32 ⟨some 39, .binOp .lss 3 (.tmp 29) (.tmp 38) 3, 4, "plate.go:97", #[⟨22, .data⟩, ⟨31, .data⟩, ⟨18, .guard⟩], some (18, true)⟩ hHeld ?_ (v := undef) (hy := Or.inr ⟨by rfl, rfl⟩)
 refine tkH 33 ⟨some 40, .pick (.tmp 25) (.tmp 39) (.const (.bool false)), 4, "plate.go:97", #[⟨18, .data⟩, ⟨32, .data⟩], none⟩ hHeld ?_
 refine tkH 34 ⟨some 6, .assign (.tmp 40), 4, "plate.go:97", #[⟨33, .data⟩, ⟨31, .chain⟩, ⟨0, .phase⟩, ⟨1, .phase⟩, ⟨2, .phase⟩, ⟨3, .phase⟩, ⟨4, .phase⟩, ⟨5, .phase⟩, ⟨6, .phase⟩, ⟨7, .phase⟩, ⟨8, .phase⟩, ⟨9, .phase⟩, ⟨10, .phase⟩, ⟨11, .phase⟩, ⟨12, .phase⟩, ⟨13, .phase⟩, ⟨14, .phase⟩, ⟨15, .phase⟩, ⟨16, .phase⟩, ⟨17, .phase⟩, ⟨18, .phase⟩, ⟨19, .phase⟩, ⟨20, .phase⟩, ⟨21, .phase⟩, ⟨22, .phase⟩, ⟨23, .phase⟩, ⟨24, .phase⟩, ⟨25, .phase⟩, ⟨26, .phase⟩, ⟨27, .phase⟩, ⟨28, .phase⟩, ⟨29, .phase⟩, ⟨30, .phase⟩, ⟨31, .phase⟩, ⟨32, .phase⟩, ⟨33, .phase⟩], none⟩ hHeld ?_
 refine wpAnyH_done (by kernel_rfl) ?_ _
 refine NoPanic.normal ?_
 go_wp2_with fail
 go_ret
 exact ⟨rfl, fr_call hb0 hbz⟩
set_option maxRecDepth 100000 in
set_option maxHeartbeats 16000000 in
theorem touch_level (pw ph pp pg po : Int) (A B M : Option Addr) (n nc m mc k kc a b l : Nat) (gn : Value) (L : List (Int × Int)) (ws : List PWh) (cs : List PPt) (w : World) (hM : MapM w l L) (hA : RdS w A 2 (cs.map PPt.cells)) (hn : cs.length = n) (hB : RdS w B 4 (ws.map PWh.cells)) (hm : ws.length = m) (hal : a ≤ b) (ha : a < m) (hb : b < m) (x y : PWh) (hx : ws[a]? = some x) (hy : ws[b]? = some y)
  (p q : Nat) (hp : x.centre = (p : Int)) (hq : y.centre = (q : Int)) (c d : PPt) (hc : cs[p]? = some c) (hd : cs[q]? = some d) (hco : PtOk c) (hdo : PtOk d) (ht : (0 ≤ x.teeth ∧ x.teeth ≤ 50) ∧ 0 ≤ y.teeth ∧ y.teeth ≤ 50) (hno : L.contains ((a : Int), (b : Int)) = false) (hll : x.layer ≠ y.layer) :
  Calls Tryz.prog 146 #[.agg #[.int .i64 pw, .int .i64 ph, .int .i64 pp, .int .i64 pg, .int .i64 po, .slice A n nc, .slice B m mc, .slice M k kc, .map (some l), gn], .int .i64 a, .int .i64 b] w fun e w' => e = .returned (.bool false) ∧ Below w.heap.size w w' := by
 have hb0 := fr_alloc (fr_refl w) (.cells #[.int .i64 pw, .int .i64 ph, .int .i64 pp, .int .i64 pg, .int .i64 po, .slice A n nc, .slice B m mc, .slice M k kc, .map (some l), gn] 143)
 have hX := Blk.new w 143 #[.int .i64 pw, .int .i64 ph, .int .i64 pp, .int .i64 pg, .int .i64 po, .slice A n nc, .slice B m mc, .slice M k kc, .map (some l), gn]
 obtain ⟨w1, hw1⟩ : ∃ w1, w.alloc (.cells #[.int .i64 pw, .int .i64 ph, .int .i64 pp, .int .i64 pg, .int .i64 po, .slice A n nc, .slice B m mc, .slice M k kc, .map (some l), gn] 143) = w1 := ⟨_, rfl⟩
 rw [hw1] at hb0 hX
 have hme := fun W (h : Below w1.heap.size w1 W) (bb : Bool) (hbb : L.contains ((a : Int), (b : Int)) = bb) => mesh_is pw ph pp pg po A B M n nc m mc k kc a b l gn L W ((hM.keep hb0).keep h) hal bb hbb
 have hle := fun W (h : Below w1.heap.size w1 W) => level_is pw ph pp pg po A B M n nc m mc k kc a b (.map (some l)) gn ws W ((hB.keep hb0).keep h) hm ha hb x y hx hy
 have hce := fun W (h : Below w1.heap.size w1 W) => centred_is pw ph pp pg po A B M n nc m mc k kc a b (.map (some l)) gn ws W ((hB.keep hb0).keep h) hm ha hb x y hx hy
 have hsu := fun W (h : Below w1.heap.size w1 W) => lsum_is pw ph pp pg po A B M n nc m mc k kc a b (.map (some l)) gn ws W ((hB.keep hb0).keep h) hm ha hb x y hx hy ht
 have hfa := fun W (h : Below w1.heap.size w1 W) => far_is pw ph pp pg po A B M n nc m mc k kc a b (.map (some l)) gn ws cs W ((hA.keep hb0).keep h) hn ((hB.keep hb0).keep h) hm ha hb x y hx hy p q hp hq c d hc hd hco hdo
 have hlX := hX.lt
 have hcX := fun j => hX.cell j
 have hkS : ∀ W, Below w1.heap.size w1 W → (∀ j, W.cell? ⟨w.heap.size, j, none⟩ = (#[.int .i64 pw, .int .i64 ph, .int .i64 pp, .int .i64 pg, .int .i64 po, .slice A n nc, .slice B m mc, .slice M k kc, .map (some l), gn] : Array Value)[j]?) := fun W hb => fun j => (hX.keep hb).cell j
 replace hme := fun W h => hme W h false hno
 rw [show (x.layer == y.layer) = false from beq_eq_false_iff_ne.2 hll] at hle
 clear hno hll hce
 clear hM hA hB hx hy hc hd hp hq hX hco hdo hn hm ha hb hal
 clear hsu hfa ht hcX
 go_enter Tryz.func146, Tryz.ntmps146
 go_upto_region 1 with (fail)
 (try rw [hw1])
 clear hw1
 refine wp_region_noPanic ?_
 have hbz := fr_drew (fr_refl w1)
 refine wp_region_held_drew (S := fun W => (∀ j, W.cell? ⟨w.heap.size, j, none⟩ = (#[.int .i64 pw, .int .i64 ph, .int .i64 pp, .int .i64 pg, .int .i64 po, .slice A n nc, .slice B m mc, .slice M k kc, .map (some l), gn] : Array Value)[j]?)) (by kernel_rfl) (hkS _ hbz) (fun hHeld => ?_)
 generalize w1.drew = wz at hbz hHeld ⊢
 -- the region, step by step, in whatever order
 refine tkH 0 ⟨some 7, .load 143 (.tmp 3), 143, "plate.go:97", #[], none⟩ hHeld ?_
 refine tkH 1 ⟨some 8, .move (.tmp 1), 3, "plate.go:97", #[], none⟩ hHeld ?_
 refine tkH 2 ⟨some 9, .move (.tmp 2), 3, "plate.go:97", #[], none⟩ hHeld ?_
 refine rdH 3 ⟨some 10, .call { callee := .value (.func 203), args := #[.tmp 7, .tmp 8, .tmp 9], argTypes := #[143, 3, 3] }, 4, "plate.go:97", #[⟨0, .data⟩, ⟨1, .data⟩, ⟨2, .data⟩], none⟩ fun K hK => ?_
 go_simp
 refine (hme _ hbz).mono ?_
 rintro e' wz ⟨rfl, hb1⟩
 replace hbz := fr_call hbz hb1
 refine hK.out _ _ (hkS _ hbz) (fun hHeld => ?_)
 clear hK K
 (try simp only [Act.put, List.setIfInBounds_toArray, List.set_cons_zero, List.set_cons_succ])
 refine tkH 4 ⟨some 11, .unOp .not 4 (.tmp 10), 4, "plate.go:97", #[⟨3, .data⟩], none⟩ hHeld ?_
 refine tkH 5 ⟨some 12, .move (.tmp 11), 4, "plate.go:97", #[⟨4, .data⟩, ⟨3, .chain⟩], none⟩ hHeld ?_
 refine tkH 6 ⟨some 13, .load 143 (.tmp 3), 143, "plate.go:97", #[⟨5, .guard⟩], some (5, true)⟩ hHeld ?_
 refine tkH 7 ⟨some 14, .move (.tmp 1), 3, "plate.go:97", #[⟨5, .guard⟩], some (5, true)⟩ hHeld ?_
 refine tkH 8 ⟨some 15, .move (.tmp 2), 3, "plate.go:97", #[⟨5, .guard⟩], some (5, true)⟩ hHeld ?_
 refine rdH 9 ⟨some 16, .call { callee := .value (.func 204), args := #[.tmp 13, .tmp 14, .tmp 15], argTypes := #[143, 3, 3] }, 4, "plate.go:97", #[⟨6, .data⟩, ⟨7, .data⟩, ⟨8, .data⟩, ⟨5, .chain⟩, ⟨5, .guard⟩], some (5, true)⟩ fun K hK => ?_
 go_simp
 refine (hle _ hbz).mono ?_
 rintro e' wz ⟨rfl, hb1⟩
 replace hbz := fr_call hbz hb1
 refine hK.out _ _ (hkS _ hbz) (fun hHeld => ?_)
 clear hK K
 (try simp only [Act.put, List.setIfInBounds_toArray, List.set_cons_zero, List.set_cons_succ])
 refine tkH 10 ⟨some 17, .pick (.tmp 12) (.tmp 16) (.const (.bool false)), 4, "plate.go:97", #[⟨5, .data⟩, ⟨9, .data⟩], none⟩ hHeld ?_
 refine tkH 11 ⟨some 18, .move (.tmp 17), 4, "plate.go:97", #[⟨10, .data⟩, ⟨9, .chain⟩], none⟩ hHeld ?_
 refine tkH 12 ⟨some 19, .load 143 (.tmp 3), 143, "plate.go:97", #[⟨11, .guard⟩], some (11, true)⟩ hHeld ?_ (v := undef) (hy := Or.inr ⟨by rfl, rfl⟩)
 refine tkH 13 ⟨some 20, .move (.tmp 1), 3, "plate.go:97", #[⟨11, .guard⟩], some (11, true)⟩ hHeld ?_ (v := undef) (hy := Or.inr ⟨by rfl, rfl⟩)
 refine tkH 14 ⟨some 21, .move (.tmp 2), 3, "plate.go:97", #[⟨11, .guard⟩], some (11, true)⟩ hHeld ?_ (v := undef) (hy := Or.inr ⟨by rfl, rfl⟩)
 refine tkH 15 ⟨some 22, .call { callee := .value (.func 205), args := #[.tmp 19, .tmp 20, .tmp 21], argTypes := #[143, 3, 3] }, 4, "plate.go:97", #[⟨12, .data⟩, ⟨13, .data⟩, ⟨14, .data⟩, ⟨11, .chain⟩, ⟨11, .guard⟩], some (11, true)⟩ hHeld ?_ (v := undef) (hy := Or.inr ⟨by rfl, rfl⟩)
 refine tkH 16 ⟨some 23, .unOp .not 4 (.tmp 22), 4, "plate.go:97", #[⟨15, .data⟩, ⟨11, .guard⟩], some (11, true)⟩ hHeld ?_ (v := undef) (hy := Or.inr ⟨by rfl, rfl⟩)
 refine tkH 17 ⟨some 24, .pick (.tmp 18) (.tmp 23) (.const (.bool false)), 4, "plate.go:97", #[⟨11, .data⟩, ⟨16, .data⟩], none⟩ hHeld ?_
 refine tkH 18 ⟨some 25, .move (.tmp 24), 4, "plate.go:97", #[⟨17, .data⟩, ⟨15, .chain⟩], none⟩ hHeld ?_
 refine tkH 19 ⟨some 26, .load 143 (.tmp 3), 143, "plate.go:97", #[⟨18, .guard⟩], some (18, true)⟩ hHeld ?_ (v := undef) (hy := Or.inr ⟨by rfl, rfl⟩)
 refine tkH 20 ⟨some 27, .move (.tmp 1), 3, "plate.go:97", #[⟨18, .guard⟩], some (18, true)⟩ hHeld ?_ (v := undef) (hy := Or.inr ⟨by rfl, rfl⟩)
 refine tkH 21 ⟨some 28, .move (.tmp 2), 3, "plate.go:97", #[⟨18, .guard⟩], some (18, true)⟩ hHeld ?_ (v := undef) (hy := Or.inr ⟨by rfl, rfl⟩)
 refine tkH 22 ⟨some 29, .call { callee := .value (.func 206), args := #[.tmp 26, .tmp 27, .tmp 28], argTypes := #[143, 3, 3] }, 3, "plate.go:97", #[⟨19, .data⟩, ⟨20, .data⟩, ⟨21, .data⟩, ⟨18, .chain⟩, ⟨18, .guard⟩], some (18, true)⟩ hHeld ?_ (v := undef) (hy := Or.inr ⟨by rfl, rfl⟩)
 refine tkH 23 ⟨some 30, .load 143 (.tmp 3), 143, "plate.go:97", #[⟨18, .guard⟩], some (18, true)⟩ hHeld ?_ (v := undef) (hy := Or.inr ⟨by rfl, rfl⟩)
 refine tkH 24 ⟨some 31, .move (.tmp 1), 3, "plate.go:97", #[⟨18, .guard⟩], some (18, true)⟩ hHeld ?_ (v := undef) (hy := Or.inr ⟨by rfl, rfl⟩)
 refine tkH 25 ⟨some 32, .move (.tmp 2), 3, "plate.go:97", #[⟨18, .guard⟩], some (18, true)⟩ hHeld ?_ (v := undef) (hy := Or.inr ⟨by rfl, rfl⟩)
 refine tkH 26 ⟨some 33, .call { callee := .value (.func 202), args := #[.tmp 30, .tmp 31, .tmp 32], argTypes := #[143, 3, 3] }, 3, "plate.go:97", #[⟨23, .data⟩, ⟨24, .data⟩, ⟨25, .data⟩, ⟨22, .chain⟩, ⟨18, .guard⟩], some (18, true)⟩ hHeld ?_ (v := undef) (hy := Or.inr ⟨by rfl, rfl⟩)
 refine tkH 27 ⟨some 34, .fieldAddr 143 (.tmp 3) 0, 0, "plate.go:97", #[⟨18, .guard⟩], some (18, true)⟩ hHeld ?_ (v := undef) (hy := Or.inr ⟨by rfl, rfl⟩)
 refine tkH 28 ⟨some 35, .fieldAddr 79 (.tmp 34) 3, 0, "plate.go:97", #[⟨27, .data⟩, ⟨18, .guard⟩], some (18, true)⟩ hHeld ?_ (v := undef) (hy := Or.inr ⟨by rfl, rfl⟩)
 refine tkH 29 ⟨some 36, .load 3 (.tmp 35), 3, "plate.go:97", #[⟨28, .data⟩, ⟨18, .guard⟩], some (18, true)⟩ hHeld ?_ (v := undef) (hy := Or.inr ⟨by rfl, rfl⟩)
 refine tkH 30 ⟨some 37, .binOp .add 3 (.tmp 33) (.tmp 36) 3, 3, "plate.go:97", #[⟨26, .data⟩, ⟨29, .data⟩, ⟨18, .guard⟩], some (18, true)⟩ hHeld ?_ (v := undef) (hy := Or.inr ⟨by rfl, rfl⟩)
 refine tkH 31 ⟨some 38, .call { callee := .value (.func 207), args := #[.tmp 37], argTypes := #[3] }, 3, "plate.go:97", #[⟨30, .data⟩, ⟨26, .chain⟩, ⟨18, .guard⟩], some (18, true)⟩ hHeld ?_ (v := undef) (hy := Or.inr ⟨by rfl, rfl⟩)
 refine tkH 32 ⟨some 39, .binOp .lss 3 (.tmp 29) (.tmp 38) 3, 4, "plate.go:97", #[⟨22, .data⟩, ⟨31, .data⟩, ⟨18, .guard⟩], some (18, true)⟩ hHeld ?_ (v := undef) (hy := Or.inr ⟨by rfl, rfl⟩)
 refine tkH 33 ⟨some 40, .pick (.tmp 25) (.tmp 39) (.const (.bool false)), 4, "plate.go:97", #[⟨18, .data⟩, ⟨32, .data⟩], none⟩ hHeld ?_
 refine tkH 34 ⟨some 6, .assign (.tmp 40), 4, "plate.go:97", #[⟨33, .data⟩, ⟨31, .chain⟩, ⟨0, .phase⟩, ⟨1, .phase⟩, ⟨2, .phase⟩, ⟨3, .phase⟩, ⟨4, .phase⟩, ⟨5, .phase⟩, ⟨6, .phase⟩, ⟨7, .phase⟩, ⟨8, .phase⟩, ⟨9, .phase⟩, ⟨10, .phase⟩, ⟨11, .phase⟩, ⟨12, .phase⟩, ⟨13, .phase⟩, ⟨14, .phase⟩, ⟨15, .phase⟩, ⟨16, .phase⟩, ⟨17, .phase⟩, ⟨18, .phase⟩, ⟨19, .phase⟩, ⟨20, .phase⟩, ⟨21, .phase⟩, ⟨22, .phase⟩, ⟨23, .phase⟩, ⟨24, .phase⟩, ⟨25, .phase⟩, ⟨26, .phase⟩, ⟨27, .phase⟩, ⟨28, .phase⟩, ⟨29, .phase⟩, ⟨30, .phase⟩, ⟨31, .phase⟩, ⟨32, .phase⟩, ⟨33, .phase⟩], none⟩ hHeld ?_
 refine wpAnyH_done (by kernel_rfl) ?_ _
 refine NoPanic.normal ?_
 go_wp2_with fail
 go_ret
 exact ⟨rfl, fr_call hb0 hbz⟩
end Go.Proofs.YtdocgmafbacjcaaGreatDoor
