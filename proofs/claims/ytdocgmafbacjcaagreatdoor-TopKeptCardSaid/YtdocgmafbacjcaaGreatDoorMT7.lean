/- Walk, package plate: what is wrong with two wheels. Ported by port.py: Walk, package train: gcd, reduced, product. Append to a row of the call's own: the new row is the old one, or lies behind all that lay. Package train: product. Walk, package train: turns. Walk: the train of some teeth. Walk, package train: isTrain, Turns; package guess: what teeth turn the hand by. A region that draws its order, in a round of a range over a function: shown as outside of it. -/
import Derived.Test.YtdocgmafbacjcaaGreatDoorMT6
import Derived.Test.YtdocgmafbacjcaaGreatDoorMT5
import Derived.Test.YtdocgmafbacjcaaGreatDoorMT3
import Derived.OrdersHeld
import Derived.Deep.RegionHeld
import Derived.OrdersIn
section
namespace Go.Proofs.YtdocgmafbacjcaaGreatDoor
open Go.RowKit
attribute [local go_sem] Oper.semAt_some

def kindN (r0 r1 r2 r3 r4 : Bool) : Int := if r0 = true then 2 else if r1 = true then 3 else if r2 = true then 4 else if r3 = true then 5 else if r4 = true then 6 else 0
set_option maxRecDepth 100000 in
set_option maxHeartbeats 16000000 in
theorem wrong_pair (pw ph pp pg po : Int) (A B M : Option Addr) (n nc m mc k kc a b : Nat) (mp gn : Value) (w : World) (hab : a ≠ b) (r0 r1 r2 r3 r4 : Bool) (h0 : ∀ W, Below w.heap.size w W → Calls Tryz.prog 145 #[.agg #[.int .i64 pw, .int .i64 ph, .int .i64 pp, .int .i64 pg, .int .i64 po, .slice A n nc, .slice B m mc, .slice M k kc, mp, gn], .int .i64 a, .int .i64 b] W fun e w' => e = .returned (.bool r0) ∧ Below W.heap.size W w') (h1 : ∀ W, Below w.heap.size w W → Calls Tryz.prog 146 #[.agg #[.int .i64 pw, .int .i64 ph, .int .i64 pp, .int .i64 pg, .int .i64 po, .slice A n nc, .slice B m mc, .slice M k kc, mp, gn], .int .i64 a, .int .i64 b] W fun e w' => e = .returned (.bool r1) ∧ Below W.heap.size W w') (h2 : ∀ W, Below w.heap.size w W → Calls Tryz.prog 147 #[.agg #[.int .i64 pw, .int .i64 ph, .int .i64 pp, .int .i64 pg, .int .i64 po, .slice A n nc, .slice B m mc, .slice M k kc, mp, gn], .int .i64 a, .int .i64 b] W fun e w' => e = .returned (.bool r2) ∧ Below W.heap.size W w') (h3 : ∀ W, Below w.heap.size w W → Calls Tryz.prog 148 #[.agg #[.int .i64 pw, .int .i64 ph, .int .i64 pp, .int .i64 pg, .int .i64 po, .slice A n nc, .slice B m mc, .slice M k kc, mp, gn], .int .i64 a, .int .i64 b] W fun e w' => e = .returned (.bool r3) ∧ Below W.heap.size W w') (h4 : ∀ W, Below w.heap.size w W → Calls Tryz.prog 149 #[.agg #[.int .i64 pw, .int .i64 ph, .int .i64 pp, .int .i64 pg, .int .i64 po, .slice A n nc, .slice B m mc, .slice M k kc, mp, gn], .int .i64 a, .int .i64 b] W fun e w' => e = .returned (.bool r4) ∧ Below W.heap.size W w') :
  Calls Tryz.prog 82 #[.agg #[.int .i64 pw, .int .i64 ph, .int .i64 pp, .int .i64 pg, .int .i64 po, .slice A n nc, .slice B m mc, .slice M k kc, mp, gn], .int .i64 a, .int .i64 b] w fun e w' => e = .returned (.int .i64 (kindN r0 r1 r2 r3 r4)) ∧ Below w.heap.size w w' := by
 have hmf : ∀ (fn : Fn) (first cap : Array Value) (w : World), (Instr.makeFunc fn first cap).run Tryz.prog w = .ok (.func fn first cap) w := fun _ _ _ _ => rfl
 have hix0 : ∀ w : World, (Instr.index 233 (.agg #[.func (.func 145) #[.agg #[.int .i64 pw, .int .i64 ph, .int .i64 pp, .int .i64 pg, .int .i64 po, .slice A n nc, .slice B m mc, .slice M k kc, mp, gn]] #[], .func (.func 146) #[.agg #[.int .i64 pw, .int .i64 ph, .int .i64 pp, .int .i64 pg, .int .i64 po, .slice A n nc, .slice B m mc, .slice M k kc, mp, gn]] #[], .func (.func 147) #[.agg #[.int .i64 pw, .int .i64 ph, .int .i64 pp, .int .i64 pg, .int .i64 po, .slice A n nc, .slice B m mc, .slice M k kc, mp, gn]] #[], .func (.func 148) #[.agg #[.int .i64 pw, .int .i64 ph, .int .i64 pp, .int .i64 pg, .int .i64 po, .slice A n nc, .slice B m mc, .slice M k kc, mp, gn]] #[], .func (.func 149) #[.agg #[.int .i64 pw, .int .i64 ph, .int .i64 pp, .int .i64 pg, .int .i64 po, .slice A n nc, .slice B m mc, .slice M k kc, mp, gn]] #[]]) (.int .i64 0)).run Tryz.prog w = .ok (.func (.func 145) #[.agg #[.int .i64 pw, .int .i64 ph, .int .i64 pp, .int .i64 pg, .int .i64 po, .slice A n nc, .slice B m mc, .slice M k kc, mp, gn]] #[]) w := fun _ => by kernel_rfl
 have hix1 : ∀ w : World, (Instr.index 233 (.agg #[.func (.func 145) #[.agg #[.int .i64 pw, .int .i64 ph, .int .i64 pp, .int .i64 pg, .int .i64 po, .slice A n nc, .slice B m mc, .slice M k kc, mp, gn]] #[], .func (.func 146) #[.agg #[.int .i64 pw, .int .i64 ph, .int .i64 pp, .int .i64 pg, .int .i64 po, .slice A n nc, .slice B m mc, .slice M k kc, mp, gn]] #[], .func (.func 147) #[.agg #[.int .i64 pw, .int .i64 ph, .int .i64 pp, .int .i64 pg, .int .i64 po, .slice A n nc, .slice B m mc, .slice M k kc, mp, gn]] #[], .func (.func 148) #[.agg #[.int .i64 pw, .int .i64 ph, .int .i64 pp, .int .i64 pg, .int .i64 po, .slice A n nc, .slice B m mc, .slice M k kc, mp, gn]] #[], .func (.func 149) #[.agg #[.int .i64 pw, .int .i64 ph, .int .i64 pp, .int .i64 pg, .int .i64 po, .slice A n nc, .slice B m mc, .slice M k kc, mp, gn]] #[]]) (.int .i64 1)).run Tryz.prog w = .ok (.func (.func 146) #[.agg #[.int .i64 pw, .int .i64 ph, .int .i64 pp, .int .i64 pg, .int .i64 po, .slice A n nc, .slice B m mc, .slice M k kc, mp, gn]] #[]) w := fun _ => by kernel_rfl
 have hix2 : ∀ w : World, (Instr.index 233 (.agg #[.func (.func 145) #[.agg #[.int .i64 pw, .int .i64 ph, .int .i64 pp, .int .i64 pg, .int .i64 po, .slice A n nc, .slice B m mc, .slice M k kc, mp, gn]] #[], .func (.func 146) #[.agg #[.int .i64 pw, .int .i64 ph, .int .i64 pp, .int .i64 pg, .int .i64 po, .slice A n nc, .slice B m mc, .slice M k kc, mp, gn]] #[], .func (.func 147) #[.agg #[.int .i64 pw, .int .i64 ph, .int .i64 pp, .int .i64 pg, .int .i64 po, .slice A n nc, .slice B m mc, .slice M k kc, mp, gn]] #[], .func (.func 148) #[.agg #[.int .i64 pw, .int .i64 ph, .int .i64 pp, .int .i64 pg, .int .i64 po, .slice A n nc, .slice B m mc, .slice M k kc, mp, gn]] #[], .func (.func 149) #[.agg #[.int .i64 pw, .int .i64 ph, .int .i64 pp, .int .i64 pg, .int .i64 po, .slice A n nc, .slice B m mc, .slice M k kc, mp, gn]] #[]]) (.int .i64 2)).run Tryz.prog w = .ok (.func (.func 147) #[.agg #[.int .i64 pw, .int .i64 ph, .int .i64 pp, .int .i64 pg, .int .i64 po, .slice A n nc, .slice B m mc, .slice M k kc, mp, gn]] #[]) w := fun _ => by kernel_rfl
 have hix3 : ∀ w : World, (Instr.index 233 (.agg #[.func (.func 145) #[.agg #[.int .i64 pw, .int .i64 ph, .int .i64 pp, .int .i64 pg, .int .i64 po, .slice A n nc, .slice B m mc, .slice M k kc, mp, gn]] #[], .func (.func 146) #[.agg #[.int .i64 pw, .int .i64 ph, .int .i64 pp, .int .i64 pg, .int .i64 po, .slice A n nc, .slice B m mc, .slice M k kc, mp, gn]] #[], .func (.func 147) #[.agg #[.int .i64 pw, .int .i64 ph, .int .i64 pp, .int .i64 pg, .int .i64 po, .slice A n nc, .slice B m mc, .slice M k kc, mp, gn]] #[], .func (.func 148) #[.agg #[.int .i64 pw, .int .i64 ph, .int .i64 pp, .int .i64 pg, .int .i64 po, .slice A n nc, .slice B m mc, .slice M k kc, mp, gn]] #[], .func (.func 149) #[.agg #[.int .i64 pw, .int .i64 ph, .int .i64 pp, .int .i64 pg, .int .i64 po, .slice A n nc, .slice B m mc, .slice M k kc, mp, gn]] #[]]) (.int .i64 3)).run Tryz.prog w = .ok (.func (.func 148) #[.agg #[.int .i64 pw, .int .i64 ph, .int .i64 pp, .int .i64 pg, .int .i64 po, .slice A n nc, .slice B m mc, .slice M k kc, mp, gn]] #[]) w := fun _ => by kernel_rfl
 have hix4 : ∀ w : World, (Instr.index 233 (.agg #[.func (.func 145) #[.agg #[.int .i64 pw, .int .i64 ph, .int .i64 pp, .int .i64 pg, .int .i64 po, .slice A n nc, .slice B m mc, .slice M k kc, mp, gn]] #[], .func (.func 146) #[.agg #[.int .i64 pw, .int .i64 ph, .int .i64 pp, .int .i64 pg, .int .i64 po, .slice A n nc, .slice B m mc, .slice M k kc, mp, gn]] #[], .func (.func 147) #[.agg #[.int .i64 pw, .int .i64 ph, .int .i64 pp, .int .i64 pg, .int .i64 po, .slice A n nc, .slice B m mc, .slice M k kc, mp, gn]] #[], .func (.func 148) #[.agg #[.int .i64 pw, .int .i64 ph, .int .i64 pp, .int .i64 pg, .int .i64 po, .slice A n nc, .slice B m mc, .slice M k kc, mp, gn]] #[], .func (.func 149) #[.agg #[.int .i64 pw, .int .i64 ph, .int .i64 pp, .int .i64 pg, .int .i64 po, .slice A n nc, .slice B m mc, .slice M k kc, mp, gn]] #[]]) (.int .i64 4)).run Tryz.prog w = .ok (.func (.func 149) #[.agg #[.int .i64 pw, .int .i64 ph, .int .i64 pp, .int .i64 pg, .int .i64 po, .slice A n nc, .slice B m mc, .slice M k kc, mp, gn]] #[]) w := fun _ => by kernel_rfl
 have hb0 := fr_alloc (fr_refl w) (.cells #[.int .i64 pw, .int .i64 ph, .int .i64 pp, .int .i64 pg, .int .i64 po, .slice A n nc, .slice B m mc, .slice M k kc, mp, gn] 143)
 have hX := Blk.new w 143 #[.int .i64 pw, .int .i64 ph, .int .i64 pp, .int .i64 pg, .int .i64 po, .slice A n nc, .slice B m mc, .slice M k kc, mp, gn]
 obtain ⟨w1, hw1⟩ : ∃ w1, w.alloc (.cells #[.int .i64 pw, .int .i64 ph, .int .i64 pp, .int .i64 pg, .int .i64 po, .slice A n nc, .slice B m mc, .slice M k kc, mp, gn] 143) = w1 := ⟨_, rfl⟩
 rw [hw1] at hb0 hX
 have hlX := hX.lt
 have hcX := fun j => hX.cell j
 have q0 : ((a : Int) == (b : Int)) = false := beq_eq_false_iff_ne.2 (by omega)
 clear hab
 go_enter Tryz.func82, Tryz.ntmps82
 go_upto_region 1 with (fail)
 (try rw [hw1])
 clear hw1 hX
 go_wp2_with fail
 go_loopw [26] (fun t wr => ∃ j : Nat, j ≤ 5 ∧ t = .int .i64 j ∧ Hid ((0 < j → r0 = false) ∧ (1 < j → r1 = false) ∧ (2 < j → r2 = false) ∧ (3 < j → r3 = false) ∧ (4 < j → r4 = false)) ∧ Below w1.heap.size w1 wr) (fun t _ => 5 - (intOf t).toNat)
 case atStart => exact ⟨0, Nat.zero_le _, rfl, Lib.hid (by refine ⟨?_, ?_, ?_, ?_, ?_⟩ <;> omega), fr_refl _⟩
 case round =>
  obtain ⟨j, hj, rfl, hall, hbr⟩ := hrel
  have h6 : j = 0 ∨ j = 1 ∨ j = 2 ∨ j = 3 ∨ j = 4 ∨ j = 5 := by omega
  rcases h6 with rfl | rfl | rfl | rfl | rfl | rfl
  ·have hc := h0 _ (fr_call hb0 hbr)
   cases e0 : r0
   ·rw [e0] at hc
    go_wp2_with fail
    refine hc.mono ?_
    rintro e' w3 ⟨rfl, hb3⟩
    go_wp2_with fail
    refine ⟨⟨1, by omega, rfl, Lib.hid (by have h := hall.out; refine ⟨fun _ => ?_, fun _ => ?_, fun _ => ?_, fun _ => ?_, fun _ => ?_⟩ <;> first | rfl | omega | assumption | (exact h.1 (by omega)) | (exact h.2.1 (by omega)) | (exact h.2.2.1 (by omega)) | (exact h.2.2.2.1 (by omega)) | (exact h.2.2.2.2 (by omega)) | trivial), fr_call hbr hb3⟩, ?_⟩
    simp [intOf]
   ·have HK := Lib.hid (show kindN r0 r1 r2 r3 r4 = 2 from by rw [kindN, e0]; rfl)
    rw [e0] at hc
    go_wp2_with fail
    refine hc.mono ?_
    rintro e' w3 ⟨rfl, hb3⟩
    go_wp2_with fail
    go_ret
    exact ⟨by rw [HK.out]; rfl, fr_call hb0 (fr_call hbr hb3)⟩
  ·have hc := h1 _ (fr_call hb0 hbr)
   cases e1 : r1
   ·rw [e1] at hc
    go_wp2_with fail
    refine hc.mono ?_
    rintro e' w3 ⟨rfl, hb3⟩
    go_wp2_with fail
    refine ⟨⟨2, by omega, rfl, Lib.hid (by have h := hall.out; refine ⟨fun _ => ?_, fun _ => ?_, fun _ => ?_, fun _ => ?_, fun _ => ?_⟩ <;> first | rfl | omega | assumption | (exact h.1 (by omega)) | (exact h.2.1 (by omega)) | (exact h.2.2.1 (by omega)) | (exact h.2.2.2.1 (by omega)) | (exact h.2.2.2.2 (by omega)) | trivial), fr_call hbr hb3⟩, ?_⟩
    simp [intOf]
   ·have HK := Lib.hid (show kindN r0 r1 r2 r3 r4 = 3 from by rw [kindN, hall.out.1 (by omega), e1]; rfl)
    rw [e1] at hc
    go_wp2_with fail
    refine hc.mono ?_
    rintro e' w3 ⟨rfl, hb3⟩
    go_wp2_with fail
    go_ret
    exact ⟨by rw [HK.out]; rfl, fr_call hb0 (fr_call hbr hb3)⟩
  ·have hc := h2 _ (fr_call hb0 hbr)
   cases e2 : r2
   ·rw [e2] at hc
    go_wp2_with fail
    refine hc.mono ?_
    rintro e' w3 ⟨rfl, hb3⟩
    go_wp2_with fail
    refine ⟨⟨3, by omega, rfl, Lib.hid (by have h := hall.out; refine ⟨fun _ => ?_, fun _ => ?_, fun _ => ?_, fun _ => ?_, fun _ => ?_⟩ <;> first | rfl | omega | assumption | (exact h.1 (by omega)) | (exact h.2.1 (by omega)) | (exact h.2.2.1 (by omega)) | (exact h.2.2.2.1 (by omega)) | (exact h.2.2.2.2 (by omega)) | trivial), fr_call hbr hb3⟩, ?_⟩
    simp [intOf]
   ·have HK := Lib.hid (show kindN r0 r1 r2 r3 r4 = 4 from by rw [kindN, hall.out.1 (by omega), hall.out.2.1 (by omega), e2]; rfl)
    rw [e2] at hc
    go_wp2_with fail
    refine hc.mono ?_
    rintro e' w3 ⟨rfl, hb3⟩
    go_wp2_with fail
    go_ret
    exact ⟨by rw [HK.out]; rfl, fr_call hb0 (fr_call hbr hb3)⟩
  ·have hc := h3 _ (fr_call hb0 hbr)
   cases e3 : r3
   ·rw [e3] at hc
    go_wp2_with fail
    refine hc.mono ?_
    rintro e' w3 ⟨rfl, hb3⟩
    go_wp2_with fail
    refine ⟨⟨4, by omega, rfl, Lib.hid (by have h := hall.out; refine ⟨fun _ => ?_, fun _ => ?_, fun _ => ?_, fun _ => ?_, fun _ => ?_⟩ <;> first | rfl | omega | assumption | (exact h.1 (by omega)) | (exact h.2.1 (by omega)) | (exact h.2.2.1 (by omega)) | (exact h.2.2.2.1 (by omega)) | (exact h.2.2.2.2 (by omega)) | trivial), fr_call hbr hb3⟩, ?_⟩
    simp [intOf]
   ·have HK := Lib.hid (show kindN r0 r1 r2 r3 r4 = 5 from by rw [kindN, hall.out.1 (by omega), hall.out.2.1 (by omega), hall.out.2.2.1 (by omega), e3]; rfl)
    rw [e3] at hc
    go_wp2_with fail
    refine hc.mono ?_
    rintro e' w3 ⟨rfl, hb3⟩
    go_wp2_with fail
    go_ret
    exact ⟨by rw [HK.out]; rfl, fr_call hb0 (fr_call hbr hb3)⟩
  ·have hc := h4 _ (fr_call hb0 hbr)
   cases e4 : r4
   ·rw [e4] at hc
    go_wp2_with fail
    refine hc.mono ?_
    rintro e' w3 ⟨rfl, hb3⟩
    go_wp2_with fail
    refine ⟨⟨5, by omega, rfl, Lib.hid (by have h := hall.out; refine ⟨fun _ => ?_, fun _ => ?_, fun _ => ?_, fun _ => ?_, fun _ => ?_⟩ <;> first | rfl | omega | assumption | (exact h.1 (by omega)) | (exact h.2.1 (by omega)) | (exact h.2.2.1 (by omega)) | (exact h.2.2.2.1 (by omega)) | (exact h.2.2.2.2 (by omega)) | trivial), fr_call hbr hb3⟩, ?_⟩
    simp [intOf]
   ·have HK := Lib.hid (show kindN r0 r1 r2 r3 r4 = 6 from by rw [kindN, hall.out.1 (by omega), hall.out.2.1 (by omega), hall.out.2.2.1 (by omega), hall.out.2.2.2.1 (by omega), e4]; rfl)
    rw [e4] at hc
    go_wp2_with fail
    refine hc.mono ?_
    rintro e' w3 ⟨rfl, hb3⟩
    go_wp2_with fail
    go_ret
    exact ⟨by rw [HK.out]; rfl, fr_call hb0 (fr_call hbr hb3)⟩
  ·have HK := Lib.hid (show kindN r0 r1 r2 r3 r4 = 0 from by rw [kindN, hall.out.1 (by omega), hall.out.2.1 (by omega), hall.out.2.2.1 (by omega), hall.out.2.2.2.1 (by omega), hall.out.2.2.2.2 (by omega)]; rfl)
   go_wp2_with fail
   go_ret
   exact ⟨by rw [HK.out]; rfl, fr_call hb0 hbr⟩
end Go.Proofs.YtdocgmafbacjcaaGreatDoor
end

section
namespace Go.Proofs.YtdocgmafbacjcaaGreatDoor

section
open Go.RowKit Go.Shelf

set_option maxHeartbeats 2000000 in
theorem gcd_is (a b : Nat) (w : World) (ha : a ≤ 1000000000) (hb : b ≤ 1000000000) :
  Calls Tryz.prog 230 #[.int .i64 a, .int .i64 b] w fun e w' => e = .returned (.int .i64 (Nat.gcd a b : Nat)) ∧ Below w.heap.size w w' := by
 go_enter Tryz.func230, Tryz.ntmps230
 go_wp2
 go_loopw [0, 1] (fun u v wr => ∃ x y : Nat, u = .int .i64 x ∧ v = .int .i64 y ∧ x ≤ 1000000000 ∧ y ≤ 1000000000 ∧ Nat.gcd x y = Nat.gcd a b ∧ Below w.heap.size w wr) (fun _ v _ => (intOf v).toNat)
 case atStart => exact ⟨a, b, rfl, rfl, ha, hb, rfl, fr_refl _⟩
 case round =>
  obtain ⟨x, y, rfl, rfl, hx, hy, hg, hbel⟩ := hrel
  have HG := Lib.hid hg
  clear hg
  by_cases h0 : y = 0
  ·subst h0
   go_wp2_with fail
   go_ret
   exact ⟨ret_int (by rw [← HG.out, Nat.gcd_zero_right]), hbel⟩
  ·have hp : (0 : Int) < (y : Int) := by omega
   have hp2 : decide ((0 : Int) < (y : Int)) = true := decide_eq_true hp
   have hne : ¬ (y : Int) = 0 := by omega
   have hm : (x : Int).tmod (y : Int) = ((x % y : Nat) : Int) := by rw [Int.tmod_eq_emod_of_nonneg (by omega)]; rfl
   have hlt : x % y < y := Nat.mod_lt _ (by omega)
   have hw1 : IntKind.i64.wrap ((x % y : Nat) : Int) = ((x % y : Nat) : Int) := IntWalk.i64_in _ (by omega)
   have hg2 : Nat.gcd y (x % y) = Nat.gcd x y := by rw [Nat.gcd_comm y, ← Nat.gcd_rec, Nat.gcd_comm]
   have HG2 := Lib.hid hg2
   obtain ⟨z, hz⟩ : ∃ z, x % y = z := ⟨_, rfl⟩
   rw [hz] at hm hlt hw1
   have HZ := Lib.hid hz
   clear hg2 h0 hz
   go_wp2_with fail
   go_quiet (fail)
   go_wp2_with fail
   go_roundw
   case rel => exact ⟨y, z, rfl, rfl, hy, by omega, by rw [← HZ.out, HG2.out, HG.out], fr_drewN hbel _⟩
   case measure => simp [intOf]; omega
def RetF (w : World) (x y : Int) (e : Ending) (w' : World) : Prop := e = .returned (.agg #[.int .i64 x, .int .i64 y]) ∧ Below w.heap.size w w'
set_option maxRecDepth 100000 in
set_option maxHeartbeats 4000000 in
theorem reduced_is (n d : Nat) (w : World) (hn : n ≤ 1000000000) (hd : d ≤ 1000000000) (hd0 : 0 < d) :
  Calls Tryz.prog 185 #[.int .i64 n, .int .i64 d] w (RetF w ((n / Nat.gcd n d : Nat) : Int) ((d / Nat.gcd n d : Nat) : Int)) := by
 have hb0 := fr_alloc (fr_refl w) (.cells #[.int .i64 0, .int .i64 0] 52)
 have hX := Blk.new w 52 #[.int .i64 0, .int .i64 0]
 have hg0 : 0 < Nat.gcd n d := Nat.gcd_pos_of_pos_right _ hd0
 have hb1 := Nat.div_le_self n (Nat.gcd n d)
 have hb2 := Nat.div_le_self d (Nat.gcd n d)
 have q1 : (n : Int).tdiv ((Nat.gcd n d : Nat) : Int) = ((n / Nat.gcd n d : Nat) : Int) := rfl
 have q2 : (d : Int).tdiv ((Nat.gcd n d : Nat) : Int) = ((d / Nat.gcd n d : Nat) : Int) := rfl
 have hgd : Nat.gcd n d ≤ d := Nat.le_of_dvd hd0 (Nat.gcd_dvd_right _ _)
 go_enter Tryz.func185, Tryz.ntmps185
 go_wp2_with fail
 refine (gcd_is n d _ hn hd).mono ?_
 rintro e w1 ⟨rfl, hb⟩
 replace hX := hX.keep hb
 replace hb0 := fr_call hb0 hb
 generalize Nat.gcd n d = g at *
 generalize n / g = x at *
 generalize d / g = y at *
 have hne : ¬ g = 0 := by omega
 have hw1 : IntKind.i64.wrap (x : Int) = (x : Int) := IntWalk.i64_in _ (by omega)
 have hw2 : IntKind.i64.wrap (y : Int) = (y : Int) := IntWalk.i64_in _ (by omega)
 have hcX := fun j => hX.cell j
 clear hb
 go_wp2_with fail
 refine wp_region_noPanic ?_
 refine wp_region_held_drew (S := fun _ => True) (by kernel_rfl) trivial (fun hHeld => ?_)
 -- the region, step by step, in whatever order
 refine tkH 0 ⟨some 9, .move (.tmp 0), 3, "fraction.go:20", #[], none⟩ hHeld ?_
 refine tkH 1 ⟨some 10, .move (.tmp 5), 3, "fraction.go:20", #[], none⟩ hHeld ?_
 refine tkH 2 ⟨some 11, .binOp .quo 3 (.tmp 9) (.tmp 10) 3, 3, "fraction.go:20", #[⟨0, .data⟩, ⟨1, .data⟩], none⟩ hHeld ?_
 refine tkH 3 ⟨some 12, .move (.tmp 1), 3, "fraction.go:20", #[], none⟩ hHeld ?_
 refine tkH 4 ⟨some 13, .move (.tmp 5), 3, "fraction.go:20", #[], none⟩ hHeld ?_
 refine tkH 5 ⟨some 14, .binOp .quo 3 (.tmp 12) (.tmp 13) 3, 3, "fraction.go:20", #[⟨3, .data⟩, ⟨4, .data⟩], none⟩ hHeld ?_
 refine tkH 6 ⟨some 15, .build 52 #[(0, .tmp 11), (1, .tmp 14)], 52, "fraction.go:20", #[⟨2, .data⟩, ⟨5, .data⟩], none⟩ hHeld ?_
 refine rdH 7 ⟨none, .store 52 (.tmp 4) (.tmp 15), 0, "fraction.go:20", #[⟨6, .data⟩, ⟨0, .phase⟩, ⟨1, .phase⟩, ⟨2, .phase⟩, ⟨3, .phase⟩, ⟨4, .phase⟩, ⟨5, .phase⟩, ⟨6, .phase⟩], none⟩ fun K hK => ?_
 refine wp_store_blk _ _ _ rfl w.heap.size 52 _ _ rfl rfl hX.drew rfl (by kernel_rfl) (by simp [Value.oneCell']) ?_
 intro w2 hX2 hg2
 refine hK.out _ _ (trivial) (fun hHeld => ?_)
 clear hK K
 refine wpAnyH_done (by kernel_rfl) ?_ _
 refine NoPanic.normal ?_
 go_wp2_with fail
 exact bodyPost_ret (results_blk1 rfl _ _ _ _ rfl hX2 Tryz.underlying52 rfl (by kernel_rfl)) rfl ⟨rfl, (fr_call hb0 (fr_drew (fr_refl w1))).grown hg2 (fr_call hb0 (fr_drew (fr_refl w1))).size (by intro k hk; cases hk; exact Nat.le_refl _)⟩
end

section
open Go.RowKit Go.Shelf

section
variable {P : Program} (w : World)
theorem run_append_own2 (base : Nat) (t ty e : TypeId) (i : TypeInfo) (z : Value) (size bytes : Nat) (ht : P.underlying t = some (.slice e)) (hi : P.info? e = some i) (hz : i.zero = some z)
  (hsize : i.size = size) (hby : i.bytes = bytes) (hzs : z.cells.size = size) (hsz : 0 < size)
  (v : Value) (n : Nat) (xs : List Value) (hown : w.ownsRow base e size v n xs)
  (a : Addr) (m c : Nat) (news : List Value) (hl : news.length = m * size) (hnews : ∀ j u, news[j]? = some u → w.cell? (a.add j) = some u) (h1 : ∀ u ∈ news, u.oneCell' = true)
  (h63 : n + m ≤ maxLen) (hbytes : (n + m) * bytes ≤ 140737488355328) (hbase : base ≤ w.heap.size) :
  ∃ v' w', (Builtin.append_ #[t, t] ty #[v, .slice (some a) m c]).run P w = .ok v' w' ∧ w'.ownsRow base e size v' (n + m) (xs ++ news) ∧ w.grownBy w' v.ownBlock ∧
   (v'.ownBlock = v.ownBlock ∨ ∀ k, v'.ownBlock = some k → w.heap.size ≤ k) := by
 obtain ⟨v', w', hr, h2, h3, _⟩ := run_append_own (P := P) w base t ty e i z size bytes ht hi hz hsize hby hzs hsz v n xs hown a m c news hl hnews h1 h63 hbytes hbase
 refine ⟨v', w', hr, h2, h3, ?_⟩
 have hsmall : n + m ≤ 9223372036854775807 := by simp only [maxLen] at h63; omega
 rcases hown.2 with ⟨rfl, rfl⟩ | ⟨g, cap, cur, rfl, hbg, hg, hnc, hcm, hcs, htake⟩
 ·right
  have hx : xs = [] := List.eq_nil_of_length_eq_zero (by simpa using hown.1)
  subst hx
  obtain ⟨v2, w2, hr2, h4, _, _⟩ := run_append_own (P := P) w w.heap.size t ty e i z size bytes ht hi hz hsize hby hzs hsz (.slice none 0 0) 0 [] (World.ownsRow_nil w w.heap.size e size) a m c news hl hnews h1 h63 hbytes (Nat.le_refl _)
  rw [hr] at hr2
  cases hr2
  exact fun k hk => (World.ownsRow.lt h4 k hk).1
 ·by_cases hroom : n + m ≤ cap
  ·left
   have hfit : n * i.size + news.length ≤ cur.size := by rw [hl, hcs, hsize, ← Nat.add_mul]; exact Nat.mul_le_mul_right _ hroom
   have hr2 := run_append_room (P := P) w t ty e i ht hi g n cap cur hg a m c news (by rw [hsize]; exact hl) hnews h1 hroom hfit
   rw [hr] at hr2
   cases hr2
   rfl
  ·right
   have holds : ∀ j u, xs[j]? = some u → w.cell? ((⟨g, 0, none⟩ : Addr).add j) = some u := hown.cells (g := g) rfl
   have hr2 := run_append_grow (P := P) w t ty e i z ht hi hz ⟨g, 0, none⟩ n cap xs (by rw [hsize]; exact hown.1) holds a m c news (by rw [hsize]; exact hl) hnews (by omega) (by omega) (growslice_fits (by omega) (by rw [hby]; exact hbytes))
   rw [hr] at hr2
   cases hr2
   intro k hk
   simp only [Value.ownBlock, Option.some.injEq] at hk
   omega
end
section
variable {o : Oper} {a : Act} {w : World} {K : Act → World → Prop} {Q : Exit → Act → World → Prop}
theorem wp_build_int {x : Nat} {y : Int} (ho : o.op = .buildSlice 23 1 #[(0, .tmp x)]) (hx : a.tmps.getD x undef = .int .i64 y)
  (h : ∀ g w', w.heap.size = g → Blk w' g 3 #[.int .i64 y] → Below w.heap.size w w' → w'.heap.size = g + 1 → K (a.put o.dst (.slice (some ⟨g, 0, none⟩) 1 1)) w') : o.wp Tryz.prog a w K Q := by
 have h1 := h w.heap.size (w.alloc (.cells #[.int .i64 y] 3)) rfl (Blk.new w _ _) (fr_alloc (fr_refl w) _) (by simp)
 obtain ⟨dst, op, ty, pos, after, guard⟩ := o
 simp only at ho
 subst ho
 have hx' : a.tmps[x]?.getD undef = .int .i64 y := by simpa using hx
 go_simp
 exact h1
/-- 'append(s, y)': the new row is the old one, or lies behind all that lay -/
theorem wp_app_int2 (T : TypeId) (hT : Tryz.prog.underlying T = some (.slice 3)) (s x : Operand) (ho : o.op = .call { callee := .builtin .append, args := #[s, x], argTypes := #[T, T] }) (base : Nat) (v : Value) (xs : List Int) (hs : a.eval s = v) (hown : Own w base v xs)
  (g : Nat) (y : Int) (hx : a.eval x = .slice (some ⟨g, 0, none⟩) 1 1) (hg : Blk w g 3 #[.int .i64 y]) (hn : xs.length < 1000000) (hbase : base ≤ w.heap.size)
  (h : ∀ A c w', Own w' base (.slice A (xs.length + 1) c) (xs ++ [y]) → w.grownBy w' v.ownBlock → ((Value.slice A (xs.length + 1) c).ownBlock = v.ownBlock ∨ ∀ k, (Value.slice A (xs.length + 1) c).ownBlock = some k → w.heap.size ≤ k) → K (a.put o.dst (.slice A (xs.length + 1) c)) w') : o.wp Tryz.prog a w K Q := by
 obtain ⟨i0, hi, hz0, hz1, hz2⟩ := info_parts info_int
 obtain ⟨v', w', hr, h2, h3, h4⟩ := run_append_own2 (P := Tryz.prog) w base T o.type _ i0 _ 1 8 hT hi hz0 hz1 hz2 rfl (by omega) v _ _ hown ⟨g, 0, none⟩ 1 1 [.int .i64 y] rfl (by
  intro j u hj
  match j, hj with
  | 0, hj => simp at hj; subst hj; rw [add_lit, hg.cell]; rfl) (by simp [Value.oneCell']) (by unfold maxLen; omega) (by omega) hbase
 have hown2 : Own w' base v' (xs ++ [y]) := by
  unfold Own
  rw [List.length_append, List.map_append]
  exact h2
 obtain ⟨A, c, rfl⟩ := hown2.form
 rw [List.length_append] at hown2 h4 hr
 unfold Oper.wp execOp
 simp only [ho, resolve, invoke, builtin, Sem.run_bind, Sem.run_pure, Result.andThen_ok, List.map_toArray, List.map_cons, List.map_nil, hs, hx, hr]
 exact h A c w' hown2 h3 h4
end
set_option maxHeartbeats 2000000 in
theorem tproduct_any (A : Option Addr) (n c : Nat) (xs : List Int) (w : World) (hr : Rd w A n xs) (hn : n ≤ 4) (hb : ∀ x ∈ xs, 0 ≤ x ∧ x ≤ 100) :
  Calls Tryz.prog 186 #[.slice A n c] w fun e w' => e = .returned (.int .i64 (prL xs n)) ∧ w = w' := by
 go_enter Tryz.func186, Tryz.ntmps186
 go_wp2
 go_loop [3, 8] (fun v i => ∃ k : Nat, k ≤ n ∧ i = .int .i64 k ∧ v = .int .i64 (prL xs k)) (fun _ i => n - (intOf i).toNat)
 case atStart => exact ⟨0, Nat.zero_le _, rfl, rfl⟩
 case round =>
  obtain ⟨k, hk, rfl, rfl⟩ := hrel
  by_cases hlt : k < n
  ·obtain ⟨ad, rfl, hlb, hcell⟩ := hr.at_ hlt
   have h1 := prL_bd hb k
   have h2 := get_bd hb (by omega) k
   have h3 := pow100 (show k ≤ 4 by omega)
   have hs : prL xs (k + 1) = prL xs k * xs[k]?.getD 0 := rfl
   have HS := Lib.hid hs
   have q1 := mul_wrap (a := prL xs k) (b := xs[k]?.getD 0) (by omega) (by omega)
   have q2 := mul_wrap64 (a := prL xs k) (b := xs[k]?.getD 0) (by omega) (by omega)
   clear hs h3
   generalize prL xs k = v at *
   generalize xs[k]?.getD 0 = x at *
   go_wp2_with fail
   go_round
   case rel => exact ⟨k + 1, hlt, by go_num, by rw [HS.out]⟩
   case measure => simp [intOf]; omega
  ·obtain rfl : k = n := by omega
   go_wp2_with fail
   go_ret
   exact ⟨rfl, rfl⟩
end

section
open Go.RowKit Go.Shelf

/-- two rows of the call's own are apart -/
def Dj (v u : Value) : Prop := ∀ k, v.ownBlock = some k → u.ownBlock ≠ some k
theorem Dj.symm {v u : Value} (h : Dj v u) : Dj u v := fun k hk e => h k e hk
theorem own_lt {w : World} {base : Nat} {v : Value} {xs : List Int} (h : Own w base v xs) : ∀ k, v.ownBlock = some k → k < w.heap.size := fun k hk => (World.ownsRow.lt h k hk).2
theorem own_apart {w w' : World} {base : Nat} {v u : Value} {xs : List Int} (h : Own w base u xs) (hg : w.grownBy w' v.ownBlock) (hd : Dj v u) : Own w' base u xs := by
 refine World.ownsRow.kept h hg ?_
 cases hu : u.ownBlock with
 | none => exact Or.inl rfl
 | some k => exact Or.inr (fun e => hd k e.symm hu)
theorem blk_apart {w w' : World} {g : Nat} {v : Value} {t : TypeId} {cs : Array Value} (h : Blk w g t cs) (hg : w.grownBy w' v.ownBlock) (hlt : ∀ k, v.ownBlock = some k → k < g) : Blk w' g t cs :=
 h.grown hg (fun e => by have := hlt g e.symm; omega)
theorem dj_next {w : World} {base : Nat} {v v' u : Value} {ys : List Int} (hu : Own w base u ys) (hd : Dj v u) (h : v'.ownBlock = v.ownBlock ∨ ∀ k, v'.ownBlock = some k → w.heap.size ≤ k) : Dj v' u := fun k hk e => by
 rcases h with h | h
 ·rw [h] at hk; exact hd k hk e
 ·have := h k hk; have := own_lt hu k e; omega
def losOf (ps : List Wh) : List Int := ps.map Wh.lo
def hisOf (ps : List Wh) : List Int := ps.map Wh.hi
def TeethP (ps : List Wh) : Prop := ∀ p ∈ ps, (4 ≤ p.lo ∧ p.lo ≤ 60) ∧ 4 ≤ p.hi ∧ p.hi ≤ 60
/-- the products of all driving, and of all driven wheels -/
def prD (ps : List Wh) : Nat := (prL (losOf ps) ps.length).toNat
def prV (ps : List Wh) : Nat := (prL (hisOf ps) ps.length).toNat
/-- what a train turns its hand by -/
def turnD (ps : List Wh) : Nat := prD ps / Nat.gcd (prD ps) (prV ps)
def turnV (ps : List Wh) : Nat := prV ps / Nat.gcd (prD ps) (prV ps)
theorem prL_pos {xs : List Int} (h : ∀ x ∈ xs, 1 ≤ x) : ∀ k, k ≤ xs.length → 1 ≤ prL xs k
 | 0, _ => Int.le_refl _
 | k + 1, hk => by
  have h1 := prL_pos h k (by omega)
  have h2 : 1 ≤ xs[k]?.getD 0 := by
   rw [List.getElem?_eq_getElem (show k < xs.length by omega)]
   exact h _ (List.getElem_mem _)
  have := Int.mul_le_mul h1 h2 (by omega) (by omega)
  simpa [prL] using this
theorem los_bd {ps : List Wh} (h : TeethP ps) : ∀ x ∈ losOf ps, 0 ≤ x ∧ x ≤ 100 := fun x hx => by
 obtain ⟨p, hp, rfl⟩ := List.mem_map.1 hx
 have := h p hp; omega
theorem his_bd {ps : List Wh} (h : TeethP ps) : ∀ x ∈ hisOf ps, 0 ≤ x ∧ x ≤ 100 := fun x hx => by
 obtain ⟨p, hp, rfl⟩ := List.mem_map.1 hx
 have := h p hp; omega
theorem pr_facts {ps : List Wh} (h : TeethP ps) (hn : ps.length ≤ 4) : (prL (losOf ps) ps.length = (prD ps : Int) ∧ prL (hisOf ps) ps.length = (prV ps : Int)) ∧ (0 < prD ps ∧ prD ps ≤ 100000000) ∧ 0 < prV ps ∧ prV ps ≤ 100000000 := by
 have a1 := prL_pos (xs := losOf ps) (fun x hx => by obtain ⟨p, hp, rfl⟩ := List.mem_map.1 hx; have := h p hp; omega) ps.length (by simp [losOf])
 have a2 := prL_pos (xs := hisOf ps) (fun x hx => by obtain ⟨p, hp, rfl⟩ := List.mem_map.1 hx; have := h p hp; omega) ps.length (by simp [hisOf])
 have b1 := prL_bd (los_bd h) ps.length
 have b2 := prL_bd (his_bd h) ps.length
 have b3 := pow100 hn
 unfold prD prV
 omega
theorem take_map {α : Type} (f : Wh → α) {ps : List Wh} {k : Nat} (h : k < ps.length) : (ps.take (k + 1)).map f = (ps.take k).map f ++ [f ps[k]] := by rw [List.take_succ_eq_append_getElem h, List.map_append]; rfl
set_option maxRecDepth 100000 in
set_option maxHeartbeats 16000000 in
theorem turns_any (A : Option Addr) (n c : Nat) (ps : List Wh) (w : World) (hr : RdS w A 2 (ps.map Wh.cells)) (hn : ps.length = n) (hn3 : n ≤ 3) (ht : TeethP ps) :
  Calls Tryz.prog 123 #[.slice A n c] w (RetF w (turnD ps : Int) (turnV ps : Int)) := by
 have hX := Blk.new w 52 #[.int .i64 0, .int .i64 0]
 have hb0 := fr_alloc (fr_refl w) (.cells #[.int .i64 0, .int .i64 0] 52)
 replace hr := hr.keep hb0
 have HN := Lib.hid hn
 clear hn
 go_enter Tryz.func123, Tryz.ntmps123
 go_wp2_with fail
 generalize w.alloc (.cells #[.int .i64 0, .int .i64 0] 52) = w1 at *
 go_loopw [3, 4, 9] (fun v u i wr => ∃ k : Nat, k ≤ n ∧ i = .int .i64 k ∧ Own wr w1.heap.size v ((ps.take k).map Wh.lo) ∧ Own wr w1.heap.size u ((ps.take k).map Wh.hi) ∧ Dj v u ∧ Below w1.heap.size w1 wr) (fun _ _ i _ => n - (intOf i).toNat)
 case atStart => exact ⟨0, Nat.zero_le _, rfl, Own.nil _ _, Own.nil _ _, fun k hk => by simp [Value.ownBlock] at hk, fr_refl _⟩
 case round =>
  obtain ⟨k, hk, rfl, hv, hu, hd, hbel⟩ := hrel
  have hsz := hbel.size
  by_cases hlt : k < n
  ·have hkl : k < ps.length := by rw [HN.out]; exact hlt
   obtain ⟨ad, rfl, hab, hc0, hc1⟩ := whs_at (hr.keep hbel) hkl
   have HT1 := Lib.hid (take_map Wh.lo hkl)
   have HT2 := Lib.hid (take_map Wh.hi hkl)
   have hl1 : ((ps.take k).map Wh.lo).length = k := by simp; omega
   have hl2 : ((ps.take k).map Wh.hi).length = k := by simp; omega
   have HL1 := Lib.hid hl1
   have HL2 := Lib.hid hl2
   clear hl1 hl2 hX hr
   generalize ps[k] = p at *
   obtain ⟨x, y⟩ := p
   simp only at hc0 hc1 HT1 HT2
   have hP := Blk.new wr 130 #[.int .i64 x, .int .i64 y]
   have hbP := fr_alloc (fr_refl wr) (.cells #[.int .i64 x, .int .i64 y] 130)
   replace hv := hv.keep hbP
   replace hu := hu.keep hbP
   go_wp2_with fail
   clear hc0 hc1
   generalize wr.alloc (.cells #[.int .i64 x, .int .i64 y] 130) = wo at *
   have hlv := own_lt hv
   have hlu := own_lt hu
   have hsP := hP.lt
   refine wp_region_noPanic ?_
   refine wp_region_held_drew (S := fun W => Blk W wr.heap.size 130 #[.int .i64 x, .int .i64 y]) (by kernel_rfl) hP (fun hHeld => ?_)
   have hbz := fr_drew (fr_refl wo)
   have hv1 := hv.keep hbz
   have hu1 := hu.keep hbz
   have hB := fr_call (fr_call hbel hbP) hbz
   have hS : wo.heap.size ≤ wo.drew.heap.size := hbz.size
   generalize wo.drew = wz at hB hS hHeld hv1 hu1 ⊢
   have hcP := fun W (h : Blk W wr.heap.size 130 #[.int .i64 x, .int .i64 y]) => And.intro (h.cell 0) (h.cell 1)
   clear hbz
   -- the region, step by step, in whatever order
   refine tkH 0 ⟨some 13, .move (.tmp 3), 23, "train.go:97", #[], none⟩ hHeld ?_
   refine tkH 1 ⟨some 14, .fieldAddr 130 (.tmp 6) 0, 0, "train.go:97", #[], none⟩ hHeld ?_
   refine tkH 2 ⟨some 15, .load 3 (.tmp 14), 3, "train.go:97", #[⟨1, .data⟩], none⟩ hHeld ?_
   refine tkH 5 ⟨some 18, .move (.tmp 4), 23, "train.go:97", #[], none⟩ hHeld ?_
   refine tkH 6 ⟨some 19, .fieldAddr 130 (.tmp 6) 1, 0, "train.go:97", #[], none⟩ hHeld ?_
   refine tkH 7 ⟨some 20, .load 3 (.tmp 19), 3, "train.go:97", #[⟨6, .data⟩], none⟩ hHeld ?_
   refine wpAnyH_ready (rs := [3, 8]) (by kernel_rfl) (by simp) ?_
   refine (AllReadyH.cons (o := ⟨some 16, .buildSlice 23 1 #[(0, .tmp 15)], 23, "train.go:97", #[⟨2, .data⟩], none⟩) rfl (fun K hK => ?_) (AllReadyH.cons (o := ⟨some 21, .buildSlice 23 1 #[(0, .tmp 20)], 23, "train.go:97", #[⟨7, .data⟩], none⟩) rfl (fun K hK => ?_) AllReadyH.nil))
   ·rw [if_pos (by rfl)]
    refine wp_build_int rfl rfl ?_
    intro g1 wz hz1 hG1 hb1 _
    have hg1o : wo.heap.size ≤ g1 := by omega
    replace hS := Nat.le_trans hS hb1.size
    replace hB := fr_call hB hb1
    (try replace hv1 := hv1.keep hb1)
    (try replace hv2 := hv2.keep hb1)
    replace hu1 := hu1.keep hb1
    (try replace hG2 := hG2.keep hb1)
    refine hK.out _ _ (hHeld.keep hb1) (fun hHeld => ?_)
    clear hK K
    (try simp only [Act.put, List.setIfInBounds_toArray, List.set_cons_zero, List.set_cons_succ])
    refine wpAnyH_ready (rs := [4, 8]) (by kernel_rfl) (by simp) ?_
    refine (AllReadyH.cons (o := ⟨some 17, .call { callee := .builtin .append, args := #[.tmp 13, .tmp 16], argTypes := #[23, 23] }, 23, "train.go:97", #[⟨0, .data⟩, ⟨3, .data⟩], none⟩) rfl (fun K hK => ?_) (AllReadyH.cons (o := ⟨some 21, .buildSlice 23 1 #[(0, .tmp 20)], 23, "train.go:97", #[⟨7, .data⟩], none⟩) rfl (fun K hK => ?_) AllReadyH.nil))
    ·rw [if_pos (by rfl)]
     refine wp_app_int2 23 Tryz.underlying23 (.tmp 13) (.tmp 16) rfl w1.heap.size _ ((ps.take k).map Wh.lo) rfl hv1 g1 x rfl hG1 (by rw [HL1.out]; omega) hB.size ?_
     intro A1 c1 wz hv2 hgr hn1
     rw [HL1.out] at hv2 hn1 ⊢
     have hd1 := dj_next hu1 hd hn1
     replace hB := hB.grown hgr hB.size (own_ge hv1)
     replace hS := Nat.le_trans hS hgr.size
     (try replace hG2 := blk_apart hG2 hgr (fun i e => by have := hlv i e; omega))
     replace hu1 := own_apart hu1 hgr hd
     refine hK.out _ _ (hHeld.grown hgr (Ne.symm (own_blk_ne hv1 hHeld (by decide)))) (fun hHeld => ?_)
     clear hK K
     (try simp only [Act.put, List.setIfInBounds_toArray, List.set_cons_zero, List.set_cons_succ])
     refine rdH 8 ⟨some 21, .buildSlice 23 1 #[(0, .tmp 20)], 23, "train.go:97", #[⟨7, .data⟩], none⟩ fun K hK => ?_
     refine wp_build_int rfl rfl ?_
     intro g2 wz hz2 hG2 hb1 _
     have hg2o : wo.heap.size ≤ g2 := by omega
     replace hS := Nat.le_trans hS hb1.size
     replace hB := fr_call hB hb1
     (try replace hv1 := hv1.keep hb1)
     (try replace hv2 := hv2.keep hb1)
     replace hu1 := hu1.keep hb1
     (try replace hG1 := hG1.keep hb1)
     refine hK.out _ _ (hHeld.keep hb1) (fun hHeld => ?_)
     clear hK K
     (try simp only [Act.put, List.setIfInBounds_toArray, List.set_cons_zero, List.set_cons_succ])
     refine rdH 9 ⟨some 22, .call { callee := .builtin .append, args := #[.tmp 18, .tmp 21], argTypes := #[23, 23] }, 23, "train.go:97", #[⟨5, .data⟩, ⟨8, .data⟩, ⟨4, .chain⟩], none⟩ fun K hK => ?_
     refine wp_app_int2 23 Tryz.underlying23 (.tmp 18) (.tmp 21) rfl w1.heap.size _ ((ps.take k).map Wh.hi) rfl hu1 g2 y rfl hG2 (by rw [HL2.out]; omega) hB.size ?_
     intro A2 c2 wz hu2 hgr hn2
     rw [HL2.out] at hu2 hn2 ⊢
     replace hB := hB.grown hgr hB.size (own_ge hu1)
     have hd2 := (dj_next hv2 hd1.symm hn2).symm
     replace hv2 := own_apart hv2 hgr hd1.symm
     refine hK.out _ _ (hHeld.grown hgr (Ne.symm (own_blk_ne hu1 hHeld (by decide)))) (fun hHeld => ?_)
     clear hK K
     (try simp only [Act.put, List.setIfInBounds_toArray, List.set_cons_zero, List.set_cons_succ])
     refine tkH 10 ⟨some 3, .assign (.tmp 17), 23, "train.go:97", #[⟨4, .data⟩, ⟨9, .chain⟩, ⟨0, .phase⟩, ⟨1, .phase⟩, ⟨2, .phase⟩, ⟨3, .phase⟩, ⟨4, .phase⟩, ⟨5, .textOnly .lateStores⟩, ⟨6, .textOnly .lateStores⟩, ⟨7, .textOnly .lateStores⟩, ⟨8, .textOnly .lateStores⟩, ⟨9, .textOnly .lateStoresUnsure⟩], none⟩ hHeld ?_
     refine tkH 11 ⟨some 4, .assign (.tmp 22), 23, "train.go:97", #[⟨9, .data⟩, ⟨10, .chain⟩, ⟨0, .phase⟩, ⟨1, .phase⟩, ⟨2, .phase⟩, ⟨3, .phase⟩, ⟨4, .phase⟩, ⟨5, .phase⟩, ⟨6, .phase⟩, ⟨7, .phase⟩, ⟨8, .phase⟩, ⟨9, .phase⟩, ⟨10, .phase⟩], none⟩ hHeld ?_
     refine wpAnyH_done (by kernel_rfl) ?_ _
     refine NoPanic.normal ?_
     go_wp2_with fail
     refine ⟨⟨k + 1, hlt, by go_num, by rw [HT1.out]; exact hv2, by rw [HT2.out]; exact hu2, hd2, hB⟩, ?_⟩
     simp [intOf]; omega
    ·rw [if_pos (by rfl)]
     refine wp_build_int rfl rfl ?_
     intro g2 wz hz2 hG2 hb1 _
     have hg2o : wo.heap.size ≤ g2 := by omega
     replace hS := Nat.le_trans hS hb1.size
     replace hB := fr_call hB hb1
     (try replace hv1 := hv1.keep hb1)
     (try replace hv2 := hv2.keep hb1)
     replace hu1 := hu1.keep hb1
     (try replace hG1 := hG1.keep hb1)
     refine hK.out _ _ (hHeld.keep hb1) (fun hHeld => ?_)
     clear hK K
     (try simp only [Act.put, List.setIfInBounds_toArray, List.set_cons_zero, List.set_cons_succ])
     refine rdH 4 ⟨some 17, .call { callee := .builtin .append, args := #[.tmp 13, .tmp 16], argTypes := #[23, 23] }, 23, "train.go:97", #[⟨0, .data⟩, ⟨3, .data⟩], none⟩ fun K hK => ?_
     refine wp_app_int2 23 Tryz.underlying23 (.tmp 13) (.tmp 16) rfl w1.heap.size _ ((ps.take k).map Wh.lo) rfl hv1 g1 x rfl hG1 (by rw [HL1.out]; omega) hB.size ?_
     intro A1 c1 wz hv2 hgr hn1
     rw [HL1.out] at hv2 hn1 ⊢
     have hd1 := dj_next hu1 hd hn1
     replace hB := hB.grown hgr hB.size (own_ge hv1)
     replace hS := Nat.le_trans hS hgr.size
     (try replace hG2 := blk_apart hG2 hgr (fun i e => by have := hlv i e; omega))
     replace hu1 := own_apart hu1 hgr hd
     refine hK.out _ _ (hHeld.grown hgr (Ne.symm (own_blk_ne hv1 hHeld (by decide)))) (fun hHeld => ?_)
     clear hK K
     (try simp only [Act.put, List.setIfInBounds_toArray, List.set_cons_zero, List.set_cons_succ])
     refine rdH 9 ⟨some 22, .call { callee := .builtin .append, args := #[.tmp 18, .tmp 21], argTypes := #[23, 23] }, 23, "train.go:97", #[⟨5, .data⟩, ⟨8, .data⟩, ⟨4, .chain⟩], none⟩ fun K hK => ?_
     refine wp_app_int2 23 Tryz.underlying23 (.tmp 18) (.tmp 21) rfl w1.heap.size _ ((ps.take k).map Wh.hi) rfl hu1 g2 y rfl hG2 (by rw [HL2.out]; omega) hB.size ?_
     intro A2 c2 wz hu2 hgr hn2
     rw [HL2.out] at hu2 hn2 ⊢
     replace hB := hB.grown hgr hB.size (own_ge hu1)
     have hd2 := (dj_next hv2 hd1.symm hn2).symm
     replace hv2 := own_apart hv2 hgr hd1.symm
     refine hK.out _ _ (hHeld.grown hgr (Ne.symm (own_blk_ne hu1 hHeld (by decide)))) (fun hHeld => ?_)
     clear hK K
     (try simp only [Act.put, List.setIfInBounds_toArray, List.set_cons_zero, List.set_cons_succ])
     refine tkH 10 ⟨some 3, .assign (.tmp 17), 23, "train.go:97", #[⟨4, .data⟩, ⟨9, .chain⟩, ⟨0, .phase⟩, ⟨1, .phase⟩, ⟨2, .phase⟩, ⟨3, .phase⟩, ⟨4, .phase⟩, ⟨5, .textOnly .lateStores⟩, ⟨6, .textOnly .lateStores⟩, ⟨7, .textOnly .lateStores⟩, ⟨8, .textOnly .lateStores⟩, ⟨9, .textOnly .lateStoresUnsure⟩], none⟩ hHeld ?_
     refine tkH 11 ⟨some 4, .assign (.tmp 22), 23, "train.go:97", #[⟨9, .data⟩, ⟨10, .chain⟩, ⟨0, .phase⟩, ⟨1, .phase⟩, ⟨2, .phase⟩, ⟨3, .phase⟩, ⟨4, .phase⟩, ⟨5, .phase⟩, ⟨6, .phase⟩, ⟨7, .phase⟩, ⟨8, .phase⟩, ⟨9, .phase⟩, ⟨10, .phase⟩], none⟩ hHeld ?_
     refine wpAnyH_done (by kernel_rfl) ?_ _
     refine NoPanic.normal ?_
     go_wp2_with fail
     refine ⟨⟨k + 1, hlt, by go_num, by rw [HT1.out]; exact hv2, by rw [HT2.out]; exact hu2, hd2, hB⟩, ?_⟩
     simp [intOf]; omega
   ·rw [if_pos (by rfl)]
    refine wp_build_int rfl rfl ?_
    intro g2 wz hz2 hG2 hb1 _
    have hg2o : wo.heap.size ≤ g2 := by omega
    replace hS := Nat.le_trans hS hb1.size
    replace hB := fr_call hB hb1
    (try replace hv1 := hv1.keep hb1)
    (try replace hv2 := hv2.keep hb1)
    replace hu1 := hu1.keep hb1
    (try replace hG1 := hG1.keep hb1)
    refine hK.out _ _ (hHeld.keep hb1) (fun hHeld => ?_)
    clear hK K
    (try simp only [Act.put, List.setIfInBounds_toArray, List.set_cons_zero, List.set_cons_succ])
    refine rdH 3 ⟨some 16, .buildSlice 23 1 #[(0, .tmp 15)], 23, "train.go:97", #[⟨2, .data⟩], none⟩ fun K hK => ?_
    refine wp_build_int rfl rfl ?_
    intro g1 wz hz1 hG1 hb1 _
    have hg1o : wo.heap.size ≤ g1 := by omega
    replace hS := Nat.le_trans hS hb1.size
    replace hB := fr_call hB hb1
    (try replace hv1 := hv1.keep hb1)
    (try replace hv2 := hv2.keep hb1)
    replace hu1 := hu1.keep hb1
    (try replace hG2 := hG2.keep hb1)
    refine hK.out _ _ (hHeld.keep hb1) (fun hHeld => ?_)
    clear hK K
    (try simp only [Act.put, List.setIfInBounds_toArray, List.set_cons_zero, List.set_cons_succ])
    refine rdH 4 ⟨some 17, .call { callee := .builtin .append, args := #[.tmp 13, .tmp 16], argTypes := #[23, 23] }, 23, "train.go:97", #[⟨0, .data⟩, ⟨3, .data⟩], none⟩ fun K hK => ?_
    refine wp_app_int2 23 Tryz.underlying23 (.tmp 13) (.tmp 16) rfl w1.heap.size _ ((ps.take k).map Wh.lo) rfl hv1 g1 x rfl hG1 (by rw [HL1.out]; omega) hB.size ?_
    intro A1 c1 wz hv2 hgr hn1
    rw [HL1.out] at hv2 hn1 ⊢
    have hd1 := dj_next hu1 hd hn1
    replace hB := hB.grown hgr hB.size (own_ge hv1)
    replace hS := Nat.le_trans hS hgr.size
    (try replace hG2 := blk_apart hG2 hgr (fun i e => by have := hlv i e; omega))
    replace hu1 := own_apart hu1 hgr hd
    refine hK.out _ _ (hHeld.grown hgr (Ne.symm (own_blk_ne hv1 hHeld (by decide)))) (fun hHeld => ?_)
    clear hK K
    (try simp only [Act.put, List.setIfInBounds_toArray, List.set_cons_zero, List.set_cons_succ])
    refine rdH 9 ⟨some 22, .call { callee := .builtin .append, args := #[.tmp 18, .tmp 21], argTypes := #[23, 23] }, 23, "train.go:97", #[⟨5, .data⟩, ⟨8, .data⟩, ⟨4, .chain⟩], none⟩ fun K hK => ?_
    refine wp_app_int2 23 Tryz.underlying23 (.tmp 18) (.tmp 21) rfl w1.heap.size _ ((ps.take k).map Wh.hi) rfl hu1 g2 y rfl hG2 (by rw [HL2.out]; omega) hB.size ?_
    intro A2 c2 wz hu2 hgr hn2
    rw [HL2.out] at hu2 hn2 ⊢
    replace hB := hB.grown hgr hB.size (own_ge hu1)
    have hd2 := (dj_next hv2 hd1.symm hn2).symm
    replace hv2 := own_apart hv2 hgr hd1.symm
    refine hK.out _ _ (hHeld.grown hgr (Ne.symm (own_blk_ne hu1 hHeld (by decide)))) (fun hHeld => ?_)
    clear hK K
    (try simp only [Act.put, List.setIfInBounds_toArray, List.set_cons_zero, List.set_cons_succ])
    refine tkH 10 ⟨some 3, .assign (.tmp 17), 23, "train.go:97", #[⟨4, .data⟩, ⟨9, .chain⟩, ⟨0, .phase⟩, ⟨1, .phase⟩, ⟨2, .phase⟩, ⟨3, .phase⟩, ⟨4, .phase⟩, ⟨5, .textOnly .lateStores⟩, ⟨6, .textOnly .lateStores⟩, ⟨7, .textOnly .lateStores⟩, ⟨8, .textOnly .lateStores⟩, ⟨9, .textOnly .lateStoresUnsure⟩], none⟩ hHeld ?_
    refine tkH 11 ⟨some 4, .assign (.tmp 22), 23, "train.go:97", #[⟨9, .data⟩, ⟨10, .chain⟩, ⟨0, .phase⟩, ⟨1, .phase⟩, ⟨2, .phase⟩, ⟨3, .phase⟩, ⟨4, .phase⟩, ⟨5, .phase⟩, ⟨6, .phase⟩, ⟨7, .phase⟩, ⟨8, .phase⟩, ⟨9, .phase⟩, ⟨10, .phase⟩], none⟩ hHeld ?_
    refine wpAnyH_done (by kernel_rfl) ?_ _
    refine NoPanic.normal ?_
    go_wp2_with fail
    refine ⟨⟨k + 1, hlt, by go_num, by rw [HT1.out]; exact hv2, by rw [HT2.out]; exact hu2, hd2, hB⟩, ?_⟩
    simp [intOf]; omega
  ·obtain rfl : k = n := by omega
   obtain ⟨⟨f1, f2⟩, ⟨f3, f4⟩, f5, f6⟩ := pr_facts ht (by rw [HN.out]; omega)
   have e1 : (ps.take k).map Wh.lo = losOf ps := by rw [List.take_of_length_le (by rw [HN.out]; exact Nat.le_refl _)]; rfl
   have e2 : (ps.take k).map Wh.hi = hisOf ps := by rw [List.take_of_length_le (by rw [HN.out]; exact Nat.le_refl _)]; rfl
   rw [e1] at hv
   rw [e2] at hu
   rw [HN.out] at f1 f2
   obtain ⟨A1, c1, rfl⟩ := hv.form
   obtain ⟨A2, c2, rfl⟩ := hu.form
   have l1 : (losOf ps).length = k := by unfold losOf; rw [List.length_map, HN.out]
   have l2 : (hisOf ps).length = k := by unfold hisOf; rw [List.length_map, HN.out]
   rw [l1] at hv ⊢
   rw [l2] at hu ⊢
   have HF1 := Lib.hid f1
   have HF2 := Lib.hid f2
   have hX1 := hX.keep hbel
   clear l1 l2 f1 f2 e1 e2 hX
   go_wp2_with fail
   refine (tproduct_any A1 k c1 (losOf ps) wr hv.rd (by omega) (los_bd ht)).mono ?_
   rintro e w' ⟨rfl, rfl⟩
   rw [HF1.out]
   go_wp2_with fail
   refine (tproduct_any A2 k c2 (hisOf ps) wr hu.rd (by omega) (his_bd ht)).mono ?_
   rintro e w' ⟨rfl, rfl⟩
   rw [HF2.out]
   go_wp2_with fail
   refine (reduced_is (prD ps) (prV ps) wr (by omega) (by omega) f5).mono ?_
   rintro e w2 ⟨rfl, hb2⟩
   have hX2 := hX1.keep hb2
   have hbf := fr_call (fr_call hb0 hbel) hb2
   go_wp2_with (refine wpList_store_blk rfl _ _ _ rfl w.heap.size 52 _ _ rfl rfl hX2 rfl (by kernel_rfl) (by simp [Value.oneCell']) ?_; intro w3 hX3 hg3)
   exact bodyPost_ret (results_blk1 rfl _ _ _ _ rfl hX3 Tryz.underlying52 rfl (by kernel_rfl)) rfl ⟨rfl, hbf.grown hg3 hbf.size (by intro k hk; cases hk; exact Nat.le_refl _)⟩
end

section
open Go.RowKit Go.Shelf

section
variable {o : Oper} {a : Act} {w : World} {K : Act → World → Prop} {Q : Exit → Act → World → Prop}
theorem info_pair : (Tryz.prog.info? 130).map (fun i => (i.zero, i.size, i.bytes)) = some (some (.agg #[.int .i64 0, .int .i64 0]), 2, 16) := by kernel_rfl
theorem wp_build_pair {x : Nat} {d v : Int} (ho : o.op = .buildSlice 46 1 #[(0, .tmp x)]) (hx : a.tmps.getD x undef = .agg #[.int .i64 d, .int .i64 v])
  (h : ∀ g w', w.heap.size = g → Blk w' g 130 #[.int .i64 d, .int .i64 v] → Below w.heap.size w w' → K (a.put o.dst (.slice (some ⟨g, 0, none⟩) 1 1)) w') : o.wp Tryz.prog a w K Q := by
 have h1 := h w.heap.size (w.alloc (.cells #[.int .i64 d, .int .i64 v] 130)) rfl (Blk.new w _ _) (fr_alloc (fr_refl w) _)
 obtain ⟨dst, op, ty, pos, after, guard⟩ := o
 simp only at ho
 subst ho
 have hx' : a.tmps[x]?.getD undef = .agg #[.int .i64 d, .int .i64 v] := by simpa using hx
 go_simp
 exact h1
/-- 'append(s, x)' of a row of k cells -/
theorem wp_app_row {T E : TypeId} {z : Value} {k bytes : Nat} {r : List Value} (s x : Operand)
  (ho : o.op = .call { callee := .builtin .append, args := #[s, x], argTypes := #[T, T] }) (hu : Tryz.prog.underlying T = some (.slice E)) (hinfo : (Tryz.prog.info? E).map (fun i => (i.zero, i.size, i.bytes)) = some (some z, k, bytes)) (hzk : z.cells.size = k) (hk : 0 < k) (hby : bytes ≤ 1000)
  (base : Nat) (v : Value) (rows : List (List Value)) (hs : a.eval s = v) (hown : OwnS w base E k v rows) (g : Nat) (hx : a.eval x = .slice (some ⟨g, 0, none⟩) 1 1) (hg : Blk w g E r.toArray) (hrl : r.length = k) (h1 : ∀ u ∈ r, u.oneCell' = true) (hn : rows.length < 1000000) (hbase : base ≤ w.heap.size)
  (h : ∀ A c w', OwnS w' base E k (.slice A (rows.length + 1) c) (rows ++ [r]) → w.grownBy w' v.ownBlock → K (a.put o.dst (.slice A (rows.length + 1) c)) w') : o.wp Tryz.prog a w K Q := by
 obtain ⟨i0, hi, hz0, hz1, hz2⟩ := info_parts hinfo
 have hb : (rows.length + 1) * bytes ≤ 1000000 * 1000 := Nat.mul_le_mul (by omega) hby
 refine wp_append_own w s x _ ho base _ i0 _ k bytes hu hi hz0 hz1 hz2 hzk hk v _ _ hs hown.1 ⟨g, 0, none⟩ 1 1 r hx (by rw [hrl]; omega) ?_ h1
  (by unfold maxLen; omega) (by omega) hbase ?_
 ·intro j u hj
  rw [add_lit, Nat.zero_add, hg.cell]
  simpa using hj
 ·intro v' w' hown' hgr _
  have hown2 : OwnS w' base E k v' (rows ++ [r]) := by
   refine ⟨?_, fun q hq => ?_⟩
   ·rw [List.length_append, List.flatten_append]
    simpa using hown'
   ·rcases List.mem_append.1 hq with h2 | h2
    ·exact hown.2 q h2
    ·have : q = r := by simpa using h2
     rw [this]; exact hrl
  obtain ⟨A, c, rfl⟩ := hown2.form
  rw [List.length_append] at hown2 ⊢
  exact h A c w' hown2 hgr
end
/-- a train in a row of its own is returned -/
def RetP (w : World) (ps : List Wh) (e : Ending) (w' : World) : Prop := ∃ A c, e = .returned (.slice A ps.length c) ∧ OwnS w' w.heap.size 130 2 (.slice A ps.length c) (ps.map Wh.cells) ∧ Below w.heap.size w w'
end

section
open Go.RowKit Go.Shelf

set_option maxHeartbeats 400000 in
theorem tin_is (x lo hi : Int) (w : World) (b : Bool) (hb : inB x lo hi = b) :
  Calls Tryz.prog 119 #[.int .i64 x, .int .i64 lo, .int .i64 hi] w fun e w' => e = .returned (.bool b) ∧ w = w' := by
 subst hb
 by_cases h : lo ≤ x
 ·go_enter Tryz.func119, Tryz.ntmps119
  go_wp2
  go_ret
  exact ⟨ret_bool (by simp [inB, h]), rfl⟩
 ·go_enter Tryz.func119, Tryz.ntmps119
  go_wp2
  go_ret
  exact ⟨ret_bool (by simp only [inB]; rw [eq_comm, decide_eq_false_iff_not]; omega), rfl⟩
set_option maxHeartbeats 400000 in
theorem tisTeeth_is (x : Int) (w : World) (b : Bool) (hb : teethB x = b) :
  Calls Tryz.prog 122 #[.int .i64 x] w fun e w' => e = .returned (.bool b) ∧ w = w' := by
 go_enter Tryz.func122, Tryz.ntmps122
 go_wp2_with (go_at_call 119; refine (tin_is _ _ _ _ _ hb).mono ?_; rintro e w' ⟨rfl, rfl⟩)
 go_ret
 exact ⟨rfl, rfl⟩
set_option maxHeartbeats 2000000 in
theorem isTrain1_yes (s : Wh) (w : World) (h1 : teethB s.lo = true) (h2 : teethB s.hi = true) :
  Calls Tryz.prog 121 #[.agg s.cells.toArray] w fun e w' => e = .returned (.bool false) ∧ Below w.heap.size w w' := by
 obtain ⟨lo, hi⟩ := s
 unfold Wh.cells
 simp only at h1 h2 ⊢
 go_enter Tryz.func121, Tryz.ntmps121
 go_wp2_with fail
 refine (tisTeeth_is _ _ _ h1).mono ?_
 rintro e w' ⟨rfl, rfl⟩
 go_wp2_with fail
 refine (tisTeeth_is _ _ _ h2).mono ?_
 rintro e w' ⟨rfl, rfl⟩
 go_wp2_with fail
 go_ret
 exact ⟨rfl, fr_alloc (fr_refl _) _⟩
theorem teethP_at {ps : List Wh} (h : TeethP ps) {k : Nat} (hk : k < ps.length) : teethB ps[k].lo = true ∧ teethB ps[k].hi = true := by
 have := h ps[k] (List.getElem_mem hk)
 exact ⟨inB_yes (by omega), inB_yes (by omega)⟩
set_option maxRecDepth 100000 in
set_option maxHeartbeats 4000000 in
theorem index_train (A : Option Addr) (n c : Nat) (l : List Wh) (w : World) (hr : RdS w A 2 (l.map Wh.cells)) (hl : l.length = n) (hn : n ≤ 1000) (ht : TeethP l) :
  Calls Tryz.prog 184 #[.slice A n c, .func (.func 121) #[] #[]] w fun e' w' => e' = .returned (.int .i64 (-1)) ∧ Below w.heap.size w w' := by
 have HL := Lib.hid hl
 clear hl
 go_enter Tryz.func184, Tryz.ntmps184
 go_wp2
 go_loopw [8] (fun i wr => ∃ k : Nat, k ≤ n ∧ i = .int .i64 k ∧ Below w.heap.size w wr) (fun i _ => n - (intOf i).toNat)
 case atStart => exact ⟨0, Nat.zero_le _, rfl, fr_refl _⟩
 case round =>
  obtain ⟨k, hk, rfl, hbel⟩ := hrel
  by_cases hlt : k < n
  ·have hkl : k < l.length := by have := HL.out; omega
   obtain ⟨ad, rfl, hab, hc0, hc1⟩ := whs_at (hr.keep hbel) hkl
   have htk := teethP_at ht hkl
   clear hr
   go_wp2_with fail
   refine (isTrain1_yes _ _ htk.1 htk.2).mono ?_
   rintro e w1 ⟨rfl, hb1⟩
   go_wp2_with fail
   refine ⟨⟨k + 1, hlt, rfl, fr_call hbel hb1⟩, ?_⟩
   simp [intOf]; omega
  ·go_wp2_with fail
   go_ret
   exact ⟨rfl, hbel⟩
set_option maxHeartbeats 2000000 in
theorem contains_train (A : Option Addr) (n c : Nat) (l : List Wh) (w : World) (hr : RdS w A 2 (l.map Wh.cells)) (hl : l.length = n) (hn : n ≤ 1000) (ht : TeethP l) :
  Calls Tryz.prog 120 #[.slice A n c, .func (.func 121) #[] #[]] w fun e' w' => e' = .returned (.bool false) ∧ Below w.heap.size w w' := by
 go_enter Tryz.func120, Tryz.ntmps120
 go_wp2_with fail
 refine (index_train A n c l w hr hl hn ht).mono ?_
 rintro e w1 ⟨rfl, hb1⟩
 go_wp2_with fail
 go_ret
 exact ⟨rfl, hb1⟩
set_option maxHeartbeats 2000000 in
theorem isTrain_yes (A : Option Addr) (n c : Nat) (l : List Wh) (w : World) (hr : RdS w A 2 (l.map Wh.cells)) (hl : l.length = n) (h1 : 1 ≤ n) (hn : n ≤ 3) (ht : TeethP l) :
  Calls Tryz.prog 42 #[.slice A n c] w fun e' w' => e' = .returned (.bool true) ∧ Below w.heap.size w w' := by
 have hi : inB (n : Int) 1 3 = true := inB_yes (by omega)
 go_enter Tryz.func42, Tryz.ntmps42
 go_wp2_with fail
 refine (tin_is _ _ _ _ _ hi).mono ?_
 rintro e w' ⟨rfl, rfl⟩
 go_wp2_with fail
 refine (contains_train A n c l w hr hl (by omega) ht).mono ?_
 rintro e w1 ⟨rfl, hb1⟩
 go_wp2_with fail
 go_ret
 exact ⟨rfl, hb1⟩
def RetT (w : World) (n : Nat) (x y : Int) (e : Ending) (w' : World) : Prop := e = .returned (.tuple #[.agg #[.int .i64 x, .int .i64 y], .bool ((n : Int) % 2 == 0), .int .i64 0]) ∧ Below w.heap.size w w'
theorem results_blk_tmp3 {P : Program} {w : World} {fn : Func} {t u v : Tmp} {ty : TypeId} (h : fn.results = #[.cell t ty, .tmp u, .tmp v]) (tmps : Array Value) (g : Nat) (bt : TypeId) (cs : Array Value) (hp : tmps.getD t undef = .pointer (some ⟨g, 0, none⟩)) (hB : Blk w g bt cs)
  {d : TypeDesc} (hu : P.underlying ty = some d) (hd : d.isRow = true) (hi : (P.info? ty).map (·.size) = some cs.size) : (results fn tmps).run P w = .ok (.tuple #[.agg cs, tmps.getD u undef, tmps.getD v undef]) w := by
 have hr : w.rangeAt g 0 cs.toList := fun j v hv => by
  rw [Nat.zero_add, hB.cell]
  simpa using hv
 have := run_loadVar_mid w g 0 ty cs.toList d hr hu hd (by simpa using hi)
 have hp' : (tmps[t]?).getD undef = .pointer (some ⟨g, 0, none⟩) := by simpa using hp
 rw [Array.toArray_toList] at this
 simp [results, h, hp', asAddr, this]
set_option maxRecDepth 100000 in
set_option maxHeartbeats 4000000 in
theorem tTurns_ok (A : Option Addr) (n c : Nat) (l : List Wh) (w : World) (hr : RdS w A 2 (l.map Wh.cells)) (hl : l.length = n) (h1 : 1 ≤ n) (hn : n ≤ 3) (ht : TeethP l) :
  Calls Tryz.prog 187 #[.slice A n c] w (RetT w n (turnD l : Int) (turnV l : Int)) := by
 have hX := Blk.new w 52 #[.int .i64 0, .int .i64 0]
 have hb0 := fr_alloc (fr_refl w) (.cells #[.int .i64 0, .int .i64 0] 52)
 replace hr := hr.keep hb0
 have HL := Lib.hid hl
 clear hl
 go_enter Tryz.func187, Tryz.ntmps187
 go_wp2_with fail
 refine (isTrain_yes A n c l _ hr HL.out h1 hn ht).mono ?_
 rintro e w1 ⟨rfl, hb1⟩
 replace hX := hX.keep hb1
 replace hr := hr.keep hb1
 replace hb0 := fr_call hb0 hb1
 go_wp2_with fail
 refine (turns_any A n c l w1 hr HL.out hn ht).mono ?_
 rintro e w2 ⟨rfl, hb2⟩
 replace hX := hX.keep hb2
 replace hb0 := fr_call hb0 hb2
 clear hr
 go_wp2_with (refine wpList_store_blk rfl _ _ _ rfl w.heap.size 52 _ _ rfl rfl hX rfl (by kernel_rfl) (by simp [Value.oneCell']) ?_; intro w3 hX3 hg3)
 refine bodyPost_ret (results_blk_tmp3 rfl _ _ _ _ rfl hX3 Tryz.underlying52 rfl (by kernel_rfl)) rfl ?_
 exact ⟨rfl, hb0.grown hg3 hb0.size (by intro k hk; cases hk; exact Nat.le_refl _)⟩
end
end Go.Proofs.YtdocgmafbacjcaaGreatDoor
end

section
namespace Go.Proofs.YtdocgmafbacjcaaGreatDoor
open Go.RowKit

def noDefer (ops : Array Oper) : Bool := ops.toList.all fun o => match o.op with | .defer _ => false | _ => true
theorem noDefer_at {ops : Array Oper} (h : noDefer ops = true) {i : Nat} {o : Oper} (ho : ops[i]? = some o) : ∀ c, o.op ≠ .defer c := fun c e => by
 have h1 := List.all_eq_true.1 h o (by
  rw [Array.mem_toList_iff]
  exact Array.mem_of_getElem? ho)
 rw [e] at h1
 cases h1
section
variable {P : Program} {ops : Array Oper} {Q : Exit → Act → World → Prop} {md : Region.Mode} {l n : Nat}
theorem wpOpIn_of_wpOp (hlo : ¬ LetsOut Q) (hnd : noDefer ops = true) {i : Nat} {K K' : Act → World → Prop} {a : Act} {w : World} (hK : ∀ a w, K a w → K' a w) (h : wpOp P ops Q i K a w) : wpOpIn (Fence.wide.inRound l) n P ops Q i K' a w := by
 unfold wpOp at h
 unfold wpOpIn
 cases ho : ops[i]? with
 | none => rw [ho] at h; exact hK _ _ h
 | some o =>
  rw [ho] at h
  simp only at h ⊢
  by_cases hw : Region.wanted o (yielded ops a.tmps) = true
  ·rw [if_pos hw] at h
   rw [if_pos hw]
   rcases h with h | ⟨_, h⟩
   ·refine ⟨fun _ _ => trivial, ?_⟩
    rw [Fence.inRound_round, Oper.semAt_some l _ o (noDefer_at hnd ho)]
    unfold Oper.wp at h
    generalize (execOp a.eval o).run P w = r at *
    cases r with
    | ok x w' =>
     cases x <;> simp only [Oper.upon, Oper.uponIn] at h ⊢
     case value u => exact hK _ _ h
     case skip => exact hK _ _ h
     case defer d => exact hK _ _ h
     case enter f args =>
      refine ⟨fun h0 => by simp [Fence.wide] at h0, CallsIn.inRound l (callsIn_wide.2 (Calls.mono h fun e w'' he => ?_))⟩
      cases e with
      | returned u => exact hK _ _ he
      | panicked c => exact he
      | outgrown => exact he
     case row row args => exact ⟨fun h0 => by simp [Fence.wide] at h0, fun c cs _ => let ⟨v, w', r, s⟩ := h c cs; ⟨v, w', hK _ _ r, stepsIn_wide.2 s⟩⟩
    | halt x w' =>
     cases x <;> simp only [Oper.upon, Oper.uponIn] at h ⊢
     case panic u => exact h
   ·exact absurd h hlo
  ·rw [if_neg hw] at h
   rw [if_neg hw]
   exact ⟨fun _ _ => trivial, hK _ _ h⟩
theorem wpAnyIn_of_wpAny (hlo : ¬ LetsOut Q) (hnd : noDefer ops = true) : ∀ (fuel : Nat) (listed : Array Bool) (a : Act) (w : World), wpAny P md ops Q fuel listed a w → wpAnyIn (Fence.wide.inRound l) n P md ops Q fuel listed a w
 | 0, _, _, _, h => h
 | fuel + 1, _, _, _, h => ⟨h.1, fun i hi => wpOpIn_of_wpOp hlo hnd (fun a w => wpAnyIn_of_wpAny hlo hnd fuel _ a w) (h.2 i hi)⟩
theorem wpIn_region_round {S : World → Prop} {id : Nat} {a : Act} {w : World} (hm : P.follows .mixedOrders = true) (hlo : ¬ LetsOut Q) (hnd : noDefer ops = true) (hS : S w.drew)
  (h : S w.drew → wpAnyH P .any ops Q S ops.size (Array.replicate ops.size false) a w.drew) : (Code.region id ops true).wpIn (Fence.wide.inRound l) n P Q a w :=
 wpIn_region_any hm (wpAnyIn_of_wpAny hlo hnd _ _ _ _ (wpAny_of_held _ _ _ _ (h hS)))
end
end Go.Proofs.YtdocgmafbacjcaaGreatDoor
end
