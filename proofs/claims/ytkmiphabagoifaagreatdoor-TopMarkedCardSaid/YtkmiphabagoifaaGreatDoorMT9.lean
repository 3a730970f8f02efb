/- Walk, package plate: what is wrong with two wheels. -/
import Derived.Test.YtkmiphabagoifaaGreatDoorMT8
namespace Go.Proofs.YtkmiphabagoifaaGreatDoor
open Go.RowKit
attribute [local go_sem] Oper.semAt_some

def kindN (r0 r1 r2 r3 r4 : Bool) : Int := if r0 = true then 2 else if r1 = true then 3 else if r2 = true then 4 else if r3 = true then 5 else if r4 = true then 6 else 0
set_option maxRecDepth 100000 in
set_option maxHeartbeats 16000000 in
theorem wrong_pair (pw ph pp pg po : Int) (A B M : Option Addr) (n nc m mc k kc a b : Nat) (mp gn : Value) (w : World) (hab : a ≠ b) (r0 r1 r2 r3 r4 : Bool) (h0 : ∀ W, Below w.heap.size w W → Calls Tryz.prog 157 #[.agg #[.int .i64 pw, .int .i64 ph, .int .i64 pp, .int .i64 pg, .int .i64 po, .slice A n nc, .slice B m mc, .slice M k kc, mp, gn], .int .i64 a, .int .i64 b] W fun e w' => e = .returned (.bool r0) ∧ Below W.heap.size W w') (h1 : ∀ W, Below w.heap.size w W → Calls Tryz.prog 158 #[.agg #[.int .i64 pw, .int .i64 ph, .int .i64 pp, .int .i64 pg, .int .i64 po, .slice A n nc, .slice B m mc, .slice M k kc, mp, gn], .int .i64 a, .int .i64 b] W fun e w' => e = .returned (.bool r1) ∧ Below W.heap.size W w') (h2 : ∀ W, Below w.heap.size w W → Calls Tryz.prog 159 #[.agg #[.int .i64 pw, .int .i64 ph, .int .i64 pp, .int .i64 pg, .int .i64 po, .slice A n nc, .slice B m mc, .slice M k kc, mp, gn], .int .i64 a, .int .i64 b] W fun e w' => e = .returned (.bool r2) ∧ Below W.heap.size W w') (h3 : ∀ W, Below w.heap.size w W → Calls Tryz.prog 160 #[.agg #[.int .i64 pw, .int .i64 ph, .int .i64 pp, .int .i64 pg, .int .i64 po, .slice A n nc, .slice B m mc, .slice M k kc, mp, gn], .int .i64 a, .int .i64 b] W fun e w' => e = .returned (.bool r3) ∧ Below W.heap.size W w') (h4 : ∀ W, Below w.heap.size w W → Calls Tryz.prog 161 #[.agg #[.int .i64 pw, .int .i64 ph, .int .i64 pp, .int .i64 pg, .int .i64 po, .slice A n nc, .slice B m mc, .slice M k kc, mp, gn], .int .i64 a, .int .i64 b] W fun e w' => e = .returned (.bool r4) ∧ Below W.heap.size W w') :
  Calls Tryz.prog 92 #[.agg #[.int .i64 pw, .int .i64 ph, .int .i64 pp, .int .i64 pg, .int .i64 po, .slice A n nc, .slice B m mc, .slice M k kc, mp, gn], .int .i64 a, .int .i64 b] w fun e w' => e = .returned (.int .i64 (kindN r0 r1 r2 r3 r4)) ∧ Below w.heap.size w w' := by
 have hmf : ∀ (fn : Fn) (first cap : Array Value) (w : World), (Instr.makeFunc fn first cap).run Tryz.prog w = .ok (.func fn first cap) w := fun _ _ _ _ => rfl
 have hix0 : ∀ w : World, (Instr.index 241 (.agg #[.func (.func 157) #[.agg #[.int .i64 pw, .int .i64 ph, .int .i64 pp, .int .i64 pg, .int .i64 po, .slice A n nc, .slice B m mc, .slice M k kc, mp, gn]] #[], .func (.func 158) #[.agg #[.int .i64 pw, .int .i64 ph, .int .i64 pp, .int .i64 pg, .int .i64 po, .slice A n nc, .slice B m mc, .slice M k kc, mp, gn]] #[], .func (.func 159) #[.agg #[.int .i64 pw, .int .i64 ph, .int .i64 pp, .int .i64 pg, .int .i64 po, .slice A n nc, .slice B m mc, .slice M k kc, mp, gn]] #[], .func (.func 160) #[.agg #[.int .i64 pw, .int .i64 ph, .int .i64 pp, .int .i64 pg, .int .i64 po, .slice A n nc, .slice B m mc, .slice M k kc, mp, gn]] #[], .func (.func 161) #[.agg #[.int .i64 pw, .int .i64 ph, .int .i64 pp, .int .i64 pg, .int .i64 po, .slice A n nc, .slice B m mc, .slice M k kc, mp, gn]] #[]]) (.int .i64 0)).run Tryz.prog w = .ok (.func (.func 157) #[.agg #[.int .i64 pw, .int .i64 ph, .int .i64 pp, .int .i64 pg, .int .i64 po, .slice A n nc, .slice B m mc, .slice M k kc, mp, gn]] #[]) w := fun _ => by kernel_rfl
 have hix1 : ∀ w : World, (Instr.index 241 (.agg #[.func (.func 157) #[.agg #[.int .i64 pw, .int .i64 ph, .int .i64 pp, .int .i64 pg, .int .i64 po, .slice A n nc, .slice B m mc, .slice M k kc, mp, gn]] #[], .func (.func 158) #[.agg #[.int .i64 pw, .int .i64 ph, .int .i64 pp, .int .i64 pg, .int .i64 po, .slice A n nc, .slice B m mc, .slice M k kc, mp, gn]] #[], .func (.func 159) #[.agg #[.int .i64 pw, .int .i64 ph, .int .i64 pp, .int .i64 pg, .int .i64 po, .slice A n nc, .slice B m mc, .slice M k kc, mp, gn]] #[], .func (.func 160) #[.agg #[.int .i64 pw, .int .i64 ph, .int .i64 pp, .int .i64 pg, .int .i64 po, .slice A n nc, .slice B m mc, .slice M k kc, mp, gn]] #[], .func (.func 161) #[.agg #[.int .i64 pw, .int .i64 ph, .int .i64 pp, .int .i64 pg, .int .i64 po, .slice A n nc, .slice B m mc, .slice M k kc, mp, gn]] #[]]) (.int .i64 1)).run Tryz.prog w = .ok (.func (.func 158) #[.agg #[.int .i64 pw, .int .i64 ph, .int .i64 pp, .int .i64 pg, .int .i64 po, .slice A n nc, .slice B m mc, .slice M k kc, mp, gn]] #[]) w := fun _ => by kernel_rfl
 have hix2 : ∀ w : World, (Instr.index 241 (.agg #[.func (.func 157) #[.agg #[.int .i64 pw, .int .i64 ph, .int .i64 pp, .int .i64 pg, .int .i64 po, .slice A n nc, .slice B m mc, .slice M k kc, mp, gn]] #[], .func (.func 158) #[.agg #[.int .i64 pw, .int .i64 ph, .int .i64 pp, .int .i64 pg, .int .i64 po, .slice A n nc, .slice B m mc, .slice M k kc, mp, gn]] #[], .func (.func 159) #[.agg #[.int .i64 pw, .int .i64 ph, .int .i64 pp, .int .i64 pg, .int .i64 po, .slice A n nc, .slice B m mc, .slice M k kc, mp, gn]] #[], .func (.func 160) #[.agg #[.int .i64 pw, .int .i64 ph, .int .i64 pp, .int .i64 pg, .int .i64 po, .slice A n nc, .slice B m mc, .slice M k kc, mp, gn]] #[], .func (.func 161) #[.agg #[.int .i64 pw, .int .i64 ph, .int .i64 pp, .int .i64 pg, .int .i64 po, .slice A n nc, .slice B m mc, .slice M k kc, mp, gn]] #[]]) (.int .i64 2)).run Tryz.prog w = .ok (.func (.func 159) #[.agg #[.int .i64 pw, .int .i64 ph, .int .i64 pp, .int .i64 pg, .int .i64 po, .slice A n nc, .slice B m mc, .slice M k kc, mp, gn]] #[]) w := fun _ => by kernel_rfl
 have hix3 : ∀ w : World, (Instr.index 241 (.agg #[.func (.func 157) #[.agg #[.int .i64 pw, .int .i64 ph, .int .i64 pp, .int .i64 pg, .int .i64 po, .slice A n nc, .slice B m mc, .slice M k kc, mp, gn]] #[], .func (.func 158) #[.agg #[.int .i64 pw, .int .i64 ph, .int .i64 pp, .int .i64 pg, .int .i64 po, .slice A n nc, .slice B m mc, .slice M k kc, mp, gn]] #[], .func (.func 159) #[.agg #[.int .i64 pw, .int .i64 ph, .int .i64 pp, .int .i64 pg, .int .i64 po, .slice A n nc, .slice B m mc, .slice M k kc, mp, gn]] #[], .func (.func 160) #[.agg #[.int .i64 pw, .int .i64 ph, .int .i64 pp, .int .i64 pg, .int .i64 po, .slice A n nc, .slice B m mc, .slice M k kc, mp, gn]] #[], .func (.func 161) #[.agg #[.int .i64 pw, .int .i64 ph, .int .i64 pp, .int .i64 pg, .int .i64 po, .slice A n nc, .slice B m mc, .slice M k kc, mp, gn]] #[]]) (.int .i64 3)).run Tryz.prog w = .ok (.func (.func 160) #[.agg #[.int .i64 pw, .int .i64 ph, .int .i64 pp, .int .i64 pg, .int .i64 po, .slice A n nc, .slice B m mc, .slice M k kc, mp, gn]] #[]) w := fun _ => by kernel_rfl
 have hix4 : ∀ w : World, (Instr.index 241 (.agg #[.func (.func 157) #[.agg #[.int .i64 pw, .int .i64 ph, .int .i64 pp, .int .i64 pg, .int .i64 po, .slice A n nc, .slice B m mc, .slice M k kc, mp, gn]] #[], .func (.func 158) #[.agg #[.int .i64 pw, .int .i64 ph, .int .i64 pp, .int .i64 pg, .int .i64 po, .slice A n nc, .slice B m mc, .slice M k kc, mp, gn]] #[], .func (.func 159) #[.agg #[.int .i64 pw, .int .i64 ph, .int .i64 pp, .int .i64 pg, .int .i64 po, .slice A n nc, .slice B m mc, .slice M k kc, mp, gn]] #[], .func (.func 160) #[.agg #[.int .i64 pw, .int .i64 ph, .int .i64 pp, .int .i64 pg, .int .i64 po, .slice A n nc, .slice B m mc, .slice M k kc, mp, gn]] #[], .func (.func 161) #[.agg #[.int .i64 pw, .int .i64 ph, .int .i64 pp, .int .i64 pg, .int .i64 po, .slice A n nc, .slice B m mc, .slice M k kc, mp, gn]] #[]]) (.int .i64 4)).run Tryz.prog w = .ok (.func (.func 161) #[.agg #[.int .i64 pw, .int .i64 ph, .int .i64 pp, .int .i64 pg, .int .i64 po, .slice A n nc, .slice B m mc, .slice M k kc, mp, gn]] #[]) w := fun _ => by kernel_rfl
 have hb0 := fr_alloc (fr_refl w) (.cells #[.int .i64 pw, .int .i64 ph, .int .i64 pp, .int .i64 pg, .int .i64 po, .slice A n nc, .slice B m mc, .slice M k kc, mp, gn] 151)
 have hX := Blk.new w 151 #[.int .i64 pw, .int .i64 ph, .int .i64 pp, .int .i64 pg, .int .i64 po, .slice A n nc, .slice B m mc, .slice M k kc, mp, gn]
 obtain ⟨w1, hw1⟩ : ∃ w1, w.alloc (.cells #[.int .i64 pw, .int .i64 ph, .int .i64 pp, .int .i64 pg, .int .i64 po, .slice A n nc, .slice B m mc, .slice M k kc, mp, gn] 151) = w1 := ⟨_, rfl⟩
 rw [hw1] at hb0 hX
 have hlX := hX.lt
 have hcX := fun j => hX.cell j
 have q0 : ((a : Int) == (b : Int)) = false := beq_eq_false_iff_ne.2 (by omega)
 clear hab
 go_enter Tryz.func92, Tryz.ntmps92
 go_upto_region 1 with (fail)
 (try rw [hw1])
 clear hw1 hX
 go_wp2_with fail
 go_loopw [26] (fun t wr => ∃ j : Nat, j ≤ 5 ∧ t = .int .i64 j ∧ Hid ((0 < j → r0 = false) ∧ (1 < j → r1 = false) ∧ (2 < j → r2 = false) ∧ (3 < j → r3 = false) ∧ (4 < j → r4 = false)) ∧ Below w1.heap.size w1 wr) (fun t _ => 5 - (intOf t).toNat)
 case atStart => exact ⟨0, Nat.zero_le _, rfl, Lib.hid (by refine ⟨?_, ?_, ?_, ?_, ?_⟩ <;> omega), fr_refl _⟩
 case round =>
  obtain ⟨j, hj, rfl, hall, hbr⟩ := hrel
  have h6 : j = 0 ∨ j = 1 ∨ j = 2 ∨ j = 3 ∨ j = 4 ∨ j = 5 := by omega
  rcases h6 with rfl | rfl | rfl | rfl | rfl | rfl
  ·have hc := h0 _ (fr_call hb0 hbr)
   cases e0 : r0
   ·rw [e0] at hc
    go_wp2_with fail
    refine hc.mono ?_
    rintro e' w3 ⟨rfl, hb3⟩
    go_wp2_with fail
    refine ⟨⟨1, by omega, rfl, Lib.hid (by have h := hall.out; refine ⟨fun _ => ?_, fun _ => ?_, fun _ => ?_, fun _ => ?_, fun _ => ?_⟩ <;> first | rfl | omega | assumption | (exact h.1 (by omega)) | (exact h.2.1 (by omega)) | (exact h.2.2.1 (by omega)) | (exact h.2.2.2.1 (by omega)) | (exact h.2.2.2.2 (by omega)) | trivial), fr_call hbr hb3⟩, ?_⟩
    simp [intOf]
   ·have HK := Lib.hid (show kindN r0 r1 r2 r3 r4 = 2 from by rw [kindN, e0]; rfl)
    rw [e0] at hc
    go_wp2_with fail
    refine hc.mono ?_
    rintro e' w3 ⟨rfl, hb3⟩
    go_wp2_with fail
    go_ret
    exact ⟨by rw [HK.out]; rfl, fr_call hb0 (fr_call hbr hb3)⟩
  ·have hc := h1 _ (fr_call hb0 hbr)
   cases e1 : r1
   ·rw [e1] at hc
    go_wp2_with fail
    refine hc.mono ?_
    rintro e' w3 ⟨rfl, hb3⟩
    go_wp2_with fail
    refine ⟨⟨2, by omega, rfl, Lib.hid (by have h := hall.out; refine ⟨fun _ => ?_, fun _ => ?_, fun _ => ?_, fun _ => ?_, fun _ => ?_⟩ <;> first | rfl | omega | assumption | (exact h.1 (by omega)) | (exact h.2.1 (by omega)) | (exact h.2.2.1 (by omega)) | (exact h.2.2.2.1 (by omega)) | (exact h.2.2.2.2 (by omega)) | trivial), fr_call hbr hb3⟩, ?_⟩
    simp [intOf]
   ·have HK := Lib.hid (show kindN r0 r1 r2 r3 r4 = 3 from by rw [kindN, hall.out.1 (by omega), e1]; rfl)
    rw [e1] at hc
    go_wp2_with fail
    refine hc.mono ?_
    rintro e' w3 ⟨rfl, hb3⟩
    go_wp2_with fail
    go_ret
    exact ⟨by rw [HK.out]; rfl, fr_call hb0 (fr_call hbr hb3)⟩
  ·have hc := h2 _ (fr_call hb0 hbr)
   cases e2 : r2
   ·rw [e2] at hc
    go_wp2_with fail
    refine hc.mono ?_
    rintro e' w3 ⟨rfl, hb3⟩
    go_wp2_with fail
    refine ⟨⟨3, by omega, rfl, Lib.hid (by have h := hall.out; refine ⟨fun _ => ?_, fun _ => ?_, fun _ => ?_, fun _ => ?_, fun _ => ?_⟩ <;> first | rfl | omega | assumption | (exact h.1 (by omega)) | (exact h.2.1 (by omega)) | (exact h.2.2.1 (by omega)) | (exact h.2.2.2.1 (by omega)) | (exact h.2.2.2.2 (by omega)) | trivial), fr_call hbr hb3⟩, ?_⟩
    simp [intOf]
   ·have HK := Lib.hid (show kindN r0 r1 r2 r3 r4 = 4 from by rw [kindN, hall.out.1 (by omega), hall.out.2.1 (by omega), e2]; rfl)
    rw [e2] at hc
    go_wp2_with fail
    refine hc.mono ?_
    rintro e' w3 ⟨rfl, hb3⟩
    go_wp2_with fail
    go_ret
    exact ⟨by rw [HK.out]; rfl, fr_call hb0 (fr_call hbr hb3)⟩
  ·have hc := h3 _ (fr_call hb0 hbr)
   cases e3 : r3
   ·rw [e3] at hc
    go_wp2_with fail
    refine hc.mono ?_
    rintro e' w3 ⟨rfl, hb3⟩
    go_wp2_with fail
    refine ⟨⟨4, by omega, rfl, Lib.hid (by have h := hall.out; refine ⟨fun _ => ?_, fun _ => ?_, fun _ => ?_, fun _ => ?_, fun _ => ?_⟩ <;> first | rfl | omega | assumption | (exact h.1 (by omega)) | (exact h.2.1 (by omega)) | (exact h.2.2.1 (by omega)) | (exact h.2.2.2.1 (by omega)) | (exact h.2.2.2.2 (by omega)) | trivial), fr_call hbr hb3⟩, ?_⟩
    simp [intOf]
   ·have HK := Lib.hid (show kindN r0 r1 r2 r3 r4 = 5 from by rw [kindN, hall.out.1 (by omega), hall.out.2.1 (by omega), hall.out.2.2.1 (by omega), e3]; rfl)
    rw [e3] at hc
    go_wp2_with fail
    refine hc.mono ?_
    rintro e' w3 ⟨rfl, hb3⟩
    go_wp2_with fail
    go_ret
    exact ⟨by rw [HK.out]; rfl, fr_call hb0 (fr_call hbr hb3)⟩
  ·have hc := h4 _ (fr_call hb0 hbr)
   cases e4 : r4
   ·rw [e4] at hc
    go_wp2_with fail
    refine hc.mono ?_
    rintro e' w3 ⟨rfl, hb3⟩
    go_wp2_with fail
    refine ⟨⟨5, by omega, rfl, Lib.hid (by have h := hall.out; refine ⟨fun _ => ?_, fun _ => ?_, fun _ => ?_, fun _ => ?_, fun _ => ?_⟩ <;> first | rfl | omega | assumption | (exact h.1 (by omega)) | (exact h.2.1 (by omega)) | (exact h.2.2.1 (by omega)) | (exact h.2.2.2.1 (by omega)) | (exact h.2.2.2.2 (by omega)) | trivial), fr_call hbr hb3⟩, ?_⟩
    simp [intOf]
   ·have HK := Lib.hid (show kindN r0 r1 r2 r3 r4 = 6 from by rw [kindN, hall.out.1 (by omega), hall.out.2.1 (by omega), hall.out.2.2.1 (by omega), hall.out.2.2.2.1 (by omega), e4]; rfl)
    rw [e4] at hc
    go_wp2_with fail
    refine hc.mono ?_
    rintro e' w3 ⟨rfl, hb3⟩
    go_wp2_with fail
    go_ret
    exact ⟨by rw [HK.out]; rfl, fr_call hb0 (fr_call hbr hb3)⟩
  ·have HK := Lib.hid (show kindN r0 r1 r2 r3 r4 = 0 from by rw [kindN, hall.out.1 (by omega), hall.out.2.1 (by omega), hall.out.2.2.1 (by omega), hall.out.2.2.2.1 (by omega), hall.out.2.2.2.2 (by omega)]; rfl)
   go_wp2_with fail
   go_ret
   exact ⟨by rw [HK.out]; rfl, fr_call hb0 hbr⟩
end Go.Proofs.YtkmiphabagoifaaGreatDoor
