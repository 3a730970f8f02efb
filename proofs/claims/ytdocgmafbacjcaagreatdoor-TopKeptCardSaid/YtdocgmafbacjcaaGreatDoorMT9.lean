/- Walks, package shop: the bill without wheels. Walks, package plate: dividers. Walk, package plate: how the crank goes on with a circle. Walks, package plate: Cuts and Numbers. Walk, package plate: Numbers. Walks, package journeyman: whether a suite is as defined. Plain: a hand that is kept by setting it on some days is off by no more than the limit on each day. Walks, package train: by how much a train goes wrong, for how many turns it is within a limit, how far it is off. -/
import Derived.Test.YtdocgmafbacjcaaGreatDoorMT8
import Derived.BigQuiet
import Derived.Test.YtdocgmafbacjcaaGreatDoorMT3
import Derived.BigRegion
import Derived.Deep.Cut
import Derived.Test.YtdocgmafbacjcaaGreatDoorMT5
import Derived.IntWalk
section
namespace Go.Proofs.YtdocgmafbacjcaaGreatDoor
open Go.RowKit Go.Shelf

set_option maxHeartbeats 2000000 in
theorem index_none (f c : Nat) (w : World) :
  Calls Tryz.prog 174 #[.slice none 0 c, .func (.func f) #[] #[]] w fun e' w' => e' = .returned (.int .i64 (-1)) ∧ w = w' := by
 go_enter Tryz.func174, Tryz.ntmps174
 go_wp2
 go_loopw [8] (fun i wr => i = .int .i64 0 ∧ wr = w) (fun _ _ => 0)
 case atStart => exact ⟨rfl, rfl⟩
 case round =>
  obtain ⟨rfl, rfl⟩ := hrel
  go_wp2_with fail
  go_ret
  exact ⟨rfl, rfl⟩
set_option maxHeartbeats 2000000 in
theorem contains_none (c : Nat) (w : World) :
  Calls Tryz.prog 105 #[.slice none 0 c, .func (.func 225) #[] #[]] w fun e' w' => e' = .returned (.bool false) ∧ w = w' := by
 go_enter Tryz.func105, Tryz.ntmps105
 go_wp2_with fail
 refine (index_none 225 c w).mono ?_
 rintro e w1 ⟨rfl, rfl⟩
 go_wp2_with fail
 go_ret
 exact ⟨rfl, rfl⟩
set_option maxHeartbeats 2000000 in
theorem areTeeth_none (w : World) :
  Calls Tryz.prog 167 #[.slice none 0 0] w fun e' w' => e' = .returned (.bool true) ∧ w = w' := by
 go_enter Tryz.func167, Tryz.ntmps167
 go_wp2_with fail
 refine (contains_none 0 w).mono ?_
 rintro e w1 ⟨rfl, rfl⟩
 go_wp2_with fail
 go_ret
 exact ⟨rfl, rfl⟩
set_option maxHeartbeats 2000000 in
theorem ssum_none (w : World) :
  Calls Tryz.prog 169 #[.slice none 0 0] w fun e' w' => e' = .returned (.int .i64 0) ∧ w = w' := by
 go_enter Tryz.func169, Tryz.ntmps169
 go_wp2_with fail
 go_loopw [3, 8] (fun s i wr => s = .int .i64 0 ∧ i = .int .i64 0 ∧ wr = w) (fun _ _ _ => 0)
 case atStart => exact ⟨rfl, rfl, rfl⟩
 case round =>
  obtain ⟨rfl, rfl, rfl⟩ := hrel
  go_wp2_with fail
  go_ret
  exact ⟨rfl, rfl⟩
set_option maxHeartbeats 2000000 in
theorem up_is (a : Nat) (w : World) (ha : a ≤ 1000000000000) :
  Calls Tryz.prog 168 #[.int .i64 a, .int .i64 100] w fun e' w' => e' = .returned (.int .i64 ((a + 99) / 100 : Nat)) ∧ w = w' := by
 have z1 : IntKind.i64.wrap ((a : Int) + 100) = ((a + 100 : Nat) : Int) := by rw [IntWalk.i64_in _ (by omega)]; omega
 have z2 : IntKind.i64.wrap (((a + 100 : Nat) : Int) - 1) = ((a + 99 : Nat) : Int) := by rw [IntWalk.i64_in _ (by omega)]; omega
 have z3 : ((a + 99 : Nat) : Int).tdiv 100 = (((a + 99) / 100 : Nat) : Int) := rfl
 obtain ⟨p, hp⟩ : ∃ p, a + 100 = p := ⟨_, rfl⟩
 obtain ⟨q, hq⟩ : ∃ q, a + 99 = q := ⟨_, rfl⟩
 obtain ⟨r, hr⟩ : ∃ r, (a + 99) / 100 = r := ⟨_, rfl⟩
 have hr2 : r ≤ 1000000000000 := by omega
 have z4 : IntKind.i64.wrap (r : Int) = (r : Int) := IntWalk.i64_in _ (by omega)
 rw [hr] at z3 ⊢
 rw [hp] at z1 z2
 rw [hq] at z2 z3
 clear hp hq hr
 go_enter Tryz.func168, Tryz.ntmps168
 go_wp2_with fail
 go_ret
 exact ⟨rfl, rfl⟩
set_option maxRecDepth 100000 in
set_option maxHeartbeats 8000000 in
theorem bill_none (br hr wg pc : Nat) (w : World) (h1 : br ≤ 1000) (h2 : hr ≤ 40) (h3 : wg ≤ 100) (h4 : pc ≤ 100) :
  Calls Tryz.prog 95 #[.agg #[.slice none 0 0, .int .i64 br, .int .i64 hr, .int .i64 wg, .int .i64 pc, .int .i64 0]] w fun e' w' => ∃ x y, e' = .returned (.tuple #[x, y, .int .i64 0]) ∧ Below w.heap.size w w' := by
 have hb0 := fr_alloc (fr_refl w) (.cells #[.slice none 0 0, .int .i64 br, .int .i64 hr, .int .i64 wg, .int .i64 pc, .int .i64 0] 69)
 have hX := Blk.new w 69 #[.slice none 0 0, .int .i64 br, .int .i64 hr, .int .i64 wg, .int .i64 pc, .int .i64 0]
 obtain ⟨w1, hw1⟩ : ∃ w1, w.alloc (.cells #[.slice none 0 0, .int .i64 br, .int .i64 hr, .int .i64 wg, .int .i64 pc, .int .i64 0] 69) = w1 := ⟨_, rfl⟩
 rw [hw1] at hb0 hX
 have hcX := fun j => hX.cell j
 have hlX := hX.lt
 have a1 : inB (br : Int) 0 1000 = true := inB_yes (by omega)
 have a2 : inB (hr : Int) 0 40 = true := inB_yes (by omega)
 have a3 : inB (wg : Int) 0 100 = true := inB_yes (by omega)
 have a4 : inB (pc : Int) 0 100 = true := inB_yes (by omega)
 have a5 : inB 0 0 1000000 = true := by decide
 go_enter Tryz.func95, Tryz.ntmps95
 go_upto_region 1 with (fail)
 (try rw [hw1])
 clear hw1
 go_wp2_with fail
 refine (areTeeth_none _).mono ?_
 rintro e w' ⟨rfl, rfl⟩
 go_wp2_with fail
 refine (sin_is _ _ _ _ _ a1).mono ?_
 rintro e w' ⟨rfl, rfl⟩
 go_wp2_with fail
 refine (sin_is _ _ _ _ _ a2).mono ?_
 rintro e w' ⟨rfl, rfl⟩
 go_wp2_with fail
 refine (sin_is _ _ _ _ _ a3).mono ?_
 rintro e w' ⟨rfl, rfl⟩
 go_wp2_with fail
 refine (sin_is _ _ _ _ _ a4).mono ?_
 rintro e w' ⟨rfl, rfl⟩
 go_wp2_with fail
 refine (sin_is _ _ _ _ _ a5).mono ?_
 rintro e w' ⟨rfl, rfl⟩
 clear a1 a2 a3 a4 a5
 go_wp2_with fail
 go_loopw [5, 47] (fun s i wr => s = .slice none 0 0 ∧ i = .int .i64 0 ∧ wr = w1) (fun _ _ _ => 0)
 case atStart => exact ⟨rfl, rfl, rfl⟩
 case round =>
  obtain ⟨rfl, rfl, rfl⟩ := hrel
  obtain ⟨C, hC⟩ : ∃ C, hr * wg = C := ⟨_, rfl⟩
  have hC1 : C ≤ 40 * 100 := by rw [← hC]; exact Nat.mul_le_mul h2 h3
  have hCi : (hr : Int) * (wg : Int) = (C : Int) := by rw [← Int.natCast_mul, hC]
  obtain ⟨D, hD⟩ : ∃ D, C * pc = D := ⟨_, rfl⟩
  have hD1 : D ≤ 4000 * 100 := by rw [← hD]; exact Nat.mul_le_mul hC1 h4
  have hDi : (C : Int) * (pc : Int) = (D : Int) := by rw [← Int.natCast_mul, hD]
  have z1 : IntKind.i64.wrap ((hr : Int) * (wg : Int)) = (C : Int) := by rw [hCi]; exact IntWalk.i64_in _ (by omega)
  have z2 : IntKind.i64.wrap ((C : Int) * (pc : Int)) = (D : Int) := by rw [hDi]; exact IntWalk.i64_in _ (by omega)
  have z0 : IntKind.i64.wrap 0 = 0 := rfl
  have z3 : IntKind.i64.wrap (C : Int) = (C : Int) := IntWalk.i64_in _ (by omega)
  have u0 : ∀ W, Calls Tryz.prog 168 #[.int .i64 0, .int .i64 100] W fun e' w' => e' = .returned (.int .i64 0) ∧ W = w' := fun W => up_is 0 W (by omega)
  have u1 := fun W => up_is D W (by omega)
  obtain ⟨E, hE⟩ : ∃ E, (D + 99) / 100 = E := ⟨_, rfl⟩
  rw [hE] at u1
  have hE1 : E ≤ 5000 := by omega
  have z4 : IntKind.i64.wrap ((C : Int) + (E : Int)) = (C : Int) + (E : Int) := IntWalk.i64_in _ (by omega)
  clear hC hCi hD hDi hE h1 h2 h3 h4
  go_wp2_with fail
  go_quiet ((first | (go_at_call 169; exact quiet_left (ssum_none _)) | (go_at_call 168; exact quiet_left (u0 _))))
  have hXq := hX.keep (fr_drewN (fr_refl _) nq)
  have hcXq := fun j => hXq.cell j
  have hlXq := hXq.lt
  clear hcX hlX
  go_wp2_with fail
  refine (u1 _).mono ?_
  rintro e w' ⟨rfl, rfl⟩
  go_wp2_with fail
  have hbq := fr_drewN hb0 nq
  clear hXq
  generalize wr.drewN nq = wq at *
  go_quiet (fail)
  go_wp2_with fail
  go_ret3
  exact ⟨_, _, rfl, fr_drewN hbq nq⟩
end Go.Proofs.YtdocgmafbacjcaaGreatDoor
end

section
namespace Go.Proofs.YtdocgmafbacjcaaGreatDoor
open Go.RowKit

set_option maxHeartbeats 2000000 in
theorem isCount_is (x : Int) (w : World) (b : Bool) (hb : inB x 1 400 = b) :
  Calls Tryz.prog 175 #[.int .i64 x] w fun e w' => e = .returned (.bool b) ∧ w = w' := by
 go_enter Tryz.func175, Tryz.ntmps175
 go_wp2_with fail
 refine (pin_is _ _ _ _ _ hb).mono ?_
 rintro e w' ⟨rfl, rfl⟩
 go_wp2_with fail
 go_ret
 exact ⟨rfl, rfl⟩
set_option maxHeartbeats 2000000 in
theorem isDivider1_yes (x : Int) (w : World) (h1 : inB x 1 120 = true) :
  Calls Tryz.prog 219 #[.int .i64 x] w fun e w' => e = .returned (.bool false) ∧ w = w' := by
 go_enter Tryz.func219, Tryz.ntmps219
 go_wp2_with fail
 refine (pin_is _ _ _ _ _ h1).mono ?_
 rintro e w' ⟨rfl, rfl⟩
 go_wp2_with fail
 go_ret
 exact ⟨rfl, rfl⟩
/-- numbers of holes -/
def HolesOk (l : List Int) : Prop := ∀ x ∈ l, 1 ≤ x ∧ x ≤ 120
set_option maxRecDepth 100000 in
set_option maxHeartbeats 4000000 in
theorem index_div (A : Option Addr) (n c : Nat) (l : List Int) (w : World) (hr : Rd w A n l) (hn : n ≤ 1000) (ht : HolesOk l) :
  Calls Tryz.prog 174 #[.slice A n c, .func (.func 219) #[] #[]] w fun e' w' => e' = .returned (.int .i64 (-1)) ∧ w = w' := by
 have HL := Lib.hid hr.len
 go_enter Tryz.func174, Tryz.ntmps174
 go_wp2
 go_loopw [8] (fun i wr => ∃ k : Nat, k ≤ n ∧ i = .int .i64 k ∧ wr = w) (fun i _ => n - (intOf i).toNat)
 case atStart => exact ⟨0, Nat.zero_le _, rfl, rfl⟩
 case round =>
  obtain ⟨k, hk, rfl, rfl⟩ := hrel
  by_cases hlt : k < n
  ·have hkl : k < l.length := by have := HL.out; omega
   obtain ⟨ad, rfl, hab, hc0⟩ := hr.at_ hlt
   have htk : inB (l[k]?.getD 0) 1 120 = true := by
    rw [show l[k]?.getD 0 = l[k] by simp [hkl]]
    exact inB_yes (ht _ (List.getElem_mem hkl))
   generalize l[k]?.getD 0 = y at *
   clear hr
   go_wp2_with fail
   refine (isDivider1_yes _ _ htk).mono ?_
   rintro e w1 ⟨rfl, rfl⟩
   go_wp2_with fail
   refine ⟨⟨k + 1, hlt, rfl, trivial⟩, ?_⟩
   simp [intOf]; omega
  ·go_wp2_with fail
   go_ret
   exact ⟨rfl, rfl⟩
set_option maxHeartbeats 2000000 in
theorem contains_div (A : Option Addr) (n c : Nat) (l : List Int) (w : World) (hr : Rd w A n l) (hn : n ≤ 1000) (ht : HolesOk l) :
  Calls Tryz.prog 105 #[.slice A n c, .func (.func 219) #[] #[]] w fun e' w' => e' = .returned (.bool false) ∧ w = w' := by
 go_enter Tryz.func105, Tryz.ntmps105
 go_wp2_with fail
 refine (index_div A n c l w hr hn ht).mono ?_
 rintro e w1 ⟨rfl, rfl⟩
 go_wp2_with fail
 go_ret
 exact ⟨rfl, rfl⟩
set_option maxRecDepth 100000 in
set_option maxHeartbeats 4000000 in
theorem isDivider_yes (wm : Int) (A : Option Addr) (n c : Nat) (l : List Int) (w : World) (hr : Rd w A n l) (hn : 1 ≤ n ∧ n ≤ 6) (hw : 1 ≤ wm ∧ wm ≤ 60) (ht : HolesOk l) :
  Calls Tryz.prog 160 #[.agg #[.int .i64 wm, .slice A n c]] w fun e' w' => e' = .returned (.bool true) ∧ Below w.heap.size w w' := by
 have hb0 := fr_alloc (fr_refl w) (.cells #[.int .i64 wm, .slice A n c] 28)
 have hX := Blk.new w 28 #[.int .i64 wm, .slice A n c]
 have hcX := fun j => hX.cell j
 have h1 : inB wm 1 60 = true := inB_yes hw
 have h2 : inB (n : Int) 1 6 = true := inB_yes (by omega)
 have hc := contains_div A n c l _ (hr.keep hb0) (by omega) ht
 clear hr ht hw
 go_enter Tryz.func160, Tryz.ntmps160
 go_wp2_with fail
 refine (pin_is _ _ _ _ _ h1).mono ?_
 rintro e w' ⟨rfl, rfl⟩
 go_wp2_with fail
 refine (pin_is _ _ _ _ _ h2).mono ?_
 rintro e w' ⟨rfl, rfl⟩
 go_wp2_with fail
 refine hc.mono ?_
 rintro e w' ⟨rfl, rfl⟩
 go_wp2_with fail
 go_ret
 exact ⟨rfl, hb0⟩
end Go.Proofs.YtdocgmafbacjcaaGreatDoor
end

section
namespace Go.Proofs.YtdocgmafbacjcaaGreatDoor
open Go.RowKit

set_option maxRecDepth 100000 in
set_option maxHeartbeats 8000000 in
theorem cuts_is (wm : Nat) (A : Option Addr) (n c i t hN : Nat) (l : List Int) (w : World) (hr : Rd w A n l) (_hn : n ≤ 6) (hw : wm ≤ 60) (hi : i < n) (hh : l[i]?.getD 0 = (hN : Int)) (hh2 : 1 ≤ hN ∧ hN ≤ 120) (ht : 1 ≤ t ∧ t ≤ 400) :
  Calls Tryz.prog 176 #[.agg #[.int .i64 wm, .slice A n c], .int .i64 i, .int .i64 t] w fun e' w' => e' = .returned (.tuple #[.agg #[.int .i64 i, .int .i64 (wm * hN / t / hN : Nat), .int .i64 (wm * hN / t % hN : Nat)], .bool (wm * hN % t == 0)]) ∧ Below w.heap.size w w' := by
 have hb0 := fr_alloc (fr_alloc (fr_refl w) (.cells #[.int .i64 wm, .slice A n c] 28)) (.cells #[.int .i64 0, .int .i64 0, .int .i64 0] 200)
 have hX := (Blk.new w 28 #[.int .i64 wm, .slice A n c]).alloc (.cells #[.int .i64 0, .int .i64 0, .int .i64 0] 200)
 have hZ : Blk ((w.alloc (.cells #[.int .i64 wm, .slice A n c] 28)).alloc (.cells #[.int .i64 0, .int .i64 0, .int .i64 0] 200)) (w.heap.size + 1) 200 #[.int .i64 0, .int .i64 0, .int .i64 0] := Blk.new_at _ _ (by simp)
 obtain ⟨w1, hw1⟩ : ∃ w1, (w.alloc (.cells #[.int .i64 wm, .slice A n c] 28)).alloc (.cells #[.int .i64 0, .int .i64 0, .int .i64 0] 200) = w1 := ⟨_, rfl⟩
 rw [hw1] at hb0 hX hZ
 replace hr := hr.keep hb0
 obtain ⟨ad, rfl, hab, ca⟩ := hr.at_ hi
 rw [hh] at ca
 have hN1 : wm * hN ≤ 60 * 120 := Nat.mul_le_mul hw hh2.2
 obtain ⟨N, hNe⟩ : ∃ N, wm * hN = N := ⟨_, rfl⟩
 have hNi : (wm : Int) * (hN : Int) = (N : Int) := by rw [← Int.natCast_mul, hNe]
 rw [hNe] at hN1 ⊢
 have d1 : N / t ≤ N := Nat.div_le_self _ _
 have d2 : N / t / hN ≤ N / t := Nat.div_le_self _ _
 have d3 : N / t % hN < hN := Nat.mod_lt _ (by omega)
 have d4 : N % t < t := Nat.mod_lt _ (by omega)
 have z0 : IntKind.i64.wrap ((wm : Int) * (hN : Int)) = (N : Int) := by rw [hNi]; exact IntWalk.i64_in _ (by omega)
 have z1 : (N : Int).tdiv (t : Int) = ((N / t : Nat) : Int) := rfl
 obtain ⟨q, hq⟩ : ∃ q, N / t = q := ⟨_, rfl⟩
 rw [hq] at z1 d1 d2 d3 ⊢
 have z2 : (q : Int).tdiv (hN : Int) = ((q / hN : Nat) : Int) := rfl
 have z3 : (q : Int).tmod (hN : Int) = ((q % hN : Nat) : Int) := rfl
 have z4 : (N : Int).tmod (t : Int) = ((N % t : Nat) : Int) := rfl
 obtain ⟨u, hu⟩ : ∃ u, q / hN = u := ⟨_, rfl⟩
 obtain ⟨v, hv⟩ : ∃ v, q % hN = v := ⟨_, rfl⟩
 obtain ⟨s, hs⟩ : ∃ s, N % t = s := ⟨_, rfl⟩
 rw [hu] at z2 d2 ⊢
 rw [hv] at z3 d3 ⊢
 rw [hs] at z4 d4 ⊢
 have y1 : IntKind.i64.wrap (q : Int) = (q : Int) := IntWalk.i64_in _ (by omega)
 have y2 : IntKind.i64.wrap (u : Int) = (u : Int) := IntWalk.i64_in _ (by omega)
 have y3 : IntKind.i64.wrap (v : Int) = (v : Int) := IntWalk.i64_in _ (by omega)
 have y4 : IntKind.i64.wrap (s : Int) = (s : Int) := IntWalk.i64_in _ (by omega)
 have n1 : ¬ (t : Int) = 0 := by omega
 have n2 : ¬ (hN : Int) = 0 := by omega
 have n3 : ((t : Int) == 0) = false := beq_eq_false_iff_ne.2 n1
 have n4 : ((hN : Int) == 0) = false := beq_eq_false_iff_ne.2 n2
 have i1 : 0 ≤ (i : Int) := by omega
 have i2 : (i : Int) < (n : Int) := by omega
 have hlX := hX.lt
 have hcX := fun j => hX.cell j
 have hcZ := fun j => hZ.cell j
 have hfZ := fun j => hZ.frozen j
 have z5 : ((s : Int) == 0) = (s == 0) := by cases s <;> rfl
 have HZ5 := Lib.hid z5
 have HN := Lib.hid (And.intro (((hZ.set_ 0 (.int .i64 i)).set_ 1 (.int .i64 u)).set_ 2 (.int .i64 v)).drew (fr_call (Below.setCell (p := ⟨w.heap.size + 1, 2, none⟩) (Below.setCell (p := ⟨w.heap.size + 1, 1, none⟩) (Below.setCell (p := ⟨w.heap.size + 1, 0, none⟩) hb0 (Nat.le_succ _) (.int .i64 i)) (Nat.le_succ _) (.int .i64 u)) (Nat.le_succ _) (.int .i64 v)) (fr_drew (fr_refl _))))
 clear hh hr hNe hNi hq hu hv hs z5
 go_enter Tryz.func176, Tryz.ntmps176
 go_upto_region 1 with (fail)
 (try rw [hw1])
 clear hw1
 go_upto_region 3 with (fail)
 go_region
 all_goals
  go_wp2_with fail
  refine bodyPost_ret (results_blk_tmp rfl _ _ _ _ rfl HN.out.1 Tryz.underlying200 rfl (by kernel_rfl)) rfl ?_
  exact ⟨by rw [← HZ5.out]; rfl, HN.out.2⟩
end Go.Proofs.YtdocgmafbacjcaaGreatDoor
end

section
namespace Go.Proofs.YtdocgmafbacjcaaGreatDoor
open Go.RowKit Go.Shelf

/-- how many holes a circle has -/
def holeN (l : List Int) (i : Nat) : Nat := (l[i]?.getD 0).toNat
def cutOk (wm : Nat) (l : List Int) (t i : Nat) : Bool := wm * holeN l i % t == 0
theorem hole_at {l : List Int} (h : HolesOk l) {i : Nat} (hi : i < l.length) : l[i]?.getD 0 = (holeN l i : Int) ∧ 1 ≤ holeN l i ∧ holeN l i ≤ 120 := by
 have hm := h _ (List.getElem_mem hi)
 have e : l[i]?.getD 0 = l[i] := by simp [hi]
 unfold holeN
 rw [e]
 omega
set_option maxRecDepth 100000 in
set_option maxHeartbeats 8000000 in
theorem Cuts_ok (wm : Nat) (A : Option Addr) (n c t k : Nat) (l : List Int) (w : World) (hr : Rd w A n l) (hn : 1 ≤ n ∧ n ≤ 6) (hw : 1 ≤ wm ∧ wm ≤ 60) (ht : 1 ≤ t ∧ t ≤ 400) (hl : HolesOk l) (hk : k < n) (hyes : cutOk wm l t k = true) (hno : ∀ j, j < k → cutOk wm l t j = false) :
  Calls Tryz.prog 110 #[.agg #[.int .i64 wm, .slice A n c], .int .i64 t] w fun e' w' => e' = .returned (.tuple #[.agg #[.int .i64 k, .int .i64 (wm * holeN l k / t / holeN l k : Nat), .int .i64 (wm * holeN l k / t % holeN l k : Nat)], .int .i64 0]) ∧ Below w.heap.size w w' := by
 have hb0 := fr_alloc (fr_alloc (fr_refl w) (.cells #[.int .i64 wm, .slice A n c] 28)) (.cells #[.int .i64 0, .int .i64 0, .int .i64 0] 200)
 have hX := (Blk.new w 28 #[.int .i64 wm, .slice A n c]).alloc (.cells #[.int .i64 0, .int .i64 0, .int .i64 0] 200)
 have hZ : Blk ((w.alloc (.cells #[.int .i64 wm, .slice A n c] 28)).alloc (.cells #[.int .i64 0, .int .i64 0, .int .i64 0] 200)) (w.heap.size + 1) 200 #[.int .i64 0, .int .i64 0, .int .i64 0] := Blk.new_at _ _ (by simp)
 obtain ⟨w1, hw1⟩ : ∃ w1, (w.alloc (.cells #[.int .i64 wm, .slice A n c] 28)).alloc (.cells #[.int .i64 0, .int .i64 0, .int .i64 0] 200) = w1 := ⟨_, rfl⟩
 rw [hw1] at hb0 hX hZ
 replace hr := hr.keep hb0
 have HLN := Lib.hid hr.len
 have hcX := fun j => hX.cell j
 have hlX := hX.lt
 have hlZ := hZ.lt
 have a1 : inB (t : Int) 1 400 = true := inB_yes (by omega)
 have hdv := isDivider_yes wm A n c l w1 hr hn (by omega) hl
 go_enter Tryz.func110, Tryz.ntmps110
 go_upto_region 1 with (fail)
 (try rw [hw1])
 clear hw1
 go_wp2_with fail
 refine hdv.mono ?_
 rintro e w2 ⟨rfl, hb2⟩
 have hX2 := hX.keep hb2
 have hZ2 := hZ.keep hb2
 replace hr := hr.keep hb2
 replace hb0 := fr_call hb0 hb2
 have hs2 := hb2.size
 clear hcX hX hZ hdv hb2
 have hcX := fun j => hX2.cell j
 have hlX2 := hX2.lt
 have hlZ2 := hZ2.lt
 go_wp2_with fail
 refine (isCount_is _ _ _ a1).mono ?_
 rintro e w' ⟨rfl, rfl⟩
 go_wp2_with fail
 clear a1 hcX hlX hlZ
 go_loopw [21] (fun u wr => ∃ j : Nat, j ≤ k ∧ u = .int .i64 j ∧ Below w2.heap.size w2 wr) (fun u _ => n - (intOf u).toNat)
 case atStart => exact ⟨0, Nat.zero_le _, rfl, fr_refl _⟩
 case round =>
  obtain ⟨j, hj, rfl, hbr⟩ := hrel
  by_cases hlt : j < k
  ·have hjn : j < n := by omega
   obtain ⟨hh, hh2⟩ := hole_at hl (i := j) (by have := HLN.out; omega)
   have hXr := hX2.keep hbr
   have hcX := fun j => hXr.cell j
   have hlXr := hXr.lt
   have hct := cuts_is wm A n c j t (holeN l j) l wr (hr.keep hbr) hn.2 hw.2 hjn hh hh2 ht
   have hcb : (wm * holeN l j % t == 0) = cutOk wm l t j := rfl
   rw [hcb] at hct
   have i1 : (j : Int) < (n : Int) := by omega
   rw [hno j (by omega)] at hct
   generalize wm * holeN l j / t / holeN l j = q1 at *
   generalize wm * holeN l j / t % holeN l j = q2 at *
   clear hl hh hh2 hr hcb
   go_wp2_with fail
   refine hct.mono ?_
   rintro e w4 ⟨rfl, hb4⟩
   go_upto_region 7 with (refine wpList_store_blk rfl _ _ _ rfl w4.heap.size 200 _ _ rfl rfl (Blk.new w4 _ _) rfl (by kernel_rfl) (by simp [Value.oneCell']) ?_; intro w5 hQ hgQ)
   have hb5 : Below w4.heap.size w4 w5 := (fr_alloc (fr_refl w4) _).grown hgQ (fr_alloc (fr_refl w4) _).size (by intro k hk; cases hk; exact Nat.le_refl _)
   go_wp2_with fail
   refine ⟨⟨j + 1, by omega, rfl, fr_call hbr (fr_call hb4 hb5)⟩, ?_⟩
   simp [intOf]; omega
  ·obtain rfl : j = k := by omega
   obtain ⟨hh, hh2⟩ := hole_at hl (i := j) (by have := HLN.out; omega)
   have hXr := hX2.keep hbr
   have hcX := fun j => hXr.cell j
   have hlXr := hXr.lt
   have hct := cuts_is wm A n c j t (holeN l j) l wr (hr.keep hbr) hn.2 hw.2 hk hh hh2 ht
   have hcb : (wm * holeN l j % t == 0) = cutOk wm l t j := rfl
   rw [hcb, hyes] at hct
   have i1 : (j : Int) < (n : Int) := by omega
   obtain ⟨q1, hq1⟩ : ∃ q, wm * holeN l j / t / holeN l j = q := ⟨_, rfl⟩
   obtain ⟨q2, hq2⟩ : ∃ q, wm * holeN l j / t % holeN l j = q := ⟨_, rfl⟩
   rw [hq1, hq2] at hct
   have HQ1 := Lib.hid hq1
   have HQ2 := Lib.hid hq2
   clear hq1 hq2
   clear hl hh hh2 hr hcb
   go_wp2_with fail
   refine hct.mono ?_
   rintro e w4 ⟨rfl, hb4⟩
   go_upto_region 7 with (refine wpList_store_blk rfl _ _ _ rfl w4.heap.size 200 _ _ rfl rfl (Blk.new w4 _ _) rfl (by kernel_rfl) (by simp [Value.oneCell']) ?_; intro w5 hQ hgQ)
   have hb5 : Below w4.heap.size w4 w5 := (fr_alloc (fr_refl w4) _).grown hgQ (fr_alloc (fr_refl w4) _).size (by intro k hk; cases hk; exact Nat.le_refl _)
   have hb6 := fr_call hbr (fr_call hb4 hb5)
   have hZ6 := hZ2.keep hb6
   have hcQ := fun j => hQ.cell j
   have hlQ := hQ.lt
   go_wp2_with (refine wpList_store_blk rfl _ _ _ rfl (w.heap.size + 1) 200 _ _ rfl rfl hZ6 rfl (by kernel_rfl) (by simp [Value.oneCell']) ?_; intro w7 hR hgR)
   refine bodyPost_ret (results_blk_tmp rfl _ _ _ _ rfl hR Tryz.underlying200 rfl (by kernel_rfl)) rfl ?_
   have hbt := fr_call hb0 hb6
   exact ⟨by rw [HQ1.out, HQ2.out]; rfl, hbt.grown hgR hbt.size (by intro i h; cases h; exact Nat.le_succ _)⟩
set_option maxRecDepth 100000 in
set_option maxHeartbeats 8000000 in
theorem Cuts_none (wm : Nat) (A : Option Addr) (n c t : Nat) (l : List Int) (w : World) (hr : Rd w A n l) (hn : 1 ≤ n ∧ n ≤ 6) (hw : 1 ≤ wm ∧ wm ≤ 60) (ht : 1 ≤ t ∧ t ≤ 400) (hl : HolesOk l) (hno : ∀ j, j < n → cutOk wm l t j = false) :
  Calls Tryz.prog 110 #[.agg #[.int .i64 wm, .slice A n c], .int .i64 t] w fun e' w' => e' = .returned (.tuple #[.agg #[.int .i64 0, .int .i64 0, .int .i64 0], .int .i64 5]) ∧ Below w.heap.size w w' := by
 have hb0 := fr_alloc (fr_alloc (fr_refl w) (.cells #[.int .i64 wm, .slice A n c] 28)) (.cells #[.int .i64 0, .int .i64 0, .int .i64 0] 200)
 have hX := (Blk.new w 28 #[.int .i64 wm, .slice A n c]).alloc (.cells #[.int .i64 0, .int .i64 0, .int .i64 0] 200)
 have hZ : Blk ((w.alloc (.cells #[.int .i64 wm, .slice A n c] 28)).alloc (.cells #[.int .i64 0, .int .i64 0, .int .i64 0] 200)) (w.heap.size + 1) 200 #[.int .i64 0, .int .i64 0, .int .i64 0] := Blk.new_at _ _ (by simp)
 obtain ⟨w1, hw1⟩ : ∃ w1, (w.alloc (.cells #[.int .i64 wm, .slice A n c] 28)).alloc (.cells #[.int .i64 0, .int .i64 0, .int .i64 0] 200) = w1 := ⟨_, rfl⟩
 rw [hw1] at hb0 hX hZ
 replace hr := hr.keep hb0
 have HLN := Lib.hid hr.len
 have hcX := fun j => hX.cell j
 have hlX := hX.lt
 have hlZ := hZ.lt
 have a1 : inB (t : Int) 1 400 = true := inB_yes (by omega)
 have hdv := isDivider_yes wm A n c l w1 hr hn (by omega) hl
 go_enter Tryz.func110, Tryz.ntmps110
 go_upto_region 1 with (fail)
 (try rw [hw1])
 clear hw1
 go_wp2_with fail
 refine hdv.mono ?_
 rintro e w2 ⟨rfl, hb2⟩
 have hX2 := hX.keep hb2
 have hZ2 := hZ.keep hb2
 replace hr := hr.keep hb2
 replace hb0 := fr_call hb0 hb2
 have hs2 := hb2.size
 clear hcX hX hZ hdv hb2
 have hcX := fun j => hX2.cell j
 have hlX2 := hX2.lt
 have hlZ2 := hZ2.lt
 go_wp2_with fail
 refine (isCount_is _ _ _ a1).mono ?_
 rintro e w' ⟨rfl, rfl⟩
 go_wp2_with fail
 clear a1 hcX hlX hlZ
 go_loopw [21] (fun u wr => ∃ j : Nat, j ≤ n ∧ u = .int .i64 j ∧ Below w2.heap.size w2 wr) (fun u _ => n - (intOf u).toNat)
 case atStart => exact ⟨0, Nat.zero_le _, rfl, fr_refl _⟩
 case round =>
  obtain ⟨j, hj, rfl, hbr⟩ := hrel
  by_cases hlt : j < n
  ·have hjn : j < n := by omega
   obtain ⟨hh, hh2⟩ := hole_at hl (i := j) (by have := HLN.out; omega)
   have hXr := hX2.keep hbr
   have hcX := fun j => hXr.cell j
   have hlXr := hXr.lt
   have hct := cuts_is wm A n c j t (holeN l j) l wr (hr.keep hbr) hn.2 hw.2 hjn hh hh2 ht
   have hcb : (wm * holeN l j % t == 0) = cutOk wm l t j := rfl
   rw [hcb] at hct
   have i1 : (j : Int) < (n : Int) := by omega
   rw [hno j (by omega)] at hct
   generalize wm * holeN l j / t / holeN l j = q1 at *
   generalize wm * holeN l j / t % holeN l j = q2 at *
   clear hl hh hh2 hr hcb
   go_wp2_with fail
   refine hct.mono ?_
   rintro e w4 ⟨rfl, hb4⟩
   go_upto_region 7 with (refine wpList_store_blk rfl _ _ _ rfl w4.heap.size 200 _ _ rfl rfl (Blk.new w4 _ _) rfl (by kernel_rfl) (by simp [Value.oneCell']) ?_; intro w5 hQ hgQ)
   have hb5 : Below w4.heap.size w4 w5 := (fr_alloc (fr_refl w4) _).grown hgQ (fr_alloc (fr_refl w4) _).size (by intro k hk; cases hk; exact Nat.le_refl _)
   go_wp2_with fail
   refine ⟨⟨j + 1, by omega, rfl, fr_call hbr (fr_call hb4 hb5)⟩, ?_⟩
   simp [intOf]; omega
  ·obtain rfl : j = n := by omega
   have hZ6 := hZ2.keep hbr
   go_wp2_with (refine wpList_store_blk rfl _ _ _ rfl (w.heap.size + 1) 200 _ _ rfl rfl hZ6 rfl (by kernel_rfl) (by simp [Value.oneCell']) ?_; intro w7 hR hgR)
   refine bodyPost_ret (results_blk_tmp rfl _ _ _ _ rfl hR Tryz.underlying200 rfl (by kernel_rfl)) rfl ?_
   have hbt := fr_call hb0 hbr
   exact ⟨rfl, hbt.grown hgR hbt.size (by intro i h; cases h; exact Nat.le_succ _)⟩
theorem Cuts_any (wm : Nat) (A : Option Addr) (n c t : Nat) (l : List Int) (w : World) (hr : Rd w A n l) (hn : 1 ≤ n ∧ n ≤ 6) (hw : 1 ≤ wm ∧ wm ≤ 60) (ht : 1 ≤ t ∧ t ≤ 400) (hl : HolesOk l) :
  ∃ (x y z : Int) (b : Bool), Calls Tryz.prog 110 #[.agg #[.int .i64 wm, .slice A n c], .int .i64 t] w fun e' w' => e' = .returned (.tuple #[.agg #[.int .i64 x, .int .i64 y, .int .i64 z], .int .i64 (if b = true then 0 else 5)]) ∧ Below w.heap.size w w' := by
 by_cases h : ∃ k, k < n ∧ cutOk wm l t k = true
 ·obtain ⟨k, ⟨hk, hy⟩, hmin⟩ : ∃ k, (k < n ∧ cutOk wm l t k = true) ∧ ∀ j, j < k → cutOk wm l t j = false := by
   obtain ⟨k0, h0⟩ := h
   induction k0 using Nat.strongRecOn with
   | ind k0 ih =>
    by_cases h2 : ∃ j, j < k0 ∧ cutOk wm l t j = true
    ·obtain ⟨j, hj, hc⟩ := h2
     exact ih j hj ⟨by omega, hc⟩
    ·exact ⟨k0, h0, fun j hj => by
      cases hc : cutOk wm l t j with
      | false => rfl
      | true => exact absurd ⟨j, hj, hc⟩ h2⟩
  exact ⟨_, _, _, true, Cuts_ok wm A n c t k l w hr hn hw ht hl hk hy hmin⟩
 ·exact ⟨0, 0, 0, false, Cuts_none wm A n c t l w hr hn hw ht hl (fun j hj => by
   cases hc : cutOk wm l t j with
   | false => rfl
   | true => exact absurd ⟨j, hj, hc⟩ h)⟩
end Go.Proofs.YtdocgmafbacjcaaGreatDoor
end

section
namespace Go.Proofs.YtdocgmafbacjcaaGreatDoor
open Go.RowKit Go.Shelf

theorem fr6 {N : Nat} {w W W' : World} {r : Option Nat} (h : Below N w W) (o : Obj) (hg : (W.alloc o).grownBy W' r) (hr : ∀ k, r = some k → N ≤ k) (hs : N ≤ W.heap.size) : Below N w W' := by
 exact (h.alloc hs o).grown hg (Nat.le_trans hs (by simp)) hr
set_option maxRecDepth 100000 in
set_option maxHeartbeats 8000000 in
theorem Numbers_ok (wm : Nat) (A : Option Addr) (n c : Nat) (l : List Int) (w : World) (hr : Rd w A n l) (hn : 1 ≤ n ∧ n ≤ 6) (hw : 1 ≤ wm ∧ wm ≤ 60) (hl : HolesOk l) :
  Calls Tryz.prog 93 #[.agg #[.int .i64 wm, .slice A n c]] w fun e' w' => ∃ v, e' = .returned (.tuple #[v, .int .i64 0]) ∧ Below w.heap.size w w' := by
 have hb0 := fr_alloc (fr_refl w) (.cells #[.int .i64 wm, .slice A n c] 28)
 have hX := Blk.new w 28 #[.int .i64 wm, .slice A n c]
 obtain ⟨w1, hw1⟩ : ∃ w1, w.alloc (.cells #[.int .i64 wm, .slice A n c] 28) = w1 := ⟨_, rfl⟩
 rw [hw1] at hb0 hX
 replace hr := hr.keep hb0
 have hcX := fun j => hX.cell j
 have hlX := hX.lt
 have hdv := isDivider_yes wm A n c l w1 hr hn (by omega) hl
 go_enter Tryz.func93, Tryz.ntmps93
 go_upto_region 1 with (fail)
 (try rw [hw1])
 clear hw1
 go_wp2_with fail
 refine hdv.mono ?_
 rintro e w2 ⟨rfl, hb2⟩
 have hs1 := hb0.size
 have hs2 := hb2.size
 replace hX := hX.keep hb2
 replace hr := hr.keep hb2
 replace hb0 := fr_call hb0 hb2
 clear hcX hdv hb2 hlX
 go_wp2_with fail
 go_loopw [4, 5] (fun v t wr => ∃ j : Nat, (1 ≤ j ∧ j ≤ 401) ∧ t = .int .i64 j ∧ (∃ xs, Own wr w2.heap.size v xs ∧ xs.length < j) ∧ Below w2.heap.size w2 wr) (fun _ t _ => 401 - (intOf t).toNat)
 case atStart => exact ⟨1, by omega, rfl, ⟨[], Own.nil _ _, by simp⟩, fr_refl _⟩
 case round =>
  obtain ⟨j, ⟨hj1, hj⟩, rfl, ⟨xs, hown, hxl⟩, hbr⟩ := hrel
  have hXr := hX.keep hbr
  have hcX := fun j => hXr.cell j
  have hlXr := hXr.lt
  by_cases hlt : j ≤ 400
  ·have i1 : (j : Int) ≤ 400 := by omega
   have z1 : IntKind.i64.wrap ((j : Int) + 1) = (j : Int) + 1 := IntWalk.i64_in _ (by omega)
   obtain ⟨x, y, z, b, hc⟩ := Cuts_any wm A n c j l wr (hr.keep hbr) hn hw (by omega) hl
   clear hr hl hX
   cases b
   ·go_wp2_with fail
    refine hc.mono ?_
    rintro e w4 ⟨rfl, hb4⟩
    go_upto_region 8 with (refine wpList_store_blk rfl _ _ _ rfl w4.heap.size 200 _ _ rfl rfl (Blk.new w4 _ _) rfl (by kernel_rfl) (by simp [Value.oneCell']) ?_; intro w5 hQ hgQ)
    have hb5 : Below w4.heap.size w4 w5 := (fr_alloc (fr_refl w4) _).grown hgQ (fr_alloc (fr_refl w4) _).size (by intro k hk; cases hk; exact Nat.le_refl _)
    go_wp2_with fail
    refine ⟨⟨j + 1, by omega, by go_num, ⟨xs, (hown.keep hb4).keep hb5, by omega⟩, fr_call hbr (fr_call hb4 hb5)⟩, ?_⟩
    simp [intOf]; omega
   ·go_wp2_with fail
    refine hc.mono ?_
    rintro e w4 ⟨rfl, hb4⟩
    go_upto_region 8 with (refine wpList_store_blk rfl _ _ _ rfl w4.heap.size 200 _ _ rfl rfl (Blk.new w4 _ _) rfl (by kernel_rfl) (by simp [Value.oneCell']) ?_; intro w5 hQ hgQ)
    have hb5 : Below w4.heap.size w4 w5 := (fr_alloc (fr_refl w4) _).grown hgQ (fr_alloc (fr_refl w4) _).size (by intro k hk; cases hk; exact Nat.le_refl _)
    have hb6 := fr_call hbr (fr_call hb4 hb5)
    have hs6 := hb6.size
    have hown5 := (hown.keep hb4).keep hb5
    clear hown hcX hlXr hXr
    go_wp2_with (at_builtin; go_must (refine app_int rfl (.tmp 23) (.tmp 25) rfl w2.heap.size _ xs rfl rfl hown5 (by omega) hs6 ?_); intro A1 c1 w7 hown7 hg7)
    refine ⟨⟨j + 1, by omega, by go_num, ⟨_, hown7, by simp; omega⟩, fr6 hb6 _ hg7 (own_ge hown5) hs6⟩, ?_⟩
    simp [intOf]; omega
  ·go_wp2_with fail
   go_ret2
   exact ⟨_, rfl, fr_call hb0 hbr⟩
end Go.Proofs.YtdocgmafbacjcaaGreatDoor
end

section
namespace Go.Proofs.YtdocgmafbacjcaaGreatDoor
open Go.RowKit Go.Shelf

theorem jin_is (x lo hi : Int) (w : World) (b : Bool) (hb : inB x lo hi = b) :
  Calls Tryz.prog 52 #[.int .i64 x, .int .i64 lo, .int .i64 hi] w fun e w' => e = .returned (.bool b) ∧ w = w' := by
 subst hb
 by_cases h : lo ≤ x
 ·go_enter Tryz.func52, Tryz.ntmps52
  go_wp2
  go_ret
  exact ⟨ret_bool (by simp [inB, h]), rfl⟩
 ·go_enter Tryz.func52, Tryz.ntmps52
  go_wp2
  go_ret
  exact ⟨ret_bool (by simp only [inB]; rw [eq_comm, decide_eq_false_iff_not]; omega), rfl⟩
/-- a fraction as layer 1 defines it -/
def FrOk (f : Int × Int) : Prop := (0 ≤ f.1 ∧ f.1 ≤ 50000) ∧ 1 ≤ f.2 ∧ f.2 ≤ 50000
set_option maxHeartbeats 1000000 in
theorem jFraction_yes (x y : Int) (w : World) (h : FrOk (x, y)) :
  Calls Tryz.prog 98 #[.agg #[.int .i64 x, .int .i64 y]] w fun e w' => e = .returned (.bool true) ∧ Below w.heap.size w w' := by
 have hX := Blk.new w 52 #[.int .i64 x, .int .i64 y]
 have hcX := fun j => hX.cell j
 have h1 : inB x 0 50000 = true := inB_yes h.1
 have h2 : inB y 1 50000 = true := inB_yes h.2
 clear h
 go_enter Tryz.func98, Tryz.ntmps98
 go_wp2_with fail
 refine (jin_is x 0 50000 _ true h1).mono ?_
 rintro e w' ⟨rfl, rfl⟩
 go_wp2_with fail
 refine (jin_is y 1 50000 _ true h2).mono ?_
 rintro e w' ⟨rfl, rfl⟩
 go_wp2_with fail
 go_ret
 exact ⟨rfl, fr_alloc (fr_refl _) _⟩
set_option maxHeartbeats 1000000 in
theorem isSuite1_yes (x y : Int) (w : World) (h : FrOk (x, y)) :
  Calls Tryz.prog 97 #[.agg #[.int .i64 x, .int .i64 y]] w fun e w' => e = .returned (.bool false) ∧ Below w.heap.size w w' := by
 have hX := Blk.new w 52 #[.int .i64 x, .int .i64 y]
 have hb0 := fr_alloc (fr_refl w) (.cells #[.int .i64 x, .int .i64 y] 52)
 have hcX := fun j => hX.cell j
 have h1 := fun W => jFraction_yes x y W h
 clear h
 go_enter Tryz.func97, Tryz.ntmps97
 go_wp2_with fail
 refine (h1 _).mono ?_
 rintro e w1 ⟨rfl, hb1⟩
 go_wp2_with fail
 go_ret
 exact ⟨rfl, fr_call hb0 hb1⟩
set_option maxRecDepth 100000 in
set_option maxHeartbeats 4000000 in
theorem index_fr (A : Option Addr) (n c : Nat) (l : List (Int × Int)) (w : World) (hr : RdS w A 2 (l.map ptC)) (hn : l.length = n) (hn2 : n ≤ 1000) (ht : ∀ f ∈ l, FrOk f) :
  Calls Tryz.prog 170 #[.slice A n c, .func (.func 97) #[] #[]] w fun e' w' => e' = .returned (.int .i64 (-1)) ∧ Below w.heap.size w w' := by
 have HL := Lib.hid hn
 clear hn
 go_enter Tryz.func170, Tryz.ntmps170
 go_wp2
 go_loopw [8] (fun i wr => ∃ j : Nat, j ≤ n ∧ i = .int .i64 j ∧ Below w.heap.size w wr) (fun i _ => n - (intOf i).toNat)
 case atStart => exact ⟨0, Nat.zero_le _, rfl, fr_refl _⟩
 case round =>
  obtain ⟨j, hj, rfl, hbr⟩ := hrel
  by_cases hlt : j < n
  ·have hjl : j < l.length := by have := HL.out; omega
   obtain ⟨⟨x, y⟩, hx⟩ : ∃ f, l[j]? = some f := ⟨l[j], List.getElem?_eq_getElem hjl⟩
   have hok := ht _ (List.mem_of_getElem? hx)
   obtain ⟨ad, rfl, hab, h0, h1⟩ := (hr.keep hbr).nth (i := j) (r := ptC (x, y)) (by simp [hx])
   have c0 := h0 _ rfl
   have c1 := h1 0 _ rfl
   simp only [Nat.zero_add] at c1
   have i1 : 0 ≤ (j : Int) := by omega
   have i2 : (j : Int) < (n : Int) := by omega
   clear hr h0 h1 hx
   go_wp2_with fail
   refine (isSuite1_yes x y wr hok).mono ?_
   rintro e w1 ⟨rfl, hb1⟩
   go_wp2_with fail
   refine ⟨⟨j + 1, hlt, rfl, fr_call hbr hb1⟩, ?_⟩
   simp [intOf]; omega
  ·go_wp2_with fail
   go_ret
   exact ⟨rfl, hbr⟩
set_option maxHeartbeats 2000000 in
theorem contains_fr (A : Option Addr) (n c : Nat) (l : List (Int × Int)) (w : World) (hr : RdS w A 2 (l.map ptC)) (hn : l.length = n) (hn2 : n ≤ 1000) (ht : ∀ f ∈ l, FrOk f) :
  Calls Tryz.prog 96 #[.slice A n c, .func (.func 97) #[] #[]] w fun e' w' => e' = .returned (.bool false) ∧ Below w.heap.size w w' := by
 have h := index_fr A n c l w hr hn hn2 ht
 clear hr hn ht
 go_enter Tryz.func96, Tryz.ntmps96
 go_wp2_with fail
 refine h.mono ?_
 rintro e w1 ⟨rfl, hb1⟩
 go_wp2_with fail
 go_ret
 exact ⟨rfl, hb1⟩
/-- what a suite's slices read as -/
structure SuAt (w : World) (A1 A2 A3 A4 A5 A6 : Option Addr) (n1 n2 n4 n5 n6 : Nat) (ls : List Lk) (hs : List Int) (tg : List (Int × Int)) (ho cy : List Int) (fe : List Feast) : Prop where
 r1 : RdS w A1 3 (ls.map Lk.cells)
 l1 : ls.length = n1
 r2 : Rd w A2 n2 hs
 r3 : RdS w A3 2 (tg.map ptC)
 l3 : tg.length = n2
 r4 : Rd w A4 n4 ho
 r5 : Rd w A5 n5 cy
 r6 : RdS w A6 4 (fe.map Feast.row)
 l6 : fe.length = n6
theorem SuAt.keep {w w' : World} {A1 A2 A3 A4 A5 A6 : Option Addr} {n1 n2 n4 n5 n6 : Nat} {ls : List Lk} {hs : List Int} {tg : List (Int × Int)} {ho cy : List Int} {fe : List Feast} (h : SuAt w A1 A2 A3 A4 A5 A6 n1 n2 n4 n5 n6 ls hs tg ho cy fe) (hb : Below w.heap.size w w') : SuAt w' A1 A2 A3 A4 A5 A6 n1 n2 n4 n5 n6 ls hs tg ho cy fe :=
 ⟨h.r1.keep hb, h.l1, h.r2.keep hb, h.r3.keep hb, h.l3, h.r4.keep hb, h.r5.keep hb, h.r6.keep hb, h.l6⟩
/-- a suite as it is defined -/
structure SuOk (n1 c1 n2 n4 n5 n6 wm br hr wg pc : Nat) (lim ep mn md ma yr : Int) (ls : List Lk) (hs : List Int) (tg : List (Int × Int)) (ho cy : List Int) (fe : List Feast) : Prop where
 piece : ShopOk ls hs
 cap : n1 ≤ c1
 lim : 0 ≤ lim ∧ lim ≤ 10800
 wm : 1 ≤ wm ∧ wm ≤ 60
 n4 : 1 ≤ n4 ∧ n4 ≤ 6
 ho : HolesOk ho
 n5 : n5 ≤ 1000
 cal : calOk ep cy = true
 moon : moonB mn md ma = true
 n6 : n6 ≤ 1000
 fe : feastsB fe = true
 yr : inB yr 0 4000 = true
 br : br ≤ 1000
 hr : hr ≤ 40
 wg : wg ≤ 100
 pc : pc ≤ 100
 tg : ∀ f ∈ tg, FrOk f
set_option maxRecDepth 100000 in
set_option maxHeartbeats 16000000 in
theorem isSuite_yes (A1 A2 A3 A4 A5 A6 : Option Addr) (n1 c1 n2 c2 c3 n4 c4 n5 c5 n6 c6 wm br hr wg pc : Nat) (lim ep mn md ma yr : Int) (ls : List Lk) (hs : List Int) (tg : List (Int × Int)) (ho cy : List Int) (fe : List Feast) (w : World) (h : SuAt w A1 A2 A3 A4 A5 A6 n1 n2 n4 n5 n6 ls hs tg ho cy fe) (hok : SuOk n1 c1 n2 n4 n5 n6 wm br hr wg pc lim ep mn md ma yr ls hs tg ho cy fe) :
  Calls Tryz.prog 28 #[.agg #[.slice A1 n1 c1, .slice A2 n2 c2, .slice A3 n2 c3, .int .i64 lim, .int .i64 wm, .slice A4 n4 c4, .int .i64 ep, .slice A5 n5 c5, .int .i64 mn, .int .i64 md, .int .i64 ma, .slice A6 n6 c6, .int .i64 yr, .int .i64 br, .int .i64 hr, .int .i64 wg, .int .i64 pc]] w fun e w' => e = .returned (.bool true) ∧ Below w.heap.size w w' := by
 have hb0 := fr_alloc (fr_refl w) (.cells #[.slice A1 n1 c1, .slice A2 n2 c2, .slice A3 n2 c3, .int .i64 lim, .int .i64 wm, .slice A4 n4 c4, .int .i64 ep, .slice A5 n5 c5, .int .i64 mn, .int .i64 md, .int .i64 ma, .slice A6 n6 c6, .int .i64 yr, .int .i64 br, .int .i64 hr, .int .i64 wg, .int .i64 pc] 35)
 have hX := Blk.new w 35 #[.slice A1 n1 c1, .slice A2 n2 c2, .slice A3 n2 c3, .int .i64 lim, .int .i64 wm, .slice A4 n4 c4, .int .i64 ep, .slice A5 n5 c5, .int .i64 mn, .int .i64 md, .int .i64 ma, .slice A6 n6 c6, .int .i64 yr, .int .i64 br, .int .i64 hr, .int .i64 wg, .int .i64 pc]
 obtain ⟨w1, hw1⟩ : ∃ w1, w.alloc (.cells #[.slice A1 n1 c1, .slice A2 n2 c2, .slice A3 n2 c3, .int .i64 lim, .int .i64 wm, .slice A4 n4 c4, .int .i64 ep, .slice A5 n5 c5, .int .i64 mn, .int .i64 md, .int .i64 ma, .slice A6 n6 c6, .int .i64 yr, .int .i64 br, .int .i64 hr, .int .i64 wg, .int .i64 pc] 35) = w1 := ⟨_, rfl⟩
 rw [hw1] at hb0 hX
 replace h := h.keep hb0
 have hcX := fun j => hX.cell j
 have hlX := hX.lt
 have a1 : inB lim 0 10800 = true := inB_yes hok.lim
 have n2l := h.r2.len
 have n2b := hok.piece.m
 have K1 := fun W (hb : Below w1.heap.size w1 W) => sCheck_ok A1 A2 n1 c1 n2 c2 ls hs W (h.keep hb).r1 h.l1 (h.keep hb).r2 hok.cap hok.piece
 have K2 := fun W (hb : Below w1.heap.size w1 W) => Numbers_ok wm A4 n4 c4 ho W (h.keep hb).r4 hok.n4 hok.wm hok.ho
 have K3 := fun W (hb : Below w1.heap.size w1 W) => Feasts_ok A5 A6 n5 c5 c6 cy ep mn md ma yr fe W (h.keep hb).r5 (by have := hok.n5; omega) (h.keep hb).r6 (by have := h.l6; have := hok.n6; omega) hok.cal hok.moon hok.fe hok.yr
 rw [h.l6] at K3
 have K4 := fun W => bill_none br hr wg pc W hok.br hok.hr hok.wg hok.pc
 have K5 := fun W (hb : Below w1.heap.size w1 W) => contains_fr A3 n2 c3 tg W (h.keep hb).r3 h.l3 (by omega) hok.tg
 have q0 : ((n2 : Int) != (n2 : Int)) = false := by simp
 clear h hok n2l n2b
 go_enter Tryz.func28, Tryz.ntmps28
 go_upto_region 1 with (fail)
 (try rw [hw1])
 clear hw1
 go_wp2_with fail
 refine (K1 _ (fr_refl _)).mono ?_
 rintro e w2 ⟨rfl, hb2⟩
 clear K1 hcX
 have hX2 := hX.keep hb2
 have hcX := fun j => hX2.cell j
 have hlX2 := hX2.lt
 go_wp2_with fail
 refine (jin_is _ _ _ _ _ a1).mono ?_
 rintro e w' ⟨rfl, rfl⟩
 go_wp2_with fail
 refine (K2 _ hb2).mono ?_
 rintro e w3 ⟨v3, rfl, hb3⟩
 replace hb3 := fr_call hb2 hb3
 clear K2 hcX
 have hX3 := hX.keep hb3
 have hcX := fun j => hX3.cell j
 have hlX3 := hX3.lt
 go_wp2_with fail
 refine (K3 _ hb3).mono ?_
 rintro e w4 ⟨B, b, rfl, _, hb4⟩
 replace hb4 := fr_call hb3 hb4
 clear K3 hcX
 have hX4 := hX.keep hb4
 have hcX := fun j => hX4.cell j
 have hlX4 := hX4.lt
 go_wp2_with fail
 refine (K4 _).mono ?_
 rintro e w5 ⟨v5, u5, rfl, hb5⟩
 replace hb5 := fr_call hb4 hb5
 clear K4 hcX
 have hX5 := hX.keep hb5
 have hcX := fun j => hX5.cell j
 have hlX5 := hX5.lt
 go_wp2_with fail
 refine (K5 _ hb5).mono ?_
 rintro e w6 ⟨rfl, hb6⟩
 go_wp2_with fail
 go_ret
 exact ⟨rfl, fr_call hb0 (fr_call hb5 hb6)⟩
end Go.Proofs.YtdocgmafbacjcaaGreatDoor
end

section
namespace Go.Proofs.YtdocgmafbacjcaaGreatDoor

/-- the last one of some days that is not behind a day; 0, if none is -/
def lastD (ds : List Int) (day : Int) : Int := ds.foldl (fun l d => if d ≤ day then d else l) 0
/-- whether a hand that lasts for some turns is kept from a setting on -/
def keepsFrom (lasts til : Int) : Int → List Int → Bool
 | last, [] => decide (til - last ≤ lasts)
 | last, d :: ds => if til < d then decide (til - last ≤ lasts) else if lasts < d - last then false else keepsFrom lasts til d ds
/-- days that rise, each later than one -/
def RisesD : Int → List Int → Prop
 | _, [] => True
 | a, d :: ds => a < d ∧ RisesD d ds
theorem fold_late (day : Int) : ∀ (ds : List Int) (a l : Int), RisesD a ds → day ≤ a → ds.foldl (fun l d => if d ≤ day then d else l) l = l
 | [], _, _, _, _ => rfl
 | d :: ds, a, l, h, hd => by
  rw [List.foldl_cons, if_neg (by have := h.1; omega)]
  exact fold_late day ds d l h.2 (by have := h.1; omega)
theorem kept_from (lasts til : Int) : ∀ (ds : List Int) (last : Int), RisesD last ds → keepsFrom lasts til last ds = true → ∀ day, last ≤ day → day ≤ til → day - ds.foldl (fun l d => if d ≤ day then d else l) last ≤ lasts
 | [], last, _, hk, day, h1, h2 => by
  have := of_decide_eq_true hk
  show day - last ≤ lasts
  omega
 | d :: ds, last, hr, hk, day, h1, h2 => by
  rw [List.foldl_cons]
  unfold keepsFrom at hk
  by_cases hd : d ≤ day
  ·rw [if_pos hd]
   rw [if_neg (by omega)] at hk
   split at hk
   ·cases hk
   ·exact kept_from lasts til ds d hr.2 hk day hd h2
  ·rw [if_neg hd, fold_late day ds d last hr.2 (by omega)]
   by_cases ht : til < d
   ·rw [if_pos ht] at hk
    have := of_decide_eq_true hk
    omega
   ·rw [if_neg ht] at hk
    split at hk
    ·cases hk
    ·omega
theorem kept_day {lasts til : Int} {ds : List Int} (hr : RisesD 0 ds) (hk : keepsFrom lasts til 0 ds = true) {day : Int} (h1 : 0 ≤ day) (h2 : day ≤ til) : day - lastD ds day ≤ lasts := kept_from lasts til ds 0 hr hk day h1 h2
theorem last_bd (day : Int) : ∀ (ds : List Int) (l : Int), 0 ≤ l → l ≤ day → RisesD l ds → 0 ≤ ds.foldl (fun l d => if d ≤ day then d else l) l ∧ ds.foldl (fun l d => if d ≤ day then d else l) l ≤ day
 | [], _, h1, h2, _ => ⟨h1, h2⟩
 | d :: ds, l, h1, h2, hr => by
  rw [List.foldl_cons]
  by_cases hd : d ≤ day
  ·rw [if_pos hd]
   exact last_bd day ds d (by have := hr.1; omega) hd hr.2
  ·rw [if_neg hd, fold_late day ds d l hr.2 (by omega)]
   exact ⟨h1, h2⟩
/-- by how many minutes a hand is off after some turns; for how many turns it is within a limit -/
def offN (num den t : Int) : Int := (num * t).tdiv den
def lastsN (num den limit : Int) : Int := if num = 0 then 10000 else min 10000 ((limit * den).tdiv (max num (-num)))
theorem off_in {num den limit t : Int} (hd : 0 < den) (hl : 0 ≤ limit) (ht : 0 ≤ t) (h : t ≤ lastsN num den limit) : -limit ≤ offN num den t ∧ offN num den t ≤ limit := by
 unfold lastsN at h
 unfold offN
 by_cases h0 : num = 0
 ·subst h0
  rw [Int.zero_mul, Int.zero_tdiv]
  omega
 ·rw [if_neg h0] at h
  have hn : 0 < max num (-num) := by omega
  have h1 : t ≤ (limit * den).tdiv (max num (-num)) := by omega
  have hld : 0 ≤ limit * den := Int.mul_nonneg hl (by omega)
  rw [Int.tdiv_eq_ediv_of_nonneg hld] at h1
  have h2 : t * max num (-num) ≤ limit * den := Int.le_trans (Int.mul_le_mul_of_nonneg_right h1 (by omega)) (Int.ediv_mul_le _ (by omega))
  rcases Int.le_total 0 num with hp | hp
  ·have e : max num (-num) = num := by omega
   rw [e, Int.mul_comm] at h2
   have hq : 0 ≤ num * t := Int.mul_nonneg hp ht
   rw [Int.tdiv_eq_ediv_of_nonneg hq]
   have h3 : num * t / den ≤ limit := Int.le_of_lt_add_one (Int.ediv_lt_of_lt_mul hd (by rw [Int.add_mul]; omega))
   have h4 : 0 ≤ num * t / den := Int.ediv_nonneg hq (by omega)
   omega
  ·have e : max num (-num) = -num := by omega
   rw [e] at h2
   have hq : 0 ≤ (-num) * t := Int.mul_nonneg (by omega) ht
   have e2 : num * t = -((-num) * t) := by rw [Int.neg_mul, Int.neg_neg]
   rw [e2, Int.neg_tdiv, Int.tdiv_eq_ediv_of_nonneg hq]
   have h3 : (-num) * t / den ≤ limit := Int.le_of_lt_add_one (Int.ediv_lt_of_lt_mul hd (by rw [Int.add_mul, Int.mul_comm]; omega))
   have h4 : 0 ≤ (-num) * t / den := Int.ediv_nonneg hq (by omega)
   omega
end Go.Proofs.YtdocgmafbacjcaaGreatDoor
end

section
namespace Go.Proofs.YtdocgmafbacjcaaGreatDoor
open Go.RowKit Go.Shelf

section
attribute [local go_sem] Oper.semAt_some
theorem prL_top {xs : List Int} (h : ∀ x ∈ xs, 1 ≤ x ∧ x ≤ 60) : ∀ k, k ≤ xs.length → (prL xs k).natAbs ≤ 60 ^ k
 | 0, _ => by simp [prL]
 | k + 1, hk => by
  have h1 := prL_top h k (by omega)
  have h2 := h xs[k] (List.getElem_mem (by omega))
  unfold prL
  rw [List.getElem?_eq_getElem (by omega), Option.getD_some, Int.natAbs_mul, Nat.pow_succ]
  exact Nat.mul_le_mul h1 (by omega)
theorem turn_bd {ps : List Wh} (h : TeethP ps) (hn : ps.length ≤ 3) : (1 ≤ turnD ps ∧ turnD ps ≤ 216000) ∧ 1 ≤ turnV ps ∧ turnV ps ≤ 216000 := by
 have hp := pr_facts h (by omega)
 have hpow : (60 : Nat) ^ ps.length ≤ 216000 := Nat.le_trans (Nat.pow_le_pow_right (by omega) hn) (by decide)
 have h1 := prL_top (xs := losOf ps) (fun x hx => by obtain ⟨p, hp, rfl⟩ := List.mem_map.1 hx; have := (h p hp).1; omega) ps.length (by simp [losOf])
 have h2 := prL_top (xs := hisOf ps) (fun x hx => by obtain ⟨p, hp, rfl⟩ := List.mem_map.1 hx; have := (h p hp).2; omega) ps.length (by simp [hisOf])
 rw [hp.1.1] at h1
 rw [hp.1.2] at h2
 have hg1 : Nat.gcd (prD ps) (prV ps) ≤ prD ps := Nat.gcd_le_left _ hp.2.1.1
 have hg2 : Nat.gcd (prD ps) (prV ps) ≤ prV ps := Nat.gcd_le_right _ hp.2.2.1
 have hg0 : 0 < Nat.gcd (prD ps) (prV ps) := Nat.gcd_pos_of_pos_left _ hp.2.1.1
 have hd : turnD ps ≤ prD ps := Nat.div_le_self _ _
 have hv : turnV ps ≤ prV ps := Nat.div_le_self _ _
 have hd1 : 1 ≤ turnD ps := Nat.div_pos hg1 hg0
 have hv1 : 1 ≤ turnV ps := Nat.div_pos hg2 hg0
 omega
/-- by how much a train goes wrong in a turn: num minutes of den -/
def wNum (ps : List Wh) (f : Int × Int) : Int := ((turnD ps : Int) * f.2 - f.1 * (turnV ps : Int)) * 21600
def wDen (ps : List Wh) (f : Int × Int) : Int := (turnV ps : Int) * f.2
theorem mul_bd {a b A B : Int} (ha : 0 ≤ a) (hA : a ≤ A) (hb : 0 ≤ b) (hB : b ≤ B) : 0 ≤ a * b ∧ a * b ≤ A * B :=
 ⟨Int.mul_nonneg ha hb, Int.mul_le_mul hA hB hb (Int.le_trans ha hA)⟩
theorem w_bd {ps : List Wh} {f : Int × Int} (h : TeethP ps) (hn : ps.length ≤ 3) (hf : FrOk f) : (-233280000000000 ≤ wNum ps f ∧ wNum ps f ≤ 233280000000000) ∧ 1 ≤ wDen ps f ∧ wDen ps f ≤ 10800000000 := by
 have hb := turn_bd h hn
 have m1 := mul_bd (a := (turnD ps : Int)) (A := 216000) (by omega) (by omega) (show 0 ≤ f.2 by have := hf.2; omega) hf.2.2
 have m2 := mul_bd (b := (turnV ps : Int)) (B := 216000) hf.1.1 hf.1.2 (by omega) (by omega)
 have m3 := mul_bd (a := (turnV ps : Int)) (A := 216000) (by omega) (by omega) (show 0 ≤ f.2 by have := hf.2; omega) hf.2.2
 have m4 : 0 < (turnV ps : Int) * f.2 := Int.mul_pos (by omega) (by have := hf.2; omega)
 unfold wNum wDen
 omega
set_option maxHeartbeats 1000000 in
theorem tcompare_is (a b c d : Int) (w : World) (h1 : 0 ≤ a * d ∧ a * d ≤ 10800000000) (h2 : 0 ≤ c * b ∧ c * b ≤ 10800000000) :
  Calls Tryz.prog 124 #[.agg #[.int .i64 a, .int .i64 b], .agg #[.int .i64 c, .int .i64 d]] w fun e w' => e = .returned (.int .i64 (a * d - c * b)) ∧ Below w.heap.size w w' := by
 have q1 : IntKind.i64.wrap (a * d) = a * d := IntWalk.i64_in _ (by omega)
 have q2 : IntKind.i64.wrap (c * b) = c * b := IntWalk.i64_in _ (by omega)
 have q3 : IntKind.i64.wrap (a * d - c * b) = a * d - c * b := IntWalk.i64_in _ (by omega)
 have hX := (Blk.new w 52 #[.int .i64 a, .int .i64 b]).alloc (.cells #[.int .i64 c, .int .i64 d] 52)
 have hcX := fun j => hX.cell j
 clear h1 h2
 go_enter Tryz.func124, Tryz.ntmps124
 go_wp2_with fail
 go_ret
 exact ⟨rfl, fr_alloc (fr_alloc (fr_refl _) _) _⟩
set_option maxHeartbeats 1000000 in
theorem tisFraction_yes (f : Int × Int) (w : World) (h : FrOk f) :
  Calls Tryz.prog 43 #[.agg #[.int .i64 f.1, .int .i64 f.2]] w fun e w' => e = .returned (.bool true) ∧ Below w.heap.size w w' := by
 have hX := Blk.new w 52 #[.int .i64 f.1, .int .i64 f.2]
 have hcX := fun j => hX.cell j
 have h1 : inB f.1 0 50000 = true := inB_yes h.1
 have h2 : inB f.2 1 50000 = true := inB_yes h.2
 clear h
 go_enter Tryz.func43, Tryz.ntmps43
 go_wp2_with fail
 refine (tin_is f.1 0 50000 _ true h1).mono ?_
 rintro e w' ⟨rfl, rfl⟩
 go_wp2_with fail
 refine (tin_is f.2 1 50000 _ true h2).mono ?_
 rintro e w' ⟨rfl, rfl⟩
 go_wp2_with fail
 go_ret
 exact ⟨rfl, fr_alloc (fr_refl _) _⟩
set_option maxHeartbeats 1000000 in
theorem tisLimit_yes (x : Int) (w : World) (h : 0 ≤ x ∧ x ≤ 10800) :
  Calls Tryz.prog 44 #[.int .i64 x] w fun e w' => e = .returned (.bool true) ∧ w = w' := by
 go_enter Tryz.func44, Tryz.ntmps44
 go_wp2_with fail
 refine (tin_is _ _ _ _ true (inB_yes h)).mono ?_
 rintro e w' ⟨rfl, rfl⟩
 go_wp2_with fail
 go_ret
 exact ⟨rfl, rfl⟩
set_option maxHeartbeats 1000000 in
theorem tisTurn_yes (x : Int) (w : World) (h : 0 ≤ x ∧ x ≤ 10000) :
  Calls Tryz.prog 47 #[.int .i64 x] w fun e w' => e = .returned (.bool true) ∧ w = w' := by
 go_enter Tryz.func47, Tryz.ntmps47
 go_wp2_with fail
 refine (tin_is _ _ _ _ true (inB_yes h)).mono ?_
 rintro e w' ⟨rfl, rfl⟩
 go_wp2_with fail
 go_ret
 exact ⟨rfl, rfl⟩
end
set_option maxRecDepth 100000 in
set_option maxHeartbeats 8000000 in
theorem wrongBy_is (A : Option Addr) (n c : Nat) (ps : List Wh) (f : Int × Int) (w : World) (hr : RdS w A 2 (ps.map Wh.cells)) (hl : ps.length = n) (hn : n ≤ 3) (ht : TeethP ps) (hf : FrOk f) :
  Calls Tryz.prog 49 #[.slice A n c, .agg #[.int .i64 f.1, .int .i64 f.2]] w (RetF w (wNum ps f) (wDen ps f)) := by
 have hb0 := fr_alloc (fr_alloc (fr_refl w) (.cells #[.int .i64 f.1, .int .i64 f.2] 52)) (.cells #[.int .i64 0, .int .i64 0] 116)
 have hF := (Blk.new w 52 #[.int .i64 f.1, .int .i64 f.2]).alloc (.cells #[.int .i64 0, .int .i64 0] 116)
 have hR : Blk ((w.alloc (.cells #[.int .i64 f.1, .int .i64 f.2] 52)).alloc (.cells #[.int .i64 0, .int .i64 0] 116)) (w.heap.size + 1) 116 #[.int .i64 0, .int .i64 0] := Blk.new_at _ _ (by simp)
 obtain ⟨w1, hw1⟩ : ∃ w1, (w.alloc (.cells #[.int .i64 f.1, .int .i64 f.2] 52)).alloc (.cells #[.int .i64 0, .int .i64 0] 116) = w1 := ⟨_, rfl⟩
 rw [hw1] at hb0 hF hR
 replace hr := hr.keep hb0
 have hbd := turn_bd ht (by omega)
 have hwb := w_bd ht (by omega) hf
 have K1 := turns_any A n c ps w1 hr hl hn ht
 have m1 := mul_bd (a := (turnD ps : Int)) (A := 216000) (by omega) (by omega) (show 0 ≤ f.2 by have := hf.2; omega) hf.2.2
 have m2 := mul_bd (b := (turnV ps : Int)) (B := 216000) hf.1.1 hf.1.2 (by omega) (by omega)
 have HN := Lib.hid (show wNum ps f = ((turnD ps : Int) * f.2 - f.1 * (turnV ps : Int)) * 21600 from rfl)
 have HD := Lib.hid (show wDen ps f = (turnV ps : Int) * f.2 from rfl)
 obtain ⟨f1, f2⟩ := f
 simp only at hF m1 m2 hwb HN HD ⊢
 generalize wNum ps (f1, f2) = wn at *
 generalize wDen ps (f1, f2) = wd at *
 generalize (turnD ps : Int) = x at *
 generalize (turnV ps : Int) = y at *
 have K2 := fun W => tcompare_is x y f1 f2 W ⟨m1.1, by omega⟩ ⟨m2.1, by omega⟩
 have q1 : IntKind.i64.wrap ((x * f2 - f1 * y) * 21600) = wn := by rw [HN.out, IntWalk.i64_in _ (by omega)]
 have q2 : IntKind.i64.wrap (y * f2) = wd := by rw [HD.out, IntWalk.i64_in _ (by have := HD.out; omega)]
 clear hr ht hf hbd m1 m2 hwb
 go_enter Tryz.func49, Tryz.ntmps49
 go_upto_region 1 with (fail)
 (try rw [hw1])
 clear hw1
 go_wp2_with fail
 refine K1.mono ?_
 rintro e w2 ⟨rfl, hb2⟩
 go_upto_region 2 with (refine wpList_store_blk rfl _ _ _ rfl w2.heap.size 52 _ _ rfl rfl (Blk.new w2 _ _) rfl (by kernel_rfl) (by simp [Value.oneCell']) ?_; intro w3 hX hgX)
 have hb23 : Below w2.heap.size w2 w3 := (fr_alloc (fr_refl w2) _).grown hgX (fr_alloc (fr_refl w2) _).size (by intro k hk; cases hk; exact Nat.le_refl _)
 have hs2 := hb2.size
 have hs0 := hb0.size
 have hlF := hF.lt
 have hlR := hR.lt
 replace hb0 := fr_call (fr_call hb0 hb2) hb23
 replace hF := (hF.keep hb2).keep hb23
 replace hR := (hR.keep hb2).keep hb23
 have hlX := hX.lt
 clear hb2 hb23 hgX K1
 have hbz := fr_drew (fr_refl w3)
 have hkS : ∀ W, Below w3.heap.size w3 W → Blk W w.heap.size 52 #[.int .i64 f1, .int .i64 f2] ∧ Blk W w2.heap.size 52 #[.int .i64 x, .int .i64 y] := fun W hb => ⟨hF.keep hb, hX.keep hb⟩
 have hcS := fun W (h : Blk W w.heap.size 52 #[.int .i64 f1, .int .i64 f2] ∧ Blk W w2.heap.size 52 #[.int .i64 x, .int .i64 y]) => And.intro (And.intro (h.1.cell 0) (h.1.cell 1)) (And.intro (h.2.cell 0) (h.2.cell 1))
 refine wp_region_noPanic ?_
 refine wp_region_held_drew (S := fun W => Blk W w.heap.size 52 #[.int .i64 f1, .int .i64 f2] ∧ Blk W w2.heap.size 52 #[.int .i64 x, .int .i64 y]) (by kernel_rfl) (hkS _ hbz) (fun hHeld => ?_)
 generalize w3.drew = wz at hbz hHeld ⊢
 -- the region, step by step, in whatever order
 refine tkH 0 ⟨some 8, .load 52 (.tmp 5), 52, "hand.go:16", #[], none⟩ hHeld ?_
 refine tkH 1 ⟨some 9, .load 52 (.tmp 3), 52, "hand.go:16", #[], none⟩ hHeld ?_
 refine tkH 4 ⟨some 12, .fieldAddr 52 (.tmp 5) 1, 0, "hand.go:16", #[], none⟩ hHeld ?_
 refine tkH 5 ⟨some 13, .load 3 (.tmp 12), 3, "hand.go:16", #[⟨4, .data⟩], none⟩ hHeld ?_
 refine tkH 6 ⟨some 14, .fieldAddr 52 (.tmp 3) 1, 0, "hand.go:16", #[], none⟩ hHeld ?_
 refine tkH 7 ⟨some 15, .load 3 (.tmp 14), 3, "hand.go:16", #[⟨6, .data⟩], none⟩ hHeld ?_
 refine tkH 8 ⟨some 16, .binOp .mul 3 (.tmp 13) (.tmp 15) 3, 3, "hand.go:16", #[⟨5, .data⟩, ⟨7, .data⟩], none⟩ hHeld ?_
 refine rdH 2 ⟨some 10, .call { callee := .value (.func 124), args := #[.tmp 8, .tmp 9], argTypes := #[52, 52] }, 3, "hand.go:16", #[⟨0, .data⟩, ⟨1, .data⟩], none⟩ fun K hK => ?_
 go_simp
 refine (K2 _).mono ?_
 rintro e' wz ⟨rfl, hb1⟩
 replace hbz := fr_call hbz hb1
 refine hK.out _ _ (hkS _ hbz) (fun hHeld => ?_)
 clear hK K
 (try simp only [Act.put, List.setIfInBounds_toArray, List.set_cons_zero, List.set_cons_succ])
 refine tkH 3 ⟨some 11, .binOp .mul 3 (.tmp 10) (.const (.int .i64 21600)) 3, 3, "hand.go:16", #[⟨2, .data⟩], none⟩ hHeld ?_
 refine tkH 9 ⟨some 17, .build 116 #[(0, .tmp 11), (1, .tmp 16)], 116, "hand.go:16", #[⟨3, .data⟩, ⟨8, .data⟩], none⟩ hHeld ?_
 refine rdH 10 ⟨none, .store 116 (.tmp 4) (.tmp 17), 0, "hand.go:16", #[⟨9, .data⟩, ⟨2, .chain⟩, ⟨0, .phase⟩, ⟨1, .phase⟩, ⟨2, .phase⟩, ⟨3, .phase⟩, ⟨4, .phase⟩, ⟨5, .phase⟩, ⟨6, .phase⟩, ⟨7, .phase⟩, ⟨8, .phase⟩, ⟨9, .phase⟩], none⟩ fun K hK => ?_
 refine wp_store_blk _ _ _ rfl (w.heap.size + 1) 116 _ _ rfl rfl (hR.keep hbz) rfl (by kernel_rfl) (by simp [Value.oneCell']) ?_
 intro w5 hR5 hg5
 refine hK.out _ _ (⟨((hkS _ hbz).1).grown hg5 (by intro e; have := Option.some.inj e; omega), ((hkS _ hbz).2).grown hg5 (by intro e; have := Option.some.inj e; omega)⟩) (fun hHeld => ?_)
 clear hK K
 refine wpAnyH_done (by kernel_rfl) ?_ _
 refine NoPanic.normal ?_
 go_wp2_with fail
 refine bodyPost_ret (results_blk1 rfl _ _ _ _ rfl hR5 Tryz.underlying116 rfl (by kernel_rfl)) rfl ⟨?_, (fr_call hb0 hbz).grown hg5 (fr_call hb0 hbz).size (by intro k hk; cases hk; omega)⟩
 first | rfl | (rw [q1, q2]) | (simp only [q1, q2])
set_option maxRecDepth 100000 in
set_option maxHeartbeats 4000000 in
theorem lasts_is (num den lim : Int) (w : World) (h1 : -233280000000000 ≤ num ∧ num ≤ 233280000000000) (h2 : 1 ≤ den ∧ den ≤ 10800000000) (h3 : 0 ≤ lim ∧ lim ≤ 10800) :
  Calls Tryz.prog 50 #[.agg #[.int .i64 num, .int .i64 den], .int .i64 lim] w fun e w' => e = .returned (.int .i64 (lastsN num den lim)) ∧ Below w.heap.size w w' := by
 have hb0 := fr_alloc (fr_refl w) (.cells #[.int .i64 num, .int .i64 den] 116)
 have hX := Blk.new w 116 #[.int .i64 num, .int .i64 den]
 obtain ⟨w1, hw1⟩ : ∃ w1, w.alloc (.cells #[.int .i64 num, .int .i64 den] 116) = w1 := ⟨_, rfl⟩
 rw [hw1] at hb0 hX
 have hcX := fun j => hX.cell j
 have q1 : IntKind.i64.wrap (-num) = -num := IntWalk.i64_in _ (by omega)
 have m := mul_bd h3.1 h3.2 (show 0 ≤ den by omega) h2.2
 have q2 : IntKind.i64.wrap (lim * den) = lim * den := IntWalk.i64_in _ (by omega)
 go_enter Tryz.func50, Tryz.ntmps50
 go_upto_region 1 with (fail)
 (try rw [hw1])
 clear hw1
 by_cases h0 : num = 0
 ·have e0 : (max num (-num) == 0) = true := by rw [h0]; rfl
  have HE := Lib.hid (show lastsN num den lim = 10000 by unfold lastsN; rw [if_pos h0])
  clear h0
  go_wp2_with fail
  go_ret
  exact ⟨by rw [HE.out]; rfl, hb0⟩
 ·have e0 : ¬ max num (-num) = 0 := by omega
  have e0' : (max num (-num) == 0) = false := by simpa using e0
  have q3 : IntKind.i64.wrap ((lim * den).tdiv (max num (-num))) = (lim * den).tdiv (max num (-num)) := by
   have := Int.tdiv_le_self (max num (-num)) m.1
   have := Int.tdiv_nonneg m.1 (show 0 ≤ max num (-num) by omega)
   exact IntWalk.i64_in _ (by omega)
  have HE := Lib.hid (show lastsN num den lim = min 10000 ((lim * den).tdiv (max num (-num))) by unfold lastsN; rw [if_neg h0])
  clear h0
  go_wp2_with fail
  all_goals
   go_ret
   refine ⟨?_, hb0⟩
   rw [HE.out]
   first | rfl | (congr 2; omega) | (simp; omega)
set_option maxRecDepth 100000 in
set_option maxHeartbeats 4000000 in
theorem Off_is (A : Option Addr) (n c : Nat) (ps : List Wh) (f : Int × Int) (t : Int) (w : World) (hr : RdS w A 2 (ps.map Wh.cells)) (hl : ps.length = n) (hn : 1 ≤ n ∧ n ≤ 3) (ht : TeethP ps) (hf : FrOk f) (htn : 0 ≤ t ∧ t ≤ 10000) :
  Calls Tryz.prog 195 #[.slice A n c, .agg #[.int .i64 f.1, .int .i64 f.2], .int .i64 t] w fun e w' => e = .returned (.tuple #[.int .i64 (offN (wNum ps f) (wDen ps f) t), .int .i64 0]) ∧ Below w.heap.size w w' := by
 have hb0 := fr_alloc (fr_refl w) (.cells #[.int .i64 f.1, .int .i64 f.2] 52)
 have hX := Blk.new w 52 #[.int .i64 f.1, .int .i64 f.2]
 obtain ⟨w1, hw1⟩ : ∃ w1, w.alloc (.cells #[.int .i64 f.1, .int .i64 f.2] 52) = w1 := ⟨_, rfl⟩
 rw [hw1] at hb0 hX
 replace hr := hr.keep hb0
 have hwb := w_bd ht (by omega) hf
 have K1 := isTrain_yes A n c ps w1 hr hl hn.1 hn.2 ht
 have K2 := fun W => tisFraction_yes f W hf
 have K3 := fun W => tisTurn_yes t W htn
 have K4 := fun W (hb : Below w1.heap.size w1 W) => wrongBy_is A n c ps f W (hr.keep hb) hl hn.2 ht hf
 have HO := Lib.hid (show offN (wNum ps f) (wDen ps f) t = (wNum ps f * t).tdiv (wDen ps f) from rfl)
 have hm : -2332800000000000000 ≤ wNum ps f * t ∧ wNum ps f * t ≤ 2332800000000000000 := by
  have a1 := Int.mul_le_mul_of_nonneg_right hwb.1.2 htn.1
  have a2 := Int.mul_le_mul_of_nonneg_right hwb.1.1 htn.1
  omega
 generalize wNum ps f = wn at *
 generalize wDen ps f = wd at *
 generalize offN wn wd t = o at *
 have q1 : IntKind.i64.wrap (wn * t) = wn * t := IntWalk.i64_in _ (by omega)
 have q2 : IntKind.i64.wrap ((wn * t).tdiv wd) = o := by
  rw [HO.out]
  refine IntWalk.i64_in _ ?_
  have : ((wn * t).tdiv wd).natAbs ≤ (wn * t).natAbs := by rw [Int.natAbs_tdiv]; exact Nat.div_le_self _ _
  omega
 have q3 : ¬ wd = 0 := by omega
 have q3' : (wd == 0) = false := by simpa using q3
 obtain ⟨f1, f2⟩ := f
 simp only at hX K2 K4 hw1 ⊢
 clear hr ht hf htn hwb hm
 go_enter Tryz.func195, Tryz.ntmps195
 go_upto_region 1 with (fail)
 (try rw [hw1])
 clear hw1
 have hcX := fun j => hX.cell j
 go_wp2_with fail
 refine K1.mono ?_
 rintro e w2 ⟨rfl, hb2⟩
 have hcX2 := fun j => (hX.keep hb2).cell j
 clear hcX
 go_wp2_with fail
 refine (K2 _).mono ?_
 rintro e w3 ⟨rfl, hb3⟩
 replace hb3 := fr_call hb2 hb3
 clear hcX2
 go_wp2_with fail
 refine (K3 _).mono ?_
 rintro e w' ⟨rfl, rfl⟩
 have hcX3 := fun j => (hX.keep hb3).cell j
 go_wp2_with fail
 refine (K4 _ hb3).mono ?_
 rintro e w4 ⟨rfl, hb4⟩
 replace hb4 := fr_call hb3 hb4
 clear hcX3
 go_upto_region 4 with (refine wpList_store_blk rfl _ _ _ rfl w4.heap.size 116 _ _ rfl rfl (Blk.new w4 _ _) rfl (by kernel_rfl) (by simp [Value.oneCell']) ?_; intro w5 hW hgW)
 have hb45 : Below w4.heap.size w4 w5 := (fr_alloc (fr_refl w4) _).grown hgW (fr_alloc (fr_refl w4) _).size (by intro k hk; cases hk; exact Nat.le_refl _)
 have hcW := fun j => hW.cell j
 go_wp2_with fail
 go_ret2
 exact ⟨rfl, fr_call (fr_call hb0 hb4) hb45⟩
end Go.Proofs.YtdocgmafbacjcaaGreatDoor
end
