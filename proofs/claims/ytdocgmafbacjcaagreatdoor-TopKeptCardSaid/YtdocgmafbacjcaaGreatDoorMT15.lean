/- Walks, package journeyman: entries that set the hands on a day; trying to make one. -/
import Derived.Test.YtdocgmafbacjcaaGreatDoorMT14
namespace Go.Proofs.YtdocgmafbacjcaaGreatDoor
open Go.RowKit Go.Shelf Dl

/-- what an entry does that sets the hands -/
def dset (d : Int) : Value := .iface 191 (.agg #[.int .i64 d])
def jrefV (v : Value) : List PanicEntry := [{ v := .iface 107 (.agg #[v]), recovered := false }]
set_option maxHeartbeats 2000000 in
theorem formed1_is (x : Int) (w : World) (b : Bool) (hb : inB x 0 9999 = b) :
  Calls Tryz.prog 106 #[.int .i64 x] w fun e w' => e = .returned (.bool !b) ∧ w = w' := by
 cases b
 all_goals
  go_enter Tryz.func106, Tryz.ntmps106
  go_wp2_with fail
  refine (jin_is _ _ _ _ _ hb).mono ?_
  rintro e w' ⟨rfl, rfl⟩
  go_wp2_with fail
  go_ret
  exact ⟨rfl, rfl⟩
set_option maxRecDepth 100000 in
set_option maxHeartbeats 4000000 in
theorem index_formed (ad : Addr) (c : Nat) (d : Int) (w : World) (hc : w.cell? ad = some (.int .i64 d)) (b : Bool) (hb : inB d 0 9999 = b) :
  Calls Tryz.prog 174 #[.slice (some ad) 1 c, .func (.func 106) #[] #[]] w fun e' w' => e' = .returned (.int .i64 (if b then -1 else 0)) ∧ w = w' := by
 have hc0 : w.cell? (ad.add 0) = some (.int .i64 d) := hc
 go_enter Tryz.func174, Tryz.ntmps174
 go_wp2
 go_loopw [8] (fun i wr => ∃ k : Nat, k ≤ 1 ∧ i = .int .i64 k ∧ (k = 1 → b = true) ∧ wr = w) (fun i _ => 1 - (intOf i).toNat)
 case atStart => exact ⟨0, Nat.zero_le _, rfl, (fun h => by cases h), rfl⟩
 case round =>
  obtain ⟨k, hk, rfl, hk1, rfl⟩ := hrel
  by_cases hlt : k = 0
  ·subst hlt
   clear hk1 hk
   cases b with
   | false =>
    go_wp2_with fail
    refine (formed1_is d _ _ hb).mono ?_
    rintro e w1 ⟨rfl, rfl⟩
    go_wp2_with fail
    go_ret
    exact ⟨rfl, rfl⟩
   | true =>
    go_wp2_with fail
    refine (formed1_is d _ _ hb).mono ?_
    rintro e w1 ⟨rfl, rfl⟩
    go_wp2_with fail
    refine ⟨⟨1, Nat.le_refl _, rfl, (by simp), trivial⟩, ?_⟩
    simp [intOf]
  ·obtain rfl : k = 1 := by omega
   have hb1 := hk1 rfl
   subst hb1
   clear hk1 hk hlt
   go_wp2_with fail
   go_ret
   exact ⟨rfl, rfl⟩
set_option maxHeartbeats 2000000 in
theorem contains_formed (ad : Addr) (c : Nat) (d : Int) (w : World) (hc : w.cell? ad = some (.int .i64 d)) (b : Bool) (hb : inB d 0 9999 = b) :
  Calls Tryz.prog 105 #[.slice (some ad) 1 c, .func (.func 106) #[] #[]] w fun e' w' => e' = .returned (.bool !b) ∧ w = w' := by
 have h := index_formed ad c d w hc b hb
 clear hc hb
 cases b
 all_goals
  simp only [Bool.false_eq_true, if_false, if_true] at h
  go_enter Tryz.func105, Tryz.ntmps105
  go_wp2_with fail
  refine h.mono ?_
  rintro e w1 ⟨rfl, rfl⟩
  go_wp2_with fail
  go_ret
  exact ⟨rfl, rfl⟩
set_option maxRecDepth 100000 in
set_option maxHeartbeats 4000000 in
theorem isFormed_is (ad : Addr) (c : Nat) (d : Int) (w : World) (hc : w.cell? ad = some (.int .i64 d)) (hlt : ad.block < w.heap.size) (b : Bool) (hb : inB d 0 9999 = b) :
  Calls Tryz.prog 32 #[.agg #[.int .i64 5, .slice (some ad) 1 c]] w fun e' w' => e' = .returned (.bool b) ∧ Below w.heap.size w w' := by
 have hix : ∀ w, (Instr.index 177 (.agg formsV) (.int .i64 4)).run Tryz.prog w = .ok (.agg #[.string ⟨#[115, 101, 116]⟩, .int .i64 1]) w := fun w => by kernel_rfl
 have hfd : ∀ w, (Instr.field 121 (.agg #[.string ⟨#[115, 101, 116]⟩, .int .i64 1]) 1).run Tryz.prog w = .ok (.int .i64 1) w := fun w => by kernel_rfl
 have hwr : IntKind.i64.wrap 4 = 4 := by decide
 have hb0 := fr_alloc (fr_refl w) (.cells #[.int .i64 5, .slice (some ad) 1 c] 45)
 have hX := Blk.new w 45 #[.int .i64 5, .slice (some ad) 1 c]
 obtain ⟨w1, hw1⟩ : ∃ w1, w.alloc (.cells #[.int .i64 5, .slice (some ad) 1 c] 45) = w1 := ⟨_, rfl⟩
 rw [hw1] at hb0 hX
 have hc1 := (hb0.cell hlt).trans hc
 have hlt1 := Nat.lt_of_lt_of_le hlt hb0.size
 have hbz := fr_drew (fr_refl w1)
 have hkS : ∀ W, Below w1.heap.size w1 W → W.cell? ⟨w.heap.size, 0, none⟩ = some (.int .i64 5) ∧ W.cell? ⟨w.heap.size, 1, none⟩ = some (.slice (some ad) 1 c) := fun W hb => ⟨(hX.keep hb).cell 0, (hX.keep hb).cell 1⟩
 have K2 := fun W (hB : Below w1.heap.size w1 W) => contains_formed ad c d W ((hB.cell hlt1).trans hc1) b hb
 clear hc hb hc1 hlt hlt1
 go_enter Tryz.func32, Tryz.ntmps32
 go_upto_region 1 with (fail)
 (try rw [hw1])
 clear hw1
 go_cut [18] from 3 (fun s18 wc => s18 = .bool false ∧ Below w1.heap.size w1 wc)
 case first =>
  refine wp_region_noPanic ?_
  refine wp_region_held_drew (S := fun W => W.cell? ⟨w.heap.size, 0, none⟩ = some (.int .i64 5) ∧ W.cell? ⟨w.heap.size, 1, none⟩ = some (.slice (some ad) 1 c)) (by kernel_rfl) (hkS _ hbz) (fun hHeld => ?_)
  generalize w1.drew = wz at hbz hHeld ⊢
  -- the region, step by step, in whatever order
  refine tkH 0 ⟨some 3, .fieldAddr 45 (.tmp 1) 0, 0, "text.go:39", #[], none⟩ hHeld ?_
  refine tkH 1 ⟨some 4, .load 43 (.tmp 3), 43, "text.go:39", #[⟨0, .data⟩], none⟩ hHeld ?_
  refine rdH 2 ⟨some 5, .call { callee := .value (.func 52), args := #[.tmp 4, .const (.int .i64 1), .const (.int .i64 6)], argTypes := #[3, 3, 3] }, 4, "text.go:39", #[⟨1, .data⟩], none⟩ fun K hK => ?_
  go_simp
  refine (jin_is _ _ _ _ true (by decide)).mono ?_
  rintro e wz' ⟨rfl, rfl⟩
  refine hK.out _ _ (hkS _ hbz) (fun hHeld => ?_)
  clear hK K
  (try simp only [Act.put, List.setIfInBounds_toArray, List.set_cons_zero, List.set_cons_succ])
  refine tkH 3 ⟨some 6, .unOp .not 4 (.tmp 5), 4, "text.go:39", #[⟨2, .data⟩], none⟩ hHeld ?_
  refine tkH 4 ⟨some 7, .move (.tmp 6), 4, "text.go:39", #[⟨3, .data⟩, ⟨2, .chain⟩], none⟩ hHeld ?_
  refine tkH 5 ⟨some 8, .fieldAddr 45 (.tmp 1) 1, 0, "text.go:39", #[⟨4, .guard⟩], some (4, false)⟩ hHeld ?_
  refine tkH 6 ⟨some 9, .load 23 (.tmp 8), 23, "text.go:39", #[⟨5, .data⟩, ⟨4, .guard⟩], some (4, false)⟩ hHeld ?_
  refine tkH 7 ⟨some 10, .call { callee := .builtin .len, args := #[.tmp 9], argTypes := #[23] }, 3, "text.go:39", #[⟨6, .data⟩, ⟨4, .guard⟩], some (4, false)⟩ hHeld ?_
  refine tkH 9 ⟨some 12, .fieldAddr 45 (.tmp 1) 0, 0, "text.go:39", #[⟨4, .guard⟩], some (4, false)⟩ hHeld ?_
  refine tkH 10 ⟨some 13, .load 43 (.tmp 12), 43, "text.go:39", #[⟨9, .data⟩, ⟨4, .guard⟩], some (4, false)⟩ hHeld ?_
  refine tkH 11 ⟨some 14, .binOp .sub 43 (.tmp 13) (.const (.int .i64 1)) 43, 43, "text.go:39", #[⟨10, .data⟩, ⟨4, .guard⟩], some (4, false)⟩ hHeld ?_
  refine rdH 8 ⟨some 11, .call { callee := .value (.func 104), args := #[], argTypes := #[] }, 177, "text.go:39", #[⟨4, .chain⟩, ⟨4, .guard⟩], some (4, false)⟩ fun K hK => ?_
  go_simp
  refine (forms_is _).mono ?_
  rintro e wz ⟨rfl, hb1⟩
  replace hbz := fr_call hbz hb1
  refine hK.out _ _ (hkS _ hbz) (fun hHeld => ?_)
  clear hK K
  (try simp only [Act.put, List.setIfInBounds_toArray, List.set_cons_zero, List.set_cons_succ])
  refine rdH 12 ⟨some 15, .index 177 (.tmp 11) (.tmp 14), 121, "text.go:39", #[⟨8, .data⟩, ⟨11, .data⟩, ⟨4, .guard⟩], some (4, false)⟩ fun K hK => ?_
  go_simp
  refine hK.out _ _ (hkS _ hbz) (fun hHeld => ?_)
  clear hK K
  (try simp only [Act.put, List.setIfInBounds_toArray, List.set_cons_zero, List.set_cons_succ])
  refine rdH 13 ⟨some 16, .field 121 (.tmp 15) 1, 3, "text.go:39", #[⟨12, .data⟩, ⟨4, .guard⟩], some (4, false)⟩ fun K hK => ?_
  go_simp
  refine hK.out _ _ (hkS _ hbz) (fun hHeld => ?_)
  clear hK K
  (try simp only [Act.put, List.setIfInBounds_toArray, List.set_cons_zero, List.set_cons_succ])
  refine tkH 14 ⟨some 17, .binOp .neq 3 (.tmp 10) (.tmp 16) 3, 4, "text.go:39", #[⟨7, .data⟩, ⟨13, .data⟩, ⟨4, .guard⟩], some (4, false)⟩ hHeld ?_
  refine tkH 15 ⟨some 18, .pick (.tmp 7) (.const (.bool true)) (.tmp 17), 4, "text.go:39", #[⟨4, .data⟩, ⟨14, .data⟩], none⟩ hHeld ?_
  refine wpAnyH_done (by kernel_rfl) ?_ _
  refine NoPanic.normal ?_
  go_wp2_with fail
  go_meet
  case rel => exact ⟨rfl, hbz⟩
 obtain ⟨rfl, hbz⟩ := hcut
 obtain ⟨wz, hwz⟩ : ∃ w2, w2 = wc := ⟨_, rfl⟩
 subst hwz
 have hcX2 := hkS _ hbz
 clear hkS
 go_wp2_with fail
 refine (K2 _ hbz).mono ?_
 rintro e w' ⟨rfl, rfl⟩
 go_wp2_with fail
 go_ret
 exact ⟨rfl, fr_call hb0 hbz⟩
set_option maxRecDepth 100000 in
set_option maxHeartbeats 4000000 in
theorem deedOf_set (ad : Addr) (c : Nat) (d : Int) (w : World) (hc : w.cell? ad = some (.int .i64 d)) (hlt : ad.block < w.heap.size) :
  Calls Tryz.prog 33 #[.agg #[.int .i64 5, .slice (some ad) 1 c]] w fun e' w' => e' = .returned (dset d) ∧ Below w.heap.size w w' := by
 have hb0 := fr_alloc (fr_refl w) (.cells #[.int .i64 5, .slice (some ad) 1 c] 45)
 have hX := Blk.new w 45 #[.int .i64 5, .slice (some ad) 1 c]
 obtain ⟨w1, hw1⟩ : ∃ w1, w.alloc (.cells #[.int .i64 5, .slice (some ad) 1 c] 45) = w1 := ⟨_, rfl⟩
 rw [hw1] at hb0 hX
 have hc0 : w1.cell? (ad.add 0) = some (.int .i64 d) := (hb0.cell hlt).trans hc
 have hc00 : w1.cell? ad = some (.int .i64 d) := hc0
 have hcX := fun j => hX.cell j
 have hmi : ∀ w, (Instr.makeInterface 191 (.agg #[.int .i64 d])).run Tryz.prog w = .ok (dset d) w := fun w => by kernel_rfl
 clear hc hlt hX
 go_enter Tryz.func33, Tryz.ntmps33
 go_upto_region 1 with (fail)
 (try rw [hw1])
 clear hw1
 go_wp2_with fail
 go_ret
 exact ⟨rfl, hb0⟩
set_option maxHeartbeats 2000000 in
theorem jisDay_is (g gs m dc : Nat) (D : Option Addr) (ev sv : Value) (x : Int) (w : World) (hX : Blk w g 93 #[.pointer (some ⟨gs, 0, none⟩), .slice D m dc, ev, sv]) (b : Bool) (hb : inB x 1 (m : Int) = b) :
  Calls Tryz.prog 131 #[.pointer (some ⟨g, 0, none⟩), .int .i64 x] w fun e w' => e = .returned (.bool b) ∧ w = w' := by
 have hcX := fun j => hX.cell j
 clear hX
 go_enter Tryz.func131, Tryz.ntmps131
 go_wp2_with fail
 refine (jin_is _ _ _ _ _ hb).mono ?_
 rintro e w' ⟨rfl, rfl⟩
 go_wp2_with fail
 go_ret
 exact ⟨rfl, rfl⟩
set_option maxHeartbeats 2000000 in
theorem fine_set (g gs m dc : Nat) (D : Option Addr) (ev sv : Value) (d : Int) (w : World) (hX : Blk w g 93 #[.pointer (some ⟨gs, 0, none⟩), .slice D m dc, ev, sv]) (b : Bool) (hb : inB d 1 (m : Int) = b) :
  Calls Tryz.prog 314 #[.agg #[.int .i64 d], .pointer (some ⟨g, 0, none⟩)] w fun e w' => e = .returned (.bool b) ∧ Below w.heap.size w w' := by
 have hb0 := fr_alloc (fr_refl w) (.cells #[.int .i64 d] 191)
 have hS := Blk.new w 191 #[.int .i64 d]
 have hcS := fun j => hS.cell j
 have K := jisDay_is g gs m dc D ev sv d _ (hX.keep hb0) b hb
 clear hX hb hS
 go_enter Tryz.func314, Tryz.ntmps314
 go_wp2_with fail
 refine K.mono ?_
 rintro e w' ⟨rfl, rfl⟩
 go_wp2_with fail
 go_ret
 exact ⟨rfl, hb0⟩
theorem invoke_fine (d : Int) (p : Value) (w : World) : (callMethod (dset d) "tellurion/journeyman.fine" #[p]).run Tryz.prog w = .ok (.enter 314 #[.agg #[.int .i64 d], p]) w := by
 unfold dset
 kernel_rfl
set_option maxHeartbeats 1000000 in
theorem do1_yes (p : Value) (w : World) : Calls Tryz.prog 109 #[.bool true, p] w fun e w' => e = .returned (.tuple #[]) ∧ w = w' := by
 go_enter Tryz.func109, Tryz.ntmps109
 go_wp2_with fail
 go_end0
 exact ⟨rfl, rfl⟩
set_option maxHeartbeats 1000000 in
theorem do1_no (p : Nat) (t : TypeId) (d : Int) (w : World) (hX : Blk w p t #[dset d]) : Calls Tryz.prog 109 #[.bool false, .pointer (some ⟨p, 0, none⟩)] w fun e w' => e = .panicked (jrefV (dset d)) ∧ w = w' := by
 have hcX : w.cell? ⟨p, 0, none⟩ = some (dset d) := hX.cell 0
 clear hX
 unfold jrefV
 unfold dset at *
 go_enter Tryz.func109, Tryz.ntmps109
 go_wp2_with fail
 exact ⟨rfl, rfl, rfl⟩
set_option maxHeartbeats 1000000 in
theorem jtry1_refused (p : Addr) (x d : Int) (older : List PanicEntry) (w : World) (hc : w.cell? p = some (.int .i64 x)) (hz : w.frozen? p = false) :
  CallsD Tryz.prog 107 #[.pointer (some p)] (.panicking ({ v := .iface 107 (.agg #[dset d]), recovered := false } :: older)) w fun e u' w' =>
   e = .returned (.tuple #[]) ∧ u' = .panicking ({ v := .iface 107 (.agg #[dset d]), recovered := true } :: older) ∧ w' = (w.alloc (.cells #[dset d] 107)).setCell p (.int .i64 7) := by
 unfold dset
 have heq : ∀ w, (binOp .eql 20 (.iface 107 (.agg #[.iface 191 (.agg #[.int .i64 d])])) .nilIface).run Tryz.prog w = .ok (.bool false) w := fun w => by kernel_rfl
 have htb : ∀ w, (Instr.typeAssert (.iface 107 (.agg #[.iface 191 (.agg #[.int .i64 d])])) 20 107 true).run Tryz.prog w = .ok (.tuple #[.agg #[.iface 191 (.agg #[.int .i64 d])], .bool true]) w := fun w => by kernel_rfl
 refine callsD_of_wpS Tryz.func107 rfl fun c₀ cs hu => ?_
 simp only [Tryz.ntmps107, List.size_toArray, List.length_cons, List.length_nil, Nat.reduceAdd, Nat.reduceSub, Array.replicate_succ, Array.replicate_zero, List.push_toArray, List.append_toArray, List.nil_append, List.cons_append]
 apply wpS_seq
 apply wpS_region
 simp [wpOpsS, go_sem, recoverD, hu, Exit.thenS]
 have HU := Lib.hid hu
 clear hu
 have hpl := World.block_lt_of_cell? w p hc
 have hA := fr_alloc (fr_refl w) (.cells #[.iface 191 (.agg #[.int .i64 d])] 107)
 have hc2 := (hA.cell hpl).trans hc
 have hz2 := (hA.frozen hpl).trans hz
 clear hA
 refine wpS_of_wp ?_
 go_wp2
 have hu := HU.out
 cases c₀
 simp_all [bodyPostS, results, Tryz.results107]

set_option maxHeartbeats 1000000 in
theorem jtry_ok_Enter (cap : Array Value) (R : World → Prop) (w : World)
  (h : Calls Tryz.prog 35 cap (w.alloc (.cells #[.int .i64 0] 39)) fun e w' => e = .returned (.tuple #[]) ∧ R w' ∧ w'.cell? ⟨w.heap.size, 0, none⟩ = some (.int .i64 0) ∧ w'.frozen? ⟨w.heap.size, 0, none⟩ = false) :
  Calls Tryz.prog 34 #[.func (.func 35) #[] cap] w fun e w'' => e = .returned (.int .i64 0) ∧ ∃ w', R w' ∧ w'' = w'.setCell ⟨w.heap.size, 0, none⟩ (.int .i64 0) := by
 have hmf : ∀ (fn : Fn) (first cap : Array Value) (w : World), (Instr.makeFunc fn first cap).run Tryz.prog w = .ok (.func fn first cap) w := fun _ _ _ _ => rfl
 have H := Lib.hid h
 clear h
 go_enter_defers Tryz.func34, Tryz.ntmps34
 go_wp2_with fail
 refine (H.out).mono ?_
 rintro e w' ⟨rfl, hR, hc, hf⟩
 go_wp2
 refine leaves_cons (f := 107) (args := #[.pointer (some ⟨w.heap.size, 0, none⟩)]) (by simp) (by simp [go_sem]) ?_
 refine (jtry1_idle ⟨w.heap.size, 0, none⟩ _).mono ?_
 rintro e u' w'' ⟨rfl, rfl, rfl⟩
 simp [Leaves, settle, results, Tryz.results34, go_sem, hc]
 exact ⟨w', hR, rfl⟩
set_option maxHeartbeats 1000000 in
theorem jtry_ref_Enter (cap : Array Value) (R : World → Prop) (w : World) (d : Int)
  (h : Calls Tryz.prog 35 cap (w.alloc (.cells #[.int .i64 0] 39)) fun e w' => e = .panicked (jrefV (dset d)) ∧ R w' ∧ w'.cell? ⟨w.heap.size, 0, none⟩ = some (.int .i64 0) ∧ w'.frozen? ⟨w.heap.size, 0, none⟩ = false) :
  Calls Tryz.prog 34 #[.func (.func 35) #[] cap] w fun e w'' => e = .returned (.int .i64 7) ∧ ∃ w', R w' ∧ w'' = (w'.alloc (.cells #[dset d] 107)).setCell ⟨w.heap.size, 0, none⟩ (.int .i64 7) := by
 have hmf : ∀ (fn : Fn) (first cap : Array Value) (w : World), (Instr.makeFunc fn first cap).run Tryz.prog w = .ok (.func fn first cap) w := fun _ _ _ _ => rfl
 have H := Lib.hid h
 clear h
 go_enter_defers Tryz.func34, Tryz.ntmps34
 go_wp2_with fail
 refine (H.out).mono ?_
 rintro e w' ⟨rfl, hR, hc, hf⟩
 go_wp2
 refine leaves_cons (f := 107) (args := #[.pointer (some ⟨w.heap.size, 0, none⟩)]) (by simp) (by simp [go_sem]) ?_
 refine (jtry1_refused ⟨w.heap.size, 0, none⟩ 0 d [] _ hc hf).mono ?_
 rintro e u' w'' ⟨rfl, rfl, rfl⟩
 have hpl := World.block_lt_of_cell? w' _ hc
 have hc2 := ((fr_alloc (fr_refl w') (.cells #[dset d] 107)).cell hpl).trans hc
 simp [Leaves, settle, results, Tryz.results34, go_sem, hc2]
 exact ⟨w', hR, rfl⟩
end Go.Proofs.YtdocgmafbacjcaaGreatDoor
