/- Walks, package journeyman: words of text; what is given up with; 'try'. Walks, package journeyman: the forms of lines, and what a line has (by gen_yc.py). Walk, package journeyman: what a line has. Walks, package plate: what is wrong with the wheels of the chapter's piece and a new one; which points are free. -/
import Derived.Test.YtkmiphabagoifaaGreatDoorMT15
import Derived.Lib.LaidTab
import Derived.Lib.ItoaNum
import Derived.Sort.Grow
import Derived.Laws.RangeString
import Derived.Laws.RangeAny
import Derived.Defers
import Derived.Recover
import Derived.Laws.Pointers
import Derived.Laws.EntriesVeiled
import Derived.Outline
import Derived.Shelf.SlicesQ.Index
import Derived.Test.YtkmiphabagoifaaGreatDoorMT9
import Derived.Test.YtkmiphabagoifaaGreatDoorMT7
section
namespace Go.Proofs.YtkmiphabagoifaaGreatDoor
open Go.RowKit Go.Shelf

/-- the library's table of powers of ten is as its text lays it -/
def TabP (w : World) : Prop := Lib.TabIs Tryz.prog w "internal/strconv.uint64pow10" .u64 Lib.pow10Tab
theorem TabP.keep {w w' : World} (h : TabP w) (hb : Below w.heap.size w w') : TabP w' := by
 unfold TabP Lib.TabIs World.var? at h ⊢
 cases hg : Tryz.prog.globalNamed "internal/strconv.uint64pow10" with
 | none => rw [hg] at h; cases h
 | some g =>
  rw [hg] at h
  simp only [Option.bind_some] at h ⊢
  have hlt : g < w.heap.size := by
   rcases Nat.lt_or_ge g w.heap.size with h' | h'
   ·exact h'
   ·rw [Array.getElem?_eq_none h'] at h; cases h
  rw [hb.block g hlt]
  exact h
theorem grow_fr (w : World) (k : Nat) (os : Array Obj) : Below w.heap.size w (Go.Sort.grow (w.drewN k) os) := by
 refine ⟨rfl, rfl, rfl, ?_, ?_⟩
 ·simp [Go.Sort.grow, World.drewN]
 ·intro i hi
  simp only [Go.Sort.grow, World.drewN]
  rw [Array.getElem?_append_left (by simpa using hi)]
theorem itoa_any (n : Int) (w : World) (h0 : 0 ≤ n) (h1 : n ≤ 9000000000000000000) (hT : TabP w) :
  Calls Tryz.prog 166 #[.int .i64 n] w fun e w' => e = .returned (.string ⟨(Lib.itoa n).toArray⟩) ∧ Below w.heap.size w w' :=
 (Tryz.strconv_Itoa n (by omega) (by omega) w hT).mono (fun e w' ⟨he, k, os, hw⟩ => ⟨he, by rw [hw]; exact grow_fr w k os⟩)
def strV (l : List UInt8) : Value := .string ⟨l.toArray⟩
theorem info_string : (Tryz.prog.info? 9).map (fun i => (i.zero, i.size, i.bytes)) = some (some (.string ⟨#[]⟩), 1, 16) := by kernel_rfl
/-- the longest string that the library's search takes in one: some number -/
def MaxP (w : World) : Prop := ∃ m : Int, w.cell? ⟨0, 0, none⟩ = some (.int .i64 m)
theorem MaxP.keep {w w' : World} (h : MaxP w) (hb : Below w.heap.size w w') : MaxP w' := by
 obtain ⟨m, hm⟩ := h
 exact ⟨m, (hb.cell (World.block_lt_of_cell? _ _ hm)).trans hm⟩
theorem split_is (c : UInt8) (l : List UInt8) (w : World) (hl : l.length ≤ 1000000) (hM : MaxP w) :
  Calls Tryz.prog 244 #[.string ⟨l.toArray⟩, .string ⟨#[c]⟩] w fun e w' => e = .returned (.slice (some ⟨w.heap.size, 0, none⟩) (pieces c l).length (pieces c l).length) ∧
   (∀ j p, (pieces c l)[j]? = some p → w'.cell? ⟨w.heap.size, j, none⟩ = some (strV p)) ∧ w'.heap.size = w.heap.size + 1 ∧ Below w.heap.size w w' := by
 obtain ⟨m, hm⟩ := hM
 have hs : (⟨l.toArray⟩ : ByteArray).size = l.length := by show l.toArray.size = _; simp
 refine (Tryz.strings_Split ⟨l.toArray⟩ ⟨#[c]⟩ m w (by rw [hs]; omega) hm (Nat.le_refl 1)).mono ?_
 rintro e w' ⟨rfl, rfl⟩
 rw [split_count]
 refine ⟨rfl, fun j p hp => ?_, by simp, fr_alloc (fr_refl w) _⟩
 rw [cell_new, split_cells, List.getElem?_toArray, List.getElem?_map, hp]
 rfl

theorem iter_fr (w : World) (s : ByteArray) (pos : Nat) : Below w.heap.size w (w.iter s pos) := fr_alloc (fr_refl w) _
theorem val_step (wd : List UInt8) (p : Nat) (b : UInt8) (h : wd[p]? = some b) : valOf (wd.take (p + 1)) = 10 * valOf (wd.take p) + ((b.toNat : Int) - 48) := by
 have hl : p < wd.length := (List.getElem?_eq_some_iff.1 h).1
 have hb : wd[p] = b := (List.getElem?_eq_some_iff.1 h).2
 rw [List.take_succ_eq_append_getElem hl, hb]
 unfold valOf
 rw [valGo_app]
 rfl
theorem val_small (wd : List UInt8) (p : Nat) (hp : p ≤ 5) (h : (wd.take p).all digB = true) : 0 ≤ valOf (wd.take p) ∧ valOf (wd.take p) ≤ 99999 := by
 have hb := valGo_bounds (wd.take p) 0 (Int.le_refl _) h
 have h5 : 10 ^ (wd.take p).length ≤ 100000 := Nat.le_trans (Nat.pow_le_pow_right (show 0 < 10 by omega) (by rw [List.length_take]; omega : (wd.take p).length ≤ 5)) (by decide)
 have e1 : ((10 ^ (wd.take p).length : Nat) : Int) = (10 : Int) ^ (wd.take p).length := by push_cast; rfl
 unfold valOf
 omega
theorem digB_iff (b : UInt8) : digB b = true ↔ 48 ≤ b.toNat ∧ b.toNat ≤ 57 := by unfold digB; simp
/-- what is given up with by 'none' -/
def jnoneV (why : ByteArray) : List PanicEntry := [{ v := .iface 200 (.agg #[.string why]), recovered := false }]
set_option maxHeartbeats 1000000 in
theorem jsure_yes (s : ByteArray) (w : World) : Calls Tryz.prog 246 #[.bool true, .string s] w fun e w' => e = .returned (.tuple #[]) ∧ w = w' := by
 go_enter Tryz.func246, Tryz.ntmps246
 go_wp2_with fail
 go_end0
 exact ⟨rfl, rfl⟩
set_option maxHeartbeats 1000000 in
theorem jsure_no (s : ByteArray) (w : World) : Calls Tryz.prog 246 #[.bool false, .string s] w fun e w' => e = .panicked (jnoneV s) ∧ w = w' := by
 unfold jnoneV
 go_enter Tryz.func246, Tryz.ntmps246
 go_wp2_with fail
 exact ⟨rfl, rfl, rfl⟩
set_option maxHeartbeats 1000000 in
theorem jtry1_idle (p : Addr) (w : World) :
  CallsD Tryz.prog 115 #[.pointer (some p)] .returning w fun e u' w' => e = .returned (.tuple #[]) ∧ u' = .returning ∧ w' = w := by
 refine callsD_of_wpS Tryz.func115 rfl fun c₀ cs hu => ?_
 simp only [Tryz.ntmps115, List.size_toArray, List.length_cons, List.length_nil, Nat.reduceAdd, Nat.reduceSub, Array.replicate_succ, Array.replicate_zero, List.push_toArray, List.append_toArray, List.nil_append, List.cons_append]
 apply wpS_seq
 apply wpS_region
 simp [wpOpsS, go_sem, recoverD, hu, Exit.thenS]
 refine wpS_of_wp ?_
 go_wp2
 cases c₀
 simp_all [bodyPostS, results, Tryz.results115]

set_option maxHeartbeats 1000000 in
theorem jtry1_none (p : Addr) (x : Int) (why : ByteArray) (older : List PanicEntry) (w : World) (hc : w.cell? p = some (.int .i64 x)) (hz : w.frozen? p = false) :
  CallsD Tryz.prog 115 #[.pointer (some p)] (.panicking ({ v := .iface 200 (.agg #[.string why]), recovered := false } :: older)) w fun e u' w' =>
   e = .returned (.tuple #[]) ∧ u' = .panicking ({ v := .iface 200 (.agg #[.string why]), recovered := true } :: older) ∧ w' = (w.alloc (.cells #[.string why] 200)).setCell p (.int .i64 4) := by
 refine callsD_of_wpS Tryz.func115 rfl fun c₀ cs hu => ?_
 simp only [Tryz.ntmps115, List.size_toArray, List.length_cons, List.length_nil, Nat.reduceAdd, Nat.reduceSub, Array.replicate_succ, Array.replicate_zero, List.push_toArray, List.append_toArray, List.nil_append, List.cons_append]
 apply wpS_seq
 apply wpS_region
 simp [wpOpsS, go_sem, recoverD, hu, Exit.thenS]
 have HU := Lib.hid hu
 clear hu
 have heq : ∀ w, (binOp .eql 20 (.iface 200 (.agg #[.string why])) .nilIface).run Tryz.prog w = .ok (.bool false) w := fun w => by kernel_rfl
 have hta : ∀ w, (Instr.typeAssert (.iface 200 (.agg #[.string why])) 20 200 true).run Tryz.prog w = .ok (.tuple #[.agg #[.string why], .bool true]) w := fun w => by kernel_rfl
 have htb : ∀ w, (Instr.typeAssert (.iface 200 (.agg #[.string why])) 20 112 true).run Tryz.prog w = .ok (.tuple #[.agg #[.nilIface], .bool false]) w := fun w => by kernel_rfl
 have hpl := World.block_lt_of_cell? w p hc
 have hA := fr_alloc (fr_refl w) (.cells #[.string why] 200)
 have hc2 := (hA.cell hpl).trans hc
 have hz2 := (hA.frozen hpl).trans hz
 clear hA
 refine wpS_of_wp ?_
 go_wp2
 have hu := HU.out
 cases c₀
 simp_all [bodyPostS, results, Tryz.results115]

set_option maxHeartbeats 1000000 in
theorem jtry_ok_Parse (cap : Array Value) (R : World → Prop) (w : World)
  (h : Calls Tryz.prog 221 cap (w.alloc (.cells #[.int .i64 0] 39)) fun e w' => e = .returned (.tuple #[]) ∧ R w' ∧ w'.cell? ⟨w.heap.size, 0, none⟩ = some (.int .i64 0) ∧ w'.frozen? ⟨w.heap.size, 0, none⟩ = false) :
  Calls Tryz.prog 39 #[.func (.func 221) #[] cap] w fun e w'' => e = .returned (.int .i64 0) ∧ ∃ w', R w' ∧ w'' = w'.setCell ⟨w.heap.size, 0, none⟩ (.int .i64 0) := by
 have hmf : ∀ (fn : Fn) (first cap : Array Value) (w : World), (Instr.makeFunc fn first cap).run Tryz.prog w = .ok (.func fn first cap) w := fun _ _ _ _ => rfl
 have H := Lib.hid h
 clear h
 go_enter_defers Tryz.func39, Tryz.ntmps39
 go_wp2_with fail
 refine (H.out).mono ?_
 rintro e w' ⟨rfl, hR, hc, hf⟩
 go_wp2
 refine leaves_cons (f := 115) (args := #[.pointer (some ⟨w.heap.size, 0, none⟩)]) (by simp) (by simp [go_sem]) ?_
 refine (jtry1_idle ⟨w.heap.size, 0, none⟩ _).mono ?_
 rintro e u' w'' ⟨rfl, rfl, rfl⟩
 simp [Leaves, settle, results, Tryz.results39, go_sem, hc]
 exact ⟨w', hR, rfl⟩

set_option maxHeartbeats 1000000 in
theorem jtry_none_Parse (cap : Array Value) (R : World → Prop) (w : World) (why : ByteArray)
  (h : Calls Tryz.prog 221 cap (w.alloc (.cells #[.int .i64 0] 39)) fun e w' => e = .panicked (jnoneV why) ∧ R w' ∧ w'.cell? ⟨w.heap.size, 0, none⟩ = some (.int .i64 0) ∧ w'.frozen? ⟨w.heap.size, 0, none⟩ = false) :
  Calls Tryz.prog 39 #[.func (.func 221) #[] cap] w fun e w'' => e = .returned (.int .i64 4) ∧ ∃ w', R w' ∧ w'' = (w'.alloc (.cells #[.string why] 200)).setCell ⟨w.heap.size, 0, none⟩ (.int .i64 4) := by
 have hmf : ∀ (fn : Fn) (first cap : Array Value) (w : World), (Instr.makeFunc fn first cap).run Tryz.prog w = .ok (.func fn first cap) w := fun _ _ _ _ => rfl
 have H := Lib.hid h
 clear h
 go_enter_defers Tryz.func39, Tryz.ntmps39
 go_wp2_with fail
 refine (H.out).mono ?_
 rintro e w' ⟨rfl, hR, hc, hf⟩
 go_wp2
 refine leaves_cons (f := 115) (args := #[.pointer (some ⟨w.heap.size, 0, none⟩)]) (by simp) (by simp [go_sem]) ?_
 refine (jtry1_none ⟨w.heap.size, 0, none⟩ 0 why [] _ hc hf).mono ?_
 rintro e u' w'' ⟨rfl, rfl, rfl⟩
 have hpl := World.block_lt_of_cell? w' _ hc
 have hc2 := ((fr_alloc (fr_refl w') (.cells #[.string why] 200)).cell hpl).trans hc
 simp [Leaves, settle, results, Tryz.results39, go_sem, hc2]
 exact ⟨w', hR, rfl⟩
set_option maxHeartbeats 1000000 in
theorem jtry_ok_question (cap : Array Value) (R : World → Prop) (w : World)
  (h : Calls Tryz.prog 224 cap (w.alloc (.cells #[.int .i64 0] 39)) fun e w' => e = .returned (.tuple #[]) ∧ R w' ∧ w'.cell? ⟨w.heap.size, 0, none⟩ = some (.int .i64 0) ∧ w'.frozen? ⟨w.heap.size, 0, none⟩ = false) :
  Calls Tryz.prog 39 #[.func (.func 224) #[] cap] w fun e w'' => e = .returned (.int .i64 0) ∧ ∃ w', R w' ∧ w'' = w'.setCell ⟨w.heap.size, 0, none⟩ (.int .i64 0) := by
 have hmf : ∀ (fn : Fn) (first cap : Array Value) (w : World), (Instr.makeFunc fn first cap).run Tryz.prog w = .ok (.func fn first cap) w := fun _ _ _ _ => rfl
 have H := Lib.hid h
 clear h
 go_enter_defers Tryz.func39, Tryz.ntmps39
 go_wp2_with fail
 refine (H.out).mono ?_
 rintro e w' ⟨rfl, hR, hc, hf⟩
 go_wp2
 refine leaves_cons (f := 115) (args := #[.pointer (some ⟨w.heap.size, 0, none⟩)]) (by simp) (by simp [go_sem]) ?_
 refine (jtry1_idle ⟨w.heap.size, 0, none⟩ _).mono ?_
 rintro e u' w'' ⟨rfl, rfl, rfl⟩
 simp [Leaves, settle, results, Tryz.results39, go_sem, hc]
 exact ⟨w', hR, rfl⟩

set_option maxHeartbeats 1000000 in
theorem jtry_none_question (cap : Array Value) (R : World → Prop) (w : World) (why : ByteArray)
  (h : Calls Tryz.prog 224 cap (w.alloc (.cells #[.int .i64 0] 39)) fun e w' => e = .panicked (jnoneV why) ∧ R w' ∧ w'.cell? ⟨w.heap.size, 0, none⟩ = some (.int .i64 0) ∧ w'.frozen? ⟨w.heap.size, 0, none⟩ = false) :
  Calls Tryz.prog 39 #[.func (.func 224) #[] cap] w fun e w'' => e = .returned (.int .i64 4) ∧ ∃ w', R w' ∧ w'' = (w'.alloc (.cells #[.string why] 200)).setCell ⟨w.heap.size, 0, none⟩ (.int .i64 4) := by
 have hmf : ∀ (fn : Fn) (first cap : Array Value) (w : World), (Instr.makeFunc fn first cap).run Tryz.prog w = .ok (.func fn first cap) w := fun _ _ _ _ => rfl
 have H := Lib.hid h
 clear h
 go_enter_defers Tryz.func39, Tryz.ntmps39
 go_wp2_with fail
 refine (H.out).mono ?_
 rintro e w' ⟨rfl, hR, hc, hf⟩
 go_wp2
 refine leaves_cons (f := 115) (args := #[.pointer (some ⟨w.heap.size, 0, none⟩)]) (by simp) (by simp [go_sem]) ?_
 refine (jtry1_none ⟨w.heap.size, 0, none⟩ 0 why [] _ hc hf).mono ?_
 rintro e u' w'' ⟨rfl, rfl, rfl⟩
 have hpl := World.block_lt_of_cell? w' _ hc
 have hc2 := ((fr_alloc (fr_refl w') (.cells #[.string why] 200)).cell hpl).trans hc
 simp [Leaves, settle, results, Tryz.results39, go_sem, hc2]
 exact ⟨w', hR, rfl⟩
end Go.Proofs.YtkmiphabagoifaaGreatDoor
end

section
namespace Go.Proofs.YtkmiphabagoifaaGreatDoor
open Go.RowKit Go.Shelf

abbrev Form := List UInt8 × Nat
def formC (f : Form) : List Value := [.string ⟨f.1.toArray⟩, .int .i64 f.2]
def eqF (x y : Form) : Bool := x.1 == y.1 && x.2 == y.2
def formsF : List Form := [([99, 117, 116], 1), ([99, 104, 97, 110, 103, 101], 3), ([111, 114, 100, 101, 114], 3), ([115, 101, 114, 118, 101], 2), ([115, 101, 116], 1), ([115, 116, 114, 105, 107, 101], 1)]
def asksF : List Form := [([104, 97, 110, 100, 115], 0), ([115, 116, 111, 99, 107], 0), ([111, 112, 101, 110], 0), ([112, 114, 105, 99, 101], 1), ([110, 101, 101, 100], 3), ([111, 102, 102], 2), ([119, 114, 111, 110, 103], 0), ([119, 111, 114, 107, 115], 1), ([100, 97, 116, 101], 1), ([99, 117, 116, 115], 1), ([99, 111, 105, 110, 115], 0), ([115, 116, 97, 110, 100, 115], 0)]
def formsV : Array Value := #[.string ⟨#[99, 117, 116]⟩, .int .i64 1, .string ⟨#[99, 104, 97, 110, 103, 101]⟩, .int .i64 3, .string ⟨#[111, 114, 100, 101, 114]⟩, .int .i64 3, .string ⟨#[115, 101, 114, 118, 101]⟩, .int .i64 2, .string ⟨#[115, 101, 116]⟩, .int .i64 1, .string ⟨#[115, 116, 114, 105, 107, 101]⟩, .int .i64 1]
def asksV : Array Value := #[.string ⟨#[104, 97, 110, 100, 115]⟩, .int .i64 0, .string ⟨#[115, 116, 111, 99, 107]⟩, .int .i64 0, .string ⟨#[111, 112, 101, 110]⟩, .int .i64 0, .string ⟨#[112, 114, 105, 99, 101]⟩, .int .i64 1, .string ⟨#[110, 101, 101, 100]⟩, .int .i64 3, .string ⟨#[111, 102, 102]⟩, .int .i64 2, .string ⟨#[119, 114, 111, 110, 103]⟩, .int .i64 0, .string ⟨#[119, 111, 114, 107, 115]⟩, .int .i64 1, .string ⟨#[100, 97, 116, 101]⟩, .int .i64 1, .string ⟨#[99, 117, 116, 115]⟩, .int .i64 1, .string ⟨#[99, 111, 105, 110, 115]⟩, .int .i64 0, .string ⟨#[115, 116, 97, 110, 100, 115]⟩, .int .i64 0]
def renFo : Go.Shelf.Ren := ⟨fun | 6 => 245 | n => n, fun | 22 => 287 | 24 => 126 | 3 => 3 | 4 => 4 | n => n, fun | n => n⟩
theorem laysFo : Go.Proofs.SlLaysQ.n6 Tryz.prog renFo := {
 mixed := by kernel_rfl
 f6 := ⟨ "slices.Index[[]tellurion/journeyman.form,tellurion/journeyman.form]", by decide, Tryz.func245.trans (congrArg some (by kernel_rfl))⟩
 t0 := Tryz.underlying0
 a0 := Tryz.isAgg0
 z0 := Tryz.sizeOf0
 v0 := Tryz.zeroValue0
 t3 := Tryz.underlying3
 a3 := Tryz.isAgg3
 z3 := Tryz.sizeOf3
 v3 := Tryz.zeroValue3
 t4 := Tryz.underlying4
 a4 := Tryz.isAgg4
 z4 := Tryz.sizeOf4
 v4 := Tryz.zeroValue4
 t22 := Tryz.underlying287
 a22 := Tryz.isAgg287
 z22 := Tryz.sizeOf287
 v22 := Tryz.zeroValue287 }
theorem eql_Fo : EqlAt Tryz.prog 126 (fun x => .agg (formC x).toArray) eqF := by
 refine ⟨fun x y w => ?_, .agg _ (by kernel_rfl)⟩
 obtain ⟨x, x2⟩ := x
 obtain ⟨a, b⟩ := y
 have h : (Op.equal 126 (.agg #[.string ⟨x.toArray⟩, .int .i64 x2]) (.agg #[.string ⟨a.toArray⟩, .int .i64 b])).run Tryz.prog w = .ok (if (!(x == a)) = true then false else if (!((x2 : Int) == (b : Int))) = true then false else true) w := by
  have hs : Tryz.prog.underlying 126 = some (.struct (Tryz.prog.fieldsOf 126)) := by kernel_rfl
  have hp : Tryz.prog.stoodInHeld 126 = false := by kernel_rfl
  unfold Op.equal Op.maxDepth
  rw [run_equalIn_struct w 9999 _ _ _ hs hp]
  simp [Program.fieldsOf, Tryz.underlying126, Op.eqFields, go_sem, ByteArray.toList_mk]
  by_cases h1 : x = a
  ·by_cases h2 : x2 = b
   ·simp [h1, h2]
   ·have h3 : ¬ (x2 : Int) = (b : Int) := by omega
    simp [h1, h3]
  ·simp [h1]
 have h2 : (binOp .eql 126 (.agg (formC (x, x2)).toArray) (.agg (formC (a, b)).toArray)).run Tryz.prog w = ((Op.equal 126 (.agg #[.string ⟨x.toArray⟩, .int .i64 x2]) (.agg #[.string ⟨a.toArray⟩, .int .i64 b])).run Tryz.prog w).andThen (fun b w => .ok (.bool b) w) := by
  simp [binOp, formC]
 rw [h2, h, Result.andThen_ok]
 unfold eqF
 by_cases h1 : x = a
 ·by_cases h2 : x2 = b
  ·simp [h1, h2]
  ·have h3 : ¬ (x2 : Int) = (b : Int) := by omega
   have h4 : (x2 == b) = false := by simp [h2]
   simp [h1, h3, h4]
 ·simp [h1]
theorem index_Fo (b off n c : Nat) (l : List Form) (x : Form) (w : World) (hr : RdS w (some ⟨b, off, none⟩) 2 (l.map formC)) (hn : n = l.length) (hl : l.length ≤ 1000) (k : Int) (hk : Lib.idxBy eqF l x = k) :
  Calls Tryz.prog 245 #[.slice (some ⟨b, off, none⟩) n c, .agg #[.string ⟨x.1.toArray⟩, .int .i64 x.2]] w fun e w' => e = .returned (.int .i64 k) ∧ Below w.heap.size w w' := by
 subst hn
 refine (AnyQ.slices_Index laysFo 2 Tryz.isAgg126 Tryz.sizeOf126 formC (fun x => rfl) eqF eql_Fo b off l.length c l x w (Nat.le_refl _) (by omega) ?_).mono ?_
 ·intro j hj i v hv
  obtain ⟨ad, e, _, _, hc⟩ := hr.at_ (i := j) (r := formC l[j]!) (by simp [hj])
  cases e
  have := hc i v hv
  rw [← this]
  unfold Addr.add
  by_cases h4 : j * 2 + i = 0
  ·rw [if_pos h4, Nat.add_assoc, h4]; rfl
  ·rw [if_neg h4, Nat.add_assoc]
 ·rintro e w' ⟨rfl, q, rfl⟩
  rw [List.take_length, hk]
  exact ⟨rfl, below_drewN_q ((Below.refl _ w).alloc (Nat.le_refl _) _) q⟩
set_option maxRecDepth 100000 in
set_option maxHeartbeats 4000000 in
theorem forms_is (w : World) : Calls Tryz.prog 112 #[] w fun e w' => e = .returned (.agg formsV) ∧ Below w.heap.size w w' := by
 unfold formsV
 go_enter Tryz.func112, Tryz.ntmps112
 go_wp2_with (refine wpList_store_blk rfl _ _ _ rfl w.heap.size 184 _ _ rfl rfl (Blk.new w _ _) rfl (by kernel_rfl) (by simp [Value.oneCell']) ?_; intro w1 hQ hgQ)
 refine bodyPost_ret (results_blk1 rfl _ _ _ _ rfl hQ Tryz.underlying184 rfl (by kernel_rfl)) rfl ⟨rfl, ?_⟩
 exact (fr_alloc (fr_refl w) _).grown hgQ (fr_alloc (fr_refl w) _).size (by intro k hk; cases hk; exact Nat.le_refl _)
set_option maxRecDepth 100000 in
set_option maxHeartbeats 4000000 in
theorem asks_is (w : World) : Calls Tryz.prog 58 #[] w fun e w' => e = .returned (.agg asksV) ∧ Below w.heap.size w w' := by
 unfold asksV
 go_enter Tryz.func58, Tryz.ntmps58
 go_wp2_with (refine wpList_store_blk rfl _ _ _ rfl w.heap.size 127 _ _ rfl rfl (Blk.new w _ _) rfl (by kernel_rfl) (by simp [Value.oneCell']) ?_; intro w1 hQ hgQ)
 refine bodyPost_ret (results_blk1 rfl _ _ _ _ rfl hQ Tryz.underlying127 rfl (by kernel_rfl)) rfl ⟨rfl, ?_⟩
 exact (fr_alloc (fr_refl w) _).grown hgQ (fr_alloc (fr_refl w) _).size (by intro k hk; cases hk; exact Nat.le_refl _)
end Go.Proofs.YtkmiphabagoifaaGreatDoor
end

section
namespace Go.Proofs.YtkmiphabagoifaaGreatDoor
open Go.RowKit Go.Shelf

/-- a word that is a number in decimal, of at most four digits -/
def WdOk (wd : List UInt8) : Prop := wd ≠ [] ∧ wd.length ≤ 4 ∧ wd.all digB = true ∧ Lib.itoa (valOf wd) = wd
set_option maxRecDepth 100000 in
set_option maxHeartbeats 8000000 in
theorem told_ok (l p0 : List UInt8) (ws : List (List UInt8)) (F : List Form) (b off m mc k : Nat) (w : World) (hl : l.length ≤ 1000) (hpf : pieces 32 l = p0 :: ws) (hws : ∀ wd ∈ ws, WdOk wd)
  (hF : RdS w (some ⟨b, off, none⟩) 2 (F.map formC)) (hm : m = F.length) (hm2 : F.length ≤ 1000) (hk : Lib.idxBy eqF F (p0, ws.length) = (k : Int)) (hM : MaxP w) (hT : TabP w) :
  Calls Tryz.prog 222 #[.string ⟨l.toArray⟩, .slice (some ⟨b, off, none⟩) m mc] w fun e w' => ∃ A c, e = .returned (.tuple #[.int .i64 k, .slice A ws.length c]) ∧ Rd w' A ws.length (ws.map valOf) ∧ Fresh w.heap.size A ∧ Below w.heap.size w w' := by
 subst hm
 have hpl := pieces_len 32 l
 have hsp := split_is 32 l w (by omega) hM
 rw [hpf] at hpl hsp
 simp only [List.length_cons] at hpl hsp
 have hix := fun W (hb : Below w.heap.size w W) => index_Fo b off F.length mc F (p0, ws.length) W (hF.keep hb) rfl hm2 k hk
 have hk0 : (0 : Int) ≤ (k : Int) := Int.natCast_nonneg k
 clear hpf hF hk
 go_enter Tryz.func222, Tryz.ntmps222
 go_wp2_with fail
 refine hsp.mono ?_
 clear hsp
 rintro e' w1 ⟨rfl, hcell, hsz, hb1⟩
 have hT1 := hT.keep hb1
 have hc0 := hcell 0 p0 rfl
 have hcell2 : ∀ j p, ws[j]? = some p → w1.cell? ⟨w.heap.size, j + 1, none⟩ = some (strV p) := fun j p h => hcell (j + 1) p h
 have HC := Lib.hid hcell2
 have HSZ := Lib.hid hsz
 have hg1 : w.heap.size < w1.heap.size := by omega
 have HB1 := Lib.hid hb1
 have hix1 := hix _ hb1
 unfold strV at hc0
 have z1 : IntKind.i64.wrap (((ws.length + 1 : Nat) : Int) - 1) = (ws.length : Int) := by rw [IntWalk.i64_in _ (by omega)]; omega
 have z2 : ((ws.length + 1 : Nat) : Int) = (ws.length : Int) + 1 := rfl
 have z3 : IntKind.i64.wrap (ws.length : Int) = (ws.length : Int) := IntWalk.i64_in _ (by omega)
 clear hcell hcell2 hsz hb1 hix
 go_wp2_with fail
 refine hix1.mono ?_
 rintro e' w2 ⟨rfl, hb2⟩
 have hT2 := hT1.keep hb2
 have HC2 := Lib.hid (fun j p (h : ws[j]? = some p) => (hb2.cell (p := ⟨w.heap.size, j + 1, none⟩) hg1).trans (HC.out j p h))
 have hg2 : w.heap.size < w2.heap.size := Nat.lt_of_lt_of_le hg1 hb2.size
 have HB2 := Lib.hid (fr_call HB1.out hb2)
 clear hix1 hc0 HC HSZ HB1 hT1
 go_wp2_with fail
 refine (jsure_yes _ _).mono ?_
 rintro e' w' ⟨rfl, rfl⟩
 clear z1 z2 z3
 by_cases h0 : ws = []
 ·subst h0
  go_wp2_with fail
  go_loopw [8, 32] (fun v i wx => v = .slice none 0 0 ∧ i = .int .i64 0 ∧ w2 = wx) (fun _ _ _ => 0)
  case atStart => exact ⟨rfl, rfl, rfl⟩
  case round =>
   obtain ⟨rfl, rfl, rfl⟩ := hrel
   go_wp2_with fail
   go_ret2
   exact ⟨none, 0, rfl, Rd.nil_ _ _, (fun ad h => by cases h), HB2.out⟩
 ·have hw1 : 1 ≤ ws.length := by
   cases ws with
   | nil => exact absurd rfl h0
   | cons _ _ => simp
  generalize hlen : ws.length = n at *
  have HL := Lib.hid hlen
  clear hlen h0
  go_wp2_with fail
  go_loopw [8, 32] (fun v i wr => ∃ j : Nat, j ≤ n ∧ i = .int .i64 j ∧ Own wr w2.heap.size v ((ws.take j).map valOf) ∧ Below w2.heap.size w2 wr) (fun _ i _ => n - (intOf i).toNat)
  case atStart => exact ⟨0, Nat.zero_le _, rfl, Own.nil _ _, fr_refl _⟩
  case round =>
   obtain ⟨j, hj, rfl, hown, hbel⟩ := hrel
   obtain ⟨B0, b0, rfl⟩ := hown.form
   have hxl : ((ws.take j).map valOf).length = j := by rw [List.length_map, List.length_take]; have := HL.out; omega
   rw [hxl] at hown ⊢
   have HXL := Lib.hid hxl
   clear hxl
   by_cases hlt : j < n
   ·obtain ⟨wd, hwd⟩ : ∃ wd, ws[j]? = some wd := ⟨_, List.getElem?_eq_getElem (by have := HL.out; omega)⟩
    have HW := Lib.hid hwd
    obtain ⟨hn0, hn4, hdig, hit⟩ := hws wd (List.mem_of_getElem? hwd)
    have HDIG := Lib.hid hdig
    have HIT := Lib.hid hit
    have HNE := Lib.hid hn0
    have hcw : wr.cell? ⟨w.heap.size, j + 1, none⟩ = some (.string ⟨wd.toArray⟩) := (hbel.cell (p := ⟨w.heap.size, j + 1, none⟩) hg2).trans (HC2.out j wd hwd)
    have hcw2 : wr.cell? ⟨w.heap.size, 1 + j, none⟩ = some (.string ⟨wd.toArray⟩) := by rw [Nat.add_comm]; exact hcw
    have hgr : w.heap.size < wr.heap.size := Nat.lt_of_lt_of_le hg2 hbel.size
    have hji : (j : Int) < (n : Int) := by omega
    have hj0 : (0 : Int) ≤ (j : Int) := Int.natCast_nonneg j
    have hss : (⟨wd.toArray⟩ : ByteArray).size = wd.length := by show wd.toArray.size = _; simp
    have HSS := Lib.hid hss
    have h5i : (wd.length : Int) ≤ 4 := by omega
    clear hwd hss hdig hit hn0
    go_wp2_with fail
    go_loopw [11] (fun nn wx => ∃ pos : Nat, pos ≤ wd.length ∧ wx = wr.iter ⟨wd.toArray⟩ pos ∧ nn = .int .i64 (valOf (wd.take pos)) ∧ (wd.take pos).all digB = true) (fun _ wx => wd.length - wx.iterPos wr.heap.size)
    case atStart => exact ⟨0, Nat.zero_le _, rfl, rfl, rfl⟩
    case round =>
     obtain ⟨pos, hpos, rfl, rfl, hall⟩ := hrel
     have HALL := Lib.hid hall
     clear hall
     by_cases hp : pos < wd.length
     ·obtain ⟨b, hb⟩ : ∃ b, wd[pos]? = some b := ⟨_, List.getElem?_eq_getElem hp⟩
      have hps : pos < (⟨wd.toArray⟩ : ByteArray).size := by rw [HSS.out]; exact hp
      have hbs : (⟨wd.toArray⟩ : ByteArray)[pos]'hps = b := by
       show wd.toArray[pos] = b
       simp
       exact (List.getElem?_eq_some_iff.1 hb).2
      have HB := Lib.hid hb
      have hd : digB b = true := List.all_eq_true.1 HDIG.out b (List.mem_of_getElem? hb)
      have hdd := (digB_iff b).1 hd
      have HD := Lib.hid hd
      have ha : b.toNat < 128 := by omega
      have hnx : ∀ ty, (Instr.next (.pointer (some ⟨wr.heap.size, 0, none⟩)) true ty).run Tryz.prog (wr.iter ⟨wd.toArray⟩ pos) = .ok (.tuple #[.bool true, .int .i64 pos, .int .i32 ((b.toNat : Nat) : Int)]) (wr.iter ⟨wd.toArray⟩ (pos + 1)) := fun ty => by
       have h := run_next_ascii (P := Tryz.prog) wr ⟨wd.toArray⟩ pos ty hps (by rw [hbs]; exact ha)
       rw [hbs] at h
       exact h
      clear hb hbs hd
      obtain ⟨c, hc⟩ : ∃ c, b.toNat = c := ⟨_, rfl⟩
      rw [hc] at hdd ha hnx
      have HCB := Lib.hid hc
      clear hc
      obtain ⟨hd1, hd2⟩ := hdd
      have hd3 : (48 : Int) ≤ (c : Int) := by omega
      have hd4 : (c : Int) ≤ 57 := by omega
      have hv := val_small wd pos (by omega) HALL.out
      have hst := val_step wd pos b HB.out
      rw [HCB.out] at hst
      have HST := Lib.hid hst
      clear hst
      obtain ⟨v, gv⟩ : ∃ v, valOf (wd.take pos) = v := ⟨_, rfl⟩
      rw [gv] at hv
      have GV := Lib.hid gv
      simp only [gv]
      clear gv
      obtain ⟨hv1, hv2⟩ := hv
      go_wp2_with fail
      refine (jsure_yes _ _).mono ?_
      rintro e' w' ⟨rfl, rfl⟩
      go_wp2_with fail
      refine ⟨⟨pos + 1, by omega, rfl, ?_, ?_⟩, ?_⟩
      ·rw [HST.out, GV.out]
      ·rw [List.take_succ_eq_append_getElem hp, List.all_append, HALL.out]
       have := (List.getElem?_eq_some_iff.1 HB.out).2
       rw [this]
       simp [HD.out]
      ·simp
       omega
     ·obtain rfl : pos = wd.length := by omega
      generalize hpl2 : wd.length = pos at *
      have HPL := Lib.hid hpl2
      clear hpl2 hp hpos
      have hps : ¬ pos < (⟨wd.toArray⟩ : ByteArray).size := by rw [HSS.out]; omega
      have hnx : ∀ ty, (Instr.next (.pointer (some ⟨wr.heap.size, 0, none⟩)) true ty).run Tryz.prog (wr.iter ⟨wd.toArray⟩ pos) = _ := fun ty => run_next_end (P := Tryz.prog) wr ⟨wd.toArray⟩ pos ty hps
      have htk : wd.take pos = wd := List.take_of_length_le (by have := HPL.out; omega)
      have hall := HALL.out
      rw [htk] at hall ⊢
      have HT := Lib.hid htk
      clear htk
      have hbi := iter_fr wr ⟨wd.toArray⟩ pos
      have hownI := hown.keep hbi
      have hTI := (hT2.keep hbel).keep hbi
      have hbelI := fr_call hbel hbi
      have hv := val_small wd pos (by omega) (by rw [HT.out]; exact hall)
      rw [HT.out] at hv
      obtain ⟨v, gv⟩ : ∃ v, valOf wd = v := ⟨_, rfl⟩
      rw [gv] at hv ⊢
      have GV := Lib.hid gv
      clear gv
      obtain ⟨hv1, hv2⟩ := hv
      generalize wr.iter ⟨wd.toArray⟩ pos = wi at *
      have hq2 : (wd == ([] : List UInt8)) = false := by
       cases wd with
       | nil => exact absurd rfl HNE.out
       | cons _ _ => rfl
      have hq1 : (wd == ByteArray.toList ⟨#[]⟩) = false := by
       show (wd == ByteArray.toList ⟨([] : List UInt8).toArray⟩) = false
       rw [ByteArray.toList_mk]
       exact hq2
      have hq3 : wd.isEmpty = false := by
       cases wd with
       | nil => exact absurd rfl HNE.out
       | cons _ _ => rfl
      clear hall
      go_wp2_with fail
      refine (itoa_any v _ hv1 (by omega) hTI).mono ?_
      rintro e' w3 ⟨rfl, hb3⟩
      rw [show Lib.itoa v = wd by rw [← GV.out]; exact HIT.out]
      have hown2 := hownI.keep hb3
      have hbel2 := fr_call hbelI hb3
      go_wp2_with fail
      refine (jsure_yes _ _).mono ?_
      rintro e' w' ⟨rfl, rfl⟩
      have hs3 := hbel2.size
      go_wp2_with (at_builtin; refine app_int rfl (.tmp 70) (.tmp 72) rfl w2.heap.size _ ((ws.take j).map valOf) rfl rfl hown2 (by have := HXL.out; omega) hbel2.size ?_; intro B2 cap2 wC hown' hg; rw [HXL.out] at hown' ⊢)
      have ha := fr_alloc (fr_refl w3) (.cells #[.int .i64 v] 3)
      have hge := own_ge hown2
      refine ⟨⟨j + 1, by omega, by go_num, ?_, (fr_call hbel2 ha).grown hg (fr_call hbel2 ha).size hge⟩, ?_⟩
      ·have hjl : j < ws.length := by have := HL.out; omega
       have hw := (List.getElem?_eq_some_iff.1 HW.out).2
       rw [List.take_succ_eq_append_getElem hjl, hw, List.map_append]
       show Own wC w2.heap.size _ ((ws.take j).map valOf ++ [valOf wd])
       rw [GV.out]
       exact hown'
      ·simp [intOf]; omega
   ·obtain rfl : j = n := by omega
    have htk : ws.take j = ws := List.take_of_length_le (by have := HL.out; omega)
    rw [htk] at hown
    go_wp2_with fail
    go_ret2
    rw [HL.out]
    exact ⟨B0, b0, rfl, hown.rd, (fun ad h => by subst h; have := own_ge hown ad.block (by simp [Value.ownBlock]); omega), fr_call HB2.out hbel⟩
set_option maxRecDepth 100000 in
set_option maxHeartbeats 8000000 in
theorem told_none (l p0 : List UInt8) (ws : List (List UInt8)) (F : List Form) (b off mc : Nat) (w : World) (hl : l.length ≤ 1000) (hpf : pieces 32 l = p0 :: ws)
  (hF : RdS w (some ⟨b, off, none⟩) 2 (F.map formC)) (hm2 : F.length ≤ 1000) (hk : Lib.idxBy eqF F (p0, ws.length) = -1) (hM : MaxP w) :
  Calls Tryz.prog 222 #[.string ⟨l.toArray⟩, .slice (some ⟨b, off, none⟩) F.length mc] w fun e w' => e = .panicked (jnoneV ⟨l.toArray⟩) ∧ Below w.heap.size w w' := by
 have hpl := pieces_len 32 l
 have hsp := split_is 32 l w (by omega) hM
 rw [hpf] at hpl hsp
 simp only [List.length_cons] at hpl hsp
 have hix := fun W (hb : Below w.heap.size w W) => index_Fo b off F.length mc F (p0, ws.length) W (hF.keep hb) rfl hm2 _ hk
 clear hpf hF hk
 go_enter Tryz.func222, Tryz.ntmps222
 go_wp2_with fail
 refine hsp.mono ?_
 clear hsp
 rintro e' w1 ⟨rfl, hcell, hsz, hb1⟩
 have hc0 := hcell 0 p0 rfl
 have hg1 : w.heap.size < w1.heap.size := by omega
 have HB1 := Lib.hid hb1
 have hix1 := hix _ hb1
 unfold strV at hc0
 have z1 : IntKind.i64.wrap (((ws.length + 1 : Nat) : Int) - 1) = (ws.length : Int) := by rw [IntWalk.i64_in _ (by omega)]; omega
 have z2 : ((ws.length + 1 : Nat) : Int) = (ws.length : Int) + 1 := rfl
 have z3 : IntKind.i64.wrap (ws.length : Int) = (ws.length : Int) := IntWalk.i64_in _ (by omega)
 clear hcell hsz hb1 hix
 go_wp2_with fail
 refine hix1.mono ?_
 rintro e' w2 ⟨rfl, hb2⟩
 have HB2 := Lib.hid (fr_call HB1.out hb2)
 clear hix1 hc0 HB1
 go_wp2_with fail
 refine (jsure_no _ _).mono ?_
 rintro e' w' ⟨rfl, rfl⟩
 exact ⟨rfl, rfl, HB2.out⟩
end Go.Proofs.YtkmiphabagoifaaGreatDoor
end

section
namespace Go.Proofs.YtkmiphabagoifaaGreatDoor
open Go.RowKit
attribute [local go_sem] Oper.semAt_some

set_option maxRecDepth 100000 in
set_option maxHeartbeats 16000000 in
theorem wrong_edge (pw ph pp pg po : Int) (A B M : Option Addr) (n nc m mc k kc a : Nat) (mp gn : Value) (w : World) (bb : Bool) (h0 : ∀ W, Below w.heap.size w W → Calls Tryz.prog 156 #[.agg #[.int .i64 pw, .int .i64 ph, .int .i64 pp, .int .i64 pg, .int .i64 po, .slice A n nc, .slice B m mc, .slice M k kc, mp, gn], .int .i64 a] W fun e w' => e = .returned (.bool bb) ∧ Below W.heap.size W w') :
  Calls Tryz.prog 92 #[.agg #[.int .i64 pw, .int .i64 ph, .int .i64 pp, .int .i64 pg, .int .i64 po, .slice A n nc, .slice B m mc, .slice M k kc, mp, gn], .int .i64 a, .int .i64 a] w fun e w' => e = .returned (.int .i64 (if bb = true then 1 else 0)) ∧ Below w.heap.size w w' := by
 have hb0 := fr_alloc (fr_refl w) (.cells #[.int .i64 pw, .int .i64 ph, .int .i64 pp, .int .i64 pg, .int .i64 po, .slice A n nc, .slice B m mc, .slice M k kc, mp, gn] 151)
 have hX := Blk.new w 151 #[.int .i64 pw, .int .i64 ph, .int .i64 pp, .int .i64 pg, .int .i64 po, .slice A n nc, .slice B m mc, .slice M k kc, mp, gn]
 obtain ⟨w1, hw1⟩ : ∃ w1, w.alloc (.cells #[.int .i64 pw, .int .i64 ph, .int .i64 pp, .int .i64 pg, .int .i64 po, .slice A n nc, .slice B m mc, .slice M k kc, mp, gn] 151) = w1 := ⟨_, rfl⟩
 rw [hw1] at hb0 hX
 have hlX := hX.lt
 have hcX := fun j => hX.cell j
 have q0 : ((a : Int) == (a : Int)) = true := beq_self_eq_true _
 have hc := h0 _ hb0
 clear h0
 cases bb
 ·go_enter Tryz.func92, Tryz.ntmps92
  go_upto_region 1 with (fail)
  (try rw [hw1])
  clear hw1 hX
  go_wp2_with fail
  refine hc.mono ?_
  rintro e' w3 ⟨rfl, hb3⟩
  go_wp2_with fail
  go_ret
  exact ⟨rfl, fr_call hb0 hb3⟩
 ·go_enter Tryz.func92, Tryz.ntmps92
  go_upto_region 1 with (fail)
  (try rw [hw1])
  clear hw1 hX
  go_wp2_with fail
  refine hc.mono ?_
  rintro e' w3 ⟨rfl, hb3⟩
  go_wp2_with fail
  go_ret
  exact ⟨rfl, fr_call hb0 hb3⟩

def pWs : List PWh := [⟨0, 0, 0, 12⟩, ⟨1, 0, 0, 8⟩, ⟨1, 0, 1, 10⟩, ⟨2, 0, 1, 6⟩]
def pCs : List PPt := [⟨15, 20⟩, ⟨35, 20⟩, ⟨35, 36⟩]
def pMs : List (Int × Int) := [(0, 1), (2, 3)]
def newW : PWh := ⟨3, 0, 0, 5⟩
def qWs : List PWh := pWs ++ [newW]
def qCs (x y : Nat) : List PPt := pCs ++ [⟨x, y⟩]
def qMs : List (Int × Int) := pMs ++ [(0, 4), (1, 4)]
def meshN (f s : Int) : Bool := decide (f < s * s) || decide ((s + 1) * (s + 1) < f)
/-- what is wrong with a wheel and the new one -/
def wrongN (x y : Nat) : Nat → Int
 | 0 => kindN (meshN (farP ⟨15, 20⟩ ⟨x, y⟩) 17) false false false (postedB ⟨0, 0, 0, 12⟩ newW 2 ⟨15, 20⟩ ⟨x, y⟩)
 | 1 => kindN (meshN (farP ⟨35, 20⟩ ⟨x, y⟩) 13) false false false (postedB ⟨1, 0, 0, 8⟩ newW 2 ⟨35, 20⟩ ⟨x, y⟩)
 | 2 => kindN false false false false (postedB ⟨1, 0, 1, 10⟩ newW 2 ⟨35, 20⟩ ⟨x, y⟩)
 | 3 => kindN false false false false (postedB ⟨2, 0, 1, 6⟩ newW 2 ⟨35, 36⟩ ⟨x, y⟩)
 | _ => if edgeB 60 50 5 ⟨x, y⟩ = true then 1 else 0
def freeN (x y : Nat) : Bool := (List.range 5).all (fun i => wrongN x y i == 0)
def inCs (x y : Nat) : Bool := (pCs.map (fun p => (p.x, p.y))).contains ((x : Int), (y : Int))
theorem blocked_all : ((List.range 29).all fun x => (List.range 51).all fun y => (x == 28 && Nat.ble 8 y) || inCs x y || !(freeN x y)) = true := by kernel_rfl
theorem free_at : freeN 28 8 = true ∧ inCs 28 8 = false := by constructor <;> kernel_rfl
theorem blocked_at {x y : Nat} (hx : x ≤ 28) (hy : y ≤ 50) (h : ¬ (x = 28 ∧ 8 ≤ y)) (hc : inCs x y = false) : freeN x y = false := by
 have h1 := List.all_eq_true.1 blocked_all x (List.mem_range.2 (by omega))
 have h2 := List.all_eq_true.1 h1 y (List.mem_range.2 (by omega))
 rw [hc] at h2
 cases hf : freeN x y with
 | false => rfl
 | true =>
  rw [hf] at h2
  simp at h2
  exact absurd h2 h

theorem wrong_mesh (A B M : Option Addr) (nc mc kc l : Nat) (gn : Value) (x y a p : Nat) (hx : x ≤ 60) (hy : y ≤ 50) (ha : a < 4) (xw : PWh) (c : PPt) (hxw : qWs[a]? = some xw) (hp : xw.centre = (p : Int)) (hp3 : p < 3) (hc : ∀ x y, (qCs x y)[p]? = some c) (hco : PtOk c) (ht : 0 ≤ xw.teeth ∧ xw.teeth ≤ 50) (hll : xw.layer = 0) (hyes : qMs.contains ((a : Int), (4 : Int)) = true) (w : World) (hM : MapM w l qMs) (hA : RdS w A 2 ((qCs x y).map PPt.cells)) (hB : RdS w B 4 (qWs.map PWh.cells)) :
  Calls Tryz.prog 92 #[.agg #[.int .i64 60, .int .i64 50, .int .i64 1, .int .i64 1, .int .i64 2, .slice A 4 nc, .slice B 5 mc, .slice M 4 kc, .map (some l), gn], .int .i64 a, .int .i64 4] w fun e w' => e = .returned (.int .i64 (kindN (meshN (farP c ⟨x, y⟩) (xw.teeth + 5)) false false false (postedB xw newW 2 c ⟨x, y⟩))) ∧ Below w.heap.size w w' := by
 have hd : (qCs x y)[3]? = some ⟨x, y⟩ := rfl
 have hdo : PtOk ⟨x, y⟩ := by unfold PtOk; dsimp only; omega
 have hy4 : qWs[4]? = some newW := rfl
 have hne : xw.centre ≠ newW.centre := by rw [hp]; show (p : Int) ≠ 3; omega
 refine wrong_pair 60 50 1 1 2 A B M 4 nc 5 mc 4 kc a 4 (.map (some l)) gn w (by omega) (meshN (farP c ⟨x, y⟩) (xw.teeth + 5)) false false false (postedB xw newW 2 c ⟨x, y⟩) ?_ ?_ ?_ ?_ ?_
 ·intro W hb
  by_cases hf : farP c ⟨x, y⟩ < (xw.teeth + 5) * (xw.teeth + 5)
  ·refine (apart_near 60 50 1 1 2 A B M 4 nc 5 mc 4 kc a 4 l gn qMs qWs (qCs x y) W (hM.keep hb) (hA.keep hb) rfl (hB.keep hb) rfl (by omega) (by omega) (by omega) xw newW hxw hy4 p 3 hp rfl c ⟨x, y⟩ (hc x y) hd hco hdo ⟨ht, by decide⟩ hyes hll hne (by decide) hf).mono ?_
   rintro e w' ⟨rfl, hb2⟩
   exact ⟨by unfold meshN; rw [decide_eq_true hf]; rfl, hb2⟩
  ·refine (apart_far 60 50 1 1 2 A B M 4 nc 5 mc 4 kc a 4 l gn qMs qWs (qCs x y) W (hM.keep hb) (hA.keep hb) rfl (hB.keep hb) rfl (by omega) (by omega) (by omega) xw newW hxw hy4 p 3 hp rfl c ⟨x, y⟩ (hc x y) hd hco hdo ⟨ht, by decide⟩ hyes hll hne (by decide) hf).mono ?_
   rintro e w' ⟨rfl, hb2⟩
   exact ⟨by unfold meshN; rw [decide_eq_false hf]; rfl, hb2⟩
 ·intro W hb
  exact touch_mesh 60 50 1 1 2 A B M 4 nc 5 mc 4 kc a 4 l gn qMs qWs (qCs x y) W (hM.keep hb) (hA.keep hb) rfl (hB.keep hb) rfl (by omega) (by omega) (by omega) xw newW hxw hy4 p 3 hp rfl c ⟨x, y⟩ (hc x y) hd hco hdo ⟨ht, by decide⟩ hyes
 ·intro W hb
  exact lsame_no 60 50 1 1 2 A B M 4 nc 5 mc 4 kc a 4 (.map (some l)) gn qWs W (hB.keep hb) rfl (by omega) (by omega) xw newW hxw hy4 hne
 ·intro W hb
  exact nested_no 60 50 1 1 2 A B M 4 nc 5 mc 4 kc a 4 (.map (some l)) gn qWs W (hB.keep hb) rfl (by omega) (by omega) xw newW hxw hy4 hne
 ·intro W hb
  exact posted_is 60 50 1 1 2 A B M 4 nc 5 mc 4 kc a 4 (.map (some l)) gn qWs (qCs x y) W (hA.keep hb) rfl (hB.keep hb) rfl (by omega) (by omega) xw newW hxw hy4 p 3 hp rfl c ⟨x, y⟩ (hc x y) hd hco hdo ht (by decide) (by decide) _ rfl
theorem wrong_none (A B M : Option Addr) (nc mc kc l : Nat) (gn : Value) (x y a p : Nat) (hx : x ≤ 60) (hy : y ≤ 50) (ha : a < 4) (xw : PWh) (c : PPt) (hxw : qWs[a]? = some xw) (hp : xw.centre = (p : Int)) (hp3 : p < 3) (hc : ∀ x y, (qCs x y)[p]? = some c) (hco : PtOk c) (ht : 0 ≤ xw.teeth ∧ xw.teeth ≤ 50) (hll : xw.layer ≠ 0) (hno : qMs.contains ((a : Int), (4 : Int)) = false) (w : World) (hM : MapM w l qMs) (hA : RdS w A 2 ((qCs x y).map PPt.cells)) (hB : RdS w B 4 (qWs.map PWh.cells)) :
  Calls Tryz.prog 92 #[.agg #[.int .i64 60, .int .i64 50, .int .i64 1, .int .i64 1, .int .i64 2, .slice A 4 nc, .slice B 5 mc, .slice M 4 kc, .map (some l), gn], .int .i64 a, .int .i64 4] w fun e w' => e = .returned (.int .i64 (kindN false false false false (postedB xw newW 2 c ⟨x, y⟩))) ∧ Below w.heap.size w w' := by
 have hd : (qCs x y)[3]? = some ⟨x, y⟩ := rfl
 have hdo : PtOk ⟨x, y⟩ := by unfold PtOk; dsimp only; omega
 have hy4 : qWs[4]? = some newW := rfl
 have hne : xw.centre ≠ newW.centre := by rw [hp]; show (p : Int) ≠ 3; omega
 refine wrong_pair 60 50 1 1 2 A B M 4 nc 5 mc 4 kc a 4 (.map (some l)) gn w (by omega) false false false false (postedB xw newW 2 c ⟨x, y⟩) ?_ ?_ ?_ ?_ ?_
 ·intro W hb
  exact apart_no 60 50 1 1 2 A B M 4 nc 5 mc 4 kc a 4 l gn qMs qWs (qCs x y) W (hM.keep hb) (hA.keep hb) rfl (hB.keep hb) rfl (by omega) (by omega) (by omega) xw newW hxw hy4 p 3 hp rfl c ⟨x, y⟩ (hc x y) hd hco hdo ⟨ht, by decide⟩ hno
 ·intro W hb
  exact touch_level 60 50 1 1 2 A B M 4 nc 5 mc 4 kc a 4 l gn qMs qWs (qCs x y) W (hM.keep hb) (hA.keep hb) rfl (hB.keep hb) rfl (by omega) (by omega) (by omega) xw newW hxw hy4 p 3 hp rfl c ⟨x, y⟩ (hc x y) hd hco hdo ⟨ht, by decide⟩ hno hll
 ·intro W hb
  exact lsame_no 60 50 1 1 2 A B M 4 nc 5 mc 4 kc a 4 (.map (some l)) gn qWs W (hB.keep hb) rfl (by omega) (by omega) xw newW hxw hy4 hne
 ·intro W hb
  exact nested_no 60 50 1 1 2 A B M 4 nc 5 mc 4 kc a 4 (.map (some l)) gn qWs W (hB.keep hb) rfl (by omega) (by omega) xw newW hxw hy4 hne
 ·intro W hb
  exact posted_is 60 50 1 1 2 A B M 4 nc 5 mc 4 kc a 4 (.map (some l)) gn qWs (qCs x y) W (hA.keep hb) rfl (hB.keep hb) rfl (by omega) (by omega) xw newW hxw hy4 p 3 hp rfl c ⟨x, y⟩ (hc x y) hd hco hdo ht (by decide) (by decide) _ rfl
theorem wrong_at (A B M : Option Addr) (nc mc kc l : Nat) (gn : Value) (x y i : Nat) (hx : x ≤ 60) (hy : y ≤ 50) (hi : i ≤ 4) (w : World) (hM : MapM w l qMs) (hA : RdS w A 2 ((qCs x y).map PPt.cells)) (hB : RdS w B 4 (qWs.map PWh.cells)) :
  Calls Tryz.prog 92 #[.agg #[.int .i64 60, .int .i64 50, .int .i64 1, .int .i64 1, .int .i64 2, .slice A 4 nc, .slice B 5 mc, .slice M 4 kc, .map (some l), gn], .int .i64 i, .int .i64 4] w fun e w' => e = .returned (.int .i64 (wrongN x y i)) ∧ Below w.heap.size w w' := by
 have h5 : i = 0 ∨ i = 1 ∨ i = 2 ∨ i = 3 ∨ i = 4 := by omega
 rcases h5 with rfl | rfl | rfl | rfl | rfl
 ·exact wrong_mesh A B M nc mc kc l gn x y 0 0 hx hy (by omega) ⟨0, 0, 0, 12⟩ ⟨15, 20⟩ rfl rfl (by omega) (fun _ _ => rfl) (by unfold PtOk; decide) (by decide) rfl (by decide) w hM hA hB
 ·exact wrong_mesh A B M nc mc kc l gn x y 1 1 hx hy (by omega) ⟨1, 0, 0, 8⟩ ⟨35, 20⟩ rfl rfl (by omega) (fun _ _ => rfl) (by unfold PtOk; decide) (by decide) rfl (by decide) w hM hA hB
 ·exact wrong_none A B M nc mc kc l gn x y 2 1 hx hy (by omega) ⟨1, 0, 1, 10⟩ ⟨35, 20⟩ rfl rfl (by omega) (fun _ _ => rfl) (by unfold PtOk; decide) (by decide) (by decide) (by decide) w hM hA hB
 ·exact wrong_none A B M nc mc kc l gn x y 3 2 hx hy (by omega) ⟨2, 0, 1, 6⟩ ⟨35, 36⟩ rfl rfl (by omega) (fun _ _ => rfl) (by unfold PtOk; decide) (by decide) (by decide) (by decide) w hM hA hB
 ·refine wrong_edge 60 50 1 1 2 A B M 4 nc 5 mc 4 kc 4 (.map (some l)) gn w (edgeB 60 50 5 ⟨x, y⟩) (fun W hb => ?_)
  exact edged_is 60 50 1 1 2 A B M 4 nc 5 mc 4 kc 4 (.map (some l)) gn qWs (qCs x y) W (hA.keep hb) rfl (hB.keep hb) rfl (by omega) newW rfl 3 rfl ⟨x, y⟩ rfl (by unfold PtOk; dsimp only; omega) (by decide) _ rfl
end Go.Proofs.YtkmiphabagoifaaGreatDoor
end
