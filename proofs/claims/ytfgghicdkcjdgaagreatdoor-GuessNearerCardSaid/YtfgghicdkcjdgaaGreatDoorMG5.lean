/- Walks: 'try': something is done, and a panic of this package is given back as an error. Walk: the trains of all guesses; List. Walk: List. Walk, package train: gcd, reduced, product. Append to a row of the call's own: the new row is the old one, or lies behind all that lay. Package train: product. -/
import Derived.Test.YtfgghicdkcjdgaaGreatDoorMG4
import Derived.Defers
import Derived.Recover
import Derived.Laws.Pointers
import Derived.Laws.EntriesVeiled
import Derived.Outline
section
namespace Go.Proofs.YtfgghicdkcjdgaaGreatDoor
open Go.RowKit Go.Shelf

set_option maxHeartbeats 1000000 in
theorem try1_idle (p : Addr) (w : World) :
  CallsD Tryz.prog 107 #[.pointer (some p)] .returning w fun e u' w' => e = .returned (.tuple #[]) ∧ u' = .returning ∧ w' = w := by
 refine callsD_of_wpS Tryz.func107 rfl fun c₀ cs hu => ?_
 simp only [Tryz.ntmps107, List.size_toArray, List.length_cons, List.length_nil, Nat.reduceAdd, Nat.reduceSub, Array.replicate_succ, Array.replicate_zero, List.push_toArray, List.append_toArray, List.nil_append, List.cons_append]
 apply wpS_seq
 apply wpS_region
 simp [wpOpsS, go_sem, recoverD, hu, Exit.thenS]
 refine wpS_of_wp ?_
 go_wp2
 cases c₀
 simp_all [bodyPostS, results, Tryz.results107]

set_option maxHeartbeats 1000000 in
theorem try1_crowd (p : Addr) (x many : Int) (older : List PanicEntry) (w : World) (hc : w.cell? p = some (.int .i64 x)) (hz : w.frozen? p = false) :
  CallsD Tryz.prog 107 #[.pointer (some p)] (.panicking ({ v := .iface 151 (.agg #[.int .i64 many]), recovered := false } :: older)) w fun e u' w' =>
   e = .returned (.tuple #[]) ∧ u' = .panicking ({ v := .iface 151 (.agg #[.int .i64 many]), recovered := true } :: older) ∧ w' = (w.alloc (.cells #[.int .i64 many] 151)).setCell p (.int .i64 3) := by
 refine callsD_of_wpS Tryz.func107 rfl fun c₀ cs hu => ?_
 simp only [Tryz.ntmps107, List.size_toArray, List.length_cons, List.length_nil, Nat.reduceAdd, Nat.reduceSub, Array.replicate_succ, Array.replicate_zero, List.push_toArray, List.append_toArray, List.nil_append, List.cons_append]
 apply wpS_seq
 apply wpS_region
 simp [wpOpsS, go_sem, recoverD, hu, Exit.thenS]
 have HU := Lib.hid hu
 clear hu
 have heq : ∀ w, (binOp .eql 20 (.iface 151 (.agg #[.int .i64 many])) .nilIface).run Tryz.prog w = .ok (.bool false) w := fun w => by kernel_rfl
 have hta : ∀ w, (Instr.typeAssert (.iface 151 (.agg #[.int .i64 many])) 20 151 true).run Tryz.prog w = .ok (.tuple #[.agg #[.int .i64 many], .bool true]) w := fun w => by kernel_rfl
 have hpl := World.block_lt_of_cell? w p hc
 have hA := fr_alloc (fr_refl w) (.cells #[.int .i64 many] 151)
 have hc2 := (hA.cell hpl).trans hc
 have hz2 := (hA.frozen hpl).trans hz
 clear hA
 refine wpS_of_wp ?_
 go_wp2
 have hu := HU.out
 cases c₀
 simp_all [bodyPostS, results, Tryz.results107]
set_option maxHeartbeats 1000000 in
theorem try1_none (p : Addr) (x : Int) (why : ByteArray) (older : List PanicEntry) (w : World) (hc : w.cell? p = some (.int .i64 x)) (hz : w.frozen? p = false) :
  CallsD Tryz.prog 107 #[.pointer (some p)] (.panicking ({ v := .iface 153 (.agg #[.string why]), recovered := false } :: older)) w fun e u' w' =>
   e = .returned (.tuple #[]) ∧ u' = .panicking ({ v := .iface 153 (.agg #[.string why]), recovered := true } :: older) ∧ w' = (w.alloc (.cells #[.string why] 153)).setCell p (.int .i64 4) := by
 refine callsD_of_wpS Tryz.func107 rfl fun c₀ cs hu => ?_
 simp only [Tryz.ntmps107, List.size_toArray, List.length_cons, List.length_nil, Nat.reduceAdd, Nat.reduceSub, Array.replicate_succ, Array.replicate_zero, List.push_toArray, List.append_toArray, List.nil_append, List.cons_append]
 apply wpS_seq
 apply wpS_region
 simp [wpOpsS, go_sem, recoverD, hu, Exit.thenS]
 have HU := Lib.hid hu
 clear hu
 have heq : ∀ w, (binOp .eql 20 (.iface 153 (.agg #[.string why])) .nilIface).run Tryz.prog w = .ok (.bool false) w := fun w => by kernel_rfl
 have hta : ∀ w, (Instr.typeAssert (.iface 153 (.agg #[.string why])) 20 153 true).run Tryz.prog w = .ok (.tuple #[.agg #[.string why], .bool true]) w := fun w => by kernel_rfl
 have htb : ∀ w, (Instr.typeAssert (.iface 153 (.agg #[.string why])) 20 151 true).run Tryz.prog w = .ok (.tuple #[.agg #[.int .i64 0], .bool false]) w := fun w => by kernel_rfl
 have hpl := World.block_lt_of_cell? w p hc
 have hA := fr_alloc (fr_refl w) (.cells #[.string why] 153)
 have hc2 := (hA.cell hpl).trans hc
 have hz2 := (hA.frozen hpl).trans hz
 clear hA
 refine wpS_of_wp ?_
 go_wp2
 have hu := HU.out
 cases c₀
 simp_all [bodyPostS, results, Tryz.results107]

/-- what is given up with if there are too many guesses -/
def crowdV (many : Int) : List PanicEntry := [{ v := .iface 151 (.agg #[.int .i64 many]), recovered := false }]
/-- what is given up with by 'none' -/
def noneV (why : ByteArray) : List PanicEntry := [{ v := .iface 153 (.agg #[.string why]), recovered := false }]

set_option maxHeartbeats 1000000 in
theorem try_ok_List (cap : Array Value) (R : World → Prop) (w : World)
  (h : Calls Tryz.prog 48 cap (w.alloc (.cells #[.int .i64 0] 31)) fun e w' => e = .returned (.tuple #[]) ∧ R w' ∧ w'.cell? ⟨w.heap.size, 0, none⟩ = some (.int .i64 0) ∧ w'.frozen? ⟨w.heap.size, 0, none⟩ = false) :
  Calls Tryz.prog 47 #[.func (.func 48) #[] cap] w fun e w'' => e = .returned (.int .i64 0) ∧ ∃ w', R w' ∧ w'' = w'.setCell ⟨w.heap.size, 0, none⟩ (.int .i64 0) := by
 have hmf : ∀ (fn : Fn) (first cap : Array Value) (w : World), (Instr.makeFunc fn first cap).run Tryz.prog w = .ok (.func fn first cap) w := fun _ _ _ _ => rfl
 have H := Lib.hid h
 clear h
 go_enter_defers Tryz.func47, Tryz.ntmps47
 go_wp2_with fail
 refine (H.out).mono ?_
 rintro e w' ⟨rfl, hR, hc, hf⟩
 go_wp2
 refine leaves_cons (f := 107) (args := #[.pointer (some ⟨w.heap.size, 0, none⟩)]) (by simp) (by simp [go_sem]) ?_
 refine (try1_idle ⟨w.heap.size, 0, none⟩ _).mono ?_
 rintro e u' w'' ⟨rfl, rfl, rfl⟩
 simp [Leaves, settle, results, Tryz.results47, go_sem, hc]
 exact ⟨w', hR, rfl⟩

set_option maxHeartbeats 1000000 in
theorem try_crowd_List (cap : Array Value) (R : World → Prop) (w : World) (many : Int)
  (h : Calls Tryz.prog 48 cap (w.alloc (.cells #[.int .i64 0] 31)) fun e w' => e = .panicked (crowdV many) ∧ R w' ∧ w'.cell? ⟨w.heap.size, 0, none⟩ = some (.int .i64 0) ∧ w'.frozen? ⟨w.heap.size, 0, none⟩ = false) :
  Calls Tryz.prog 47 #[.func (.func 48) #[] cap] w fun e w'' => e = .returned (.int .i64 3) ∧ ∃ w', R w' ∧ w'' = (w'.alloc (.cells #[.int .i64 many] 151)).setCell ⟨w.heap.size, 0, none⟩ (.int .i64 3) := by
 have hmf : ∀ (fn : Fn) (first cap : Array Value) (w : World), (Instr.makeFunc fn first cap).run Tryz.prog w = .ok (.func fn first cap) w := fun _ _ _ _ => rfl
 have H := Lib.hid h
 clear h
 go_enter_defers Tryz.func47, Tryz.ntmps47
 go_wp2_with fail
 refine (H.out).mono ?_
 rintro e w' ⟨rfl, hR, hc, hf⟩
 go_wp2
 refine leaves_cons (f := 107) (args := #[.pointer (some ⟨w.heap.size, 0, none⟩)]) (by simp) (by simp [go_sem]) ?_
 refine (try1_crowd ⟨w.heap.size, 0, none⟩ 0 many [] _ hc hf).mono ?_
 rintro e u' w'' ⟨rfl, rfl, rfl⟩
 have hpl := World.block_lt_of_cell? w' _ hc
 have hc2 := ((fr_alloc (fr_refl w') (.cells #[.int .i64 many] 151)).cell hpl).trans hc
 simp [Leaves, settle, results, Tryz.results47, go_sem, hc2]
 exact ⟨w', hR, rfl⟩
set_option maxHeartbeats 1000000 in
theorem try_ok_Alike (cap : Array Value) (R : World → Prop) (w : World)
  (h : Calls Tryz.prog 92 cap (w.alloc (.cells #[.int .i64 0] 31)) fun e w' => e = .returned (.tuple #[]) ∧ R w' ∧ w'.cell? ⟨w.heap.size, 0, none⟩ = some (.int .i64 0) ∧ w'.frozen? ⟨w.heap.size, 0, none⟩ = false) :
  Calls Tryz.prog 47 #[.func (.func 92) #[] cap] w fun e w'' => e = .returned (.int .i64 0) ∧ ∃ w', R w' ∧ w'' = w'.setCell ⟨w.heap.size, 0, none⟩ (.int .i64 0) := by
 have hmf : ∀ (fn : Fn) (first cap : Array Value) (w : World), (Instr.makeFunc fn first cap).run Tryz.prog w = .ok (.func fn first cap) w := fun _ _ _ _ => rfl
 have H := Lib.hid h
 clear h
 go_enter_defers Tryz.func47, Tryz.ntmps47
 go_wp2_with fail
 refine (H.out).mono ?_
 rintro e w' ⟨rfl, hR, hc, hf⟩
 go_wp2
 refine leaves_cons (f := 107) (args := #[.pointer (some ⟨w.heap.size, 0, none⟩)]) (by simp) (by simp [go_sem]) ?_
 refine (try1_idle ⟨w.heap.size, 0, none⟩ _).mono ?_
 rintro e u' w'' ⟨rfl, rfl, rfl⟩
 simp [Leaves, settle, results, Tryz.results47, go_sem, hc]
 exact ⟨w', hR, rfl⟩

set_option maxHeartbeats 1000000 in
theorem try_crowd_Alike (cap : Array Value) (R : World → Prop) (w : World) (many : Int)
  (h : Calls Tryz.prog 92 cap (w.alloc (.cells #[.int .i64 0] 31)) fun e w' => e = .panicked (crowdV many) ∧ R w' ∧ w'.cell? ⟨w.heap.size, 0, none⟩ = some (.int .i64 0) ∧ w'.frozen? ⟨w.heap.size, 0, none⟩ = false) :
  Calls Tryz.prog 47 #[.func (.func 92) #[] cap] w fun e w'' => e = .returned (.int .i64 3) ∧ ∃ w', R w' ∧ w'' = (w'.alloc (.cells #[.int .i64 many] 151)).setCell ⟨w.heap.size, 0, none⟩ (.int .i64 3) := by
 have hmf : ∀ (fn : Fn) (first cap : Array Value) (w : World), (Instr.makeFunc fn first cap).run Tryz.prog w = .ok (.func fn first cap) w := fun _ _ _ _ => rfl
 have H := Lib.hid h
 clear h
 go_enter_defers Tryz.func47, Tryz.ntmps47
 go_wp2_with fail
 refine (H.out).mono ?_
 rintro e w' ⟨rfl, hR, hc, hf⟩
 go_wp2
 refine leaves_cons (f := 107) (args := #[.pointer (some ⟨w.heap.size, 0, none⟩)]) (by simp) (by simp [go_sem]) ?_
 refine (try1_crowd ⟨w.heap.size, 0, none⟩ 0 many [] _ hc hf).mono ?_
 rintro e u' w'' ⟨rfl, rfl, rfl⟩
 have hpl := World.block_lt_of_cell? w' _ hc
 have hc2 := ((fr_alloc (fr_refl w') (.cells #[.int .i64 many] 151)).cell hpl).trans hc
 simp [Leaves, settle, results, Tryz.results47, go_sem, hc2]
 exact ⟨w', hR, rfl⟩
set_option maxHeartbeats 1000000 in
theorem try_ok_Read (cap : Array Value) (R : World → Prop) (w : World)
  (h : Calls Tryz.prog 94 cap (w.alloc (.cells #[.int .i64 0] 31)) fun e w' => e = .returned (.tuple #[]) ∧ R w' ∧ w'.cell? ⟨w.heap.size, 0, none⟩ = some (.int .i64 0) ∧ w'.frozen? ⟨w.heap.size, 0, none⟩ = false) :
  Calls Tryz.prog 47 #[.func (.func 94) #[] cap] w fun e w'' => e = .returned (.int .i64 0) ∧ ∃ w', R w' ∧ w'' = w'.setCell ⟨w.heap.size, 0, none⟩ (.int .i64 0) := by
 have hmf : ∀ (fn : Fn) (first cap : Array Value) (w : World), (Instr.makeFunc fn first cap).run Tryz.prog w = .ok (.func fn first cap) w := fun _ _ _ _ => rfl
 have H := Lib.hid h
 clear h
 go_enter_defers Tryz.func47, Tryz.ntmps47
 go_wp2_with fail
 refine (H.out).mono ?_
 rintro e w' ⟨rfl, hR, hc, hf⟩
 go_wp2
 refine leaves_cons (f := 107) (args := #[.pointer (some ⟨w.heap.size, 0, none⟩)]) (by simp) (by simp [go_sem]) ?_
 refine (try1_idle ⟨w.heap.size, 0, none⟩ _).mono ?_
 rintro e u' w'' ⟨rfl, rfl, rfl⟩
 simp [Leaves, settle, results, Tryz.results47, go_sem, hc]
 exact ⟨w', hR, rfl⟩

set_option maxHeartbeats 1000000 in
theorem try_crowd_Read (cap : Array Value) (R : World → Prop) (w : World) (many : Int)
  (h : Calls Tryz.prog 94 cap (w.alloc (.cells #[.int .i64 0] 31)) fun e w' => e = .panicked (crowdV many) ∧ R w' ∧ w'.cell? ⟨w.heap.size, 0, none⟩ = some (.int .i64 0) ∧ w'.frozen? ⟨w.heap.size, 0, none⟩ = false) :
  Calls Tryz.prog 47 #[.func (.func 94) #[] cap] w fun e w'' => e = .returned (.int .i64 3) ∧ ∃ w', R w' ∧ w'' = (w'.alloc (.cells #[.int .i64 many] 151)).setCell ⟨w.heap.size, 0, none⟩ (.int .i64 3) := by
 have hmf : ∀ (fn : Fn) (first cap : Array Value) (w : World), (Instr.makeFunc fn first cap).run Tryz.prog w = .ok (.func fn first cap) w := fun _ _ _ _ => rfl
 have H := Lib.hid h
 clear h
 go_enter_defers Tryz.func47, Tryz.ntmps47
 go_wp2_with fail
 refine (H.out).mono ?_
 rintro e w' ⟨rfl, hR, hc, hf⟩
 go_wp2
 refine leaves_cons (f := 107) (args := #[.pointer (some ⟨w.heap.size, 0, none⟩)]) (by simp) (by simp [go_sem]) ?_
 refine (try1_crowd ⟨w.heap.size, 0, none⟩ 0 many [] _ hc hf).mono ?_
 rintro e u' w'' ⟨rfl, rfl, rfl⟩
 have hpl := World.block_lt_of_cell? w' _ hc
 have hc2 := ((fr_alloc (fr_refl w') (.cells #[.int .i64 many] 151)).cell hpl).trans hc
 simp [Leaves, settle, results, Tryz.results47, go_sem, hc2]
 exact ⟨w', hR, rfl⟩

theorem trains_zero (w : World) : (zeroValue 151).run Tryz.prog w = .ok (.agg #[.int .i64 0]) w := by kernel_rfl
set_option maxHeartbeats 4000000 in
theorem trains_long (A N L : Option Addr) (nw wc nn nc n lc : Nat) (w : World) (hn : 200 < n) :
  Calls Tryz.prog 50 #[.agg #[.slice A nw wc, .slice N nn nc, .slice L n lc]] w fun e w' => e = .panicked (crowdV (n : Int)) ∧ Below w.heap.size w w' := by
 have h1 : decide ((200 : Int) < (n : Int)) = true := decide_eq_true (by omega)
 go_enter Tryz.func50, Tryz.ntmps50
 go_wp2_with fail
 exact ⟨rfl, rfl, fr_alloc (fr_refl _) _⟩
/-- the slice reads as a train, in a row of pairs -/
def RdP (W : World) (A : Option Addr) (p : List Wh) : Prop := RdS W A 2 (p.map Wh.cells) ∧ (0 < p.length → ∀ ad, A = some ad → ∃ cs fr, W.heap[ad.block]? = some (.cells cs 98 fr))
theorem RdP.move {W W' : World} {A : Option Addr} {p : List Wh} (h : RdP W A p) (hs : W.heap.size ≤ W'.heap.size) (k : ∀ (g : Nat) (cs : Array Value) (fr : Nat × Nat), W.heap[g]? = some (.cells cs 98 fr) → W'.heap[g]? = some (.cells cs 98 fr)) : RdP W' A p := by
 refine ⟨fun hn => ?_, fun hn ad e => ?_⟩
 ·obtain ⟨ad, e, hlt, hc⟩ := h.1 hn
  obtain ⟨cs, fr, ho⟩ := h.2 (by simpa using hn) ad e
  refine ⟨ad, e, Nat.lt_of_lt_of_le hlt hs, fun i r hi => ⟨(hc i r hi).1, fun j v hv => (World.cell?_of_block ?_).trans ((hc i r hi).2 j v hv)⟩⟩
  rw [block_of_add, ho]
  exact k _ _ _ ho
 ·obtain ⟨cs, fr, ho⟩ := h.2 hn ad e
  exact ⟨cs, fr, k _ _ _ ho⟩
theorem RdP.below {W W' : World} {A : Option Addr} {p : List Wh} (h : RdP W A p) (hb : Below W.heap.size W W') : RdP W' A p :=
 h.move hb.size (fun g _ _ ho => (hb.block g (Array.getElem?_eq_some_iff.1 ho).1).trans ho)
theorem RdP.grown {W W' : World} {A : Option Addr} {p : List Wh} {r : Option Nat} (h : RdP W A p) (hg : W.grownBy W' r) (hr : ∀ k, r = some k → ∀ cs fr, W.heap[k]? ≠ some (.cells cs 98 fr)) : RdP W' A p :=
 h.move hg.size (fun k cs fr ho => (hg.block k (Array.getElem?_eq_some_iff.1 ho).1 (fun e => hr k e.symm cs fr ho)).trans ho)
theorem OwnS.cellsOf {W : World} {base : Nat} {E : TypeId} {k : Nat} {v : Value} {rows : List (List Value)} (h : OwnS W base E k v rows) : ∀ i, v.ownBlock = some i → ∃ cs, W.heap[i]? = some (.cells cs E (0, 0)) := by
 intro i hk
 rcases h.1.2 with ⟨rfl, _⟩ | ⟨g, cap, cur, rfl, _, hh, _⟩
 ·simp [Value.ownBlock] at hk
 ·obtain rfl : g = i := by simpa [Value.ownBlock] using hk
  exact ⟨_, hh⟩
theorem RdP.of_own {W : World} {base n c : Nat} {A : Option Addr} {p : List Wh} (h : OwnS W base 98 2 (.slice A n c) (p.map Wh.cells)) : RdP W A p :=
 ⟨h.rd, fun _ ad e => by
  obtain ⟨cs, hh⟩ := h.cellsOf ad.block (by rw [e]; rfl)
  exact ⟨cs, _, hh⟩⟩
/-- the values read as trains -/
def PsK (W : World) (vs : List Value) (ps : List (List Wh)) : Prop := vs.length = ps.length ∧ ∀ (i : Nat) (p : List Wh), ps[i]? = some p → ∃ A c, vs[i]? = some (Value.slice A p.length c) ∧ RdP W A p
theorem PsK.below {W W' : World} {vs : List Value} {ps : List (List Wh)} (h : PsK W vs ps) (hb : Below W.heap.size W W') : PsK W' vs ps :=
 ⟨h.1, fun i t ht => let ⟨A, c, h1, h2⟩ := h.2 i t ht; ⟨A, c, h1, h2.below hb⟩⟩
theorem PsK.grown {W W' : World} {vs : List Value} {ps : List (List Wh)} {r : Option Nat} (h : PsK W vs ps) (hg : W.grownBy W' r) (hr : ∀ k, r = some k → ∀ cs fr, W.heap[k]? ≠ some (.cells cs 98 fr)) : PsK W' vs ps :=
 ⟨h.1, fun i t ht => let ⟨A, c, h1, h2⟩ := h.2 i t ht; ⟨A, c, h1, h2.grown hg hr⟩⟩
theorem PsK.snoc {W : World} {vs : List Value} {ps : List (List Wh)} (h : PsK W vs ps) {A : Option Addr} {n c : Nat} {p : List Wh} (hn : p.length = n) (hr : RdP W A p) : PsK W (vs ++ [Value.slice A n c]) (ps ++ [p]) := by
 refine ⟨by rw [List.length_append, List.length_append, h.1]; rfl, fun i t' ht => ?_⟩
 rcases Nat.lt_trichotomy i ps.length with hi | hi | hi
 ·rw [List.getElem?_append_left hi] at ht
  obtain ⟨A', c', h1, h2⟩ := h.2 i t' ht
  exact ⟨A', c', by rw [List.getElem?_append_left (by rw [h.1]; exact hi)]; exact h1, h2⟩
 ·subst hi
  rw [List.getElem?_append_right (Nat.le_refl _)] at ht
  simp only [Nat.sub_self, List.getElem?_cons_zero, Option.some.injEq] at ht
  subst ht
  subst hn
  exact ⟨A, c, by rw [List.getElem?_append_right (by rw [h.1]; exact Nat.le_refl _), h.1]; simp, hr⟩
 ·rw [List.getElem?_eq_none (by simp; omega)] at ht
  cases ht
/-- a list of trains in memory -/
def PsAt (w : World) (L : Option Addr) (ps : List (List Wh)) : Prop := ∃ vs : List Value, RdS w L 1 (vs.map (fun v => [v])) ∧ PsK w vs ps
theorem PsAt.keep {w w' : World} {L : Option Addr} {ps : List (List Wh)} (h : PsAt w L ps) (hb : Below w.heap.size w w') : PsAt w' L ps :=
 let ⟨vs, h1, h2⟩ := h; ⟨vs, h1.keep hb, h2.below hb⟩
theorem PsAt.at_ {w : World} {L : Option Addr} {ps : List (List Wh)} (h : PsAt w L ps) {i : Nat} (hi : i < ps.length) : ∃ ad A c, L = some ad ∧ ad.block < w.heap.size ∧ w.cell? (ad.add i) = some (.slice A ps[i].length c) ∧ RdP w A ps[i] := by
 obtain ⟨vs, h2, h3⟩ := h
 obtain ⟨A, c, h4, h5⟩ := h3.2 i ps[i] (List.getElem?_eq_getElem hi)
 obtain ⟨ad, e, hb, hc, _⟩ := h2.nth (i := i) (r := [.slice A ps[i].length c]) (by rw [List.getElem?_map, h4]; rfl)
 refine ⟨ad, A, c, e, hb, ?_, h5⟩
 have := hc _ rfl
 rwa [Nat.mul_one] at this
end Go.Proofs.YtfgghicdkcjdgaaGreatDoor
end

section
namespace Go.Proofs.YtfgghicdkcjdgaaGreatDoor
open Go.RowKit Go.Shelf

theorem info_pairs : (Tryz.prog.info? 26).map (fun i => (i.zero, i.size, i.bytes)) = some (some (.slice none 0 0), 1, 24) := by kernel_rfl
/-- 'append(out, x)' of a value of one cell -/
theorem app_val {ops : Array Oper} {rest : List Oper} {o : Oper} {a : Act} {Q : Exit → Act → World → Prop} {W : World} {T E : TypeId} {z : Value} {bytes : Nat} (hgd : o.guard = none) (s x : Operand)
  (ho : o.op = .call { callee := .builtin .append, args := #[s, x], argTypes := #[T, T] }) (hu : Tryz.prog.underlying T = some (.slice E)) (hinfo : (Tryz.prog.info? E).map (fun i => (i.zero, i.size, i.bytes)) = some (some z, 1, bytes)) (hzk : z.cells.size = 1) (hby : bytes ≤ 1000)
  (base : Nat) (v : Value) (vs : List Value) (u : Value) (hs : a.eval s = v) (hx : a.eval x = .slice (some ⟨W.heap.size, 0, none⟩) 1 1) (hown : OwnV W base E v vs) (hu1 : u.oneCell' = true) (hn : vs.length < 1000000) (hbase : base ≤ W.heap.size)
  (h : ∀ A c w', OwnV w' base E (.slice A (vs.length + 1) c) (vs ++ [u]) → (W.alloc (.cells #[u] E)).grownBy w' v.ownBlock → wpList Tryz.prog ops Q rest (a.put o.dst (.slice A (vs.length + 1) c)) w') :
  wpList Tryz.prog ops Q (o :: rest) a (W.alloc (.cells #[u] E)) := by
 obtain ⟨i0, hi, hz0, hz1, hz2⟩ := info_parts hinfo
 have hb : (vs.length + 1) * bytes ≤ 1000000 * 1000 := Nat.mul_le_mul (by omega) hby
 refine wpList_append_own _ hgd s x _ ho base _ i0 _ 1 bytes hu hi hz0 hz1 hz2 hzk (by omega) v _ _ hs (World.ownsRow.alloc hown _) ⟨W.heap.size, 0, none⟩ 1 1 [u] hx rfl ?_ (by simpa using hu1)
  (by unfold maxLen; omega) (by omega) (by simp; omega) ?_
 ·intro j y hj
  match j, hj with
  | 0, hj => simp at hj; subst hj; rw [add_lit, cell_new]; rfl
 ·intro v' w' hown' hg _
  have hown2 : OwnV w' base E v' (vs ++ [u]) := by
   unfold OwnV
   rw [List.length_append]
   exact hown'
  obtain ⟨A, c, rfl⟩ := hown2.form
  rw [List.length_append] at hown2 ⊢
  exact h A c w' hown2 hg
theorem OwnV.not_type {W : World} {base : Nat} {E E' : TypeId} {v : Value} {vs : List Value} (h : OwnV W base E v vs) (hE : E ≠ E') : ∀ i, v.ownBlock = some i → ∀ cs fr, W.heap[i]? ≠ some (.cells cs E' fr) := fun i e cs fr h2 => by
 obtain ⟨cs', hh⟩ := h.cellsOf i e
 rw [hh] at h2
 cases h2
 exact hE rfl
theorem OwnV.alloc {W : World} {base : Nat} {E : TypeId} {v : Value} {vs : List Value} (h : OwnV W base E v vs) (o : Obj) : OwnV (W.alloc o) base E v vs := World.ownsRow.alloc h o
/-- trains are returned -/
def RetPs (w : World) (ps : List (List Wh)) (e : Ending) (w' : World) : Prop := ∃ L lc, e = .returned (.slice L ps.length lc) ∧ (PsAt w' L ps ∧ Fresh w.heap.size L) ∧ Below w.heap.size w w'
set_option maxRecDepth 100000 in
set_option maxHeartbeats 8000000 in
theorem trains_ok (A N L : Option Addr) (nw wc nn nc lc : Nat) (ts : List (List Int)) (w : World) (hT : TsAt w L ts) (hn : ts.length ≤ 200) (hl : ∀ t ∈ ts, t.length ≤ 6) :
  Calls Tryz.prog 50 #[.agg #[.slice A nw wc, .slice N nn nc, .slice L ts.length lc]] w (RetPs w (ts.map pairsOf)) := by
 have hd : decide ((200 : Int) < (ts.length : Int)) = false := decide_eq_false (by omega)
 have hb0 := fr_alloc (fr_refl w) (.cells #[.slice A nw wc, .slice N nn nc, .slice L ts.length lc] 93)
 replace hT := hT.keep hb0
 obtain ⟨m, hm⟩ : ∃ m, ts.length = m := ⟨_, rfl⟩
 have HM := Lib.hid hm
 rw [hm] at hd hb0 hT ⊢
 rw [hm] at hn
 clear hm
 go_enter Tryz.func50, Tryz.ntmps50
 go_wp2_with fail
 clear hd
 generalize w.alloc (.cells #[.slice A nw wc, .slice N nn nc, .slice L m lc] 93) = w1 at *
 go_loopw [3, 18] (fun v i wr => ∃ (k : Nat) (vs : List Value), k ≤ m ∧ i = .int .i64 k ∧ OwnV wr w1.heap.size 26 v vs ∧ PsK wr vs ((ts.take k).map pairsOf) ∧ Below w1.heap.size w1 wr) (fun _ i _ => m - (intOf i).toNat)
 case atStart => exact ⟨0, [], Nat.zero_le _, rfl, World.ownsRow_nil _ _ _ _, ⟨rfl, fun i p hp => by simp at hp⟩, fr_refl _⟩
 case round =>
  obtain ⟨k, vs, hk, rfl, hown, hps, hbel⟩ := hrel
  have hsz := hbel.size
  have hs0 := hb0.size
  have hvl : vs.length = k := by rw [hps.1, List.length_map, List.length_take, HM.out]; omega
  by_cases hlt : k < m
  ·have hkl : k < ts.length := by rw [HM.out]; exact hlt
   obtain ⟨ad, C, cc, rfl, hab, hcell, hrd⟩ := (hT.keep hbel).at_ hkl
   have htl := hl ts[k] (List.getElem_mem hkl)
   have htk : (ts.take (k + 1)).map pairsOf = (ts.take k).map pairsOf ++ [pairsOf ts[k]] := by rw [List.take_succ_eq_append_getElem hkl, List.map_append]; rfl
   have HTK := Lib.hid htk
   have HVL := Lib.hid hvl
   generalize ts[k] = t at *
   obtain ⟨tn, htn⟩ : ∃ tn, t.length = tn := ⟨_, rfl⟩
   rw [htn] at hcell hrd htl
   clear htk hvl hT htn
   go_wp2_with fail
   refine (train_any C tn cc t wr hrd (by omega)).mono ?_
   rintro e w2 ⟨A2, c2, rfl, hown2, hb2⟩
   have hown3 := hown.keep hb2
   have hps3 := hps.below hb2
   have hbel2 := fr_call hbel hb2
   clear hcell
   go_wp2_with (at_builtin; go_must (refine app_val rfl (.tmp 22) (.tmp 25) rfl Tryz.underlying30 info_pairs rfl (by omega) w1.heap.size _ vs (.slice A2 (pairsOf t).length c2) rfl rfl hown3 rfl (by have := HVL.out; omega) (by have := hb2.size; omega) ?_); intro L1 lc1 w3 hown4 hg4)
   have hps4 := (hps3.below (fr_alloc (fr_refl w2) (.cells #[.slice A2 (pairsOf t).length c2] 26))).grown hg4 ((hown3.alloc (.cells #[.slice A2 (pairsOf t).length c2] 26)).not_type (by decide))
   have hrp := ((RdP.of_own hown2).below (fr_alloc (fr_refl w2) (.cells #[.slice A2 (pairsOf t).length c2] 26))).grown hg4 ((hown3.alloc (.cells #[.slice A2 (pairsOf t).length c2] 26)).not_type (by decide))
   have hf4 : Below w1.heap.size w1 w3 := (fr_alloc hbel2 _).grown hg4 (by have := hbel2.size; simp; omega) hown3.ge
   go_roundw
   case rel => exact ⟨k + 1, vs ++ [.slice A2 (pairsOf t).length c2], hlt, by go_num, hown4, by rw [HTK.out]; exact hps4.snoc rfl hrp, hf4⟩
   case measure => simp [intOf]; omega
  ·obtain rfl : k = m := by omega
   have htk : (ts.take k).map pairsOf = ts.map pairsOf := by rw [List.take_of_length_le (by rw [HM.out]; exact Nat.le_refl _)]
   rw [htk] at hps
   obtain ⟨L1, lc1, rfl⟩ := hown.form
   have HPS := Lib.hid hps.1
   clear htk hvl
   go_wp2_with fail
   go_ret
   refine ⟨L1, lc1, congrArg (fun n => Ending.returned (.slice L1 n lc1)) HPS.out, ⟨⟨vs, hown.rd, hps⟩, fun ad e => Nat.le_trans hb0.size (hown.ge ad.block (by rw [e]; rfl))⟩, fr_call hb0 hbel⟩
def RetL (w : World) (k : Int) (ps : List (List Wh)) (e : Ending) (w' : World) : Prop := ∃ L lc, e = .returned (.tuple #[.slice L ps.length lc, .int .i64 k]) ∧ PsAt w' L ps ∧ Below w.heap.size w w'
def ListPost (w : World) (ts : List (List Int)) (e : Ending) (w' : World) : Prop := if 200 < ts.length then RetL w 3 [] e w' else RetL w 0 (ts.map pairsOf) e w'
theorem guess_len {ws : List Wh} {ns : List Note} (hv : FindOk ws ns) : ∀ t ∈ guessL ws ns, t.length ≤ 6 := fun t ht => by
 have := (mem_allT ws t).1 (List.mem_filter.1 ht).1
 rw [this.len]; exact hv.six
set_option maxRecDepth 100000 in
set_option maxHeartbeats 8000000 in
theorem List1_any (A N : Option Addr) (wc nc b0 b1 : Nat) (ws : List Wh) (ns : List Note) (ts : List (List Int)) (hts : guessL ws ns = ts) (w : World) (hf : FindAt w A N ws ns) (hv : FindOk ws ns) (hB0 : Blk w b0 25 #[.slice A ws.length wc, .slice N ns.length nc]) (hB1 : Blk w b1 30 #[.slice none 0 0]) :
  Calls Tryz.prog 48 #[.pointer (some ⟨b0, 0, none⟩), .pointer (some ⟨b1, 0, none⟩)] w fun e w' =>
   (200 < ts.length ∧ e = .panicked (crowdV (ts.length : Int)) ∧ Below w.heap.size w w') ∨
   (ts.length ≤ 200 ∧ e = .returned (.tuple #[]) ∧ ∃ L lc w1, PsAt w1 L (ts.map pairsOf) ∧ Fresh w.heap.size L ∧ Below w.heap.size w w1 ∧ w' = w1.setCell ⟨b1, 0, none⟩ (.slice L ts.length lc)) := by
 have hc0 := fun j => hB0.cell j
 have hgl := guess_len hv
 rw [hts] at hgl
 have HTS := Lib.hid hts
 clear hts
 go_enter Tryz.func48, Tryz.ntmps48
 go_wp2_with fail
 refine (guess_any A N wc nc ws ns w hf hv).mono ?_
 rintro e w1 ⟨L, lc, rfl, hL, hb1⟩
 rw [HTS.out] at hL ⊢
 have hB2 := hB1.keep hb1
 by_cases h2 : 200 < ts.length
 ·clear hc0
  go_wp2_with fail
  refine (trains_long A N L ws.length wc ns.length nc ts.length lc w1 h2).mono ?_
  rintro e w2 ⟨rfl, hb2⟩
  go_wp2_with fail
  exact ⟨rfl, Or.inl ⟨h2, rfl, fr_call hb1 hb2⟩⟩
 ·clear hc0
  go_wp2_with fail
  refine (trains_ok A N L ws.length wc ns.length nc lc ts w1 hL.ts (by omega) hgl).mono ?_
  rintro e w2 ⟨L2, lc2, rfl, ⟨hP, hfr⟩, hb2⟩
  have hB3 := hB2.keep hb2
  have hc3 := hB3.cell 0
  have hf3 := hB3.frozen 0
  rw [List.length_map]
  go_wp2_with fail
  go_end0
  refine Or.inr ⟨by omega, rfl, L2, lc2, w2, hP, fun ad e => Nat.le_trans hb1.size (hfr ad e), fr_call hb1 hb2, rfl⟩
end Go.Proofs.YtfgghicdkcjdgaaGreatDoor
end

section
namespace Go.Proofs.YtfgghicdkcjdgaaGreatDoor
open Go.RowKit Go.Shelf

theorem PsAt.set {w : World} {L : Option Addr} {ps : List (List Wh)} {B g i : Nat} {t : TypeId} {cs : Array Value} (h : PsAt w L ps) (hF : Fresh B L) (hg : g < B) (hB : Blk w g t cs) (ht : t ≠ 98) (u : Value) : PsAt (w.setCell ⟨g, i, none⟩ u) L ps := by
 obtain ⟨vs, h1, h2⟩ := h
 refine ⟨vs, h1.far (grown_set w ⟨g, i, none⟩ u) (hF.ne hg), h2.grown (grown_set w ⟨g, i, none⟩ u) (fun k e cs' fr hh => ?_)⟩
 cases e
 unfold Blk at hB
 rw [show w.heap[(⟨g, i, none⟩ : Addr).block]? = w.heap[g]? from rfl, hB] at hh
 cases hh
 exact ht rfl
def ListR (b1 : Nat) (wE : World) (ts : List (List Int)) (w' : World) : Prop := ts.length ≤ 200 ∧ ∃ L lc w1, PsAt w1 L (ts.map pairsOf) ∧ Fresh wE.heap.size L ∧ Below wE.heap.size wE w1 ∧ w' = w1.setCell ⟨b1, 0, none⟩ (.slice L ts.length lc)
theorem below_cell {w w' : World} (hb : Below w.heap.size w w') {g : Nat} {t : TypeId} {cs : Array Value} (hB : Blk w g t cs) : Blk w' g t cs := hB.keep hb
set_option maxRecDepth 100000 in
set_option maxHeartbeats 8000000 in
theorem List_ok (A N : Option Addr) (wc nc : Nat) (ws : List Wh) (ns : List Note) (ts : List (List Int)) (hts : guessL ws ns = ts) (w : World) (hf : FindAt w A N ws ns) (hv : FindOk ws ns) :
  Calls Tryz.prog 9 #[.agg #[.slice A ws.length wc, .slice N ns.length nc]] w (ListPost w ts) := by
 have hmf : ∀ (fn : Fn) (first cap : Array Value) (w : World), (Instr.makeFunc fn first cap).run Tryz.prog w = .ok (.func fn first cap) w := fun _ _ _ _ => rfl
 have hb0 := fr_alloc (fr_refl w) (.cells #[.slice A ws.length wc, .slice N ns.length nc] 25)
 have hX := Blk.new w 25 #[.slice A ws.length wc, .slice N ns.length nc]
 replace hf := hf.keep hb0
 have hs := hv.six
 have h8 := hv.eight
 have hlx := hX.lt
 have HTS := Lib.hid hts
 clear hts
 go_enter Tryz.func9, Tryz.ntmps9
 go_wp2_with fail
 refine (isFind_is A N wc nc ws ns _ hf (by omega) (by omega) hv.mo true hv.find).mono ?_
 rintro e w1 ⟨rfl, hb1⟩
 replace hX := hX.keep hb1
 replace hf := hf.keep hb1
 replace hb0 := fr_call hb0 hb1
 have hY := Blk.new w1 30 #[.slice none 0 0]
 have hbY := fr_alloc (fr_refl w1) (.cells #[.slice none 0 0] 30)
 replace hX := hX.keep hbY
 replace hf := hf.keep hbY
 replace hb0 := fr_call hb0 hbY
 have hsz := hb1.size
 go_wp2_with fail
 obtain ⟨w2, hw2⟩ : ∃ w2, w1.alloc (.cells #[.slice none 0 0] 30) = w2 := ⟨_, rfl⟩
 have hw2a : w1.heap.size < w2.heap.size := by rw [← hw2]; simp
 have hw2b : w2.heap.size ≤ w1.heap.size + 1 := by rw [← hw2]; simp
 rw [hw2] at hX hf hY hb0 hbY ⊢
 have hbE := fr_alloc (fr_refl w2) (.cells #[.int .i64 0] 31)
 have hE := Blk.new w2 31 #[.int .i64 0]
 have h1 := List1_any A N wc nc w.heap.size w1.heap.size ws ns ts HTS.out _ (hf.keep hbE) hv (hX.keep hbE) (hY.keep hbE)
 clear hw2
 by_cases hl : 200 < ts.length
 ·refine (try_crowd_List #[.pointer (some ⟨w.heap.size, 0, none⟩), .pointer (some ⟨w1.heap.size, 0, none⟩)] (fun w' => Below (w2.heap.size + 1) (w2.alloc (.cells #[.int .i64 0] 31)) w') w2 (ts.length : Int) ?_).mono ?_
  ·refine h1.mono ?_
   rintro e w' (⟨_, rfl, hb⟩ | ⟨h3, _⟩)
   ·rw [World.size_alloc] at hb
    refine ⟨rfl, hb, ?_, ?_⟩
    ·exact (hb.cell (p := ⟨w2.heap.size, 0, none⟩) (Nat.lt_succ_self _)).trans (hE.cell 0)
    ·exact (hb.frozen (p := ⟨w2.heap.size, 0, none⟩) (Nat.lt_succ_self _)).trans (hE.frozen 0)
   ·omega
  ·rintro e w'' ⟨rfl, w', hb, rfl⟩
   have hbF : Below w2.heap.size w2 ((w'.alloc (.cells #[.int .i64 (ts.length : Int)] 151)).setCell ⟨w2.heap.size, 0, none⟩ (.int .i64 3)) := by
    refine Below.setCell (p := ⟨w2.heap.size, 0, none⟩) ?_ (Nat.le_refl _) _
    have hb2 : Below w2.heap.size w2 w' := hbE.trans (hb.mono (Nat.le_succ _))
    exact fr_alloc hb2 _
   have HL := Lib.hid hl
   clear hl h1
   go_wp2_with fail
   go_ret2
   unfold ListPost
   rw [if_pos HL.out]
   exact ⟨none, 0, rfl, ⟨[], fun hn => absurd hn (by simp), rfl, fun i p hp => by simp at hp⟩, fr_call hb0 hbF⟩
 ·refine (try_ok_List #[.pointer (some ⟨w.heap.size, 0, none⟩), .pointer (some ⟨w1.heap.size, 0, none⟩)] (ListR w1.heap.size (w2.alloc (.cells #[.int .i64 0] 31)) ts) w2 ?_).mono ?_
  ·refine h1.mono ?_
   rintro e w' (⟨h3, _⟩ | ⟨h3, rfl, L, lc, w3, hP, hF, hb, rfl⟩)
   ·exact absurd h3 hl
   ·have hE3 := hE.keep hb
    have hE4 := hE3.far (p := ⟨w1.heap.size, 0, none⟩) (show ¬ w2.heap.size = w1.heap.size by omega) (.slice L ts.length lc)
    exact ⟨rfl, ⟨h3, L, lc, w3, hP, hF, hb, rfl⟩, hE4.cell 0, hE4.frozen 0⟩
  ·rintro e w'' ⟨rfl, w', ⟨h3, L, lc, w3, hP, hF, hb, rfl⟩, rfl⟩
   have hY3 := (hY.keep hbE).keep hb
   have hE3 := hE.keep hb
   rw [World.size_alloc] at hF hb
   have hP4 := hP.set (i := 0) hF (show w1.heap.size < w2.heap.size + 1 by omega) hY3 (by decide) (.slice L ts.length lc)
   have hE4 := hE3.far (p := ⟨w1.heap.size, 0, none⟩) (show ¬ w2.heap.size = w1.heap.size by omega) (.slice L ts.length lc)
   have hP5 := hP4.set (i := 0) hF (show w2.heap.size < w2.heap.size + 1 by omega) hE4 (by decide) (.int .i64 0)
   have hY5 := (hY3.set_ 0 (.slice L ts.length lc)).far (p := ⟨w2.heap.size, 0, none⟩) (show ¬ w1.heap.size = w2.heap.size by omega) (.int .i64 0)
   have hbF : Below w1.heap.size w1 ((w3.setCell ⟨w1.heap.size, 0, none⟩ (.slice L ts.length lc)).setCell ⟨w2.heap.size, 0, none⟩ (.int .i64 0)) := by
    refine Below.setCell (p := ⟨w2.heap.size, 0, none⟩) ?_ (by show w1.heap.size ≤ w2.heap.size; omega) _
    refine Below.setCell (p := ⟨w1.heap.size, 0, none⟩) ?_ (Nat.le_refl _) _
    exact hbY.trans (hbE.trans (hb.mono (Nat.le_succ _)) |>.mono (by omega))
   have hb1w : Below w.heap.size w w1 := fr_call (fr_alloc (fr_refl w) _) hb1
   have HL := Lib.hid hl
   clear hl h1 hP hP4 hE3 hE4 hY3 hb
   generalize (w3.setCell ⟨w1.heap.size, 0, none⟩ (.slice L ts.length lc)).setCell ⟨w2.heap.size, 0, none⟩ (.int .i64 0) = w5 at *
   have hc5 : w5.cell? ⟨w1.heap.size, 0, none⟩ = some (.slice L ts.length lc) := hY5.cell 0
   go_wp2_with fail
   go_ret2
   unfold ListPost
   rw [if_neg HL.out]
   exact ⟨L, lc, congrArg (fun n => Ending.returned (.tuple #[.slice L n lc, .int .i64 0])) (List.length_map ..).symm, hP5, fr_call hb1w hbF⟩
end Go.Proofs.YtfgghicdkcjdgaaGreatDoor
end

section
namespace Go.Proofs.YtfgghicdkcjdgaaGreatDoor
open Go.RowKit Go.Shelf

set_option maxHeartbeats 2000000 in
theorem gcd_is (a b : Nat) (w : World) (ha : a ≤ 1000000000) (hb : b ≤ 1000000000) :
  Calls Tryz.prog 142 #[.int .i64 a, .int .i64 b] w fun e w' => e = .returned (.int .i64 (Nat.gcd a b : Nat)) ∧ Below w.heap.size w w' := by
 go_enter Tryz.func142, Tryz.ntmps142
 go_wp2
 go_loopw [0, 1] (fun u v wr => ∃ x y : Nat, u = .int .i64 x ∧ v = .int .i64 y ∧ x ≤ 1000000000 ∧ y ≤ 1000000000 ∧ Nat.gcd x y = Nat.gcd a b ∧ Below w.heap.size w wr) (fun _ v _ => (intOf v).toNat)
 case atStart => exact ⟨a, b, rfl, rfl, ha, hb, rfl, fr_refl _⟩
 case round =>
  obtain ⟨x, y, rfl, rfl, hx, hy, hg, hbel⟩ := hrel
  have HG := Lib.hid hg
  clear hg
  by_cases h0 : y = 0
  ·subst h0
   go_wp2_with fail
   go_ret
   exact ⟨ret_int (by rw [← HG.out, Nat.gcd_zero_right]), hbel⟩
  ·have hp : (0 : Int) < (y : Int) := by omega
   have hp2 : decide ((0 : Int) < (y : Int)) = true := decide_eq_true hp
   have hne : ¬ (y : Int) = 0 := by omega
   have hm : (x : Int).tmod (y : Int) = ((x % y : Nat) : Int) := by rw [Int.tmod_eq_emod_of_nonneg (by omega)]; rfl
   have hlt : x % y < y := Nat.mod_lt _ (by omega)
   have hw1 : IntKind.i64.wrap ((x % y : Nat) : Int) = ((x % y : Nat) : Int) := IntWalk.i64_in _ (by omega)
   have hg2 : Nat.gcd y (x % y) = Nat.gcd x y := by rw [Nat.gcd_comm y, ← Nat.gcd_rec, Nat.gcd_comm]
   have HG2 := Lib.hid hg2
   obtain ⟨z, hz⟩ : ∃ z, x % y = z := ⟨_, rfl⟩
   rw [hz] at hm hlt hw1
   have HZ := Lib.hid hz
   clear hg2 h0 hz
   go_wp2_with fail
   go_quiet (fail)
   go_wp2_with fail
   go_roundw
   case rel => exact ⟨y, z, rfl, rfl, hy, by omega, by rw [← HZ.out, HG2.out, HG.out], fr_drewN hbel _⟩
   case measure => simp [intOf]; omega
/-- a fraction in lowest terms -/
def redN (n d : Nat) : Nat := n / Nat.gcd n d
def RetF (w : World) (x y : Int) (e : Ending) (w' : World) : Prop := e = .returned (.agg #[.int .i64 x, .int .i64 y]) ∧ Below w.heap.size w w'
theorem redN_bd (n d : Nat) : n / Nat.gcd n d ≤ n := Nat.div_le_self _ _
set_option maxRecDepth 100000 in
set_option maxHeartbeats 4000000 in
theorem reduced_is (n d : Nat) (w : World) (hn : n ≤ 1000000000) (hd : d ≤ 1000000000) (hd0 : 0 < d) :
  Calls Tryz.prog 117 #[.int .i64 n, .int .i64 d] w (RetF w ((n / Nat.gcd n d : Nat) : Int) ((d / Nat.gcd n d : Nat) : Int)) := by
 have hb0 := fr_alloc (fr_refl w) (.cells #[.int .i64 0, .int .i64 0] 40)
 have hX := Blk.new w 40 #[.int .i64 0, .int .i64 0]
 have hg0 : 0 < Nat.gcd n d := Nat.gcd_pos_of_pos_right _ hd0
 have hb1 := Nat.div_le_self n (Nat.gcd n d)
 have hb2 := Nat.div_le_self d (Nat.gcd n d)
 have q1 : (n : Int).tdiv ((Nat.gcd n d : Nat) : Int) = ((n / Nat.gcd n d : Nat) : Int) := rfl
 have q2 : (d : Int).tdiv ((Nat.gcd n d : Nat) : Int) = ((d / Nat.gcd n d : Nat) : Int) := rfl
 have hgd : Nat.gcd n d ≤ d := Nat.le_of_dvd hd0 (Nat.gcd_dvd_right _ _)
 go_enter Tryz.func117, Tryz.ntmps117
 go_wp2_with fail
 refine (gcd_is n d _ hn hd).mono ?_
 rintro e w1 ⟨rfl, hb⟩
 replace hX := hX.keep hb
 replace hb0 := fr_call hb0 hb
 generalize Nat.gcd n d = g at *
 generalize n / g = x at *
 generalize d / g = y at *
 have hne : ¬ g = 0 := by omega
 have hw1 : IntKind.i64.wrap (x : Int) = (x : Int) := IntWalk.i64_in _ (by omega)
 have hw2 : IntKind.i64.wrap (y : Int) = (y : Int) := IntWalk.i64_in _ (by omega)
 have hcX := fun j => hX.cell j
 clear hb
 go_wp2_with fail
 refine wp_region_noPanic ?_
 refine wp_region_held_drew (S := fun _ => True) (by kernel_rfl) trivial (fun hHeld => ?_)
 -- the region, step by step, in whatever order
 refine wpAnyH_take (i := 0) (oi := ⟨some 9, .move (.tmp 0), 3, "fraction.go:20", #[], none⟩) (v := ?_) rfl (by kernel_rfl) (by kernel_rfl) (by kernel_rfl) (fun _ _ _ h => h) (Or.inl ⟨by rfl, fun W hSw => ?_⟩) hHeld ?_
 rotate_left
 ·(try dsimp only at hSw); go_simp; (try with_reducible rfl)
 (try simp only [Act.put, List.setIfInBounds_toArray, List.set_cons_zero, List.set_cons_succ])
 refine wpAnyH_take (i := 1) (oi := ⟨some 10, .move (.tmp 5), 3, "fraction.go:20", #[], none⟩) (v := ?_) rfl (by kernel_rfl) (by kernel_rfl) (by kernel_rfl) (fun _ _ _ h => h) (Or.inl ⟨by rfl, fun W hSw => ?_⟩) hHeld ?_
 rotate_left
 ·(try dsimp only at hSw); go_simp; (try with_reducible rfl)
 (try simp only [Act.put, List.setIfInBounds_toArray, List.set_cons_zero, List.set_cons_succ])
 refine wpAnyH_take (i := 2) (oi := ⟨some 11, .binOp .quo 3 (.tmp 9) (.tmp 10) 3, 3, "fraction.go:20", #[⟨0, .data⟩, ⟨1, .data⟩], none⟩) (v := ?_) rfl (by kernel_rfl) (by kernel_rfl) (by kernel_rfl) (fun _ _ _ h => h) (Or.inl ⟨by rfl, fun W hSw => ?_⟩) hHeld ?_
 rotate_left
 ·(try dsimp only at hSw); go_simp; (try with_reducible rfl)
 (try simp only [Act.put, List.setIfInBounds_toArray, List.set_cons_zero, List.set_cons_succ])
 refine wpAnyH_take (i := 3) (oi := ⟨some 12, .move (.tmp 1), 3, "fraction.go:20", #[], none⟩) (v := ?_) rfl (by kernel_rfl) (by kernel_rfl) (by kernel_rfl) (fun _ _ _ h => h) (Or.inl ⟨by rfl, fun W hSw => ?_⟩) hHeld ?_
 rotate_left
 ·(try dsimp only at hSw); go_simp; (try with_reducible rfl)
 (try simp only [Act.put, List.setIfInBounds_toArray, List.set_cons_zero, List.set_cons_succ])
 refine wpAnyH_take (i := 4) (oi := ⟨some 13, .move (.tmp 5), 3, "fraction.go:20", #[], none⟩) (v := ?_) rfl (by kernel_rfl) (by kernel_rfl) (by kernel_rfl) (fun _ _ _ h => h) (Or.inl ⟨by rfl, fun W hSw => ?_⟩) hHeld ?_
 rotate_left
 ·(try dsimp only at hSw); go_simp; (try with_reducible rfl)
 (try simp only [Act.put, List.setIfInBounds_toArray, List.set_cons_zero, List.set_cons_succ])
 refine wpAnyH_take (i := 5) (oi := ⟨some 14, .binOp .quo 3 (.tmp 12) (.tmp 13) 3, 3, "fraction.go:20", #[⟨3, .data⟩, ⟨4, .data⟩], none⟩) (v := ?_) rfl (by kernel_rfl) (by kernel_rfl) (by kernel_rfl) (fun _ _ _ h => h) (Or.inl ⟨by rfl, fun W hSw => ?_⟩) hHeld ?_
 rotate_left
 ·(try dsimp only at hSw); go_simp; (try with_reducible rfl)
 (try simp only [Act.put, List.setIfInBounds_toArray, List.set_cons_zero, List.set_cons_succ])
 refine wpAnyH_take (i := 6) (oi := ⟨some 15, .build 40 #[(0, .tmp 11), (1, .tmp 14)], 40, "fraction.go:20", #[⟨2, .data⟩, ⟨5, .data⟩], none⟩) (v := ?_) rfl (by kernel_rfl) (by kernel_rfl) (by kernel_rfl) (fun _ _ _ h => h) (Or.inl ⟨by rfl, fun W hSw => ?_⟩) hHeld ?_
 rotate_left
 ·(try dsimp only at hSw); go_simp; (try with_reducible rfl)
 (try simp only [Act.put, List.setIfInBounds_toArray, List.set_cons_zero, List.set_cons_succ])
 refine wpAnyH_ready (rs := [7]) (by kernel_rfl) (by simp) ?_
 refine (AllReadyH.cons (o := ⟨none, .store 40 (.tmp 4) (.tmp 15), 0, "fraction.go:20", #[⟨6, .data⟩, ⟨0, .phase⟩, ⟨1, .phase⟩, ⟨2, .phase⟩, ⟨3, .phase⟩, ⟨4, .phase⟩, ⟨5, .phase⟩, ⟨6, .phase⟩], none⟩) rfl (fun K hK => ?_) AllReadyH.nil)
 rw [if_pos (by rfl)]
 refine wp_store_blk _ _ _ rfl w.heap.size 40 _ _ rfl rfl hX.drew rfl (by kernel_rfl) (by simp [Value.oneCell']) ?_
 intro w2 hX2 hg2
 refine hK.out _ _ (trivial) (fun hHeld => ?_)
 clear hK K
 refine wpAnyH_done (by kernel_rfl) ?_ _
 refine NoPanic.normal ?_
 go_wp2_with fail
 exact bodyPost_ret (results_blk1 rfl _ _ _ _ rfl hX2 Tryz.underlying40 rfl (by kernel_rfl)) rfl ⟨rfl, (fr_call hb0 (fr_drew (fr_refl w1))).grown hg2 (fr_call hb0 (fr_drew (fr_refl w1))).size (by intro k hk; cases hk; exact Nat.le_refl _)⟩
end Go.Proofs.YtfgghicdkcjdgaaGreatDoor
end

section
namespace Go.Proofs.YtfgghicdkcjdgaaGreatDoor
open Go.RowKit Go.Shelf

section
variable {P : Program} (w : World)
theorem run_append_own2 (base : Nat) (t ty e : TypeId) (i : TypeInfo) (z : Value) (size bytes : Nat) (ht : P.underlying t = some (.slice e)) (hi : P.info? e = some i) (hz : i.zero = some z)
  (hsize : i.size = size) (hby : i.bytes = bytes) (hzs : z.cells.size = size) (hsz : 0 < size)
  (v : Value) (n : Nat) (xs : List Value) (hown : w.ownsRow base e size v n xs)
  (a : Addr) (m c : Nat) (news : List Value) (hl : news.length = m * size) (hnews : ∀ j u, news[j]? = some u → w.cell? (a.add j) = some u) (h1 : ∀ u ∈ news, u.oneCell' = true)
  (h63 : n + m ≤ maxLen) (hbytes : (n + m) * bytes ≤ 140737488355328) (hbase : base ≤ w.heap.size) :
  ∃ v' w', (Builtin.append_ #[t, t] ty #[v, .slice (some a) m c]).run P w = .ok v' w' ∧ w'.ownsRow base e size v' (n + m) (xs ++ news) ∧ w.grownBy w' v.ownBlock ∧
   (v'.ownBlock = v.ownBlock ∨ ∀ k, v'.ownBlock = some k → w.heap.size ≤ k) := by
 obtain ⟨v', w', hr, h2, h3, _⟩ := run_append_own (P := P) w base t ty e i z size bytes ht hi hz hsize hby hzs hsz v n xs hown a m c news hl hnews h1 h63 hbytes hbase
 refine ⟨v', w', hr, h2, h3, ?_⟩
 have hsmall : n + m ≤ 9223372036854775807 := by simp only [maxLen] at h63; omega
 rcases hown.2 with ⟨rfl, rfl⟩ | ⟨g, cap, cur, rfl, hbg, hg, hnc, hcm, hcs, htake⟩
 ·right
  have hx : xs = [] := List.eq_nil_of_length_eq_zero (by simpa using hown.1)
  subst hx
  obtain ⟨v2, w2, hr2, h4, _, _⟩ := run_append_own (P := P) w w.heap.size t ty e i z size bytes ht hi hz hsize hby hzs hsz (.slice none 0 0) 0 [] (World.ownsRow_nil w w.heap.size e size) a m c news hl hnews h1 h63 hbytes (Nat.le_refl _)
  rw [hr] at hr2
  cases hr2
  exact fun k hk => (World.ownsRow.lt h4 k hk).1
 ·by_cases hroom : n + m ≤ cap
  ·left
   have hfit : n * i.size + news.length ≤ cur.size := by rw [hl, hcs, hsize, ← Nat.add_mul]; exact Nat.mul_le_mul_right _ hroom
   have hr2 := run_append_room (P := P) w t ty e i ht hi g n cap cur hg a m c news (by rw [hsize]; exact hl) hnews h1 hroom hfit
   rw [hr] at hr2
   cases hr2
   rfl
  ·right
   have holds : ∀ j u, xs[j]? = some u → w.cell? ((⟨g, 0, none⟩ : Addr).add j) = some u := hown.cells (g := g) rfl
   have hr2 := run_append_grow (P := P) w t ty e i z ht hi hz ⟨g, 0, none⟩ n cap xs (by rw [hsize]; exact hown.1) holds a m c news (by rw [hsize]; exact hl) hnews (by omega) (by omega) (growslice_fits (by omega) (by rw [hby]; exact hbytes))
   rw [hr] at hr2
   cases hr2
   intro k hk
   simp only [Value.ownBlock, Option.some.injEq] at hk
   omega
end
section
variable {o : Oper} {a : Act} {w : World} {K : Act → World → Prop} {Q : Exit → Act → World → Prop}
theorem wp_build_int {x : Nat} {y : Int} (ho : o.op = .buildSlice 34 1 #[(0, .tmp x)]) (hx : a.tmps.getD x undef = .int .i64 y)
  (h : ∀ g w', w.heap.size = g → Blk w' g 3 #[.int .i64 y] → Below w.heap.size w w' → w'.heap.size = g + 1 → K (a.put o.dst (.slice (some ⟨g, 0, none⟩) 1 1)) w') : o.wp Tryz.prog a w K Q := by
 have h1 := h w.heap.size (w.alloc (.cells #[.int .i64 y] 3)) rfl (Blk.new w _ _) (fr_alloc (fr_refl w) _) (by simp)
 obtain ⟨dst, op, ty, pos, after, guard⟩ := o
 simp only at ho
 subst ho
 have hx' : a.tmps[x]?.getD undef = .int .i64 y := by simpa using hx
 go_simp
 exact h1
/-- 'append(s, y)': the new row is the old one, or lies behind all that lay -/
theorem wp_app_int2 (T : TypeId) (hT : Tryz.prog.underlying T = some (.slice 3)) (s x : Operand) (ho : o.op = .call { callee := .builtin .append, args := #[s, x], argTypes := #[T, T] }) (base : Nat) (v : Value) (xs : List Int) (hs : a.eval s = v) (hown : Own w base v xs)
  (g : Nat) (y : Int) (hx : a.eval x = .slice (some ⟨g, 0, none⟩) 1 1) (hg : Blk w g 3 #[.int .i64 y]) (hn : xs.length < 1000000) (hbase : base ≤ w.heap.size)
  (h : ∀ A c w', Own w' base (.slice A (xs.length + 1) c) (xs ++ [y]) → w.grownBy w' v.ownBlock → ((Value.slice A (xs.length + 1) c).ownBlock = v.ownBlock ∨ ∀ k, (Value.slice A (xs.length + 1) c).ownBlock = some k → w.heap.size ≤ k) → K (a.put o.dst (.slice A (xs.length + 1) c)) w') : o.wp Tryz.prog a w K Q := by
 obtain ⟨i0, hi, hz0, hz1, hz2⟩ := info_parts info_int
 obtain ⟨v', w', hr, h2, h3, h4⟩ := run_append_own2 (P := Tryz.prog) w base T o.type _ i0 _ 1 8 hT hi hz0 hz1 hz2 rfl (by omega) v _ _ hown ⟨g, 0, none⟩ 1 1 [.int .i64 y] rfl (by
  intro j u hj
  match j, hj with
  | 0, hj => simp at hj; subst hj; rw [add_lit, hg.cell]; rfl) (by simp [Value.oneCell']) (by unfold maxLen; omega) (by omega) hbase
 have hown2 : Own w' base v' (xs ++ [y]) := by
  unfold Own
  rw [List.length_append, List.map_append]
  exact h2
 obtain ⟨A, c, rfl⟩ := hown2.form
 rw [List.length_append] at hown2 h4 hr
 unfold Oper.wp execOp
 simp only [ho, resolve, invoke, builtin, Sem.run_bind, Sem.run_pure, Result.andThen_ok, List.map_toArray, List.map_cons, List.map_nil, hs, hx, hr]
 exact h A c w' hown2 h3 h4
end
set_option maxHeartbeats 2000000 in
theorem tproduct_any (A : Option Addr) (n c : Nat) (xs : List Int) (w : World) (hr : Rd w A n xs) (hn : n ≤ 4) (hb : ∀ x ∈ xs, 0 ≤ x ∧ x ≤ 100) :
  Calls Tryz.prog 118 #[.slice A n c] w fun e w' => e = .returned (.int .i64 (prL xs n)) ∧ w = w' := by
 go_enter Tryz.func118, Tryz.ntmps118
 go_wp2
 go_loop [3, 8] (fun v i => ∃ k : Nat, k ≤ n ∧ i = .int .i64 k ∧ v = .int .i64 (prL xs k)) (fun _ i => n - (intOf i).toNat)
 case atStart => exact ⟨0, Nat.zero_le _, rfl, rfl⟩
 case round =>
  obtain ⟨k, hk, rfl, rfl⟩ := hrel
  by_cases hlt : k < n
  ·obtain ⟨ad, rfl, hlb, hcell⟩ := hr.at_ hlt
   have h1 := prL_bd hb k
   have h2 := get_bd hb (by omega) k
   have h3 := pow100 (show k ≤ 4 by omega)
   have hs : prL xs (k + 1) = prL xs k * xs[k]?.getD 0 := rfl
   have HS := Lib.hid hs
   have q1 := mul_wrap (a := prL xs k) (b := xs[k]?.getD 0) (by omega) (by omega)
   have q2 := mul_wrap64 (a := prL xs k) (b := xs[k]?.getD 0) (by omega) (by omega)
   clear hs h3
   generalize prL xs k = v at *
   generalize xs[k]?.getD 0 = x at *
   go_wp2_with fail
   go_round
   case rel => exact ⟨k + 1, hlt, by go_num, by rw [HS.out]⟩
   case measure => simp [intOf]; omega
  ·obtain rfl : k = n := by omega
   go_wp2_with fail
   go_ret
   exact ⟨rfl, rfl⟩
end Go.Proofs.YtfgghicdkcjdgaaGreatDoor
end
