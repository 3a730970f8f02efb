/- Walks: 'try': something is done, and a panic of this package is given back as an error. A struct stored into a block that is known whole; the world behind it keeps one name. Walks: realms; the date of a day in a realm. Walks: Date and On. Walks: On. Walk: all days of a date in a realm (by gen_days.py: nine ways). Walks: Days at what is not as defined; Age. The map of the days of Easter that were found: keyed by a date. Walk: the day of Easter of a year. Walk: Easter. Walks: feasts as defined. Slices of structs that read as rows; the search of a slice by a function; areFeasts. -/
import Derived.Test.YtkmiphabagoifaaGreatDoorMT2
import Derived.Defers
import Derived.Recover
import Derived.Laws.Pointers
import Derived.Laws.EntriesVeiled
import Derived.Outline
import Derived.Test.YtkmiphabagoifaaGreatDoorMT1
import Derived.Deep.MidRow
section
namespace Go.Proofs.YtkmiphabagoifaaGreatDoor
open Go.RowKit Dl

set_option maxHeartbeats 1000000 in
theorem try1_idle (p : Addr) (w : World) :
  CallsD Tryz.prog 241 #[.pointer (some p)] .returning w fun e u' w' => e = .returned (.tuple #[]) ∧ u' = .returning ∧ w' = w := by
 refine callsD_of_wpS Tryz.func241 rfl fun c₀ cs hu => ?_
 simp only [Tryz.ntmps241, List.size_toArray, List.length_cons, List.length_nil, Nat.reduceAdd, Nat.reduceSub, Array.replicate_succ, Array.replicate_zero, List.push_toArray, List.append_toArray, List.nil_append, List.cons_append]
 apply wpS_seq
 apply wpS_region
 simp [wpOpsS, go_sem, recoverD, hu, Exit.thenS]
 refine wpS_of_wp ?_
 go_wp2
 cases c₀
 simp_all [bodyPostS, results, Tryz.results241]

set_option maxHeartbeats 1000000 in
theorem try1_away (p : Addr) (x day : Int) (older : List PanicEntry) (w : World) (hc : w.cell? p = some (.int .i64 x)) (hz : w.frozen? p = false) :
  CallsD Tryz.prog 241 #[.pointer (some p)] (.panicking ({ v := .iface 298 (.agg #[.int .i64 day]), recovered := false } :: older)) w fun e u' w' =>
   e = .returned (.tuple #[]) ∧ u' = .panicking ({ v := .iface 298 (.agg #[.int .i64 day]), recovered := true } :: older) ∧ w' = (w.alloc (.cells #[.int .i64 day] 298)).setCell p (.int .i64 5) := by
 refine callsD_of_wpS Tryz.func241 rfl fun c₀ cs hu => ?_
 simp only [Tryz.ntmps241, List.size_toArray, List.length_cons, List.length_nil, Nat.reduceAdd, Nat.reduceSub, Array.replicate_succ, Array.replicate_zero, List.push_toArray, List.append_toArray, List.nil_append, List.cons_append]
 apply wpS_seq
 apply wpS_region
 simp [wpOpsS, go_sem, recoverD, hu, Exit.thenS]
 have HU := Lib.hid hu
 clear hu
 have heq : ∀ w, (binOp .eql 20 (.iface 298 (.agg #[.int .i64 day])) .nilIface).run Tryz.prog w = .ok (.bool false) w := fun w => by kernel_rfl
 have hta : ∀ w, (Instr.typeAssert (.iface 298 (.agg #[.int .i64 day])) 20 298 true).run Tryz.prog w = .ok (.tuple #[.agg #[.int .i64 day], .bool true]) w := fun w => by kernel_rfl
 have hpl := World.block_lt_of_cell? w p hc
 have hA := fr_alloc (fr_refl w) (.cells #[.int .i64 day] 298)
 have hc2 := (hA.cell hpl).trans hc
 have hz2 := (hA.frozen hpl).trans hz
 clear hA
 refine wpS_of_wp ?_
 go_wp2
 have hu := HU.out
 cases c₀
 simp_all [bodyPostS, results, Tryz.results241]
set_option maxHeartbeats 1000000 in
theorem try1_none (p : Addr) (x : Int) (why : ByteArray) (older : List PanicEntry) (w : World) (hc : w.cell? p = some (.int .i64 x)) (hz : w.frozen? p = false) :
  CallsD Tryz.prog 241 #[.pointer (some p)] (.panicking ({ v := .iface 300 (.agg #[.string why]), recovered := false } :: older)) w fun e u' w' =>
   e = .returned (.tuple #[]) ∧ u' = .panicking ({ v := .iface 300 (.agg #[.string why]), recovered := true } :: older) ∧ w' = (w.alloc (.cells #[.string why] 300)).setCell p (.int .i64 4) := by
 refine callsD_of_wpS Tryz.func241 rfl fun c₀ cs hu => ?_
 simp only [Tryz.ntmps241, List.size_toArray, List.length_cons, List.length_nil, Nat.reduceAdd, Nat.reduceSub, Array.replicate_succ, Array.replicate_zero, List.push_toArray, List.append_toArray, List.nil_append, List.cons_append]
 apply wpS_seq
 apply wpS_region
 simp [wpOpsS, go_sem, recoverD, hu, Exit.thenS]
 have HU := Lib.hid hu
 clear hu
 have heq : ∀ w, (binOp .eql 20 (.iface 300 (.agg #[.string why])) .nilIface).run Tryz.prog w = .ok (.bool false) w := fun w => by kernel_rfl
 have hta : ∀ w, (Instr.typeAssert (.iface 300 (.agg #[.string why])) 20 300 true).run Tryz.prog w = .ok (.tuple #[.agg #[.string why], .bool true]) w := fun w => by kernel_rfl
 have htb : ∀ w, (Instr.typeAssert (.iface 300 (.agg #[.string why])) 20 298 true).run Tryz.prog w = .ok (.tuple #[.agg #[.int .i64 0], .bool false]) w := fun w => by kernel_rfl
 have hpl := World.block_lt_of_cell? w p hc
 have hA := fr_alloc (fr_refl w) (.cells #[.string why] 300)
 have hc2 := (hA.cell hpl).trans hc
 have hz2 := (hA.frozen hpl).trans hz
 clear hA
 refine wpS_of_wp ?_
 go_wp2
 have hu := HU.out
 cases c₀
 simp_all [bodyPostS, results, Tryz.results241]

/-- what is given up with by 'none' -/
def noneV (why : ByteArray) : List PanicEntry := [{ v := .iface 300 (.agg #[.string why]), recovered := false }]

set_option maxHeartbeats 1000000 in
theorem try_ok_Date (cap : Array Value) (R : World → Prop) (w : World)
  (h : Calls Tryz.prog 208 cap (w.alloc (.cells #[.int .i64 0] 39)) fun e w' => e = .returned (.tuple #[]) ∧ R w' ∧ w'.cell? ⟨w.heap.size, 0, none⟩ = some (.int .i64 0) ∧ w'.frozen? ⟨w.heap.size, 0, none⟩ = false) :
  Calls Tryz.prog 207 #[.func (.func 208) #[] cap] w fun e w'' => e = .returned (.int .i64 0) ∧ ∃ w', R w' ∧ w'' = w'.setCell ⟨w.heap.size, 0, none⟩ (.int .i64 0) := by
 have hmf : ∀ (fn : Fn) (first cap : Array Value) (w : World), (Instr.makeFunc fn first cap).run Tryz.prog w = .ok (.func fn first cap) w := fun _ _ _ _ => rfl
 have H := Lib.hid h
 clear h
 go_enter_defers Tryz.func207, Tryz.ntmps207
 go_wp2_with fail
 refine (H.out).mono ?_
 rintro e w' ⟨rfl, hR, hc, hf⟩
 go_wp2
 refine leaves_cons (f := 241) (args := #[.pointer (some ⟨w.heap.size, 0, none⟩)]) (by simp) (by simp [go_sem]) ?_
 refine (try1_idle ⟨w.heap.size, 0, none⟩ _).mono ?_
 rintro e u' w'' ⟨rfl, rfl, rfl⟩
 simp [Leaves, settle, results, Tryz.results207, go_sem, hc]
 exact ⟨w', hR, rfl⟩

set_option maxHeartbeats 1000000 in
theorem try_away_Date (cap : Array Value) (R : World → Prop) (w : World) (day : Int)
  (h : Calls Tryz.prog 208 cap (w.alloc (.cells #[.int .i64 0] 39)) fun e w' => e = .panicked (awayV day) ∧ R w' ∧ w'.cell? ⟨w.heap.size, 0, none⟩ = some (.int .i64 0) ∧ w'.frozen? ⟨w.heap.size, 0, none⟩ = false) :
  Calls Tryz.prog 207 #[.func (.func 208) #[] cap] w fun e w'' => e = .returned (.int .i64 5) ∧ ∃ w', R w' ∧ w'' = (w'.alloc (.cells #[.int .i64 day] 298)).setCell ⟨w.heap.size, 0, none⟩ (.int .i64 5) := by
 have hmf : ∀ (fn : Fn) (first cap : Array Value) (w : World), (Instr.makeFunc fn first cap).run Tryz.prog w = .ok (.func fn first cap) w := fun _ _ _ _ => rfl
 have H := Lib.hid h
 clear h
 go_enter_defers Tryz.func207, Tryz.ntmps207
 go_wp2_with fail
 refine (H.out).mono ?_
 rintro e w' ⟨rfl, hR, hc, hf⟩
 go_wp2
 refine leaves_cons (f := 241) (args := #[.pointer (some ⟨w.heap.size, 0, none⟩)]) (by simp) (by simp [go_sem]) ?_
 refine (try1_away ⟨w.heap.size, 0, none⟩ 0 day [] _ hc hf).mono ?_
 rintro e u' w'' ⟨rfl, rfl, rfl⟩
 have hpl := World.block_lt_of_cell? w' _ hc
 have hc2 := ((fr_alloc (fr_refl w') (.cells #[.int .i64 day] 298)).cell hpl).trans hc
 simp [Leaves, settle, results, Tryz.results207, go_sem, hc2]
 exact ⟨w', hR, rfl⟩
end Go.Proofs.YtkmiphabagoifaaGreatDoor
end

section
namespace Go.Proofs.YtkmiphabagoifaaGreatDoor
open Go.RowKit

theorem setCells_some {g : Nat} {t : TypeId} : ∀ (vs : List Value) (o : Nat) (w : World) (cs : Array Value), Blk w g t cs → ∃ cs', cs'.size = cs.size ∧ Blk (w.setCells g o vs) g t cs'
 | [], _, _, cs, h => ⟨cs, rfl, h⟩
 | v :: r, o, w, cs, h => by
  obtain ⟨cs', h1, h2⟩ := setCells_some r (o + 1) (w.setCell ⟨g, o, none⟩ v) _ (h.set_ o v)
  exact ⟨cs', by rw [h1]; simp, h2⟩
theorem setCells_blk {w : World} {g : Nat} {t : TypeId} {cs : Array Value} (h : Blk w g t cs) (vs : List Value) (hl : vs.length = cs.size) : Blk (w.setCells g 0 vs) g t vs.toArray := by
 obtain ⟨cs', h1, h2⟩ := setCells_some vs 0 w cs h
 have : cs' = vs.toArray := by
  apply Array.ext
  ·simp; omega
  ·intro j hj1 hj2
   have hj : j < vs.length := by simpa using hj2
   have hc := World.cell?_setCells_in g vs 0 w (fun i hi => by rw [Nat.zero_add, h.cell]; simp; omega) j hj
   rw [Nat.zero_add, h2.cell, Array.getElem?_eq_getElem hj1] at hc
   simpa using hc
 rw [this] at h2
 exact h2
theorem setCells_grown {g : Nat} : ∀ (vs : List Value) (o : Nat) (w : World), w.grownBy (w.setCells g o vs) (some g)
 | [], _, w => World.grownBy.refl w _
 | v :: r, o, w => by
  have h := setCells_grown r (o + 1) (w.setCell ⟨g, o, none⟩ v) (g := g)
  have hs : (w.setCell ⟨g, o, none⟩ v).heap.size = w.heap.size := by simp
  refine ⟨h.os, h.tape, h.output, by rw [← hs]; exact h.size, fun k hk hne => ?_⟩
  rw [World.setCells]
  rw [h.block k (by rw [hs]; exact hk) hne]
  exact Below.heap_setCell _ _ _ _ (fun e => hne (by rw [e]))

section
variable {P : Program} {op : Oper} {a : Act} {w : World} {Q : Exit → Act → World → Prop}
/-- a store of a whole struct -/
theorem wp_store_blk {K : Act → World → Prop} (ty : TypeId) (x y : Operand) (ho : op.op = .store ty x y) (g : Nat) (t : TypeId) (cs vs : Array Value)
  (hx : a.eval x = .pointer (some ⟨g, 0, none⟩)) (hy : a.eval y = .agg vs) (hB : Blk w g t cs) (hsz : vs.size = cs.size) (hi : (P.info? ty).map (·.size) = some vs.size) (h1 : vs.all (·.oneCell') = true)
  (h : ∀ W, Blk W g t vs → w.grownBy W (some g) → K (a.put op.dst undef) W) : op.wp P a w K Q := by
 refine wp_store_mid ty x y ho g 0 vs hx hy (fun j hj => ?_) hi h1 (h _ ?_ (setCells_grown _ _ _))
 ·rw [Nat.zero_add, hB.cell, hB.frozen]
  exact ⟨by simp; omega, rfl⟩
 ·exact setCells_blk hB vs.toList (by simpa using hsz)
theorem wpList_store_blk {ops : Array Oper} {rest : List Oper} (hgd : op.guard = none) (ty : TypeId) (x y : Operand) (ho : op.op = .store ty x y) (g : Nat) (t : TypeId) (cs vs : Array Value)
  (hx : a.eval x = .pointer (some ⟨g, 0, none⟩)) (hy : a.eval y = .agg vs) (hB : Blk w g t cs) (hsz : vs.size = cs.size) (hi : (P.info? ty).map (·.size) = some vs.size) (h1 : vs.all (·.oneCell') = true)
  (h : ∀ W, Blk W g t vs → w.grownBy W (some g) → wpList P ops Q rest (a.put op.dst undef) W) : wpList P ops Q (op :: rest) a w :=
 wpList_plain hgd fun _ hK => wp_store_blk ty x y ho g t cs vs hx hy hB hsz hi h1 fun W hW hg => hK _ _ (h W hW hg)
/-- a result that lies in a block that is known whole -/
theorem results_blk1 {fn : Func} {t : Tmp} {ty : TypeId} (h : fn.results = #[.cell t ty]) (tmps : Array Value) (g : Nat) (bt : TypeId) (cs : Array Value) (hp : tmps.getD t undef = .pointer (some ⟨g, 0, none⟩)) (hB : Blk w g bt cs)
  {d : TypeDesc} (hu : P.underlying ty = some d) (hd : d.isRow = true) (hi : (P.info? ty).map (·.size) = some cs.size) : (results fn tmps).run P w = .ok (.agg cs) w := by
 have hr : w.rangeAt g 0 cs.toList := fun j v hv => by
  rw [Nat.zero_add, hB.cell]
  simpa using hv
 have := run_loadVar_mid w g 0 ty cs.toList d hr hu hd (by simpa using hi)
 have hp' : (tmps[t]?).getD undef = .pointer (some ⟨g, 0, none⟩) := by simpa using hp
 rw [Array.toArray_toList] at this
 simp [results, h, hp', asAddr, this]
theorem results_blk_tmp {fn : Func} {t u : Tmp} {ty : TypeId} (h : fn.results = #[.cell t ty, .tmp u]) (tmps : Array Value) (g : Nat) (bt : TypeId) (cs : Array Value) (hp : tmps.getD t undef = .pointer (some ⟨g, 0, none⟩)) (hB : Blk w g bt cs)
  {d : TypeDesc} (hu : P.underlying ty = some d) (hd : d.isRow = true) (hi : (P.info? ty).map (·.size) = some cs.size) : (results fn tmps).run P w = .ok (.tuple #[.agg cs, tmps.getD u undef]) w := by
 have hr : w.rangeAt g 0 cs.toList := fun j v hv => by
  rw [Nat.zero_add, hB.cell]
  simpa using hv
 have := run_loadVar_mid w g 0 ty cs.toList d hr hu hd (by simpa using hi)
 have hp' : (tmps[t]?).getD undef = .pointer (some ⟨g, 0, none⟩) := by simpa using hp
 rw [Array.toArray_toList] at this
 simp [results, h, hp', asAddr, this]
end
end Go.Proofs.YtkmiphabagoifaaGreatDoor
end

section
namespace Go.Proofs.YtkmiphabagoifaaGreatDoor
open Go.RowKit Dl

def realmOk (e1 : Int) (c1 : List Int) (e2 : Int) (c2 : List Int) (last : Int) : Bool := calOk e1 c1 && calOk e2 c2 && inB last 0 2000000

def onOf (e1 : Int) (c1 : List Int) (e2 : Int) (c2 : List Int) (last day : Int) : Option Date := if day ≤ last then dateOf e1 c1 day else dateOf e2 c2 day

end Go.Proofs.YtkmiphabagoifaaGreatDoor
end

section
namespace Go.Proofs.YtkmiphabagoifaaGreatDoor
open Go.RowKit Dl

set_option maxRecDepth 100000 in
set_option maxHeartbeats 4000000 in
theorem Date1_some (A : Option Addr) (n c b0 b1 b2 : Nat) (cs : List Int) (e day : Int) (z : Array Value) (x : Date) (w : World) (hr : Rd w A n cs) (hok : calOk e cs = true) (hx : dateOf e cs day = some x)
  (hB0 : Blk w b0 30 #[.int .i64 e, .slice A n c]) (hB1 : Blk w b1 3 #[.int .i64 day]) (hB2 : Blk w b2 181 z) (hz : z.size = 3) :
  Calls Tryz.prog 208 #[.pointer (some ⟨b0, 0, none⟩), .pointer (some ⟨b1, 0, none⟩), .pointer (some ⟨b2, 0, none⟩)] w fun e' w' =>
   e' = .returned (.tuple #[]) ∧ Blk w' b2 181 #[.int .i64 x.y, .int .i64 x.m, .int .i64 x.d] ∧ w.grownBy w' (some b2) := by
 obtain ⟨he, ⟨hn1, hn2⟩, hpos⟩ := calOk_parts hok
 rw [hr.len] at hn1 hn2
 have hc00 := hB0.cell 0
 have hc01 := hB0.cell 1
 have hc1 := hB1.cell 0
 simp only [List.getElem?_toArray, List.getElem?_cons_zero, List.getElem?_cons_succ] at hc00 hc01 hc1
 go_enter Tryz.func208, Tryz.ntmps208
 go_wp2_with fail
 refine wp_region_noPanic ?_
 refine wp_region_held_drew (S := fun W => (W.cell? ⟨b0, 0, none⟩ = some (.int .i64 e) ∧ W.cell? ⟨b0, 1, none⟩ = some (.slice A n c) ∧ W.cell? ⟨b1, 0, none⟩ = some (.int .i64 day)) ∧ w.grownBy W (some b2)) (by kernel_rfl)
  ⟨⟨hc00, hc01, hc1⟩, grown_below (World.grownBy.refl w _) (fr_drew (fr_refl _))⟩ (fun hHeld => ?_)
 -- the region, step by step
 refine wpAnyH_take (i := 0) (oi := ⟨some 3, .load 30 (.tmp 0), 30, "dial.go:165", #[], none⟩) (v := ?_) rfl (by kernel_rfl) (by kernel_rfl) (by kernel_rfl) (fun _ _ _ h => h) (Or.inl ⟨by rfl, fun W hSw => ?_⟩) hHeld ?_
 rotate_left
 ·(try dsimp only at hSw); go_simp; (try with_reducible rfl)
 (try simp only [Act.put, List.setIfInBounds_toArray, List.set_cons_zero, List.set_cons_succ])
 refine wpAnyH_take (i := 1) (oi := ⟨some 4, .build 32 #[], 32, "dial.go:165", #[], none⟩) (v := ?_) rfl (by kernel_rfl) (by kernel_rfl) (by kernel_rfl) (fun _ _ _ h => h) (Or.inl ⟨by rfl, fun W hSw => ?_⟩) hHeld ?_
 rotate_left
 ·(try dsimp only at hSw); go_simp; (try with_reducible rfl)
 (try simp only [Act.put, List.setIfInBounds_toArray, List.set_cons_zero, List.set_cons_succ])
 refine wpAnyH_take (i := 3) (oi := ⟨some 6, .load 3 (.tmp 1), 3, "dial.go:165", #[], none⟩) (v := ?_) rfl (by kernel_rfl) (by kernel_rfl) (by kernel_rfl) (fun _ _ _ h => h) (Or.inl ⟨by rfl, fun W hSw => ?_⟩) hHeld ?_
 rotate_left
 ·(try dsimp only at hSw); go_simp; (try with_reducible rfl)
 (try simp only [Act.put, List.setIfInBounds_toArray, List.set_cons_zero, List.set_cons_succ])
 refine wpAnyH_ready (rs := [2]) (by kernel_rfl) (by simp) ?_
 refine AllReadyH.cons (o := ⟨some 5, .call { callee := .value (.func 176), args := #[.tmp 3, .tmp 4], argTypes := #[30, 32] }, 253, "dial.go:165", #[⟨0, .data⟩, ⟨1, .data⟩], none⟩) rfl (fun K hK => ?_) AllReadyH.nil
 go_simp
 refine (open_any A n c cs e 0 0 0 _ (hr.keep (fr_drew (fr_refl _))) hok).mono ?_
 rintro e' w1 ⟨F, fc, M, rfl, hF, hM, hM', hb1, hf1⟩
 have hb01 := fr_call (fr_drew (fr_refl w)) hb1
 refine hK.out _ _ (⟨⟨by rw [(hB0.keep hb01).cell]; rfl, by rw [(hB0.keep hb01).cell]; rfl, by rw [(hB1.keep hb01).cell]; rfl⟩, grown_below hHeld.2 hb1⟩) (fun hHeld => ?_)
 clear hK K
 (try simp only [Act.put, List.setIfInBounds_toArray, List.set_cons_zero, List.set_cons_succ])
 refine wpAnyH_ready (rs := [4]) (by kernel_rfl) (by simp) ?_
 refine AllReadyH.cons (o := ⟨some 7, .call { callee := .value (.func 209), args := #[.tmp 5, .tmp 6], argTypes := #[253, 3] }, 181, "dial.go:165", #[⟨2, .data⟩, ⟨3, .data⟩, ⟨2, .chain⟩], none⟩) rfl (fun K hK => ?_) AllReadyH.nil
 go_simp
 refine (date_some A F n c fc cs e _ _ _ _ day x _ (hr.keep hb01) hn2 hpos hF he hx).mono ?_
 rintro e' w2 ⟨rfl, hb2⟩
 have hb02 := fr_call hb01 hb2
 refine hK.out _ _ (⟨⟨by rw [(hB0.keep hb02).cell]; rfl, by rw [(hB0.keep hb02).cell]; rfl, by rw [(hB1.keep hb02).cell]; rfl⟩, grown_below hHeld.2 hb2⟩) (fun hHeld => ?_)
 clear hK K
 (try simp only [Act.put, List.setIfInBounds_toArray, List.set_cons_zero, List.set_cons_succ])
 refine wpAnyH_ready (rs := [5]) (by kernel_rfl) (by simp) ?_
 refine AllReadyH.cons (o := ⟨none, .store 181 (.tmp 2) (.tmp 7), 0, "dial.go:165", #[⟨4, .data⟩, ⟨4, .chain⟩, ⟨0, .phase⟩, ⟨1, .phase⟩, ⟨2, .phase⟩, ⟨3, .phase⟩, ⟨4, .phase⟩], none⟩) rfl (fun K hK => ?_) AllReadyH.nil
 rw [if_pos (by rfl)]
 refine wp_store_blk _ _ _ rfl b2 181 _ _ rfl rfl (hB2.keep hb02) (by rw [hz]; rfl) (by kernel_rfl) (by simp [Value.oneCell']) ?_
 intro w3 hZ3 hg3
 have h0 := (hB0.keep hb02).grown hg3 (by have := hB0.ne_ hB2 (by decide); simpa using this)
 have h1 := (hB1.keep hb02).grown hg3 (by have := hB1.ne_ hB2 (by decide); simpa using this)
 refine hK.out _ _ (⟨⟨by rw [h0.cell]; rfl, by rw [h0.cell]; rfl, by rw [h1.cell]; rfl⟩, grown_trans hHeld.2 hg3⟩) (fun hHeld => ?_)
 clear hK K
 refine wpAnyH_done (by kernel_rfl) ?_ _
 refine NoPanic.normal ?_
 go_wp2
 go_end0
 exact ⟨rfl, hZ3, hHeld.2⟩

set_option maxRecDepth 100000 in
set_option maxHeartbeats 4000000 in
theorem Date1_none (A : Option Addr) (n c b0 b1 b2 : Nat) (cs : List Int) (e day : Int) (w : World) (hr : Rd w A n cs) (hok : calOk e cs = true) (hx : dateOf e cs day = none)
  (hB0 : Blk w b0 30 #[.int .i64 e, .slice A n c]) (hB1 : Blk w b1 3 #[.int .i64 day]) :
  Calls Tryz.prog 208 #[.pointer (some ⟨b0, 0, none⟩), .pointer (some ⟨b1, 0, none⟩), .pointer (some ⟨b2, 0, none⟩)] w fun e' w' =>
   e' = .panicked (awayV day) ∧ Below w.heap.size w w' := by
 have hc00 := hB0.cell 0
 have hc01 := hB0.cell 1
 have hc1 := hB1.cell 0
 simp only [List.getElem?_toArray, List.getElem?_cons_zero, List.getElem?_cons_succ] at hc00 hc01 hc1
 go_enter Tryz.func208, Tryz.ntmps208
 go_wp2_with fail
 refine wp_region_held_drew (S := fun W => (W.cell? ⟨b0, 0, none⟩ = some (.int .i64 e) ∧ W.cell? ⟨b0, 1, none⟩ = some (.slice A n c) ∧ W.cell? ⟨b1, 0, none⟩ = some (.int .i64 day)) ∧ Below w.heap.size w W) (by kernel_rfl)
  ⟨⟨hc00, hc01, hc1⟩, fr_drew (fr_refl _)⟩ (fun hHeld => ?_)
 -- the region, step by step
 refine wpAnyH_take (i := 0) (oi := ⟨some 3, .load 30 (.tmp 0), 30, "dial.go:165", #[], none⟩) (v := ?_) rfl (by kernel_rfl) (by kernel_rfl) (by kernel_rfl) (fun _ _ _ h => h) (Or.inl ⟨by rfl, fun W hSw => ?_⟩) hHeld ?_
 rotate_left
 ·(try dsimp only at hSw); go_simp; (try with_reducible rfl)
 (try simp only [Act.put, List.setIfInBounds_toArray, List.set_cons_zero, List.set_cons_succ])
 refine wpAnyH_take (i := 1) (oi := ⟨some 4, .build 32 #[], 32, "dial.go:165", #[], none⟩) (v := ?_) rfl (by kernel_rfl) (by kernel_rfl) (by kernel_rfl) (fun _ _ _ h => h) (Or.inl ⟨by rfl, fun W hSw => ?_⟩) hHeld ?_
 rotate_left
 ·(try dsimp only at hSw); go_simp; (try with_reducible rfl)
 (try simp only [Act.put, List.setIfInBounds_toArray, List.set_cons_zero, List.set_cons_succ])
 refine wpAnyH_take (i := 3) (oi := ⟨some 6, .load 3 (.tmp 1), 3, "dial.go:165", #[], none⟩) (v := ?_) rfl (by kernel_rfl) (by kernel_rfl) (by kernel_rfl) (fun _ _ _ h => h) (Or.inl ⟨by rfl, fun W hSw => ?_⟩) hHeld ?_
 rotate_left
 ·(try dsimp only at hSw); go_simp; (try with_reducible rfl)
 (try simp only [Act.put, List.setIfInBounds_toArray, List.set_cons_zero, List.set_cons_succ])
 refine wpAnyH_ready (rs := [2]) (by kernel_rfl) (by simp) ?_
 refine AllReadyH.cons (o := ⟨some 5, .call { callee := .value (.func 176), args := #[.tmp 3, .tmp 4], argTypes := #[30, 32] }, 253, "dial.go:165", #[⟨0, .data⟩, ⟨1, .data⟩], none⟩) rfl (fun K hK => ?_) AllReadyH.nil
 go_simp
 refine (open_any A n c cs e 0 0 0 _ (hr.keep (fr_drew (fr_refl _))) hok).mono ?_
 rintro e' w1 ⟨F, fc, M, rfl, hF, hM, hM', hb1, hf1⟩
 have hb01 := fr_call (fr_drew (fr_refl w)) hb1
 refine hK.out _ _ (⟨⟨by rw [(hB0.keep hb01).cell]; rfl, by rw [(hB0.keep hb01).cell]; rfl, by rw [(hB1.keep hb01).cell]; rfl⟩, fr_call hHeld.2 hb1⟩) (fun hHeld => ?_)
 clear hK K
 (try simp only [Act.put, List.setIfInBounds_toArray, List.set_cons_zero, List.set_cons_succ])
 refine wpAnyH_ready (rs := [4]) (by kernel_rfl) (by simp) ?_
 refine AllReadyH.cons (o := ⟨some 7, .call { callee := .value (.func 209), args := #[.tmp 5, .tmp 6], argTypes := #[253, 3] }, 181, "dial.go:165", #[⟨2, .data⟩, ⟨3, .data⟩, ⟨2, .chain⟩], none⟩) rfl (fun K hK => ?_) AllReadyH.nil
 go_simp
 refine (date_none A F n c fc cs e _ _ _ _ day _ hF hx).mono ?_
 rintro e' w2 ⟨rfl, hb2⟩
 exact ⟨rfl, rfl, fr_call hb01 hb2⟩

/-- what Date returns -/
def dateV (o : Option Date) : Value := match o with | some x => .tuple #[.agg #[.int .i64 x.y, .int .i64 x.m, .int .i64 x.d], .int .i64 0] | none => .tuple #[.agg #[.int .i64 0, .int .i64 0, .int .i64 0], .int .i64 5]

set_option maxRecDepth 100000 in
set_option maxHeartbeats 4000000 in
theorem Date_bad (A : Option Addr) (n c : Nat) (cs : List Int) (e day : Int) (w : World) (hr : Rd w A n cs) (hn : n ≤ 9223372036854775807) (hok : calOk e cs = false ∨ inB day 0 2000000 = false) :
  Calls Tryz.prog 144 #[.agg #[.int .i64 e, .slice A n c], .int .i64 day] w fun e' w' =>
   e' = .returned (.tuple #[.agg #[.int .i64 0, .int .i64 0, .int .i64 0], .int .i64 2]) ∧ Below w.heap.size w w' := by
 have g1 := fr_alloc (fr_alloc (fr_alloc (fr_refl w) (.cells #[.int .i64 e, .slice A n c] 30)) (.cells #[.int .i64 day] 3)) (.cells #[.int .i64 0, .int .i64 0, .int .i64 0] 181)
 have hZ : Blk (((w.alloc (.cells #[.int .i64 e, .slice A n c] 30)).alloc (.cells #[.int .i64 day] 3)).alloc (.cells #[.int .i64 0, .int .i64 0, .int .i64 0] 181)) (w.heap.size + 1 + 1) 181 #[.int .i64 0, .int .i64 0, .int .i64 0] := Blk.new_at _ _ (by simp)
 cases hc : calOk e cs
 ·go_enter Tryz.func144, Tryz.ntmps144
  go_wp2_with fail
  refine (isCalendar_is A n c cs e _ (hr.keep g1) hn _ hc).mono ?_
  rintro e' w1 ⟨rfl, hb1⟩
  have hZ1 := hZ.keep hb1
  go_wp2_with (refine wpList_store_blk rfl _ _ _ rfl (w.heap.size + 1 + 1) 181 _ _ rfl rfl hZ1 rfl (by kernel_rfl) (by simp [Value.oneCell']) ?_; intro w2 hZ2 hg2)
  refine bodyPost_ret (results_blk_tmp rfl _ _ _ _ rfl hZ2 Tryz.underlying181 rfl (by kernel_rfl)) rfl ⟨rfl, (fr_call g1 hb1).grown hg2 (fr_call g1 hb1).size (by intro k hk; cases hk; omega)⟩
 ·have hd : inB day 0 2000000 = false := by
   rcases hok with h | h
   ·rw [hc] at h; cases h
   ·exact h
  go_enter Tryz.func144, Tryz.ntmps144
  go_wp2_with fail
  refine (isCalendar_is A n c cs e _ (hr.keep g1) hn _ hc).mono ?_
  rintro e' w1 ⟨rfl, hb1⟩
  obtain ⟨hc_w1, hf_w1⟩ := bcell hb1
  have hz0_w1 : w.heap.size < w1.heap.size := Nat.lt_of_lt_of_le (by first | omega | (simp; done) | (simp; omega)) hb1.size
  have hz1_w1 : w.heap.size + 1 < w1.heap.size := Nat.lt_of_lt_of_le (by first | omega | (simp; done) | (simp; omega)) hb1.size
  have hz2_w1 : w.heap.size + 1 + 1 < w1.heap.size := Nat.lt_of_lt_of_le (by first | omega | (simp; done) | (simp; omega)) hb1.size
  have hZ1 := hZ.keep hb1
  go_wp2_with fail
  refine (isDay_is _ _ _ hd).mono ?_
  rintro e' w1' ⟨rfl, rfl⟩
  clear hc_w1 hf_w1
  go_wp2_with (refine wpList_store_blk rfl _ _ _ rfl (w.heap.size + 1 + 1) 181 _ _ rfl rfl hZ1 rfl (by kernel_rfl) (by simp [Value.oneCell']) ?_; intro w2 hZ2 hg2)
  refine bodyPost_ret (results_blk_tmp rfl _ _ _ _ rfl hZ2 Tryz.underlying181 rfl (by kernel_rfl)) rfl ⟨rfl, (fr_call g1 hb1).grown hg2 (fr_call g1 hb1).size (by intro k hk; cases hk; omega)⟩

set_option maxRecDepth 100000 in
set_option maxHeartbeats 4000000 in
theorem Date_ok (A : Option Addr) (n c : Nat) (cs : List Int) (e day : Int) (w : World) (hr : Rd w A n cs) (hn : n ≤ 9223372036854775807) (hok : calOk e cs = true) (hd : inB day 0 2000000 = true) :
  Calls Tryz.prog 144 #[.agg #[.int .i64 e, .slice A n c], .int .i64 day] w fun e' w' =>
   e' = .returned (dateV (dateOf e cs day)) ∧ Below w.heap.size w w' := by
 have hmf : ∀ (fn : Fn) (first cap : Array Value) (w : World), (Instr.makeFunc fn first cap).run Tryz.prog w = .ok (.func fn first cap) w := fun _ _ _ _ => rfl
 have g1 := fr_alloc (fr_alloc (fr_alloc (fr_refl w) (.cells #[.int .i64 e, .slice A n c] 30)) (.cells #[.int .i64 day] 3)) (.cells #[.int .i64 0, .int .i64 0, .int .i64 0] 181)
 have hZ : Blk (((w.alloc (.cells #[.int .i64 e, .slice A n c] 30)).alloc (.cells #[.int .i64 day] 3)).alloc (.cells #[.int .i64 0, .int .i64 0, .int .i64 0] 181)) (w.heap.size + 1 + 1) 181 #[.int .i64 0, .int .i64 0, .int .i64 0] := Blk.new_at _ _ (by simp)
 have hC : Blk (((w.alloc (.cells #[.int .i64 e, .slice A n c] 30)).alloc (.cells #[.int .i64 day] 3)).alloc (.cells #[.int .i64 0, .int .i64 0, .int .i64 0] 181)) w.heap.size 30 #[.int .i64 e, .slice A n c] := ((Blk.new w _ _).alloc _).alloc _
 have hD : Blk (((w.alloc (.cells #[.int .i64 e, .slice A n c] 30)).alloc (.cells #[.int .i64 day] 3)).alloc (.cells #[.int .i64 0, .int .i64 0, .int .i64 0] 181)) (w.heap.size + 1) 3 #[.int .i64 day] := (Blk.new_at _ _ (by simp)).alloc _
 rcases hx : dateOf e cs day with _ | x
 all_goals
  unfold dateV
  simp only []
  go_enter Tryz.func144, Tryz.ntmps144
  go_wp2_with fail
  refine (isCalendar_is A n c cs e _ (hr.keep g1) hn _ hok).mono ?_
  rintro e' w1 ⟨rfl, hb1⟩
  obtain ⟨hc_w1, hf_w1⟩ := bcell hb1
  have hz0_w1 : w.heap.size < w1.heap.size := Nat.lt_of_lt_of_le (by first | omega | (simp; done) | (simp; omega)) hb1.size
  have hz1_w1 : w.heap.size + 1 < w1.heap.size := Nat.lt_of_lt_of_le (by first | omega | (simp; done) | (simp; omega)) hb1.size
  have hz2_w1 : w.heap.size + 1 + 1 < w1.heap.size := Nat.lt_of_lt_of_le (by first | omega | (simp; done) | (simp; omega)) hb1.size
  go_wp2_with fail
  refine (isDay_is _ _ _ hd).mono ?_
  rintro e' w1' ⟨rfl, rfl⟩
  go_wp2_with fail
  have hC2 := ((hC.keep hb1).alloc (.cells #[.int .i64 0, .int .i64 0, .int .i64 0] 181)).alloc (.cells #[.int .i64 0] 39)
  have hD2 := ((hD.keep hb1).alloc (.cells #[.int .i64 0, .int .i64 0, .int .i64 0] 181)).alloc (.cells #[.int .i64 0] 39)
  have hZ2 := ((hZ.keep hb1).alloc (.cells #[.int .i64 0, .int .i64 0, .int .i64 0] 181)).alloc (.cells #[.int .i64 0] 39)
  have hB2 := (Blk.new w1 181 #[.int .i64 0, .int .i64 0, .int .i64 0]).alloc (.cells #[.int .i64 0] 39)
  have hE2 := Blk.new (w1.alloc (.cells #[.int .i64 0, .int .i64 0, .int .i64 0] 181)) 39 #[.int .i64 0]
  have hr2 := (((hr.keep g1).keep hb1).alloc (.cells #[.int .i64 0, .int .i64 0, .int .i64 0] 181)).alloc (.cells #[.int .i64 0] 39)
  have g2 := fr_alloc (fr_alloc (fr_call g1 hb1) (.cells #[.int .i64 0, .int .i64 0, .int .i64 0] 181)) (.cells #[.int .i64 0] 39)
  clear hc_w1 hf_w1
 ·refine (try_away_Date _ (fun W' => Below ((w1.alloc (.cells #[.int .i64 0, .int .i64 0, .int .i64 0] 181)).alloc (.cells #[.int .i64 0] 39)).heap.size ((w1.alloc (.cells #[.int .i64 0, .int .i64 0, .int .i64 0] 181)).alloc (.cells #[.int .i64 0] 39)) W') _ day ?_).mono ?_
  ·refine (Date1_none A n c w.heap.size (w.heap.size + 1) w1.heap.size cs e day _ hr2 hok hx hC2 hD2).mono ?_
   rintro e' W' ⟨rfl, hb⟩
   exact ⟨rfl, hb, by rw [(hE2.keep hb).cell]; rfl, (hE2.keep hb).frozen 0⟩
  rintro e' w3 ⟨rfl, w', hb, hw3⟩
  have hZ3 := ((hZ2.keep hb).alloc (.cells #[.int .i64 day] 298)).far (p := ⟨(w1.alloc (.cells #[.int .i64 0, .int .i64 0, .int .i64 0] 181)).heap.size, 0, none⟩) (by simp; omega) (.int .i64 5)
  have g3 := fr_set (fr_alloc (fr_call g2 hb) (.cells #[.int .i64 day] 298)) (p := ⟨(w1.alloc (.cells #[.int .i64 0, .int .i64 0, .int .i64 0] 181)).heap.size, 0, none⟩) (by simp; omega) (.int .i64 5)
  rw [← hw3] at hZ3 g3
  clear hw3 hb hZ2 hC2 hD2 hB2 hE2 hr2 g2
  go_wp2_with (refine wpList_store_blk rfl _ _ _ rfl (w.heap.size + 1 + 1) 181 _ _ rfl rfl hZ3 rfl (by kernel_rfl) (by simp [Value.oneCell']) ?_; intro w4 hZ4 hg4)
  refine bodyPost_ret (results_blk_tmp rfl _ _ _ _ rfl hZ4 Tryz.underlying181 rfl (by kernel_rfl)) rfl ⟨rfl, g3.grown hg4 g3.size (by intro k hk; cases hk; omega)⟩
 ·refine (try_ok_Date _ (fun W' => Blk W' w1.heap.size 181 #[.int .i64 x.y, .int .i64 x.m, .int .i64 x.d] ∧ ((w1.alloc (.cells #[.int .i64 0, .int .i64 0, .int .i64 0] 181)).alloc (.cells #[.int .i64 0] 39)).grownBy W' (some w1.heap.size)) _ ?_).mono ?_
  ·refine (Date1_some A n c w.heap.size (w.heap.size + 1) w1.heap.size cs e day _ x _ hr2 hok hx hC2 hD2 hB2 rfl).mono ?_
   rintro e' W' ⟨rfl, h1, h2⟩
   have hE3 := hE2.grown h2 (by simp)
   exact ⟨rfl, ⟨h1, h2⟩, by rw [hE3.cell]; rfl, hE3.frozen 0⟩
  rintro e' w3 ⟨rfl, w', ⟨h1, h2⟩, hw3⟩
  have hX3 := h1.far (p := ⟨(w1.alloc (.cells #[.int .i64 0, .int .i64 0, .int .i64 0] 181)).heap.size, 0, none⟩) (by simp) (.int .i64 0)
  have hZ3 := (hZ2.grown h2 (by simp; omega)).far (p := ⟨(w1.alloc (.cells #[.int .i64 0, .int .i64 0, .int .i64 0] 181)).heap.size, 0, none⟩) (by simp; omega) (.int .i64 0)
  have g3 := fr_set (g2.grown h2 g2.size (by intro k hk; cases hk; omega)) (p := ⟨(w1.alloc (.cells #[.int .i64 0, .int .i64 0, .int .i64 0] 181)).heap.size, 0, none⟩) (by simp; omega) (.int .i64 0)
  rw [← hw3] at hX3 hZ3 g3
  clear hw3 h1 h2 hZ2 hC2 hD2 hB2 hE2 hr2 g2
  have hcX := fun j => hX3.cell j
  go_wp2_with (refine wpList_store_blk rfl _ _ _ rfl (w.heap.size + 1 + 1) 181 _ _ rfl rfl hZ3 rfl (by kernel_rfl) (by simp [Value.oneCell']) ?_; intro w4 hZ4 hg4)
  refine bodyPost_ret (results_blk_tmp rfl _ _ _ _ rfl hZ4 Tryz.underlying181 rfl (by kernel_rfl)) rfl ⟨rfl, g3.grown hg4 g3.size (by intro k hk; cases hk; omega)⟩
end Go.Proofs.YtkmiphabagoifaaGreatDoor
end

section
namespace Go.Proofs.YtkmiphabagoifaaGreatDoor
open Go.RowKit Dl

end Go.Proofs.YtkmiphabagoifaaGreatDoor
end

section
namespace Go.Proofs.YtkmiphabagoifaaGreatDoor
open Go.RowKit Dl

def daysOf (e1 : Int) (c1 : List Int) (e2 : Int) (c2 : List Int) (last y m d : Int) : List Int :=
 (if (realB c1 y m d && decide (dayOf e1 c1 ⟨y, m, d⟩ ≤ last)) = true then [dayOf e1 c1 ⟨y, m, d⟩] else []) ++ (if (realB c2 y m d && decide (last < dayOf e2 c2 ⟨y, m, d⟩)) = true then [dayOf e2 c2 ⟨y, m, d⟩] else [])
def writtenB (y m d : Int) : Bool := inB y 0 4000 && inB m 1 12 && inB d 1 31
theorem real_parts {cs : List Int} {y m d : Int} (h : realB cs y m d = true) : (0 ≤ y ∧ y ≤ 4000) ∧ (1 ≤ m ∧ m ≤ 12) ∧ (1 ≤ d ∧ d ≤ 31) := by
 obtain ⟨a1, a2, a3, a4, a5, a6⟩ := realB_iff.1 h
 have := mlen_pos (leapB cs y) m
 simp only at a1 a2 a3 a4 a5 a6
 omega

end Go.Proofs.YtkmiphabagoifaaGreatDoor
end

section
namespace Go.Proofs.YtkmiphabagoifaaGreatDoor
open Go.RowKit Dl

end Go.Proofs.YtkmiphabagoifaaGreatDoor
end

section
namespace Go.Proofs.YtkmiphabagoifaaGreatDoor
open Go.RowKit Dl

/-- the key of a year -/
def ekey (y : Int) : Value := .agg #[.int .i64 y, .int .i64 3, .int .i64 21]
theorem ekey_inj {y z : Int} (h : ekey y = ekey z) : y = z := by
 unfold ekey at h
 injection h with h
 simpa using h

theorem check_key (y : Int) (b : Bool) (w : World) : (Instr.checkKey b 10000 181 (ekey y)).run Tryz.prog w = .ok () w := by kernel_rfl
theorem fields_date : (Tryz.prog.fieldsOf 181).toList.map (fun f => (f.name, f.type, f.offset)) = [("Year", 3, 0), ("Month", 3, 1), ("Day", 3, 2)] := by kernel_rfl
theorem und_date : Tryz.prog.underlying 181 = some (.struct (Tryz.prog.fieldsOf 181)) := by kernel_rfl
theorem stood_date : Tryz.prog.stoodInHeld 181 = false := by kernel_rfl
theorem part_key0 (y : Int) (w : World) : (part 3 #[.int .i64 y, .int .i64 3, .int .i64 21] 0).run Tryz.prog w = .ok (.int .i64 y) w := by kernel_rfl
theorem part_key1 (y : Int) (w : World) : (part 3 #[.int .i64 y, .int .i64 3, .int .i64 21] 1).run Tryz.prog w = .ok (.int .i64 3) w := by kernel_rfl
theorem part_key2 (y : Int) (w : World) : (part 3 #[.int .i64 y, .int .i64 3, .int .i64 21] 2).run Tryz.prog w = .ok (.int .i64 21) w := by kernel_rfl
theorem eq_key (y z : Int) (w : World) : (Op.equal 181 (ekey y) (ekey z)).run Tryz.prog w = .ok (y == z) w := by
 have hf := fields_date
 unfold ekey Op.equal Op.maxDepth
 rw [run_equalIn_agg w 9999 _ _ _ und_date stood_date]
 generalize (Tryz.prog.fieldsOf 181).toList = fs at hf
 have hl : fs.length = 3 := by have := congrArg List.length hf; simpa using this
 match fs, hl, hf with
 | [f0, f1, f2], _, hf =>
  simp only [List.map_cons, List.map_nil, List.cons.injEq, Prod.mk.injEq] at hf
  obtain ⟨⟨n0, t0, o0⟩, ⟨n1, t1, o1⟩, ⟨n2, t2, o2⟩, _⟩ := hf
  have ei : ∀ (a b : Int) (w : World), (Op.equalIn 9999 3 (.int .i64 a) (.int .i64 b)).run Tryz.prog w = .ok (a == b) w := fun a b w => run_equalIn_int w 9998 _ _ _ a b Tryz.underlying3
  simp only [Op.eqFields, n0, n1, n2, t0, t1, t2, o0, o1, o2, Sem.run_bind, Sem.run_ite, part_key0, part_key1, part_key2, Result.andThen_ok, ei, Sem.run_pure]
  cases hyz : (y == z) <;> simp

/-- the map at block M holds days of years, as f says -/
def EMap (w : World) (M : Nat) (f : Int → Int) : Prop := ∃ es clock, w.heap[M]? = some (.map es clock) ∧ ∀ x ∈ es.toList, ∃ y, x.key = ekey y ∧ x.val = .int .i64 (f y)
/-- .. and none of year y -/
def EMapNo (w : World) (M : Nat) (f : Int → Int) (y : Int) : Prop := ∃ es clock, w.heap[M]? = some (.map es clock) ∧ ∀ x ∈ es.toList, ∃ z, z ≠ y ∧ x.key = ekey z ∧ x.val = .int .i64 (f z)
theorem EMapNo.weak {w : World} {M : Nat} {f : Int → Int} {y : Int} (h : EMapNo w M f y) : EMap w M f := by
 obtain ⟨es, clock, hb, hx⟩ := h
 exact ⟨es, clock, hb, fun x hm => by obtain ⟨z, _, h1, h2⟩ := hx x hm; exact ⟨z, h1, h2⟩⟩
theorem heap_lt {w : World} {M : Nat} {o : Obj} (h : w.heap[M]? = some o) : M < w.heap.size := by
 rcases Nat.lt_or_ge M w.heap.size with hlt | hge
 ·exact hlt
 ·rw [Array.getElem?_eq_none hge] at h; cases h
theorem EMap.lt {w : World} {M : Nat} {f : Int → Int} (h : EMap w M f) : M < w.heap.size := by obtain ⟨es, clock, hb, _⟩ := h; exact heap_lt hb
theorem EMap.keep {w w' : World} {M : Nat} {f : Int → Int} (h : EMap w M f) (hb : Below w.heap.size w w') : EMap w' M f := by
 obtain ⟨es, clock, hm, hx⟩ := h
 exact ⟨es, clock, (hb.block M (heap_lt hm)).trans hm, hx⟩
theorem EMapNo.keep {w w' : World} {M : Nat} {f : Int → Int} {y : Int} (h : EMapNo w M f y) (hb : Below w.heap.size w w') : EMapNo w' M f y := by
 obtain ⟨es, clock, hm, hx⟩ := h
 exact ⟨es, clock, (hb.block M (heap_lt hm)).trans hm, hx⟩
theorem EMap.empty {w : World} {M : Nat} (f : Int → Int) (h : w.heap[M]? = some (.map #[] 0)) : EMap w M f := ⟨#[], 0, h, fun x hx => by simp at hx⟩

theorem findAsking_run (f : Int → Int) (y : Int) (w : World) : ∀ (es : List MapEntry) (i : Nat), (∀ x ∈ es, ∃ z, x.key = ekey z ∧ x.val = .int .i64 (f z)) →
  ((Instr.findAsking 181 (ekey y) es i).run Tryz.prog w = .ok none w ∧ ∀ x ∈ es, ∃ z, z ≠ y ∧ x.key = ekey z ∧ x.val = .int .i64 (f z)) ∨
  ∃ j, (Instr.findAsking 181 (ekey y) es i).run Tryz.prog w = .ok (some (j, .int .i64 (f y))) w := by
 intro es
 induction es with
 | nil => intro i _; exact .inl ⟨rfl, fun x hx => by cases hx⟩
 | cons x es ih =>
  intro i h
  obtain ⟨z, hk, hv⟩ := h x (by simp)
  by_cases hyz : y = z
  ·subst hyz
   right
   refine ⟨i, ?_⟩
   simp only [Instr.findAsking, Sem.run_bind, hk, eq_key, Result.andThen_ok, hv]
   simp
  ·rcases ih (i + 1) (fun x' hx' => h x' (by simp [hx'])) with ⟨h1, h2⟩ | ⟨j, h1⟩
   ·left
    refine ⟨?_, fun x' hx' => ?_⟩
    ·simp only [Instr.findAsking, Sem.run_bind, hk, eq_key, Result.andThen_ok]
     simp [hyz, h1]
    ·rcases List.mem_cons.1 hx' with rfl | hx'
     ·exact ⟨z, fun e => hyz e.symm, hk, hv⟩
     ·exact h2 x' hx'
   ·right
    refine ⟨j, ?_⟩
    simp only [Instr.findAsking, Sem.run_bind, hk, eq_key, Result.andThen_ok]
    simp [hyz, h1]

theorem findKey_run (f : Int → Int) (y : Int) (w : World) (es : List MapEntry) (h : ∀ x ∈ es, ∃ z, x.key = ekey z ∧ x.val = .int .i64 (f z)) :
  ((Instr.findKey 181 (ekey y) es).run Tryz.prog w = .ok none w ∧ ∀ x ∈ es, ∃ z, z ≠ y ∧ x.key = ekey z ∧ x.val = .int .i64 (f z)) ∨
  ∃ j, (Instr.findKey 181 (ekey y) es).run Tryz.prog w = .ok (some (j, .int .i64 (f y))) w := by
 have hfk : (Instr.findKey 181 (ekey y) es).run Tryz.prog w = (Instr.findAsking 181 (ekey y) es).run Tryz.prog w := by
  unfold Instr.findKey
  rw [Sem.run_bind, run_underlying und_date w, Result.andThen_ok]
  cases es with
  | nil => rfl
  | cons x es => simp [Instr.findNow, Instr.sameNow]
 rw [hfk]
 exact findAsking_run f y w es 0 h

theorem zero_int (w : World) : (zeroValue 3).run Tryz.prog w = .ok (.int .i64 0) w := by kernel_rfl
theorem lookup_run {f : Int → Int} {y : Int} {w : World} {M : Nat} (h : EMap w M f) :
  (Instr.lookup 251 (.map (some M)) (ekey y) true).run Tryz.prog w = .ok (.tuple #[.int .i64 (f y), .bool true]) w ∨
  ((Instr.lookup 251 (.map (some M)) (ekey y) true).run Tryz.prog w = .ok (.tuple #[.int .i64 0, .bool false]) w ∧ EMapNo w M f y) := by
 obtain ⟨es, clock, hb, hx⟩ := h
 have hget : (getObj M).run Tryz.prog w = .ok (.map es clock) w := by simp [getObj, Sem.run, hb]
 rcases findKey_run f y w es.toList hx with ⟨h1, h2⟩ | ⟨j, h1⟩
 ·right
  refine ⟨?_, es, clock, hb, h2⟩
  unfold Instr.lookup
  simp only [Sem.run_bind, run_underlying Tryz.underlying251 w, Result.andThen_ok, hget, Sem.run_pure, check_key, h1, zero_int, if_true]
 ·left
  unfold Instr.lookup
  simp only [Sem.run_bind, run_underlying Tryz.underlying251 w, Result.andThen_ok, hget, Sem.run_pure, check_key, h1, if_true]

theorem update_run {f : Int → Int} {y : Int} {w : World} {M : Nat} (h : EMapNo w M f y) :
  ∃ w', (Instr.mapUpdate 251 (.map (some M)) (ekey y) (.int .i64 (f y))).run Tryz.prog w = .ok () w' ∧ EMap w' M f ∧ w.grownBy w' (some M) := by
 obtain ⟨es, clock, hb, hx⟩ := h
 have hget : (getObj M).run Tryz.prog w = .ok (.map es clock) w := by simp [getObj, Sem.run, hb]
 have hlt := heap_lt hb
 have hset : ∀ o, (setObj M o).run Tryz.prog w = .ok () { w with heap := w.heap.setIfInBounds M o } := fun o => by simp [setObj, Sem.run, hb]
 have hfk : (Instr.findKey 181 (ekey y) es.toList).run Tryz.prog w = .ok none w := by
  rcases findKey_run f y w es.toList (fun x hm => by obtain ⟨z, _, a, b⟩ := hx x hm; exact ⟨z, a, b⟩) with ⟨h1, _⟩ | ⟨j, h1⟩
  ·exact h1
  ·exfalso
   have key : ∀ (l : List MapEntry) (i : Nat), (∀ x ∈ l, ∃ z, z ≠ y ∧ x.key = ekey z ∧ x.val = .int .i64 (f z)) → (Instr.findAsking 181 (ekey y) l i).run Tryz.prog w = .ok none w := by
    intro l
    induction l with
    | nil => intro i _; rfl
    | cons x l ih =>
     intro i hl
     obtain ⟨z, hz, hk, hv⟩ := hl x (by simp)
     simp only [Instr.findAsking, Sem.run_bind, hk, eq_key, Result.andThen_ok]
     simp [Ne.symm hz, ih (i + 1) (fun x' hx' => hl x' (by simp [hx']))]
   have h2 := key es.toList 0 hx
   have hfk2 : (Instr.findKey 181 (ekey y) es.toList).run Tryz.prog w = (Instr.findAsking 181 (ekey y) es.toList 0).run Tryz.prog w := by
    unfold Instr.findKey
    rw [Sem.run_bind, run_underlying und_date w, Result.andThen_ok]
    cases es.toList with
    | nil => rfl
    | cons x es => simp [Instr.findNow, Instr.sameNow, ekey]
   rw [hfk2, h2] at h1
   cases h1
 refine ⟨{ w with heap := w.heap.setIfInBounds M (.map (es.push { key := ekey y, val := .int .i64 (f y), born := clock }) (clock + 1)) }, ?_, ⟨es.push { key := ekey y, val := .int .i64 (f y), born := clock }, clock + 1, ?_, ?_⟩, ?_⟩
 rotate_left
 ·show (w.heap.setIfInBounds M (.map (es.push { key := ekey y, val := .int .i64 (f y), born := clock }) (clock + 1)))[M]? = _
  rw [Array.getElem?_setIfInBounds_self_of_lt hlt]
 ·intro x hm
  rw [Array.toList_push, List.mem_append] at hm
  rcases hm with hm | hm
  ·obtain ⟨z, _, a, b⟩ := hx x hm
   exact ⟨z, a, b⟩
  ·simp at hm
   subst hm
   exact ⟨y, rfl, rfl⟩
 ·refine ⟨rfl, rfl, rfl, by simp, fun k hk hne => ?_⟩
  show (w.heap.setIfInBounds M _)[k]? = _
  rw [Array.getElem?_setIfInBounds_ne (fun e => hne (by rw [e]))]
 ·unfold Instr.mapUpdate
  simp only [Sem.run_bind, run_underlying Tryz.underlying251 w, Result.andThen_ok, hget, check_key, hfk, hset]
end Go.Proofs.YtkmiphabagoifaaGreatDoor
end

section
namespace Go.Proofs.YtkmiphabagoifaaGreatDoor
open Go.RowKit Dl

/-- the day of Easter of a year -/
def easterDay (e : Int) (cs : List Int) (num den add y : Int) : Int :=
 fullOf num den add (dayOf e cs ⟨y, 3, 21⟩) + 7 - wkd (fullOf num den add (dayOf e cs ⟨y, 3, 21⟩))

theorem march_bounds (e : Int) (cs : List Int) (y : Int) (he : 0 ≤ e ∧ e ≤ 1000) (hy : 0 ≤ y ∧ y ≤ 4000) : 0 ≤ dayOf e cs ⟨y, 3, 21⟩ ∧ dayOf e cs ⟨y, 3, 21⟩ ≤ 2000000 := by
 have := firstDay_bounds e cs y hy.1
 have := cum_bounds (leapB cs y) 3 (by omega) (by omega)
 unfold dayOf
 simp only
 omega

set_option maxRecDepth 100000 in
set_option maxHeartbeats 4000000 in
theorem sunday_any (A F : Option Addr) (n c fc M : Nat) (cs : List Int) (e num den add y : Int) (w : World) (hr : Rd w A n cs) (hn : n ≤ 3) (hpos : Cyc cs) (hF : Rd w F 4002 (firsts e cs))
  (he : 0 ≤ e ∧ e ≤ 1000) (hm : MoonOk num den add) (hy : 0 ≤ y ∧ y ≤ 4000) (hE : EMap w M (easterDay e cs num den add)) :
  Calls Tryz.prog 231 #[.agg #[.int .i64 e, .slice A n c, .int .i64 num, .int .i64 den, .int .i64 add, .slice F 4002 fc, .map (some M)], .int .i64 y] w fun e' w' =>
   e' = .returned (.int .i64 (easterDay e cs num den add y)) ∧ EMap w' M (easterDay e cs num den add) ∧ w.grownBy w' (some M) := by
 have g1 := fr_alloc (fr_alloc (fr_refl w) (.cells #[.int .i64 e, .slice A n c, .int .i64 num, .int .i64 den, .int .i64 add, .slice F 4002 fc, .map (some M)] 253)) (.cells #[.int .i64 y, .int .i64 3, .int .i64 21] 181)
 have hB : Blk ((w.alloc (.cells #[.int .i64 e, .slice A n c, .int .i64 num, .int .i64 den, .int .i64 add, .slice F 4002 fc, .map (some M)] 253)).alloc (.cells #[.int .i64 y, .int .i64 3, .int .i64 21] 181)) w.heap.size 253 #[.int .i64 e, .slice A n c, .int .i64 num, .int .i64 den, .int .i64 add, .slice F 4002 fc, .map (some M)] := (Blk.new w _ _).alloc _
 have hD : Blk ((w.alloc (.cells #[.int .i64 e, .slice A n c, .int .i64 num, .int .i64 den, .int .i64 add, .slice F 4002 fc, .map (some M)] 253)).alloc (.cells #[.int .i64 y, .int .i64 3, .int .i64 21] 181)) (w.heap.size + 1) 181 #[.int .i64 y, .int .i64 3, .int .i64 21] := Blk.new_at _ _ (by simp)
 rcases lookup_run (y := y) (hE.keep g1) with hl | ⟨hl, hno⟩
 ·unfold ekey at hl
  have hfin : EMap ((w.alloc (.cells #[.int .i64 e, .slice A n c, .int .i64 num, .int .i64 den, .int .i64 add, .slice F 4002 fc, .map (some M)] 253)).alloc (.cells #[.int .i64 y, .int .i64 3, .int .i64 21] 181)) M (easterDay e cs num den add) ∧ w.grownBy ((w.alloc (.cells #[.int .i64 e, .slice A n c, .int .i64 num, .int .i64 den, .int .i64 add, .slice F 4002 fc, .map (some M)] 253)).alloc (.cells #[.int .i64 y, .int .i64 3, .int .i64 21] 181)) (some M) := ⟨hE.keep g1, grown_below (World.grownBy.refl w _) g1⟩
  have HF := Lib.hid hfin
  clear hfin hB hD
  generalize easterDay e cs num den add y = ed at *
  go_enter Tryz.func231, Tryz.ntmps231
  go_wp2
  go_ret
  exact ⟨rfl, HF.out⟩
 ·unfold ekey at hl
  have hmb := march_bounds e cs y he hy
  have hfb := full_bounds hm (dayOf e cs ⟨y, 3, 21⟩)
  have hag := age_full hm (dayOf e cs ⟨y, 3, 21⟩)
  have hnf := not_full hm (dayOf e cs ⟨y, 3, 21⟩)
  have hed : easterDay e cs num den add y = fullOf num den add (dayOf e cs ⟨y, 3, 21⟩) + 7 - wkd (fullOf num den add (dayOf e cs ⟨y, 3, 21⟩)) := rfl
  have HED := Lib.hid hed
  clear hed
  have hd21 : (1 : Int) ≤ 21 ∧ (21 : Int) ≤ 31 := by omega
  have hm3 : (1 : Int) ≤ 3 ∧ (3 : Int) ≤ 12 := by omega
  go_enter Tryz.func231, Tryz.ntmps231
  go_wp2_with fail
  refine (day_any A F n c fc cs e _ _ _ _ y 3 21 _ (hr.keep g1) hn hpos (hF.keep g1) he hy hm3 hd21).mono ?_
  generalize dayOf e cs ⟨y, 3, 21⟩ = mar at *
  generalize hfu : fullOf num den add mar = fu at *
  clear hfu
  rintro e' w1 ⟨rfl, hb1⟩
  have g2 := fr_call g1 hb1
  have hB1 := hB.keep hb1
  have hD1 := hD.keep hb1
  have hno1 := hno.keep hb1
  clear hl hB hD hno
  go_wp2_with fail
  generalize hf : easterDay e cs num den add = f at *
  have HFF := Lib.hid hf
  clear hf
  go_loopw [8] (fun v wr => ∃ j : Int, mar ≤ j ∧ j ≤ fu ∧ v = .int .i64 j ∧ Blk wr w.heap.size 253 #[.int .i64 e, .slice A n c, .int .i64 num, .int .i64 den, .int .i64 add, .slice F 4002 fc, .map (some M)] ∧ Blk wr (w.heap.size + 1) 181 #[.int .i64 y, .int .i64 3, .int .i64 21] ∧
    EMapNo wr M f y ∧ Below w.heap.size w wr) (fun v _ => (fu - intOf v).toNat)
  case atStart => exact ⟨mar, by omega, by omega, rfl, hB1, hD1, hno1, g2⟩
  case round =>
   clear hB1 hD1 hno1 g2 hb1
   obtain ⟨j, hj1, hj2, rfl, hB1, hD1, hno1, g2⟩ := hrel
   have hcB := fun i => hB1.cell i
   by_cases hlt : j < fu
   ·have hne := hnf j hj1 hlt
    have hag' : (ageOf num den add j != 13) = true := by simpa using hne
    clear hne hnf hag
    go_wp2_with fail
    refine (age_any num den add j _ hm (by omega) (by omega)).mono ?_
    generalize ageOf num den add j = ag at *
    rintro e' w2 ⟨rfl, hb2⟩
    have g3 := fr_call g2 hb2
    have hB2 := hB1.keep hb2
    have hD2 := hD1.keep hb2
    have hno2 := hno1.keep hb2
    clear hcB hB1 hD1 hno1 g2 hb2
    go_wp2
    go_roundw
    case rel => exact ⟨j + 1, by omega, by omega, rfl, hB2, hD2, hno2, g3⟩
    case measure => simp [intOf]; omega
   ·obtain rfl : j = fu := by omega
    clear hnf
    go_wp2_with fail
    refine (age_any num den add j _ hm (by omega) (by omega)).mono ?_
    rw [hag]
    clear hag
    rintro e' w2 ⟨rfl, hb2⟩
    have g3 := fr_call g2 hb2
    have hB2 := hB1.keep hb2
    have hD2 := hD1.keep hb2
    have hno2 := hno1.keep hb2
    clear hcB hB1 hD1 hno1 g2 hb2
    have hcB := fun i => hB2.cell i
    have hcD := fun i => hD2.cell i
    go_wp2_with fail
    refine (weekday_any _ _ (by omega) (by omega)).mono ?_
    have hwk : 0 ≤ wkd j ∧ wkd j ≤ 6 := by unfold wkd; omega
    generalize hq : wkd j = wk at *
    clear hq
    rintro e' w2' ⟨rfl, rfl⟩
    have hw1 : IntKind.i64.wrap (7 - wk) = 7 - wk := IntWalk.i64_in _ (by omega)
    have hw2 : IntKind.i64.wrap (j + (7 - wk)) = j + (7 - wk) := IntWalk.i64_in _ (by omega)
    have hed : j + (7 - wk) = f y := by rw [HED.out]; omega
    obtain ⟨w3, hup, hE3, hg3⟩ := update_run hno2
    rw [← hed] at hup
    unfold ekey at hup
    have HE := Lib.hid hed
    clear hed hw1
    go_wp2
    go_ret
    obtain rfl := HFF.out
    exact ⟨ret_int HE.out, hE3, below_grown g3 hg3⟩
end Go.Proofs.YtkmiphabagoifaaGreatDoor
end

section
namespace Go.Proofs.YtkmiphabagoifaaGreatDoor
open Go.RowKit Dl

theorem EMap.ne_blk {w : World} {M g : Nat} {f : Int → Int} {t : TypeId} {cs : Array Value} (h : EMap w M f) (hB : Blk w g t cs) : g ≠ M := by
 obtain ⟨es, clock, hm, _⟩ := h
 rintro rfl
 unfold Blk at hB
 rw [hm] at hB
 cases hB
theorem Rd.farM {w w' : World} {A : Option Addr} {n M : Nat} {xs : List Int} {f : Int → Int} (h : Rd w A n xs) (hE : EMap w M f) (hg : w.grownBy w' (some M)) : Rd w' A n xs :=
 ⟨h.1, fun hn => by
  obtain ⟨ad, e, hlt, hc⟩ := h.2 hn
  have hne : ad.block ≠ M := by
   obtain ⟨es, clock, hm, _⟩ := hE
   intro e'
   have h0 := hc 0 hn
   unfold World.cell? at h0
   rw [block_of_add, e', hm] at h0
   cases h0
  exact ⟨ad, e, Nat.lt_of_lt_of_le hlt hg.size, fun j hj => (World.cell?_of_block (hg.block _ (by rw [block_of_add]; exact hlt) (by rw [block_of_add]; intro e'; cases e'; exact hne rfl))).trans (hc j hj)⟩⟩

theorem wkd_range (d : Int) : 0 ≤ wkd d ∧ wkd d ≤ 6 := by unfold wkd; omega
theorem easter_bounds {e : Int} {cs : List Int} {num den add y : Int} (hm : MoonOk num den add) :
  dayOf e cs ⟨y, 3, 21⟩ + 1 ≤ easterDay e cs num den add y ∧ easterDay e cs num den add y ≤ dayOf e cs ⟨y, 3, 21⟩ + 36 := by
 have := full_bounds hm (dayOf e cs ⟨y, 3, 21⟩)
 have := wkd_range (fullOf num den add (dayOf e cs ⟨y, 3, 21⟩))
 unfold easterDay
 omega
theorem easter_date {e : Int} {cs : List Int} {num den add y : Int} (hm : MoonOk num den add) (hy : 0 ≤ y ∧ y ≤ 4000) : ∃ x, dateOf e cs (easterDay e cs num den add y) = some x := by
 cases hx : dateOf e cs (easterDay e cs num den add y) with
 | some x => exact ⟨x, rfl⟩
 | none =>
  exfalso
  have hb := easter_bounds (e := e) (cs := cs) (y := y) hm
  have hf := firstDay_bounds e cs y hy.1
  have hs := firstDay_succ e cs y hy.1
  have hl := yearLen_pos cs y
  have h41 : firstDay e cs (y + 1) ≤ firstDay e cs 4001 := by
   by_cases h : y = 4000
   ·subst h; exact Int.le_refl _
   ·have := firstDay_mono e cs (a := y + 1) (b := 4001) (by omega) (by omega); omega
  have hc : dayOf e cs ⟨y, 3, 21⟩ = firstDay e cs y + cum (leapB cs y) 3 + 21 - 1 := rfl
  have hcb : cum (leapB cs y) 3 ≤ 60 ∧ 59 ≤ cum (leapB cs y) 3 := by cases leapB cs y <;> decide
  rcases dateOf_none.1 hx with h | h <;> omega

end Go.Proofs.YtkmiphabagoifaaGreatDoor
end

section
namespace Go.Proofs.YtkmiphabagoifaaGreatDoor
open Go.RowKit Dl

structure Feast where
 mv : Bool
 m : Int
 d : Int
 a : Int
def feastB (f : Feast) : Bool := if f.mv = true then (f.m == 0 && f.d == 0 && inB f.a (-60) 60) else (f.a == 0 && inB f.m 1 12 && inB f.d 1 31)

set_option maxHeartbeats 2000000 in
theorem areFeasts1_is (f : Feast) (w : World) (b : Bool) (hb : feastB f = !b) :
  Calls Tryz.prog 229 #[.agg #[.bool f.mv, .int .i64 f.m, .int .i64 f.d, .int .i64 f.a]] w fun e' w' => e' = .returned (.bool b) ∧ Below w.heap.size w w' := by
 obtain ⟨mv, m, d, a⟩ := f
 obtain rfl : b = !feastB ⟨mv, m, d, a⟩ := by rw [hb]; simp
 clear hb
 cases mv
 ·cases ha : (a == 0)
  ·have ha' : (a != 0) = true := by simpa using ha
   have hv : feastB ⟨false, m, d, a⟩ = false := by simp only [feastB, Bool.false_eq_true, if_false, ha, Bool.false_and]
   rw [hv]
   go_enter Tryz.func229, Tryz.ntmps229
   go_wp2_with fail
   go_ret
   exact ⟨rfl, fr_alloc (fr_refl _) _⟩
  ·have ha' : (a != 0) = false := by simpa using ha
   cases hm : inB m 1 12
   ·have hv : feastB ⟨false, m, d, a⟩ = false := by simp only [feastB, Bool.false_eq_true, if_false, ha, hm, Bool.false_and, Bool.and_false]
    rw [hv]
    go_enter Tryz.func229, Tryz.ntmps229
    go_wp2_with fail
    refine (in_is _ _ _ _ _ hm).mono ?_
    rintro e w' ⟨rfl, rfl⟩
    go_wp2_with fail
    go_ret
    exact ⟨rfl, fr_alloc (fr_refl _) _⟩
   ·have hv : feastB ⟨false, m, d, a⟩ = inB d 1 31 := by simp only [feastB, Bool.false_eq_true, if_false, ha, hm, Bool.true_and]
    rw [hv]
    go_enter Tryz.func229, Tryz.ntmps229
    go_wp2_with fail
    refine (in_is _ _ _ _ _ hm).mono ?_
    rintro e w' ⟨rfl, rfl⟩
    go_wp2_with fail
    refine (in_is _ _ _ _ _ rfl).mono ?_
    rintro e w' ⟨rfl, rfl⟩
    go_wp2_with fail
    go_ret
    exact ⟨rfl, fr_alloc (fr_refl _) _⟩
 ·cases hm : (m == 0)
  ·have hm' : (m != 0) = true := by simpa using hm
   have hv : feastB ⟨true, m, d, a⟩ = false := by simp only [feastB, if_true, hm, Bool.false_and]
   rw [hv]
   go_enter Tryz.func229, Tryz.ntmps229
   go_wp2_with fail
   go_ret
   exact ⟨rfl, fr_alloc (fr_refl _) _⟩
  ·have hm' : (m != 0) = false := by simpa using hm
   cases hd : (d == 0)
   ·have hd' : (d != 0) = true := by simpa using hd
    have hv : feastB ⟨true, m, d, a⟩ = false := by simp only [feastB, if_true, hm, hd, Bool.false_and, Bool.and_false]
    rw [hv]
    go_enter Tryz.func229, Tryz.ntmps229
    go_wp2_with fail
    go_ret
    exact ⟨rfl, fr_alloc (fr_refl _) _⟩
   ·have hd' : (d != 0) = false := by simpa using hd
    have hv : feastB ⟨true, m, d, a⟩ = inB a (-60) 60 := by simp only [feastB, if_true, hm, hd, Bool.true_and]
    rw [hv]
    go_enter Tryz.func229, Tryz.ntmps229
    go_wp2_with fail
    refine (in_is _ _ _ _ _ rfl).mono ?_
    rintro e w' ⟨rfl, rfl⟩
    go_wp2_with fail
    go_ret
    exact ⟨rfl, fr_alloc (fr_refl _) _⟩
end Go.Proofs.YtkmiphabagoifaaGreatDoor
end

section
namespace Go.Proofs.YtkmiphabagoifaaGreatDoor
open Go.RowKit Dl

/-- the slice value that begins at A reads as the rows, each of k cells -/
def RdS (w : World) (A : Option Addr) (k : Nat) (rows : List (List Value)) : Prop :=
 0 < rows.length → ∃ ad, A = some ad ∧ ad.block < w.heap.size ∧ ∀ i r, rows[i]? = some r → r.length = k ∧ ∀ j v, r[j]? = some v → w.cell? (ad.add (i * k + j)) = some v
theorem RdS.keep {w w' : World} {A : Option Addr} {k : Nat} {rows : List (List Value)} (h : RdS w A k rows) (hb : Below w.heap.size w w') : RdS w' A k rows := fun hn => by
 obtain ⟨ad, e, hlt, hc⟩ := h hn
 exact ⟨ad, e, Nat.lt_of_lt_of_le hlt hb.size, fun i r hr => ⟨(hc i r hr).1, fun j v hv => (hb.cell (by rw [block_of_add]; exact hlt)).trans ((hc i r hr).2 j v hv)⟩⟩
theorem RdS.at_ {w : World} {A : Option Addr} {k : Nat} {rows : List (List Value)} (h : RdS w A k rows) {i : Nat} {r : List Value} (hi : rows[i]? = some r) :
  ∃ ad, A = some ad ∧ ad.block < w.heap.size ∧ r.length = k ∧ ∀ j v, r[j]? = some v → w.cell? (ad.add (i * k + j)) = some v := by
 have hl : i < rows.length := (List.getElem?_eq_some_iff.1 hi).1
 obtain ⟨ad, e, hlt, hc⟩ := h (by omega)
 exact ⟨ad, e, hlt, (hc i r hi).1, (hc i r hi).2⟩

def Feast.row (f : Feast) : List Value := [.bool f.mv, .int .i64 f.m, .int .i64 f.d, .int .i64 f.a]
def feastsB (l : List Feast) : Bool := decide (l.length ≤ 6) && l.all feastB

theorem all_step {α : Type} {p : α → Bool} {l : List α} {k : Nat} (h : k < l.length) (ha : (l.take k).all p = true) (hf : p l[k] = true) : (l.take (k + 1)).all p = true := by
 rw [List.take_succ_eq_append_getElem h, List.all_append, ha]; simp [hf]
theorem all_no {α : Type} {p : α → Bool} {l : List α} {k : Nat} (h : k < l.length) (hf : p l[k] = false) : l.all p = false := by
 rw [List.all_eq_false]; exact ⟨l[k], List.getElem_mem h, by simp [hf]⟩

set_option maxRecDepth 100000 in
set_option maxHeartbeats 2000000 in
theorem indexFeast (A : Option Addr) (c : Nat) (l : List Feast) (w : World) (hr : RdS w A 4 (l.map Feast.row)) (hn : l.length ≤ 9223372036854775807) (b : Bool) (hb : l.all feastB = b) :
  Calls Tryz.prog 251 #[.slice A l.length c, .func (.func 229) #[] #[]] w fun e' w' => ∃ k : Int, e' = .returned (.int .i64 k) ∧ ((b = true ∧ k = -1) ∨ (b = false ∧ 0 ≤ k)) ∧ Below w.heap.size w w' := by
 go_enter Tryz.func251, Tryz.ntmps251
 go_wp2
 generalize hlen : l.length = n at *
 have HL := Lib.hid hlen
 clear hlen
 go_loopw [8] (fun i wr => ∃ k : Nat, k ≤ n ∧ i = .int .i64 k ∧ (l.take k).all feastB = true ∧ Below w.heap.size w wr) (fun i _ => n - (intOf i).toNat)
 case atStart => exact ⟨0, Nat.zero_le _, rfl, by simp, fr_refl _⟩
 case round =>
  obtain ⟨k, hk, rfl, hall, hbel⟩ := hrel
  by_cases hlt : k < n
  ·have hkl : k < l.length := by have := HL.out; omega
   have hrow : (l.map Feast.row)[k]? = some (l[k].row) := by simp [hkl]
   obtain ⟨ad, rfl, hab, _, hc⟩ := (hr.keep hbel).at_ hrow
   have hq : ∀ j, ad.add (k * 4 + (j + 1)) = (ad.add (k * 4)).add (j + 1) := fun j => by
    unfold Addr.add; by_cases h0 : k * 4 = 0 <;> simp [h0, Nat.add_assoc]
   have hc0 : wr.cell? (ad.add (k * 4)) = some (.bool l[k].mv) := hc 0 _ rfl
   have hc1 : wr.cell? ⟨(ad.add (k * 4)).block, (ad.add (k * 4)).off + 1, none⟩ = _ := (congrArg wr.cell? (hq 0)).symm.trans (hc 1 _ rfl)
   have hc2 : wr.cell? ⟨(ad.add (k * 4)).block, (ad.add (k * 4)).off + 2, none⟩ = _ := (congrArg wr.cell? (hq 1)).symm.trans (hc 2 _ rfl)
   have hc3 : wr.cell? ⟨(ad.add (k * 4)).block, (ad.add (k * 4)).off + 3, none⟩ = _ := (congrArg wr.cell? (hq 2)).symm.trans (hc 3 _ rfl)
   clear hc hrow hr hq
   go_wp2_with fail
   cases hf : feastB l[k]
   ·refine (areFeasts1_is _ _ true (by simp [hf])).mono ?_
    rintro e w1 ⟨rfl, hb1⟩
    go_wp2_with fail
    go_ret
    refine ⟨k, rfl, Or.inr ⟨?_, by omega⟩, fr_call hbel hb1⟩
    rw [← hb]
    exact all_no hkl hf
   ·refine (areFeasts1_is _ _ false (by simp [hf])).mono ?_
    rintro e w1 ⟨rfl, hb1⟩
    go_wp2_with fail
    refine ⟨⟨k + 1, hlt, rfl, all_step hkl hall hf, fr_call hbel hb1⟩, ?_⟩
    simp [intOf]; omega
  ·go_wp2_with fail
   go_ret
   refine ⟨-1, rfl, Or.inl ⟨?_, rfl⟩, hbel⟩
   rw [← hb, ← List.take_of_length_le (l := l) (i := k) (by have := HL.out; omega)]; exact hall

set_option maxHeartbeats 2000000 in
theorem containsFeast (A : Option Addr) (c : Nat) (l : List Feast) (w : World) (hr : RdS w A 4 (l.map Feast.row)) (hn : l.length ≤ 9223372036854775807) (b : Bool) (hb : l.all feastB = b) :
  Calls Tryz.prog 228 #[.slice A l.length c, .func (.func 229) #[] #[]] w fun e' w' => e' = .returned (.bool (!b)) ∧ Below w.heap.size w w' := by
 go_enter Tryz.func228, Tryz.ntmps228
 go_wp2_with fail
 refine (indexFeast A c l w hr hn b hb).mono ?_
 rintro e w1 ⟨k, rfl, hk, hb1⟩
 go_wp2_with fail
 go_ret
 refine ⟨ret_bool ?_, hb1⟩
 rcases hk with ⟨rfl, rfl⟩ | ⟨rfl, hk⟩
 ·rfl
 ·simpa using hk

set_option maxHeartbeats 2000000 in
theorem areFeasts_is (A : Option Addr) (c : Nat) (l : List Feast) (w : World) (hr : RdS w A 4 (l.map Feast.row)) (hn : l.length ≤ 9223372036854775807) :
  Calls Tryz.prog 174 #[.slice A l.length c] w fun e' w' => e' = .returned (.bool (feastsB l)) ∧ Below w.heap.size w w' := by
 have h0 := containsFeast A c l w hr hn _ rfl
 unfold feastsB
 generalize l.all feastB = b at *
 by_cases h6 : l.length ≤ 6
 ·have h6' : decide (l.length ≤ 6) = true := by simpa using h6
  have h6i : decide ((l.length : Int) ≤ 6) = true := decide_eq_true (by omega)
  rw [h6', Bool.true_and]
  clear h6'
  go_enter Tryz.func174, Tryz.ntmps174
  go_wp2_with fail
  refine h0.mono ?_
  rintro e w1 ⟨rfl, hb1⟩
  go_wp2_with fail
  go_ret
  exact ⟨ret_bool (by simp), hb1⟩
 ·have h6' : decide (l.length ≤ 6) = false := by simpa using h6
  have h6i : decide ((l.length : Int) ≤ 6) = false := decide_eq_false (by omega)
  rw [h6', Bool.false_and]
  clear h6'
  go_enter Tryz.func174, Tryz.ntmps174
  go_wp2_with fail
  go_ret
  exact ⟨rfl, fr_refl _⟩
end Go.Proofs.YtkmiphabagoifaaGreatDoor
end
