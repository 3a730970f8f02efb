/- Walks, package plate: same and nested of wheels on two centres; the map of meshes. slices.Contains of points and of meshes. Walk, package plate: a piece with its meshes. -/
import Derived.Test.YtkmiphabagoifaaGreatDoorMT6
import Derived.MapKept
import Derived.Laws.StructEq
import Derived.Shelf.SlicesQ.Contains
section
namespace Go.Proofs.YtkmiphabagoifaaGreatDoor
open Go.RowKit
attribute [local go_sem] Oper.semAt_some

set_option maxRecDepth 100000 in
set_option maxHeartbeats 8000000 in
theorem lsame_no (pw ph pp pg po : Int) (A B M : Option Addr) (n nc m mc k kc a b : Nat) (mp gn : Value) (ws : List PWh) (w : World) (hB : RdS w B 4 (ws.map PWh.cells)) (hm : ws.length = m) (ha : a < m) (hb : b < m) (x y : PWh) (hx : ws[a]? = some x) (hy : ws[b]? = some y) (hne : x.centre ≠ y.centre) :
  Calls Tryz.prog 159 #[.agg #[.int .i64 pw, .int .i64 ph, .int .i64 pp, .int .i64 pg, .int .i64 po, .slice A n nc, .slice B m mc, .slice M k kc, mp, gn], .int .i64 a, .int .i64 b] w fun e w' => e = .returned (.bool false) ∧ Below w.heap.size w w' := by
 have hb0 := fr_alloc (fr_refl w) (.cells #[.int .i64 pw, .int .i64 ph, .int .i64 pp, .int .i64 pg, .int .i64 po, .slice A n nc, .slice B m mc, .slice M k kc, mp, gn] 151)
 have hX := Blk.new w 151 #[.int .i64 pw, .int .i64 ph, .int .i64 pp, .int .i64 pg, .int .i64 po, .slice A n nc, .slice B m mc, .slice M k kc, mp, gn]
 obtain ⟨w1, hw1⟩ : ∃ w1, w.alloc (.cells #[.int .i64 pw, .int .i64 ph, .int .i64 pp, .int .i64 pg, .int .i64 po, .slice A n nc, .slice B m mc, .slice M k kc, mp, gn] 151) = w1 := ⟨_, rfl⟩
 rw [hw1] at hb0 hX
 have hce := centred_is pw ph pp pg po A B M n nc m mc k kc a b mp gn ws w1 (hB.keep hb0) hm ha hb x y hx hy
 rw [show (x.centre == y.centre) = false from beq_eq_false_iff_ne.2 hne] at hce
 have hlX := hX.lt
 have hcX := fun j => hX.cell j
 clear hB hx hy hne hm ha hb
 go_enter Tryz.func159, Tryz.ntmps159
 go_upto_region 1 with (fail)
 (try rw [hw1])
 clear hw1 hX
 go_wp2_with fail
 refine hce.mono ?_
 rintro e' w2 ⟨rfl, hb2⟩
 go_wp2_with fail
 go_ret
 exact ⟨rfl, fr_call hb0 hb2⟩
set_option maxRecDepth 100000 in
set_option maxHeartbeats 8000000 in
theorem nested_no (pw ph pp pg po : Int) (A B M : Option Addr) (n nc m mc k kc a b : Nat) (mp gn : Value) (ws : List PWh) (w : World) (hB : RdS w B 4 (ws.map PWh.cells)) (hm : ws.length = m) (ha : a < m) (hb : b < m) (x y : PWh) (hx : ws[a]? = some x) (hy : ws[b]? = some y) (hne : x.centre ≠ y.centre) :
  Calls Tryz.prog 160 #[.agg #[.int .i64 pw, .int .i64 ph, .int .i64 pp, .int .i64 pg, .int .i64 po, .slice A n nc, .slice B m mc, .slice M k kc, mp, gn], .int .i64 a, .int .i64 b] w fun e w' => e = .returned (.bool false) ∧ Below w.heap.size w w' := by
 have hb0 := fr_alloc (fr_refl w) (.cells #[.int .i64 pw, .int .i64 ph, .int .i64 pp, .int .i64 pg, .int .i64 po, .slice A n nc, .slice B m mc, .slice M k kc, mp, gn] 151)
 have hX := Blk.new w 151 #[.int .i64 pw, .int .i64 ph, .int .i64 pp, .int .i64 pg, .int .i64 po, .slice A n nc, .slice B m mc, .slice M k kc, mp, gn]
 obtain ⟨w1, hw1⟩ : ∃ w1, w.alloc (.cells #[.int .i64 pw, .int .i64 ph, .int .i64 pp, .int .i64 pg, .int .i64 po, .slice A n nc, .slice B m mc, .slice M k kc, mp, gn] 151) = w1 := ⟨_, rfl⟩
 rw [hw1] at hb0 hX
 have hce := centred_is pw ph pp pg po A B M n nc m mc k kc a b mp gn ws w1 (hB.keep hb0) hm ha hb x y hx hy
 rw [show (x.centre == y.centre) = false from beq_eq_false_iff_ne.2 hne] at hce
 have hlX := hX.lt
 have hcX := fun j => hX.cell j
 clear hB hx hy hne hm ha hb
 go_enter Tryz.func160, Tryz.ntmps160
 go_upto_region 1 with (fail)
 (try rw [hw1])
 clear hw1 hX
 go_wp2_with fail
 refine hce.mono ?_
 rintro e' w2 ⟨rfl, hb2⟩
 go_wp2_with fail
 go_ret
 exact ⟨rfl, fr_call hb0 hb2⟩
def keyM (k : Int × Int) : Value := .agg #[.int .i64 k.1, .int .i64 k.2]
def entsM : Nat → List (Int × Int) → List MapEntry
 | _, [] => []
 | i, e :: l => { key := keyM e, val := .bool true, born := i } :: entsM (i + 1) l
/-- the map at a block lists some meshes -/
def MapM (W : World) (b : Nat) (L : List (Int × Int)) : Prop := W.heap[b]? = some (.map (entsM 0 L).toArray L.length)
theorem MapM.keep {W W' : World} {b : Nat} {L : List (Int × Int)} (h : MapM W b L) (hb : Below W.heap.size W W') : MapM W' b L := by
 have hlt : b < W.heap.size := by
  rcases Nat.lt_or_ge b W.heap.size with h1 | h1
  ·exact h1
  ·unfold MapM at h; rw [Array.getElem?_eq_none h1] at h; cases h
 unfold MapM at h ⊢
 rw [hb.block b hlt, h]
def idxM (k : Int × Int) : Nat → List (Int × Int) → Option Nat
 | _, [] => none
 | i, e :: L => if e = k then some i else idxM k (i + 1) L
theorem idxM_some (k : Int × Int) : ∀ (L : List (Int × Int)) (i : Nat), (idxM k i L).isSome = L.contains k
 | [], _ => rfl
 | e :: L, i => by
  unfold idxM
  by_cases h : e = k
  ·simp [h]
  ·rw [if_neg h, idxM_some k L (i + 1)]
   have h2 : ¬ k = e := fun e1 => h e1.symm
   simp [h2]
theorem eq_keyM (w : World) (k k' : Int × Int) : (Op.equal 159 (keyM k) (keyM k')).run Tryz.prog w = .ok (decide (k' = k)) w := by
 obtain ⟨x, y⟩ := k
 obtain ⟨a, b⟩ := k'
 have h : (Op.equal 159 (keyM (x, y)) (keyM (a, b))).run Tryz.prog w = .ok (if (!(x == a)) = true then false else if (!(y == b)) = true then false else true) w := by
  have hs : Tryz.prog.underlying 159 = some (.struct (Tryz.prog.fieldsOf 159)) := by kernel_rfl
  have hp : Tryz.prog.stoodInHeld 159 = false := by kernel_rfl
  unfold Op.equal Op.maxDepth keyM
  rw [run_equalIn_struct w 9999 _ _ _ hs hp]
  simp [Program.fieldsOf, Tryz.underlying159, Op.eqFields, go_sem]
  by_cases h1 : x = a
  ·by_cases h2 : y = b
   ·simp [h1, h2]
   ·simp [h1, h2]
  ·simp [h1]
 rw [h]
 by_cases h1 : x = a
 ·by_cases h2 : y = b
  ·simp [h1, h2]
  ·have h2' : ¬ b = y := fun e => h2 e.symm
   simp [h1, h2, h2']
 ·have h1' : ¬ a = x := fun e => h1 e.symm
  simp [h1, h1']
theorem check_keyM (w : World) (k : Int × Int) (e : Bool) : (Instr.checkKey e 10000 159 (keyM k)).run Tryz.prog w = .ok () w := by
 obtain ⟨x, y⟩ := k
 kernel_rfl
theorem find_keyM (w : World) (k : Int × Int) : ∀ (L : List (Int × Int)) (i : Nat), (Instr.findAsking 159 (keyM k) (entsM i L) i).run Tryz.prog w = .ok ((idxM k i L).map (fun p => (p, Value.bool true))) w
 | [], i => by simp [entsM, Instr.findAsking, idxM]
 | e :: L, i => by
  simp only [entsM, Instr.findAsking, Sem.run_bind, eq_keyM, Result.andThen_ok, idxM]
  by_cases h : e = k
  ·simp [h]
  ·simp [h, find_keyM w k L (i + 1)]
theorem find_kM (w : World) (k : Int × Int) (L : List (Int × Int)) : (Instr.findKey 159 (keyM k) (entsM 0 L)).run Tryz.prog w = .ok ((idxM k 0 L).map (fun p => (p, Value.bool true))) w := by
 cases L with
 | nil => simp [Instr.findKey, entsM, Instr.findNow, idxM, run_underlying Tryz.underlying159]
 | cons e L =>
  have h := find_keyM w k (e :: L) 0
  simp only [Instr.findKey, Sem.run_bind, run_underlying Tryz.underlying159, Result.andThen_ok]
  simp only [entsM, Instr.findNow, Instr.sameNow] at h ⊢
  exact h
theorem look_mesh (w : World) (b : Nat) (L : List (Int × Int)) (k : Int × Int) (h : MapM w b L) : (Instr.lookup 149 (.map (some b)) (keyM k) false).run Tryz.prog w = .ok (.bool (L.contains k)) w := by
 have hz : (zeroValue 4).run Tryz.prog w = .ok (.bool false) w := by kernel_rfl
 unfold Instr.lookup
 simp only [Sem.run_bind, run_underlying Tryz.underlying149, Result.andThen_ok, MapKept.run_getObj_map h, Sem.run_pure, check_keyM, find_kM]
 rw [← idxM_some k L 0]
 cases idxM k 0 L with
 | none => simp [hz]
 | some p => simp
set_option maxRecDepth 100000 in
set_option maxHeartbeats 8000000 in
theorem mesh_is (pw ph pp pg po : Int) (A B M : Option Addr) (n nc m mc k kc a b l : Nat) (gn : Value) (L : List (Int × Int)) (w : World) (hM : MapM w l L) (hab : a ≤ b) (bb : Bool) (hbb : L.contains ((a : Int), (b : Int)) = bb) :
  Calls Tryz.prog 213 #[.agg #[.int .i64 pw, .int .i64 ph, .int .i64 pp, .int .i64 pg, .int .i64 po, .slice A n nc, .slice B m mc, .slice M k kc, .map (some l), gn], .int .i64 a, .int .i64 b] w fun e w' => e = .returned (.bool bb) ∧ Below w.heap.size w w' := by
 have hb0 := fr_alloc (fr_refl w) (.cells #[.int .i64 pw, .int .i64 ph, .int .i64 pp, .int .i64 pg, .int .i64 po, .slice A n nc, .slice B m mc, .slice M k kc, .map (some l), gn] 151)
 have hX := Blk.new w 151 #[.int .i64 pw, .int .i64 ph, .int .i64 pp, .int .i64 pg, .int .i64 po, .slice A n nc, .slice B m mc, .slice M k kc, .map (some l), gn]
 obtain ⟨w1, hw1⟩ : ∃ w1, w.alloc (.cells #[.int .i64 pw, .int .i64 ph, .int .i64 pp, .int .i64 pg, .int .i64 po, .slice A n nc, .slice B m mc, .slice M k kc, .map (some l), gn] 151) = w1 := ⟨_, rfl⟩
 rw [hw1] at hb0 hX
 have hlk := look_mesh w1 l L ((a : Int), (b : Int)) (hM.keep hb0)
 rw [hbb] at hlk
 unfold keyM at hlk
 have z1 : min (a : Int) (b : Int) = (a : Int) := by omega
 have z2 : max (a : Int) (b : Int) = (b : Int) := by omega
 have z3 : ¬ (b : Int) < (a : Int) := by omega
 have hlX := hX.lt
 have hcX := fun j => hX.cell j
 clear hM hab hbb
 go_enter Tryz.func213, Tryz.ntmps213
 go_upto_region 1 with (fail)
 (try rw [hw1])
 clear hw1 hX
 go_wp2_with fail
 go_ret
 exact ⟨rfl, hb0⟩
end Go.Proofs.YtkmiphabagoifaaGreatDoor
end

section
namespace Go.Proofs.YtkmiphabagoifaaGreatDoor
open Go.RowKit Go.Shelf

def ptC (k : Int × Int) : List Value := [.int .i64 k.1, .int .i64 k.2]
theorem contains_gen {ρ : Go.Shelf.Ren} (L : SlLaysQ.n7 Tryz.prog ρ) (aE : ∀ w, (isAgg (ρ.t 24)).run Tryz.prog w = .ok true w) (zE : ∀ w, (Go.sizeOf (ρ.t 24)).run Tryz.prog w = .ok 2 w) (heq : EqlAt Tryz.prog (ρ.t 24) (fun x => .agg (ptC x).toArray) (fun x y => decide (y = x)))
  (A : Option Addr) (n c : Nat) (l : List (Int × Int)) (x : Int × Int) (w : World) (hr : RdS w A 2 (l.map ptC)) (hn : n ≤ l.length) (hl : l.length ≤ 1000) (hA : ∃ b off, A = some ⟨b, off, none⟩) (bb : Bool) (hb : (l.take n).contains x = bb) :
  Calls Tryz.prog (ρ.f 7) #[.slice A n c, .agg #[.int .i64 x.1, .int .i64 x.2]] w fun e w' => e = .returned (.bool bb) ∧ Below w.heap.size w w' := by
 obtain ⟨b, off, rfl⟩ := hA
 refine (AnyQ.slices_Contains L 2 aE zE ptC (fun x => rfl) (fun x y => decide (y = x)) heq b off n c l x w hn (by omega) ?_).mono ?_
 ·intro j hj i v hv
  obtain ⟨ad, e, _, _, hc⟩ := hr.at_ (i := j) (r := ptC l[j]!) (by simp [hj])
  cases e
  have := hc i v hv
  rw [← this]
  unfold Addr.add
  by_cases h4 : j * 2 + i = 0
  ·rw [if_pos h4, Nat.add_assoc, h4]; rfl
  ·rw [if_neg h4, Nat.add_assoc]
 ·rintro e w' ⟨rfl, hbl⟩
  refine ⟨?_, hbl⟩
  rw [← hb, List.contains_eq_any_beq]
  congr 3
  funext y
  by_cases h : y = x
  ·simp [h]
  ·have h2 : ¬ x = y := fun e1 => h e1.symm
   simp [h, h2]

def renCPt : Go.Shelf.Ren := ⟨fun | 7 => 89 | 6 => 152 | n => n, fun | 22 => 82 | 24 => 79 | 3 => 3 | 4 => 4 | n => n, fun | n => n⟩
theorem laysCPt : Go.Proofs.SlLaysQ.n7 Tryz.prog renCPt := {
 mixed := by kernel_rfl
 f6 := ⟨ "slices.Index[[]tellurion/api.PlatePoint,tellurion/api.PlatePoint]", by decide, Tryz.func152.trans (congrArg some (by kernel_rfl))⟩
 f7 := ⟨ "slices.Contains[[]tellurion/api.PlatePoint,tellurion/api.PlatePoint]", by decide, Tryz.func89.trans (congrArg some (by kernel_rfl))⟩
 t0 := Tryz.underlying0
 a0 := Tryz.isAgg0
 z0 := Tryz.sizeOf0
 v0 := Tryz.zeroValue0
 t3 := Tryz.underlying3
 a3 := Tryz.isAgg3
 z3 := Tryz.sizeOf3
 v3 := Tryz.zeroValue3
 t4 := Tryz.underlying4
 a4 := Tryz.isAgg4
 z4 := Tryz.sizeOf4
 v4 := Tryz.zeroValue4
 t22 := Tryz.underlying82
 a22 := Tryz.isAgg82
 z22 := Tryz.sizeOf82
 v22 := Tryz.zeroValue82 }
theorem eql_Pt : EqlAt Tryz.prog 79 (fun x => .agg (ptC x).toArray) (fun x y => decide (y = x)) := by
 refine ⟨fun x y w => ?_, .agg _ (by kernel_rfl)⟩
 obtain ⟨x, x2⟩ := x
 obtain ⟨a, b⟩ := y
 have h : (Op.equal 79 (.agg #[.int .i64 x, .int .i64 x2]) (.agg #[.int .i64 a, .int .i64 b])).run Tryz.prog w = .ok (if (!(x == a)) = true then false else if (!(x2 == b)) = true then false else true) w := by
  have hs : Tryz.prog.underlying 79 = some (.struct (Tryz.prog.fieldsOf 79)) := by kernel_rfl
  have hp : Tryz.prog.stoodInHeld 79 = false := by kernel_rfl
  unfold Op.equal Op.maxDepth
  rw [run_equalIn_struct w 9999 _ _ _ hs hp]
  simp [Program.fieldsOf, Tryz.underlying79, Op.eqFields, go_sem]
  by_cases h1 : x = a
  ·by_cases h2 : x2 = b
   ·simp [h1, h2]
   ·simp [h1, h2]
  ·simp [h1]
 have h2 : (binOp .eql 79 (.agg (ptC (x, x2)).toArray) (.agg (ptC (a, b)).toArray)).run Tryz.prog w = ((Op.equal 79 (.agg #[.int .i64 x, .int .i64 x2]) (.agg #[.int .i64 a, .int .i64 b])).run Tryz.prog w).andThen (fun b w => .ok (.bool b) w) := by
  simp [binOp, ptC]
 rw [h2, h, Result.andThen_ok]
 by_cases h1 : x = a
 ·by_cases h2 : x2 = b
  ·simp [h1, h2]
  ·have h2' : ¬ b = x2 := fun e => h2 e.symm
   simp [h1, h2, h2']
 ·have h1' : ¬ a = x := fun e => h1 e.symm
  simp [h1, h1']
theorem contains_Pt (A : Option Addr) (n c : Nat) (l : List (Int × Int)) (x y : Int) (w : World) (hr : RdS w A 2 (l.map ptC)) (hn : n ≤ l.length) (hl : l.length ≤ 1000) (hA : ∃ b off, A = some ⟨b, off, none⟩) (bb : Bool) (hb : (l.take n).contains (x, y) = bb) :
  Calls Tryz.prog 89 #[.slice A n c, .agg #[.int .i64 x, .int .i64 y]] w fun e w' => e = .returned (.bool bb) ∧ Below w.heap.size w w' :=
 contains_gen laysCPt Tryz.isAgg79 Tryz.sizeOf79 eql_Pt A n c l (x, y) w hr hn hl hA bb hb

def renCMs : Go.Shelf.Ren := ⟨fun | 7 => 149 | 6 => 210 | n => n, fun | 22 => 84 | 24 => 159 | 3 => 3 | 4 => 4 | n => n, fun | n => n⟩
theorem laysCMs : Go.Proofs.SlLaysQ.n7 Tryz.prog renCMs := {
 mixed := by kernel_rfl
 f6 := ⟨ "slices.Index[[]tellurion/api.PlateMesh,tellurion/api.PlateMesh]", by decide, Tryz.func210.trans (congrArg some (by kernel_rfl))⟩
 f7 := ⟨ "slices.Contains[[]tellurion/api.PlateMesh,tellurion/api.PlateMesh]", by decide, Tryz.func149.trans (congrArg some (by kernel_rfl))⟩
 t0 := Tryz.underlying0
 a0 := Tryz.isAgg0
 z0 := Tryz.sizeOf0
 v0 := Tryz.zeroValue0
 t3 := Tryz.underlying3
 a3 := Tryz.isAgg3
 z3 := Tryz.sizeOf3
 v3 := Tryz.zeroValue3
 t4 := Tryz.underlying4
 a4 := Tryz.isAgg4
 z4 := Tryz.sizeOf4
 v4 := Tryz.zeroValue4
 t22 := Tryz.underlying84
 a22 := Tryz.isAgg84
 z22 := Tryz.sizeOf84
 v22 := Tryz.zeroValue84 }
theorem eql_Ms : EqlAt Tryz.prog 159 (fun x => .agg (ptC x).toArray) (fun x y => decide (y = x)) := by
 refine ⟨fun x y w => ?_, .agg _ (by kernel_rfl)⟩
 obtain ⟨x, x2⟩ := x
 obtain ⟨a, b⟩ := y
 have h : (Op.equal 159 (.agg #[.int .i64 x, .int .i64 x2]) (.agg #[.int .i64 a, .int .i64 b])).run Tryz.prog w = .ok (if (!(x == a)) = true then false else if (!(x2 == b)) = true then false else true) w := by
  have hs : Tryz.prog.underlying 159 = some (.struct (Tryz.prog.fieldsOf 159)) := by kernel_rfl
  have hp : Tryz.prog.stoodInHeld 159 = false := by kernel_rfl
  unfold Op.equal Op.maxDepth
  rw [run_equalIn_struct w 9999 _ _ _ hs hp]
  simp [Program.fieldsOf, Tryz.underlying159, Op.eqFields, go_sem]
  by_cases h1 : x = a
  ·by_cases h2 : x2 = b
   ·simp [h1, h2]
   ·simp [h1, h2]
  ·simp [h1]
 have h2 : (binOp .eql 159 (.agg (ptC (x, x2)).toArray) (.agg (ptC (a, b)).toArray)).run Tryz.prog w = ((Op.equal 159 (.agg #[.int .i64 x, .int .i64 x2]) (.agg #[.int .i64 a, .int .i64 b])).run Tryz.prog w).andThen (fun b w => .ok (.bool b) w) := by
  simp [binOp, ptC]
 rw [h2, h, Result.andThen_ok]
 by_cases h1 : x = a
 ·by_cases h2 : x2 = b
  ·simp [h1, h2]
  ·have h2' : ¬ b = x2 := fun e => h2 e.symm
   simp [h1, h2, h2']
 ·have h1' : ¬ a = x := fun e => h1 e.symm
  simp [h1, h1']
theorem contains_Ms (A : Option Addr) (n c : Nat) (l : List (Int × Int)) (x y : Int) (w : World) (hr : RdS w A 2 (l.map ptC)) (hn : n ≤ l.length) (hl : l.length ≤ 1000) (hA : ∃ b off, A = some ⟨b, off, none⟩) (bb : Bool) (hb : (l.take n).contains (x, y) = bb) :
  Calls Tryz.prog 149 #[.slice A n c, .agg #[.int .i64 x, .int .i64 y]] w fun e w' => e = .returned (.bool bb) ∧ Below w.heap.size w w' :=
 contains_gen laysCMs Tryz.isAgg159 Tryz.sizeOf159 eql_Ms A n c l (x, y) w hr hn hl hA bb hb
end Go.Proofs.YtkmiphabagoifaaGreatDoor
end

section
namespace Go.Proofs.YtkmiphabagoifaaGreatDoor
open Go.RowKit

theorem entsM_snoc (k : Int × Int) : ∀ (L : List (Int × Int)) (i : Nat), entsM i (L ++ [k]) = entsM i L ++ [{ key := keyM k, val := .bool true, born := i + L.length }]
 | [], i => by simp [entsM]
 | e :: L, i => by simp [entsM, entsM_snoc k L (i + 1)]; omega
theorem MapM.lt {W : World} {b : Nat} {L : List (Int × Int)} (h : MapM W b L) : b < W.heap.size := by
 rcases Nat.lt_or_ge b W.heap.size with h1 | h1
 ·exact h1
 ·unfold MapM at h; rw [Array.getElem?_eq_none h1] at h; cases h
theorem update_mesh (w : World) (b : Nat) (L : List (Int × Int)) (k : Int × Int) (h : MapM w b L) (hno : L.contains k = false) :
  ∃ w', (Instr.mapUpdate 149 (.map (some b)) (keyM k) (.bool true)).run Tryz.prog w = .ok () w' ∧ MapM w' b (L ++ [k]) ∧ w.grownBy w' (some b) := by
 have hlt := h.lt
 have hi : idxM k 0 L = none := by
  rw [← idxM_some k L 0] at hno
  cases hq : idxM k 0 L with
  | none => rfl
  | some p => rw [hq] at hno; cases hno
 have hset : ∀ o, (setObj b o).run Tryz.prog w = .ok () { w with heap := w.heap.setIfInBounds b o } := fun o => by
  unfold MapM at h
  simp [setObj, Sem.run, h]
 refine ⟨{ w with heap := w.heap.setIfInBounds b (.map ((entsM 0 L).toArray.push { key := keyM k, val := .bool true, born := L.length }) (L.length + 1)) }, ?_, ?_, ?_⟩
 ·unfold Instr.mapUpdate
  simp only [Sem.run_bind, run_underlying Tryz.underlying149, Result.andThen_ok, MapKept.run_getObj_map h, check_keyM, find_kM, hi, Option.map_none, hset]
 ·unfold MapM
  show (w.heap.setIfInBounds b _)[b]? = _
  rw [Array.getElem?_setIfInBounds_self_of_lt hlt, entsM_snoc]
  simp
 ·refine ⟨rfl, rfl, rfl, by simp, fun k hk hne => ?_⟩
  show (w.heap.setIfInBounds b _)[k]? = _
  rw [Array.getElem?_setIfInBounds_ne (fun e => hne (by rw [e]))]
set_option maxRecDepth 100000 in
set_option maxHeartbeats 16000000 in
theorem lay_is (pw ph pp pg po : Int) (A B M : Option Addr) (n nc m mc k kc : Nat) (ms : List (Int × Int)) (w : World) (hM : RdS w M 2 (ms.map ptC)) (hk : ms.length = k) (hk2 : k ≤ 1000) (hnd : ∀ i x, ms[i]? = some x → (ms.take i).contains x = false) :
  Calls Tryz.prog 90 #[.agg #[.int .i64 pw, .int .i64 ph, .int .i64 pp, .int .i64 pg, .int .i64 po, .slice A n nc, .slice B m mc, .slice M k kc], .slice none 0 0] w fun e w' => ∃ l, e = .returned (.agg #[.int .i64 pw, .int .i64 ph, .int .i64 pp, .int .i64 pg, .int .i64 po, .slice A n nc, .slice B m mc, .slice M k kc, .map (some l), .slice none 0 0]) ∧ MapM w' l ms ∧ Below w.heap.size w w' := by
 have hmk : ∀ w, (Instr.makeMap 149 none).run Tryz.prog w = .ok (.map (some w.heap.size)) (w.alloc (.map #[] 0)) := fun w => rfl
 have hb0 := fr_alloc (fr_alloc (fr_refl w) (.cells #[.int .i64 pw, .int .i64 ph, .int .i64 pp, .int .i64 pg, .int .i64 po, .slice A n nc, .slice B m mc, .slice M k kc] 86)) (.cells #[.int .i64 0, .int .i64 0, .int .i64 0, .int .i64 0, .int .i64 0, .slice none 0 0, .slice none 0 0, .slice none 0 0, .map none, .slice none 0 0] 151)
 have hX := (Blk.new w 86 #[.int .i64 pw, .int .i64 ph, .int .i64 pp, .int .i64 pg, .int .i64 po, .slice A n nc, .slice B m mc, .slice M k kc]).alloc (.cells #[.int .i64 0, .int .i64 0, .int .i64 0, .int .i64 0, .int .i64 0, .slice none 0 0, .slice none 0 0, .slice none 0 0, .map none, .slice none 0 0] 151)
 have hZ : Blk ((w.alloc (.cells #[.int .i64 pw, .int .i64 ph, .int .i64 pp, .int .i64 pg, .int .i64 po, .slice A n nc, .slice B m mc, .slice M k kc] 86)).alloc (.cells #[.int .i64 0, .int .i64 0, .int .i64 0, .int .i64 0, .int .i64 0, .slice none 0 0, .slice none 0 0, .slice none 0 0, .map none, .slice none 0 0] 151)) (w.heap.size + 1) 151 #[.int .i64 0, .int .i64 0, .int .i64 0, .int .i64 0, .int .i64 0, .slice none 0 0, .slice none 0 0, .slice none 0 0, .map none, .slice none 0 0] := Blk.new_at _ _ (by simp)
 obtain ⟨w1, hw1⟩ : ∃ w1, (w.alloc (.cells #[.int .i64 pw, .int .i64 ph, .int .i64 pp, .int .i64 pg, .int .i64 po, .slice A n nc, .slice B m mc, .slice M k kc] 86)).alloc (.cells #[.int .i64 0, .int .i64 0, .int .i64 0, .int .i64 0, .int .i64 0, .slice none 0 0, .slice none 0 0, .slice none 0 0, .map none, .slice none 0 0] 151) = w1 := ⟨_, rfl⟩
 rw [hw1] at hb0 hX hZ
 have hlX := hX.lt
 have hcX := fun j => hX.cell j
 go_enter Tryz.func90, Tryz.ntmps90
 go_upto_region 1 with (fail)
 (try rw [hw1])
 clear hw1
 go_upto_region 2 with (refine wpList_store_blk rfl _ _ _ rfl (w1.heap.size + 1) 151 _ _ rfl rfl (Blk.new_at _ _ (by simp)) rfl (by kernel_rfl) (by simp [Value.oneCell']) ?_; intro w2 hP hgP)
 dsimp only [Act.put]
 have hm0 : MapM w2 w1.heap.size [] := by
  unfold MapM
  rw [hgP.block _ (by simp; omega) (by simp)]
  exact (Below.heap_alloc _ _ _ (by simp)).trans (heap_alloc_new w1 _)
 have hb2 : Below w1.heap.size w1 w2 := (fr_alloc (fr_alloc (fr_refl w1) (.map #[] 0)) _).grown hgP (by simp; omega) (by intro k hk; cases hk; omega)
 have hbe := fr_call hb0 hb2
 have hX2 := hX.keep hb2
 have hZ2 := hZ.keep hb2
 have hcX2 := fun j => hX2.cell j
 have hlP := hP.lt
 obtain ⟨q, hq⟩ : ∃ q, w1.heap.size = q := ⟨_, rfl⟩
 rw [hq] at hm0 hP hlP hlX
 have hsz : w.heap.size + 1 < q := by rw [← hq]; exact hZ.lt
 clear hX hZ hb0 hgP hb2 hcX hlX
 (try rw [hq])
 clear hq
 go_upto_region 3 with (fail)
 go_loopw [15] (fun t wr => ∃ j : Nat, j ≤ k ∧ t = .int .i64 j ∧ Blk wr w.heap.size 86 #[.int .i64 pw, .int .i64 ph, .int .i64 pp, .int .i64 pg, .int .i64 po, .slice A n nc, .slice B m mc, .slice M k kc] ∧ Blk wr (w.heap.size + 1) 151 #[.int .i64 0, .int .i64 0, .int .i64 0, .int .i64 0, .int .i64 0, .slice none 0 0, .slice none 0 0, .slice none 0 0, .map none, .slice none 0 0] ∧ Blk wr (q + 1) 151 #[.int .i64 pw, .int .i64 ph, .int .i64 pp, .int .i64 pg, .int .i64 po, .slice A n nc, .slice B m mc, .slice M k kc, .map (some q), .slice none 0 0] ∧ MapM wr q (ms.take j) ∧ Below w.heap.size w wr) (fun t _ => k - (intOf t).toNat)
 case atStart => exact ⟨0, Nat.zero_le _, rfl, hX2, hZ2, hP, by simpa using hm0, hbe⟩
 case round =>
  clear hX2 hZ2 hcX2 hP hlP hm0 hbe
  obtain ⟨j, hj, rfl, hX2, hZ2, hP, hm0, hbe⟩ := hrel
  by_cases hlt : j < k
  ·obtain ⟨⟨x, y⟩, hx⟩ : ∃ x, ms[j]? = some x := ⟨ms[j]'(by omega), by simp [hk, hlt]⟩
   have hno := hnd j _ hx
   obtain ⟨ad, rfl, hab, h0, h1⟩ := (hM.keep hbe).nth (i := j) (r := ptC (x, y)) (by simp [hx])
   have c0 := h0 _ rfl
   have c1 := h1 0 _ rfl
   have i1 : (j : Int) < (k : Int) := by omega
   have i2 : 0 ≤ (j : Int) := by omega
   have z1 : IntKind.i64.wrap ((j : Int) + 1) = ((j + 1 : Nat) : Int) := by rw [IntWalk.i64_in _ (by omega)]; rfl
   clear h0 h1 hM hnd
   go_upto_region 5 with (refine wpList_store_blk rfl _ _ _ rfl wr.heap.size 159 _ _ rfl rfl (Blk.new wr _ _) rfl (by kernel_rfl) (by simp [Value.oneCell']) ?_; intro w4 hQ hgQ)
   have hb4 : Below wr.heap.size wr w4 := (fr_alloc (fr_refl wr) _).grown hgQ (fr_alloc (fr_refl wr) _).size (by intro k hk; cases hk; exact Nat.le_refl _)
   have hX4 := hX2.keep hb4
   have hZ4 := hZ2.keep hb4
   have hP4 := hP.keep hb4
   have hcP := fun j => hP4.cell j
   have hcQ := fun j => hQ.cell j
   have hlP4 := hP4.lt
   have hlQ := hQ.lt
   obtain ⟨w5, hup, hm5, hg5⟩ := update_mesh w4 q (ms.take j) (x, y) (hm0.keep hb4) hno
   unfold keyM at hup
   go_wp2_with fail
   have hkX : ∀ g t cs, Blk w4 g t cs → g ≠ q → Blk w5 g t cs := fun g t cs hB hne => (hg5.block g hB.lt (by intro e; cases e; exact hne rfl)).trans hB
   refine ⟨⟨j + 1, hlt, rfl, hkX _ _ _ hX4 (by omega), hkX _ _ _ hZ4 (by omega), hkX _ _ _ hP4 (by omega), ?_, ?_⟩, ?_⟩
   ·rw [List.take_add_one, hx]
    exact hm5
   ·exact (fr_call hbe hb4).grown hg5 (fr_call hbe hb4).size (by intro k hk; cases hk; omega)
   ·simp [intOf]; omega
  ·obtain rfl : j = k := by omega
   rw [List.take_of_length_le (by omega)] at hm0
   have hcP := fun j => hP.cell j
   clear hM hnd
   go_wp2_with (refine wpList_store_blk rfl _ _ _ rfl (w.heap.size + 1) 151 _ _ rfl rfl hZ2 rfl (by kernel_rfl) (by simp [Value.oneCell']) ?_; intro w4 hQ hgQ)
   refine bodyPost_ret (results_blk1 rfl _ _ _ _ rfl hQ Tryz.underlying151 rfl (by kernel_rfl)) rfl ?_
   exact ⟨q, rfl, (hgQ.block q hm0.lt (by intro e; cases e; omega)).trans hm0, hbe.grown hgQ hbe.size (by intro k hk; cases hk; omega)⟩
end Go.Proofs.YtkmiphabagoifaaGreatDoor
end
