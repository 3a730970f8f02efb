/- A map from pairs of numbers to numbers: what a look-up, a place and a store into a place give. Plain: how many guesses have how many teeth at a wheel; what is left at most. Walk: guess, the choices of wheels to count. Walk: guess, Count. Plain: the examples that each law computes. The laws' own helpers: span, by, the finds F, G, H. Walks: guess, the words with which lines begin; the numbers of lines. -/
import Derived.Test.YthenlopnlaiodaaGreatDoorMG3
import Derived.MapKept
import Derived.Laws.StructEq
import Derived.Test.YthenlopnlaiodaaGreatDoorMG6
import Derived.Test.YthenlopnlaiodaaGreatDoorMG14
import Derived.Test.YthenlopnlaiodaaGreatDoorMG15
import Derived.Test.YthenlopnlaiodaaGreatDoorMG4
import Derived.Test.YthenlopnlaiodaaGreatDoorMG2
import Derived.Test.YthenlopnlaiodaaGreatDoorShelf
import Derived.Lib.LaidTab
import Derived.Lib.ItoaNum
import Derived.Sort.Grow
section
namespace Go.Proofs.YthenlopnlaiodaaGreatDoor
open Go.RowKit Go.Shelf

abbrev Ent := (Int × Int) × Int
def keyV (k : Int × Int) : Value := .agg #[.int .i64 k.1, .int .i64 k.2]
def ents : Nat → List Ent → List MapEntry
 | _, [] => []
 | i, e :: l => { key := keyV e.1, val := .int .i64 e.2, born := i } :: ents (i + 1) l
def MapC (W : World) (b : Nat) (L : List Ent) : Prop := W.heap[b]? = some (.map (ents 0 L).toArray L.length)
def idxC (k : Int × Int) : Nat → List Ent → Option (Nat × Int)
 | _, [] => none
 | i, e :: l => if e.1 = k then some (i, e.2) else idxC k (i + 1) l
def getC (L : List Ent) (k : Int × Int) : Int := match idxC k 0 L with | some (_, v) => v | none => 0
def setC (x : Int) : Nat → List Ent → List Ent
 | _, [] => []
 | 0, e :: l => (e.1, x) :: l
 | j + 1, e :: l => e :: setC x j l
theorem ents_len : ∀ (L : List Ent) (i : Nat), (ents i L).length = L.length
 | [], _ => rfl
 | _ :: L, i => by simp [ents, ents_len L]
theorem ents_snoc (k : Int × Int) (v : Int) : ∀ (L : List Ent) (i : Nat), ents i (L ++ [(k, v)]) = ents i L ++ [{ key := keyV k, val := .int .i64 v, born := i + L.length }]
 | [], i => by simp [ents]
 | e :: L, i => by simp [ents, ents_snoc k v L (i + 1)]; omega
theorem setC_len (x : Int) : ∀ (j : Nat) (L : List Ent), (setC x j L).length = L.length
 | _, [] => by simp [setC]
 | 0, _ :: _ => by simp [setC]
 | j + 1, _ :: L => by simp [setC, setC_len x j L]
theorem idxC_off (k : Int × Int) : ∀ (L : List Ent) (i : Nat), idxC k i L = (idxC k 0 L).map (fun p => (p.1 + i, p.2))
 | [], i => rfl
 | e :: L, i => by
  unfold idxC
  by_cases h : e.1 = k
  ·simp [h]
  ·rw [if_neg h, if_neg h, idxC_off k L (i + 1), idxC_off k L (0 + 1), Option.map_map]
   congr 1
   funext p
   simp; omega
theorem idxC_snoc (k k' : Int × Int) (v : Int) : ∀ (L : List Ent) (i : Nat), idxC k' i (L ++ [(k, v)]) = match idxC k' i L with | some p => some p | none => if k = k' then some (i + L.length, v) else none
 | [], i => by simp [idxC]
 | e :: L, i => by
  simp only [List.cons_append, idxC]
  by_cases h : e.1 = k'
  ·simp [h]
  ·rw [if_neg h, if_neg h, idxC_snoc k k' v L (i + 1)]
   cases idxC k' (i + 1) L with
   | some p => rfl
   | none => simp only [List.length_cons]; congr 3; omega
theorem idxC_lt (k : Int × Int) : ∀ (L : List Ent) (i j : Nat) (v : Int), idxC k i L = some (j, v) → i ≤ j ∧ j < i + L.length
 | [], i, j, v, h => by simp [idxC] at h
 | e :: L, i, j, v, h => by
  unfold idxC at h
  split at h
  ·simp at h; simp; omega
  ·have := idxC_lt k L (i + 1) j v h
   simp; omega
/-- a store into the place of a key -/
theorem idxC_set (k k' : Int × Int) (x : Int) : ∀ (L : List Ent) (j : Nat) (v : Int), idxC k 0 L = some (j, v) → idxC k' 0 (setC x j L) = if k' = k then some (j, x) else idxC k' 0 L
 | [], j, v, h => by simp [idxC] at h
 | e :: L, j, v, h => by
  unfold idxC at h
  split at h
  ·rename_i he
   simp only [Option.some.injEq, Prod.mk.injEq] at h
   obtain ⟨rfl, _⟩ := h
   simp only [setC, idxC, he]
   by_cases hk : k' = k
   ·simp [hk]
   ·have hk2 : ¬ k = k' := fun e => hk e.symm
    rw [if_neg hk, if_neg hk2, if_neg hk2]
  ·rename_i he
   rw [idxC_off] at h
   cases hq : idxC k 0 L with
   | none => rw [hq] at h; cases h
   | some p =>
    rw [hq] at h
    simp only [Option.map_some, Option.some.injEq, Prod.mk.injEq] at h
    obtain ⟨rfl, rfl⟩ := h
    have ih := idxC_set k k' x L p.1 p.2 hq
    simp only [setC, idxC]
    by_cases he' : e.1 = k'
    ·have hk : ¬ k' = k := fun e1 => he (he'.trans e1)
     simp [he', hk]
    ·rw [if_neg he', if_neg he', idxC_off, ih, idxC_off k' L (0 + 1)]
     by_cases hk : k' = k
     ·simp [hk]
     ·simp [hk]
theorem eq_key (w : World) (k k' : Int × Int) : (Op.equal 135 (keyV k) (keyV k')).run Tryz.prog w = .ok (decide (k' = k)) w := by
 obtain ⟨x, y⟩ := k
 obtain ⟨a, b⟩ := k'
 have h : (Op.equal 135 (keyV (x, y)) (keyV (a, b))).run Tryz.prog w = .ok (if (!(x == a)) = true then false else if (!(y == b)) = true then false else true) w := by
  have hs : Tryz.prog.underlying 135 = some (.struct (Tryz.prog.fieldsOf 135)) := by kernel_rfl
  have hp : Tryz.prog.stoodInHeld 135 = false := by kernel_rfl
  unfold Op.equal Op.maxDepth keyV
  rw [run_equalIn_struct w 9999 _ _ _ hs hp]
  simp [Program.fieldsOf, Tryz.underlying135, Op.eqFields, go_sem]
  by_cases h1 : x = a
  ·by_cases h2 : y = b
   ·simp [h1, h2]
   ·simp [h1, h2]
  ·simp [h1]
 rw [h]
 by_cases h1 : x = a
 ·by_cases h2 : y = b
  ·simp [h1, h2]
  ·have h2' : ¬ b = y := fun e => h2 e.symm
   simp [h1, h2, h2']
 ·have h1' : ¬ a = x := fun e => h1 e.symm
  simp [h1, h1']
theorem check_key (w : World) (k : Int × Int) (e : Bool) : (Instr.checkKey e 10000 135 (keyV k)).run Tryz.prog w = .ok () w := by
 obtain ⟨x, y⟩ := k
 kernel_rfl
theorem find_key (w : World) (k : Int × Int) : ∀ (L : List Ent) (i : Nat), (Instr.findAsking 135 (keyV k) (ents i L) i).run Tryz.prog w = .ok ((idxC k i L).map (fun p => (p.1, Value.int .i64 p.2))) w
 | [], i => by simp [ents, Instr.findAsking, idxC]
 | e :: L, i => by
  simp only [ents, Instr.findAsking, Sem.run_bind, eq_key, Result.andThen_ok, idxC]
  by_cases h : e.1 = k
  ·simp [h]
  ·simp [h, find_key w k L (i + 1)]
theorem find_k (w : World) (k : Int × Int) (L : List Ent) : (Instr.findKey 135 (keyV k) (ents 0 L)).run Tryz.prog w = .ok ((idxC k 0 L).map (fun p => (p.1, Value.int .i64 p.2))) w := by
 cases L with
 | nil => simp [Instr.findKey, ents, Instr.findNow, idxC, run_underlying Tryz.underlying135]
 | cons e L =>
  have h := find_key w k (e :: L) 0
  simp only [Instr.findKey, Sem.run_bind, run_underlying Tryz.underlying135, Result.andThen_ok]
  simp only [ents, Instr.findNow, Instr.sameNow] at h ⊢
  exact h
theorem ents_at (k : Int × Int) : ∀ (L : List Ent) (i j : Nat) (v : Int), idxC k i L = some (j, v) → (ents i L)[j - i]? = some { key := keyV k, val := .int .i64 v, born := j }
 | [], i, j, v, h => by simp [idxC] at h
 | e :: L, i, j, v, h => by
  unfold idxC at h
  split at h
  ·rename_i he
   simp only [Option.some.injEq, Prod.mk.injEq] at h
   obtain ⟨rfl, rfl⟩ := h
   simp [ents, he]
  ·have h1 := idxC_lt k L (i + 1) j v h
   have h2 := ents_at k L (i + 1) j v h
   rw [show j - i = (j - (i + 1)) + 1 by omega]
   simpa [ents] using h2
theorem ents_set (x : Int) : ∀ (j : Nat) (L : List Ent) (i q : Nat), (ents i (setC x j L))[q]? = if j = q then ((ents i L)[q]?).map (fun e => { e with val := .int .i64 x }) else (ents i L)[q]?
 | _, [], i, q => by simp [setC, ents]
 | 0, e :: L, i, q => by
  cases q with
  | zero => simp [setC, ents]
  | succ q => simp [setC, ents]
 | j + 1, e :: L, i, q => by
  cases q with
  | zero => simp [setC, ents]
  | succ q => simp [setC, ents, ents_set x j L (i + 1) q]
theorem ents_find : ∀ (L : List Ent) (i j : Nat), j < L.length → (ents i L).findIdx? (fun e => (e.born : Int) == ((i + j : Nat) : Int)) = some j
 | [], i, j, h => by simp at h
 | e :: L, i, 0, h => by simp [ents, List.findIdx?_cons]
 | e :: L, i, j + 1, h => by
  have ih := ents_find L (i + 1) j (by simpa using h)
  have hne : ((i : Int) == ((i + (j + 1) : Nat) : Int)) = false := by rw [beq_eq_false_iff_ne]; omega
  rw [show i + 1 + j = i + (j + 1) by omega] at ih
  simp only [ents, List.findIdx?_cons, hne, ih]
  rfl

def tabC (L : List Ent) : Obj := .map (ents 0 L).toArray L.length
theorem run_look (w : World) (b : Nat) (L : List Ent) (k : Int × Int) (h : MapC w b L) : (Instr.lookup 133 (.map (some b)) (keyV k) false).run Tryz.prog w = .ok (.int .i64 (getC L k)) w := by
 have hz : (zeroValue 3).run Tryz.prog w = .ok (.int .i64 0) w := by kernel_rfl
 unfold Instr.lookup
 simp only [Sem.run_bind, run_underlying Tryz.underlying133, Result.andThen_ok, MapKept.run_getObj_map h, Sem.run_pure, check_key, find_k]
 unfold getC
 cases idxC k 0 L with
 | none => simp [hz]
 | some p => simp
theorem run_entry (w : World) (b : Nat) (L : List Ent) (k : Int × Int) (h : MapC w b L) :
  ∃ (j : Nat) (L1 : List Ent), (Instr.mapEntry 133 (.map (some b)) (keyV k)).run Tryz.prog w = .ok (.tuple #[.int .i64 (getC L k), .int .i64 j]) (w.putObj b (tabC L1)) ∧ (∀ k', getC L1 k' = getC L k') ∧ idxC k 0 L1 = some (j, getC L k) := by
 have hz : (zeroValue 3).run Tryz.prog w = .ok (.int .i64 0) w := by kernel_rfl
 cases hq : idxC k 0 L with
 | none =>
  have hg : getC L k = 0 := by unfold getC; rw [hq]
  refine ⟨L.length, L ++ [(k, 0)], ?_, fun k' => ?_, ?_⟩
  ·unfold Instr.mapEntry
   simp only [Sem.run_bind, run_underlying Tryz.underlying133, Result.andThen_ok, MapKept.run_getObj_map h, check_key, find_k, hq, Option.map_none, hz, MapKept.run_setObj_map _ h, Sem.run_pure, hg]
   unfold tabC World.putObj goInt
   rw [ents_snoc]
   simp
  ·unfold getC
   rw [idxC_snoc]
   by_cases e : k = k'
   ·rw [← e, hq]; simp
   ·cases idxC k' 0 L with
    | none => simp [e]
    | some p => rfl
  ·rw [idxC_snoc, hq, hg]; simp
 | some p =>
  obtain ⟨j, v⟩ := p
  have hg : getC L k = v := by unfold getC; rw [hq]
  have hj := idxC_lt k L 0 j v hq
  have he : (ents 0 L)[j]? = some { key := keyV k, val := .int .i64 v, born := j } := ents_at k L 0 j v hq
  refine ⟨j, L, ?_, fun k' => rfl, by rw [hg]; exact hq⟩
  unfold Instr.mapEntry
  have hs : (Instr.keyThatStays (keyV k) (keyV k)).run Tryz.prog w = .ok (keyV k) w := by
   have : Instr.sameBits 10000 (keyV k) (keyV k) = true := by simp [keyV, Instr.sameBits]
   unfold Instr.keyThatStays
   rw [if_pos this]
   rfl
  simp only [Sem.run_bind, run_underlying Tryz.underlying133, Result.andThen_ok, MapKept.run_getObj_map h, check_key, find_k, hq, Option.map_some, MapKept.run_setObj_map _ h, Sem.run_pure, hg, List.getElem?_toArray, he, Option.getD_some, hs]
  have hm : ((ents 0 L).toArray.modify j fun e => { key := keyV k, val := e.val, born := e.born }) = (ents 0 L).toArray := by
   apply Array.ext_getElem?
   intro q
   rw [Array.getElem?_modify]
   split
   ·rename_i e
    subst e
    simp [he]
   ·rfl
  rw [hm]
  rfl
theorem run_estore (w : World) (b : Nat) (L : List Ent) (j : Nat) (x : Int) (h : MapC w b L) (hj : j < L.length) :
  (Instr.entryStore 133 (.map (some b)) (.int .i64 j) (.int .i64 x)).run Tryz.prog w = .ok () (w.putObj b (tabC (setC x j L))) := by
 have hf := ents_find L 0 j hj
 rw [Nat.zero_add] at hf
 unfold Instr.entryStore
 have ha : (asInt (.int .i64 (j : Int))).run Tryz.prog w = .ok (j : Int) w := rfl
 simp only [Sem.run_bind, Result.andThen_ok, MapKept.run_getObj_map h, ha, List.findIdx?_toArray, hf, MapKept.run_setObj_map _ h]
 have hm : ((ents 0 L).toArray.modify j fun e => { key := e.key, val := Value.int .i64 x, born := e.born }) = (ents 0 (setC x j L)).toArray := by
  apply Array.ext_getElem?
  intro q
  rw [Array.getElem?_modify, List.getElem?_toArray, List.getElem?_toArray, ents_set]
 rw [hm]
 unfold tabC World.putObj
 rw [setC_len]
theorem MapC.put {w : World} {b : Nat} {L : List Ent} (h : MapC w b L) (L' : List Ent) : MapC (w.putObj b (tabC L')) b L' := World.putObj_heap_same (Array.getElem?_eq_some_iff.1 h).1
theorem MapC.lt {w : World} {b : Nat} {L : List Ent} (h : MapC w b L) : b < w.heap.size := (Array.getElem?_eq_some_iff.1 h).1
theorem MapC.keep {w w' : World} {b : Nat} {L : List Ent} (h : MapC w b L) (hb : Below w.heap.size w w') : MapC w' b L := (hb.block b h.lt).trans h
theorem getC_set {k : Int × Int} {L : List Ent} {j : Nat} {v x : Int} (h : idxC k 0 L = some (j, v)) (k' : Int × Int) : getC (setC x j L) k' = if k' = k then x else getC L k' := by
 unfold getC
 rw [idxC_set k k' x L j v h]
 by_cases e : k' = k
 ·simp [e]
 ·simp [e]
section
variable {ops : Array Oper} {rest : List Oper} {o : Oper} {a : Act} {Q : Exit → Act → World → Prop} {w : World}
/-- the place of a key, in the walk -/
theorem wpList_entry (hg : o.guard = none) (m x : Operand) (hop : o.op = .mapEntry 133 m x) (b : Nat) (L : List Ent) (k : Int × Int) (hm : a.eval m = .map (some b)) (hx : a.eval x = .agg #[.int .i64 k.1, .int .i64 k.2]) (h : MapC w b L)
  (hK : ∀ (j : Nat) (L1 : List Ent) (w' : World), MapC w' b L1 → (∀ k', getC L1 k' = getC L k') → idxC k 0 L1 = some (j, getC L k) → w.grownBy w' (some b) → wpList Tryz.prog ops Q rest (a.put o.dst (.tuple #[.int .i64 (getC L k), .int .i64 j])) w') :
  wpList Tryz.prog ops Q (o :: rest) a w := by
 refine wpList_plain hg fun K' hK' => ?_
 obtain ⟨j, L1, h1, h2, h3⟩ := run_entry w b L k h
 unfold keyV at h1
 unfold Oper.wp
 simp [execOp, hop, hm, hx, h1, Result.andThen]
 exact hK' _ _ (hK j L1 _ (h.put L1) h2 h3 (grownBy_putObj' w b _))
/-- a store into a place, in the walk -/
theorem wpList_estore (hg : o.guard = none) (m s x : Operand) (hop : o.op = .entryStore 133 m s x) (b : Nat) (L : List Ent) (k : Int × Int) (j : Nat) (v u : Int) (hm : a.eval m = .map (some b)) (hs : a.eval s = .int .i64 j) (hx : a.eval x = .int .i64 u) (h : MapC w b L) (hi : idxC k 0 L = some (j, v))
  (hK : ∀ (L1 : List Ent) (w' : World), MapC w' b L1 → (∀ k', getC L1 k' = if k' = k then u else getC L k') → w.grownBy w' (some b) → wpList Tryz.prog ops Q rest (a.put o.dst undef) w') :
  wpList Tryz.prog ops Q (o :: rest) a w := by
 refine wpList_plain hg fun K' hK' => ?_
 have h1 := run_estore w b L j u h (by have := (idxC_lt k L 0 j v hi).2; omega)
 unfold Oper.wp
 simp [execOp, hop, hm, hs, hx, h1, Result.andThen]
 exact hK' _ _ (hK _ _ (h.put _) (getC_set hi) (grownBy_putObj' w b _))
end
end Go.Proofs.YthenlopnlaiodaaGreatDoor
end

section
namespace Go.Proofs.YthenlopnlaiodaaGreatDoor
open Go.RowKit Go.Shelf

/-- how many trains have n teeth at the wheel i -/
def cntT (ts : List (List Int)) (i : Nat) (n : Int) : Nat := ts.countP (fun t => t[i]?.getD 0 == n)
def tally (ts : List (List Int)) (m : Nat) (k : Int × Int) : Int := if 0 ≤ k.1 ∧ k.1 < m then (cntT ts k.1.toNat k.2 : Int) else 0
def tallyJ (t : List Int) (j : Nat) (k : Int × Int) : Int := if 0 ≤ k.1 ∧ k.1 < j ∧ t[k.1.toNat]?.getD 0 = k.2 then 1 else 0
def CntL (ts : List (List Int)) (m : Nat) (t : List Int) (j : Nat) (L : List Ent) : Prop := ∀ k, getC L k = tally ts m k + tallyJ t j k
theorem tally_nil (m : Nat) (k : Int × Int) : tally [] m k = 0 := by unfold tally cntT; simp
theorem tallyJ_zero (t : List Int) (k : Int × Int) : tallyJ t 0 k = 0 := by unfold tallyJ; rw [if_neg (by omega)]
theorem tally_bd (ts : List (List Int)) (m : Nat) (k : Int × Int) : 0 ≤ tally ts m k ∧ tally ts m k ≤ ts.length := by
 unfold tally cntT
 have := List.countP_le_length (p := fun t : List Int => t[k.1.toNat]?.getD 0 == k.2) (l := ts)
 split <;> omega
theorem tallyJ_bd (t : List Int) (j : Nat) (k : Int × Int) : 0 ≤ tallyJ t j k ∧ tallyJ t j k ≤ 1 := by
 unfold tallyJ
 split <;> omega
theorem tallyJ_succ (t : List Int) (j : Nat) (k : Int × Int) : tallyJ t (j + 1) k = if k = ((j : Int), t[j]?.getD 0) then tallyJ t j k + 1 else tallyJ t j k := by
 obtain ⟨i, n⟩ := k
 unfold tallyJ
 simp only [Prod.mk.injEq]
 by_cases h : i = (j : Int)
 ·subst h
  rw [Int.toNat_natCast]
  by_cases h2 : n = t[j]?.getD 0
  ·rw [if_pos ⟨by omega, by omega, h2.symm⟩, if_pos ⟨rfl, h2⟩, if_neg (by omega)]; rfl
  ·rw [if_neg (fun h3 => h2 h3.2.2.symm), if_neg (fun h3 => h2 h3.2), if_neg (by omega)]
 ·rw [if_neg (c := i = (j : Int) ∧ _) (fun h3 => h h3.1)]
  by_cases h3 : 0 ≤ i ∧ i < (j : Int) ∧ t[i.toNat]?.getD 0 = n
  ·rw [if_pos h3, if_pos ⟨h3.1, by omega, h3.2.2⟩]
  ·rw [if_neg h3, if_neg (fun h4 => h3 ⟨h4.1, by omega, h4.2.2⟩)]
theorem tally_snoc (ts : List (List Int)) (t : List Int) (m : Nat) (k : Int × Int) : tally (ts ++ [t]) m k = tally ts m k + tallyJ t m k := by
 unfold tally tallyJ cntT
 rw [List.countP_append]
 by_cases h : 0 ≤ k.1 ∧ k.1 < (m : Int)
 ·rw [if_pos h, if_pos h]
  by_cases h2 : t[k.1.toNat]?.getD 0 = k.2
  ·rw [if_pos ⟨h.1, h.2, h2⟩]; simp [h2]
  ·rw [if_neg (fun h3 => h2 h3.2.2)]; simp [h2]
 ·rw [if_neg h, if_neg h, if_neg (fun h3 => h ⟨h3.1, h3.2.1⟩)]; rfl
theorem CntL.start (m : Nat) (t : List Int) : CntL [] m t 0 [] := fun k => by rw [tally_nil, tallyJ_zero]; rfl
theorem CntL.end_ {ts : List (List Int)} {m : Nat} {t t' : List Int} {L : List Ent} (h : CntL ts m t m L) : CntL (ts ++ [t]) m t' 0 L := fun k => by
 rw [tally_snoc, tallyJ_zero, h k]; omega
theorem CntL.step {ts : List (List Int)} {m : Nat} {t : List Int} {j : Nat} {L L2 : List Ent} (h : CntL ts m t j L) (h2 : ∀ k, getC L2 k = if k = ((j : Int), t[j]?.getD 0) then getC L k + 1 else getC L k) : CntL ts m t (j + 1) L2 := fun k => by
 rw [h2 k, tallyJ_succ, h k]
 split <;> omega
/-- how many are left at most if a wheel is counted -/
def leftL (ts : List (List Int)) (m : Nat) (i : Nat) (s : Wh) : Int := (upTo s.lo s.hi).foldl (fun a n => max a (tally ts m ((i : Int), n))) 0
def choicesL (ts : List (List Int)) (ws : List Wh) : List (Int × Int) := (List.range ws.length).map (fun i : Nat => ((i : Int), leftL ts ws.length i (ws[i]?.getD ⟨0, 0⟩)))
def ltLeft (a b : Int × Int) : Bool := decide (a.2 < b.2)
def countL (ts : List (List Int)) (ws : List Wh) : Int × Int := (bestL ltLeft (choicesL ts ws)).getD (0, 0)
theorem fold_max_bd (f : Int → Int) (b : Int) : ∀ (l : List Int) (a : Int), a ≤ b → (∀ n, f n ≤ b) → l.foldl (fun a n => max a (f n)) a ≤ b ∧ a ≤ l.foldl (fun a n => max a (f n)) a
 | [], a, h, _ => ⟨h, Int.le_refl _⟩
 | x :: l, a, h, hf => by
  have h1 := hf x
  have := fold_max_bd f b l (max a (f x)) (by omega) hf
  simp only [List.foldl_cons]
  omega
theorem leftL_bd (ts : List (List Int)) (m i : Nat) (s : Wh) : 0 ≤ leftL ts m i s ∧ leftL ts m i s ≤ ts.length := by
 have := fold_max_bd (fun n => tally ts m ((i : Int), n)) (ts.length : Int) (upTo s.lo s.hi) 0 (by omega) (fun n => (tally_bd ts m _).2)
 unfold leftL
 exact ⟨this.2, this.1⟩
end Go.Proofs.YthenlopnlaiodaaGreatDoor
end

section
namespace Go.Proofs.YthenlopnlaiodaaGreatDoor
open Go.RowKit Go.Shelf
attribute [local go_sem] Oper.semAt_some

set_option maxHeartbeats 1000000 in
theorem bet_left (P : Int × Int → Prop) : BetF P ltLeft 87 := by
 intro x y W _ _
 have hX := (Blk.new W 138 #[.int .i64 x.1, .int .i64 x.2]).alloc (.cells #[.int .i64 y.1, .int .i64 y.2] 138)
 have hb := fr_alloc (fr_alloc (fr_refl W) (.cells #[.int .i64 x.1, .int .i64 x.2] 138)) (.cells #[.int .i64 y.1, .int .i64 y.2] 138)
 have hcX := fun j => hX.cell j
 unfold encF
 go_enter Tryz.func87, Tryz.ntmps87
 go_wp2_with fail
 go_ret
 exact ⟨rfl, hb⟩
theorem still_look {o : Oper} {a : Act} {w : World} {next : Act → Prop} (m x : Operand) (hop : o.op = .lookup 133 m x false) (b : Nat) (L : List Ent) (k : Int × Int) (hm : a.eval m = .map (some b)) (hx : a.eval x = .agg #[.int .i64 k.1, .int .i64 k.2]) (h : MapC w b L)
  (hn : next (a.put o.dst (.int .i64 (getC L k)))) : o.still Tryz.prog a w next := by
 have h1 := run_look w b L k h
 unfold keyV at h1
 unfold Oper.still
 simp [execOp, hop, hm, hx, h1, Result.andThen, Oper.stillUpon]
 exact hn
/-- how many are left at most, with the numbers below x -/
def leftX (ts : List (List Int)) (m i : Nat) (lo x : Int) : Int := (upTo lo (x - 1)).foldl (fun a n => max a (tally ts m ((i : Int), n))) 0
theorem leftX_zero (ts : List (List Int)) (m i : Nat) (lo : Int) : leftX ts m i lo lo = 0 := by unfold leftX; rw [upTo_nil (by omega)]; rfl
theorem leftX_succ (ts : List (List Int)) (m i : Nat) {lo x : Int} (h : lo ≤ x) : leftX ts m i lo (x + 1) = max (leftX ts m i lo x) (tally ts m ((i : Int), x)) := by
 unfold leftX
 rw [show x + 1 - 1 = x by omega, upTo_snoc h, List.foldl_append]
 rfl
theorem leftX_all (ts : List (List Int)) (m i : Nat) (s : Wh) : leftX ts m i s.lo (s.hi + 1) = leftL ts m i s := by
 unfold leftX leftL
 rw [show s.hi + 1 - 1 = s.hi by omega]
theorem leftX_bd (ts : List (List Int)) (m i : Nat) (lo x : Int) : 0 ≤ leftX ts m i lo x ∧ leftX ts m i lo x ≤ ts.length := by
 have := leftL_bd ts m i ⟨lo, x - 1⟩
 unfold leftL at this
 exact this
theorem choices_len (ts : List (List Int)) (ws : List Wh) : (choicesL ts ws).length = ws.length := by simp [choicesL]
theorem choices_at (ts : List (List Int)) (ws : List Wh) (i : Nat) (h : i < ws.length) : (choicesL ts ws)[i]? = some ((i : Int), leftL ts ws.length i ws[i]) := by
 simp [choicesL, h]
set_option maxRecDepth 100000 in
set_option maxHeartbeats 8000000 in
theorem Count1_any (A N : Option Addr) (bf bv bM wc nn nc n : Nat) (ws : List Wh) (ts : List (List Int)) (L : List Ent) (w : World) (hF : Blk w bf 25 #[.slice A n wc, .slice N nn nc]) (hr : RdS w A 2 (ws.map Wh.cells)) (hV : Blk w bv 133 #[.map (some bM)]) (hM : MapC w bM L)
  (hL : ∀ k, getC L k = tally ts n k) (hn : ws.length = n) (hn6 : n ≤ 6) (hw : ∀ s ∈ ws, 4 ≤ s.lo ∧ s.lo ≤ s.hi ∧ s.hi ≤ 60) (_ : ts.length ≤ 50000) :
  IterF 138 85 #[] #[.pointer (some ⟨bf, 0, none⟩), .pointer (some ⟨bv, 0, none⟩)] w (choicesL ts ws) := by
 intro l P J W hP hb hY hJ
 obtain ⟨H, hH0⟩ : ∃ H, W.heap.size = H := ⟨_, rfl⟩
 rw [hH0] at hY
 have hH : H ≤ W.heap.size := by omega
 clear hH0
 change Calls _ _ #[.func (.yield l) #[] #[], .pointer (some ⟨bf, 0, none⟩), .pointer (some ⟨bv, 0, none⟩)] _ _
 have HN := Lib.hid hn
 have HLL := Lib.hid hL
 clear hn hL
 have hX := hF.keep hb
 have hcX := fun j => hX.cell j
 go_enter Tryz.func85, Tryz.ntmps85
 go_wp2_with fail
 go_loopw [11] (fun p wr => ∃ i : Nat, i ≤ n ∧ p = .int .i64 i ∧ J ((choicesL ts ws).take i) wr ∧ Keep w.heap.size (tyF 138) W wr) (fun p _ => n - (intOf p).toNat)
 case atStart => exact ⟨0, Nat.zero_le _, rfl, by simpa using hJ, Keep.refl _ _ _⟩
 case round =>
  obtain ⟨i, hi, rfl, hJk, hkk⟩ := hrel
  obtain ⟨w1, hw1⟩ : ∃ w1, w1 = wr := ⟨_, rfl⟩
  subst hw1
  have hbw := hkk.below hb (Nat.le_refl _) (Nat.le_refl _)
  clear hcX hX
  by_cases hlt : i < n
  ·have hil : i < ws.length := by have := HN.out; omega
   obtain ⟨ad, rfl, hab, hc0, hc1⟩ := whs_at (hr.keep hbw) hil
   have hwi := hw _ (List.getElem_mem hil)
   have hch := choices_at ts ws i hil
   have HCH := Lib.hid hch
   clear hch hw hr
   have hVr := hV.keep hbw
   have hMr := hM.keep hbw
   generalize ws[i] = s at *
   obtain ⟨lo, hi'⟩ := s
   simp only at *
   obtain ⟨h4, hlh, h60⟩ := hwi
   go_wp2_with fail
   have hb2 := fr_alloc (fr_alloc (fr_refl w1) (.cells #[.int .i64 lo, .int .i64 hi'] 47)) (.cells #[.int .i64 i, .int .i64 0] 138)
   have hS2 := (Blk.new w1 47 #[.int .i64 lo, .int .i64 hi']).alloc (.cells #[.int .i64 i, .int .i64 0] 138)
   have hX2 : Blk ((w1.alloc (.cells #[.int .i64 lo, .int .i64 hi'] 47)).alloc (.cells #[.int .i64 i, .int .i64 0] 138)) (w1.heap.size + 1) 138 #[.int .i64 i, .int .i64 0] := Blk.new_at _ _ (by simp)
   generalize (w1.alloc (.cells #[.int .i64 lo, .int .i64 hi'] 47)).alloc (.cells #[.int .i64 i, .int .i64 0] 138) = w2 at *
   have hzero := leftX_zero ts n i lo
   have HZERO := Lib.hid hzero
   clear hzero hc0 hc1
   go_loopw [7] (fun v wq => ∃ x : Int, lo ≤ x ∧ x ≤ hi' + 1 ∧ v = .int .i64 x ∧ Blk wq w1.heap.size 47 #[.int .i64 lo, .int .i64 hi'] ∧ Blk wq (w1.heap.size + 1) 138 #[.int .i64 i, .int .i64 (leftX ts n i lo x)] ∧ Below w1.heap.size w1 wq) (fun v _ => (hi' + 1 - intOf v).toNat)
   case atStart => exact ⟨lo, Int.le_refl _, by omega, rfl, hS2, by rw [HZERO.out]; exact hX2, hb2⟩
   case round =>
    obtain ⟨x, hx1, hx2, rfl, hSq, hXq, hbq⟩ := hrel
    clear hS2 hX2 hb2
    have hcS0 := hSq.cell 0
    have hcS1 := hSq.cell 1
    have hcX0 := hXq.cell 0
    have hcX1 := hXq.cell 1
    have hfX1 := hXq.frozen 1
    by_cases hxl : x ≤ hi'
    ·have hMq := hMr.keep hbq
     have hcV := (hVr.keep hbq).cell 0
     have hlx := leftX_succ ts n i (lo := lo) (x := x) hx1
     have hgt := HLL.out ((i : Int), x)
     have HLX := Lib.hid hlx
     clear hlx
     generalize hta : tally ts n ((i : Int), x) = tl at *
     generalize hle : leftX ts n i lo x = le at *
     have HTA := Lib.hid hta
     have HGT := Lib.hid hgt
     have HLE := Lib.hid hle
     clear hta hle hgt
     go_wp2_with fail
     have e1 : max le tl = if le < tl then tl else le := by split <;> omega
     go_still_tail 9, (by kernel_rfl)
     refine wpStill_step (fun K hK => ?_)
     rw [if_pos (by rfl)]
     refine still_look (.tmp 28) (.tmp 31) rfl bM L ((i : Int), x) rfl rfl hMq ?_
     rw [HGT.out]
     refine hK _ ?_
     clear hK K
     (try simp only [Act.put, List.setIfInBounds_toArray, List.set_cons_zero, List.set_cons_succ])
     repeat still_step
     refine wpStill_nil ?_
     change wpList _ _ _ _ _ (World.drew _)
     go_wp2_with fail
     refine ⟨⟨x + 1, by omega, by omega, rfl, (hSq.far (p := ⟨w1.heap.size + 1, 1, none⟩) (by simp) _).drew, ?_, ?_⟩, ?_⟩
     ·rw [HLX.out, e1]
      exact (hXq.set_ 1 _).drew
     ·exact fr_call (hbq.setCell (by simp) _) (fr_drew (fr_refl _))
     ·simp [intOf]; omega
    ·obtain rfl : x = hi' + 1 := by omega
     have hJq := hY.below hJk hbq (Nat.le_trans hH hkk.size)
     have hkq := hkk.then_below hbq
     have hlf := leftX_all ts n i ⟨lo, hi'⟩
     simp only at hlf
     rw [hlf] at hcX1 hXq
     have hni := HN.out
     have hch : (choicesL ts ws)[i]? = some ((i : Int), leftL ts n i ⟨lo, hi'⟩) := by rw [HCH.out, hni]
     have hPi := hP _ (List.mem_of_getElem? hch)
     have htk : (choicesL ts ws).take (i + 1) = (choicesL ts ws).take i ++ [((i : Int), leftL ts n i ⟨lo, hi'⟩)] := by
      rw [List.take_add_one, hch]; rfl
     have HTK := Lib.hid htk
     generalize leftL ts n i ⟨lo, hi'⟩ = lf at *
     clear hlf hni hch htk hVr hMr hfX1
     obtain ⟨fn, tmps, assign, body, hy, hR⟩ := hY.yield _ ((i : Int), lf) _ wr hJq hPi rfl
     unfold encF at hy
     simp only at hy
     go_upto_region 8 with (fail)
     refine (wpIn_wide (n := 6)).1 ?_
     gi_wp2
     refine hR.mono ?_
     rintro e w5 ⟨rfl, hJ5, hk5⟩
     gi_wp2
     go_wp2_with fail
     refine ⟨⟨i + 1, hlt, rfl, ?_, hkq.trans hk5.k⟩, ?_⟩
     ·rw [HTK.out]; exact hJ5
     ·simp [intOf]; omega
  ·obtain rfl : i = n := by omega
   have hkn : (choicesL ts ws).take i = choicesL ts ws := List.take_of_length_le (by rw [choices_len]; have := HN.out; omega)
   rw [hkn] at hJk
   go_wp2_with fail
   go_end0
   exact ⟨rfl, hJk, hkk⟩
end Go.Proofs.YthenlopnlaiodaaGreatDoor
end

section
namespace Go.Proofs.YthenlopnlaiodaaGreatDoor
open Go.RowKit Go.Shelf
attribute [local go_sem] Oper.semAt_some

section
variable {o : Oper} {a : Act} {w : World} {K : Act → World → Prop} {Q : Exit → Act → World → Prop}
theorem wp_look (m x : Operand) (hop : o.op = .lookup 133 m x false) (b : Nat) (L : List Ent) (k : Int × Int) (hm : a.eval m = .map (some b)) (hx : a.eval x = .agg #[.int .i64 k.1, .int .i64 k.2]) (h : MapC w b L)
  (hK : K (a.put o.dst (.int .i64 (getC L k))) w) : o.wp Tryz.prog a w K Q := by
 have h1 := run_look w b L k h
 unfold keyV at h1
 unfold Oper.wp
 simp [execOp, hop, hm, hx, h1, Result.andThen]
 exact hK
theorem wp_entry (m x : Operand) (hop : o.op = .mapEntry 133 m x) (b : Nat) (L : List Ent) (k : Int × Int) (hm : a.eval m = .map (some b)) (hx : a.eval x = .agg #[.int .i64 k.1, .int .i64 k.2]) (h : MapC w b L)
  (hK : ∀ (j : Nat) (L1 : List Ent) (w' : World), MapC w' b L1 → (∀ k', getC L1 k' = getC L k') → idxC k 0 L1 = some (j, getC L k) → w.grownBy w' (some b) → K (a.put o.dst (.tuple #[.int .i64 (getC L k), .int .i64 j])) w') : o.wp Tryz.prog a w K Q := by
 obtain ⟨j, L1, h1, h2, h3⟩ := run_entry w b L k h
 unfold keyV at h1
 unfold Oper.wp
 simp [execOp, hop, hm, hx, h1, Result.andThen]
 exact hK j L1 _ (h.put L1) h2 h3 (grownBy_putObj' w b _)
theorem wp_estore (m s x : Operand) (hop : o.op = .entryStore 133 m s x) (b : Nat) (L : List Ent) (k : Int × Int) (j : Nat) (v u : Int) (hm : a.eval m = .map (some b)) (hs : a.eval s = .int .i64 j) (hx : a.eval x = .int .i64 u) (h : MapC w b L) (hi : idxC k 0 L = some (j, v))
  (hK : ∀ (L1 : List Ent) (w' : World), MapC w' b L1 → (∀ k', getC L1 k' = if k' = k then u else getC L k') → w.grownBy w' (some b) → K (a.put o.dst undef) w') : o.wp Tryz.prog a w K Q := by
 have h1 := run_estore w b L j u h (by have := (idxC_lt k L 0 j v hi).2; omega)
 unfold Oper.wp
 simp [execOp, hop, hm, hs, hx, h1, Result.andThen]
 exact hK _ _ (h.put _) (getC_set hi) (grownBy_putObj' w b _)
end
def RetCC (w : World) (k a b : Int) (e : Ending) (w' : World) : Prop := e = .returned (.tuple #[.int .i64 a, .int .i64 b, .int .i64 k]) ∧ Below w.heap.size w w'
set_option maxRecDepth 100000 in
set_option maxHeartbeats 8000000 in
theorem Count_none (A N : Option Addr) (wc nc : Nat) (ws : List Wh) (ns : List Note) (w : World) (hf : FindAt w A N ws ns) (hv : FindOk ws ns) (h0 : guessL ws ns = []) :
  Calls Tryz.prog 34 #[.agg #[.slice A ws.length wc, .slice N ns.length nc]] w (RetCC w 7 0 0) := by
 have hb0 := fr_alloc (fr_refl w) (.cells #[.slice A ws.length wc, .slice N ns.length nc] 25)
 replace hf := hf.keep hb0
 have hask := asked_nil A N wc nc ws ns _ hf hv h0
 clear h0
 go_enter Tryz.func34, Tryz.ntmps34
 go_wp2_with fail
 refine hask.mono ?_
 rintro e w1 ⟨rfl, hb1⟩
 go_wp2_with fail
 refine bodyPost_ret (v := .tuple #[.int .i64 0, .int .i64 0, .int .i64 7]) (by simp [results, Tryz.results34, go_sem]) rfl ?_
 exact ⟨rfl, fr_alloc (fr_call hb0 hb1) _⟩
set_option maxRecDepth 100000 in
set_option maxHeartbeats 8000000 in
theorem Count_one (A N : Option Addr) (wc nc : Nat) (ws : List Wh) (ns : List Note) (w : World) (hf : FindAt w A N ws ns) (hv : FindOk ws ns) (h1 : (guessL ws ns).length = 1) :
  Calls Tryz.prog 34 #[.agg #[.slice A ws.length wc, .slice N ns.length nc]] w (RetCC w 5 0 0) := by
 have hb0 := fr_alloc (fr_refl w) (.cells #[.slice A ws.length wc, .slice N ns.length nc] 25)
 replace hf := hf.keep hb0
 have hask := asked_some A N wc nc ws ns _ hf hv (fun e => by rw [e] at h1; cases h1)
 have H1 := Lib.hid h1
 clear h1
 go_enter Tryz.func34, Tryz.ntmps34
 go_wp2_with fail
 refine hask.mono ?_
 rintro e w1 ⟨L, lc, rfl, hL, hb1⟩
 clear hL
 rw [H1.out]
 have hbG := fr_alloc (fr_refl w1) (.cells #[.slice A ws.length wc, .slice N ns.length nc, .slice L 1 lc] 110)
 have hG := Blk.new w1 110 #[.slice A ws.length wc, .slice N ns.length nc, .slice L 1 lc]
 have hcG := fun j => hG.cell j
 go_wp2_with fail
 refine bodyPost_ret (v := .tuple #[.int .i64 0, .int .i64 0, .int .i64 5]) (by simp [results, Tryz.results34, go_sem]) rfl ?_
 exact ⟨rfl, fr_call (fr_call hb0 hb1) hbG⟩
set_option maxRecDepth 100000 in
set_option maxHeartbeats 8000000 in
theorem Count_some (A N : Option Addr) (wc nc : Nat) (ws : List Wh) (ns : List Note) (w : World) (hf : FindAt w A N ws ns) (hv : FindOk ws ns) (ts : List (List Int)) (hts : guessL ws ns = ts) (h2 : 2 ≤ ts.length) :
  Calls Tryz.prog 34 #[.agg #[.slice A ws.length wc, .slice N ns.length nc]] w (RetCC w 0 (countL ts ws).1 (countL ts ws).2) := by
 have hmf : ∀ (fn : Fn) (first cap : Array Value) (w : World), (Instr.makeFunc fn first cap).run Tryz.prog w = .ok (.func fn first cap) w := fun _ _ _ _ => rfl
 have hb0 := fr_alloc (fr_refl w) (.cells #[.slice A ws.length wc, .slice N ns.length nc] 25)
 have hX := Blk.new w 25 #[.slice A ws.length wc, .slice N ns.length nc]
 replace hf := hf.keep hb0
 have hlens := guess_lens (ws := ws) (ns := ns)
 have hmany := guess_many hv
 have hask := asked_some A N wc nc ws ns _ hf hv (fun e => by rw [hts] at e; rw [e] at h2; simp at h2)
 rw [hts] at hask hlens hmany
 have hs6 := hv.six
 have hwh : ∀ s ∈ ws, 4 ≤ s.lo ∧ s.lo ≤ s.hi ∧ s.hi ≤ 60 := fun s hs => ⟨(hv.wh s hs).1, (hv.wh s hs).2.1, (hv.wh s hs).2.2.1⟩
 clear hts
 generalize hnw : ws.length = n at *
 have HNW := Lib.hid hnw
 clear hnw
 obtain ⟨m, hm⟩ : ∃ m, ts.length = m := ⟨_, rfl⟩
 have HM := Lib.hid hm
 rw [hm] at hmany h2
 go_enter Tryz.func34, Tryz.ntmps34
 go_wp2_with fail
 refine hask.mono ?_
 rintro e w1 ⟨L, lc, rfl, hL, hb1⟩
 rw [hm] at hL ⊢
 replace hX := hX.keep hb1
 replace hb0 := fr_call hb0 hb1
 have hT0 := hL.ts
 clear hL hask hm
 have hbG := fr_alloc (fr_refl w1) (.cells #[.slice A n wc, .slice N ns.length nc, .slice L m lc] 110)
 have hG := Blk.new w1 110 #[.slice A n wc, .slice N ns.length nc, .slice L m lc]
 replace hX := hX.keep hbG
 have hT := hT0.keep hbG
 have hf3 := (hf.keep hb1).keep hbG
 replace hb0 := fr_call hb0 hbG
 clear hT0 hf
 have hcG := fun j => hG.cell j
 have hmk : ∀ w, (Instr.makeMap 133 none).run Tryz.prog w = .ok (.map (some w.heap.size)) (w.alloc (.map #[] 0)) := fun w => rfl
 have hne1 : ((m : Int) == 1) = false := beq_eq_false_iff_ne.2 (by omega)
 go_wp2_with fail
 clear hcG
 obtain ⟨w3, hw3⟩ : ∃ w3, w1.alloc (.cells #[.slice A n wc, .slice N ns.length nc, .slice L m lc] 110) = w3 := ⟨_, rfl⟩
 have hs3 : w1.heap.size + 1 = w3.heap.size := by rw [← hw3]; simp
 rw [hw3] at hb0 hG hT hX hf3 ⊢
 have hltG := hG.lt
 rw [hs3]
 clear hw3 hbG hb1
 obtain ⟨bM, hbM⟩ : ∃ bM, w3.heap.size = bM := ⟨_, rfl⟩
 obtain ⟨w4, hw4⟩ : ∃ w4, (w3.alloc (.map #[] 0)).alloc (.cells #[.map (some bM)] 133) = w4 := ⟨_, rfl⟩
 have hM4 : MapC w4 bM [] := by
  rw [← hw4]
  have h1 := World.alloc_heap_new w3 (.map #[] 0)
  rw [hbM] at h1
  exact (Below.heap_alloc _ _ _ (by rw [World.size_alloc, hbM]; exact Nat.lt_succ_self _)).trans h1
 have hV4 : Blk w4 (bM + 1) 133 #[.map (some bM)] := by
  rw [← hw4]; exact Blk.new_at _ _ (by simp [hbM])
 have hb34 : Below w3.heap.size w3 w4 := by rw [← hw4]; exact fr_alloc (fr_alloc (fr_refl _) _) _
 rw [hbM] at hb34 hltG ⊢
 rw [hw4]
 clear hw4
 have hpos : 0 < m := by omega
 generalize w1.heap.size = bg at *
 clear hs3
 go_loopw [30] (fun i wr => ∃ (k : Nat) (E : List Ent), k ≤ m ∧ i = .int .i64 k ∧ MapC wr bM E ∧ CntL (ts.take k) n [] 0 E ∧ Blk wr (bM + 1) 133 #[.map (some bM)] ∧ Below bM w3 wr) (fun i _ => m - (intOf i).toNat)
 case atStart => exact ⟨0, [], Nat.zero_le _, rfl, hM4, CntL.start _ _, hV4, hb34⟩
 case round =>
  obtain ⟨k, E, hk, rfl, hMr, hCr, hVr, hbr⟩ := hrel
  clear hM4 hV4 hb34
  by_cases hlt : k < m
  ·have hkl : k < ts.length := by rw [HM.out]; exact hlt
   obtain ⟨ad, C, cc, rfl, hab, hc0, hr0⟩ := hT.at_ hkl
   have hlk := hlens _ (List.getElem_mem hkl)
   have htk : ts.take (k + 1) = ts.take k ++ [ts[k]] := List.take_succ_eq_append_getElem hkl
   have HTK := Lib.hid htk
   rw [hlk] at hc0 hr0
   have hca := (hbr.cell (p := ad.add k) (by rw [block_of_add]; omega)).trans hc0
   have hlt2 : (ts.take k).length ≤ 46656 := by rw [List.length_take]; omega
   clear hc0 htk hlk
   generalize ts[k] = t at *
   generalize ts.take k = tk at *
   go_wp2_with fail
   go_loopw [36] (fun i wq => ∃ (j : Nat) (E : List Ent), j ≤ n ∧ i = .int .i64 j ∧ MapC wq bM E ∧ CntL tk n t j E ∧ Blk wq (bM + 1) 133 #[.map (some bM)] ∧ Below bM w3 wq) (fun i _ => n - (intOf i).toNat)
   case atStart => exact ⟨0, E, Nat.zero_le _, rfl, hMr, fun k => by rw [hCr k, tallyJ_zero, tallyJ_zero], hVr, hbr⟩
   case round =>
    obtain ⟨j, F, hj, rfl, hMq, hCq, hVq, hbq⟩ := hrel
    clear hMr hCr hVr hbr hca
    by_cases hjl : j < n
    ·obtain ⟨ae, rfl, hae, hcx0⟩ := hr0.at_ hjl
     have hcx := (hbq.cell (p := ae.add j) (by rw [block_of_add]; omega)).trans hcx0
     have hcv := hVq.cell 0
     have hgt := hCq ((j : Int), t[j]?.getD 0)
     have hb1 := tally_bd tk n ((j : Int), t[j]?.getD 0)
     have hb2 := tallyJ_bd t j ((j : Int), t[j]?.getD 0)
     have HCQ := Lib.hid hCq
     generalize hx : t[j]?.getD 0 = x at *
     obtain ⟨v, hv'⟩ : ∃ v, getC F ((j : Int), x) = v := ⟨_, rfl⟩
     have hv0 : 0 ≤ v ∧ v ≤ 100000 := by omega
     have HV := Lib.hid hv'
     have HX := Lib.hid hx
     clear hcx0 hgt hb1 hb2 hCq hv' hx hr0
     have hwr : IntKind.i64.wrap (v + 1) = v + 1 := IntWalk.i64_in _ (by omega)
     go_wp2_with fail
     refine wp_region_noPanic ?_
     refine wp_region_held_drew (S := fun W => W.cell? ⟨bM + 1, 0, none⟩ = some (.map (some bM))) (by kernel_rfl) hcv (fun hHeld => ?_)
     have hMz : MapC (World.drew _) bM F := hMq
     have hVz := hVq.drew
     have hbz : Below bM w3 (World.drew wr) := ⟨hbq.os, hbq.tape, hbq.output, hbq.size, hbq.block⟩
     obtain ⟨wz, hwz⟩ : ∃ wz, World.drew wr = wz := ⟨_, rfl⟩
     rw [hwz] at hMz hVz hbz hHeld ⊢
     have hgv : getC F ((j : Int), x) = v := HV.out
     clear hMq hVq hbq hwz hcx hcv
     -- the region, step by step, in whatever order
     refine wpAnyH_take (i := 0) (oi := ⟨some 41, .load 133 (.tmp 7), 133, "guess.go:357", #[], none⟩) (v := ?_) rfl (by kernel_rfl) (by kernel_rfl) (by kernel_rfl) (fun _ _ _ h => h) (Or.inl ⟨by rfl, fun W hSw => ?_⟩) hHeld ?_
     rotate_left
     ·(try dsimp only at hSw); go_simp; (try with_reducible rfl)
     (try simp only [Act.put, List.setIfInBounds_toArray, List.set_cons_zero, List.set_cons_succ])
     refine wpAnyH_take (i := 1) (oi := ⟨some 42, .move (.tmp 10), 3, "guess.go:357", #[], none⟩) (v := ?_) rfl (by kernel_rfl) (by kernel_rfl) (by kernel_rfl) (fun _ _ _ h => h) (Or.inl ⟨by rfl, fun W hSw => ?_⟩) hHeld ?_
     rotate_left
     ·(try dsimp only at hSw); go_simp; (try with_reducible rfl)
     (try simp only [Act.put, List.setIfInBounds_toArray, List.set_cons_zero, List.set_cons_succ])
     refine wpAnyH_take (i := 2) (oi := ⟨some 43, .move (.tmp 11), 3, "guess.go:357", #[], none⟩) (v := ?_) rfl (by kernel_rfl) (by kernel_rfl) (by kernel_rfl) (fun _ _ _ h => h) (Or.inl ⟨by rfl, fun W hSw => ?_⟩) hHeld ?_
     rotate_left
     ·(try dsimp only at hSw); go_simp; (try with_reducible rfl)
     (try simp only [Act.put, List.setIfInBounds_toArray, List.set_cons_zero, List.set_cons_succ])
     refine wpAnyH_take (i := 3) (oi := ⟨some 44, .build 135 #[(0, .tmp 42), (1, .tmp 43)], 135, "guess.go:357", #[⟨1, .data⟩, ⟨2, .data⟩], none⟩) (v := ?_) rfl (by kernel_rfl) (by kernel_rfl) (by kernel_rfl) (fun _ _ _ h => h) (Or.inl ⟨by rfl, fun W hSw => ?_⟩) hHeld ?_
     rotate_left
     ·(try dsimp only at hSw); go_simp; (try with_reducible rfl)
     (try simp only [Act.put, List.setIfInBounds_toArray, List.set_cons_zero, List.set_cons_succ])
     refine wpAnyH_ready (rs := [4, 6]) (by kernel_rfl) (by simp) ?_
     refine (AllReadyH.cons (o := ⟨some 45, .lookup 133 (.tmp 41) (.tmp 44) false, 3, "guess.go:357", #[⟨0, .data⟩, ⟨3, .data⟩], none⟩) rfl (fun K hK => ?_) (AllReadyH.cons (o := ⟨some 47, .mapEntry 133 (.tmp 41) (.tmp 44), 0, "guess.go:357", #[⟨0, .data⟩, ⟨3, .data⟩, ⟨0, .phase⟩, ⟨1, .phase⟩, ⟨2, .phase⟩, ⟨3, .phase⟩, ⟨4, .textOnly .mapOpAssignEntry⟩, ⟨5, .textOnly .mapOpAssignEntry⟩], none⟩) rfl (fun K hK => ?_) AllReadyH.nil))
     ·rw [if_pos (by rfl)]
      refine wp_look (.tmp 41) (.tmp 44) rfl bM _ ((j : Int), x) rfl rfl hMz ?_
      rw [hgv]
      refine hK.out _ _ (hVz.cell 0) (fun hHeld => ?_)
      clear hK K
      (try simp only [Act.put, List.setIfInBounds_toArray, List.set_cons_zero, List.set_cons_succ])
      refine wpAnyH_take (i := 5) (oi := ⟨some 46, .binOp .add 3 (.tmp 45) (.const (.int .i64 1)) 3, 3, "guess.go:357", #[⟨4, .data⟩], none⟩) (v := ?_) rfl (by kernel_rfl) (by kernel_rfl) (by kernel_rfl) (fun _ _ _ h => h) (Or.inl ⟨by rfl, fun W hSw => ?_⟩) hHeld ?_
      rotate_left
      ·(try dsimp only at hSw); go_simp; (try with_reducible rfl)
      (try simp only [Act.put, List.setIfInBounds_toArray, List.set_cons_zero, List.set_cons_succ])
      refine wpAnyH_ready (rs := [6]) (by kernel_rfl) (by simp) ?_
      refine (AllReadyH.cons (o := ⟨some 47, .mapEntry 133 (.tmp 41) (.tmp 44), 0, "guess.go:357", #[⟨0, .data⟩, ⟨3, .data⟩, ⟨0, .phase⟩, ⟨1, .phase⟩, ⟨2, .phase⟩, ⟨3, .phase⟩, ⟨4, .textOnly .mapOpAssignEntry⟩, ⟨5, .textOnly .mapOpAssignEntry⟩], none⟩) rfl (fun K hK => ?_) AllReadyH.nil)
      rw [if_pos (by rfl)]
      refine wp_entry (.tmp 41) (.tmp 44) rfl bM _ ((j : Int), x) rfl rfl hMz ?_
      intro st E1 wz hMz hg1 hi1 hgr1
      rw [hgv]
      replace hgv := (hg1 ((j : Int), x)).trans hgv
      replace hVz := hVz.grown hgr1 (by simp)
      replace hbz := hbz.grown hgr1 (by first | omega | (have := hbz.size; omega)) (by intro i hi; cases hi; exact Nat.le_refl _)
      refine hK.out _ _ (hVz.cell 0) (fun hHeld => ?_)
      clear hK K
      (try simp only [Act.put, List.setIfInBounds_toArray, List.set_cons_zero, List.set_cons_succ])
      refine wpAnyH_take (i := 7) (oi := ⟨some 48, .extract (.tmp 47) 1, 3, "guess.go:357", #[⟨6, .data⟩], none⟩) (v := ?_) rfl (by kernel_rfl) (by kernel_rfl) (by kernel_rfl) (fun _ _ _ h => h) (Or.inl ⟨by rfl, fun W hSw => ?_⟩) hHeld ?_
      rotate_left
      ·(try dsimp only at hSw); go_simp; (try with_reducible rfl)
      (try simp only [Act.put, List.setIfInBounds_toArray, List.set_cons_zero, List.set_cons_succ])
      refine wpAnyH_ready (rs := [8]) (by kernel_rfl) (by simp) ?_
      refine (AllReadyH.cons (o := ⟨none, .entryStore 133 (.tmp 41) (.tmp 48) (.tmp 46), 0, "guess.go:357", #[⟨0, .data⟩, ⟨7, .data⟩, ⟨5, .data⟩, ⟨6, .chain⟩, ⟨0, .phase⟩, ⟨1, .phase⟩, ⟨2, .phase⟩, ⟨3, .phase⟩, ⟨4, .phase⟩, ⟨5, .phase⟩, ⟨6, .phase⟩, ⟨7, .phase⟩], none⟩) rfl (fun K hK => ?_) AllReadyH.nil)
      rw [if_pos (by rfl)]
      refine wp_estore (.tmp 41) (.tmp 48) (.tmp 46) rfl bM E1 ((j : Int), x) st _ (v + 1) rfl rfl rfl hMz hi1 ?_
      intro F2 wz hMf hg2 hgr2
      have hVf := hVz.grown hgr2 (by simp)
      have hbf := hbz.grown hgr2 (by first | omega | (have := hbz.size; omega)) (by intro i hi; cases hi; exact Nat.le_refl _)
      refine hK.out _ _ (hVf.cell 0) (fun hHeld => ?_)
      clear hK K
      refine wpAnyH_done (by kernel_rfl) ?_ _
      refine NoPanic.normal ?_
      go_wp2_with fail
      refine ⟨⟨j + 1, F2, hjl, rfl, hMf, ?_, hVf, hbf⟩, ?_⟩
      ·refine HCQ.out.step (fun k' => ?_)
       rw [hg2 k', hg1 k', HX.out]
       split
       ·rename_i e; rw [e, HV.out]
       ·rfl
      ·simp [intOf]; omega
     ·rw [if_pos (by rfl)]
      refine wp_entry (.tmp 41) (.tmp 44) rfl bM _ ((j : Int), x) rfl rfl hMz ?_
      intro st E1 wz hMz hg1 hi1 hgr1
      rw [hgv]
      replace hgv := (hg1 ((j : Int), x)).trans hgv
      replace hVz := hVz.grown hgr1 (by simp)
      replace hbz := hbz.grown hgr1 (by first | omega | (have := hbz.size; omega)) (by intro i hi; cases hi; exact Nat.le_refl _)
      refine hK.out _ _ (hVz.cell 0) (fun hHeld => ?_)
      clear hK K
      (try simp only [Act.put, List.setIfInBounds_toArray, List.set_cons_zero, List.set_cons_succ])
      refine wpAnyH_take (i := 7) (oi := ⟨some 48, .extract (.tmp 47) 1, 3, "guess.go:357", #[⟨6, .data⟩], none⟩) (v := ?_) rfl (by kernel_rfl) (by kernel_rfl) (by kernel_rfl) (fun _ _ _ h => h) (Or.inl ⟨by rfl, fun W hSw => ?_⟩) hHeld ?_
      rotate_left
      ·(try dsimp only at hSw); go_simp; (try with_reducible rfl)
      (try simp only [Act.put, List.setIfInBounds_toArray, List.set_cons_zero, List.set_cons_succ])
      refine wpAnyH_ready (rs := [4]) (by kernel_rfl) (by simp) ?_
      refine (AllReadyH.cons (o := ⟨some 45, .lookup 133 (.tmp 41) (.tmp 44) false, 3, "guess.go:357", #[⟨0, .data⟩, ⟨3, .data⟩], none⟩) rfl (fun K hK => ?_) AllReadyH.nil)
      rw [if_pos (by rfl)]
      refine wp_look (.tmp 41) (.tmp 44) rfl bM _ ((j : Int), x) rfl rfl hMz ?_
      rw [hgv]
      refine hK.out _ _ (hVz.cell 0) (fun hHeld => ?_)
      clear hK K
      (try simp only [Act.put, List.setIfInBounds_toArray, List.set_cons_zero, List.set_cons_succ])
      refine wpAnyH_take (i := 5) (oi := ⟨some 46, .binOp .add 3 (.tmp 45) (.const (.int .i64 1)) 3, 3, "guess.go:357", #[⟨4, .data⟩], none⟩) (v := ?_) rfl (by kernel_rfl) (by kernel_rfl) (by kernel_rfl) (fun _ _ _ h => h) (Or.inl ⟨by rfl, fun W hSw => ?_⟩) hHeld ?_
      rotate_left
      ·(try dsimp only at hSw); go_simp; (try with_reducible rfl)
      (try simp only [Act.put, List.setIfInBounds_toArray, List.set_cons_zero, List.set_cons_succ])
      refine wpAnyH_ready (rs := [8]) (by kernel_rfl) (by simp) ?_
      refine (AllReadyH.cons (o := ⟨none, .entryStore 133 (.tmp 41) (.tmp 48) (.tmp 46), 0, "guess.go:357", #[⟨0, .data⟩, ⟨7, .data⟩, ⟨5, .data⟩, ⟨6, .chain⟩, ⟨0, .phase⟩, ⟨1, .phase⟩, ⟨2, .phase⟩, ⟨3, .phase⟩, ⟨4, .phase⟩, ⟨5, .phase⟩, ⟨6, .phase⟩, ⟨7, .phase⟩], none⟩) rfl (fun K hK => ?_) AllReadyH.nil)
      rw [if_pos (by rfl)]
      refine wp_estore (.tmp 41) (.tmp 48) (.tmp 46) rfl bM E1 ((j : Int), x) st _ (v + 1) rfl rfl rfl hMz hi1 ?_
      intro F2 wz hMf hg2 hgr2
      have hVf := hVz.grown hgr2 (by simp)
      have hbf := hbz.grown hgr2 (by first | omega | (have := hbz.size; omega)) (by intro i hi; cases hi; exact Nat.le_refl _)
      refine hK.out _ _ (hVf.cell 0) (fun hHeld => ?_)
      clear hK K
      refine wpAnyH_done (by kernel_rfl) ?_ _
      refine NoPanic.normal ?_
      go_wp2_with fail
      refine ⟨⟨j + 1, F2, hjl, rfl, hMf, ?_, hVf, hbf⟩, ?_⟩
      ·refine HCQ.out.step (fun k' => ?_)
       rw [hg2 k', hg1 k', HX.out]
       split
       ·rename_i e; rw [e, HV.out]
       ·rfl
      ·simp [intOf]; omega
    ·obtain rfl : j = n := by omega
     go_wp2_with fail
     refine ⟨⟨k + 1, F, hlt, rfl, hMq, ?_, hVq, hbq⟩, ?_⟩
     ·rw [HTK.out]; exact hCq.end_
     ·simp [intOf]; omega
  ·obtain rfl : k = m := by omega
   have htk : ts.take k = ts := List.take_of_length_le (by rw [HM.out]; exact Nat.le_refl _)
   have hE : ∀ q, getC E q = tally ts n q := fun q => by
    have := hCr q
    rw [htk, tallyJ_zero] at this
    omega
   have hb3r : Below w3.heap.size w3 wr := by rw [hbM]; exact hbr
   have hXr := hX.keep hb3r
   have hit := Count1_any A N w.heap.size (bM + 1) bM wc ns.length nc n ws ts E wr hXr ((hf3.ws.keep hb3r)) hVr hMr hE HNW.out hs6 hwh (by rw [HM.out]; omega)
   have hbw := fr_call hb0 hb3r
   clear hT hCr htk hE hMr
   go_wp2_with fail
   refine (best_choice (.pointer (some ⟨w.heap.size, 0, none⟩)) (.pointer (some ⟨bM + 1, 0, none⟩)) (fun _ => True) ltLeft (bet_left _) (choicesL ts ws) (fun _ _ => trivial) wr hit).mono ?_
   rintro e w5 ⟨rfl, hb5⟩
   have hcl : countL ts ws = (bestL ltLeft (choicesL ts ws)).getD (0, 0) := rfl
   have HCL := Lib.hid hcl
   clear hcl
   generalize (bestL ltLeft (choicesL ts ws)).getD (0, 0) = q at *
   obtain ⟨q1, q2⟩ := q
   have hb6 := fr_call (fr_call hbw hb5) (fr_alloc (fr_refl w5) (.cells #[.int .i64 q1, .int .i64 q2] 138))
   have hQ := Blk.new w5 138 #[.int .i64 q1, .int .i64 q2]
   have hcQ := fun j => hQ.cell j
   simp only
   go_wp2_with fail
   go_quiet (fail)
   go_wp2_with fail
   refine bodyPost_ret (v := .tuple #[.int .i64 q1, .int .i64 q2, .int .i64 0]) (by simp [results, Tryz.results34, go_sem]) rfl ?_
   rw [HCL.out]
   exact ⟨rfl, hb6.os, hb6.tape, hb6.output, hb6.size, hb6.block⟩
end Go.Proofs.YthenlopnlaiodaaGreatDoor
end

section
namespace Go.Proofs.YthenlopnlaiodaaGreatDoor
open Go.RowKit Go.Shelf

def wsF : List Wh := [⟨10, 12⟩, ⟨30, 32⟩, ⟨8, 8⟩, ⟨20, 24⟩]
def nsF : List Note := [⟨2, 0, 0, 42, 42, 0, 0, 0, 0⟩, ⟨3, 0, 1, 0, 0, 1, 8, 2, 15⟩]
def nsG : List Note := nsF ++ [⟨5, 3, 4, 0, 0, 0, 0, 0, 0⟩]
def nsH : List Note := nsF ++ [⟨4, 0, 2, 0, 0, 0, 0, 0, 0⟩]
def tsF : List (List Int) := [[10, 32, 8, 20], [11, 31, 8, 22], [12, 30, 8, 24]]
def tsG : List (List Int) := [[10, 32, 8, 20], [12, 30, 8, 24]]
theorem okF : FindOk wsF nsF := find_ok (by kernel_rfl)
theorem okG : FindOk wsF nsG := find_ok (by kernel_rfl)
theorem okH : FindOk wsF nsH := find_ok (by kernel_rfl)
theorem gsF : guessL wsF nsF = tsF := by kernel_rfl
theorem gsG : guessL wsF nsG = tsG := by kernel_rfl
theorem dbH : doubtsL wsF nsH = [2] := by kernel_rfl
theorem knF : knownL tsF 4 = wsF := by kernel_rfl
theorem ctF : countL tsF wsF = (0, 1) := by kernel_rfl
theorem alF : alikeL tsF tsG = (1, 4) := by kernel_rfl
theorem srF : sureN (1, 8) tsF = 2 := by kernel_rfl
theorem loF : lowOf tsF = (1, 8) := by kernel_rfl
theorem hiF : highOf tsF = (2, 15) := by kernel_rfl
theorem neG : nearL (1, 9) tsG = [⟨10, 32⟩, ⟨8, 20⟩] := by kernel_rfl
theorem brF : breaksL nsF (teethL [⟨10, 30⟩, ⟨8, 20⟩]) = [0] := by kernel_rfl
theorem psF : tsF.map pairsOf = [[⟨10, 32⟩, ⟨8, 20⟩], [⟨11, 31⟩, ⟨8, 22⟩], [⟨12, 30⟩, ⟨8, 24⟩]] := by kernel_rfl
def knB : List UInt8 := [102, 105, 110, 100, 32, 50, 10, 119, 104, 101, 101, 108, 32, 52, 32, 52, 10, 119, 104, 101, 101, 108, 32, 52, 32, 52, 10, 115, 97, 109, 101, 32, 48, 32, 49, 10, 101, 110, 100, 32, 48, 53, 48, 10]
def wsK : List Wh := [⟨4, 4⟩, ⟨4, 4⟩]
def nsK : List Note := [⟨4, 0, 1, 0, 0, 0, 0, 0, 0⟩]
theorem okK : FindOk wsK nsK := find_ok (by kernel_rfl)
theorem txK : findText wsK nsK = knB := by decide +kernel
theorem rdK : gread knB = some (wsK, nsK) := by
 rw [← txK]
 refine gread_text ⟨fun s hs => ?_, fun n hn => ?_⟩
 ·have : s = ⟨4, 4⟩ := by simpa [wsK] using hs
  rw [this]; unfold WhSm Sm; decide
 ·have : n = ⟨4, 0, 1, 0, 0, 0, 0, 0, 0⟩ := by simpa [nsK] using hn
  rw [this]; unfold NoteSm Sm; decide
end Go.Proofs.YthenlopnlaiodaaGreatDoor
end

section
namespace Go.Proofs.YthenlopnlaiodaaGreatDoor
open Go.RowKit Go.Shelf

set_option maxHeartbeats 1000000 in
theorem span_any (x y : Int) (w : World) : Calls Tryz.prog 36 #[.int .i64 x, .int .i64 y] w fun e w' => e = .returned (.agg #[.int .i64 x, .int .i64 y]) ∧ Below w.heap.size w w' := by
 go_enter Tryz.func36, Tryz.ntmps36
 go_wp2
 refine bodyPost_ret (v := .agg #[.int .i64 x, .int .i64 y]) (by simp [results, Tryz.results36, go_sem]) rfl ⟨rfl, ?_⟩
 exact fr_alloc (fr_refl _) _
set_option maxHeartbeats 1000000 in
theorem by_any (x y : Int) (w : World) : Calls Tryz.prog 55 #[.int .i64 x, .int .i64 y] w fun e w' => e = .returned (.agg #[.int .i64 x, .int .i64 y]) ∧ Below w.heap.size w w' := by
 go_enter Tryz.func55, Tryz.ntmps55
 go_wp2
 refine bodyPost_ret (v := .agg #[.int .i64 x, .int .i64 y]) (by simp [results, Tryz.results55, go_sem]) rfl ⟨rfl, ?_⟩
 exact fr_alloc (fr_refl _) _
theorem ownS_blk {w : World} {base g k n : Nat} {E : TypeId} {rows : List (List Value)} (h : Blk w g E rows.flatten.toArray) (hk : ∀ r ∈ rows, r.length = k) (hn : rows.length = n) (hn2 : n ≤ 1000) (hb : base ≤ g) (hk2 : k ≤ 1000) : OwnS w base E k (.slice (some ⟨g, 0, none⟩) n n) rows := by
 subst hn
 have hl := flat_len hk
 have hm : rows.length * k ≤ 1000 * 1000 := Nat.mul_le_mul hn2 hk2
 exact ⟨⟨hl, Or.inr ⟨g, rows.length, _, rfl, hb, h, Nat.le_refl _, by unfold maxLen; omega, by simp [hl], by rw [List.take_of_length_le (by simp [hl])]⟩⟩, hk⟩
/-- a find of the laws' own: its rows are the call's own -/
def RetF1 (w : World) (ws : List Wh) (ns : List Note) (e : Ending) (w' : World) : Prop := ∃ g1 g2 c m, e = .returned (.agg #[.slice (some ⟨g1, 0, none⟩) ws.length c, .slice (some ⟨g2, 0, none⟩) ns.length m]) ∧ FindAt w' (some ⟨g1, 0, none⟩) (some ⟨g2, 0, none⟩) ws ns ∧ OwnS w' w.heap.size 61 9 (.slice (some ⟨g2, 0, none⟩) ns.length m) (ns.map Note.cells) ∧ (w.heap.size < g1 ∧ w.heap.size < g2 ∧ ∃ cs, Blk w' g1 47 cs) ∧ Below w.heap.size w w'
set_option maxRecDepth 100000 in
set_option maxHeartbeats 4000000 in
theorem F_any (w : World) : Calls Tryz.prog 51 #[] w (RetF1 w wsF nsF) := by
 have hf := fr_alloc (fr_refl w) (.cells #[.slice none 0 0, .slice none 0 0] 25)
 have hR := Blk.new w 25 #[.slice none 0 0, .slice none 0 0]
 go_enter Tryz.func51, Tryz.ntmps51
 go_wp2_with fail
 refine (span_any _ _ _).mono ?_
 rintro e w1 ⟨rfl, hb⟩
 replace hf := fr_call hf hb; replace hR := hR.keep hb; clear hb
 go_wp2_with fail
 refine (span_any _ _ _).mono ?_
 rintro e w2 ⟨rfl, hb⟩
 replace hf := fr_call hf hb; replace hR := hR.keep hb; clear hb
 go_wp2_with fail
 refine (span_any _ _ _).mono ?_
 rintro e w3 ⟨rfl, hb⟩
 replace hf := fr_call hf hb; replace hR := hR.keep hb; clear hb
 go_wp2_with fail
 refine (span_any _ _ _).mono ?_
 rintro e w4 ⟨rfl, hb⟩
 replace hf := fr_call hf hb; replace hR := hR.keep hb; clear hb
 have hg1 := hR.lt
 have hA := Blk.new w4 47 #[.int .i64 10, .int .i64 12, .int .i64 30, .int .i64 32, .int .i64 8, .int .i64 8, .int .i64 20, .int .i64 24]
 replace hf := fr_alloc hf (.cells #[.int .i64 10, .int .i64 12, .int .i64 30, .int .i64 32, .int .i64 8, .int .i64 8, .int .i64 20, .int .i64 24] 47)
 replace hR := hR.alloc (.cells #[.int .i64 10, .int .i64 12, .int .i64 30, .int .i64 32, .int .i64 8, .int .i64 8, .int .i64 20, .int .i64 24] 47)
 go_wp2_with fail
 refine (by_any _ _ _).mono ?_
 rintro e w5 ⟨rfl, hb⟩
 replace hf := fr_call hf hb; replace hR := hR.keep hb; replace hA := hA.keep hb; clear hb
 go_wp2_with fail
 refine (by_any _ _ _).mono ?_
 rintro e w6 ⟨rfl, hb⟩
 replace hf := fr_call hf hb; replace hR := hR.keep hb; replace hA := hA.keep hb; clear hb
 have hg2 := hR.lt
 have hg3 := hA.lt
 have hN := Blk.new w6 61 #[.int .i64 2, .int .i64 0, .int .i64 0, .int .i64 42, .int .i64 42, .int .i64 0, .int .i64 0, .int .i64 0, .int .i64 0, .int .i64 3, .int .i64 0, .int .i64 1, .int .i64 0, .int .i64 0, .int .i64 1, .int .i64 8, .int .i64 2, .int .i64 15]
 replace hf := fr_alloc hf (.cells #[.int .i64 2, .int .i64 0, .int .i64 0, .int .i64 42, .int .i64 42, .int .i64 0, .int .i64 0, .int .i64 0, .int .i64 0, .int .i64 3, .int .i64 0, .int .i64 1, .int .i64 0, .int .i64 0, .int .i64 1, .int .i64 8, .int .i64 2, .int .i64 15] 61)
 replace hR := hR.alloc (.cells #[.int .i64 2, .int .i64 0, .int .i64 0, .int .i64 42, .int .i64 42, .int .i64 0, .int .i64 0, .int .i64 0, .int .i64 0, .int .i64 3, .int .i64 0, .int .i64 1, .int .i64 0, .int .i64 0, .int .i64 1, .int .i64 8, .int .i64 2, .int .i64 15] 61)
 replace hA := hA.alloc (.cells #[.int .i64 2, .int .i64 0, .int .i64 0, .int .i64 42, .int .i64 42, .int .i64 0, .int .i64 0, .int .i64 0, .int .i64 0, .int .i64 3, .int .i64 0, .int .i64 1, .int .i64 0, .int .i64 0, .int .i64 1, .int .i64 8, .int .i64 2, .int .i64 15] 61)
 go_wp2_with (refine wpList_store_blk rfl 25 _ _ rfl w.heap.size 25 _ #[.slice (some ⟨w4.heap.size, 0, none⟩) 4 4, .slice (some ⟨w6.heap.size, 0, none⟩) 2 2] rfl rfl hR rfl (by kernel_rfl) (by simp [Value.oneCell']) ?_; intro W hW hgW)
 have hA2 := hA.grown hgW (by intro e; injection e with e; omega)
 have hN2 := hN.grown hgW (by intro e; injection e with e; omega)
 have hcl := by
  have := hf.grown hgW hf.size (by intro k hk; cases hk; exact Nat.le_refl _)
  exact this
 have hOA := ownS_blk (base := w.heap.size) (k := 2) (n := 4) (rows := wsF.map Wh.cells) hA2 (by simp [wsF, Wh.cells]) rfl (by omega) (by omega) (by omega)
 have hON := ownS_blk (base := w.heap.size) (k := 9) (n := 2) (rows := nsF.map Note.cells) hN2 (by simp [nsF, Note.cells]) rfl (by omega) (by omega) (by omega)
 refine bodyPost_ret (results_blk1 rfl _ _ _ _ rfl hW Tryz.underlying25 rfl (by kernel_rfl)) rfl ⟨w4.heap.size, w6.heap.size, 4, 2, rfl, ⟨hOA.rd, hON.rd⟩, hON, ⟨hg1, by omega, _, hA2⟩, hcl⟩
end Go.Proofs.YthenlopnlaiodaaGreatDoor
end

section
namespace Go.Proofs.YthenlopnlaiodaaGreatDoor
open Go.RowKit Go.Shelf

/-- the library's table of powers of ten is as its text lays it -/
def TabP (w : World) : Prop := Lib.TabIs Tryz.prog w "internal/strconv.uint64pow10" .u64 Lib.pow10Tab
theorem TabP.keep {w w' : World} (h : TabP w) (hb : Below w.heap.size w w') : TabP w' := by
 unfold TabP Lib.TabIs World.var? at h ⊢
 cases hg : Tryz.prog.globalNamed "internal/strconv.uint64pow10" with
 | none => rw [hg] at h; cases h
 | some g =>
  rw [hg] at h
  simp only [Option.bind_some] at h ⊢
  have hlt : g < w.heap.size := by
   rcases Nat.lt_or_ge g w.heap.size with h' | h'
   ·exact h'
   ·rw [Array.getElem?_eq_none h'] at h; cases h
  rw [hb.block g hlt]
  exact h
theorem grow_fr (w : World) (k : Nat) (os : Array Obj) : Below w.heap.size w (Go.Sort.grow (w.drewN k) os) := by
 refine ⟨rfl, rfl, rfl, ?_, ?_⟩
 ·simp [Go.Sort.grow, World.drewN]
 ·intro i hi
  simp only [Go.Sort.grow, World.drewN]
  rw [Array.getElem?_append_left (by simpa using hi)]
theorem itoa_any (n : Int) (w : World) (h0 : 0 ≤ n) (h1 : n ≤ 9000000000000000000) (hT : TabP w) :
  Calls Tryz.prog 152 #[.int .i64 n] w fun e w' => e = .returned (.string ⟨(Lib.itoa n).toArray⟩) ∧ Below w.heap.size w w' :=
 (Tryz.strconv_Itoa n (by omega) (by omega) w hT).mono (fun e w' ⟨he, k, os, hw⟩ => ⟨he, by rw [hw]; exact grow_fr w k os⟩)
theorem itoa_len (n : Int) (h0 : 0 ≤ n) (h1 : n ≤ 1000000) : (Lib.itoa n).length ≤ 7 := by
 rw [itoa_dec h0]
 exact dec_len 7 _ (by omega) (by omega)
def wordsV : Value := .agg #[.string ⟨#[102, 105, 110, 100]⟩, .string ⟨#[119, 104, 101, 101, 108]⟩, .string ⟨#[97, 114, 99]⟩, .string ⟨#[115, 117, 109]⟩, .string ⟨#[114, 97, 116, 105, 111]⟩, .string ⟨#[115, 97, 109, 101]⟩, .string ⟨#[112, 97, 114, 116]⟩]
set_option maxRecDepth 100000 in
set_option maxHeartbeats 2000000 in
theorem words_is (w : World) : Calls Tryz.prog 148 #[] w fun e w' => e = .returned wordsV ∧ Below w.heap.size w w' := by
 go_enter Tryz.func148, Tryz.ntmps148
 go_wp2_with fail
 have hB := Blk.new w 186 #[.string ⟨#[102, 105, 110, 100]⟩, .string ⟨#[119, 104, 101, 101, 108]⟩, .string ⟨#[97, 114, 99]⟩, .string ⟨#[115, 117, 109]⟩, .string ⟨#[114, 97, 116, 105, 111]⟩, .string ⟨#[115, 97, 109, 101]⟩, .string ⟨#[112, 97, 114, 116]⟩]
 refine bodyPost_ret (results_blk1 rfl _ _ _ _ rfl hB Tryz.underlying186 rfl (by kernel_rfl)) rfl ⟨rfl, fr_alloc (fr_refl _) _⟩
theorem word_ix0 (w : World) : (Instr.index 186 wordsV (.int .i64 0)).run Tryz.prog w = .ok (.string ⟨(wordG 0).toArray⟩) w := by kernel_rfl
theorem word_ix1 (w : World) : (Instr.index 186 wordsV (.int .i64 1)).run Tryz.prog w = .ok (.string ⟨(wordG 1).toArray⟩) w := by kernel_rfl
theorem word_ix2 (w : World) : (Instr.index 186 wordsV (.int .i64 2)).run Tryz.prog w = .ok (.string ⟨(wordG 2).toArray⟩) w := by kernel_rfl
theorem word_ix3 (w : World) : (Instr.index 186 wordsV (.int .i64 3)).run Tryz.prog w = .ok (.string ⟨(wordG 3).toArray⟩) w := by kernel_rfl
theorem word_ix4 (w : World) : (Instr.index 186 wordsV (.int .i64 4)).run Tryz.prog w = .ok (.string ⟨(wordG 4).toArray⟩) w := by kernel_rfl
theorem word_ix5 (w : World) : (Instr.index 186 wordsV (.int .i64 5)).run Tryz.prog w = .ok (.string ⟨(wordG 5).toArray⟩) w := by kernel_rfl
theorem word_ix6 (w : World) : (Instr.index 186 wordsV (.int .i64 6)).run Tryz.prog w = .ok (.string ⟨(wordG 6).toArray⟩) w := by kernel_rfl
theorem word_ix (k : Nat) (hk : k < 7) (w : World) : (Instr.index 186 wordsV (.int .i64 (k : Int))).run Tryz.prog w = .ok (.string ⟨(wordG k).toArray⟩) w := by
 have h7 : k = 0 ∨ k = 1 ∨ k = 2 ∨ k = 3 ∨ k = 4 ∨ k = 5 ∨ k = 6 := by omega
 rcases h7 with rfl | rfl | rfl | rfl | rfl | rfl | rfl
 ·exact word_ix0 w
 ·exact word_ix1 w
 ·exact word_ix2 w
 ·exact word_ix3 w
 ·exact word_ix4 w
 ·exact word_ix5 w
 ·exact word_ix6 w
theorem ret_own (w w' : World) (g : Nat) (xs : List Int) (h : w.heap.size ≤ g) (hB : Blk w' g 3 (xs.map (Value.int .i64)).toArray) (hb : Below w.heap.size w w') (hn : xs.length ≤ 100) : RetO w xs (.returned (.slice (some ⟨g, 0, none⟩) xs.length xs.length)) w' :=
 ⟨_, _, rfl, ⟨by simp, Or.inr ⟨g, xs.length, _, rfl, h, hB, Nat.le_refl _, by unfold maxLen; omega, by simp, by simp only [Nat.mul_one]; exact List.take_of_length_le (by simp)⟩⟩, hb⟩
set_option maxHeartbeats 2000000 in
theorem numbers_head (n : Int) (w : World) : Calls Tryz.prog 235 #[.agg #[.int .i64 n]] w (RetO w [n]) := by
 go_enter Tryz.func235, Tryz.ntmps235
 go_wp2_with fail
 go_ret
 exact ret_own w _ (w.heap.size + 1) [n] (Nat.le_succ _) (Blk.new_at _ _ (by simp)) (fr_alloc (fr_alloc (fr_refl _) _) _) (by simp)
set_option maxHeartbeats 2000000 in
theorem numbers_wheel (s : Wh) (w : World) : Calls Tryz.prog 236 #[.agg #[.int .i64 s.lo, .int .i64 s.hi]] w (RetO w [s.lo, s.hi]) := by
 go_enter Tryz.func236, Tryz.ntmps236
 go_wp2_with fail
 go_ret
 exact ret_own w _ (w.heap.size + 1) [s.lo, s.hi] (Nat.le_succ _) (Blk.new_at _ _ (by simp)) (fr_alloc (fr_alloc (fr_refl _) _) _) (by simp)
def noteV (n : Note) : Value := .agg #[.int .i64 n.k, .int .i64 n.a, .int .i64 n.b, .int .i64 n.lo, .int .i64 n.hi, .int .i64 n.ln, .int .i64 n.ld, .int .i64 n.mn, .int .i64 n.md]
set_option maxRecDepth 100000 in
set_option maxHeartbeats 4000000 in
theorem numbers_note (n : Note) (w : World) : Calls Tryz.prog 237 #[noteV n] w (RetO w (noteXs n)) := by
 obtain ⟨k, a, b, lo, hi, ln, ld, mn, md⟩ := n
 unfold noteXs noteV
 simp only
 by_cases h1 : k = 1
 ·subst h1
  rw [if_pos rfl]
  go_enter Tryz.func237, Tryz.ntmps237
  go_wp2_with fail
  go_ret
  exact ret_own w _ (w.heap.size + 1) _ (Nat.le_succ _) (Blk.new_at _ _ (by simp)) (fr_alloc (fr_alloc (fr_refl _) _) _) (by simp)
 by_cases h2 : k = 2
 ·subst h2
  rw [if_neg h1, if_pos rfl]
  clear h1
  go_enter Tryz.func237, Tryz.ntmps237
  go_wp2_with fail
  go_ret
  exact ret_own w _ (w.heap.size + 1) _ (Nat.le_succ _) (Blk.new_at _ _ (by simp)) (fr_alloc (fr_alloc (fr_refl _) _) _) (by simp)
 by_cases h3 : k = 3
 ·subst h3
  rw [if_neg h1, if_neg h2, if_pos rfl]
  clear h1 h2
  go_enter Tryz.func237, Tryz.ntmps237
  go_wp2_with fail
  go_ret
  exact ret_own w _ (w.heap.size + 1) _ (Nat.le_succ _) (Blk.new_at _ _ (by simp)) (fr_alloc (fr_alloc (fr_refl _) _) _) (by simp)
 ·rw [if_neg h1, if_neg h2, if_neg h3]
  have h1' : (k == 1) = false := beq_eq_false_iff_ne.2 h1
  have h2' : (k == 2) = false := beq_eq_false_iff_ne.2 h2
  have h3' : (k == 3) = false := beq_eq_false_iff_ne.2 h3
  clear h1 h2 h3
  go_enter Tryz.func237, Tryz.ntmps237
  go_wp2_with fail
  go_ret
  exact ret_own w _ (w.heap.size + 1) _ (Nat.le_succ _) (Blk.new_at _ _ (by simp)) (fr_alloc (fr_alloc (fr_refl _) _) _) (by simp)
end Go.Proofs.YthenlopnlaiodaaGreatDoor
end
