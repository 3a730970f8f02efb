/- Walks: whether a fact is so for a year; the search of facts; rows of structs that the call itself makes. Walks: the years for which facts are so. Walks: Years. -/
import Derived.Test.YthjblcboainknaaGreatDoorMB6
import Derived.Test.YthjblcboainknaaGreatDoorMC4
import Derived.Test.YthjblcboainknaaGreatDoorProg
import Derived.WalkKit
import Derived.WalkSpells
import Derived.WalkLawsBesides
import Derived.LoopTactic
import Derived.Deep.LoopGhost
import Derived.Lib.Hide
import Derived.Deep.Draws
import Derived.Deep.QuietTactic
import Derived.BigQuiet
import Derived.Deep.RegionHeld3
import Derived.OwnWalk
import Derived.Laws.Rows
import Derived.Deep.DeepMust
import Derived.Defers
import Derived.Recover
import Derived.Laws.Pointers
import Derived.Laws.EntriesVeiled
import Derived.Outline
import Derived.Deep.MidRow
import Derived.RangeFuncNested
import Derived.RangeFuncBound
import Derived.OwnWalkIn
import Derived.TacticsInMore
import Derived.LoopIn
import Derived.Shelf.RegionOpen
import Derived.Sort.CutIn
import Derived.Deep.Cut
import Derived.Test.YthjblcboainknaaGreatDoorMC1
section
namespace Go.Proofs.YthjblcboainknaaGreatDoor
open Go.RowKit Dl

/-- is a fact so for a year -/
def soB (e : Int) (cs : List Int) (num den add y : Int) (f : Fact) : Bool := ansOf e cs num den add y f == (if f.k = 3 then 1 else f.v)

theorem kind_range {f : Fact} {val : Int → Int → Bool} (h : kindB f val = true) : 1 ≤ f.k ∧ f.k ≤ 5 := by
 unfold kindB at h
 by_cases h1 : f.k = 1
 ·omega
 by_cases h2 : f.k = 2
 ·omega
 by_cases h3 : f.k = 3
 ·omega
 by_cases h4 : f.k = 4
 ·omega
 by_cases h5 : f.k = 5
 ·omega
 simp [h1, h2, h3, h4, h5] at h

theorem answer_is (A F : Option Addr) (n c fc M : Nat) (cs : List Int) (e num den add y k m d v : Int) (w : World) (hr : Rd w A n cs) (hn : n ≤ 3) (hpos : Cyc cs) (hF : Rd w F 4002 (firsts e cs)) (he : 0 ≤ e ∧ e ≤ 1000) (hm : MoonOk num den add) (hy : 0 ≤ y ∧ y ≤ 4000) (hE : EMap w M (easterDay e cs num den add)) (hk : 1 ≤ k ∧ k ≤ 5) :
  Calls Tryz.prog 71 #[.agg #[.int .i64 e, .slice A n c, .int .i64 num, .int .i64 den, .int .i64 add, .slice F 4002 fc, .map (some M), .int .i64 y], .agg #[.int .i64 k, .int .i64 m, .int .i64 d, .int .i64 v]] w fun e' w' =>
   e' = .returned (.int .i64 (ansOf e cs num den add y ⟨k, m, d, v⟩)) ∧ EMap w' M (easterDay e cs num den add) ∧ w.grownBy w' (some M) := by
 have h5 : k = 1 ∨ k = 2 ∨ k = 3 ∨ k = 4 ∨ k = 5 := by omega
 rcases h5 with rfl | rfl | rfl | rfl | rfl
 ·exact answer1 A F n c fc M cs e num den add y m d v w hr hn hpos hF he hm hy hE
 ·exact answer2 A F n c fc M cs e num den add y m d v w hr hn hpos hF he hm hy hE
 ·exact answer3 A F n c fc M cs e num den add y m d v w hr hn hpos hF he hm hy hE
 ·exact answer4 A F n c fc M cs e num den add y m d v w hr hn hpos hF he hm hy hE
 ·exact answer5 A F n c fc M cs e num den add y m d v w hr hn hpos hF he hm hy hE

set_option maxRecDepth 100000 in
set_option maxHeartbeats 4000000 in
theorem so_is (A F : Option Addr) (n c fc M : Nat) (cs : List Int) (e num den add y k m d v : Int) (w : World) (hr : Rd w A n cs) (hn : n ≤ 3) (hpos : Cyc cs) (hF : Rd w F 4002 (firsts e cs)) (he : 0 ≤ e ∧ e ≤ 1000) (hm : MoonOk num den add) (hy : 0 ≤ y ∧ y ≤ 4000) (hE : EMap w M (easterDay e cs num den add)) (hk : 1 ≤ k ∧ k ≤ 5) (b : Bool) (hb : soB e cs num den add y ⟨k, m, d, v⟩ = b) :
  Calls Tryz.prog 95 #[.agg #[.int .i64 e, .slice A n c, .int .i64 num, .int .i64 den, .int .i64 add, .slice F 4002 fc, .map (some M), .int .i64 y], .agg #[.int .i64 k, .int .i64 m, .int .i64 d, .int .i64 v]] w fun e' w' =>
   e' = .returned (.bool b) ∧ EMap w' M (easterDay e cs num den add) ∧ w.grownBy w' (some M) := by
 have g1 := fr_alloc (fr_alloc (fr_refl w) (.cells #[.int .i64 e, .slice A n c, .int .i64 num, .int .i64 den, .int .i64 add, .slice F 4002 fc, .map (some M), .int .i64 y] 113)) (.cells #[.int .i64 k, .int .i64 m, .int .i64 d, .int .i64 v] 69)
 unfold soB at hb
 simp only at hb
 by_cases h3 : k = 3
 ·subst h3
  rw [if_pos rfl] at hb
  have HB := Lib.hid hb
  clear hb
  go_enter Tryz.func95, Tryz.ntmps95
  go_wp2_with fail
  refine (answer_is A F n c fc M cs e num den add y 3 m d v _ (hr.keep g1) hn hpos (hF.keep g1) he hm hy (hE.keep g1) hk).mono ?_
  rintro e' w1 ⟨rfl, hE1, hg1⟩
  have hb := HB.out
  go_wp2_with fail
  go_ret
  exact ⟨rfl, hE1, below_grown g1 hg1⟩
 ·rw [if_neg h3] at hb
  have HB := Lib.hid hb
  clear hb
  have h3' : (k == 3) = false := by simpa using h3
  go_enter Tryz.func95, Tryz.ntmps95
  go_wp2_with fail
  refine (answer_is A F n c fc M cs e num den add y k m d v _ (hr.keep g1) hn hpos (hF.keep g1) he hm hy (hE.keep g1) hk).mono ?_
  rintro e' w1 ⟨rfl, hE1, hg1⟩
  have hb := HB.out
  go_wp2_with fail
  go_ret
  exact ⟨rfl, hE1, below_grown g1 hg1⟩

set_option maxRecDepth 100000 in
set_option maxHeartbeats 4000000 in
theorem years1_is (A F : Option Addr) (n c fc M p : Nat) (cs : List Int) (e num den add y : Int) (f : Fact) (w : World) (hr : Rd w A n cs) (hn : n ≤ 3) (hpos : Cyc cs) (hF : Rd w F 4002 (firsts e cs)) (he : 0 ≤ e ∧ e ≤ 1000) (hm : MoonOk num den add) (hy : 0 ≤ y ∧ y ≤ 4000) (hE : EMap w M (easterDay e cs num den add)) (hk : 1 ≤ f.k ∧ f.k ≤ 5)
  (hp : Blk w p 113 #[.int .i64 e, .slice A n c, .int .i64 num, .int .i64 den, .int .i64 add, .slice F 4002 fc, .map (some M), .int .i64 y]) (b : Bool) (hb : soB e cs num den add y f = !b) :
  Calls Tryz.prog 94 #[.agg #[.int .i64 f.k, .int .i64 f.m, .int .i64 f.d, .int .i64 f.v], .pointer (some ⟨p, 0, none⟩)] w fun e' w' =>
   e' = .returned (.bool b) ∧ EMap w' M (easterDay e cs num den add) ∧ w.grownBy w' (some M) := by
 obtain ⟨k, m, d, v⟩ := f
 have g1 := fr_alloc (fr_refl w) (.cells #[.int .i64 k, .int .i64 m, .int .i64 d, .int .i64 v] 69)
 have hc := fun j => (hp.keep g1).cell j
 go_enter Tryz.func94, Tryz.ntmps94
 go_wp2_with fail
 refine (so_is A F n c fc M cs e num den add y k m d v _ (hr.keep g1) hn hpos (hF.keep g1) he hm hy (hE.keep g1) hk _ hb).mono ?_
 rintro e' w1 ⟨rfl, hE1, hg1⟩
 clear hc
 go_wp2_with fail
 go_ret
 exact ⟨ret_bool (by simp), hE1, below_grown g1 hg1⟩

theorem EMap.blk {w w' : World} {M g : Nat} {f : Int → Int} {t : TypeId} {cs : Array Value} (hE : EMap w M f) (hB : Blk w g t cs) (hg : w.grownBy w' (some M)) : Blk w' g t cs := hB.grown hg (by have := hE.ne_blk hB; simpa using this)

set_option maxRecDepth 100000 in
set_option maxHeartbeats 4000000 in
theorem index_so (A F L : Option Addr) (n c fc M p lc : Nat) (cs : List Int) (e num den add y : Int) (l : List Fact) (w : World) (hr : Rd w A n cs) (hn : n ≤ 3) (hpos : Cyc cs) (hF : Rd w F 4002 (firsts e cs)) (he : 0 ≤ e ∧ e ≤ 1000) (hm : MoonOk num den add) (hy : 0 ≤ y ∧ y ≤ 4000) (hE : EMap w M (easterDay e cs num den add)) (hl : ∀ f ∈ l, 1 ≤ f.k ∧ f.k ≤ 5)
  (hp : Blk w p 113 #[.int .i64 e, .slice A n c, .int .i64 num, .int .i64 den, .int .i64 add, .slice F 4002 fc, .map (some M), .int .i64 y]) (hL : RdS w L 4 (l.map Fact.row)) (hln : l.length ≤ 9223372036854775807) (b : Bool) (hb : l.all (soB e cs num den add y) = b) :
  Calls Tryz.prog 103 #[.slice L l.length lc, .func (.func 94) #[] #[.pointer (some ⟨p, 0, none⟩)]] w fun e' w' => ∃ k : Int, e' = .returned (.int .i64 k) ∧ ((b = true ∧ k = -1) ∨ (b = false ∧ 0 ≤ k)) ∧ EMap w' M (easterDay e cs num den add) ∧ w.grownBy w' (some M) := by
 go_enter Tryz.func103, Tryz.ntmps103
 go_wp2
 generalize hlen : l.length = nl at *
 have HL := Lib.hid hlen
 clear hlen
 go_loopw [8] (fun i wr => ∃ k : Nat, k ≤ nl ∧ i = .int .i64 k ∧ (l.take k).all (soB e cs num den add y) = true ∧ EMap wr M (easterDay e cs num den add) ∧ w.grownBy wr (some M)) (fun i _ => nl - (intOf i).toNat)
 case atStart => exact ⟨0, Nat.zero_le _, rfl, by simp, hE, World.grownBy.refl _ _⟩
 case round =>
  obtain ⟨k, hk, rfl, hall, hEr, hgr⟩ := hrel
  by_cases hlt : k < nl
  ·have hkl : k < l.length := by have := HL.out; omega
   have hrow : (l.map Fact.row)[k]? = some (l[k].row) := by simp [hkl]
   obtain ⟨ad, rfl, hab, _, hc⟩ := (hL.farM (by decide) hE hgr).at_ hrow
   have hq : ∀ j, ad.add (k * 4 + (j + 1)) = (ad.add (k * 4)).add (j + 1) := fun j => by
    unfold Addr.add; by_cases h0 : k * 4 = 0 <;> simp [h0, Nat.add_assoc]
   have hc0 : wr.cell? (ad.add (k * 4)) = some (.int .i64 l[k].k) := hc 0 _ rfl
   have hc1 : wr.cell? ⟨(ad.add (k * 4)).block, (ad.add (k * 4)).off + 1, none⟩ = _ := (congrArg wr.cell? (hq 0)).symm.trans (hc 1 _ rfl)
   have hc2 : wr.cell? ⟨(ad.add (k * 4)).block, (ad.add (k * 4)).off + 2, none⟩ = _ := (congrArg wr.cell? (hq 1)).symm.trans (hc 2 _ rfl)
   have hc3 : wr.cell? ⟨(ad.add (k * 4)).block, (ad.add (k * 4)).off + 3, none⟩ = _ := (congrArg wr.cell? (hq 2)).symm.trans (hc 3 _ rfl)
   have hfk := hl l[k] (List.getElem_mem hkl)
   clear hc hrow hq
   go_wp2_with fail
   cases hf : soB e cs num den add y l[k]
   ·refine (years1_is A F n c fc M p cs e num den add y l[k] _ (hr.farM hE hgr) hn hpos (hF.farM hE hgr) he hm hy hEr hfk (hE.blk hp hgr) true (by simp [hf])).mono ?_
    rintro e' w1 ⟨rfl, hE1, hg1⟩
    go_wp2_with fail
    go_ret
    refine ⟨k, rfl, Or.inr ⟨?_, by omega⟩, hE1, grown_trans hgr hg1⟩
    rw [← hb]
    exact all_no hkl hf
   ·refine (years1_is A F n c fc M p cs e num den add y l[k] _ (hr.farM hE hgr) hn hpos (hF.farM hE hgr) he hm hy hEr hfk (hE.blk hp hgr) false (by simp [hf])).mono ?_
    rintro e' w1 ⟨rfl, hE1, hg1⟩
    go_wp2_with fail
    refine ⟨⟨k + 1, hlt, rfl, all_step hkl hall hf, hE1, grown_trans hgr hg1⟩, ?_⟩
    simp [intOf]; omega
  ·go_wp2_with fail
   go_ret
   refine ⟨-1, rfl, Or.inl ⟨?_, rfl⟩, hEr, hgr⟩
   rw [← hb, ← List.take_of_length_le (l := l) (i := k) (by have := HL.out; omega)]; exact hall

set_option maxHeartbeats 2000000 in
theorem contains_so (A F L : Option Addr) (n c fc M p lc : Nat) (cs : List Int) (e num den add y : Int) (l : List Fact) (w : World) (hr : Rd w A n cs) (hn : n ≤ 3) (hpos : Cyc cs) (hF : Rd w F 4002 (firsts e cs)) (he : 0 ≤ e ∧ e ≤ 1000) (hm : MoonOk num den add) (hy : 0 ≤ y ∧ y ≤ 4000) (hE : EMap w M (easterDay e cs num den add)) (hl : ∀ f ∈ l, 1 ≤ f.k ∧ f.k ≤ 5)
  (hp : Blk w p 113 #[.int .i64 e, .slice A n c, .int .i64 num, .int .i64 den, .int .i64 add, .slice F 4002 fc, .map (some M), .int .i64 y]) (hL : RdS w L 4 (l.map Fact.row)) (hln : l.length ≤ 9223372036854775807) (b : Bool) (hb : l.all (soB e cs num den add y) = b) :
  Calls Tryz.prog 74 #[.slice L l.length lc, .func (.func 94) #[] #[.pointer (some ⟨p, 0, none⟩)]] w fun e' w' => e' = .returned (.bool (!b)) ∧ EMap w' M (easterDay e cs num den add) ∧ w.grownBy w' (some M) := by
 go_enter Tryz.func74, Tryz.ntmps74
 go_wp2_with fail
 refine (index_so A F L n c fc M p lc cs e num den add y l w hr hn hpos hF he hm hy hE hl hp hL hln b hb).mono ?_
 rintro e' w1 ⟨k, rfl, hk, hE1, hg1⟩
 go_wp2_with fail
 go_ret
 refine ⟨ret_bool ?_, hE1, hg1⟩
 rcases hk with ⟨rfl, rfl⟩ | ⟨rfl, hk⟩
 ·rfl
 ·simpa using hk

/-- the slice value v is nil, or a row of structs of the call's own -/
def OwnS (w : World) (base : Nat) (e : TypeId) (k : Nat) (v : Value) (rows : List (List Value)) : Prop := w.ownsRow base e k v rows.length rows.flatten ∧ ∀ r ∈ rows, r.length = k
theorem flat_len {k : Nat} : ∀ {rows : List (List Value)}, (∀ r ∈ rows, r.length = k) → rows.flatten.length = rows.length * k
 | [], _ => by simp
 | r :: rows, h => by
  have h1 := h r (by simp)
  have h2 := flat_len (rows := rows) (fun r hr => h r (by simp [hr]))
  simp only [List.flatten_cons, List.length_append, List.length_cons, h1, h2, Nat.add_mul]
  omega
theorem flat_get {k : Nat} : ∀ {rows : List (List Value)} (_ : ∀ r ∈ rows, r.length = k) (i : Nat) (r : List Value) (j : Nat) (v : Value), rows[i]? = some r → r[j]? = some v → rows.flatten[i * k + j]? = some v
 | [], _, i, r, j, v, h1, _ => by simp at h1
 | r0 :: rows, h, 0, r, j, v, h1, h2 => by
  have : r0 = r := by simpa using h1
  subst this
  have hj : j < r0.length := (List.getElem?_eq_some_iff.1 h2).1
  simp only [List.flatten_cons, Nat.zero_mul, Nat.zero_add]
  rw [List.getElem?_append_left hj]
  exact h2
 | r0 :: rows, h, i + 1, r, j, v, h1, h2 => by
  have h0 := h r0 (by simp)
  have := flat_get (rows := rows) (fun r hr => h r (by simp [hr])) i r j v (by simpa using h1) h2
  simp only [List.flatten_cons]
  rw [List.getElem?_append_right (by rw [h0, Nat.add_mul]; omega), h0]
  rw [show (i + 1) * k + j - k = i * k + j by rw [Nat.add_mul]; omega]
  exact this
theorem OwnS.nil (w : World) (base : Nat) (e : TypeId) (k : Nat) : OwnS w base e k (.slice none 0 0) [] := ⟨World.ownsRow_nil w base e k, fun r h => by cases h⟩
theorem OwnS.keep {w w' : World} {base : Nat} {e : TypeId} {k : Nat} {v : Value} {rows : List (List Value)} (h : OwnS w base e k v rows) (hb : Below w.heap.size w w') : OwnS w' base e k v rows := ⟨owns_keep h.1 hb, h.2⟩
theorem OwnS.far {w w' : World} {base M : Nat} {e : TypeId} {k : Nat} {v : Value} {rows : List (List Value)} (h : OwnS w base e k v rows) (hg : w.grownBy w' (some M)) (hM : M < base) : OwnS w' base e k v rows :=
 ⟨World.ownsRow.kept h.1 hg (.inr (by intro e'; have := (World.ownsRow.lt h.1 M e').1; omega)), h.2⟩
theorem OwnS.form {w : World} {base : Nat} {e : TypeId} {k : Nat} {v : Value} {rows : List (List Value)} (h : OwnS w base e k v rows) : ∃ A c, v = .slice A rows.length c := by
 rcases h.1.2 with ⟨rfl, h0⟩ | ⟨g, cap, cur, rfl, _⟩
 ·exact ⟨none, 0, by rw [h0]⟩
 ·exact ⟨_, _, rfl⟩
theorem OwnS.rd {w : World} {base : Nat} {e : TypeId} {k n c : Nat} {A : Option Addr} {rows : List (List Value)} (h : OwnS w base e k (.slice A n c) rows) : RdS w A k rows := fun hpos => by
 have hc := h.1.2
 rcases hc with ⟨h0, h1⟩ | ⟨g, cap, cur, hv, hb, hh, _⟩
 ·omega
 ·injection hv with hA _ _
  subst hA
  refine ⟨_, rfl, heap_lt hh, fun i r hi => ⟨h.2 r (List.mem_of_getElem? hi), fun j v hj => ?_⟩⟩
  have := World.ownsRow.cells h.1 (g := g) (by simp [Value.ownBlock]) _ _ (flat_get h.2 i r j v hi hj)
  exact this
theorem OwnS.fresh {w : World} {base : Nat} {e : TypeId} {k n c : Nat} {A : Option Addr} {rows : List (List Value)} (h : OwnS w base e k (.slice A n c) rows) : Fresh base A := by
 intro ad e'
 subst e'
 rcases h.1.2 with ⟨h0, _⟩ | ⟨g, cap, cur, hv, hb, _⟩
 ·cases h0
 ·injection hv with hA _ _
  cases hA
  exact hb
theorem OwnS.ge {w : World} {base : Nat} {e : TypeId} {k : Nat} {v : Value} {rows : List (List Value)} (h : OwnS w base e k v rows) : ∀ i, v.ownBlock = some i → base ≤ i := fun i hi => (World.ownsRow.lt h.1 i hi).1

/-- 'append(out, x)', the row of structs being the call's own -/
theorem app_row {ops : Array Oper} {rest : List Oper} {o : Oper} {a : Act} {Q : Exit → Act → World → Prop} {W : World} {E T : TypeId} {z : Value} {k bytes : Nat} {r : List Value} (hgd : o.guard = none) (s x : Operand)
  (ho : o.op = .call { callee := .builtin .append, args := #[s, x], argTypes := #[T, T] }) (hu : Tryz.prog.underlying T = some (.slice E)) (hinfo : (Tryz.prog.info? E).map (fun i => (i.zero, i.size, i.bytes)) = some (some z, k, bytes)) (hzk : z.cells.size = k) (hk : 0 < k) (hby : bytes ≤ 1000)
  (base : Nat) (v : Value) (rows : List (List Value)) (hs : a.eval s = v) (hx : a.eval x = .slice (some ⟨W.heap.size, 0, none⟩) 1 1) (hown : OwnS W base E k v rows) (hrl : r.length = k) (h1 : ∀ u ∈ r, u.oneCell' = true) (hn : rows.length < 1000000) (hbase : base ≤ W.heap.size)
  (h : ∀ A c w', OwnS w' base E k (.slice A (rows.length + 1) c) (rows ++ [r]) → (W.alloc (.cells r.toArray E)).grownBy w' v.ownBlock → wpList Tryz.prog ops Q rest (a.put o.dst (.slice A (rows.length + 1) c)) w') :
  wpList Tryz.prog ops Q (o :: rest) a (W.alloc (.cells r.toArray E)) := by
 obtain ⟨i0, hi, hz0, hz1, hz2⟩ := info_parts hinfo
 have hb : (rows.length + 1) * bytes ≤ 1000000 * 1000 := Nat.mul_le_mul (by omega) hby
 refine wpList_append_own _ hgd s x _ ho base _ i0 _ k bytes hu hi hz0 hz1 hz2 hzk hk v _ _ hs (World.ownsRow.alloc hown.1 _) ⟨W.heap.size, 0, none⟩ 1 1 r hx (by rw [hrl]; omega) ?_ h1
  (by unfold maxLen; omega) (by omega) (by simp; omega) ?_
 ·intro j u hj
  rw [add_lit, Nat.zero_add, cell_new]
  simpa using hj
 ·intro v' w' hown' hg _
  have hown2 : OwnS w' base E k v' (rows ++ [r]) := by
   refine ⟨?_, fun q hq => ?_⟩
   ·rw [List.length_append, List.flatten_append]
    simpa using hown'
   ·rcases List.mem_append.1 hq with h2 | h2
    ·exact hown.2 q h2
    ·have : q = r := by simpa using h2
     rw [this]; exact hrl
  obtain ⟨A, c, rfl⟩ := hown2.form
  rw [List.length_append] at hown2 ⊢
  exact h A c w' hown2 hg
end Go.Proofs.YthjblcboainknaaGreatDoor
end

section
namespace Go.Proofs.YthjblcboainknaaGreatDoor
open Go.RowKit Dl

def yearsOf (e : Int) (cs : List Int) (num den add : Int) (l : List Fact) (a : Int) (n : Nat) : List Int :=
 ((List.range n).map (fun (k : Nat) => a + (k : Int))).filter (fun y => l.all (soB e cs num den add y))
theorem yearsOf_no {e num den add a : Int} {cs : List Int} {l : List Fact} {k : Nat} (h : l.all (soB e cs num den add (a + k)) = false) : yearsOf e cs num den add l a (k + 1) = yearsOf e cs num den add l a k := by
 unfold yearsOf
 rw [List.range_succ, List.map_append, List.filter_append]
 simp only [List.map_cons, List.map_nil, List.filter_cons, h, Bool.false_eq_true, if_false, List.filter_nil, List.append_nil]
theorem yearsOf_yes {e num den add a : Int} {cs : List Int} {l : List Fact} {k : Nat} (h : l.all (soB e cs num den add (a + k)) = true) : yearsOf e cs num den add l a (k + 1) = yearsOf e cs num den add l a k ++ [a + k] := by
 unfold yearsOf
 rw [List.range_succ, List.map_append, List.filter_append]
 simp only [List.map_cons, List.map_nil, List.filter_cons, h, if_true, List.filter_nil]
theorem yearsOf_len (e num den add a : Int) (cs : List Int) (l : List Fact) (k : Nat) : (yearsOf e cs num den add l a k).length ≤ k := by
 unfold yearsOf; exact Nat.le_trans (List.length_filter_le _ _) (by simp)
theorem yearsOf_mem {e num den add a y : Int} {cs : List Int} {l : List Fact} {k : Nat} (h : y ∈ yearsOf e cs num den add l a k) : a ≤ y ∧ y < a + k := by
 unfold yearsOf at h
 rw [List.mem_filter, List.mem_map] at h
 obtain ⟨⟨j, hj, rfl⟩, _⟩ := h
 rw [List.mem_range] at hj
 omega
def askRow (e : Int) (A : Option Addr) (n c : Nat) (num den add : Int) (F : Option Addr) (fc M : Nat) (y : Int) : List Value :=
 [.int .i64 e, .slice A n c, .int .i64 num, .int .i64 den, .int .i64 add, .slice F 4002 fc, .map (some M), .int .i64 y]
theorem info_asked : (Tryz.prog.info? 113).map (fun i => (i.zero, i.size, i.bytes)) = some (some (.agg #[.int .i64 0, .slice none 0 0, .int .i64 0, .int .i64 0, .int .i64 0, .slice none 0 0, .map none, .int .i64 0]), 8, 96) := by kernel_rfl

set_option maxRecDepth 100000 in
set_option maxHeartbeats 8000000 in
theorem years_any (A F L : Option Addr) (n c fc M lc : Nat) (cs : List Int) (e num den add y z : Int) (l : List Fact) (w : World) (hr : Rd w A n cs) (hn : n ≤ 3) (hpos : Cyc cs) (hF : Rd w F 4002 (firsts e cs)) (he : 0 ≤ e ∧ e ≤ 1000) (hm : MoonOk num den add) (hyz : (0 ≤ y ∧ y ≤ 4000) ∧ (0 ≤ z ∧ z ≤ 4000) ∧ (0 ≤ z - y ∧ z - y ≤ 400)) (hE : EMap w M (easterDay e cs num den add))
  (hl : ∀ f ∈ l, 1 ≤ f.k ∧ f.k ≤ 5) (hL : RdS w L 4 (l.map Fact.row)) (hln : l.length ≤ 9223372036854775807) :
  Calls Tryz.prog 69 #[.agg #[.int .i64 e, .slice A n c, .int .i64 num, .int .i64 den, .int .i64 add, .slice F 4002 fc, .map (some M)], .slice L l.length lc, .int .i64 y, .int .i64 z] w fun e' w' =>
   ∃ B b, e' = .returned (.slice B (yearsOf e cs num den add l y (z - y + 1).toNat).length b) ∧ RdS w' B 8 ((yearsOf e cs num den add l y (z - y + 1).toNat).map (askRow e A n c num den add F fc M)) ∧ Fresh w.heap.size B ∧ EMap w' M (easterDay e cs num den add) ∧ w.grownBy w' (some M) := by
 obtain ⟨⟨hy1, hy2⟩, ⟨hz1, hz2⟩, hyz1, hyz2⟩ := hyz
 have hmf : ∀ (fn : Fn) (first cap : Array Value) (w : World), (Instr.makeFunc fn first cap).run Tryz.prog w = .ok (.func fn first cap) w := fun _ _ _ _ => rfl
 have hB1 := Blk.new w 89 #[.int .i64 e, .slice A n c, .int .i64 num, .int .i64 den, .int .i64 add, .slice F 4002 fc, .map (some M)]
 have g1 := fr_alloc (fr_refl w) (.cells #[.int .i64 e, .slice A n c, .int .i64 num, .int .i64 den, .int .i64 add, .slice F 4002 fc, .map (some M)] 89)
 go_enter Tryz.func69, Tryz.ntmps69
 go_wp2_with fail
 replace hr := hr.keep g1
 replace hF := hF.keep g1
 replace hL := hL.keep g1
 replace hE := hE.keep g1
 generalize w.alloc (.cells #[.int .i64 e, .slice A n c, .int .i64 num, .int .i64 den, .int .i64 add, .slice F 4002 fc, .map (some M)] 89) = W1 at *
 generalize hb1e : w.heap.size = b1 at *
 have HB := Lib.hid hb1e
 clear hb1e
 have hbW : b1 ≤ W1.heap.size := Nat.le_of_lt hB1.lt
 have hMl := hE.lt
 obtain ⟨nY, hnY⟩ : ∃ nY : Nat, (z - y + 1).toNat = nY := ⟨_, rfl⟩
 have HN := Lib.hid hnY
 have hYz : y + nY = z + 1 := by omega
 clear hnY
 go_loopw [9, 10] (fun v i wx => ∃ k : Nat, k ≤ nY ∧ i = .int .i64 (y + k) ∧ OwnS wx W1.heap.size 113 8 v ((yearsOf e cs num den add l y k).map (askRow e A n c num den add F fc M)) ∧ EMap wx M (easterDay e cs num den add) ∧ W1.grownBy wx (some M)) (fun _ i _ => (z + 1 - intOf i).toNat)
 case atStart => exact ⟨0, Nat.zero_le _, by simp, OwnS.nil _ _ _ _, hE, World.grownBy.refl _ _⟩
 case round =>
  obtain ⟨k, hk, rfl, hown, hEx, hgx⟩ := hrel
  have hBx := hE.blk hB1 hgx
  have hcB := fun j => hBx.cell j
  by_cases hlt : k < nY
  ·have hkz : y + (k : Int) ≤ z := by omega
   have hwk : IntKind.i64.wrap (y + (k : Int) + 1) = y + (k : Int) + 1 := IntWalk.i64_in _ (by omega)
   have hrx := hr.farM hE hgx
   have hFx := hF.farM hE hgx
   have hLx := hL.farM (by decide) hE hgx
   go_wp2_with fail
   have g2 := fr_alloc (fr_refl wr) (.cells #[.int .i64 e, .slice A n c, .int .i64 num, .int .i64 den, .int .i64 add, .slice F 4002 fc, .map (some M), .int .i64 (y + k)] 113)
   have hpb := Blk.new wr 113 #[.int .i64 e, .slice A n c, .int .i64 num, .int .i64 den, .int .i64 add, .slice F 4002 fc, .map (some M), .int .i64 (y + k)]
   cases hq : l.all (soB e cs num den add (y + k))
   ·refine (contains_so A F L n c fc M wr.heap.size lc cs e num den add (y + k) l _ (hrx.keep g2) hn hpos (hFx.keep g2) he hm ⟨by omega, by omega⟩ (hEx.keep g2) hl hpb (hLx.keep g2) hln _ hq).mono ?_
    rintro e' w2 ⟨rfl, hE2, hg2⟩
    have HQ := Lib.hid (yearsOf_no hq)
    clear hq
    go_wp2_with fail
    refine ⟨⟨k + 1, hlt, by first | rfl | (congr 1; push_cast; omega), by rw [HQ.out]; exact (hown.keep g2).far hg2 hMl, hE2, grown_trans (grown_below hgx g2) hg2⟩, ?_⟩
    simp [intOf]; omega
   ·refine (contains_so A F L n c fc M wr.heap.size lc cs e num den add (y + k) l _ (hrx.keep g2) hn hpos (hFx.keep g2) he hm ⟨by omega, by omega⟩ (hEx.keep g2) hl hpb (hLx.keep g2) hln _ hq).mono ?_
    rintro e' w2 ⟨rfl, hE2, hg2⟩
    have HQ := Lib.hid (yearsOf_yes hq)
    clear hq
    have hpb2 := (hEx.keep g2).blk hpb hg2
    have hcp := fun j => hpb2.cell j
    have ho2 := (hown.keep g2).far hg2 hMl
    have hgz := grown_trans (grown_below hgx g2) hg2
    have hlen := yearsOf_len e num den add y cs l k
    go_wp2_with (at_builtin; refine app_row rfl (.tmp 25) (.tmp 27) rfl Tryz.underlying110 info_asked rfl (by decide) (by decide) W1.heap.size _ _ rfl rfl ho2 rfl (by simp [Value.oneCell']) (by rw [List.length_map]; omega) hgz.size ?_; intro B0 cap0 wy hown3 hg3)
    have ha := fr_alloc (fr_refl w2) (.cells #[.int .i64 e, .slice A n c, .int .i64 num, .int .i64 den, .int .i64 add, .slice F 4002 fc, .map (some M), .int .i64 (y + k)] 113)
    have hge := ho2.ge
    refine ⟨⟨k + 1, hlt, by first | rfl | (congr 1; push_cast; omega), by rw [HQ.out, List.map_append]; rw [List.length_map] at hown3; exact hown3, (hE2.keep ha).far hg3 (fun e0 => by have := hge M e0.symm; omega), grown_own (grown_below hgz ha) hg3 hge⟩, ?_⟩
    simp [intOf]; omega
  ·have hkz : ¬ (y + (k : Int) ≤ z) := by omega
   obtain rfl : k = nY := by omega
   obtain ⟨B, b, rfl⟩ := hown.form
   go_wp2_with fail
   go_ret
   obtain rfl := HB.out
   rw [HN.out]
   exact ⟨B, ⟨b, rfl⟩, hown.rd, fun ad e0 => Nat.le_trans hbW (hown.fresh ad e0), hEx, below_grown g1 hgx⟩
end Go.Proofs.YthjblcboainknaaGreatDoor
end

section
namespace Go.Proofs.YthjblcboainknaaGreatDoor
open Go.RowKit Dl

theorem Exc.rds {S : Nat → Prop} {w W : World} {A : Option Addr} {k : Nat} {rows : List (List Value)} (h : Exc S w W) (hr : RdS w A k rows) (hA : ∀ ad, A = some ad → ¬ S ad.block) : RdS W A k rows := fun hn => by
 obtain ⟨ad, e, hlt, hc⟩ := hr hn
 exact ⟨ad, e, Nat.lt_of_lt_of_le hlt h.size, fun i r hi => ⟨(hc i r hi).1, fun j v hv => (h.cell (p := ad.add (i * k + j)) (by rw [block_of_add]; exact hlt) (by rw [block_of_add]; exact hA ad e)).trans ((hc i r hi).2 j v hv)⟩⟩
theorem app_int_at {ops : Array Oper} {rest : List Oper} {o : Oper} {a : Act} {Q : Exit → Act → World → Prop} {W : World} {y : Int} (hgd : o.guard = none) (s x : Operand)
  (ho : o.op = .call { callee := .builtin .append, args := #[s, x], argTypes := #[22, 22] })
  (base g : Nat) (hgs : W.heap.size = g) (v : Value) (xs : List Int) (hs : a.eval s = v) (hx : a.eval x = .slice (some ⟨g, 0, none⟩) 1 1) (hown : Own W base v xs) (hn : xs.length < 1000000) (hbase : base ≤ W.heap.size)
  (h : ∀ A c w', Own w' base (.slice A (xs.length + 1) c) (xs ++ [y]) → (W.alloc (.cells #[.int .i64 y] 3)).grownBy w' v.ownBlock → wpList Tryz.prog ops Q rest (a.put o.dst (.slice A (xs.length + 1) c)) w') :
  wpList Tryz.prog ops Q (o :: rest) a (W.alloc (.cells #[.int .i64 y] 3)) := by
 subst hgs
 exact app_int hgd s x ho base v xs hs hx hown hn hbase h
theorem facts_kinds {l : List Fact} (h : factsB l = true) : ∀ f ∈ l, 1 ≤ f.k ∧ f.k ≤ 5 := by
 unfold factsB all_areFacts at h
 simp only [Bool.and_eq_true, List.all_eq_true] at h
 exact fun f hf => kind_range (h.2 f hf)
theorem asks_kinds {l : List Fact} (h : asksB l = true) : ∀ f ∈ l, 1 ≤ f.k ∧ f.k ≤ 5 := by
 unfold asksB all_areQuestions at h
 simp only [Bool.and_eq_true, List.all_eq_true] at h
 exact fun f hf => kind_range (h.2 f hf)
theorem range_parts {y z : Int} (h : rangeB y z = true) : (0 ≤ y ∧ y ≤ 4000) ∧ (0 ≤ z ∧ z ≤ 4000) ∧ (0 ≤ z - y ∧ z - y ≤ 400) := by
 unfold rangeB at h
 simp only [Bool.and_eq_true] at h
 exact ⟨inB_iff.1 h.1.1, inB_iff.1 h.1.2, inB_iff.1 h.2⟩

set_option maxRecDepth 100000 in
set_option maxHeartbeats 8000000 in
theorem Years_ok (A L : Option Addr) (n c lc : Nat) (cs : List Int) (e num den add y z : Int) (l : List Fact) (w : World) (hr : Rd w A n cs) (hn : n ≤ 9223372036854775807) (hL : RdS w L 4 (l.map Fact.row)) (hln : l.length ≤ 9223372036854775807) (hok : calOk e cs = true) (hmb : moonB num den add = true) (hl : factsB l = true) (hyb : rangeB y z = true) :
  Calls Tryz.prog 32 #[.agg #[.int .i64 e, .slice A n c], .agg #[.int .i64 num, .int .i64 den, .int .i64 add], .slice L l.length lc, .int .i64 y, .int .i64 z] w fun e' w' =>
   ∃ B b, e' = .returned (.tuple #[.slice B (yearsOf e cs num den add l y (z - y + 1).toNat).length b, .int .i64 0]) ∧ Rd w' B (yearsOf e cs num den add l y (z - y + 1).toNat).length (yearsOf e cs num den add l y (z - y + 1).toNat) ∧ Below w.heap.size w w' := by
 obtain ⟨he, ⟨hn1, hn2⟩, hpos⟩ := calOk_parts hok
 rw [hr.len] at hn1 hn2
 have hm := moonB_ok hmb
 have hyz := range_parts hyb
 have hkinds := facts_kinds hl
 have g1 := fr_alloc (fr_alloc (fr_refl w) (.cells #[.int .i64 e, .slice A n c] 24)) (.cells #[.int .i64 num, .int .i64 den, .int .i64 add] 26)
 go_enter Tryz.func32, Tryz.ntmps32
 go_wp2_with fail
 refine (isCalendar_is A n c cs e _ (hr.keep g1) hn _ hok).mono ?_
 rintro e' w1 ⟨rfl, hb1⟩
 obtain ⟨hc_w1, hf_w1⟩ := bcell hb1
 have hz0_w1 : w.heap.size < w1.heap.size := Nat.lt_of_lt_of_le (by first | omega | (simp; done) | (simp; omega)) hb1.size
 have hz1_w1 : w.heap.size + 1 < w1.heap.size := Nat.lt_of_lt_of_le (by first | omega | (simp; done) | (simp; omega)) hb1.size
 go_wp2_with fail
 refine (isMoon_is _ _ _ _ _ hmb).mono ?_
 rintro e' w2 ⟨rfl, hb2⟩
 obtain ⟨hc_w2, hf_w2⟩ := bcell hb2
 have hz0_w2 : w.heap.size < w2.heap.size := Nat.lt_of_lt_of_le (by first | omega | (simp; done) | (simp; omega)) hb2.size
 have hz1_w2 : w.heap.size + 1 < w2.heap.size := Nat.lt_of_lt_of_le (by first | omega | (simp; done) | (simp; omega)) hb2.size
 go_wp2_with fail
 refine (areFacts_is L lc l _ (((hL.keep g1).keep hb1).keep hb2) hln).mono ?_
 rintro e' w3 ⟨rfl, hb3⟩
 rw [hl]
 obtain ⟨hc_w3, hf_w3⟩ := bcell hb3
 have hz0_w3 : w.heap.size < w3.heap.size := Nat.lt_of_lt_of_le (by first | omega | (simp; done) | (simp; omega)) hb3.size
 have hz1_w3 : w.heap.size + 1 < w3.heap.size := Nat.lt_of_lt_of_le (by first | omega | (simp; done) | (simp; omega)) hb3.size
 go_wp2_with fail
 refine (isRange_is _ _ _ _ hyb).mono ?_
 rintro e' w3' ⟨rfl, rfl⟩
 go_wp2_with fail
 have hb := fr_call (fr_call (fr_call g1 hb1) hb2) hb3
 refine (open_any A n c cs e num den add _ (hr.keep hb) hok).mono ?_
 rintro e' w4 ⟨F, fc, M, rfl, hF, hM1, hM2, hb4, hFf⟩
 go_wp2_with fail
 have hMw : w.heap.size ≤ M := Nat.le_trans hb.size hM1
 refine (years_any A F L n c fc M lc cs e num den add y z l _ ((hr.keep hb).keep hb4) hn2 hpos hF he hm hyz (EMap.empty _ hM2) hkinds ((hL.keep hb).keep hb4) hln).mono ?_
 rintro e' w5 ⟨B, b, rfl, hB, hBf, hE5, hg5⟩
 have hfr5 : Below w.heap.size w w5 := (fr_call hb hb4).grown hg5 (fr_call hb hb4).size (by intro k hk; cases hk; exact hMw)
 have hYle := yearsOf_len e num den add y cs l (z - y + 1).toNat
 generalize hys : yearsOf e cs num den add l y (z - y + 1).toNat = ys at *
 have HYS := Lib.hid hys
 have HFR := Lib.hid hfr5
 have hny : ys.length ≤ 1000 := by omega
 clear hys hc_w1 hf_w1 hz0_w1 hz1_w1 hc_w2 hf_w2 hz0_w2 hz1_w2 hc_w3 hf_w3 hz0_w3 hz1_w3 hb1 hb2 hb3 hb hM1 hM2 hb4 hFf hF g1 hr hL hE5 hg5 hBf hfr5 hYle
 go_wp2_with fail
 generalize hnl : ys.length = nl at *
 have HNL := Lib.hid hnl
 clear hnl
 go_loopw [12, 42] (fun v i wr => ∃ k : Nat, k ≤ nl ∧ i = .int .i64 k ∧ Own wr w5.heap.size v (ys.take k) ∧ Exc (fun _ => False) w5 wr) (fun _ i _ => nl - (intOf i).toNat)
 case atStart => exact ⟨0, Nat.zero_le _, rfl, Own.nil _ _, Exc.refl _ _⟩
 case round =>
  obtain ⟨k, hk, rfl, hown, hex⟩ := hrel
  by_cases hlt : k < nl
  ·have hkl : k < ys.length := by have := HNL.out; omega
   have hrow : (ys.map (askRow e A n c num den add F fc M))[k]? = some (askRow e A n c num den add F fc M ys[k]) := by simp [hkl]
   obtain ⟨ad, rfl, hab, _, hc⟩ := (hex.rds hB (fun _ _ h => h)).at_ hrow
   have hq : ∀ j, ad.add (k * 8 + (j + 1)) = (ad.add (k * 8)).add (j + 1) := fun j => by
    unfold Addr.add; by_cases h0 : k * 8 = 0 <;> simp [h0, Nat.add_assoc]
   have hc0 : wr.cell? (ad.add (k * 8)) = some (.int .i64 e) := hc 0 _ rfl
   have hc1 : wr.cell? ⟨(ad.add (k * 8)).block, (ad.add (k * 8)).off + 1, none⟩ = some (.slice A n c) := (congrArg wr.cell? (hq 0)).symm.trans (hc 1 _ rfl)
   have hc2 : wr.cell? ⟨(ad.add (k * 8)).block, (ad.add (k * 8)).off + 2, none⟩ = some (.int .i64 num) := (congrArg wr.cell? (hq 1)).symm.trans (hc 2 _ rfl)
   have hc3 : wr.cell? ⟨(ad.add (k * 8)).block, (ad.add (k * 8)).off + 3, none⟩ = some (.int .i64 den) := (congrArg wr.cell? (hq 2)).symm.trans (hc 3 _ rfl)
   have hc4 : wr.cell? ⟨(ad.add (k * 8)).block, (ad.add (k * 8)).off + 4, none⟩ = some (.int .i64 add) := (congrArg wr.cell? (hq 3)).symm.trans (hc 4 _ rfl)
   have hc5 : wr.cell? ⟨(ad.add (k * 8)).block, (ad.add (k * 8)).off + 5, none⟩ = some (.slice F 4002 fc) := (congrArg wr.cell? (hq 4)).symm.trans (hc 5 _ rfl)
   have hc6 : wr.cell? ⟨(ad.add (k * 8)).block, (ad.add (k * 8)).off + 6, none⟩ = some (.map (some M)) := (congrArg wr.cell? (hq 5)).symm.trans (hc 6 _ rfl)
   have hc7 : wr.cell? ⟨(ad.add (k * 8)).block, (ad.add (k * 8)).off + 7, none⟩ = some (.int .i64 ys[k]) := (congrArg wr.cell? (hq 6)).symm.trans (hc 7 _ rfl)
   have hstep : ys.take (k + 1) = ys.take k ++ [ys[k]] := List.take_succ_eq_append_getElem hkl
   have HST := Lib.hid hstep
   generalize ys[k] = yk at *
   have g2 := fr_alloc (fr_refl wr) (.cells #[.int .i64 e, .slice A n c, .int .i64 num, .int .i64 den, .int .i64 add, .slice F 4002 fc, .map (some M), .int .i64 yk] 113)
   clear hc hrow hq hstep
   have hlenx : (ys.take k).length < 1000000 := by simp; omega
   go_wp2_with (at_builtin; refine app_int_at rfl (.tmp 46) (.tmp 49) rfl w5.heap.size (wr.heap.size + 1) (by simp) _ (ys.take k) rfl rfl (hown.keep g2) hlenx (by have := hex.size; simp; omega) ?_; intro B0 cap0 wy hown' hg)
   have hge := own_ge (hown.keep g2)
   refine ⟨⟨k + 1, hlt, rfl, by rw [HST.out]; rw [List.length_take] at hown'; exact hown', ((hex.alloc _).alloc _).grown hg (fun i hi => Or.inr (hge i hi))⟩, ?_⟩
   simp [intOf]; omega
  ·obtain rfl : k = nl := by omega
   have hT : ys.take k = ys := List.take_of_length_le (by have := HNL.out; omega)
   rw [hT] at hown
   obtain ⟨B, b, rfl⟩ := hown.form
   go_wp2_with fail
   go_ret2
   obtain rfl := HYS.out
   have hfin : Below w.heap.size w wr := hex.toBelow HFR.out (fun _ h => h.elim) HFR.out.size
   exact ⟨B, b, rfl, hown.rd, hfin⟩

set_option maxRecDepth 100000 in
set_option maxHeartbeats 4000000 in
theorem Years_bad (A L : Option Addr) (n c lc : Nat) (cs : List Int) (e num den add y z : Int) (l : List Fact) (w : World) (hr : Rd w A n cs) (hn : n ≤ 9223372036854775807) (hL : RdS w L 4 (l.map Fact.row)) (hln : l.length ≤ 9223372036854775807) (hbad : calOk e cs = false ∨ moonB num den add = false ∨ factsB l = false ∨ rangeB y z = false) :
  Calls Tryz.prog 32 #[.agg #[.int .i64 e, .slice A n c], .agg #[.int .i64 num, .int .i64 den, .int .i64 add], .slice L l.length lc, .int .i64 y, .int .i64 z] w fun e' w' =>
   e' = .returned (.tuple #[.slice none 0 0, .int .i64 2]) ∧ Below w.heap.size w w' := by
 have g1 := fr_alloc (fr_alloc (fr_refl w) (.cells #[.int .i64 e, .slice A n c] 24)) (.cells #[.int .i64 num, .int .i64 den, .int .i64 add] 26)
 cases hok : calOk e cs
 ·go_enter Tryz.func32, Tryz.ntmps32
  go_wp2_with fail
  refine (isCalendar_is A n c cs e _ (hr.keep g1) hn _ hok).mono ?_
  rintro e' w1 ⟨rfl, hb1⟩
  go_wp2_with fail
  go_ret2
  exact ⟨rfl, fr_call g1 hb1⟩
 ·cases hmb : moonB num den add
  ·go_enter Tryz.func32, Tryz.ntmps32
   go_wp2_with fail
   refine (isCalendar_is A n c cs e _ (hr.keep g1) hn _ hok).mono ?_
   rintro e' w1 ⟨rfl, hb1⟩
   obtain ⟨hc_w1, hf_w1⟩ := bcell hb1
   have hz0_w1 : w.heap.size < w1.heap.size := Nat.lt_of_lt_of_le (by first | omega | (simp; done) | (simp; omega)) hb1.size
   have hz1_w1 : w.heap.size + 1 < w1.heap.size := Nat.lt_of_lt_of_le (by first | omega | (simp; done) | (simp; omega)) hb1.size
   go_wp2_with fail
   refine (isMoon_is _ _ _ _ _ hmb).mono ?_
   rintro e' w2 ⟨rfl, hb2⟩
   go_wp2_with fail
   go_ret2
   exact ⟨rfl, fr_call (fr_call g1 hb1) hb2⟩
  ·cases hl : factsB l
   ·go_enter Tryz.func32, Tryz.ntmps32
    go_wp2_with fail
    refine (isCalendar_is A n c cs e _ (hr.keep g1) hn _ hok).mono ?_
    rintro e' w1 ⟨rfl, hb1⟩
    obtain ⟨hc_w1, hf_w1⟩ := bcell hb1
    have hz0_w1 : w.heap.size < w1.heap.size := Nat.lt_of_lt_of_le (by first | omega | (simp; done) | (simp; omega)) hb1.size
    have hz1_w1 : w.heap.size + 1 < w1.heap.size := Nat.lt_of_lt_of_le (by first | omega | (simp; done) | (simp; omega)) hb1.size
    go_wp2_with fail
    refine (isMoon_is _ _ _ _ _ hmb).mono ?_
    rintro e' w2 ⟨rfl, hb2⟩
    obtain ⟨hc_w2, hf_w2⟩ := bcell hb2
    have hz0_w2 : w.heap.size < w2.heap.size := Nat.lt_of_lt_of_le (by first | omega | (simp; done) | (simp; omega)) hb2.size
    have hz1_w2 : w.heap.size + 1 < w2.heap.size := Nat.lt_of_lt_of_le (by first | omega | (simp; done) | (simp; omega)) hb2.size
    go_wp2_with fail
    refine (areFacts_is L lc l _ (((hL.keep g1).keep hb1).keep hb2) hln).mono ?_
    rintro e' w3 ⟨rfl, hb3⟩
    rw [hl]
    go_wp2_with fail
    go_ret2
    exact ⟨rfl, fr_call (fr_call (fr_call g1 hb1) hb2) hb3⟩
   ·have hyb : rangeB y z = false := by
     rcases hbad with h | h | h | h
     ·rw [hok] at h; cases h
     ·rw [hmb] at h; cases h
     ·rw [hl] at h; cases h
     ·exact h
    go_enter Tryz.func32, Tryz.ntmps32
    go_wp2_with fail
    refine (isCalendar_is A n c cs e _ (hr.keep g1) hn _ hok).mono ?_
    rintro e' w1 ⟨rfl, hb1⟩
    obtain ⟨hc_w1, hf_w1⟩ := bcell hb1
    have hz0_w1 : w.heap.size < w1.heap.size := Nat.lt_of_lt_of_le (by first | omega | (simp; done) | (simp; omega)) hb1.size
    have hz1_w1 : w.heap.size + 1 < w1.heap.size := Nat.lt_of_lt_of_le (by first | omega | (simp; done) | (simp; omega)) hb1.size
    go_wp2_with fail
    refine (isMoon_is _ _ _ _ _ hmb).mono ?_
    rintro e' w2 ⟨rfl, hb2⟩
    obtain ⟨hc_w2, hf_w2⟩ := bcell hb2
    have hz0_w2 : w.heap.size < w2.heap.size := Nat.lt_of_lt_of_le (by first | omega | (simp; done) | (simp; omega)) hb2.size
    have hz1_w2 : w.heap.size + 1 < w2.heap.size := Nat.lt_of_lt_of_le (by first | omega | (simp; done) | (simp; omega)) hb2.size
    go_wp2_with fail
    refine (areFacts_is L lc l _ (((hL.keep g1).keep hb1).keep hb2) hln).mono ?_
    rintro e' w3 ⟨rfl, hb3⟩
    rw [hl]
    go_wp2_with fail
    refine (isRange_is _ _ _ _ hyb).mono ?_
    rintro e' w3' ⟨rfl, rfl⟩
    go_wp2_with fail
    go_ret2
    exact ⟨rfl, fr_call (fr_call (fr_call g1 hb1) hb2) hb3⟩

end Go.Proofs.YthjblcboainknaaGreatDoor
end
