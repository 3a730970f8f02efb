/- Walks: Days at what is not as defined; Age. The map of the days of Easter that were found: keyed by a date. Walk: the day of Easter of a year. Walk: Easter. -/
import Derived.Test.YthjblcboainknaaGreatDoorMBL
section
namespace Go.Proofs.YthjblcboainknaaGreatDoor
open Go.RowKit Dl

set_option maxRecDepth 100000 in
set_option maxHeartbeats 2000000 in
theorem Days_bad (A1 A2 : Option Addr) (n1 k1 n2 k2 : Nat) (c1 c2 : List Int) (e1 e2 last y m d : Int) (w : World) (hr1 : Rd w A1 n1 c1) (hr2 : Rd w A2 n2 c2) (hn1 : n1 ≤ 9223372036854775807) (hn2 : n2 ≤ 9223372036854775807)
  (hok : realmOk e1 c1 e2 c2 last = false ∨ writtenB y m d = false) :
  Calls Tryz.prog 25 #[.agg #[.int .i64 e1, .slice A1 n1 k1, .int .i64 e2, .slice A2 n2 k2, .int .i64 last], .agg #[.int .i64 y, .int .i64 m, .int .i64 d]] w fun e' w' =>
   e' = .returned (.tuple #[.slice none 0 0, .int .i64 2]) ∧ Below w.heap.size w w' := by
 have g1 := fr_alloc (fr_alloc (fr_refl w) (.cells #[.int .i64 e1, .slice A1 n1 k1, .int .i64 e2, .slice A2 n2 k2, .int .i64 last] 55)) (.cells #[.int .i64 y, .int .i64 m, .int .i64 d] 50)
 cases hc : realmOk e1 c1 e2 c2 last
 ·go_enter Tryz.func25, Tryz.ntmps25
  go_wp2_with fail
  refine (isRealm_is A1 A2 n1 k1 n2 k2 c1 c2 e1 e2 last _ (hr1.keep g1) (hr2.keep g1) hn1 hn2 _ hc).mono ?_
  rintro e' w1 ⟨rfl, hb1⟩
  go_wp2_with fail
  go_ret2
  exact ⟨rfl, fr_call g1 hb1⟩
 ·have hw : writtenB y m d = false := by
   rcases hok with h | h
   ·rw [hc] at h; cases h
   ·exact h
  cases h1 : inB y 0 4000
  ·go_enter Tryz.func25, Tryz.ntmps25
   go_wp2_with fail
   refine (isRealm_is A1 A2 n1 k1 n2 k2 c1 c2 e1 e2 last _ (hr1.keep g1) (hr2.keep g1) hn1 hn2 _ hc).mono ?_
   rintro e' w1 ⟨rfl, hb1⟩
   obtain ⟨hc_w1, hf_w1⟩ := bcell hb1
   have hz0_w1 : w.heap.size < w1.heap.size := Nat.lt_of_lt_of_le (by first | omega | (simp; done) | (simp; omega)) hb1.size
   have hz1_w1 : w.heap.size + 1 < w1.heap.size := Nat.lt_of_lt_of_le (by first | omega | (simp; done) | (simp; omega)) hb1.size
   go_wp2_with fail
   refine (isYear_is _ _ _ h1).mono ?_
   rintro e' w1' ⟨rfl, rfl⟩
   go_wp2_with fail
   go_ret2
   exact ⟨rfl, fr_call g1 hb1⟩
  ·cases h2 : inB m 1 12
   ·go_enter Tryz.func25, Tryz.ntmps25
    go_wp2_with fail
    refine (isRealm_is A1 A2 n1 k1 n2 k2 c1 c2 e1 e2 last _ (hr1.keep g1) (hr2.keep g1) hn1 hn2 _ hc).mono ?_
    rintro e' w1 ⟨rfl, hb1⟩
    obtain ⟨hc_w1, hf_w1⟩ := bcell hb1
    have hz0_w1 : w.heap.size < w1.heap.size := Nat.lt_of_lt_of_le (by first | omega | (simp; done) | (simp; omega)) hb1.size
    have hz1_w1 : w.heap.size + 1 < w1.heap.size := Nat.lt_of_lt_of_le (by first | omega | (simp; done) | (simp; omega)) hb1.size
    go_wp2_with fail
    refine (isYear_is _ _ _ h1).mono ?_
    rintro e' w1' ⟨rfl, rfl⟩
    go_wp2_with fail
    refine (in_is _ _ _ _ _ h2).mono ?_
    rintro e' w1' ⟨rfl, rfl⟩
    go_wp2_with fail
    go_ret2
    exact ⟨rfl, fr_call g1 hb1⟩
   ·have h3 : inB d 1 31 = false := by
     unfold writtenB at hw
     rw [h1, h2] at hw
     simpa using hw
    go_enter Tryz.func25, Tryz.ntmps25
    go_wp2_with fail
    refine (isRealm_is A1 A2 n1 k1 n2 k2 c1 c2 e1 e2 last _ (hr1.keep g1) (hr2.keep g1) hn1 hn2 _ hc).mono ?_
    rintro e' w1 ⟨rfl, hb1⟩
    obtain ⟨hc_w1, hf_w1⟩ := bcell hb1
    have hz0_w1 : w.heap.size < w1.heap.size := Nat.lt_of_lt_of_le (by first | omega | (simp; done) | (simp; omega)) hb1.size
    have hz1_w1 : w.heap.size + 1 < w1.heap.size := Nat.lt_of_lt_of_le (by first | omega | (simp; done) | (simp; omega)) hb1.size
    go_wp2_with fail
    refine (isYear_is _ _ _ h1).mono ?_
    rintro e' w1' ⟨rfl, rfl⟩
    go_wp2_with fail
    refine (in_is _ _ _ _ _ h2).mono ?_
    rintro e' w1' ⟨rfl, rfl⟩
    go_wp2_with fail
    refine (in_is _ _ _ _ _ h3).mono ?_
    rintro e' w1' ⟨rfl, rfl⟩
    go_wp2_with fail
    go_ret2
    exact ⟨rfl, fr_call g1 hb1⟩

end Go.Proofs.YthjblcboainknaaGreatDoor
end

section
namespace Go.Proofs.YthjblcboainknaaGreatDoor
open Go.RowKit Dl

/-- the key of a year -/
def ekey (y : Int) : Value := .agg #[.int .i64 y, .int .i64 3, .int .i64 21]
theorem ekey_inj {y z : Int} (h : ekey y = ekey z) : y = z := by
 unfold ekey at h
 injection h with h
 simpa using h

theorem check_key (y : Int) (b : Bool) (w : World) : (Instr.checkKey b 10000 50 (ekey y)).run Tryz.prog w = .ok () w := by kernel_rfl
theorem fields_date : (Tryz.prog.fieldsOf 50).toList.map (fun f => (f.name, f.type, f.offset)) = [("Year", 3, 0), ("Month", 3, 1), ("Day", 3, 2)] := by kernel_rfl
theorem und_date : Tryz.prog.underlying 50 = some (.struct (Tryz.prog.fieldsOf 50)) := by kernel_rfl
theorem stood_date : Tryz.prog.stoodInHeld 50 = false := by kernel_rfl
theorem part_key0 (y : Int) (w : World) : (part 3 #[.int .i64 y, .int .i64 3, .int .i64 21] 0).run Tryz.prog w = .ok (.int .i64 y) w := by kernel_rfl
theorem part_key1 (y : Int) (w : World) : (part 3 #[.int .i64 y, .int .i64 3, .int .i64 21] 1).run Tryz.prog w = .ok (.int .i64 3) w := by kernel_rfl
theorem part_key2 (y : Int) (w : World) : (part 3 #[.int .i64 y, .int .i64 3, .int .i64 21] 2).run Tryz.prog w = .ok (.int .i64 21) w := by kernel_rfl
theorem eq_key (y z : Int) (w : World) : (Op.equal 50 (ekey y) (ekey z)).run Tryz.prog w = .ok (y == z) w := by
 have hf := fields_date
 unfold ekey Op.equal Op.maxDepth
 rw [run_equalIn_agg w 9999 _ _ _ und_date stood_date]
 generalize (Tryz.prog.fieldsOf 50).toList = fs at hf
 have hl : fs.length = 3 := by have := congrArg List.length hf; simpa using this
 match fs, hl, hf with
 | [f0, f1, f2], _, hf =>
  simp only [List.map_cons, List.map_nil, List.cons.injEq, Prod.mk.injEq] at hf
  obtain ⟨⟨n0, t0, o0⟩, ⟨n1, t1, o1⟩, ⟨n2, t2, o2⟩, _⟩ := hf
  have ei : ∀ (a b : Int) (w : World), (Op.equalIn 9999 3 (.int .i64 a) (.int .i64 b)).run Tryz.prog w = .ok (a == b) w := fun a b w => run_equalIn_int w 9998 _ _ _ a b Tryz.underlying3
  simp only [Op.eqFields, n0, n1, n2, t0, t1, t2, o0, o1, o2, Sem.run_bind, Sem.run_ite, part_key0, part_key1, part_key2, Result.andThen_ok, ei, Sem.run_pure]
  cases hyz : (y == z) <;> simp

/-- the map at block M holds days of years, as f says -/
def EMap (w : World) (M : Nat) (f : Int → Int) : Prop := ∃ es clock, w.heap[M]? = some (.map es clock) ∧ ∀ x ∈ es.toList, ∃ y, x.key = ekey y ∧ x.val = .int .i64 (f y)
/-- .. and none of year y -/
def EMapNo (w : World) (M : Nat) (f : Int → Int) (y : Int) : Prop := ∃ es clock, w.heap[M]? = some (.map es clock) ∧ ∀ x ∈ es.toList, ∃ z, z ≠ y ∧ x.key = ekey z ∧ x.val = .int .i64 (f z)
theorem EMapNo.weak {w : World} {M : Nat} {f : Int → Int} {y : Int} (h : EMapNo w M f y) : EMap w M f := by
 obtain ⟨es, clock, hb, hx⟩ := h
 exact ⟨es, clock, hb, fun x hm => by obtain ⟨z, _, h1, h2⟩ := hx x hm; exact ⟨z, h1, h2⟩⟩
theorem heap_lt {w : World} {M : Nat} {o : Obj} (h : w.heap[M]? = some o) : M < w.heap.size := by
 rcases Nat.lt_or_ge M w.heap.size with hlt | hge
 ·exact hlt
 ·rw [Array.getElem?_eq_none hge] at h; cases h
theorem EMap.lt {w : World} {M : Nat} {f : Int → Int} (h : EMap w M f) : M < w.heap.size := by obtain ⟨es, clock, hb, _⟩ := h; exact heap_lt hb
theorem EMap.keep {w w' : World} {M : Nat} {f : Int → Int} (h : EMap w M f) (hb : Below w.heap.size w w') : EMap w' M f := by
 obtain ⟨es, clock, hm, hx⟩ := h
 exact ⟨es, clock, (hb.block M (heap_lt hm)).trans hm, hx⟩
theorem EMapNo.keep {w w' : World} {M : Nat} {f : Int → Int} {y : Int} (h : EMapNo w M f y) (hb : Below w.heap.size w w') : EMapNo w' M f y := by
 obtain ⟨es, clock, hm, hx⟩ := h
 exact ⟨es, clock, (hb.block M (heap_lt hm)).trans hm, hx⟩
theorem EMap.empty {w : World} {M : Nat} (f : Int → Int) (h : w.heap[M]? = some (.map #[] 0)) : EMap w M f := ⟨#[], 0, h, fun x hx => by simp at hx⟩

theorem findAsking_run (f : Int → Int) (y : Int) (w : World) : ∀ (es : List MapEntry) (i : Nat), (∀ x ∈ es, ∃ z, x.key = ekey z ∧ x.val = .int .i64 (f z)) →
  ((Instr.findAsking 50 (ekey y) es i).run Tryz.prog w = .ok none w ∧ ∀ x ∈ es, ∃ z, z ≠ y ∧ x.key = ekey z ∧ x.val = .int .i64 (f z)) ∨
  ∃ j, (Instr.findAsking 50 (ekey y) es i).run Tryz.prog w = .ok (some (j, .int .i64 (f y))) w := by
 intro es
 induction es with
 | nil => intro i _; exact .inl ⟨rfl, fun x hx => by cases hx⟩
 | cons x es ih =>
  intro i h
  obtain ⟨z, hk, hv⟩ := h x (by simp)
  by_cases hyz : y = z
  ·subst hyz
   right
   refine ⟨i, ?_⟩
   simp only [Instr.findAsking, Sem.run_bind, hk, eq_key, Result.andThen_ok, hv]
   simp
  ·rcases ih (i + 1) (fun x' hx' => h x' (by simp [hx'])) with ⟨h1, h2⟩ | ⟨j, h1⟩
   ·left
    refine ⟨?_, fun x' hx' => ?_⟩
    ·simp only [Instr.findAsking, Sem.run_bind, hk, eq_key, Result.andThen_ok]
     simp [hyz, h1]
    ·rcases List.mem_cons.1 hx' with rfl | hx'
     ·exact ⟨z, fun e => hyz e.symm, hk, hv⟩
     ·exact h2 x' hx'
   ·right
    refine ⟨j, ?_⟩
    simp only [Instr.findAsking, Sem.run_bind, hk, eq_key, Result.andThen_ok]
    simp [hyz, h1]

theorem findKey_run (f : Int → Int) (y : Int) (w : World) (es : List MapEntry) (h : ∀ x ∈ es, ∃ z, x.key = ekey z ∧ x.val = .int .i64 (f z)) :
  ((Instr.findKey 50 (ekey y) es).run Tryz.prog w = .ok none w ∧ ∀ x ∈ es, ∃ z, z ≠ y ∧ x.key = ekey z ∧ x.val = .int .i64 (f z)) ∨
  ∃ j, (Instr.findKey 50 (ekey y) es).run Tryz.prog w = .ok (some (j, .int .i64 (f y))) w := by
 have hfk : (Instr.findKey 50 (ekey y) es).run Tryz.prog w = (Instr.findAsking 50 (ekey y) es).run Tryz.prog w := by
  unfold Instr.findKey
  rw [Sem.run_bind, run_underlying und_date w, Result.andThen_ok]
  cases es with
  | nil => rfl
  | cons x es => simp [Instr.findNow, Instr.sameNow]
 rw [hfk]
 exact findAsking_run f y w es 0 h

theorem zero_int (w : World) : (zeroValue 3).run Tryz.prog w = .ok (.int .i64 0) w := by kernel_rfl
theorem lookup_run {f : Int → Int} {y : Int} {w : World} {M : Nat} (h : EMap w M f) :
  (Instr.lookup 87 (.map (some M)) (ekey y) true).run Tryz.prog w = .ok (.tuple #[.int .i64 (f y), .bool true]) w ∨
  ((Instr.lookup 87 (.map (some M)) (ekey y) true).run Tryz.prog w = .ok (.tuple #[.int .i64 0, .bool false]) w ∧ EMapNo w M f y) := by
 obtain ⟨es, clock, hb, hx⟩ := h
 have hget : (getObj M).run Tryz.prog w = .ok (.map es clock) w := by simp [getObj, Sem.run, hb]
 rcases findKey_run f y w es.toList hx with ⟨h1, h2⟩ | ⟨j, h1⟩
 ·right
  refine ⟨?_, es, clock, hb, h2⟩
  unfold Instr.lookup
  simp only [Sem.run_bind, run_underlying Tryz.underlying87 w, Result.andThen_ok, hget, Sem.run_pure, check_key, h1, zero_int, if_true]
 ·left
  unfold Instr.lookup
  simp only [Sem.run_bind, run_underlying Tryz.underlying87 w, Result.andThen_ok, hget, Sem.run_pure, check_key, h1, if_true]

theorem update_run {f : Int → Int} {y : Int} {w : World} {M : Nat} (h : EMapNo w M f y) :
  ∃ w', (Instr.mapUpdate 87 (.map (some M)) (ekey y) (.int .i64 (f y))).run Tryz.prog w = .ok () w' ∧ EMap w' M f ∧ w.grownBy w' (some M) := by
 obtain ⟨es, clock, hb, hx⟩ := h
 have hget : (getObj M).run Tryz.prog w = .ok (.map es clock) w := by simp [getObj, Sem.run, hb]
 have hlt := heap_lt hb
 have hset : ∀ o, (setObj M o).run Tryz.prog w = .ok () { w with heap := w.heap.setIfInBounds M o } := fun o => by simp [setObj, Sem.run, hb]
 have hfk : (Instr.findKey 50 (ekey y) es.toList).run Tryz.prog w = .ok none w := by
  rcases findKey_run f y w es.toList (fun x hm => by obtain ⟨z, _, a, b⟩ := hx x hm; exact ⟨z, a, b⟩) with ⟨h1, _⟩ | ⟨j, h1⟩
  ·exact h1
  ·exfalso
   have key : ∀ (l : List MapEntry) (i : Nat), (∀ x ∈ l, ∃ z, z ≠ y ∧ x.key = ekey z ∧ x.val = .int .i64 (f z)) → (Instr.findAsking 50 (ekey y) l i).run Tryz.prog w = .ok none w := by
    intro l
    induction l with
    | nil => intro i _; rfl
    | cons x l ih =>
     intro i hl
     obtain ⟨z, hz, hk, hv⟩ := hl x (by simp)
     simp only [Instr.findAsking, Sem.run_bind, hk, eq_key, Result.andThen_ok]
     simp [Ne.symm hz, ih (i + 1) (fun x' hx' => hl x' (by simp [hx']))]
   have h2 := key es.toList 0 hx
   have hfk2 : (Instr.findKey 50 (ekey y) es.toList).run Tryz.prog w = (Instr.findAsking 50 (ekey y) es.toList 0).run Tryz.prog w := by
    unfold Instr.findKey
    rw [Sem.run_bind, run_underlying und_date w, Result.andThen_ok]
    cases es.toList with
    | nil => rfl
    | cons x es => simp [Instr.findNow, Instr.sameNow, ekey]
   rw [hfk2, h2] at h1
   cases h1
 refine ⟨{ w with heap := w.heap.setIfInBounds M (.map (es.push { key := ekey y, val := .int .i64 (f y), born := clock }) (clock + 1)) }, ?_, ⟨es.push { key := ekey y, val := .int .i64 (f y), born := clock }, clock + 1, ?_, ?_⟩, ?_⟩
 rotate_left
 ·show (w.heap.setIfInBounds M (.map (es.push { key := ekey y, val := .int .i64 (f y), born := clock }) (clock + 1)))[M]? = _
  rw [Array.getElem?_setIfInBounds_self_of_lt hlt]
 ·intro x hm
  rw [Array.toList_push, List.mem_append] at hm
  rcases hm with hm | hm
  ·obtain ⟨z, _, a, b⟩ := hx x hm
   exact ⟨z, a, b⟩
  ·simp at hm
   subst hm
   exact ⟨y, rfl, rfl⟩
 ·refine ⟨rfl, rfl, rfl, by simp, fun k hk hne => ?_⟩
  show (w.heap.setIfInBounds M _)[k]? = _
  rw [Array.getElem?_setIfInBounds_ne (fun e => hne (by rw [e]))]
 ·unfold Instr.mapUpdate
  simp only [Sem.run_bind, run_underlying Tryz.underlying87 w, Result.andThen_ok, hget, check_key, hfk, hset]
end Go.Proofs.YthjblcboainknaaGreatDoor
end

section
namespace Go.Proofs.YthjblcboainknaaGreatDoor
open Go.RowKit Dl

/-- the day of Easter of a year -/
def easterDay (e : Int) (cs : List Int) (num den add y : Int) : Int :=
 fullOf num den add (dayOf e cs ⟨y, 3, 21⟩) + 7 - wkd (fullOf num den add (dayOf e cs ⟨y, 3, 21⟩))

theorem march_bounds (e : Int) (cs : List Int) (y : Int) (he : 0 ≤ e ∧ e ≤ 1000) (hy : 0 ≤ y ∧ y ≤ 4000) : 0 ≤ dayOf e cs ⟨y, 3, 21⟩ ∧ dayOf e cs ⟨y, 3, 21⟩ ≤ 2000000 := by
 have := firstDay_bounds e cs y hy.1
 have := cum_bounds (leapB cs y) 3 (by omega) (by omega)
 unfold dayOf
 simp only
 omega

set_option maxRecDepth 100000 in
set_option maxHeartbeats 4000000 in
theorem sunday_any (A F : Option Addr) (n c fc M : Nat) (cs : List Int) (e num den add y : Int) (w : World) (hr : Rd w A n cs) (hn : n ≤ 3) (hpos : Cyc cs) (hF : Rd w F 4002 (firsts e cs))
  (he : 0 ≤ e ∧ e ≤ 1000) (hm : MoonOk num den add) (hy : 0 ≤ y ∧ y ≤ 4000) (hE : EMap w M (easterDay e cs num den add)) :
  Calls Tryz.prog 63 #[.agg #[.int .i64 e, .slice A n c, .int .i64 num, .int .i64 den, .int .i64 add, .slice F 4002 fc, .map (some M)], .int .i64 y] w fun e' w' =>
   e' = .returned (.int .i64 (easterDay e cs num den add y)) ∧ EMap w' M (easterDay e cs num den add) ∧ w.grownBy w' (some M) := by
 have g1 := fr_alloc (fr_alloc (fr_refl w) (.cells #[.int .i64 e, .slice A n c, .int .i64 num, .int .i64 den, .int .i64 add, .slice F 4002 fc, .map (some M)] 89)) (.cells #[.int .i64 y, .int .i64 3, .int .i64 21] 50)
 have hB : Blk ((w.alloc (.cells #[.int .i64 e, .slice A n c, .int .i64 num, .int .i64 den, .int .i64 add, .slice F 4002 fc, .map (some M)] 89)).alloc (.cells #[.int .i64 y, .int .i64 3, .int .i64 21] 50)) w.heap.size 89 #[.int .i64 e, .slice A n c, .int .i64 num, .int .i64 den, .int .i64 add, .slice F 4002 fc, .map (some M)] := (Blk.new w _ _).alloc _
 have hD : Blk ((w.alloc (.cells #[.int .i64 e, .slice A n c, .int .i64 num, .int .i64 den, .int .i64 add, .slice F 4002 fc, .map (some M)] 89)).alloc (.cells #[.int .i64 y, .int .i64 3, .int .i64 21] 50)) (w.heap.size + 1) 50 #[.int .i64 y, .int .i64 3, .int .i64 21] := Blk.new_at _ _ (by simp)
 rcases lookup_run (y := y) (hE.keep g1) with hl | ⟨hl, hno⟩
 ·unfold ekey at hl
  have hfin : EMap ((w.alloc (.cells #[.int .i64 e, .slice A n c, .int .i64 num, .int .i64 den, .int .i64 add, .slice F 4002 fc, .map (some M)] 89)).alloc (.cells #[.int .i64 y, .int .i64 3, .int .i64 21] 50)) M (easterDay e cs num den add) ∧ w.grownBy ((w.alloc (.cells #[.int .i64 e, .slice A n c, .int .i64 num, .int .i64 den, .int .i64 add, .slice F 4002 fc, .map (some M)] 89)).alloc (.cells #[.int .i64 y, .int .i64 3, .int .i64 21] 50)) (some M) := ⟨hE.keep g1, grown_below (World.grownBy.refl w _) g1⟩
  have HF := Lib.hid hfin
  clear hfin hB hD
  generalize easterDay e cs num den add y = ed at *
  go_enter Tryz.func63, Tryz.ntmps63
  go_wp2
  go_ret
  exact ⟨rfl, HF.out⟩
 ·unfold ekey at hl
  have hmb := march_bounds e cs y he hy
  have hfb := full_bounds hm (dayOf e cs ⟨y, 3, 21⟩)
  have hag := age_full hm (dayOf e cs ⟨y, 3, 21⟩)
  have hnf := not_full hm (dayOf e cs ⟨y, 3, 21⟩)
  have hed : easterDay e cs num den add y = fullOf num den add (dayOf e cs ⟨y, 3, 21⟩) + 7 - wkd (fullOf num den add (dayOf e cs ⟨y, 3, 21⟩)) := rfl
  have HED := Lib.hid hed
  clear hed
  have hd21 : (1 : Int) ≤ 21 ∧ (21 : Int) ≤ 31 := by omega
  have hm3 : (1 : Int) ≤ 3 ∧ (3 : Int) ≤ 12 := by omega
  go_enter Tryz.func63, Tryz.ntmps63
  go_wp2_with fail
  refine (day_any A F n c fc cs e _ _ _ _ y 3 21 _ (hr.keep g1) hn hpos (hF.keep g1) he hy hm3 hd21).mono ?_
  generalize dayOf e cs ⟨y, 3, 21⟩ = mar at *
  generalize hfu : fullOf num den add mar = fu at *
  clear hfu
  rintro e' w1 ⟨rfl, hb1⟩
  have g2 := fr_call g1 hb1
  have hB1 := hB.keep hb1
  have hD1 := hD.keep hb1
  have hno1 := hno.keep hb1
  clear hl hB hD hno
  go_wp2_with fail
  generalize hf : easterDay e cs num den add = f at *
  have HFF := Lib.hid hf
  clear hf
  go_loopw [8] (fun v wr => ∃ j : Int, mar ≤ j ∧ j ≤ fu ∧ v = .int .i64 j ∧ Blk wr w.heap.size 89 #[.int .i64 e, .slice A n c, .int .i64 num, .int .i64 den, .int .i64 add, .slice F 4002 fc, .map (some M)] ∧ Blk wr (w.heap.size + 1) 50 #[.int .i64 y, .int .i64 3, .int .i64 21] ∧
    EMapNo wr M f y ∧ Below w.heap.size w wr) (fun v _ => (fu - intOf v).toNat)
  case atStart => exact ⟨mar, by omega, by omega, rfl, hB1, hD1, hno1, g2⟩
  case round =>
   clear hB1 hD1 hno1 g2 hb1
   obtain ⟨j, hj1, hj2, rfl, hB1, hD1, hno1, g2⟩ := hrel
   have hcB := fun i => hB1.cell i
   by_cases hlt : j < fu
   ·have hne := hnf j hj1 hlt
    have hag' : (ageOf num den add j != 13) = true := by simpa using hne
    clear hne hnf hag
    go_wp2_with fail
    refine (age_any num den add j _ hm (by omega) (by omega)).mono ?_
    generalize ageOf num den add j = ag at *
    rintro e' w2 ⟨rfl, hb2⟩
    have g3 := fr_call g2 hb2
    have hB2 := hB1.keep hb2
    have hD2 := hD1.keep hb2
    have hno2 := hno1.keep hb2
    clear hcB hB1 hD1 hno1 g2 hb2
    go_wp2
    go_roundw
    case rel => exact ⟨j + 1, by omega, by omega, rfl, hB2, hD2, hno2, g3⟩
    case measure => simp [intOf]; omega
   ·obtain rfl : j = fu := by omega
    clear hnf
    go_wp2_with fail
    refine (age_any num den add j _ hm (by omega) (by omega)).mono ?_
    rw [hag]
    clear hag
    rintro e' w2 ⟨rfl, hb2⟩
    have g3 := fr_call g2 hb2
    have hB2 := hB1.keep hb2
    have hD2 := hD1.keep hb2
    have hno2 := hno1.keep hb2
    clear hcB hB1 hD1 hno1 g2 hb2
    have hcB := fun i => hB2.cell i
    have hcD := fun i => hD2.cell i
    go_wp2_with fail
    refine (weekday_any _ _ (by omega) (by omega)).mono ?_
    have hwk : 0 ≤ wkd j ∧ wkd j ≤ 6 := by unfold wkd; omega
    generalize hq : wkd j = wk at *
    clear hq
    rintro e' w2' ⟨rfl, rfl⟩
    have hw1 : IntKind.i64.wrap (7 - wk) = 7 - wk := IntWalk.i64_in _ (by omega)
    have hw2 : IntKind.i64.wrap (j + (7 - wk)) = j + (7 - wk) := IntWalk.i64_in _ (by omega)
    have hed : j + (7 - wk) = f y := by rw [HED.out]; omega
    obtain ⟨w3, hup, hE3, hg3⟩ := update_run hno2
    rw [← hed] at hup
    unfold ekey at hup
    have HE := Lib.hid hed
    clear hed hw1
    go_wp2
    go_ret
    obtain rfl := HFF.out
    exact ⟨ret_int HE.out, hE3, below_grown g3 hg3⟩
end Go.Proofs.YthjblcboainknaaGreatDoor
end

section
namespace Go.Proofs.YthjblcboainknaaGreatDoor
open Go.RowKit Dl

theorem EMap.ne_blk {w : World} {M g : Nat} {f : Int → Int} {t : TypeId} {cs : Array Value} (h : EMap w M f) (hB : Blk w g t cs) : g ≠ M := by
 obtain ⟨es, clock, hm, _⟩ := h
 rintro rfl
 unfold Blk at hB
 rw [hm] at hB
 cases hB
theorem Rd.farM {w w' : World} {A : Option Addr} {n M : Nat} {xs : List Int} {f : Int → Int} (h : Rd w A n xs) (hE : EMap w M f) (hg : w.grownBy w' (some M)) : Rd w' A n xs :=
 ⟨h.1, fun hn => by
  obtain ⟨ad, e, hlt, hc⟩ := h.2 hn
  have hne : ad.block ≠ M := by
   obtain ⟨es, clock, hm, _⟩ := hE
   intro e'
   have h0 := hc 0 hn
   unfold World.cell? at h0
   rw [block_of_add, e', hm] at h0
   cases h0
  exact ⟨ad, e, Nat.lt_of_lt_of_le hlt hg.size, fun j hj => (World.cell?_of_block (hg.block _ (by rw [block_of_add]; exact hlt) (by rw [block_of_add]; intro e'; cases e'; exact hne rfl))).trans (hc j hj)⟩⟩

theorem wkd_range (d : Int) : 0 ≤ wkd d ∧ wkd d ≤ 6 := by unfold wkd; omega
theorem easter_bounds {e : Int} {cs : List Int} {num den add y : Int} (hm : MoonOk num den add) :
  dayOf e cs ⟨y, 3, 21⟩ + 1 ≤ easterDay e cs num den add y ∧ easterDay e cs num den add y ≤ dayOf e cs ⟨y, 3, 21⟩ + 36 := by
 have := full_bounds hm (dayOf e cs ⟨y, 3, 21⟩)
 have := wkd_range (fullOf num den add (dayOf e cs ⟨y, 3, 21⟩))
 unfold easterDay
 omega
theorem easter_date {e : Int} {cs : List Int} {num den add y : Int} (hm : MoonOk num den add) (hy : 0 ≤ y ∧ y ≤ 4000) : ∃ x, dateOf e cs (easterDay e cs num den add y) = some x := by
 cases hx : dateOf e cs (easterDay e cs num den add y) with
 | some x => exact ⟨x, rfl⟩
 | none =>
  exfalso
  have hb := easter_bounds (e := e) (cs := cs) (y := y) hm
  have hf := firstDay_bounds e cs y hy.1
  have hs := firstDay_succ e cs y hy.1
  have hl := yearLen_pos cs y
  have h41 : firstDay e cs (y + 1) ≤ firstDay e cs 4001 := by
   by_cases h : y = 4000
   ·subst h; exact Int.le_refl _
   ·have := firstDay_mono e cs (a := y + 1) (b := 4001) (by omega) (by omega); omega
  have hc : dayOf e cs ⟨y, 3, 21⟩ = firstDay e cs y + cum (leapB cs y) 3 + 21 - 1 := rfl
  have hcb : cum (leapB cs y) 3 ≤ 60 ∧ 59 ≤ cum (leapB cs y) 3 := by cases leapB cs y <;> decide
  rcases dateOf_none.1 hx with h | h <;> omega

set_option maxRecDepth 100000 in
set_option maxHeartbeats 4000000 in
theorem Easter_ok (A : Option Addr) (n c : Nat) (cs : List Int) (e num den add y : Int) (x : Date) (w : World) (hr : Rd w A n cs) (hn : n ≤ 9223372036854775807) (hok : calOk e cs = true) (hmb : moonB num den add = true) (hyb : inB y 0 4000 = true)
  (hx : dateOf e cs (easterDay e cs num den add y) = some x) :
  Calls Tryz.prog 27 #[.agg #[.int .i64 e, .slice A n c], .agg #[.int .i64 num, .int .i64 den, .int .i64 add], .int .i64 y] w fun e' w' =>
   e' = .returned (.tuple #[.agg #[.int .i64 x.y, .int .i64 x.m, .int .i64 x.d], .int .i64 0]) ∧ Below w.heap.size w w' := by
 obtain ⟨he, ⟨hn1, hn2⟩, hpos⟩ := calOk_parts hok
 rw [hr.len] at hn1 hn2
 have hm := moonB_ok hmb
 have hy := inB_iff.1 hyb
 have g1 := fr_alloc (fr_alloc (fr_alloc (fr_refl w) (.cells #[.int .i64 e, .slice A n c] 24)) (.cells #[.int .i64 num, .int .i64 den, .int .i64 add] 26)) (.cells #[.int .i64 0, .int .i64 0, .int .i64 0] 50)
 have hZ : Blk (((w.alloc (.cells #[.int .i64 e, .slice A n c] 24)).alloc (.cells #[.int .i64 num, .int .i64 den, .int .i64 add] 26)).alloc (.cells #[.int .i64 0, .int .i64 0, .int .i64 0] 50)) (w.heap.size + 1 + 1) 50 #[.int .i64 0, .int .i64 0, .int .i64 0] := Blk.new_at _ _ (by simp)
 go_enter Tryz.func27, Tryz.ntmps27
 go_wp2_with fail
 refine (isCalendar_is A n c cs e _ (hr.keep g1) hn _ hok).mono ?_
 rintro e' w1 ⟨rfl, hb1⟩
 obtain ⟨hc_w1, hf_w1⟩ := bcell hb1
 have hz0_w1 : w.heap.size < w1.heap.size := Nat.lt_of_lt_of_le (by first | omega | (simp; done) | (simp; omega)) hb1.size
 have hz1_w1 : w.heap.size + 1 < w1.heap.size := Nat.lt_of_lt_of_le (by first | omega | (simp; done) | (simp; omega)) hb1.size
 have hz2_w1 : w.heap.size + 1 + 1 < w1.heap.size := Nat.lt_of_lt_of_le (by first | omega | (simp; done) | (simp; omega)) hb1.size
 go_wp2_with fail
 refine (isMoon_is _ _ _ _ _ hmb).mono ?_
 rintro e' w2 ⟨rfl, hb2⟩
 obtain ⟨hc_w2, hf_w2⟩ := bcell hb2
 have hz0_w2 : w.heap.size < w2.heap.size := Nat.lt_of_lt_of_le (by first | omega | (simp; done) | (simp; omega)) hb2.size
 have hz1_w2 : w.heap.size + 1 < w2.heap.size := Nat.lt_of_lt_of_le (by first | omega | (simp; done) | (simp; omega)) hb2.size
 have hz2_w2 : w.heap.size + 1 + 1 < w2.heap.size := Nat.lt_of_lt_of_le (by first | omega | (simp; done) | (simp; omega)) hb2.size
 go_wp2_with fail
 refine (isYear_is _ _ _ hyb).mono ?_
 rintro e' w2' ⟨rfl, rfl⟩
 go_wp2_with fail
 have hr2 := ((hr.keep g1).keep hb1).keep hb2
 refine (open_any A n c cs e num den add _ hr2 hok).mono ?_
 rintro e' w3 ⟨F, fc, M, rfl, hF, hM1, hM2, hb3, hFf⟩
 have hfr := fr_alloc (fr_call (fr_call (fr_call g1 hb1) hb2) hb3) (.cells #[.int .i64 e, .slice A n c, .int .i64 num, .int .i64 den, .int .i64 add, .slice F 4002 fc, .map (some M)] 89)
 have hr3 := (hr2.keep hb3).alloc (.cells #[.int .i64 e, .slice A n c, .int .i64 num, .int .i64 den, .int .i64 add, .slice F 4002 fc, .map (some M)] 89)
 have hF3 := hF.alloc (.cells #[.int .i64 e, .slice A n c, .int .i64 num, .int .i64 den, .int .i64 add, .slice F 4002 fc, .map (some M)] 89)
 have hE3 := (EMap.empty (easterDay e cs num den add) hM2).keep (fr_alloc (fr_refl w3) (.cells #[.int .i64 e, .slice A n c, .int .i64 num, .int .i64 den, .int .i64 add, .slice F 4002 fc, .map (some M)] 89))
 have hB3 := Blk.new w3 89 #[.int .i64 e, .slice A n c, .int .i64 num, .int .i64 den, .int .i64 add, .slice F 4002 fc, .map (some M)]
 have hZ3 := (((hZ.keep hb1).keep hb2).keep hb3).alloc (.cells #[.int .i64 e, .slice A n c, .int .i64 num, .int .i64 den, .int .i64 add, .slice F 4002 fc, .map (some M)] 89)
 have hMw : w.heap.size ≤ M := Nat.le_trans (Nat.le_trans (Nat.le_trans g1.size hb1.size) hb2.size) hM1
 go_wp2_with fail
 clear hc_w1 hf_w1 hc_w2 hf_w2 hb1 hb2 hb3 hM1 hM2 hF hr2 hZ
 generalize w3.alloc (.cells #[.int .i64 e, .slice A n c, .int .i64 num, .int .i64 den, .int .i64 add, .slice F 4002 fc, .map (some M)] 89) = w4 at *
 generalize w3.heap.size = b8 at *
 have hcB := fun j => hB3.cell j
 refine wp_region_noPanic ?_
 refine wp_region_held_drew (S := fun W => (∀ j, W.cell? ⟨b8, j, none⟩ = (#[.int .i64 e, .slice A n c, .int .i64 num, .int .i64 den, .int .i64 add, .slice F 4002 fc, .map (some M)] : Array Value)[j]?) ∧ w.heap.size ≤ W.heap.size) (by kernel_rfl) ⟨hcB, hfr.size⟩ (fun hHeld => ?_)
 -- the region, step by step
 refine wpAnyH_take (i := 0) (oi := ⟨some 26, .load 89 (.tmp 8), 89, "dial.go:298", #[], none⟩) (v := ?_) rfl (by kernel_rfl) (by kernel_rfl) (by kernel_rfl) (fun _ _ _ h => h) (Or.inl ⟨by rfl, fun W hSw => ?_⟩) hHeld ?_
 rotate_left
 ·(try dsimp only at hSw); go_simp; (try with_reducible rfl)
 (try simp only [Act.put, List.setIfInBounds_toArray, List.set_cons_zero, List.set_cons_succ])
 refine wpAnyH_take (i := 1) (oi := ⟨some 27, .load 89 (.tmp 8), 89, "dial.go:298", #[], none⟩) (v := ?_) rfl (by kernel_rfl) (by kernel_rfl) (by kernel_rfl) (fun _ _ _ h => h) (Or.inl ⟨by rfl, fun W hSw => ?_⟩) hHeld ?_
 rotate_left
 ·(try dsimp only at hSw); go_simp; (try with_reducible rfl)
 (try simp only [Act.put, List.setIfInBounds_toArray, List.set_cons_zero, List.set_cons_succ])
 refine wpAnyH_take (i := 2) (oi := ⟨some 28, .move (.tmp 2), 3, "dial.go:298", #[], none⟩) (v := ?_) rfl (by kernel_rfl) (by kernel_rfl) (by kernel_rfl) (fun _ _ _ h => h) (Or.inl ⟨by rfl, fun W hSw => ?_⟩) hHeld ?_
 rotate_left
 ·(try dsimp only at hSw); go_simp; (try with_reducible rfl)
 (try simp only [Act.put, List.setIfInBounds_toArray, List.set_cons_zero, List.set_cons_succ])
 refine wpAnyH_ready (rs := [3]) (by kernel_rfl) (by simp) ?_
 refine AllReadyH.cons (o := ⟨some 29, .call { callee := .value (.func 63), args := #[.tmp 27, .tmp 28], argTypes := #[89, 3] }, 3, "dial.go:298", #[⟨1, .data⟩, ⟨2, .data⟩], none⟩) rfl (fun K hK => ?_) AllReadyH.nil
 go_simp
 refine (sunday_any A F n c fc M cs e num den add y _ (hr3.keep (fr_drew (fr_refl _))) hn2 hpos (hF3.keep (fr_drew (fr_refl _))) he hm hy (hE3.keep (fr_drew (fr_refl _)))).mono ?_
 rintro e' w5 ⟨rfl, hE5, hg5⟩
 have hd4 := fr_drew (fr_refl w4)
 have hB5 := (hB3.keep hd4).grown hg5 (by have := (hE3.keep hd4).ne_blk (hB3.keep hd4); simpa using this)
 have hZ5 := (hZ3.keep hd4).grown hg5 (by have := (hE3.keep hd4).ne_blk (hZ3.keep hd4); simpa using this)
 have hr5 := (hr3.keep hd4).farM (hE3.keep hd4) hg5
 have hF5 := (hF3.keep hd4).farM (hE3.keep hd4) hg5
 have hfr5 := (fr_call hfr hd4).grown hg5 (fr_call hfr hd4).size (by intro k hk; cases hk; exact hMw)
 refine hK.out _ _ (⟨fun j => hB5.cell j, hfr5.size⟩) (fun hHeld => ?_)
 clear hK K
 (try simp only [Act.put, List.setIfInBounds_toArray, List.set_cons_zero, List.set_cons_succ])
 refine wpAnyH_ready (rs := [4]) (by kernel_rfl) (by simp) ?_
 refine AllReadyH.cons (o := ⟨some 30, .call { callee := .value (.func 62), args := #[.tmp 26, .tmp 29], argTypes := #[89, 3] }, 50, "dial.go:298", #[⟨0, .data⟩, ⟨3, .data⟩, ⟨3, .chain⟩], none⟩) rfl (fun K hK => ?_) AllReadyH.nil
 go_simp
 refine (date_some A F n c fc cs e _ _ _ _ _ x _ hr5 hn2 hpos hF5 he hx).mono ?_
 rintro e' w6 ⟨rfl, hb6⟩
 have hB6 := hB5.keep hb6
 have hZ6 := hZ5.keep hb6
 have hfr6 := fr_call hfr5 hb6
 refine hK.out _ _ (⟨fun j => hB6.cell j, hfr6.size⟩) (fun hHeld => ?_)
 clear hK K
 (try simp only [Act.put, List.setIfInBounds_toArray, List.set_cons_zero, List.set_cons_succ])
 refine wpAnyH_ready (rs := [5]) (by kernel_rfl) (by simp) ?_
 refine AllReadyH.cons (o := ⟨none, .store 50 (.tmp 6) (.tmp 30), 0, "dial.go:298", #[⟨4, .data⟩, ⟨4, .chain⟩, ⟨0, .phase⟩, ⟨1, .phase⟩, ⟨2, .phase⟩, ⟨3, .phase⟩, ⟨4, .phase⟩], none⟩) rfl (fun K hK => ?_) AllReadyH.nil
 rw [if_pos (by rfl)]
 refine wp_store_blk _ _ _ rfl (w.heap.size + 1 + 1) 50 _ _ rfl rfl hZ6 rfl (by kernel_rfl) (by simp [Value.oneCell']) ?_
 intro w7 hZ7 hg7
 have hB7 := hB6.grown hg7 (by have := hB6.ne_ hZ6 (by decide); simpa using this)
 have hfr7 := hfr6.grown hg7 hfr6.size (by intro k hk; cases hk; omega)
 refine hK.out _ _ (⟨fun j => hB7.cell j, hfr7.size⟩) (fun hHeld => ?_)
 clear hK K
 refine wpAnyH_take (i := 6) (oi := ⟨some 7, .assign (.const (.int .i64 0)), 31, "dial.go:298", #[⟨5, .chain⟩, ⟨0, .phase⟩, ⟨1, .phase⟩, ⟨2, .phase⟩, ⟨3, .phase⟩, ⟨4, .phase⟩, ⟨5, .phase⟩], none⟩) (v := ?_) rfl (by kernel_rfl) (by kernel_rfl) (by kernel_rfl) (fun _ _ _ h => h) (Or.inl ⟨by rfl, fun W hSw => ?_⟩) hHeld ?_
 rotate_left
 ·(try dsimp only at hSw); go_simp; (try with_reducible rfl)
 (try simp only [Act.put, List.setIfInBounds_toArray, List.set_cons_zero, List.set_cons_succ])
 refine wpAnyH_done (by kernel_rfl) ?_ _
 refine NoPanic.normal ?_
 go_wp2
 refine bodyPost_ret (results_blk_tmp rfl _ _ _ _ rfl hZ7 Tryz.underlying50 rfl (by kernel_rfl)) rfl ⟨rfl, hfr7⟩

set_option maxRecDepth 100000 in
set_option maxHeartbeats 4000000 in
theorem Easter_bad (A : Option Addr) (n c : Nat) (cs : List Int) (e num den add y : Int) (w : World) (hr : Rd w A n cs) (hn : n ≤ 9223372036854775807) (hok : calOk e cs = false ∨ moonB num den add = false ∨ inB y 0 4000 = false) :
  Calls Tryz.prog 27 #[.agg #[.int .i64 e, .slice A n c], .agg #[.int .i64 num, .int .i64 den, .int .i64 add], .int .i64 y] w fun e' w' =>
   e' = .returned (.tuple #[.agg #[.int .i64 0, .int .i64 0, .int .i64 0], .int .i64 2]) ∧ Below w.heap.size w w' := by
 have g1 := fr_alloc (fr_alloc (fr_alloc (fr_refl w) (.cells #[.int .i64 e, .slice A n c] 24)) (.cells #[.int .i64 num, .int .i64 den, .int .i64 add] 26)) (.cells #[.int .i64 0, .int .i64 0, .int .i64 0] 50)
 have hZ : Blk (((w.alloc (.cells #[.int .i64 e, .slice A n c] 24)).alloc (.cells #[.int .i64 num, .int .i64 den, .int .i64 add] 26)).alloc (.cells #[.int .i64 0, .int .i64 0, .int .i64 0] 50)) (w.heap.size + 1 + 1) 50 #[.int .i64 0, .int .i64 0, .int .i64 0] := Blk.new_at _ _ (by simp)
 cases h1 : calOk e cs
 ·go_enter Tryz.func27, Tryz.ntmps27
  go_wp2_with fail
  refine (isCalendar_is A n c cs e _ (hr.keep g1) hn _ h1).mono ?_
  rintro e' w1 ⟨rfl, hb1⟩
  have hfr := fr_call g1 hb1
  go_wp2_with (refine wpList_store_blk rfl _ _ _ rfl (w.heap.size + 1 + 1) 50 _ _ rfl rfl (hZ.keep hb1) rfl (by kernel_rfl) (by simp [Value.oneCell']) ?_; intro w9 hZ9 hg9)
  refine bodyPost_ret (results_blk_tmp rfl _ _ _ _ rfl hZ9 Tryz.underlying50 rfl (by kernel_rfl)) rfl ⟨rfl, hfr.grown hg9 hfr.size (by intro k hk; cases hk; omega)⟩
 ·cases h2 : moonB num den add
  ·go_enter Tryz.func27, Tryz.ntmps27
   go_wp2_with fail
   refine (isCalendar_is A n c cs e _ (hr.keep g1) hn _ h1).mono ?_
   rintro e' w1 ⟨rfl, hb1⟩
   obtain ⟨hc_w1, hf_w1⟩ := bcell hb1
   have hz0_w1 : w.heap.size < w1.heap.size := Nat.lt_of_lt_of_le (by first | omega | (simp; done) | (simp; omega)) hb1.size
   have hz1_w1 : w.heap.size + 1 < w1.heap.size := Nat.lt_of_lt_of_le (by first | omega | (simp; done) | (simp; omega)) hb1.size
   have hz2_w1 : w.heap.size + 1 + 1 < w1.heap.size := Nat.lt_of_lt_of_le (by first | omega | (simp; done) | (simp; omega)) hb1.size
   go_wp2_with fail
   refine (isMoon_is _ _ _ _ _ h2).mono ?_
   rintro e' w2 ⟨rfl, hb2⟩
   have hfr := fr_call (fr_call g1 hb1) hb2
   clear hc_w1 hf_w1
   go_wp2_with (refine wpList_store_blk rfl _ _ _ rfl (w.heap.size + 1 + 1) 50 _ _ rfl rfl ((hZ.keep hb1).keep hb2) rfl (by kernel_rfl) (by simp [Value.oneCell']) ?_; intro w9 hZ9 hg9)
   refine bodyPost_ret (results_blk_tmp rfl _ _ _ _ rfl hZ9 Tryz.underlying50 rfl (by kernel_rfl)) rfl ⟨rfl, hfr.grown hg9 hfr.size (by intro k hk; cases hk; omega)⟩
  ·have h3 : inB y 0 4000 = false := by
    rcases hok with h | h | h
    ·rw [h1] at h; cases h
    ·rw [h2] at h; cases h
    ·exact h
   go_enter Tryz.func27, Tryz.ntmps27
   go_wp2_with fail
   refine (isCalendar_is A n c cs e _ (hr.keep g1) hn _ h1).mono ?_
   rintro e' w1 ⟨rfl, hb1⟩
   obtain ⟨hc_w1, hf_w1⟩ := bcell hb1
   have hz0_w1 : w.heap.size < w1.heap.size := Nat.lt_of_lt_of_le (by first | omega | (simp; done) | (simp; omega)) hb1.size
   have hz1_w1 : w.heap.size + 1 < w1.heap.size := Nat.lt_of_lt_of_le (by first | omega | (simp; done) | (simp; omega)) hb1.size
   have hz2_w1 : w.heap.size + 1 + 1 < w1.heap.size := Nat.lt_of_lt_of_le (by first | omega | (simp; done) | (simp; omega)) hb1.size
   go_wp2_with fail
   refine (isMoon_is _ _ _ _ _ h2).mono ?_
   rintro e' w2 ⟨rfl, hb2⟩
   go_wp2_with fail
   refine (isYear_is _ _ _ h3).mono ?_
   rintro e' w2' ⟨rfl, rfl⟩
   have hfr := fr_call (fr_call g1 hb1) hb2
   clear hc_w1 hf_w1
   go_wp2_with (refine wpList_store_blk rfl _ _ _ rfl (w.heap.size + 1 + 1) 50 _ _ rfl rfl ((hZ.keep hb1).keep hb2) rfl (by kernel_rfl) (by simp [Value.oneCell']) ?_; intro w9 hZ9 hg9)
   refine bodyPost_ret (results_blk_tmp rfl _ _ _ _ rfl hZ9 Tryz.underlying50 rfl (by kernel_rfl)) rfl ⟨rfl, hfr.grown hg9 hfr.size (by intro k hk; cases hk; omega)⟩
end Go.Proofs.YthjblcboainknaaGreatDoor
end
