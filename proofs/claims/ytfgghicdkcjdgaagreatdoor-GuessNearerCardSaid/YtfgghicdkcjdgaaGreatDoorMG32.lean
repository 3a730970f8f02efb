/- Plain: rules; a train in order; the nearest guess; for GuessNearer. Walks, package train: a rule that is as defined (by gen_rule.py). Sorting a row of pairs of one's own: the worlds of a sort. Reference: which rules are as defined (by gen_rule.py). -/
import Derived.Test.YtfgghicdkcjdgaaGreatDoorMG29
import Derived.Test.YtfgghicdkcjdgaaGreatDoorMG9
import Derived.Test.YtfgghicdkcjdgaaGreatDoorMG11
import Derived.Sort.Defs
import Derived.Test.YtfgghicdkcjdgaaGreatDoorMG26
import Derived.Shelf.GgSortFunc.InsertionK
import Derived.Shelf.SlSortFuncK.RowK2
import Derived.Test.YtfgghicdkcjdgaaGreatDoorMG12
section
namespace Go.Proofs.YtfgghicdkcjdgaaGreatDoor

/-- a rule -/
structure Rule where
 least : Int
 most : Int
 pairs : Int
 sense : Int
 never : List Int
def ruleB (r : Rule) : Bool := r.never.all teethB && (teethB r.least && (teethB r.most && (decide (r.least ≤ r.most) && (inB r.pairs 1 3 && (decide (1 ≤ r.sense) && (decide (r.sense ≤ 3) && decide (r.never.length ≤ 6)))))))
structure RuleOk (r : Rule) : Prop where
 least : 4 ≤ r.least ∧ r.least ≤ 60
 most : 4 ≤ r.most ∧ r.most ≤ 60
 le : r.least ≤ r.most
 pairs : 1 ≤ r.pairs ∧ r.pairs ≤ 3
 sense : 1 ≤ r.sense ∧ r.sense ≤ 3
 len : r.never.length ≤ 6
 never : ∀ x ∈ r.never, 4 ≤ x ∧ x ≤ 60
theorem rule_ok {r : Rule} (h : ruleB r = true) : RuleOk r := by
 unfold ruleB at h
 simp only [Bool.and_eq_true, decide_eq_true_eq, List.all_eq_true] at h
 obtain ⟨h1, h2, h3, h4, h5, h6, h7, h8⟩ := h
 exact ⟨inB_iff.1 h2, inB_iff.1 h3, h4, inB_iff.1 h5, ⟨h6, h7⟩, h8, fun x hx => inB_iff.1 (h1 x hx)⟩
/-- the numbers of teeth of a rule, the first k of its range -/
def teethR (r : Rule) (k : Nat) : List Int := ((List.range k).map (fun (i : Nat) => r.least + (i : Int))).filter (fun x => !r.never.contains x)
theorem teethR_succ (r : Rule) (k : Nat) : teethR r (k + 1) = if r.never.contains (r.least + (k : Int)) = true then teethR r k else teethR r k ++ [r.least + (k : Int)] := by
 unfold teethR
 rw [List.range_succ, List.map_append, List.filter_append]
 cases h : r.never.contains (r.least + (k : Int)) <;> simp at h <;> simp [h]
theorem teethR_len (r : Rule) (k : Nat) : (teethR r k).length ≤ k := by
 unfold teethR
 exact Nat.le_trans (List.length_filter_le _ _) (by simp)
def rangeR (r : Rule) : Nat := (r.most + 1 - r.least).toNat
def letsB (r : Rule) (n : Nat) : Bool := if r.sense = 2 then n % 2 == 0 else if r.sense = 3 then n % 2 == 1 else true
def hasB (r : Rule) (x : Int) : Bool := (teethR r (rangeR r)).contains x
/-- no pair comes before the one before it -/
def ordB : List Wh → Bool
 | a :: b :: l => !befB b a && ordB (b :: l)
 | _ => true
theorem ord_drop {l : List Wh} {i : Nat} (h : i + 1 < l.length) : ordB (l.drop i) = (!befB l[i + 1] l[i] && ordB (l.drop (i + 1))) := by
 rw [List.drop_eq_getElem_cons (show i < l.length by omega), List.drop_eq_getElem_cons h]
 rfl
theorem ord_no {l : List Wh} : ∀ {i : Nat}, i ≤ l.length → ordB (l.drop i) = false → ordB l = false
 | 0, _, h => h
 | i + 1, hi, h => by
  refine ord_no (i := i) (by omega) ?_
  by_cases h2 : i + 1 < l.length
  ·rw [ord_drop h2, h]; simp
  ·rw [List.drop_eq_nil_of_le (by omega)] at h; cases h
theorem ord_last (l : List Wh) {i : Nat} (h : l.length ≤ i + 1) : ordB (l.drop i) = true := by
 by_cases h2 : i < l.length
 ·rw [List.drop_eq_getElem_cons h2, List.drop_eq_nil_of_le h]; rfl
 ·rw [List.drop_eq_nil_of_le (by omega)]; rfl
def pairB (r : Rule) (p : Wh) : Bool := hasB r p.lo && hasB r p.hi
/-- whether a train is one of a rule -/
def fitsR (r : Rule) (l : List Wh) : Bool := decide ((l.length : Int) ≤ r.pairs) && (letsB r l.length && (ordB l && l.all (pairB r)))
/-- pairs of wheels of a train, and their order -/
def TwP (p : Wh) : Prop := (4 ≤ p.lo ∧ p.lo ≤ 60) ∧ 4 ≤ p.hi ∧ p.hi ≤ 60
instance (p : Wh) : Decidable (TwP p) := by unfold TwP; infer_instance
structure Tw where
 p : Wh
 ok : TwP p
instance : Inhabited Tw := ⟨⟨⟨4, 4⟩, by decide⟩⟩
def twCells (x : Tw) : List Value := x.p.cells
def ltT (x y : Tw) : Bool := befB x.p y.p
def toT : List Wh → List Tw
 | [] => []
 | p :: l => if h : TwP p then ⟨p, h⟩ :: toT l else toT l
theorem toT_map : ∀ {l : List Wh}, TeethP l → (toT l).map (fun x : Tw => x.p) = l
 | [], _ => rfl
 | p :: l, h => by
  have hp : TwP p := h p (by simp)
  rw [toT, dif_pos hp, List.map_cons, toT_map (fun q hq => h q (by simp [hq]))]
theorem toT_len {l : List Wh} (h : TeethP l) : (toT l).length = l.length := by
 have := congrArg List.length (toT_map h)
 simpa using this
/-- a train's pairs in order -/
def sortT (l : List Wh) : List Wh := (Go.Sort.insertionSort ltT (toT l).toArray 0 (toT l).length).toList.map (fun x : Tw => x.p)
theorem tw_teeth (l : List Tw) : TeethP (l.map (fun x : Tw => x.p)) := fun p hp => by
 obtain ⟨x, _, rfl⟩ := List.mem_map.1 hp
 exact x.ok
theorem sort_teeth (l : List Wh) : TeethP (sortT l) := tw_teeth _
def ruledN (r : Rule) (ts : List (List Int)) : Nat := ts.countP (fun t => fitsR r (sortT (pairsOf t)))
theorem ruled_snoc (r : Rule) (ts : List (List Int)) (t : List Int) : ruledN r (ts ++ [t]) = if fitsR r (sortT (pairsOf t)) = true then ruledN r ts + 1 else ruledN r ts := by
 unfold ruledN
 rw [List.countP_append, List.countP_singleton]
 split <;> rfl
theorem ruled_le (r : Rule) (ts : List (List Int)) : ruledN r ts ≤ ts.length := List.countP_le_length
theorem ruled_yes {r : Rule} {ts : List (List Int)} {q : List Wh} (h : teethL q ∈ ts) (hf : fitsR r (sortT q) = true) : 0 < ruledN r ts :=
 List.countP_pos_iff.2 ⟨_, h, by rw [pairs_teethL]; exact hf⟩
theorem ruled_no {r : Rule} {ts : List (List Int)} {q : List Wh} (h : teethL q ∈ ts) (hf : fitsR r (sortT q) = false) : ruledN r ts < ts.length := by
 refine Nat.lt_of_le_of_ne (ruled_le r ts) (fun e => ?_)
 have := List.countP_eq_length.1 e _ h
 rw [pairs_teethL, hf] at this
 cases this
/- nearness -/
theorem cmpF_neg (x y : Int × Int) : cmpF y x = -cmpF x y := by unfold cmpF; omega
theorem near_neg (f : Int × Int) (p q : List Wh) : nearI f q p = -nearI f p q := by
 unfold nearI
 rw [cmpF_neg (distF (fracP p) f)]
 unfold cmpI
 split <;> split <;> (first | omega | (split <;> (first | omega | (split <;> omega))))
theorem near_self (f : Int × Int) (p : List Wh) : nearI f p p = 0 := by
 have := near_neg f p p
 omega
theorem ltN_iff {f : Int × Int} {p q : List Wh} : ltN f p q = true ↔ (distF (fracP p) f).1 * (distF (fracP q) f).2 < (distF (fracP q) f).1 * (distF (fracP p) f).2 := by
 unfold ltN nearI cmpI cmpF
 rw [decide_eq_true_iff]
 split
 ·omega
 ·split <;> omega
theorem ltN_no {f : Int × Int} {p q : List Wh} : ltN f p q = false ↔ (distF (fracP q) f).1 * (distF (fracP p) f).2 ≤ (distF (fracP p) f).1 * (distF (fracP q) f).2 := by
 rw [← Bool.not_eq_true, ltN_iff, Int.not_lt]
theorem ltN_anti (f : Int × Int) (a b : List Wh) (h : ltN f a b = true) : ltN f b a = false := by
 rw [ltN_iff] at h
 rw [ltN_no]
 omega
theorem dist_pos {f : Int × Int} {p : List Wh} (h : OkPs p) : 1 ≤ (distF (fracP p) f).2 := by
 have := (turn_bd h.2 h.1.2).2.1
 show (1 : Int) ≤ (turnV p : Int)
 omega
theorem ltN_neg (f : Int × Int) (a b c : List Wh) (ha : OkPs a) (hb : OkPs b) (hc : OkPs c) (h1 : ltN f a b = false) (h2 : ltN f b c = false) : ltN f a c = false := by
 rw [ltN_no] at h1 h2 ⊢
 exact le_trans3 (dist_pos hc) (dist_pos hb) (dist_pos ha) h2 h1
theorem bef_asym {a b : Wh} (h : befB a b = true) : befB b a = false := by
 unfold befB at h ⊢
 simp only [Bool.or_eq_true, Bool.and_eq_true, decide_eq_true_eq, beq_iff_eq] at h
 rw [Bool.or_eq_false_iff, Bool.and_eq_false_iff, decide_eq_false_iff_not, decide_eq_false_iff_not, beq_eq_false_iff_ne]
 omega
theorem soon_asym : ∀ {a b : List Wh}, soonB a b = true → soonB b a = false
 | [], [], h => by cases h
 | [], _ :: _, _ => rfl
 | _ :: _, [], h => by cases h
 | a :: r, b :: s, h => by
  unfold soonB at h ⊢
  by_cases e : a = b
  ·rw [if_pos e] at h
   rw [if_pos e.symm]
   exact soon_asym h
  ·rw [if_neg e] at h
   rw [if_neg (fun e' => e e'.symm)]
   exact bef_asym h
theorem soon_irr : ∀ a : List Wh, soonB a a = false
 | [] => rfl
 | a :: r => by unfold soonB; rw [if_pos rfl]; exact soon_irr r
/-- no guess is nearer than the nearest one, none as near comes before it; and it is a guess -/
theorem near_law {ws : List Wh} {ns : List Note} (f : Int × Int) (hv : FindOk ws ns) (h0 : ¬ guessL ws ns = []) :
  nearL f (guessL ws ns) ∈ (guessL ws ns).map pairsOf ∧ ∀ q, teethL q ∈ guessL ws ns → nearI f (nearL f (guessL ws ns)) q < 0 ∨ (nearI f (nearL f (guessL ws ns)) q = 0 ∧ soonB q (nearL f (guessL ws ns)) = false) := by
 have hP := (guess_okT hv).pairs
 have hne : (guessL ws ns).map pairsOf ≠ [] := fun e => h0 (List.map_eq_nil_iff.1 e)
 have hs := guess_soon (ns := ns) hv.even
 obtain ⟨b, l1, l2, e1, e2, e3, e4⟩ := best_split OkPs (fun a b _ _ => ltN_anti f a b) (ltN_neg f) _ hP hne
 have eb : nearL f (guessL ws ns) = b := by unfold nearL; rw [e1]; rfl
 rw [eb]
 refine ⟨by rw [e2]; simp, fun q hq => ?_⟩
 have hm : q ∈ (guessL ws ns).map pairsOf := List.mem_map.2 ⟨_, hq, pairs_teethL q⟩
 rw [e2] at hm hs
 rcases List.mem_append.1 hm with h | h
 ·have := e3 q h
  unfold ltN at this
  exact Or.inl (decide_eq_true_iff.1 this)
 ·rcases List.mem_cons.1 h with rfl | h
  ·exact Or.inr ⟨near_self f q, soon_irr q⟩
  ·have h2 := e4 q h
   unfold ltN at h2
   have h3 := decide_eq_false_iff_not.1 h2
   rw [near_neg f b q] at h3
   have h4 : soonB b q = true := List.rel_of_pairwise_cons (List.pairwise_append.1 hs).2.1 h
   rcases Int.lt_or_eq_of_le (show nearI f b q ≤ 0 by omega) with h5 | h5
   ·exact Or.inl h5
   ·exact Or.inr ⟨h5, soon_asym h4⟩
end Go.Proofs.YtfgghicdkcjdgaaGreatDoor
end

section
namespace Go.Proofs.YtfgghicdkcjdgaaGreatDoor
open Go.RowKit Go.Shelf

set_option maxHeartbeats 2000000 in
theorem isRule1_yes (x : Int) (w : World) (h1 : teethB x = true) :
  Calls Tryz.prog 123 #[.int .i64 x] w fun e w' => e = .returned (.bool false) ∧ w = w' := by
 go_enter Tryz.func123, Tryz.ntmps123
 go_wp2_with fail
 refine (tisTeeth_is _ _ _ h1).mono ?_
 rintro e w' ⟨rfl, rfl⟩
 go_wp2_with fail
 go_ret
 exact ⟨rfl, rfl⟩
set_option maxRecDepth 100000 in
set_option maxHeartbeats 16000000 in
theorem index_never (A : Option Addr) (n c : Nat) (l : List Int) (w : World) (hr : Rd w A n l) (hn : n ≤ 1000) (ht : ∀ x ∈ l, teethB x = true) :
  Calls Tryz.prog 153 #[.slice A n c, .func (.func 123) #[] #[]] w fun e' w' => e' = .returned (.int .i64 (-1)) ∧ w = w' := by
 have HL := Lib.hid hr.len
 go_enter Tryz.func153, Tryz.ntmps153
 go_wp2
 go_loopw [8] (fun i wr => ∃ k : Nat, k ≤ n ∧ i = .int .i64 k ∧ wr = w) (fun i _ => n - (intOf i).toNat)
 case atStart => exact ⟨0, Nat.zero_le _, rfl, rfl⟩
 case round =>
  obtain ⟨k, hk, rfl, rfl⟩ := hrel
  by_cases hlt : k < n
  ·have hkl : k < l.length := by have := HL.out; omega
   obtain ⟨ad, rfl, hab, hc0⟩ := hr.at_ hlt
   have htk : teethB (l[k]?.getD 0) = true := by
    rw [show l[k]?.getD 0 = l[k] by simp [hkl]]
    exact ht _ (List.getElem_mem hkl)
   generalize l[k]?.getD 0 = y at *
   clear hr
   go_wp2_with fail
   refine (isRule1_yes _ _ htk).mono ?_
   rintro e w1 ⟨rfl, rfl⟩
   go_wp2_with fail
   refine ⟨⟨k + 1, hlt, rfl, trivial⟩, ?_⟩
   simp [intOf]; omega
  ·go_wp2_with fail
   go_ret
   exact ⟨rfl, rfl⟩
set_option maxHeartbeats 2000000 in
theorem contains_never (A : Option Addr) (n c : Nat) (l : List Int) (w : World) (hr : Rd w A n l) (hn : n ≤ 1000) (ht : ∀ x ∈ l, teethB x = true) :
  Calls Tryz.prog 122 #[.slice A n c, .func (.func 123) #[] #[]] w fun e' w' => e' = .returned (.bool false) ∧ w = w' := by
 go_enter Tryz.func122, Tryz.ntmps122
 go_wp2_with fail
 refine (index_never A n c l w hr hn ht).mono ?_
 rintro e w1 ⟨rfl, rfl⟩
 go_wp2_with fail
 go_ret
 exact ⟨rfl, rfl⟩
/-- a rule's cells -/
def Rule.args (r : Rule) (V : Option Addr) (n c : Nat) : Array Value := #[.int .i64 r.least, .int .i64 r.most, .int .i64 r.pairs, .int .i64 r.sense, .slice V n c]
set_option maxRecDepth 100000 in
set_option maxHeartbeats 16000000 in
theorem isRule_yes (V : Option Addr) (n c : Nat) (r : Rule) (w : World) (hr : Rd w V n r.never) (ho : RuleOk r) :
  Calls Tryz.prog 73 #[.agg (r.args V n c)] w fun e w' => e = .returned (.bool true) ∧ Below w.heap.size w w' := by
 obtain ⟨e1, e2, e3, e4, xs⟩ := r
 obtain ⟨⟨h1, h2⟩, ⟨h3, h4⟩, h5, ⟨h6, h7⟩, ⟨h8, h9⟩, h10, h11⟩ := ho
 simp only at hr h1 h2 h3 h4 h5 h6 h7 h8 h9 h10 h11
 unfold Rule.args
 have hlen := hr.len
 have t1 : teethB e1 = true := inB_yes (by omega)
 have t2 : teethB e2 = true := inB_yes (by omega)
 have t4 : inB e3 1 3 = true := inB_yes (by omega)
 have t5 : inB (e4 - 1) 0 2 = true := inB_yes (by omega)
 have z1 : IntKind.i64.wrap (e4 - 1) = e4 - 1 := IntWalk.i64_in _ (by omega)
 have hT := Lib.hid (show ∀ x ∈ xs, teethB x = true from fun x hx => inB_yes (h11 x hx))
 have hf := fr_alloc (fr_refl w) (.cells #[.int .i64 e1, .int .i64 e2, .int .i64 e3, .int .i64 e4, .slice V n c] 53)
 have hX := Blk.new w 53 #[.int .i64 e1, .int .i64 e2, .int .i64 e3, .int .i64 e4, .slice V n c]
 have hn6 : n ≤ 6 := by omega
 have hcX := fun j => hX.cell j
 replace hr := hr.keep hf
 clear hlen h10 h11
 go_enter Tryz.func73, Tryz.ntmps73
 go_wp2_with fail
 refine (tisTeeth_is _ _ _ t1).mono ?_
 rintro e' w3 ⟨rfl, rfl⟩
 go_wp2_with fail
 refine (tisTeeth_is _ _ _ t2).mono ?_
 rintro e' w3 ⟨rfl, rfl⟩
 go_wp2_with fail
 refine (tin_is _ _ _ _ _ t4).mono ?_
 rintro e' w3 ⟨rfl, rfl⟩
 go_wp2_with fail
 refine (tin_is _ _ _ _ _ t5).mono ?_
 rintro e' w3 ⟨rfl, rfl⟩
 go_wp2_with fail
 refine (contains_never V n c xs _ hr (by omega) hT.out).mono ?_
 rintro e' w3 ⟨rfl, rfl⟩
 go_wp2_with fail
 go_ret
 exact ⟨rfl, hf⟩
set_option maxRecDepth 100000 in
set_option maxHeartbeats 16000000 in
theorem tCheck_ok (V : Option Addr) (n c : Nat) (r : Rule) (w : World) (hr : Rd w V n r.never) (ho : RuleOk r) :
  Calls Tryz.prog 66 #[.agg (r.args V n c)] w fun e w' => e = .returned (.int .i64 0) ∧ Below w.heap.size w w' := by
 have hf := fr_alloc (fr_refl w) (.cells (r.args V n c) 53)
 have hX := Blk.new w 53 (r.args V n c)
 have hI := fun W h => isRule_yes V n c r W h ho
 replace hr := hr.keep hf
 have hcX := fun j => hX.cell j
 unfold Rule.args at *
 go_enter Tryz.func66, Tryz.ntmps66
 go_wp2_with fail
 refine (hI _ hr).mono ?_
 rintro e' w3 ⟨rfl, hb⟩
 go_wp2_with fail
 go_ret
 exact ⟨rfl, fr_call hf hb⟩
end Go.Proofs.YtfgghicdkcjdgaaGreatDoor
end

section
namespace Go.Proofs.YtfgghicdkcjdgaaGreatDoor
open Go.RowKit Go.Shelf

theorem tw_len (x : Tw) : (twCells x).length = 2 := rfl
theorem tw_one (x : Tw) : ∀ v ∈ twCells x, v.oneCell' = true := by
 intro u hu
 unfold twCells Wh.cells at hu
 simp only [List.mem_cons, List.not_mem_nil, or_false] at hu
 rcases hu with rfl | rfl <;> rfl
/-- the pairs of a row that is sorted -/
def whsT (d : Array Tw) : List Wh := d.toList.map (fun x : Tw => x.p)
theorem whsT_len (d : Array Tw) : (whsT d).length = d.size := by simp [whsT]
theorem whsT_at (d : Array Tw) {i : Nat} (h : i < d.size) : (whsT d)[i]? = some d[i]!.p := by
 unfold whsT
 rw [List.getElem?_map, Array.getElem?_toList, Array.getElem?_eq_getElem h, getElem!_pos d i h]
 rfl
/-- a row of one's own that reads as pairs holds them -/
theorem own_holds {W : World} {base n c : Nat} {A : Option Addr} {E : TypeId} (d : Array Tw) (h : OwnS W base E 2 (.slice A n c) ((whsT d).map Wh.cells)) (h1 : 1 ≤ n) :
  ∃ g, A = some ⟨g, 0, none⟩ ∧ base ≤ g ∧ g < W.heap.size ∧ d.size = n ∧ Sort.HoldsK twCells 2 W g 0 d := by
 have hr := h.rd
 rcases h.1.2 with ⟨e, h0⟩ | ⟨g, cap, cur, e, hb, hg, _⟩
 ·injection e with e1 e2 e3; omega
 ·injection e with e1 e2 e3
  have hn : d.size = n := by rw [e2, List.length_map, whsT_len]
  subst e1
  have hB : Blk W g E cur := hg
  refine ⟨g, rfl, hb, hB.lt, hn, fun j hj => ?_⟩
  rw [Sort.size_flatK] at hj
  rw [Nat.zero_add]
  refine ⟨?_, hB.frozen j⟩
  rw [Sort.get_flatK _ _ _ _ hj]
  have hi : j / 2 < d.size := by omega
  obtain ⟨ad, e, _, _, hc⟩ := hr.at_ (i := j / 2) (r := Wh.cells d[j / 2]!.p) (by rw [List.getElem?_map, whsT_at d hi]; rfl)
  cases e
  have hm : j % 2 = 0 ∨ j % 2 = 1 := by omega
  rcases hm with hm | hm
  ·have := hc 0 _ rfl
   rw [add_lit, show 0 + (j / 2 * 2 + 0) = j by omega] at this
   rw [this, hm]; rfl
  ·have := hc 1 _ rfl
   rw [add_lit, show 0 + (j / 2 * 2 + 1) = j by omega] at this
   rw [this, hm]; rfl
theorem holds_rd {W : World} {g : Nat} {d : Array Tw} (h : Sort.HoldsK twCells 2 W g 0 d) (hg : g < W.heap.size) : RdS W (some ⟨g, 0, none⟩) 2 ((whsT d).map Wh.cells) := fun _ => by
 refine ⟨_, rfl, hg, fun i r hr => ?_⟩
 rw [List.getElem?_map] at hr
 have hi : i < d.size := by
  rcases Nat.lt_or_ge i d.size with h' | h'
  ·exact h'
  ·rw [List.getElem?_eq_none (by rw [whsT_len]; exact h')] at hr; cases hr
 rw [whsT_at d hi] at hr
 cases hr
 refine ⟨rfl, fun j v hv => ?_⟩
 rw [add_lit, Nat.zero_add]
 have h2 : j < 2 := by
  rcases Nat.lt_or_ge j 2 with h' | h'
  ·exact h'
  ·rw [List.getElem?_eq_none (by exact h')] at hv; cases hv
 have hc := (h.cell hi h2).1
 rw [Nat.zero_add] at hc
 rw [hc]
 have : (twCells d[i]!)[j]? = some v := hv
 rw [getElem!_def, this]
theorem sort_below {w : World} {b g m : Nat} {d : Array Tw} {os : Array Obj} (hg : b ≤ g) (hb : b ≤ w.heap.size) : Below b w (sortWorldK twCells 2 w g 0 m d os) := by
 refine ⟨rfl, rfl, rfl, ?_, fun k hk => ?_⟩
 ·unfold sortWorldK
  rw [Sort.size_grow, Sort.size_putRowK]
  exact Nat.le_add_right _ _
 ·unfold sortWorldK Sort.grow Sort.putRowK Sort.putRow Sort.mapBlock Sort.ahead
  simp only
  rw [Array.getElem?_append_left (by simp; omega), Array.getElem?_modify, if_neg (by omega)]
/-- the numbers of teeth that a comparison returns -/
def cfT (x y : Tw) : Int := if x.p.lo = y.p.lo then x.p.hi - y.p.hi else x.p.lo - y.p.lo
theorem lt_cf (x y : Tw) : decide (cfT x y < 0) = ltT x y := by
 unfold cfT ltT befB
 by_cases h : x.p.lo = y.p.lo
 ·rw [if_pos h, h]
  simp only [Int.lt_irrefl, decide_false, beq_self_eq_true, Bool.true_and, Bool.false_or]
  exact decide_eq_decide.2 (by omega)
 ·rw [if_neg h, beq_eq_false_iff_ne.2 h, Bool.false_and, Bool.or_false]
  exact decide_eq_decide.2 (by omega)
theorem sortT_eq (l : List Wh) : sortT l = whsT (Sort.insertionSort ltT (toT l).toArray 0 (toT l).length) := rfl
theorem whsT_to {l : List Wh} (h : TeethP l) : whsT (toT l).toArray = l := toT_map h
/-- the loop that begins with the first element does what the one that begins with the second does -/
theorem outer_zero (n : Nat) (d : Array Tw) : Sort.insOuter ltT 0 n 0 d = Sort.insertionSort ltT d 0 n := by
 unfold Sort.insertionSort
 rw [Sort.insOuter]
 by_cases h : 0 < n
 ·rw [if_pos h]; rfl
 ·rw [if_neg h, Sort.insOuter, if_neg (by omega)]
end Go.Proofs.YtfgghicdkcjdgaaGreatDoor
end

section
namespace Go.Proofs.YtfgghicdkcjdgaaGreatDoor
open Go.RowKit Go.Shelf

set_option maxRecDepth 100000 in
set_option maxHeartbeats 16000000 in
theorem rRule_is (V : Option Addr) (n c : Nat) (r : Rule) (w : World) (hr : Rd w V n r.never) (hn : n ≤ 1000) (b : Bool) (hb : ruleB r = b) :
  Calls Tryz.prog 19 #[.agg #[.int .i64 r.least, .int .i64 r.most, .int .i64 r.pairs, .int .i64 r.sense, .slice V n c]] w fun e w' => e = .returned (.bool b) ∧ Below w.heap.size w w' := by
 obtain ⟨e1, e2, e3, e4, xs⟩ := r
 simp only at hr ⊢
 have hlen := hr.len
 have HL := Lib.hid hlen
 have HR := Lib.hid hb
 have hf := fr_alloc (fr_refl w) (.cells #[.int .i64 e1, .int .i64 e2, .int .i64 e3, .int .i64 e4, .slice V n c] 53)
 have hX := Blk.new w 53 #[.int .i64 e1, .int .i64 e2, .int .i64 e3, .int .i64 e4, .slice V n c]
 replace hr := hr.keep hf
 clear hlen hb
 go_enter Tryz.func19, Tryz.ntmps19
 go_wp2_with fail
 generalize w.alloc (.cells #[.int .i64 e1, .int .i64 e2, .int .i64 e3, .int .i64 e4, .slice V n c] 53) = w1 at *
 have hcX := fun j => hX.cell j
 have hlX := hX.lt
 go_loopw [3] (fun t wr => ∃ i : Nat, i ≤ n ∧ t = .int .i64 i ∧ Hid (∀ j, (h : j < xs.length) → j < i → teethB xs[j] = true) ∧ wr = w1) (fun t _ => n - (intOf t).toNat)
 case atStart => exact ⟨0, Nat.zero_le _, rfl, Lib.hid (fun _ _ h => absurd h (by omega)), rfl⟩
 case round =>
  obtain ⟨i, hi, rfl, hall, rfl⟩ := hrel
  by_cases hlt : i < n
  ·obtain ⟨ad, rfl, hab, hct⟩ := hr.at_ hlt
   have hil : i < xs.length := by rw [HL.out]; exact hlt
   have i1 : 0 ≤ (i : Int) := by omega
   have i2 : (i : Int) < (n : Int) := by omega
   have hge : xs[i]?.getD 0 = xs[i] := by simp [hil]
   rw [hge] at hct
   have HN := Lib.hid (show teethB xs[i] = true → ∀ j, (h : j < xs.length) → j < i + 1 → teethB xs[j] = true from fun hh j h hj => by
    by_cases hji : j = i
    ·subst hji; exact hh
    ·exact hall.out j h (by omega))
   have HNO := Lib.hid (show teethB xs[i] = false → b = false from fun hh => by
    rw [← HR.out]
    unfold ruleB
    rw [Bool.and_eq_false_iff]
    refine Or.inl ?_
    rw [← Bool.not_eq_true, List.all_eq_true]
    intro ha
    rw [ha _ (List.getElem_mem hil)] at hh
    cases hh)
   clear hr hge
   obtain ⟨y, hy⟩ : ∃ y, xs[i] = y := ⟨_, rfl⟩
   rw [hy] at hct HN HNO
   clear hy
   cases ht : teethB y
   ·obtain rfl : b = false := HNO.out ht
    go_wp2_with fail
    refine (rteeth_is _ _ _ ht).mono ?_
    rintro e w3 ⟨rfl, rfl⟩
    go_wp2_with fail
    go_ret
    exact ⟨rfl, hf⟩
   ·go_wp2_with fail
    refine (rteeth_is _ _ _ ht).mono ?_
    rintro e w3 ⟨rfl, rfl⟩
    go_wp2_with fail
    refine ⟨⟨i + 1, hlt, rfl, Lib.hid (HN.out ht), trivial⟩, ?_⟩
    simp [intOf]; omega
  ·obtain rfl : i = n := by omega
   have HBF := Lib.hid (show ruleB ⟨e1, e2, e3, e4, xs⟩ = (teethB e1 && (teethB e2 && (decide (e1 ≤ e2) && (inB e3 1 3 && (decide (1 ≤ e4) && (decide (e4 ≤ 3) && decide ((i : Int) ≤ 6))))))) from by
    unfold ruleB
    simp only
    have ha : xs.all teethB = true := List.all_eq_true.2 (fun x hx => by
     obtain ⟨j, hj, rfl⟩ := List.getElem_of_mem hx
     exact hall.out j hj (by rw [← HL.out]; exact hj))
    rw [ha, HL.out, Bool.true_and, show decide (i ≤ 6) = decide ((i : Int) ≤ 6) from decide_eq_decide.2 (by omega)])
   clear hr
   cases t1 : teethB e1
   ·obtain rfl : b = false := by rw [← HR.out, HBF.out, t1]; rfl
    go_wp2_with fail
    refine (rteeth_is _ _ _ t1).mono ?_
    rintro e' w3 ⟨rfl, rfl⟩
    go_wp2_with fail
    go_ret
    exact ⟨rfl, hf⟩
   ·cases t2 : teethB e2
    ·obtain rfl : b = false := by rw [← HR.out, HBF.out, t1, t2]; rfl
     go_wp2_with fail
     refine (rteeth_is _ _ _ t1).mono ?_
     rintro e' w3 ⟨rfl, rfl⟩
     go_wp2_with fail
     refine (rteeth_is _ _ _ t2).mono ?_
     rintro e' w3 ⟨rfl, rfl⟩
     go_wp2_with fail
     go_ret
     exact ⟨rfl, hf⟩
    ·cases t3 : decide (e1 ≤ e2)
     ·obtain rfl : b = false := by rw [← HR.out, HBF.out, t1, t2, t3]; rfl
      go_wp2_with fail
      refine (rteeth_is _ _ _ t1).mono ?_
      rintro e' w3 ⟨rfl, rfl⟩
      go_wp2_with fail
      refine (rteeth_is _ _ _ t2).mono ?_
      rintro e' w3 ⟨rfl, rfl⟩
      go_wp2_with fail
      go_ret
      exact ⟨rfl, hf⟩
     ·cases t4 : inB e3 1 3
      ·obtain rfl : b = false := by rw [← HR.out, HBF.out, t1, t2, t3, t4]; rfl
       go_wp2_with fail
       refine (rteeth_is _ _ _ t1).mono ?_
       rintro e' w3 ⟨rfl, rfl⟩
       go_wp2_with fail
       refine (rteeth_is _ _ _ t2).mono ?_
       rintro e' w3 ⟨rfl, rfl⟩
       go_wp2_with fail
       refine (rin1_is _ _ _ _ _ t4).mono ?_
       rintro e' w3 ⟨rfl, rfl⟩
       go_wp2_with fail
       go_ret
       exact ⟨rfl, hf⟩
      ·cases t5 : decide (1 ≤ e4)
       ·obtain rfl : b = false := by rw [← HR.out, HBF.out, t1, t2, t3, t4, t5]; rfl
        go_wp2_with fail
        refine (rteeth_is _ _ _ t1).mono ?_
        rintro e' w3 ⟨rfl, rfl⟩
        go_wp2_with fail
        refine (rteeth_is _ _ _ t2).mono ?_
        rintro e' w3 ⟨rfl, rfl⟩
        go_wp2_with fail
        refine (rin1_is _ _ _ _ _ t4).mono ?_
        rintro e' w3 ⟨rfl, rfl⟩
        go_wp2_with fail
        go_ret
        exact ⟨rfl, hf⟩
       ·cases t6 : decide (e4 ≤ 3)
        ·obtain rfl : b = false := by rw [← HR.out, HBF.out, t1, t2, t3, t4, t5, t6]; rfl
         go_wp2_with fail
         refine (rteeth_is _ _ _ t1).mono ?_
         rintro e' w3 ⟨rfl, rfl⟩
         go_wp2_with fail
         refine (rteeth_is _ _ _ t2).mono ?_
         rintro e' w3 ⟨rfl, rfl⟩
         go_wp2_with fail
         refine (rin1_is _ _ _ _ _ t4).mono ?_
         rintro e' w3 ⟨rfl, rfl⟩
         go_wp2_with fail
         go_ret
         exact ⟨rfl, hf⟩
        ·cases t7 : decide ((i : Int) ≤ 6)
         ·obtain rfl : b = false := by rw [← HR.out, HBF.out, t1, t2, t3, t4, t5, t6, t7]; rfl
          go_wp2_with fail
          refine (rteeth_is _ _ _ t1).mono ?_
          rintro e' w3 ⟨rfl, rfl⟩
          go_wp2_with fail
          refine (rteeth_is _ _ _ t2).mono ?_
          rintro e' w3 ⟨rfl, rfl⟩
          go_wp2_with fail
          refine (rin1_is _ _ _ _ _ t4).mono ?_
          rintro e' w3 ⟨rfl, rfl⟩
          go_wp2_with fail
          go_ret
          exact ⟨rfl, hf⟩
         ·obtain rfl : b = true := by rw [← HR.out, HBF.out, t1, t2, t3, t4, t5, t6, t7]; rfl
          go_wp2_with fail
          refine (rteeth_is _ _ _ t1).mono ?_
          rintro e' w3 ⟨rfl, rfl⟩
          go_wp2_with fail
          refine (rteeth_is _ _ _ t2).mono ?_
          rintro e' w3 ⟨rfl, rfl⟩
          go_wp2_with fail
          refine (rin1_is _ _ _ _ _ t4).mono ?_
          rintro e' w3 ⟨rfl, rfl⟩
          go_wp2_with fail
          go_ret
          exact ⟨rfl, hf⟩
end Go.Proofs.YtfgghicdkcjdgaaGreatDoor
end
