/- Walks: the words with which lines begin; a line. Lemmas for the almanac's text: slices that are built, and appended to, in a region. -/
import Derived.Test.YthjblcboainknaaGreatDoorMP
import Derived.Test.YthjblcboainknaaGreatDoorMB2
import Derived.Test.YthjblcboainknaaGreatDoorMB1
import Derived.Test.YthjblcboainknaaGreatDoorProg
import Derived.WalkKit
import Derived.WalkSpells
import Derived.WalkLawsBesides
import Derived.LoopTactic
import Derived.Deep.LoopGhost
import Derived.Lib.Hide
import Derived.Deep.Draws
import Derived.Deep.QuietTactic
import Derived.BigQuiet
import Derived.Deep.RegionHeld3
import Derived.OwnWalk
import Derived.Laws.Rows
import Derived.Deep.DeepMust
import Derived.Test.YthjblcboainknaaGreatDoorShelf
import Derived.Defers
import Derived.Recover
import Derived.Laws.Pointers
import Derived.Laws.EntriesVeiled
import Derived.Outline
import Derived.Deep.MidRow
import Derived.RangeFuncNested
import Derived.RangeFuncBound
import Derived.OwnWalkIn
import Derived.TacticsInMore
import Derived.LoopIn
import Derived.Shelf.RegionOpen
import Derived.Sort.CutIn
import Derived.Deep.Cut
import Derived.Maps.OwnOps
import Derived.Maps.OwnSet
import Derived.IntWalk
import Derived.Lib.LaidTab
import Derived.Lib.ItoaNum
import Derived.Sort.Grow
import Derived.Test.YthjblcboainknaaGreatDoorMC1
section
namespace Go.Proofs.YthjblcboainknaaGreatDoor
open Go.RowKit Dl

/-- the library's table of powers of ten is as its text lays it -/
def TabP (w : World) : Prop := Lib.TabIs Tryz.prog w "internal/strconv.uint64pow10" .u64 Lib.pow10Tab
theorem TabP.keep {w w' : World} (h : TabP w) (hb : Below w.heap.size w w') : TabP w' := by
 unfold TabP Lib.TabIs World.var? at h ⊢
 cases hg : Tryz.prog.globalNamed "internal/strconv.uint64pow10" with
 | none => rw [hg] at h; cases h
 | some g =>
  rw [hg] at h
  simp only [Option.bind_some] at h ⊢
  have hlt : g < w.heap.size := by
   rcases Nat.lt_or_ge g w.heap.size with h' | h'
   ·exact h'
   ·rw [Array.getElem?_eq_none h'] at h; cases h
  rw [hb.block g hlt]
  exact h
theorem grow_fr (w : World) (k : Nat) (os : Array Obj) : Below w.heap.size w (Go.Sort.grow (w.drewN k) os) := by
 refine ⟨rfl, rfl, rfl, ?_, ?_⟩
 ·simp [Go.Sort.grow, World.drewN]
 ·intro i hi
  simp only [Go.Sort.grow, World.drewN]
  rw [Array.getElem?_append_left (by simpa using hi)]
theorem itoa_any (n : Int) (w : World) (h0 : 0 ≤ n) (h1 : n ≤ 9000000000000000000) (hT : TabP w) :
  Calls Tryz.prog 80 #[.int .i64 n] w fun e w' => e = .returned (.string ⟨(Lib.itoa n).toArray⟩) ∧ Below w.heap.size w w' :=
 (Tryz.strconv_Itoa n (by omega) (by omega) w hT).mono (fun e w' ⟨he, k, os, hw⟩ => ⟨he, by rw [hw]; exact grow_fr w k os⟩)

set_option maxRecDepth 100000 in
set_option maxHeartbeats 2000000 in
theorem words_is (w : World) : Calls Tryz.prog 104 #[] w fun e w' =>
  e = .returned (.agg #[.string ⟨#[99, 97, 108, 101, 110, 100, 97, 114]⟩, .string ⟨#[109, 111, 111, 110]⟩, .string ⟨#[119, 101, 101, 107, 100, 97, 121]⟩, .string ⟨#[97, 103, 101]⟩, .string ⟨#[101, 97, 115, 116, 101, 114]⟩, .string ⟨#[103, 111, 108, 100, 101, 110]⟩, .string ⟨#[100, 97, 121, 115]⟩]) ∧ Below w.heap.size w w' := by
 go_enter Tryz.func104, Tryz.ntmps104
 go_wp2_with fail
 have hB := Blk.new w 147 #[.string ⟨#[99, 97, 108, 101, 110, 100, 97, 114]⟩, .string ⟨#[109, 111, 111, 110]⟩, .string ⟨#[119, 101, 101, 107, 100, 97, 121]⟩, .string ⟨#[97, 103, 101]⟩, .string ⟨#[101, 97, 115, 116, 101, 114]⟩, .string ⟨#[103, 111, 108, 100, 101, 110]⟩, .string ⟨#[100, 97, 121, 115]⟩]
 refine bodyPost_ret (results_blk1 rfl _ _ _ _ rfl hB Tryz.underlying147 rfl (by kernel_rfl)) rfl ⟨rfl, fr_alloc (fr_refl _) _⟩
theorem digits_len : ∀ (m u : Nat), 0 < m → u < 10 ^ m → (Lib.decDigits u).length ≤ m
 | 0, _, h, _ => absurd h (by omega)
 | m + 1, u, _, hu => by
  rw [Lib.decDigits]
  by_cases h : u < 10
  ·rw [dif_pos h]; simp
  ·rw [dif_neg h]
   have hm : 0 < m := by
    rcases Nat.eq_zero_or_pos m with rfl | h1
    ·simp at hu; omega
    ·exact h1
   have := digits_len m (u / 10) hm (by rw [Nat.pow_succ] at hu; omega)
   simp only [List.length_append, List.length_cons, List.length_nil]
   omega
theorem itoa_len (n : Int) (h0 : 0 ≤ n) (h1 : n ≤ 1000000) : (Lib.itoa n).length ≤ 7 := by
 unfold Lib.itoa
 rw [if_neg (by omega)]
 exact digits_len 7 _ (by omega) (by omega)
theorem word_ix0 (w : World) : (Instr.index 147 (.agg #[.string ⟨#[99, 97, 108, 101, 110, 100, 97, 114]⟩, .string ⟨#[109, 111, 111, 110]⟩, .string ⟨#[119, 101, 101, 107, 100, 97, 121]⟩, .string ⟨#[97, 103, 101]⟩, .string ⟨#[101, 97, 115, 116, 101, 114]⟩, .string ⟨#[103, 111, 108, 100, 101, 110]⟩, .string ⟨#[100, 97, 121, 115]⟩]) (.int .i64 0)).run Tryz.prog w = .ok (.string ⟨(wordB 0).toArray⟩) w := by kernel_rfl
theorem word_ix1 (w : World) : (Instr.index 147 (.agg #[.string ⟨#[99, 97, 108, 101, 110, 100, 97, 114]⟩, .string ⟨#[109, 111, 111, 110]⟩, .string ⟨#[119, 101, 101, 107, 100, 97, 121]⟩, .string ⟨#[97, 103, 101]⟩, .string ⟨#[101, 97, 115, 116, 101, 114]⟩, .string ⟨#[103, 111, 108, 100, 101, 110]⟩, .string ⟨#[100, 97, 121, 115]⟩]) (.int .i64 1)).run Tryz.prog w = .ok (.string ⟨(wordB 1).toArray⟩) w := by kernel_rfl
theorem word_ix2 (w : World) : (Instr.index 147 (.agg #[.string ⟨#[99, 97, 108, 101, 110, 100, 97, 114]⟩, .string ⟨#[109, 111, 111, 110]⟩, .string ⟨#[119, 101, 101, 107, 100, 97, 121]⟩, .string ⟨#[97, 103, 101]⟩, .string ⟨#[101, 97, 115, 116, 101, 114]⟩, .string ⟨#[103, 111, 108, 100, 101, 110]⟩, .string ⟨#[100, 97, 121, 115]⟩]) (.int .i64 2)).run Tryz.prog w = .ok (.string ⟨(wordB 2).toArray⟩) w := by kernel_rfl
theorem word_ix3 (w : World) : (Instr.index 147 (.agg #[.string ⟨#[99, 97, 108, 101, 110, 100, 97, 114]⟩, .string ⟨#[109, 111, 111, 110]⟩, .string ⟨#[119, 101, 101, 107, 100, 97, 121]⟩, .string ⟨#[97, 103, 101]⟩, .string ⟨#[101, 97, 115, 116, 101, 114]⟩, .string ⟨#[103, 111, 108, 100, 101, 110]⟩, .string ⟨#[100, 97, 121, 115]⟩]) (.int .i64 3)).run Tryz.prog w = .ok (.string ⟨(wordB 3).toArray⟩) w := by kernel_rfl
theorem word_ix4 (w : World) : (Instr.index 147 (.agg #[.string ⟨#[99, 97, 108, 101, 110, 100, 97, 114]⟩, .string ⟨#[109, 111, 111, 110]⟩, .string ⟨#[119, 101, 101, 107, 100, 97, 121]⟩, .string ⟨#[97, 103, 101]⟩, .string ⟨#[101, 97, 115, 116, 101, 114]⟩, .string ⟨#[103, 111, 108, 100, 101, 110]⟩, .string ⟨#[100, 97, 121, 115]⟩]) (.int .i64 4)).run Tryz.prog w = .ok (.string ⟨(wordB 4).toArray⟩) w := by kernel_rfl
theorem word_ix5 (w : World) : (Instr.index 147 (.agg #[.string ⟨#[99, 97, 108, 101, 110, 100, 97, 114]⟩, .string ⟨#[109, 111, 111, 110]⟩, .string ⟨#[119, 101, 101, 107, 100, 97, 121]⟩, .string ⟨#[97, 103, 101]⟩, .string ⟨#[101, 97, 115, 116, 101, 114]⟩, .string ⟨#[103, 111, 108, 100, 101, 110]⟩, .string ⟨#[100, 97, 121, 115]⟩]) (.int .i64 5)).run Tryz.prog w = .ok (.string ⟨(wordB 5).toArray⟩) w := by kernel_rfl
theorem word_ix6 (w : World) : (Instr.index 147 (.agg #[.string ⟨#[99, 97, 108, 101, 110, 100, 97, 114]⟩, .string ⟨#[109, 111, 111, 110]⟩, .string ⟨#[119, 101, 101, 107, 100, 97, 121]⟩, .string ⟨#[97, 103, 101]⟩, .string ⟨#[101, 97, 115, 116, 101, 114]⟩, .string ⟨#[103, 111, 108, 100, 101, 110]⟩, .string ⟨#[100, 97, 121, 115]⟩]) (.int .i64 6)).run Tryz.prog w = .ok (.string ⟨(wordB 6).toArray⟩) w := by kernel_rfl
theorem str_app3 (a b : List UInt8) : Value.string (⟨a.toArray⟩ ++ (⟨#[32]⟩ ++ ⟨b.toArray⟩)) = Value.string ⟨(a ++ 32 :: b).toArray⟩ := by
 congr 1
theorem row_len (k : Nat) (xs : List Int) (hx : ∀ x ∈ xs, 0 ≤ x ∧ x ≤ 1000000) : ∀ j, j ≤ xs.length → (rowB k (xs.take j)).length ≤ 8 + 8 * j := by
 intro j
 induction j with
 | zero =>
  intro _
  have : (wordB k).length ≤ 8 := by unfold wordB; split <;> decide
  simpa [rowB] using this
 | succ j ih =>
  intro hj
  have h1 := ih (by omega)
  have h2 := hx xs[j] (List.getElem_mem (by omega))
  have h3 := itoa_len xs[j] h2.1 h2.2
  have h4 : rowB k (xs.take (j + 1)) = rowB k (xs.take j) ++ (32 :: Lib.itoa xs[j]) := by
   rw [List.take_succ_eq_append_getElem (by omega)]
   simp only [rowB, List.map_append, List.map_cons, List.map_nil, List.flatten_append, List.flatten_cons, List.flatten_nil, List.append_nil, List.append_assoc]
  rw [h4]
  simp only [List.length_append, List.length_cons]
  omega
set_option maxRecDepth 100000 in
set_option maxHeartbeats 4000000 in
theorem row_any (k : Nat) (hk : k < 7) (A : Option Addr) (n c : Nat) (xs : List Int) (w : World) (hr : Rd w A n xs) (hn : n ≤ 1000) (hx : ∀ x ∈ xs, 0 ≤ x ∧ x ≤ 1000000) (hT : TabP w) :
  Calls Tryz.prog 78 #[.int .i64 k, .slice A n c] w fun e w' => e = .returned (.string ⟨(rowB k xs).toArray⟩) ∧ Below w.heap.size w w' := by
 have hix : ∀ w, (Instr.index 147 (.agg #[.string ⟨#[99, 97, 108, 101, 110, 100, 97, 114]⟩, .string ⟨#[109, 111, 111, 110]⟩, .string ⟨#[119, 101, 101, 107, 100, 97, 121]⟩, .string ⟨#[97, 103, 101]⟩, .string ⟨#[101, 97, 115, 116, 101, 114]⟩, .string ⟨#[103, 111, 108, 100, 101, 110]⟩, .string ⟨#[100, 97, 121, 115]⟩]) (.int .i64 (k : Int))).run Tryz.prog w = .ok (.string ⟨(wordB k).toArray⟩) w := by
  intro w
  have h7 : k = 0 ∨ k = 1 ∨ k = 2 ∨ k = 3 ∨ k = 4 ∨ k = 5 ∨ k = 6 := by omega
  rcases h7 with rfl | rfl | rfl | rfl | rfl | rfl | rfl
  ·exact word_ix0 w
  ·exact word_ix1 w
  ·exact word_ix2 w
  ·exact word_ix3 w
  ·exact word_ix4 w
  ·exact word_ix5 w
  ·exact word_ix6 w
 go_enter Tryz.func78, Tryz.ntmps78
 go_wp2_with fail
 refine (words_is _).mono ?_
 rintro e w1 ⟨rfl, hb1⟩
 go_wp2_with fail
 have hr1 := hr.keep hb1
 have hT1 := hT.keep hb1
 have hrl : ∀ j, j ≤ n → (rowB k (xs.take j)).length ≤ 8 + 8 * j := fun j hj => row_len k xs (fun x h => hx x h) j (by have := hr.len; omega)
 have HRL := Lib.hid hrl
 clear hrl
 go_loopw [5, 13] (fun s i wr => ∃ j : Nat, j ≤ n ∧ i = .int .i64 j ∧ s = .string ⟨(rowB k (xs.take j)).toArray⟩ ∧ Below w1.heap.size w1 wr) (fun _ i _ => n - (intOf i).toNat)
 case atStart => exact ⟨0, Nat.zero_le _, rfl, by simp [rowB], fr_refl _⟩
 case round =>
  obtain ⟨j, hj, rfl, rfl, hbel⟩ := hrel
  by_cases hlt : j < n
  ·obtain ⟨ad, rfl, hab, hc⟩ := (hr1.keep hbel).at_ hlt
   have hx1 : 0 ≤ xs[j]?.getD 0 ∧ xs[j]?.getD 0 ≤ 1000000 := by
    have hl := hr.len
    rw [List.getElem?_eq_getElem (by omega)]
    exact hx _ (List.getElem_mem _)
   have hst : rowB k (xs.take (j + 1)) = rowB k (xs.take j) ++ (32 :: Lib.itoa (xs[j]?.getD 0)) := by
    rw [take_snoc' xs j (by have := hr.len; omega)]
    simp [rowB]
   have HST := Lib.hid hst
   clear hst
   generalize xs[j]?.getD 0 = xj at *
   go_wp2_with fail
   refine (itoa_any xj _ hx1.1 (by omega) (hT1.keep hbel)).mono ?_
   rintro e w2 ⟨rfl, hb2⟩
   have hl1 := itoa_len xj hx1.1 hx1.2
   have hl2 : (rowB k (xs.take j)).length ≤ 8 + 8 * j := HRL.out j (by omega)
   generalize hI : Lib.itoa xj = it at *
   generalize hR : rowB k (xs.take j) = rb at *
   have HI := Lib.hid hI
   have HR := Lib.hid hR
   clear hI hR
   have hl3 : it.length + 1 ≤ 9223372036854775807 := by omega
   have hl4 : rb.length + (it.length + 1) ≤ 9223372036854775807 := by omega
   go_wp2_with fail
   refine ⟨⟨j + 1, hlt, rfl, ?_, fr_call hbel hb2⟩, ?_⟩
   ·rw [HST.out]
    exact str_app3 _ _
   ·simp [intOf]; omega
  ·obtain rfl : j = n := by omega
   go_wp2_with fail
   go_ret
   rw [List.take_of_length_le (by have := hr.len; omega)]
   exact ⟨rfl, fr_call hb1 hbel⟩
end Go.Proofs.YthjblcboainknaaGreatDoor
end

section
namespace Go.Proofs.YthjblcboainknaaGreatDoor
open Go.RowKit Dl

theorem run_app_none {w : World} {base t ty e size : Nat} {i : TypeInfo} (ht : Tryz.prog.underlying t = some (.slice e)) (hi : Tryz.prog.info? e = some i) {v : Value} {n : Nat} {xs : List Value} (hown : w.ownsRow base e size v n xs) (c : Nat) :
  (Builtin.append_ #[t, t] ty #[v, .slice none 0 c]).run Tryz.prog w = .ok v w := by
 rcases hown.2 with ⟨rfl, rfl⟩ | ⟨g, cap, cur, rfl, _, _, hnc, _⟩
 ·simp [Builtin.append_, run_underlying ht, sizeOf, typeInfo, hi, Builtin.lenOf, Builtin.firstCells]
 ·simp [Builtin.append_, run_underlying ht, sizeOf, typeInfo, hi, Builtin.lenOf, Builtin.firstCells, hnc, storeCells]
section
variable {o : Oper} {a : Act} {w : World} {K : Act → World → Prop} {Q : Exit → Act → World → Prop}
theorem wp_build1 {x : Nat} {e : Int} (ho : o.op = .buildSlice 22 1 #[(0, .tmp x)]) (hx : a.tmps.getD x undef = .int .i64 e)
  (h : ∀ g w', Blk w' g 3 #[.int .i64 e] → Below w.heap.size w w' → w.heap.size ≤ g → K (a.put o.dst (.slice (some ⟨g, 0, none⟩) 1 1)) w') : o.wp Tryz.prog a w K Q := by
 have h1 := h w.heap.size (w.alloc (.cells #[.int .i64 e] 3)) (Blk.new w _ _) (fr_alloc (fr_refl w) _) (Nat.le_refl _)
 obtain ⟨dst, op, ty, pos, after, guard⟩ := o
 simp only at ho
 subst ho
 have hx' : a.tmps[x]?.getD undef = .int .i64 e := by simpa using hx
 go_simp
 exact h1
theorem wp_build3 {x y z : Nat} {e1 e2 e3 : Int} (ho : o.op = .buildSlice 22 3 #[(0, .tmp x), (1, .tmp y), (2, .tmp z)]) (hx : a.tmps.getD x undef = .int .i64 e1) (hy : a.tmps.getD y undef = .int .i64 e2) (hz : a.tmps.getD z undef = .int .i64 e3)
  (h : ∀ g w', Blk w' g 3 #[.int .i64 e1, .int .i64 e2, .int .i64 e3] → Below w.heap.size w w' → w.heap.size ≤ g → K (a.put o.dst (.slice (some ⟨g, 0, none⟩) 3 3)) w') : o.wp Tryz.prog a w K Q := by
 have h1 := h w.heap.size (w.alloc (.cells #[.int .i64 e1, .int .i64 e2, .int .i64 e3] 3)) (Blk.new w _ _) (fr_alloc (fr_refl w) _) (Nat.le_refl _)
 obtain ⟨dst, op, ty, pos, after, guard⟩ := o
 simp only at ho
 subst ho
 have hx' : a.tmps[x]?.getD undef = .int .i64 e1 := by simpa using hx
 have hy' : a.tmps[y]?.getD undef = .int .i64 e2 := by simpa using hy
 have hz' : a.tmps[z]?.getD undef = .int .i64 e3 := by simpa using hz
 go_simp
 exact h1
theorem wp_build2s {x y : Nat} {s1 s2 : ByteArray} (ho : o.op = .buildSlice 80 2 #[(0, .tmp x), (1, .tmp y)]) (hx : a.tmps.getD x undef = .string s1) (hy : a.tmps.getD y undef = .string s2)
  (h : ∀ g w', Blk w' g 9 #[.string s1, .string s2] → Below w.heap.size w w' → w.heap.size ≤ g → K (a.put o.dst (.slice (some ⟨g, 0, none⟩) 2 2)) w') : o.wp Tryz.prog a w K Q := by
 have h1 := h w.heap.size (w.alloc (.cells #[.string s1, .string s2] 9)) (Blk.new w _ _) (fr_alloc (fr_refl w) _) (Nat.le_refl _)
 obtain ⟨dst, op, ty, pos, after, guard⟩ := o
 simp only at ho
 subst ho
 have hx' : a.tmps[x]?.getD undef = .string s1 := by simpa using hx
 have hy' : a.tmps[y]?.getD undef = .string s2 := by simpa using hy
 go_simp
 exact h1
/-- 'append(s, xs...)' to a row of the call's own -/
theorem wp_app_slice (s x : Operand) (ho : o.op = .call { callee := .builtin .append, args := #[s, x], argTypes := #[22, 22] }) (base : Nat) (v : Value) (xs : List Int) (hs : a.eval s = v) (hown : Own w base v xs)
  (A : Option Addr) (n c : Nat) (ys : List Int) (hx : a.eval x = .slice A n c) (hr : Rd w A n ys) (hpos : 0 < n) (hn1 : xs.length ≤ 1000000) (hn2 : n ≤ 1000000) (hbase : base ≤ w.heap.size)
  (h : ∀ A' c' w', Own w' base (.slice A' (xs.length + n) c') (xs ++ ys) → w.grownBy w' v.ownBlock → K (a.put o.dst (.slice A' (xs.length + n) c')) w') : o.wp Tryz.prog a w K Q := by
 obtain ⟨i0, hi, hz0, hz1, hz2⟩ := info_parts info_int
 obtain ⟨ad, rfl, hlt, hc⟩ := hr.2 hpos
 have hl := hr.len
 refine wp_append_own w s x _ ho base _ i0 _ 1 8 Tryz.underlying22 hi hz0 hz1 hz2 rfl (by omega) v _ _ hs hown ad n c (ys.map (Value.int .i64)) hx (by rw [List.length_map]; omega) ?_ (by intro u hu; obtain ⟨y, _, rfl⟩ := List.mem_map.1 hu; rfl)
  (by unfold maxLen; omega) (by omega) hbase ?_
 ·intro j u hj
  rw [List.getElem?_map] at hj
  have hjl : j < ys.length := by
   rcases Nat.lt_or_ge j ys.length with h' | h'
   ·exact h'
   ·rw [List.getElem?_eq_none h'] at hj; cases hj
  rw [hc j (by omega)]
  rw [List.getElem?_eq_getElem hjl] at hj ⊢
  exact hj
 ·intro v' w' hown' hg _
  have hown2 : Own w' base v' (xs ++ ys) := by
   unfold Own
   rw [List.length_append, List.map_append, hl]
   exact hown'
  obtain ⟨A', c', rfl⟩ := hown2.form
  rw [List.length_append, hl] at hown2 ⊢
  exact h A' c' w' hown2 hg
/-- 'append(s, xs...)' to a row of the call's own; xs may be empty -/
theorem wp_app_any (s x : Operand) (ho : o.op = .call { callee := .builtin .append, args := #[s, x], argTypes := #[22, 22] }) (base : Nat) (v : Value) (xs : List Int) (hs : a.eval s = v) (hown : Own w base v xs)
  (A : Option Addr) (n c : Nat) (ys : List Int) (hx : a.eval x = .slice A n c) (hr : Rd w A n ys) (hn1 : xs.length ≤ 1000000) (hn2 : n ≤ 1000000) (hbase : base ≤ w.heap.size)
  (h : ∀ A' c' w', Own w' base (.slice A' (xs.length + n) c') (xs ++ ys) → w.grownBy w' v.ownBlock → K (a.put o.dst (.slice A' (xs.length + n) c')) w') : o.wp Tryz.prog a w K Q := by
 obtain ⟨i0, hi, hz0, hz1, hz2⟩ := info_parts info_int
 rcases Nat.eq_zero_or_pos n with h0 | hpos
 ·subst h0
  obtain rfl : ys = [] := List.eq_nil_of_length_eq_zero hr.len
  cases A with
  | none =>
   have hrun := run_app_none (ty := o.type) Tryz.underlying22 hi hown c
   obtain ⟨A1, c1, hv⟩ := hown.form
   rw [List.append_nil, Nat.add_zero] at h
   have h1 := h A1 c1 w (by rw [← hv]; exact hown) (World.grownBy.refl w _)
   rw [← hv] at h1
   unfold Oper.wp
   simp [execOp, ho, resolve, invoke, builtin, hs, hx, hrun, Result.andThen]
   exact h1
  | some ad =>
   refine wp_append_own w s x _ ho base _ i0 _ 1 8 Tryz.underlying22 hi hz0 hz1 hz2 rfl (by omega) v _ _ hs hown ad 0 c [] hx rfl (fun j u hj => by simp at hj) (by intro u hu; simp at hu)
    (by unfold maxLen; omega) (by omega) hbase ?_
   intro v' w' hown' hg _
   rw [List.append_nil] at hown' h
   have hown2 : Own w' base v' xs := hown'
   obtain ⟨A', c', rfl⟩ := hown2.form
   exact h A' c' w' hown2 hg
 obtain ⟨ad, rfl, hlt, hc⟩ := hr.2 hpos
 have hl := hr.len
 refine wp_append_own w s x _ ho base _ i0 _ 1 8 Tryz.underlying22 hi hz0 hz1 hz2 rfl (by omega) v _ _ hs hown ad n c (ys.map (Value.int .i64)) hx (by rw [List.length_map]; omega) ?_ (by intro u hu; obtain ⟨y, _, rfl⟩ := List.mem_map.1 hu; rfl)
  (by unfold maxLen; omega) (by omega) hbase ?_
 ·intro j u hj
  rw [List.getElem?_map] at hj
  have hjl : j < ys.length := by
   rcases Nat.lt_or_ge j ys.length with h' | h'
   ·exact h'
   ·rw [List.getElem?_eq_none h'] at hj; cases hj
  rw [hc j (by omega)]
  rw [List.getElem?_eq_getElem hjl] at hj ⊢
  exact hj
 ·intro v' w' hown' hg _
  have hown2 : Own w' base v' (xs ++ ys) := by
   unfold Own
   rw [List.length_append, List.map_append, hl]
   exact hown'
  obtain ⟨A', c', rfl⟩ := hown2.form
  rw [List.length_append, hl] at hown2 ⊢
  exact h A' c' w' hown2 hg
end
theorem own_of_blk {w : World} {g : Nat} {e : Int} (h : Blk w g 3 #[.int .i64 e]) : Own w g (.slice (some ⟨g, 0, none⟩) 1 1) [e] :=
 ⟨rfl, Or.inr ⟨g, 1, _, rfl, Nat.le_refl _, h, Nat.le_refl _, by unfold maxLen; omega, rfl, rfl⟩⟩
theorem rd_of_blk {w : World} {g : Nat} {xs : List Int} (h : Blk w g 3 (xs.map (Value.int .i64)).toArray) : Rd w (some ⟨g, 0, none⟩) xs.length xs := by
 refine ⟨rfl, fun _ => ⟨_, rfl, h.lt, fun j hj => ?_⟩⟩
 rw [add_lit, Nat.zero_add, h.cell]
 simp [hj]
theorem rd_far_blk {w w' : World} {A : Option Addr} {n g : Nat} {xs : List Int} {v : Value} (hr : Rd w A n xs) (hn : 2 ≤ n) (hB : Blk w g 3 #[v]) (hg : w.grownBy w' (some g)) : Rd w' A n xs := hr.far hg (rd_ne_one hr hn hB)
def strV (l : List UInt8) : Value := .string ⟨l.toArray⟩
end Go.Proofs.YthjblcboainknaaGreatDoor
end
