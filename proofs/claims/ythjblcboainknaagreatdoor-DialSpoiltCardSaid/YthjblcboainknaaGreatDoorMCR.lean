/- Walk: the almanac's text. -/
import Derived.Test.YthjblcboainknaaGreatDoorMC5
import Derived.Test.YthjblcboainknaaGreatDoorMC7
import Derived.Test.YthjblcboainknaaGreatDoorProg
import Derived.WalkKit
import Derived.WalkSpells
import Derived.WalkLawsBesides
import Derived.LoopTactic
import Derived.Deep.LoopGhost
import Derived.Lib.Hide
import Derived.Deep.Draws
import Derived.Deep.QuietTactic
import Derived.BigQuiet
import Derived.Deep.RegionHeld3
import Derived.OwnWalk
import Derived.Laws.Rows
import Derived.Deep.DeepMust
import Derived.Test.YthjblcboainknaaGreatDoorShelf
import Derived.Defers
import Derived.Recover
import Derived.Laws.Pointers
import Derived.Laws.EntriesVeiled
import Derived.Outline
import Derived.Deep.MidRow
import Derived.RangeFuncNested
import Derived.RangeFuncBound
import Derived.OwnWalkIn
import Derived.TacticsInMore
import Derived.LoopIn
import Derived.Shelf.RegionOpen
import Derived.Sort.CutIn
import Derived.Deep.Cut
import Derived.Maps.OwnOps
import Derived.Maps.OwnSet
import Derived.IntWalk
import Derived.Lib.LaidTab
import Derived.Lib.ItoaNum
import Derived.Sort.Grow
namespace Go.Proofs.YthjblcboainknaaGreatDoor
open Go.RowKit Dl

theorem fact_small {f : Fact} (h : kindB f (val_areFacts f) = true) : (0 ≤ f.m ∧ f.m ≤ 1000) ∧ (0 ≤ f.d ∧ f.d ≤ 1000) ∧ (0 ≤ f.v ∧ f.v ≤ 1000) := by
 unfold kindB val_areFacts at h
 have hd : datedB f = true → (0 ≤ f.m ∧ f.m ≤ 1000) ∧ (0 ≤ f.d ∧ f.d ≤ 1000) := fun h => by
  unfold datedB at h
  simp only [Bool.and_eq_true] at h
  have h1 := inB_iff.1 h.1
  have h2 := inB_iff.1 h.2
  omega
 have hb : bareB f = true → (0 ≤ f.m ∧ f.m ≤ 1000) ∧ (0 ≤ f.d ∧ f.d ≤ 1000) := fun h => by
  unfold bareB at h
  simp only [Bool.and_eq_true, beq_iff_eq] at h
  omega
 by_cases h1 : f.k = 1
 ·rw [if_pos h1, Bool.and_eq_true] at h
  have := hd h.1; have := inB_iff.1 h.2; omega
 rw [if_neg h1] at h
 by_cases h2 : f.k = 2
 ·rw [if_pos h2, Bool.and_eq_true] at h
  have := hd h.1; have := inB_iff.1 h.2; omega
 rw [if_neg h2] at h
 by_cases h3 : f.k = 3
 ·rw [if_pos h3, Bool.and_eq_true] at h
  have := hd h.1; have := inB_iff.1 h.2; omega
 rw [if_neg h3] at h
 by_cases h4 : f.k = 4
 ·rw [if_pos h4, Bool.and_eq_true] at h
  have := hb h.1; have := inB_iff.1 h.2; omega
 rw [if_neg h4] at h
 by_cases h5 : f.k = 5
 ·rw [if_pos h5, Bool.and_eq_true] at h
  have := hb h.1; have := inB_iff.1 h.2; omega
 rw [if_neg h5] at h
 cases h
set_option maxHeartbeats 1000000 in
theorem kindLine_is (k : Int) (w : World) (h1 : 1 ≤ k) (h2 : k ≤ 5) : Calls Tryz.prog 79 #[.int .i64 k] w fun e w' => e = .returned (.int .i64 (k + 1)) ∧ w = w' := by
 have hw1 : IntKind.i64.wrap (k - 1) = k - 1 := IntWalk.i64_in _ (by omega)
 have hw2 : IntKind.i64.wrap (2 + (k - 1)) = 2 + (k - 1) := IntWalk.i64_in _ (by omega)
 go_enter Tryz.func79, Tryz.ntmps79
 go_wp2_with fail
 go_ret
 exact ⟨ret_int (by omega), rfl⟩
theorem info_string : (Tryz.prog.info? 9).map (fun i => (i.zero, i.size, i.bytes)) = some (some (.string ⟨#[]⟩), 1, 16) := by kernel_rfl
theorem factXs_1 (m d v : Int) : factRow ⟨1, m, d, v⟩ = rowB 2 [m, d, v] := by simp [factRow, factXs]
theorem factXs_2 (m d v : Int) : factRow ⟨2, m, d, v⟩ = rowB 3 [m, d, v] := by simp [factRow, factXs]
theorem factXs_3 (m d v : Int) : factRow ⟨3, m, d, v⟩ = rowB 4 [m, d] := by simp [factRow, factXs]
theorem factXs_4 (m d v : Int) : factRow ⟨4, m, d, v⟩ = rowB 5 [v] := by simp [factRow, factXs]
theorem factXs_5 (m d v : Int) : factRow ⟨5, m, d, v⟩ = rowB 6 [v] := by simp [factRow, factXs]
theorem rd_of_cell {w : World} {g i : Nat} {t : TypeId} {cs : Array Value} {x : Int} (h : Blk w g t cs) (hi : cs[i]? = some (.int .i64 x)) : Rd w (some ⟨g, i, none⟩) 1 [x] := by
 refine ⟨rfl, fun _ => ⟨_, rfl, h.lt, fun j hj => ?_⟩⟩
 obtain rfl : j = 0 := by omega
 rw [add_lit, Nat.add_zero, h.cell]
 exact hi
def cellRows (rs : List (List UInt8)) : List (List Value) := rs.map (fun r => [strV r])

theorem term_bounds (b : UInt8) (i j : Nat) (hi : i ≤ 500) (hj : j ≤ 4000) : 0 ≤ ((b.toNat : Nat) : Int) * ((j : Int) + 1) * ((i : Int) + 1) ∧ ((b.toNat : Nat) : Int) * ((j : Int) + 1) * ((i : Int) + 1) ≤ 600000000 ∧ ((b.toNat : Nat) : Int) * ((j : Int) + 1) ≤ 1020255 ∧ 0 ≤ ((b.toNat : Nat) : Int) * ((j : Int) + 1) := by
 have hb : b.toNat ≤ 255 := by have := b.toNat_lt; omega
 have h1 : b.toNat * (j + 1) ≤ 255 * 4001 := Nat.mul_le_mul hb (by omega)
 have h2 : b.toNat * (j + 1) * (i + 1) ≤ 255 * 4001 * 501 := Nat.mul_le_mul h1 (by omega)
 have e1 : ((b.toNat : Nat) : Int) * ((j : Int) + 1) = ((b.toNat * (j + 1) : Nat) : Int) := by push_cast; rfl
 have e2 : ((b.toNat : Nat) : Int) * ((j : Int) + 1) * ((i : Int) + 1) = ((b.toNat * (j + 1) * (i + 1) : Nat) : Int) := by push_cast; rfl
 rw [e2, e1]
 omega
theorem chk_wrap (S C : Int) (b : UInt8) (j p : Nat) (hS : 0 ≤ S ∧ S ≤ 2000000000000000) (hC : 0 ≤ C ∧ C ≤ 3000000000000) (hj : j ≤ 500) (hp : p ≤ 4000) :
  wrap64 (S + C + wrap64 (wrap64 (wrap64 ((b.toNat : Nat) : Int) * ((p : Int) + 1)) * ((j : Int) + 1))) = S + C + ((b.toNat : Nat) : Int) * ((p : Int) + 1) * ((j : Int) + 1) := by
 obtain ⟨tb1, tb2, tb3, tb4⟩ := term_bounds b j p hj hp
 have hbb : b.toNat ≤ 255 := by have := b.toNat_lt; omega
 generalize b.toNat = n at *
 have e1 : wrap64 ((n : Nat) : Int) = (n : Int) := IntWalk.wrap64_in _ (by omega)
 rw [e1]
 generalize (n : Int) * ((p : Int) + 1) = x at *
 have e2 : wrap64 x = x := IntWalk.wrap64_in _ (by omega)
 rw [e2]
 generalize x * ((j : Int) + 1) = y at *
 have e3 : wrap64 y = y := IntWalk.wrap64_in _ (by omega)
 rw [e3]
 exact IntWalk.wrap64_in _ (by omega)
theorem chk1_bounds (i : Nat) (r : List UInt8) (hi : i ≤ 500) : ∀ j, j ≤ 4001 → 0 ≤ chk1 i r j ∧ chk1 i r j ≤ 600000000 * j := by
 intro j
 induction j with
 | zero => intro _; exact ⟨Int.le_refl _, Int.le_refl _⟩
 | succ j ih =>
  intro hj
  have h1 := ih (by omega)
  have h2 := term_bounds (r[j]?.getD 0) i j hi (by omega)
  unfold chk1
  push_cast
  omega
theorem chkN_bounds (R : List (List UInt8)) (hR : ∀ r ∈ R, r.length ≤ 4000) : ∀ i, i ≤ 500 → i ≤ R.length → 0 ≤ chkN R i ∧ chkN R i ≤ 2400000000000 * i := by
 intro i
 induction i with
 | zero => intro _ _; exact ⟨Int.le_refl _, Int.le_refl _⟩
 | succ i ih =>
  intro h8 hl
  have h1 := ih (by omega) (by omega)
  have h2 : (R[i]?.getD []).length ≤ 4000 := by
   rw [List.getElem?_eq_getElem (by omega)]
   exact hR _ (List.getElem_mem _)
  have h3 := chk1_bounds i (R[i]?.getD []) (by omega) (R[i]?.getD []).length (by omega)
  unfold chkN
  push_cast
  omega
theorem rowB_len (k : Nat) (xs : List Int) (hx : ∀ x ∈ xs, 0 ≤ x ∧ x ≤ 1000000) (hl : xs.length ≤ 410) : (rowB k xs).length ≤ 4000 := by
 have h := row_len k xs hx xs.length (Nat.le_refl _)
 rw [List.take_length] at h
 omega
theorem own_snoc {w : World} {base n m c : Nat} {E : TypeId} {A : Option Addr} {rs : List (List UInt8)} {r : List UInt8} (h : OwnS w base E 1 (.slice A n c) (cellRows rs ++ [[strV r]])) (hn : n = m) : OwnS w base E 1 (.slice A m c) (cellRows (rs ++ [r])) := by
 subst hn
 have : cellRows (rs ++ [r]) = cellRows rs ++ [[strV r]] := by unfold cellRows; rw [List.map_append]; rfl
 rw [this]
 exact h
theorem joinTail_len (xs : List (List UInt8)) (h : ∀ x ∈ xs, x.length ≤ 4010) : (Lib.joinTail [10] xs).length ≤ 4011 * xs.length := by
 induction xs with
 | nil => simp [Lib.joinTail]
 | cons x xs ih =>
  have h1 := h x (by simp)
  have h2 := ih (fun y hy => h y (by simp [hy]))
  unfold Lib.joinTail at h2 ⊢
  simp only [List.map_cons, List.flatten_cons, List.length_append, List.length_cons, List.length_nil]
  omega
theorem join_len (xs : List (List UInt8)) (h : ∀ x ∈ xs, x.length ≤ 4010) : (Lib.join xs [10]).length ≤ 4011 * xs.length := by
 cases xs with
 | nil => simp [Lib.join_nil]
 | cons x xs =>
  rw [Lib.join_cons]
  have h1 := h x (by simp)
  have h2 := joinTail_len xs (fun y hy => h y (by simp [hy]))
  simp only [List.length_append, List.length_cons]
  omega
theorem OwnS.addr {w : World} {base : Nat} {e : TypeId} {k n c : Nat} {A : Option Addr} {rows : List (List Value)} (h : OwnS w base e k (.slice A n c) rows) (hp : 0 < rows.length) : ∃ g, A = some ⟨g, 0, none⟩ ∧ g < w.heap.size ∧ n ≤ c := by
 rcases h.1.2 with ⟨h0, h1⟩ | ⟨g, cap, cur, hv, hb, hh, hle, _⟩
 ·omega
 ·injection hv with hA h1 h2
  exact ⟨g, hA, heap_lt hh, by omega⟩
theorem join_is (g c : Nat) {base : Nat} (rs : List (List UInt8)) (w : World) (h : OwnS w base 9 1 (.slice (some ⟨g, 0, none⟩) rs.length c) (cellRows rs)) (hc : rs.length ≤ c) (hrn : rs.length ≤ 1000) (hg : g < w.heap.size) (hl : (Lib.join rs [10]).length ≤ 10000000) :
  Calls Tryz.prog 81 #[.slice (some ⟨g, 0, none⟩) rs.length c, .string ⟨#[10]⟩] w fun e w' => e = .returned (.string ⟨(Lib.join rs [10]).toArray⟩) ∧ Below w.heap.size w w' := by
 have hm : (rs.map (fun l => (⟨l.toArray⟩ : ByteArray))).map (·.data.toList) = rs := by
  rw [List.map_map]
  exact (List.map_congr_left (fun l _ => by simp)).trans (List.map_id rs)
 have hs : (⟨#[10]⟩ : ByteArray).data.toList = [10] := rfl
 have hj := Tryz.strings_Join g 0 c (rs.map (fun l => (⟨l.toArray⟩ : ByteArray))) ⟨#[10]⟩ w (fun j x hx => by
  rw [List.getElem?_map] at hx
  cases hr : rs[j]? with
  | none => rw [hr] at hx; cases hx
  | some r =>
   rw [hr] at hx
   cases hx
   have hrow : (cellRows rs)[j]? = some [strV r] := by unfold cellRows; rw [List.getElem?_map, hr]; rfl
   obtain ⟨ad, e0, _, _, hcell⟩ := h.rd.at_ hrow
   cases e0
   have := hcell 0 _ rfl
   rw [add_lit, Nat.mul_one, Nat.add_zero] at this
   exact this) hg (by rw [List.length_map]; omega) (by rw [List.length_map]; exact hc) (by rw [hm, hs]; omega)
 rw [hm, hs, List.length_map] at hj
 exact hj

set_option maxRecDepth 100000 in
set_option maxHeartbeats 16000000 in
theorem text_gen (A L : Option Addr) (n c lc : Nat) (cs : List Int) (e num den add : Int) (l : List Fact) (w : World) (hr : Rd w A n cs) (hn : n ≤ 400) (hxc : ∀ x ∈ e :: cs, 0 ≤ x ∧ x ≤ 1000000) (hxm : ∀ x ∈ [num, den, add], 0 ≤ x ∧ x ≤ 1000000)
  (hL : RdS w L 4 (l.map Fact.row)) (hl6 : l.length ≤ 400) (hkinds : ∀ f ∈ l, 1 ≤ f.k ∧ f.k ≤ 5) (hsm : ∀ f ∈ l, (0 ≤ f.m ∧ f.m ≤ 1000000) ∧ (0 ≤ f.d ∧ f.d ≤ 1000000) ∧ (0 ≤ f.v ∧ f.v ≤ 1000000)) (hT : TabP w) :
  Calls Tryz.prog 38 #[.agg #[.int .i64 e, .slice A n c], .agg #[.int .i64 num, .int .i64 den, .int .i64 add], .slice L l.length lc] w fun e' w' =>
   e' = .returned (.string ⟨(textB (almRows e cs num den add l)).toArray⟩) ∧ Below w.heap.size w w' := by
 have g1 := fr_alloc (fr_alloc (fr_refl w) (.cells #[.int .i64 e, .slice A n c] 24)) (.cells #[.int .i64 num, .int .i64 den, .int .i64 add] 26)
 go_enter Tryz.func38, Tryz.ntmps38
 go_upto_region 1 with (fail)
 have hr0 := hr.keep g1
 have hT0 := hT.keep g1
 go_cut [7] from 15 (fun s7 wc => ∃ g, s7 = .slice (some ⟨g, 0, none⟩) 2 2 ∧ Blk wc g 9 #[strV (rowB 0 (e :: cs)), strV (rowB 1 [num, den, add])] ∧ w.heap.size ≤ g ∧ Below w.heap.size w wc)
 case first =>
  refine wp_region_noPanic ?_
  refine wp_region_held_drew (S := fun W => (∀ p : Addr, p.block < ((w.alloc (.cells #[.int .i64 e, .slice A n c] 24)).alloc (.cells #[.int .i64 num, .int .i64 den, .int .i64 add] 26)).heap.size → W.cell? p = ((w.alloc (.cells #[.int .i64 e, .slice A n c] 24)).alloc (.cells #[.int .i64 num, .int .i64 den, .int .i64 add] 26)).cell? p) ∧ Below ((w.alloc (.cells #[.int .i64 e, .slice A n c] 24)).alloc (.cells #[.int .i64 num, .int .i64 den, .int .i64 add] 26)).heap.size ((w.alloc (.cells #[.int .i64 e, .slice A n c] 24)).alloc (.cells #[.int .i64 num, .int .i64 den, .int .i64 add] 26)) W) (by kernel_rfl) ⟨fun _ _ => rfl, fr_drew (fr_refl _)⟩ (fun hHeld => ?_)
  -- the region, step by step, in whatever order
  refine wpAnyH_take (i := 0) (oi := ⟨some 15, .fieldAddr 24 (.tmp 3) 0, 0, "text.go:41", #[], none⟩) (v := ?_) rfl (by kernel_rfl) (by kernel_rfl) (by kernel_rfl) (fun _ _ _ h => h) (Or.inl ⟨by rfl, fun W hSw => ?_⟩) hHeld ?_
  rotate_left
  ·(try dsimp only at hSw); go_simp; (try with_reducible rfl)
  (try simp only [Act.put, List.setIfInBounds_toArray, List.set_cons_zero, List.set_cons_succ])
  refine wpAnyH_take (i := 1) (oi := ⟨some 16, .load 3 (.tmp 15), 3, "text.go:41", #[⟨0, .data⟩], none⟩) (v := ?_) rfl (by kernel_rfl) (by kernel_rfl) (by kernel_rfl) (fun _ _ _ h => h) (Or.inl ⟨by rfl, fun W hSw => ?_⟩) hHeld ?_
  rotate_left
  ·(try dsimp only at hSw); go_simp; (try with_reducible rfl)
  (try simp only [Act.put, List.setIfInBounds_toArray, List.set_cons_zero, List.set_cons_succ])
  refine wpAnyH_take (i := 3) (oi := ⟨some 18, .fieldAddr 24 (.tmp 3) 1, 0, "text.go:41", #[], none⟩) (v := ?_) rfl (by kernel_rfl) (by kernel_rfl) (by kernel_rfl) (fun _ _ _ h => h) (Or.inl ⟨by rfl, fun W hSw => ?_⟩) hHeld ?_
  rotate_left
  ·(try dsimp only at hSw); go_simp; (try with_reducible rfl)
  (try simp only [Act.put, List.setIfInBounds_toArray, List.set_cons_zero, List.set_cons_succ])
  refine wpAnyH_take (i := 4) (oi := ⟨some 19, .load 22 (.tmp 18), 22, "text.go:41", #[⟨3, .data⟩], none⟩) (v := ?_) rfl (by kernel_rfl) (by kernel_rfl) (by kernel_rfl) (fun _ _ _ h => h) (Or.inl ⟨by rfl, fun W hSw => ?_⟩) hHeld ?_
  rotate_left
  ·(try dsimp only at hSw); go_simp; (try with_reducible rfl)
  (try simp only [Act.put, List.setIfInBounds_toArray, List.set_cons_zero, List.set_cons_succ])
  refine wpAnyH_take (i := 7) (oi := ⟨some 22, .fieldAddr 26 (.tmp 4) 0, 0, "text.go:41", #[], none⟩) (v := ?_) rfl (by kernel_rfl) (by kernel_rfl) (by kernel_rfl) (fun _ _ _ h => h) (Or.inl ⟨by rfl, fun W hSw => ?_⟩) hHeld ?_
  rotate_left
  ·(try dsimp only at hSw); go_simp; (try with_reducible rfl)
  (try simp only [Act.put, List.setIfInBounds_toArray, List.set_cons_zero, List.set_cons_succ])
  refine wpAnyH_take (i := 8) (oi := ⟨some 23, .load 3 (.tmp 22), 3, "text.go:41", #[⟨7, .data⟩], none⟩) (v := ?_) rfl (by kernel_rfl) (by kernel_rfl) (by kernel_rfl) (fun _ _ _ h => h) (Or.inl ⟨by rfl, fun W hSw => ?_⟩) hHeld ?_
  rotate_left
  ·(try dsimp only at hSw); go_simp; (try with_reducible rfl)
  (try simp only [Act.put, List.setIfInBounds_toArray, List.set_cons_zero, List.set_cons_succ])
  refine wpAnyH_take (i := 9) (oi := ⟨some 24, .fieldAddr 26 (.tmp 4) 1, 0, "text.go:41", #[], none⟩) (v := ?_) rfl (by kernel_rfl) (by kernel_rfl) (by kernel_rfl) (fun _ _ _ h => h) (Or.inl ⟨by rfl, fun W hSw => ?_⟩) hHeld ?_
  rotate_left
  ·(try dsimp only at hSw); go_simp; (try with_reducible rfl)
  (try simp only [Act.put, List.setIfInBounds_toArray, List.set_cons_zero, List.set_cons_succ])
  refine wpAnyH_take (i := 10) (oi := ⟨some 25, .load 3 (.tmp 24), 3, "text.go:41", #[⟨9, .data⟩], none⟩) (v := ?_) rfl (by kernel_rfl) (by kernel_rfl) (by kernel_rfl) (fun _ _ _ h => h) (Or.inl ⟨by rfl, fun W hSw => ?_⟩) hHeld ?_
  rotate_left
  ·(try dsimp only at hSw); go_simp; (try with_reducible rfl)
  (try simp only [Act.put, List.setIfInBounds_toArray, List.set_cons_zero, List.set_cons_succ])
  refine wpAnyH_take (i := 11) (oi := ⟨some 26, .fieldAddr 26 (.tmp 4) 2, 0, "text.go:41", #[], none⟩) (v := ?_) rfl (by kernel_rfl) (by kernel_rfl) (by kernel_rfl) (fun _ _ _ h => h) (Or.inl ⟨by rfl, fun W hSw => ?_⟩) hHeld ?_
  rotate_left
  ·(try dsimp only at hSw); go_simp; (try with_reducible rfl)
  (try simp only [Act.put, List.setIfInBounds_toArray, List.set_cons_zero, List.set_cons_succ])
  refine wpAnyH_take (i := 12) (oi := ⟨some 27, .load 3 (.tmp 26), 3, "text.go:41", #[⟨11, .data⟩], none⟩) (v := ?_) rfl (by kernel_rfl) (by kernel_rfl) (by kernel_rfl) (fun _ _ _ h => h) (Or.inl ⟨by rfl, fun W hSw => ?_⟩) hHeld ?_
  rotate_left
  ·(try dsimp only at hSw); go_simp; (try with_reducible rfl)
  (try simp only [Act.put, List.setIfInBounds_toArray, List.set_cons_zero, List.set_cons_succ])
  refine wpAnyH_ready (rs := [2, 13]) (by kernel_rfl) (by simp) ?_
  refine (AllReadyH.cons (o := ⟨some 17, .buildSlice 22 1 #[(0, .tmp 16)], 22, "text.go:41", #[⟨1, .data⟩], none⟩) rfl (fun K hK => ?_) (AllReadyH.cons (o := ⟨some 28, .buildSlice 22 3 #[(0, .tmp 23), (1, .tmp 25), (2, .tmp 27)], 22, "text.go:41", #[⟨8, .data⟩, ⟨10, .data⟩, ⟨12, .data⟩], none⟩) rfl (fun K hK => ?_) AllReadyH.nil))
  ·rw [if_pos (by rfl)]
   refine wp_build1 rfl rfl ?_
   intro gA WA hOA hbA hgA
   have hgA0 := Nat.le_trans hHeld.2.size hgA
   (try replace hRB := hRB.keep hbA)
   refine hK.out _ _ (kp_step hbA hHeld) (fun hHeld => ?_)
   clear hK K
   (try simp only [Act.put, List.setIfInBounds_toArray, List.set_cons_zero, List.set_cons_succ])
   refine wpAnyH_ready (rs := [5, 13]) (by kernel_rfl) (by simp) ?_
   refine (AllReadyH.cons (o := ⟨some 20, .call { callee := .builtin .append, args := #[.tmp 17, .tmp 19], argTypes := #[22, 22] }, 22, "text.go:41", #[⟨2, .data⟩, ⟨4, .data⟩], none⟩) rfl (fun K hK => ?_) (AllReadyH.cons (o := ⟨some 28, .buildSlice 22 3 #[(0, .tmp 23), (1, .tmp 25), (2, .tmp 27)], 22, "text.go:41", #[⟨8, .data⟩, ⟨10, .data⟩, ⟨12, .data⟩], none⟩) rfl (fun K hK => ?_) AllReadyH.nil))
   ·rw [if_pos (by rfl)]
    refine wp_app_any _ _ rfl gA _ [e] rfl (own_of_blk hOA) A n c cs rfl (hr0.keep hHeld.2) (by simp) (by omega) (Nat.le_of_lt hOA.lt) ?_
    intro A' c' WP hOP hgP
    have hRA := hOP.rd
    (try replace hRB := rd_far_blk hRB (by simp) hOA hgP)
    have hbP := hHeld.2.grown hgP hHeld.2.size (by intro k hk; cases hk; exact hgA0)
    refine hK.out _ _ (kp_of hbP) (fun hHeld => ?_)
    clear hK K
    (try simp only [Act.put, List.setIfInBounds_toArray, List.set_cons_zero, List.set_cons_succ])
    refine wpAnyH_ready (rs := [6, 13]) (by kernel_rfl) (by simp) ?_
    refine (AllReadyH.cons (o := ⟨some 21, .call { callee := .value (.func 78), args := #[.const (.int .i64 0), .tmp 20], argTypes := #[3, 22] }, 9, "text.go:41", #[⟨5, .data⟩, ⟨5, .chain⟩], none⟩) rfl (fun K hK => ?_) (AllReadyH.cons (o := ⟨some 28, .buildSlice 22 3 #[(0, .tmp 23), (1, .tmp 25), (2, .tmp 27)], 22, "text.go:41", #[⟨8, .data⟩, ⟨10, .data⟩, ⟨12, .data⟩], none⟩) rfl (fun K hK => ?_) AllReadyH.nil))
    ·rw [if_pos (by rfl)]
     go_simp
     refine (row_any 0 (by omega) A' ([e].length + n) c' ([e] ++ cs) _ hRA (by simp; omega) hxc (hT0.keep hHeld.2)).mono ?_
     rintro e' WR ⟨rfl, hbR⟩
     (try replace hRB := hRB.keep hbR)
     refine hK.out _ _ (kp_step hbR hHeld) (fun hHeld => ?_)
     clear hK K
     (try simp only [Act.put, List.setIfInBounds_toArray, List.set_cons_zero, List.set_cons_succ])
     refine wpAnyH_ready (rs := [13]) (by kernel_rfl) (by simp) ?_
     refine (AllReadyH.cons (o := ⟨some 28, .buildSlice 22 3 #[(0, .tmp 23), (1, .tmp 25), (2, .tmp 27)], 22, "text.go:41", #[⟨8, .data⟩, ⟨10, .data⟩, ⟨12, .data⟩], none⟩) rfl (fun K hK => ?_) AllReadyH.nil)
     rw [if_pos (by rfl)]
     refine wp_build3 rfl rfl rfl rfl ?_
     intro gB WB hOB hbB hgB
     have hRB := rd_of_blk (xs := [num, den, add]) hOB
     (try replace hOA := hOA.keep hbB)
     (try replace hRA := hRA.keep hbB)
     refine hK.out _ _ (kp_step hbB hHeld) (fun hHeld => ?_)
     clear hK K
     (try simp only [Act.put, List.setIfInBounds_toArray, List.set_cons_zero, List.set_cons_succ])
     refine wpAnyH_ready (rs := [14]) (by kernel_rfl) (by simp) ?_
     refine (AllReadyH.cons (o := ⟨some 29, .call { callee := .value (.func 78), args := #[.const (.int .i64 1), .tmp 28], argTypes := #[3, 22] }, 9, "text.go:41", #[⟨13, .data⟩, ⟨6, .chain⟩], none⟩) rfl (fun K hK => ?_) AllReadyH.nil)
     rw [if_pos (by rfl)]
     go_simp
     refine (row_any 1 (by omega) (some ⟨gB, 0, none⟩) 3 3 [num, den, add] _ hRB (by omega) hxm (hT0.keep hHeld.2)).mono ?_
     rintro e' WS ⟨rfl, hbS⟩
     (try replace hOA := hOA.keep hbS)
     (try replace hRA := hRA.keep hbS)
     refine hK.out _ _ (kp_step hbS hHeld) (fun hHeld => ?_)
     clear hK K
     (try simp only [Act.put, List.setIfInBounds_toArray, List.set_cons_zero, List.set_cons_succ])
     refine wpAnyH_ready (rs := [15]) (by kernel_rfl) (by simp) ?_
     refine (AllReadyH.cons (o := ⟨some 30, .buildSlice 80 2 #[(0, .tmp 21), (1, .tmp 29)], 80, "text.go:41", #[⟨6, .data⟩, ⟨14, .data⟩], none⟩) rfl (fun K hK => ?_) AllReadyH.nil)
     rw [if_pos (by rfl)]
     refine wp_build2s rfl rfl rfl ?_
     intro gC WC hOC hbC hgC
     have hgC0 := Nat.le_trans hHeld.2.size hgC
     refine hK.out _ _ (kp_step hbC hHeld) (fun hHeld => ?_)
     clear hK K
     (try simp only [Act.put, List.setIfInBounds_toArray, List.set_cons_zero, List.set_cons_succ])
     refine wpAnyH_take (i := 16) (oi := ⟨some 7, .assign (.tmp 30), 80, "text.go:41", #[⟨15, .data⟩, ⟨14, .chain⟩, ⟨0, .phase⟩, ⟨1, .phase⟩, ⟨2, .phase⟩, ⟨3, .phase⟩, ⟨4, .phase⟩, ⟨5, .phase⟩, ⟨6, .phase⟩, ⟨7, .phase⟩, ⟨8, .phase⟩, ⟨9, .phase⟩, ⟨10, .phase⟩, ⟨11, .phase⟩, ⟨12, .phase⟩, ⟨13, .phase⟩, ⟨14, .phase⟩, ⟨15, .phase⟩], none⟩) (v := ?_) rfl (by kernel_rfl) (by kernel_rfl) (by kernel_rfl) (fun _ _ _ h => h) (Or.inl ⟨by rfl, fun W hSw => ?_⟩) hHeld ?_
     rotate_left
     ·(try dsimp only at hSw); go_simp; (try with_reducible rfl)
     (try simp only [Act.put, List.setIfInBounds_toArray, List.set_cons_zero, List.set_cons_succ])
     refine wpAnyH_done (by kernel_rfl) ?_ _
     refine NoPanic.normal ?_
     go_wp2_with fail
     go_meet
     case rel => exact ⟨gC, rfl, hOC, Nat.le_trans g1.size hgC0, fr_call g1 hHeld.2⟩
    ·rw [if_pos (by rfl)]
     refine wp_build3 rfl rfl rfl rfl ?_
     intro gB WB hOB hbB hgB
     have hRB := rd_of_blk (xs := [num, den, add]) hOB
     (try replace hOA := hOA.keep hbB)
     (try replace hRA := hRA.keep hbB)
     refine hK.out _ _ (kp_step hbB hHeld) (fun hHeld => ?_)
     clear hK K
     (try simp only [Act.put, List.setIfInBounds_toArray, List.set_cons_zero, List.set_cons_succ])
     refine wpAnyH_ready (rs := [6]) (by kernel_rfl) (by simp) ?_
     refine (AllReadyH.cons (o := ⟨some 21, .call { callee := .value (.func 78), args := #[.const (.int .i64 0), .tmp 20], argTypes := #[3, 22] }, 9, "text.go:41", #[⟨5, .data⟩, ⟨5, .chain⟩], none⟩) rfl (fun K hK => ?_) AllReadyH.nil)
     rw [if_pos (by rfl)]
     go_simp
     refine (row_any 0 (by omega) A' ([e].length + n) c' ([e] ++ cs) _ hRA (by simp; omega) hxc (hT0.keep hHeld.2)).mono ?_
     rintro e' WR ⟨rfl, hbR⟩
     (try replace hRB := hRB.keep hbR)
     refine hK.out _ _ (kp_step hbR hHeld) (fun hHeld => ?_)
     clear hK K
     (try simp only [Act.put, List.setIfInBounds_toArray, List.set_cons_zero, List.set_cons_succ])
     refine wpAnyH_ready (rs := [14]) (by kernel_rfl) (by simp) ?_
     refine (AllReadyH.cons (o := ⟨some 29, .call { callee := .value (.func 78), args := #[.const (.int .i64 1), .tmp 28], argTypes := #[3, 22] }, 9, "text.go:41", #[⟨13, .data⟩, ⟨6, .chain⟩], none⟩) rfl (fun K hK => ?_) AllReadyH.nil)
     rw [if_pos (by rfl)]
     go_simp
     refine (row_any 1 (by omega) (some ⟨gB, 0, none⟩) 3 3 [num, den, add] _ hRB (by omega) hxm (hT0.keep hHeld.2)).mono ?_
     rintro e' WS ⟨rfl, hbS⟩
     (try replace hOA := hOA.keep hbS)
     (try replace hRA := hRA.keep hbS)
     refine hK.out _ _ (kp_step hbS hHeld) (fun hHeld => ?_)
     clear hK K
     (try simp only [Act.put, List.setIfInBounds_toArray, List.set_cons_zero, List.set_cons_succ])
     refine wpAnyH_ready (rs := [15]) (by kernel_rfl) (by simp) ?_
     refine (AllReadyH.cons (o := ⟨some 30, .buildSlice 80 2 #[(0, .tmp 21), (1, .tmp 29)], 80, "text.go:41", #[⟨6, .data⟩, ⟨14, .data⟩], none⟩) rfl (fun K hK => ?_) AllReadyH.nil)
     rw [if_pos (by rfl)]
     refine wp_build2s rfl rfl rfl ?_
     intro gC WC hOC hbC hgC
     have hgC0 := Nat.le_trans hHeld.2.size hgC
     refine hK.out _ _ (kp_step hbC hHeld) (fun hHeld => ?_)
     clear hK K
     (try simp only [Act.put, List.setIfInBounds_toArray, List.set_cons_zero, List.set_cons_succ])
     refine wpAnyH_take (i := 16) (oi := ⟨some 7, .assign (.tmp 30), 80, "text.go:41", #[⟨15, .data⟩, ⟨14, .chain⟩, ⟨0, .phase⟩, ⟨1, .phase⟩, ⟨2, .phase⟩, ⟨3, .phase⟩, ⟨4, .phase⟩, ⟨5, .phase⟩, ⟨6, .phase⟩, ⟨7, .phase⟩, ⟨8, .phase⟩, ⟨9, .phase⟩, ⟨10, .phase⟩, ⟨11, .phase⟩, ⟨12, .phase⟩, ⟨13, .phase⟩, ⟨14, .phase⟩, ⟨15, .phase⟩], none⟩) (v := ?_) rfl (by kernel_rfl) (by kernel_rfl) (by kernel_rfl) (fun _ _ _ h => h) (Or.inl ⟨by rfl, fun W hSw => ?_⟩) hHeld ?_
     rotate_left
     ·(try dsimp only at hSw); go_simp; (try with_reducible rfl)
     (try simp only [Act.put, List.setIfInBounds_toArray, List.set_cons_zero, List.set_cons_succ])
     refine wpAnyH_done (by kernel_rfl) ?_ _
     refine NoPanic.normal ?_
     go_wp2_with fail
     go_meet
     case rel => exact ⟨gC, rfl, hOC, Nat.le_trans g1.size hgC0, fr_call g1 hHeld.2⟩
   ·rw [if_pos (by rfl)]
    refine wp_build3 rfl rfl rfl rfl ?_
    intro gB WB hOB hbB hgB
    have hRB := rd_of_blk (xs := [num, den, add]) hOB
    (try replace hOA := hOA.keep hbB)
    (try replace hRA := hRA.keep hbB)
    refine hK.out _ _ (kp_step hbB hHeld) (fun hHeld => ?_)
    clear hK K
    (try simp only [Act.put, List.setIfInBounds_toArray, List.set_cons_zero, List.set_cons_succ])
    refine wpAnyH_ready (rs := [5]) (by kernel_rfl) (by simp) ?_
    refine (AllReadyH.cons (o := ⟨some 20, .call { callee := .builtin .append, args := #[.tmp 17, .tmp 19], argTypes := #[22, 22] }, 22, "text.go:41", #[⟨2, .data⟩, ⟨4, .data⟩], none⟩) rfl (fun K hK => ?_) AllReadyH.nil)
    rw [if_pos (by rfl)]
    refine wp_app_any _ _ rfl gA _ [e] rfl (own_of_blk hOA) A n c cs rfl (hr0.keep hHeld.2) (by simp) (by omega) (Nat.le_of_lt hOA.lt) ?_
    intro A' c' WP hOP hgP
    have hRA := hOP.rd
    (try replace hRB := rd_far_blk hRB (by simp) hOA hgP)
    have hbP := hHeld.2.grown hgP hHeld.2.size (by intro k hk; cases hk; exact hgA0)
    refine hK.out _ _ (kp_of hbP) (fun hHeld => ?_)
    clear hK K
    (try simp only [Act.put, List.setIfInBounds_toArray, List.set_cons_zero, List.set_cons_succ])
    refine wpAnyH_ready (rs := [6]) (by kernel_rfl) (by simp) ?_
    refine (AllReadyH.cons (o := ⟨some 21, .call { callee := .value (.func 78), args := #[.const (.int .i64 0), .tmp 20], argTypes := #[3, 22] }, 9, "text.go:41", #[⟨5, .data⟩, ⟨5, .chain⟩], none⟩) rfl (fun K hK => ?_) AllReadyH.nil)
    rw [if_pos (by rfl)]
    go_simp
    refine (row_any 0 (by omega) A' ([e].length + n) c' ([e] ++ cs) _ hRA (by simp; omega) hxc (hT0.keep hHeld.2)).mono ?_
    rintro e' WR ⟨rfl, hbR⟩
    (try replace hRB := hRB.keep hbR)
    refine hK.out _ _ (kp_step hbR hHeld) (fun hHeld => ?_)
    clear hK K
    (try simp only [Act.put, List.setIfInBounds_toArray, List.set_cons_zero, List.set_cons_succ])
    refine wpAnyH_ready (rs := [14]) (by kernel_rfl) (by simp) ?_
    refine (AllReadyH.cons (o := ⟨some 29, .call { callee := .value (.func 78), args := #[.const (.int .i64 1), .tmp 28], argTypes := #[3, 22] }, 9, "text.go:41", #[⟨13, .data⟩, ⟨6, .chain⟩], none⟩) rfl (fun K hK => ?_) AllReadyH.nil)
    rw [if_pos (by rfl)]
    go_simp
    refine (row_any 1 (by omega) (some ⟨gB, 0, none⟩) 3 3 [num, den, add] _ hRB (by omega) hxm (hT0.keep hHeld.2)).mono ?_
    rintro e' WS ⟨rfl, hbS⟩
    (try replace hOA := hOA.keep hbS)
    (try replace hRA := hRA.keep hbS)
    refine hK.out _ _ (kp_step hbS hHeld) (fun hHeld => ?_)
    clear hK K
    (try simp only [Act.put, List.setIfInBounds_toArray, List.set_cons_zero, List.set_cons_succ])
    refine wpAnyH_ready (rs := [15]) (by kernel_rfl) (by simp) ?_
    refine (AllReadyH.cons (o := ⟨some 30, .buildSlice 80 2 #[(0, .tmp 21), (1, .tmp 29)], 80, "text.go:41", #[⟨6, .data⟩, ⟨14, .data⟩], none⟩) rfl (fun K hK => ?_) AllReadyH.nil)
    rw [if_pos (by rfl)]
    refine wp_build2s rfl rfl rfl ?_
    intro gC WC hOC hbC hgC
    have hgC0 := Nat.le_trans hHeld.2.size hgC
    refine hK.out _ _ (kp_step hbC hHeld) (fun hHeld => ?_)
    clear hK K
    (try simp only [Act.put, List.setIfInBounds_toArray, List.set_cons_zero, List.set_cons_succ])
    refine wpAnyH_take (i := 16) (oi := ⟨some 7, .assign (.tmp 30), 80, "text.go:41", #[⟨15, .data⟩, ⟨14, .chain⟩, ⟨0, .phase⟩, ⟨1, .phase⟩, ⟨2, .phase⟩, ⟨3, .phase⟩, ⟨4, .phase⟩, ⟨5, .phase⟩, ⟨6, .phase⟩, ⟨7, .phase⟩, ⟨8, .phase⟩, ⟨9, .phase⟩, ⟨10, .phase⟩, ⟨11, .phase⟩, ⟨12, .phase⟩, ⟨13, .phase⟩, ⟨14, .phase⟩, ⟨15, .phase⟩], none⟩) (v := ?_) rfl (by kernel_rfl) (by kernel_rfl) (by kernel_rfl) (fun _ _ _ h => h) (Or.inl ⟨by rfl, fun W hSw => ?_⟩) hHeld ?_
    rotate_left
    ·(try dsimp only at hSw); go_simp; (try with_reducible rfl)
    (try simp only [Act.put, List.setIfInBounds_toArray, List.set_cons_zero, List.set_cons_succ])
    refine wpAnyH_done (by kernel_rfl) ?_ _
    refine NoPanic.normal ?_
    go_wp2_with fail
    go_meet
    case rel => exact ⟨gC, rfl, hOC, Nat.le_trans g1.size hgC0, fr_call g1 hHeld.2⟩
  ·rw [if_pos (by rfl)]
   refine wp_build3 rfl rfl rfl rfl ?_
   intro gB WB hOB hbB hgB
   have hRB := rd_of_blk (xs := [num, den, add]) hOB
   (try replace hOA := hOA.keep hbB)
   (try replace hRA := hRA.keep hbB)
   refine hK.out _ _ (kp_step hbB hHeld) (fun hHeld => ?_)
   clear hK K
   (try simp only [Act.put, List.setIfInBounds_toArray, List.set_cons_zero, List.set_cons_succ])
   refine wpAnyH_ready (rs := [2]) (by kernel_rfl) (by simp) ?_
   refine (AllReadyH.cons (o := ⟨some 17, .buildSlice 22 1 #[(0, .tmp 16)], 22, "text.go:41", #[⟨1, .data⟩], none⟩) rfl (fun K hK => ?_) AllReadyH.nil)
   rw [if_pos (by rfl)]
   refine wp_build1 rfl rfl ?_
   intro gA WA hOA hbA hgA
   have hgA0 := Nat.le_trans hHeld.2.size hgA
   (try replace hRB := hRB.keep hbA)
   refine hK.out _ _ (kp_step hbA hHeld) (fun hHeld => ?_)
   clear hK K
   (try simp only [Act.put, List.setIfInBounds_toArray, List.set_cons_zero, List.set_cons_succ])
   refine wpAnyH_ready (rs := [5]) (by kernel_rfl) (by simp) ?_
   refine (AllReadyH.cons (o := ⟨some 20, .call { callee := .builtin .append, args := #[.tmp 17, .tmp 19], argTypes := #[22, 22] }, 22, "text.go:41", #[⟨2, .data⟩, ⟨4, .data⟩], none⟩) rfl (fun K hK => ?_) AllReadyH.nil)
   rw [if_pos (by rfl)]
   refine wp_app_any _ _ rfl gA _ [e] rfl (own_of_blk hOA) A n c cs rfl (hr0.keep hHeld.2) (by simp) (by omega) (Nat.le_of_lt hOA.lt) ?_
   intro A' c' WP hOP hgP
   have hRA := hOP.rd
   (try replace hRB := rd_far_blk hRB (by simp) hOA hgP)
   have hbP := hHeld.2.grown hgP hHeld.2.size (by intro k hk; cases hk; exact hgA0)
   refine hK.out _ _ (kp_of hbP) (fun hHeld => ?_)
   clear hK K
   (try simp only [Act.put, List.setIfInBounds_toArray, List.set_cons_zero, List.set_cons_succ])
   refine wpAnyH_ready (rs := [6]) (by kernel_rfl) (by simp) ?_
   refine (AllReadyH.cons (o := ⟨some 21, .call { callee := .value (.func 78), args := #[.const (.int .i64 0), .tmp 20], argTypes := #[3, 22] }, 9, "text.go:41", #[⟨5, .data⟩, ⟨5, .chain⟩], none⟩) rfl (fun K hK => ?_) AllReadyH.nil)
   rw [if_pos (by rfl)]
   go_simp
   refine (row_any 0 (by omega) A' ([e].length + n) c' ([e] ++ cs) _ hRA (by simp; omega) hxc (hT0.keep hHeld.2)).mono ?_
   rintro e' WR ⟨rfl, hbR⟩
   (try replace hRB := hRB.keep hbR)
   refine hK.out _ _ (kp_step hbR hHeld) (fun hHeld => ?_)
   clear hK K
   (try simp only [Act.put, List.setIfInBounds_toArray, List.set_cons_zero, List.set_cons_succ])
   refine wpAnyH_ready (rs := [14]) (by kernel_rfl) (by simp) ?_
   refine (AllReadyH.cons (o := ⟨some 29, .call { callee := .value (.func 78), args := #[.const (.int .i64 1), .tmp 28], argTypes := #[3, 22] }, 9, "text.go:41", #[⟨13, .data⟩, ⟨6, .chain⟩], none⟩) rfl (fun K hK => ?_) AllReadyH.nil)
   rw [if_pos (by rfl)]
   go_simp
   refine (row_any 1 (by omega) (some ⟨gB, 0, none⟩) 3 3 [num, den, add] _ hRB (by omega) hxm (hT0.keep hHeld.2)).mono ?_
   rintro e' WS ⟨rfl, hbS⟩
   (try replace hOA := hOA.keep hbS)
   (try replace hRA := hRA.keep hbS)
   refine hK.out _ _ (kp_step hbS hHeld) (fun hHeld => ?_)
   clear hK K
   (try simp only [Act.put, List.setIfInBounds_toArray, List.set_cons_zero, List.set_cons_succ])
   refine wpAnyH_ready (rs := [15]) (by kernel_rfl) (by simp) ?_
   refine (AllReadyH.cons (o := ⟨some 30, .buildSlice 80 2 #[(0, .tmp 21), (1, .tmp 29)], 80, "text.go:41", #[⟨6, .data⟩, ⟨14, .data⟩], none⟩) rfl (fun K hK => ?_) AllReadyH.nil)
   rw [if_pos (by rfl)]
   refine wp_build2s rfl rfl rfl ?_
   intro gC WC hOC hbC hgC
   have hgC0 := Nat.le_trans hHeld.2.size hgC
   refine hK.out _ _ (kp_step hbC hHeld) (fun hHeld => ?_)
   clear hK K
   (try simp only [Act.put, List.setIfInBounds_toArray, List.set_cons_zero, List.set_cons_succ])
   refine wpAnyH_take (i := 16) (oi := ⟨some 7, .assign (.tmp 30), 80, "text.go:41", #[⟨15, .data⟩, ⟨14, .chain⟩, ⟨0, .phase⟩, ⟨1, .phase⟩, ⟨2, .phase⟩, ⟨3, .phase⟩, ⟨4, .phase⟩, ⟨5, .phase⟩, ⟨6, .phase⟩, ⟨7, .phase⟩, ⟨8, .phase⟩, ⟨9, .phase⟩, ⟨10, .phase⟩, ⟨11, .phase⟩, ⟨12, .phase⟩, ⟨13, .phase⟩, ⟨14, .phase⟩, ⟨15, .phase⟩], none⟩) (v := ?_) rfl (by kernel_rfl) (by kernel_rfl) (by kernel_rfl) (fun _ _ _ h => h) (Or.inl ⟨by rfl, fun W hSw => ?_⟩) hHeld ?_
   rotate_left
   ·(try dsimp only at hSw); go_simp; (try with_reducible rfl)
   (try simp only [Act.put, List.setIfInBounds_toArray, List.set_cons_zero, List.set_cons_succ])
   refine wpAnyH_done (by kernel_rfl) ?_ _
   refine NoPanic.normal ?_
   go_wp2_with fail
   go_meet
   case rel => exact ⟨gC, rfl, hOC, Nat.le_trans g1.size hgC0, fr_call g1 hHeld.2⟩
 case rest =>
  obtain ⟨g, rfl, hOC, hg0, hfr⟩ := hcut
  have hown0 : OwnS wc w.heap.size 9 1 (.slice (some ⟨g, 0, none⟩) 2 2) (cellRows [rowB 0 (e :: cs), rowB 1 [num, den, add]]) :=
   ⟨⟨rfl, Or.inr ⟨g, 2, _, rfl, hg0, hOC, Nat.le_refl _, by unfold maxLen; omega, rfl, rfl⟩⟩, fun r hr => by
    simp only [cellRows, List.map_cons, List.map_nil, List.mem_cons, List.not_mem_nil, or_false] at hr
    rcases hr with rfl | rfl <;> rfl⟩
  go_wp2_with fail
  generalize hlen : l.length = nl at *
  have HLN := Lib.hid hlen
  clear hlen
  obtain ⟨rs, hrs⟩ : ∃ rs : List (List UInt8), [rowB 0 (e :: cs), rowB 1 [num, den, add]] = rs := ⟨_, rfl⟩
  have hrl : rs.length = 2 := by rw [← hrs]; rfl
  rw [hrs] at hown0
  have HRS := Lib.hid hrs
  have HRL := Lib.hid hrl
  clear hrs hrl hOC
  go_loopw [7, 33] (fun v i wr => ∃ k : Nat, k ≤ nl ∧ i = .int .i64 k ∧ OwnS wr w.heap.size 9 1 v (cellRows (rs ++ (l.take k).map factRow)) ∧ Below w.heap.size w wr) (fun _ i _ => nl - (intOf i).toNat)
  case atStart => exact ⟨0, Nat.zero_le _, rfl, by simpa using hown0, hfr⟩
  case round =>
   obtain ⟨k, hk, rfl, hown, hbel⟩ := hrel
   by_cases hlt : k < nl
   ·have hkl : k < l.length := by have := HLN.out; omega
    have hrow : (l.map Fact.row)[k]? = some (l[k].row) := by simp [hkl]
    obtain ⟨ad, rfl, hab, _, hc⟩ := (hL.keep hbel).at_ hrow
    have hqa : ∀ j, ad.add (k * 4 + (j + 1)) = (ad.add (k * 4)).add (j + 1) := fun j => by
     unfold Addr.add; by_cases h0 : k * 4 = 0 <;> simp [h0, Nat.add_assoc]
    have hc0 : wr.cell? (ad.add (k * 4)) = some (.int .i64 l[k].k) := hc 0 _ rfl
    have hc1 : wr.cell? ⟨(ad.add (k * 4)).block, (ad.add (k * 4)).off + 1, none⟩ = some (.int .i64 l[k].m) := (congrArg wr.cell? (hqa 0)).symm.trans (hc 1 _ rfl)
    have hc2 : wr.cell? ⟨(ad.add (k * 4)).block, (ad.add (k * 4)).off + 2, none⟩ = some (.int .i64 l[k].d) := (congrArg wr.cell? (hqa 1)).symm.trans (hc 2 _ rfl)
    have hc3 : wr.cell? ⟨(ad.add (k * 4)).block, (ad.add (k * 4)).off + 3, none⟩ = some (.int .i64 l[k].v) := (congrArg wr.cell? (hqa 2)).symm.trans (hc 3 _ rfl)
    have hqk := hkinds l[k] (List.getElem_mem hkl)
    have hsk := hsm l[k] (List.getElem_mem hkl)
    have hstep : rs ++ (l.take (k + 1)).map factRow = rs ++ (l.take k).map factRow ++ [factRow l[k]] := by
     rw [List.take_succ_eq_append_getElem hkl, List.map_append, List.append_assoc]; rfl
    have hll : (cellRows (rs ++ (l.take k).map factRow)).length < 1000000 := by
     unfold cellRows
     simp only [List.length_map, List.length_append, List.length_take, HRL.out]
     omega
    generalize l[k] = f at *
    obtain ⟨fk, fm, fd, fv⟩ := f
    simp only at hc0 hc1 hc2 hc3 hqk hsk
    obtain ⟨⟨hs1, hs2⟩, ⟨hs3, hs4⟩, hs5, hs6⟩ := hsk
    have HST := Lib.hid hstep
    clear hc hrow hqa hstep
    have g5 := fr_alloc (fr_alloc (fr_refl wr) (.cells #[.int .i64 fk, .int .i64 fm, .int .i64 fd, .int .i64 fv] 69)) (.cells #[.int .i64 fm, .int .i64 fd, .int .i64 fv] 3)
    have hN5 : Blk ((wr.alloc (.cells #[.int .i64 fk, .int .i64 fm, .int .i64 fd, .int .i64 fv] 69)).alloc (.cells #[.int .i64 fm, .int .i64 fd, .int .i64 fv] 3)) (wr.heap.size + 1) 3 #[.int .i64 fm, .int .i64 fd, .int .i64 fv] := Blk.new_at _ _ (by simp)
    have hT5 := hT.keep (fr_call hbel g5)
    have hF5 := ((Blk.new wr 69 #[.int .i64 fk, .int .i64 fm, .int .i64 fd, .int .i64 fv]).alloc (.cells #[.int .i64 fm, .int .i64 fd, .int .i64 fv] 3))
    have hR3 := rd_of_blk (xs := [fm, fd, fv]) hN5
    have h5 : fk = 1 ∨ fk = 2 ∨ fk = 3 ∨ fk = 4 ∨ fk = 5 := by omega
    rcases h5 with rfl | rfl | rfl | rfl | rfl
    ·go_wp2_with fail
     refine (kindLine_is 1 _ (by omega) (by omega)).mono ?_
     rintro e' w' ⟨rfl, rfl⟩
     go_wp2_with fail
     refine (row_any 2 (by omega) (some ⟨wr.heap.size + 1, 0, none⟩) 3 3 [fm, fd, fv] _ hR3 (by omega) (fun x hx => by simp only [List.mem_cons, List.not_mem_nil, or_false] at hx; omega) hT5).mono ?_
     rintro e' w6 ⟨rfl, hb6⟩
     have hown6 := (hown.keep g5).keep hb6
     have hbel6 := fr_call (fr_call hbel g5) hb6
     go_wp2_with (at_builtin; refine app_row rfl (.tmp 55) (.tmp 61) rfl Tryz.underlying80 info_string rfl (by decide) (by decide) w.heap.size _ _ rfl rfl hown6 rfl (by simp [Value.oneCell']) hll hbel6.size ?_; intro B0 cap0 wy hown3 hg3)
     have hge := hown6.ge
     refine ⟨⟨k + 1, hlt, rfl, by rw [HST.out, factXs_1]; exact own_snoc hown3 (by simp [cellRows]), (fr_alloc hbel6 _).grown hg3 (fr_alloc hbel6 _).size hge⟩, ?_⟩
     simp [intOf]; omega
    ·go_wp2_with fail
     refine (kindLine_is 2 _ (by omega) (by omega)).mono ?_
     rintro e' w' ⟨rfl, rfl⟩
     go_wp2_with fail
     refine (row_any 3 (by omega) (some ⟨wr.heap.size + 1, 0, none⟩) 3 3 [fm, fd, fv] _ hR3 (by omega) (fun x hx => by simp only [List.mem_cons, List.not_mem_nil, or_false] at hx; omega) hT5).mono ?_
     rintro e' w6 ⟨rfl, hb6⟩
     have hown6 := (hown.keep g5).keep hb6
     have hbel6 := fr_call (fr_call hbel g5) hb6
     go_wp2_with (at_builtin; refine app_row rfl (.tmp 55) (.tmp 61) rfl Tryz.underlying80 info_string rfl (by decide) (by decide) w.heap.size _ _ rfl rfl hown6 rfl (by simp [Value.oneCell']) hll hbel6.size ?_; intro B0 cap0 wy hown3 hg3)
     have hge := hown6.ge
     refine ⟨⟨k + 1, hlt, rfl, by rw [HST.out, factXs_2]; exact own_snoc hown3 (by simp [cellRows]), (fr_alloc hbel6 _).grown hg3 (fr_alloc hbel6 _).size hge⟩, ?_⟩
     simp [intOf]; omega
    ·go_wp2_with fail
     refine (kindLine_is 3 _ (by omega) (by omega)).mono ?_
     rintro e' w' ⟨rfl, rfl⟩
     go_wp2_with fail
     refine (row_any 4 (by omega) (some ⟨wr.heap.size + 1, 0, none⟩) 2 3 [fm, fd] _ (hR3.take (k := 2) (by simp)) (by omega) (fun x hx => by simp only [List.mem_cons, List.not_mem_nil, or_false] at hx; omega) hT5).mono ?_
     rintro e' w6 ⟨rfl, hb6⟩
     have hown6 := (hown.keep g5).keep hb6
     have hbel6 := fr_call (fr_call hbel g5) hb6
     go_wp2_with (at_builtin; refine app_row rfl (.tmp 55) (.tmp 61) rfl Tryz.underlying80 info_string rfl (by decide) (by decide) w.heap.size _ _ rfl rfl hown6 rfl (by simp [Value.oneCell']) hll hbel6.size ?_; intro B0 cap0 wy hown3 hg3)
     have hge := hown6.ge
     refine ⟨⟨k + 1, hlt, rfl, by rw [HST.out, factXs_3]; exact own_snoc hown3 (by simp [cellRows]), (fr_alloc hbel6 _).grown hg3 (fr_alloc hbel6 _).size hge⟩, ?_⟩
     simp [intOf]; omega
    ·go_wp2_with fail
     refine (kindLine_is 4 _ (by omega) (by omega)).mono ?_
     rintro e' w' ⟨rfl, rfl⟩
     go_wp2_with fail
     refine (row_any 5 (by omega) (some ⟨wr.heap.size + 1, 2, none⟩) 1 1 [fv] _ (rd_of_cell hN5 rfl) (by omega) (fun x hx => by simp only [List.mem_cons, List.not_mem_nil, or_false] at hx; omega) hT5).mono ?_
     rintro e' w6 ⟨rfl, hb6⟩
     have hown6 := (hown.keep g5).keep hb6
     have hbel6 := fr_call (fr_call hbel g5) hb6
     go_wp2_with (at_builtin; refine app_row rfl (.tmp 55) (.tmp 61) rfl Tryz.underlying80 info_string rfl (by decide) (by decide) w.heap.size _ _ rfl rfl hown6 rfl (by simp [Value.oneCell']) hll hbel6.size ?_; intro B0 cap0 wy hown3 hg3)
     have hge := hown6.ge
     refine ⟨⟨k + 1, hlt, rfl, by rw [HST.out, factXs_4]; exact own_snoc hown3 (by simp [cellRows]), (fr_alloc hbel6 _).grown hg3 (fr_alloc hbel6 _).size hge⟩, ?_⟩
     simp [intOf]; omega
    ·go_wp2_with fail
     refine (kindLine_is 5 _ (by omega) (by omega)).mono ?_
     rintro e' w' ⟨rfl, rfl⟩
     go_wp2_with fail
     refine (row_any 6 (by omega) (some ⟨wr.heap.size + 1, 2, none⟩) 1 1 [fv] _ (rd_of_cell hN5 rfl) (by omega) (fun x hx => by simp only [List.mem_cons, List.not_mem_nil, or_false] at hx; omega) hT5).mono ?_
     rintro e' w6 ⟨rfl, hb6⟩
     have hown6 := (hown.keep g5).keep hb6
     have hbel6 := fr_call (fr_call hbel g5) hb6
     go_wp2_with (at_builtin; refine app_row rfl (.tmp 55) (.tmp 61) rfl Tryz.underlying80 info_string rfl (by decide) (by decide) w.heap.size _ _ rfl rfl hown6 rfl (by simp [Value.oneCell']) hll hbel6.size ?_; intro B0 cap0 wy hown3 hg3)
     have hge := hown6.ge
     refine ⟨⟨k + 1, hlt, rfl, by rw [HST.out, factXs_5]; exact own_snoc hown3 (by simp [cellRows]), (fr_alloc hbel6 _).grown hg3 (fr_alloc hbel6 _).size hge⟩, ?_⟩
     simp [intOf]; omega
   ·obtain rfl : k = nl := by omega
    have hTk : l.take k = l := List.take_of_length_le (by have := HLN.out; omega)
    rw [hTk] at hown
    have hra : rs ++ l.map factRow = almRows e cs num den add l := by rw [← HRS.out]; rfl
    rw [hra] at hown
    have hlenR : (almRows e cs num den add l).length ≤ 402 := by
     unfold almRows
     simp only [List.length_cons, List.length_map]
     have := HLN.out
     omega
    have hR40 : ∀ r ∈ almRows e cs num den add l, r.length ≤ 4000 := fun r hr' => by
     unfold almRows at hr'
     rcases List.mem_cons.1 hr' with rfl | h
     ·exact rowB_len 0 _ hxc (by have := hr.len; simp; omega)
     ·rcases List.mem_cons.1 h with rfl | h
      ·exact rowB_len 1 _ hxm (by simp)
      ·obtain ⟨f, hf, rfl⟩ := List.mem_map.1 h
       have := hsm f hf
       refine rowB_len _ _ (fun x hx => ?_) (by unfold factXs; split <;> (try split) <;> simp)
       unfold factXs at hx
       split at hx
       ·simp only [List.mem_cons, List.not_mem_nil, or_false] at hx
        omega
       ·split at hx
        ·simp only [List.mem_cons, List.not_mem_nil, or_false] at hx
         omega
        ·simp only [List.mem_cons, List.not_mem_nil, or_false] at hx
         omega
    generalize hRR : almRows e cs num den add l = RR at *
    have HRR := Lib.hid hRR
    clear hRR
    have hCN := fun i h => chkN_bounds RR hR40 i h
    obtain ⟨B, b, rfl⟩ := hown.form
    have hrdS := hown.rd
    have hRl : (cellRows RR).length = RR.length := by unfold cellRows; rw [List.length_map]
    rw [hRl] at hown
    rw [hRl]
    clear hRl
    generalize hnr : RR.length = nr at *
    have HNR := Lib.hid hnr
    clear hnr
    go_wp2_with fail
    go_loop [11, 66] (fun v i => ∃ j : Nat, j ≤ nr ∧ i = .int .i64 j ∧ v = .int .i64 (chkN RR j)) (fun _ i => nr - (intOf i).toNat)
    case atStart => exact ⟨0, Nat.zero_le _, rfl, rfl⟩
    case round =>
     obtain ⟨j, hj, rfl, rfl⟩ := hrel
     by_cases hltj : j < nr
     ·have hjl : j < RR.length := by have := HNR.out; omega
      have hrowj : (cellRows RR)[j]? = some [strV RR[j]] := by simp [cellRows, hjl]
      obtain ⟨ad3, rfl, hab3, _, hc3⟩ := hrdS.at_ hrowj
      have hcs : wr.cell? (ad3.add (j * 1)) = some (strV RR[j]) := hc3 0 _ rfl
      rw [Nat.mul_one] at hcs
      have hrl40 := hR40 RR[j] (List.getElem_mem hjl)
      have hgj : RR[j]?.getD [] = RR[j] := by simp [hjl]
      have hb0 := hCN j (by omega) (by omega)
      have hst : chkN RR (j + 1) = chkN RR j + chk1 j RR[j] RR[j].length := by
       show chkN RR j + chk1 j (RR[j]?.getD []) (RR[j]?.getD []).length = _
       rw [hgj]
      have HST := Lib.hid hst
      clear hst hgj hc3 hrowj
      generalize RR[j] = r at *
      unfold strV at hcs
      go_wp2_with fail
      go_loop [11, 73] (fun v i => ∃ p : Nat, p ≤ r.length ∧ i = .int .i64 p ∧ v = .int .i64 (chkN RR j + chk1 j r p)) (fun _ i => r.length - (intOf i).toNat)
      case atStart => exact ⟨0, Nat.zero_le _, rfl, by simp [chk1]⟩
      case round =>
       obtain ⟨p, hp, rfl, rfl⟩ := hrel
       by_cases hltp : p < r.length
       ·have hgp : r[p]?.getD 0 = r[p] := by simp [hltp]
        have hcb := chk1_bounds j r (by omega) p (by omega)
        have hst : chk1 j r (p + 1) = chk1 j r p + ((r[p].toNat : Nat) : Int) * ((p : Int) + 1) * ((j : Int) + 1) := by
         show chk1 j r p + (((r[p]?.getD 0).toNat : Nat) : Int) * ((p : Int) + 1) * ((j : Int) + 1) = _
         rw [hgp]
        have HSP := Lib.hid hst
        clear hst hgp
        go_wp2_with fail
        have hcw := chk_wrap (chkN RR j) (chk1 j r p) r[p] j p (by omega) (by omega) (by omega) (by omega)
        refine ⟨⟨p + 1, hltp, rfl, ?_⟩, ?_⟩
        ·show Value.int .i64 (wrap64 (chkN RR j + chk1 j r p + wrap64 (wrap64 (wrap64 ((r[p].toNat : Nat) : Int) * ((p : Int) + 1)) * ((j : Int) + 1)))) = _
         rw [hcw, HSP.out, Int.add_assoc]
        ·simp [intOf]; omega
       ·obtain rfl : p = r.length := by omega
        go_wp2_with fail
        refine ⟨⟨j + 1, hltj, rfl, by rw [HST.out]⟩, ?_⟩
        simp [intOf]; omega
     ·obtain rfl : j = nr := by omega
      have hb0 := hCN j (by omega) (by omega)
      have t1 : (chkN RR j).tmod 103 = chkN RR j % 103 := Int.tmod_eq_emod_of_nonneg (by omega)
      have t2 : IntKind.i64.wrap (chkN RR j % 103) = chkN RR j % 103 := IntWalk.i64_in _ (by omega)
      obtain ⟨ct, hct⟩ : ∃ ct : Int, chkN RR j % 103 = ct := ⟨_, rfl⟩
      have hc1 : 0 ≤ ct := by omega
      have hc2 : ct < 103 := by omega
      have t3 : ct.tdiv 100 = ct / 100 := Int.tdiv_eq_ediv_of_nonneg hc1
      have t4 : ct.tdiv 10 = ct / 10 := Int.tdiv_eq_ediv_of_nonneg hc1
      have t5 : ct.tmod 10 = ct % 10 := Int.tmod_eq_emod_of_nonneg hc1
      have t6 : (ct / 10).tmod 10 = ct / 10 % 10 := Int.tmod_eq_emod_of_nonneg (by omega)
      have t7 : IntKind.i64.wrap (ct / 100) = ct / 100 := IntWalk.i64_in _ (by omega)
      have t8 : IntKind.i64.wrap (ct / 10) = ct / 10 := IntWalk.i64_in _ (by omega)
      have t9 : IntKind.i64.wrap (ct / 10 % 10) = ct / 10 % 10 := IntWalk.i64_in _ (by omega)
      have t10 : IntKind.i64.wrap (ct % 10) = ct % 10 := IntWalk.i64_in _ (by omega)
      have hT6 := hT.keep hbel
      have l1 := itoa_len (ct / 100) (by omega) (by omega)
      have l2 := itoa_len (ct / 10 % 10) (by omega) (by omega)
      have l3 := itoa_len (ct % 10) (by omega) (by omega)
      rw [hct] at t1 t2
      have HCT := Lib.hid hct
      clear hct
      go_wp2_with fail
      refine (itoa_any (ct / 100) _ (by omega) (by omega) hT6).mono ?_
      rintro e' w7 ⟨rfl, hb7⟩
      generalize hA1 : Lib.itoa (ct / 100) = A1 at *
      have HA1 := Lib.hid hA1
      clear hA1
      go_wp2_with fail
      refine (itoa_any (ct / 10 % 10) _ (by omega) (by omega) (hT6.keep hb7)).mono ?_
      rintro e' w8 ⟨rfl, hb8⟩
      generalize hA2 : Lib.itoa (ct / 10 % 10) = A2 at *
      have HA2 := Lib.hid hA2
      clear hA2
      go_wp2_with fail
      refine (itoa_any (ct % 10) _ (by omega) (by omega) ((hT6.keep hb7).keep hb8)).mono ?_
      rintro e' w9 ⟨rfl, hb9⟩
      generalize hA3 : Lib.itoa (ct % 10) = A3 at *
      have HA3 := Lib.hid hA3
      clear hA3
      have ho9 := ((hown.keep hb7).keep hb8).keep hb9
      have hb79 := fr_call (fr_call (fr_call hbel hb7) hb8) hb9
      have hll9 : (cellRows RR).length < 1000000 := by unfold cellRows; rw [List.length_map, HNR.out]; omega
      go_wp2_with (at_builtin; refine app_row rfl (.tmp 92) (.tmp 106) rfl Tryz.underlying80 info_string rfl (by decide) (by decide) w.heap.size _ _ rfl rfl ho9 rfl (by simp [Value.oneCell']) hll9 hb79.size ?_; intro B0 cap0 wy hown3 hg3)
      have hge9 := ho9.ge
      have hend : Value.string (⟨#[101, 110, 100, 32]⟩ ++ ⟨A1.toArray⟩ ++ ⟨A2.toArray⟩ ++ ⟨A3.toArray⟩) = strV ([101, 110, 100, 32] ++ A1 ++ A2 ++ A3) := by congr 1
      rw [hend] at hown3
      have hfy := (fr_alloc hb79 _).grown hg3 (fr_alloc hb79 _).size hge9
      have hown4 := own_snoc (m := (RR ++ [[101, 110, 100, 32] ++ A1 ++ A2 ++ A3]).length) hown3 (by simp [cellRows])
      have hnn : (cellRows RR).length + 1 = (RR ++ [[101, 110, 100, 32] ++ A1 ++ A2 ++ A3]).length := by simp [cellRows]
      rw [hnn]
      have hRE : textB RR = Lib.join (RR ++ [[101, 110, 100, 32] ++ A1 ++ A2 ++ A3]) [10] ++ [10] := by
       unfold textB textM endB chkM
       rw [HNR.out, HCT.out, HA1.out, HA2.out, HA3.out]
      have hr50 : ∀ r ∈ RR ++ [[101, 110, 100, 32] ++ A1 ++ A2 ++ A3], r.length ≤ 4010 := fun r hr' => by
       rcases List.mem_append.1 hr' with h | h
       ·have := hR40 r h; omega
       ·have : r = [101, 110, 100, 32] ++ A1 ++ A2 ++ A3 := by simpa using h
        rw [this]
        simp only [List.length_append, List.length_cons, List.length_nil]
        omega
      have hrn : (RR ++ [[101, 110, 100, 32] ++ A1 ++ A2 ++ A3]).length ≤ 403 := by
       rw [List.length_append, HNR.out]; simp only [List.length_cons, List.length_nil]; omega
      have hrp : 0 < (RR ++ [[101, 110, 100, 32] ++ A1 ++ A2 ++ A3]).length := by simp
      have HRE := Lib.hid hRE
      clear hRE hend hnn hown3 hg3
      generalize RR ++ [[101, 110, 100, 32] ++ A1 ++ A2 ++ A3] = RE at *
      obtain ⟨gz, rfl, hgz, hcz⟩ := hown4.addr (by simpa [cellRows] using hrp)
      have hjl := join_len RE hr50
      refine (join_is gz cap0 RE wy hown4 hcz (by omega) hgz (by omega)).mono ?_
      rintro e' w10 ⟨rfl, hb10⟩
      generalize hJ : Lib.join RE [10] = JJ at *
      have HJ := Lib.hid hJ
      clear hJ
      have hjl2 : JJ.length + 1 ≤ 9223372036854775807 := by omega
      have hS : Ending.returned (Value.string (⟨JJ.toArray⟩ ++ ⟨#[10]⟩)) = Ending.returned (Value.string ⟨(JJ ++ [10]).toArray⟩) := by congr 1
      go_wp2_with fail
      go_ret
      rw [HRR.out, HRE.out]
      exact ⟨hS, fr_call hfy hb10⟩
theorem text_any (A L : Option Addr) (n c lc : Nat) (cs : List Int) (e num den add : Int) (l : List Fact) (w : World) (hr : Rd w A n cs) (hok : calOk e cs = true) (hmb : moonB num den add = true) (hL : RdS w L 4 (l.map Fact.row)) (hl : factsB l = true) (hT : TabP w) :
  Calls Tryz.prog 38 #[.agg #[.int .i64 e, .slice A n c], .agg #[.int .i64 num, .int .i64 den, .int .i64 add], .slice L l.length lc] w fun e' w' =>
   e' = .returned (.string ⟨(textB (almRows e cs num den add l)).toArray⟩) ∧ Below w.heap.size w w' := by
 obtain ⟨he, ⟨hn1, hn2⟩, hpos⟩ := calOk_parts hok
 rw [hr.len] at hn1 hn2
 have hm := moonB_ok hmb
 have hd1 := hm.d1
 have hd2 := hm.d2
 have hm1 := hm.n1
 have hm2 := hm.n2
 have ha1 := hm.a1
 have ha2 := hm.a2
 have hx0 : ∀ x ∈ e :: cs, 0 ≤ x ∧ x ≤ 1000000 := fun x hx => by
  rcases List.mem_cons.1 hx with rfl | h
  ·omega
  ·obtain ⟨i, hi, rfl⟩ := List.getElem_of_mem h
   have := hpos i hi
   rw [List.getElem?_eq_getElem hi] at this
   simp only [Option.getD_some] at this
   omega
 have hx1 : ∀ x ∈ [num, den, add], 0 ≤ x ∧ x ≤ 1000000 := fun x hx => by
  simp only [List.mem_cons, List.not_mem_nil, or_false] at hx
  rcases hx with rfl | rfl | rfl <;> omega
 have hl1 := hl
 unfold factsB all_areFacts at hl1
 simp only [Bool.and_eq_true, decide_eq_true_eq, List.all_eq_true] at hl1
 exact text_gen A L n c lc cs e num den add l w hr (by omega) hx0 hx1 hL (by omega) (fun f hf => by have := facts_kinds hl f hf; omega) (fun f hf => by have := fact_small (hl1.2 f hf); omega) hT
end Go.Proofs.YthjblcboainknaaGreatDoor
