/- Walks, package shop: whether a piece is as defined. Walks, package shop: the bill without wheels. Walks, package plate: dividers. Walk, package plate: how the crank goes on with a circle. Walks, package plate: Cuts and Numbers. Walk, package plate: Numbers. Walks, package journeyman: whether a suite is as defined. -/
import Derived.Test.YtkmiphabagoifaaGreatDoorMT11
import Derived.Test.YtkmiphabagoifaaGreatDoorMT10
import Derived.BigQuiet
import Derived.Test.YtkmiphabagoifaaGreatDoorMT5
import Derived.BigRegion
import Derived.Deep.Cut
import Derived.Test.YtkmiphabagoifaaGreatDoorMT4
import Derived.Test.YtkmiphabagoifaaGreatDoorMT7
section
namespace Go.Proofs.YtkmiphabagoifaaGreatDoor
open Go.RowKit Go.Shelf

/-- a piece as it is defined -/
structure ShopOk (ls : List Lk) (hs : List Int) : Prop where
 n : 1 ≤ ls.length ∧ ls.length ≤ 5
 m : 1 ≤ hs.length ∧ hs.length ≤ 4
 fr : LksOk ls
 teeth : ∀ l ∈ ls, (4 ≤ l.pr.lo ∧ l.pr.lo ≤ 60) ∧ 4 ≤ l.pr.hi ∧ l.pr.hi ≤ 60
 far : ∀ l ∈ ls, (pathL ls l.fr).length < 3
 hand : ∀ h ∈ hs, 1 ≤ h ∧ h ≤ (ls.length : Int)
theorem RdS.takeS {w : World} {A : Option Addr} {k : Nat} {rows : List (List Value)} (h : RdS w A k rows) (j : Nat) : RdS w A k (rows.take j) := fun hn => by
 obtain ⟨ad, e, hb, hc⟩ := h (by rw [List.length_take] at hn; omega)
 refine ⟨ad, e, hb, fun i r hi => hc i r ?_⟩
 rw [List.getElem?_take] at hi
 split at hi
 ·exact hi
 ·cases hi
theorem LksOk.take {ls : List Lk} (h : LksOk ls) (n : Nat) : LksOk (ls.take n) := fun i l hi => by
 rw [List.getElem?_take] at hi
 split at hi
 ·exact h i l hi
 ·cases hi
set_option maxHeartbeats 2000000 in
theorem sPiece1_yes (A H : Option Addr) (n c m hc g : Nat) (x : Int) (w : World) (hX : Blk w g 25 #[.slice A n c, .slice H m hc]) (hx : 1 ≤ x ∧ x ≤ (n : Int)) :
  Calls Tryz.prog 125 #[.int .i64 x, .pointer (some ⟨g, 0, none⟩)] w fun e w' => e = .returned (.bool false) ∧ w = w' := by
 have hcX := fun j => hX.cell j
 have h1 : inB x 1 (n : Int) = true := inB_yes hx
 clear hX hx
 go_enter Tryz.func125, Tryz.ntmps125
 go_wp2_with fail
 refine (sin_is _ _ _ _ _ h1).mono ?_
 rintro e w' ⟨rfl, rfl⟩
 go_wp2_with fail
 go_ret
 exact ⟨rfl, rfl⟩
set_option maxRecDepth 100000 in
set_option maxHeartbeats 4000000 in
theorem index_hands (A H : Option Addr) (n c m hc g cc : Nat) (hs : List Int) (w : World) (hX : Blk w g 25 #[.slice A n c, .slice H m hc]) (hr : Rd w H m hs) (hm : m ≤ 1000) (ht : ∀ h ∈ hs, 1 ≤ h ∧ h ≤ (n : Int)) :
  Calls Tryz.prog 184 #[.slice H m cc, .func (.func 125) #[] #[.pointer (some ⟨g, 0, none⟩)]] w fun e' w' => e' = .returned (.int .i64 (-1)) ∧ w = w' := by
 have HL := Lib.hid hr.len
 go_enter Tryz.func184, Tryz.ntmps184
 go_wp2
 go_loopw [8] (fun i wr => ∃ k : Nat, k ≤ m ∧ i = .int .i64 k ∧ wr = w) (fun i _ => m - (intOf i).toNat)
 case atStart => exact ⟨0, Nat.zero_le _, rfl, rfl⟩
 case round =>
  obtain ⟨k, hk, rfl, rfl⟩ := hrel
  by_cases hlt : k < m
  ·have hkl : k < hs.length := by have := HL.out; omega
   obtain ⟨ad, rfl, hab, hc0⟩ := hr.at_ hlt
   have htk := ht _ (List.getElem_mem hkl)
   rw [show hs[k]?.getD 0 = hs[k] by simp [hkl]] at hc0
   generalize hs[k] = y at *
   clear hr ht
   go_wp2_with fail
   refine (sPiece1_yes A (some ad) n c m hc g y _ hX htk).mono ?_
   rintro e w1 ⟨rfl, rfl⟩
   go_wp2_with fail
   refine ⟨⟨k + 1, hlt, rfl, trivial⟩, ?_⟩
   simp [intOf]; omega
  ·go_wp2_with fail
   go_ret
   exact ⟨rfl, rfl⟩
set_option maxHeartbeats 2000000 in
theorem contains_hands (A H : Option Addr) (n c m hc g cc : Nat) (hs : List Int) (w : World) (hX : Blk w g 25 #[.slice A n c, .slice H m hc]) (hr : Rd w H m hs) (hm : m ≤ 1000) (ht : ∀ h ∈ hs, 1 ≤ h ∧ h ≤ (n : Int)) :
  Calls Tryz.prog 113 #[.slice H m cc, .func (.func 125) #[] #[.pointer (some ⟨g, 0, none⟩)]] w fun e' w' => e' = .returned (.bool false) ∧ w = w' := by
 have h := index_hands A H n c m hc g cc hs w hX hr hm ht
 clear hX hr ht
 go_enter Tryz.func113, Tryz.ntmps113
 go_wp2_with fail
 refine h.mono ?_
 rintro e w1 ⟨rfl, rfl⟩
 go_wp2_with fail
 go_ret
 exact ⟨rfl, rfl⟩
theorem info_lk : (Tryz.prog.info? 140).map (fun i => (i.zero, i.size, i.bytes)) = some (some (.agg #[.int .i64 0, .int .i64 0, .int .i64 0]), 3, 24) := by kernel_rfl
set_option maxRecDepth 100000 in
set_option maxHeartbeats 16000000 in
theorem sPiece_yes (A H : Option Addr) (n c m hc : Nat) (ls : List Lk) (hs : List Int) (w : World) (hr : RdS w A 3 (ls.map Lk.cells)) (hn : ls.length = n) (hh : Rd w H m hs) (hcap : n ≤ c) (hok : ShopOk ls hs) :
  Calls Tryz.prog 44 #[.agg #[.slice A n c, .slice H m hc]] w fun e w' => e = .returned (.bool true) ∧ Below w.heap.size w w' := by
 have hmf : ∀ (fn : Fn) (first cap : Array Value) (w : World), (Instr.makeFunc fn first cap).run Tryz.prog w = .ok (.func fn first cap) w := fun _ _ _ _ => rfl
 have hb0 := fr_alloc (fr_refl w) (.cells #[.slice A n c, .slice H m hc] 25)
 have hX := Blk.new w 25 #[.slice A n c, .slice H m hc]
 obtain ⟨w1, hw1⟩ : ∃ w1, w.alloc (.cells #[.slice A n c, .slice H m hc] 25) = w1 := ⟨_, rfl⟩
 rw [hw1] at hb0 hX
 replace hr := hr.keep hb0
 replace hh := hh.keep hb0
 have hml := hh.len
 obtain ⟨⟨n1, n2⟩, ⟨m1, m2⟩, hfr, hte, hfa, hha⟩ := hok
 rw [hn] at n1 n2 hha
 rw [hml] at m1 m2
 have hold := hr.oldA (by rw [List.length_map]; omega)
 have a1 : inB (n : Int) 1 5 = true := inB_yes (by omega)
 have a2 : inB (m : Int) 1 4 = true := inB_yes (by omega)
 have hcX := fun j => hX.cell j
 have hlX := hX.lt
 have HN := Lib.hid hn
 have HFR := Lib.hid hfr
 have HTE := Lib.hid hte
 have HFA := Lib.hid hfa
 clear hn hml hfr hte hfa
 go_enter Tryz.func44, Tryz.ntmps44
 go_upto_region 1 with (fail)
 (try rw [hw1])
 clear hw1
 go_wp2_with fail
 refine (sin_is _ _ _ _ _ a1).mono ?_
 rintro e w' ⟨rfl, rfl⟩
 go_wp2_with fail
 refine (sin_is _ _ _ _ _ a2).mono ?_
 rintro e w' ⟨rfl, rfl⟩
 go_wp2_with fail
 have hX0 := hX
 clear hcX hlX a1 a2 hX
 go_loopw [20] (fun t wr => ∃ j : Nat, j ≤ n ∧ t = .int .i64 j ∧ Below w1.heap.size w1 wr) (fun t _ => n - (intOf t).toNat)
 case atStart => exact ⟨0, Nat.zero_le _, rfl, fr_refl _⟩
 case round =>
  obtain ⟨j, hj, rfl, hbr⟩ := hrel
  by_cases hlt : j < n
  ·obtain ⟨l0, hl0⟩ : ∃ l0, ls[j]? = some l0 := ⟨ls[j]'(by have := HN.out; omega), List.getElem?_eq_getElem (by have := HN.out; omega)⟩
   have hme := List.mem_of_getElem? hl0
   have o1 := HFR.out j l0 hl0
   have o2 := HTE.out _ hme
   have o3 := HFA.out _ hme
   have hpt := pathL_take HFR.out j l0.fr o1 (by have := HN.out; omega)
   have hlen : (ls.take j).length = j := by rw [List.length_take]; have := HN.out; omega
   obtain ⟨ad, e, hab, h0, h1⟩ := (hr.keep hbr).nth (i := j) (r := l0.cells) (by simp [hl0])
   have c0 := h0 _ rfl
   have c1 := h1 0 _ rfl
   have c2 := h1 1 _ rfl
   subst e
   simp only [Nat.zero_add, Nat.reduceAdd] at c1 c2
   obtain ⟨f, x, y⟩ := l0
   simp only at o1 o2 o3 hpt c0 c1 c2
   have b1 : inB (f : Int) 0 (j : Int) = true := inB_yes (by omega)
   have b2 : inB x 4 60 = true := inB_yes o2.1
   have b3 : inB y 4 60 = true := inB_yes o2.2
   have d3 : decide ((3 : Int) ≤ ((pathL ls f).length : Int)) = false := decide_eq_false (by omega)
   have hp3 : (pathL (ls.take j) f).length ≤ 1000 := by rw [hpt]; omega
   have hro := ((hr.takeS j).keep hbr)
   rw [← List.map_take] at hro
   have i1 : (j : Int) < (n : Int) := by omega
   have i2 : 0 ≤ (j : Int) := by omega
   have i3 : (j : Int) ≤ (c : Int) := by omega
   clear h0 h1 hl0 hme o2
   go_upto_region 6 with (refine wpList_store_blk rfl _ _ _ rfl wr.heap.size 140 _ _ rfl rfl (Blk.new wr _ _) rfl (by kernel_rfl) (by simp [Value.oneCell']) ?_; intro w4 hQ hgQ)
   have hb4 : Below wr.heap.size wr w4 := (fr_alloc (fr_refl wr) _).grown hgQ (fr_alloc (fr_refl wr) _).size (by intro k hk; cases hk; exact Nat.le_refl _)
   have hb5 := fr_call hbr hb4
   have hX4 := hX0.keep hb5
   have hlX4 := hX4.lt
   have hlQ := hQ.lt
   have hkS : ∀ W, Below w4.heap.size w4 W → W.cell? ⟨wr.heap.size, 0, none⟩ = some (.int .i64 f) ∧ W.cell? ⟨wr.heap.size, 1, none⟩ = some (.int .i64 x) ∧ W.cell? ⟨wr.heap.size, 2, none⟩ = some (.int .i64 y) ∧ W.cell? ⟨w.heap.size, 0, none⟩ = some (.slice (some ad) n c) := fun W hb => ⟨(hb.cell (p := ⟨wr.heap.size, 0, none⟩) hlQ).trans (hQ.cell 0), (hb.cell (p := ⟨wr.heap.size, 1, none⟩) hlQ).trans (hQ.cell 1), (hb.cell (p := ⟨wr.heap.size, 2, none⟩) hlQ).trans (hQ.cell 2), (hb.cell (p := ⟨w.heap.size, 0, none⟩) hlX4).trans (hX4.cell 0)⟩
   dsimp only [Act.put]
   have hbz := fr_drew (fr_refl w4)
   clear c0 c1 c2
   refine wp_region_noPanic ?_
   refine wp_region_held_drew (S := fun W => W.cell? ⟨wr.heap.size, 0, none⟩ = some (.int .i64 f) ∧ W.cell? ⟨wr.heap.size, 1, none⟩ = some (.int .i64 x) ∧ W.cell? ⟨wr.heap.size, 2, none⟩ = some (.int .i64 y) ∧ W.cell? ⟨w.heap.size, 0, none⟩ = some (.slice (some ad) n c)) (by kernel_rfl) (hkS _ hbz) (fun hHeld => ?_)
   generalize w4.drew = wz at hbz hHeld ⊢
   -- the region, step by step, in whatever order
   refine wpAnyH_take (i := 0) (oi := ⟨some 25, .fieldAddr 140 (.tmp 4) 0, 0, "shop.go:50", #[], none⟩) (v := ?_) rfl (by kernel_rfl) (by kernel_rfl) (by kernel_rfl) (fun _ _ _ h => h) (Or.inl ⟨by rfl, fun W hSw => ?_⟩) hHeld ?_
   rotate_left
   ·(try dsimp only at hSw); go_simp; (try with_reducible rfl)
   (try simp only [Act.put, List.setIfInBounds_toArray, List.set_cons_zero, List.set_cons_succ])
   refine wpAnyH_take (i := 1) (oi := ⟨some 26, .load 3 (.tmp 25), 3, "shop.go:50", #[⟨0, .data⟩], none⟩) (v := ?_) rfl (by kernel_rfl) (by kernel_rfl) (by kernel_rfl) (fun _ _ _ h => h) (Or.inl ⟨by rfl, fun W hSw => ?_⟩) hHeld ?_
   rotate_left
   ·(try dsimp only at hSw); go_simp; (try with_reducible rfl)
   (try simp only [Act.put, List.setIfInBounds_toArray, List.set_cons_zero, List.set_cons_succ])
   refine wpAnyH_take (i := 2) (oi := ⟨some 27, .move (.tmp 3), 3, "shop.go:50", #[], none⟩) (v := ?_) rfl (by kernel_rfl) (by kernel_rfl) (by kernel_rfl) (fun _ _ _ h => h) (Or.inl ⟨by rfl, fun W hSw => ?_⟩) hHeld ?_
   rotate_left
   ·(try dsimp only at hSw); go_simp; (try with_reducible rfl)
   (try simp only [Act.put, List.setIfInBounds_toArray, List.set_cons_zero, List.set_cons_succ])
   refine wpAnyH_ready (rs := [3]) (by kernel_rfl) (by simp) ?_
   refine (AllReadyH.cons (o := ⟨some 28, .call { callee := .value (.func 45), args := #[.tmp 26, .const (.int .i64 0), .tmp 27], argTypes := #[3, 3, 3] }, 4, "shop.go:50", #[⟨1, .data⟩, ⟨2, .data⟩], none⟩) rfl (fun K hK => ?_) AllReadyH.nil)
   rw [if_pos (by rfl)]
   go_simp
   refine (sin_is _ _ _ _ _ b1).mono ?_
   rintro e' wz' ⟨rfl, rfl⟩
   refine hK.out _ _ (hHeld) (fun hHeld => ?_)
   clear hK K
   (try simp only [Act.put, List.setIfInBounds_toArray, List.set_cons_zero, List.set_cons_succ])
   refine wpAnyH_take (i := 4) (oi := ⟨some 29, .unOp .not 4 (.tmp 28), 4, "shop.go:50", #[⟨3, .data⟩], none⟩) (v := ?_) rfl (by kernel_rfl) (by kernel_rfl) (by kernel_rfl) (fun _ _ _ h => h) (Or.inl ⟨by rfl, fun W hSw => ?_⟩) hHeld ?_
   rotate_left
   ·(try dsimp only at hSw); go_simp; (try with_reducible rfl)
   (try simp only [Act.put, List.setIfInBounds_toArray, List.set_cons_zero, List.set_cons_succ])
   refine wpAnyH_take (i := 5) (oi := ⟨some 30, .move (.tmp 29), 4, "shop.go:50", #[⟨4, .data⟩, ⟨3, .chain⟩], none⟩) (v := ?_) rfl (by kernel_rfl) (by kernel_rfl) (by kernel_rfl) (fun _ _ _ h => h) (Or.inl ⟨by rfl, fun W hSw => ?_⟩) hHeld ?_
   rotate_left
   ·(try dsimp only at hSw); go_simp; (try with_reducible rfl)
   (try simp only [Act.put, List.setIfInBounds_toArray, List.set_cons_zero, List.set_cons_succ])
   refine wpAnyH_take (i := 6) (oi := ⟨some 31, .fieldAddr 140 (.tmp 4) 1, 0, "shop.go:50", #[⟨5, .guard⟩], some (5, false)⟩) (v := ?_) rfl (by kernel_rfl) (by kernel_rfl) (by kernel_rfl) (fun _ _ _ h => h) (Or.inl ⟨by rfl, fun W hSw => ?_⟩) hHeld ?_
   rotate_left
   ·(try dsimp only at hSw); go_simp; (try with_reducible rfl)
   (try simp only [Act.put, List.setIfInBounds_toArray, List.set_cons_zero, List.set_cons_succ])
   refine wpAnyH_take (i := 7) (oi := ⟨some 32, .load 138 (.tmp 31), 138, "shop.go:50", #[⟨6, .data⟩, ⟨5, .guard⟩], some (5, false)⟩) (v := ?_) rfl (by kernel_rfl) (by kernel_rfl) (by kernel_rfl) (fun _ _ _ h => h) (Or.inl ⟨by rfl, fun W hSw => ?_⟩) hHeld ?_
   rotate_left
   ·(try dsimp only at hSw); go_simp; (try with_reducible rfl)
   (try simp only [Act.put, List.setIfInBounds_toArray, List.set_cons_zero, List.set_cons_succ])
   refine wpAnyH_ready (rs := [8]) (by kernel_rfl) (by simp) ?_
   refine (AllReadyH.cons (o := ⟨some 33, .call { callee := .value (.func 123), args := #[.tmp 32], argTypes := #[138] }, 4, "shop.go:50", #[⟨7, .data⟩, ⟨5, .chain⟩, ⟨5, .guard⟩], some (5, false)⟩) rfl (fun K hK => ?_) AllReadyH.nil)
   rw [if_pos (by rfl)]
   go_simp
   refine (isPair_yes _ _ _ b2 b3).mono ?_
   rintro e' wz ⟨rfl, hb1⟩
   replace hbz := fr_call hbz hb1
   refine hK.out _ _ (hkS _ hbz) (fun hHeld => ?_)
   clear hK K
   (try simp only [Act.put, List.setIfInBounds_toArray, List.set_cons_zero, List.set_cons_succ])
   refine wpAnyH_take (i := 9) (oi := ⟨some 34, .unOp .not 4 (.tmp 33), 4, "shop.go:50", #[⟨8, .data⟩, ⟨5, .guard⟩], some (5, false)⟩) (v := ?_) rfl (by kernel_rfl) (by kernel_rfl) (by kernel_rfl) (fun _ _ _ h => h) (Or.inl ⟨by rfl, fun W hSw => ?_⟩) hHeld ?_
   rotate_left
   ·(try dsimp only at hSw); go_simp; (try with_reducible rfl)
   (try simp only [Act.put, List.setIfInBounds_toArray, List.set_cons_zero, List.set_cons_succ])
   refine wpAnyH_take (i := 10) (oi := ⟨some 35, .pick (.tmp 30) (.const (.bool true)) (.tmp 34), 4, "shop.go:50", #[⟨5, .data⟩, ⟨9, .data⟩], none⟩) (v := ?_) rfl (by kernel_rfl) (by kernel_rfl) (by kernel_rfl) (fun _ _ _ h => h) (Or.inl ⟨by rfl, fun W hSw => ?_⟩) hHeld ?_
   rotate_left
   ·(try dsimp only at hSw); go_simp; (try with_reducible rfl)
   (try simp only [Act.put, List.setIfInBounds_toArray, List.set_cons_zero, List.set_cons_succ])
   refine wpAnyH_take (i := 11) (oi := ⟨some 36, .move (.tmp 35), 4, "shop.go:50", #[⟨10, .data⟩, ⟨8, .chain⟩], none⟩) (v := ?_) rfl (by kernel_rfl) (by kernel_rfl) (by kernel_rfl) (fun _ _ _ h => h) (Or.inl ⟨by rfl, fun W hSw => ?_⟩) hHeld ?_
   rotate_left
   ·(try dsimp only at hSw); go_simp; (try with_reducible rfl)
   (try simp only [Act.put, List.setIfInBounds_toArray, List.set_cons_zero, List.set_cons_succ])
   refine wpAnyH_take (i := 12) (oi := ⟨some 37, .fieldAddr 25 (.tmp 1) 0, 0, "shop.go:50", #[⟨11, .guard⟩], some (11, false)⟩) (v := ?_) rfl (by kernel_rfl) (by kernel_rfl) (by kernel_rfl) (fun _ _ _ h => h) (Or.inl ⟨by rfl, fun W hSw => ?_⟩) hHeld ?_
   rotate_left
   ·(try dsimp only at hSw); go_simp; (try with_reducible rfl)
   (try simp only [Act.put, List.setIfInBounds_toArray, List.set_cons_zero, List.set_cons_succ])
   refine wpAnyH_take (i := 13) (oi := ⟨some 38, .load 22 (.tmp 37), 22, "shop.go:50", #[⟨12, .data⟩, ⟨11, .guard⟩], some (11, false)⟩) (v := ?_) rfl (by kernel_rfl) (by kernel_rfl) (by kernel_rfl) (fun _ _ _ h => h) (Or.inl ⟨by rfl, fun W hSw => ?_⟩) hHeld ?_
   rotate_left
   ·(try dsimp only at hSw); go_simp; (try with_reducible rfl)
   (try simp only [Act.put, List.setIfInBounds_toArray, List.set_cons_zero, List.set_cons_succ])
   refine wpAnyH_take (i := 14) (oi := ⟨some 39, .move (.tmp 3), 3, "shop.go:50", #[⟨11, .guard⟩], some (11, false)⟩) (v := ?_) rfl (by kernel_rfl) (by kernel_rfl) (by kernel_rfl) (fun _ _ _ h => h) (Or.inl ⟨by rfl, fun W hSw => ?_⟩) hHeld ?_
   rotate_left
   ·(try dsimp only at hSw); go_simp; (try with_reducible rfl)
   (try simp only [Act.put, List.setIfInBounds_toArray, List.set_cons_zero, List.set_cons_succ])
   refine wpAnyH_take (i := 15) (oi := ⟨some 40, .slice 22 (.tmp 38) none (some (.tmp 39)) none, 22, "shop.go:50", #[⟨13, .data⟩, ⟨14, .data⟩, ⟨11, .guard⟩], some (11, false)⟩) (v := ?_) rfl (by kernel_rfl) (by kernel_rfl) (by kernel_rfl) (fun _ _ _ h => h) (Or.inl ⟨by rfl, fun W hSw => ?_⟩) hHeld ?_
   rotate_left
   ·(try dsimp only at hSw); go_simp; (try with_reducible rfl)
   (try simp only [Act.put, List.setIfInBounds_toArray, List.set_cons_zero, List.set_cons_succ])
   refine wpAnyH_take (i := 16) (oi := ⟨some 41, .fieldAddr 140 (.tmp 4) 0, 0, "shop.go:50", #[⟨11, .guard⟩], some (11, false)⟩) (v := ?_) rfl (by kernel_rfl) (by kernel_rfl) (by kernel_rfl) (fun _ _ _ h => h) (Or.inl ⟨by rfl, fun W hSw => ?_⟩) hHeld ?_
   rotate_left
   ·(try dsimp only at hSw); go_simp; (try with_reducible rfl)
   (try simp only [Act.put, List.setIfInBounds_toArray, List.set_cons_zero, List.set_cons_succ])
   refine wpAnyH_take (i := 17) (oi := ⟨some 42, .load 3 (.tmp 41), 3, "shop.go:50", #[⟨16, .data⟩, ⟨11, .guard⟩], some (11, false)⟩) (v := ?_) rfl (by kernel_rfl) (by kernel_rfl) (by kernel_rfl) (fun _ _ _ h => h) (Or.inl ⟨by rfl, fun W hSw => ?_⟩) hHeld ?_
   rotate_left
   ·(try dsimp only at hSw); go_simp; (try with_reducible rfl)
   (try simp only [Act.put, List.setIfInBounds_toArray, List.set_cons_zero, List.set_cons_succ])
   refine wpAnyH_ready (rs := [18]) (by kernel_rfl) (by simp) ?_
   refine (AllReadyH.cons (o := ⟨some 43, .call { callee := .value (.func 124), args := #[.tmp 40, .tmp 42], argTypes := #[22, 3] }, 3, "shop.go:50", #[⟨15, .data⟩, ⟨17, .data⟩, ⟨11, .chain⟩, ⟨11, .guard⟩], some (11, false)⟩) rfl (fun K hK => ?_) AllReadyH.nil)
   rw [if_pos (by rfl)]
   go_simp
   refine (far_any (some ad) j c f (ls.take j) wz ((hro.keep hb4).keep hbz) hlen (HFR.out.take j) o1 (by omega) (fun ad' e => by cases e; have := hbz.size; have := hb4.size; omega) hp3).mono ?_
   rintro e' wz ⟨rfl, hb1⟩
   rw [hpt]
   replace hbz := fr_call hbz hb1
   refine hK.out _ _ (hkS _ hbz) (fun hHeld => ?_)
   clear hK K
   (try simp only [Act.put, List.setIfInBounds_toArray, List.set_cons_zero, List.set_cons_succ])
   refine wpAnyH_take (i := 19) (oi := ⟨some 44, .binOp .geq 3 (.tmp 43) (.const (.int .i64 3)) 3, 4, "shop.go:50", #[⟨18, .data⟩, ⟨11, .guard⟩], some (11, false)⟩) (v := ?_) rfl (by kernel_rfl) (by kernel_rfl) (by kernel_rfl) (fun _ _ _ h => h) (Or.inl ⟨by rfl, fun W hSw => ?_⟩) hHeld ?_
   rotate_left
   ·(try dsimp only at hSw); go_simp; (try with_reducible rfl)
   (try simp only [Act.put, List.setIfInBounds_toArray, List.set_cons_zero, List.set_cons_succ])
   refine wpAnyH_take (i := 20) (oi := ⟨some 45, .pick (.tmp 36) (.const (.bool true)) (.tmp 44), 4, "shop.go:50", #[⟨11, .data⟩, ⟨19, .data⟩], none⟩) (v := ?_) rfl (by kernel_rfl) (by kernel_rfl) (by kernel_rfl) (fun _ _ _ h => h) (Or.inl ⟨by rfl, fun W hSw => ?_⟩) hHeld ?_
   rotate_left
   ·(try dsimp only at hSw); go_simp; (try with_reducible rfl)
   (try simp only [Act.put, List.setIfInBounds_toArray, List.set_cons_zero, List.set_cons_succ])
   refine wpAnyH_done (by kernel_rfl) ?_ _
   refine NoPanic.normal ?_
   go_wp2_with fail
   go_roundw
   case rel => exact ⟨j + 1, by omega, by go_num, fr_call hb5 hbz⟩
   case measure => simp [intOf]; omega
  ·obtain rfl : j = n := by omega
   have hX4 := hX0.keep hbr
   have hcX := fun j => hX4.cell j
   have hlX := hX4.lt
   go_wp2_with fail
   refine (contains_hands A H j c m hc w.heap.size hc hs wr hX4 (hh.keep hbr) (by omega) hha).mono ?_
   rintro e' w5 ⟨rfl, rfl⟩
   go_wp2_with fail
   go_ret
   exact ⟨rfl, fr_call hb0 hbr⟩
set_option maxHeartbeats 2000000 in
theorem sCheck_ok (A H : Option Addr) (n c m hc : Nat) (ls : List Lk) (hs : List Int) (w : World) (hr : RdS w A 3 (ls.map Lk.cells)) (hn : ls.length = n) (hh : Rd w H m hs) (hcap : n ≤ c) (hok : ShopOk ls hs) :
  Calls Tryz.prog 101 #[.agg #[.slice A n c, .slice H m hc]] w fun e w' => e = .returned (.int .i64 0) ∧ Below w.heap.size w w' := by
 have hb0 := fr_alloc (fr_refl w) (.cells #[.slice A n c, .slice H m hc] 25)
 have hX := Blk.new w 25 #[.slice A n c, .slice H m hc]
 have hcX := fun j => hX.cell j
 have h := sPiece_yes A H n c m hc ls hs _ (hr.keep hb0) hn (hh.keep hb0) hcap hok
 clear hr hh hn hok hX
 go_enter Tryz.func101, Tryz.ntmps101
 go_wp2_with fail
 refine h.mono ?_
 rintro e w1 ⟨rfl, hb1⟩
 go_wp2_with fail
 go_ret
 exact ⟨rfl, fr_call hb0 hb1⟩
end Go.Proofs.YtkmiphabagoifaaGreatDoor
end

section
namespace Go.Proofs.YtkmiphabagoifaaGreatDoor
open Go.RowKit Go.Shelf

set_option maxHeartbeats 2000000 in
theorem index_none (f c : Nat) (w : World) :
  Calls Tryz.prog 184 #[.slice none 0 c, .func (.func f) #[] #[]] w fun e' w' => e' = .returned (.int .i64 (-1)) ∧ w = w' := by
 go_enter Tryz.func184, Tryz.ntmps184
 go_wp2
 go_loopw [8] (fun i wr => i = .int .i64 0 ∧ wr = w) (fun _ _ => 0)
 case atStart => exact ⟨rfl, rfl⟩
 case round =>
  obtain ⟨rfl, rfl⟩ := hrel
  go_wp2_with fail
  go_ret
  exact ⟨rfl, rfl⟩
set_option maxHeartbeats 2000000 in
theorem contains_none (c : Nat) (w : World) :
  Calls Tryz.prog 113 #[.slice none 0 c, .func (.func 232) #[] #[]] w fun e' w' => e' = .returned (.bool false) ∧ w = w' := by
 go_enter Tryz.func113, Tryz.ntmps113
 go_wp2_with fail
 refine (index_none 232 c w).mono ?_
 rintro e w1 ⟨rfl, rfl⟩
 go_wp2_with fail
 go_ret
 exact ⟨rfl, rfl⟩
set_option maxHeartbeats 2000000 in
theorem areTeeth_none (w : World) :
  Calls Tryz.prog 178 #[.slice none 0 0] w fun e' w' => e' = .returned (.bool true) ∧ w = w' := by
 go_enter Tryz.func178, Tryz.ntmps178
 go_wp2_with fail
 refine (contains_none 0 w).mono ?_
 rintro e w1 ⟨rfl, rfl⟩
 go_wp2_with fail
 go_ret
 exact ⟨rfl, rfl⟩
set_option maxHeartbeats 2000000 in
theorem ssum_none (w : World) :
  Calls Tryz.prog 180 #[.slice none 0 0] w fun e' w' => e' = .returned (.int .i64 0) ∧ w = w' := by
 go_enter Tryz.func180, Tryz.ntmps180
 go_wp2_with fail
 go_loopw [3, 8] (fun s i wr => s = .int .i64 0 ∧ i = .int .i64 0 ∧ wr = w) (fun _ _ _ => 0)
 case atStart => exact ⟨rfl, rfl, rfl⟩
 case round =>
  obtain ⟨rfl, rfl, rfl⟩ := hrel
  go_wp2_with fail
  go_ret
  exact ⟨rfl, rfl⟩
set_option maxHeartbeats 2000000 in
theorem up_is (a : Nat) (w : World) (ha : a ≤ 1000000000000) :
  Calls Tryz.prog 179 #[.int .i64 a, .int .i64 100] w fun e' w' => e' = .returned (.int .i64 ((a + 99) / 100 : Nat)) ∧ w = w' := by
 have z1 : IntKind.i64.wrap ((a : Int) + 100) = ((a + 100 : Nat) : Int) := by rw [IntWalk.i64_in _ (by omega)]; omega
 have z2 : IntKind.i64.wrap (((a + 100 : Nat) : Int) - 1) = ((a + 99 : Nat) : Int) := by rw [IntWalk.i64_in _ (by omega)]; omega
 have z3 : ((a + 99 : Nat) : Int).tdiv 100 = (((a + 99) / 100 : Nat) : Int) := rfl
 obtain ⟨p, hp⟩ : ∃ p, a + 100 = p := ⟨_, rfl⟩
 obtain ⟨q, hq⟩ : ∃ q, a + 99 = q := ⟨_, rfl⟩
 obtain ⟨r, hr⟩ : ∃ r, (a + 99) / 100 = r := ⟨_, rfl⟩
 have hr2 : r ≤ 1000000000000 := by omega
 have z4 : IntKind.i64.wrap (r : Int) = (r : Int) := IntWalk.i64_in _ (by omega)
 rw [hr] at z3 ⊢
 rw [hp] at z1 z2
 rw [hq] at z2 z3
 clear hp hq hr
 go_enter Tryz.func179, Tryz.ntmps179
 go_wp2_with fail
 go_ret
 exact ⟨rfl, rfl⟩
set_option maxRecDepth 100000 in
set_option maxHeartbeats 8000000 in
theorem bill_none (br hr wg pc : Nat) (w : World) (h1 : br ≤ 1000) (h2 : hr ≤ 40) (h3 : wg ≤ 100) (h4 : pc ≤ 100) :
  Calls Tryz.prog 104 #[.agg #[.slice none 0 0, .int .i64 br, .int .i64 hr, .int .i64 wg, .int .i64 pc, .int .i64 0]] w fun e' w' => ∃ x y, e' = .returned (.tuple #[x, y, .int .i64 0]) ∧ Below w.heap.size w w' := by
 have hb0 := fr_alloc (fr_refl w) (.cells #[.slice none 0 0, .int .i64 br, .int .i64 hr, .int .i64 wg, .int .i64 pc, .int .i64 0] 76)
 have hX := Blk.new w 76 #[.slice none 0 0, .int .i64 br, .int .i64 hr, .int .i64 wg, .int .i64 pc, .int .i64 0]
 obtain ⟨w1, hw1⟩ : ∃ w1, w.alloc (.cells #[.slice none 0 0, .int .i64 br, .int .i64 hr, .int .i64 wg, .int .i64 pc, .int .i64 0] 76) = w1 := ⟨_, rfl⟩
 rw [hw1] at hb0 hX
 have hcX := fun j => hX.cell j
 have hlX := hX.lt
 have a1 : inB (br : Int) 0 1000 = true := inB_yes (by omega)
 have a2 : inB (hr : Int) 0 40 = true := inB_yes (by omega)
 have a3 : inB (wg : Int) 0 100 = true := inB_yes (by omega)
 have a4 : inB (pc : Int) 0 100 = true := inB_yes (by omega)
 have a5 : inB 0 0 1000000 = true := by decide
 go_enter Tryz.func104, Tryz.ntmps104
 go_upto_region 1 with (fail)
 (try rw [hw1])
 clear hw1
 go_wp2_with fail
 refine (areTeeth_none _).mono ?_
 rintro e w' ⟨rfl, rfl⟩
 go_wp2_with fail
 refine (sin_is _ _ _ _ _ a1).mono ?_
 rintro e w' ⟨rfl, rfl⟩
 go_wp2_with fail
 refine (sin_is _ _ _ _ _ a2).mono ?_
 rintro e w' ⟨rfl, rfl⟩
 go_wp2_with fail
 refine (sin_is _ _ _ _ _ a3).mono ?_
 rintro e w' ⟨rfl, rfl⟩
 go_wp2_with fail
 refine (sin_is _ _ _ _ _ a4).mono ?_
 rintro e w' ⟨rfl, rfl⟩
 go_wp2_with fail
 refine (sin_is _ _ _ _ _ a5).mono ?_
 rintro e w' ⟨rfl, rfl⟩
 clear a1 a2 a3 a4 a5
 go_wp2_with fail
 go_loopw [5, 47] (fun s i wr => s = .slice none 0 0 ∧ i = .int .i64 0 ∧ wr = w1) (fun _ _ _ => 0)
 case atStart => exact ⟨rfl, rfl, rfl⟩
 case round =>
  obtain ⟨rfl, rfl, rfl⟩ := hrel
  obtain ⟨C, hC⟩ : ∃ C, hr * wg = C := ⟨_, rfl⟩
  have hC1 : C ≤ 40 * 100 := by rw [← hC]; exact Nat.mul_le_mul h2 h3
  have hCi : (hr : Int) * (wg : Int) = (C : Int) := by rw [← Int.natCast_mul, hC]
  obtain ⟨D, hD⟩ : ∃ D, C * pc = D := ⟨_, rfl⟩
  have hD1 : D ≤ 4000 * 100 := by rw [← hD]; exact Nat.mul_le_mul hC1 h4
  have hDi : (C : Int) * (pc : Int) = (D : Int) := by rw [← Int.natCast_mul, hD]
  have z1 : IntKind.i64.wrap ((hr : Int) * (wg : Int)) = (C : Int) := by rw [hCi]; exact IntWalk.i64_in _ (by omega)
  have z2 : IntKind.i64.wrap ((C : Int) * (pc : Int)) = (D : Int) := by rw [hDi]; exact IntWalk.i64_in _ (by omega)
  have z0 : IntKind.i64.wrap 0 = 0 := rfl
  have z3 : IntKind.i64.wrap (C : Int) = (C : Int) := IntWalk.i64_in _ (by omega)
  have u0 : ∀ W, Calls Tryz.prog 179 #[.int .i64 0, .int .i64 100] W fun e' w' => e' = .returned (.int .i64 0) ∧ W = w' := fun W => up_is 0 W (by omega)
  have u1 := fun W => up_is D W (by omega)
  obtain ⟨E, hE⟩ : ∃ E, (D + 99) / 100 = E := ⟨_, rfl⟩
  rw [hE] at u1
  have hE1 : E ≤ 5000 := by omega
  have z4 : IntKind.i64.wrap ((C : Int) + (E : Int)) = (C : Int) + (E : Int) := IntWalk.i64_in _ (by omega)
  clear hC hCi hD hDi hE h1 h2 h3 h4
  go_wp2_with fail
  go_quiet ((first | (go_at_call 180; exact quiet_left (ssum_none _)) | (go_at_call 179; exact quiet_left (u0 _))))
  have hXq := hX.keep (fr_drewN (fr_refl _) nq)
  have hcXq := fun j => hXq.cell j
  have hlXq := hXq.lt
  clear hcX hlX
  go_wp2_with fail
  refine (u1 _).mono ?_
  rintro e w' ⟨rfl, rfl⟩
  go_wp2_with fail
  have hbq := fr_drewN hb0 nq
  clear hXq
  generalize wr.drewN nq = wq at *
  go_quiet (fail)
  go_wp2_with fail
  go_ret3
  exact ⟨_, _, rfl, fr_drewN hbq nq⟩
end Go.Proofs.YtkmiphabagoifaaGreatDoor
end

section
namespace Go.Proofs.YtkmiphabagoifaaGreatDoor
open Go.RowKit

set_option maxHeartbeats 2000000 in
theorem isCount_is (x : Int) (w : World) (b : Bool) (hb : inB x 1 400 = b) :
  Calls Tryz.prog 185 #[.int .i64 x] w fun e w' => e = .returned (.bool b) ∧ w = w' := by
 go_enter Tryz.func185, Tryz.ntmps185
 go_wp2_with fail
 refine (pin_is _ _ _ _ _ hb).mono ?_
 rintro e w' ⟨rfl, rfl⟩
 go_wp2_with fail
 go_ret
 exact ⟨rfl, rfl⟩
set_option maxHeartbeats 2000000 in
theorem isDivider1_yes (x : Int) (w : World) (h1 : inB x 1 120 = true) :
  Calls Tryz.prog 226 #[.int .i64 x] w fun e w' => e = .returned (.bool false) ∧ w = w' := by
 go_enter Tryz.func226, Tryz.ntmps226
 go_wp2_with fail
 refine (pin_is _ _ _ _ _ h1).mono ?_
 rintro e w' ⟨rfl, rfl⟩
 go_wp2_with fail
 go_ret
 exact ⟨rfl, rfl⟩
/-- numbers of holes -/
def HolesOk (l : List Int) : Prop := ∀ x ∈ l, 1 ≤ x ∧ x ≤ 120
set_option maxRecDepth 100000 in
set_option maxHeartbeats 4000000 in
theorem index_div (A : Option Addr) (n c : Nat) (l : List Int) (w : World) (hr : Rd w A n l) (hn : n ≤ 1000) (ht : HolesOk l) :
  Calls Tryz.prog 184 #[.slice A n c, .func (.func 226) #[] #[]] w fun e' w' => e' = .returned (.int .i64 (-1)) ∧ w = w' := by
 have HL := Lib.hid hr.len
 go_enter Tryz.func184, Tryz.ntmps184
 go_wp2
 go_loopw [8] (fun i wr => ∃ k : Nat, k ≤ n ∧ i = .int .i64 k ∧ wr = w) (fun i _ => n - (intOf i).toNat)
 case atStart => exact ⟨0, Nat.zero_le _, rfl, rfl⟩
 case round =>
  obtain ⟨k, hk, rfl, rfl⟩ := hrel
  by_cases hlt : k < n
  ·have hkl : k < l.length := by have := HL.out; omega
   obtain ⟨ad, rfl, hab, hc0⟩ := hr.at_ hlt
   have htk : inB (l[k]?.getD 0) 1 120 = true := by
    rw [show l[k]?.getD 0 = l[k] by simp [hkl]]
    exact inB_yes (ht _ (List.getElem_mem hkl))
   generalize l[k]?.getD 0 = y at *
   clear hr
   go_wp2_with fail
   refine (isDivider1_yes _ _ htk).mono ?_
   rintro e w1 ⟨rfl, rfl⟩
   go_wp2_with fail
   refine ⟨⟨k + 1, hlt, rfl, trivial⟩, ?_⟩
   simp [intOf]; omega
  ·go_wp2_with fail
   go_ret
   exact ⟨rfl, rfl⟩
set_option maxHeartbeats 2000000 in
theorem contains_div (A : Option Addr) (n c : Nat) (l : List Int) (w : World) (hr : Rd w A n l) (hn : n ≤ 1000) (ht : HolesOk l) :
  Calls Tryz.prog 113 #[.slice A n c, .func (.func 226) #[] #[]] w fun e' w' => e' = .returned (.bool false) ∧ w = w' := by
 go_enter Tryz.func113, Tryz.ntmps113
 go_wp2_with fail
 refine (index_div A n c l w hr hn ht).mono ?_
 rintro e w1 ⟨rfl, rfl⟩
 go_wp2_with fail
 go_ret
 exact ⟨rfl, rfl⟩
set_option maxRecDepth 100000 in
set_option maxHeartbeats 4000000 in
theorem isDivider_yes (wm : Int) (A : Option Addr) (n c : Nat) (l : List Int) (w : World) (hr : Rd w A n l) (hn : 1 ≤ n ∧ n ≤ 6) (hw : 1 ≤ wm ∧ wm ≤ 60) (ht : HolesOk l) :
  Calls Tryz.prog 171 #[.agg #[.int .i64 wm, .slice A n c]] w fun e' w' => e' = .returned (.bool true) ∧ Below w.heap.size w w' := by
 have hb0 := fr_alloc (fr_refl w) (.cells #[.int .i64 wm, .slice A n c] 28)
 have hX := Blk.new w 28 #[.int .i64 wm, .slice A n c]
 have hcX := fun j => hX.cell j
 have h1 : inB wm 1 60 = true := inB_yes hw
 have h2 : inB (n : Int) 1 6 = true := inB_yes (by omega)
 have hc := contains_div A n c l _ (hr.keep hb0) (by omega) ht
 clear hr ht hw
 go_enter Tryz.func171, Tryz.ntmps171
 go_wp2_with fail
 refine (pin_is _ _ _ _ _ h1).mono ?_
 rintro e w' ⟨rfl, rfl⟩
 go_wp2_with fail
 refine (pin_is _ _ _ _ _ h2).mono ?_
 rintro e w' ⟨rfl, rfl⟩
 go_wp2_with fail
 refine hc.mono ?_
 rintro e w' ⟨rfl, rfl⟩
 go_wp2_with fail
 go_ret
 exact ⟨rfl, hb0⟩
end Go.Proofs.YtkmiphabagoifaaGreatDoor
end

section
namespace Go.Proofs.YtkmiphabagoifaaGreatDoor
open Go.RowKit

set_option maxRecDepth 100000 in
set_option maxHeartbeats 8000000 in
theorem cuts_is (wm : Nat) (A : Option Addr) (n c i t hN : Nat) (l : List Int) (w : World) (hr : Rd w A n l) (_hn : n ≤ 6) (hw : wm ≤ 60) (hi : i < n) (hh : l[i]?.getD 0 = (hN : Int)) (hh2 : 1 ≤ hN ∧ hN ≤ 120) (ht : 1 ≤ t ∧ t ≤ 400) :
  Calls Tryz.prog 186 #[.agg #[.int .i64 wm, .slice A n c], .int .i64 i, .int .i64 t] w fun e' w' => e' = .returned (.tuple #[.agg #[.int .i64 i, .int .i64 (wm * hN / t / hN : Nat), .int .i64 (wm * hN / t % hN : Nat)], .bool (wm * hN % t == 0)]) ∧ Below w.heap.size w w' := by
 have hb0 := fr_alloc (fr_alloc (fr_refl w) (.cells #[.int .i64 wm, .slice A n c] 28)) (.cells #[.int .i64 0, .int .i64 0, .int .i64 0] 207)
 have hX := (Blk.new w 28 #[.int .i64 wm, .slice A n c]).alloc (.cells #[.int .i64 0, .int .i64 0, .int .i64 0] 207)
 have hZ : Blk ((w.alloc (.cells #[.int .i64 wm, .slice A n c] 28)).alloc (.cells #[.int .i64 0, .int .i64 0, .int .i64 0] 207)) (w.heap.size + 1) 207 #[.int .i64 0, .int .i64 0, .int .i64 0] := Blk.new_at _ _ (by simp)
 obtain ⟨w1, hw1⟩ : ∃ w1, (w.alloc (.cells #[.int .i64 wm, .slice A n c] 28)).alloc (.cells #[.int .i64 0, .int .i64 0, .int .i64 0] 207) = w1 := ⟨_, rfl⟩
 rw [hw1] at hb0 hX hZ
 replace hr := hr.keep hb0
 obtain ⟨ad, rfl, hab, ca⟩ := hr.at_ hi
 rw [hh] at ca
 have hN1 : wm * hN ≤ 60 * 120 := Nat.mul_le_mul hw hh2.2
 obtain ⟨N, hNe⟩ : ∃ N, wm * hN = N := ⟨_, rfl⟩
 have hNi : (wm : Int) * (hN : Int) = (N : Int) := by rw [← Int.natCast_mul, hNe]
 rw [hNe] at hN1 ⊢
 have d1 : N / t ≤ N := Nat.div_le_self _ _
 have d2 : N / t / hN ≤ N / t := Nat.div_le_self _ _
 have d3 : N / t % hN < hN := Nat.mod_lt _ (by omega)
 have d4 : N % t < t := Nat.mod_lt _ (by omega)
 have z0 : IntKind.i64.wrap ((wm : Int) * (hN : Int)) = (N : Int) := by rw [hNi]; exact IntWalk.i64_in _ (by omega)
 have z1 : (N : Int).tdiv (t : Int) = ((N / t : Nat) : Int) := rfl
 obtain ⟨q, hq⟩ : ∃ q, N / t = q := ⟨_, rfl⟩
 rw [hq] at z1 d1 d2 d3 ⊢
 have z2 : (q : Int).tdiv (hN : Int) = ((q / hN : Nat) : Int) := rfl
 have z3 : (q : Int).tmod (hN : Int) = ((q % hN : Nat) : Int) := rfl
 have z4 : (N : Int).tmod (t : Int) = ((N % t : Nat) : Int) := rfl
 obtain ⟨u, hu⟩ : ∃ u, q / hN = u := ⟨_, rfl⟩
 obtain ⟨v, hv⟩ : ∃ v, q % hN = v := ⟨_, rfl⟩
 obtain ⟨s, hs⟩ : ∃ s, N % t = s := ⟨_, rfl⟩
 rw [hu] at z2 d2 ⊢
 rw [hv] at z3 d3 ⊢
 rw [hs] at z4 d4 ⊢
 have y1 : IntKind.i64.wrap (q : Int) = (q : Int) := IntWalk.i64_in _ (by omega)
 have y2 : IntKind.i64.wrap (u : Int) = (u : Int) := IntWalk.i64_in _ (by omega)
 have y3 : IntKind.i64.wrap (v : Int) = (v : Int) := IntWalk.i64_in _ (by omega)
 have y4 : IntKind.i64.wrap (s : Int) = (s : Int) := IntWalk.i64_in _ (by omega)
 have n1 : ¬ (t : Int) = 0 := by omega
 have n2 : ¬ (hN : Int) = 0 := by omega
 have n3 : ((t : Int) == 0) = false := beq_eq_false_iff_ne.2 n1
 have n4 : ((hN : Int) == 0) = false := beq_eq_false_iff_ne.2 n2
 have i1 : 0 ≤ (i : Int) := by omega
 have i2 : (i : Int) < (n : Int) := by omega
 have hlX := hX.lt
 have hcX := fun j => hX.cell j
 have hcZ := fun j => hZ.cell j
 have hfZ := fun j => hZ.frozen j
 have z5 : ((s : Int) == 0) = (s == 0) := by cases s <;> rfl
 have HZ5 := Lib.hid z5
 have HN := Lib.hid (And.intro (((hZ.set_ 0 (.int .i64 i)).set_ 1 (.int .i64 u)).set_ 2 (.int .i64 v)).drew (fr_call (Below.setCell (p := ⟨w.heap.size + 1, 2, none⟩) (Below.setCell (p := ⟨w.heap.size + 1, 1, none⟩) (Below.setCell (p := ⟨w.heap.size + 1, 0, none⟩) hb0 (Nat.le_succ _) (.int .i64 i)) (Nat.le_succ _) (.int .i64 u)) (Nat.le_succ _) (.int .i64 v)) (fr_drew (fr_refl _))))
 clear hh hr hNe hNi hq hu hv hs z5
 go_enter Tryz.func186, Tryz.ntmps186
 go_upto_region 1 with (fail)
 (try rw [hw1])
 clear hw1
 go_upto_region 3 with (fail)
 go_region
 all_goals
  go_wp2_with fail
  refine bodyPost_ret (results_blk_tmp rfl _ _ _ _ rfl HN.out.1 Tryz.underlying207 rfl (by kernel_rfl)) rfl ?_
  exact ⟨by rw [← HZ5.out]; rfl, HN.out.2⟩
end Go.Proofs.YtkmiphabagoifaaGreatDoor
end

section
namespace Go.Proofs.YtkmiphabagoifaaGreatDoor
open Go.RowKit Go.Shelf

/-- how many holes a circle has -/
def holeN (l : List Int) (i : Nat) : Nat := (l[i]?.getD 0).toNat
def cutOk (wm : Nat) (l : List Int) (t i : Nat) : Bool := wm * holeN l i % t == 0
theorem hole_at {l : List Int} (h : HolesOk l) {i : Nat} (hi : i < l.length) : l[i]?.getD 0 = (holeN l i : Int) ∧ 1 ≤ holeN l i ∧ holeN l i ≤ 120 := by
 have hm := h _ (List.getElem_mem hi)
 have e : l[i]?.getD 0 = l[i] := by simp [hi]
 unfold holeN
 rw [e]
 omega
set_option maxRecDepth 100000 in
set_option maxHeartbeats 8000000 in
theorem Cuts_ok (wm : Nat) (A : Option Addr) (n c t k : Nat) (l : List Int) (w : World) (hr : Rd w A n l) (hn : 1 ≤ n ∧ n ≤ 6) (hw : 1 ≤ wm ∧ wm ≤ 60) (ht : 1 ≤ t ∧ t ≤ 400) (hl : HolesOk l) (hk : k < n) (hyes : cutOk wm l t k = true) (hno : ∀ j, j < k → cutOk wm l t j = false) :
  Calls Tryz.prog 118 #[.agg #[.int .i64 wm, .slice A n c], .int .i64 t] w fun e' w' => e' = .returned (.tuple #[.agg #[.int .i64 k, .int .i64 (wm * holeN l k / t / holeN l k : Nat), .int .i64 (wm * holeN l k / t % holeN l k : Nat)], .int .i64 0]) ∧ Below w.heap.size w w' := by
 have hb0 := fr_alloc (fr_alloc (fr_refl w) (.cells #[.int .i64 wm, .slice A n c] 28)) (.cells #[.int .i64 0, .int .i64 0, .int .i64 0] 207)
 have hX := (Blk.new w 28 #[.int .i64 wm, .slice A n c]).alloc (.cells #[.int .i64 0, .int .i64 0, .int .i64 0] 207)
 have hZ : Blk ((w.alloc (.cells #[.int .i64 wm, .slice A n c] 28)).alloc (.cells #[.int .i64 0, .int .i64 0, .int .i64 0] 207)) (w.heap.size + 1) 207 #[.int .i64 0, .int .i64 0, .int .i64 0] := Blk.new_at _ _ (by simp)
 obtain ⟨w1, hw1⟩ : ∃ w1, (w.alloc (.cells #[.int .i64 wm, .slice A n c] 28)).alloc (.cells #[.int .i64 0, .int .i64 0, .int .i64 0] 207) = w1 := ⟨_, rfl⟩
 rw [hw1] at hb0 hX hZ
 replace hr := hr.keep hb0
 have HLN := Lib.hid hr.len
 have hcX := fun j => hX.cell j
 have hlX := hX.lt
 have hlZ := hZ.lt
 have a1 : inB (t : Int) 1 400 = true := inB_yes (by omega)
 have hdv := isDivider_yes wm A n c l w1 hr hn (by omega) hl
 go_enter Tryz.func118, Tryz.ntmps118
 go_upto_region 1 with (fail)
 (try rw [hw1])
 clear hw1
 go_wp2_with fail
 refine hdv.mono ?_
 rintro e w2 ⟨rfl, hb2⟩
 have hX2 := hX.keep hb2
 have hZ2 := hZ.keep hb2
 replace hr := hr.keep hb2
 replace hb0 := fr_call hb0 hb2
 have hs2 := hb2.size
 clear hcX hX hZ hdv hb2
 have hcX := fun j => hX2.cell j
 have hlX2 := hX2.lt
 have hlZ2 := hZ2.lt
 go_wp2_with fail
 refine (isCount_is _ _ _ a1).mono ?_
 rintro e w' ⟨rfl, rfl⟩
 go_wp2_with fail
 clear a1 hcX hlX hlZ
 go_loopw [21] (fun u wr => ∃ j : Nat, j ≤ k ∧ u = .int .i64 j ∧ Below w2.heap.size w2 wr) (fun u _ => n - (intOf u).toNat)
 case atStart => exact ⟨0, Nat.zero_le _, rfl, fr_refl _⟩
 case round =>
  obtain ⟨j, hj, rfl, hbr⟩ := hrel
  by_cases hlt : j < k
  ·have hjn : j < n := by omega
   obtain ⟨hh, hh2⟩ := hole_at hl (i := j) (by have := HLN.out; omega)
   have hXr := hX2.keep hbr
   have hcX := fun j => hXr.cell j
   have hlXr := hXr.lt
   have hct := cuts_is wm A n c j t (holeN l j) l wr (hr.keep hbr) hn.2 hw.2 hjn hh hh2 ht
   have hcb : (wm * holeN l j % t == 0) = cutOk wm l t j := rfl
   rw [hcb] at hct
   have i1 : (j : Int) < (n : Int) := by omega
   rw [hno j (by omega)] at hct
   generalize wm * holeN l j / t / holeN l j = q1 at *
   generalize wm * holeN l j / t % holeN l j = q2 at *
   clear hl hh hh2 hr hcb
   go_wp2_with fail
   refine hct.mono ?_
   rintro e w4 ⟨rfl, hb4⟩
   go_upto_region 7 with (refine wpList_store_blk rfl _ _ _ rfl w4.heap.size 207 _ _ rfl rfl (Blk.new w4 _ _) rfl (by kernel_rfl) (by simp [Value.oneCell']) ?_; intro w5 hQ hgQ)
   have hb5 : Below w4.heap.size w4 w5 := (fr_alloc (fr_refl w4) _).grown hgQ (fr_alloc (fr_refl w4) _).size (by intro k hk; cases hk; exact Nat.le_refl _)
   go_wp2_with fail
   refine ⟨⟨j + 1, by omega, rfl, fr_call hbr (fr_call hb4 hb5)⟩, ?_⟩
   simp [intOf]; omega
  ·obtain rfl : j = k := by omega
   obtain ⟨hh, hh2⟩ := hole_at hl (i := j) (by have := HLN.out; omega)
   have hXr := hX2.keep hbr
   have hcX := fun j => hXr.cell j
   have hlXr := hXr.lt
   have hct := cuts_is wm A n c j t (holeN l j) l wr (hr.keep hbr) hn.2 hw.2 hk hh hh2 ht
   have hcb : (wm * holeN l j % t == 0) = cutOk wm l t j := rfl
   rw [hcb, hyes] at hct
   have i1 : (j : Int) < (n : Int) := by omega
   obtain ⟨q1, hq1⟩ : ∃ q, wm * holeN l j / t / holeN l j = q := ⟨_, rfl⟩
   obtain ⟨q2, hq2⟩ : ∃ q, wm * holeN l j / t % holeN l j = q := ⟨_, rfl⟩
   rw [hq1, hq2] at hct
   have HQ1 := Lib.hid hq1
   have HQ2 := Lib.hid hq2
   clear hq1 hq2
   clear hl hh hh2 hr hcb
   go_wp2_with fail
   refine hct.mono ?_
   rintro e w4 ⟨rfl, hb4⟩
   go_upto_region 7 with (refine wpList_store_blk rfl _ _ _ rfl w4.heap.size 207 _ _ rfl rfl (Blk.new w4 _ _) rfl (by kernel_rfl) (by simp [Value.oneCell']) ?_; intro w5 hQ hgQ)
   have hb5 : Below w4.heap.size w4 w5 := (fr_alloc (fr_refl w4) _).grown hgQ (fr_alloc (fr_refl w4) _).size (by intro k hk; cases hk; exact Nat.le_refl _)
   have hb6 := fr_call hbr (fr_call hb4 hb5)
   have hZ6 := hZ2.keep hb6
   have hcQ := fun j => hQ.cell j
   have hlQ := hQ.lt
   go_wp2_with (refine wpList_store_blk rfl _ _ _ rfl (w.heap.size + 1) 207 _ _ rfl rfl hZ6 rfl (by kernel_rfl) (by simp [Value.oneCell']) ?_; intro w7 hR hgR)
   refine bodyPost_ret (results_blk_tmp rfl _ _ _ _ rfl hR Tryz.underlying207 rfl (by kernel_rfl)) rfl ?_
   have hbt := fr_call hb0 hb6
   exact ⟨by rw [HQ1.out, HQ2.out]; rfl, hbt.grown hgR hbt.size (by intro i h; cases h; exact Nat.le_succ _)⟩
set_option maxRecDepth 100000 in
set_option maxHeartbeats 8000000 in
theorem Cuts_none (wm : Nat) (A : Option Addr) (n c t : Nat) (l : List Int) (w : World) (hr : Rd w A n l) (hn : 1 ≤ n ∧ n ≤ 6) (hw : 1 ≤ wm ∧ wm ≤ 60) (ht : 1 ≤ t ∧ t ≤ 400) (hl : HolesOk l) (hno : ∀ j, j < n → cutOk wm l t j = false) :
  Calls Tryz.prog 118 #[.agg #[.int .i64 wm, .slice A n c], .int .i64 t] w fun e' w' => e' = .returned (.tuple #[.agg #[.int .i64 0, .int .i64 0, .int .i64 0], .int .i64 5]) ∧ Below w.heap.size w w' := by
 have hb0 := fr_alloc (fr_alloc (fr_refl w) (.cells #[.int .i64 wm, .slice A n c] 28)) (.cells #[.int .i64 0, .int .i64 0, .int .i64 0] 207)
 have hX := (Blk.new w 28 #[.int .i64 wm, .slice A n c]).alloc (.cells #[.int .i64 0, .int .i64 0, .int .i64 0] 207)
 have hZ : Blk ((w.alloc (.cells #[.int .i64 wm, .slice A n c] 28)).alloc (.cells #[.int .i64 0, .int .i64 0, .int .i64 0] 207)) (w.heap.size + 1) 207 #[.int .i64 0, .int .i64 0, .int .i64 0] := Blk.new_at _ _ (by simp)
 obtain ⟨w1, hw1⟩ : ∃ w1, (w.alloc (.cells #[.int .i64 wm, .slice A n c] 28)).alloc (.cells #[.int .i64 0, .int .i64 0, .int .i64 0] 207) = w1 := ⟨_, rfl⟩
 rw [hw1] at hb0 hX hZ
 replace hr := hr.keep hb0
 have HLN := Lib.hid hr.len
 have hcX := fun j => hX.cell j
 have hlX := hX.lt
 have hlZ := hZ.lt
 have a1 : inB (t : Int) 1 400 = true := inB_yes (by omega)
 have hdv := isDivider_yes wm A n c l w1 hr hn (by omega) hl
 go_enter Tryz.func118, Tryz.ntmps118
 go_upto_region 1 with (fail)
 (try rw [hw1])
 clear hw1
 go_wp2_with fail
 refine hdv.mono ?_
 rintro e w2 ⟨rfl, hb2⟩
 have hX2 := hX.keep hb2
 have hZ2 := hZ.keep hb2
 replace hr := hr.keep hb2
 replace hb0 := fr_call hb0 hb2
 have hs2 := hb2.size
 clear hcX hX hZ hdv hb2
 have hcX := fun j => hX2.cell j
 have hlX2 := hX2.lt
 have hlZ2 := hZ2.lt
 go_wp2_with fail
 refine (isCount_is _ _ _ a1).mono ?_
 rintro e w' ⟨rfl, rfl⟩
 go_wp2_with fail
 clear a1 hcX hlX hlZ
 go_loopw [21] (fun u wr => ∃ j : Nat, j ≤ n ∧ u = .int .i64 j ∧ Below w2.heap.size w2 wr) (fun u _ => n - (intOf u).toNat)
 case atStart => exact ⟨0, Nat.zero_le _, rfl, fr_refl _⟩
 case round =>
  obtain ⟨j, hj, rfl, hbr⟩ := hrel
  by_cases hlt : j < n
  ·have hjn : j < n := by omega
   obtain ⟨hh, hh2⟩ := hole_at hl (i := j) (by have := HLN.out; omega)
   have hXr := hX2.keep hbr
   have hcX := fun j => hXr.cell j
   have hlXr := hXr.lt
   have hct := cuts_is wm A n c j t (holeN l j) l wr (hr.keep hbr) hn.2 hw.2 hjn hh hh2 ht
   have hcb : (wm * holeN l j % t == 0) = cutOk wm l t j := rfl
   rw [hcb] at hct
   have i1 : (j : Int) < (n : Int) := by omega
   rw [hno j (by omega)] at hct
   generalize wm * holeN l j / t / holeN l j = q1 at *
   generalize wm * holeN l j / t % holeN l j = q2 at *
   clear hl hh hh2 hr hcb
   go_wp2_with fail
   refine hct.mono ?_
   rintro e w4 ⟨rfl, hb4⟩
   go_upto_region 7 with (refine wpList_store_blk rfl _ _ _ rfl w4.heap.size 207 _ _ rfl rfl (Blk.new w4 _ _) rfl (by kernel_rfl) (by simp [Value.oneCell']) ?_; intro w5 hQ hgQ)
   have hb5 : Below w4.heap.size w4 w5 := (fr_alloc (fr_refl w4) _).grown hgQ (fr_alloc (fr_refl w4) _).size (by intro k hk; cases hk; exact Nat.le_refl _)
   go_wp2_with fail
   refine ⟨⟨j + 1, by omega, rfl, fr_call hbr (fr_call hb4 hb5)⟩, ?_⟩
   simp [intOf]; omega
  ·obtain rfl : j = n := by omega
   have hZ6 := hZ2.keep hbr
   go_wp2_with (refine wpList_store_blk rfl _ _ _ rfl (w.heap.size + 1) 207 _ _ rfl rfl hZ6 rfl (by kernel_rfl) (by simp [Value.oneCell']) ?_; intro w7 hR hgR)
   refine bodyPost_ret (results_blk_tmp rfl _ _ _ _ rfl hR Tryz.underlying207 rfl (by kernel_rfl)) rfl ?_
   have hbt := fr_call hb0 hbr
   exact ⟨rfl, hbt.grown hgR hbt.size (by intro i h; cases h; exact Nat.le_succ _)⟩
theorem Cuts_any (wm : Nat) (A : Option Addr) (n c t : Nat) (l : List Int) (w : World) (hr : Rd w A n l) (hn : 1 ≤ n ∧ n ≤ 6) (hw : 1 ≤ wm ∧ wm ≤ 60) (ht : 1 ≤ t ∧ t ≤ 400) (hl : HolesOk l) :
  ∃ (x y z : Int) (b : Bool), Calls Tryz.prog 118 #[.agg #[.int .i64 wm, .slice A n c], .int .i64 t] w fun e' w' => e' = .returned (.tuple #[.agg #[.int .i64 x, .int .i64 y, .int .i64 z], .int .i64 (if b = true then 0 else 5)]) ∧ Below w.heap.size w w' := by
 by_cases h : ∃ k, k < n ∧ cutOk wm l t k = true
 ·obtain ⟨k, ⟨hk, hy⟩, hmin⟩ : ∃ k, (k < n ∧ cutOk wm l t k = true) ∧ ∀ j, j < k → cutOk wm l t j = false := by
   obtain ⟨k0, h0⟩ := h
   induction k0 using Nat.strongRecOn with
   | ind k0 ih =>
    by_cases h2 : ∃ j, j < k0 ∧ cutOk wm l t j = true
    ·obtain ⟨j, hj, hc⟩ := h2
     exact ih j hj ⟨by omega, hc⟩
    ·exact ⟨k0, h0, fun j hj => by
      cases hc : cutOk wm l t j with
      | false => rfl
      | true => exact absurd ⟨j, hj, hc⟩ h2⟩
  exact ⟨_, _, _, true, Cuts_ok wm A n c t k l w hr hn hw ht hl hk hy hmin⟩
 ·exact ⟨0, 0, 0, false, Cuts_none wm A n c t l w hr hn hw ht hl (fun j hj => by
   cases hc : cutOk wm l t j with
   | false => rfl
   | true => exact absurd ⟨j, hj, hc⟩ h)⟩
end Go.Proofs.YtkmiphabagoifaaGreatDoor
end

section
namespace Go.Proofs.YtkmiphabagoifaaGreatDoor
open Go.RowKit Go.Shelf

theorem fr6 {N : Nat} {w W W' : World} {r : Option Nat} (h : Below N w W) (o : Obj) (hg : (W.alloc o).grownBy W' r) (hr : ∀ k, r = some k → N ≤ k) (hs : N ≤ W.heap.size) : Below N w W' := by
 exact (h.alloc hs o).grown hg (Nat.le_trans hs (by simp)) hr
set_option maxRecDepth 100000 in
set_option maxHeartbeats 8000000 in
theorem Numbers_ok (wm : Nat) (A : Option Addr) (n c : Nat) (l : List Int) (w : World) (hr : Rd w A n l) (hn : 1 ≤ n ∧ n ≤ 6) (hw : 1 ≤ wm ∧ wm ≤ 60) (hl : HolesOk l) :
  Calls Tryz.prog 102 #[.agg #[.int .i64 wm, .slice A n c]] w fun e' w' => ∃ v, e' = .returned (.tuple #[v, .int .i64 0]) ∧ Below w.heap.size w w' := by
 have hb0 := fr_alloc (fr_refl w) (.cells #[.int .i64 wm, .slice A n c] 28)
 have hX := Blk.new w 28 #[.int .i64 wm, .slice A n c]
 obtain ⟨w1, hw1⟩ : ∃ w1, w.alloc (.cells #[.int .i64 wm, .slice A n c] 28) = w1 := ⟨_, rfl⟩
 rw [hw1] at hb0 hX
 replace hr := hr.keep hb0
 have hcX := fun j => hX.cell j
 have hlX := hX.lt
 have hdv := isDivider_yes wm A n c l w1 hr hn (by omega) hl
 go_enter Tryz.func102, Tryz.ntmps102
 go_upto_region 1 with (fail)
 (try rw [hw1])
 clear hw1
 go_wp2_with fail
 refine hdv.mono ?_
 rintro e w2 ⟨rfl, hb2⟩
 have hs1 := hb0.size
 have hs2 := hb2.size
 replace hX := hX.keep hb2
 replace hr := hr.keep hb2
 replace hb0 := fr_call hb0 hb2
 clear hcX hdv hb2 hlX
 go_wp2_with fail
 go_loopw [4, 5] (fun v t wr => ∃ j : Nat, (1 ≤ j ∧ j ≤ 401) ∧ t = .int .i64 j ∧ (∃ xs, Own wr w2.heap.size v xs ∧ xs.length < j) ∧ Below w2.heap.size w2 wr) (fun _ t _ => 401 - (intOf t).toNat)
 case atStart => exact ⟨1, by omega, rfl, ⟨[], Own.nil _ _, by simp⟩, fr_refl _⟩
 case round =>
  obtain ⟨j, ⟨hj1, hj⟩, rfl, ⟨xs, hown, hxl⟩, hbr⟩ := hrel
  have hXr := hX.keep hbr
  have hcX := fun j => hXr.cell j
  have hlXr := hXr.lt
  by_cases hlt : j ≤ 400
  ·have i1 : (j : Int) ≤ 400 := by omega
   have z1 : IntKind.i64.wrap ((j : Int) + 1) = (j : Int) + 1 := IntWalk.i64_in _ (by omega)
   obtain ⟨x, y, z, b, hc⟩ := Cuts_any wm A n c j l wr (hr.keep hbr) hn hw (by omega) hl
   clear hr hl hX
   cases b
   ·go_wp2_with fail
    refine hc.mono ?_
    rintro e w4 ⟨rfl, hb4⟩
    go_upto_region 8 with (refine wpList_store_blk rfl _ _ _ rfl w4.heap.size 207 _ _ rfl rfl (Blk.new w4 _ _) rfl (by kernel_rfl) (by simp [Value.oneCell']) ?_; intro w5 hQ hgQ)
    have hb5 : Below w4.heap.size w4 w5 := (fr_alloc (fr_refl w4) _).grown hgQ (fr_alloc (fr_refl w4) _).size (by intro k hk; cases hk; exact Nat.le_refl _)
    go_wp2_with fail
    refine ⟨⟨j + 1, by omega, by go_num, ⟨xs, (hown.keep hb4).keep hb5, by omega⟩, fr_call hbr (fr_call hb4 hb5)⟩, ?_⟩
    simp [intOf]; omega
   ·go_wp2_with fail
    refine hc.mono ?_
    rintro e w4 ⟨rfl, hb4⟩
    go_upto_region 8 with (refine wpList_store_blk rfl _ _ _ rfl w4.heap.size 207 _ _ rfl rfl (Blk.new w4 _ _) rfl (by kernel_rfl) (by simp [Value.oneCell']) ?_; intro w5 hQ hgQ)
    have hb5 : Below w4.heap.size w4 w5 := (fr_alloc (fr_refl w4) _).grown hgQ (fr_alloc (fr_refl w4) _).size (by intro k hk; cases hk; exact Nat.le_refl _)
    have hb6 := fr_call hbr (fr_call hb4 hb5)
    have hs6 := hb6.size
    have hown5 := (hown.keep hb4).keep hb5
    clear hown hcX hlXr hXr
    go_wp2_with (at_builtin; go_must (refine app_int rfl (.tmp 23) (.tmp 25) rfl w2.heap.size _ xs rfl rfl hown5 (by omega) hs6 ?_); intro A1 c1 w7 hown7 hg7)
    refine ⟨⟨j + 1, by omega, by go_num, ⟨_, hown7, by simp; omega⟩, fr6 hb6 _ hg7 (own_ge hown5) hs6⟩, ?_⟩
    simp [intOf]; omega
  ·go_wp2_with fail
   go_ret2
   exact ⟨_, rfl, fr_call hb0 hbr⟩
end Go.Proofs.YtkmiphabagoifaaGreatDoor
end

section
namespace Go.Proofs.YtkmiphabagoifaaGreatDoor
open Go.RowKit Go.Shelf

theorem jin_is (x lo hi : Int) (w : World) (b : Bool) (hb : inB x lo hi = b) :
  Calls Tryz.prog 57 #[.int .i64 x, .int .i64 lo, .int .i64 hi] w fun e w' => e = .returned (.bool b) ∧ w = w' := by
 subst hb
 by_cases h : lo ≤ x
 ·go_enter Tryz.func57, Tryz.ntmps57
  go_wp2
  go_ret
  exact ⟨ret_bool (by simp [inB, h]), rfl⟩
 ·go_enter Tryz.func57, Tryz.ntmps57
  go_wp2
  go_ret
  exact ⟨ret_bool (by simp only [inB]; rw [eq_comm, decide_eq_false_iff_not]; omega), rfl⟩
/-- a fraction as layer 1 defines it -/
def FrOk (f : Int × Int) : Prop := (0 ≤ f.1 ∧ f.1 ≤ 50000) ∧ 1 ≤ f.2 ∧ f.2 ≤ 50000
set_option maxHeartbeats 1000000 in
theorem jFraction_yes (x y : Int) (w : World) (h : FrOk (x, y)) :
  Calls Tryz.prog 107 #[.agg #[.int .i64 x, .int .i64 y]] w fun e w' => e = .returned (.bool true) ∧ Below w.heap.size w w' := by
 have hX := Blk.new w 52 #[.int .i64 x, .int .i64 y]
 have hcX := fun j => hX.cell j
 have h1 : inB x 0 50000 = true := inB_yes h.1
 have h2 : inB y 1 50000 = true := inB_yes h.2
 clear h
 go_enter Tryz.func107, Tryz.ntmps107
 go_wp2_with fail
 refine (jin_is x 0 50000 _ true h1).mono ?_
 rintro e w' ⟨rfl, rfl⟩
 go_wp2_with fail
 refine (jin_is y 1 50000 _ true h2).mono ?_
 rintro e w' ⟨rfl, rfl⟩
 go_wp2_with fail
 go_ret
 exact ⟨rfl, fr_alloc (fr_refl _) _⟩
set_option maxHeartbeats 1000000 in
theorem isSuite1_yes (x y : Int) (w : World) (h : FrOk (x, y)) :
  Calls Tryz.prog 106 #[.agg #[.int .i64 x, .int .i64 y]] w fun e w' => e = .returned (.bool false) ∧ Below w.heap.size w w' := by
 have hX := Blk.new w 52 #[.int .i64 x, .int .i64 y]
 have hb0 := fr_alloc (fr_refl w) (.cells #[.int .i64 x, .int .i64 y] 52)
 have hcX := fun j => hX.cell j
 have h1 := fun W => jFraction_yes x y W h
 clear h
 go_enter Tryz.func106, Tryz.ntmps106
 go_wp2_with fail
 refine (h1 _).mono ?_
 rintro e w1 ⟨rfl, hb1⟩
 go_wp2_with fail
 go_ret
 exact ⟨rfl, fr_call hb0 hb1⟩
set_option maxRecDepth 100000 in
set_option maxHeartbeats 4000000 in
theorem index_fr (A : Option Addr) (n c : Nat) (l : List (Int × Int)) (w : World) (hr : RdS w A 2 (l.map ptC)) (hn : l.length = n) (hn2 : n ≤ 1000) (ht : ∀ f ∈ l, FrOk f) :
  Calls Tryz.prog 181 #[.slice A n c, .func (.func 106) #[] #[]] w fun e' w' => e' = .returned (.int .i64 (-1)) ∧ Below w.heap.size w w' := by
 have HL := Lib.hid hn
 clear hn
 go_enter Tryz.func181, Tryz.ntmps181
 go_wp2
 go_loopw [8] (fun i wr => ∃ j : Nat, j ≤ n ∧ i = .int .i64 j ∧ Below w.heap.size w wr) (fun i _ => n - (intOf i).toNat)
 case atStart => exact ⟨0, Nat.zero_le _, rfl, fr_refl _⟩
 case round =>
  obtain ⟨j, hj, rfl, hbr⟩ := hrel
  by_cases hlt : j < n
  ·have hjl : j < l.length := by have := HL.out; omega
   obtain ⟨⟨x, y⟩, hx⟩ : ∃ f, l[j]? = some f := ⟨l[j], List.getElem?_eq_getElem hjl⟩
   have hok := ht _ (List.mem_of_getElem? hx)
   obtain ⟨ad, rfl, hab, h0, h1⟩ := (hr.keep hbr).nth (i := j) (r := ptC (x, y)) (by simp [hx])
   have c0 := h0 _ rfl
   have c1 := h1 0 _ rfl
   simp only [Nat.zero_add] at c1
   have i1 : 0 ≤ (j : Int) := by omega
   have i2 : (j : Int) < (n : Int) := by omega
   clear hr h0 h1 hx
   go_wp2_with fail
   refine (isSuite1_yes x y wr hok).mono ?_
   rintro e w1 ⟨rfl, hb1⟩
   go_wp2_with fail
   refine ⟨⟨j + 1, hlt, rfl, fr_call hbr hb1⟩, ?_⟩
   simp [intOf]; omega
  ·go_wp2_with fail
   go_ret
   exact ⟨rfl, hbr⟩
set_option maxHeartbeats 2000000 in
theorem contains_fr (A : Option Addr) (n c : Nat) (l : List (Int × Int)) (w : World) (hr : RdS w A 2 (l.map ptC)) (hn : l.length = n) (hn2 : n ≤ 1000) (ht : ∀ f ∈ l, FrOk f) :
  Calls Tryz.prog 105 #[.slice A n c, .func (.func 106) #[] #[]] w fun e' w' => e' = .returned (.bool false) ∧ Below w.heap.size w w' := by
 have h := index_fr A n c l w hr hn hn2 ht
 clear hr hn ht
 go_enter Tryz.func105, Tryz.ntmps105
 go_wp2_with fail
 refine h.mono ?_
 rintro e w1 ⟨rfl, hb1⟩
 go_wp2_with fail
 go_ret
 exact ⟨rfl, hb1⟩
/-- what a suite's slices read as -/
structure SuAt (w : World) (A1 A2 A3 A4 A5 A6 : Option Addr) (n1 n2 n4 n5 n6 : Nat) (ls : List Lk) (hs : List Int) (tg : List (Int × Int)) (ho cy : List Int) (fe : List Feast) : Prop where
 r1 : RdS w A1 3 (ls.map Lk.cells)
 l1 : ls.length = n1
 r2 : Rd w A2 n2 hs
 r3 : RdS w A3 2 (tg.map ptC)
 l3 : tg.length = n2
 r4 : Rd w A4 n4 ho
 r5 : Rd w A5 n5 cy
 r6 : RdS w A6 4 (fe.map Feast.row)
 l6 : fe.length = n6
theorem SuAt.keep {w w' : World} {A1 A2 A3 A4 A5 A6 : Option Addr} {n1 n2 n4 n5 n6 : Nat} {ls : List Lk} {hs : List Int} {tg : List (Int × Int)} {ho cy : List Int} {fe : List Feast} (h : SuAt w A1 A2 A3 A4 A5 A6 n1 n2 n4 n5 n6 ls hs tg ho cy fe) (hb : Below w.heap.size w w') : SuAt w' A1 A2 A3 A4 A5 A6 n1 n2 n4 n5 n6 ls hs tg ho cy fe :=
 ⟨h.r1.keep hb, h.l1, h.r2.keep hb, h.r3.keep hb, h.l3, h.r4.keep hb, h.r5.keep hb, h.r6.keep hb, h.l6⟩
/-- a suite as it is defined -/
structure SuOk (n1 c1 n2 n4 n5 n6 wm br hr wg pc : Nat) (lim ep mn md ma yr : Int) (ls : List Lk) (hs : List Int) (tg : List (Int × Int)) (ho cy : List Int) (fe : List Feast) : Prop where
 piece : ShopOk ls hs
 cap : n1 ≤ c1
 lim : 0 ≤ lim ∧ lim ≤ 10800
 wm : 1 ≤ wm ∧ wm ≤ 60
 n4 : 1 ≤ n4 ∧ n4 ≤ 6
 ho : HolesOk ho
 n5 : n5 ≤ 1000
 cal : calOk ep cy = true
 moon : moonB mn md ma = true
 n6 : n6 ≤ 1000
 fe : feastsB fe = true
 yr : inB yr 0 4000 = true
 br : br ≤ 1000
 hr : hr ≤ 40
 wg : wg ≤ 100
 pc : pc ≤ 100
 tg : ∀ f ∈ tg, FrOk f
set_option maxRecDepth 100000 in
set_option maxHeartbeats 16000000 in
theorem isSuite_yes (A1 A2 A3 A4 A5 A6 : Option Addr) (n1 c1 n2 c2 c3 n4 c4 n5 c5 n6 c6 wm br hr wg pc : Nat) (lim ep mn md ma yr : Int) (ls : List Lk) (hs : List Int) (tg : List (Int × Int)) (ho cy : List Int) (fe : List Feast) (w : World) (h : SuAt w A1 A2 A3 A4 A5 A6 n1 n2 n4 n5 n6 ls hs tg ho cy fe) (hok : SuOk n1 c1 n2 n4 n5 n6 wm br hr wg pc lim ep mn md ma yr ls hs tg ho cy fe) :
  Calls Tryz.prog 33 #[.agg #[.slice A1 n1 c1, .slice A2 n2 c2, .slice A3 n2 c3, .int .i64 lim, .int .i64 wm, .slice A4 n4 c4, .int .i64 ep, .slice A5 n5 c5, .int .i64 mn, .int .i64 md, .int .i64 ma, .slice A6 n6 c6, .int .i64 yr, .int .i64 br, .int .i64 hr, .int .i64 wg, .int .i64 pc]] w fun e w' => e = .returned (.bool true) ∧ Below w.heap.size w w' := by
 have hb0 := fr_alloc (fr_refl w) (.cells #[.slice A1 n1 c1, .slice A2 n2 c2, .slice A3 n2 c3, .int .i64 lim, .int .i64 wm, .slice A4 n4 c4, .int .i64 ep, .slice A5 n5 c5, .int .i64 mn, .int .i64 md, .int .i64 ma, .slice A6 n6 c6, .int .i64 yr, .int .i64 br, .int .i64 hr, .int .i64 wg, .int .i64 pc] 35)
 have hX := Blk.new w 35 #[.slice A1 n1 c1, .slice A2 n2 c2, .slice A3 n2 c3, .int .i64 lim, .int .i64 wm, .slice A4 n4 c4, .int .i64 ep, .slice A5 n5 c5, .int .i64 mn, .int .i64 md, .int .i64 ma, .slice A6 n6 c6, .int .i64 yr, .int .i64 br, .int .i64 hr, .int .i64 wg, .int .i64 pc]
 obtain ⟨w1, hw1⟩ : ∃ w1, w.alloc (.cells #[.slice A1 n1 c1, .slice A2 n2 c2, .slice A3 n2 c3, .int .i64 lim, .int .i64 wm, .slice A4 n4 c4, .int .i64 ep, .slice A5 n5 c5, .int .i64 mn, .int .i64 md, .int .i64 ma, .slice A6 n6 c6, .int .i64 yr, .int .i64 br, .int .i64 hr, .int .i64 wg, .int .i64 pc] 35) = w1 := ⟨_, rfl⟩
 rw [hw1] at hb0 hX
 replace h := h.keep hb0
 have hcX := fun j => hX.cell j
 have hlX := hX.lt
 have a1 : inB lim 0 10800 = true := inB_yes hok.lim
 have n2l := h.r2.len
 have n2b := hok.piece.m
 have K1 := fun W (hb : Below w1.heap.size w1 W) => sCheck_ok A1 A2 n1 c1 n2 c2 ls hs W (h.keep hb).r1 h.l1 (h.keep hb).r2 hok.cap hok.piece
 have K2 := fun W (hb : Below w1.heap.size w1 W) => Numbers_ok wm A4 n4 c4 ho W (h.keep hb).r4 hok.n4 hok.wm hok.ho
 have K3 := fun W (hb : Below w1.heap.size w1 W) => Feasts_ok A5 A6 n5 c5 c6 cy ep mn md ma yr fe W (h.keep hb).r5 (by have := hok.n5; omega) (h.keep hb).r6 (by have := h.l6; have := hok.n6; omega) hok.cal hok.moon hok.fe hok.yr
 rw [h.l6] at K3
 have K4 := fun W => bill_none br hr wg pc W hok.br hok.hr hok.wg hok.pc
 have K5 := fun W (hb : Below w1.heap.size w1 W) => contains_fr A3 n2 c3 tg W (h.keep hb).r3 h.l3 (by omega) hok.tg
 have q0 : ((n2 : Int) != (n2 : Int)) = false := by simp
 clear h hok n2l n2b
 go_enter Tryz.func33, Tryz.ntmps33
 go_upto_region 1 with (fail)
 (try rw [hw1])
 clear hw1
 go_wp2_with fail
 refine (K1 _ (fr_refl _)).mono ?_
 rintro e w2 ⟨rfl, hb2⟩
 clear K1 hcX
 have hX2 := hX.keep hb2
 have hcX := fun j => hX2.cell j
 have hlX2 := hX2.lt
 go_wp2_with fail
 refine (jin_is _ _ _ _ _ a1).mono ?_
 rintro e w' ⟨rfl, rfl⟩
 go_wp2_with fail
 refine (K2 _ hb2).mono ?_
 rintro e w3 ⟨v3, rfl, hb3⟩
 replace hb3 := fr_call hb2 hb3
 clear K2 hcX
 have hX3 := hX.keep hb3
 have hcX := fun j => hX3.cell j
 have hlX3 := hX3.lt
 go_wp2_with fail
 refine (K3 _ hb3).mono ?_
 rintro e w4 ⟨B, b, rfl, _, hb4⟩
 replace hb4 := fr_call hb3 hb4
 clear K3 hcX
 have hX4 := hX.keep hb4
 have hcX := fun j => hX4.cell j
 have hlX4 := hX4.lt
 go_wp2_with fail
 refine (K4 _).mono ?_
 rintro e w5 ⟨v5, u5, rfl, hb5⟩
 replace hb5 := fr_call hb4 hb5
 clear K4 hcX
 have hX5 := hX.keep hb5
 have hcX := fun j => hX5.cell j
 have hlX5 := hX5.lt
 go_wp2_with fail
 refine (K5 _ hb5).mono ?_
 rintro e w6 ⟨rfl, hb6⟩
 go_wp2_with fail
 go_ret
 exact ⟨rfl, fr_call hb0 (fr_call hb5 hb6)⟩
end Go.Proofs.YtkmiphabagoifaaGreatDoor
end
