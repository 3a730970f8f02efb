/- Walk: breaks (by gen_breaks.py). What a search keeps: old blocks, and blocks of some types; a slice that reads as a list and is kept so; a new slice of one element. Walk: the search of all trains, an iterator. -/
import Derived.Test.YtfgghicdkcjdgaaGreatDoorMG2
section
namespace Go.Proofs.YtfgghicdkcjdgaaGreatDoor
open Go.RowKit Go.Shelf

/-- the five functions, bound to some teeth -/
def kindsV (A : Option Addr) (n c : Nat) : Array Value := #[.func (.func 108) #[.slice A n c] #[], .func (.func 109) #[.slice A n c] #[], .func (.func 110) #[.slice A n c] #[], .func (.func 111) #[.slice A n c] #[], .func (.func 112) #[.slice A n c] #[]]
theorem brk_len (ns : List Note) (t : List Int) : ∀ k, (brk ns t k).length ≤ k
 | 0 => Nat.le_refl _
 | k + 1 => by
  have := brk_len ns t k
  unfold brk
  split
  ·split
   ·omega
   ·simp only [List.length_append, List.length_cons, List.length_nil]; omega
  ·omega
theorem brk_yes {ns : List Note} {t : List Int} {k : Nat} (hk : k < ns.length) (h : agreeB ns[k] t = true) : brk ns t (k + 1) = brk ns t k := by
 rw [brk, List.getElem?_eq_getElem hk]; simp [h]
theorem brk_no {ns : List Note} {t : List Int} {k : Nat} (hk : k < ns.length) (h : agreeB ns[k] t = false) : brk ns t (k + 1) = brk ns t k ++ [(k : Int)] := by
 rw [brk, List.getElem?_eq_getElem hk]; simp [h]
set_option maxRecDepth 100000 in
set_option maxHeartbeats 16000000 in
theorem breaks_any (A N B : Option Addr) (n c wc d : Nat) (ws : Nat) (t : List Int) (ns : List Note) (w : World) (hr : Rd w A n t) (hns : RdS w N 9 (ns.map Note.cells)) (hn : n ≤ 6) (hm : ns.length ≤ 1000) (ht : TeethOk t) (hv : ∀ x ∈ ns, noteB x (n : Int) = true) :
  Calls Tryz.prog 52 #[.slice A n c, .agg #[.slice B ws wc, .slice N ns.length d]] w (RetO w (breaksL ns t)) := by
 have hmf : ∀ (fn : Fn) (first cap : Array Value) (w : World), (Instr.makeFunc fn first cap).run Tryz.prog w = .ok (.func fn first cap) w := fun _ _ _ _ => rfl
 have hB := Blk.new w 25 #[.slice B ws wc, .slice N ns.length d]
 have hf0 := fr_alloc (fr_refl w) (.cells #[.slice B ws wc, .slice N ns.length d] 25)
 have hK0 : Blk ((w.alloc (.cells #[.slice B ws wc, .slice N ns.length d] 25)).alloc (.cells #[.nilFunc, .nilFunc, .nilFunc, .nilFunc, .nilFunc] 154)) (w.heap.size + 1) 154 #[.nilFunc, .nilFunc, .nilFunc, .nilFunc, .nilFunc] := Blk.new_at _ _ (by simp)
 go_enter Tryz.func52, Tryz.ntmps52
 go_wp2_with (refine wpList_store_blk rfl _ _ _ rfl (w.heap.size + 1) 154 _ _ rfl rfl hK0 rfl (by kernel_rfl) (by simp [Value.oneCell']) ?_; intro W1 hK hgk; have hB1 := (hB.alloc (.cells #[.nilFunc, .nilFunc, .nilFunc, .nilFunc, .nilFunc] 154)).grown hgk (by simp); have hcB := fun j => hB1.cell j)
 have hf1 : Below w.heap.size w W1 := (fr_alloc hf0 _).grown hgk (fr_alloc hf0 _).size (by intro k hk; cases hk; omega)
 replace hr := hr.keep hf1
 replace hns := hns.keep hf1
 have hsz1 : w.heap.size + 1 < W1.heap.size := hK.lt
 clear hcB hB1 hB hf0 hK0 hgk hmf
 unfold breaksL
 generalize hlen : ns.length = m at *
 have HL := Lib.hid hlen
 clear hlen
 go_loopw [6, 23] (fun v i wr => ∃ k : Nat, k ≤ m ∧ i = .int .i64 k ∧ Own wr W1.heap.size v (brk ns t k) ∧ Blk wr (w.heap.size + 1) 154 #[.func (.func 108) #[.slice A n c] #[], .func (.func 109) #[.slice A n c] #[], .func (.func 110) #[.slice A n c] #[], .func (.func 111) #[.slice A n c] #[], .func (.func 112) #[.slice A n c] #[]] ∧ Below W1.heap.size W1 wr) (fun _ i _ => m - (intOf i).toNat)
 case atStart => exact ⟨0, Nat.zero_le _, rfl, Own.nil _ _, hK, fr_refl _⟩
 case round =>
  obtain ⟨k, hk, rfl, hown, hKr, hbel⟩ := hrel
  clear hK
  by_cases hlt : k < m
  ·have hkl : k < ns.length := by have := HL.out; omega
   have hvk := hv ns[k] (List.getElem_mem hkl)
   have hbl := brk_len ns t k
   have hbyes := brk_yes (t := t) hkl
   have hbno := brk_no (t := t) hkl
   obtain ⟨ad, rfl, hab, hc0, hc1, hc2, hc3, hc4, hc5, hc6, hc7, hc8⟩ := notes_at (hns.keep hbel) hkl
   generalize ns[k] = nt at *
   obtain ⟨kk, na, nb, lo, hi, ln, ld, mn, md⟩ := nt
   simp only at hc0 hc1 hc2 hc3 hc4 hc5 hc6 hc7 hc8
   have HY := Lib.hid hbyes
   have HN := Lib.hid hbno
   have hrr := hr.keep hbel
   have hsz := hbel.size
   clear hbyes hbno hr hns hv
   by_cases e1 : kk = 1
   ·obtain rfl := e1
    have hNB := Blk.new wr 70 #[.int .i64 1, .int .i64 na, .int .i64 nb, .int .i64 lo, .int .i64 hi, .int .i64 ln, .int .i64 ld, .int .i64 mn, .int .i64 md]
    have hK2 := hKr.alloc (.cells #[.int .i64 1, .int .i64 na, .int .i64 nb, .int .i64 lo, .int .i64 hi, .int .i64 ln, .int .i64 ld, .int .i64 mn, .int .i64 md] 70)
    have hown2 := hown.keep (fr_alloc (fr_refl wr) (.cells #[.int .i64 1, .int .i64 na, .int .i64 nb, .int .i64 lo, .int .i64 hi, .int .i64 ln, .int .i64 ld, .int .i64 mn, .int .i64 md] 70))
    have hf2 := fr_alloc (fr_refl wr) (.cells #[.int .i64 1, .int .i64 na, .int .i64 nb, .int .i64 lo, .int .i64 hi, .int .i64 ln, .int .i64 ld, .int .i64 mn, .int .i64 md] 70)
    go_wp2_with fail
    generalize wr.alloc (.cells #[.int .i64 1, .int .i64 na, .int .i64 nb, .int .i64 lo, .int .i64 hi, .int .i64 ln, .int .i64 ld, .int .i64 mn, .int .i64 md] 70) = wo at *
    have hcN := fun j => hNB.cell j
    have hcK := fun j => hK2.cell j
    have hlN := hNB.lt
    have hlK := hK2.lt
    have hw0 : IntKind.i64.wrap 0 = 0 := rfl
    refine wp_region_noPanic ?_
    refine wp_region_held_drew (S := fun W => (∀ p : Addr, p.block < (wo).heap.size → W.cell? p = (wo).cell? p) ∧ Below (wo).heap.size (wo) W) (by kernel_rfl) ⟨fun _ _ => rfl, fr_drew (fr_refl _)⟩ (fun hHeld => ?_)
    -- the region, step by step
    refine wpAnyH_take (i := 0) (oi := ⟨some 28, .fieldAddr 70 (.tmp 8) 0, 0, "guess.go:106", #[], none⟩) (v := ?_) rfl (by kernel_rfl) (by kernel_rfl) (by kernel_rfl) (fun _ _ _ h => h) (Or.inl ⟨by rfl, fun W hSw => ?_⟩) hHeld ?_
    rotate_left
    ·(try dsimp only at hSw); go_simp; (try with_reducible rfl)
    (try simp only [Act.put, List.setIfInBounds_toArray, List.set_cons_zero, List.set_cons_succ])
    refine wpAnyH_take (i := 1) (oi := ⟨some 29, .load 68 (.tmp 28), 68, "guess.go:106", #[⟨0, .data⟩], none⟩) (v := ?_) rfl (by kernel_rfl) (by kernel_rfl) (by kernel_rfl) (fun _ _ _ h => h) (Or.inl ⟨by rfl, fun W hSw => ?_⟩) hHeld ?_
    rotate_left
    ·(try dsimp only at hSw); go_simp; (try with_reducible rfl)
    (try simp only [Act.put, List.setIfInBounds_toArray, List.set_cons_zero, List.set_cons_succ])
    refine wpAnyH_take (i := 2) (oi := ⟨some 30, .binOp .sub 68 (.tmp 29) (.const (.int .i64 1)) 68, 68, "guess.go:106", #[⟨1, .data⟩], none⟩) (v := ?_) rfl (by kernel_rfl) (by kernel_rfl) (by kernel_rfl) (fun _ _ _ h => h) (Or.inl ⟨by rfl, fun W hSw => ?_⟩) hHeld ?_
    rotate_left
    ·(try dsimp only at hSw); go_simp; (try with_reducible rfl)
    (try simp only [Act.put, List.setIfInBounds_toArray, List.set_cons_zero, List.set_cons_succ])
    refine wpAnyH_take (i := 3) (oi := ⟨some 31, .indexAddr 154 (.tmp 5) (.tmp 30), 0, "guess.go:106", #[⟨2, .data⟩], none⟩) (v := ?_) rfl (by kernel_rfl) (by kernel_rfl) (by kernel_rfl) (fun _ _ _ h => h) (Or.inl ⟨by rfl, fun W hSw => ?_⟩) hHeld ?_
    rotate_left
    ·(try dsimp only at hSw); go_simp; (try with_reducible rfl)
    (try simp only [Act.put, List.setIfInBounds_toArray, List.set_cons_zero, List.set_cons_succ])
    refine wpAnyH_take (i := 4) (oi := ⟨some 32, .load 149 (.tmp 31), 149, "guess.go:106", #[⟨3, .data⟩], none⟩) (v := ?_) rfl (by kernel_rfl) (by kernel_rfl) (by kernel_rfl) (fun _ _ _ h => h) (Or.inl ⟨by rfl, fun W hSw => ?_⟩) hHeld ?_
    rotate_left
    ·(try dsimp only at hSw); go_simp; (try with_reducible rfl)
    (try simp only [Act.put, List.setIfInBounds_toArray, List.set_cons_zero, List.set_cons_succ])
    refine wpAnyH_take (i := 5) (oi := ⟨some 33, .load 70 (.tmp 8), 70, "guess.go:106", #[], none⟩) (v := ?_) rfl (by kernel_rfl) (by kernel_rfl) (by kernel_rfl) (fun _ _ _ h => h) (Or.inl ⟨by rfl, fun W hSw => ?_⟩) hHeld ?_
    rotate_left
    ·(try dsimp only at hSw); go_simp; (try with_reducible rfl)
    (try simp only [Act.put, List.setIfInBounds_toArray, List.set_cons_zero, List.set_cons_succ])
    refine wpAnyH_ready (rs := [6]) (by kernel_rfl) (by simp) ?_
    refine AllReadyH.cons (o := ⟨some 34, .call { callee := .value (.tmp 32), args := #[.tmp 33], argTypes := #[70] }, 4, "guess.go:106", #[⟨4, .data⟩, ⟨5, .data⟩], none⟩) rfl (fun K hK => ?_) AllReadyH.nil
    go_simp
    refine (agree_1 A n c t na nb lo hi ln ld mn md _ ((hrr.keep hf2).keep hHeld.2) hn ht hvk).mono ?_
    rintro e' w3 ⟨rfl, hb3⟩
    refine hK.out _ _ (kp_step hb3 hHeld) (fun hHeld => ?_)
    clear hK K
    (try simp only [Act.put, List.setIfInBounds_toArray, List.set_cons_zero, List.set_cons_succ])
    refine wpAnyH_take (i := 7) (oi := ⟨some 35, .unOp .not 4 (.tmp 34), 4, "guess.go:106", #[⟨6, .data⟩], none⟩) (v := ?_) rfl (by kernel_rfl) (by kernel_rfl) (by kernel_rfl) (fun _ _ _ h => h) (Or.inl ⟨by rfl, fun W hSw => ?_⟩) hHeld ?_
    rotate_left
    ·(try dsimp only at hSw); go_simp; (try with_reducible rfl)
    (try simp only [Act.put, List.setIfInBounds_toArray, List.set_cons_zero, List.set_cons_succ])
    refine wpAnyH_done (by kernel_rfl) ?_ _
    refine NoPanic.normal ?_
    have hown3 := hown2.keep hHeld.2
    have hK3 := hK2.keep hHeld.2
    have hbel3 := fr_call (fr_call hbel hf2) hHeld.2
    clear hcN hcK hHeld hc0 hc1 hc2 hc3 hc4 hc5 hc6 hc7 hc8
    cases hq : agreeB ⟨1, na, nb, lo, hi, ln, ld, mn, md⟩ t
    ·go_wp2_with (at_builtin; go_must (refine app_int rfl (.tmp 36) (.tmp 38) rfl W1.heap.size _ (brk ns t k) rfl rfl hown3 (by omega) hbel3.size ?_); intro A1 c1 w4 hown4 hg4)
     have hK4 := (hK3.alloc _).grown hg4 (Ne.symm (own_blk_ne hown3 hK3 (by decide)))
     have hbel4 : Below W1.heap.size W1 w4 := (fr_alloc hbel3 _).grown hg4 (by have := hbel3.size; simp; omega) (own_ge hown3)
     go_roundw
     case rel => exact ⟨k + 1, by omega, by go_num, by rw [HN.out hq]; simpa using hown4, hK4, hbel4⟩
     case measure => simp [intOf]; omega
    ·go_wp2_with fail
     go_roundw
     case rel => exact ⟨k + 1, by omega, by go_num, by rw [HY.out hq]; exact hown3, hK3, hbel3⟩
     case measure => simp [intOf]; omega
   by_cases e2 : kk = 2
   ·obtain rfl := e2
    have hNB := Blk.new wr 70 #[.int .i64 2, .int .i64 na, .int .i64 nb, .int .i64 lo, .int .i64 hi, .int .i64 ln, .int .i64 ld, .int .i64 mn, .int .i64 md]
    have hK2 := hKr.alloc (.cells #[.int .i64 2, .int .i64 na, .int .i64 nb, .int .i64 lo, .int .i64 hi, .int .i64 ln, .int .i64 ld, .int .i64 mn, .int .i64 md] 70)
    have hown2 := hown.keep (fr_alloc (fr_refl wr) (.cells #[.int .i64 2, .int .i64 na, .int .i64 nb, .int .i64 lo, .int .i64 hi, .int .i64 ln, .int .i64 ld, .int .i64 mn, .int .i64 md] 70))
    have hf2 := fr_alloc (fr_refl wr) (.cells #[.int .i64 2, .int .i64 na, .int .i64 nb, .int .i64 lo, .int .i64 hi, .int .i64 ln, .int .i64 ld, .int .i64 mn, .int .i64 md] 70)
    go_wp2_with fail
    generalize wr.alloc (.cells #[.int .i64 2, .int .i64 na, .int .i64 nb, .int .i64 lo, .int .i64 hi, .int .i64 ln, .int .i64 ld, .int .i64 mn, .int .i64 md] 70) = wo at *
    have hcN := fun j => hNB.cell j
    have hcK := fun j => hK2.cell j
    have hlN := hNB.lt
    have hlK := hK2.lt
    have hw0 : IntKind.i64.wrap 1 = 1 := rfl
    refine wp_region_noPanic ?_
    refine wp_region_held_drew (S := fun W => (∀ p : Addr, p.block < (wo).heap.size → W.cell? p = (wo).cell? p) ∧ Below (wo).heap.size (wo) W) (by kernel_rfl) ⟨fun _ _ => rfl, fr_drew (fr_refl _)⟩ (fun hHeld => ?_)
    -- the region, step by step
    refine wpAnyH_take (i := 0) (oi := ⟨some 28, .fieldAddr 70 (.tmp 8) 0, 0, "guess.go:106", #[], none⟩) (v := ?_) rfl (by kernel_rfl) (by kernel_rfl) (by kernel_rfl) (fun _ _ _ h => h) (Or.inl ⟨by rfl, fun W hSw => ?_⟩) hHeld ?_
    rotate_left
    ·(try dsimp only at hSw); go_simp; (try with_reducible rfl)
    (try simp only [Act.put, List.setIfInBounds_toArray, List.set_cons_zero, List.set_cons_succ])
    refine wpAnyH_take (i := 1) (oi := ⟨some 29, .load 68 (.tmp 28), 68, "guess.go:106", #[⟨0, .data⟩], none⟩) (v := ?_) rfl (by kernel_rfl) (by kernel_rfl) (by kernel_rfl) (fun _ _ _ h => h) (Or.inl ⟨by rfl, fun W hSw => ?_⟩) hHeld ?_
    rotate_left
    ·(try dsimp only at hSw); go_simp; (try with_reducible rfl)
    (try simp only [Act.put, List.setIfInBounds_toArray, List.set_cons_zero, List.set_cons_succ])
    refine wpAnyH_take (i := 2) (oi := ⟨some 30, .binOp .sub 68 (.tmp 29) (.const (.int .i64 1)) 68, 68, "guess.go:106", #[⟨1, .data⟩], none⟩) (v := ?_) rfl (by kernel_rfl) (by kernel_rfl) (by kernel_rfl) (fun _ _ _ h => h) (Or.inl ⟨by rfl, fun W hSw => ?_⟩) hHeld ?_
    rotate_left
    ·(try dsimp only at hSw); go_simp; (try with_reducible rfl)
    (try simp only [Act.put, List.setIfInBounds_toArray, List.set_cons_zero, List.set_cons_succ])
    refine wpAnyH_take (i := 3) (oi := ⟨some 31, .indexAddr 154 (.tmp 5) (.tmp 30), 0, "guess.go:106", #[⟨2, .data⟩], none⟩) (v := ?_) rfl (by kernel_rfl) (by kernel_rfl) (by kernel_rfl) (fun _ _ _ h => h) (Or.inl ⟨by rfl, fun W hSw => ?_⟩) hHeld ?_
    rotate_left
    ·(try dsimp only at hSw); go_simp; (try with_reducible rfl)
    (try simp only [Act.put, List.setIfInBounds_toArray, List.set_cons_zero, List.set_cons_succ])
    refine wpAnyH_take (i := 4) (oi := ⟨some 32, .load 149 (.tmp 31), 149, "guess.go:106", #[⟨3, .data⟩], none⟩) (v := ?_) rfl (by kernel_rfl) (by kernel_rfl) (by kernel_rfl) (fun _ _ _ h => h) (Or.inl ⟨by rfl, fun W hSw => ?_⟩) hHeld ?_
    rotate_left
    ·(try dsimp only at hSw); go_simp; (try with_reducible rfl)
    (try simp only [Act.put, List.setIfInBounds_toArray, List.set_cons_zero, List.set_cons_succ])
    refine wpAnyH_take (i := 5) (oi := ⟨some 33, .load 70 (.tmp 8), 70, "guess.go:106", #[], none⟩) (v := ?_) rfl (by kernel_rfl) (by kernel_rfl) (by kernel_rfl) (fun _ _ _ h => h) (Or.inl ⟨by rfl, fun W hSw => ?_⟩) hHeld ?_
    rotate_left
    ·(try dsimp only at hSw); go_simp; (try with_reducible rfl)
    (try simp only [Act.put, List.setIfInBounds_toArray, List.set_cons_zero, List.set_cons_succ])
    refine wpAnyH_ready (rs := [6]) (by kernel_rfl) (by simp) ?_
    refine AllReadyH.cons (o := ⟨some 34, .call { callee := .value (.tmp 32), args := #[.tmp 33], argTypes := #[70] }, 4, "guess.go:106", #[⟨4, .data⟩, ⟨5, .data⟩], none⟩) rfl (fun K hK => ?_) AllReadyH.nil
    go_simp
    refine (agree_2 A n c t na nb lo hi ln ld mn md _ ((hrr.keep hf2).keep hHeld.2) hn ht hvk).mono ?_
    rintro e' w3 ⟨rfl, hb3⟩
    refine hK.out _ _ (kp_step hb3 hHeld) (fun hHeld => ?_)
    clear hK K
    (try simp only [Act.put, List.setIfInBounds_toArray, List.set_cons_zero, List.set_cons_succ])
    refine wpAnyH_take (i := 7) (oi := ⟨some 35, .unOp .not 4 (.tmp 34), 4, "guess.go:106", #[⟨6, .data⟩], none⟩) (v := ?_) rfl (by kernel_rfl) (by kernel_rfl) (by kernel_rfl) (fun _ _ _ h => h) (Or.inl ⟨by rfl, fun W hSw => ?_⟩) hHeld ?_
    rotate_left
    ·(try dsimp only at hSw); go_simp; (try with_reducible rfl)
    (try simp only [Act.put, List.setIfInBounds_toArray, List.set_cons_zero, List.set_cons_succ])
    refine wpAnyH_done (by kernel_rfl) ?_ _
    refine NoPanic.normal ?_
    have hown3 := hown2.keep hHeld.2
    have hK3 := hK2.keep hHeld.2
    have hbel3 := fr_call (fr_call hbel hf2) hHeld.2
    clear hcN hcK hHeld hc0 hc1 hc2 hc3 hc4 hc5 hc6 hc7 hc8
    cases hq : agreeB ⟨2, na, nb, lo, hi, ln, ld, mn, md⟩ t
    ·go_wp2_with (at_builtin; go_must (refine app_int rfl (.tmp 36) (.tmp 38) rfl W1.heap.size _ (brk ns t k) rfl rfl hown3 (by omega) hbel3.size ?_); intro A1 c1 w4 hown4 hg4)
     have hK4 := (hK3.alloc _).grown hg4 (Ne.symm (own_blk_ne hown3 hK3 (by decide)))
     have hbel4 : Below W1.heap.size W1 w4 := (fr_alloc hbel3 _).grown hg4 (by have := hbel3.size; simp; omega) (own_ge hown3)
     go_roundw
     case rel => exact ⟨k + 1, by omega, by go_num, by rw [HN.out hq]; simpa using hown4, hK4, hbel4⟩
     case measure => simp [intOf]; omega
    ·go_wp2_with fail
     go_roundw
     case rel => exact ⟨k + 1, by omega, by go_num, by rw [HY.out hq]; exact hown3, hK3, hbel3⟩
     case measure => simp [intOf]; omega
   by_cases e3 : kk = 3
   ·obtain rfl := e3
    have hNB := Blk.new wr 70 #[.int .i64 3, .int .i64 na, .int .i64 nb, .int .i64 lo, .int .i64 hi, .int .i64 ln, .int .i64 ld, .int .i64 mn, .int .i64 md]
    have hK2 := hKr.alloc (.cells #[.int .i64 3, .int .i64 na, .int .i64 nb, .int .i64 lo, .int .i64 hi, .int .i64 ln, .int .i64 ld, .int .i64 mn, .int .i64 md] 70)
    have hown2 := hown.keep (fr_alloc (fr_refl wr) (.cells #[.int .i64 3, .int .i64 na, .int .i64 nb, .int .i64 lo, .int .i64 hi, .int .i64 ln, .int .i64 ld, .int .i64 mn, .int .i64 md] 70))
    have hf2 := fr_alloc (fr_refl wr) (.cells #[.int .i64 3, .int .i64 na, .int .i64 nb, .int .i64 lo, .int .i64 hi, .int .i64 ln, .int .i64 ld, .int .i64 mn, .int .i64 md] 70)
    go_wp2_with fail
    generalize wr.alloc (.cells #[.int .i64 3, .int .i64 na, .int .i64 nb, .int .i64 lo, .int .i64 hi, .int .i64 ln, .int .i64 ld, .int .i64 mn, .int .i64 md] 70) = wo at *
    have hcN := fun j => hNB.cell j
    have hcK := fun j => hK2.cell j
    have hlN := hNB.lt
    have hlK := hK2.lt
    have hw0 : IntKind.i64.wrap 2 = 2 := rfl
    refine wp_region_noPanic ?_
    refine wp_region_held_drew (S := fun W => (∀ p : Addr, p.block < (wo).heap.size → W.cell? p = (wo).cell? p) ∧ Below (wo).heap.size (wo) W) (by kernel_rfl) ⟨fun _ _ => rfl, fr_drew (fr_refl _)⟩ (fun hHeld => ?_)
    -- the region, step by step
    refine wpAnyH_take (i := 0) (oi := ⟨some 28, .fieldAddr 70 (.tmp 8) 0, 0, "guess.go:106", #[], none⟩) (v := ?_) rfl (by kernel_rfl) (by kernel_rfl) (by kernel_rfl) (fun _ _ _ h => h) (Or.inl ⟨by rfl, fun W hSw => ?_⟩) hHeld ?_
    rotate_left
    ·(try dsimp only at hSw); go_simp; (try with_reducible rfl)
    (try simp only [Act.put, List.setIfInBounds_toArray, List.set_cons_zero, List.set_cons_succ])
    refine wpAnyH_take (i := 1) (oi := ⟨some 29, .load 68 (.tmp 28), 68, "guess.go:106", #[⟨0, .data⟩], none⟩) (v := ?_) rfl (by kernel_rfl) (by kernel_rfl) (by kernel_rfl) (fun _ _ _ h => h) (Or.inl ⟨by rfl, fun W hSw => ?_⟩) hHeld ?_
    rotate_left
    ·(try dsimp only at hSw); go_simp; (try with_reducible rfl)
    (try simp only [Act.put, List.setIfInBounds_toArray, List.set_cons_zero, List.set_cons_succ])
    refine wpAnyH_take (i := 2) (oi := ⟨some 30, .binOp .sub 68 (.tmp 29) (.const (.int .i64 1)) 68, 68, "guess.go:106", #[⟨1, .data⟩], none⟩) (v := ?_) rfl (by kernel_rfl) (by kernel_rfl) (by kernel_rfl) (fun _ _ _ h => h) (Or.inl ⟨by rfl, fun W hSw => ?_⟩) hHeld ?_
    rotate_left
    ·(try dsimp only at hSw); go_simp; (try with_reducible rfl)
    (try simp only [Act.put, List.setIfInBounds_toArray, List.set_cons_zero, List.set_cons_succ])
    refine wpAnyH_take (i := 3) (oi := ⟨some 31, .indexAddr 154 (.tmp 5) (.tmp 30), 0, "guess.go:106", #[⟨2, .data⟩], none⟩) (v := ?_) rfl (by kernel_rfl) (by kernel_rfl) (by kernel_rfl) (fun _ _ _ h => h) (Or.inl ⟨by rfl, fun W hSw => ?_⟩) hHeld ?_
    rotate_left
    ·(try dsimp only at hSw); go_simp; (try with_reducible rfl)
    (try simp only [Act.put, List.setIfInBounds_toArray, List.set_cons_zero, List.set_cons_succ])
    refine wpAnyH_take (i := 4) (oi := ⟨some 32, .load 149 (.tmp 31), 149, "guess.go:106", #[⟨3, .data⟩], none⟩) (v := ?_) rfl (by kernel_rfl) (by kernel_rfl) (by kernel_rfl) (fun _ _ _ h => h) (Or.inl ⟨by rfl, fun W hSw => ?_⟩) hHeld ?_
    rotate_left
    ·(try dsimp only at hSw); go_simp; (try with_reducible rfl)
    (try simp only [Act.put, List.setIfInBounds_toArray, List.set_cons_zero, List.set_cons_succ])
    refine wpAnyH_take (i := 5) (oi := ⟨some 33, .load 70 (.tmp 8), 70, "guess.go:106", #[], none⟩) (v := ?_) rfl (by kernel_rfl) (by kernel_rfl) (by kernel_rfl) (fun _ _ _ h => h) (Or.inl ⟨by rfl, fun W hSw => ?_⟩) hHeld ?_
    rotate_left
    ·(try dsimp only at hSw); go_simp; (try with_reducible rfl)
    (try simp only [Act.put, List.setIfInBounds_toArray, List.set_cons_zero, List.set_cons_succ])
    refine wpAnyH_ready (rs := [6]) (by kernel_rfl) (by simp) ?_
    refine AllReadyH.cons (o := ⟨some 34, .call { callee := .value (.tmp 32), args := #[.tmp 33], argTypes := #[70] }, 4, "guess.go:106", #[⟨4, .data⟩, ⟨5, .data⟩], none⟩) rfl (fun K hK => ?_) AllReadyH.nil
    go_simp
    refine (agree_3 A n c t na nb lo hi ln ld mn md _ ((hrr.keep hf2).keep hHeld.2) hn ht hvk).mono ?_
    rintro e' w3 ⟨rfl, hb3⟩
    refine hK.out _ _ (kp_step hb3 hHeld) (fun hHeld => ?_)
    clear hK K
    (try simp only [Act.put, List.setIfInBounds_toArray, List.set_cons_zero, List.set_cons_succ])
    refine wpAnyH_take (i := 7) (oi := ⟨some 35, .unOp .not 4 (.tmp 34), 4, "guess.go:106", #[⟨6, .data⟩], none⟩) (v := ?_) rfl (by kernel_rfl) (by kernel_rfl) (by kernel_rfl) (fun _ _ _ h => h) (Or.inl ⟨by rfl, fun W hSw => ?_⟩) hHeld ?_
    rotate_left
    ·(try dsimp only at hSw); go_simp; (try with_reducible rfl)
    (try simp only [Act.put, List.setIfInBounds_toArray, List.set_cons_zero, List.set_cons_succ])
    refine wpAnyH_done (by kernel_rfl) ?_ _
    refine NoPanic.normal ?_
    have hown3 := hown2.keep hHeld.2
    have hK3 := hK2.keep hHeld.2
    have hbel3 := fr_call (fr_call hbel hf2) hHeld.2
    clear hcN hcK hHeld hc0 hc1 hc2 hc3 hc4 hc5 hc6 hc7 hc8
    cases hq : agreeB ⟨3, na, nb, lo, hi, ln, ld, mn, md⟩ t
    ·go_wp2_with (at_builtin; go_must (refine app_int rfl (.tmp 36) (.tmp 38) rfl W1.heap.size _ (brk ns t k) rfl rfl hown3 (by omega) hbel3.size ?_); intro A1 c1 w4 hown4 hg4)
     have hK4 := (hK3.alloc _).grown hg4 (Ne.symm (own_blk_ne hown3 hK3 (by decide)))
     have hbel4 : Below W1.heap.size W1 w4 := (fr_alloc hbel3 _).grown hg4 (by have := hbel3.size; simp; omega) (own_ge hown3)
     go_roundw
     case rel => exact ⟨k + 1, by omega, by go_num, by rw [HN.out hq]; simpa using hown4, hK4, hbel4⟩
     case measure => simp [intOf]; omega
    ·go_wp2_with fail
     go_roundw
     case rel => exact ⟨k + 1, by omega, by go_num, by rw [HY.out hq]; exact hown3, hK3, hbel3⟩
     case measure => simp [intOf]; omega
   by_cases e4 : kk = 4
   ·obtain rfl := e4
    have hNB := Blk.new wr 70 #[.int .i64 4, .int .i64 na, .int .i64 nb, .int .i64 lo, .int .i64 hi, .int .i64 ln, .int .i64 ld, .int .i64 mn, .int .i64 md]
    have hK2 := hKr.alloc (.cells #[.int .i64 4, .int .i64 na, .int .i64 nb, .int .i64 lo, .int .i64 hi, .int .i64 ln, .int .i64 ld, .int .i64 mn, .int .i64 md] 70)
    have hown2 := hown.keep (fr_alloc (fr_refl wr) (.cells #[.int .i64 4, .int .i64 na, .int .i64 nb, .int .i64 lo, .int .i64 hi, .int .i64 ln, .int .i64 ld, .int .i64 mn, .int .i64 md] 70))
    have hf2 := fr_alloc (fr_refl wr) (.cells #[.int .i64 4, .int .i64 na, .int .i64 nb, .int .i64 lo, .int .i64 hi, .int .i64 ln, .int .i64 ld, .int .i64 mn, .int .i64 md] 70)
    go_wp2_with fail
    generalize wr.alloc (.cells #[.int .i64 4, .int .i64 na, .int .i64 nb, .int .i64 lo, .int .i64 hi, .int .i64 ln, .int .i64 ld, .int .i64 mn, .int .i64 md] 70) = wo at *
    have hcN := fun j => hNB.cell j
    have hcK := fun j => hK2.cell j
    have hlN := hNB.lt
    have hlK := hK2.lt
    have hw0 : IntKind.i64.wrap 3 = 3 := rfl
    refine wp_region_noPanic ?_
    refine wp_region_held_drew (S := fun W => (∀ p : Addr, p.block < (wo).heap.size → W.cell? p = (wo).cell? p) ∧ Below (wo).heap.size (wo) W) (by kernel_rfl) ⟨fun _ _ => rfl, fr_drew (fr_refl _)⟩ (fun hHeld => ?_)
    -- the region, step by step
    refine wpAnyH_take (i := 0) (oi := ⟨some 28, .fieldAddr 70 (.tmp 8) 0, 0, "guess.go:106", #[], none⟩) (v := ?_) rfl (by kernel_rfl) (by kernel_rfl) (by kernel_rfl) (fun _ _ _ h => h) (Or.inl ⟨by rfl, fun W hSw => ?_⟩) hHeld ?_
    rotate_left
    ·(try dsimp only at hSw); go_simp; (try with_reducible rfl)
    (try simp only [Act.put, List.setIfInBounds_toArray, List.set_cons_zero, List.set_cons_succ])
    refine wpAnyH_take (i := 1) (oi := ⟨some 29, .load 68 (.tmp 28), 68, "guess.go:106", #[⟨0, .data⟩], none⟩) (v := ?_) rfl (by kernel_rfl) (by kernel_rfl) (by kernel_rfl) (fun _ _ _ h => h) (Or.inl ⟨by rfl, fun W hSw => ?_⟩) hHeld ?_
    rotate_left
    ·(try dsimp only at hSw); go_simp; (try with_reducible rfl)
    (try simp only [Act.put, List.setIfInBounds_toArray, List.set_cons_zero, List.set_cons_succ])
    refine wpAnyH_take (i := 2) (oi := ⟨some 30, .binOp .sub 68 (.tmp 29) (.const (.int .i64 1)) 68, 68, "guess.go:106", #[⟨1, .data⟩], none⟩) (v := ?_) rfl (by kernel_rfl) (by kernel_rfl) (by kernel_rfl) (fun _ _ _ h => h) (Or.inl ⟨by rfl, fun W hSw => ?_⟩) hHeld ?_
    rotate_left
    ·(try dsimp only at hSw); go_simp; (try with_reducible rfl)
    (try simp only [Act.put, List.setIfInBounds_toArray, List.set_cons_zero, List.set_cons_succ])
    refine wpAnyH_take (i := 3) (oi := ⟨some 31, .indexAddr 154 (.tmp 5) (.tmp 30), 0, "guess.go:106", #[⟨2, .data⟩], none⟩) (v := ?_) rfl (by kernel_rfl) (by kernel_rfl) (by kernel_rfl) (fun _ _ _ h => h) (Or.inl ⟨by rfl, fun W hSw => ?_⟩) hHeld ?_
    rotate_left
    ·(try dsimp only at hSw); go_simp; (try with_reducible rfl)
    (try simp only [Act.put, List.setIfInBounds_toArray, List.set_cons_zero, List.set_cons_succ])
    refine wpAnyH_take (i := 4) (oi := ⟨some 32, .load 149 (.tmp 31), 149, "guess.go:106", #[⟨3, .data⟩], none⟩) (v := ?_) rfl (by kernel_rfl) (by kernel_rfl) (by kernel_rfl) (fun _ _ _ h => h) (Or.inl ⟨by rfl, fun W hSw => ?_⟩) hHeld ?_
    rotate_left
    ·(try dsimp only at hSw); go_simp; (try with_reducible rfl)
    (try simp only [Act.put, List.setIfInBounds_toArray, List.set_cons_zero, List.set_cons_succ])
    refine wpAnyH_take (i := 5) (oi := ⟨some 33, .load 70 (.tmp 8), 70, "guess.go:106", #[], none⟩) (v := ?_) rfl (by kernel_rfl) (by kernel_rfl) (by kernel_rfl) (fun _ _ _ h => h) (Or.inl ⟨by rfl, fun W hSw => ?_⟩) hHeld ?_
    rotate_left
    ·(try dsimp only at hSw); go_simp; (try with_reducible rfl)
    (try simp only [Act.put, List.setIfInBounds_toArray, List.set_cons_zero, List.set_cons_succ])
    refine wpAnyH_ready (rs := [6]) (by kernel_rfl) (by simp) ?_
    refine AllReadyH.cons (o := ⟨some 34, .call { callee := .value (.tmp 32), args := #[.tmp 33], argTypes := #[70] }, 4, "guess.go:106", #[⟨4, .data⟩, ⟨5, .data⟩], none⟩) rfl (fun K hK => ?_) AllReadyH.nil
    go_simp
    refine (agree_4 A n c t na nb lo hi ln ld mn md _ ((hrr.keep hf2).keep hHeld.2) hn ht hvk).mono ?_
    rintro e' w3 ⟨rfl, hb3⟩
    refine hK.out _ _ (kp_step hb3 hHeld) (fun hHeld => ?_)
    clear hK K
    (try simp only [Act.put, List.setIfInBounds_toArray, List.set_cons_zero, List.set_cons_succ])
    refine wpAnyH_take (i := 7) (oi := ⟨some 35, .unOp .not 4 (.tmp 34), 4, "guess.go:106", #[⟨6, .data⟩], none⟩) (v := ?_) rfl (by kernel_rfl) (by kernel_rfl) (by kernel_rfl) (fun _ _ _ h => h) (Or.inl ⟨by rfl, fun W hSw => ?_⟩) hHeld ?_
    rotate_left
    ·(try dsimp only at hSw); go_simp; (try with_reducible rfl)
    (try simp only [Act.put, List.setIfInBounds_toArray, List.set_cons_zero, List.set_cons_succ])
    refine wpAnyH_done (by kernel_rfl) ?_ _
    refine NoPanic.normal ?_
    have hown3 := hown2.keep hHeld.2
    have hK3 := hK2.keep hHeld.2
    have hbel3 := fr_call (fr_call hbel hf2) hHeld.2
    clear hcN hcK hHeld hc0 hc1 hc2 hc3 hc4 hc5 hc6 hc7 hc8
    cases hq : agreeB ⟨4, na, nb, lo, hi, ln, ld, mn, md⟩ t
    ·go_wp2_with (at_builtin; go_must (refine app_int rfl (.tmp 36) (.tmp 38) rfl W1.heap.size _ (brk ns t k) rfl rfl hown3 (by omega) hbel3.size ?_); intro A1 c1 w4 hown4 hg4)
     have hK4 := (hK3.alloc _).grown hg4 (Ne.symm (own_blk_ne hown3 hK3 (by decide)))
     have hbel4 : Below W1.heap.size W1 w4 := (fr_alloc hbel3 _).grown hg4 (by have := hbel3.size; simp; omega) (own_ge hown3)
     go_roundw
     case rel => exact ⟨k + 1, by omega, by go_num, by rw [HN.out hq]; simpa using hown4, hK4, hbel4⟩
     case measure => simp [intOf]; omega
    ·go_wp2_with fail
     go_roundw
     case rel => exact ⟨k + 1, by omega, by go_num, by rw [HY.out hq]; exact hown3, hK3, hbel3⟩
     case measure => simp [intOf]; omega
   by_cases e5 : kk = 5
   ·obtain rfl := e5
    have hNB := Blk.new wr 70 #[.int .i64 5, .int .i64 na, .int .i64 nb, .int .i64 lo, .int .i64 hi, .int .i64 ln, .int .i64 ld, .int .i64 mn, .int .i64 md]
    have hK2 := hKr.alloc (.cells #[.int .i64 5, .int .i64 na, .int .i64 nb, .int .i64 lo, .int .i64 hi, .int .i64 ln, .int .i64 ld, .int .i64 mn, .int .i64 md] 70)
    have hown2 := hown.keep (fr_alloc (fr_refl wr) (.cells #[.int .i64 5, .int .i64 na, .int .i64 nb, .int .i64 lo, .int .i64 hi, .int .i64 ln, .int .i64 ld, .int .i64 mn, .int .i64 md] 70))
    have hf2 := fr_alloc (fr_refl wr) (.cells #[.int .i64 5, .int .i64 na, .int .i64 nb, .int .i64 lo, .int .i64 hi, .int .i64 ln, .int .i64 ld, .int .i64 mn, .int .i64 md] 70)
    go_wp2_with fail
    generalize wr.alloc (.cells #[.int .i64 5, .int .i64 na, .int .i64 nb, .int .i64 lo, .int .i64 hi, .int .i64 ln, .int .i64 ld, .int .i64 mn, .int .i64 md] 70) = wo at *
    have hcN := fun j => hNB.cell j
    have hcK := fun j => hK2.cell j
    have hlN := hNB.lt
    have hlK := hK2.lt
    have hw0 : IntKind.i64.wrap 4 = 4 := rfl
    refine wp_region_noPanic ?_
    refine wp_region_held_drew (S := fun W => (∀ p : Addr, p.block < (wo).heap.size → W.cell? p = (wo).cell? p) ∧ Below (wo).heap.size (wo) W) (by kernel_rfl) ⟨fun _ _ => rfl, fr_drew (fr_refl _)⟩ (fun hHeld => ?_)
    -- the region, step by step
    refine wpAnyH_take (i := 0) (oi := ⟨some 28, .fieldAddr 70 (.tmp 8) 0, 0, "guess.go:106", #[], none⟩) (v := ?_) rfl (by kernel_rfl) (by kernel_rfl) (by kernel_rfl) (fun _ _ _ h => h) (Or.inl ⟨by rfl, fun W hSw => ?_⟩) hHeld ?_
    rotate_left
    ·(try dsimp only at hSw); go_simp; (try with_reducible rfl)
    (try simp only [Act.put, List.setIfInBounds_toArray, List.set_cons_zero, List.set_cons_succ])
    refine wpAnyH_take (i := 1) (oi := ⟨some 29, .load 68 (.tmp 28), 68, "guess.go:106", #[⟨0, .data⟩], none⟩) (v := ?_) rfl (by kernel_rfl) (by kernel_rfl) (by kernel_rfl) (fun _ _ _ h => h) (Or.inl ⟨by rfl, fun W hSw => ?_⟩) hHeld ?_
    rotate_left
    ·(try dsimp only at hSw); go_simp; (try with_reducible rfl)
    (try simp only [Act.put, List.setIfInBounds_toArray, List.set_cons_zero, List.set_cons_succ])
    refine wpAnyH_take (i := 2) (oi := ⟨some 30, .binOp .sub 68 (.tmp 29) (.const (.int .i64 1)) 68, 68, "guess.go:106", #[⟨1, .data⟩], none⟩) (v := ?_) rfl (by kernel_rfl) (by kernel_rfl) (by kernel_rfl) (fun _ _ _ h => h) (Or.inl ⟨by rfl, fun W hSw => ?_⟩) hHeld ?_
    rotate_left
    ·(try dsimp only at hSw); go_simp; (try with_reducible rfl)
    (try simp only [Act.put, List.setIfInBounds_toArray, List.set_cons_zero, List.set_cons_succ])
    refine wpAnyH_take (i := 3) (oi := ⟨some 31, .indexAddr 154 (.tmp 5) (.tmp 30), 0, "guess.go:106", #[⟨2, .data⟩], none⟩) (v := ?_) rfl (by kernel_rfl) (by kernel_rfl) (by kernel_rfl) (fun _ _ _ h => h) (Or.inl ⟨by rfl, fun W hSw => ?_⟩) hHeld ?_
    rotate_left
    ·(try dsimp only at hSw); go_simp; (try with_reducible rfl)
    (try simp only [Act.put, List.setIfInBounds_toArray, List.set_cons_zero, List.set_cons_succ])
    refine wpAnyH_take (i := 4) (oi := ⟨some 32, .load 149 (.tmp 31), 149, "guess.go:106", #[⟨3, .data⟩], none⟩) (v := ?_) rfl (by kernel_rfl) (by kernel_rfl) (by kernel_rfl) (fun _ _ _ h => h) (Or.inl ⟨by rfl, fun W hSw => ?_⟩) hHeld ?_
    rotate_left
    ·(try dsimp only at hSw); go_simp; (try with_reducible rfl)
    (try simp only [Act.put, List.setIfInBounds_toArray, List.set_cons_zero, List.set_cons_succ])
    refine wpAnyH_take (i := 5) (oi := ⟨some 33, .load 70 (.tmp 8), 70, "guess.go:106", #[], none⟩) (v := ?_) rfl (by kernel_rfl) (by kernel_rfl) (by kernel_rfl) (fun _ _ _ h => h) (Or.inl ⟨by rfl, fun W hSw => ?_⟩) hHeld ?_
    rotate_left
    ·(try dsimp only at hSw); go_simp; (try with_reducible rfl)
    (try simp only [Act.put, List.setIfInBounds_toArray, List.set_cons_zero, List.set_cons_succ])
    refine wpAnyH_ready (rs := [6]) (by kernel_rfl) (by simp) ?_
    refine AllReadyH.cons (o := ⟨some 34, .call { callee := .value (.tmp 32), args := #[.tmp 33], argTypes := #[70] }, 4, "guess.go:106", #[⟨4, .data⟩, ⟨5, .data⟩], none⟩) rfl (fun K hK => ?_) AllReadyH.nil
    go_simp
    refine (agree_5 A n c t na nb lo hi ln ld mn md _ ((hrr.keep hf2).keep hHeld.2) hn ht hvk).mono ?_
    rintro e' w3 ⟨rfl, hb3⟩
    refine hK.out _ _ (kp_step hb3 hHeld) (fun hHeld => ?_)
    clear hK K
    (try simp only [Act.put, List.setIfInBounds_toArray, List.set_cons_zero, List.set_cons_succ])
    refine wpAnyH_take (i := 7) (oi := ⟨some 35, .unOp .not 4 (.tmp 34), 4, "guess.go:106", #[⟨6, .data⟩], none⟩) (v := ?_) rfl (by kernel_rfl) (by kernel_rfl) (by kernel_rfl) (fun _ _ _ h => h) (Or.inl ⟨by rfl, fun W hSw => ?_⟩) hHeld ?_
    rotate_left
    ·(try dsimp only at hSw); go_simp; (try with_reducible rfl)
    (try simp only [Act.put, List.setIfInBounds_toArray, List.set_cons_zero, List.set_cons_succ])
    refine wpAnyH_done (by kernel_rfl) ?_ _
    refine NoPanic.normal ?_
    have hown3 := hown2.keep hHeld.2
    have hK3 := hK2.keep hHeld.2
    have hbel3 := fr_call (fr_call hbel hf2) hHeld.2
    clear hcN hcK hHeld hc0 hc1 hc2 hc3 hc4 hc5 hc6 hc7 hc8
    cases hq : agreeB ⟨5, na, nb, lo, hi, ln, ld, mn, md⟩ t
    ·go_wp2_with (at_builtin; go_must (refine app_int rfl (.tmp 36) (.tmp 38) rfl W1.heap.size _ (brk ns t k) rfl rfl hown3 (by omega) hbel3.size ?_); intro A1 c1 w4 hown4 hg4)
     have hK4 := (hK3.alloc _).grown hg4 (Ne.symm (own_blk_ne hown3 hK3 (by decide)))
     have hbel4 : Below W1.heap.size W1 w4 := (fr_alloc hbel3 _).grown hg4 (by have := hbel3.size; simp; omega) (own_ge hown3)
     go_roundw
     case rel => exact ⟨k + 1, by omega, by go_num, by rw [HN.out hq]; simpa using hown4, hK4, hbel4⟩
     case measure => simp [intOf]; omega
    ·go_wp2_with fail
     go_roundw
     case rel => exact ⟨k + 1, by omega, by go_num, by rw [HY.out hq]; exact hown3, hK3, hbel3⟩
     case measure => simp [intOf]; omega
   exfalso
   unfold noteB at hvk
   simp only at hvk
   rw [if_neg e1, if_neg e2, if_neg e3, if_neg e4, if_neg e5] at hvk
   cases hvk
  ·obtain rfl : k = m := by omega
   obtain ⟨A1, c1, rfl⟩ := hown.form
   have hbk : breaksL ns t = brk ns t k := by unfold breaksL; rw [HL.out]
   have HBK := Lib.hid hbk
   clear hbk
   go_wp2_with fail
   go_ret
   rw [HBK.out]
   exact ⟨A1, c1, rfl, own_mono hown hf1.size, fr_call hf1 hbel⟩
end Go.Proofs.YtfgghicdkcjdgaaGreatDoor
end

section
namespace Go.Proofs.YtfgghicdkcjdgaaGreatDoor
open Go.RowKit Go.Shelf

def Safe (B : Nat) (T : TypeId → Bool) (g : Nat) (o : Obj) : Prop := g < B ∨ ∃ cs t fr, o = .cells cs t fr ∧ T t = true
/-- W' is W but for blocks from B on that hold no variables or elements of the types T -/
structure Keep (B : Nat) (T : TypeId → Bool) (W W' : World) : Prop where
 os : W'.os = W.os
 tape : W'.tape = W.tape
 output : W'.output = W.output
 size : W.heap.size ≤ W'.heap.size
 same : ∀ g o, W.heap[g]? = some o → Safe B T g o → W'.heap[g]? = some o
section
variable {B : Nat} {T : TypeId → Bool} {W W' W'' : World}
theorem Keep.refl (B : Nat) (T : TypeId → Bool) (W : World) : Keep B T W W := ⟨rfl, rfl, rfl, Nat.le_refl _, fun _ _ h _ => h⟩
theorem Keep.trans (h : Keep B T W W') (k : Keep B T W' W'') : Keep B T W W'' :=
 ⟨k.os.trans h.os, k.tape.trans h.tape, k.output.trans h.output, Nat.le_trans h.size k.size, fun g o hg hs => k.same g o (h.same g o hg hs) hs⟩
theorem Keep.of_below (hb : Below W.heap.size W W') : Keep B T W W' :=
 ⟨hb.os, hb.tape, hb.output, hb.size, fun g _ hg _ => (hb.block g (Array.getElem?_eq_some_iff.1 hg).1).trans hg⟩
theorem Keep.then_below (h : Keep B T W W') (hb : Below W'.heap.size W' W'') : Keep B T W W'' := h.trans (Keep.of_below hb)
theorem Keep.blk {g : Nat} {t : TypeId} {cs : Array Value} (h : Keep B T W W') (hB : Blk W g t cs) (ht : g < B ∨ T t = true) : Blk W' g t cs :=
 h.same g _ hB (by rcases ht with h1 | h1; exact Or.inl h1; exact Or.inr ⟨_, _, _, rfl, h1⟩)
theorem Keep.obj {g : Nat} {x : Obj} (h : Keep B T W W') (hB : W.heap[g]? = some x) (hg : g < B) : W'.heap[g]? = some x := h.same g _ hB (Or.inl hg)
theorem Keep.below {N : Nat} {w : World} (h : Keep B T W W') (hb : Below N w W) (hN : N ≤ B) (hN2 : N ≤ w.heap.size) : Below N w W' :=
 ⟨h.os.trans hb.os, h.tape.trans hb.tape, h.output.trans hb.output, Nat.le_trans hb.size h.size, fun k hk => by
  have h1 : k < w.heap.size := by omega
  have h2 := hb.block k hk
  rw [Array.getElem?_eq_getElem h1] at h2
  rw [h.same k _ h2 (Or.inl (by omega)), Array.getElem?_eq_getElem h1]⟩
theorem Keep.cell {p : Addr} {o : Obj} (h : Keep B T W W') (ho : W.heap[p.block]? = some o) (hs : Safe B T p.block o) : W'.cell? p = W.cell? p := World.cell?_of_block ((h.same _ _ ho hs).trans ho.symm)
/-- the slice reads as the numbers xs, in a row of numbers -/
def RdI (W : World) (A : Option Addr) (n : Nat) (xs : List Int) : Prop :=
 Rd W A n xs ∧ (0 < n → ∀ ad, A = some ad → ∃ cs fr, W.heap[ad.block]? = some (.cells cs 3 fr))
theorem RdI.move {A : Option Addr} {n : Nat} {xs : List Int} (h : RdI W A n xs) (hs : W.heap.size ≤ W'.heap.size) (k : ∀ (g : Nat) (cs : Array Value) (fr : Nat × Nat), W.heap[g]? = some (.cells cs 3 fr) → W'.heap[g]? = some (.cells cs 3 fr)) : RdI W' A n xs := by
 refine ⟨⟨h.1.1, fun hn => ?_⟩, fun hn ad e => ?_⟩
 ·obtain ⟨ad, e, hlt, hc⟩ := h.1.2 hn
  obtain ⟨cs, fr, ho⟩ := h.2 hn ad e
  refine ⟨ad, e, Nat.lt_of_lt_of_le hlt hs, fun j hj => (World.cell?_of_block ?_).trans (hc j hj)⟩
  rw [block_of_add, ho]
  exact k _ _ _ ho
 ·obtain ⟨cs, fr, ho⟩ := h.2 hn ad e
  exact ⟨cs, fr, k _ _ _ ho⟩
theorem RdI.keep {A : Option Addr} {n : Nat} {xs : List Int} (h : RdI W A n xs) (k : Keep B T W W') (hT : T 3 = true) : RdI W' A n xs :=
 h.move k.size (fun _ _ _ ho => k.same _ _ ho (Or.inr ⟨_, _, _, rfl, hT⟩))
theorem RdI.below {A : Option Addr} {n : Nat} {xs : List Int} (h : RdI W A n xs) (hb : Below W.heap.size W W') : RdI W' A n xs :=
 h.move hb.size (fun g _ _ ho => (hb.block g (Array.getElem?_eq_some_iff.1 ho).1).trans ho)
theorem RdI.grown {A : Option Addr} {n g : Nat} {xs : List Int} {t : TypeId} {cs : Array Value} (h : RdI W A n xs) (hg : W.grownBy W' (some g)) (hB : Blk W g t cs) (ht : t ≠ 3) : RdI W' A n xs :=
 h.move hg.size (fun k _ _ ho => (hg.block k (Array.getElem?_eq_some_iff.1 ho).1 (fun e => by
  cases e
  unfold Blk at hB
  rw [hB] at ho
  cases ho
  exact ht rfl)).trans ho)
theorem RdI.nil_ (W : World) (A : Option Addr) : RdI W A 0 [] := ⟨Rd.nil_ _ _, fun h => absurd h (by omega)⟩
theorem RdI.of_own {base n c : Nat} {A : Option Addr} {xs : List Int} (h : Own W base (.slice A n c) xs) : RdI W A n xs := by
 refine ⟨h.rd, fun hn ad e => ?_⟩
 rcases h.2 with ⟨hv, h0⟩ | ⟨g, cap, cur, hv, _, hh, _⟩
 ·injection hv with h1; rw [e] at h1; cases h1
 ·injection hv with h1
  rw [e] at h1
  cases h1
  exact ⟨_, _, hh⟩
theorem RdS.keepK {A : Option Addr} {k : Nat} {rows : List (List Value)} (h : RdS W A k rows) (hk : Keep B T W W') (hA : ∀ ad, A = some ad → ad.block < B) : RdS W' A k rows := fun hn => by
 obtain ⟨ad, e, hlt, hc⟩ := h hn
 exact ⟨ad, e, Nat.lt_of_lt_of_le hlt hk.size, fun i r hr => ⟨(hc i r hr).1, fun j v hv => (hk.cell (p := ad.add (i * k + j)) (by rw [block_of_add]; exact Array.getElem?_eq_getElem hlt) (by rw [block_of_add]; exact Or.inl (hA ad e))).trans ((hc i r hr).2 j v hv)⟩⟩
theorem RdS.oldA {A : Option Addr} {k : Nat} {rows : List (List Value)} (h : RdS W A k rows) (hn : 0 < rows.length) : ∀ ad, A = some ad → ad.block < W.heap.size := fun ad e => by
 obtain ⟨ad', e', hlt, _⟩ := h hn
 rw [e] at e'; cases e'; exact hlt
end
section
variable {o : Oper} {a : Act} {w : World} {K : Act → World → Prop} {Q : Exit → Act → World → Prop}
theorem wp_build_teeth {x : Nat} {y : Int} (ho : o.op = .buildSlice 96 1 #[(0, .tmp x)]) (hx : a.tmps.getD x undef = .int .i64 y)
  (h : ∀ g w', w.heap.size = g → Blk w' g 3 #[.int .i64 y] → Below w.heap.size w w' → w'.heap.size = g + 1 → K (a.put o.dst (.slice (some ⟨g, 0, none⟩) 1 1)) w') : o.wp Tryz.prog a w K Q := by
 have h1 := h w.heap.size (w.alloc (.cells #[.int .i64 y] 3)) rfl (Blk.new w _ _) (fr_alloc (fr_refl w) _) (by simp)
 obtain ⟨dst, op, ty, pos, after, guard⟩ := o
 simp only at ho
 subst ho
 have hx' : a.tmps[x]?.getD undef = .int .i64 y := by simpa using hx
 go_simp
 exact h1
theorem wp_app_teeth (s x : Operand) (ho : o.op = .call { callee := .builtin .append, args := #[s, x], argTypes := #[96, 96] }) (base : Nat) (v : Value) (xs : List Int) (hs : a.eval s = v) (hown : Own w base v xs)
  (g : Nat) (y : Int) (hx : a.eval x = .slice (some ⟨g, 0, none⟩) 1 1) (hg : Blk w g 3 #[.int .i64 y]) (hn : xs.length < 1000000) (hbase : base ≤ w.heap.size)
  (h : ∀ A c w', Own w' base (.slice A (xs.length + 1) c) (xs ++ [y]) → w.grownBy w' v.ownBlock → K (a.put o.dst (.slice A (xs.length + 1) c)) w') : o.wp Tryz.prog a w K Q := by
 obtain ⟨i0, hi, hz0, hz1, hz2⟩ := info_parts info_int
 refine wp_append_own w s x _ ho base _ i0 _ 1 8 Tryz.underlying96 hi hz0 hz1 hz2 rfl (by omega) v _ _ hs hown ⟨g, 0, none⟩ 1 1 [.int .i64 y] hx rfl ?_ (by simp [Value.oneCell'])
  (by unfold maxLen; omega) (by omega) hbase ?_
 ·intro j u hj
  match j, hj with
  | 0, hj => simp at hj; subst hj; rw [add_lit, hg.cell]; rfl
 ·intro v' w' hown' hgr _
  have hown2 : Own w' base v' (xs ++ [y]) := by
   unfold Own
   rw [List.length_append, List.map_append]
   exact hown'
  obtain ⟨A, c, rfl⟩ := hown2.form
  rw [List.length_append] at hown2 ⊢
  exact h A c w' hown2 hgr
end
/- slices.Clone of teeth -/
theorem teeth_nil (w : World) (a : Option Addr) (l c : Nat) : (binOp .eql 96 (.slice a l c) (.slice none 0 0)).run Tryz.prog w = .ok (.bool a.isNone) w := Lib.run_eql_slice_nil w _ _ a l c 0 0 Tryz.underlying96
set_option maxRecDepth 100000 in
set_option maxHeartbeats 4000000 in
theorem clone_nil (w : World) : Calls Tryz.prog 129 #[.slice none 0 0] w fun e w' => e = .returned (.slice none 0 0) ∧ w = w' := by
 have hnil := teeth_nil
 go_enter Tryz.func129, Tryz.ntmps129
 go_wp2_with fail
 go_ret
 exact ⟨rfl, rfl⟩
/-- a list of numbers in a new row is returned -/
theorem own_empty (w : World) (g base : Nat) (hg : Blk w g 3 #[]) (hb : base ≤ g) : Own w base (.slice (some ⟨g, 0, none⟩) 0 0) [] :=
 ⟨by simp, Or.inr ⟨g, 0, #[], rfl, hb, hg, Nat.le_refl _, by simp, rfl, rfl⟩⟩
set_option maxRecDepth 100000 in
set_option maxHeartbeats 4000000 in
theorem clone_some (ad : Addr) (n c : Nat) (xs : List Int) (w : World) (hr : Rd w (some ad) n xs) (hn : 0 < n) (hn2 : n ≤ 1000) :
  Calls Tryz.prog 129 #[.slice (some ad) n c] w (RetO w xs) := by
 have hnil := teeth_nil
 obtain ⟨i0, hi, hz0, hz1, hz2⟩ := info_parts info_int
 have hr1 := hr.alloc (.cells #[] 3)
 have hown := own_empty _ w.heap.size w.heap.size (Blk.new w 3 #[]) (Nat.le_refl _)
 have hlen := Lib.hid hr.len
 go_enter Tryz.func129, Tryz.ntmps129
 go_wp2_with (at_builtin; go_must (refine wpList_append_own _ rfl (.tmp 5) (.tmp 6) _ rfl w.heap.size _ i0 _ 1 8 Tryz.underlying96 hi hz0 hz1 hz2 rfl (by omega) _ _ _ rfl hown ad n c (xs.map (Value.int .i64)) rfl (by rw [List.length_map, hlen.out]; omega) ?_ (by intro u hu; obtain ⟨x, _, rfl⟩ := List.mem_map.1 hu; rfl) (by unfold maxLen; simp; omega) (by simp; omega) (by simp) ?_); rotate_left; intro v' w1 hown1 hgr _)
 ·have hown2 : Own w1 w.heap.size v' xs := by
   unfold Own
   rw [hlen.out]
   simpa using hown1
  obtain ⟨A1, c1, rfl⟩ := hown2.form
  go_ret
  exact ⟨A1, c1, rfl, hown2, (fr_alloc (fr_refl w) _).grown hgr (by simp) (by intro k hk; cases hk; exact Nat.le_refl _)⟩
 ·intro j u hj
  rw [List.getElem?_map] at hj
  cases hx : xs[j]? with
  | none => rw [hx] at hj; cases hj
  | some x =>
   rw [hx] at hj
   cases hj
   have hjn : j < n := by rw [← hlen.out]; exact (List.getElem?_eq_some_iff.1 hx).1
   obtain ⟨ad', e, _, hc⟩ := hr1.at_ hjn
   cases e
   rw [hc, hx]
   rfl
end Go.Proofs.YtfgghicdkcjdgaaGreatDoor
end

section
namespace Go.Proofs.YtfgghicdkcjdgaaGreatDoor
open Go.RowKit Go.Shelf
attribute [local go_sem] Oper.semAt_some

/-- what the caller of all(f) brings: an invariant of the trains that have come, and of the world -/
structure AllY (B : Nat) (T : TypeId → Bool) (m l M : Nat) (ws : List Wh) (J : List (List Int) → World → Prop) : Prop where
 tInt : T 3 = true
 tFn : T 163 = true
 tSpan : T 47 = true
 tFind : T 25 = true
 keep : ∀ d W W', J d W → Below W.heap.size W W' → J d W'
 yield : ∀ d t A c W, J d W → RdI W A ws.length t → Fits ws t → d.length < M → YieldAt Fence.wide m Tryz.prog l #[.slice A ws.length c] W fun e W' => e = .returned (.bool true) ∧ J (d ++ [t]) W' ∧ Keep B T W W'
/-- the variables that the search captured -/
structure AllV (B : Nat) (l : Nat) (A N : Option Addr) (nw wc nn nc bf bY bs : Nat) (ws : List Wh) (W : World) : Prop where
 f : Blk W bf 25 #[.slice A nw wc, .slice N nn nc]
 y : Blk W bY 163 #[.func (.yield l) #[] #[]]
 s : Blk W bs 163 #[.func (.func 128) #[] #[.pointer (some ⟨bf, 0, none⟩), .pointer (some ⟨bY, 0, none⟩), .pointer (some ⟨bs, 0, none⟩)]]
 ws : RdS W A 2 (ws.map Wh.cells)
 old : ∀ ad, A = some ad → ad.block < B
theorem AllV.keep {B l nw wc nn nc bf bY bs : Nat} {T : TypeId → Bool} {A N : Option Addr} {ws : List Wh} {W W' : World} (h : AllV B l A N nw wc nn nc bf bY bs ws W) (k : Keep B T W W') (hf : T 163 = true) (hF : T 25 = true) : AllV B l A N nw wc nn nc bf bY bs ws W' :=
 ⟨k.blk h.f (Or.inr hF), k.blk h.y (Or.inr hf), k.blk h.s (Or.inr hf), h.ws.keepK k h.old, h.old⟩
def SearchPost (B : Nat) (T : TypeId → Bool) (J : List (List Int) → World → Prop) (d : List (List Int)) (W : World) (e : Ending) (W' : World) : Prop := e = .returned (.bool true) ∧ J d W' ∧ Keep B T W W'
set_option maxRecDepth 100000 in
set_option maxHeartbeats 4000000 in
theorem search_leaf (B m l M : Nat) (T : TypeId → Bool) (ws : List Wh) (J : List (List Int) → World → Prop) (hY : AllY B T m l M ws J) (A N : Option Addr) (wc nn nc bf bY bs : Nat) (d : List (List Int)) (t : List Int) (C : Option Addr) (cc : Nat) (W : World)
  (hV : AllV B l A N ws.length wc nn nc bf bY bs ws W) (hJ : J d W) (hr : RdI W C ws.length t) (ht : Fits ws t) (hd : d.length < M) :
  Calls Tryz.prog 128 #[.slice C ws.length cc, .pointer (some ⟨bf, 0, none⟩), .pointer (some ⟨bY, 0, none⟩), .pointer (some ⟨bs, 0, none⟩)] W (SearchPost B T J (d ++ [t]) W) := by
 refine (callsIn_wide (n := m + 1)).1 ?_
 refine callsIn_of_wp Tryz.func128 rfl trivial ?_ rfl
 simp only [Tryz.ntmps128, List.size_toArray, List.length_cons, List.length_nil, Nat.reduceAdd, Nat.reduceSub, Array.replicate_succ, Array.replicate_zero, List.push_toArray, List.append_toArray, List.nil_append, List.cons_append]
 have hcf := fun j => hV.f.cell j
 have hcy := hV.y.cell 0
 have he : ((ws.length : Int) == (ws.length : Int)) = true := by simp
 obtain ⟨fn, tmps, assign, body, hy, hR⟩ := hY.yield d t C cc W hJ hr ht hd
 clear hV hr ht hY
 gi_wp2
 refine hR.mono ?_
 rintro e W3 ⟨rfl, hJ3, hk3⟩
 gi_wp2
 go_ret
 exact ⟨rfl, hJ3, hk3⟩

theorem clone_any (C : Option Addr) (n c : Nat) (xs : List Int) (w : World) (hr : Rd w C n xs) (hC : 0 < n ∨ (C = none ∧ c = 0)) (hn2 : n ≤ 1000) :
  Calls Tryz.prog 129 #[.slice C n c] w (RetO w xs) := by
 rcases Nat.eq_zero_or_pos n with h0 | h0
 ·obtain ⟨rfl, rfl⟩ : C = none ∧ c = 0 := by
   rcases hC with h1 | h1
   ·omega
   ·exact h1
  subst h0
  obtain rfl : xs = [] := List.eq_nil_of_length_eq_zero hr.len
  refine (clone_nil w).mono ?_
  rintro e w' ⟨rfl, rfl⟩
  exact ⟨none, 0, rfl, Own.nil _ _, fr_refl _⟩
 ·obtain ⟨ad, rfl, _⟩ := hr.2 h0
  exact clone_some ad n c xs w hr h0 hn2
theorem upTo_snoc {lo x : Int} (h : lo ≤ x) : upTo lo x = upTo lo (x - 1) ++ [x] := by
 unfold upTo
 rw [show (x + 1 - lo).toNat = (x - 1 + 1 - lo).toNat + 1 by omega, List.range_succ]
 simp only [List.map_append, List.map_cons, List.map_nil]
 congr 2
 omega
/-- the trains that begin with p, then with a number below x -/
def subT (p : List Int) (lo : Int) (rest : List Wh) (x : Int) : List (List Int) := (upTo lo (x - 1)).flatMap (fun y => (allT rest).map (fun t => (p ++ [y]) ++ t))
theorem subT_zero (p : List Int) (lo : Int) (rest : List Wh) : subT p lo rest lo = [] := by unfold subT; rw [upTo_nil (by omega)]; rfl
theorem subT_succ (p : List Int) {lo : Int} (rest : List Wh) {x : Int} (h : lo ≤ x) : subT p lo rest (x + 1) = subT p lo rest x ++ (allT rest).map (fun t => (p ++ [x]) ++ t) := by
 unfold subT
 rw [show x + 1 - 1 = x by omega, upTo_snoc h, List.flatMap_append]
 simp
theorem subT_all (p : List Int) (s : Wh) (rest : List Wh) : subT p s.lo rest (s.hi + 1) = (allT (s :: rest)).map (fun t => p ++ t) := by
 unfold subT
 rw [show s.hi + 1 - 1 = s.hi by omega]
 simp only [allT, List.map_flatMap, List.map_map]
 congr 1
 funext y
 exact List.map_congr_left (fun t _ => by simp)
theorem subT_len (p : List Int) {lo : Int} (rest : List Wh) {x : Int} (h : lo ≤ x) : (subT p lo rest x).length = (x - lo).toNat * (allT rest).length := by
 unfold subT upTo
 rw [List.length_flatMap, List.map_map]
 have : (fun y => ((allT rest).map (fun t => (p ++ [y]) ++ t)).length) = fun _ => (allT rest).length := by funext y; rw [List.length_map]
 rw [show ((fun a => (List.map (fun t => p ++ [a] ++ t) (allT rest)).length) ∘ fun i : Nat => lo + (i : Int)) = fun _ => (allT rest).length by funext i; simp]
 rw [List.map_const', List.sum_replicate_nat, List.length_range]
 congr 1
 omega
theorem subT_room {d : List (List Int)} (p : List Int) {lo hi : Int} (rest : List Wh) {M : Nat} (h : d.length + (subT p lo rest (hi + 1)).length ≤ M) {x : Int} (h1 : lo ≤ x) (h2 : x ≤ hi) : (d ++ subT p lo rest x).length + (allT rest).length ≤ M := by
 rw [subT_len p rest (show lo ≤ hi + 1 by omega)] at h
 rw [List.length_append, subT_len p rest h1]
 have e : (hi + 1 - lo).toNat = (x - lo).toNat + 1 + (hi - x).toNat := by omega
 rw [e, Nat.add_mul, Nat.add_mul] at h
 omega
theorem fits_snoc : ∀ {ws : List Wh} {p : List Int} {x : Int}, Fits (ws.take p.length) p → (h : p.length < ws.length) → ws[p.length].lo ≤ x → x ≤ ws[p.length].hi → Fits (ws.take (p.length + 1)) (p ++ [x])
 | [], p, x, _, h, _, _ => absurd h (by simp)
 | s :: ws, [], x, _, _, h1, h2 => by simpa [Fits] using ⟨h1, h2⟩
 | s :: ws, y :: p, x, hf, h, h1, h2 => by
  simp only [List.length_cons, List.take_succ_cons, List.cons_append] at *
  exact ⟨hf.1, fits_snoc hf.2 (by simpa using h) (by simpa using h1) (by simpa using h2)⟩

set_option maxRecDepth 100000 in
set_option maxHeartbeats 16000000 in
theorem search_any (B m l M : Nat) (T : TypeId → Bool) (ws : List Wh) (J : List (List Int) → World → Prop) (hY : AllY B T m l M ws J) (hM : ∀ s ∈ ws, MoW s ∧ s.lo ≤ s.hi) (hlw : ws.length ≤ 100) (A N : Option Addr) (wc nn nc bf bY bs : Nat) :
  ∀ (r : Nat) (p : List Int) (n : Nat) (d : List (List Int)) (C : Option Addr) (cc : Nat) (W : World), p.length = n → n + r = ws.length → (0 < n ∨ (C = none ∧ cc = 0)) → Fits (ws.take p.length) p →
  AllV B l A N ws.length wc nn nc bf bY bs ws W → J d W → RdI W C n p → d.length + (allT (ws.drop n)).length ≤ M →
  Calls Tryz.prog 128 #[.slice C n cc, .pointer (some ⟨bf, 0, none⟩), .pointer (some ⟨bY, 0, none⟩), .pointer (some ⟨bs, 0, none⟩)] W (SearchPost B T J (d ++ (allT (ws.drop n)).map (fun t => p ++ t)) W) := by
 intro r
 induction r with
 | zero =>
  intro p n d C cc W hp hn hC hf hV hJ hr hd
  obtain rfl : n = ws.length := by omega
  rw [hp, List.take_length] at hf
  rw [List.drop_length] at hd
  have := search_leaf B m l M T ws J hY A N wc nn nc bf bY bs d p C cc W hV hJ hr hf (by simp [allT] at hd; omega)
  rw [List.drop_length]
  simpa [allT] using this
 | succ r ih =>
  intro p n d C cc W hp hn hC hf hV hJ hr hd
  have hlt : n < ws.length := by omega
  have hM' := hM ws[n] (List.getElem_mem hlt)
  have hall : (allT (ws.drop n)).map (fun t => p ++ t) = subT p ws[n].lo (ws.drop (n + 1)) (ws[n].hi + 1) := by rw [subT_all, ← List.drop_eq_getElem_cons hlt]
  rw [hall]
  have hd2 : d.length + (subT p ws[n].lo (ws.drop (n + 1)) (ws[n].hi + 1)).length ≤ M := by rw [← hall, List.length_map]; exact hd
  have hfs := fun x => fits_snoc (x := x) hf (by rw [hp]; exact hlt)
  obtain ⟨ad, rfl, hab, hc0, hc1⟩ := whs_at hV.ws hlt
  obtain ⟨rest, hrest⟩ : ∃ rest, ws.drop (n + 1) = rest := ⟨_, rfl⟩
  rw [hrest] at hd2 ⊢
  have HREST := Lib.hid hrest
  have hfs2 : ∀ x, ws[n].lo ≤ x → x ≤ ws[n].hi → Fits (ws.take (n + 1)) (p ++ [x]) := fun x h1 h2 => by
   have := hfs x (by simpa [hp] using h1) (by simpa [hp] using h2)
   rwa [hp] at this
  clear hall hfs hrest hd
  generalize ws[n] = s at *
  obtain ⟨lo, hi⟩ := s
  obtain ⟨⟨⟨ml1, ml2⟩, mh1, mh2⟩, mlh⟩ := hM'
  simp only at *
  have HFS := Lib.hid hfs2
  have HP := Lib.hid hp
  have HD := Lib.hid hd2
  clear hd2
  have HF := Lib.hid hf
  clear hfs2 hp hf
  have hcf := fun j => hV.f.cell j
  have hne : ((n : Int) == (ws.length : Int)) = false := beq_eq_false_iff_ne.2 (by omega)
  have hnl : (n : Int) < (ws.length : Int) := by omega
  go_enter Tryz.func128, Tryz.ntmps128
  go_wp2_with fail
  have hX := Blk.new W 47 #[.int .i64 lo, .int .i64 hi]
  have hbX := fr_alloc (fr_refl W) (.cells #[.int .i64 lo, .int .i64 hi] 47)
  have hkX : Keep B T W (W.alloc (.cells #[.int .i64 lo, .int .i64 hi] 47)) := Keep.of_below hbX
  have hJX := hY.keep d _ _ hJ hbX
  generalize W.alloc (.cells #[.int .i64 lo, .int .i64 hi] 47) = W1 at *
  go_loopw [7] (fun v wr => ∃ x : Int, lo ≤ x ∧ x ≤ hi + 1 ∧ v = .int .i64 x ∧ J (d ++ subT p lo rest x) wr ∧ Keep B T W wr ∧ Blk wr W.heap.size 47 #[.int .i64 lo, .int .i64 hi]) (fun v _ => (hi + 1 - intOf v).toNat)
  case atStart => exact ⟨lo, Int.le_refl _, by omega, rfl, by rw [subT_zero, List.append_nil]; exact hJX, hkX, hX⟩
  case round =>
   obtain ⟨x, hx1, hx2, rfl, hJr, hkr, hXr⟩ := hrel
   have hcX := fun j => hXr.cell j
   clear hcf hc0 hc1 hX hkX hJX hbX
   by_cases hlt2 : x ≤ hi
   ·have hVr := hV.keep hkr hY.tFn hY.tFind
    have hrp := hr.keep hkr hY.tInt
    have hcs : wr.cell? ⟨bs, 0, none⟩ = some (.func (.func 128) #[] #[.pointer (some ⟨bf, 0, none⟩), .pointer (some ⟨bY, 0, none⟩), .pointer (some ⟨bs, 0, none⟩)]) := hVr.s.cell 0
    have hbs := hVr.s.lt
    have hbz := fr_drew (fr_refl wr)
    clear hV hr hJ
    go_wp2_with fail
    clear hcX
    refine wp_region_noPanic ?_
    refine wp_region_held_drew (S := fun W => W.cell? ⟨bs, 0, none⟩ = some (.func (.func 128) #[] #[.pointer (some ⟨bf, 0, none⟩), .pointer (some ⟨bY, 0, none⟩), .pointer (some ⟨bs, 0, none⟩)])) (by kernel_rfl) hcs (fun hHeld => ?_)
    generalize wr.drew = wz at hbz hHeld ⊢
    -- the region, step by step, in whatever order
    refine wpAnyH_take (i := 0) (oi := ⟨some 31, .load 163 (.tmp 3), 163, "guess.go:132", #[], none⟩) (v := ?_) rfl (by kernel_rfl) (by kernel_rfl) (by kernel_rfl) (fun _ _ _ h => h) (Or.inl ⟨by rfl, fun W hSw => ?_⟩) hHeld ?_
    rotate_left
    ·(try dsimp only at hSw); go_simp; (try with_reducible rfl)
    (try simp only [Act.put, List.setIfInBounds_toArray, List.set_cons_zero, List.set_cons_succ])
    refine wpAnyH_take (i := 1) (oi := ⟨some 32, .move (.tmp 0), 96, "guess.go:132", #[], none⟩) (v := ?_) rfl (by kernel_rfl) (by kernel_rfl) (by kernel_rfl) (fun _ _ _ h => h) (Or.inl ⟨by rfl, fun W hSw => ?_⟩) hHeld ?_
    rotate_left
    ·(try dsimp only at hSw); go_simp; (try with_reducible rfl)
    (try simp only [Act.put, List.setIfInBounds_toArray, List.set_cons_zero, List.set_cons_succ])
    refine wpAnyH_take (i := 3) (oi := ⟨some 34, .move (.tmp 7), 3, "guess.go:132", #[], none⟩) (v := ?_) rfl (by kernel_rfl) (by kernel_rfl) (by kernel_rfl) (fun _ _ _ h => h) (Or.inl ⟨by rfl, fun W hSw => ?_⟩) hHeld ?_
    rotate_left
    ·(try dsimp only at hSw); go_simp; (try with_reducible rfl)
    (try simp only [Act.put, List.setIfInBounds_toArray, List.set_cons_zero, List.set_cons_succ])
    refine wpAnyH_ready (rs := [2, 4]) (by kernel_rfl) (by simp) ?_
    refine (AllReadyH.cons (o := ⟨some 33, .call { callee := .value (.func 129), args := #[.tmp 32], argTypes := #[96] }, 96, "guess.go:132", #[⟨1, .data⟩], none⟩) rfl (fun K hK => ?_) (AllReadyH.cons (o := ⟨some 35, .buildSlice 96 1 #[(0, .tmp 34)], 96, "guess.go:132", #[⟨3, .data⟩], none⟩) rfl (fun K hK => ?_) AllReadyH.nil))
    ·rw [if_pos (by rfl)]
     go_simp
     refine (clone_any C n cc p wz (hrp.below hbz).1 hC (by omega)).mono ?_
     rintro e' wz ⟨A1, c1, rfl, hown, hb1⟩
     rw [HP.out] at hown ⊢
     replace hown := own_mono hown hbz.size
     replace hbz := fr_call hbz hb1
     (try replace hG := hG.keep hb1)
     refine hK.out _ _ ((hbz.cell (p := ⟨bs, 0, none⟩) hbs).trans hcs) (fun hHeld => ?_)
     clear hK K
     (try simp only [Act.put, List.setIfInBounds_toArray, List.set_cons_zero, List.set_cons_succ])
     refine wpAnyH_ready (rs := [4]) (by kernel_rfl) (by simp) ?_
     refine (AllReadyH.cons (o := ⟨some 35, .buildSlice 96 1 #[(0, .tmp 34)], 96, "guess.go:132", #[⟨3, .data⟩], none⟩) rfl (fun K hK => ?_) AllReadyH.nil)
     rw [if_pos (by rfl)]
     refine wp_build_teeth rfl rfl ?_
     intro g wz hgz hG hb1 _
     replace hbz := fr_call hbz hb1
     (try replace hown := hown.keep hb1)
     refine hK.out _ _ ((hbz.cell (p := ⟨bs, 0, none⟩) hbs).trans hcs) (fun hHeld => ?_)
     clear hK K
     (try simp only [Act.put, List.setIfInBounds_toArray, List.set_cons_zero, List.set_cons_succ])
     refine wpAnyH_ready (rs := [5]) (by kernel_rfl) (by simp) ?_
     refine (AllReadyH.cons (o := ⟨some 36, .call { callee := .builtin .append, args := #[.tmp 33, .tmp 35], argTypes := #[96, 96] }, 96, "guess.go:132", #[⟨2, .data⟩, ⟨4, .data⟩, ⟨2, .chain⟩], none⟩) rfl (fun K hK => ?_) AllReadyH.nil)
     rw [if_pos (by rfl)]
     refine wp_app_teeth (.tmp 33) (.tmp 35) rfl wr.heap.size _ p rfl hown g x rfl hG (by have := HP.out; omega) hbz.size ?_
     intro A2 c2 wz hown2 hgr
     rw [HP.out] at hown2 ⊢
     replace hbz := hbz.grown hgr hbz.size (own_ge hown)
     refine hK.out _ _ ((hbz.cell (p := ⟨bs, 0, none⟩) hbs).trans hcs) (fun hHeld => ?_)
     clear hK K
     (try simp only [Act.put, List.setIfInBounds_toArray, List.set_cons_zero, List.set_cons_succ])
     refine wpAnyH_ready (rs := [6]) (by kernel_rfl) (by simp) ?_
     refine (AllReadyH.cons (o := ⟨some 37, .call { callee := .value (.tmp 31), args := #[.tmp 36], argTypes := #[96] }, 4, "guess.go:132", #[⟨0, .data⟩, ⟨5, .data⟩, ⟨5, .chain⟩], none⟩) rfl (fun K hK => ?_) AllReadyH.nil)
     rw [if_pos (by rfl)]
     go_simp
     refine (ih (p ++ [x]) (n + 1) (d ++ subT p lo rest x) A2 c2 wz (by rw [List.length_append, HP.out]; rfl) (by omega) (Or.inl (by omega)) (by rw [List.length_append, HP.out]; exact HFS.out x hx1 hlt2) (hVr.keep (Keep.of_below hbz) hY.tFn hY.tFind) (hY.keep _ _ _ hJr hbz) (RdI.of_own hown2) (by rw [HREST.out]; exact subT_room p rest HD.out hx1 hlt2)).mono ?_
     rintro e' wf ⟨rfl, hJf, hkf⟩
     have hkw := (Keep.of_below (B := B) (T := T) hbz).trans hkf
     refine hK.out _ _ ((hkw.blk hVr.s (Or.inr hY.tFn)).cell 0) (fun hHeld => ?_)
     clear hK K
     (try simp only [Act.put, List.setIfInBounds_toArray, List.set_cons_zero, List.set_cons_succ])
     refine wpAnyH_take (i := 7) (oi := ⟨some 38, .unOp .not 4 (.tmp 37), 4, "guess.go:132", #[⟨6, .data⟩], none⟩) (v := ?_) rfl (by kernel_rfl) (by kernel_rfl) (by kernel_rfl) (fun _ _ _ h => h) (Or.inl ⟨by rfl, fun W hSw => ?_⟩) hHeld ?_
     rotate_left
     ·(try dsimp only at hSw); go_simp; (try with_reducible rfl)
     (try simp only [Act.put, List.setIfInBounds_toArray, List.set_cons_zero, List.set_cons_succ])
     refine wpAnyH_done (by kernel_rfl) ?_ _
     refine NoPanic.normal ?_
     go_wp2_with fail
     go_roundw
     case rel => exact ⟨x + 1, by omega, by omega, rfl, by rw [subT_succ p rest hx1]; rw [HREST.out, List.append_assoc] at hJf; exact hJf, hkr.trans hkw, hkw.blk hXr (Or.inr hY.tSpan)⟩
     case measure => simp [intOf]; omega
    ·rw [if_pos (by rfl)]
     refine wp_build_teeth rfl rfl ?_
     intro g wz hgz hG hb1 _
     replace hbz := fr_call hbz hb1
     (try replace hown := hown.keep hb1)
     refine hK.out _ _ ((hbz.cell (p := ⟨bs, 0, none⟩) hbs).trans hcs) (fun hHeld => ?_)
     clear hK K
     (try simp only [Act.put, List.setIfInBounds_toArray, List.set_cons_zero, List.set_cons_succ])
     refine wpAnyH_ready (rs := [2]) (by kernel_rfl) (by simp) ?_
     refine (AllReadyH.cons (o := ⟨some 33, .call { callee := .value (.func 129), args := #[.tmp 32], argTypes := #[96] }, 96, "guess.go:132", #[⟨1, .data⟩], none⟩) rfl (fun K hK => ?_) AllReadyH.nil)
     rw [if_pos (by rfl)]
     go_simp
     refine (clone_any C n cc p wz (hrp.below hbz).1 hC (by omega)).mono ?_
     rintro e' wz ⟨A1, c1, rfl, hown, hb1⟩
     rw [HP.out] at hown ⊢
     replace hown := own_mono hown hbz.size
     replace hbz := fr_call hbz hb1
     (try replace hG := hG.keep hb1)
     refine hK.out _ _ ((hbz.cell (p := ⟨bs, 0, none⟩) hbs).trans hcs) (fun hHeld => ?_)
     clear hK K
     (try simp only [Act.put, List.setIfInBounds_toArray, List.set_cons_zero, List.set_cons_succ])
     refine wpAnyH_ready (rs := [5]) (by kernel_rfl) (by simp) ?_
     refine (AllReadyH.cons (o := ⟨some 36, .call { callee := .builtin .append, args := #[.tmp 33, .tmp 35], argTypes := #[96, 96] }, 96, "guess.go:132", #[⟨2, .data⟩, ⟨4, .data⟩, ⟨2, .chain⟩], none⟩) rfl (fun K hK => ?_) AllReadyH.nil)
     rw [if_pos (by rfl)]
     refine wp_app_teeth (.tmp 33) (.tmp 35) rfl wr.heap.size _ p rfl hown g x rfl hG (by have := HP.out; omega) hbz.size ?_
     intro A2 c2 wz hown2 hgr
     rw [HP.out] at hown2 ⊢
     replace hbz := hbz.grown hgr hbz.size (own_ge hown)
     refine hK.out _ _ ((hbz.cell (p := ⟨bs, 0, none⟩) hbs).trans hcs) (fun hHeld => ?_)
     clear hK K
     (try simp only [Act.put, List.setIfInBounds_toArray, List.set_cons_zero, List.set_cons_succ])
     refine wpAnyH_ready (rs := [6]) (by kernel_rfl) (by simp) ?_
     refine (AllReadyH.cons (o := ⟨some 37, .call { callee := .value (.tmp 31), args := #[.tmp 36], argTypes := #[96] }, 4, "guess.go:132", #[⟨0, .data⟩, ⟨5, .data⟩, ⟨5, .chain⟩], none⟩) rfl (fun K hK => ?_) AllReadyH.nil)
     rw [if_pos (by rfl)]
     go_simp
     refine (ih (p ++ [x]) (n + 1) (d ++ subT p lo rest x) A2 c2 wz (by rw [List.length_append, HP.out]; rfl) (by omega) (Or.inl (by omega)) (by rw [List.length_append, HP.out]; exact HFS.out x hx1 hlt2) (hVr.keep (Keep.of_below hbz) hY.tFn hY.tFind) (hY.keep _ _ _ hJr hbz) (RdI.of_own hown2) (by rw [HREST.out]; exact subT_room p rest HD.out hx1 hlt2)).mono ?_
     rintro e' wf ⟨rfl, hJf, hkf⟩
     have hkw := (Keep.of_below (B := B) (T := T) hbz).trans hkf
     refine hK.out _ _ ((hkw.blk hVr.s (Or.inr hY.tFn)).cell 0) (fun hHeld => ?_)
     clear hK K
     (try simp only [Act.put, List.setIfInBounds_toArray, List.set_cons_zero, List.set_cons_succ])
     refine wpAnyH_take (i := 7) (oi := ⟨some 38, .unOp .not 4 (.tmp 37), 4, "guess.go:132", #[⟨6, .data⟩], none⟩) (v := ?_) rfl (by kernel_rfl) (by kernel_rfl) (by kernel_rfl) (fun _ _ _ h => h) (Or.inl ⟨by rfl, fun W hSw => ?_⟩) hHeld ?_
     rotate_left
     ·(try dsimp only at hSw); go_simp; (try with_reducible rfl)
     (try simp only [Act.put, List.setIfInBounds_toArray, List.set_cons_zero, List.set_cons_succ])
     refine wpAnyH_done (by kernel_rfl) ?_ _
     refine NoPanic.normal ?_
     go_wp2_with fail
     go_roundw
     case rel => exact ⟨x + 1, by omega, by omega, rfl, by rw [subT_succ p rest hx1]; rw [HREST.out, List.append_assoc] at hJf; exact hJf, hkr.trans hkw, hkw.blk hXr (Or.inr hY.tSpan)⟩
     case measure => simp [intOf]; omega
   ·obtain rfl : x = hi + 1 := by omega
    go_wp2_with fail
    go_ret
    exact ⟨rfl, hJr, hkr⟩
end Go.Proofs.YtfgghicdkcjdgaaGreatDoor
end
