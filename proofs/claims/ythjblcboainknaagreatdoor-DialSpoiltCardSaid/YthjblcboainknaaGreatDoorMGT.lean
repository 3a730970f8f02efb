/- The law of printing: DialPrints, walked (by laws_p.py). -/
import Derived.Test.YthjblcboainknaaGreatDoorMU4
import Derived.Test.YthjblcboainknaaGreatDoorMT4
import Derived.Test.YthjblcboainknaaGreatDoorMEC
import Derived.Test.YthjblcboainknaaGreatDoorMU3
import Derived.Test.YthjblcboainknaaGreatDoorMU1
import Derived.Test.YthjblcboainknaaGreatDoorMD1
import Derived.Test.YthjblcboainknaaGreatDoorMD4
import Derived.Test.YthjblcboainknaaGreatDoorMCS
import Derived.Test.YthjblcboainknaaGreatDoorME1
namespace Go.Proofs.YthjblcboainknaaGreatDoor
open Go.RowKit Dl
theorem Read_valid {tx : List UInt8} {e num den add : Int} {cs : List Int} {l : List Fact} (hvl : tx.length ≤ 300) (hvr : Hid (dread tx = some ⟨e, cs, num, den, add, l⟩)) (hok : calOk e cs = true) (hm : moonB num den add = true) (hfa : factsB l = true) (w : World) (hT : TabP w) (hM : MaxP w) :
  Calls Tryz.prog 13 #[.string ⟨tx.toArray⟩] w fun e' w' => ∃ (A' : Option Addr) (c' : Nat) (L' : Option Addr) (lc' : Nat), e' = .returned (.tuple #[.agg #[.int .i64 e, .slice A' cs.length c'], .agg #[.int .i64 num, .int .i64 den, .int .i64 add], .slice L' l.length lc', .int .i64 0]) ∧ Rd w' A' cs.length cs ∧ RdS w' L' 4 (l.map Fact.row) ∧ Below w.heap.size w w' := by
 have hvr := hvr.out
 refine (Read_any tx w (by omega) hM hT).mono ?_
 rintro e' w' ⟨hb, hp⟩
 rcases hp with ⟨h4, _⟩ | ⟨h4, hdr, _⟩ | ⟨h4, a, hdr, hal, _⟩ | ⟨h4, a, A, c, L, lc, hdr, hal, rfl, hrA, hrL⟩
 ·omega
 ·rw [hvr] at hdr; cases hdr
 ·rw [hvr] at hdr; cases hdr; simp [almB, hok, hm, hfa] at hal
 ·rw [hvr] at hdr; cases hdr; exact ⟨A, c, L, lc, rfl, hrA, hrL, hb⟩
theorem Read_spoilt {tx : List UInt8} (hvl : tx.length ≤ 300) (hvr : dread tx = none) (w : World) (hT : TabP w) (hM : MaxP w) :
  Calls Tryz.prog 13 #[.string ⟨tx.toArray⟩] w fun e' w' => e' = readE 4 ∧ Below w.heap.size w w' := by
 refine (Read_any tx w (by omega) hM hT).mono ?_
 rintro e' w' ⟨hb, hp⟩
 rcases hp with ⟨h4, _⟩ | ⟨h4, hdr, rfl⟩ | ⟨h4, a, hdr, hal, _⟩ | ⟨h4, a, A, c, L, lc, hdr, hal, rfl, hrA, hrL⟩
 ·omega
 ·exact ⟨rfl, hb⟩
 ·rw [hvr] at hdr; cases hdr
 ·rw [hvr] at hdr; cases hdr
theorem valid_xc {e : Int} {cs : List Int} (h : calOk e cs = true) : ∀ x ∈ e :: cs, 0 ≤ x ∧ x ≤ 1000000 := fun x hx => by
 obtain ⟨h1, _, h3⟩ := cal_parts h
 rcases List.mem_cons.1 hx with rfl | hx
 ·omega
 ·have := h3 x hx; omega
theorem valid_xm {num den add : Int} (h : moonB num den add = true) : ∀ x ∈ [num, den, add], 0 ≤ x ∧ x ≤ 1000000 := fun x hx => by
 have := moon_parts h
 simp only [List.mem_cons, List.not_mem_nil, or_false] at hx
 rcases hx with rfl | rfl | rfl <;> omega
theorem valid_k {l : List Fact} (h : factsB l = true) : ∀ f ∈ l, 1 ≤ f.k ∧ f.k ≤ 5 := fun f hf => (fact_ok_small ((facts_parts h).2 f hf).1).1
theorem valid_sm {l : List Fact} (h : factsB l = true) : ∀ f ∈ l, (0 ≤ f.m ∧ f.m ≤ 1000000) ∧ (0 ≤ f.d ∧ f.d ≤ 1000000) ∧ (0 ≤ f.v ∧ f.v ≤ 1000000) := fun f hf => (fact_ok_small ((facts_parts h).2 f hf).1).2
set_option maxRecDepth 100000 in
set_option maxHeartbeats 16000000 in
theorem prints_ok (A L : Option Addr) (n c lc : Nat) (cs : List Int) (e num den add : Int) (l : List Fact) (w : World) (hr : Rd w A n cs) (hn : n ≤ 9223372036854775807) (hL : RdS w L 4 (l.map Fact.row)) (hln : l.length ≤ 9223372036854775807) (hT : TabP w) (hM : MaxP w) (hs : decide ((n : Int) ≤ 5) = true) (hso : decide ((l.length : Int) ≤ 8) = true) (hok : calOk e cs = true) (hm : moonB num den add = true) (hfa : factsB l = true) :
  Calls Tryz.prog 3 #[.agg #[.int .i64 e, .slice A n c], .agg #[.int .i64 num, .int .i64 den, .int .i64 add], .slice L l.length lc] w fun e' w' => e' = .returned (.bool true) ∧ Below w.heap.size w w' := by
 obtain ⟨tx, htx⟩ : ∃ tx, almText e cs num den add l = tx := ⟨_, rfl⟩
 have hvl := valid_len hok hm hfa
 have hvr := valid_read hok hm hfa
 rw [htx] at hvl hvr
 have HTX := Lib.hid htx
 clear htx
 have HVR := Lib.hid hvr
 clear hvr
 have hn5 : n ≤ 500 := by have := of_decide_eq_true hs; omega
 have hl5 : l.length ≤ 500 := by have := of_decide_eq_true hso; omega
 have hf := fr_alloc (fr_alloc (fr_refl w) (.cells #[.int .i64 e, .slice A n c] 24)) (.cells #[.int .i64 num, .int .i64 den, .int .i64 add] 26)
 have hX : Blk ((w.alloc (.cells #[.int .i64 e, .slice A n c] 24)).alloc (.cells #[.int .i64 num, .int .i64 den, .int .i64 add] 26)) w.heap.size 24 #[.int .i64 e, .slice A n c] := (Blk.new w _ _).alloc _
 have hY : Blk ((w.alloc (.cells #[.int .i64 e, .slice A n c] 24)).alloc (.cells #[.int .i64 num, .int .i64 den, .int .i64 add] 26)) (w.heap.size + 1) 26 #[.int .i64 num, .int .i64 den, .int .i64 add] := Blk.new_at _ _ (by simp)
 replace hr := hr.keep hf
 replace hL := hL.keep hf
 replace hT := hT.keep hf
 replace hM := hM.keep hf
 have hcX := fun j => hX.cell j
 have hlX := hX.lt
 have hcY := fun j => hY.cell j
 have hlY := hY.lt
 go_enter Tryz.func3, Tryz.ntmps3
 go_wp2_with fail
 refine (lshort_is A n c _ _ true hs).mono ?_
 rintro e' w1 ⟨rfl, hb⟩
 replace hr := hr.keep hb
 replace hL := hL.keep hb
 replace hT := hT.keep hb
 replace hM := hM.keep hb
 replace hX := hX.keep hb
 replace hcX := fun j => hX.cell j
 replace hlX := hX.lt
 replace hY := hY.keep hb
 replace hcY := fun j => hY.cell j
 replace hlY := hY.lt
 replace hf := fr_call hf hb
 clear hb
 go_wp2_with fail
 refine (lsome_is L l.length lc _ true hso).mono ?_
 rintro e' w2 ⟨rfl, rfl⟩
 go_wp2_with fail
 refine (Print_ok A L n c lc cs e num den add l _ hr hn hL hln hok hm hfa hT).mono ?_
 rw [HTX.out]
 rintro e' w3 ⟨rfl, hb⟩
 replace hr := hr.keep hb
 replace hL := hL.keep hb
 replace hT := hT.keep hb
 replace hM := hM.keep hb
 replace hX := hX.keep hb
 replace hcX := fun j => hX.cell j
 replace hlX := hX.lt
 replace hY := hY.keep hb
 replace hcY := fun j => hY.cell j
 replace hlY := hY.lt
 replace hf := fr_call hf hb
 clear hb
 go_wp2_with fail
 refine (rCalendar_is A n c cs e _ hr hn _ hok).mono ?_
 rintro e' w4 ⟨rfl, hb⟩
 replace hr := hr.keep hb
 replace hL := hL.keep hb
 replace hT := hT.keep hb
 replace hM := hM.keep hb
 replace hX := hX.keep hb
 replace hcX := fun j => hX.cell j
 replace hlX := hX.lt
 replace hY := hY.keep hb
 replace hcY := fun j => hY.cell j
 replace hlY := hY.lt
 replace hf := fr_call hf hb
 clear hb
 go_wp2_with fail
 refine (rMoon_is _ _ _ _ _ hm).mono ?_
 rintro e' w5 ⟨rfl, hb⟩
 replace hr := hr.keep hb
 replace hL := hL.keep hb
 replace hT := hT.keep hb
 replace hM := hM.keep hb
 replace hX := hX.keep hb
 replace hcX := fun j => hX.cell j
 replace hlX := hX.lt
 replace hY := hY.keep hb
 replace hcY := fun j => hY.cell j
 replace hlY := hY.lt
 replace hf := fr_call hf hb
 clear hb
 go_wp2_with fail
 refine (rFacts_is L lc l _ hL hln _ hfa).mono ?_
 rintro e' w6 ⟨rfl, hb⟩
 replace hr := hr.keep hb
 replace hL := hL.keep hb
 replace hT := hT.keep hb
 replace hM := hM.keep hb
 replace hX := hX.keep hb
 replace hcX := fun j => hX.cell j
 replace hlX := hX.lt
 replace hY := hY.keep hb
 replace hcY := fun j => hY.cell j
 replace hlY := hY.lt
 replace hf := fr_call hf hb
 clear hb
 go_wp2_with fail
 refine (Read_valid hvl HVR hok hm hfa _ hT hM).mono ?_
 rintro e' w7 ⟨A', c', L', lc', rfl, hrA', hrL', hb⟩
 replace hr := hr.keep hb
 replace hL := hL.keep hb
 replace hT := hT.keep hb
 replace hM := hM.keep hb
 replace hX := hX.keep hb
 replace hcX := fun j => hX.cell j
 replace hlX := hX.lt
 replace hY := hY.keep hb
 replace hcY := fun j => hY.cell j
 replace hlY := hY.lt
 replace hf := fr_call hf hb
 clear hb
 have hN1 : Blk ((w7.alloc (.cells #[.int .i64 0, .slice none 0 0] 24)).alloc (.cells #[.int .i64 0, .int .i64 0, .int .i64 0] 26)) w7.heap.size 24 #[.int .i64 0, .slice none 0 0] := (Blk.new w7 _ _).alloc _
 have hN2 : Blk ((w7.alloc (.cells #[.int .i64 0, .slice none 0 0] 24)).alloc (.cells #[.int .i64 0, .int .i64 0, .int .i64 0] 26)) (w7.heap.size + 1) 26 #[.int .i64 0, .int .i64 0, .int .i64 0] := Blk.new_at _ _ (by simp)
 have hg2 := fr_alloc (fr_alloc (fr_refl w7) (.cells #[.int .i64 0, .slice none 0 0] 24)) (.cells #[.int .i64 0, .int .i64 0, .int .i64 0] 26)
 go_wp2_with (first | (refine wpList_store_blk rfl _ _ _ rfl w7.heap.size 24 _ _ rfl rfl hN1 rfl (by kernel_rfl) (by simp [Value.oneCell']) ?_; intro Wa hCa hga; have hMa := hN2.grown hga (by simp)) | (refine wpList_store_blk rfl _ _ _ rfl (w7.heap.size + 1) 26 _ _ rfl rfl hMa rfl (by kernel_rfl) (by simp [Value.oneCell']) ?_; intro w8 hM9 hgb; have hC9 := hCa.grown hgb (by simp); have hb12 : Below w7.heap.size w7 w8 := (hg2.grown hga hg2.size (by intro k hk; cases hk; omega)).grown hgb (hg2.grown hga hg2.size (by intro k hk; cases hk; omega)).size (by intro k hk; cases hk; omega); replace hr := hr.keep hb12; replace hL := hL.keep hb12; replace hT := hT.keep hb12; replace hM := hM.keep hb12; replace hrA' := hrA'.keep hb12; replace hrL' := hrL'.keep hb12; replace hX := hX.keep hb12; replace hcX := fun j => hX.cell j; replace hlX := hX.lt; replace hY := hY.keep hb12; replace hcY := fun j => hY.cell j; replace hlY := hY.lt; replace hf := fr_call hf hb12; have hcC9 := fun j => hC9.cell j; have hlC9 := hC9.lt; have hcM9 := fun j => hM9.cell j; have hlM9 := hM9.lt; clear hb12 hN1 hN2 hg2 hga hgb hCa hMa))
 refine (rPrint_gen A L n c lc cs e num den add l _ hr hn5 (valid_xc hok) (valid_xm hm) hL hl5 (valid_k hfa) (valid_sm hfa)).mono ?_
 rw [show textB (almRows e cs num den add l) = tx from HTX.out]
 rintro e' w9 ⟨rfl, hb⟩
 replace hr := hr.keep hb
 replace hL := hL.keep hb
 replace hT := hT.keep hb
 replace hM := hM.keep hb
 replace hrA' := hrA'.keep hb
 replace hrL' := hrL'.keep hb
 replace hX := hX.keep hb
 replace hcX := fun j => hX.cell j
 replace hlX := hX.lt
 replace hY := hY.keep hb
 replace hcY := fun j => hY.cell j
 replace hlY := hY.lt
 replace hC9 := hC9.keep hb
 replace hcC9 := fun j => hC9.cell j
 replace hlC9 := hC9.lt
 replace hM9 := hM9.keep hb
 replace hcM9 := fun j => hM9.cell j
 replace hlM9 := hM9.lt
 replace hf := fr_call hf hb
 clear hb
 go_wp2_with fail
 refine (rSameCalendar_is A' A cs.length c' n c cs cs e e _ hrA' hr (by rw [hr.len]; exact hn) hn true (by simp)).mono ?_
 rintro e' w10 ⟨rfl, hb⟩
 replace hr := hr.keep hb
 replace hL := hL.keep hb
 replace hT := hT.keep hb
 replace hM := hM.keep hb
 replace hrA' := hrA'.keep hb
 replace hrL' := hrL'.keep hb
 replace hX := hX.keep hb
 replace hcX := fun j => hX.cell j
 replace hlX := hX.lt
 replace hY := hY.keep hb
 replace hcY := fun j => hY.cell j
 replace hlY := hY.lt
 replace hC9 := hC9.keep hb
 replace hcC9 := fun j => hC9.cell j
 replace hlC9 := hC9.lt
 replace hM9 := hM9.keep hb
 replace hcM9 := fun j => hM9.cell j
 replace hlM9 := hM9.lt
 replace hf := fr_call hf hb
 clear hb
 go_wp2_with fail
 refine (rSameFacts_same L' L l.length lc' lc l _ hrL' hL rfl (by omega)).mono ?_
 rintro e' w11 ⟨rfl, hb⟩
 replace hr := hr.keep hb
 replace hL := hL.keep hb
 replace hT := hT.keep hb
 replace hM := hM.keep hb
 replace hrA' := hrA'.keep hb
 replace hrL' := hrL'.keep hb
 replace hX := hX.keep hb
 replace hcX := fun j => hX.cell j
 replace hlX := hX.lt
 replace hY := hY.keep hb
 replace hcY := fun j => hY.cell j
 replace hlY := hY.lt
 replace hC9 := hC9.keep hb
 replace hcC9 := fun j => hC9.cell j
 replace hlC9 := hC9.lt
 replace hM9 := hM9.keep hb
 replace hcM9 := fun j => hM9.cell j
 replace hlM9 := hM9.lt
 replace hf := fr_call hf hb
 clear hb
 go_wp2_with fail
 refine (known_is _ hT).mono ?_
 rintro e' w12 ⟨rfl, hb⟩
 replace hr := hr.keep hb
 replace hL := hL.keep hb
 replace hT := hT.keep hb
 replace hM := hM.keep hb
 replace hrA' := hrA'.keep hb
 replace hrL' := hrL'.keep hb
 replace hX := hX.keep hb
 replace hcX := fun j => hX.cell j
 replace hlX := hX.lt
 replace hY := hY.keep hb
 replace hcY := fun j => hY.cell j
 replace hlY := hY.lt
 replace hC9 := hC9.keep hb
 replace hcC9 := fun j => hC9.cell j
 replace hlC9 := hC9.lt
 replace hM9 := hM9.keep hb
 replace hcM9 := fun j => hM9.cell j
 replace hlM9 := hM9.lt
 replace hf := fr_call hf hb
 clear hb
 go_wp2_with fail
 go_ret
 exact ⟨rfl, hf⟩
set_option maxRecDepth 100000 in
set_option maxHeartbeats 16000000 in
theorem prints_true (A L : Option Addr) (n c lc : Nat) (cs : List Int) (e num den add : Int) (l : List Fact) (w : World) (hr : Rd w A n cs) (hn : n ≤ 9223372036854775807) (hL : RdS w L 4 (l.map Fact.row)) (hln : l.length ≤ 9223372036854775807) (hT : TabP w) (hM : MaxP w) :
  Calls Tryz.prog 3 #[.agg #[.int .i64 e, .slice A n c], .agg #[.int .i64 num, .int .i64 den, .int .i64 add], .slice L l.length lc] w fun e' w' => e' = .returned (.bool true) ∧ Below w.heap.size w w' := by
 cases hs : decide ((n : Int) ≤ 5)
 ·have hf := fr_alloc (fr_alloc (fr_refl w) (.cells #[.int .i64 e, .slice A n c] 24)) (.cells #[.int .i64 num, .int .i64 den, .int .i64 add] 26)
  have hX : Blk ((w.alloc (.cells #[.int .i64 e, .slice A n c] 24)).alloc (.cells #[.int .i64 num, .int .i64 den, .int .i64 add] 26)) w.heap.size 24 #[.int .i64 e, .slice A n c] := (Blk.new w _ _).alloc _
  have hY : Blk ((w.alloc (.cells #[.int .i64 e, .slice A n c] 24)).alloc (.cells #[.int .i64 num, .int .i64 den, .int .i64 add] 26)) (w.heap.size + 1) 26 #[.int .i64 num, .int .i64 den, .int .i64 add] := Blk.new_at _ _ (by simp)
  replace hr := hr.keep hf
  replace hL := hL.keep hf
  replace hT := hT.keep hf
  replace hM := hM.keep hf
  have hcX := fun j => hX.cell j
  have hlX := hX.lt
  have hcY := fun j => hY.cell j
  have hlY := hY.lt
  go_enter Tryz.func3, Tryz.ntmps3
  go_wp2_with fail
  refine (lshort_is A n c _ _ false hs).mono ?_
  rintro e' w1 ⟨rfl, hb⟩
  replace hr := hr.keep hb
  replace hL := hL.keep hb
  replace hT := hT.keep hb
  replace hM := hM.keep hb
  replace hX := hX.keep hb
  replace hcX := fun j => hX.cell j
  replace hlX := hX.lt
  replace hY := hY.keep hb
  replace hcY := fun j => hY.cell j
  replace hlY := hY.lt
  replace hf := fr_call hf hb
  clear hb
  go_wp2_with fail
  refine (known_is _ hT).mono ?_
  rintro e' w2 ⟨rfl, hb⟩
  replace hr := hr.keep hb
  replace hL := hL.keep hb
  replace hT := hT.keep hb
  replace hM := hM.keep hb
  replace hX := hX.keep hb
  replace hcX := fun j => hX.cell j
  replace hlX := hX.lt
  replace hY := hY.keep hb
  replace hcY := fun j => hY.cell j
  replace hlY := hY.lt
  replace hf := fr_call hf hb
  clear hb
  go_wp2_with fail
  go_ret
  exact ⟨rfl, hf⟩
 ·cases hso : decide ((l.length : Int) ≤ 8)
  ·have hf := fr_alloc (fr_alloc (fr_refl w) (.cells #[.int .i64 e, .slice A n c] 24)) (.cells #[.int .i64 num, .int .i64 den, .int .i64 add] 26)
   have hX : Blk ((w.alloc (.cells #[.int .i64 e, .slice A n c] 24)).alloc (.cells #[.int .i64 num, .int .i64 den, .int .i64 add] 26)) w.heap.size 24 #[.int .i64 e, .slice A n c] := (Blk.new w _ _).alloc _
   have hY : Blk ((w.alloc (.cells #[.int .i64 e, .slice A n c] 24)).alloc (.cells #[.int .i64 num, .int .i64 den, .int .i64 add] 26)) (w.heap.size + 1) 26 #[.int .i64 num, .int .i64 den, .int .i64 add] := Blk.new_at _ _ (by simp)
   replace hr := hr.keep hf
   replace hL := hL.keep hf
   replace hT := hT.keep hf
   replace hM := hM.keep hf
   have hcX := fun j => hX.cell j
   have hlX := hX.lt
   have hcY := fun j => hY.cell j
   have hlY := hY.lt
   go_enter Tryz.func3, Tryz.ntmps3
   go_wp2_with fail
   refine (lshort_is A n c _ _ true hs).mono ?_
   rintro e' w1 ⟨rfl, hb⟩
   replace hr := hr.keep hb
   replace hL := hL.keep hb
   replace hT := hT.keep hb
   replace hM := hM.keep hb
   replace hX := hX.keep hb
   replace hcX := fun j => hX.cell j
   replace hlX := hX.lt
   replace hY := hY.keep hb
   replace hcY := fun j => hY.cell j
   replace hlY := hY.lt
   replace hf := fr_call hf hb
   clear hb
   go_wp2_with fail
   refine (lsome_is L l.length lc _ false hso).mono ?_
   rintro e' w2 ⟨rfl, rfl⟩
   go_wp2_with fail
   refine (known_is _ hT).mono ?_
   rintro e' w3 ⟨rfl, hb⟩
   replace hr := hr.keep hb
   replace hL := hL.keep hb
   replace hT := hT.keep hb
   replace hM := hM.keep hb
   replace hX := hX.keep hb
   replace hcX := fun j => hX.cell j
   replace hlX := hX.lt
   replace hY := hY.keep hb
   replace hcY := fun j => hY.cell j
   replace hlY := hY.lt
   replace hf := fr_call hf hb
   clear hb
   go_wp2_with fail
   go_ret
   exact ⟨rfl, hf⟩
  ·cases hok : calOk e cs
   ·have hf := fr_alloc (fr_alloc (fr_refl w) (.cells #[.int .i64 e, .slice A n c] 24)) (.cells #[.int .i64 num, .int .i64 den, .int .i64 add] 26)
    have hX : Blk ((w.alloc (.cells #[.int .i64 e, .slice A n c] 24)).alloc (.cells #[.int .i64 num, .int .i64 den, .int .i64 add] 26)) w.heap.size 24 #[.int .i64 e, .slice A n c] := (Blk.new w _ _).alloc _
    have hY : Blk ((w.alloc (.cells #[.int .i64 e, .slice A n c] 24)).alloc (.cells #[.int .i64 num, .int .i64 den, .int .i64 add] 26)) (w.heap.size + 1) 26 #[.int .i64 num, .int .i64 den, .int .i64 add] := Blk.new_at _ _ (by simp)
    replace hr := hr.keep hf
    replace hL := hL.keep hf
    replace hT := hT.keep hf
    replace hM := hM.keep hf
    have hcX := fun j => hX.cell j
    have hlX := hX.lt
    have hcY := fun j => hY.cell j
    have hlY := hY.lt
    go_enter Tryz.func3, Tryz.ntmps3
    go_wp2_with fail
    refine (lshort_is A n c _ _ true hs).mono ?_
    rintro e' w1 ⟨rfl, hb⟩
    replace hr := hr.keep hb
    replace hL := hL.keep hb
    replace hT := hT.keep hb
    replace hM := hM.keep hb
    replace hX := hX.keep hb
    replace hcX := fun j => hX.cell j
    replace hlX := hX.lt
    replace hY := hY.keep hb
    replace hcY := fun j => hY.cell j
    replace hlY := hY.lt
    replace hf := fr_call hf hb
    clear hb
    go_wp2_with fail
    refine (lsome_is L l.length lc _ true hso).mono ?_
    rintro e' w2 ⟨rfl, rfl⟩
    go_wp2_with fail
    refine (Print_bad A L n c lc cs e num den add l _ hr hn hL hln (Or.inl hok)).mono ?_
    rintro e' w3 ⟨rfl, hb⟩
    replace hr := hr.keep hb
    replace hL := hL.keep hb
    replace hT := hT.keep hb
    replace hM := hM.keep hb
    replace hX := hX.keep hb
    replace hcX := fun j => hX.cell j
    replace hlX := hX.lt
    replace hY := hY.keep hb
    replace hcY := fun j => hY.cell j
    replace hlY := hY.lt
    replace hf := fr_call hf hb
    clear hb
    go_wp2_with fail
    refine (rCalendar_is A n c cs e _ hr hn _ hok).mono ?_
    rintro e' w4 ⟨rfl, hb⟩
    replace hr := hr.keep hb
    replace hL := hL.keep hb
    replace hT := hT.keep hb
    replace hM := hM.keep hb
    replace hX := hX.keep hb
    replace hcX := fun j => hX.cell j
    replace hlX := hX.lt
    replace hY := hY.keep hb
    replace hcY := fun j => hY.cell j
    replace hlY := hY.lt
    replace hf := fr_call hf hb
    clear hb
    go_wp2_with fail
    refine (known_is _ hT).mono ?_
    rintro e' w5 ⟨rfl, hb⟩
    replace hr := hr.keep hb
    replace hL := hL.keep hb
    replace hT := hT.keep hb
    replace hM := hM.keep hb
    replace hX := hX.keep hb
    replace hcX := fun j => hX.cell j
    replace hlX := hX.lt
    replace hY := hY.keep hb
    replace hcY := fun j => hY.cell j
    replace hlY := hY.lt
    replace hf := fr_call hf hb
    clear hb
    go_wp2_with fail
    go_ret
    exact ⟨rfl, hf⟩
   ·cases hm : moonB num den add
    ·have hf := fr_alloc (fr_alloc (fr_refl w) (.cells #[.int .i64 e, .slice A n c] 24)) (.cells #[.int .i64 num, .int .i64 den, .int .i64 add] 26)
     have hX : Blk ((w.alloc (.cells #[.int .i64 e, .slice A n c] 24)).alloc (.cells #[.int .i64 num, .int .i64 den, .int .i64 add] 26)) w.heap.size 24 #[.int .i64 e, .slice A n c] := (Blk.new w _ _).alloc _
     have hY : Blk ((w.alloc (.cells #[.int .i64 e, .slice A n c] 24)).alloc (.cells #[.int .i64 num, .int .i64 den, .int .i64 add] 26)) (w.heap.size + 1) 26 #[.int .i64 num, .int .i64 den, .int .i64 add] := Blk.new_at _ _ (by simp)
     replace hr := hr.keep hf
     replace hL := hL.keep hf
     replace hT := hT.keep hf
     replace hM := hM.keep hf
     have hcX := fun j => hX.cell j
     have hlX := hX.lt
     have hcY := fun j => hY.cell j
     have hlY := hY.lt
     go_enter Tryz.func3, Tryz.ntmps3
     go_wp2_with fail
     refine (lshort_is A n c _ _ true hs).mono ?_
     rintro e' w1 ⟨rfl, hb⟩
     replace hr := hr.keep hb
     replace hL := hL.keep hb
     replace hT := hT.keep hb
     replace hM := hM.keep hb
     replace hX := hX.keep hb
     replace hcX := fun j => hX.cell j
     replace hlX := hX.lt
     replace hY := hY.keep hb
     replace hcY := fun j => hY.cell j
     replace hlY := hY.lt
     replace hf := fr_call hf hb
     clear hb
     go_wp2_with fail
     refine (lsome_is L l.length lc _ true hso).mono ?_
     rintro e' w2 ⟨rfl, rfl⟩
     go_wp2_with fail
     refine (Print_bad A L n c lc cs e num den add l _ hr hn hL hln (Or.inr (Or.inl hm))).mono ?_
     rintro e' w3 ⟨rfl, hb⟩
     replace hr := hr.keep hb
     replace hL := hL.keep hb
     replace hT := hT.keep hb
     replace hM := hM.keep hb
     replace hX := hX.keep hb
     replace hcX := fun j => hX.cell j
     replace hlX := hX.lt
     replace hY := hY.keep hb
     replace hcY := fun j => hY.cell j
     replace hlY := hY.lt
     replace hf := fr_call hf hb
     clear hb
     go_wp2_with fail
     refine (rCalendar_is A n c cs e _ hr hn _ hok).mono ?_
     rintro e' w4 ⟨rfl, hb⟩
     replace hr := hr.keep hb
     replace hL := hL.keep hb
     replace hT := hT.keep hb
     replace hM := hM.keep hb
     replace hX := hX.keep hb
     replace hcX := fun j => hX.cell j
     replace hlX := hX.lt
     replace hY := hY.keep hb
     replace hcY := fun j => hY.cell j
     replace hlY := hY.lt
     replace hf := fr_call hf hb
     clear hb
     go_wp2_with fail
     refine (rMoon_is _ _ _ _ _ hm).mono ?_
     rintro e' w5 ⟨rfl, hb⟩
     replace hr := hr.keep hb
     replace hL := hL.keep hb
     replace hT := hT.keep hb
     replace hM := hM.keep hb
     replace hX := hX.keep hb
     replace hcX := fun j => hX.cell j
     replace hlX := hX.lt
     replace hY := hY.keep hb
     replace hcY := fun j => hY.cell j
     replace hlY := hY.lt
     replace hf := fr_call hf hb
     clear hb
     go_wp2_with fail
     refine (known_is _ hT).mono ?_
     rintro e' w6 ⟨rfl, hb⟩
     replace hr := hr.keep hb
     replace hL := hL.keep hb
     replace hT := hT.keep hb
     replace hM := hM.keep hb
     replace hX := hX.keep hb
     replace hcX := fun j => hX.cell j
     replace hlX := hX.lt
     replace hY := hY.keep hb
     replace hcY := fun j => hY.cell j
     replace hlY := hY.lt
     replace hf := fr_call hf hb
     clear hb
     go_wp2_with fail
     go_ret
     exact ⟨rfl, hf⟩
    ·cases hfa : factsB l
     ·have hf := fr_alloc (fr_alloc (fr_refl w) (.cells #[.int .i64 e, .slice A n c] 24)) (.cells #[.int .i64 num, .int .i64 den, .int .i64 add] 26)
      have hX : Blk ((w.alloc (.cells #[.int .i64 e, .slice A n c] 24)).alloc (.cells #[.int .i64 num, .int .i64 den, .int .i64 add] 26)) w.heap.size 24 #[.int .i64 e, .slice A n c] := (Blk.new w _ _).alloc _
      have hY : Blk ((w.alloc (.cells #[.int .i64 e, .slice A n c] 24)).alloc (.cells #[.int .i64 num, .int .i64 den, .int .i64 add] 26)) (w.heap.size + 1) 26 #[.int .i64 num, .int .i64 den, .int .i64 add] := Blk.new_at _ _ (by simp)
      replace hr := hr.keep hf
      replace hL := hL.keep hf
      replace hT := hT.keep hf
      replace hM := hM.keep hf
      have hcX := fun j => hX.cell j
      have hlX := hX.lt
      have hcY := fun j => hY.cell j
      have hlY := hY.lt
      go_enter Tryz.func3, Tryz.ntmps3
      go_wp2_with fail
      refine (lshort_is A n c _ _ true hs).mono ?_
      rintro e' w1 ⟨rfl, hb⟩
      replace hr := hr.keep hb
      replace hL := hL.keep hb
      replace hT := hT.keep hb
      replace hM := hM.keep hb
      replace hX := hX.keep hb
      replace hcX := fun j => hX.cell j
      replace hlX := hX.lt
      replace hY := hY.keep hb
      replace hcY := fun j => hY.cell j
      replace hlY := hY.lt
      replace hf := fr_call hf hb
      clear hb
      go_wp2_with fail
      refine (lsome_is L l.length lc _ true hso).mono ?_
      rintro e' w2 ⟨rfl, rfl⟩
      go_wp2_with fail
      refine (Print_bad A L n c lc cs e num den add l _ hr hn hL hln (Or.inr (Or.inr hfa))).mono ?_
      rintro e' w3 ⟨rfl, hb⟩
      replace hr := hr.keep hb
      replace hL := hL.keep hb
      replace hT := hT.keep hb
      replace hM := hM.keep hb
      replace hX := hX.keep hb
      replace hcX := fun j => hX.cell j
      replace hlX := hX.lt
      replace hY := hY.keep hb
      replace hcY := fun j => hY.cell j
      replace hlY := hY.lt
      replace hf := fr_call hf hb
      clear hb
      go_wp2_with fail
      refine (rCalendar_is A n c cs e _ hr hn _ hok).mono ?_
      rintro e' w4 ⟨rfl, hb⟩
      replace hr := hr.keep hb
      replace hL := hL.keep hb
      replace hT := hT.keep hb
      replace hM := hM.keep hb
      replace hX := hX.keep hb
      replace hcX := fun j => hX.cell j
      replace hlX := hX.lt
      replace hY := hY.keep hb
      replace hcY := fun j => hY.cell j
      replace hlY := hY.lt
      replace hf := fr_call hf hb
      clear hb
      go_wp2_with fail
      refine (rMoon_is _ _ _ _ _ hm).mono ?_
      rintro e' w5 ⟨rfl, hb⟩
      replace hr := hr.keep hb
      replace hL := hL.keep hb
      replace hT := hT.keep hb
      replace hM := hM.keep hb
      replace hX := hX.keep hb
      replace hcX := fun j => hX.cell j
      replace hlX := hX.lt
      replace hY := hY.keep hb
      replace hcY := fun j => hY.cell j
      replace hlY := hY.lt
      replace hf := fr_call hf hb
      clear hb
      go_wp2_with fail
      refine (rFacts_is L lc l _ hL hln _ hfa).mono ?_
      rintro e' w6 ⟨rfl, hb⟩
      replace hr := hr.keep hb
      replace hL := hL.keep hb
      replace hT := hT.keep hb
      replace hM := hM.keep hb
      replace hX := hX.keep hb
      replace hcX := fun j => hX.cell j
      replace hlX := hX.lt
      replace hY := hY.keep hb
      replace hcY := fun j => hY.cell j
      replace hlY := hY.lt
      replace hf := fr_call hf hb
      clear hb
      go_wp2_with fail
      refine (known_is _ hT).mono ?_
      rintro e' w7 ⟨rfl, hb⟩
      replace hr := hr.keep hb
      replace hL := hL.keep hb
      replace hT := hT.keep hb
      replace hM := hM.keep hb
      replace hX := hX.keep hb
      replace hcX := fun j => hX.cell j
      replace hlX := hX.lt
      replace hY := hY.keep hb
      replace hcY := fun j => hY.cell j
      replace hlY := hY.lt
      replace hf := fr_call hf hb
      clear hb
      go_wp2_with fail
      go_ret
      exact ⟨rfl, hf⟩
     ·exact prints_ok A L n c lc cs e num den add l w hr hn hL hln hT hM hs hso hok hm hfa
end Go.Proofs.YthjblcboainknaaGreatDoor
