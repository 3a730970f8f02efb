/- The laws' own helpers: the chapter's calendars, moon and realms; dates; short lists. The chapter's examples: what the plain functions give there. -/
import Derived.Test.YthjblcboainknaaGreatDoorMB6
import Derived.Test.YthjblcboainknaaGreatDoorMB1
import Derived.Test.YthjblcboainknaaGreatDoorMC6
import Derived.Test.YthjblcboainknaaGreatDoorMCS
import Derived.Test.YthjblcboainknaaGreatDoorMB5
import Derived.Test.YthjblcboainknaaGreatDoorMBG
import Derived.Test.YthjblcboainknaaGreatDoorMB3
import Derived.Test.YthjblcboainknaaGreatDoorMBL
import Derived.Test.YthjblcboainknaaGreatDoorMC2
section
namespace Go.Proofs.YthjblcboainknaaGreatDoor
open Go.RowKit Dl

theorem rd_new_at {w : World} {g : Nat} (t : TypeId) (ys : List Int) (h : w.heap.size = g) : Rd (w.alloc (.cells (ys.map (Value.int .i64)).toArray t)) (some ⟨g, 0, none⟩) ys.length ys := h ▸ Rd.new w t ys

set_option maxHeartbeats 1000000 in
theorem lN_is (w : World) : Calls Tryz.prog 19 #[] w fun e w' => ∃ g, e = .returned (.agg #[.int .i64 2, .slice (some ⟨g, 0, none⟩) 3 3]) ∧ w.heap.size ≤ g ∧ Rd w' (some ⟨g, 0, none⟩) 3 [4, 100, 400] ∧ Below w.heap.size w w' := by
 go_enter Tryz.func19, Tryz.ntmps19
 go_wp2
 refine bodyPost_ret (v := .agg #[.int .i64 2, .slice (some ⟨w.heap.size + 1, 0, none⟩) 3 3]) (by simp [results, Tryz.results19, go_sem]) rfl ⟨w.heap.size + 1, rfl, by omega, ?_, ?_⟩
 ·exact rd_new_at _ [4, 100, 400] (by simp)
 ·exact fr_alloc (fr_alloc (fr_refl _) _) _

set_option maxHeartbeats 1000000 in
theorem lO_is (w : World) : Calls Tryz.prog 28 #[] w fun e w' => ∃ g, e = .returned (.agg #[.int .i64 0, .slice (some ⟨g, 0, none⟩) 1 1]) ∧ w.heap.size ≤ g ∧ Rd w' (some ⟨g, 0, none⟩) 1 [4] ∧ Below w.heap.size w w' := by
 go_enter Tryz.func28, Tryz.ntmps28
 go_wp2
 refine bodyPost_ret (v := .agg #[.int .i64 0, .slice (some ⟨w.heap.size + 1, 0, none⟩) 1 1]) (by simp [results, Tryz.results28, go_sem]) rfl ⟨w.heap.size + 1, rfl, by omega, ?_, ?_⟩
 ·exact rd_new_at _ [4] (by simp)
 ·exact fr_alloc (fr_alloc (fr_refl _) _) _

set_option maxHeartbeats 1000000 in
theorem lM_is (w : World) : Calls Tryz.prog 29 #[] w fun e w' => e = .returned (.agg #[.int .i64 59, .int .i64 2, .int .i64 0]) ∧ Below w.heap.size w w' := by
 go_enter Tryz.func29, Tryz.ntmps29
 go_wp2
 refine bodyPost_ret (v := .agg #[.int .i64 59, .int .i64 2, .int .i64 0]) (by simp [results, Tryz.results29, go_sem]) rfl ⟨rfl, ?_⟩
 exact fr_alloc (fr_refl _) _

set_option maxHeartbeats 1000000 in
theorem ldate_is (d m y : Int) (w : World) : Calls Tryz.prog 20 #[.int .i64 d, .int .i64 m, .int .i64 y] w fun e w' => e = .returned (.agg #[.int .i64 y, .int .i64 m, .int .i64 d]) ∧ Below w.heap.size w w' := by
 go_enter Tryz.func20, Tryz.ntmps20
 go_wp2
 refine bodyPost_ret (v := .agg #[.int .i64 y, .int .i64 m, .int .i64 d]) (by simp [results, Tryz.results20, go_sem]) rfl ⟨rfl, ?_⟩
 exact fr_alloc (fr_refl _) _

set_option maxHeartbeats 1000000 in
theorem lR_is (w : World) : Calls Tryz.prog 22 #[] w fun e w' => ∃ g1 g2, e = .returned (.agg #[.int .i64 0, .slice (some ⟨g1, 0, none⟩) 1 1, .int .i64 2, .slice (some ⟨g2, 0, none⟩) 3 3, .int .i64 578102]) ∧ Rd w' (some ⟨g1, 0, none⟩) 1 [4] ∧ Rd w' (some ⟨g2, 0, none⟩) 3 [4, 100, 400] ∧ Below w.heap.size w w' := by
 have hB := Blk.new w 55 #[.int .i64 0, .slice none 0 0, .int .i64 0, .slice none 0 0, .int .i64 0]
 have g0 := fr_alloc (fr_refl w) (.cells #[.int .i64 0, .slice none 0 0, .int .i64 0, .slice none 0 0, .int .i64 0] 55)
 go_enter Tryz.func22, Tryz.ntmps22
 go_wp2_with fail
 refine (lO_is _).mono ?_
 rintro e w1 ⟨g1, rfl, hg1, hr1, hb1⟩
 have hs1 := hb1.size
 simp only [World.size_alloc] at hg1 hs1
 go_wp2_with fail
 refine (lN_is _).mono ?_
 rintro e w2 ⟨g2, rfl, hg2, hr2, hb2⟩
 have hB2 := (hB.keep hb1).keep hb2
 have hBc := fun j => hB2.cell j
 have hBf := fun j => hB2.frozen j
 have hBl := hB2.lt
 go_wp2_with (refine wpList_store_blk rfl 55 _ _ rfl w.heap.size 55 _ #[.int .i64 0, .slice (some ⟨g1, 0, none⟩) 1 1, .int .i64 2, .slice (some ⟨g2, 0, none⟩) 3 3, .int .i64 578102] rfl rfl hB2 rfl (by kernel_rfl) (by simp [Value.oneCell']) ?_; intro W hBW hgW)
 have hBc2 := fun j => hBW.cell j
 clear hBc hBf
 have hfin := fr_call (fr_call g0 hb1) hb2
 refine bodyPost_ret (v := .agg #[.int .i64 0, .slice (some ⟨g1, 0, none⟩) 1 1, .int .i64 2, .slice (some ⟨g2, 0, none⟩) 3 3, .int .i64 578102]) (by simp [results, Tryz.results22, go_sem, hBc2]) rfl ⟨g1, g2, rfl, ?_, ?_, ?_⟩
 ·exact (hr1.keep hb2).far hgW (by rintro ad ⟨⟩; simp; omega)
 ·exact hr2.far hgW (by rintro ad ⟨⟩; simp; omega)
 ·exact hfin.grown hgW hfin.size (by intro k hk; cases hk; exact Nat.le_refl _)

set_option maxHeartbeats 1000000 in
theorem lS_is (w : World) : Calls Tryz.prog 26 #[] w fun e w' => ∃ g1 g2, e = .returned (.agg #[.int .i64 2, .slice (some ⟨g1, 0, none⟩) 3 3, .int .i64 0, .slice (some ⟨g2, 0, none⟩) 1 1, .int .i64 578103]) ∧ Rd w' (some ⟨g1, 0, none⟩) 3 [4, 100, 400] ∧ Rd w' (some ⟨g2, 0, none⟩) 1 [4] ∧ Below w.heap.size w w' := by
 have hB := Blk.new w 55 #[.int .i64 0, .slice none 0 0, .int .i64 0, .slice none 0 0, .int .i64 0]
 have g0 := fr_alloc (fr_refl w) (.cells #[.int .i64 0, .slice none 0 0, .int .i64 0, .slice none 0 0, .int .i64 0] 55)
 go_enter Tryz.func26, Tryz.ntmps26
 go_wp2_with fail
 refine (lN_is _).mono ?_
 rintro e w1 ⟨g1, rfl, hg1, hr1, hb1⟩
 have hs1 := hb1.size
 simp only [World.size_alloc] at hg1 hs1
 go_wp2_with fail
 refine (lO_is _).mono ?_
 rintro e w2 ⟨g2, rfl, hg2, hr2, hb2⟩
 have hB2 := (hB.keep hb1).keep hb2
 have hBc := fun j => hB2.cell j
 have hBf := fun j => hB2.frozen j
 have hBl := hB2.lt
 go_wp2_with (refine wpList_store_blk rfl 55 _ _ rfl w.heap.size 55 _ #[.int .i64 2, .slice (some ⟨g1, 0, none⟩) 3 3, .int .i64 0, .slice (some ⟨g2, 0, none⟩) 1 1, .int .i64 578103] rfl rfl hB2 rfl (by kernel_rfl) (by simp [Value.oneCell']) ?_; intro W hBW hgW)
 have hBc2 := fun j => hBW.cell j
 clear hBc hBf
 have hfin := fr_call (fr_call g0 hb1) hb2
 refine bodyPost_ret (v := .agg #[.int .i64 2, .slice (some ⟨g1, 0, none⟩) 3 3, .int .i64 0, .slice (some ⟨g2, 0, none⟩) 1 1, .int .i64 578103]) (by simp [results, Tryz.results26, go_sem, hBc2]) rfl ⟨g1, g2, rfl, ?_, ?_, ?_⟩
 ·exact (hr1.keep hb2).far hgW (by rintro ad ⟨⟩; simp; omega)
 ·exact hr2.far hgW (by rintro ad ⟨⟩; simp; omega)
 ·exact hfin.grown hgW hfin.size (by intro k hk; cases hk; exact Nat.le_refl _)

set_option maxHeartbeats 1000000 in
theorem lT_is (w : World) : Calls Tryz.prog 31 #[] w fun e w' => ∃ g1 g2, e = .returned (.agg #[.int .i64 0, .slice (some ⟨g1, 0, none⟩) 1 1, .int .i64 0, .slice (some ⟨g2, 0, none⟩) 1 1, .int .i64 0]) ∧ Rd w' (some ⟨g1, 0, none⟩) 1 [4] ∧ Rd w' (some ⟨g2, 0, none⟩) 1 [4] ∧ Below w.heap.size w w' := by
 have hB := Blk.new w 55 #[.int .i64 0, .slice none 0 0, .int .i64 0, .slice none 0 0, .int .i64 0]
 have g0 := fr_alloc (fr_refl w) (.cells #[.int .i64 0, .slice none 0 0, .int .i64 0, .slice none 0 0, .int .i64 0] 55)
 go_enter Tryz.func31, Tryz.ntmps31
 go_wp2_with fail
 refine (lO_is _).mono ?_
 rintro e w1 ⟨g1, rfl, hg1, hr1, hb1⟩
 have hs1 := hb1.size
 simp only [World.size_alloc] at hg1 hs1
 go_wp2_with fail
 refine (lO_is _).mono ?_
 rintro e w2 ⟨g2, rfl, hg2, hr2, hb2⟩
 have hB2 := (hB.keep hb1).keep hb2
 have hBc := fun j => hB2.cell j
 have hBf := fun j => hB2.frozen j
 have hBl := hB2.lt
 go_wp2_with (refine wpList_store_blk rfl 55 _ _ rfl w.heap.size 55 _ #[.int .i64 0, .slice (some ⟨g1, 0, none⟩) 1 1, .int .i64 0, .slice (some ⟨g2, 0, none⟩) 1 1, .int .i64 0] rfl rfl hB2 rfl (by kernel_rfl) (by simp [Value.oneCell']) ?_; intro W hBW hgW)
 have hBc2 := fun j => hBW.cell j
 clear hBc hBf
 have hfin := fr_call (fr_call g0 hb1) hb2
 refine bodyPost_ret (v := .agg #[.int .i64 0, .slice (some ⟨g1, 0, none⟩) 1 1, .int .i64 0, .slice (some ⟨g2, 0, none⟩) 1 1, .int .i64 0]) (by simp [results, Tryz.results31, go_sem, hBc2]) rfl ⟨g1, g2, rfl, ?_, ?_, ?_⟩
 ·exact (hr1.keep hb2).far hgW (by rintro ad ⟨⟩; simp; omega)
 ·exact hr2.far hgW (by rintro ad ⟨⟩; simp; omega)
 ·exact hfin.grown hgW hfin.size (by intro k hk; cases hk; exact Nat.le_refl _)

set_option maxHeartbeats 1000000 in
theorem lshort_is (A : Option Addr) (n c : Nat) (e : Value) (w : World) (b : Bool) (hb : decide ((n : Int) ≤ 5) = b) :
  Calls Tryz.prog 6 #[.agg #[e, .slice A n c]] w fun e w' => e = .returned (.bool b) ∧ Below w.heap.size w w' := by
 subst hb
 go_enter Tryz.func6, Tryz.ntmps6
 go_wp2
 go_ret
 exact ⟨by simp, fr_alloc (fr_refl _) _⟩

set_option maxHeartbeats 1000000 in
theorem lsome_is (A : Option Addr) (n c : Nat) (w : World) (b : Bool) (hb : decide ((n : Int) ≤ 8) = b) :
  Calls Tryz.prog 7 #[.slice A n c] w fun e w' => e = .returned (.bool b) ∧ w = w' := by
 subst hb
 go_enter Tryz.func7, Tryz.ntmps7
 go_wp2
 go_ret
 exact ⟨by simp, rfl⟩
end Go.Proofs.YthjblcboainknaaGreatDoor
end

section
namespace Go.Proofs.YthjblcboainknaaGreatDoor
open Go.RowKit Dl

theorem kn_calN : calOk 2 [4, 100, 400] = true := by decide +kernel
theorem kn_calO : calOk 0 [4] = true := by decide +kernel
theorem kn_moon : moonB 59 2 0 = true := by decide +kernel
theorem kn_real : realB [4, 100, 400] 2000 1 1 = true := by decide +kernel
theorem kn_day : dayOf 2 [4, 100, 400] ⟨2000, 1, 1⟩ = 730487 := by decide +kernel
theorem kn_realmR : realmOk 0 [4] 2 [4, 100, 400] 578102 = true := by decide +kernel
theorem kn_realmS : realmOk 2 [4, 100, 400] 0 [4] 578103 = true := by decide +kernel
theorem kn_realmT : realmOk 0 [4] 0 [4] 0 = true := by decide +kernel
theorem kn_on : onOf 0 [4] 2 [4, 100, 400] 578102 578103 = some ⟨1582, 10, 15⟩ := by decide +kernel
theorem kn_let1 : let1 2 [4, 100, 400] 2000 = 2 := by decide +kernel
theorem kn_let2 : let2 2 [4, 100, 400] 2000 = 1 := by decide +kernel
theorem kn_like : likeOf 2 [4, 100, 400] 1999 = some 2010 := by decide +kernel
theorem kn_wr : writtenB 1582 10 10 = true := by decide +kernel
theorem kn_days : daysOf 2 [4, 100, 400] 0 [4] 578103 1582 10 10 = [578098, 578108] := by decide +kernel
theorem kn_easter : dateOf 0 [4] (easterDay 0 [4] 59 2 0 0) = some ⟨0, 4, 18⟩ := by decide +kernel
theorem kn_dial : dialK 1 = some (.plain 0) := rfl
theorem kn_span : spanB 366 455 = true := by decide +kernel
theorem kn_ons : ∀ k : Nat, k < ((455 : Int) - 366 + 1).toNat → onOf 0 [4] 0 [4] 0 (366 + k) ≠ none := by decide +kernel
theorem kn_out : (keepW 0 [4] 0 [4] 0 (.plain 0) 0 366 455).out = [430] := by decide +kernel
theorem kn_wrong : (keepW 0 [4] 0 [4] 0 (.plain 0) 0 366 455).wrong = 5 := by decide +kernel
theorem kn_facts : factsB [⟨5, 0, 0, 366⟩, ⟨1, 1, 1, 4⟩] = true := by decide +kernel
theorem kn_fact : factsB [⟨5, 0, 0, 366⟩] = true := by decide +kernel
theorem kn_asks : asksB [⟨5, 0, 0, 0⟩, ⟨1, 1, 1, 0⟩] = true := by decide +kernel
theorem kn_range60 : rangeB 0 60 = true := by decide +kernel
theorem kn_range20 : rangeB 0 20 = true := by decide +kernel
theorem kn_years : yearsOf 0 [4] 59 2 0 [⟨5, 0, 0, 366⟩, ⟨1, 1, 1, 4⟩] 0 ((60 : Int) - 0 + 1).toNat = [0, 28, 56] := by decide +kernel
theorem kn_len : 2 ≤ (yearsOf 0 [4] 59 2 0 [⟨5, 0, 0, 366⟩] 0 ((20 : Int) - 0 + 1).toNat).length := by decide +kernel
theorem kn_ask : bestN (fun i => leftOf 0 [4] 59 2 0 (yearsOf 0 [4] 59 2 0 [⟨5, 0, 0, 366⟩] 0 ((20 : Int) - 0 + 1).toNat) (([⟨5, 0, 0, 0⟩, ⟨1, 1, 1, 0⟩] : List Fact)[i]?.getD ⟨0, 0, 0, 0⟩)) ([⟨5, 0, 0, 0⟩, ⟨1, 1, 1, 0⟩] : List Fact).length = (1, 1) := by decide +kernel
def knAlm : List UInt8 := [99, 97, 108, 101, 110, 100, 97, 114, 32, 48, 32, 52, 10, 109, 111, 111, 110, 32, 53, 57, 32, 50, 32, 48, 10, 100, 97, 121, 115, 32, 51, 54, 54, 10, 101, 110, 100, 32, 48, 56, 50, 10]
theorem kn_print : almText 0 [4] 59 2 0 [⟨5, 0, 0, 366⟩] = knAlm := by decide +kernel
end Go.Proofs.YthjblcboainknaaGreatDoor
end
