/- Reference: the date of a day. Reference: new moons, ages, Easter. Reference: Easter, letters, years that are alike. Reference: calendars in a realm, days of a date, years that are alike. -/
import Derived.Test.YtnppilaabobgiaaGreatDoorMB1
import Derived.Test.YtnppilaabobgiaaGreatDoorMD1
import Derived.Test.YtnppilaabobgiaaGreatDoorProg
import Derived.WalkKit
import Derived.WalkSpells
import Derived.WalkLawsBesides
import Derived.LoopTactic
import Derived.Deep.LoopGhost
import Derived.Lib.Hide
import Derived.Deep.Draws
import Derived.Deep.QuietTactic
import Derived.BigQuiet
import Derived.Deep.RegionHeld3
import Derived.OwnWalk
import Derived.Laws.Rows
import Derived.Deep.DeepMust
import Derived.Defers
import Derived.Recover
import Derived.Laws.Pointers
import Derived.Laws.EntriesVeiled
import Derived.Outline
import Derived.Deep.MidRow
import Derived.Test.YtnppilaabobgiaaGreatDoorMB2
import Derived.Test.YtnppilaabobgiaaGreatDoorMBG
import Derived.Test.YtnppilaabobgiaaGreatDoorMB5
import Derived.Test.YtnppilaabobgiaaGreatDoorMB3
import Derived.RangeFuncNested
import Derived.RangeFuncBound
import Derived.OwnWalkIn
import Derived.TacticsInMore
import Derived.LoopIn
import Derived.Shelf.RegionOpen
import Derived.Sort.CutIn
import Derived.Deep.Cut
import Derived.Maps.OwnOps
import Derived.Maps.OwnSet
import Derived.IntWalk
import Derived.Lib.LaidTab
import Derived.Lib.ItoaNum
import Derived.Sort.Grow
section
namespace Go.Proofs.YtnppilaabobgiaaGreatDoor
open Go.RowKit Dl

/-- what the reference's Date returns -/
def rdateV (o : Option Date) : Value := match o with | some x => .tuple #[.agg #[.int .i64 x.y, .int .i64 x.m, .int .i64 x.d], .bool true] | none => .tuple #[.agg #[.int .i64 0, .int .i64 0, .int .i64 0], .bool false]

theorem dateOf_at {e : Int} {cs : List Int} {day : Int} (k : Nat) (m : Int) (hk : k ≤ 4000) (h1 : 1 ≤ m) (h2 : m ≤ 12) (h3 : firstN e cs k + cum (leapB cs k) m ≤ day) (h4 : day < firstN e cs k + cum (leapB cs k) m + mlen (leapB cs k) m) :
    dateOf e cs day = some ⟨k, m, day - firstN e cs k - cum (leapB cs k) m + 1⟩ := by
  rw [dateOf_some]
  refine ⟨⟨by simp, by simp only; omega, h1, h2, by simp only; omega, by simp only; omega⟩, ?_⟩
  unfold dayOf firstDay
  simp only [Int.toNat_natCast]
  omega

set_option maxRecDepth 100000 in
set_option maxHeartbeats 4000000 in
theorem rDate_any (A : Option Addr) (n c : Nat) (cs : List Int) (e day : Int) (w : World) (hr : Rd w A n cs) (hok : calOk e cs = true) (hd1 : -1000000000 ≤ day) (hd2 : day ≤ 1000000000) :
    Calls Tryz.prog 38 #[.agg #[.int .i64 e, .slice A n c], .int .i64 day] w fun e' w' => e' = .returned (rdateV (dateOf e cs day)) ∧ Below w.heap.size w w' := by
  obtain ⟨⟨he1, he2⟩, ⟨hn1, hn2⟩, hpos⟩ := calOk_parts hok
  rw [hr.len] at hn1 hn2
  have g1 := fr_alloc (fr_alloc (fr_refl w) (.cells #[.int .i64 e, .slice A n c] 24)) (.cells #[.int .i64 0, .int .i64 0, .int .i64 0] 41)
  have hZ : Blk ((w.alloc (.cells #[.int .i64 e, .slice A n c] 24)).alloc (.cells #[.int .i64 0, .int .i64 0, .int .i64 0] 41)) (w.heap.size + 1) 41 #[.int .i64 0, .int .i64 0, .int .i64 0] := Blk.new_at _ _ (by simp)
  have hC : Blk ((w.alloc (.cells #[.int .i64 e, .slice A n c] 24)).alloc (.cells #[.int .i64 0, .int .i64 0, .int .i64 0] 41)) w.heap.size 24 #[.int .i64 e, .slice A n c] := (Blk.new w _ _).alloc _
  by_cases hneg : day - e < 0
  · have hv : rdateV (dateOf e cs day) = .tuple #[.agg #[.int .i64 0, .int .i64 0, .int .i64 0], .bool false] := by
      rw [dateOf_none.2 (Or.inl (by omega))]; rfl
    rw [hv]
    go_enter Tryz.func38, Tryz.ntmps38
    go_wp2_with (refine wpList_store_blk rfl _ _ _ rfl (w.heap.size + 1) 41 _ _ rfl rfl hZ rfl (by kernel_rfl) (by simp [Value.oneCell']) ?_; intro w2 hZ2 hg2)
    refine bodyPost_ret (results_blk_tmp rfl _ _ _ _ rfl hZ2 Tryz.underlying41 rfl (by kernel_rfl)) rfl ⟨rfl, g1.grown hg2 g1.size (by intro k hk; cases hk; omega)⟩
  · go_enter Tryz.func38, Tryz.ntmps38
    go_wp2_with fail
    go_loopw [6, 7] (fun l i wr => ∃ k : Nat, k ≤ 4001 ∧ i = .int .i64 k ∧ l = .int .i64 (day - firstN e cs k) ∧ firstN e cs k ≤ day ∧ Blk wr w.heap.size 24 #[.int .i64 e, .slice A n c] ∧ Blk wr (w.heap.size + 1) 41 #[.int .i64 0, .int .i64 0, .int .i64 0] ∧ Below w.heap.size w wr) (fun _ i _ => 4001 - (intOf i).toNat)
    case atStart => exact ⟨0, by omega, rfl, rfl, by simp only [firstN]; omega, hC, hZ, g1⟩
    case round =>
      clear hC hZ g1
      obtain ⟨k, hk, rfl, rfl, hfk, hC, hZ, hbel⟩ := hrel
      have hCc := fun j => hC.cell j
      have hCf := fun j => hC.frozen j
      have hfb := firstN_bounds e cs k
      have hyl := yearLen_pos cs k
      have HS := Lib.hid (show firstN e cs (k + 1) = firstN e cs k + yearLen cs k from rfl)
      have HNo := Lib.hid (fun h : k = 4001 => show rdateV (dateOf e cs day) = .tuple #[.agg #[.int .i64 0, .int .i64 0, .int .i64 0], .bool false] by
        rw [dateOf_none.2 (Or.inr (by rw [h] at hfk; exact hfk))]; rfl)
      have HAt := Lib.hid (fun (m : Int) (h1 : k ≤ 4000) => dateOf_at (e := e) (cs := cs) (day := day) k m h1)
      have HCY := Lib.hid (cum_year cs (k : Int))
      generalize hfz : firstN e cs k = fk at *
      clear hfz
      by_cases hlt : k < 4001
      · by_cases hle : yearLen cs k ≤ day - fk
        · go_wp2_with fail
          refine (rLong_any A n c cs e k _ (hr.keep hbel) hn2 hpos (by omega) (by omega)).mono ?_
          generalize yearLen cs k = yl at *
          rintro e' w1 ⟨rfl, hb1⟩
          go_wp2_with fail
          go_roundw
          case rel => exact ⟨k + 1, by omega, by go_num, by rw [HS.out]; go_num, by rw [HS.out]; omega, hC.keep hb1, hZ.keep hb1, fr_call hbel hb1⟩
          case measure => simp [intOf]; omega
        · go_wp2_with fail
          refine (rLong_any A n c cs e k _ (hr.keep hbel) hn2 hpos (by omega) (by omega)).mono ?_
          generalize yearLen cs k = yl at *
          rintro e' w1 ⟨rfl, hb1⟩
          go_wp2_with fail
          have hC1 := hC.keep hb1
          have hZ1 := hZ.keep hb1
          have hbel1 := fr_call hbel hb1
          clear hC hZ hbel hCc hCf hb1
          obtain ⟨wo, rfl⟩ : ∃ wo : World, wo = wr := ⟨_, rfl⟩
          go_loopw [6, 9] (fun l i wx => ∃ m : Int, 1 ≤ m ∧ m ≤ 13 ∧ i = .int .i64 m ∧ l = .int .i64 (day - fk - cum (leapB cs k) m) ∧ cum (leapB cs k) m ≤ day - fk ∧ Blk wx w.heap.size 24 #[.int .i64 e, .slice A n c] ∧ Blk wx (w.heap.size + 1) 41 #[.int .i64 0, .int .i64 0, .int .i64 0] ∧ Below w.heap.size w wx) (fun _ i _ => 13 - (intOf i).toNat)
          case atStart => exact ⟨1, by omega, by omega, rfl, by simp [cum], by simp only [cum, if_true]; omega, hC1, hZ1, hbel1⟩
          case round =>
            clear hC1 hZ1 hbel1
            obtain ⟨m, hm1, hm2, rfl, rfl, hcm, hC, hZ, hbel⟩ := hrel
            have hm12 : m ≤ 12 := by
              by_cases h : m = 13
              · subst h
                have := HCY.out
                omega
              · omega
            have hCc := fun j => hC.cell j
            have hCf := fun j => hC.frozen j
            have hcb := cum_bounds (leapB cs k) m hm1 hm12
            have hml := mlen_pos (leapB cs k) m
            have HC := Lib.hid (cum_succ (leapB cs k) m hm1 hm12)
            have HD := Lib.hid (HAt.out m (by omega) hm1 hm12)
            clear hm2
            generalize hcu : cum (leapB cs k) m = cu at *
            by_cases hin : day - fk - cu < mlen (leapB cs k) m
            · have hv := HD.out (by omega) (by omega)
              have HV := Lib.hid hv
              clear hv hcu
              go_wp2_with fail
              refine (rLeap_any A n c cs e k _ (hr.keep hbel) hn2 hpos (by omega) (by omega)).mono ?_
              rintro e' w2 ⟨rfl, hb2⟩
              go_wp2_with fail
              refine (rLength_any m _ _ hm1 hm12).mono ?_
              rintro e' w3 ⟨rfl, hb3⟩
              generalize mlen (leapB cs k) m = ml at *
              have hZ3 := (hZ.keep hb2).keep hb3
              have hbel3 := fr_call (fr_call hbel hb2) hb3
              go_wp2_with (refine wpList_store_blk rfl _ _ _ rfl (w.heap.size + 1) 41 _ _ rfl rfl hZ3 rfl (by kernel_rfl) (by simp [Value.oneCell']) ?_; intro w4 hZ4 hg4)
              refine bodyPost_ret (results_blk_tmp rfl _ _ _ _ rfl hZ4 Tryz.underlying41 rfl (by kernel_rfl)) rfl ⟨?_, hbel3.grown hg4 hbel3.size (by intro k hk; cases hk; omega)⟩
              rw [HV.out]
              rfl
            · clear hcu
              go_wp2_with fail
              refine (rLeap_any A n c cs e k _ (hr.keep hbel) hn2 hpos (by omega) (by omega)).mono ?_
              rintro e' w2 ⟨rfl, hb2⟩
              go_wp2_with fail
              refine (rLength_any m _ _ hm1 hm12).mono ?_
              rintro e' w3 ⟨rfl, hb3⟩
              generalize mlen (leapB cs k) m = ml at *
              go_wp2_with fail
              go_roundw
              case rel => exact ⟨m + 1, by omega, by omega, by go_num, by rw [HC.out]; go_num, by rw [HC.out]; omega, (hC.keep hb2).keep hb3, (hZ.keep hb2).keep hb3, fr_call (fr_call hbel hb2) hb3⟩
              case measure => simp [intOf]; omega
      · have hv := Lib.hid (HNo.out (by omega))
        go_wp2_with (refine wpList_store_blk rfl _ _ _ rfl (w.heap.size + 1) 41 _ _ rfl rfl hZ rfl (by kernel_rfl) (by simp [Value.oneCell']) ?_; intro w2 hZ2 hg2)
        refine bodyPost_ret (results_blk_tmp rfl _ _ _ _ rfl hZ2 Tryz.underlying41 rfl (by kernel_rfl)) rfl ⟨?_, hbel.grown hg2 hbel.size (by intro k hk; cases hk; omega)⟩
        rw [hv.out]
        rfl
end Go.Proofs.YtnppilaabobgiaaGreatDoor
end

section
namespace Go.Proofs.YtnppilaabobgiaaGreatDoor
open Go.RowKit Dl

set_option maxHeartbeats 1000000 in
theorem rfloor_any (n b : Int) (w : World) (hb : 0 < b) (hb2 : b ≤ 100000) (h0 : -1000000000000 ≤ n) (h1 : n ≤ 1000000000000) :
    Calls Tryz.prog 157 #[.int .i64 n, .int .i64 b] w fun e' w' => e' = .returned (.int .i64 (n / b)) ∧ w = w' := by
  obtain ⟨T1, T2⟩ := tdiv_floor n b hb
  have q1 : -1000000000000 ≤ n.tdiv b ∧ n.tdiv b ≤ 1000000000000 := by
    have : (n.tdiv b).natAbs ≤ n.natAbs := by rw [Int.natAbs_tdiv]; exact Nat.div_le_self _ _
    omega
  have q2 : -1000000000000 ≤ n.tdiv b * b ∧ n.tdiv b * b ≤ 1000000000000 := by
    have : (n.tdiv b * b).natAbs ≤ n.natAbs := by rw [Int.natAbs_mul, Int.natAbs_tdiv]; exact Nat.div_mul_le_self _ _
    omega
  obtain ⟨q3, q4⟩ := q1
  obtain ⟨q5, q6⟩ := q2
  have hne : ¬ b = 0 := by omega
  have hw1 : IntKind.i64.wrap (n.tdiv b) = n.tdiv b := IntWalk.i64_in _ (by omega)
  have hw2 : IntKind.i64.wrap (n.tdiv b * b) = n.tdiv b * b := IntWalk.i64_in _ (by omega)
  have HT1 := Lib.hid T1
  have HT2 := Lib.hid T2
  clear T1 T2
  by_cases hlt : n < n.tdiv b * b
  · go_enter Tryz.func157, Tryz.ntmps157
    go_wp2
    go_ret
    exact ⟨ret_int (HT1.out hlt), rfl⟩
  · go_enter Tryz.func157, Tryz.ntmps157
    go_wp2
    go_ret
    exact ⟨ret_int (HT2.out hlt), rfl⟩

def k0Of (num den add d : Int) : Int := (d * den - add) / num
theorem new_k0 {num den add : Int} (h : MoonOk num den add) (d : Int) : newDay num den add (k0Of num den add d) ≤ d ∧ d ≤ newDay num den add (k0Of num den add d + 1) := by
  have hd : 0 < den := by have := h.d1; omega
  have hp := h.npos
  have a := Int.mul_ediv_add_emod (d * den - add) num
  have b := Int.emod_nonneg (d * den - add) (show num ≠ 0 by omega)
  have c := Int.emod_lt_of_pos (d * den - add) hp
  rw [Int.mul_comm] at a
  unfold newDay k0Of
  generalize (d * den - add) / num = k at *
  constructor
  · rw [← Int.lt_add_one_iff, Int.ediv_lt_iff_lt_mul hd, Int.add_mul]
    omega
  · rw [Int.le_ediv_iff_mul_le hd, Int.add_mul]
    omega
theorem new_at {num den add : Int} (h : MoonOk num den add) (d : Int) (hge : d ≤ newDay num den add (k0Of num den add d)) : (newDay num den add (k0Of num den add d) = d) = (ageOf num den add d = 0) := by
  have a := (new_k0 h d).1
  have g := new_gap h (k0Of num den add d)
  have := last_unique h (k := k0Of num den add d) (d := d) (by omega) (by omega)
  unfold ageOf
  rw [this]
  exact propext ⟨fun _ => by omega, fun _ => by omega⟩
theorem new_at1 {num den add : Int} (h : MoonOk num den add) (d : Int) (hlt : newDay num den add (k0Of num den add d) < d) : (newDay num den add (k0Of num den add d + 1) = d) = (ageOf num den add d = 0) := by
  have a := (new_k0 h d).2
  have g := new_gap h (k0Of num den add d + 1)
  by_cases e : newDay num den add (k0Of num den add d + 1) = d
  · have := last_unique h (k := k0Of num den add d + 1) (d := d) (by omega) (by omega)
    unfold ageOf
    rw [this]
    exact propext ⟨fun _ => by omega, fun _ => by omega⟩
  · have := last_unique h (k := k0Of num den add d) (d := d) (by omega) (by omega)
    unfold ageOf
    rw [this]
    exact propext ⟨fun _ => by omega, fun _ => by omega⟩
theorem age_back {num den add : Int} (h : MoonOk num den add) (d n : Int) (h0 : 0 ≤ n) (h1 : n ≤ ageOf num den add d) : ageOf num den add (d - n) = ageOf num den add d - n := by
  have a := new_last h d
  have b := new_next h d
  unfold ageOf at h1
  have := last_unique h (k := lastK num den add d) (d := d - n) (by omega) (by omega)
  unfold ageOf
  rw [this]
  omega

theorem k_bounds {num den add : Int} (h : MoonOk num den add) (d : Int) (h0 : -3000 ≤ d) (h1 : d ≤ 10000000) :
    (-3000000 ≤ d * den ∧ d * den ≤ 10000000000) ∧ (-40000000 ≤ k0Of num den add d * num ∧ k0Of num den add d * num ≤ 10000000000) ∧ (-40000000 ≤ (k0Of num den add d + 1) * num ∧ (k0Of num den add d + 1) * num ≤ 10000040000) ∧ -100000000000 ≤ k0Of num den add d ∧ k0Of num den add d ≤ 100000000000 := by
  have hp := h.npos
  have hd1 := h.d1
  have hd2 := h.d2
  have hn1 := h.n1
  have hn2 := h.n2
  have ha1 := h.a1
  have ha2 := h.a2
  have m1 : -3000000 ≤ d * den ∧ d * den ≤ 10000000000 := by
    constructor
    · by_cases hz : 0 ≤ d
      · have := Int.mul_nonneg hz (by omega : (0:Int) ≤ den); omega
      · have a : (-3000) * den ≤ d * den := Int.mul_le_mul_of_nonneg_right (by omega) (by omega)
        omega
    · have a : d * den ≤ 10000000 * den := Int.mul_le_mul_of_nonneg_right (by omega) (by omega)
      omega
  have a := Int.mul_ediv_add_emod (d * den - add) num
  have b := Int.emod_nonneg (d * den - add) (show num ≠ 0 by omega)
  have c := Int.emod_lt_of_pos (d * den - add) hp
  rw [Int.mul_comm] at a
  unfold k0Of
  have e : ((d * den - add) / num + 1) * num = (d * den - add) / num * num + num := by rw [Int.add_mul, Int.one_mul]
  have f : ((d * den - add) / num).natAbs ≤ (d * den - add).natAbs + 1 := by
    by_cases hz : 0 ≤ d * den - add
    · have := Int.ediv_nonneg hz (by omega : (0:Int) ≤ num)
      have := Int.ediv_le_self num hz
      omega
    · have h2 : (d * den - add) / num < 0 := Int.ediv_neg_of_neg_of_pos (by omega) hp
      have h3 : (d * den - add) ≤ (d * den - add) / num := by
        rw [Int.le_ediv_iff_mul_le hp]
        have : (d * den - add) * num ≤ (d * den - add) * 1 := Int.mul_le_mul_of_nonpos_left (by omega) (by omega)
        omega
      omega
  omega

set_option maxRecDepth 100000 in
set_option maxHeartbeats 2000000 in
theorem rNew_any (num den add d : Int) (w : World) (h : MoonOk num den add) (h0 : -3000 ≤ d) (h1 : d ≤ 10000000) :
    Calls Tryz.prog 129 #[.agg #[.int .i64 num, .int .i64 den, .int .i64 add], .int .i64 d] w fun e' w' => e' = .returned (.bool (decide (ageOf num den add d = 0))) ∧ Below w.heap.size w w' := by
  have hp := h.npos
  have hd1 := h.d1
  have hd2 := h.d2
  have hn1 := h.n1
  have hn2 := h.n2
  have ha1 := h.a1
  have ha2 := h.a2
  obtain ⟨⟨p1, p2⟩, ⟨p3, p4⟩, ⟨p5, p6⟩, p7, p8⟩ := k_bounds h d h0 h1
  have H1 := Lib.hid (new_k0 h d)
  have H2 := Lib.hid (new_at h d)
  have H3 := Lib.hid (new_at1 h d)
  have HK := Lib.hid (show k0Of num den add d = (d * den - add) / num from rfl)
  have hN0 : newDay num den add (k0Of num den add d) = (k0Of num den add d * num + add) / den := rfl
  have hN1 : newDay num den add (k0Of num den add d + 1) = ((k0Of num den add d + 1) * num + add) / den := rfl
  rw [hN0, hN1] at H1
  rw [hN0] at H2
  rw [hN0, hN1] at H3
  clear hN0 hN1
  generalize hk : k0Of num den add d = k at *
  clear hk
  have hw1 : IntKind.i64.wrap (d * den) = d * den := IntWalk.i64_in _ (by omega)
  have hw2 : IntKind.i64.wrap (d * den - add) = d * den - add := IntWalk.i64_in _ (by omega)
  have hw3 : IntKind.i64.wrap (k * num) = k * num := IntWalk.i64_in _ (by omega)
  have hw4 : IntKind.i64.wrap (k * num + add) = k * num + add := IntWalk.i64_in _ (by omega)
  have hw5 : IntKind.i64.wrap ((k + 1) * num) = (k + 1) * num := IntWalk.i64_in _ (by omega)
  have hw6 : IntKind.i64.wrap ((k + 1) * num + add) = (k + 1) * num + add := IntWalk.i64_in _ (by omega)
  have hw7 : IntKind.i64.wrap (k + 1) = k + 1 := IntWalk.i64_in _ (by omega)
  have b1 : -1000000000000 ≤ d * den - add ∧ d * den - add ≤ 1000000000000 := by omega
  have b2 : -1000000000000 ≤ k * num + add ∧ k * num + add ≤ 1000000000000 := by omega
  have b3 : -1000000000000 ≤ (k + 1) * num + add ∧ (k + 1) * num + add ≤ 1000000000000 := by omega
  have hn3 : num ≤ 100000 := by omega
  have hd3 : 0 < den ∧ den ≤ 100000 := by omega
  obtain ⟨b1, b1'⟩ := b1
  obtain ⟨b2, b2'⟩ := b2
  obtain ⟨b3, b3'⟩ := b3
  obtain ⟨hd3, hd3'⟩ := hd3
  clear p1 p2 p3 p4 p5 p6
  go_enter Tryz.func129, Tryz.ntmps129
  go_wp2_with fail
  refine (rfloor_any _ _ _ hp hn3 b1 b1').mono ?_
  rw [← HK.out]
  rintro e' w' ⟨rfl, rfl⟩
  go_wp2_with fail
  go_loop [5] (fun i => i = .int .i64 k ∨ (i = .int .i64 (k + 1) ∧ (k * num + add) / den < d)) (fun i => (k + 1 - intOf i).toNat)
  case atStart => exact Or.inl rfl
  case round =>
    rcases hrel with rfl | ⟨rfl, hlt⟩
    · by_cases hlt : (k * num + add) / den < d
      · go_wp2_with fail
        refine (rfloor_any _ _ _ hd3 hd3' b2 b2').mono ?_
        rintro e' w' ⟨rfl, rfl⟩
        go_wp2_with fail
        go_round
        case rel => exact Or.inr ⟨by go_num, hlt⟩
        case measure => simp [intOf]; omega
      · have hge : d ≤ (k * num + add) / den := by omega
        go_wp2_with fail
        refine (rfloor_any _ _ _ hd3 hd3' b2 b2').mono ?_
        rintro e' w' ⟨rfl, rfl⟩
        go_wp2_with fail
        refine (rfloor_any _ _ _ hd3 hd3' b2 b2').mono ?_
        rintro e' w' ⟨rfl, rfl⟩
        go_wp2_with fail
        go_ret
        exact ⟨ret_bool (by rw [Bool.eq_iff_iff]; simpa using Iff.of_eq (H2.out hge)), fr_alloc (fr_refl _) _⟩
    · have hge : ¬ ((k + 1) * num + add) / den < d := by have := H1.out.2; omega
      go_wp2_with fail
      refine (rfloor_any _ _ _ hd3 hd3' b3 b3').mono ?_
      rintro e' w' ⟨rfl, rfl⟩
      go_wp2_with fail
      refine (rfloor_any _ _ _ hd3 hd3' b3 b3').mono ?_
      rintro e' w' ⟨rfl, rfl⟩
      go_wp2_with fail
      go_ret
      exact ⟨ret_bool (by rw [Bool.eq_iff_iff]; simpa using Iff.of_eq (H3.out hlt)), fr_alloc (fr_refl _) _⟩

set_option maxRecDepth 100000 in
set_option maxHeartbeats 2000000 in
theorem rAge_any (num den add d : Int) (w : World) (h : MoonOk num den add) (h0 : -1000 ≤ d) (h1 : d ≤ 10000000) :
    Calls Tryz.prog 97 #[.agg #[.int .i64 num, .int .i64 den, .int .i64 add], .int .i64 d] w fun e' w' => e' = .returned (.int .i64 (ageOf num den add d)) ∧ Below w.heap.size w w' := by
  obtain ⟨hr1, hr2⟩ := age_range h d
  have HB := Lib.hid (age_back h d)
  generalize hag : ageOf num den add d = ag at *
  clear hag
  go_enter Tryz.func97, Tryz.ntmps97
  go_wp2
  go_loopw [5] (fun i wr => ∃ n : Int, 0 ≤ n ∧ n ≤ ag ∧ i = .int .i64 n ∧ Blk wr w.heap.size 63 #[.int .i64 num, .int .i64 den, .int .i64 add] ∧ Below w.heap.size w wr) (fun i _ => (ag - intOf i).toNat)
  case atStart => exact ⟨0, by omega, by omega, rfl, Blk.new_at _ _ (by simp), fr_alloc (fr_refl _) _⟩
  case round =>
    obtain ⟨n, hn0, hn1, rfl, hB, hbel⟩ := hrel
    have hBc := fun j => hB.cell j
    have hBf := fun j => hB.frozen j
    have hN := HB.out n hn0 hn1
    have hx1 : -3000 ≤ d - n := by omega
    have hx2 : d - n ≤ 10000000 := by omega
    have hw : IntKind.i64.wrap (d - n) = d - n := IntWalk.i64_in _ (by omega)
    by_cases hlt : n < ag
    · have hd : decide (ageOf num den add (d - n) = 0) = false := decide_eq_false (by omega)
      clear hN
      go_wp2_with fail
      refine (rNew_any num den add (d - n) _ h hx1 hx2).mono ?_
      rw [hd]
      rintro e' w1 ⟨rfl, hb1⟩
      go_wp2_with fail
      go_roundw
      case rel => exact ⟨n + 1, by omega, by omega, by go_num, hB.keep hb1, fr_call hbel hb1⟩
      case measure => simp [intOf]; omega
    · have hd : decide (ageOf num den add (d - n) = 0) = true := decide_eq_true (by omega)
      have hna := Lib.hid (show n = ag by omega)
      clear hN hlt hn1
      go_wp2_with fail
      refine (rNew_any num den add (d - n) _ h hx1 hx2).mono ?_
      rw [hd]
      rintro e' w1 ⟨rfl, hb1⟩
      go_wp2_with fail
      go_ret
      exact ⟨ret_int hna.out, fr_call hbel hb1⟩
end Go.Proofs.YtnppilaabobgiaaGreatDoor
end

section
namespace Go.Proofs.YtnppilaabobgiaaGreatDoor
open Go.RowKit Dl

set_option maxRecDepth 100000 in
set_option maxHeartbeats 2000000 in
theorem rEasterDay_any (A : Option Addr) (n c : Nat) (cs : List Int) (e num den add y : Int) (w : World) (hr : Rd w A n cs) (hok : calOk e cs = true) (hm : MoonOk num den add) (hy1 : 0 ≤ y) (hy2 : y ≤ 4000) :
    Calls Tryz.prog 43 #[.agg #[.int .i64 e, .slice A n c], .agg #[.int .i64 num, .int .i64 den, .int .i64 add], .int .i64 y] w fun e' w' => e' = .returned (.int .i64 (easterDay e cs num den add y)) ∧ Below w.heap.size w w' := by
  obtain ⟨he, ⟨hn1, hn2⟩, hpos⟩ := calOk_parts hok
  rw [hr.len] at hn1 hn2
  have hmb := march_bounds e cs y he ⟨hy1, hy2⟩
  have hfb := full_bounds hm (dayOf e cs ⟨y, 3, 21⟩)
  have hag := age_full hm (dayOf e cs ⟨y, 3, 21⟩)
  have hnf := not_full hm (dayOf e cs ⟨y, 3, 21⟩)
  have hed : easterDay e cs num den add y = fullOf num den add (dayOf e cs ⟨y, 3, 21⟩) + 7 - wkd (fullOf num den add (dayOf e cs ⟨y, 3, 21⟩)) := rfl
  have HED := Lib.hid hed
  clear hed
  have g1 := fr_alloc (fr_alloc (fr_refl w) (.cells #[.int .i64 e, .slice A n c] 24)) (.cells #[.int .i64 num, .int .i64 den, .int .i64 add] 63)
  have hB : Blk ((w.alloc (.cells #[.int .i64 e, .slice A n c] 24)).alloc (.cells #[.int .i64 num, .int .i64 den, .int .i64 add] 63)) (w.heap.size + 1) 63 #[.int .i64 num, .int .i64 den, .int .i64 add] := Blk.new_at _ _ (by simp)
  go_enter Tryz.func43, Tryz.ntmps43
  go_wp2_with fail
  refine (rDay_any A n c cs e y 3 21 _ (hr.keep g1) hok hy1 hy2 (by omega) (by omega) (by omega) (by omega)).mono ?_
  generalize dayOf e cs ⟨y, 3, 21⟩ = mar at *
  generalize hfu : fullOf num den add mar = fu at *
  clear hfu
  rintro e' w1 ⟨rfl, hb1⟩
  have g2 := fr_call g1 hb1
  have hB1 := hB.keep hb1
  clear hB g1 hb1
  obtain ⟨m1, m2⟩ := hmb
  obtain ⟨f1, f2⟩ := hfb
  have HAG := Lib.hid hag
  have HNF := Lib.hid hnf
  clear hag hnf
  go_wp2_with fail
  go_loopw [7] (fun i wr => ∃ j : Int, mar ≤ j ∧ j ≤ fu ∧ i = .int .i64 j ∧ Blk wr (w.heap.size + 1) 63 #[.int .i64 num, .int .i64 den, .int .i64 add] ∧ Below w.heap.size w wr) (fun i _ => (fu - intOf i).toNat)
  case atStart => exact ⟨mar, by omega, by omega, rfl, hB1, g2⟩
  case round =>
    clear hB1 g2
    obtain ⟨j, hj1, hj2, rfl, hB, hbel⟩ := hrel
    have hBc := fun j => hB.cell j
    have hBf := fun j => hB.frozen j
    by_cases hlt : j < fu
    · have hne := HNF.out j hj1 hlt
      go_wp2_with fail
      refine (rAge_any num den add j _ hm (by omega) (by omega)).mono ?_
      generalize ageOf num den add j = aj at *
      rintro e' w2 ⟨rfl, hb2⟩
      go_wp2_with fail
      go_roundw
      case rel => exact ⟨j + 1, by omega, by omega, by go_num, hB.keep hb2, fr_call hbel hb2⟩
      case measure => simp [intOf]; omega
    · obtain rfl : j = fu := by omega
      go_wp2_with fail
      refine (rAge_any num den add j _ hm (by omega) (by omega)).mono ?_
      rw [HAG.out]
      rintro e' w2 ⟨rfl, hb2⟩
      have hbel2 := fr_call hbel hb2
      go_wp2_with fail
      have hwk : wkd j = (j + 4) % 7 := rfl
      go_loopw [7] (fun i wx => ∃ k : Int, 1 ≤ k ∧ k ≤ 7 - wkd j ∧ i = .int .i64 (j + k) ∧ Below w.heap.size w wx) (fun i _ => (j + 7 - intOf i).toNat)
      case atStart => exact ⟨1, by omega, by omega, rfl, hbel2⟩
      case round =>
        obtain ⟨k, hk1, hk2, rfl, hbx⟩ := hrel
        by_cases hlt2 : k < 7 - wkd j
        · have hne : ¬ wkd (j + k) = 0 := by unfold wkd; omega
          have hb1 : -4 ≤ j + k := by omega
          have hb2 : j + k ≤ 100000000 := by omega
          have hb3 : k + 1 ≤ 7 - wkd j := by omega
          have hb4 : j + k + 1 = j + (k + 1) := by omega
          have hb5 : k ≤ 6 := by omega
          have HB3 := Lib.hid hb3
          clear hb3 hlt2 hk2 hwk
          go_wp2_with fail
          refine (rWeekday_any (j + k) _ hb1 hb2).mono ?_
          generalize wkd (j + k) = q at *
          rintro e' w3 ⟨rfl, rfl⟩
          go_wp2_with fail
          go_roundw
          case rel => exact ⟨k + 1, by omega, HB3.out, by go_num, hbx⟩
          case measure => simp [intOf]; omega
        · have hz : wkd (j + k) = 0 := by unfold wkd; omega
          have hb1 : -4 ≤ j + k := by omega
          have hb2 : j + k ≤ 100000000 := by omega
          have hres : j + k = easterDay e cs num den add y := by rw [HED.out]; omega
          have HR := Lib.hid hres
          clear hres hlt2 hk2 hwk
          go_wp2_with fail
          refine (rWeekday_any (j + k) _ hb1 hb2).mono ?_
          rw [hz]
          rintro e' w3 ⟨rfl, rfl⟩
          go_wp2_with fail
          go_ret
          exact ⟨ret_int HR.out, hbx⟩

end Go.Proofs.YtnppilaabobgiaaGreatDoor
end

section
namespace Go.Proofs.YtnppilaabobgiaaGreatDoor
open Go.RowKit Dl

def inV (b : Bool) (x y : Value) : Value := if b = true then x else y
theorem inV_yes (x y : Value) : inV true x y = x := rfl
theorem inV_no (x y : Value) : inV false x y = y := rfl
set_option maxRecDepth 100000 in
set_option maxHeartbeats 2000000 in
theorem rIn_any (A1 A2 : Option Addr) (n1 k1 n2 k2 : Nat) (e1 e2 last day : Int) (w : World) :
    Calls Tryz.prog 34 #[.agg #[.int .i64 e1, .slice A1 n1 k1, .int .i64 e2, .slice A2 n2 k2, .int .i64 last], .int .i64 day] w fun e' w' =>
      e' = .returned (inV (decide (day ≤ last)) (.agg #[.int .i64 e1, .slice A1 n1 k1]) (.agg #[.int .i64 e2, .slice A2 n2 k2])) ∧ Below w.heap.size w w' := by
  have g1 := fr_alloc (fr_alloc (fr_refl w) (.cells #[.int .i64 e1, .slice A1 n1 k1, .int .i64 e2, .slice A2 n2 k2, .int .i64 last] 26)) (.cells #[.int .i64 0, .slice none 0 0] 24)
  have hZ : Blk ((w.alloc (.cells #[.int .i64 e1, .slice A1 n1 k1, .int .i64 e2, .slice A2 n2 k2, .int .i64 last] 26)).alloc (.cells #[.int .i64 0, .slice none 0 0] 24)) (w.heap.size + 1) 24 #[.int .i64 0, .slice none 0 0] := Blk.new_at _ _ (by simp)
  by_cases h : day ≤ last
  · rw [decide_eq_true h, inV_yes]
    go_enter Tryz.func34, Tryz.ntmps34
    go_wp2_with (refine wpList_store_blk rfl _ _ _ rfl (w.heap.size + 1) 24 _ _ rfl rfl hZ rfl (by kernel_rfl) (by simp [Value.oneCell']) ?_; intro w2 hZ2 hg2)
    refine bodyPost_ret (results_blk1 rfl _ _ _ _ rfl hZ2 Tryz.underlying24 rfl (by kernel_rfl)) rfl ⟨rfl, g1.grown hg2 g1.size (by intro k hk; cases hk; omega)⟩
  · rw [decide_eq_false (show ¬ day ≤ last by omega), inV_no]
    go_enter Tryz.func34, Tryz.ntmps34
    go_wp2_with (refine wpList_store_blk rfl _ _ _ rfl (w.heap.size + 1) 24 _ _ rfl rfl hZ rfl (by kernel_rfl) (by simp [Value.oneCell']) ?_; intro w2 hZ2 hg2)
    refine bodyPost_ret (results_blk1 rfl _ _ _ _ rfl hZ2 Tryz.underlying24 rfl (by kernel_rfl)) rfl ⟨rfl, g1.grown hg2 g1.size (by intro k hk; cases hk; omega)⟩

end Go.Proofs.YtnppilaabobgiaaGreatDoor
end
