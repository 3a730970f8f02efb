/- Reference: the date of a day. Reference: calendars in a realm, days of a date, years that are alike. -/
import Derived.Test.YtnppilaabobgiaaGreatDoorMB1
import Derived.Test.YtnppilaabobgiaaGreatDoorMD1
import Derived.Test.YtnppilaabobgiaaGreatDoorProg
import Derived.WalkKit
import Derived.WalkSpells
import Derived.WalkLawsBesides
import Derived.LoopTactic
import Derived.Deep.LoopGhost
import Derived.Lib.Hide
import Derived.Deep.Draws
import Derived.Deep.QuietTactic
import Derived.BigQuiet
import Derived.Deep.RegionHeld3
import Derived.OwnWalk
import Derived.Laws.Rows
import Derived.Deep.DeepMust
import Derived.Defers
import Derived.Recover
import Derived.Laws.Pointers
import Derived.Laws.EntriesVeiled
import Derived.Outline
import Derived.Deep.MidRow
import Derived.Test.YtnppilaabobgiaaGreatDoorMB3
import Derived.RangeFuncNested
import Derived.RangeFuncBound
import Derived.OwnWalkIn
import Derived.TacticsInMore
import Derived.LoopIn
import Derived.Shelf.RegionOpen
import Derived.Sort.CutIn
import Derived.Deep.Cut
import Derived.Maps.OwnOps
import Derived.Maps.OwnSet
import Derived.IntWalk
import Derived.Lib.LaidTab
import Derived.Lib.ItoaNum
import Derived.Sort.Grow
section
namespace Go.Proofs.YtnppilaabobgiaaGreatDoor
open Go.RowKit Dl

/-- what the reference's Date returns -/
def rdateV (o : Option Date) : Value := match o with | some x => .tuple #[.agg #[.int .i64 x.y, .int .i64 x.m, .int .i64 x.d], .bool true] | none => .tuple #[.agg #[.int .i64 0, .int .i64 0, .int .i64 0], .bool false]

theorem dateOf_at {e : Int} {cs : List Int} {day : Int} (k : Nat) (m : Int) (hk : k ≤ 4000) (h1 : 1 ≤ m) (h2 : m ≤ 12) (h3 : firstN e cs k + cum (leapB cs k) m ≤ day) (h4 : day < firstN e cs k + cum (leapB cs k) m + mlen (leapB cs k) m) :
    dateOf e cs day = some ⟨k, m, day - firstN e cs k - cum (leapB cs k) m + 1⟩ := by
  rw [dateOf_some]
  refine ⟨⟨by simp, by simp only; omega, h1, h2, by simp only; omega, by simp only; omega⟩, ?_⟩
  unfold dayOf firstDay
  simp only [Int.toNat_natCast]
  omega

set_option maxRecDepth 100000 in
set_option maxHeartbeats 4000000 in
theorem rDate_any (A : Option Addr) (n c : Nat) (cs : List Int) (e day : Int) (w : World) (hr : Rd w A n cs) (hok : calOk e cs = true) (hd1 : -1000000000 ≤ day) (hd2 : day ≤ 1000000000) :
    Calls Tryz.prog 38 #[.agg #[.int .i64 e, .slice A n c], .int .i64 day] w fun e' w' => e' = .returned (rdateV (dateOf e cs day)) ∧ Below w.heap.size w w' := by
  obtain ⟨⟨he1, he2⟩, ⟨hn1, hn2⟩, hpos⟩ := calOk_parts hok
  rw [hr.len] at hn1 hn2
  have g1 := fr_alloc (fr_alloc (fr_refl w) (.cells #[.int .i64 e, .slice A n c] 24)) (.cells #[.int .i64 0, .int .i64 0, .int .i64 0] 41)
  have hZ : Blk ((w.alloc (.cells #[.int .i64 e, .slice A n c] 24)).alloc (.cells #[.int .i64 0, .int .i64 0, .int .i64 0] 41)) (w.heap.size + 1) 41 #[.int .i64 0, .int .i64 0, .int .i64 0] := Blk.new_at _ _ (by simp)
  have hC : Blk ((w.alloc (.cells #[.int .i64 e, .slice A n c] 24)).alloc (.cells #[.int .i64 0, .int .i64 0, .int .i64 0] 41)) w.heap.size 24 #[.int .i64 e, .slice A n c] := (Blk.new w _ _).alloc _
  by_cases hneg : day - e < 0
  · have hv : rdateV (dateOf e cs day) = .tuple #[.agg #[.int .i64 0, .int .i64 0, .int .i64 0], .bool false] := by
      rw [dateOf_none.2 (Or.inl (by omega))]; rfl
    rw [hv]
    go_enter Tryz.func38, Tryz.ntmps38
    go_wp2_with (refine wpList_store_blk rfl _ _ _ rfl (w.heap.size + 1) 41 _ _ rfl rfl hZ rfl (by kernel_rfl) (by simp [Value.oneCell']) ?_; intro w2 hZ2 hg2)
    refine bodyPost_ret (results_blk_tmp rfl _ _ _ _ rfl hZ2 Tryz.underlying41 rfl (by kernel_rfl)) rfl ⟨rfl, g1.grown hg2 g1.size (by intro k hk; cases hk; omega)⟩
  · go_enter Tryz.func38, Tryz.ntmps38
    go_wp2_with fail
    go_loopw [6, 7] (fun l i wr => ∃ k : Nat, k ≤ 4001 ∧ i = .int .i64 k ∧ l = .int .i64 (day - firstN e cs k) ∧ firstN e cs k ≤ day ∧ Blk wr w.heap.size 24 #[.int .i64 e, .slice A n c] ∧ Blk wr (w.heap.size + 1) 41 #[.int .i64 0, .int .i64 0, .int .i64 0] ∧ Below w.heap.size w wr) (fun _ i _ => 4001 - (intOf i).toNat)
    case atStart => exact ⟨0, by omega, rfl, rfl, by simp only [firstN]; omega, hC, hZ, g1⟩
    case round =>
      clear hC hZ g1
      obtain ⟨k, hk, rfl, rfl, hfk, hC, hZ, hbel⟩ := hrel
      have hCc := fun j => hC.cell j
      have hCf := fun j => hC.frozen j
      have hfb := firstN_bounds e cs k
      have hyl := yearLen_pos cs k
      have HS := Lib.hid (show firstN e cs (k + 1) = firstN e cs k + yearLen cs k from rfl)
      have HNo := Lib.hid (fun h : k = 4001 => show rdateV (dateOf e cs day) = .tuple #[.agg #[.int .i64 0, .int .i64 0, .int .i64 0], .bool false] by
        rw [dateOf_none.2 (Or.inr (by rw [h] at hfk; exact hfk))]; rfl)
      have HAt := Lib.hid (fun (m : Int) (h1 : k ≤ 4000) => dateOf_at (e := e) (cs := cs) (day := day) k m h1)
      have HCY := Lib.hid (cum_year cs (k : Int))
      generalize hfz : firstN e cs k = fk at *
      clear hfz
      by_cases hlt : k < 4001
      · by_cases hle : yearLen cs k ≤ day - fk
        · go_wp2_with fail
          refine (rLong_any A n c cs e k _ (hr.keep hbel) hn2 hpos (by omega) (by omega)).mono ?_
          generalize yearLen cs k = yl at *
          rintro e' w1 ⟨rfl, hb1⟩
          go_wp2_with fail
          go_roundw
          case rel => exact ⟨k + 1, by omega, by go_num, by rw [HS.out]; go_num, by rw [HS.out]; omega, hC.keep hb1, hZ.keep hb1, fr_call hbel hb1⟩
          case measure => simp [intOf]; omega
        · go_wp2_with fail
          refine (rLong_any A n c cs e k _ (hr.keep hbel) hn2 hpos (by omega) (by omega)).mono ?_
          generalize yearLen cs k = yl at *
          rintro e' w1 ⟨rfl, hb1⟩
          go_wp2_with fail
          have hC1 := hC.keep hb1
          have hZ1 := hZ.keep hb1
          have hbel1 := fr_call hbel hb1
          clear hC hZ hbel hCc hCf hb1
          obtain ⟨wo, rfl⟩ : ∃ wo : World, wo = wr := ⟨_, rfl⟩
          go_loopw [6, 9] (fun l i wx => ∃ m : Int, 1 ≤ m ∧ m ≤ 13 ∧ i = .int .i64 m ∧ l = .int .i64 (day - fk - cum (leapB cs k) m) ∧ cum (leapB cs k) m ≤ day - fk ∧ Blk wx w.heap.size 24 #[.int .i64 e, .slice A n c] ∧ Blk wx (w.heap.size + 1) 41 #[.int .i64 0, .int .i64 0, .int .i64 0] ∧ Below w.heap.size w wx) (fun _ i _ => 13 - (intOf i).toNat)
          case atStart => exact ⟨1, by omega, by omega, rfl, by simp [cum], by simp only [cum, if_true]; omega, hC1, hZ1, hbel1⟩
          case round =>
            clear hC1 hZ1 hbel1
            obtain ⟨m, hm1, hm2, rfl, rfl, hcm, hC, hZ, hbel⟩ := hrel
            have hm12 : m ≤ 12 := by
              by_cases h : m = 13
              · subst h
                have := HCY.out
                omega
              · omega
            have hCc := fun j => hC.cell j
            have hCf := fun j => hC.frozen j
            have hcb := cum_bounds (leapB cs k) m hm1 hm12
            have hml := mlen_pos (leapB cs k) m
            have HC := Lib.hid (cum_succ (leapB cs k) m hm1 hm12)
            have HD := Lib.hid (HAt.out m (by omega) hm1 hm12)
            clear hm2
            generalize hcu : cum (leapB cs k) m = cu at *
            by_cases hin : day - fk - cu < mlen (leapB cs k) m
            · have hv := HD.out (by omega) (by omega)
              have HV := Lib.hid hv
              clear hv hcu
              go_wp2_with fail
              refine (rLeap_any A n c cs e k _ (hr.keep hbel) hn2 hpos (by omega) (by omega)).mono ?_
              rintro e' w2 ⟨rfl, hb2⟩
              go_wp2_with fail
              refine (rLength_any m _ _ hm1 hm12).mono ?_
              rintro e' w3 ⟨rfl, hb3⟩
              generalize mlen (leapB cs k) m = ml at *
              have hZ3 := (hZ.keep hb2).keep hb3
              have hbel3 := fr_call (fr_call hbel hb2) hb3
              go_wp2_with (refine wpList_store_blk rfl _ _ _ rfl (w.heap.size + 1) 41 _ _ rfl rfl hZ3 rfl (by kernel_rfl) (by simp [Value.oneCell']) ?_; intro w4 hZ4 hg4)
              refine bodyPost_ret (results_blk_tmp rfl _ _ _ _ rfl hZ4 Tryz.underlying41 rfl (by kernel_rfl)) rfl ⟨?_, hbel3.grown hg4 hbel3.size (by intro k hk; cases hk; omega)⟩
              rw [HV.out]
              rfl
            · clear hcu
              go_wp2_with fail
              refine (rLeap_any A n c cs e k _ (hr.keep hbel) hn2 hpos (by omega) (by omega)).mono ?_
              rintro e' w2 ⟨rfl, hb2⟩
              go_wp2_with fail
              refine (rLength_any m _ _ hm1 hm12).mono ?_
              rintro e' w3 ⟨rfl, hb3⟩
              generalize mlen (leapB cs k) m = ml at *
              go_wp2_with fail
              go_roundw
              case rel => exact ⟨m + 1, by omega, by omega, by go_num, by rw [HC.out]; go_num, by rw [HC.out]; omega, (hC.keep hb2).keep hb3, (hZ.keep hb2).keep hb3, fr_call (fr_call hbel hb2) hb3⟩
              case measure => simp [intOf]; omega
      · have hv := Lib.hid (HNo.out (by omega))
        go_wp2_with (refine wpList_store_blk rfl _ _ _ rfl (w.heap.size + 1) 41 _ _ rfl rfl hZ rfl (by kernel_rfl) (by simp [Value.oneCell']) ?_; intro w2 hZ2 hg2)
        refine bodyPost_ret (results_blk_tmp rfl _ _ _ _ rfl hZ2 Tryz.underlying41 rfl (by kernel_rfl)) rfl ⟨?_, hbel.grown hg2 hbel.size (by intro k hk; cases hk; omega)⟩
        rw [hv.out]
        rfl
end Go.Proofs.YtnppilaabobgiaaGreatDoor
end

section
namespace Go.Proofs.YtnppilaabobgiaaGreatDoor
open Go.RowKit Dl

def inV (b : Bool) (x y : Value) : Value := if b = true then x else y
theorem inV_yes (x y : Value) : inV true x y = x := rfl
theorem inV_no (x y : Value) : inV false x y = y := rfl
set_option maxRecDepth 100000 in
set_option maxHeartbeats 2000000 in
theorem rIn_any (A1 A2 : Option Addr) (n1 k1 n2 k2 : Nat) (e1 e2 last day : Int) (w : World) :
    Calls Tryz.prog 34 #[.agg #[.int .i64 e1, .slice A1 n1 k1, .int .i64 e2, .slice A2 n2 k2, .int .i64 last], .int .i64 day] w fun e' w' =>
      e' = .returned (inV (decide (day ≤ last)) (.agg #[.int .i64 e1, .slice A1 n1 k1]) (.agg #[.int .i64 e2, .slice A2 n2 k2])) ∧ Below w.heap.size w w' := by
  have g1 := fr_alloc (fr_alloc (fr_refl w) (.cells #[.int .i64 e1, .slice A1 n1 k1, .int .i64 e2, .slice A2 n2 k2, .int .i64 last] 26)) (.cells #[.int .i64 0, .slice none 0 0] 24)
  have hZ : Blk ((w.alloc (.cells #[.int .i64 e1, .slice A1 n1 k1, .int .i64 e2, .slice A2 n2 k2, .int .i64 last] 26)).alloc (.cells #[.int .i64 0, .slice none 0 0] 24)) (w.heap.size + 1) 24 #[.int .i64 0, .slice none 0 0] := Blk.new_at _ _ (by simp)
  by_cases h : day ≤ last
  · rw [decide_eq_true h, inV_yes]
    go_enter Tryz.func34, Tryz.ntmps34
    go_wp2_with (refine wpList_store_blk rfl _ _ _ rfl (w.heap.size + 1) 24 _ _ rfl rfl hZ rfl (by kernel_rfl) (by simp [Value.oneCell']) ?_; intro w2 hZ2 hg2)
    refine bodyPost_ret (results_blk1 rfl _ _ _ _ rfl hZ2 Tryz.underlying24 rfl (by kernel_rfl)) rfl ⟨rfl, g1.grown hg2 g1.size (by intro k hk; cases hk; omega)⟩
  · rw [decide_eq_false (show ¬ day ≤ last by omega), inV_no]
    go_enter Tryz.func34, Tryz.ntmps34
    go_wp2_with (refine wpList_store_blk rfl _ _ _ rfl (w.heap.size + 1) 24 _ _ rfl rfl hZ rfl (by kernel_rfl) (by simp [Value.oneCell']) ?_; intro w2 hZ2 hg2)
    refine bodyPost_ret (results_blk1 rfl _ _ _ _ rfl hZ2 Tryz.underlying24 rfl (by kernel_rfl)) rfl ⟨rfl, g1.grown hg2 g1.size (by intro k hk; cases hk; omega)⟩

end Go.Proofs.YtnppilaabobgiaaGreatDoor
end
