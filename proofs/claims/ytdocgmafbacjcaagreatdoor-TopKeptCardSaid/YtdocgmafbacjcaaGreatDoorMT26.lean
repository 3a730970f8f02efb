/- The law TopKept (by gen_zt.py). The frame of the laws that join the layers: an input reads behind the call as it did; the listed tables; a list of numbers, opened. -/
import Derived.Test.YtdocgmafbacjcaaGreatDoorMT21
import Derived.Test.YtdocgmafbacjcaaGreatDoorMT25
import Derived.Test.YtdocgmafbacjcaaGreatDoorMT12
import Derived.Test.YtdocgmafbacjcaaGreatDoorRows
import Derived.ProofKit
import Derived.LaidMore
import Derived.OpenShut
import Derived.Carry
import Derived.Stop.Joined
import Derived.Deep.Slices
import Derived.Deep.Strs
import Derived.Lib.SmallJoins
import Derived.Shelf.Vars
import Derived.HandedShaped
import Derived.Lib.LaidU8
section
namespace Go.Proofs.YtdocgmafbacjcaaGreatDoor
open Go.RowKit Go.Shelf Dl

theorem long_le (cy : List Int) (yr : Int) : longY cy yr ≤ 366 := by
 have := yearLen_pos cy yr
 unfold longY
 omega
/-- what the law has set so far -/
structure KI (w3 wr : World) (BB : Nat) (v7 v8 : Value) (g gs : Nat) (B1 B2 B3 B4 B5 B6 : Option Addr) (n1 k1 n2 k2 k3 n4 k4 n5 k5 n6 k6 wm br hr wg pc : Nat) (lim ep mn md ma yr : Int) (D : Option Addr) (m dc : Nat) (ls : List Lk) (hs : List Int) (tg : List (Int × Int)) (ho cy : List Int) (fe : List Feast) (fs : List Int) (f : Int) (ss : List Int) : Prop where
 o7 : Own wr BB v7 ss
 o8 : Own wr BB v8 (idxL ss.length)
 dj : Dj v7 v8
 dk : ∃ E ec sv, DeskE wr w3.heap.size BB (fun i => v7.ownBlock = some i ∨ v8.ownBlock = some i) g gs B1 B2 B3 B4 B5 B6 n1 k1 n2 k2 k3 n4 k4 n5 k5 n6 k6 wm br hr wg pc lim ep mn md ma yr D E m dc ss.length ec sv ss ls hs tg ho cy fe fs f
 go : GoAll fs f m ss
 ri : RisesD 0 ss
 bd : ∀ x ∈ ss, 1 ≤ x ∧ x ≤ (m : Int)
 bl : Below w3.heap.size w3 wr
 sz : BB ≤ wr.heap.size
section
variable {w3 wr wr' we : World} {BB : Nat} {v7 v8 v7' v8' : Value} {g gs : Nat} {B1 B2 B3 B4 B5 B6 : Option Addr} {n1 k1 n2 k2 k3 n4 k4 n5 k5 n6 k6 wm br hr wg pc : Nat} {lim ep mn md ma yr : Int} {D : Option Addr} {m dc : Nat} {ls : List Lk} {hs : List Int} {tg : List (Int × Int)} {ho cy : List Int} {fe : List Feast} {fs : List Int} {f : Int} {ss : List Int}
theorem KI.keep (h : KI w3 wr BB v7 v8 g gs B1 B2 B3 B4 B5 B6 n1 k1 n2 k2 k3 n4 k4 n5 k5 n6 k6 wm br hr wg pc lim ep mn md ma yr D m dc ls hs tg ho cy fe fs f ss) (hb : Below wr.heap.size wr wr') : KI w3 wr' BB v7 v8 g gs B1 B2 B3 B4 B5 B6 n1 k1 n2 k2 k3 n4 k4 n5 k5 n6 k6 wm br hr wg pc lim ep mn md ma yr D m dc ls hs tg ho cy fe fs f ss :=
 ⟨h.o7.keep hb, h.o8.keep hb, h.dj, let ⟨E, ec, sv, hd⟩ := h.dk; ⟨E, ec, sv, hd.keep hb⟩, h.go, h.ri, h.bd, fr_call h.bl hb, Nat.le_trans h.sz hb.size⟩
/-- an entry that is made leaves the law's rows alone -/
theorem enter_own {W W' : World} {B B1' base : Nat} {T : Nat → Prop} {E : Option Addr} {n ec : Nat} {sv v : Value} {ds xs : List Int} (h : DeskE W B B1' T g gs B1 B2 B3 B4 B5 B6 n1 k1 n2 k2 k3 n4 k4 n5 k5 n6 k6 wm br hr wg pc lim ep mn md ma yr D E m dc n ec sv ds ls hs tg ho cy fe fs f) (ho : Own W base v xs) (hx : Exc (fun i => i = g ∨ (Value.slice E n ec).ownBlock = some i ∨ sv.ownBlock = some i) W W') : Own W' base v xs := by
 obtain ⟨rows, hO, _, _⟩ := h.ev
 refine own_exc ho hx (fun i e hs => ?_)
 have hc : ∃ cs, W.heap[i]? = some (.cells cs 3 (0, 0)) := by
  rcases ho.2 with ⟨rfl, _⟩ | ⟨k, cap, cur, rfl, _, hh, _⟩
  ·simp [Value.ownBlock] at e
  ·obtain rfl : k = i := by simpa [Value.ownBlock] using e
   exact ⟨_, hh⟩
 obtain ⟨cs, hc⟩ := hc
 rcases hs with hs | hs | hs
 ·have hg := h.d.d
  unfold Blk at hg
  rw [hs, hg] at hc
  cases hc
 ·obtain ⟨cs1, h1⟩ := hO.cellsOf i hs
  rw [h1] at hc
  cases hc
 ·obtain ⟨cs1, h1⟩ := h.sv.cellsOf i hs
  rw [h1] at hc
  cases hc
/-- one day more -/
theorem KI.next {x : Int} {E : Option Addr} {ec : Nat} {sv : Value} (h : KI w3 wr BB v7 v8 g gs B1 B2 B3 B4 B5 B6 n1 k1 n2 k2 k3 n4 k4 n5 k5 n6 k6 wm br hr wg pc lim ep mn md ma yr D m dc ls hs tg ho cy fe fs f ss) (hg : wr.heap.size ≤ we.heap.size) (h7e : Own we BB v7 ss) (h8e : Own we BB v8 (idxL ss.length)) (hd : DeskE we w3.heap.size BB (fun i => v7.ownBlock = some i ∨ v8.ownBlock = some i) g gs B1 B2 B3 B4 B5 B6 n1 k1 n2 k2 k3 n4 k4 n5 k5 n6 k6 wm br hr wg pc lim ep mn md ma yr D E m dc (ss.length + 1) ec sv (ss ++ [x]) ls hs tg ho cy fe fs f) (hble : Below w3.heap.size w3 we)
  (h7 : Own wr' BB v7' (ss ++ [x])) (h8 : Own wr' BB v8' (idxL (ss ++ [x]).length)) (hdj : Dj v7' v8') (h7n : v7'.ownBlock = v7.ownBlock ∨ ∀ k, v7'.ownBlock = some k → we.heap.size ≤ k) (h8n : v8'.ownBlock = v8.ownBlock ∨ ∀ k, v8'.ownBlock = some k → we.heap.size ≤ k)
  (hx : Exc (fun i => v7.ownBlock = some i ∨ v8.ownBlock = some i) we wr') (hx1 : 1 ≤ x ∧ x ≤ (m : Int)) (hgo : goB fs f ss x = true) (hww : w3.heap.size ≤ BB) : KI w3 wr' BB v7' v8' g gs B1 B2 B3 B4 B5 B6 n1 k1 n2 k2 k3 n4 k4 n5 k5 n6 k6 wm br hr wg pc lim ep mn md ma yr D m dc ls hs tg ho cy fe fs f (ss ++ [x]) := by
 have hcell : ∀ {v : Value} {xs : List Int}, Own we BB v xs → ∀ i, v.ownBlock = some i → BB ≤ i ∧ ∃ cs fr, we.heap[i]? = some (.cells cs 3 fr) := fun ho i e => by
  refine ⟨own_ge ho i e, ?_⟩
  rcases ho.2 with ⟨rfl, _⟩ | ⟨k, cap, cur, rfl, _, hh, _⟩
  ·simp [Value.ownBlock] at e
  ·obtain rfl : k = i := by simpa [Value.ownBlock] using e
   exact ⟨_, _, hh⟩
 have hlen : (ss ++ [x]).length = ss.length + 1 := by simp
 refine ⟨h7, h8, hdj, ⟨E, ec, sv, ?_⟩, goAll_snoc h.go hx1 hgo, rises_snoc h.ri (fun _ => by omega) (fun hn => goB_last hgo hn), fun y hy => ?_, hx.toBelow hble (fun k e => ?_) hble.size, Nat.le_trans h.sz (Nat.le_trans hg hx.size)⟩
 ·rw [hlen]
  refine hd.exc hx (Nat.le_trans h.sz hg) (fun i hs => ?_) (fun i hi ht => ?_)
  ·rcases hs with hs | hs
   ·exact ⟨(hcell h7e i hs).1, Or.inl hs, (hcell h7e i hs).2⟩
   ·exact ⟨(hcell h8e i hs).1, Or.inr hs, (hcell h8e i hs).2⟩
  ·rcases ht with ht | ht
   ·rcases h7n with h1 | h1
    ·exact Or.inl (h1 ▸ ht)
    ·have := h1 i ht; omega
   ·rcases h8n with h1 | h1
    ·exact Or.inr (h1 ▸ ht)
    ·have := h1 i ht; omega
 ·rcases List.mem_append.1 hy with h1 | h1
  ·exact h.bd y h1
  ·rw [List.mem_singleton.1 h1]; exact hx1
 ·rcases e with e | e
  ·have := own_ge h7e k e; omega
  ·have := own_ge h8e k e; omega
end
set_option maxRecDepth 100000 in
set_option maxHeartbeats 32000000 in
theorem kept_true (A1 A2 A3 A4 A5 A6 : Option Addr) (n1 c1 n2 c2 n3 c3 n4 c4 n5 c5 n6 c6 : Nat) (lim wm ep mn md ma yr br hr wg pc : Int) (rows : List (Int × Int × Int)) (hs : List Int) (tg : List (Int × Int)) (ho cy : List Int) (fe : List Feast) (DA : Option Addr) (nd cd : Nat) (xs : List Int) (w : World) (h : SuAny w A1 A2 A3 A4 A5 A6 n1 n2 n3 n4 n5 n6 rows hs tg ho cy fe) (hf : Fm A1 n1 ∧ Fm A2 n2 ∧ Fm A3 n3 ∧ Fm A4 n4 ∧ Fm A5 n5 ∧ Fm A6 n6) (hcap : n1 ≤ c1) (hx : Rd w DA nd xs) (hkn : Known11 w) :
  Calls Tryz.prog 3 #[.agg #[.slice A1 n1 c1, .slice A2 n2 c2, .slice A3 n3 c3, .int .i64 lim, .int .i64 wm, .slice A4 n4 c4, .int .i64 ep, .slice A5 n5 c5, .int .i64 mn, .int .i64 md, .int .i64 ma, .slice A6 n6 c6, .int .i64 yr, .int .i64 br, .int .i64 hr, .int .i64 wg, .int .i64 pc], .slice DA nd cd] w fun e w' => e = .returned (.bool true) ∧ Below w.heap.size w w' := by
 have hb0 := fr_alloc (fr_refl w) (.cells #[.slice A1 n1 c1, .slice A2 n2 c2, .slice A3 n3 c3, .int .i64 lim, .int .i64 wm, .slice A4 n4 c4, .int .i64 ep, .slice A5 n5 c5, .int .i64 mn, .int .i64 md, .int .i64 ma, .slice A6 n6 c6, .int .i64 yr, .int .i64 br, .int .i64 hr, .int .i64 wg, .int .i64 pc] 35)
 have hX := Blk.new w 35 #[.slice A1 n1 c1, .slice A2 n2 c2, .slice A3 n3 c3, .int .i64 lim, .int .i64 wm, .slice A4 n4 c4, .int .i64 ep, .slice A5 n5 c5, .int .i64 mn, .int .i64 md, .int .i64 ma, .slice A6 n6 c6, .int .i64 yr, .int .i64 br, .int .i64 hr, .int .i64 wg, .int .i64 pc]
 obtain ⟨w1, hw1⟩ : ∃ w1, w.alloc (.cells #[.slice A1 n1 c1, .slice A2 n2 c2, .slice A3 n3 c3, .int .i64 lim, .int .i64 wm, .slice A4 n4 c4, .int .i64 ep, .slice A5 n5 c5, .int .i64 mn, .int .i64 md, .int .i64 ma, .slice A6 n6 c6, .int .i64 yr, .int .i64 br, .int .i64 hr, .int .i64 wg, .int .i64 pc] 35) = w1 := ⟨_, rfl⟩
 rw [hw1] at hb0 hX
 replace h := h.keep hb0
 replace hx := hx.keep hb0
 have KN := Lib.hid (fun W (hb : Below w1.heap.size w1 W) => hkn W (fr_call hb0 hb))
 have KL := fun W => lean_any A1 A2 A3 A4 A5 A6 n1 c1 n2 c2 n3 c3 n4 c4 n5 c5 n6 c6 lim wm ep mn md ma yr br hr wg pc W
 have H := Lib.hid h
 have HX := Lib.hid hx
 have HF := Lib.hid hf
 have hlX := hX.lt
 clear h hx hf hkn
 go_enter Tryz.func3, Tryz.ntmps3
 go_upto_region 1 with (fail)
 (try rw [hw1])
 clear hw1
 go_wp2_with (refine wpList_load_blk rfl _ _ rfl w.heap.size rfl _ _ hX Tryz.underlying35 rfl (by kernel_rfl) ?_)
 refine (KL _).mono ?_
 rintro e w2 ⟨b1, rfl, hl, hb2⟩
 have HL := Lib.hid hl
 clear hl KL
 cases b1 with
 | false =>
  go_wp2_with fail
  refine (KN.out _ hb2).mono ?_
  rintro e w9 ⟨rfl, hb9⟩
  go_wp2_with fail
  go_ret
  exact ⟨rfl, fr_call hb0 (fr_call hb2 hb9)⟩
 | true =>
 have hlen := HL.out rfl
 by_cases hnd : nd ≤ 8
 case neg =>
  have q0 : decide ((8 : Int) < (nd : Int)) = true := decide_eq_true (by omega)
  have q1 : decide (8 < nd) = true := decide_eq_true (by omega)
  have q2 : 8 < nd := by omega
  clear hnd
  go_wp2_with fail
  refine (KN.out _ hb2).mono ?_
  rintro e w9 ⟨rfl, hb9⟩
  go_wp2_with fail
  go_ret
  exact ⟨rfl, fr_call hb0 (fr_call hb2 hb9)⟩
 case pos =>
 have q0 : decide ((8 : Int) < (nd : Int)) = false := decide_eq_false (by omega)
 have q1 : decide (8 < nd) = false := decide_eq_false (by omega)
 have q2 : ¬ 8 < nd := by omega
 have hX2 := hX.keep hb2
 go_wp2_with (refine wpList_load_blkG (by rfl) _ _ rfl w.heap.size rfl _ _ hX2 Tryz.underlying35 rfl (by kernel_rfl) ?_)
 refine (rSuite_any A1 A2 A3 A4 A5 A6 n1 c1 n2 c2 n3 c3 n4 c4 n5 c5 n6 c6 lim wm ep mn md ma yr br hr wg pc rows hs tg ho cy fe w2 (H.out.keep hb2) (by omega)).mono ?_
 rintro e w3 ⟨b2, rfl, hfi, hb3⟩
 have HFI := Lib.hid hfi
 replace hb3 := fr_call hb2 hb3
 clear hfi q0 q1 q2
 cases b2 with
 | false =>
  go_wp2_with fail
  refine (KN.out _ hb3).mono ?_
  rintro e w9 ⟨rfl, hb9⟩
  go_wp2_with fail
  go_ret
  exact ⟨rfl, fr_call hb0 (fr_call hb3 hb9)⟩
 | true =>
 have hfine := HFI.out rfl
 clear hX2 hb2
 obtain rfl : n2 = n3 := hfine.n3.symm
 obtain ⟨ls, hls, hok⟩ := hfine.piece
 obtain ⟨wm, rfl⟩ : ∃ k : Nat, wm = (k : Int) := ⟨wm.toNat, by have := hfine.div.2.1; omega⟩
 obtain ⟨br, rfl⟩ : ∃ k : Nat, br = (k : Int) := ⟨br.toNat, by have := hfine.bill; omega⟩
 obtain ⟨hr, rfl⟩ : ∃ k : Nat, hr = (k : Int) := ⟨hr.toNat, by have := hfine.bill; omega⟩
 obtain ⟨wg, rfl⟩ : ∃ k : Nat, wg = (k : Int) := ⟨wg.toNat, by have := hfine.bill; omega⟩
 obtain ⟨pc, rfl⟩ : ∃ k : Nat, pc = (k : Int) := ⟨pc.toNat, by have := hfine.bill; omega⟩
 have hll : ls.length = n1 := by have := congrArg List.length hls; simp only [List.length_map] at this; rw [this]; exact H.out.l1
 have hSu : SuAt w3 A1 A2 A3 A4 A5 A6 n1 n2 n4 n5 n6 ls hs tg ho cy fe := by
  have h3 := H.out.keep hb3
  exact ⟨by rw [hls]; exact h3.r1, hll, h3.r2, h3.r3, h3.l3, h3.r4, h3.r5, h3.r6, h3.l6⟩
 have hSok : SuOk n1 c1 n2 n4 n5 n6 wm br hr wg pc lim ep mn md ma yr ls hs tg ho cy fe := by
  have hb := hfine.bill
  exact ⟨hok, hcap, hfine.lim, by have := hfine.div.2.1; omega, hfine.div.2.2, hfine.div.1, by omega, hfine.cal, hfine.moon, by omega, hfine.fe, hfine.yr, by omega, by omega, by omega, by omega, hfine.tg⟩
 have hX3 := hX.keep hb3
 have HSU := Lib.hid hSu
 have HSOK := Lib.hid hSok
 have HOK := Lib.hid hok
 have HFN := Lib.hid hfine
 have hlenH := Lib.hid hlen
 clear hfine hok hSok hls HFI HL H
 go_wp2_with (refine wpList_load_blk rfl _ _ rfl w.heap.size rfl _ _ hX3 Tryz.underlying35 rfl (by kernel_rfl) ?_)
 refine (Open_ok A1 A2 A3 A4 A5 A6 n1 c1 n2 c2 c3 n4 c4 n5 c5 n6 c6 wm br hr wg pc lim ep mn md ma yr ls hs tg ho cy fe w3 hSu HSOK.out HF.out.1 HF.out.2.1 HF.out.2.2.1 HF.out.2.2.2.1 HF.out.2.2.2.2.1 HF.out.2.2.2.2.2 (by have := hlenH.out; omega)).mono ?_
 rintro e w4 ⟨g, gs, B1, B2, B3, B4, B5, B6, k1, k2, k3, k4, k5, k6, D, dc, rfl, hD, hgw, hb4⟩
 obtain ⟨m, hm⟩ : ∃ m, longY cy yr = m := ⟨_, rfl⟩
 have HM := Lib.hid hm
 rw [hm] at hD
 generalize feastsY ep cy mn md ma yr fe = fs at *
 generalize firstDay ep cy yr = f at *
 have hm366 : m ≤ 366 := by rw [← hm]; exact long_le cy yr
 clear hm
 have hDE : DeskE w4 w3.heap.size w4.heap.size (fun i => (Value.slice none 0 0).ownBlock = some i ∨ (Value.slice none 0 0).ownBlock = some i) g gs B1 B2 B3 B4 B5 B6 n1 k1 n2 k2 k3 n4 k4 n5 k5 n6 k6 wm br hr wg pc lim ep mn md ma yr D none m dc 0 0 (.slice none 0 0) [] ls hs tg ho cy fe fs f := ⟨hD, rfl, ⟨[], OwnS.nil _ _ _ _, rfl, fun i d h => by simp at h⟩, OwnS.nil _ _ _ _, ⟨⟨hgw, hD.d.lt⟩, hD.s.lt, hD.r.lo, hD.days.lo (yearR_len fs f m)⟩⟩
 have hK0 : KI w3 w4 w4.heap.size (.slice none 0 0) (.slice none 0 0) g gs B1 B2 B3 B4 B5 B6 n1 k1 n2 k2 k3 n4 k4 n5 k5 n6 k6 wm br hr wg pc lim ep mn md ma yr D m dc ls hs tg ho cy fe fs f [] := ⟨Own.nil _ _, Own.nil _ _, fun k e => by simp [Value.ownBlock] at e, ⟨none, 0, _, hDE⟩, fun k d e => by simp at e, trivial, (fun x h => by cases h), hb4, Nat.le_refl _⟩
 have hBB : w3.heap.size ≤ w4.heap.size := hb4.size
 generalize hBBe : w4.heap.size = BB at *
 clear hD hDE hgw hSu
 go_wp2_with fail
 go_loopw [7, 8, 9] (fun v7 v8 u wr => ∃ (j : Nat) (ss : List Int), j ≤ nd ∧ u = .int .i64 j ∧ ss.length ≤ j ∧ KI w3 wr BB v7 v8 g gs B1 B2 B3 B4 B5 B6 n1 k1 n2 k2 k3 n4 k4 n5 k5 n6 k6 wm br hr wg pc lim ep mn md ma yr D m dc ls hs tg ho cy fe fs f ss) (fun _ _ u _ => nd - (intOf u).toNat)
 case atStart => exact ⟨0, [], Nat.zero_le _, rfl, Nat.le_refl _, hK0⟩
 case round =>
  clear hK0 hb4 hBBe
  obtain ⟨j, ss, hj, rfl, hsj, hK⟩ := hrel
  have HK := Lib.hid hK
  by_cases hlt : j < nd
  ·obtain ⟨ad, rfl, hadb, hc0⟩ := (HX.out.keep hb3).at_ hlt
   obtain ⟨x, hxe⟩ : ∃ x, xs[j]?.getD 0 = x := ⟨_, rfl⟩
   rw [hxe] at hc0
   clear hxe
   obtain ⟨Z7, c7, rfl⟩ := hK.o7.form
   have hc1 := (hK.bl.cell (p := ad.add j) (by rw [block_of_add]; exact hadb)).trans hc0
   have i1 : (0 : Int) ≤ (j : Int) := Int.natCast_nonneg j
   have i2 : (j : Int) < (nd : Int) := by omega
   have i3 : IntKind.i64.wrap ((j : Int) + 1) = ((j + 1 : Nat) : Int) := by rw [IntWalk.i64_in _ (by omega)]; omega
   obtain ⟨E, ec, sv, hdk⟩ := hK.dk
   have hba := fr_alloc (fr_refl wr) (.cells #[.int .i64 x] 3)
   have hBn := Blk.new wr 3 #[.int .i64 x]
   have hKE := Enter_any w3.heap.size BB (fun i => (Value.slice Z7 ss.length c7).ownBlock = some i ∨ u8.ownBlock = some i) g gs B1 B2 B3 B4 B5 B6 n1 k1 n2 k2 k3 n4 k4 n5 k5 n6 k6 wm br hr wg pc lim ep mn md ma yr D E m dc ss.length ec sv ss ls hs tg ho cy fe fs f x wr.heap.size (wr.alloc (.cells #[.int .i64 x] 3)) (hdk.keep hba) (fun i hi => by
    rcases hi with hi | hi
    ·have := own_lt hK.o7 i hi; have := hba.size; omega
    ·have := own_lt hK.o8 i hi; have := hba.size; omega) (Nat.le_trans hK.sz hba.size) hK.go (by omega) (by omega) (by have := hlenH.out; omega) hBn
   clear hK
   go_wp2_with fail
   refine hKE.mono ?_
   rintro e we ⟨kk, rfl, hcase⟩
   have HKa := Lib.hid (HK.out.keep hba)
   clear hKE hc1 hBn
   rcases hcase with ⟨hk, hbe⟩ | ⟨rfl, hdx, hgo, E2, ec2, sv2, hdk2, hxe⟩
   ·have j1 : (kk == 0) = false := by rw [beq_eq_false_iff_ne]; exact hk
    have j2 : (kk != 0) = true := by rw [bne_iff_ne]; exact hk
    go_wp2_with fail
    go_roundw
    case rel => exact ⟨j + 1, ss, hlt, by go_num, by omega, HKa.out.keep hbe⟩
    case measure => simp [intOf]; omega
   ·have H7 := Lib.hid (enter_own (hdk.keep hba) HKa.out.o7 hxe)
    have H8 := Lib.hid (enter_own (hdk.keep hba) HKa.out.o8 hxe)
    have hsz : wr.heap.size ≤ we.heap.size := Nat.le_trans hba.size hxe.size
    have hwB : Below w3.heap.size w3 we := by
     obtain ⟨rows, hOE, _, _⟩ := hdk.ev
     exact hxe.toBelow HKa.out.bl (fun k e => by
      rcases e with e | e | e
      ·have := hdk.lo.1.1; omega
      ·have := hOE.ge k e; omega
      ·have := hdk.sv.ge k e; omega) HKa.out.bl.size
    have hce := (hwB.cell (p := ad.add j) (by rw [block_of_add]; exact hadb)).trans hc0
    have hade : ad.block < we.heap.size := Nat.lt_of_lt_of_le hadb hwB.size
    go_upto_region 11 with (fail)
    have k1 : decide (x < 1) = false := decide_eq_false (by omega)
    have k2 : decide ((366 : Int) < x) = false := decide_eq_false (by omega)
    go_cut [86] from 57 to 86 (fun s86 wc => s86 = .bool false ∧ Below we.heap.size we wc)
    case first =>
     have hbz := fr_drew (fr_refl we)
     by_cases hsn : ss = []
     ·subst hsn
      have hkS : ∀ W, Below we.heap.size we W → W.cell? (ad.add j) = some (.int .i64 x) := fun W hb => (hb.cell (by rw [block_of_add]; exact hade)).trans hce
      refine wp_region_noPanic ?_
      refine wp_region_held_drew (S := fun W => W.cell? (ad.add j) = some (.int .i64 x)) (by kernel_rfl) (hkS _ hbz) (fun hHeld => ?_)
      generalize we.drew = wz at hbz hHeld ⊢
      -- the region, step by step, in whatever order
      refine tkH 0 ⟨some 57, .move (.tmp 1), 23, "top11.go:326", #[], none⟩ hHeld ?_
      refine tkH 1 ⟨some 58, .move (.tmp 9), 3, "top11.go:326", #[], none⟩ hHeld ?_
      refine tkH 2 ⟨some 59, .indexAddr 23 (.tmp 57) (.tmp 58), 0, "top11.go:326", #[⟨0, .data⟩, ⟨1, .data⟩], none⟩ hHeld ?_
      refine tkH 3 ⟨some 60, .load 3 (.tmp 59), 3, "top11.go:326", #[⟨2, .data⟩], none⟩ hHeld ?_
      refine tkH 4 ⟨some 61, .binOp .lss 3 (.tmp 60) (.const (.int .i64 1)) 3, 4, "top11.go:326", #[⟨3, .data⟩], none⟩ hHeld ?_
      refine tkH 5 ⟨some 62, .move (.tmp 61), 4, "top11.go:326", #[⟨4, .data⟩], none⟩ hHeld ?_
      refine tkH 6 ⟨some 63, .move (.tmp 1), 23, "top11.go:326", #[⟨5, .guard⟩], some (5, false)⟩ hHeld ?_
      refine tkH 7 ⟨some 64, .move (.tmp 9), 3, "top11.go:326", #[⟨5, .guard⟩], some (5, false)⟩ hHeld ?_
      refine tkH 8 ⟨some 65, .indexAddr 23 (.tmp 63) (.tmp 64), 0, "top11.go:326", #[⟨6, .data⟩, ⟨7, .data⟩, ⟨5, .guard⟩], some (5, false)⟩ hHeld ?_
      refine tkH 9 ⟨some 66, .load 3 (.tmp 65), 3, "top11.go:326", #[⟨8, .data⟩, ⟨5, .guard⟩], some (5, false)⟩ hHeld ?_
      refine tkH 10 ⟨some 67, .binOp .gtr 3 (.tmp 66) (.const (.int .i64 366)) 3, 4, "top11.go:326", #[⟨9, .data⟩, ⟨5, .guard⟩], some (5, false)⟩ hHeld ?_
      refine tkH 11 ⟨some 68, .pick (.tmp 62) (.const (.bool true)) (.tmp 67), 4, "top11.go:326", #[⟨5, .data⟩, ⟨10, .data⟩], none⟩ hHeld ?_
      refine tkH 12 ⟨some 69, .move (.tmp 68), 4, "top11.go:326", #[⟨11, .data⟩, ⟨5, .chain⟩], none⟩ hHeld ?_
      refine tkH 13 ⟨some 70, .move (.tmp 7), 23, "top11.go:326", #[⟨12, .guard⟩], some (12, false)⟩ hHeld ?_
      refine tkH 14 ⟨some 71, .call { callee := .builtin .len, args := #[.tmp 70], argTypes := #[23] }, 3, "top11.go:326", #[⟨13, .data⟩, ⟨12, .guard⟩], some (12, false)⟩ hHeld ?_
      refine tkH 15 ⟨some 72, .binOp .gtr 3 (.tmp 71) (.const (.int .i64 0)) 3, 4, "top11.go:326", #[⟨14, .data⟩, ⟨12, .guard⟩], some (12, false)⟩ hHeld ?_
      refine tkH 16 ⟨some 73, .move (.tmp 72), 4, "top11.go:326", #[⟨15, .data⟩, ⟨12, .chain⟩, ⟨12, .guard⟩], some (12, false)⟩ hHeld ?_
      refine tkH 17 ⟨some 74, .move (.tmp 1), 23, "top11.go:326", #[⟨16, .guard⟩], some (16, true)⟩ hHeld ?_ (v := undef) (hy := Or.inr ⟨by rfl, rfl⟩)
      refine tkH 18 ⟨some 75, .move (.tmp 9), 3, "top11.go:326", #[⟨16, .guard⟩], some (16, true)⟩ hHeld ?_ (v := undef) (hy := Or.inr ⟨by rfl, rfl⟩)
      refine tkH 19 ⟨some 76, .indexAddr 23 (.tmp 74) (.tmp 75), 0, "top11.go:326", #[⟨17, .data⟩, ⟨18, .data⟩, ⟨16, .guard⟩], some (16, true)⟩ hHeld ?_ (v := undef) (hy := Or.inr ⟨by rfl, rfl⟩)
      refine tkH 20 ⟨some 77, .load 3 (.tmp 76), 3, "top11.go:326", #[⟨19, .data⟩, ⟨16, .guard⟩], some (16, true)⟩ hHeld ?_ (v := undef) (hy := Or.inr ⟨by rfl, rfl⟩)
      refine tkH 21 ⟨some 78, .move (.tmp 7), 23, "top11.go:326", #[⟨16, .guard⟩], some (16, true)⟩ hHeld ?_ (v := undef) (hy := Or.inr ⟨by rfl, rfl⟩)
      refine tkH 22 ⟨some 79, .move (.tmp 7), 23, "top11.go:326", #[⟨16, .guard⟩], some (16, true)⟩ hHeld ?_ (v := undef) (hy := Or.inr ⟨by rfl, rfl⟩)
      refine tkH 23 ⟨some 80, .call { callee := .builtin .len, args := #[.tmp 79], argTypes := #[23] }, 3, "top11.go:326", #[⟨22, .data⟩, ⟨16, .guard⟩], some (16, true)⟩ hHeld ?_ (v := undef) (hy := Or.inr ⟨by rfl, rfl⟩)
      refine tkH 24 ⟨some 81, .binOp .sub 3 (.tmp 80) (.const (.int .i64 1)) 3, 3, "top11.go:326", #[⟨23, .data⟩, ⟨16, .guard⟩], some (16, true)⟩ hHeld ?_ (v := undef) (hy := Or.inr ⟨by rfl, rfl⟩)
      refine tkH 25 ⟨some 82, .indexAddr 23 (.tmp 78) (.tmp 81), 0, "top11.go:326", #[⟨21, .data⟩, ⟨24, .data⟩, ⟨16, .guard⟩], some (16, true)⟩ hHeld ?_ (v := undef) (hy := Or.inr ⟨by rfl, rfl⟩)
      refine tkH 26 ⟨some 83, .load 3 (.tmp 82), 3, "top11.go:326", #[⟨25, .data⟩, ⟨16, .guard⟩], some (16, true)⟩ hHeld ?_ (v := undef) (hy := Or.inr ⟨by rfl, rfl⟩)
      refine tkH 27 ⟨some 84, .binOp .leq 3 (.tmp 77) (.tmp 83) 3, 4, "top11.go:326", #[⟨20, .data⟩, ⟨26, .data⟩, ⟨16, .guard⟩], some (16, true)⟩ hHeld ?_ (v := undef) (hy := Or.inr ⟨by rfl, rfl⟩)
      refine tkH 28 ⟨some 85, .pick (.tmp 73) (.tmp 84) (.const (.bool false)), 4, "top11.go:326", #[⟨16, .data⟩, ⟨27, .data⟩, ⟨12, .guard⟩], some (12, false)⟩ hHeld ?_
      refine tkH 29 ⟨some 86, .pick (.tmp 69) (.const (.bool true)) (.tmp 85), 4, "top11.go:326", #[⟨12, .data⟩, ⟨28, .data⟩], none⟩ hHeld ?_
      refine wpAnyH_done (by kernel_rfl) ?_ _
      refine NoPanic.normal ?_
      go_wp2_with fail
      go_meet
      case rel => exact ⟨rfl, hbz⟩
     ·have hlast := goB_last hgo hsn
      have hsp : 0 < ss.length := List.length_pos_iff.2 hsn
      obtain ⟨zd, rfl, hzb, cz⟩ := H7.out.rd.at_ (show ss.length - 1 < ss.length by omega)
      have z1 : decide (x ≤ ss[ss.length - 1]?.getD 0) = false := decide_eq_false (by omega)
      have z2 : IntKind.i64.wrap ((ss.length : Int) - 1) = ((ss.length - 1 : Nat) : Int) := by rw [IntWalk.i64_in _ (by omega)]; omega
      have z3 : (0 : Int) ≤ ((ss.length - 1 : Nat) : Int) := Int.natCast_nonneg _
      have z4 : ((ss.length - 1 : Nat) : Int) < (ss.length : Int) := by omega
      have z5 : decide ((0 : Int) < (ss.length : Int)) = true := decide_eq_true (by omega)
      have z6 : decide (0 < ss.length) = true := decide_eq_true (by omega)
      have HCZ := Lib.hid cz
      clear hlast
      generalize hyy : ss[ss.length - 1]?.getD 0 = y at *
      generalize hqq : ss.length - 1 = q at *
      have hkS : ∀ W, Below we.heap.size we W → W.cell? (ad.add j) = some (.int .i64 x) ∧ W.cell? (zd.add q) = some (.int .i64 y) := fun W hb => ⟨(hb.cell (by rw [block_of_add]; exact hade)).trans hce, (hb.cell (by rw [block_of_add]; exact hzb)).trans HCZ.out⟩
      clear hyy cz
      refine wp_region_noPanic ?_
      refine wp_region_held_drew (S := fun W => W.cell? (ad.add j) = some (.int .i64 x) ∧ W.cell? (zd.add q) = some (.int .i64 y)) (by kernel_rfl) (hkS _ hbz) (fun hHeld => ?_)
      generalize we.drew = wz at hbz hHeld ⊢
      -- the region, step by step, in whatever order
      refine tkH 0 ⟨some 57, .move (.tmp 1), 23, "top11.go:326", #[], none⟩ hHeld ?_
      refine tkH 1 ⟨some 58, .move (.tmp 9), 3, "top11.go:326", #[], none⟩ hHeld ?_
      refine tkH 2 ⟨some 59, .indexAddr 23 (.tmp 57) (.tmp 58), 0, "top11.go:326", #[⟨0, .data⟩, ⟨1, .data⟩], none⟩ hHeld ?_
      refine tkH 3 ⟨some 60, .load 3 (.tmp 59), 3, "top11.go:326", #[⟨2, .data⟩], none⟩ hHeld ?_
      refine tkH 4 ⟨some 61, .binOp .lss 3 (.tmp 60) (.const (.int .i64 1)) 3, 4, "top11.go:326", #[⟨3, .data⟩], none⟩ hHeld ?_
      refine tkH 5 ⟨some 62, .move (.tmp 61), 4, "top11.go:326", #[⟨4, .data⟩], none⟩ hHeld ?_
      refine tkH 6 ⟨some 63, .move (.tmp 1), 23, "top11.go:326", #[⟨5, .guard⟩], some (5, false)⟩ hHeld ?_
      refine tkH 7 ⟨some 64, .move (.tmp 9), 3, "top11.go:326", #[⟨5, .guard⟩], some (5, false)⟩ hHeld ?_
      refine tkH 8 ⟨some 65, .indexAddr 23 (.tmp 63) (.tmp 64), 0, "top11.go:326", #[⟨6, .data⟩, ⟨7, .data⟩, ⟨5, .guard⟩], some (5, false)⟩ hHeld ?_
      refine tkH 9 ⟨some 66, .load 3 (.tmp 65), 3, "top11.go:326", #[⟨8, .data⟩, ⟨5, .guard⟩], some (5, false)⟩ hHeld ?_
      refine tkH 10 ⟨some 67, .binOp .gtr 3 (.tmp 66) (.const (.int .i64 366)) 3, 4, "top11.go:326", #[⟨9, .data⟩, ⟨5, .guard⟩], some (5, false)⟩ hHeld ?_
      refine tkH 11 ⟨some 68, .pick (.tmp 62) (.const (.bool true)) (.tmp 67), 4, "top11.go:326", #[⟨5, .data⟩, ⟨10, .data⟩], none⟩ hHeld ?_
      refine tkH 12 ⟨some 69, .move (.tmp 68), 4, "top11.go:326", #[⟨11, .data⟩, ⟨5, .chain⟩], none⟩ hHeld ?_
      refine tkH 13 ⟨some 70, .move (.tmp 7), 23, "top11.go:326", #[⟨12, .guard⟩], some (12, false)⟩ hHeld ?_
      refine tkH 14 ⟨some 71, .call { callee := .builtin .len, args := #[.tmp 70], argTypes := #[23] }, 3, "top11.go:326", #[⟨13, .data⟩, ⟨12, .guard⟩], some (12, false)⟩ hHeld ?_
      refine tkH 15 ⟨some 72, .binOp .gtr 3 (.tmp 71) (.const (.int .i64 0)) 3, 4, "top11.go:326", #[⟨14, .data⟩, ⟨12, .guard⟩], some (12, false)⟩ hHeld ?_
      refine tkH 16 ⟨some 73, .move (.tmp 72), 4, "top11.go:326", #[⟨15, .data⟩, ⟨12, .chain⟩, ⟨12, .guard⟩], some (12, false)⟩ hHeld ?_
      refine tkH 17 ⟨some 74, .move (.tmp 1), 23, "top11.go:326", #[⟨16, .guard⟩], some (16, true)⟩ hHeld ?_
      refine tkH 18 ⟨some 75, .move (.tmp 9), 3, "top11.go:326", #[⟨16, .guard⟩], some (16, true)⟩ hHeld ?_
      refine tkH 19 ⟨some 76, .indexAddr 23 (.tmp 74) (.tmp 75), 0, "top11.go:326", #[⟨17, .data⟩, ⟨18, .data⟩, ⟨16, .guard⟩], some (16, true)⟩ hHeld ?_
      refine tkH 20 ⟨some 77, .load 3 (.tmp 76), 3, "top11.go:326", #[⟨19, .data⟩, ⟨16, .guard⟩], some (16, true)⟩ hHeld ?_
      refine tkH 21 ⟨some 78, .move (.tmp 7), 23, "top11.go:326", #[⟨16, .guard⟩], some (16, true)⟩ hHeld ?_
      refine tkH 22 ⟨some 79, .move (.tmp 7), 23, "top11.go:326", #[⟨16, .guard⟩], some (16, true)⟩ hHeld ?_
      refine tkH 23 ⟨some 80, .call { callee := .builtin .len, args := #[.tmp 79], argTypes := #[23] }, 3, "top11.go:326", #[⟨22, .data⟩, ⟨16, .guard⟩], some (16, true)⟩ hHeld ?_
      refine tkH 24 ⟨some 81, .binOp .sub 3 (.tmp 80) (.const (.int .i64 1)) 3, 3, "top11.go:326", #[⟨23, .data⟩, ⟨16, .guard⟩], some (16, true)⟩ hHeld ?_
      refine tkH 25 ⟨some 82, .indexAddr 23 (.tmp 78) (.tmp 81), 0, "top11.go:326", #[⟨21, .data⟩, ⟨24, .data⟩, ⟨16, .guard⟩], some (16, true)⟩ hHeld ?_
      refine tkH 26 ⟨some 83, .load 3 (.tmp 82), 3, "top11.go:326", #[⟨25, .data⟩, ⟨16, .guard⟩], some (16, true)⟩ hHeld ?_
      refine tkH 27 ⟨some 84, .binOp .leq 3 (.tmp 77) (.tmp 83) 3, 4, "top11.go:326", #[⟨20, .data⟩, ⟨26, .data⟩, ⟨16, .guard⟩], some (16, true)⟩ hHeld ?_
      refine tkH 28 ⟨some 85, .pick (.tmp 73) (.tmp 84) (.const (.bool false)), 4, "top11.go:326", #[⟨16, .data⟩, ⟨27, .data⟩, ⟨12, .guard⟩], some (12, false)⟩ hHeld ?_
      refine tkH 29 ⟨some 86, .pick (.tmp 69) (.const (.bool true)) (.tmp 85), 4, "top11.go:326", #[⟨12, .data⟩, ⟨28, .data⟩], none⟩ hHeld ?_
      refine wpAnyH_done (by kernel_rfl) ?_ _
      refine NoPanic.normal ?_
      go_wp2_with fail
      go_meet
      case rel => exact ⟨rfl, hbz⟩
    obtain ⟨rfl, hbc⟩ := hcut
    obtain ⟨wd, hwd⟩ : ∃ w2, w2 = wc := ⟨_, rfl⟩
    subst hwd
    generalize wd = wc at *
    have hszc : wr.heap.size ≤ wc.heap.size := Nat.le_trans hsz hbc.size
    have hBc : BB ≤ wc.heap.size := Nat.le_trans HK.out.sz hszc
    have h7c := H7.out.keep hbc
    have h8c := H8.out.keep hbc
    have hcc := (hbc.cell (p := ad.add j) (by rw [block_of_add]; exact hade)).trans hce
    have hdj := HK.out.dj
    have hil := idx_len ss.length
    have hb7 := fr_alloc (fr_refl wc) (.cells #[.int .i64 x] 3)
    have hsl8 : ss.length ≤ 8 := by omega
    clear hce hade
    go_wp2_with (at_builtin; first | (refine app_int2 rfl (.tmp 87) (.tmp 92) rfl BB _ ss rfl rfl h7c (by omega) hBc ?_; intro A7 d7 w6 hO7 hg7 hn7; have hO86 := own_apart (h8c.keep hb7) hg7 hdj; have hB6 : BB ≤ w6.heap.size := Nat.le_trans (Nat.le_trans hBc hb7.size) hg7.size) | (refine app_int2 rfl (.tmp 94) (.tmp 97) rfl BB _ (idxL ss.length) rfl rfl hO86 (by omega) hB6 ?_; intro A8 d8 w8 hO8 hg8 hn8))
    have hb8 := fr_alloc (fr_refl w6) (.cells #[.int .i64 (ss.length : Int)] 3)
    have hd1 := dj_next (h8c.keep hb7) hdj hn7
    have hd2 := (dj_next (hO7.keep hb8) hd1.symm hn8).symm
    have hO7b := own_apart (hO7.keep hb8) hg8 hd1.symm
    have hxF : Exc (fun i => (Value.slice Z7 ss.length c7).ownBlock = some i ∨ u8.ownBlock = some i) wc w8 := ((((Exc.refl _ wc).alloc _).grown hg7 (fun k e => Or.inl (Or.inl e))).alloc _).grown hg8 (fun k e => Or.inl (Or.inr e))
    have h7n : (Value.slice A7 (ss.length + 1) d7).ownBlock = (Value.slice Z7 ss.length c7).ownBlock ∨ ∀ k, (Value.slice A7 (ss.length + 1) d7).ownBlock = some k → wc.heap.size ≤ k := hn7.imp id (fun h k e => Nat.le_trans hb7.size (h k e))
    have h8n : (Value.slice A8 ((idxL ss.length).length + 1) d8).ownBlock = u8.ownBlock ∨ ∀ k, (Value.slice A8 ((idxL ss.length).length + 1) d8).ownBlock = some k → wc.heap.size ≤ k := hn8.imp id (fun h k e => Nat.le_trans (Nat.le_trans (Nat.le_trans hb7.size hg7.size) hb8.size) (h k e))
    have hKF := KI.next HK.out hszc h7c h8c (hdk2.keep hbc) (fr_call hwB hbc) hO7b (by rw [List.length_append]; exact (idx_snoc ss.length) ▸ hO8) hd2 h7n h8n hxF hdx hgo hBB
    go_roundw
    case rel => exact ⟨j + 1, ss ++ [x], hlt, by go_num, by simp; omega, by rw [hil] at hKF; exact hKF⟩
    case measure => simp [intOf]; omega
  ·obtain rfl : j = nd := by omega
   obtain ⟨Z7, c7, rfl⟩ := hK.o7.form
   obtain ⟨Z8, c8, e8⟩ := hK.o8.form
   rw [idx_len] at e8
   subst e8
   obtain ⟨wp, hwp⟩ : ∃ w', w' = wr := ⟨_, rfl⟩
   subst hwp
   have hXp := (hX.keep hb3).keep hK.bl
   have hSp := Lib.hid (HSU.out.keep hK.bl)
   have hbp := fr_call hb3 hK.bl
   have hc1 := hXp.cell 1
   have HR := Lib.hid hK.ri
   have HDK := Lib.hid hK.dk
   have HGO := Lib.hid hK.go
   have HBD := Lib.hid hK.bd
   have H7 := Lib.hid hK.o7.rd
   have H8 := Lib.hid hK.o8.rd
   have HTG := Lib.hid HFN.out.tg
   have hlim := HFN.out.lim
   have hyr := inB_iff.1 HFN.out.yr
   have hcyc := calOk_parts HFN.out.cal
   have h5l := HSU.out.r5.len
   have h2l := HSU.out.r2.len
   have h3l := HSU.out.l3
   have hsl8 : ss.length ≤ 8 := by omega
   have hml : yearLen cy yr = (m : Int) := by have := HM.out; have := yearLen_pos cy yr; unfold longY at *; omega
   clear hK
   go_wp2_with fail
   go_loopw [10] (fun u wr => ∃ i : Nat, i ≤ n2 ∧ u = .int .i64 i ∧ Hid (∀ (k a : Nat) (f : Int × Int), k < i → hs[k]? = some (a : Int) → tg[k]? = some f → keepsFrom (lastsN (wNum (trainL ls a) f) (wDen (trainL ls a) f) lim) (m : Int) 0 ss = true) ∧ Below wp.heap.size wp wr) (fun u _ => n2 - (intOf u).toNat)
   case atStart => exact ⟨0, Nat.zero_le _, rfl, Lib.hid (fun k a f h => absurd h (by omega)), fr_refl _⟩
   case round =>
    clear hc1
    obtain ⟨i, hi, rfl, hall, hbr⟩ := hrel
    have hXr := hXp.keep hbr
    have hc1 := hXr.cell 1
    by_cases hlt2 : i < n2
    ·have hil : i < hs.length := by omega
     have hjl : i < tg.length := by omega
     obtain ⟨⟨x, y⟩, hx⟩ : ∃ f, tg[i]? = some f := ⟨tg[i], List.getElem?_eq_getElem hjl⟩
     have hah := HOK.out.hand hs[i] (List.getElem_mem hil)
     obtain ⟨a, ha⟩ : ∃ a : Nat, hs[i]? = some (a : Int) := ⟨hs[i].toNat, by rw [List.getElem?_eq_getElem hil]; congr 1; omega⟩
     have hab := HOK.out.hand (a : Int) (List.mem_of_getElem? ha)
     have htr := HOK.out.train (a := a) (by omega) (by omega)
     have hfx := HTG.out _ (List.mem_of_getElem? hx)
     have hSr := hSp.out.keep hbr
     obtain ⟨ah, rfl, hahb, ch0⟩ := hSr.r2.at_ hlt2
     rw [ha, Option.getD_some] at ch0
     obtain ⟨at3, rfl, hatb, ht0, ht1⟩ := hSr.r3.nth (i := i) (r := ptC (x, y)) (by simp [hx])
     have ct0 := ht0 _ rfl
     have ct1 := ht1 0 _ rfl
     simp only [Nat.zero_add] at ct1
     have i1 : (0 : Int) ≤ (i : Int) := Int.natCast_nonneg i
     have i2 : (i : Int) < (n2 : Int) := by omega
     have i3 : IntKind.i64.wrap ((i : Int) + 1) = ((i + 1 : Nat) : Int) := by rw [IntWalk.i64_in _ (by omega)]; omega
     have KT := fun W (hb : Below wr.heap.size wr W) => sTrain_ok A1 (some ah) n1 c1 n2 c2 a ls hs W (hSr.keep hb).r1 hll (hSr.keep hb).r2 hcap HOK.out (by omega) (by omega)
     have KG := fun W (hb : Below wr.heap.size wr W) => rLong_any A5 n5 c5 cy ep yr W (hSr.keep hb).r5 (by omega) hcyc.2.2 hyr.1 (by omega)
     have KK := fun At ct W (hp : RdS W At 2 ((trainL ls a).map Wh.cells)) (hb : Below wr.heap.size wr W) => Keeps_is At Z7 Z8 (trainL ls a).length ct ss.length c7 c8 (trainL ls a) (x, y) lim (m : Int) ss W hp rfl htr.2 htr.1 hfx hlim (H7.out.keep (fr_call hbr hb)) (H8.out.keep (fr_call hbr hb)) hsl8 HBD.out HR.out (by omega)
     rw [hml] at KG
     have HA := Lib.hid (show ∀ (f : Int × Int) (b : Nat), tg[i]? = some f → hs[i]? = some (b : Int) → f = (x, y) ∧ b = a from fun f b h2 h1 => ⟨by rw [hx] at h2; exact (Option.some.inj h2).symm, by rw [ha] at h1; have := Option.some.inj h1; omega⟩)
     obtain ⟨kb, hkb⟩ : ∃ b, keepsFrom (lastsN (wNum (trainL ls a) (x, y)) (wDen (trainL ls a) (x, y)) lim) (m : Int) 0 ss = b := ⟨_, rfl⟩
     rw [hkb] at KK
     have HKB := Lib.hid hkb
     simp only at KK
     generalize hps : trainL ls a = ps at *
     have HPS := Lib.hid hps
     clear hps
     have hbz := fr_drew (fr_refl wr)
     have hkS : ∀ W, Below wr.heap.size wr W → (W.cell? ⟨w.heap.size, 0, none⟩ = some (.slice A1 n1 c1) ∧ W.cell? ⟨w.heap.size, 1, none⟩ = some (.slice (some ah) n2 c2)) ∧ W.cell? (ah.add i) = some (.int .i64 a) := fun W hb => ⟨⟨(hXr.keep hb).cell 0, (hXr.keep hb).cell 1⟩, (hb.cell (by rw [block_of_add]; exact hahb)).trans ch0⟩
     clear ht0 ht1 hx hah ha hab hfx hkb
     go_upto_region 17 with (fail)
     go_cut [11, 12] from 107 to 118 (fun s11 s12 wc => ∃ At ct, s11 = .slice At ps.length ct ∧ s12 = .int .i64 0 ∧ RdS wc At 2 (ps.map Wh.cells) ∧ Below wr.heap.size wr wc)
     case first =>
      refine wp_region_noPanic ?_
      refine wp_region_held_drew (S := fun W => (W.cell? ⟨w.heap.size, 0, none⟩ = some (.slice A1 n1 c1) ∧ W.cell? ⟨w.heap.size, 1, none⟩ = some (.slice (some ah) n2 c2)) ∧ W.cell? (ah.add i) = some (.int .i64 a)) (by kernel_rfl) (hkS _ hbz) (fun hHeld => ?_)
      generalize wr.drew = wz at hbz hHeld ⊢
      -- the region, step by step, in whatever order
      refine tkH 0 ⟨some 108, .fieldAddr 35 (.tmp 2) 0, 0, "top11.go:332", #[], none⟩ hHeld ?_
      refine tkH 1 ⟨some 109, .load 25 (.tmp 108), 25, "top11.go:332", #[⟨0, .data⟩], none⟩ hHeld ?_
      refine tkH 2 ⟨some 110, .fieldAddr 35 (.tmp 2) 0, 0, "top11.go:332", #[], none⟩ hHeld ?_
      refine tkH 3 ⟨some 111, .fieldAddr 25 (.tmp 110) 1, 0, "top11.go:332", #[⟨2, .data⟩], none⟩ hHeld ?_
      refine tkH 4 ⟨some 112, .load 23 (.tmp 111), 23, "top11.go:332", #[⟨3, .data⟩], none⟩ hHeld ?_
      refine tkH 5 ⟨some 113, .move (.tmp 10), 3, "top11.go:332", #[], none⟩ hHeld ?_
      refine tkH 6 ⟨some 114, .indexAddr 23 (.tmp 112) (.tmp 113), 0, "top11.go:332", #[⟨4, .data⟩, ⟨5, .data⟩], none⟩ hHeld ?_
      refine tkH 7 ⟨some 115, .load 3 (.tmp 114), 3, "top11.go:332", #[⟨6, .data⟩], none⟩ hHeld ?_
      refine rdH 8 ⟨some 116, .call { callee := .value (.func 9), args := #[.tmp 109, .tmp 115], argTypes := #[25, 3] }, 47, "top11.go:332", #[⟨1, .data⟩, ⟨7, .data⟩], none⟩ fun K hK => ?_
      go_simp
      refine (KT _ hbz).mono ?_
      rintro e' wz ⟨At, ct, rfl, hAt, hb1⟩
      replace hbz := fr_call hbz hb1
      refine hK.out _ _ (hkS _ hbz) (fun hHeld => ?_)
      clear hK K
      (try simp only [Act.put, List.setIfInBounds_toArray, List.set_cons_zero, List.set_cons_succ])
      refine tkH 9 ⟨some 107, .move (.tmp 116), 47, "top11.go:332", #[⟨8, .data⟩], none⟩ hHeld ?_
      refine tkH 10 ⟨some 117, .extract (.tmp 107) 0, 46, "top11.go:332", #[⟨9, .data⟩], none⟩ hHeld ?_
      refine tkH 11 ⟨some 118, .extract (.tmp 107) 1, 39, "top11.go:332", #[⟨9, .data⟩, ⟨12, .gcOnly .lateStores⟩], none⟩ hHeld ?_
      refine tkH 12 ⟨some 11, .assign (.tmp 117), 46, "top11.go:332", #[⟨10, .data⟩, ⟨8, .chain⟩, ⟨0, .phase⟩, ⟨1, .phase⟩, ⟨2, .phase⟩, ⟨3, .phase⟩, ⟨4, .phase⟩, ⟨5, .phase⟩, ⟨6, .phase⟩, ⟨7, .phase⟩, ⟨8, .phase⟩, ⟨9, .phase⟩, ⟨10, .phase⟩, ⟨11, .textOnly .lateStores⟩], none⟩ hHeld ?_
      refine tkH 13 ⟨some 12, .assign (.tmp 118), 39, "top11.go:332", #[⟨11, .data⟩, ⟨12, .chain⟩, ⟨0, .phase⟩, ⟨1, .phase⟩, ⟨2, .phase⟩, ⟨3, .phase⟩, ⟨4, .phase⟩, ⟨5, .phase⟩, ⟨6, .phase⟩, ⟨7, .phase⟩, ⟨8, .phase⟩, ⟨9, .phase⟩, ⟨10, .phase⟩, ⟨11, .phase⟩, ⟨12, .phase⟩], none⟩ hHeld ?_
      refine wpAnyH_done (by kernel_rfl) ?_ _
      refine NoPanic.normal ?_
      go_wp2_with fail
      go_meet
      case rel => exact ⟨At, ct, rfl, rfl, hAt, hbz⟩
     obtain ⟨At, ct, rfl, rfl, hAt, hbc⟩ := hcut
     obtain ⟨wd, hwd⟩ : ∃ w2, w2 = wc := ⟨_, rfl⟩
     subst hwd
     generalize wd = wc at *
     clear hkS hc1
     have hXc := hXr.keep hbc
     have hct0 := (hbc.cell (p := at3.add (i * 2)) (by rw [block_of_add]; exact hatb)).trans ct0
     have hct1 := (hbc.cell (p := ⟨(at3.add (i * 2)).block, (at3.add (i * 2)).off + 1, none⟩) (by show (at3.add (i * 2)).block < _; rw [block_of_add]; exact hatb)).trans ct1
     have hcc := fun j => hXc.cell j
     have hbz2 := fr_drew (fr_refl wc)
     have hkS : ∀ W, Below wc.heap.size wc W → ((W.cell? ⟨w.heap.size, 2, none⟩ = some (.slice (some at3) n2 c3) ∧ W.cell? ⟨w.heap.size, 3, none⟩ = some (.int .i64 lim)) ∧ (W.cell? ⟨w.heap.size, 6, none⟩ = some (.int .i64 ep) ∧ W.cell? ⟨w.heap.size, 7, none⟩ = some (.slice A5 n5 c5)) ∧ W.cell? ⟨w.heap.size, 12, none⟩ = some (.int .i64 yr)) ∧ W.cell? (at3.add (i * 2)) = some (.int .i64 x) ∧ W.cell? ⟨(at3.add (i * 2)).block, (at3.add (i * 2)).off + 1, none⟩ = some (.int .i64 y) := fun W hb => ⟨⟨⟨(hXc.keep hb).cell 2, (hXc.keep hb).cell 3⟩, ⟨(hXc.keep hb).cell 6, (hXc.keep hb).cell 7⟩, (hXc.keep hb).cell 12⟩, ((fr_call hbc hb).cell (p := at3.add (i * 2)) (by rw [block_of_add]; exact hatb)).trans ct0, ((fr_call hbc hb).cell (p := ⟨(at3.add (i * 2)).block, (at3.add (i * 2)).off + 1, none⟩) (by show (at3.add (i * 2)).block < _; rw [block_of_add]; exact hatb)).trans ct1⟩
     clear hcc hct0 hct1
     go_wp2_with fail
     refine wp_region_noPanic ?_
     refine wp_region_held_drew (S := fun W => ((W.cell? ⟨w.heap.size, 2, none⟩ = some (.slice (some at3) n2 c3) ∧ W.cell? ⟨w.heap.size, 3, none⟩ = some (.int .i64 lim)) ∧ (W.cell? ⟨w.heap.size, 6, none⟩ = some (.int .i64 ep) ∧ W.cell? ⟨w.heap.size, 7, none⟩ = some (.slice A5 n5 c5)) ∧ W.cell? ⟨w.heap.size, 12, none⟩ = some (.int .i64 yr)) ∧ W.cell? (at3.add (i * 2)) = some (.int .i64 x) ∧ W.cell? ⟨(at3.add (i * 2)).block, (at3.add (i * 2)).off + 1, none⟩ = some (.int .i64 y)) (by kernel_rfl) (hkS _ hbz2) (fun hHeld => ?_)
     generalize wc.drew = wz at hbz2 hHeld ⊢
     -- the region, step by step, in whatever order
     refine tkH 0 ⟨some 120, .move (.tmp 11), 46, "top11.go:333", #[], none⟩ hHeld ?_
     refine tkH 1 ⟨some 121, .fieldAddr 35 (.tmp 2) 1, 0, "top11.go:333", #[], none⟩ hHeld ?_
     refine tkH 2 ⟨some 122, .load 26 (.tmp 121), 26, "top11.go:333", #[⟨1, .data⟩], none⟩ hHeld ?_
     refine tkH 3 ⟨some 123, .move (.tmp 10), 3, "top11.go:333", #[], none⟩ hHeld ?_
     refine tkH 4 ⟨some 124, .indexAddr 26 (.tmp 122) (.tmp 123), 0, "top11.go:333", #[⟨2, .data⟩, ⟨3, .data⟩], none⟩ hHeld ?_
     refine tkH 5 ⟨some 125, .load 52 (.tmp 124), 52, "top11.go:333", #[⟨4, .data⟩], none⟩ hHeld ?_
     refine tkH 6 ⟨some 126, .fieldAddr 35 (.tmp 2) 2, 0, "top11.go:333", #[], none⟩ hHeld ?_
     refine tkH 7 ⟨some 127, .load 3 (.tmp 126), 3, "top11.go:333", #[⟨6, .data⟩], none⟩ hHeld ?_
     refine tkH 8 ⟨some 128, .move (.tmp 7), 23, "top11.go:333", #[], none⟩ hHeld ?_
     refine tkH 9 ⟨some 129, .move (.tmp 8), 23, "top11.go:333", #[], none⟩ hHeld ?_
     refine tkH 10 ⟨some 130, .fieldAddr 35 (.tmp 2) 4, 0, "top11.go:333", #[], none⟩ hHeld ?_
     refine tkH 11 ⟨some 131, .load 30 (.tmp 130), 30, "top11.go:333", #[⟨10, .data⟩], none⟩ hHeld ?_
     refine tkH 12 ⟨some 132, .fieldAddr 35 (.tmp 2) 7, 0, "top11.go:333", #[], none⟩ hHeld ?_
     refine tkH 13 ⟨some 133, .load 3 (.tmp 132), 3, "top11.go:333", #[⟨12, .data⟩], none⟩ hHeld ?_
     refine rdH 14 ⟨some 134, .call { callee := .value (.func 11), args := #[.tmp 131, .tmp 133], argTypes := #[30, 3] }, 3, "top11.go:333", #[⟨11, .data⟩, ⟨13, .data⟩], none⟩ fun K hK => ?_
     go_simp
     refine (KG _ (fr_call hbc hbz2)).mono ?_
     rintro e' wz ⟨rfl, hb1⟩
     replace hbz2 := fr_call hbz2 hb1
     refine hK.out _ _ (hkS _ hbz2) (fun hHeld => ?_)
     clear hK K
     (try simp only [Act.put, List.setIfInBounds_toArray, List.set_cons_zero, List.set_cons_succ])
     refine rdH 15 ⟨some 135, .call { callee := .value (.func 10), args := #[.tmp 120, .tmp 125, .tmp 127, .tmp 128, .tmp 129, .tmp 134], argTypes := #[46, 52, 3, 23, 23, 3] }, 49, "top11.go:333", #[⟨0, .data⟩, ⟨5, .data⟩, ⟨7, .data⟩, ⟨8, .data⟩, ⟨9, .data⟩, ⟨14, .data⟩, ⟨14, .chain⟩], none⟩ fun K hK => ?_
     go_simp
     refine (KK At ct _ (hAt.keep hbz2) (fr_call hbc hbz2)).mono ?_
     rintro e' wz ⟨rfl, hb1⟩
     replace hbz2 := fr_call hbz2 hb1
     refine hK.out _ _ (hkS _ hbz2) (fun hHeld => ?_)
     clear hK K
     (try simp only [Act.put, List.setIfInBounds_toArray, List.set_cons_zero, List.set_cons_succ])
     refine tkH 16 ⟨some 119, .move (.tmp 135), 49, "top11.go:333", #[⟨15, .data⟩], none⟩ hHeld ?_
     refine tkH 17 ⟨some 136, .extract (.tmp 119) 0, 4, "top11.go:333", #[⟨16, .data⟩], none⟩ hHeld ?_
     refine tkH 18 ⟨some 137, .extract (.tmp 119) 1, 39, "top11.go:333", #[⟨16, .data⟩, ⟨19, .gcOnly .lateStores⟩], none⟩ hHeld ?_
     refine tkH 19 ⟨some 13, .assign (.tmp 136), 4, "top11.go:333", #[⟨17, .data⟩, ⟨15, .chain⟩, ⟨0, .phase⟩, ⟨1, .phase⟩, ⟨2, .phase⟩, ⟨3, .phase⟩, ⟨4, .phase⟩, ⟨5, .phase⟩, ⟨6, .phase⟩, ⟨7, .phase⟩, ⟨8, .phase⟩, ⟨9, .phase⟩, ⟨10, .phase⟩, ⟨11, .phase⟩, ⟨12, .phase⟩, ⟨13, .phase⟩, ⟨14, .phase⟩, ⟨15, .phase⟩, ⟨16, .phase⟩, ⟨17, .phase⟩, ⟨18, .textOnly .lateStores⟩], none⟩ hHeld ?_
     refine tkH 20 ⟨some 14, .assign (.tmp 137), 39, "top11.go:333", #[⟨18, .data⟩, ⟨19, .chain⟩, ⟨0, .phase⟩, ⟨1, .phase⟩, ⟨2, .phase⟩, ⟨3, .phase⟩, ⟨4, .phase⟩, ⟨5, .phase⟩, ⟨6, .phase⟩, ⟨7, .phase⟩, ⟨8, .phase⟩, ⟨9, .phase⟩, ⟨10, .phase⟩, ⟨11, .phase⟩, ⟨12, .phase⟩, ⟨13, .phase⟩, ⟨14, .phase⟩, ⟨15, .phase⟩, ⟨16, .phase⟩, ⟨17, .phase⟩, ⟨18, .phase⟩, ⟨19, .phase⟩], none⟩ hHeld ?_
     refine wpAnyH_done (by kernel_rfl) ?_ _
     refine NoPanic.normal ?_
     replace hbz2 := fr_call hbr (fr_call hbc hbz2)
     cases kb with
     | false =>
      go_wp2_with fail
      refine (KN.out _ (fr_call hbp hbz2)).mono ?_
      rintro e w9 ⟨rfl, hb9⟩
      go_wp2_with fail
      go_ret
      exact ⟨rfl, fr_call hb0 (fr_call (fr_call hbp hbz2) hb9)⟩
     | true =>
      go_wp2_with fail
      go_roundw
      case rel =>
       refine ⟨i + 1, hlt2, by go_num, Lib.hid (fun k b f hk h1 h2 => ?_), hbz2⟩
       by_cases hki : k < i
       ·exact hall.out k b f hki h1 h2
       ·obtain rfl : k = i := by omega
        obtain ⟨rfl, rfl⟩ := HA.out f b h2 h1
        rw [HPS.out]
        exact HKB.out
      case measure => simp [intOf]; omega
    ·obtain rfl : i = n2 := by omega
     have hdq := HDK.out
     obtain ⟨E, ec, sv, hdk⟩ := hdq
     have hall2 : ∀ (k a : Nat) (f : Int × Int) (day : Int), hs[k]? = some (a : Int) → tg[k]? = some f → 0 ≤ day → day ≤ (m : Int) → -lim ≤ offN (wNum (trainL ls a) f) (wDen (trainL ls a) f) (day - lastD ss day) ∧ offN (wNum (trainL ls a) f) (wDen (trainL ls a) f) (day - lastD ss day) ≤ lim := fun k a f day h1 h2 h3 h4 => by
      have hkl : k < hs.length := (List.getElem?_eq_some_iff.1 h1).1
      have hab := HOK.out.hand (a : Int) (List.mem_of_getElem? h1)
      have htr := HOK.out.train (a := a) (by omega) (by omega)
      exact kept_off htr.1 htr.2.2 (HTG.out _ (List.mem_of_getElem? h2)) hlim.1 HR.out (hall.out k a f (by omega) h1 h2) h3 h4
     have hnb := hlenH.out
     have KA := ask_wrong (hdk.keep hbr) HGO.out (by omega) (by omega) (by omega) HOK.out (fun x hx => by have := HBD.out x hx; omega) HR.out HTG.out hlim hall2
     clear hall2 hdk
     go_wp2_with fail
     refine KA.mono ?_
     rintro e we ⟨Aw, cw, rfl, hAw, hbe⟩
     obtain ⟨aw, rfl, hawb, hcw⟩ := hAw.at_ (show 0 < 1 by omega)
     replace hcw : we.cell? aw = some (.int .i64 0) := hcw
     have hbw := fr_call hbp (fr_call hbr hbe)
     clear KA
     go_wp2_with fail
     refine (KN.out _ hbw).mono ?_
     rintro e w9 ⟨rfl, hb9⟩
     go_wp2_with fail
     go_ret
     exact ⟨rfl, fr_call hb0 (fr_call hbw hb9)⟩
end Go.Proofs.YtdocgmafbacjcaaGreatDoor
end

section
namespace Go.Proofs.YtdocgmafbacjcaaGreatDoor
open Go.ChangeShapes Go.WideShapes Go.ChangeAt Go.WideMaps Go.WideElems Go.RowKit

theorem own_none : ownKnob Tryz.prog.godebug = none := by kernel_rfl
theorem laid_out : laidOutB Tryz.prog = true := by kernel_rfl

theorem trodAll_stays {H : Type} {enc : TypeId × Value → H} {W W' : World} (hb : Below W.heap.size W W') (ts : List TypeId) : ∀ (vs : List Value) (ds : List (DataW H)) (ps : List MemPlace),
  (∀ t ∈ ts, Tryz.prog.readableRec t = true ∧ t < Tryz.prog.types.size) → (∀ p ∈ ps, p.block < W.heap.size) →
  DataW.TrodAll enc Tryz.prog W 0 (fun _ => true) true ts vs ds ps → DataW.TrodAll enc Tryz.prog W' 0 (fun b => decide (b < W.heap.size)) true ts vs ds ps := by
 induction ts with
 | nil =>
  intro vs ds ps _ _ h
  obtain ⟨rfl, rfl, rfl⟩ := trodAll_nil h
  exact trodAll_mk0
 | cons t ts ih =>
  intro vs ds ps hall hlt h
  obtain ⟨v, vs', d, ds', p, q, rfl, rfl, rfl, h0, hr⟩ := trodAll_cons h
  have ht := hall t (List.mem_cons_self ..)
  exact trodAll_cons_mk (Below.trod laid_out ht.1 ht.2 h0 hb (fun x hx => hlt x (List.mem_append_left _ hx)))
   (ih vs' ds' q (fun t' h' => hall t' (List.mem_cons_of_mem _ h')) (fun x hx => hlt x (List.mem_append_right _ hx)) hr)
noncomputable def tyOk (t : TypeId) : Bool := Tryz.prog.readableRec t && decide (t < Tryz.prog.types.size)
theorem tyOk_all {ts : List TypeId} (h : ts.all tyOk = true) : ∀ t ∈ ts, Tryz.prog.readableRec t = true ∧ t < Tryz.prog.types.size := fun t ht => by
 have := List.all_eq_true.1 h t ht
 unfold tyOk at this
 simp only [Bool.and_eq_true, decide_eq_true_eq] at this
 exact this

theorem law_post {H : Type} {enc : TypeId × Value → H} {f : Func} {s : ChangeSpec} (hpar : f.params.toList.all tyOk = true) (hrt : f.resultTypes = #[4]) (hvars : s.vars = [])
  {W W' : World} {args : Array Value} {ds gs : List (DataW H)} {before : List MemPlace} (hW : DataW.Whole enc Tryz.prog f.params.toList s.vars false W args.toList ds gs before)
  (hres : (s.fn H (ds ++ [])).results = [.lit (.bool true)]) (hargs : (s.fn H (ds ++ [])).args = ds) (hv : (s.fn H (ds ++ [])).vars = []) (hb : Below W.heap.size W W') :
  s.post enc Tryz.prog f false true false false W args (.bool true) W' := by
 have hlt := hW.lt
 have hW2 := hW
 obtain ⟨p, q, hA, hV, rfl, _, _⟩ := hW2
 have hq : gs = [] ∧ q = [] := by
  rw [hvars] at hV
  exact trodVars_none hV
 obtain ⟨rfl, rfl⟩ := hq
 refine ⟨ds, [], p ++ [], [], p, [], hW, ?_, ?_, ?_, hb.frame _, fun h => by cases h⟩
 ·rw [hres, hrt]
  exact trodAll_mk1 (shut_bool Tryz.underlying4 _)
 ·rw [hargs]
  exact trodAll_stays hb _ _ _ _ (tyOk_all hpar) (fun x hx => hlt x (by simpa using hx)) hA
 ·rw [hv, hvars]
  exact rfl

theorem gPow : Tryz.prog.globalNamed "internal/strconv.uint64pow10" = some 1 := by kernel_rfl
theorem tPow : (Tryz.prog.globals[1]?).map (·.type) = some 338 := by kernel_rfl
end Go.Proofs.YtdocgmafbacjcaaGreatDoor
namespace Go.Proofs.YtdocgmafbacjcaaGreatDoor
open Go.ChangeShapes Go.WideShapes Go.ChangeAt Go.WideMaps Go.WideElems Go.RowKit Go.Joins Go.Deep
set_option maxRecDepth 100000
theorem cell_lt {w : World} {p : Addr} {v : Value} (h : w.cell? p = some v) : p.block < w.heap.size := by
 rcases Nat.lt_or_ge p.block w.heap.size with hl | hg
 ·exact hl
 ·unfold World.cell? at h
  rw [Array.getElem?_eq_none hg] at h
  cases h

section
variable {H : Type} {enc : TypeId × Value → H} {W : World} {spare : Nat → Bool} {held : Bool} {b : Nat}

theorem rd_open {fuel : Nat} {cs : List Value} {x : DataW H × List MemPlace} (h : DataW.trod enc Tryz.prog W b spare held fuel 23 cs = some x) :
  ∃ A n c xs, cs = [.slice A n c] ∧ Rd W A n xs ∧ n ≤ 9223372036854775807 := by
 rcases open_ints Tryz.underlying23 Tryz.underlying3 (by kernel_rfl) h with ⟨rfl, _⟩ | ⟨a, len, cap, zs, rfl, _, hl, hm, hz, _, hc, _⟩
 ·exact ⟨none, 0, 0, [], rfl, Rd.nil_ _ _, by omega⟩
 ·have hle : len ≤ zs.length := by rw [hz]; split <;> omega
  refine ⟨some a, len, cap, zs.take len, rfl, ⟨by rw [List.length_take]; omega, fun hn => ⟨a, rfl, ?_, fun j hj => ?_⟩⟩, by unfold maxLen at hm; omega⟩
  ·have := cell_lt (hc 0 (by omega))
   rw [block_of_add] at this
   exact this
  ·rw [hc j (by omega), List.getElem?_take, if_pos hj]
   simp [List.getD]

theorem ints_open {r : Reach} {b0 : Nat} {v : Value} {d : DataW H} {p : List MemPlace} (hv : Value.okWide Tryz.prog W r b0 23 v) (h : DataW.Trod enc Tryz.prog W b spare held 23 v d p) :
  ∃ (A : Option Addr) (n c : Nat) (xs : List Int), v = .slice A n c ∧ Rd W A n xs ∧ n ≤ 9223372036854775807 := by
 obtain ⟨fuel, hf⟩ := h
 have hcell : v.cells.toList = [v] := by
  simp only [Value.okWide, Tryz.underlying23] at hv
  cases v <;> simp [Cell.okWide, Cell.ok] at hv <;> rfl
 rw [hcell] at hf
 obtain ⟨A, n, c, xs, hc, hr, hn⟩ := rd_open hf
 cases hc
 exact ⟨A, n, c, xs, rfl, hr, hn⟩
end
end Go.Proofs.YtdocgmafbacjcaaGreatDoor
namespace Go.Proofs.YtdocgmafbacjcaaGreatDoor
open Go.ChangeShapes Go.WideShapes Go.ChangeAt Go.WideMaps Go.WideElems Go.RowKit
set_option maxRecDepth 100000

/-- the kit's wrap with a premise on the first world, the world's shape kept -/
theorem change_and_shaped {H : Type} {enc : TypeId × Value → H} {a : Assume} {C : Checked} {os : Os} {f : FuncId} {fn : Func} {s : ChangeSpec} {conds : List PathCond} {apart fresh handsOn again : Bool} {X : World → Array Value → Prop}
  (hX : ∀ (w w' : World) (args : Array Value), w.heap = w'.heap → X w args → X w' args)
  (own : ownKnob C.prog.godebug = none) (started : os.Started) (noInit : C.prog.inits.idxOf? f = none) (hfn : C.prog.funcs[f]? = some fn)
  (witness : ∃ (w : World) (tape : Tape) (i : Input), w.os = os ∧ (w.forCall tape i).Shaped C.prog ∧ i.vars = [] ∧ Input.okWide C.prog (w.forCall tape i) .any w.heap.size f i ∧
   ((s.pre enc C.prog fn conds apart (w.forCall tape i).memory i.args ∧ X (w.forCall tape i).memory i.args) ∧ sizedMet enc C.prog fn (OpenSpec.ofChange s) apart (w.forCall tape i).memory i.args) ∧ a.holds C.prog (lone (Frame.enter C.prog f i.args .normal) [] (w.forCall tape i)))
  (contract : ∀ (W : World) (base : Nat) (args : Array Value) (ds gs : List (DataW H)) (before : List MemPlace),
   (∀ (j : Nat) t v, fn.params[j]? = some t → args[j]? = some v → Value.okWide C.prog W .any base t v) →
   DataW.Whole enc C.prog fn.params.toList s.vars apart W args.toList ds gs before → X W args → W.ShapedOpen C.prog →
   Calls C.prog f args W fun e W' => ∃ v, e = .returned v ∧ s.post enc C.prog fn apart fresh handsOn again W args v W') :
  ReturnsInHanded a C os f .any (fun w args => (s.pre enc C.prog fn conds apart w args ∧ X w args) ∧ sizedMet enc C.prog fn (OpenSpec.ofChange s) apart w args) (s.post enc C.prog fn apart fresh handsOn again) := by
 refine returnsInHanded_of_calls own started noInit witness ?_
 intro w tape i _ hsh _ hok hpre _
 obtain ⟨_, _, _, fn', hfn', _, _, _, _, hval⟩ := hok
 have e : fn' = fn := Option.some.inj (hfn'.symm.trans hfn)
 subst e
 obtain ⟨⟨⟨ds, gs, before, hw, _⟩, hx⟩, _⟩ := hpre
 have hw' := DataW.Whole.of_heap (w' := w.forCall tape i) (by rfl) hw
 refine (contract (w.forCall tape i) w.heap.size i.args ds gs before hval hw' (hX _ _ _ (by rfl) hx) hsh).mono fun e W' ⟨v, he, hp⟩ => ?_
 subst he
 exact ChangeSpec.post_blind hp

theorem maxP_of {W : World} (h : W.ShapedOpen Tryz.prog) : MaxP W :=
 cell_of_shapedOpen_int (zero := #[.int .i64 0]) (t := 3) h (of_decide_eq_true (by kernel_rfl)) (by kernel_rfl) rfl (by kernel_rfl) (by kernel_rfl) Tryz.underlying3

/-- the variables that the rows of the texts list -/
def laidT : List (String × DataW Unit) := [("math/bits.deBruijn32tab", Rows.laid_math_bits_deBruijn32tab), ("math/bits.deBruijn64tab", Rows.laid_math_bits_deBruijn64tab), ("internal/strconv.uint64pow10", Rows.laid_internal_strconv_uint64pow10), ("unicode/utf8.acceptRanges", Rows.laid_unicode_utf8_acceptRanges), ("unicode/utf8.first", Rows.laid_unicode_utf8_first)]
/-- a start for the witness: the pinned table put into the door's world -/
noncomputable def doorT (os : Os) : World :=
 { World.doorLaid Tryz.prog 24 os with heap := (World.doorLaid Tryz.prog 24 os).heap.modify 4 fun
  | .cells _ t frozen => .cells (Lib.firstTab.map fun z => Value.int .u8 z).toArray t frozen
  | o => o }
theorem doorT_met (os : Os) (args : Array Value) : laidMetH Tryz.prog laidT ((doorT os).forCall (fun _ _ => 0) ⟨#[], args, []⟩).memory :=
 laidMetH_of_parts3 (fuel := 8) (laidMet_of_run' 8 (by kernel_rfl) (by kernel_rfl)) (by kernel_rfl) (by kernel_rfl)
theorem tabT_of_laid {W : World} (h : laidMetH Tryz.prog laidT W) : TabP W := by
 rw [MakeChecks.laidMetH_plain _ _ _ (by kernel_rfl)] at h
 obtain ⟨ps, ⟨g0, t0, cs0, f0, p0, q0, hg0, ht0, hv0, hd0, ⟨g1, t1, cs1, f1, p1, q1, hg1, ht1, hv1, hd1, ⟨g2, t2, cs2, f2, p2, q2, hg2, ht2, hv2, hd2, _, _⟩, _⟩, _⟩, _, _⟩ := h
 obtain rfl := Option.some.inj (gPow.symm.trans hg2)
 obtain rfl := Option.some.inj (tPow.symm.trans ht2)
 have hc := Lib.cells_of_tab (zs := Lib.pow10Tab) (k := .u64) Tryz.underlying338 Tryz.underlying322 (by kernel_rfl) (by kernel_rfl) hd2
 unfold TabP Lib.TabIs
 rw [hv2]
 rw [← hc]
end Go.Proofs.YtdocgmafbacjcaaGreatDoor
end
