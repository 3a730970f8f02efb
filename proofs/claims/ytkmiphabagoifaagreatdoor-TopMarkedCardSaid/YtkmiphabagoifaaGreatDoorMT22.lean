/- Walk, package journeyman: numbers in decimal, with a blank between two. Walks, package journeyman: the answer of a line (by gen_ym.py). Walk: strings.Lines, an iterator. Walk, package journeyman: Console. Walk, package journeyman: Console (by gen_yp.py). -/
import Derived.Test.YtkmiphabagoifaaGreatDoorMT21
import Derived.LoopIn
import Derived.Test.YtkmiphabagoifaaGreatDoorMT13
section
namespace Go.Proofs.YtkmiphabagoifaaGreatDoor
open Go.RowKit Go.Shelf Dl

def itoaR (xs : List Int) : List (List Value) := xs.map (fun x => [strV (Lib.itoa x)])
def joinedL (xs : List Int) : List UInt8 := Lib.join (xs.map Lib.itoa) [32]
set_option maxRecDepth 100000 in
set_option maxHeartbeats 8000000 in
theorem joined_ok (A : Option Addr) (n c : Nat) (xs : List Int) (w : World) (hr : Rd w A n xs) (hn : 1 ≤ n ∧ n ≤ 1000) (hx : ∀ x ∈ xs, 0 ≤ x ∧ x ≤ 1000000000) (hlen : (joinedL xs).length ≤ 1000000) (hT : TabP w) :
  Calls Tryz.prog 168 #[.slice A n c] w fun e w' => e = .returned (.string ⟨(joinedL xs).toArray⟩) ∧ Below w.heap.size w w' := by
 have HL := Lib.hid hr.len
 go_enter Tryz.func168, Tryz.ntmps168
 go_wp2_with fail
 go_loopw [3, 8] (fun v i wr => ∃ j : Nat, j ≤ n ∧ i = .int .i64 j ∧ OwnS wr w.heap.size 9 1 v (itoaR (xs.take j)) ∧ Below w.heap.size w wr) (fun _ i _ => n - (intOf i).toNat)
 case atStart => exact ⟨0, Nat.zero_le _, rfl, OwnS.nil _ _ _ _, fr_refl _⟩
 case round =>
  obtain ⟨j, hj, rfl, hown, hbr⟩ := hrel
  have hlj : (itoaR (xs.take j)).length = j := by unfold itoaR; rw [List.length_map, List.length_take]; have := HL.out; omega
  have HLJ := Lib.hid hlj
  obtain ⟨B, bc, rfl⟩ := hown.form
  rw [hlj] at hown ⊢
  clear hlj
  by_cases hlt : j < n
  ·have hjl : j < xs.length := by have := HL.out; omega
   obtain ⟨ad, rfl, hab, hc0⟩ := (hr.keep hbr).at_ hlt
   have hxb := hx _ (List.getElem_mem hjl)
   have HSU : Hid (itoaR (xs.take (j + 1)) = itoaR (xs.take j) ++ [[strV (Lib.itoa xs[j])]]) := Lib.hid (by unfold itoaR; rw [List.take_succ_eq_append_getElem hjl, List.map_append]; rfl)
   rw [show xs[j]?.getD 0 = xs[j] by simp [hjl]] at hc0
   generalize xs[j] = x at *
   have i1 : (j : Int) < (n : Int) := by omega
   clear hr hx
   go_wp2_with fail
   refine (itoa_any x _ hxb.1 (by omega) (hT.keep hbr)).mono ?_
   rintro e w2 ⟨rfl, hb2⟩
   have hbw := fr_call hbr hb2
   have hown2 := hown.keep hb2
   have hge := hown2.ge
   clear hown hc0
   go_wp2_with (at_builtin; refine app_row rfl (.tmp 12) (.tmp 15) rfl Tryz.underlying288 info_string rfl (by omega) (by omega) w.heap.size _ (itoaR (xs.take j)) rfl rfl hown2 (r := [strV (Lib.itoa x)]) rfl (by intro u hu; simp only [List.mem_cons, List.not_mem_nil, or_false] at hu; rcases hu with rfl; rfl) (by rw [HLJ.out]; omega) hbw.size ?_; intro B2 cap2 w3 hown3 hg3; rw [HLJ.out] at hown3 ⊢)
   have ha := fr_alloc hbw (.cells [strV (Lib.itoa x)].toArray 9)
   refine ⟨⟨j + 1, hlt, by go_num, by rw [HSU.out]; exact hown3, ha.grown hg3 ha.size hge⟩, ?_⟩
   simp [intOf]; omega
  ·obtain rfl : j = n := by omega
   obtain ⟨g, rfl, hg, hcap⟩ := hown.addr (by rw [HLJ.out]; omega)
   have htk : xs.take j = xs := List.take_of_length_le (by have := HL.out; omega)
   rw [htk] at hown HLJ
   have hrd := hown.rd
   have hmm : (xs.map (fun x => (⟨(Lib.itoa x).toArray⟩ : ByteArray))).map (·.data.toList) = xs.map Lib.itoa := by rw [List.map_map]; rfl
   have hjn := Tryz.strings_Join g 0 bc (xs.map (fun x => (⟨(Lib.itoa x).toArray⟩ : ByteArray))) ⟨#[32]⟩ wr (fun k s hs => by
    rw [List.getElem?_map] at hs
    obtain ⟨x, hx2, rfl⟩ := Option.map_eq_some_iff.1 hs
    obtain ⟨ad, e, _, _, hc⟩ := hrd.at_ (i := k) (r := [strV (Lib.itoa x)]) (by unfold itoaR; rw [List.getElem?_map, hx2]; rfl)
    cases e
    have := hc 0 _ rfl
    rw [add_lit, Nat.mul_one, Nat.add_zero] at this
    exact this) hg (by rw [List.length_map, HL.out]; omega) (by rw [List.length_map, HL.out]; exact hcap) (by rw [hmm]; exact Nat.le_trans hlen (by decide))
   rw [hmm, List.length_map, HL.out] at hjn
   have hj2 : ByteArray.mk (Lib.join (xs.map Lib.itoa) (ByteArray.mk #[32]).data.toList).toArray = ByteArray.mk (joinedL xs).toArray := rfl
   rw [hj2] at hjn
   clear hrd hown hr hx hlen
   go_wp2_with fail
   refine hjn.mono ?_
   rintro e w2 ⟨rfl, hb2⟩
   go_wp2_with fail
   go_ret
   exact ⟨rfl, fr_call hbr hb2⟩
end Go.Proofs.YtkmiphabagoifaaGreatDoor
end

section
namespace Go.Proofs.YtkmiphabagoifaaGreatDoor
open Go.RowKit Go.Shelf Dl

set_option maxRecDepth 100000 in
set_option maxHeartbeats 16000000 in
theorem answer_hands (g gs : Nat) (A1 A2 A3 A4 A5 A6 : Option Addr) (n1 c1 n2 c2 c3 n4 c4 n5 c5 n6 c6 wm br hr wg pc : Nat) (lim ep mn md ma yr : Int) (D : Option Addr) (m dc : Nat) (sv : Value) (ls : List Lk) (hs : List Int) (tg : List (Int × Int)) (ho cy : List Int) (fe : List Feast) (fs : List Int) (f : Int) (l p0 : List UInt8) (ws : List (List UInt8)) (rn : Nat) (rl : List Int) (w : World) (h : DeskAt w g gs A1 A2 A3 A4 A5 A6 n1 c1 n2 c2 c3 n4 c4 n5 c5 n6 c6 wm br hr wg pc lim ep mn md ma yr D m dc (.slice none 0 0) sv ls hs tg ho cy fe fs f) (hbd : n1 ≤ 1000 ∧ n2 ≤ 1000 ∧ n4 ≤ 1000 ∧ n5 ≤ 1000 ∧ n6 ≤ 1000)
  (hl : l.length ≤ 60) (hpf : pieces 32 l = p0 :: ws) (hws : ∀ wd ∈ ws, WdOk wd) (hwn : ws.length = 0) (hkF : Lib.idxBy eqF formsF (p0, ws.length) = -1) (hkA : Lib.idxBy eqF asksF (p0, ws.length) = ((0 : Nat) : Int)) (hrn : 1 ≤ rn ∧ rn ≤ 1000) (hrl : ∀ x ∈ rl, 0 ≤ x ∧ x ≤ 1000000000) (hlen : (joinedL rl).length ≤ 1000000) (hM : MaxP w) (hT : TabP w)
  (hmeth : ∀ N nc s B1 B2 B3 B4 B5 B6 k1 k2 k3 k4 k5 k6 mp W, StateAt W s B1 B2 B3 B4 B5 B6 n1 k1 n2 k2 k3 n4 k4 n5 k5 n6 k6 wm br hr wg pc lim ep mn md ma yr D m dc mp ls hs tg ho cy fe fs f → Blk W g 98 #[.pointer (some ⟨gs, 0, none⟩), .slice D m dc, .slice none 0 0, sv] → Rd W N 0 (ws.map valOf) → Calls Tryz.prog 60 #[.agg #[.pointer (some ⟨s, 0, none⟩), .pointer (some ⟨g, 0, none⟩)], .slice N 0 nc] W (RetR W rn rl)) :
  Calls Tryz.prog 95 #[.pointer (some ⟨g, 0, none⟩), .string ⟨l.toArray⟩] w fun e w' => e = .returned (.string ⟨(joinedL rl).toArray⟩) ∧ Below w.heap.size w w' := by
 have H := Lib.hid h
 have HM := Lib.hid hmeth
 have K1 := Parse_none l p0 ws w hl hpf hkF hM
 have K2 := fun W (hb : Below w.heap.size w W) => question_ok l p0 ws 0 W (by omega) hpf hws hkA (by decide) (hM.keep hb) (hT.keep hb)
 rw [hwn] at K2
 clear h hmeth hws hkF hkA hpf hwn
 have hrn0 : ((rn : Int) == 0) = false := beq_eq_false_iff_ne.2 (by omega)
 have hrn1 : ¬ rn = 0 := by omega
 go_enter Tryz.func95, Tryz.ntmps95
 go_wp2_with fail
 refine K1.mono ?_
 rintro e w1 ⟨rfl, hb1⟩
 clear K1
 go_upto_region 2 with (refine wpList_store_blk rfl _ _ _ rfl w1.heap.size 45 _ _ rfl rfl (Blk.new w1 _ _) rfl (by kernel_rfl) (by simp [Value.oneCell']) ?_; intro w2 hQ hgQ)
 have hb2 : Below w1.heap.size w1 w2 := (fr_alloc (fr_refl w1) _).grown hgQ (fr_alloc (fr_refl w1) _).size (by intro k hk; cases hk; exact Nat.le_refl _)
 (try dsimp only [Act.put])
 have hb02 := fr_call hb1 hb2
 have k2 := K2 w2 hb02
 clear K2 hQ hgQ hb1 hb2
 go_wp2_with fail
 refine k2.mono ?_
 rintro e w3 ⟨N, nc, rfl, hN, hb3⟩
 clear k2
 go_upto_region 10 with (refine wpList_store_blk rfl _ _ _ rfl w3.heap.size 58 _ _ rfl rfl (Blk.new w3 _ _) rfl (by kernel_rfl) (by simp [Value.oneCell']) ?_; intro w4 hQ hgQ)
 have hb4 : Below w3.heap.size w3 w4 := (fr_alloc (fr_refl w3) _).grown hgQ (fr_alloc (fr_refl w3) _).size (by intro k hk; cases hk; exact Nat.le_refl _)
 (try dsimp only [Act.put])
 have hb04 := fr_call hb02 (fr_call hb3 hb4)
 have hA := Ask_hands g gs A1 A2 A3 A4 A5 A6 n1 c1 n2 c2 c3 n4 c4 n5 c5 n6 c6 wm br hr wg pc lim ep mn md ma yr D m dc sv ls hs tg ho cy fe fs f N nc _ rn rl w4 (H.out.keep hb04) hbd (hN.keep hb4) (HM.out N nc)
 have hcQ := fun j => hQ.cell j
 clear hb02 hb3 hb4 hgQ hN
 go_wp2_with fail
 refine hA.mono ?_
 rintro e w5 ⟨A, c, rfl, hR, hb5⟩
 have hb05 := fr_call hb04 hb5
 have hJ := joined_ok A rn c rl w5 hR hrn hrl hlen (hT.keep hb05)
 clear hA hcQ hQ
 go_wp2_with fail
 refine hJ.mono ?_
 rintro e w6 ⟨rfl, hb6⟩
 go_wp2_with fail
 go_ret
 exact ⟨rfl, fr_call hb05 hb6⟩
set_option maxRecDepth 100000 in
set_option maxHeartbeats 16000000 in
theorem answer_works (g gs : Nat) (A1 A2 A3 A4 A5 A6 : Option Addr) (n1 c1 n2 c2 c3 n4 c4 n5 c5 n6 c6 wm br hr wg pc : Nat) (lim ep mn md ma yr : Int) (D : Option Addr) (m dc : Nat) (sv : Value) (ls : List Lk) (hs : List Int) (tg : List (Int × Int)) (ho cy : List Int) (fe : List Feast) (fs : List Int) (f : Int) (l p0 : List UInt8) (ws : List (List UInt8)) (rn : Nat) (rl : List Int) (w : World) (h : DeskAt w g gs A1 A2 A3 A4 A5 A6 n1 c1 n2 c2 c3 n4 c4 n5 c5 n6 c6 wm br hr wg pc lim ep mn md ma yr D m dc (.slice none 0 0) sv ls hs tg ho cy fe fs f) (hbd : n1 ≤ 1000 ∧ n2 ≤ 1000 ∧ n4 ≤ 1000 ∧ n5 ≤ 1000 ∧ n6 ≤ 1000)
  (hl : l.length ≤ 60) (hpf : pieces 32 l = p0 :: ws) (hws : ∀ wd ∈ ws, WdOk wd) (hwn : ws.length = 1) (hkF : Lib.idxBy eqF formsF (p0, ws.length) = -1) (hkA : Lib.idxBy eqF asksF (p0, ws.length) = ((7 : Nat) : Int)) (hrn : 1 ≤ rn ∧ rn ≤ 1000) (hrl : ∀ x ∈ rl, 0 ≤ x ∧ x ≤ 1000000000) (hlen : (joinedL rl).length ≤ 1000000) (hM : MaxP w) (hT : TabP w)
  (hmeth : ∀ N nc s B1 B2 B3 B4 B5 B6 k1 k2 k3 k4 k5 k6 mp W, StateAt W s B1 B2 B3 B4 B5 B6 n1 k1 n2 k2 k3 n4 k4 n5 k5 n6 k6 wm br hr wg pc lim ep mn md ma yr D m dc mp ls hs tg ho cy fe fs f → Blk W g 98 #[.pointer (some ⟨gs, 0, none⟩), .slice D m dc, .slice none 0 0, sv] → Rd W N 1 (ws.map valOf) → Calls Tryz.prog 67 #[.agg #[.pointer (some ⟨s, 0, none⟩), .pointer (some ⟨g, 0, none⟩)], .slice N 1 nc] W (RetR W rn rl)) :
  Calls Tryz.prog 95 #[.pointer (some ⟨g, 0, none⟩), .string ⟨l.toArray⟩] w fun e w' => e = .returned (.string ⟨(joinedL rl).toArray⟩) ∧ Below w.heap.size w w' := by
 have H := Lib.hid h
 have HM := Lib.hid hmeth
 have K1 := Parse_none l p0 ws w hl hpf hkF hM
 have K2 := fun W (hb : Below w.heap.size w W) => question_ok l p0 ws 7 W (by omega) hpf hws hkA (by decide) (hM.keep hb) (hT.keep hb)
 rw [hwn] at K2
 clear h hmeth hws hkF hkA hpf hwn
 have hrn0 : ((rn : Int) == 0) = false := beq_eq_false_iff_ne.2 (by omega)
 have hrn1 : ¬ rn = 0 := by omega
 go_enter Tryz.func95, Tryz.ntmps95
 go_wp2_with fail
 refine K1.mono ?_
 rintro e w1 ⟨rfl, hb1⟩
 clear K1
 go_upto_region 2 with (refine wpList_store_blk rfl _ _ _ rfl w1.heap.size 45 _ _ rfl rfl (Blk.new w1 _ _) rfl (by kernel_rfl) (by simp [Value.oneCell']) ?_; intro w2 hQ hgQ)
 have hb2 : Below w1.heap.size w1 w2 := (fr_alloc (fr_refl w1) _).grown hgQ (fr_alloc (fr_refl w1) _).size (by intro k hk; cases hk; exact Nat.le_refl _)
 (try dsimp only [Act.put])
 have hb02 := fr_call hb1 hb2
 have k2 := K2 w2 hb02
 clear K2 hQ hgQ hb1 hb2
 go_wp2_with fail
 refine k2.mono ?_
 rintro e w3 ⟨N, nc, rfl, hN, hb3⟩
 clear k2
 go_upto_region 10 with (refine wpList_store_blk rfl _ _ _ rfl w3.heap.size 58 _ _ rfl rfl (Blk.new w3 _ _) rfl (by kernel_rfl) (by simp [Value.oneCell']) ?_; intro w4 hQ hgQ)
 have hb4 : Below w3.heap.size w3 w4 := (fr_alloc (fr_refl w3) _).grown hgQ (fr_alloc (fr_refl w3) _).size (by intro k hk; cases hk; exact Nat.le_refl _)
 (try dsimp only [Act.put])
 have hb04 := fr_call hb02 (fr_call hb3 hb4)
 have hA := Ask_works g gs A1 A2 A3 A4 A5 A6 n1 c1 n2 c2 c3 n4 c4 n5 c5 n6 c6 wm br hr wg pc lim ep mn md ma yr D m dc sv ls hs tg ho cy fe fs f N nc _ rn rl w4 (H.out.keep hb04) hbd (hN.keep hb4) (HM.out N nc)
 have hcQ := fun j => hQ.cell j
 clear hb02 hb3 hb4 hgQ hN
 go_wp2_with fail
 refine hA.mono ?_
 rintro e w5 ⟨A, c, rfl, hR, hb5⟩
 have hb05 := fr_call hb04 hb5
 have hJ := joined_ok A rn c rl w5 hR hrn hrl hlen (hT.keep hb05)
 clear hA hcQ hQ
 go_wp2_with fail
 refine hJ.mono ?_
 rintro e w6 ⟨rfl, hb6⟩
 go_wp2_with fail
 go_ret
 exact ⟨rfl, fr_call hb05 hb6⟩
set_option maxRecDepth 100000 in
set_option maxHeartbeats 16000000 in
theorem answer_cuts (g gs : Nat) (A1 A2 A3 A4 A5 A6 : Option Addr) (n1 c1 n2 c2 c3 n4 c4 n5 c5 n6 c6 wm br hr wg pc : Nat) (lim ep mn md ma yr : Int) (D : Option Addr) (m dc : Nat) (sv : Value) (ls : List Lk) (hs : List Int) (tg : List (Int × Int)) (ho cy : List Int) (fe : List Feast) (fs : List Int) (f : Int) (l p0 : List UInt8) (ws : List (List UInt8)) (rn : Nat) (rl : List Int) (w : World) (h : DeskAt w g gs A1 A2 A3 A4 A5 A6 n1 c1 n2 c2 c3 n4 c4 n5 c5 n6 c6 wm br hr wg pc lim ep mn md ma yr D m dc (.slice none 0 0) sv ls hs tg ho cy fe fs f) (hbd : n1 ≤ 1000 ∧ n2 ≤ 1000 ∧ n4 ≤ 1000 ∧ n5 ≤ 1000 ∧ n6 ≤ 1000)
  (hl : l.length ≤ 60) (hpf : pieces 32 l = p0 :: ws) (hws : ∀ wd ∈ ws, WdOk wd) (hwn : ws.length = 1) (hkF : Lib.idxBy eqF formsF (p0, ws.length) = -1) (hkA : Lib.idxBy eqF asksF (p0, ws.length) = ((9 : Nat) : Int)) (hrn : 1 ≤ rn ∧ rn ≤ 1000) (hrl : ∀ x ∈ rl, 0 ≤ x ∧ x ≤ 1000000000) (hlen : (joinedL rl).length ≤ 1000000) (hM : MaxP w) (hT : TabP w)
  (hmeth : ∀ N nc s B1 B2 B3 B4 B5 B6 k1 k2 k3 k4 k5 k6 mp W, StateAt W s B1 B2 B3 B4 B5 B6 n1 k1 n2 k2 k3 n4 k4 n5 k5 n6 k6 wm br hr wg pc lim ep mn md ma yr D m dc mp ls hs tg ho cy fe fs f → Blk W g 98 #[.pointer (some ⟨gs, 0, none⟩), .slice D m dc, .slice none 0 0, sv] → Rd W N 1 (ws.map valOf) → Calls Tryz.prog 69 #[.agg #[.pointer (some ⟨s, 0, none⟩), .pointer (some ⟨g, 0, none⟩)], .slice N 1 nc] W (RetR W rn rl)) :
  Calls Tryz.prog 95 #[.pointer (some ⟨g, 0, none⟩), .string ⟨l.toArray⟩] w fun e w' => e = .returned (.string ⟨(joinedL rl).toArray⟩) ∧ Below w.heap.size w w' := by
 have H := Lib.hid h
 have HM := Lib.hid hmeth
 have K1 := Parse_none l p0 ws w hl hpf hkF hM
 have K2 := fun W (hb : Below w.heap.size w W) => question_ok l p0 ws 9 W (by omega) hpf hws hkA (by decide) (hM.keep hb) (hT.keep hb)
 rw [hwn] at K2
 clear h hmeth hws hkF hkA hpf hwn
 have hrn0 : ((rn : Int) == 0) = false := beq_eq_false_iff_ne.2 (by omega)
 have hrn1 : ¬ rn = 0 := by omega
 go_enter Tryz.func95, Tryz.ntmps95
 go_wp2_with fail
 refine K1.mono ?_
 rintro e w1 ⟨rfl, hb1⟩
 clear K1
 go_upto_region 2 with (refine wpList_store_blk rfl _ _ _ rfl w1.heap.size 45 _ _ rfl rfl (Blk.new w1 _ _) rfl (by kernel_rfl) (by simp [Value.oneCell']) ?_; intro w2 hQ hgQ)
 have hb2 : Below w1.heap.size w1 w2 := (fr_alloc (fr_refl w1) _).grown hgQ (fr_alloc (fr_refl w1) _).size (by intro k hk; cases hk; exact Nat.le_refl _)
 (try dsimp only [Act.put])
 have hb02 := fr_call hb1 hb2
 have k2 := K2 w2 hb02
 clear K2 hQ hgQ hb1 hb2
 go_wp2_with fail
 refine k2.mono ?_
 rintro e w3 ⟨N, nc, rfl, hN, hb3⟩
 clear k2
 go_upto_region 10 with (refine wpList_store_blk rfl _ _ _ rfl w3.heap.size 58 _ _ rfl rfl (Blk.new w3 _ _) rfl (by kernel_rfl) (by simp [Value.oneCell']) ?_; intro w4 hQ hgQ)
 have hb4 : Below w3.heap.size w3 w4 := (fr_alloc (fr_refl w3) _).grown hgQ (fr_alloc (fr_refl w3) _).size (by intro k hk; cases hk; exact Nat.le_refl _)
 (try dsimp only [Act.put])
 have hb04 := fr_call hb02 (fr_call hb3 hb4)
 have hA := Ask_cuts g gs A1 A2 A3 A4 A5 A6 n1 c1 n2 c2 c3 n4 c4 n5 c5 n6 c6 wm br hr wg pc lim ep mn md ma yr D m dc sv ls hs tg ho cy fe fs f N nc _ rn rl w4 (H.out.keep hb04) hbd (hN.keep hb4) (HM.out N nc)
 have hcQ := fun j => hQ.cell j
 clear hb02 hb3 hb4 hgQ hN
 go_wp2_with fail
 refine hA.mono ?_
 rintro e w5 ⟨A, c, rfl, hR, hb5⟩
 have hb05 := fr_call hb04 hb5
 have hJ := joined_ok A rn c rl w5 hR hrn hrl hlen (hT.keep hb05)
 clear hA hcQ hQ
 go_wp2_with fail
 refine hJ.mono ?_
 rintro e w6 ⟨rfl, hb6⟩
 go_wp2_with fail
 go_ret
 exact ⟨rfl, fr_call hb05 hb6⟩
end Go.Proofs.YtkmiphabagoifaaGreatDoor
end

section
namespace Go.Proofs.YtkmiphabagoifaaGreatDoor
open Go.RowKit Go.Shelf Dl
attribute [local go_sem] Oper.semAt_some

/-- the text of some lines -/
def textL (ls : List (List UInt8)) : List UInt8 := ls.flatMap (fun l => l ++ [10])
theorem index_line : ∀ (l r : List UInt8), (∀ b ∈ l, b ≠ 10) → Lib.indexByte (l ++ 10 :: r) 10 = (l.length : Int)
 | [], r, _ => by simp [Lib.indexByte]
 | b :: l, r, h => by
  have hb : (b == (10 : UInt8)) = false := beq_eq_false_iff_ne.2 (h b (by simp))
  have ih := index_line l r (fun x hx => h x (by simp [hx]))
  show (if b == 10 then (0 : Int) else if Lib.indexByte (l ++ 10 :: r) 10 == -1 then -1 else Lib.indexByte (l ++ 10 :: r) 10 + 1) = _
  rw [hb, ih]
  have : ((l.length : Int) == -1) = false := beq_eq_false_iff_ne.2 (by omega)
  rw [this]
  simp
theorem str_cut (l : List UInt8) (m k : Nat) : (⟨l.toArray⟩ : ByteArray).extract m k = ⟨((l.drop m).take (k - m)).toArray⟩ := by
 apply ByteArray.ext
 simp [ByteArray.data_extract, List.extract_toArray]
theorem textL_drop (ls : List (List UInt8)) (k : Nat) (h : k < ls.length) : textL (ls.drop k) = ls[k] ++ 10 :: textL (ls.drop (k + 1)) := by
 rw [List.drop_eq_getElem_cons h]
 show (ls[k] ++ [10]) ++ textL (ls.drop (k + 1)) = _
 rw [List.append_assoc]
 rfl
theorem textL_drop_len (ls : List (List UInt8)) : ∀ k, (textL (ls.drop k)).length ≤ (textL ls).length := fun k => by
 induction k with
 | zero => exact Nat.le_refl _
 | succ k ih =>
  by_cases h : k < ls.length
  ·rw [textL_drop ls k h] at ih
   simp at ih
   omega
  ·rw [List.drop_of_length_le (by omega)]
   simp [textL]
/-- how long the string in a variable is -/
def strAt (b : Nat) (w : World) : Nat := match w.cell? ⟨b, 0, none⟩ with | some (.string s) => s.size | _ => 0
theorem strAt_blk {w : World} {b : Nat} {t : TypeId} {l : List UInt8} (h : Blk w b t #[.string ⟨l.toArray⟩]) : strAt b w = l.length := by
 unfold strAt
 rw [h.cell 0]
 show l.toArray.size = _
 simp
set_option maxRecDepth 100000 in
set_option maxHeartbeats 4000000 in
theorem lines1_in (m l b : Nat) (ls : List (List UInt8)) (hls : ∀ x ∈ ls, ∀ c ∈ x, c ≠ 10) (J : Nat → World → Prop) (hlen : (textL ls).length ≤ 1000000)
  (hJx : ∀ k W W', J k W → Exc (fun i => i = b) W W' → J k W')
  (hY : ∀ (k : Nat) (x : List UInt8) (s : Value) W, J k W → ls[k]? = some x → Blk W b 9 #[s] → YieldAt Fence.wide m Tryz.prog l #[.string ⟨(x ++ [10]).toArray⟩] W fun e W' => e = .returned (.bool true) ∧ J (k + 1) W' ∧ Blk W' b 9 #[s])
  (W : World) (h0 : J 0 W) (hB : Blk W b 9 #[.string ⟨(textL ls).toArray⟩]) :
  CallsIn Fence.wide (m + 1) Tryz.prog 163 #[.func (.yield l) #[] #[], .pointer (some ⟨b, 0, none⟩)] W fun e W' => (∃ v, e = .returned v) ∧ J ls.length W' := by
 refine callsIn_of_wp Tryz.func163 rfl trivial ?_ rfl
 simp only [Tryz.ntmps163, List.size_toArray, List.length_cons, List.length_nil, Nat.reduceAdd, Nat.reduceSub, Array.replicate_succ, Array.replicate_zero, List.push_toArray, List.append_toArray, List.nil_append, List.cons_append]
 gi_wp2
 gi_loopw [] (fun wr => ∃ k : Nat, k ≤ ls.length ∧ J k wr ∧ Blk wr b 9 #[.string ⟨(textL (ls.drop k)).toArray⟩]) (fun wr => strAt b wr)
 case atStart => exact ⟨0, Nat.zero_le _, h0, hB⟩
 case round =>
  clear h0 hB
  obtain ⟨k, hk, hJ, hB⟩ := hrel
  have hle := textL_drop_len ls k
  have HM := Lib.hid (strAt_blk hB)
  by_cases hlt : k < ls.length
  ·have hx : ls[k]? = some ls[k] := List.getElem?_eq_getElem hlt
   have hno := hls _ (List.getElem_mem hlt)
   rw [textL_drop ls k hlt] at hle hB HM
   generalize ls[k] = x at *
   obtain ⟨R, hR⟩ : ∃ R, textL (ls.drop (k + 1)) = R := ⟨_, rfl⟩
   have HR := Lib.hid hR
   rw [hR] at hle hB HM
   have hix := index_line x R hno
   obtain ⟨S, hS⟩ : ∃ S : ByteArray, ⟨(x ++ 10 :: R).toArray⟩ = S := ⟨_, rfl⟩
   rw [hS] at hB
   have hsz : S.size = x.length + 1 + R.length := by rw [← hS]; show (x ++ 10 :: R).toArray.size = _; simp; omega
   have hdl : S.data.toList = x ++ 10 :: R := by rw [← hS]
   have hib := Tryz.strings_IndexByte S 10 wr
   rw [hdl] at hib
   replace hib : Calls Tryz.prog 164 #[.string S, .int .u8 10] wr fun e w' => e = .returned (.int .i64 (x.length : Int)) ∧ w' = wr := by rw [← hix]; exact hib
   have hcB := hB.cell 0
   have i1 : (0 : Int) < (S.size : Int) := by omega
   have i2 : (0 : Int) ≤ (x.length : Int) := Int.natCast_nonneg _
   have i3 : IntKind.i64.wrap ((x.length : Int) + 1) = ((x.length + 1 : Nat) : Int) := by
    simp at hle
    rw [IntWalk.i64_in _ (by omega)]; omega
   have HLE := Lib.hid hle
   have HIX := Lib.hid hix
   have HDL := Lib.hid hdl
   have hE1 : S.extract 0 (x.length + 1) = ⟨(x ++ [10]).toArray⟩ := by rw [← hS, str_cut]; congr 2; simp [List.take_append]; exact List.take_of_length_le (by omega)
   have hE2 : S.extract (x.length + 1) (x.length + 1 + R.length) = ⟨R.toArray⟩ := by rw [← hS, str_cut]; congr 2; simp [List.drop_append]; rw [List.drop_of_length_le (by omega)]; simp
   have HE1 := Lib.hid hE1
   have HE2 := Lib.hid hE2
   clear hls hix hno hdl hle hR hS hE1 hE2
   gi_wp2
   refine ⟨trivial, ?_⟩
   refine CallsIn.mono (callsIn_wide.2 hib) ?_
   rintro e w1 ⟨rfl, rfl⟩
   clear hib
   gi_wp2
   refine wpIn_wide.2 ?_
   have hbz := fr_drew (fr_refl w1)
   have hkS : ∀ W, Below w1.heap.size w1 W → W.cell? ⟨b, 0, none⟩ = some (.string S) := fun W hb => (hB.keep hb).cell 0
   refine wp_region_T (S := fun W => W.cell? ⟨b, 0, none⟩ = some (.string S)) (D := fun i => i == 9) (by kernel_rfl) (hkS _ hbz) (fun hHeld => ?_)
   have hBz := hB.keep hbz
   generalize w1.drew = wz at hbz hHeld hBz ⊢
   -- the region, step by step, in whatever order
   refine wpAnyT_take (i := 0) (oi := ⟨some 12, .load 9 (.tmp 1), 9, "iter.go:23", #[], none⟩) (v := ?_) rfl (by kernel_rfl) (by kernel_rfl) (by kernel_rfl) (by kernel_rfl) (fun _ _ _ h => h) (Or.inl ⟨by rfl, fun W hSw => ?_⟩) hHeld ?_
   rotate_left
   ·(try dsimp only at hSw); go_simp; (try with_reducible rfl)
   (try simp only [Act.put, List.setIfInBounds_toArray, List.set_cons_zero, List.set_cons_succ])
   refine wpAnyT_take (i := 1) (oi := ⟨some 13, .move (.tmp 4), 3, "iter.go:23", #[], none⟩) (v := ?_) rfl (by kernel_rfl) (by kernel_rfl) (by kernel_rfl) (by kernel_rfl) (fun _ _ _ h => h) (Or.inl ⟨by rfl, fun W hSw => ?_⟩) hHeld ?_
   rotate_left
   ·(try dsimp only at hSw); go_simp; (try with_reducible rfl)
   (try simp only [Act.put, List.setIfInBounds_toArray, List.set_cons_zero, List.set_cons_succ])
   refine wpAnyT_take (i := 2) (oi := ⟨some 14, .binOp .add 3 (.tmp 13) (.const (.int .i64 1)) 3, 3, "iter.go:23", #[⟨1, .data⟩], none⟩) (v := ?_) rfl (by kernel_rfl) (by kernel_rfl) (by kernel_rfl) (by kernel_rfl) (fun _ _ _ h => h) (Or.inl ⟨by rfl, fun W hSw => ?_⟩) hHeld ?_
   rotate_left
   ·(try dsimp only at hSw); go_simp; (try with_reducible rfl)
   (try simp only [Act.put, List.setIfInBounds_toArray, List.set_cons_zero, List.set_cons_succ])
   refine wpAnyT_take (i := 4) (oi := ⟨some 16, .load 9 (.tmp 1), 9, "iter.go:23", #[], none⟩) (v := ?_) rfl (by kernel_rfl) (by kernel_rfl) (by kernel_rfl) (by kernel_rfl) (fun _ _ _ h => h) (Or.inl ⟨by rfl, fun W hSw => ?_⟩) hHeld ?_
   rotate_left
   ·(try dsimp only at hSw); go_simp; (try with_reducible rfl)
   (try simp only [Act.put, List.setIfInBounds_toArray, List.set_cons_zero, List.set_cons_succ])
   refine wpAnyT_take (i := 5) (oi := ⟨some 17, .move (.tmp 4), 3, "iter.go:23", #[], none⟩) (v := ?_) rfl (by kernel_rfl) (by kernel_rfl) (by kernel_rfl) (by kernel_rfl) (fun _ _ _ h => h) (Or.inl ⟨by rfl, fun W hSw => ?_⟩) hHeld ?_
   rotate_left
   ·(try dsimp only at hSw); go_simp; (try with_reducible rfl)
   (try simp only [Act.put, List.setIfInBounds_toArray, List.set_cons_zero, List.set_cons_succ])
   refine wpAnyT_take (i := 6) (oi := ⟨some 18, .binOp .add 3 (.tmp 17) (.const (.int .i64 1)) 3, 3, "iter.go:23", #[⟨5, .data⟩], none⟩) (v := ?_) rfl (by kernel_rfl) (by kernel_rfl) (by kernel_rfl) (by kernel_rfl) (fun _ _ _ h => h) (Or.inl ⟨by rfl, fun W hSw => ?_⟩) hHeld ?_
   rotate_left
   ·(try dsimp only at hSw); go_simp; (try with_reducible rfl)
   (try simp only [Act.put, List.setIfInBounds_toArray, List.set_cons_zero, List.set_cons_succ])
   refine wpAnyT_ready (rs := [3, 7]) (by kernel_rfl) (by simp) ?_
   refine (AllReadyT.cons (o := ⟨some 15, .slice 9 (.tmp 12) none (some (.tmp 14)) none, 9, "iter.go:23", #[⟨0, .data⟩, ⟨2, .data⟩], none⟩) rfl (fun K hK => ?_) (AllReadyT.cons (o := ⟨some 19, .slice 9 (.tmp 16) (some (.tmp 18)) none none, 9, "iter.go:23", #[⟨4, .data⟩, ⟨6, .data⟩], none⟩) rfl (fun K hK => ?_) AllReadyT.nil))
   ·rw [if_pos (by rfl)]
    go_simp
    rw [if_pos (by omega), HE1.out]
    go_simp
    refine hK.out _ _ (hkS _ hbz) (fun hHeld => ?_)
    clear hK K
    (try simp only [Act.put, List.setIfInBounds_toArray, List.set_cons_zero, List.set_cons_succ])
    refine wpAnyT_take (i := 8) (oi := ⟨some 3, .assign (.tmp 15), 9, "iter.go:23", #[⟨3, .data⟩, ⟨0, .phase⟩, ⟨1, .phase⟩, ⟨2, .phase⟩, ⟨3, .phase⟩, ⟨4, .textOnly .lateStores⟩, ⟨5, .textOnly .lateStores⟩, ⟨6, .textOnly .lateStores⟩, ⟨7, .textOnly .lateStoresUnsure⟩], none⟩) (v := ?_) rfl (by kernel_rfl) (by kernel_rfl) (by kernel_rfl) (by kernel_rfl) (fun _ _ _ h => h) (Or.inl ⟨by rfl, fun W hSw => ?_⟩) hHeld ?_
    rotate_left
    ·(try dsimp only at hSw); go_simp; (try with_reducible rfl)
    (try simp only [Act.put, List.setIfInBounds_toArray, List.set_cons_zero, List.set_cons_succ])
    refine wpAnyT_ready (rs := [7]) (by kernel_rfl) (by simp) ?_
    refine (AllReadyT.cons (o := ⟨some 19, .slice 9 (.tmp 16) (some (.tmp 18)) none none, 9, "iter.go:23", #[⟨4, .data⟩, ⟨6, .data⟩], none⟩) rfl (fun K hK => ?_) AllReadyT.nil)
    rw [if_pos (by rfl)]
    go_simp
    rw [if_pos (by omega), HE2.out]
    go_simp
    refine hK.out _ _ (hkS _ hbz) (fun hHeld => ?_)
    clear hK K
    (try simp only [Act.put, List.setIfInBounds_toArray, List.set_cons_zero, List.set_cons_succ])
    refine wpAnyT_ready (rs := [9]) (by kernel_rfl) (by simp) ?_
    refine (AllReadyT.last (o := ⟨none, .store 9 (.tmp 1) (.tmp 19), 0, "iter.go:23", #[⟨7, .data⟩, ⟨8, .chain⟩, ⟨0, .phase⟩, ⟨1, .phase⟩, ⟨2, .phase⟩, ⟨3, .phase⟩, ⟨4, .phase⟩, ⟨5, .phase⟩, ⟨6, .phase⟩, ⟨7, .phase⟩, ⟨8, .phase⟩], none⟩) rfl rfl (fun K hK => ?_) AllReadyT.nil)
    rw [if_pos (by rfl)]
    have hcz := hBz.cell 0
    have hfz := hBz.frozen 0
    go_simp
    refine hK.out _ _ ?_
    clear hK K
    refine wpAnyT_done (by kernel_rfl) ?_ _
    have hJ2 : J k (wz.setCell ⟨b, 0, none⟩ (.string ⟨R.toArray⟩)) := hJx k w1 _ hJ (((Exc.refl (fun i => i = b) w1).below hbz).set (p := ⟨b, 0, none⟩) (Or.inl rfl) _)
    have hB2 := hBz.set_ 0 (.string ⟨R.toArray⟩)
    obtain ⟨fn2, tm2, as2, bo2, hy2, hR2⟩ := hY k x _ _ hJ2 hx hB2
    gi_wp2
    refine hR2.mono ?_
    rintro e W3 ⟨rfl, hJ3, hB3⟩
    gi_wp2
    go_roundw
    case rel => exact ⟨k + 1, hlt, hJ3, by rw [HR.out]; exact hB3⟩
    case measure =>
     have h1 := strAt_blk hB3
     have h2 := HM.out
     simp at h2
     omega
   ·rw [if_pos (by rfl)]
    go_simp
    rw [if_pos (by omega), HE2.out]
    go_simp
    refine hK.out _ _ (hkS _ hbz) (fun hHeld => ?_)
    clear hK K
    (try simp only [Act.put, List.setIfInBounds_toArray, List.set_cons_zero, List.set_cons_succ])
    refine wpAnyT_ready (rs := [3]) (by kernel_rfl) (by simp) ?_
    refine (AllReadyT.cons (o := ⟨some 15, .slice 9 (.tmp 12) none (some (.tmp 14)) none, 9, "iter.go:23", #[⟨0, .data⟩, ⟨2, .data⟩], none⟩) rfl (fun K hK => ?_) AllReadyT.nil)
    rw [if_pos (by rfl)]
    go_simp
    rw [if_pos (by omega), HE1.out]
    go_simp
    refine hK.out _ _ (hkS _ hbz) (fun hHeld => ?_)
    clear hK K
    (try simp only [Act.put, List.setIfInBounds_toArray, List.set_cons_zero, List.set_cons_succ])
    refine wpAnyT_take (i := 8) (oi := ⟨some 3, .assign (.tmp 15), 9, "iter.go:23", #[⟨3, .data⟩, ⟨0, .phase⟩, ⟨1, .phase⟩, ⟨2, .phase⟩, ⟨3, .phase⟩, ⟨4, .textOnly .lateStores⟩, ⟨5, .textOnly .lateStores⟩, ⟨6, .textOnly .lateStores⟩, ⟨7, .textOnly .lateStoresUnsure⟩], none⟩) (v := ?_) rfl (by kernel_rfl) (by kernel_rfl) (by kernel_rfl) (by kernel_rfl) (fun _ _ _ h => h) (Or.inl ⟨by rfl, fun W hSw => ?_⟩) hHeld ?_
    rotate_left
    ·(try dsimp only at hSw); go_simp; (try with_reducible rfl)
    (try simp only [Act.put, List.setIfInBounds_toArray, List.set_cons_zero, List.set_cons_succ])
    refine wpAnyT_ready (rs := [9]) (by kernel_rfl) (by simp) ?_
    refine (AllReadyT.last (o := ⟨none, .store 9 (.tmp 1) (.tmp 19), 0, "iter.go:23", #[⟨7, .data⟩, ⟨8, .chain⟩, ⟨0, .phase⟩, ⟨1, .phase⟩, ⟨2, .phase⟩, ⟨3, .phase⟩, ⟨4, .phase⟩, ⟨5, .phase⟩, ⟨6, .phase⟩, ⟨7, .phase⟩, ⟨8, .phase⟩], none⟩) rfl rfl (fun K hK => ?_) AllReadyT.nil)
    rw [if_pos (by rfl)]
    have hcz := hBz.cell 0
    have hfz := hBz.frozen 0
    go_simp
    refine hK.out _ _ ?_
    clear hK K
    refine wpAnyT_done (by kernel_rfl) ?_ _
    have hJ2 : J k (wz.setCell ⟨b, 0, none⟩ (.string ⟨R.toArray⟩)) := hJx k w1 _ hJ (((Exc.refl (fun i => i = b) w1).below hbz).set (p := ⟨b, 0, none⟩) (Or.inl rfl) _)
    have hB2 := hBz.set_ 0 (.string ⟨R.toArray⟩)
    obtain ⟨fn2, tm2, as2, bo2, hy2, hR2⟩ := hY k x _ _ hJ2 hx hB2
    gi_wp2
    refine hR2.mono ?_
    rintro e W3 ⟨rfl, hJ3, hB3⟩
    gi_wp2
    go_roundw
    case rel => exact ⟨k + 1, hlt, hJ3, by rw [HR.out]; exact hB3⟩
    case measure =>
     have h1 := strAt_blk hB3
     have h2 := HM.out
     simp at h2
     omega
  ·obtain rfl : k = ls.length := by omega
   have hlen0 : textL (ls.drop ls.length) = [] := by rw [List.drop_length]; rfl
   rw [hlen0] at hB
   have hcB := hB.cell 0
   gi_wp2
   go_end0
   exact ⟨⟨_, rfl⟩, hJ⟩
end Go.Proofs.YtkmiphabagoifaaGreatDoor
end

section
namespace Go.Proofs.YtkmiphabagoifaaGreatDoor
open Go.RowKit Go.Shelf Dl
attribute [local go_sem] Oper.semAt_some

theorem trim_is (x : List UInt8) (w : World) (hx : x.length ≤ 1000000) : Calls Tryz.prog 96 #[.string ⟨(x ++ [10]).toArray⟩, .string ⟨#[10]⟩] w fun e w' => e = .returned (.string ⟨x.toArray⟩) ∧ w' = w := by
 have h := Tryz.strings_TrimSuffix ⟨(x ++ [10]).toArray⟩ ⟨#[10]⟩ w (by show (x ++ [10]).toArray.size ≤ _; simp; omega)
 have e : Lib.trimSuffix (⟨(x ++ [10]).toArray⟩ : ByteArray).data.toList (⟨#[10]⟩ : ByteArray).data.toList = x := by
  show Lib.trimSuffix (x ++ [10]) [10] = x
  simp [Lib.trimSuffix, Lib.hasSuffix]
 rw [e] at h
 exact h
theorem hasNl_is (x : List UInt8) (w : World) (hx : x.length ≤ 1000000) : Calls Tryz.prog 93 #[.string ⟨(x ++ [10]).toArray⟩, .string ⟨#[10]⟩] w fun e w' => e = .returned (.bool true) ∧ w' = w := by
 have h := Tryz.strings_HasSuffix ⟨(x ++ [10]).toArray⟩ ⟨#[10]⟩ w (by show (x ++ [10]).toArray.size ≤ _; simp; omega)
 have e : Lib.hasSuffix (⟨(x ++ [10]).toArray⟩ : ByteArray).data.toList (⟨#[10]⟩ : ByteArray).data.toList = true := by
  show Lib.hasSuffix (x ++ [10]) [10] = true
  simp [Lib.hasSuffix]
 rw [e] at h
 exact h
set_option maxHeartbeats 2000000 in
theorem lines_is (s : ByteArray) (w : World) : Calls Tryz.prog 94 #[.string s] w fun e w' => e = .returned (.func (.func 163) #[] #[.pointer (some ⟨w.heap.size, 0, none⟩)]) ∧ Blk w' w.heap.size 9 #[.string s] ∧ w'.heap.size = w.heap.size + 1 ∧ Below w.heap.size w w' := by
 have hmf : ∀ (fn : Fn) (first cap : Array Value) (w : World), (Instr.makeFunc fn first cap).run Tryz.prog w = .ok (.func fn first cap) w := fun _ _ _ _ => rfl
 go_enter Tryz.func94, Tryz.ntmps94
 go_wp2_with fail
 go_ret
 exact ⟨rfl, Blk.new _ _ _, by simp, fr_alloc (fr_refl _) _⟩
/-- what holds between two lines -/
structure ConInv (w3 : World) (bo lD l : Nat) (rec : Loop) (os : List (List UInt8)) (k : Nat) (W : World) : Prop where
 fr : Below w3.heap.size w3 W
 o : Blk W bo 9 #[.string ⟨(textL (os.take k)).toArray⟩]
 df : W.heap[lD]? = some (.deferred (some []))
 lp : W.heap[l]? = some (.loop rec)
theorem ConInv.exc {w3 W W' : World} {bo lD l b k : Nat} {rec : Loop} {os : List (List UInt8)} (h : ConInv w3 bo lD l rec os k W) (hx : Exc (fun i => i = b) W W') (hb : w3.heap.size ≤ b) (h1 : bo ≠ b) (h2 : lD ≠ b) (h3 : l ≠ b) : ConInv w3 bo lD l rec os k W' :=
 ⟨⟨hx.os.trans h.fr.os, hx.tape.trans h.fr.tape, hx.output.trans h.fr.output, Nat.le_trans h.fr.size hx.size, fun i hi => (hx.block i (Nat.lt_of_lt_of_le hi h.fr.size) (by show ¬ i = b; omega)).trans (h.fr.block i hi)⟩, hx.blk h.o h1, (hx.block _ (Array.getElem?_eq_some_iff.1 h.df).1 h2).trans h.df, (hx.block _ (Array.getElem?_eq_some_iff.1 h.lp).1 h3).trans h.lp⟩
theorem ConInv.put {w3 W : World} {bo lD l k : Nat} {rec : Loop} {os : List (List UInt8)} (h : ConInv w3 bo lD l rec os k W) (hl : w3.heap.size ≤ l) (hne : lD ≠ l) (r' : Loop) : ConInv w3 bo lD l r' os k (W.putObj l (.loop r')) := by
 have hg := grownBy_putObj' W l (.loop r')
 exact ⟨h.fr.grown hg h.fr.size (by intro k hk; cases hk; exact hl), h.o.grown hg (fun e => Obj_cells_ne h.o h.lp rfl (by cases e; rfl)), (World.putObj_heap_other hne).trans h.df, World.putObj_heap_same (Array.getElem?_eq_some_iff.1 h.lp).1⟩
end Go.Proofs.YtkmiphabagoifaaGreatDoor
end

section
namespace Go.Proofs.YtkmiphabagoifaaGreatDoor
open Go.RowKit Go.Shelf Dl
attribute [local go_sem] Oper.semAt_some

theorem str_add (a b : List UInt8) : (⟨a.toArray⟩ : ByteArray) ++ (⟨b.toArray⟩ : ByteArray) = ⟨(a ++ b).toArray⟩ := by
 apply ByteArray.ext
 simp [ByteArray.data_append]
theorem textL_take_len (os : List (List UInt8)) (k : Nat) : (textL (os.take k)).length ≤ (textL os).length := by
 have h : textL os = textL (os.take k) ++ textL (os.drop k) := by
  unfold textL
  rw [← List.flatMap_append, List.take_append_drop]
 rw [h, List.length_append]
 omega
set_option maxRecDepth 100000 in
set_option maxHeartbeats 16000000 in
theorem Console_ok (A1 A2 A3 A4 A5 A6 : Option Addr) (n1 c1 n2 c2 c3 n4 c4 n5 c5 n6 c6 wm br hr wg pc : Nat) (lim ep mn md ma yr : Int) (ls : List Lk) (hs : List Int) (tg : List (Int × Int)) (ho cy : List Int) (fe : List Feast) (ls0 os : List (List UInt8)) (w : World) (h : SuAt w A1 A2 A3 A4 A5 A6 n1 n2 n4 n5 n6 ls hs tg ho cy fe) (hok : SuOk n1 c1 n2 n4 n5 n6 wm br hr wg pc lim ep mn md ma yr ls hs tg ho cy fe) (hf1 : Fm A1 n1) (hf2 : Fm A2 n2) (hf3 : Fm A3 n2) (hf4 : Fm A4 n4) (hf5 : Fm A5 n5) (hf6 : Fm A6 n6) (hn2 : n2 ≤ 1000)
  (txt : List UInt8) (htx : textL ls0 = txt ++ [10]) (hls : ∀ x ∈ ls0, ∀ c ∈ x, c ≠ 10) (hlen : (textL ls0).length ≤ 1500) (hlo : ls0.length = os.length) (hlen2 : (textL os).length ≤ 1000000)
  (hans : ∀ g gs B1 B2 B3 B4 B5 B6 k1 k2 k3 k4 k5 k6 D dc W, DeskAt W g gs B1 B2 B3 B4 B5 B6 n1 k1 n2 k2 k3 n4 k4 n5 k5 n6 k6 wm br hr wg pc lim ep mn md ma yr D (longY cy yr) dc (.slice none 0 0) (.slice none 0 0) ls hs tg ho cy fe (feastsY ep cy mn md ma yr fe) (firstDay ep cy yr) → Below w.heap.size w W → ∀ (k : Nat) (x o : List UInt8), ls0[k]? = some x → os[k]? = some o → Calls Tryz.prog 95 #[.pointer (some ⟨g, 0, none⟩), .string ⟨x.toArray⟩] W fun e w' => e = .returned (.string ⟨o.toArray⟩) ∧ Below W.heap.size W w') :
  Calls Tryz.prog 31 #[.agg #[.slice A1 n1 c1, .slice A2 n2 c2, .slice A3 n2 c3, .int .i64 lim, .int .i64 wm, .slice A4 n4 c4, .int .i64 ep, .slice A5 n5 c5, .int .i64 mn, .int .i64 md, .int .i64 ma, .slice A6 n6 c6, .int .i64 yr, .int .i64 br, .int .i64 hr, .int .i64 wg, .int .i64 pc], .string ⟨(textL ls0).toArray⟩] w fun e w' => e = .returned (.tuple #[.string ⟨(textL os).toArray⟩, .int .i64 0]) ∧ Below w.heap.size w w' := by
 have hb0 := fr_alloc (fr_refl w) (.cells #[.slice A1 n1 c1, .slice A2 n2 c2, .slice A3 n2 c3, .int .i64 lim, .int .i64 wm, .slice A4 n4 c4, .int .i64 ep, .slice A5 n5 c5, .int .i64 mn, .int .i64 md, .int .i64 ma, .slice A6 n6 c6, .int .i64 yr, .int .i64 br, .int .i64 hr, .int .i64 wg, .int .i64 pc] 35)
 have hX := Blk.new w 35 #[.slice A1 n1 c1, .slice A2 n2 c2, .slice A3 n2 c3, .int .i64 lim, .int .i64 wm, .slice A4 n4 c4, .int .i64 ep, .slice A5 n5 c5, .int .i64 mn, .int .i64 md, .int .i64 ma, .slice A6 n6 c6, .int .i64 yr, .int .i64 br, .int .i64 hr, .int .i64 wg, .int .i64 pc]
 obtain ⟨w1, hw1⟩ : ∃ w1, w.alloc (.cells #[.slice A1 n1 c1, .slice A2 n2 c2, .slice A3 n2 c3, .int .i64 lim, .int .i64 wm, .slice A4 n4 c4, .int .i64 ep, .slice A5 n5 c5, .int .i64 mn, .int .i64 md, .int .i64 ma, .slice A6 n6 c6, .int .i64 yr, .int .i64 br, .int .i64 hr, .int .i64 wg, .int .i64 pc] 35) = w1 := ⟨_, rfl⟩
 rw [hw1] at hb0 hX
 have K1 := Open_ok A1 A2 A3 A4 A5 A6 n1 c1 n2 c2 c3 n4 c4 n5 c5 n6 c6 wm br hr wg pc lim ep mn md ma yr ls hs tg ho cy fe w1 (h.keep hb0) hok hf1 hf2 hf3 hf4 hf5 hf6 hn2
 have HA := Lib.hid hans
 have hsz : (⟨(textL ls0).toArray⟩ : ByteArray).size = (textL ls0).length := by show (textL ls0).toArray.size = _; simp
 obtain ⟨S, hS⟩ : ∃ S : ByteArray, ⟨(textL ls0).toArray⟩ = S := ⟨_, rfl⟩
 have hhs : ∀ W, Calls Tryz.prog 93 #[.string S, .string ⟨#[10]⟩] W fun e w' => e = .returned (.bool true) ∧ w' = W := fun W => by
  have := hasNl_is txt W (by rw [htx] at hlen; simp at hlen; omega)
  rw [← htx, hS] at this
  exact this
 rw [hS] at hsz ⊢
 have hne : (S.toList == ByteArray.toList ⟨#[]⟩) = false := by
  rw [← hS, ByteArray.toList_mk]
  show (textL ls0 == ByteArray.toList ⟨([] : List UInt8).toArray⟩) = false
  rw [ByteArray.toList_mk, htx]
  cases txt <;> rfl
 have hne2 : S.toList.isEmpty = false := by
  rw [← hS, ByteArray.toList_mk, htx]
  cases txt <;> rfl
 have i1 : (S.size : Int) ≤ 1500 := by omega
 have HS := Lib.hid hS
 have hs0 := hb0.size
 clear h hok hf1 hf2 hf3 hf4 hf5 hf6 hans hS htx
 refine (callsIn_wide (n := 6)).1 (callsIn_of_wp_marks Tryz.func31 rfl trivial ?_ rfl)
 simp only [Tryz.ntmps31, List.size_toArray, List.length_cons, List.length_nil, Nat.reduceAdd, Nat.reduceSub, Array.replicate_succ, Array.replicate_zero, List.push_toArray, List.append_toArray, List.nil_append, List.cons_append]
 refine wpIn_wide.2 ?_
 go_upto_region 1 with (fail)
 (try rw [hw1])
 clear hw1
 go_wp2_with (refine wpList_load_blk rfl _ _ rfl w.heap.size rfl _ _ hX Tryz.underlying35 rfl (by kernel_rfl) ?_)
 refine K1.mono ?_
 rintro e w2 ⟨g, gs, B1, B2, B3, B4, B5, B6, k1, k2, k3, k4, k5, k6, D, dc, rfl, hD, hgw, hb2⟩
 clear K1 hX
 go_upto_region 2 with (fail)
 have hb3 := fr_alloc (fr_refl w2) (.cells #[.pointer (some ⟨g, 0, none⟩)] 38)
 have hBd := Blk.new w2 38 #[.pointer (some ⟨g, 0, none⟩)]
 have hD3 := Lib.hid (hD.keep hb3)
 have hb03 := fr_call hb0 (fr_call hb2 hb3)
 obtain ⟨bd, hbd⟩ : ∃ q, w2.heap.size = q := ⟨_, rfl⟩
 rw [hbd] at hBd
 (try rw [hbd])
 clear hD hb2 hb3 hbd
 generalize w2.alloc (.cells #[.pointer (some ⟨g, 0, none⟩)] 38) = w3 at *
 go_wp2_with fail
 refine (hhs _).mono ?_
 rintro e w3 ⟨rfl, rfl⟩
 go_upto_region 9 with (fail)
 have hb4 := fr_alloc (fr_refl w3) (.cells #[.string ⟨#[]⟩] 9)
 have hBo := Blk.new w3 9 #[.string ⟨#[]⟩]
 have hs4 : (w3.alloc (.cells #[.string ⟨#[]⟩] 9)).heap.size = w3.heap.size + 1 := by simp
 generalize w3.alloc (.cells #[.string ⟨#[]⟩] 9) = w4 at *
 go_wp2_with fail
 refine (lines_is S w4).mono ?_
 rintro e w5 ⟨rfl, hBs, hs5, hb5⟩
 have hBo5 := hBo.keep hb5
 have hb35 := fr_call hb4 hb5
 clear hb4 hb5 hBo hhs hne hne2
 rw [hs4] at hBs hs5 ⊢
 have hs5b : w3.heap.size + 1 < w5.heap.size := by omega
 clear hs5 hs4
 have hlB := hBd.lt
 go_wp2_with fail
 refine (wpIn_wide (n := 6)).1 ?_
 refine wpIn_range_enter (gf := 163) rfl (enters_of Tryz.func163 (by kernel_rfl) rfl) (fun fn rec hst hpe hfn htm hpa has hbod => ?_)
 generalize hl : w5.heap.size + 1 = l at *
 obtain ⟨W1, hW1⟩ : ∃ W1, (w5.alloc (.deferred (some []))).alloc (.loop rec) = W1 := ⟨_, rfl⟩
 have hL1 : W1.heap[l]? = some (.loop rec) := by
  rw [← hW1, ← hl]; have := World.alloc_heap_new (w5.alloc (.deferred (some []))) (.loop rec); rwa [World.size_alloc] at this
 have hD1 : W1.heap[w5.heap.size]? = some (.deferred (some [])) := by
  rw [← hW1]; exact (Below.heap_alloc _ _ _ (by simp)).trans (World.alloc_heap_new w5 _)
 have hb51 : Below w5.heap.size w5 W1 := by rw [← hW1]; exact fr_alloc (fr_alloc (fr_refl _) _) _
 rw [hW1]
 have h0 : ConInv w3 w3.heap.size w5.heap.size l rec os 0 W1 := ⟨fr_call hb35 hb51, hBo5.keep hb51, hD1, hL1⟩
 have hY : ∀ (k : Nat) (x : List UInt8) (s : Value) W, ConInv w3 w3.heap.size w5.heap.size l rec os k W → ls0[k]? = some x → Blk W (w3.heap.size + 1) 9 #[s] → YieldAt Fence.wide 5 Tryz.prog l #[.string ⟨(x ++ [10]).toArray⟩] W fun e W' => e = .returned (.bool true) ∧ ConInv w3 w3.heap.size w5.heap.size l rec os (k + 1) W' ∧ Blk W' (w3.heap.size + 1) 9 #[s] := by
  intro k x s W hi hx hBsW
  have hy := run_yield (P := Tryz.prog) (args := #[.string ⟨(x ++ [10]).toArray⟩]) hi.lp (by rw [hpa]; rfl)
  rw [hfn, htm, hpa, has, hbod] at hy
  refine ⟨_, _, _, _, hy, roundIn_of_wpIn trivial ?_⟩
  clear hy
  gi_wp2
  refine ⟨_, run_beginRound hi.lp hst, ?_⟩
  have hiB := hi.put (by omega) (by omega) { rec with state := .busy }
  have hBsB : Blk (W.putObj l (.loop { rec with state := .busy })) (w3.heap.size + 1) 9 #[s] := hBsW.grown (grownBy_putObj' W l _) (fun e => Obj_cells_ne hBsW hi.lp rfl (by cases e; rfl))
  generalize W.putObj l (.loop { rec with state := .busy }) = WB at *
  have hrec : ({ rec with state := .ready, pending := none } : Loop) = rec := by
   cases rec
   simp only at hst hpe
   rw [hst, hpe]
  have fin : ∀ (WC : World) (a : Act), ConInv w3 w3.heap.size w5.heap.size l { rec with state := .busy } os (k + 1) WC → Blk WC (w3.heap.size + 1) 9 #[s] →
    roundPost Tryz.prog l (fun e W' => e = .returned (.bool true) ∧ ConInv w3 w3.heap.size w5.heap.size l rec os (k + 1) W' ∧ Blk W' (w3.heap.size + 1) 9 #[s]) .normal a WC := by
   intro WC a hi' hb'
   have h0 := hi'.put (by omega) (by omega) { { rec with state := .busy } with state := .ready, pending := none }
   refine ⟨_, _, run_endRound none hi'.lp, rfl, ?_, hb'.grown (grownBy_putObj' WC l _) (fun e => Obj_cells_ne hb' hi'.lp rfl (by cases e; rfl))⟩
   exact ⟨h0.fr, h0.o, h0.df, h0.lp.trans (congrArg some (congrArg Obj.loop hrec))⟩
  obtain ⟨rb, hrb⟩ : ∃ r : Loop, { rec with state := .busy } = r := ⟨_, rfl⟩
  rw [hrb] at hiB fin
  have hkl : k < ls0.length := (List.getElem?_eq_some_iff.1 hx).1
  obtain ⟨o, ho⟩ : ∃ o, os[k]? = some o := ⟨_, List.getElem?_eq_getElem (by omega)⟩
  have hxl : x.length ≤ 1000000 := by
   have h1 := textL_drop_len ls0 k
   rw [textL_drop ls0 k hkl, show ls0[k] = x from (List.getElem?_eq_some_iff.1 hx).2] at h1
   simp at h1
   omega
  have hout : textL (os.take (k + 1)) = textL (os.take k) ++ (o ++ [10]) := by
   have hko : k < os.length := by omega
   rw [List.take_succ_eq_append_getElem hko, show os[k] = o from (List.getElem?_eq_some_iff.1 ho).2]
   simp [textL]
  have hol := textL_take_len os (k + 1)
  rw [hout] at hol
  simp only [List.length_append, List.length_cons, List.length_nil] at hol
  have hC1 : (⟨o.toArray⟩ : ByteArray) ++ (⟨#[10]⟩ : ByteArray) = ⟨(o ++ [10]).toArray⟩ := str_add o [10]
  have hC2 := str_add (textL (os.take k)) (o ++ [10])
  have HO := Lib.hid hout
  have HC1 := Lib.hid hC1
  have HC2 := Lib.hid hC2
  clear hC1 hC2
  have hAn := fun WX (hb : Below w3.heap.size w3 WX) => HA.out g gs B1 B2 B3 B4 B5 B6 k1 k2 k3 k4 k5 k6 D dc WX (hD3.out.keep hb) (fr_call hb03 hb) k x o hx ho
  have hfB := hiB.fr
  have hoB := hiB.o
  have hdB := hiB.df
  have hlp := hiB.lp
  generalize textL (os.take k) = ot at *
  clear hi hiB hout hx ho hrec hst hpe hfn htm hpa has hbod hBsW hD1 hL1 hb51 hBo5 hBs h0 hW1 hrb
  gi_wp2
  have hbz := fr_drew (fr_refl WB)
  have hkS : ∀ W', Below WB.heap.size WB W' → W'.cell? ⟨bd, 0, none⟩ = some (.pointer (some ⟨g, 0, none⟩)) := fun W' hb => (hBd.keep (fr_call hfB hb)).cell 0
  have hBo := hoB.keep hbz
  refine wpIn_region_round (S := fun W' => W'.cell? ⟨bd, 0, none⟩ = some (.pointer (some ⟨g, 0, none⟩))) (by kernel_rfl) (fun ⟨_, _, h⟩ => h) (by kernel_rfl) (hkS _ hbz) (fun hHeld => ?_)
  generalize WB.drew = wz at hbz hHeld hBo ⊢
  -- the region, step by step, in whatever order
  refine wpAnyH_take (i := 1) (oi := ⟨some 32, .load 38 (.tmp 6), 38, "text.go:191", #[], none⟩) (v := ?_) rfl (by kernel_rfl) (by kernel_rfl) (by kernel_rfl) (fun _ _ _ h => h) (Or.inl ⟨by rfl, fun W hSw => ?_⟩) hHeld ?_
  rotate_left
  ·(try dsimp only at hSw); go_simp; (try with_reducible rfl)
  (try simp only [Act.put, List.setIfInBounds_toArray, List.set_cons_zero, List.set_cons_succ])
  refine wpAnyH_take (i := 2) (oi := ⟨some 33, .move (.tmp 9), 9, "text.go:191", #[], none⟩) (v := ?_) rfl (by kernel_rfl) (by kernel_rfl) (by kernel_rfl) (fun _ _ _ h => h) (Or.inl ⟨by rfl, fun W hSw => ?_⟩) hHeld ?_
  rotate_left
  ·(try dsimp only at hSw); go_simp; (try with_reducible rfl)
  (try simp only [Act.put, List.setIfInBounds_toArray, List.set_cons_zero, List.set_cons_succ])
  refine wpAnyH_ready (rs := [0, 3]) (by kernel_rfl) (by simp) ?_
  refine (AllReadyH.cons (o := ⟨some 31, .load 9 (.tmp 8), 9, "text.go:191", #[], none⟩) rfl (fun K hK => ?_) (AllReadyH.cons (o := ⟨some 34, .call { callee := .value (.func 96), args := #[.tmp 33, .const (.string { data := #[10] })], argTypes := #[9, 9] }, 9, "text.go:191", #[⟨2, .data⟩], none⟩) rfl (fun K hK => ?_) AllReadyH.nil))
  ·rw [if_pos (by rfl)]
   have hc5 := hBo.cell 0
   go_simp
   refine hK.out _ _ (hkS _ hbz) (fun hHeld => ?_)
   clear hK K
   (try simp only [Act.put, List.setIfInBounds_toArray, List.set_cons_zero, List.set_cons_succ])
   refine wpAnyH_ready (rs := [3]) (by kernel_rfl) (by simp) ?_
   refine (AllReadyH.cons (o := ⟨some 34, .call { callee := .value (.func 96), args := #[.tmp 33, .const (.string { data := #[10] })], argTypes := #[9, 9] }, 9, "text.go:191", #[⟨2, .data⟩], none⟩) rfl (fun K hK => ?_) AllReadyH.nil)
   rw [if_pos (by rfl)]
   go_simp
   refine (trim_is x wz hxl).mono ?_
   rintro e wz ⟨rfl, rfl⟩
   refine hK.out _ _ (hkS _ hbz) (fun hHeld => ?_)
   clear hK K
   (try simp only [Act.put, List.setIfInBounds_toArray, List.set_cons_zero, List.set_cons_succ])
   refine wpAnyH_ready (rs := [4]) (by kernel_rfl) (by simp) ?_
   refine (AllReadyH.cons (o := ⟨some 35, .call { callee := .value (.func 95), args := #[.tmp 32, .tmp 34], argTypes := #[38, 9] }, 9, "text.go:191", #[⟨1, .data⟩, ⟨3, .data⟩, ⟨3, .chain⟩], none⟩) rfl (fun K hK => ?_) AllReadyH.nil)
   rw [if_pos (by rfl)]
   go_simp
   refine (hAn wz (fr_call hfB hbz)).mono ?_
   rintro e wz ⟨rfl, hb1⟩
   replace hbz := fr_call hbz hb1
   replace hBo := hBo.keep hb1
   refine hK.out _ _ (hkS _ hbz) (fun hHeld => ?_)
   clear hK K
   (try simp only [Act.put, List.setIfInBounds_toArray, List.set_cons_zero, List.set_cons_succ])
   refine wpAnyH_ready (rs := [5]) (by kernel_rfl) (by simp) ?_
   refine (AllReadyH.cons (o := ⟨some 36, .binOp .add 9 (.tmp 35) (.const (.string { data := #[10] })) 9, 9, "text.go:191", #[⟨4, .data⟩], none⟩) rfl (fun K hK => ?_) AllReadyH.nil)
   rw [if_pos (by rfl)]
   go_simp
   rw [if_neg (by omega), HC1.out]
   go_simp
   refine hK.out _ _ (hkS _ hbz) (fun hHeld => ?_)
   clear hK K
   (try simp only [Act.put, List.setIfInBounds_toArray, List.set_cons_zero, List.set_cons_succ])
   refine wpAnyH_ready (rs := [6]) (by kernel_rfl) (by simp) ?_
   refine (AllReadyH.cons (o := ⟨some 37, .binOp .add 9 (.tmp 31) (.tmp 36) 9, 9, "text.go:191", #[⟨0, .data⟩, ⟨5, .data⟩], none⟩) rfl (fun K hK => ?_) AllReadyH.nil)
   rw [if_pos (by rfl)]
   go_simp
   rw [if_neg (by omega), HC2.out]
   go_simp
   refine hK.out _ _ (hkS _ hbz) (fun hHeld => ?_)
   clear hK K
   (try simp only [Act.put, List.setIfInBounds_toArray, List.set_cons_zero, List.set_cons_succ])
   refine wpAnyH_ready (rs := [7]) (by kernel_rfl) (by simp) ?_
   refine (AllReadyH.cons (o := ⟨none, .store 9 (.tmp 8) (.tmp 37), 0, "text.go:191", #[⟨6, .data⟩, ⟨4, .chain⟩, ⟨0, .phase⟩, ⟨1, .phase⟩, ⟨2, .phase⟩, ⟨3, .phase⟩, ⟨4, .phase⟩, ⟨5, .phase⟩, ⟨6, .phase⟩], none⟩) rfl (fun K hK => ?_) AllReadyH.nil)
   rw [if_pos (by rfl)]
   have hcz := hBo.cell 0
   have hfz := hBo.frozen 0
   go_simp
   have hB3 := hBo.set_ 0 (.string ⟨(ot ++ (o ++ [10])).toArray⟩)
   have hgs := grown_set wz ⟨w3.heap.size, 0, none⟩ (.string ⟨(ot ++ (o ++ [10])).toArray⟩)
   refine hK.out _ _ (((hBd.keep (fr_call hfB hbz)).grown hgs (by simp; omega)).cell 0) (fun hHeld => ?_)
   clear hK K
   refine wpAnyH_done (by kernel_rfl) ?_ _
   have hDz := (hbz.block _ (Array.getElem?_eq_some_iff.1 hdB).1).trans hdB
   have hLz := (hbz.block _ (Array.getElem?_eq_some_iff.1 hlp).1).trans hlp
   have hDf := heap_setO hBo hDz rfl (.string ⟨(ot ++ (o ++ [10])).toArray⟩) (i := 0)
   have hLf := heap_setO hBo hLz rfl (.string ⟨(ot ++ (o ++ [10])).toArray⟩) (i := 0)
   have hBs3 := (hBsB.keep hbz).grown hgs (by simp)
   have hfr3 := (fr_call hfB hbz).grown hgs (fr_call hfB hbz).size (by intro k hk; cases hk; exact Nat.le_refl _)
   have hfinal := fun a => fin _ a ⟨hfr3, by rw [HO.out]; exact hB3, hDf, hLf⟩ hBs3
   gi_wp2
  ·rw [if_pos (by rfl)]
   go_simp
   refine (trim_is x wz hxl).mono ?_
   rintro e wz ⟨rfl, rfl⟩
   refine hK.out _ _ (hkS _ hbz) (fun hHeld => ?_)
   clear hK K
   (try simp only [Act.put, List.setIfInBounds_toArray, List.set_cons_zero, List.set_cons_succ])
   refine wpAnyH_ready (rs := [0, 4]) (by kernel_rfl) (by simp) ?_
   refine (AllReadyH.cons (o := ⟨some 31, .load 9 (.tmp 8), 9, "text.go:191", #[], none⟩) rfl (fun K hK => ?_) (AllReadyH.cons (o := ⟨some 35, .call { callee := .value (.func 95), args := #[.tmp 32, .tmp 34], argTypes := #[38, 9] }, 9, "text.go:191", #[⟨1, .data⟩, ⟨3, .data⟩, ⟨3, .chain⟩], none⟩) rfl (fun K hK => ?_) AllReadyH.nil))
   ·rw [if_pos (by rfl)]
    have hc5 := hBo.cell 0
    go_simp
    refine hK.out _ _ (hkS _ hbz) (fun hHeld => ?_)
    clear hK K
    (try simp only [Act.put, List.setIfInBounds_toArray, List.set_cons_zero, List.set_cons_succ])
    refine wpAnyH_ready (rs := [4]) (by kernel_rfl) (by simp) ?_
    refine (AllReadyH.cons (o := ⟨some 35, .call { callee := .value (.func 95), args := #[.tmp 32, .tmp 34], argTypes := #[38, 9] }, 9, "text.go:191", #[⟨1, .data⟩, ⟨3, .data⟩, ⟨3, .chain⟩], none⟩) rfl (fun K hK => ?_) AllReadyH.nil)
    rw [if_pos (by rfl)]
    go_simp
    refine (hAn wz (fr_call hfB hbz)).mono ?_
    rintro e wz ⟨rfl, hb1⟩
    replace hbz := fr_call hbz hb1
    replace hBo := hBo.keep hb1
    refine hK.out _ _ (hkS _ hbz) (fun hHeld => ?_)
    clear hK K
    (try simp only [Act.put, List.setIfInBounds_toArray, List.set_cons_zero, List.set_cons_succ])
    refine wpAnyH_ready (rs := [5]) (by kernel_rfl) (by simp) ?_
    refine (AllReadyH.cons (o := ⟨some 36, .binOp .add 9 (.tmp 35) (.const (.string { data := #[10] })) 9, 9, "text.go:191", #[⟨4, .data⟩], none⟩) rfl (fun K hK => ?_) AllReadyH.nil)
    rw [if_pos (by rfl)]
    go_simp
    rw [if_neg (by omega), HC1.out]
    go_simp
    refine hK.out _ _ (hkS _ hbz) (fun hHeld => ?_)
    clear hK K
    (try simp only [Act.put, List.setIfInBounds_toArray, List.set_cons_zero, List.set_cons_succ])
    refine wpAnyH_ready (rs := [6]) (by kernel_rfl) (by simp) ?_
    refine (AllReadyH.cons (o := ⟨some 37, .binOp .add 9 (.tmp 31) (.tmp 36) 9, 9, "text.go:191", #[⟨0, .data⟩, ⟨5, .data⟩], none⟩) rfl (fun K hK => ?_) AllReadyH.nil)
    rw [if_pos (by rfl)]
    go_simp
    rw [if_neg (by omega), HC2.out]
    go_simp
    refine hK.out _ _ (hkS _ hbz) (fun hHeld => ?_)
    clear hK K
    (try simp only [Act.put, List.setIfInBounds_toArray, List.set_cons_zero, List.set_cons_succ])
    refine wpAnyH_ready (rs := [7]) (by kernel_rfl) (by simp) ?_
    refine (AllReadyH.cons (o := ⟨none, .store 9 (.tmp 8) (.tmp 37), 0, "text.go:191", #[⟨6, .data⟩, ⟨4, .chain⟩, ⟨0, .phase⟩, ⟨1, .phase⟩, ⟨2, .phase⟩, ⟨3, .phase⟩, ⟨4, .phase⟩, ⟨5, .phase⟩, ⟨6, .phase⟩], none⟩) rfl (fun K hK => ?_) AllReadyH.nil)
    rw [if_pos (by rfl)]
    have hcz := hBo.cell 0
    have hfz := hBo.frozen 0
    go_simp
    have hB3 := hBo.set_ 0 (.string ⟨(ot ++ (o ++ [10])).toArray⟩)
    have hgs := grown_set wz ⟨w3.heap.size, 0, none⟩ (.string ⟨(ot ++ (o ++ [10])).toArray⟩)
    refine hK.out _ _ (((hBd.keep (fr_call hfB hbz)).grown hgs (by simp; omega)).cell 0) (fun hHeld => ?_)
    clear hK K
    refine wpAnyH_done (by kernel_rfl) ?_ _
    have hDz := (hbz.block _ (Array.getElem?_eq_some_iff.1 hdB).1).trans hdB
    have hLz := (hbz.block _ (Array.getElem?_eq_some_iff.1 hlp).1).trans hlp
    have hDf := heap_setO hBo hDz rfl (.string ⟨(ot ++ (o ++ [10])).toArray⟩) (i := 0)
    have hLf := heap_setO hBo hLz rfl (.string ⟨(ot ++ (o ++ [10])).toArray⟩) (i := 0)
    have hBs3 := (hBsB.keep hbz).grown hgs (by simp)
    have hfr3 := (fr_call hfB hbz).grown hgs (fr_call hfB hbz).size (by intro k hk; cases hk; exact Nat.le_refl _)
    have hfinal := fun a => fin _ a ⟨hfr3, by rw [HO.out]; exact hB3, hDf, hLf⟩ hBs3
    gi_wp2
   ·rw [if_pos (by rfl)]
    go_simp
    refine (hAn wz (fr_call hfB hbz)).mono ?_
    rintro e wz ⟨rfl, hb1⟩
    replace hbz := fr_call hbz hb1
    replace hBo := hBo.keep hb1
    refine hK.out _ _ (hkS _ hbz) (fun hHeld => ?_)
    clear hK K
    (try simp only [Act.put, List.setIfInBounds_toArray, List.set_cons_zero, List.set_cons_succ])
    refine wpAnyH_ready (rs := [0, 5]) (by kernel_rfl) (by simp) ?_
    refine (AllReadyH.cons (o := ⟨some 31, .load 9 (.tmp 8), 9, "text.go:191", #[], none⟩) rfl (fun K hK => ?_) (AllReadyH.cons (o := ⟨some 36, .binOp .add 9 (.tmp 35) (.const (.string { data := #[10] })) 9, 9, "text.go:191", #[⟨4, .data⟩], none⟩) rfl (fun K hK => ?_) AllReadyH.nil))
    ·rw [if_pos (by rfl)]
     have hc5 := hBo.cell 0
     go_simp
     refine hK.out _ _ (hkS _ hbz) (fun hHeld => ?_)
     clear hK K
     (try simp only [Act.put, List.setIfInBounds_toArray, List.set_cons_zero, List.set_cons_succ])
     refine wpAnyH_ready (rs := [5]) (by kernel_rfl) (by simp) ?_
     refine (AllReadyH.cons (o := ⟨some 36, .binOp .add 9 (.tmp 35) (.const (.string { data := #[10] })) 9, 9, "text.go:191", #[⟨4, .data⟩], none⟩) rfl (fun K hK => ?_) AllReadyH.nil)
     rw [if_pos (by rfl)]
     go_simp
     rw [if_neg (by omega), HC1.out]
     go_simp
     refine hK.out _ _ (hkS _ hbz) (fun hHeld => ?_)
     clear hK K
     (try simp only [Act.put, List.setIfInBounds_toArray, List.set_cons_zero, List.set_cons_succ])
     refine wpAnyH_ready (rs := [6]) (by kernel_rfl) (by simp) ?_
     refine (AllReadyH.cons (o := ⟨some 37, .binOp .add 9 (.tmp 31) (.tmp 36) 9, 9, "text.go:191", #[⟨0, .data⟩, ⟨5, .data⟩], none⟩) rfl (fun K hK => ?_) AllReadyH.nil)
     rw [if_pos (by rfl)]
     go_simp
     rw [if_neg (by omega), HC2.out]
     go_simp
     refine hK.out _ _ (hkS _ hbz) (fun hHeld => ?_)
     clear hK K
     (try simp only [Act.put, List.setIfInBounds_toArray, List.set_cons_zero, List.set_cons_succ])
     refine wpAnyH_ready (rs := [7]) (by kernel_rfl) (by simp) ?_
     refine (AllReadyH.cons (o := ⟨none, .store 9 (.tmp 8) (.tmp 37), 0, "text.go:191", #[⟨6, .data⟩, ⟨4, .chain⟩, ⟨0, .phase⟩, ⟨1, .phase⟩, ⟨2, .phase⟩, ⟨3, .phase⟩, ⟨4, .phase⟩, ⟨5, .phase⟩, ⟨6, .phase⟩], none⟩) rfl (fun K hK => ?_) AllReadyH.nil)
     rw [if_pos (by rfl)]
     have hcz := hBo.cell 0
     have hfz := hBo.frozen 0
     go_simp
     have hB3 := hBo.set_ 0 (.string ⟨(ot ++ (o ++ [10])).toArray⟩)
     have hgs := grown_set wz ⟨w3.heap.size, 0, none⟩ (.string ⟨(ot ++ (o ++ [10])).toArray⟩)
     refine hK.out _ _ (((hBd.keep (fr_call hfB hbz)).grown hgs (by simp; omega)).cell 0) (fun hHeld => ?_)
     clear hK K
     refine wpAnyH_done (by kernel_rfl) ?_ _
     have hDz := (hbz.block _ (Array.getElem?_eq_some_iff.1 hdB).1).trans hdB
     have hLz := (hbz.block _ (Array.getElem?_eq_some_iff.1 hlp).1).trans hlp
     have hDf := heap_setO hBo hDz rfl (.string ⟨(ot ++ (o ++ [10])).toArray⟩) (i := 0)
     have hLf := heap_setO hBo hLz rfl (.string ⟨(ot ++ (o ++ [10])).toArray⟩) (i := 0)
     have hBs3 := (hBsB.keep hbz).grown hgs (by simp)
     have hfr3 := (fr_call hfB hbz).grown hgs (fr_call hfB hbz).size (by intro k hk; cases hk; exact Nat.le_refl _)
     have hfinal := fun a => fin _ a ⟨hfr3, by rw [HO.out]; exact hB3, hDf, hLf⟩ hBs3
     gi_wp2
    ·rw [if_pos (by rfl)]
     go_simp
     rw [if_neg (by omega), HC1.out]
     go_simp
     refine hK.out _ _ (hkS _ hbz) (fun hHeld => ?_)
     clear hK K
     (try simp only [Act.put, List.setIfInBounds_toArray, List.set_cons_zero, List.set_cons_succ])
     refine wpAnyH_ready (rs := [0]) (by kernel_rfl) (by simp) ?_
     refine (AllReadyH.cons (o := ⟨some 31, .load 9 (.tmp 8), 9, "text.go:191", #[], none⟩) rfl (fun K hK => ?_) AllReadyH.nil)
     rw [if_pos (by rfl)]
     have hc5 := hBo.cell 0
     go_simp
     refine hK.out _ _ (hkS _ hbz) (fun hHeld => ?_)
     clear hK K
     (try simp only [Act.put, List.setIfInBounds_toArray, List.set_cons_zero, List.set_cons_succ])
     refine wpAnyH_ready (rs := [6]) (by kernel_rfl) (by simp) ?_
     refine (AllReadyH.cons (o := ⟨some 37, .binOp .add 9 (.tmp 31) (.tmp 36) 9, 9, "text.go:191", #[⟨0, .data⟩, ⟨5, .data⟩], none⟩) rfl (fun K hK => ?_) AllReadyH.nil)
     rw [if_pos (by rfl)]
     go_simp
     rw [if_neg (by omega), HC2.out]
     go_simp
     refine hK.out _ _ (hkS _ hbz) (fun hHeld => ?_)
     clear hK K
     (try simp only [Act.put, List.setIfInBounds_toArray, List.set_cons_zero, List.set_cons_succ])
     refine wpAnyH_ready (rs := [7]) (by kernel_rfl) (by simp) ?_
     refine (AllReadyH.cons (o := ⟨none, .store 9 (.tmp 8) (.tmp 37), 0, "text.go:191", #[⟨6, .data⟩, ⟨4, .chain⟩, ⟨0, .phase⟩, ⟨1, .phase⟩, ⟨2, .phase⟩, ⟨3, .phase⟩, ⟨4, .phase⟩, ⟨5, .phase⟩, ⟨6, .phase⟩], none⟩) rfl (fun K hK => ?_) AllReadyH.nil)
     rw [if_pos (by rfl)]
     have hcz := hBo.cell 0
     have hfz := hBo.frozen 0
     go_simp
     have hB3 := hBo.set_ 0 (.string ⟨(ot ++ (o ++ [10])).toArray⟩)
     have hgs := grown_set wz ⟨w3.heap.size, 0, none⟩ (.string ⟨(ot ++ (o ++ [10])).toArray⟩)
     refine hK.out _ _ (((hBd.keep (fr_call hfB hbz)).grown hgs (by simp; omega)).cell 0) (fun hHeld => ?_)
     clear hK K
     refine wpAnyH_done (by kernel_rfl) ?_ _
     have hDz := (hbz.block _ (Array.getElem?_eq_some_iff.1 hdB).1).trans hdB
     have hLz := (hbz.block _ (Array.getElem?_eq_some_iff.1 hlp).1).trans hlp
     have hDf := heap_setO hBo hDz rfl (.string ⟨(ot ++ (o ++ [10])).toArray⟩) (i := 0)
     have hLf := heap_setO hBo hLz rfl (.string ⟨(ot ++ (o ++ [10])).toArray⟩) (i := 0)
     have hBs3 := (hBsB.keep hbz).grown hgs (by simp)
     have hfr3 := (fr_call hfB hbz).grown hgs (fr_call hfB hbz).size (by intro k hk; cases hk; exact Nat.le_refl _)
     have hfinal := fun a => fin _ a ⟨hfr3, by rw [HO.out]; exact hB3, hDf, hLf⟩ hBs3
     gi_wp2
 refine CallsIn.mono (callsIn_wide.2 ((callsIn_wide (n := 6)).1 (lines1_in 5 l (w3.heap.size + 1) ls0 hls _ (by omega) (fun k W W' h hx => h.exc hx (by omega) (by omega) (by omega) (by omega)) hY W1 h0 (by rw [HS.out]; exact hBs.keep hb51)))) ?_
 rintro e W ⟨⟨v, rfl⟩, hi⟩
 have hi4 := hi.put (by omega) (by omega) { rec with state := .exhausted, pending := none }
 refine ⟨_, _, run_endLoop hi.lp (by rw [hst]; simp), ?_⟩
 rw [hpe]
 have hD4 := hi4.df
 have hF4 := fr_call hb03 hi4.fr
 have hO4 := hi4.o
 rw [hlo, List.take_length] at hO4
 have hcn := hO4.cell 0
 have hs45 := hi4.fr.size
 clear hi hi4 hY h0 hBs hBo5 hb51 hL1 hD1
 generalize W.putObj l (.loop { rec with state := .exhausted, pending := none }) = W4 at *
 go_wp2_with fail
 refine ⟨by simp, .inl ⟨_, _, rfl, run_takeDeferred hD4, ?_⟩⟩
 have hg6 := grownBy_putObj' W4 w5.heap.size (.deferred none)
 have hs03 := hb03.size
 exact ⟨_, results_tmp2 rfl _ _ _, rfl, hF4.grown hg6 hF4.size (by intro k hk; cases hk; omega)⟩
end Go.Proofs.YtkmiphabagoifaaGreatDoor
end
