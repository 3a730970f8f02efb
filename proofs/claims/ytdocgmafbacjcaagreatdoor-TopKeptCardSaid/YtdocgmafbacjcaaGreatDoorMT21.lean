/- What TopKept joins: a desk with entries is asked; days that rise; the append of a number (by gen_zs.py). Walk, package journeyman: numbers in decimal, with a blank between two. Walks, package journeyman: the answer of a line (by gen_ym.py). Walk: strings.Lines, an iterator. Walk, package journeyman: Console. -/
import Derived.Test.YtdocgmafbacjcaaGreatDoorMT20
import Derived.Test.YtdocgmafbacjcaaGreatDoorMT19
import Derived.LoopIn
import Derived.Test.YtdocgmafbacjcaaGreatDoorMT10
section
namespace Go.Proofs.YtdocgmafbacjcaaGreatDoor
open Go.RowKit Go.Shelf Dl

section
variable {W : World} {B B1 : Nat} {T : Nat → Prop} {g gs : Nat} {A1 A2 A3 A4 A5 A6 : Option Addr} {n1 c1 n2 c2 c3 n4 c4 n5 c5 n6 c6 wm br hr wg pc : Nat} {lim ep mn md ma yr : Int} {D E : Option Addr} {m dc n ec : Nat} {sv : Value} {ds : List Int} {ls : List Lk} {hs : List Int} {tg : List (Int × Int)} {ho cy : List Int} {fe : List Feast} {fs : List Int} {f : Int}
theorem askS_any (h : DeskE W B B1 T g gs A1 A2 A3 A4 A5 A6 n1 c1 n2 c2 c3 n4 c4 n5 c5 n6 c6 wm br hr wg pc lim ep mn md ma yr D E m dc n ec sv ds ls hs tg ho cy fe fs f) (hgo : GoAll fs f m ds) (hm : m ≤ 1000) (hn : n ≤ 1000) (hbd : n1 ≤ 1000 ∧ n2 ≤ 1000 ∧ n4 ≤ 1000 ∧ n5 ≤ 1000 ∧ n6 ≤ 1000) : AskS g W (fun s W => ∃ B1 B2 B3 B4 B5 B6 k1 k2 k3 k4 k5 k6 mp zv, StAt W s B1 B2 B3 B4 B5 B6 n1 k1 n2 k2 k3 n4 k4 n5 k5 n6 k6 wm br hr wg pc lim ep mn md ma yr D m dc mp zv ds ls hs tg ho cy fe fs f) := by
 refine ⟨fun W hb => (state_any g gs A1 A2 A3 A4 A5 A6 n1 c1 n2 c2 c3 n4 c4 n5 c5 n6 c6 wm br hr wg pc lim ep mn md ma yr D E m dc n ec sv ds ls hs tg ho cy fe fs f W (h.d.keep hb) (h.keep hb).entR hgo hm hn hbd).mono ?_, ?_, ?_⟩
 ·rintro e w' ⟨s, B1, B2, B3, B4, B5, B6, k1, k2, k3, k4, k5, k6, mp, zv, rfl, hS, _, hs, hb⟩
  exact ⟨s, rfl, ⟨B1, B2, B3, B4, B5, B6, k1, k2, k3, k4, k5, k6, mp, zv, hS⟩, hs, hb⟩
 ·rintro s W W' ⟨B1, B2, B3, B4, B5, B6, k1, k2, k3, k4, k5, k6, mp, zv, hS⟩ hb
  exact ⟨B1, B2, B3, B4, B5, B6, k1, k2, k3, k4, k5, k6, mp, zv, hS.keep hb⟩
 ·rintro s q t cs W W' ⟨B1, B2, B3, B4, B5, B6, k1, k2, k3, k4, k5, k6, mp, zv, hS⟩ hQ hcs hx hq
  exact ⟨B1, B2, B3, B4, B5, B6, k1, k2, k3, k4, k5, k6, mp, zv, hS.otherP hQ hcs hx hq⟩
theorem StAt.wr {s : Nat} {mp : Value} {Z : Option Addr} {zc : Nat} {zs : List Int} (h : StAt W s A1 A2 A3 A4 A5 A6 n1 c1 n2 c2 c3 n4 c4 n5 c5 n6 c6 wm br hr wg pc lim ep mn md ma yr D m dc mp (.slice Z zs.length zc) zs ls hs tg ho cy fe fs f) : WrAt W s A1 A2 A3 D Z n1 c1 n2 c2 c3 m dc zs.length zc lim ls hs tg zs :=
 ⟨⟨h.b.cell 0, h.b.cell 1, h.b.cell 3, h.r.r1, h.r.l1, h.r.r2⟩, h.b.cell 2, h.b.cell 17, h.b.cell 21, h.r.r3, h.r.l3, h.own.rd⟩
set_option maxRecDepth 100000 in
/-- no day is told on which a hand is off by more -/
theorem ask_wrong (h : DeskE W B B1 T g gs A1 A2 A3 A4 A5 A6 n1 c1 n2 c2 c3 n4 c4 n5 c5 n6 c6 wm br hr wg pc lim ep mn md ma yr D E m dc n ec sv ds ls hs tg ho cy fe fs f) (hgo : GoAll fs f m ds) (hm : m ≤ 1000) (hn : n ≤ 1000) (hbd : n1 ≤ 1000 ∧ n2 ≤ 1000 ∧ n4 ≤ 1000 ∧ n5 ≤ 1000 ∧ n6 ≤ 1000) (hok : ShopOk ls hs) (hzs : ∀ x ∈ ds, 0 ≤ x ∧ x ≤ 1000) (hR : RisesD 0 ds) (hf : ∀ f ∈ tg, FrOk f) (hlim : 0 ≤ lim ∧ lim ≤ 10800)
  (ho : ∀ (i a : Nat) (f : Int × Int) (day : Int), hs[i]? = some (a : Int) → tg[i]? = some f → 0 ≤ day → day ≤ (m : Int) → -lim ≤ offN (wNum (trainL ls a) f) (wDen (trainL ls a) f) (day - lastD ds day) ∧ offN (wNum (trainL ls a) f) (wDen (trainL ls a) f) (day - lastD ds day) ≤ lim) :
  Calls Tryz.prog 12 #[.pointer (some ⟨g, 0, none⟩), .agg #[.int .i64 7, .slice none 0 0]] W (RetR W 1 [0]) :=
 Ask_any 6 0 61 (.agg #[.string ⟨#[119, 114, 111, 110, 103]⟩, .int .i64 0]) ⟨by omega, by omega, fun w => by kernel_rfl, fun w => by kernel_rfl, rfl, enters_of Tryz.func61 (by kernel_rfl) rfl⟩ g gs _ _ sv _ none 0 [] 1 [0] 7 rfl W h.d.d (askS_any h hgo hm hn hbd) (Rd.nil_ _ _) (fun s W' hS _ _ => by
  obtain ⟨B1, B2, B3, B4, B5, B6, k1, k2, k3, k4, k5, k6, mp, zv, hS⟩ := hS
  obtain ⟨Z, zc, rfl⟩ := hS.own.form
  exact awrong_ok s g _ _ _ D Z none n1 _ n2 _ _ m dc ds.length zc 0 0 lim ls hs tg ds W' hS.wr hS.cap hok hm (by have := h.len; omega) hzs hR hf hlim ho)
end
theorem rises_snoc : ∀ {ds : List Int} {a d : Int}, RisesD a ds → (ds = [] → a < d) → (ds ≠ [] → ds[ds.length - 1]?.getD 0 < d) → RisesD a (ds ++ [d])
 | [], a, d, _, h0, _ => ⟨h0 rfl, trivial⟩
 | [x], a, d, hr, _, h1 => ⟨hr.1, h1 (by simp), trivial⟩
 | x :: y :: ds, a, d, hr, _, h1 => ⟨hr.1, rises_snoc (ds := y :: ds) hr.2 (fun h => by cases h) (fun _ => by have := h1 (by simp); simpa using this)⟩
theorem goB_last {fs : List Int} {f d : Int} {ss : List Int} (h : goB fs f ss d = true) (hn : ss ≠ []) : ss[ss.length - 1]?.getD 0 < d := by
 unfold goB at h
 rw [Bool.and_eq_true] at h
 have h2 := h.2
 rw [Bool.or_eq_true] at h2
 rcases h2 with h2 | h2
 ·exact absurd (List.isEmpty_iff.1 h2) hn
 ·exact of_decide_eq_true h2
theorem goAll_snoc {fs : List Int} {f d : Int} {m : Nat} {ss : List Int} (h : GoAll fs f m ss) (hd : 1 ≤ d ∧ d ≤ (m : Int)) (hg : goB fs f ss d = true) : GoAll fs f m (ss ++ [d]) := fun k x hk => by
 by_cases h1 : k < ss.length
 ·rw [List.getElem?_append_left h1] at hk
  rw [List.take_append_of_le_length (by omega)]
  exact h k x hk
 ·have h2 : k < ss.length + 1 := by have := (List.getElem?_eq_some_iff.1 hk).1; simpa using this
  obtain rfl : k = ss.length := by omega
  rw [List.getElem?_append_right (Nat.le_refl _), Nat.sub_self] at hk
  obtain rfl : d = x := by simpa using hk
  rw [List.take_left']
  ·exact ⟨hd, hg⟩
  ·rfl
theorem idx_snoc (n : Nat) : idxL n ++ [(n : Int)] = idxL (n + 1) := by simp [idxL, List.range_succ]
theorem idx_len (n : Nat) : (idxL n).length = n := by simp [idxL]
/-- what is kept is never off by more -/
theorem kept_off {ps : List Wh} {f : Int × Int} {lim til : Int} {ss : List Int} (hT : TeethP ps) (hn : ps.length ≤ 3) (hf : FrOk f) (hl : 0 ≤ lim) (hR : RisesD 0 ss) (hk : keepsFrom (lastsN (wNum ps f) (wDen ps f) lim) til 0 ss = true) {day : Int} (h0 : 0 ≤ day) (h1 : day ≤ til) :
  -lim ≤ offN (wNum ps f) (wDen ps f) (day - lastD ss day) ∧ offN (wNum ps f) (wDen ps f) (day - lastD ss day) ≤ lim :=
 off_in (by have := (w_bd hT hn hf).2.1; omega) hl (by have := last_bd day ss 0 (by omega) h0 hR; unfold lastD; omega) (kept_day hR hk h0 h1)
theorem app_int2 {ops : Array Oper} {rest : List Oper} {o : Oper} {a : Act} {Q : Exit → Act → World → Prop} {W : World} {y : Int} (hgd : o.guard = none) (s x : Operand)
  (ho : o.op = .call { callee := .builtin .append, args := #[s, x], argTypes := #[23, 23] })
  (base : Nat) (v : Value) (xs : List Int) (hs : a.eval s = v) (hx : a.eval x = .slice (some ⟨W.heap.size, 0, none⟩) 1 1) (hown : Own W base v xs) (hn : xs.length < 1000000) (hbase : base ≤ W.heap.size)
  (h : ∀ A c w', Own w' base (.slice A (xs.length + 1) c) (xs ++ [y]) → (W.alloc (.cells #[.int .i64 y] 3)).grownBy w' v.ownBlock → ((Value.slice A (xs.length + 1) c).ownBlock = v.ownBlock ∨ ∀ k, (Value.slice A (xs.length + 1) c).ownBlock = some k → (W.alloc (.cells #[.int .i64 y] 3)).heap.size ≤ k) → wpList Tryz.prog ops Q rest (a.put o.dst (.slice A (xs.length + 1) c)) w') :
  wpList Tryz.prog ops Q (o :: rest) a (W.alloc (.cells #[.int .i64 y] 3)) :=
 wpList_plain hgd fun K hK => wp_app_int2 23 Tryz.underlying23 s x ho base v xs hs (hown.keep (fr_alloc (fr_refl W) _)) W.heap.size y hx (Blk.new W _ _) hn (by simp; omega) (fun A c w' h1 h2 h3 => hK _ _ (h A c w' h1 h2 h3))
end Go.Proofs.YtdocgmafbacjcaaGreatDoor
end

section
namespace Go.Proofs.YtdocgmafbacjcaaGreatDoor
open Go.RowKit Go.Shelf Dl

def itoaR (xs : List Int) : List (List Value) := xs.map (fun x => [strV (Lib.itoa x)])
def joinedL (xs : List Int) : List UInt8 := Lib.join (xs.map Lib.itoa) [32]
set_option maxRecDepth 100000 in
set_option maxHeartbeats 8000000 in
theorem joined_ok (A : Option Addr) (n c : Nat) (xs : List Int) (w : World) (hr : Rd w A n xs) (hn : 1 ≤ n ∧ n ≤ 1000) (hx : ∀ x ∈ xs, 0 ≤ x ∧ x ≤ 1000000000) (hlen : (joinedL xs).length ≤ 1000000) (hT : TabP w) :
  Calls Tryz.prog 157 #[.slice A n c] w fun e w' => e = .returned (.string ⟨(joinedL xs).toArray⟩) ∧ Below w.heap.size w w' := by
 have HL := Lib.hid hr.len
 go_enter Tryz.func157, Tryz.ntmps157
 go_wp2_with fail
 go_loopw [3, 8] (fun v i wr => ∃ j : Nat, j ≤ n ∧ i = .int .i64 j ∧ OwnS wr w.heap.size 9 1 v (itoaR (xs.take j)) ∧ Below w.heap.size w wr) (fun _ i _ => n - (intOf i).toNat)
 case atStart => exact ⟨0, Nat.zero_le _, rfl, OwnS.nil _ _ _ _, fr_refl _⟩
 case round =>
  obtain ⟨j, hj, rfl, hown, hbr⟩ := hrel
  have hlj : (itoaR (xs.take j)).length = j := by unfold itoaR; rw [List.length_map, List.length_take]; have := HL.out; omega
  have HLJ := Lib.hid hlj
  obtain ⟨B, bc, rfl⟩ := hown.form
  rw [hlj] at hown ⊢
  clear hlj
  by_cases hlt : j < n
  ·have hjl : j < xs.length := by have := HL.out; omega
   obtain ⟨ad, rfl, hab, hc0⟩ := (hr.keep hbr).at_ hlt
   have hxb := hx _ (List.getElem_mem hjl)
   have HSU : Hid (itoaR (xs.take (j + 1)) = itoaR (xs.take j) ++ [[strV (Lib.itoa xs[j])]]) := Lib.hid (by unfold itoaR; rw [List.take_succ_eq_append_getElem hjl, List.map_append]; rfl)
   rw [show xs[j]?.getD 0 = xs[j] by simp [hjl]] at hc0
   generalize xs[j] = x at *
   have i1 : (j : Int) < (n : Int) := by omega
   clear hr hx
   go_wp2_with fail
   refine (itoa_any x _ hxb.1 (by omega) (hT.keep hbr)).mono ?_
   rintro e w2 ⟨rfl, hb2⟩
   have hbw := fr_call hbr hb2
   have hown2 := hown.keep hb2
   have hge := hown2.ge
   clear hown hc0
   go_wp2_with (at_builtin; refine app_row rfl (.tmp 12) (.tmp 15) rfl Tryz.underlying282 info_string rfl (by omega) (by omega) w.heap.size _ (itoaR (xs.take j)) rfl rfl hown2 (r := [strV (Lib.itoa x)]) rfl (by intro u hu; simp only [List.mem_cons, List.not_mem_nil, or_false] at hu; rcases hu with rfl; rfl) (by rw [HLJ.out]; omega) hbw.size ?_; intro B2 cap2 w3 hown3 hg3; rw [HLJ.out] at hown3 ⊢)
   have ha := fr_alloc hbw (.cells [strV (Lib.itoa x)].toArray 9)
   refine ⟨⟨j + 1, hlt, by go_num, by rw [HSU.out]; exact hown3, ha.grown hg3 ha.size hge⟩, ?_⟩
   simp [intOf]; omega
  ·obtain rfl : j = n := by omega
   obtain ⟨g, rfl, hg, hcap⟩ := hown.addr (by rw [HLJ.out]; omega)
   have htk : xs.take j = xs := List.take_of_length_le (by have := HL.out; omega)
   rw [htk] at hown HLJ
   have hrd := hown.rd
   have hmm : (xs.map (fun x => (⟨(Lib.itoa x).toArray⟩ : ByteArray))).map (·.data.toList) = xs.map Lib.itoa := by rw [List.map_map]; rfl
   have hjn := Tryz.strings_Join g 0 bc (xs.map (fun x => (⟨(Lib.itoa x).toArray⟩ : ByteArray))) ⟨#[32]⟩ wr (fun k s hs => by
    rw [List.getElem?_map] at hs
    obtain ⟨x, hx2, rfl⟩ := Option.map_eq_some_iff.1 hs
    obtain ⟨ad, e, _, _, hc⟩ := hrd.at_ (i := k) (r := [strV (Lib.itoa x)]) (by unfold itoaR; rw [List.getElem?_map, hx2]; rfl)
    cases e
    have := hc 0 _ rfl
    rw [add_lit, Nat.mul_one, Nat.add_zero] at this
    exact this) hg (by rw [List.length_map, HL.out]; omega) (by rw [List.length_map, HL.out]; exact hcap) (by rw [hmm]; exact Nat.le_trans hlen (by decide))
   rw [hmm, List.length_map, HL.out] at hjn
   have hj2 : ByteArray.mk (Lib.join (xs.map Lib.itoa) (ByteArray.mk #[32]).data.toList).toArray = ByteArray.mk (joinedL xs).toArray := rfl
   rw [hj2] at hjn
   clear hrd hown hr hx hlen
   go_wp2_with fail
   refine hjn.mono ?_
   rintro e w2 ⟨rfl, hb2⟩
   go_wp2_with fail
   go_ret
   exact ⟨rfl, fr_call hbr hb2⟩
end Go.Proofs.YtdocgmafbacjcaaGreatDoor
end

section
namespace Go.Proofs.YtdocgmafbacjcaaGreatDoor
open Go.RowKit Go.Shelf Dl

set_option maxRecDepth 100000 in
set_option maxHeartbeats 16000000 in
theorem answer_hands (g gs : Nat) (A1 A2 A3 A4 A5 A6 : Option Addr) (n1 c1 n2 c2 c3 n4 c4 n5 c5 n6 c6 wm br hr wg pc : Nat) (lim ep mn md ma yr : Int) (D : Option Addr) (m dc : Nat) (sv : Value) (ls : List Lk) (hs : List Int) (tg : List (Int × Int)) (ho cy : List Int) (fe : List Feast) (fs : List Int) (f : Int) (l p0 : List UInt8) (ws : List (List UInt8)) (rn : Nat) (rl : List Int) (w : World) (h : DeskAt w g gs A1 A2 A3 A4 A5 A6 n1 c1 n2 c2 c3 n4 c4 n5 c5 n6 c6 wm br hr wg pc lim ep mn md ma yr D m dc (.slice none 0 0) sv ls hs tg ho cy fe fs f) (hm : m ≤ 1000) (hbd : n1 ≤ 1000 ∧ n2 ≤ 1000 ∧ n4 ≤ 1000 ∧ n5 ≤ 1000 ∧ n6 ≤ 1000)
  (hl : l.length ≤ 60) (hpf : pieces 32 l = p0 :: ws) (hws : ∀ wd ∈ ws, WdOk wd) (hwn : ws.length = 0) (hkF : Lib.idxBy eqF formsF (p0, ws.length) = -1) (hkA : Lib.idxBy eqF asksF (p0, ws.length) = ((0 : Nat) : Int)) (hrn : 1 ≤ rn ∧ rn ≤ 1000) (hrl : ∀ x ∈ rl, 0 ≤ x ∧ x ≤ 1000000000) (hlen : (joinedL rl).length ≤ 1000000) (hM : MaxP w) (hT : TabP w)
  (hmeth : ∀ N nc s B1 B2 B3 B4 B5 B6 k1 k2 k3 k4 k5 k6 mp W, StateAt W s B1 B2 B3 B4 B5 B6 n1 k1 n2 k2 k3 n4 k4 n5 k5 n6 k6 wm br hr wg pc lim ep mn md ma yr D m dc mp ls hs tg ho cy fe fs f → Blk W g 93 #[.pointer (some ⟨gs, 0, none⟩), .slice D m dc, .slice none 0 0, sv] → Rd W N 0 (ws.map valOf) → Calls Tryz.prog 55 #[.agg #[.pointer (some ⟨s, 0, none⟩), .pointer (some ⟨g, 0, none⟩)], .slice N 0 nc] W (RetR W rn rl)) :
  Calls Tryz.prog 86 #[.pointer (some ⟨g, 0, none⟩), .string ⟨l.toArray⟩] w fun e w' => e = .returned (.string ⟨(joinedL rl).toArray⟩) ∧ Below w.heap.size w w' := by
 have H := Lib.hid h
 have HM := Lib.hid hmeth
 have K1 := Parse_none l p0 ws w hl hpf hkF hM
 have K2 := fun W (hb : Below w.heap.size w W) => question_ok l p0 ws 0 W (by omega) hpf hws hkA (by decide) (hM.keep hb) (hT.keep hb)
 rw [hwn] at K2
 clear h hmeth hws hkF hkA hpf hwn
 have hrn0 : ((rn : Int) == 0) = false := beq_eq_false_iff_ne.2 (by omega)
 have hrn1 : ¬ rn = 0 := by omega
 go_enter Tryz.func86, Tryz.ntmps86
 go_wp2_with fail
 refine K1.mono ?_
 rintro e w1 ⟨rfl, hb1⟩
 clear K1
 go_upto_region 2 with (refine wpList_store_blk rfl _ _ _ rfl w1.heap.size 45 _ _ rfl rfl (Blk.new w1 _ _) rfl (by kernel_rfl) (by simp [Value.oneCell']) ?_; intro w2 hQ hgQ)
 have hb2 : Below w1.heap.size w1 w2 := (fr_alloc (fr_refl w1) _).grown hgQ (fr_alloc (fr_refl w1) _).size (by intro k hk; cases hk; exact Nat.le_refl _)
 (try dsimp only [Act.put])
 have hb02 := fr_call hb1 hb2
 have k2 := K2 w2 hb02
 clear K2 hQ hgQ hb1 hb2
 go_wp2_with fail
 refine k2.mono ?_
 rintro e w3 ⟨N, nc, rfl, hN, hb3⟩
 clear k2
 go_upto_region 10 with (refine wpList_store_blk rfl _ _ _ rfl w3.heap.size 58 _ _ rfl rfl (Blk.new w3 _ _) rfl (by kernel_rfl) (by simp [Value.oneCell']) ?_; intro w4 hQ hgQ)
 have hb4 : Below w3.heap.size w3 w4 := (fr_alloc (fr_refl w3) _).grown hgQ (fr_alloc (fr_refl w3) _).size (by intro k hk; cases hk; exact Nat.le_refl _)
 (try dsimp only [Act.put])
 have hb04 := fr_call hb02 (fr_call hb3 hb4)
 have hA := Ask_hands g gs A1 A2 A3 A4 A5 A6 n1 c1 n2 c2 c3 n4 c4 n5 c5 n6 c6 wm br hr wg pc lim ep mn md ma yr D m dc sv ls hs tg ho cy fe fs f N nc _ rn rl w4 (H.out.keep hb04) hm hbd (hN.keep hb4) (HM.out N nc)
 have hcQ := fun j => hQ.cell j
 clear hb02 hb3 hb4 hgQ hN
 go_wp2_with fail
 refine hA.mono ?_
 rintro e w5 ⟨A, c, rfl, hR, hb5⟩
 have hb05 := fr_call hb04 hb5
 have hJ := joined_ok A rn c rl w5 hR hrn hrl hlen (hT.keep hb05)
 clear hA hcQ hQ
 go_wp2_with fail
 refine hJ.mono ?_
 rintro e w6 ⟨rfl, hb6⟩
 go_wp2_with fail
 go_ret
 exact ⟨rfl, fr_call hb05 hb6⟩
set_option maxRecDepth 100000 in
set_option maxHeartbeats 16000000 in
theorem answer_works (g gs : Nat) (A1 A2 A3 A4 A5 A6 : Option Addr) (n1 c1 n2 c2 c3 n4 c4 n5 c5 n6 c6 wm br hr wg pc : Nat) (lim ep mn md ma yr : Int) (D : Option Addr) (m dc : Nat) (sv : Value) (ls : List Lk) (hs : List Int) (tg : List (Int × Int)) (ho cy : List Int) (fe : List Feast) (fs : List Int) (f : Int) (l p0 : List UInt8) (ws : List (List UInt8)) (rn : Nat) (rl : List Int) (w : World) (h : DeskAt w g gs A1 A2 A3 A4 A5 A6 n1 c1 n2 c2 c3 n4 c4 n5 c5 n6 c6 wm br hr wg pc lim ep mn md ma yr D m dc (.slice none 0 0) sv ls hs tg ho cy fe fs f) (hm : m ≤ 1000) (hbd : n1 ≤ 1000 ∧ n2 ≤ 1000 ∧ n4 ≤ 1000 ∧ n5 ≤ 1000 ∧ n6 ≤ 1000)
  (hl : l.length ≤ 60) (hpf : pieces 32 l = p0 :: ws) (hws : ∀ wd ∈ ws, WdOk wd) (hwn : ws.length = 1) (hkF : Lib.idxBy eqF formsF (p0, ws.length) = -1) (hkA : Lib.idxBy eqF asksF (p0, ws.length) = ((7 : Nat) : Int)) (hrn : 1 ≤ rn ∧ rn ≤ 1000) (hrl : ∀ x ∈ rl, 0 ≤ x ∧ x ≤ 1000000000) (hlen : (joinedL rl).length ≤ 1000000) (hM : MaxP w) (hT : TabP w)
  (hmeth : ∀ N nc s B1 B2 B3 B4 B5 B6 k1 k2 k3 k4 k5 k6 mp W, StateAt W s B1 B2 B3 B4 B5 B6 n1 k1 n2 k2 k3 n4 k4 n5 k5 n6 k6 wm br hr wg pc lim ep mn md ma yr D m dc mp ls hs tg ho cy fe fs f → Blk W g 93 #[.pointer (some ⟨gs, 0, none⟩), .slice D m dc, .slice none 0 0, sv] → Rd W N 1 (ws.map valOf) → Calls Tryz.prog 62 #[.agg #[.pointer (some ⟨s, 0, none⟩), .pointer (some ⟨g, 0, none⟩)], .slice N 1 nc] W (RetR W rn rl)) :
  Calls Tryz.prog 86 #[.pointer (some ⟨g, 0, none⟩), .string ⟨l.toArray⟩] w fun e w' => e = .returned (.string ⟨(joinedL rl).toArray⟩) ∧ Below w.heap.size w w' := by
 have H := Lib.hid h
 have HM := Lib.hid hmeth
 have K1 := Parse_none l p0 ws w hl hpf hkF hM
 have K2 := fun W (hb : Below w.heap.size w W) => question_ok l p0 ws 7 W (by omega) hpf hws hkA (by decide) (hM.keep hb) (hT.keep hb)
 rw [hwn] at K2
 clear h hmeth hws hkF hkA hpf hwn
 have hrn0 : ((rn : Int) == 0) = false := beq_eq_false_iff_ne.2 (by omega)
 have hrn1 : ¬ rn = 0 := by omega
 go_enter Tryz.func86, Tryz.ntmps86
 go_wp2_with fail
 refine K1.mono ?_
 rintro e w1 ⟨rfl, hb1⟩
 clear K1
 go_upto_region 2 with (refine wpList_store_blk rfl _ _ _ rfl w1.heap.size 45 _ _ rfl rfl (Blk.new w1 _ _) rfl (by kernel_rfl) (by simp [Value.oneCell']) ?_; intro w2 hQ hgQ)
 have hb2 : Below w1.heap.size w1 w2 := (fr_alloc (fr_refl w1) _).grown hgQ (fr_alloc (fr_refl w1) _).size (by intro k hk; cases hk; exact Nat.le_refl _)
 (try dsimp only [Act.put])
 have hb02 := fr_call hb1 hb2
 have k2 := K2 w2 hb02
 clear K2 hQ hgQ hb1 hb2
 go_wp2_with fail
 refine k2.mono ?_
 rintro e w3 ⟨N, nc, rfl, hN, hb3⟩
 clear k2
 go_upto_region 10 with (refine wpList_store_blk rfl _ _ _ rfl w3.heap.size 58 _ _ rfl rfl (Blk.new w3 _ _) rfl (by kernel_rfl) (by simp [Value.oneCell']) ?_; intro w4 hQ hgQ)
 have hb4 : Below w3.heap.size w3 w4 := (fr_alloc (fr_refl w3) _).grown hgQ (fr_alloc (fr_refl w3) _).size (by intro k hk; cases hk; exact Nat.le_refl _)
 (try dsimp only [Act.put])
 have hb04 := fr_call hb02 (fr_call hb3 hb4)
 have hA := Ask_works g gs A1 A2 A3 A4 A5 A6 n1 c1 n2 c2 c3 n4 c4 n5 c5 n6 c6 wm br hr wg pc lim ep mn md ma yr D m dc sv ls hs tg ho cy fe fs f N nc _ rn rl w4 (H.out.keep hb04) hm hbd (hN.keep hb4) (HM.out N nc)
 have hcQ := fun j => hQ.cell j
 clear hb02 hb3 hb4 hgQ hN
 go_wp2_with fail
 refine hA.mono ?_
 rintro e w5 ⟨A, c, rfl, hR, hb5⟩
 have hb05 := fr_call hb04 hb5
 have hJ := joined_ok A rn c rl w5 hR hrn hrl hlen (hT.keep hb05)
 clear hA hcQ hQ
 go_wp2_with fail
 refine hJ.mono ?_
 rintro e w6 ⟨rfl, hb6⟩
 go_wp2_with fail
 go_ret
 exact ⟨rfl, fr_call hb05 hb6⟩
set_option maxRecDepth 100000 in
set_option maxHeartbeats 16000000 in
theorem answer_cuts (g gs : Nat) (A1 A2 A3 A4 A5 A6 : Option Addr) (n1 c1 n2 c2 c3 n4 c4 n5 c5 n6 c6 wm br hr wg pc : Nat) (lim ep mn md ma yr : Int) (D : Option Addr) (m dc : Nat) (sv : Value) (ls : List Lk) (hs : List Int) (tg : List (Int × Int)) (ho cy : List Int) (fe : List Feast) (fs : List Int) (f : Int) (l p0 : List UInt8) (ws : List (List UInt8)) (rn : Nat) (rl : List Int) (w : World) (h : DeskAt w g gs A1 A2 A3 A4 A5 A6 n1 c1 n2 c2 c3 n4 c4 n5 c5 n6 c6 wm br hr wg pc lim ep mn md ma yr D m dc (.slice none 0 0) sv ls hs tg ho cy fe fs f) (hm : m ≤ 1000) (hbd : n1 ≤ 1000 ∧ n2 ≤ 1000 ∧ n4 ≤ 1000 ∧ n5 ≤ 1000 ∧ n6 ≤ 1000)
  (hl : l.length ≤ 60) (hpf : pieces 32 l = p0 :: ws) (hws : ∀ wd ∈ ws, WdOk wd) (hwn : ws.length = 1) (hkF : Lib.idxBy eqF formsF (p0, ws.length) = -1) (hkA : Lib.idxBy eqF asksF (p0, ws.length) = ((9 : Nat) : Int)) (hrn : 1 ≤ rn ∧ rn ≤ 1000) (hrl : ∀ x ∈ rl, 0 ≤ x ∧ x ≤ 1000000000) (hlen : (joinedL rl).length ≤ 1000000) (hM : MaxP w) (hT : TabP w)
  (hmeth : ∀ N nc s B1 B2 B3 B4 B5 B6 k1 k2 k3 k4 k5 k6 mp W, StateAt W s B1 B2 B3 B4 B5 B6 n1 k1 n2 k2 k3 n4 k4 n5 k5 n6 k6 wm br hr wg pc lim ep mn md ma yr D m dc mp ls hs tg ho cy fe fs f → Blk W g 93 #[.pointer (some ⟨gs, 0, none⟩), .slice D m dc, .slice none 0 0, sv] → Rd W N 1 (ws.map valOf) → Calls Tryz.prog 64 #[.agg #[.pointer (some ⟨s, 0, none⟩), .pointer (some ⟨g, 0, none⟩)], .slice N 1 nc] W (RetR W rn rl)) :
  Calls Tryz.prog 86 #[.pointer (some ⟨g, 0, none⟩), .string ⟨l.toArray⟩] w fun e w' => e = .returned (.string ⟨(joinedL rl).toArray⟩) ∧ Below w.heap.size w w' := by
 have H := Lib.hid h
 have HM := Lib.hid hmeth
 have K1 := Parse_none l p0 ws w hl hpf hkF hM
 have K2 := fun W (hb : Below w.heap.size w W) => question_ok l p0 ws 9 W (by omega) hpf hws hkA (by decide) (hM.keep hb) (hT.keep hb)
 rw [hwn] at K2
 clear h hmeth hws hkF hkA hpf hwn
 have hrn0 : ((rn : Int) == 0) = false := beq_eq_false_iff_ne.2 (by omega)
 have hrn1 : ¬ rn = 0 := by omega
 go_enter Tryz.func86, Tryz.ntmps86
 go_wp2_with fail
 refine K1.mono ?_
 rintro e w1 ⟨rfl, hb1⟩
 clear K1
 go_upto_region 2 with (refine wpList_store_blk rfl _ _ _ rfl w1.heap.size 45 _ _ rfl rfl (Blk.new w1 _ _) rfl (by kernel_rfl) (by simp [Value.oneCell']) ?_; intro w2 hQ hgQ)
 have hb2 : Below w1.heap.size w1 w2 := (fr_alloc (fr_refl w1) _).grown hgQ (fr_alloc (fr_refl w1) _).size (by intro k hk; cases hk; exact Nat.le_refl _)
 (try dsimp only [Act.put])
 have hb02 := fr_call hb1 hb2
 have k2 := K2 w2 hb02
 clear K2 hQ hgQ hb1 hb2
 go_wp2_with fail
 refine k2.mono ?_
 rintro e w3 ⟨N, nc, rfl, hN, hb3⟩
 clear k2
 go_upto_region 10 with (refine wpList_store_blk rfl _ _ _ rfl w3.heap.size 58 _ _ rfl rfl (Blk.new w3 _ _) rfl (by kernel_rfl) (by simp [Value.oneCell']) ?_; intro w4 hQ hgQ)
 have hb4 : Below w3.heap.size w3 w4 := (fr_alloc (fr_refl w3) _).grown hgQ (fr_alloc (fr_refl w3) _).size (by intro k hk; cases hk; exact Nat.le_refl _)
 (try dsimp only [Act.put])
 have hb04 := fr_call hb02 (fr_call hb3 hb4)
 have hA := Ask_cuts g gs A1 A2 A3 A4 A5 A6 n1 c1 n2 c2 c3 n4 c4 n5 c5 n6 c6 wm br hr wg pc lim ep mn md ma yr D m dc sv ls hs tg ho cy fe fs f N nc _ rn rl w4 (H.out.keep hb04) hm hbd (hN.keep hb4) (HM.out N nc)
 have hcQ := fun j => hQ.cell j
 clear hb02 hb3 hb4 hgQ hN
 go_wp2_with fail
 refine hA.mono ?_
 rintro e w5 ⟨A, c, rfl, hR, hb5⟩
 have hb05 := fr_call hb04 hb5
 have hJ := joined_ok A rn c rl w5 hR hrn hrl hlen (hT.keep hb05)
 clear hA hcQ hQ
 go_wp2_with fail
 refine hJ.mono ?_
 rintro e w6 ⟨rfl, hb6⟩
 go_wp2_with fail
 go_ret
 exact ⟨rfl, fr_call hb05 hb6⟩
end Go.Proofs.YtdocgmafbacjcaaGreatDoor
end

section
namespace Go.Proofs.YtdocgmafbacjcaaGreatDoor
open Go.RowKit Go.Shelf Dl
attribute [local go_sem] Oper.semAt_some

/-- the text of some lines -/
def textL (ls : List (List UInt8)) : List UInt8 := ls.flatMap (fun l => l ++ [10])
theorem index_line : ∀ (l r : List UInt8), (∀ b ∈ l, b ≠ 10) → Lib.indexByte (l ++ 10 :: r) 10 = (l.length : Int)
 | [], r, _ => by simp [Lib.indexByte]
 | b :: l, r, h => by
  have hb : (b == (10 : UInt8)) = false := beq_eq_false_iff_ne.2 (h b (by simp))
  have ih := index_line l r (fun x hx => h x (by simp [hx]))
  show (if b == 10 then (0 : Int) else if Lib.indexByte (l ++ 10 :: r) 10 == -1 then -1 else Lib.indexByte (l ++ 10 :: r) 10 + 1) = _
  rw [hb, ih]
  have : ((l.length : Int) == -1) = false := beq_eq_false_iff_ne.2 (by omega)
  rw [this]
  simp
theorem str_cut (l : List UInt8) (m k : Nat) : (⟨l.toArray⟩ : ByteArray).extract m k = ⟨((l.drop m).take (k - m)).toArray⟩ := by
 apply ByteArray.ext
 simp [ByteArray.data_extract, List.extract_toArray]
theorem textL_drop (ls : List (List UInt8)) (k : Nat) (h : k < ls.length) : textL (ls.drop k) = ls[k] ++ 10 :: textL (ls.drop (k + 1)) := by
 rw [List.drop_eq_getElem_cons h]
 show (ls[k] ++ [10]) ++ textL (ls.drop (k + 1)) = _
 rw [List.append_assoc]
 rfl
theorem textL_drop_len (ls : List (List UInt8)) : ∀ k, (textL (ls.drop k)).length ≤ (textL ls).length := fun k => by
 induction k with
 | zero => exact Nat.le_refl _
 | succ k ih =>
  by_cases h : k < ls.length
  ·rw [textL_drop ls k h] at ih
   simp at ih
   omega
  ·rw [List.drop_of_length_le (by omega)]
   simp [textL]
/-- how long the string in a variable is -/
def strAt (b : Nat) (w : World) : Nat := match w.cell? ⟨b, 0, none⟩ with | some (.string s) => s.size | _ => 0
theorem strAt_blk {w : World} {b : Nat} {t : TypeId} {l : List UInt8} (h : Blk w b t #[.string ⟨l.toArray⟩]) : strAt b w = l.length := by
 unfold strAt
 rw [h.cell 0]
 show l.toArray.size = _
 simp
set_option maxRecDepth 100000 in
set_option maxHeartbeats 4000000 in
theorem lines1_in (m l b : Nat) (ls : List (List UInt8)) (hls : ∀ x ∈ ls, ∀ c ∈ x, c ≠ 10) (J : Nat → World → Prop) (hlen : (textL ls).length ≤ 1000000)
  (hJx : ∀ k W W', J k W → Exc (fun i => i = b) W W' → J k W')
  (hY : ∀ (k : Nat) (x : List UInt8) (s : Value) W, J k W → ls[k]? = some x → Blk W b 9 #[s] → YieldAt Fence.wide m Tryz.prog l #[.string ⟨(x ++ [10]).toArray⟩] W fun e W' => e = .returned (.bool true) ∧ J (k + 1) W' ∧ Blk W' b 9 #[s])
  (W : World) (h0 : J 0 W) (hB : Blk W b 9 #[.string ⟨(textL ls).toArray⟩]) :
  CallsIn Fence.wide (m + 1) Tryz.prog 152 #[.func (.yield l) #[] #[], .pointer (some ⟨b, 0, none⟩)] W fun e W' => (∃ v, e = .returned v) ∧ J ls.length W' := by
 refine callsIn_of_wp Tryz.func152 rfl trivial ?_ rfl
 simp only [Tryz.ntmps152, List.size_toArray, List.length_cons, List.length_nil, Nat.reduceAdd, Nat.reduceSub, Array.replicate_succ, Array.replicate_zero, List.push_toArray, List.append_toArray, List.nil_append, List.cons_append]
 gi_wp2
 gi_loopw [] (fun wr => ∃ k : Nat, k ≤ ls.length ∧ J k wr ∧ Blk wr b 9 #[.string ⟨(textL (ls.drop k)).toArray⟩]) (fun wr => strAt b wr)
 case atStart => exact ⟨0, Nat.zero_le _, h0, hB⟩
 case round =>
  clear h0 hB
  obtain ⟨k, hk, hJ, hB⟩ := hrel
  have hle := textL_drop_len ls k
  have HM := Lib.hid (strAt_blk hB)
  by_cases hlt : k < ls.length
  ·have hx : ls[k]? = some ls[k] := List.getElem?_eq_getElem hlt
   have hno := hls _ (List.getElem_mem hlt)
   rw [textL_drop ls k hlt] at hle hB HM
   generalize ls[k] = x at *
   obtain ⟨R, hR⟩ : ∃ R, textL (ls.drop (k + 1)) = R := ⟨_, rfl⟩
   have HR := Lib.hid hR
   rw [hR] at hle hB HM
   have hix := index_line x R hno
   obtain ⟨S, hS⟩ : ∃ S : ByteArray, ⟨(x ++ 10 :: R).toArray⟩ = S := ⟨_, rfl⟩
   rw [hS] at hB
   have hsz : S.size = x.length + 1 + R.length := by rw [← hS]; show (x ++ 10 :: R).toArray.size = _; simp; omega
   have hdl : S.data.toList = x ++ 10 :: R := by rw [← hS]
   have hib := Tryz.strings_IndexByte S 10 wr
   rw [hdl] at hib
   replace hib : Calls Tryz.prog 153 #[.string S, .int .u8 10] wr fun e w' => e = .returned (.int .i64 (x.length : Int)) ∧ w' = wr := by rw [← hix]; exact hib
   have hcB := hB.cell 0
   have i1 : (0 : Int) < (S.size : Int) := by omega
   have i2 : (0 : Int) ≤ (x.length : Int) := Int.natCast_nonneg _
   have i3 : IntKind.i64.wrap ((x.length : Int) + 1) = ((x.length + 1 : Nat) : Int) := by
    simp at hle
    rw [IntWalk.i64_in _ (by omega)]; omega
   have HLE := Lib.hid hle
   have HIX := Lib.hid hix
   have HDL := Lib.hid hdl
   have hE1 : S.extract 0 (x.length + 1) = ⟨(x ++ [10]).toArray⟩ := by rw [← hS, str_cut]; congr 2; simp [List.take_append]; exact List.take_of_length_le (by omega)
   have hE2 : S.extract (x.length + 1) (x.length + 1 + R.length) = ⟨R.toArray⟩ := by rw [← hS, str_cut]; congr 2; simp [List.drop_append]; rw [List.drop_of_length_le (by omega)]; simp
   have HE1 := Lib.hid hE1
   have HE2 := Lib.hid hE2
   clear hls hix hno hdl hle hR hS hE1 hE2
   gi_wp2
   refine ⟨trivial, ?_⟩
   refine CallsIn.mono (callsIn_wide.2 hib) ?_
   rintro e w1 ⟨rfl, rfl⟩
   clear hib
   gi_wp2
   refine wpIn_wide.2 ?_
   have hbz := fr_drew (fr_refl w1)
   have hkS : ∀ W, Below w1.heap.size w1 W → W.cell? ⟨b, 0, none⟩ = some (.string S) := fun W hb => (hB.keep hb).cell 0
   refine wp_region_T (S := fun W => W.cell? ⟨b, 0, none⟩ = some (.string S)) (D := fun i => i == 9) (by kernel_rfl) (hkS _ hbz) (fun hHeld => ?_)
   have hBz := hB.keep hbz
   generalize w1.drew = wz at hbz hHeld hBz ⊢
   -- the region, step by step, in whatever order
   refine wpAnyT_take (i := 0) (oi := ⟨some 12, .load 9 (.tmp 1), 9, "iter.go:23", #[], none⟩) (v := ?_) rfl (by kernel_rfl) (by kernel_rfl) (by kernel_rfl) (by kernel_rfl) (fun _ _ _ h => h) (Or.inl ⟨by rfl, fun W hSw => ?_⟩) hHeld ?_
   rotate_left
   ·(try dsimp only at hSw); go_simp; (try with_reducible rfl)
   (try simp only [Act.put, List.setIfInBounds_toArray, List.set_cons_zero, List.set_cons_succ])
   refine wpAnyT_take (i := 1) (oi := ⟨some 13, .move (.tmp 4), 3, "iter.go:23", #[], none⟩) (v := ?_) rfl (by kernel_rfl) (by kernel_rfl) (by kernel_rfl) (by kernel_rfl) (fun _ _ _ h => h) (Or.inl ⟨by rfl, fun W hSw => ?_⟩) hHeld ?_
   rotate_left
   ·(try dsimp only at hSw); go_simp; (try with_reducible rfl)
   (try simp only [Act.put, List.setIfInBounds_toArray, List.set_cons_zero, List.set_cons_succ])
   refine wpAnyT_take (i := 2) (oi := ⟨some 14, .binOp .add 3 (.tmp 13) (.const (.int .i64 1)) 3, 3, "iter.go:23", #[⟨1, .data⟩], none⟩) (v := ?_) rfl (by kernel_rfl) (by kernel_rfl) (by kernel_rfl) (by kernel_rfl) (fun _ _ _ h => h) (Or.inl ⟨by rfl, fun W hSw => ?_⟩) hHeld ?_
   rotate_left
   ·(try dsimp only at hSw); go_simp; (try with_reducible rfl)
   (try simp only [Act.put, List.setIfInBounds_toArray, List.set_cons_zero, List.set_cons_succ])
   refine wpAnyT_take (i := 4) (oi := ⟨some 16, .load 9 (.tmp 1), 9, "iter.go:23", #[], none⟩) (v := ?_) rfl (by kernel_rfl) (by kernel_rfl) (by kernel_rfl) (by kernel_rfl) (fun _ _ _ h => h) (Or.inl ⟨by rfl, fun W hSw => ?_⟩) hHeld ?_
   rotate_left
   ·(try dsimp only at hSw); go_simp; (try with_reducible rfl)
   (try simp only [Act.put, List.setIfInBounds_toArray, List.set_cons_zero, List.set_cons_succ])
   refine wpAnyT_take (i := 5) (oi := ⟨some 17, .move (.tmp 4), 3, "iter.go:23", #[], none⟩) (v := ?_) rfl (by kernel_rfl) (by kernel_rfl) (by kernel_rfl) (by kernel_rfl) (fun _ _ _ h => h) (Or.inl ⟨by rfl, fun W hSw => ?_⟩) hHeld ?_
   rotate_left
   ·(try dsimp only at hSw); go_simp; (try with_reducible rfl)
   (try simp only [Act.put, List.setIfInBounds_toArray, List.set_cons_zero, List.set_cons_succ])
   refine wpAnyT_take (i := 6) (oi := ⟨some 18, .binOp .add 3 (.tmp 17) (.const (.int .i64 1)) 3, 3, "iter.go:23", #[⟨5, .data⟩], none⟩) (v := ?_) rfl (by kernel_rfl) (by kernel_rfl) (by kernel_rfl) (by kernel_rfl) (fun _ _ _ h => h) (Or.inl ⟨by rfl, fun W hSw => ?_⟩) hHeld ?_
   rotate_left
   ·(try dsimp only at hSw); go_simp; (try with_reducible rfl)
   (try simp only [Act.put, List.setIfInBounds_toArray, List.set_cons_zero, List.set_cons_succ])
   refine wpAnyT_ready (rs := [3, 7]) (by kernel_rfl) (by simp) ?_
   refine (AllReadyT.cons (o := ⟨some 15, .slice 9 (.tmp 12) none (some (.tmp 14)) none, 9, "iter.go:23", #[⟨0, .data⟩, ⟨2, .data⟩], none⟩) rfl (fun K hK => ?_) (AllReadyT.cons (o := ⟨some 19, .slice 9 (.tmp 16) (some (.tmp 18)) none none, 9, "iter.go:23", #[⟨4, .data⟩, ⟨6, .data⟩], none⟩) rfl (fun K hK => ?_) AllReadyT.nil))
   ·rw [if_pos (by rfl)]
    go_simp
    rw [if_pos (by omega), HE1.out]
    go_simp
    refine hK.out _ _ (hkS _ hbz) (fun hHeld => ?_)
    clear hK K
    (try simp only [Act.put, List.setIfInBounds_toArray, List.set_cons_zero, List.set_cons_succ])
    refine wpAnyT_take (i := 8) (oi := ⟨some 3, .assign (.tmp 15), 9, "iter.go:23", #[⟨3, .data⟩, ⟨0, .phase⟩, ⟨1, .phase⟩, ⟨2, .phase⟩, ⟨3, .phase⟩, ⟨4, .textOnly .lateStores⟩, ⟨5, .textOnly .lateStores⟩, ⟨6, .textOnly .lateStores⟩, ⟨7, .textOnly .lateStoresUnsure⟩], none⟩) (v := ?_) rfl (by kernel_rfl) (by kernel_rfl) (by kernel_rfl) (by kernel_rfl) (fun _ _ _ h => h) (Or.inl ⟨by rfl, fun W hSw => ?_⟩) hHeld ?_
    rotate_left
    ·(try dsimp only at hSw); go_simp; (try with_reducible rfl)
    (try simp only [Act.put, List.setIfInBounds_toArray, List.set_cons_zero, List.set_cons_succ])
    refine wpAnyT_ready (rs := [7]) (by kernel_rfl) (by simp) ?_
    refine (AllReadyT.cons (o := ⟨some 19, .slice 9 (.tmp 16) (some (.tmp 18)) none none, 9, "iter.go:23", #[⟨4, .data⟩, ⟨6, .data⟩], none⟩) rfl (fun K hK => ?_) AllReadyT.nil)
    rw [if_pos (by rfl)]
    go_simp
    rw [if_pos (by omega), HE2.out]
    go_simp
    refine hK.out _ _ (hkS _ hbz) (fun hHeld => ?_)
    clear hK K
    (try simp only [Act.put, List.setIfInBounds_toArray, List.set_cons_zero, List.set_cons_succ])
    refine wpAnyT_ready (rs := [9]) (by kernel_rfl) (by simp) ?_
    refine (AllReadyT.last (o := ⟨none, .store 9 (.tmp 1) (.tmp 19), 0, "iter.go:23", #[⟨7, .data⟩, ⟨8, .chain⟩, ⟨0, .phase⟩, ⟨1, .phase⟩, ⟨2, .phase⟩, ⟨3, .phase⟩, ⟨4, .phase⟩, ⟨5, .phase⟩, ⟨6, .phase⟩, ⟨7, .phase⟩, ⟨8, .phase⟩], none⟩) rfl rfl (fun K hK => ?_) AllReadyT.nil)
    rw [if_pos (by rfl)]
    have hcz := hBz.cell 0
    have hfz := hBz.frozen 0
    go_simp
    refine hK.out _ _ ?_
    clear hK K
    refine wpAnyT_done (by kernel_rfl) ?_ _
    have hJ2 : J k (wz.setCell ⟨b, 0, none⟩ (.string ⟨R.toArray⟩)) := hJx k w1 _ hJ (((Exc.refl (fun i => i = b) w1).below hbz).set (p := ⟨b, 0, none⟩) (Or.inl rfl) _)
    have hB2 := hBz.set_ 0 (.string ⟨R.toArray⟩)
    obtain ⟨fn2, tm2, as2, bo2, hy2, hR2⟩ := hY k x _ _ hJ2 hx hB2
    gi_wp2
    refine hR2.mono ?_
    rintro e W3 ⟨rfl, hJ3, hB3⟩
    gi_wp2
    go_roundw
    case rel => exact ⟨k + 1, hlt, hJ3, by rw [HR.out]; exact hB3⟩
    case measure =>
     have h1 := strAt_blk hB3
     have h2 := HM.out
     simp at h2
     omega
   ·rw [if_pos (by rfl)]
    go_simp
    rw [if_pos (by omega), HE2.out]
    go_simp
    refine hK.out _ _ (hkS _ hbz) (fun hHeld => ?_)
    clear hK K
    (try simp only [Act.put, List.setIfInBounds_toArray, List.set_cons_zero, List.set_cons_succ])
    refine wpAnyT_ready (rs := [3]) (by kernel_rfl) (by simp) ?_
    refine (AllReadyT.cons (o := ⟨some 15, .slice 9 (.tmp 12) none (some (.tmp 14)) none, 9, "iter.go:23", #[⟨0, .data⟩, ⟨2, .data⟩], none⟩) rfl (fun K hK => ?_) AllReadyT.nil)
    rw [if_pos (by rfl)]
    go_simp
    rw [if_pos (by omega), HE1.out]
    go_simp
    refine hK.out _ _ (hkS _ hbz) (fun hHeld => ?_)
    clear hK K
    (try simp only [Act.put, List.setIfInBounds_toArray, List.set_cons_zero, List.set_cons_succ])
    refine wpAnyT_take (i := 8) (oi := ⟨some 3, .assign (.tmp 15), 9, "iter.go:23", #[⟨3, .data⟩, ⟨0, .phase⟩, ⟨1, .phase⟩, ⟨2, .phase⟩, ⟨3, .phase⟩, ⟨4, .textOnly .lateStores⟩, ⟨5, .textOnly .lateStores⟩, ⟨6, .textOnly .lateStores⟩, ⟨7, .textOnly .lateStoresUnsure⟩], none⟩) (v := ?_) rfl (by kernel_rfl) (by kernel_rfl) (by kernel_rfl) (by kernel_rfl) (fun _ _ _ h => h) (Or.inl ⟨by rfl, fun W hSw => ?_⟩) hHeld ?_
    rotate_left
    ·(try dsimp only at hSw); go_simp; (try with_reducible rfl)
    (try simp only [Act.put, List.setIfInBounds_toArray, List.set_cons_zero, List.set_cons_succ])
    refine wpAnyT_ready (rs := [9]) (by kernel_rfl) (by simp) ?_
    refine (AllReadyT.last (o := ⟨none, .store 9 (.tmp 1) (.tmp 19), 0, "iter.go:23", #[⟨7, .data⟩, ⟨8, .chain⟩, ⟨0, .phase⟩, ⟨1, .phase⟩, ⟨2, .phase⟩, ⟨3, .phase⟩, ⟨4, .phase⟩, ⟨5, .phase⟩, ⟨6, .phase⟩, ⟨7, .phase⟩, ⟨8, .phase⟩], none⟩) rfl rfl (fun K hK => ?_) AllReadyT.nil)
    rw [if_pos (by rfl)]
    have hcz := hBz.cell 0
    have hfz := hBz.frozen 0
    go_simp
    refine hK.out _ _ ?_
    clear hK K
    refine wpAnyT_done (by kernel_rfl) ?_ _
    have hJ2 : J k (wz.setCell ⟨b, 0, none⟩ (.string ⟨R.toArray⟩)) := hJx k w1 _ hJ (((Exc.refl (fun i => i = b) w1).below hbz).set (p := ⟨b, 0, none⟩) (Or.inl rfl) _)
    have hB2 := hBz.set_ 0 (.string ⟨R.toArray⟩)
    obtain ⟨fn2, tm2, as2, bo2, hy2, hR2⟩ := hY k x _ _ hJ2 hx hB2
    gi_wp2
    refine hR2.mono ?_
    rintro e W3 ⟨rfl, hJ3, hB3⟩
    gi_wp2
    go_roundw
    case rel => exact ⟨k + 1, hlt, hJ3, by rw [HR.out]; exact hB3⟩
    case measure =>
     have h1 := strAt_blk hB3
     have h2 := HM.out
     simp at h2
     omega
  ·obtain rfl : k = ls.length := by omega
   have hlen0 : textL (ls.drop ls.length) = [] := by rw [List.drop_length]; rfl
   rw [hlen0] at hB
   have hcB := hB.cell 0
   gi_wp2
   go_end0
   exact ⟨⟨_, rfl⟩, hJ⟩
end Go.Proofs.YtdocgmafbacjcaaGreatDoor
end

section
namespace Go.Proofs.YtdocgmafbacjcaaGreatDoor
open Go.RowKit Go.Shelf Dl
attribute [local go_sem] Oper.semAt_some

theorem trim_is (x : List UInt8) (w : World) (hx : x.length ≤ 1000000) : Calls Tryz.prog 87 #[.string ⟨(x ++ [10]).toArray⟩, .string ⟨#[10]⟩] w fun e w' => e = .returned (.string ⟨x.toArray⟩) ∧ w' = w := by
 have h := Tryz.strings_TrimSuffix ⟨(x ++ [10]).toArray⟩ ⟨#[10]⟩ w (by show (x ++ [10]).toArray.size ≤ _; simp; omega)
 have e : Lib.trimSuffix (⟨(x ++ [10]).toArray⟩ : ByteArray).data.toList (⟨#[10]⟩ : ByteArray).data.toList = x := by
  show Lib.trimSuffix (x ++ [10]) [10] = x
  simp [Lib.trimSuffix, Lib.hasSuffix]
 rw [e] at h
 exact h
theorem hasNl_is (x : List UInt8) (w : World) (hx : x.length ≤ 1000000) : Calls Tryz.prog 84 #[.string ⟨(x ++ [10]).toArray⟩, .string ⟨#[10]⟩] w fun e w' => e = .returned (.bool true) ∧ w' = w := by
 have h := Tryz.strings_HasSuffix ⟨(x ++ [10]).toArray⟩ ⟨#[10]⟩ w (by show (x ++ [10]).toArray.size ≤ _; simp; omega)
 have e : Lib.hasSuffix (⟨(x ++ [10]).toArray⟩ : ByteArray).data.toList (⟨#[10]⟩ : ByteArray).data.toList = true := by
  show Lib.hasSuffix (x ++ [10]) [10] = true
  simp [Lib.hasSuffix]
 rw [e] at h
 exact h
set_option maxHeartbeats 2000000 in
theorem lines_is (s : ByteArray) (w : World) : Calls Tryz.prog 85 #[.string s] w fun e w' => e = .returned (.func (.func 152) #[] #[.pointer (some ⟨w.heap.size, 0, none⟩)]) ∧ Blk w' w.heap.size 9 #[.string s] ∧ w'.heap.size = w.heap.size + 1 ∧ Below w.heap.size w w' := by
 have hmf : ∀ (fn : Fn) (first cap : Array Value) (w : World), (Instr.makeFunc fn first cap).run Tryz.prog w = .ok (.func fn first cap) w := fun _ _ _ _ => rfl
 go_enter Tryz.func85, Tryz.ntmps85
 go_wp2_with fail
 go_ret
 exact ⟨rfl, Blk.new _ _ _, by simp, fr_alloc (fr_refl _) _⟩
/-- what holds between two lines -/
structure ConInv (w3 : World) (bo lD l : Nat) (rec : Loop) (os : List (List UInt8)) (k : Nat) (W : World) : Prop where
 fr : Below w3.heap.size w3 W
 o : Blk W bo 9 #[.string ⟨(textL (os.take k)).toArray⟩]
 df : W.heap[lD]? = some (.deferred (some []))
 lp : W.heap[l]? = some (.loop rec)
theorem ConInv.exc {w3 W W' : World} {bo lD l b k : Nat} {rec : Loop} {os : List (List UInt8)} (h : ConInv w3 bo lD l rec os k W) (hx : Exc (fun i => i = b) W W') (hb : w3.heap.size ≤ b) (h1 : bo ≠ b) (h2 : lD ≠ b) (h3 : l ≠ b) : ConInv w3 bo lD l rec os k W' :=
 ⟨⟨hx.os.trans h.fr.os, hx.tape.trans h.fr.tape, hx.output.trans h.fr.output, Nat.le_trans h.fr.size hx.size, fun i hi => (hx.block i (Nat.lt_of_lt_of_le hi h.fr.size) (by show ¬ i = b; omega)).trans (h.fr.block i hi)⟩, hx.blk h.o h1, (hx.block _ (Array.getElem?_eq_some_iff.1 h.df).1 h2).trans h.df, (hx.block _ (Array.getElem?_eq_some_iff.1 h.lp).1 h3).trans h.lp⟩
theorem ConInv.put {w3 W : World} {bo lD l k : Nat} {rec : Loop} {os : List (List UInt8)} (h : ConInv w3 bo lD l rec os k W) (hl : w3.heap.size ≤ l) (hne : lD ≠ l) (r' : Loop) : ConInv w3 bo lD l r' os k (W.putObj l (.loop r')) := by
 have hg := grownBy_putObj' W l (.loop r')
 exact ⟨h.fr.grown hg h.fr.size (by intro k hk; cases hk; exact hl), h.o.grown hg (fun e => Obj_cells_ne h.o h.lp rfl (by cases e; rfl)), (World.putObj_heap_other hne).trans h.df, World.putObj_heap_same (Array.getElem?_eq_some_iff.1 h.lp).1⟩
end Go.Proofs.YtdocgmafbacjcaaGreatDoor
end
