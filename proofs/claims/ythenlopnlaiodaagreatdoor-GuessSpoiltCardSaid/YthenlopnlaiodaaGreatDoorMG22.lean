/- Reference: the parts of a string; the number that a word says. Reference: the note of a line with a word and numbers (by gen_rnote8.py). -/
import Derived.Test.YthenlopnlaiodaaGreatDoorMG18
import Derived.Test.YthenlopnlaiodaaGreatDoorMG19
section
namespace Go.Proofs.YthenlopnlaiodaaGreatDoor
open Go.RowKit Go.Shelf

/-- parts ps, a part begun, and what is still to be split -/
def restOf (c : UInt8) (ps : List (List UInt8)) (cur s : List UInt8) : List (List UInt8) := ps ++ ((cur ++ (pieces c s).headD []) :: (pieces c s).tail)
theorem rest_start (c : UInt8) (s : List UInt8) : restOf c [] [] s = pieces c s := (pieces_form c s).symm
theorem rest_cut (c : UInt8) (ps : List (List UInt8)) (cur s : List UInt8) : restOf c ps cur (c :: s) = restOf c (ps ++ [cur]) [] s := by
 unfold restOf
 rw [show pieces c (c :: s) = [] :: pieces c s by simp [pieces]]
 simp only [List.headD_cons, List.tail_cons, List.append_nil, List.nil_append, List.append_assoc, List.singleton_append]
 rw [← pieces_form]
theorem rest_on (c x : UInt8) (hx : x ≠ c) (ps : List (List UInt8)) (cur s : List UInt8) : restOf c ps cur (x :: s) = restOf c ps (cur ++ [x]) s := by
 unfold restOf
 rw [show pieces c (x :: s) = (x :: (pieces c s).headD []) :: (pieces c s).tail by simp [pieces, hx]]
 simp
theorem rest_end (c : UInt8) (ps : List (List UInt8)) (cur : List UInt8) : restOf c ps cur [] = ps ++ [cur] := by
 unfold restOf
 simp [pieces]

theorem str_cut (l : List UInt8) (m k : Nat) : (⟨l.toArray⟩ : ByteArray).extract m k = ⟨((l.drop m).take (k - m)).toArray⟩ := by
 apply ByteArray.ext
 simp [ByteArray.data_extract, List.extract_toArray]
theorem rdT_of {w : World} {A : Option Addr} {n : Nat} {ps : List (List UInt8)} (hn : ps.length = n) (h : RdS w A 1 (cellRows ps)) : RdT w A n ps := ⟨hn, fun j p hp => by
 have hrow : (cellRows ps)[j]? = some [strV p] := by simp [cellRows, hp]
 obtain ⟨ad, e, hlt, _, hc⟩ := h.at_ hrow
 have := hc 0 _ rfl
 rw [Nat.mul_one] at this
 exact ⟨ad, e, hlt, this⟩⟩
theorem take_more (l : List UInt8) {m k : Nat} (hm : m ≤ k) (hk : k < l.length) : (l.drop m).take (k + 1 - m) = (l.drop m).take (k - m) ++ [l[k]] := by
 rw [show k + 1 - m = (k - m) + 1 by omega, List.take_succ_eq_append_getElem (by rw [List.length_drop]; omega), List.getElem_drop]
 congr 2
 congr 1
 omega

/-- the array behind a slice is one of strings -/
def TagS (W : World) (A : Option Addr) : Prop := ∀ ad, A = some ad → ∃ cur, Blk W ad.block 9 cur
theorem TagS.of_own {W : World} {base k n c : Nat} {A : Option Addr} {rows : List (List Value)} (h : OwnS W base 9 k (.slice A n c) rows) : TagS W A := fun ad e => by
 subst e
 rcases h.1.2 with ⟨h', _⟩ | ⟨g', cap, cur, h', _, hh, _⟩
 ·cases h'
 ·cases h'
  exact ⟨cur, hh⟩
set_option maxRecDepth 100000 in
set_option maxHeartbeats 4000000 in
theorem rsplit_is (c : UInt8) (l : List UInt8) (w : World) (hl : l.length ≤ 1000) :
  Calls Tryz.prog 91 #[.string ⟨l.toArray⟩, .int .u8 c.toNat] w fun e w' => ∃ A cap, e = .returned (.slice A (pieces c l).length cap) ∧ RdT w' A (pieces c l).length (pieces c l) ∧ TagS w' A ∧ Below w.heap.size w w' := by
 go_enter Tryz.func91, Tryz.ntmps91
 go_wp2_with fail
 go_loopw [5, 6, 7] (fun v f i wr => ∃ (k m : Nat) (ps : List (List UInt8)), k ≤ l.length ∧ m ≤ k ∧ i = .int .i64 k ∧ f = .int .i64 m ∧ ps.length ≤ k ∧ OwnS wr w.heap.size 9 1 v (cellRows ps) ∧ pieces c l = restOf c ps ((l.drop m).take (k - m)) (l.drop k) ∧ Below w.heap.size w wr) (fun _ _ i _ => l.length - (intOf i).toNat)
 case atStart => exact ⟨0, 0, [], Nat.zero_le _, Nat.le_refl _, rfl, rfl, Nat.le_refl _, OwnS.nil _ _ _ _, by simp [rest_start], fr_refl _⟩
 case round =>
  obtain ⟨k, m, ps, hk, hm, rfl, rfl, hpl, hown, hrest, hbel⟩ := hrel
  have hll : (cellRows ps).length < 1000000 := by unfold cellRows; rw [List.length_map]; omega
  by_cases hlt : k < l.length
  ·have hdk : l.drop k = l[k] :: l.drop (k + 1) := List.drop_eq_getElem_cons hlt
   rw [hdk] at hrest
   have htm := take_more l hm hlt
   have hks : k < (⟨l.toArray⟩ : ByteArray).size := by show k < l.toArray.size; simpa using hlt
   obtain ⟨b, hb⟩ : ∃ b, l[k] = b := ⟨_, rfl⟩
   have hbs : (⟨l.toArray⟩ : ByteArray)[k]'hks = b := by
    show l.toArray[k] = b
    simpa using hb
   rw [hb] at hrest htm
   have HR := Lib.hid hrest
   have HT := Lib.hid htm
   clear hrest hdk htm hb
   by_cases hx : b = c
   ·subst hx
    have hge := hown.ge
    go_wp2_with (at_builtin; refine app_row rfl (.tmp 19) (.tmp 24) rfl Tryz.underlying144 info_string rfl (by decide) (by decide) w.heap.size _ _ rfl rfl hown rfl (by simp [Value.oneCell']) hll hbel.size ?_; intro B0 cap0 wy hown3 hg3)
    rw [str_cut] at hown3
    refine ⟨⟨k + 1, k + 1, ps ++ [(l.drop m).take (k - m)], by omega, Nat.le_refl _, rfl, rfl, by simp; omega, own_snoc hown3 rfl, ?_, (fr_alloc hbel _).grown hg3 (fr_alloc hbel _).size hge⟩, ?_⟩
    ·rw [HR.out, rest_cut]
     simp
    ·simp [intOf]; omega
   ·have hxn : ¬ b.toNat = c.toNat := fun h => hx (UInt8.toNat_inj.1 h)
    have hxi : ¬ (b.toNat : Int) = (c.toNat : Int) := by omega
    have hxd : decide ((b.toNat : Int) = (c.toNat : Int)) = false := decide_eq_false hxi
    go_wp2_with fail
    refine ⟨⟨k + 1, m, ps, by omega, by omega, rfl, rfl, by omega, hown, ?_, hbel⟩, ?_⟩
    ·rw [HR.out, rest_on c b hx, HT.out]
    ·simp [intOf]; omega
  ·obtain rfl : k = l.length := by omega
   have HR := Lib.hid hrest
   clear hrest
   have hge := hown.ge
   go_wp2_with (at_builtin; refine app_row rfl (.tmp 28) (.tmp 32) rfl Tryz.underlying144 info_string rfl (by decide) (by decide) w.heap.size _ _ rfl rfl hown rfl (by simp [Value.oneCell']) hll hbel.size ?_; intro B0 cap0 wy hown3 hg3)
   rw [str_cut] at hown3
   have hfin : pieces c l = ps ++ [(l.drop m).take (l.length - m)] := by
    rw [HR.out, List.drop_of_length_le (Nat.le_refl _), rest_end]
   have hown4 := own_snoc (m := (ps ++ [(l.drop m).take (l.length - m)]).length) hown3 (by simp [cellRows])
   go_ret
   refine ⟨B0, cap0, ?_, ?_, TagS.of_own hown4, (fr_alloc hbel _).grown hg3 (fr_alloc hbel _).size hge⟩
   ·rw [hfin]
    have : (cellRows ps).length + 1 = (ps ++ [(l.drop m).take (l.length - m)]).length := by simp [cellRows]
    rw [← this]
    rfl
   ·rw [hfin]
    exact rdT_of rfl hown4.rd

set_option maxRecDepth 100000 in
set_option maxHeartbeats 4000000 in
theorem rnumber_is (wd : List UInt8) (w : World) (hl : wd.length ≤ 1000) :
  Calls Tryz.prog 92 #[.string ⟨wd.toArray⟩] w fun e w' => e = .returned (.int .i64 ((numB wd).getD (-1))) ∧ Below w.heap.size w w' := by
 by_cases h0 : wd = []
 ·subst h0
  have hN : numB [] = none := by unfold numB; rw [if_neg (fun h => h.1 rfl)]
  rw [hN]
  go_enter Tryz.func92, Tryz.ntmps92
  go_wp2_with fail
  go_ret
  exact ⟨rfl, fr_refl _⟩
 ·by_cases h5 : 5 < wd.length
  ·rw [numB_long h5]
   have hn0 : ¬ (wd.length : Int) = 0 := by omega
   have hn1 : decide ((wd.length : Int) = 0) = false := decide_eq_false hn0
   have hn2 : decide ((5 : Int) < (wd.length : Int)) = true := decide_eq_true (by omega)
   have hn3 : (5 : Int) < (wd.length : Int) := by omega
   go_enter Tryz.func92, Tryz.ntmps92
   go_wp2_with fail
   go_ret
   exact ⟨rfl, fr_refl _⟩
  ·have hpos : 0 < wd.length := List.length_pos_iff.2 h0
   have hn0 : ¬ (wd.length : Int) = 0 := by omega
   have hn1 : decide ((wd.length : Int) = 0) = false := decide_eq_false hn0
   have hn2 : decide ((5 : Int) < (wd.length : Int)) = false := decide_eq_false (by omega)
   have hn3 : ¬ (5 : Int) < (wd.length : Int) := by omega
   go_enter Tryz.func92, Tryz.ntmps92
   go_wp2_with fail
   go_loop [3, 4] (fun v i => ∃ pos : Nat, pos ≤ wd.length ∧ i = .int .i64 pos ∧ v = .int .i64 (valOf (wd.take pos)) ∧ (wd.take pos).all digB = true) (fun _ i => wd.length - (intOf i).toNat)
   case atStart => exact ⟨0, Nat.zero_le _, rfl, rfl, rfl⟩
   case round =>
    obtain ⟨pos, hp, rfl, rfl, hall⟩ := hrel
    have hv := val_small wd pos (by omega) hall
    have HA := Lib.hid hall
    clear hall
    by_cases hlt : pos < wd.length
    ·have hks : pos < (⟨wd.toArray⟩ : ByteArray).size := by show pos < wd.toArray.size; simpa using hlt
     obtain ⟨b, hb⟩ : ∃ b, wd[pos]? = some b := ⟨_, List.getElem?_eq_getElem hlt⟩
     have hbs : (⟨wd.toArray⟩ : ByteArray)[pos]'hks = b := by
      show wd.toArray[pos] = b
      simp
      exact (List.getElem?_eq_some_iff.1 hb).2
     have hst := val_step wd pos b hb
     have HB := Lib.hid hb
     obtain ⟨c, hc⟩ : ∃ c, b.toNat = c := ⟨_, rfl⟩
     have hc255 : c < 256 := by rw [← hc]; exact b.toNat_lt
     have HD := Lib.hid (digB_iff b)
     rw [hc] at hst
     have HST := Lib.hid hst
     have HC := Lib.hid hc
     clear hb hst
     obtain ⟨v, gv⟩ : ∃ v, valOf (wd.take pos) = v := ⟨_, rfl⟩
     rw [gv] at hv
     have GV := Lib.hid gv
     simp only [gv]
     clear gv
     by_cases h48 : c < 48
     ·have hd1 : decide ((c : Int) < 48) = true := decide_eq_true (by omega)
      have hd2 : (c : Int) < 48 := by omega
      have hN : numB wd = none := numB_dig (all_at HB.out (by
       cases hq : digB b with
       | false => rfl
       | true => have := (HD.out).1 hq; have := HC.out; omega))
      go_wp2_with fail
      go_ret
      exact ⟨by first | rfl | (rw [hN]; rfl), fr_refl _⟩
     ·by_cases h57 : 57 < c
      ·have hd1 : decide ((c : Int) < 48) = false := decide_eq_false (by omega)
       have hd2 : ¬ (c : Int) < 48 := by omega
       have hd3 : decide ((57 : Int) < (c : Int)) = true := decide_eq_true (by omega)
       have hd4 : (57 : Int) < (c : Int) := by omega
       have hN : numB wd = none := numB_dig (all_at HB.out (by
        cases hq : digB b with
        | false => rfl
        | true => have := (HD.out).1 hq; have := HC.out; omega))
       go_wp2_with fail
       go_ret
       exact ⟨by first | rfl | (rw [hN]; rfl), fr_refl _⟩
      ·have hd1 : decide ((c : Int) < 48) = false := decide_eq_false (by omega)
       have hd2 : ¬ (c : Int) < 48 := by omega
       have hd3 : decide ((57 : Int) < (c : Int)) = false := decide_eq_false (by omega)
       have hd4 : ¬ (57 : Int) < (c : Int) := by omega
       go_wp2_with fail
       refine ⟨⟨pos + 1, hlt, rfl, ?_, ?_⟩, ?_⟩
       ·rw [HST.out, GV.out]
       ·rw [List.take_succ_eq_append_getElem hlt, List.all_append, HA.out]
        have := (List.getElem?_eq_some_iff.1 HB.out).2
        rw [this]
        have : digB b = true := HD.out.2 (by have := HC.out; omega)
        simp [this]
       ·simp [intOf]; omega
    ·obtain rfl : pos = wd.length := by omega
     have htk : wd.take wd.length = wd := List.take_of_length_le (Nat.le_refl _)
     have hall := HA.out
     rw [htk] at hv hall ⊢
     obtain ⟨v, gv⟩ : ∃ v, valOf wd = v := ⟨_, rfl⟩
     rw [gv] at hv ⊢
     have GV := Lib.hid gv
     have HALL := Lib.hid hall
     clear gv htk hall
     obtain ⟨hv1, hv2⟩ := hv
     go_wp2_with fail
     refine (rDecimal_int v _ hv1 (by omega)).mono ?_
     rintro e' w2 ⟨rfl, hb2⟩
     obtain ⟨it, git⟩ : ∃ it, Lib.itoa v = it := ⟨_, rfl⟩
     rw [git]
     have GIT := Lib.hid git
     clear git
     by_cases hit : it = wd
     ·subst hit
      have hN : numB it = some v := by rw [← GIT.out]; exact numB_itoa ⟨hv1, by omega⟩
      go_wp2_with fail
      go_ret
      exact ⟨by first | rfl | (rw [hN]; rfl), hb2⟩
     ·have hi1 : (it == wd) = false := beq_eq_false_iff_ne.2 hit
      have hi2 : decide (it = wd) = false := decide_eq_false hit
      have hN : numB wd = none := by
       unfold numB
       rw [if_neg]
       rintro ⟨_, _, _, h4⟩
       rw [GV.out, GIT.out] at h4
       exact hit h4
      go_wp2_with fail
      go_ret
      exact ⟨by first | rfl | (rw [hN]; rfl), hb2⟩
end Go.Proofs.YthenlopnlaiodaaGreatDoor
end

section
namespace Go.Proofs.YthenlopnlaiodaaGreatDoor
open Go.RowKit Go.Shelf

def RNote (hd : List UInt8) (xs : List Int) (w : World) (e : Ending) (w' : World) : Prop :=
 ((∃ f : Note, noteOf hd xs = some f ∧ e = .returned (.tuple #[noteV f, .bool true])) ∨
  (noteOf hd xs = none ∧ e = .returned (.tuple #[noteV ⟨0, 0, 0, 0, 0, 0, 0, 0, 0⟩, .bool false]))) ∧ Below w.heap.size w w'
set_option maxRecDepth 100000 in
set_option maxHeartbeats 16000000 in
theorem rnote_any (hd : List UInt8) (A : Option Addr) (c n : Nat) (xs : List Int) (w : World) (hr : Rd w A n xs) (hl : hd.length ≤ 1000) :
  Calls Tryz.prog 93 #[.string ⟨hd.toArray⟩, .slice A n c] w fun e w' => RNote hd xs w e w' := by
 have g1 := fr_alloc (fr_refl w) (.cells #[.int .i64 0, .int .i64 0, .int .i64 0, .int .i64 0, .int .i64 0, .int .i64 0, .int .i64 0, .int .i64 0, .int .i64 0] 61)
 have hR : Blk (w.alloc (.cells #[.int .i64 0, .int .i64 0, .int .i64 0, .int .i64 0, .int .i64 0, .int .i64 0, .int .i64 0, .int .i64 0, .int .i64 0] 61)) w.heap.size 61 #[.int .i64 0, .int .i64 0, .int .i64 0, .int .i64 0, .int .i64 0, .int .i64 0, .int .i64 0, .int .i64 0, .int .i64 0] := Blk.new w _ _
 have hNX := hr.len
 have hrX := hr.keep g1
 have HNX := Lib.hid hNX
 clear hNX
 by_cases hw2 : hd = [97, 114, 99]
 ·subst hw2
  by_cases hn : n = 4
  ·have hnb : ((n : Int) == 4) = true := beq_iff_eq.2 (by omega)
   have HN := Lib.hid hn
   have hpos : 0 < n := by omega
   obtain ⟨ad, rfl, hab, hc0⟩ := hrX.at_ hpos
   obtain ⟨ad', e', hab', _⟩ := hr.at_ hpos
   obtain rfl : ad = ad' := by injection e'
   obtain ⟨ad1, e1, _, hc1⟩ := hrX.at_ (show 1 < n by omega)
   obtain rfl : ad = ad1 := by injection e1
   obtain ⟨ad2, e2, _, hc2⟩ := hrX.at_ (show 2 < n by omega)
   obtain rfl : ad = ad2 := by injection e2
   obtain ⟨ad3, e3, _, hc3⟩ := hrX.at_ (show 3 < n by omega)
   obtain rfl : ad = ad3 := by injection e3
   obtain ⟨v0, gv0⟩ : ∃ v, xs[0]?.getD 0 = v := ⟨_, rfl⟩
   rw [gv0] at hc0
   have GV0 := Lib.hid gv0
   clear gv0
   obtain ⟨v1, gv1⟩ : ∃ v, xs[1]?.getD 0 = v := ⟨_, rfl⟩
   rw [gv1] at hc1
   have GV1 := Lib.hid gv1
   clear gv1
   obtain ⟨v2, gv2⟩ : ∃ v, xs[2]?.getD 0 = v := ⟨_, rfl⟩
   rw [gv2] at hc2
   have GV2 := Lib.hid gv2
   clear gv2
   obtain ⟨v3, gv3⟩ : ∃ v, xs[3]?.getD 0 = v := ⟨_, rfl⟩
   rw [gv3] at hc3
   have GV3 := Lib.hid gv3
   clear gv3
   have hz : ad.add 0 = ad := by unfold Addr.add; simp
   rw [hz] at hc0
   clear hz e' e1 e2 e3 hn
   have hi0 : (0 : Int) < (n : Int) := by have := HN.out; omega
   have hi1 : (1 : Int) < (n : Int) := by have := HN.out; omega
   have hi2 : (2 : Int) < (n : Int) := by have := HN.out; omega
   have hi3 : (3 : Int) < (n : Int) := by have := HN.out; omega
   have HF := Lib.hid (show noteOf [97, 114, 99] xs = some ⟨1, v0, v1, v2, v3, 0, 0, 0, 0⟩ by rw [show ([97, 114, 99] : List UInt8) = wordG 2 from rfl, noteOf_2 (HNX.out.trans HN.out), GV0.out, GV1.out, GV2.out, GV3.out])
   have hs1 := hc1
   rw [show ad.add 1 = ⟨ad.block, ad.off + 1, none⟩ by unfold Addr.add; simp] at hs1
   have hs2 := hc2
   rw [show ad.add 2 = ⟨ad.block, ad.off + 2, none⟩ by unfold Addr.add; simp] at hs2
   have hs3 := hc3
   rw [show ad.add 3 = ⟨ad.block, ad.off + 3, none⟩ by unfold Addr.add; simp] at hs3
   have hne : ¬ ad.block = w.heap.size := by omega
   go_enter Tryz.func93, Tryz.ntmps93
   go_wp2_with fail
   refine wp_region_noPanic ?_
   refine wp_region_held_drew (S := fun W => (∀ p : Addr, p.block < w.heap.size → W.cell? p = (w.alloc (.cells #[.int .i64 0, .int .i64 0, .int .i64 0, .int .i64 0, .int .i64 0, .int .i64 0, .int .i64 0, .int .i64 0, .int .i64 0] 61)).cell? p) ∧ (w.alloc (.cells #[.int .i64 0, .int .i64 0, .int .i64 0, .int .i64 0, .int .i64 0, .int .i64 0, .int .i64 0, .int .i64 0, .int .i64 0] 61)).grownBy W (some w.heap.size)) (by kernel_rfl) ⟨fun _ _ => rfl, grown_below (World.grownBy.refl _ _) (fr_drew (fr_refl _))⟩ (fun hHeld => ?_)
   -- the region, step by step
   refine wpAnyH_take (i := 0) (oi := ⟨some 14, .move (.tmp 1), 34, "ref.go:444", #[], none⟩) (v := ?_) rfl (by kernel_rfl) (by kernel_rfl) (by kernel_rfl) (fun _ _ _ h => h) (Or.inl ⟨by rfl, fun W hSw => ?_⟩) hHeld ?_
   rotate_left
   ·(try dsimp only at hSw); go_simp; (try with_reducible rfl)
   (try simp only [Act.put, List.setIfInBounds_toArray, List.set_cons_zero, List.set_cons_succ])
   refine wpAnyH_take (i := 1) (oi := ⟨some 15, .indexAddr 34 (.tmp 14) (.const (.int .i64 0)), 0, "ref.go:444", #[⟨0, .data⟩], none⟩) (v := ?_) rfl (by kernel_rfl) (by kernel_rfl) (by kernel_rfl) (fun _ _ _ h => h) (Or.inl ⟨by rfl, fun W hSw => ?_⟩) hHeld ?_
   rotate_left
   ·(try dsimp only at hSw); go_simp; (try with_reducible rfl)
   (try simp only [Act.put, List.setIfInBounds_toArray, List.set_cons_zero, List.set_cons_succ])
   refine wpAnyH_take (i := 2) (oi := ⟨some 16, .load 3 (.tmp 15), 3, "ref.go:444", #[⟨1, .data⟩], none⟩) (v := ?_) rfl (by kernel_rfl) (by kernel_rfl) (by kernel_rfl) (fun _ _ _ h => h) (Or.inl ⟨by rfl, fun W hSw => ?_⟩) hHeld ?_
   rotate_left
   ·(try dsimp only at hSw); go_simp; (try with_reducible rfl)
   (try simp only [Act.put, List.setIfInBounds_toArray, List.set_cons_zero, List.set_cons_succ])
   refine wpAnyH_take (i := 3) (oi := ⟨some 17, .move (.tmp 1), 34, "ref.go:444", #[], none⟩) (v := ?_) rfl (by kernel_rfl) (by kernel_rfl) (by kernel_rfl) (fun _ _ _ h => h) (Or.inl ⟨by rfl, fun W hSw => ?_⟩) hHeld ?_
   rotate_left
   ·(try dsimp only at hSw); go_simp; (try with_reducible rfl)
   (try simp only [Act.put, List.setIfInBounds_toArray, List.set_cons_zero, List.set_cons_succ])
   refine wpAnyH_take (i := 4) (oi := ⟨some 18, .indexAddr 34 (.tmp 17) (.const (.int .i64 1)), 0, "ref.go:444", #[⟨3, .data⟩], none⟩) (v := ?_) rfl (by kernel_rfl) (by kernel_rfl) (by kernel_rfl) (fun _ _ _ h => h) (Or.inl ⟨by rfl, fun W hSw => ?_⟩) hHeld ?_
   rotate_left
   ·(try dsimp only at hSw); go_simp; (try with_reducible rfl)
   (try simp only [Act.put, List.setIfInBounds_toArray, List.set_cons_zero, List.set_cons_succ])
   refine wpAnyH_take (i := 5) (oi := ⟨some 19, .load 3 (.tmp 18), 3, "ref.go:444", #[⟨4, .data⟩], none⟩) (v := ?_) rfl (by kernel_rfl) (by kernel_rfl) (by kernel_rfl) (fun _ _ _ h => h) (Or.inl ⟨by rfl, fun W hSw => ?_⟩) hHeld ?_
   rotate_left
   ·(try dsimp only at hSw); go_simp; (try with_reducible rfl)
   (try simp only [Act.put, List.setIfInBounds_toArray, List.set_cons_zero, List.set_cons_succ])
   refine wpAnyH_take (i := 6) (oi := ⟨some 20, .move (.tmp 1), 34, "ref.go:444", #[], none⟩) (v := ?_) rfl (by kernel_rfl) (by kernel_rfl) (by kernel_rfl) (fun _ _ _ h => h) (Or.inl ⟨by rfl, fun W hSw => ?_⟩) hHeld ?_
   rotate_left
   ·(try dsimp only at hSw); go_simp; (try with_reducible rfl)
   (try simp only [Act.put, List.setIfInBounds_toArray, List.set_cons_zero, List.set_cons_succ])
   refine wpAnyH_take (i := 7) (oi := ⟨some 21, .indexAddr 34 (.tmp 20) (.const (.int .i64 2)), 0, "ref.go:444", #[⟨6, .data⟩], none⟩) (v := ?_) rfl (by kernel_rfl) (by kernel_rfl) (by kernel_rfl) (fun _ _ _ h => h) (Or.inl ⟨by rfl, fun W hSw => ?_⟩) hHeld ?_
   rotate_left
   ·(try dsimp only at hSw); go_simp; (try with_reducible rfl)
   (try simp only [Act.put, List.setIfInBounds_toArray, List.set_cons_zero, List.set_cons_succ])
   refine wpAnyH_take (i := 8) (oi := ⟨some 22, .load 3 (.tmp 21), 3, "ref.go:444", #[⟨7, .data⟩], none⟩) (v := ?_) rfl (by kernel_rfl) (by kernel_rfl) (by kernel_rfl) (fun _ _ _ h => h) (Or.inl ⟨by rfl, fun W hSw => ?_⟩) hHeld ?_
   rotate_left
   ·(try dsimp only at hSw); go_simp; (try with_reducible rfl)
   (try simp only [Act.put, List.setIfInBounds_toArray, List.set_cons_zero, List.set_cons_succ])
   refine wpAnyH_take (i := 9) (oi := ⟨some 23, .move (.tmp 1), 34, "ref.go:444", #[], none⟩) (v := ?_) rfl (by kernel_rfl) (by kernel_rfl) (by kernel_rfl) (fun _ _ _ h => h) (Or.inl ⟨by rfl, fun W hSw => ?_⟩) hHeld ?_
   rotate_left
   ·(try dsimp only at hSw); go_simp; (try with_reducible rfl)
   (try simp only [Act.put, List.setIfInBounds_toArray, List.set_cons_zero, List.set_cons_succ])
   refine wpAnyH_take (i := 10) (oi := ⟨some 24, .indexAddr 34 (.tmp 23) (.const (.int .i64 3)), 0, "ref.go:444", #[⟨9, .data⟩], none⟩) (v := ?_) rfl (by kernel_rfl) (by kernel_rfl) (by kernel_rfl) (fun _ _ _ h => h) (Or.inl ⟨by rfl, fun W hSw => ?_⟩) hHeld ?_
   rotate_left
   ·(try dsimp only at hSw); go_simp; (try with_reducible rfl)
   (try simp only [Act.put, List.setIfInBounds_toArray, List.set_cons_zero, List.set_cons_succ])
   refine wpAnyH_take (i := 11) (oi := ⟨some 25, .load 3 (.tmp 24), 3, "ref.go:444", #[⟨10, .data⟩], none⟩) (v := ?_) rfl (by kernel_rfl) (by kernel_rfl) (by kernel_rfl) (fun _ _ _ h => h) (Or.inl ⟨by rfl, fun W hSw => ?_⟩) hHeld ?_
   rotate_left
   ·(try dsimp only at hSw); go_simp; (try with_reducible rfl)
   (try simp only [Act.put, List.setIfInBounds_toArray, List.set_cons_zero, List.set_cons_succ])
   refine wpAnyH_take (i := 12) (oi := ⟨some 26, .build 61 #[(0, .const (.int .i64 1)), (1, .tmp 16), (2, .tmp 19), (3, .tmp 22), (4, .tmp 25)], 61, "ref.go:444", #[⟨2, .data⟩, ⟨5, .data⟩, ⟨8, .data⟩, ⟨11, .data⟩], none⟩) (v := ?_) rfl (by kernel_rfl) (by kernel_rfl) (by kernel_rfl) (fun _ _ _ h => h) (Or.inl ⟨by rfl, fun W hSw => ?_⟩) hHeld ?_
   rotate_left
   ·(try dsimp only at hSw); go_simp; (try with_reducible rfl)
   (try simp only [Act.put, List.setIfInBounds_toArray, List.set_cons_zero, List.set_cons_succ])
   refine wpAnyH_ready (rs := [13]) (by kernel_rfl) (by simp) ?_
   refine AllReadyH.cons (o := ⟨none, .store 61 (.tmp 4) (.tmp 26), 0, "ref.go:444", #[⟨12, .data⟩, ⟨0, .phase⟩, ⟨1, .phase⟩, ⟨2, .phase⟩, ⟨3, .phase⟩, ⟨4, .phase⟩, ⟨5, .phase⟩, ⟨6, .phase⟩, ⟨7, .phase⟩, ⟨8, .phase⟩, ⟨9, .phase⟩, ⟨10, .phase⟩, ⟨11, .phase⟩, ⟨12, .phase⟩], none⟩) rfl (fun K hK => ?_) AllReadyH.nil
   rw [if_pos (by rfl)]
   refine wp_store_blk _ _ _ rfl w.heap.size 61 _ _ rfl rfl (hR.drew) rfl (by kernel_rfl) (by simp [Value.oneCell']) ?_
   intro W5 hR5 hg5
   refine hK.out _ _ (⟨fun p hp => (World.cell?_of_block (hg5.block p.block (by simp; omega) (by simp; omega))).trans (hHeld.1 p hp), grown_trans hHeld.2 hg5⟩) (fun hHeld => ?_)
   clear hK K
   refine wpAnyH_take (i := 14) (oi := ⟨some 5, .assign (.const (.bool true)), 4, "ref.go:444", #[⟨13, .chain⟩, ⟨0, .phase⟩, ⟨1, .phase⟩, ⟨2, .phase⟩, ⟨3, .phase⟩, ⟨4, .phase⟩, ⟨5, .phase⟩, ⟨6, .phase⟩, ⟨7, .phase⟩, ⟨8, .phase⟩, ⟨9, .phase⟩, ⟨10, .phase⟩, ⟨11, .phase⟩, ⟨12, .phase⟩, ⟨13, .phase⟩], none⟩) (v := ?_) rfl (by kernel_rfl) (by kernel_rfl) (by kernel_rfl) (fun _ _ _ h => h) (Or.inl ⟨by rfl, fun W hSw => ?_⟩) hHeld ?_
   rotate_left
   ·(try dsimp only at hSw); go_simp; (try with_reducible rfl)
   (try simp only [Act.put, List.setIfInBounds_toArray, List.set_cons_zero, List.set_cons_succ])
   refine wpAnyH_done (by kernel_rfl) ?_ _
   refine NoPanic.normal ?_
   go_wp2_with fail
   have hf5 : Below w.heap.size w W5 := g1.grown hHeld.2 g1.size (by intro k hk; cases hk; exact Nat.le_refl _)
   refine bodyPost_ret (results_blk_tmp rfl _ _ _ _ rfl hR5 Tryz.underlying61 rfl (by kernel_rfl)) rfl ⟨Or.inl ⟨⟨1, v0, v1, v2, v3, 0, 0, 0, 0⟩, HF.out, rfl⟩, hf5⟩
  ·have hnb : ((n : Int) == 4) = false := beq_eq_false_iff_ne.2 (by omega)
   have HF := Lib.hid (show noteOf _ xs = none from noteOf_2n (fun e => hn (HNX.out.symm.trans e)))
   go_enter Tryz.func93, Tryz.ntmps93
   go_wp2_with (refine wpList_store_blk rfl _ _ _ rfl w.heap.size 61 _ _ rfl rfl hR rfl (by kernel_rfl) (by simp [Value.oneCell']) ?_; intro W5 hR5 hg5)
   have hf5 : Below w.heap.size w W5 := g1.grown hg5 g1.size (by intro k hk; cases hk; exact Nat.le_refl _)
   refine bodyPost_ret (results_blk_tmp rfl _ _ _ _ rfl hR5 Tryz.underlying61 rfl (by kernel_rfl)) rfl ⟨Or.inr ⟨HF.out, rfl⟩, hf5⟩
 ·by_cases hw3 : hd = [115, 117, 109]
  ·subst hw3
   by_cases hn : n = 3
   ·have hnb : ((n : Int) == 3) = true := beq_iff_eq.2 (by omega)
    have HN := Lib.hid hn
    have hpos : 0 < n := by omega
    obtain ⟨ad, rfl, hab, hc0⟩ := hrX.at_ hpos
    obtain ⟨ad', e', hab', _⟩ := hr.at_ hpos
    obtain rfl : ad = ad' := by injection e'
    obtain ⟨ad1, e1, _, hc1⟩ := hrX.at_ (show 1 < n by omega)
    obtain rfl : ad = ad1 := by injection e1
    obtain ⟨ad2, e2, _, hc2⟩ := hrX.at_ (show 2 < n by omega)
    obtain rfl : ad = ad2 := by injection e2
    obtain ⟨v0, gv0⟩ : ∃ v, xs[0]?.getD 0 = v := ⟨_, rfl⟩
    rw [gv0] at hc0
    have GV0 := Lib.hid gv0
    clear gv0
    obtain ⟨v1, gv1⟩ : ∃ v, xs[1]?.getD 0 = v := ⟨_, rfl⟩
    rw [gv1] at hc1
    have GV1 := Lib.hid gv1
    clear gv1
    obtain ⟨v2, gv2⟩ : ∃ v, xs[2]?.getD 0 = v := ⟨_, rfl⟩
    rw [gv2] at hc2
    have GV2 := Lib.hid gv2
    clear gv2
    have hz : ad.add 0 = ad := by unfold Addr.add; simp
    rw [hz] at hc0
    clear hz e' e1 e2 hn
    have hi0 : (0 : Int) < (n : Int) := by have := HN.out; omega
    have hi1 : (1 : Int) < (n : Int) := by have := HN.out; omega
    have hi2 : (2 : Int) < (n : Int) := by have := HN.out; omega
    have HF := Lib.hid (show noteOf [115, 117, 109] xs = some ⟨2, v0, 0, v1, v2, 0, 0, 0, 0⟩ by rw [show ([115, 117, 109] : List UInt8) = wordG 3 from rfl, noteOf_3 (HNX.out.trans HN.out), GV0.out, GV1.out, GV2.out])
    have hs1 := hc1
    rw [show ad.add 1 = ⟨ad.block, ad.off + 1, none⟩ by unfold Addr.add; simp] at hs1
    have hs2 := hc2
    rw [show ad.add 2 = ⟨ad.block, ad.off + 2, none⟩ by unfold Addr.add; simp] at hs2
    have hne : ¬ ad.block = w.heap.size := by omega
    go_enter Tryz.func93, Tryz.ntmps93
    go_wp2_with fail
    refine wp_region_noPanic ?_
    refine wp_region_held_drew (S := fun W => (∀ p : Addr, p.block < w.heap.size → W.cell? p = (w.alloc (.cells #[.int .i64 0, .int .i64 0, .int .i64 0, .int .i64 0, .int .i64 0, .int .i64 0, .int .i64 0, .int .i64 0, .int .i64 0] 61)).cell? p) ∧ (w.alloc (.cells #[.int .i64 0, .int .i64 0, .int .i64 0, .int .i64 0, .int .i64 0, .int .i64 0, .int .i64 0, .int .i64 0, .int .i64 0] 61)).grownBy W (some w.heap.size)) (by kernel_rfl) ⟨fun _ _ => rfl, grown_below (World.grownBy.refl _ _) (fr_drew (fr_refl _))⟩ (fun hHeld => ?_)
    -- the region, step by step
    refine wpAnyH_take (i := 0) (oi := ⟨some 35, .move (.tmp 1), 34, "ref.go:446", #[], none⟩) (v := ?_) rfl (by kernel_rfl) (by kernel_rfl) (by kernel_rfl) (fun _ _ _ h => h) (Or.inl ⟨by rfl, fun W hSw => ?_⟩) hHeld ?_
    rotate_left
    ·(try dsimp only at hSw); go_simp; (try with_reducible rfl)
    (try simp only [Act.put, List.setIfInBounds_toArray, List.set_cons_zero, List.set_cons_succ])
    refine wpAnyH_take (i := 1) (oi := ⟨some 36, .indexAddr 34 (.tmp 35) (.const (.int .i64 0)), 0, "ref.go:446", #[⟨0, .data⟩], none⟩) (v := ?_) rfl (by kernel_rfl) (by kernel_rfl) (by kernel_rfl) (fun _ _ _ h => h) (Or.inl ⟨by rfl, fun W hSw => ?_⟩) hHeld ?_
    rotate_left
    ·(try dsimp only at hSw); go_simp; (try with_reducible rfl)
    (try simp only [Act.put, List.setIfInBounds_toArray, List.set_cons_zero, List.set_cons_succ])
    refine wpAnyH_take (i := 2) (oi := ⟨some 37, .load 3 (.tmp 36), 3, "ref.go:446", #[⟨1, .data⟩], none⟩) (v := ?_) rfl (by kernel_rfl) (by kernel_rfl) (by kernel_rfl) (fun _ _ _ h => h) (Or.inl ⟨by rfl, fun W hSw => ?_⟩) hHeld ?_
    rotate_left
    ·(try dsimp only at hSw); go_simp; (try with_reducible rfl)
    (try simp only [Act.put, List.setIfInBounds_toArray, List.set_cons_zero, List.set_cons_succ])
    refine wpAnyH_take (i := 3) (oi := ⟨some 38, .move (.tmp 1), 34, "ref.go:446", #[], none⟩) (v := ?_) rfl (by kernel_rfl) (by kernel_rfl) (by kernel_rfl) (fun _ _ _ h => h) (Or.inl ⟨by rfl, fun W hSw => ?_⟩) hHeld ?_
    rotate_left
    ·(try dsimp only at hSw); go_simp; (try with_reducible rfl)
    (try simp only [Act.put, List.setIfInBounds_toArray, List.set_cons_zero, List.set_cons_succ])
    refine wpAnyH_take (i := 4) (oi := ⟨some 39, .indexAddr 34 (.tmp 38) (.const (.int .i64 1)), 0, "ref.go:446", #[⟨3, .data⟩], none⟩) (v := ?_) rfl (by kernel_rfl) (by kernel_rfl) (by kernel_rfl) (fun _ _ _ h => h) (Or.inl ⟨by rfl, fun W hSw => ?_⟩) hHeld ?_
    rotate_left
    ·(try dsimp only at hSw); go_simp; (try with_reducible rfl)
    (try simp only [Act.put, List.setIfInBounds_toArray, List.set_cons_zero, List.set_cons_succ])
    refine wpAnyH_take (i := 5) (oi := ⟨some 40, .load 3 (.tmp 39), 3, "ref.go:446", #[⟨4, .data⟩], none⟩) (v := ?_) rfl (by kernel_rfl) (by kernel_rfl) (by kernel_rfl) (fun _ _ _ h => h) (Or.inl ⟨by rfl, fun W hSw => ?_⟩) hHeld ?_
    rotate_left
    ·(try dsimp only at hSw); go_simp; (try with_reducible rfl)
    (try simp only [Act.put, List.setIfInBounds_toArray, List.set_cons_zero, List.set_cons_succ])
    refine wpAnyH_take (i := 6) (oi := ⟨some 41, .move (.tmp 1), 34, "ref.go:446", #[], none⟩) (v := ?_) rfl (by kernel_rfl) (by kernel_rfl) (by kernel_rfl) (fun _ _ _ h => h) (Or.inl ⟨by rfl, fun W hSw => ?_⟩) hHeld ?_
    rotate_left
    ·(try dsimp only at hSw); go_simp; (try with_reducible rfl)
    (try simp only [Act.put, List.setIfInBounds_toArray, List.set_cons_zero, List.set_cons_succ])
    refine wpAnyH_take (i := 7) (oi := ⟨some 42, .indexAddr 34 (.tmp 41) (.const (.int .i64 2)), 0, "ref.go:446", #[⟨6, .data⟩], none⟩) (v := ?_) rfl (by kernel_rfl) (by kernel_rfl) (by kernel_rfl) (fun _ _ _ h => h) (Or.inl ⟨by rfl, fun W hSw => ?_⟩) hHeld ?_
    rotate_left
    ·(try dsimp only at hSw); go_simp; (try with_reducible rfl)
    (try simp only [Act.put, List.setIfInBounds_toArray, List.set_cons_zero, List.set_cons_succ])
    refine wpAnyH_take (i := 8) (oi := ⟨some 43, .load 3 (.tmp 42), 3, "ref.go:446", #[⟨7, .data⟩], none⟩) (v := ?_) rfl (by kernel_rfl) (by kernel_rfl) (by kernel_rfl) (fun _ _ _ h => h) (Or.inl ⟨by rfl, fun W hSw => ?_⟩) hHeld ?_
    rotate_left
    ·(try dsimp only at hSw); go_simp; (try with_reducible rfl)
    (try simp only [Act.put, List.setIfInBounds_toArray, List.set_cons_zero, List.set_cons_succ])
    refine wpAnyH_take (i := 9) (oi := ⟨some 44, .build 61 #[(0, .const (.int .i64 2)), (1, .tmp 37), (3, .tmp 40), (4, .tmp 43)], 61, "ref.go:446", #[⟨2, .data⟩, ⟨5, .data⟩, ⟨8, .data⟩], none⟩) (v := ?_) rfl (by kernel_rfl) (by kernel_rfl) (by kernel_rfl) (fun _ _ _ h => h) (Or.inl ⟨by rfl, fun W hSw => ?_⟩) hHeld ?_
    rotate_left
    ·(try dsimp only at hSw); go_simp; (try with_reducible rfl)
    (try simp only [Act.put, List.setIfInBounds_toArray, List.set_cons_zero, List.set_cons_succ])
    refine wpAnyH_ready (rs := [10]) (by kernel_rfl) (by simp) ?_
    refine AllReadyH.cons (o := ⟨none, .store 61 (.tmp 4) (.tmp 44), 0, "ref.go:446", #[⟨9, .data⟩, ⟨0, .phase⟩, ⟨1, .phase⟩, ⟨2, .phase⟩, ⟨3, .phase⟩, ⟨4, .phase⟩, ⟨5, .phase⟩, ⟨6, .phase⟩, ⟨7, .phase⟩, ⟨8, .phase⟩, ⟨9, .phase⟩], none⟩) rfl (fun K hK => ?_) AllReadyH.nil
    rw [if_pos (by rfl)]
    refine wp_store_blk _ _ _ rfl w.heap.size 61 _ _ rfl rfl (hR.drew) rfl (by kernel_rfl) (by simp [Value.oneCell']) ?_
    intro W5 hR5 hg5
    refine hK.out _ _ (⟨fun p hp => (World.cell?_of_block (hg5.block p.block (by simp; omega) (by simp; omega))).trans (hHeld.1 p hp), grown_trans hHeld.2 hg5⟩) (fun hHeld => ?_)
    clear hK K
    refine wpAnyH_take (i := 11) (oi := ⟨some 5, .assign (.const (.bool true)), 4, "ref.go:446", #[⟨10, .chain⟩, ⟨0, .phase⟩, ⟨1, .phase⟩, ⟨2, .phase⟩, ⟨3, .phase⟩, ⟨4, .phase⟩, ⟨5, .phase⟩, ⟨6, .phase⟩, ⟨7, .phase⟩, ⟨8, .phase⟩, ⟨9, .phase⟩, ⟨10, .phase⟩], none⟩) (v := ?_) rfl (by kernel_rfl) (by kernel_rfl) (by kernel_rfl) (fun _ _ _ h => h) (Or.inl ⟨by rfl, fun W hSw => ?_⟩) hHeld ?_
    rotate_left
    ·(try dsimp only at hSw); go_simp; (try with_reducible rfl)
    (try simp only [Act.put, List.setIfInBounds_toArray, List.set_cons_zero, List.set_cons_succ])
    refine wpAnyH_done (by kernel_rfl) ?_ _
    refine NoPanic.normal ?_
    go_wp2_with fail
    have hf5 : Below w.heap.size w W5 := g1.grown hHeld.2 g1.size (by intro k hk; cases hk; exact Nat.le_refl _)
    refine bodyPost_ret (results_blk_tmp rfl _ _ _ _ rfl hR5 Tryz.underlying61 rfl (by kernel_rfl)) rfl ⟨Or.inl ⟨⟨2, v0, 0, v1, v2, 0, 0, 0, 0⟩, HF.out, rfl⟩, hf5⟩
   ·have hnb : ((n : Int) == 3) = false := beq_eq_false_iff_ne.2 (by omega)
    have HF := Lib.hid (show noteOf _ xs = none from noteOf_3n (fun e => hn (HNX.out.symm.trans e)))
    go_enter Tryz.func93, Tryz.ntmps93
    go_wp2_with (refine wpList_store_blk rfl _ _ _ rfl w.heap.size 61 _ _ rfl rfl hR rfl (by kernel_rfl) (by simp [Value.oneCell']) ?_; intro W5 hR5 hg5)
    have hf5 : Below w.heap.size w W5 := g1.grown hg5 g1.size (by intro k hk; cases hk; exact Nat.le_refl _)
    refine bodyPost_ret (results_blk_tmp rfl _ _ _ _ rfl hR5 Tryz.underlying61 rfl (by kernel_rfl)) rfl ⟨Or.inr ⟨HF.out, rfl⟩, hf5⟩
  ·by_cases hw4 : hd = [114, 97, 116, 105, 111]
   ·subst hw4
    by_cases hn : n = 6
    ·have hnb : ((n : Int) == 6) = true := beq_iff_eq.2 (by omega)
     have HN := Lib.hid hn
     have hpos : 0 < n := by omega
     obtain ⟨ad, rfl, hab, hc0⟩ := hrX.at_ hpos
     obtain ⟨ad', e', hab', _⟩ := hr.at_ hpos
     obtain rfl : ad = ad' := by injection e'
     obtain ⟨ad1, e1, _, hc1⟩ := hrX.at_ (show 1 < n by omega)
     obtain rfl : ad = ad1 := by injection e1
     obtain ⟨ad2, e2, _, hc2⟩ := hrX.at_ (show 2 < n by omega)
     obtain rfl : ad = ad2 := by injection e2
     obtain ⟨ad3, e3, _, hc3⟩ := hrX.at_ (show 3 < n by omega)
     obtain rfl : ad = ad3 := by injection e3
     obtain ⟨ad4, e4, _, hc4⟩ := hrX.at_ (show 4 < n by omega)
     obtain rfl : ad = ad4 := by injection e4
     obtain ⟨ad5, e5, _, hc5⟩ := hrX.at_ (show 5 < n by omega)
     obtain rfl : ad = ad5 := by injection e5
     obtain ⟨v0, gv0⟩ : ∃ v, xs[0]?.getD 0 = v := ⟨_, rfl⟩
     rw [gv0] at hc0
     have GV0 := Lib.hid gv0
     clear gv0
     obtain ⟨v1, gv1⟩ : ∃ v, xs[1]?.getD 0 = v := ⟨_, rfl⟩
     rw [gv1] at hc1
     have GV1 := Lib.hid gv1
     clear gv1
     obtain ⟨v2, gv2⟩ : ∃ v, xs[2]?.getD 0 = v := ⟨_, rfl⟩
     rw [gv2] at hc2
     have GV2 := Lib.hid gv2
     clear gv2
     obtain ⟨v3, gv3⟩ : ∃ v, xs[3]?.getD 0 = v := ⟨_, rfl⟩
     rw [gv3] at hc3
     have GV3 := Lib.hid gv3
     clear gv3
     obtain ⟨v4, gv4⟩ : ∃ v, xs[4]?.getD 0 = v := ⟨_, rfl⟩
     rw [gv4] at hc4
     have GV4 := Lib.hid gv4
     clear gv4
     obtain ⟨v5, gv5⟩ : ∃ v, xs[5]?.getD 0 = v := ⟨_, rfl⟩
     rw [gv5] at hc5
     have GV5 := Lib.hid gv5
     clear gv5
     have hz : ad.add 0 = ad := by unfold Addr.add; simp
     rw [hz] at hc0
     clear hz e' e1 e2 e3 e4 e5 hn
     have hi0 : (0 : Int) < (n : Int) := by have := HN.out; omega
     have hi1 : (1 : Int) < (n : Int) := by have := HN.out; omega
     have hi2 : (2 : Int) < (n : Int) := by have := HN.out; omega
     have hi3 : (3 : Int) < (n : Int) := by have := HN.out; omega
     have hi4 : (4 : Int) < (n : Int) := by have := HN.out; omega
     have hi5 : (5 : Int) < (n : Int) := by have := HN.out; omega
     have HF := Lib.hid (show noteOf [114, 97, 116, 105, 111] xs = some ⟨3, v0, v1, 0, 0, v2, v3, v4, v5⟩ by rw [show ([114, 97, 116, 105, 111] : List UInt8) = wordG 4 from rfl, noteOf_4 (HNX.out.trans HN.out), GV0.out, GV1.out, GV2.out, GV3.out, GV4.out, GV5.out])
     have hs1 := hc1
     rw [show ad.add 1 = ⟨ad.block, ad.off + 1, none⟩ by unfold Addr.add; simp] at hs1
     have hs2 := hc2
     rw [show ad.add 2 = ⟨ad.block, ad.off + 2, none⟩ by unfold Addr.add; simp] at hs2
     have hs3 := hc3
     rw [show ad.add 3 = ⟨ad.block, ad.off + 3, none⟩ by unfold Addr.add; simp] at hs3
     have hs4 := hc4
     rw [show ad.add 4 = ⟨ad.block, ad.off + 4, none⟩ by unfold Addr.add; simp] at hs4
     have hs5 := hc5
     rw [show ad.add 5 = ⟨ad.block, ad.off + 5, none⟩ by unfold Addr.add; simp] at hs5
     have hne : ¬ ad.block = w.heap.size := by omega
     go_enter Tryz.func93, Tryz.ntmps93
     go_wp2_with fail
     refine wp_region_noPanic ?_
     refine wp_region_held_drew (S := fun W => (∀ p : Addr, p.block < w.heap.size → W.cell? p = (w.alloc (.cells #[.int .i64 0, .int .i64 0, .int .i64 0, .int .i64 0, .int .i64 0, .int .i64 0, .int .i64 0, .int .i64 0, .int .i64 0] 61)).cell? p) ∧ (w.alloc (.cells #[.int .i64 0, .int .i64 0, .int .i64 0, .int .i64 0, .int .i64 0, .int .i64 0, .int .i64 0, .int .i64 0, .int .i64 0] 61)).grownBy W (some w.heap.size)) (by kernel_rfl) ⟨fun _ _ => rfl, grown_below (World.grownBy.refl _ _) (fr_drew (fr_refl _))⟩ (fun hHeld => ?_)
     -- the region, step by step
     refine wpAnyH_take (i := 0) (oi := ⟨some 53, .move (.tmp 1), 34, "ref.go:448", #[], none⟩) (v := ?_) rfl (by kernel_rfl) (by kernel_rfl) (by kernel_rfl) (fun _ _ _ h => h) (Or.inl ⟨by rfl, fun W hSw => ?_⟩) hHeld ?_
     rotate_left
     ·(try dsimp only at hSw); go_simp; (try with_reducible rfl)
     (try simp only [Act.put, List.setIfInBounds_toArray, List.set_cons_zero, List.set_cons_succ])
     refine wpAnyH_take (i := 1) (oi := ⟨some 54, .indexAddr 34 (.tmp 53) (.const (.int .i64 0)), 0, "ref.go:448", #[⟨0, .data⟩], none⟩) (v := ?_) rfl (by kernel_rfl) (by kernel_rfl) (by kernel_rfl) (fun _ _ _ h => h) (Or.inl ⟨by rfl, fun W hSw => ?_⟩) hHeld ?_
     rotate_left
     ·(try dsimp only at hSw); go_simp; (try with_reducible rfl)
     (try simp only [Act.put, List.setIfInBounds_toArray, List.set_cons_zero, List.set_cons_succ])
     refine wpAnyH_take (i := 2) (oi := ⟨some 55, .load 3 (.tmp 54), 3, "ref.go:448", #[⟨1, .data⟩], none⟩) (v := ?_) rfl (by kernel_rfl) (by kernel_rfl) (by kernel_rfl) (fun _ _ _ h => h) (Or.inl ⟨by rfl, fun W hSw => ?_⟩) hHeld ?_
     rotate_left
     ·(try dsimp only at hSw); go_simp; (try with_reducible rfl)
     (try simp only [Act.put, List.setIfInBounds_toArray, List.set_cons_zero, List.set_cons_succ])
     refine wpAnyH_take (i := 3) (oi := ⟨some 56, .move (.tmp 1), 34, "ref.go:448", #[], none⟩) (v := ?_) rfl (by kernel_rfl) (by kernel_rfl) (by kernel_rfl) (fun _ _ _ h => h) (Or.inl ⟨by rfl, fun W hSw => ?_⟩) hHeld ?_
     rotate_left
     ·(try dsimp only at hSw); go_simp; (try with_reducible rfl)
     (try simp only [Act.put, List.setIfInBounds_toArray, List.set_cons_zero, List.set_cons_succ])
     refine wpAnyH_take (i := 4) (oi := ⟨some 57, .indexAddr 34 (.tmp 56) (.const (.int .i64 1)), 0, "ref.go:448", #[⟨3, .data⟩], none⟩) (v := ?_) rfl (by kernel_rfl) (by kernel_rfl) (by kernel_rfl) (fun _ _ _ h => h) (Or.inl ⟨by rfl, fun W hSw => ?_⟩) hHeld ?_
     rotate_left
     ·(try dsimp only at hSw); go_simp; (try with_reducible rfl)
     (try simp only [Act.put, List.setIfInBounds_toArray, List.set_cons_zero, List.set_cons_succ])
     refine wpAnyH_take (i := 5) (oi := ⟨some 58, .load 3 (.tmp 57), 3, "ref.go:448", #[⟨4, .data⟩], none⟩) (v := ?_) rfl (by kernel_rfl) (by kernel_rfl) (by kernel_rfl) (fun _ _ _ h => h) (Or.inl ⟨by rfl, fun W hSw => ?_⟩) hHeld ?_
     rotate_left
     ·(try dsimp only at hSw); go_simp; (try with_reducible rfl)
     (try simp only [Act.put, List.setIfInBounds_toArray, List.set_cons_zero, List.set_cons_succ])
     refine wpAnyH_take (i := 6) (oi := ⟨some 59, .move (.tmp 1), 34, "ref.go:448", #[], none⟩) (v := ?_) rfl (by kernel_rfl) (by kernel_rfl) (by kernel_rfl) (fun _ _ _ h => h) (Or.inl ⟨by rfl, fun W hSw => ?_⟩) hHeld ?_
     rotate_left
     ·(try dsimp only at hSw); go_simp; (try with_reducible rfl)
     (try simp only [Act.put, List.setIfInBounds_toArray, List.set_cons_zero, List.set_cons_succ])
     refine wpAnyH_take (i := 7) (oi := ⟨some 60, .indexAddr 34 (.tmp 59) (.const (.int .i64 2)), 0, "ref.go:448", #[⟨6, .data⟩], none⟩) (v := ?_) rfl (by kernel_rfl) (by kernel_rfl) (by kernel_rfl) (fun _ _ _ h => h) (Or.inl ⟨by rfl, fun W hSw => ?_⟩) hHeld ?_
     rotate_left
     ·(try dsimp only at hSw); go_simp; (try with_reducible rfl)
     (try simp only [Act.put, List.setIfInBounds_toArray, List.set_cons_zero, List.set_cons_succ])
     refine wpAnyH_take (i := 8) (oi := ⟨some 61, .load 3 (.tmp 60), 3, "ref.go:448", #[⟨7, .data⟩], none⟩) (v := ?_) rfl (by kernel_rfl) (by kernel_rfl) (by kernel_rfl) (fun _ _ _ h => h) (Or.inl ⟨by rfl, fun W hSw => ?_⟩) hHeld ?_
     rotate_left
     ·(try dsimp only at hSw); go_simp; (try with_reducible rfl)
     (try simp only [Act.put, List.setIfInBounds_toArray, List.set_cons_zero, List.set_cons_succ])
     refine wpAnyH_take (i := 9) (oi := ⟨some 62, .move (.tmp 1), 34, "ref.go:448", #[], none⟩) (v := ?_) rfl (by kernel_rfl) (by kernel_rfl) (by kernel_rfl) (fun _ _ _ h => h) (Or.inl ⟨by rfl, fun W hSw => ?_⟩) hHeld ?_
     rotate_left
     ·(try dsimp only at hSw); go_simp; (try with_reducible rfl)
     (try simp only [Act.put, List.setIfInBounds_toArray, List.set_cons_zero, List.set_cons_succ])
     refine wpAnyH_take (i := 10) (oi := ⟨some 63, .indexAddr 34 (.tmp 62) (.const (.int .i64 3)), 0, "ref.go:448", #[⟨9, .data⟩], none⟩) (v := ?_) rfl (by kernel_rfl) (by kernel_rfl) (by kernel_rfl) (fun _ _ _ h => h) (Or.inl ⟨by rfl, fun W hSw => ?_⟩) hHeld ?_
     rotate_left
     ·(try dsimp only at hSw); go_simp; (try with_reducible rfl)
     (try simp only [Act.put, List.setIfInBounds_toArray, List.set_cons_zero, List.set_cons_succ])
     refine wpAnyH_take (i := 11) (oi := ⟨some 64, .load 3 (.tmp 63), 3, "ref.go:448", #[⟨10, .data⟩], none⟩) (v := ?_) rfl (by kernel_rfl) (by kernel_rfl) (by kernel_rfl) (fun _ _ _ h => h) (Or.inl ⟨by rfl, fun W hSw => ?_⟩) hHeld ?_
     rotate_left
     ·(try dsimp only at hSw); go_simp; (try with_reducible rfl)
     (try simp only [Act.put, List.setIfInBounds_toArray, List.set_cons_zero, List.set_cons_succ])
     refine wpAnyH_take (i := 12) (oi := ⟨some 65, .build 40 #[(0, .tmp 61), (1, .tmp 64)], 40, "ref.go:448", #[⟨8, .data⟩, ⟨11, .data⟩], none⟩) (v := ?_) rfl (by kernel_rfl) (by kernel_rfl) (by kernel_rfl) (fun _ _ _ h => h) (Or.inl ⟨by rfl, fun W hSw => ?_⟩) hHeld ?_
     rotate_left
     ·(try dsimp only at hSw); go_simp; (try with_reducible rfl)
     (try simp only [Act.put, List.setIfInBounds_toArray, List.set_cons_zero, List.set_cons_succ])
     refine wpAnyH_take (i := 13) (oi := ⟨some 66, .move (.tmp 1), 34, "ref.go:448", #[], none⟩) (v := ?_) rfl (by kernel_rfl) (by kernel_rfl) (by kernel_rfl) (fun _ _ _ h => h) (Or.inl ⟨by rfl, fun W hSw => ?_⟩) hHeld ?_
     rotate_left
     ·(try dsimp only at hSw); go_simp; (try with_reducible rfl)
     (try simp only [Act.put, List.setIfInBounds_toArray, List.set_cons_zero, List.set_cons_succ])
     refine wpAnyH_take (i := 14) (oi := ⟨some 67, .indexAddr 34 (.tmp 66) (.const (.int .i64 4)), 0, "ref.go:448", #[⟨13, .data⟩], none⟩) (v := ?_) rfl (by kernel_rfl) (by kernel_rfl) (by kernel_rfl) (fun _ _ _ h => h) (Or.inl ⟨by rfl, fun W hSw => ?_⟩) hHeld ?_
     rotate_left
     ·(try dsimp only at hSw); go_simp; (try with_reducible rfl)
     (try simp only [Act.put, List.setIfInBounds_toArray, List.set_cons_zero, List.set_cons_succ])
     refine wpAnyH_take (i := 15) (oi := ⟨some 68, .load 3 (.tmp 67), 3, "ref.go:448", #[⟨14, .data⟩], none⟩) (v := ?_) rfl (by kernel_rfl) (by kernel_rfl) (by kernel_rfl) (fun _ _ _ h => h) (Or.inl ⟨by rfl, fun W hSw => ?_⟩) hHeld ?_
     rotate_left
     ·(try dsimp only at hSw); go_simp; (try with_reducible rfl)
     (try simp only [Act.put, List.setIfInBounds_toArray, List.set_cons_zero, List.set_cons_succ])
     refine wpAnyH_take (i := 16) (oi := ⟨some 69, .move (.tmp 1), 34, "ref.go:448", #[], none⟩) (v := ?_) rfl (by kernel_rfl) (by kernel_rfl) (by kernel_rfl) (fun _ _ _ h => h) (Or.inl ⟨by rfl, fun W hSw => ?_⟩) hHeld ?_
     rotate_left
     ·(try dsimp only at hSw); go_simp; (try with_reducible rfl)
     (try simp only [Act.put, List.setIfInBounds_toArray, List.set_cons_zero, List.set_cons_succ])
     refine wpAnyH_take (i := 17) (oi := ⟨some 70, .indexAddr 34 (.tmp 69) (.const (.int .i64 5)), 0, "ref.go:448", #[⟨16, .data⟩], none⟩) (v := ?_) rfl (by kernel_rfl) (by kernel_rfl) (by kernel_rfl) (fun _ _ _ h => h) (Or.inl ⟨by rfl, fun W hSw => ?_⟩) hHeld ?_
     rotate_left
     ·(try dsimp only at hSw); go_simp; (try with_reducible rfl)
     (try simp only [Act.put, List.setIfInBounds_toArray, List.set_cons_zero, List.set_cons_succ])
     refine wpAnyH_take (i := 18) (oi := ⟨some 71, .load 3 (.tmp 70), 3, "ref.go:448", #[⟨17, .data⟩], none⟩) (v := ?_) rfl (by kernel_rfl) (by kernel_rfl) (by kernel_rfl) (fun _ _ _ h => h) (Or.inl ⟨by rfl, fun W hSw => ?_⟩) hHeld ?_
     rotate_left
     ·(try dsimp only at hSw); go_simp; (try with_reducible rfl)
     (try simp only [Act.put, List.setIfInBounds_toArray, List.set_cons_zero, List.set_cons_succ])
     refine wpAnyH_take (i := 19) (oi := ⟨some 72, .build 40 #[(0, .tmp 68), (1, .tmp 71)], 40, "ref.go:448", #[⟨15, .data⟩, ⟨18, .data⟩], none⟩) (v := ?_) rfl (by kernel_rfl) (by kernel_rfl) (by kernel_rfl) (fun _ _ _ h => h) (Or.inl ⟨by rfl, fun W hSw => ?_⟩) hHeld ?_
     rotate_left
     ·(try dsimp only at hSw); go_simp; (try with_reducible rfl)
     (try simp only [Act.put, List.setIfInBounds_toArray, List.set_cons_zero, List.set_cons_succ])
     refine wpAnyH_take (i := 20) (oi := ⟨some 73, .build 61 #[(0, .const (.int .i64 3)), (1, .tmp 55), (2, .tmp 58), (5, .tmp 65), (6, .tmp 72)], 61, "ref.go:448", #[⟨2, .data⟩, ⟨5, .data⟩, ⟨12, .data⟩, ⟨19, .data⟩], none⟩) (v := ?_) rfl (by kernel_rfl) (by kernel_rfl) (by kernel_rfl) (fun _ _ _ h => h) (Or.inl ⟨by rfl, fun W hSw => ?_⟩) hHeld ?_
     rotate_left
     ·(try dsimp only at hSw); go_simp; (try with_reducible rfl)
     (try simp only [Act.put, List.setIfInBounds_toArray, List.set_cons_zero, List.set_cons_succ])
     refine wpAnyH_ready (rs := [21]) (by kernel_rfl) (by simp) ?_
     refine AllReadyH.cons (o := ⟨none, .store 61 (.tmp 4) (.tmp 73), 0, "ref.go:448", #[⟨20, .data⟩, ⟨0, .phase⟩, ⟨1, .phase⟩, ⟨2, .phase⟩, ⟨3, .phase⟩, ⟨4, .phase⟩, ⟨5, .phase⟩, ⟨6, .phase⟩, ⟨7, .phase⟩, ⟨8, .phase⟩, ⟨9, .phase⟩, ⟨10, .phase⟩, ⟨11, .phase⟩, ⟨12, .phase⟩, ⟨13, .phase⟩, ⟨14, .phase⟩, ⟨15, .phase⟩, ⟨16, .phase⟩, ⟨17, .phase⟩, ⟨18, .phase⟩, ⟨19, .phase⟩, ⟨20, .phase⟩], none⟩) rfl (fun K hK => ?_) AllReadyH.nil
     rw [if_pos (by rfl)]
     refine wp_store_blk _ _ _ rfl w.heap.size 61 _ _ rfl rfl (hR.drew) rfl (by kernel_rfl) (by simp [Value.oneCell']) ?_
     intro W5 hR5 hg5
     refine hK.out _ _ (⟨fun p hp => (World.cell?_of_block (hg5.block p.block (by simp; omega) (by simp; omega))).trans (hHeld.1 p hp), grown_trans hHeld.2 hg5⟩) (fun hHeld => ?_)
     clear hK K
     refine wpAnyH_take (i := 22) (oi := ⟨some 5, .assign (.const (.bool true)), 4, "ref.go:448", #[⟨21, .chain⟩, ⟨0, .phase⟩, ⟨1, .phase⟩, ⟨2, .phase⟩, ⟨3, .phase⟩, ⟨4, .phase⟩, ⟨5, .phase⟩, ⟨6, .phase⟩, ⟨7, .phase⟩, ⟨8, .phase⟩, ⟨9, .phase⟩, ⟨10, .phase⟩, ⟨11, .phase⟩, ⟨12, .phase⟩, ⟨13, .phase⟩, ⟨14, .phase⟩, ⟨15, .phase⟩, ⟨16, .phase⟩, ⟨17, .phase⟩, ⟨18, .phase⟩, ⟨19, .phase⟩, ⟨20, .phase⟩, ⟨21, .phase⟩], none⟩) (v := ?_) rfl (by kernel_rfl) (by kernel_rfl) (by kernel_rfl) (fun _ _ _ h => h) (Or.inl ⟨by rfl, fun W hSw => ?_⟩) hHeld ?_
     rotate_left
     ·(try dsimp only at hSw); go_simp; (try with_reducible rfl)
     (try simp only [Act.put, List.setIfInBounds_toArray, List.set_cons_zero, List.set_cons_succ])
     refine wpAnyH_done (by kernel_rfl) ?_ _
     refine NoPanic.normal ?_
     go_wp2_with fail
     have hf5 : Below w.heap.size w W5 := g1.grown hHeld.2 g1.size (by intro k hk; cases hk; exact Nat.le_refl _)
     refine bodyPost_ret (results_blk_tmp rfl _ _ _ _ rfl hR5 Tryz.underlying61 rfl (by kernel_rfl)) rfl ⟨Or.inl ⟨⟨3, v0, v1, 0, 0, v2, v3, v4, v5⟩, HF.out, rfl⟩, hf5⟩
    ·have hnb : ((n : Int) == 6) = false := beq_eq_false_iff_ne.2 (by omega)
     have HF := Lib.hid (show noteOf _ xs = none from noteOf_4n (fun e => hn (HNX.out.symm.trans e)))
     go_enter Tryz.func93, Tryz.ntmps93
     go_wp2_with (refine wpList_store_blk rfl _ _ _ rfl w.heap.size 61 _ _ rfl rfl hR rfl (by kernel_rfl) (by simp [Value.oneCell']) ?_; intro W5 hR5 hg5)
     have hf5 : Below w.heap.size w W5 := g1.grown hg5 g1.size (by intro k hk; cases hk; exact Nat.le_refl _)
     refine bodyPost_ret (results_blk_tmp rfl _ _ _ _ rfl hR5 Tryz.underlying61 rfl (by kernel_rfl)) rfl ⟨Or.inr ⟨HF.out, rfl⟩, hf5⟩
   ·by_cases hw5 : hd = [115, 97, 109, 101]
    ·subst hw5
     by_cases hn : n = 2
     ·have hnb : ((n : Int) == 2) = true := beq_iff_eq.2 (by omega)
      have HN := Lib.hid hn
      have hpos : 0 < n := by omega
      obtain ⟨ad, rfl, hab, hc0⟩ := hrX.at_ hpos
      obtain ⟨ad', e', hab', _⟩ := hr.at_ hpos
      obtain rfl : ad = ad' := by injection e'
      obtain ⟨ad1, e1, _, hc1⟩ := hrX.at_ (show 1 < n by omega)
      obtain rfl : ad = ad1 := by injection e1
      obtain ⟨v0, gv0⟩ : ∃ v, xs[0]?.getD 0 = v := ⟨_, rfl⟩
      rw [gv0] at hc0
      have GV0 := Lib.hid gv0
      clear gv0
      obtain ⟨v1, gv1⟩ : ∃ v, xs[1]?.getD 0 = v := ⟨_, rfl⟩
      rw [gv1] at hc1
      have GV1 := Lib.hid gv1
      clear gv1
      have hz : ad.add 0 = ad := by unfold Addr.add; simp
      rw [hz] at hc0
      clear hz e' e1 hn
      have hi0 : (0 : Int) < (n : Int) := by have := HN.out; omega
      have hi1 : (1 : Int) < (n : Int) := by have := HN.out; omega
      have HF := Lib.hid (show noteOf [115, 97, 109, 101] xs = some ⟨4, v0, v1, 0, 0, 0, 0, 0, 0⟩ by rw [show ([115, 97, 109, 101] : List UInt8) = wordG 5 from rfl, noteOf_5 (HNX.out.trans HN.out), GV0.out, GV1.out])
      have hs1 := hc1
      rw [show ad.add 1 = ⟨ad.block, ad.off + 1, none⟩ by unfold Addr.add; simp] at hs1
      have hne : ¬ ad.block = w.heap.size := by omega
      go_enter Tryz.func93, Tryz.ntmps93
      go_wp2_with fail
      refine wp_region_noPanic ?_
      refine wp_region_held_drew (S := fun W => (∀ p : Addr, p.block < w.heap.size → W.cell? p = (w.alloc (.cells #[.int .i64 0, .int .i64 0, .int .i64 0, .int .i64 0, .int .i64 0, .int .i64 0, .int .i64 0, .int .i64 0, .int .i64 0] 61)).cell? p) ∧ (w.alloc (.cells #[.int .i64 0, .int .i64 0, .int .i64 0, .int .i64 0, .int .i64 0, .int .i64 0, .int .i64 0, .int .i64 0, .int .i64 0] 61)).grownBy W (some w.heap.size)) (by kernel_rfl) ⟨fun _ _ => rfl, grown_below (World.grownBy.refl _ _) (fr_drew (fr_refl _))⟩ (fun hHeld => ?_)
      -- the region, step by step
      refine wpAnyH_take (i := 0) (oi := ⟨some 82, .move (.tmp 1), 34, "ref.go:450", #[], none⟩) (v := ?_) rfl (by kernel_rfl) (by kernel_rfl) (by kernel_rfl) (fun _ _ _ h => h) (Or.inl ⟨by rfl, fun W hSw => ?_⟩) hHeld ?_
      rotate_left
      ·(try dsimp only at hSw); go_simp; (try with_reducible rfl)
      (try simp only [Act.put, List.setIfInBounds_toArray, List.set_cons_zero, List.set_cons_succ])
      refine wpAnyH_take (i := 1) (oi := ⟨some 83, .indexAddr 34 (.tmp 82) (.const (.int .i64 0)), 0, "ref.go:450", #[⟨0, .data⟩], none⟩) (v := ?_) rfl (by kernel_rfl) (by kernel_rfl) (by kernel_rfl) (fun _ _ _ h => h) (Or.inl ⟨by rfl, fun W hSw => ?_⟩) hHeld ?_
      rotate_left
      ·(try dsimp only at hSw); go_simp; (try with_reducible rfl)
      (try simp only [Act.put, List.setIfInBounds_toArray, List.set_cons_zero, List.set_cons_succ])
      refine wpAnyH_take (i := 2) (oi := ⟨some 84, .load 3 (.tmp 83), 3, "ref.go:450", #[⟨1, .data⟩], none⟩) (v := ?_) rfl (by kernel_rfl) (by kernel_rfl) (by kernel_rfl) (fun _ _ _ h => h) (Or.inl ⟨by rfl, fun W hSw => ?_⟩) hHeld ?_
      rotate_left
      ·(try dsimp only at hSw); go_simp; (try with_reducible rfl)
      (try simp only [Act.put, List.setIfInBounds_toArray, List.set_cons_zero, List.set_cons_succ])
      refine wpAnyH_take (i := 3) (oi := ⟨some 85, .move (.tmp 1), 34, "ref.go:450", #[], none⟩) (v := ?_) rfl (by kernel_rfl) (by kernel_rfl) (by kernel_rfl) (fun _ _ _ h => h) (Or.inl ⟨by rfl, fun W hSw => ?_⟩) hHeld ?_
      rotate_left
      ·(try dsimp only at hSw); go_simp; (try with_reducible rfl)
      (try simp only [Act.put, List.setIfInBounds_toArray, List.set_cons_zero, List.set_cons_succ])
      refine wpAnyH_take (i := 4) (oi := ⟨some 86, .indexAddr 34 (.tmp 85) (.const (.int .i64 1)), 0, "ref.go:450", #[⟨3, .data⟩], none⟩) (v := ?_) rfl (by kernel_rfl) (by kernel_rfl) (by kernel_rfl) (fun _ _ _ h => h) (Or.inl ⟨by rfl, fun W hSw => ?_⟩) hHeld ?_
      rotate_left
      ·(try dsimp only at hSw); go_simp; (try with_reducible rfl)
      (try simp only [Act.put, List.setIfInBounds_toArray, List.set_cons_zero, List.set_cons_succ])
      refine wpAnyH_take (i := 5) (oi := ⟨some 87, .load 3 (.tmp 86), 3, "ref.go:450", #[⟨4, .data⟩], none⟩) (v := ?_) rfl (by kernel_rfl) (by kernel_rfl) (by kernel_rfl) (fun _ _ _ h => h) (Or.inl ⟨by rfl, fun W hSw => ?_⟩) hHeld ?_
      rotate_left
      ·(try dsimp only at hSw); go_simp; (try with_reducible rfl)
      (try simp only [Act.put, List.setIfInBounds_toArray, List.set_cons_zero, List.set_cons_succ])
      refine wpAnyH_take (i := 6) (oi := ⟨some 88, .build 61 #[(0, .const (.int .i64 4)), (1, .tmp 84), (2, .tmp 87)], 61, "ref.go:450", #[⟨2, .data⟩, ⟨5, .data⟩], none⟩) (v := ?_) rfl (by kernel_rfl) (by kernel_rfl) (by kernel_rfl) (fun _ _ _ h => h) (Or.inl ⟨by rfl, fun W hSw => ?_⟩) hHeld ?_
      rotate_left
      ·(try dsimp only at hSw); go_simp; (try with_reducible rfl)
      (try simp only [Act.put, List.setIfInBounds_toArray, List.set_cons_zero, List.set_cons_succ])
      refine wpAnyH_ready (rs := [7]) (by kernel_rfl) (by simp) ?_
      refine AllReadyH.cons (o := ⟨none, .store 61 (.tmp 4) (.tmp 88), 0, "ref.go:450", #[⟨6, .data⟩, ⟨0, .phase⟩, ⟨1, .phase⟩, ⟨2, .phase⟩, ⟨3, .phase⟩, ⟨4, .phase⟩, ⟨5, .phase⟩, ⟨6, .phase⟩], none⟩) rfl (fun K hK => ?_) AllReadyH.nil
      rw [if_pos (by rfl)]
      refine wp_store_blk _ _ _ rfl w.heap.size 61 _ _ rfl rfl (hR.drew) rfl (by kernel_rfl) (by simp [Value.oneCell']) ?_
      intro W5 hR5 hg5
      refine hK.out _ _ (⟨fun p hp => (World.cell?_of_block (hg5.block p.block (by simp; omega) (by simp; omega))).trans (hHeld.1 p hp), grown_trans hHeld.2 hg5⟩) (fun hHeld => ?_)
      clear hK K
      refine wpAnyH_take (i := 8) (oi := ⟨some 5, .assign (.const (.bool true)), 4, "ref.go:450", #[⟨7, .chain⟩, ⟨0, .phase⟩, ⟨1, .phase⟩, ⟨2, .phase⟩, ⟨3, .phase⟩, ⟨4, .phase⟩, ⟨5, .phase⟩, ⟨6, .phase⟩, ⟨7, .phase⟩], none⟩) (v := ?_) rfl (by kernel_rfl) (by kernel_rfl) (by kernel_rfl) (fun _ _ _ h => h) (Or.inl ⟨by rfl, fun W hSw => ?_⟩) hHeld ?_
      rotate_left
      ·(try dsimp only at hSw); go_simp; (try with_reducible rfl)
      (try simp only [Act.put, List.setIfInBounds_toArray, List.set_cons_zero, List.set_cons_succ])
      refine wpAnyH_done (by kernel_rfl) ?_ _
      refine NoPanic.normal ?_
      go_wp2_with fail
      have hf5 : Below w.heap.size w W5 := g1.grown hHeld.2 g1.size (by intro k hk; cases hk; exact Nat.le_refl _)
      refine bodyPost_ret (results_blk_tmp rfl _ _ _ _ rfl hR5 Tryz.underlying61 rfl (by kernel_rfl)) rfl ⟨Or.inl ⟨⟨4, v0, v1, 0, 0, 0, 0, 0, 0⟩, HF.out, rfl⟩, hf5⟩
     ·have hnb : ((n : Int) == 2) = false := beq_eq_false_iff_ne.2 (by omega)
      have HF := Lib.hid (show noteOf _ xs = none from noteOf_5n (fun e => hn (HNX.out.symm.trans e)))
      go_enter Tryz.func93, Tryz.ntmps93
      go_wp2_with (refine wpList_store_blk rfl _ _ _ rfl w.heap.size 61 _ _ rfl rfl hR rfl (by kernel_rfl) (by simp [Value.oneCell']) ?_; intro W5 hR5 hg5)
      have hf5 : Below w.heap.size w W5 := g1.grown hg5 g1.size (by intro k hk; cases hk; exact Nat.le_refl _)
      refine bodyPost_ret (results_blk_tmp rfl _ _ _ _ rfl hR5 Tryz.underlying61 rfl (by kernel_rfl)) rfl ⟨Or.inr ⟨HF.out, rfl⟩, hf5⟩
    ·by_cases hw6 : hd = [112, 97, 114, 116]
     ·subst hw6
      by_cases hn : n = 2
      ·have hnb : ((n : Int) == 2) = true := beq_iff_eq.2 (by omega)
       have HN := Lib.hid hn
       have hpos : 0 < n := by omega
       obtain ⟨ad, rfl, hab, hc0⟩ := hrX.at_ hpos
       obtain ⟨ad', e', hab', _⟩ := hr.at_ hpos
       obtain rfl : ad = ad' := by injection e'
       obtain ⟨ad1, e1, _, hc1⟩ := hrX.at_ (show 1 < n by omega)
       obtain rfl : ad = ad1 := by injection e1
       obtain ⟨v0, gv0⟩ : ∃ v, xs[0]?.getD 0 = v := ⟨_, rfl⟩
       rw [gv0] at hc0
       have GV0 := Lib.hid gv0
       clear gv0
       obtain ⟨v1, gv1⟩ : ∃ v, xs[1]?.getD 0 = v := ⟨_, rfl⟩
       rw [gv1] at hc1
       have GV1 := Lib.hid gv1
       clear gv1
       have hz : ad.add 0 = ad := by unfold Addr.add; simp
       rw [hz] at hc0
       clear hz e' e1 hn
       have hi0 : (0 : Int) < (n : Int) := by have := HN.out; omega
       have hi1 : (1 : Int) < (n : Int) := by have := HN.out; omega
       have HF := Lib.hid (show noteOf [112, 97, 114, 116] xs = some ⟨5, v0, v1, 0, 0, 0, 0, 0, 0⟩ by rw [show ([112, 97, 114, 116] : List UInt8) = wordG 6 from rfl, noteOf_6 (HNX.out.trans HN.out), GV0.out, GV1.out])
       have hs1 := hc1
       rw [show ad.add 1 = ⟨ad.block, ad.off + 1, none⟩ by unfold Addr.add; simp] at hs1
       have hne : ¬ ad.block = w.heap.size := by omega
       go_enter Tryz.func93, Tryz.ntmps93
       go_wp2_with fail
       refine wp_region_noPanic ?_
       refine wp_region_held_drew (S := fun W => (∀ p : Addr, p.block < w.heap.size → W.cell? p = (w.alloc (.cells #[.int .i64 0, .int .i64 0, .int .i64 0, .int .i64 0, .int .i64 0, .int .i64 0, .int .i64 0, .int .i64 0, .int .i64 0] 61)).cell? p) ∧ (w.alloc (.cells #[.int .i64 0, .int .i64 0, .int .i64 0, .int .i64 0, .int .i64 0, .int .i64 0, .int .i64 0, .int .i64 0, .int .i64 0] 61)).grownBy W (some w.heap.size)) (by kernel_rfl) ⟨fun _ _ => rfl, grown_below (World.grownBy.refl _ _) (fr_drew (fr_refl _))⟩ (fun hHeld => ?_)
       -- the region, step by step
       refine wpAnyH_take (i := 0) (oi := ⟨some 97, .move (.tmp 1), 34, "ref.go:452", #[], none⟩) (v := ?_) rfl (by kernel_rfl) (by kernel_rfl) (by kernel_rfl) (fun _ _ _ h => h) (Or.inl ⟨by rfl, fun W hSw => ?_⟩) hHeld ?_
       rotate_left
       ·(try dsimp only at hSw); go_simp; (try with_reducible rfl)
       (try simp only [Act.put, List.setIfInBounds_toArray, List.set_cons_zero, List.set_cons_succ])
       refine wpAnyH_take (i := 1) (oi := ⟨some 98, .indexAddr 34 (.tmp 97) (.const (.int .i64 0)), 0, "ref.go:452", #[⟨0, .data⟩], none⟩) (v := ?_) rfl (by kernel_rfl) (by kernel_rfl) (by kernel_rfl) (fun _ _ _ h => h) (Or.inl ⟨by rfl, fun W hSw => ?_⟩) hHeld ?_
       rotate_left
       ·(try dsimp only at hSw); go_simp; (try with_reducible rfl)
       (try simp only [Act.put, List.setIfInBounds_toArray, List.set_cons_zero, List.set_cons_succ])
       refine wpAnyH_take (i := 2) (oi := ⟨some 99, .load 3 (.tmp 98), 3, "ref.go:452", #[⟨1, .data⟩], none⟩) (v := ?_) rfl (by kernel_rfl) (by kernel_rfl) (by kernel_rfl) (fun _ _ _ h => h) (Or.inl ⟨by rfl, fun W hSw => ?_⟩) hHeld ?_
       rotate_left
       ·(try dsimp only at hSw); go_simp; (try with_reducible rfl)
       (try simp only [Act.put, List.setIfInBounds_toArray, List.set_cons_zero, List.set_cons_succ])
       refine wpAnyH_take (i := 3) (oi := ⟨some 100, .move (.tmp 1), 34, "ref.go:452", #[], none⟩) (v := ?_) rfl (by kernel_rfl) (by kernel_rfl) (by kernel_rfl) (fun _ _ _ h => h) (Or.inl ⟨by rfl, fun W hSw => ?_⟩) hHeld ?_
       rotate_left
       ·(try dsimp only at hSw); go_simp; (try with_reducible rfl)
       (try simp only [Act.put, List.setIfInBounds_toArray, List.set_cons_zero, List.set_cons_succ])
       refine wpAnyH_take (i := 4) (oi := ⟨some 101, .indexAddr 34 (.tmp 100) (.const (.int .i64 1)), 0, "ref.go:452", #[⟨3, .data⟩], none⟩) (v := ?_) rfl (by kernel_rfl) (by kernel_rfl) (by kernel_rfl) (fun _ _ _ h => h) (Or.inl ⟨by rfl, fun W hSw => ?_⟩) hHeld ?_
       rotate_left
       ·(try dsimp only at hSw); go_simp; (try with_reducible rfl)
       (try simp only [Act.put, List.setIfInBounds_toArray, List.set_cons_zero, List.set_cons_succ])
       refine wpAnyH_take (i := 5) (oi := ⟨some 102, .load 3 (.tmp 101), 3, "ref.go:452", #[⟨4, .data⟩], none⟩) (v := ?_) rfl (by kernel_rfl) (by kernel_rfl) (by kernel_rfl) (fun _ _ _ h => h) (Or.inl ⟨by rfl, fun W hSw => ?_⟩) hHeld ?_
       rotate_left
       ·(try dsimp only at hSw); go_simp; (try with_reducible rfl)
       (try simp only [Act.put, List.setIfInBounds_toArray, List.set_cons_zero, List.set_cons_succ])
       refine wpAnyH_take (i := 6) (oi := ⟨some 103, .build 61 #[(0, .const (.int .i64 5)), (1, .tmp 99), (2, .tmp 102)], 61, "ref.go:452", #[⟨2, .data⟩, ⟨5, .data⟩], none⟩) (v := ?_) rfl (by kernel_rfl) (by kernel_rfl) (by kernel_rfl) (fun _ _ _ h => h) (Or.inl ⟨by rfl, fun W hSw => ?_⟩) hHeld ?_
       rotate_left
       ·(try dsimp only at hSw); go_simp; (try with_reducible rfl)
       (try simp only [Act.put, List.setIfInBounds_toArray, List.set_cons_zero, List.set_cons_succ])
       refine wpAnyH_ready (rs := [7]) (by kernel_rfl) (by simp) ?_
       refine AllReadyH.cons (o := ⟨none, .store 61 (.tmp 4) (.tmp 103), 0, "ref.go:452", #[⟨6, .data⟩, ⟨0, .phase⟩, ⟨1, .phase⟩, ⟨2, .phase⟩, ⟨3, .phase⟩, ⟨4, .phase⟩, ⟨5, .phase⟩, ⟨6, .phase⟩], none⟩) rfl (fun K hK => ?_) AllReadyH.nil
       rw [if_pos (by rfl)]
       refine wp_store_blk _ _ _ rfl w.heap.size 61 _ _ rfl rfl (hR.drew) rfl (by kernel_rfl) (by simp [Value.oneCell']) ?_
       intro W5 hR5 hg5
       refine hK.out _ _ (⟨fun p hp => (World.cell?_of_block (hg5.block p.block (by simp; omega) (by simp; omega))).trans (hHeld.1 p hp), grown_trans hHeld.2 hg5⟩) (fun hHeld => ?_)
       clear hK K
       refine wpAnyH_take (i := 8) (oi := ⟨some 5, .assign (.const (.bool true)), 4, "ref.go:452", #[⟨7, .chain⟩, ⟨0, .phase⟩, ⟨1, .phase⟩, ⟨2, .phase⟩, ⟨3, .phase⟩, ⟨4, .phase⟩, ⟨5, .phase⟩, ⟨6, .phase⟩, ⟨7, .phase⟩], none⟩) (v := ?_) rfl (by kernel_rfl) (by kernel_rfl) (by kernel_rfl) (fun _ _ _ h => h) (Or.inl ⟨by rfl, fun W hSw => ?_⟩) hHeld ?_
       rotate_left
       ·(try dsimp only at hSw); go_simp; (try with_reducible rfl)
       (try simp only [Act.put, List.setIfInBounds_toArray, List.set_cons_zero, List.set_cons_succ])
       refine wpAnyH_done (by kernel_rfl) ?_ _
       refine NoPanic.normal ?_
       go_wp2_with fail
       have hf5 : Below w.heap.size w W5 := g1.grown hHeld.2 g1.size (by intro k hk; cases hk; exact Nat.le_refl _)
       refine bodyPost_ret (results_blk_tmp rfl _ _ _ _ rfl hR5 Tryz.underlying61 rfl (by kernel_rfl)) rfl ⟨Or.inl ⟨⟨5, v0, v1, 0, 0, 0, 0, 0, 0⟩, HF.out, rfl⟩, hf5⟩
      ·have hnb : ((n : Int) == 2) = false := beq_eq_false_iff_ne.2 (by omega)
       have HF := Lib.hid (show noteOf _ xs = none from noteOf_6n (fun e => hn (HNX.out.symm.trans e)))
       go_enter Tryz.func93, Tryz.ntmps93
       go_wp2_with (refine wpList_store_blk rfl _ _ _ rfl w.heap.size 61 _ _ rfl rfl hR rfl (by kernel_rfl) (by simp [Value.oneCell']) ?_; intro W5 hR5 hg5)
       have hf5 : Below w.heap.size w W5 := g1.grown hg5 g1.size (by intro k hk; cases hk; exact Nat.le_refl _)
       refine bodyPost_ret (results_blk_tmp rfl _ _ _ _ rfl hR5 Tryz.underlying61 rfl (by kernel_rfl)) rfl ⟨Or.inr ⟨HF.out, rfl⟩, hf5⟩
     ·have HF := Lib.hid (show noteOf _ xs = none from noteOf_no ⟨hw2, hw3, hw4, hw5, hw6⟩)
      go_enter Tryz.func93, Tryz.ntmps93
      go_wp2_with (refine wpList_store_blk rfl _ _ _ rfl w.heap.size 61 _ _ rfl rfl hR rfl (by kernel_rfl) (by simp [Value.oneCell']) ?_; intro W5 hR5 hg5)
      have hf5 : Below w.heap.size w W5 := g1.grown hg5 g1.size (by intro k hk; cases hk; exact Nat.le_refl _)
      refine bodyPost_ret (results_blk_tmp rfl _ _ _ _ rfl hR5 Tryz.underlying61 rfl (by kernel_rfl)) rfl ⟨Or.inr ⟨HF.out, rfl⟩, hf5⟩
end Go.Proofs.YthenlopnlaiodaaGreatDoor
end
