/- Walk: List, the list in a row of its own (by gen_sa.py). Plain: what a find's train turns its hand by; ends that are reached; for GuessTrue. Walk: sized; the marks of ends that are reached. -/
import Derived.Test.YtfgghicdkcjdgaaGreatDoorMG5
import Derived.Test.YtfgghicdkcjdgaaGreatDoorMG19
import Derived.Test.YtfgghicdkcjdgaaGreatDoorMG25
import Derived.Test.YtfgghicdkcjdgaaGreatDoorMG8
import Derived.OwnWalk
import Derived.Laws.OwnMore
section
namespace Go.Proofs.YtfgghicdkcjdgaaGreatDoor
open Go.RowKit Go.Shelf

theorem OwnV.base {w : World} {b b' : Nat} {E : TypeId} {v : Value} {vs : List Value} (h : OwnV w b E v vs) (hb : b' ≤ b) : OwnV w b' E v vs := by
 refine ⟨h.1, ?_⟩
 rcases h.2 with h1 | ⟨g, cap, cur, h1, h2, h3⟩
 ·exact Or.inl h1
 ·exact Or.inr ⟨g, cap, cur, h1, Nat.le_trans hb h2, h3⟩
theorem OwnV.grownT {W W' : World} {base : Nat} {E : TypeId} {v : Value} {vs : List Value} {r : Option Nat} (h : OwnV W base E v vs) (hg : W.grownBy W' r) (hr : ∀ g, r = some g → ∀ cs fr, W.heap[g]? ≠ some (.cells cs E fr)) : OwnV W' base E v vs :=
 World.ownsRow.kept h hg (by
  cases hv : v.ownBlock with
  | none => exact Or.inl rfl
  | some g =>
   refine Or.inr (fun e => ?_)
   obtain ⟨cs, hh⟩ := h.cellsOf g hv
   exact hr g e.symm cs _ hh)
/-- trains in a row of their own -/
def LsO (W : World) (base : Nat) (L : Option Addr) (n lc : Nat) (ps : List (List Wh)) : Prop := ∃ vs, OwnV W base 26 (.slice L n lc) vs ∧ PsK W vs ps
theorem LsO.base {W : World} {b b' : Nat} {L : Option Addr} {n lc : Nat} {ps : List (List Wh)} (h : LsO W b L n lc ps) (hb : b' ≤ b) : LsO W b' L n lc ps := let ⟨vs, h1, h2⟩ := h; ⟨vs, h1.base hb, h2⟩
theorem LsO.keep {W W' : World} {b : Nat} {L : Option Addr} {n lc : Nat} {ps : List (List Wh)} (h : LsO W b L n lc ps) (hb : Below W.heap.size W W') : LsO W' b L n lc ps := let ⟨vs, h1, h2⟩ := h; ⟨vs, h1.keep hb, h2.below hb⟩
theorem LsO.at {W : World} {b : Nat} {L : Option Addr} {n lc : Nat} {ps : List (List Wh)} (h : LsO W b L n lc ps) : PsAt W L ps := let ⟨vs, h1, h2⟩ := h; ⟨vs, h1.rd, h2⟩
theorem LsO.set {w : World} {b : Nat} {L : Option Addr} {n lc g i : Nat} {ps : List (List Wh)} {t : TypeId} {cs : Array Value} (h : LsO w b L n lc ps) (hB : Blk w g t cs) (ht : t ≠ 98) (ht2 : t ≠ 26) (u : Value) : LsO (w.setCell ⟨g, i, none⟩ u) b L n lc ps := by
 obtain ⟨vs, h1, h2⟩ := h
 exact ⟨vs, h1.grownT (grown_set w ⟨g, i, none⟩ u) (blk_notT hB ht2), h2.grown (grown_set w ⟨g, i, none⟩ u) (blk_notT hB ht)⟩
def ListRo (b1 : Nat) (wE : World) (ts : List (List Int)) (w' : World) : Prop := ts.length ≤ 200 ∧ ∃ L lc w1, LsO w1 wE.heap.size L ts.length lc (ts.map pairsOf) ∧ Below wE.heap.size wE w1 ∧ w' = w1.setCell ⟨b1, 0, none⟩ (.slice L ts.length lc)
set_option maxRecDepth 100000 in
set_option maxHeartbeats 8000000 in
theorem trains_own (A N L : Option Addr) (nw wc nn nc lc : Nat) (ts : List (List Int)) (w : World) (hT : TsAt w L ts) (hn : ts.length ≤ 200) (hl : ∀ t ∈ ts, t.length ≤ 6) :
  Calls Tryz.prog 50 #[.agg #[.slice A nw wc, .slice N nn nc, .slice L ts.length lc]] w fun e w' => ∃ L lc, e = .returned (.slice L (ts.map pairsOf).length lc) ∧ LsO w' w.heap.size L (ts.map pairsOf).length lc (ts.map pairsOf) ∧ Below w.heap.size w w' := by
 have hd : decide ((200 : Int) < (ts.length : Int)) = false := decide_eq_false (by omega)
 have hb0 := fr_alloc (fr_refl w) (.cells #[.slice A nw wc, .slice N nn nc, .slice L ts.length lc] 93)
 replace hT := hT.keep hb0
 obtain ⟨m, hm⟩ : ∃ m, ts.length = m := ⟨_, rfl⟩
 have HM := Lib.hid hm
 rw [hm] at hd hb0 hT ⊢
 rw [hm] at hn
 clear hm
 go_enter Tryz.func50, Tryz.ntmps50
 go_wp2_with fail
 clear hd
 generalize w.alloc (.cells #[.slice A nw wc, .slice N nn nc, .slice L m lc] 93) = w1 at *
 go_loopw [3, 18] (fun v i wr => ∃ (k : Nat) (vs : List Value), k ≤ m ∧ i = .int .i64 k ∧ OwnV wr w1.heap.size 26 v vs ∧ PsK wr vs ((ts.take k).map pairsOf) ∧ Below w1.heap.size w1 wr) (fun _ i _ => m - (intOf i).toNat)
 case atStart => exact ⟨0, [], Nat.zero_le _, rfl, World.ownsRow_nil _ _ _ _, ⟨rfl, fun i p hp => by simp at hp⟩, fr_refl _⟩
 case round =>
  obtain ⟨k, vs, hk, rfl, hown, hps, hbel⟩ := hrel
  have hsz := hbel.size
  have hs0 := hb0.size
  have hvl : vs.length = k := by rw [hps.1, List.length_map, List.length_take, HM.out]; omega
  by_cases hlt : k < m
  ·have hkl : k < ts.length := by rw [HM.out]; exact hlt
   obtain ⟨ad, C, cc, rfl, hab, hcell, hrd⟩ := (hT.keep hbel).at_ hkl
   have htl := hl ts[k] (List.getElem_mem hkl)
   have htk : (ts.take (k + 1)).map pairsOf = (ts.take k).map pairsOf ++ [pairsOf ts[k]] := by rw [List.take_succ_eq_append_getElem hkl, List.map_append]; rfl
   have HTK := Lib.hid htk
   have HVL := Lib.hid hvl
   generalize ts[k] = t at *
   obtain ⟨tn, htn⟩ : ∃ tn, t.length = tn := ⟨_, rfl⟩
   rw [htn] at hcell hrd htl
   clear htk hvl hT htn
   go_wp2_with fail
   refine (train_any C tn cc t wr hrd (by omega)).mono ?_
   rintro e w2 ⟨A2, c2, rfl, hown2, hb2⟩
   have hown3 := hown.keep hb2
   have hps3 := hps.below hb2
   have hbel2 := fr_call hbel hb2
   clear hcell
   go_wp2_with (at_builtin; go_must (refine app_val rfl (.tmp 22) (.tmp 25) rfl Tryz.underlying30 info_pairs rfl (by omega) w1.heap.size _ vs (.slice A2 (pairsOf t).length c2) rfl rfl hown3 rfl (by have := HVL.out; omega) (by have := hb2.size; omega) ?_); intro L1 lc1 w3 hown4 hg4)
   have hps4 := (hps3.below (fr_alloc (fr_refl w2) (.cells #[.slice A2 (pairsOf t).length c2] 26))).grown hg4 ((hown3.alloc (.cells #[.slice A2 (pairsOf t).length c2] 26)).not_type (by decide))
   have hrp := ((RdP.of_own hown2).below (fr_alloc (fr_refl w2) (.cells #[.slice A2 (pairsOf t).length c2] 26))).grown hg4 ((hown3.alloc (.cells #[.slice A2 (pairsOf t).length c2] 26)).not_type (by decide))
   have hf4 : Below w1.heap.size w1 w3 := (fr_alloc hbel2 _).grown hg4 (by have := hbel2.size; simp; omega) hown3.ge
   go_roundw
   case rel => exact ⟨k + 1, vs ++ [.slice A2 (pairsOf t).length c2], hlt, by go_num, hown4, by rw [HTK.out]; exact hps4.snoc rfl hrp, hf4⟩
   case measure => simp [intOf]; omega
  ·obtain rfl : k = m := by omega
   have htk : (ts.take k).map pairsOf = ts.map pairsOf := by rw [List.take_of_length_le (by rw [HM.out]; exact Nat.le_refl _)]
   rw [htk] at hps
   obtain ⟨L1, lc1, rfl⟩ := hown.form
   have HPS := Lib.hid hps.1
   clear htk hvl
   go_wp2_with fail
   go_ret
   refine ⟨L1, lc1, congrArg (fun n => Ending.returned (.slice L1 n lc1)) HPS.out, ⟨vs, by rw [← HPS.out]; exact OwnV.base hown hb0.size, hps⟩, fr_call hb0 hbel⟩
set_option maxRecDepth 100000 in
set_option maxHeartbeats 8000000 in
theorem List1_own (A N : Option Addr) (wc nc b0 b1 : Nat) (ws : List Wh) (ns : List Note) (ts : List (List Int)) (hts : guessL ws ns = ts) (w : World) (hf : FindAt w A N ws ns) (hv : FindOk ws ns) (hB0 : Blk w b0 25 #[.slice A ws.length wc, .slice N ns.length nc]) (hB1 : Blk w b1 30 #[.slice none 0 0]) :
  Calls Tryz.prog 48 #[.pointer (some ⟨b0, 0, none⟩), .pointer (some ⟨b1, 0, none⟩)] w fun e w' =>
   (200 < ts.length ∧ e = .panicked (crowdV (ts.length : Int)) ∧ Below w.heap.size w w') ∨
   (ts.length ≤ 200 ∧ e = .returned (.tuple #[]) ∧ ∃ L lc w1, LsO w1 w.heap.size L ts.length lc (ts.map pairsOf) ∧ Below w.heap.size w w1 ∧ w' = w1.setCell ⟨b1, 0, none⟩ (.slice L ts.length lc)) := by
 have hc0 := fun j => hB0.cell j
 have hgl := guess_len hv
 rw [hts] at hgl
 have HTS := Lib.hid hts
 clear hts
 go_enter Tryz.func48, Tryz.ntmps48
 go_wp2_with fail
 refine (guess_any A N wc nc ws ns w hf hv).mono ?_
 rintro e w1 ⟨L, lc, rfl, hL, hb1⟩
 rw [HTS.out] at hL ⊢
 have hB2 := hB1.keep hb1
 by_cases h2 : 200 < ts.length
 ·clear hc0
  go_wp2_with fail
  refine (trains_long A N L ws.length wc ns.length nc ts.length lc w1 h2).mono ?_
  rintro e w2 ⟨rfl, hb2⟩
  go_wp2_with fail
  exact ⟨rfl, Or.inl ⟨h2, rfl, fr_call hb1 hb2⟩⟩
 ·clear hc0
  go_wp2_with fail
  refine (trains_own A N L ws.length wc ns.length nc lc ts w1 hL.ts (by omega) hgl).mono ?_
  rintro e w2 ⟨L2, lc2, rfl, hP, hb2⟩
  have hB3 := hB2.keep hb2
  have hc3 := hB3.cell 0
  have hf3 := hB3.frozen 0
  rw [List.length_map] at hP ⊢
  go_wp2_with fail
  go_end0
  refine Or.inr ⟨by omega, rfl, L2, lc2, w2, hP.base hb1.size, fr_call hb1 hb2, rfl⟩
set_option maxRecDepth 100000 in
set_option maxHeartbeats 8000000 in
theorem List_own (A N : Option Addr) (wc nc : Nat) (ws : List Wh) (ns : List Note) (ts : List (List Int)) (hts : guessL ws ns = ts) (w : World) (hf : FindAt w A N ws ns) (hv : FindOk ws ns) (hl : ¬ 200 < ts.length) :
  Calls Tryz.prog 9 #[.agg #[.slice A ws.length wc, .slice N ns.length nc]] w fun e w' => ∃ L lc, e = .returned (.tuple #[.slice L ts.length lc, .int .i64 0]) ∧ LsO w' w.heap.size L ts.length lc (ts.map pairsOf) ∧ Below w.heap.size w w' := by
 have hmf : ∀ (fn : Fn) (first cap : Array Value) (w : World), (Instr.makeFunc fn first cap).run Tryz.prog w = .ok (.func fn first cap) w := fun _ _ _ _ => rfl
 have hb0 := fr_alloc (fr_refl w) (.cells #[.slice A ws.length wc, .slice N ns.length nc] 25)
 have hX := Blk.new w 25 #[.slice A ws.length wc, .slice N ns.length nc]
 replace hf := hf.keep hb0
 have hs := hv.six
 have h8 := hv.eight
 have hlx := hX.lt
 have HTS := Lib.hid hts
 clear hts
 go_enter Tryz.func9, Tryz.ntmps9
 go_wp2_with fail
 refine (isFind_is A N wc nc ws ns _ hf (by omega) (by omega) hv.mo true hv.find).mono ?_
 rintro e w1 ⟨rfl, hb1⟩
 replace hX := hX.keep hb1
 replace hf := hf.keep hb1
 replace hb0 := fr_call hb0 hb1
 have hY := Blk.new w1 30 #[.slice none 0 0]
 have hbY := fr_alloc (fr_refl w1) (.cells #[.slice none 0 0] 30)
 replace hX := hX.keep hbY
 replace hf := hf.keep hbY
 replace hb0 := fr_call hb0 hbY
 have hsz := hb1.size
 go_wp2_with fail
 obtain ⟨w2, hw2⟩ : ∃ w2, w1.alloc (.cells #[.slice none 0 0] 30) = w2 := ⟨_, rfl⟩
 have hw2a : w1.heap.size < w2.heap.size := by rw [← hw2]; simp
 have hw2b : w2.heap.size ≤ w1.heap.size + 1 := by rw [← hw2]; simp
 rw [hw2] at hX hf hY hb0 hbY ⊢
 have hbE := fr_alloc (fr_refl w2) (.cells #[.int .i64 0] 31)
 have hE := Blk.new w2 31 #[.int .i64 0]
 have h1 := List1_own A N wc nc w.heap.size w1.heap.size ws ns ts HTS.out _ (hf.keep hbE) hv (hX.keep hbE) (hY.keep hbE)
 clear hw2
 refine (try_ok_List #[.pointer (some ⟨w.heap.size, 0, none⟩), .pointer (some ⟨w1.heap.size, 0, none⟩)] (ListRo w1.heap.size (w2.alloc (.cells #[.int .i64 0] 31)) ts) w2 ?_).mono ?_
 ·refine h1.mono ?_
  rintro e w' (⟨h3, _⟩ | ⟨h3, rfl, L, lc, w3, hP, hb, rfl⟩)
  ·exact absurd h3 hl
  ·have hE3 := hE.keep hb
   have hE4 := hE3.far (p := ⟨w1.heap.size, 0, none⟩) (show ¬ w2.heap.size = w1.heap.size by omega) (.slice L ts.length lc)
   exact ⟨rfl, ⟨h3, L, lc, w3, hP, hb, rfl⟩, hE4.cell 0, hE4.frozen 0⟩
 ·rintro e w'' ⟨rfl, w', ⟨h3, L, lc, w3, hP, hb, rfl⟩, rfl⟩
  have hY3 := (hY.keep hbE).keep hb
  have hE3 := hE.keep hb
  rw [World.size_alloc] at hP hb
  have hP4 := hP.set (i := 0) hY3 (by decide) (by decide) (.slice L ts.length lc)
  have hE4 := hE3.far (p := ⟨w1.heap.size, 0, none⟩) (show ¬ w2.heap.size = w1.heap.size by omega) (.slice L ts.length lc)
  have hP5 := hP4.set (i := 0) hE4 (by decide) (by decide) (.int .i64 0)
  have hY5 := (hY3.set_ 0 (.slice L ts.length lc)).far (p := ⟨w2.heap.size, 0, none⟩) (show ¬ w1.heap.size = w2.heap.size by omega) (.int .i64 0)
  have hbF : Below w1.heap.size w1 ((w3.setCell ⟨w1.heap.size, 0, none⟩ (.slice L ts.length lc)).setCell ⟨w2.heap.size, 0, none⟩ (.int .i64 0)) := by
   refine Below.setCell (p := ⟨w2.heap.size, 0, none⟩) ?_ (by show w1.heap.size ≤ w2.heap.size; omega) _
   refine Below.setCell (p := ⟨w1.heap.size, 0, none⟩) ?_ (Nat.le_refl _) _
   exact hbY.trans (hbE.trans (hb.mono (Nat.le_succ _)) |>.mono (by omega))
  have hb1w : Below w.heap.size w w1 := fr_call (fr_alloc (fr_refl w) _) hb1
  clear h1 hP hP4 hE3 hE4 hY3 hb
  generalize (w3.setCell ⟨w1.heap.size, 0, none⟩ (.slice L ts.length lc)).setCell ⟨w2.heap.size, 0, none⟩ (.int .i64 0) = w5 at *
  have hc5 : w5.cell? ⟨w1.heap.size, 0, none⟩ = some (.slice L ts.length lc) := hY5.cell 0
  go_wp2_with fail
  go_ret2
  exact ⟨L, lc, rfl, hP5.base (by have := hb1w.size; omega), fr_call hb1w hbF⟩
end Go.Proofs.YtfgghicdkcjdgaaGreatDoor
end

section
namespace Go.Proofs.YtfgghicdkcjdgaaGreatDoor

theorem prL_pow {xs : List Int} (h : ∀ x ∈ xs, 1 ≤ x ∧ x ≤ 60) : ∀ k, k ≤ xs.length → 1 ≤ prL xs k ∧ prL xs k ≤ 60 ^ k
 | 0, _ => by simp [prL]
 | k + 1, hk => by
  have h1 := prL_pow h k (by omega)
  have h2 : 1 ≤ xs[k]?.getD 0 ∧ xs[k]?.getD 0 ≤ 60 := by
   rw [List.getElem?_eq_getElem (show k < xs.length by omega)]
   exact h _ (List.getElem_mem _)
  have h3 := Int.mul_le_mul h1.1 h2.1 (by omega) (by omega)
  have h4 := Int.mul_le_mul h1.2 h2.2 (by omega) (by omega)
  rw [prL, Int.pow_succ]
  omega
theorem pow60 : ∀ k, k ≤ 3 → (60 : Int) ^ k ≤ 216000 := by decide
theorem pr_small {ps : List Wh} (h : TeethP ps) (hn : ps.length ≤ 3) : (1 ≤ prD ps ∧ prD ps ≤ 216000) ∧ 1 ≤ prV ps ∧ prV ps ≤ 216000 := by
 have a1 := prL_pow (xs := losOf ps) (fun x hx => by obtain ⟨p, hp, rfl⟩ := List.mem_map.1 hx; have := h p hp; omega) ps.length (by simp [losOf])
 have a2 := prL_pow (xs := hisOf ps) (fun x hx => by obtain ⟨p, hp, rfl⟩ := List.mem_map.1 hx; have := h p hp; omega) ps.length (by simp [hisOf])
 have a3 := pow60 ps.length hn
 unfold prD prV
 omega
/-- a fraction that a train can turn its hand by -/
def Sized (p : Int × Int) : Prop := (1 ≤ p.1 ∧ p.1 ≤ 216000) ∧ 1 ≤ p.2 ∧ p.2 ≤ 216000
theorem turn_sized {ps : List Wh} (h : TeethP ps) (hn : ps.length ≤ 3) : Sized ((turnD ps : Int), (turnV ps : Int)) := by
 obtain ⟨⟨d1, d2⟩, v1, v2⟩ := pr_small h hn
 have g1 : 0 < Nat.gcd (prD ps) (prV ps) := Nat.gcd_pos_of_pos_left _ (by omega)
 have e1 : 0 < turnD ps := Nat.div_pos (Nat.le_of_dvd (by omega) (Nat.gcd_dvd_left _ _)) g1
 have e2 : 0 < turnV ps := Nat.div_pos (Nat.le_of_dvd (by omega) (Nat.gcd_dvd_right _ _)) g1
 have e3 : turnD ps ≤ prD ps := Nat.div_le_self _ _
 have e4 : turnV ps ≤ prV ps := Nat.div_le_self _ _
 unfold Sized
 simp only
 omega
theorem above_iff {a b c d : Int} : aboveB a b c d = true ↔ c * b < a * d := by unfold aboveB; simp
theorem above_no {a b c d : Int} : aboveB a b c d = false ↔ a * d ≤ c * b := by unfold aboveB; simp
theorem high_anti (a b : Int × Int) (_ : Sized a) (_ : Sized b) (h : ltHigh a b = true) : ltHigh b a = false := by
 unfold ltHigh at h ⊢
 rw [above_iff] at h
 rw [above_no]
 omega
theorem le_trans3 {a1 a2 b1 b2 c1 c2 : Int} (ha : 1 ≤ a2) (hb : 1 ≤ b2) (hc : 1 ≤ c2) (h1 : a1 * b2 ≤ b1 * a2) (h2 : b1 * c2 ≤ c1 * b2) : a1 * c2 ≤ c1 * a2 := by
 have e1 := Int.mul_le_mul_of_nonneg_right h1 (show 0 ≤ c2 by omega)
 have e2 := Int.mul_le_mul_of_nonneg_right h2 (show 0 ≤ a2 by omega)
 have e3 : b1 * a2 * c2 = b1 * c2 * a2 := by rw [Int.mul_assoc, Int.mul_comm a2 c2, ← Int.mul_assoc]
 have e4 : a1 * b2 * c2 = a1 * c2 * b2 := by rw [Int.mul_assoc, Int.mul_comm b2 c2, ← Int.mul_assoc]
 have e5 : c1 * b2 * a2 = c1 * a2 * b2 := by rw [Int.mul_assoc, Int.mul_comm b2 a2, ← Int.mul_assoc]
 refine Int.le_of_mul_le_mul_right ?_ (show 0 < b2 by omega)
 omega
theorem high_neg (a b c : Int × Int) (ha : Sized a) (hb : Sized b) (hc : Sized c) (h1 : ltHigh a b = false) (h2 : ltHigh b c = false) : ltHigh a c = false := by
 unfold ltHigh at h1 h2 ⊢
 rw [above_no] at h1 h2 ⊢
 exact le_trans3 ha.2.1 hb.2.1 hc.2.1 h1 h2
theorem low_anti (a b : Int × Int) (ha : Sized a) (hb : Sized b) (h : ltLow a b = true) : ltLow b a = false := high_anti b a hb ha h
theorem low_neg (a b c : Int × Int) (ha : Sized a) (hb : Sized b) (hc : Sized c) (h1 : ltLow a b = false) (h2 : ltLow b c = false) : ltLow a c = false := high_neg c b a hc hb ha h2 h1
theorem frac_sized {t : List Int} (h : (2 ≤ t.length ∧ t.length ≤ 6) ∧ TeethOk t) : Sized (fracOf t) := turn_sized (pairs_teeth h.2) (by rw [pairs_len]; omega)
/-- both fractions: no guess's fraction is below the one or above the other; both are reached -/
theorem turns_law {ts : List (List Int)} (h : OkT ts) (h0 : ts ≠ []) : (Sized (lowOf ts) ∧ Sized (highOf ts)) ∧ (∀ t ∈ ts, aboveB (lowOf ts).1 (lowOf ts).2 (fracOf t).1 (fracOf t).2 = false ∧ aboveB (fracOf t).1 (fracOf t).2 (highOf ts).1 (highOf ts).2 = false) ∧
  (∃ t ∈ ts, fracOf t = lowOf ts) ∧ (∃ t ∈ ts, fracOf t = highOf ts) := by
 have hP : ∀ x ∈ ts.map fracOf, Sized x := fun x hx => by
  obtain ⟨t, ht, rfl⟩ := List.mem_map.1 hx
  exact frac_sized (h t ht)
 have hne : ts.map fracOf ≠ [] := fun e => h0 (List.map_eq_nil_iff.1 e)
 obtain ⟨a, a1, a2, a3⟩ := best_min Sized low_anti low_neg hP hne
 obtain ⟨b, b1, b2, b3⟩ := best_min Sized high_anti high_neg hP hne
 have ea : lowOf ts = a := by unfold lowOf; rw [a1]; rfl
 have eb : highOf ts = b := by unfold highOf; rw [b1]; rfl
 rw [ea, eb]
 refine ⟨⟨hP a a2, hP b b2⟩, fun t ht => ⟨a3 _ (List.mem_map.2 ⟨t, ht, rfl⟩), b3 _ (List.mem_map.2 ⟨t, ht, rfl⟩)⟩, ?_, ?_⟩
 ·obtain ⟨t, ht, e⟩ := List.mem_map.1 a2
  exact ⟨t, ht, e⟩
 ·obtain ⟨t, ht, e⟩ := List.mem_map.1 b2
  exact ⟨t, ht, e⟩
/-- the marks of the ends of wheels that some trains reach -/
def lowM (us : List (List Int)) (k : List Wh) (j : Nat) : Bool := us.any (fun t => t[j]?.getD 0 == (k[j]?.getD ⟨0, 0⟩).lo)
def highM (us : List (List Int)) (k : List Wh) (j : Nat) : Bool := us.any (fun t => t[j]?.getD 0 == (k[j]?.getD ⟨0, 0⟩).hi)
theorem known_at (ts : List (List Int)) {n j : Nat} (h : j < n) : (knownL ts n)[j]?.getD ⟨0, 0⟩ = spanK ts j ts.length := by
 unfold knownL
 rw [List.getElem?_map, List.getElem?_range h]
 rfl
theorem marks_law {ts us : List (List Int)} {n j : Nat} (h0 : ts ≠ []) (hu : ∀ t, t ∈ ts → t ∈ us) (h : j < n) : lowM us (knownL ts n) j = true ∧ highM us (knownL ts n) j = true := by
 obtain ⟨_, ⟨t, ht, e⟩, ⟨u, hu', f⟩⟩ := span_spec j h0
 unfold lowM highM
 rw [known_at ts h]
 exact ⟨List.any_eq_true.2 ⟨t, hu t ht, by rw [e]; exact beq_self_eq_true _⟩, List.any_eq_true.2 ⟨u, hu u hu', by rw [f]; exact beq_self_eq_true _⟩⟩
theorem known_in {ts : List (List Int)} {n j : Nat} (h0 : ts ≠ []) (h : j < n) {t : List Int} (ht : t ∈ ts) : ((knownL ts n)[j]?.getD ⟨0, 0⟩).lo ≤ t[j]?.getD 0 ∧ t[j]?.getD 0 ≤ ((knownL ts n)[j]?.getD ⟨0, 0⟩).hi := by
 rw [known_at ts h]
 exact (span_spec j h0).1 t ht
end Go.Proofs.YtfgghicdkcjdgaaGreatDoor
end

section
namespace Go.Proofs.YtfgghicdkcjdgaaGreatDoor
open Go.RowKit Go.Shelf

set_option maxHeartbeats 1000000 in
theorem sized_yes (x y : Int) (h : Sized (x, y)) (w : World) : Calls Tryz.prog 13 #[.agg #[.int .i64 x, .int .i64 y]] w fun e w' => e = .returned (.bool true) ∧ Below w.heap.size w w' := by
 obtain ⟨⟨h1, h2⟩, h3, h4⟩ := h
 simp only at h1 h2 h3 h4
 have hX := Blk.new w 40 #[.int .i64 x, .int .i64 y]
 have hb := fr_alloc (fr_refl w) (.cells #[.int .i64 x, .int .i64 y] 40)
 have hc := fun j => hX.cell j
 have d1 : decide ((1 : Int) ≤ x) = true := decide_eq_true h1
 have d2 : decide (x ≤ 216000) = true := decide_eq_true h2
 have d3 : decide ((1 : Int) ≤ y) = true := decide_eq_true h3
 have d4 : decide (y ≤ 216000) = true := decide_eq_true h4
 go_enter Tryz.func13, Tryz.ntmps13
 go_wp2_with fail
 go_ret
 exact ⟨ret_bool (by simp), hb⟩
/-- a row of truth values -/
def Ends (W : World) (g m : Nat) (E : Nat → Bool) : Prop := ∃ cs, Blk W g 4 cs ∧ ∀ j, j < m → cs[j]? = some (.bool (E j))
theorem Ends.keep {W W' : World} {g m : Nat} {E : Nat → Bool} (h : Ends W g m E) (hb : Below W.heap.size W W') : Ends W' g m E := let ⟨cs, h1, h2⟩ := h; ⟨cs, h1.keep hb, h2⟩
theorem Ends.lt {W : World} {g m : Nat} {E : Nat → Bool} (h : Ends W g m E) : g < W.heap.size := let ⟨_, h1, _⟩ := h; h1.lt
theorem Ends.cell {W : World} {g m : Nat} {E : Nat → Bool} (h : Ends W g m E) {j : Nat} (hj : j < m) : W.cell? ⟨g, j, none⟩ = some (.bool (E j)) := by
 obtain ⟨cs, h1, h2⟩ := h
 rw [h1.cell, h2 j hj]
theorem Ends.frozen {W : World} {g m : Nat} {E : Nat → Bool} (h : Ends W g m E) (j : Nat) : W.frozen? ⟨g, j, none⟩ = false := let ⟨_, h1, _⟩ := h; h1.frozen j
theorem Ends.set {W : World} {g m : Nat} {E : Nat → Bool} (h : Ends W g m E) {i : Nat} (hi : i < m) (a : Bool) : Ends (W.setCell ⟨g, i, none⟩ (.bool a)) g m (fun j => if j = i then a else E j) := by
 obtain ⟨cs, h1, h2⟩ := h
 refine ⟨_, h1.set_ i (.bool a), fun j hj => ?_⟩
 have hs : i < cs.size := by
  have := h2 i hi
  exact (Array.getElem?_eq_some_iff.1 this).1
 show _ = some (Value.bool (if j = i then a else E j))
 by_cases e : j = i
 ·subst e
  simp [hs]
 ·rw [if_neg e, ← h2 j hj]
  simp [Ne.symm e]
theorem Ends.congr {W : World} {g m : Nat} {E F : Nat → Bool} (h : Ends W g m E) (he : ∀ j, j < m → E j = F j) : Ends W g m F := let ⟨cs, h1, h2⟩ := h; ⟨cs, h1, fun j hj => by rw [h2 j hj, he j hj]⟩
theorem Ends.made {W : World} {base m c : Nat} {g : Nat} (h : W.ownsRow base 4 1 (.slice (some ⟨g, 0, none⟩) m c) m (List.replicate m (.bool false))) : Ends W g m (fun _ => false) := by
 rcases h.2 with ⟨h0, _⟩ | ⟨g', cap, cur, hv, _, hB, _, _, _, ht⟩
 ·cases h0
 ·injection hv with hA _ _
  cases hA
  refine ⟨cur, hB, fun j hj => ?_⟩
  have h1 : (cur.toList.take (m * 1))[j]? = some (.bool false) := by rw [ht, List.getElem?_replicate, if_pos hj]
  rw [List.getElem?_take, if_pos (by omega)] at h1
  simpa using h1
/- plain: which ends some trains reach -/
def mark (us : List (List Int)) (k : List Wh) (j : Nat) : Bool := if j % 2 = 0 then lowM us k (j / 2) else highM us k (j / 2)
def markP (us : List (List Int)) (t : List Int) (k : List Wh) (i j : Nat) : Bool := if j < 2 * i then mark (us ++ [t]) k j else mark us k j
theorem mark_nil (k : List Wh) (j : Nat) : mark [] k j = false := by unfold mark lowM highM; split <;> rfl
theorem mark_snoc (us : List (List Int)) (t : List Int) (k : List Wh) (j : Nat) : mark (us ++ [t]) k j = (mark us k j || (if j % 2 = 0 then t[j / 2]?.getD 0 == (k[j / 2]?.getD ⟨0, 0⟩).lo else t[j / 2]?.getD 0 == (k[j / 2]?.getD ⟨0, 0⟩).hi)) := by
 unfold mark lowM highM
 split <;> simp
theorem markP_zero (us : List (List Int)) (t : List Int) (k : List Wh) (j : Nat) : markP us t k 0 j = mark us k j := by unfold markP; rw [if_neg (by omega)]
theorem markP_all (us : List (List Int)) (t : List Int) (k : List Wh) {n j : Nat} (h : j < 2 * n) : markP us t k n j = mark (us ++ [t]) k j := by unfold markP; rw [if_pos h]
theorem markP_at (us : List (List Int)) (t : List Int) (k : List Wh) {i j : Nat} (h : 2 * i ≤ j) : markP us t k i j = mark us k j := by unfold markP; rw [if_neg (by omega)]
theorem markP_succ (us : List (List Int)) (t : List Int) (k : List Wh) (i j : Nat) : markP us t k (i + 1) j =
  (if j = 2 * i + 1 then (mark us k (2 * i + 1) || t[i]?.getD 0 == (k[i]?.getD ⟨0, 0⟩).hi) else if j = 2 * i then (mark us k (2 * i) || t[i]?.getD 0 == (k[i]?.getD ⟨0, 0⟩).lo) else markP us t k i j) := by
 by_cases h1 : j = 2 * i + 1
 ·subst h1
  rw [if_pos rfl, markP_all us t k (by omega), mark_snoc, if_neg (by omega), show (2 * i + 1) / 2 = i by omega]
 ·rw [if_neg h1]
  by_cases h2 : j = 2 * i
  ·subst h2
   rw [if_pos rfl, markP_all us t k (by omega), mark_snoc, if_pos (by omega), show 2 * i / 2 = i by omega]
  ·rw [if_neg h2]
   unfold markP
   by_cases h3 : j < 2 * i
   ·rw [if_pos (by omega), if_pos h3]
   ·rw [if_neg (by omega), if_neg h3]
/-- some train turns its hand by a fraction -/
def seenB (z : Int × Int) (us : List (List Wh)) : Bool := us.any (fun q => decide (fracOf (teethL q) = z))
theorem seen_snoc (z : Int × Int) (us : List (List Wh)) (q : List Wh) : seenB z (us ++ [q]) = (seenB z us || decide (fracOf (teethL q) = z)) := by unfold seenB; simp
end Go.Proofs.YtfgghicdkcjdgaaGreatDoor
end
