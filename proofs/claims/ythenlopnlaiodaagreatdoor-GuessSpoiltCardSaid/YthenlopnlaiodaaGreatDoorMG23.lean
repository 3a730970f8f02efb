/- Reference: what Read has come to, between two lines. Reference: Read (by gen_rread8.py). -/
import Derived.Test.YthenlopnlaiodaaGreatDoorMG22
import Derived.Test.YthenlopnlaiodaaGreatDoorMG20
import Derived.Test.YthenlopnlaiodaaGreatDoorMG18
section
namespace Go.Proofs.YthenlopnlaiodaaGreatDoor
open Go.RowKit Go.Shelf

/- plain: few lines give something -/
theorem pieces_sum (c : UInt8) (s : List UInt8) : ((pieces c s).map List.length).sum ≤ s.length := by
 induction s with
 | nil => simp [pieces]
 | cons x s ih =>
  have hf := pieces_form c s
  unfold pieces
  split
  ·simp only [List.map_cons, List.sum_cons, List.length_nil, List.length_cons]
   omega
  ·rw [hf] at ih
   simp only [List.map_cons, List.sum_cons, List.length_cons] at ih ⊢
   omega
theorem take_sum : ∀ (l : List Nat) (k : Nat), (l.take k).sum ≤ l.sum
 | [], k => by simp
 | x :: l, 0 => by simp
 | x :: l, k + 1 => by
  have := take_sum l k
  simp only [List.take_succ_cons, List.sum_cons]
  omega
theorem told_two {r : List UInt8} {x : List Int} (h : toldB r = some x) (h2 : 2 ≤ x.length) : 2 ≤ r.length := by
 have h3 := nums_len h
 rw [List.length_tail] at h3
 have := (pieces_len 32 r).2
 omega
theorem noteOf_two {w : List UInt8} {x : List Int} {n : Note} (h : noteOf w x = some n) : 2 ≤ x.length := by
 unfold noteOf at h
 split at h
 ·rename_i h1; omega
 split at h
 ·rename_i h1; omega
 split at h
 ·rename_i h1; omega
 split at h
 ·rename_i h1; omega
 split at h
 ·rename_i h1; omega
 ·cases h
theorem rstepG_grow {st st' : List Wh × List Note} {r : List UInt8} (h : rstepG st r = some st') : 2 * (st'.1.length + st'.2.length) ≤ 2 * (st.1.length + st.2.length) + r.length := by
 unfold rstepG at h
 cases ht : toldB r with
 | none => rw [ht] at h; cases h
 | some x =>
  rw [ht] at h
  simp only at h
  split at h
  ·rename_i n hn
   have := told_two ht (noteOf_two hn)
   cases h
   simp only [List.length_append, List.length_cons, List.length_nil]
   omega
  ·split at h
   ·rename_i hn
    have := told_two ht (by omega)
    cases h
    simp only [List.length_append, List.length_cons, List.length_nil]
    omega
   ·split at h
    ·cases h; omega
    ·cases h
theorem rgoG_grow : ∀ (R : List (List UInt8)) (st st' : List Wh × List Note), rgoG st R = some st' → 2 * (st'.1.length + st'.2.length) ≤ 2 * (st.1.length + st.2.length) + (R.map List.length).sum
 | [], st, st', h => by simp only [rgoG] at h; cases h; simp
 | r :: R, st, st', h => by
  simp only [rgoG] at h
  cases h1 : rstepG st r with
  | none => rw [h1] at h; cases h
  | some st1 =>
   rw [h1] at h
   have a := rstepG_grow h1
   have b := rgoG_grow R st1 st' h
   simp only [List.map_cons, List.sum_cons]
   omega
theorem rgoG_few {R : List (List UInt8)} {k : Nat} {st : List Wh × List Note} (hs : (R.map List.length).sum ≤ 600) (h : rgoG ([], []) (R.take k) = some st) : st.1.length + st.2.length ≤ 300 := by
 have h1 := rgoG_grow _ _ _ h
 have h2 := take_sum (R.map List.length) k
 rw [← List.map_take] at h2
 simp only [List.length_nil] at h1
 omega
theorem rgoG_snoc (R : List (List UInt8)) (r : List UInt8) (st : List Wh × List Note) : rgoG st (R ++ [r]) = match rgoG st R with | none => none | some st' => rstepG st' r := by
 rw [rgoG_app]
 cases rgoG st R with
 | none => rfl
 | some st' =>
  show rgoG st' [r] = rstepG st' r
  simp only [rgoG]
  cases rstepG st' r <;> rfl
theorem rgoG_stuck {R : List (List UInt8)} {k : Nat} {r : List UInt8} {st : List Wh × List Note} (hr : R[k]? = some r) (hk : rgoG ([], []) (R.take k) = some st) (hs : rstepG st r = none) : rgoG ([], []) R = none := by
 have hl : k < R.length := (List.getElem?_eq_some_iff.1 hr).1
 have he := (List.getElem?_eq_some_iff.1 hr).2
 have h1 : R = R.take (k + 1) ++ R.drop (k + 1) := (List.take_append_drop _ _).symm
 rw [h1, rgoG_app, List.take_succ_eq_append_getElem hl, he, rgoG_snoc, hk]
 simp only [hs]
theorem rgoG_next {R : List (List UInt8)} {k : Nat} {r : List UInt8} {st st' : List Wh × List Note} (hr : R[k]? = some r) (hk : rgoG ([], []) (R.take k) = some st) (hs : rstepG st r = some st') : rgoG ([], []) (R.take (k + 1)) = some st' := by
 have hl : k < R.length := (List.getElem?_eq_some_iff.1 hr).1
 have he := (List.getElem?_eq_some_iff.1 hr).2
 rw [List.take_succ_eq_append_getElem hl, he, rgoG_snoc, hk]
 exact hs
def readOfG (s : List UInt8) : Option (List Wh × List Note) → Option (List Wh × List Note)
 | none => none
 | some f => if findText f.1 f.2 = s then some f else none
theorem rreadG_of (s : List UInt8) : rreadG s = readOfG s (rgoG ([], []) ((pieces 10 s).take ((pieces 10 s).length - 2))) := by
 unfold rreadG readOfG
 rfl
theorem rstepG_t {st : List Wh × List Note} {r : List UInt8} (h : toldB r = none) : rstepG st r = none := by unfold rstepG; rw [h]
theorem rstepG_note {st : List Wh × List Note} {r : List UInt8} {x : List Int} {n : Note} (h : toldB r = some x) (hf : noteOf (headG r) x = some n) : rstepG st r = some (st.1, st.2 ++ [n]) := by
 unfold rstepG
 rw [h]
 simp only [hf]
theorem rstepG_wh {st : List Wh × List Note} {r : List UInt8} {x : List Int} (h : toldB r = some x) (hf : noteOf (headG r) x = none) (hw : headG r = wordG 1) (hx : x.length = 2) : rstepG st r = some (st.1 ++ [⟨x[0]?.getD 0, x[1]?.getD 0⟩], st.2) := by
 unfold rstepG
 rw [h]
 simp only [hf]
 rw [if_pos ⟨hw, hx⟩]
theorem rstepG_find {st : List Wh × List Note} {r : List UInt8} {x : List Int} (h : toldB r = some x) (hf : noteOf (headG r) x = none) (hw : headG r = wordG 0) (hx : x.length = 1) : rstepG st r = some st := by
 unfold rstepG
 rw [h]
 simp only [hf]
 rw [if_neg (fun e => absurd (hw.symm.trans e.1) (by decide)), if_pos ⟨hw, hx⟩]
theorem rstepG_no {st : List Wh × List Note} {r : List UInt8} {x : List Int} (h : toldB r = some x) (hf : noteOf (headG r) x = none) (h0 : ¬ (headG r = wordG 1 ∧ x.length = 2)) (h1 : ¬ (headG r = wordG 0 ∧ x.length = 1)) : rstepG st r = none := by
 unfold rstepG
 rw [h]
 simp only [hf]
 rw [if_neg h0, if_neg h1]

theorem TagS.grown {W W' : World} {A : Option Addr} {g : Option Nat} (h : TagS W A) (hg : W.grownBy W' g) (hne : ∀ ad, A = some ad → some ad.block ≠ g) : TagS W' A := fun ad e => by
 obtain ⟨cur, hB⟩ := h ad e
 exact ⟨cur, hB.grown hg (hne ad e)⟩
theorem TagS.keep {W W' : World} {A : Option Addr} (h : TagS W A) (hb : Below W.heap.size W W') : TagS W' A := fun ad e => by
 obtain ⟨cur, hB⟩ := h ad e
 exact ⟨cur, hB.keep hb⟩
theorem TagS.ne {W : World} {A : Option Addr} {g : Nat} {t : TypeId} {cs : Array Value} (h : TagS W A) (hB : Blk W g t cs) (ht : (9 : TypeId) ≠ t) : ∀ ad, A = some ad → some ad.block ≠ some g := fun ad e h' => by
 obtain ⟨cur, hA⟩ := h ad e
 exact hA.ne_ hB ht (by injection h')
theorem TagS.neO {W : World} {A : Option Addr} {base k : Nat} {E : TypeId} {v : Value} {rows : List (List Value)} (hT : TagS W A) (h : OwnS W base E k v rows) (ht : E ≠ (9 : TypeId)) : ∀ ad, A = some ad → some ad.block ≠ v.ownBlock := fun ad e h' => by
 obtain ⟨cur, hB⟩ := hT ad e
 exact ownS_not h hB ht.symm h'
theorem RdT.farO {w w' : World} {A : Option Addr} {n : Nat} {ps : List (List UInt8)} {g : Option Nat} (h : RdT w A n ps) (hg : w.grownBy w' g) (hne : ∀ ad, A = some ad → some ad.block ≠ g) : RdT w' A n ps :=
 ⟨h.1, fun j p hp => by
  obtain ⟨ad, e, hlt, hc⟩ := h.2 j p hp
  exact ⟨ad, e, Nat.lt_of_lt_of_le hlt hg.size, (World.cell?_of_block (hg.block _ (by rw [block_of_add]; exact hlt) (by rw [block_of_add]; exact hne ad e))).trans hc⟩⟩
/-- what holds between two lines -/
structure RInv (w : World) (R : List (List UInt8)) (i : Nat) (L : Option Addr) (n : Nat) (P : List (List UInt8)) (st : List Wh × List Note) (vW vN : Value) (W : World) : Prop where
 go : rgoG ([], []) (R.take i) = some st
 z : Blk W w.heap.size 25 #[.slice none 0 0, .slice none 0 0]
 f : Blk W (w.heap.size + 1) 25 #[vW, vN]
 ww : OwnS W (w.heap.size + 1 + 1) 47 2 vW (st.1.map Wh.cells)
 nn : OwnS W (w.heap.size + 1 + 1) 61 9 vN (st.2.map Note.cells)
 t : RdT W L n P
 tg : TagS W L
 bel : Below w.heap.size w W
theorem RInv.below {w W W' : World} {i n : Nat} {L : Option Addr} {R P : List (List UInt8)} {st : List Wh × List Note} {vW vN : Value} (h : RInv w R i L n P st vW vN W) (hb : Below W.heap.size W W') : RInv w R i L n P st vW vN W' :=
 ⟨h.go, h.z.keep hb, h.f.keep hb, h.ww.keep hb, h.nn.keep hb, h.t.keep hb, h.tg.keep hb, fr_call h.bel hb⟩
theorem RInv.step {w W : World} {i n : Nat} {L : Option Addr} {R P : List (List UInt8)} {st : List Wh × List Note} {vW vN : Value} {r : List UInt8} (h : RInv w R i L n P st vW vN W) (hr : R[i]? = some r) (hgs : rstepG st r = some st) : RInv w R (i + 1) L n P st vW vN W :=
 ⟨rgoG_next hr h.go hgs, h.z, h.f, h.ww, h.nn, h.t, h.tg, h.bel⟩
theorem RInv.addN {w W W' : World} {i n m c : Nat} {L : Option Addr} {R P : List (List UInt8)} {st : List Wh × List Note} {vW vN : Value} {x : Note} {r : List UInt8} {A : Option Addr} (h : RInv w R i L n P st vW vN W) (hr : R[i]? = some r) (hgs : rstepG st r = some (st.1, st.2 ++ [x]))
  (hown : OwnS W' (w.heap.size + 1 + 1) 61 9 (.slice A m c) (st.2.map Note.cells ++ [x.cells])) (hg : W.grownBy W' vN.ownBlock) :
  RInv w R (i + 1) L n P (st.1, st.2 ++ [x]) vW (.slice A m c) (W'.setCell ⟨w.heap.size + 1, 1, none⟩ (.slice A m c)) := by
 have hF := h.f.grown hg (ownS_not h.nn h.f (by decide))
 have hZ := h.z.grown hg (ownS_not h.nn h.z (by decide))
 have hs := grown_set W' ⟨w.heap.size + 1, 1, none⟩ (.slice A m c)
 have ht := h.t.farO hg (h.tg.neO h.nn (by decide))
 have htg := h.tg.grown hg (h.tg.neO h.nn (by decide))
 refine ⟨rgoG_next hr h.go hgs, hZ.grown hs (by simp), hF.set_ 1 _, (h.ww.grownT hg (h.nn.notT (by decide))).grownT hs (blk_notT hF (by decide)), ?_, ht.farO hs (htg.ne hF (by decide)), htg.grown hs (htg.ne hF (by decide)), ?_⟩
 ·rw [List.map_append]
  exact hown.grownT hs (blk_notT hF (by decide))
 ·have h1 := h.bel.grown hg h.bel.size (fun k hk => by have := h.nn.ge k hk; omega)
  exact h1.grown hs h1.size (by intro k hk; cases hk; exact Nat.le_succ _)
theorem RInv.addW {w W W' : World} {i n m c : Nat} {L : Option Addr} {R P : List (List UInt8)} {st : List Wh × List Note} {vW vN : Value} {x : Wh} {r : List UInt8} {A : Option Addr} (h : RInv w R i L n P st vW vN W) (hr : R[i]? = some r) (hgs : rstepG st r = some (st.1 ++ [x], st.2))
  (hown : OwnS W' (w.heap.size + 1 + 1) 47 2 (.slice A m c) (st.1.map Wh.cells ++ [x.cells])) (hg : W.grownBy W' vW.ownBlock) :
  RInv w R (i + 1) L n P (st.1 ++ [x], st.2) (.slice A m c) vN (W'.setCell ⟨w.heap.size + 1, 0, none⟩ (.slice A m c)) := by
 have hF := h.f.grown hg (ownS_not h.ww h.f (by decide))
 have hZ := h.z.grown hg (ownS_not h.ww h.z (by decide))
 have hs := grown_set W' ⟨w.heap.size + 1, 0, none⟩ (.slice A m c)
 have ht := h.t.farO hg (h.tg.neO h.ww (by decide))
 have htg := h.tg.grown hg (h.tg.neO h.ww (by decide))
 refine ⟨rgoG_next hr h.go hgs, hZ.grown hs (by simp), hF.set_ 0 _, ?_, (h.nn.grownT hg (h.ww.notT (by decide))).grownT hs (blk_notT hF (by decide)), ht.farO hs (htg.ne hF (by decide)), htg.grown hs (htg.ne hF (by decide)), ?_⟩
 ·rw [List.map_append]
  exact hown.grownT hs (blk_notT hF (by decide))
 ·have h1 := h.bel.grown hg h.bel.size (fun k hk => by have := h.ww.ge k hk; omega)
  exact h1.grown hs h1.size (by intro k hk; cases hk; exact Nat.le_succ _)
/-- what Read returns where a text does not have its form -/
def readNo : Ending := .returned (.tuple #[.agg #[.slice none 0 0, .slice none 0 0], .bool false])
def RRead8 (s : List UInt8) (w : World) (e : Ending) (w' : World) : Prop :=
 Below w.heap.size w w' ∧ ((rreadG s = none ∧ e = readNo) ∨
  (∃ (ws : List Wh) (ns : List Note) (A N : Option Addr) (wc nc : Nat), rreadG s = some (ws, ns) ∧ e = .returned (.tuple #[.agg #[.slice A ws.length wc, .slice N ns.length nc], .bool true]) ∧ FindAt w' A N ws ns))
end Go.Proofs.YthenlopnlaiodaaGreatDoor
end

section
namespace Go.Proofs.YthenlopnlaiodaaGreatDoor
open Go.RowKit Go.Shelf

set_option maxRecDepth 100000 in
set_option maxHeartbeats 16000000 in
theorem rRead8_any (s : List UInt8) (w : World) (hs : s.length ≤ 600) :
  Calls Tryz.prog 38 #[.string ⟨s.toArray⟩] w fun e w' => RRead8 s w e w' := by
 have hpl := pieces_len 10 s
 have hps := pieces_small 10 s
 have hsum := pieces_sum 10 s
 have g2 := fr_alloc (fr_alloc (fr_refl w) (.cells #[.slice none 0 0, .slice none 0 0] 25)) (.cells #[.slice none 0 0, .slice none 0 0] 25)
 have hZ0 : Blk ((w.alloc (.cells #[.slice none 0 0, .slice none 0 0] 25)).alloc (.cells #[.slice none 0 0, .slice none 0 0] 25)) w.heap.size 25 #[.slice none 0 0, .slice none 0 0] := (Blk.new w _ _).alloc _
 have hF0 : Blk ((w.alloc (.cells #[.slice none 0 0, .slice none 0 0] 25)).alloc (.cells #[.slice none 0 0, .slice none 0 0] 25)) (w.heap.size + 1) 25 #[.slice none 0 0, .slice none 0 0] := Blk.new_at _ _ (by simp)
 have hsp := fun W => rsplit_is 10 s W (by omega)
 obtain ⟨P, gP⟩ : ∃ P, pieces 10 s = P := ⟨_, rfl⟩
 rw [gP] at hpl hps hsum
 simp only [gP] at hsp
 have HRR := Lib.hid (show rreadG s = readOfG s (rgoG ([], []) (P.take (P.length - 2))) by rw [rreadG_of, gP])
 have HPS := Lib.hid hps
 clear gP hps
 go_enter Tryz.func38, Tryz.ntmps38
 go_wp2_with fail
 refine (hsp _).mono ?_
 clear hsp
 rintro e' w1 ⟨A0, cap0, rfl, hT1, hTs1, hb1⟩
 obtain ⟨R, gR⟩ : ∃ R, P.take (P.length - 2) = R := ⟨_, rfl⟩
 have HRl := Lib.hid (show R.length = P.length - 2 by rw [← gR, List.length_take]; omega)
 have HRg := Lib.hid (fun j (hj : j < P.length - 2) => (show R[j]? = P[j]? by rw [← gR, List.getElem?_take, if_pos hj]))
 have HSU := Lib.hid (show (R.map List.length).sum ≤ 600 by rw [← gR, List.map_take]; exact Nat.le_trans (take_sum _ _) (Nat.le_trans hsum hs))
 rw [gR] at HRR
 clear gR hsum
 generalize hn : P.length = n at *
 have HN := Lib.hid hn
 clear hn
 have hI0 : RInv w R 0 A0 n P ([], []) (.slice none 0 0) (.slice none 0 0) w1 := ⟨rfl, hZ0.keep hb1, hF0.keep hb1, OwnS.nil _ _ _ _, OwnS.nil _ _ _ _, hT1, hTs1, fr_call g2 hb1⟩
 clear hZ0 hF0 hb1 g2 hT1 hTs1
 go_wp2_with fail
 go_loopw [6] (fun i wx => ∃ (k : Nat) (st : List Wh × List Note) (vW vN : Value), k ≤ n - 2 ∧ i = .int .i64 k ∧ RInv w R k A0 n P st vW vN wx) (fun i _ => n - 2 - (intOf i).toNat)
 case atStart => exact ⟨0, _, _, _, Nat.zero_le _, rfl, hI0⟩
 case round =>
  clear hI0
  obtain ⟨k, st, vW, vN, hk, rfl, hI⟩ := hrel
  have HGO := Lib.hid hI.go
  have hfew := rgoG_few HSU.out HGO.out
  by_cases hlt : k < n - 2
  ·have hki : (k : Int) < (n : Int) - 2 := by omega
   have hkd : decide ((k : Int) < (n : Int) - 2) = true := decide_eq_true hki
   have hkn : k < n := by omega
   have hkni : (k : Int) < (n : Int) := by omega
   have hk0 : (0 : Int) ≤ (k : Int) := Int.natCast_nonneg k
   obtain ⟨r, hr⟩ : ∃ r, P[k]? = some r := ⟨_, List.getElem?_eq_getElem (by have := HN.out; omega)⟩
   obtain ⟨ad, rfl, hab, hcr⟩ := hI.t.2 k r hr
   have hlr : r.length ≤ 600 := Nat.le_trans (HPS.out r (List.mem_of_getElem? hr)) hs
   have HRK := Lib.hid (show R[k]? = some r by rw [HRg.out k hlt]; exact hr)
   unfold strV at hcr
   clear hr
   have hpl2 := pieces_len 32 r
   have hps2 := pieces_small 32 r
   have hpf2 := pieces_form 32 r
   have hsp := fun W => rsplit_is 32 r W (by omega)
   obtain ⟨Q, gQ⟩ : ∃ Q, pieces 32 r = Q := ⟨_, rfl⟩
   rw [gQ] at hpl2 hps2
   simp only [gQ] at hsp
   obtain ⟨hd, ws, hQ⟩ : ∃ hd ws, Q = hd :: ws := ⟨_, _, by rw [← gQ]; exact hpf2⟩
   have HTO := Lib.hid (show toldB r = nums ws by unfold toldB; rw [gQ, hQ]; rfl)
   have HHD := Lib.hid (show headG r = hd by unfold headG; rw [gQ, hQ]; rfl)
   have HPS2 := Lib.hid hps2
   clear gQ hps2 hpf2
   go_wp2_with fail
   refine (hsp _).mono ?_
   clear hsp
   rintro e' w2 ⟨A2, cap2, rfl, hT2, _, hb2⟩
   have hI2 := hI.below hb2
   generalize hq : Q.length = q at *
   have HQL := Lib.hid hq
   clear hq hI hb2 hcr hab
   have HQ := Lib.hid hQ
   clear hQ
   go_wp2_with fail
   obtain ⟨wo, rfl⟩ : ∃ wo : World, wo = wr := ⟨_, rfl⟩
   go_loopw [8, 9] (fun xv jv wx => ∃ (j : Nat) (xs : List Int), 1 ≤ j ∧ j ≤ q ∧ jv = .int .i64 j ∧ nums (ws.take (j - 1)) = some xs ∧ Own wx w2.heap.size xv xs ∧ Below w2.heap.size w2 wx) (fun _ jv _ => q - (intOf jv).toNat)
   case atStart => exact ⟨1, [], Nat.le_refl _, hpl2.1, rfl, rfl, Own.nil _ _, fr_refl _⟩
   case round =>
    obtain ⟨j, xs, hj1, hjq, rfl, hnum, hown, hbx⟩ := hrel
    have hxl : xs.length = j - 1 := by rw [nums_len hnum, List.length_take]; have := HQL.out; rw [HQ.out, List.length_cons] at this; omega
    obtain ⟨B, b, rfl⟩ := hown.form
    have HXL := Lib.hid hxl
    have HNU := Lib.hid hnum
    clear hnum hxl
    by_cases hltj : j < q
    ·obtain ⟨wd, hwd⟩ : ∃ wd, Q[j]? = some wd := ⟨_, List.getElem?_eq_getElem (by have := HQL.out; omega)⟩
     obtain ⟨ad, rfl, hab, hcw⟩ := (hT2.keep hbx).2 j wd hwd
     have hwl : wd.length ≤ 600 := Nat.le_trans (HPS2.out wd (List.mem_of_getElem? hwd)) hlr
     have hw1 : ws[j - 1]? = some wd := by
      rw [HQ.out] at hwd
      obtain ⟨i, rfl⟩ : ∃ i, j = i + 1 := ⟨j - 1, by omega⟩
      rw [List.getElem?_cons_succ] at hwd
      exact hwd
     have HW := Lib.hid hw1
     unfold strV at hcw
     have hji : (j : Int) < (q : Int) := by omega
     have hj0 : (0 : Int) ≤ (j : Int) := Int.natCast_nonneg j
     clear hwd hw1
     go_wp2_with fail
     refine (rnumber_is wd _ (by omega)).mono ?_
     rintro e' w3 ⟨rfl, hb3⟩
     have hI3 := (hI2.below hbx).below hb3
     have hown3 := hown.keep hb3
     have hbx3 := fr_call hbx hb3
     cases hN : numB wd with
     | none =>
      have HN2 := Lib.hid hN
      simp only [Option.getD_none]
      clear hab hcw hN
      have HNO := Lib.hid (show rreadG s = none by rw [HRR.out, rgoG_stuck HRK.out HGO.out (rstepG_t (by rw [HTO.out]; exact nums_fail HW.out HN2.out))]; rfl)
      have hZ3 := hI3.z
      have hf3 := hI3.bel
      go_wp2_with (refine wpList_store_blk rfl _ _ _ rfl w.heap.size 25 _ _ rfl rfl hZ3 rfl (by kernel_rfl) (by simp [Value.oneCell']) ?_; intro Wa hCa hga)
      have hf7 : Below w.heap.size w Wa := hf3.grown hga hf3.size (by intro k hk; cases hk; exact Nat.le_refl _)
      refine bodyPost_ret (results_blk_tmp rfl _ _ _ _ rfl hCa Tryz.underlying25 rfl (by kernel_rfl)) rfl ⟨hf7, Or.inl ⟨HNO.out, rfl⟩⟩
     | some v =>
      have hv := numB_some hN
      obtain ⟨hv1, hv2⟩ := hv.1
      have hvn : ¬ v < 0 := by omega
      have hvd : decide (v < 0) = false := decide_eq_false hvn
      have HN2 := Lib.hid hN
      simp only [Option.getD_some]
      clear hv hN hab hcw
      go_wp2_with (at_builtin; refine app_int rfl (.tmp 41) (.tmp 43) rfl w2.heap.size _ xs rfl rfl hown3 (by have := HXL.out; omega) hbx3.size ?_; intro B2 cap3 wC hown' hg)
      have ha := fr_alloc (fr_refl w3) (.cells #[.int .i64 v] 3)
      have hge := own_ge hown3
      refine ⟨⟨j + 1, xs ++ [v], by omega, by omega, by go_num, ?_, hown', (fr_call hbx3 ha).grown hg (fr_call hbx3 ha).size hge⟩, ?_⟩
      ·have hw := (List.getElem?_eq_some_iff.1 HW.out).2
       have hjl := (List.getElem?_eq_some_iff.1 HW.out).1
       rw [show j + 1 - 1 = (j - 1) + 1 by omega, List.take_succ_eq_append_getElem hjl, hw, nums_snoc, HNU.out, HN2.out]
      ·simp [intOf]; omega
    ·obtain rfl : j = q := by omega
     have hwsl : ws.length = j - 1 := by have := HQL.out; rw [HQ.out, List.length_cons] at this; omega
     have hfin := HNU.out
     rw [List.take_of_length_le (by omega)] at hfin
     have HT := Lib.hid (HTO.out.trans hfin)
     have hQ0 : Q[0]? = some hd := by rw [HQ.out]; rfl
     obtain ⟨ad, rfl, hab, hcw⟩ := (hT2.keep hbx).2 0 hd hQ0
     have hhl : hd.length ≤ 600 := Nat.le_trans (HPS2.out hd (List.mem_of_getElem? hQ0)) hlr
     rw [show ad.add 0 = ad by unfold Addr.add; simp] at hcw
     unfold strV at hcw
     have hI3 := hI2.below hbx
     have hrX := hown.rd
     have hvlt : ∀ k, vW.ownBlock = some k → k < w2.heap.size := fun k hk => (World.ownsRow.lt hI2.ww.1 k hk).2
     have hxge : ∀ ae, B = some ae → w2.heap.size ≤ ae.block := fun ae e => own_ge hown ae.block (by rw [e]; rfl)
     have hbs : w.heap.size + 1 < w2.heap.size := hI2.f.lt
     have hxs : xs.length ≤ 600 := by have := HXL.out; omega
     clear hfin hQ0 hwsl hown hbx
     generalize hnx : xs.length = nx at *
     have HNX := Lib.hid hnx
     clear hnx
     go_wp2_with fail
     refine (rnote_any hd B b nx xs _ hrX (by omega)).mono ?_
     rintro e' w3 ⟨hff, hb3⟩
     have hI4 := hI3.below hb3
     have hrX3 := hrX.keep hb3
     have hcw3 := (hb3.cell hab).trans hcw
     have hab3 := Nat.lt_of_lt_of_le hab hb3.size
     have hb34 : ∀ w4, (w3.alloc (.cells #[.int .i64 0, .int .i64 0, .int .i64 0, .int .i64 0, .int .i64 0, .int .i64 0, .int .i64 0, .int .i64 0, .int .i64 0] 61)).grownBy w4 (some w3.heap.size) → Below w3.heap.size w3 w4 := fun w4 hg => (fr_alloc (fr_refl w3) _).grown hg (fr_alloc (fr_refl w3) _).size (by intro k hk; cases hk; exact Nat.le_refl _)
     clear hI3 hrX hcw hab hI2 hb3
     unfold noteV at hff
     rcases hff with ⟨⟨nk, na, nb, nlo, nhi, nln, nld, nmn, nmd⟩, hf, rfl⟩ | ⟨hf, rfl⟩
     ·have HST := Lib.hid (rstepG_note (st := st) HT.out (by rw [HHD.out]; exact hf))
      have hll : (st.2.map Note.cells).length < 1000000 := by rw [List.length_map]; omega
      clear hf
      simp only
      go_upto_region 17 with ((refine wpList_store_blk rfl _ _ _ rfl w3.heap.size 61 _ _ rfl rfl (Blk.new w3 _ _) rfl (by kernel_rfl) (by simp [Value.oneCell']) ?_; intro w4 hF4 hg4; have hI5 := hI4.below (hb34 w4 hg4); have hrX5 := hrX3.keep (hb34 w4 hg4); have hcw5 := ((hb34 w4 hg4).cell hab3).trans hcw3; have hab5 := Nat.lt_of_lt_of_le hab3 (hb34 w4 hg4).size))
      have hI6 := hI5.below (fr_alloc (fr_refl w4) (.cells #[.int .i64 nk, .int .i64 na, .int .i64 nb, .int .i64 nlo, .int .i64 nhi, .int .i64 nln, .int .i64 nld, .int .i64 nmn, .int .i64 nmd] 61))
      have hown8 := hI5.nn
      have hsz8 : w.heap.size + 1 + 1 ≤ w4.heap.size := hI5.f.lt
      have hc1 := hI5.f
      have hcf := fun j => hc1.cell j
      have hcx := fun j => hF4.cell j
      clear hrX5 hcw5 hab5
      go_wp2_with (at_builtin; go_must (refine app_row rfl (.tmp 55) (.tmp 57) rfl Tryz.underlying23 info_noteG rfl (by decide) (by decide) (w.heap.size + 1 + 1) vN _ rfl rfl hown8 rfl (by simp [Value.oneCell']) hll hsz8 ?_); intro B0 cap0 wy hown9 hg9; have hF9 := hI6.f.grown hg9 (ownS_not hI6.nn hI6.f (by decide)); clear hcf hcx; have hcf := fun j => hF9.cell j; have hff := fun j => hF9.frozen j)
      rw [List.length_map] at hown9
      refine ⟨⟨k + 1, _, _, _, by omega, by go_num, hI6.addN HRK.out HST.out hown9 hg9⟩, ?_⟩
      simp [intOf]; omega
     ·simp only
      by_cases hw1 : hd = [119, 104, 101, 101, 108]
      ·subst hw1
       by_cases hn2 : nx = 2
       ·subst hn2
        have HST := Lib.hid (rstepG_wh (st := st) HT.out (by rw [HHD.out]; exact hf) HHD.out HNX.out)
        have hll : (st.1.map Wh.cells).length < 1000000 := by rw [List.length_map]; omega
        clear hf
        go_upto_region 19 with ((refine wpList_store_blk rfl _ _ _ rfl w3.heap.size 61 _ _ rfl rfl (Blk.new w3 _ _) rfl (by kernel_rfl) (by simp [Value.oneCell']) ?_; intro w4 hF4 hg4; have hI5 := hI4.below (hb34 w4 hg4); have hrX5 := hrX3.keep (hb34 w4 hg4); have hcw5 := ((hb34 w4 hg4).cell hab3).trans hcw3; have hab5 := Nat.lt_of_lt_of_le hab3 (hb34 w4 hg4).size))
        obtain ⟨ae, rfl, hae, hc0⟩ := hrX5.at_ (show 0 < 2 by omega)
        obtain ⟨ae1, e1, _, hc1⟩ := hrX5.at_ (show 1 < 2 by omega)
        obtain rfl : ae = ae1 := by injection e1
        generalize xs[0]?.getD 0 = x at *
        generalize xs[1]?.getD 0 = y at *
        rw [show ae.add 0 = ae from rfl] at hc0
        have hc1' := hc1
        rw [show ae.add 1 = ⟨ae.block, ae.off + 1, none⟩ by unfold Addr.add; simp] at hc1'
        have hi0 : (0 : Int) < 2 := by omega
        have hi1 : (1 : Int) < 2 := by omega
        have haege := hxge ae rfl
        have haene : ¬ ae.block = w.heap.size + 1 := by omega
        have hIz := hI5.below (fr_drew (fr_refl _))
        have hst1 : st.1.length ≤ 1000 := by omega
        clear e1 hrX5 hcw5 hab5 hI4 hI5 hrX3 hcw3 hab3
        refine wp_region_noPanic ?_
        refine wp_region_held_drew (S := fun W => W.cell? ae = some (.int .i64 x) ∧ W.cell? ⟨ae.block, ae.off + 1, none⟩ = some (.int .i64 y)) (by kernel_rfl) ⟨hc0, hc1'⟩ (fun hHeld => ?_)
        generalize w4.drew = wz at hIz hHeld ⊢
        clear hc0 hc1 hc1'
        -- the region, step by step, in whatever order
        refine wpAnyH_take (i := 0) (oi := ⟨some 69, .fieldAddr 25 (.tmp 4) 0, 0, "ref.go:475", #[], none⟩) (v := ?_) rfl (by kernel_rfl) (by kernel_rfl) (by kernel_rfl) (fun _ _ _ h => h) (Or.inl ⟨by rfl, fun W hSw => ?_⟩) hHeld ?_
        rotate_left
        ·(try dsimp only at hSw); go_simp; (try with_reducible rfl)
        (try simp only [Act.put, List.setIfInBounds_toArray, List.set_cons_zero, List.set_cons_succ])
        refine wpAnyH_take (i := 2) (oi := ⟨some 71, .move (.tmp 8), 34, "ref.go:475", #[], none⟩) (v := ?_) rfl (by kernel_rfl) (by kernel_rfl) (by kernel_rfl) (fun _ _ _ h => h) (Or.inl ⟨by rfl, fun W hSw => ?_⟩) hHeld ?_
        rotate_left
        ·(try dsimp only at hSw); go_simp; (try with_reducible rfl)
        (try simp only [Act.put, List.setIfInBounds_toArray, List.set_cons_zero, List.set_cons_succ])
        refine wpAnyH_take (i := 3) (oi := ⟨some 72, .indexAddr 34 (.tmp 71) (.const (.int .i64 0)), 0, "ref.go:475", #[⟨2, .data⟩], none⟩) (v := ?_) rfl (by kernel_rfl) (by kernel_rfl) (by kernel_rfl) (fun _ _ _ h => h) (Or.inl ⟨by rfl, fun W hSw => ?_⟩) hHeld ?_
        rotate_left
        ·(try dsimp only at hSw); go_simp; (try with_reducible rfl)
        (try simp only [Act.put, List.setIfInBounds_toArray, List.set_cons_zero, List.set_cons_succ])
        refine wpAnyH_take (i := 4) (oi := ⟨some 73, .load 3 (.tmp 72), 3, "ref.go:475", #[⟨3, .data⟩], none⟩) (v := ?_) rfl (by kernel_rfl) (by kernel_rfl) (by kernel_rfl) (fun _ _ _ h => h) (Or.inl ⟨by rfl, fun W hSw => ?_⟩) hHeld ?_
        rotate_left
        ·(try dsimp only at hSw); go_simp; (try with_reducible rfl)
        (try simp only [Act.put, List.setIfInBounds_toArray, List.set_cons_zero, List.set_cons_succ])
        refine wpAnyH_take (i := 5) (oi := ⟨some 74, .move (.tmp 8), 34, "ref.go:475", #[], none⟩) (v := ?_) rfl (by kernel_rfl) (by kernel_rfl) (by kernel_rfl) (fun _ _ _ h => h) (Or.inl ⟨by rfl, fun W hSw => ?_⟩) hHeld ?_
        rotate_left
        ·(try dsimp only at hSw); go_simp; (try with_reducible rfl)
        (try simp only [Act.put, List.setIfInBounds_toArray, List.set_cons_zero, List.set_cons_succ])
        refine wpAnyH_take (i := 6) (oi := ⟨some 75, .indexAddr 34 (.tmp 74) (.const (.int .i64 1)), 0, "ref.go:475", #[⟨5, .data⟩], none⟩) (v := ?_) rfl (by kernel_rfl) (by kernel_rfl) (by kernel_rfl) (fun _ _ _ h => h) (Or.inl ⟨by rfl, fun W hSw => ?_⟩) hHeld ?_
        rotate_left
        ·(try dsimp only at hSw); go_simp; (try with_reducible rfl)
        (try simp only [Act.put, List.setIfInBounds_toArray, List.set_cons_zero, List.set_cons_succ])
        refine wpAnyH_take (i := 7) (oi := ⟨some 76, .load 3 (.tmp 75), 3, "ref.go:475", #[⟨6, .data⟩], none⟩) (v := ?_) rfl (by kernel_rfl) (by kernel_rfl) (by kernel_rfl) (fun _ _ _ h => h) (Or.inl ⟨by rfl, fun W hSw => ?_⟩) hHeld ?_
        rotate_left
        ·(try dsimp only at hSw); go_simp; (try with_reducible rfl)
        (try simp only [Act.put, List.setIfInBounds_toArray, List.set_cons_zero, List.set_cons_succ])
        refine wpAnyH_take (i := 8) (oi := ⟨some 77, .build 47 #[(0, .tmp 73), (1, .tmp 76)], 47, "ref.go:475", #[⟨4, .data⟩, ⟨7, .data⟩], none⟩) (v := ?_) rfl (by kernel_rfl) (by kernel_rfl) (by kernel_rfl) (fun _ _ _ h => h) (Or.inl ⟨by rfl, fun W hSw => ?_⟩) hHeld ?_
        rotate_left
        ·(try dsimp only at hSw); go_simp; (try with_reducible rfl)
        (try simp only [Act.put, List.setIfInBounds_toArray, List.set_cons_zero, List.set_cons_succ])
        refine wpAnyH_ready (rs := [1, 9]) (by kernel_rfl) (by simp) ?_
        refine (AllReadyH.cons (o := ⟨some 70, .load 22 (.tmp 69), 22, "ref.go:475", #[⟨0, .data⟩], none⟩) rfl (fun K hK => ?_) (AllReadyH.cons (o := ⟨some 78, .buildSlice 22 1 #[(0, .tmp 77)], 22, "ref.go:475", #[⟨8, .data⟩], none⟩) rfl (fun K hK => ?_) AllReadyH.nil))
        ·rw [if_pos (by rfl)]
         have hcf := hIz.f.cell 0
         go_simp
         clear hcf
         refine hK.out _ _ (hHeld) (fun hHeld => ?_)
         clear hK K
         (try simp only [Act.put, List.setIfInBounds_toArray, List.set_cons_zero, List.set_cons_succ])
         refine wpAnyH_ready (rs := [9]) (by kernel_rfl) (by simp) ?_
         refine (AllReadyH.cons (o := ⟨some 78, .buildSlice 22 1 #[(0, .tmp 77)], 22, "ref.go:475", #[⟨8, .data⟩], none⟩) rfl (fun K hK => ?_) AllReadyH.nil)
         rw [if_pos (by rfl)]
         refine wp_build_span rfl rfl ?_
         intro gx wz hgz hG hb1
         replace hIz := hIz.below hb1
         refine hK.out _ _ (⟨(hb1.cell (p := ae) (World.block_lt_of_cell? _ _ hHeld.1)).trans hHeld.1, (hb1.cell (p := ⟨ae.block, ae.off + 1, none⟩) (World.block_lt_of_cell? _ _ hHeld.2)).trans hHeld.2⟩) (fun hHeld => ?_)
         clear hK K
         (try simp only [Act.put, List.setIfInBounds_toArray, List.set_cons_zero, List.set_cons_succ])
         refine wpAnyH_ready (rs := [10]) (by kernel_rfl) (by simp) ?_
         refine (AllReadyH.cons (o := ⟨some 79, .call { callee := .builtin .append, args := #[.tmp 70, .tmp 78], argTypes := #[22, 22] }, 22, "ref.go:475", #[⟨1, .data⟩, ⟨9, .data⟩], none⟩) rfl (fun K hK => ?_) AllReadyH.nil)
         rw [if_pos (by rfl)]
         (try replace hG := hG)
         refine wp_app_row (.tmp 70) (.tmp 78) rfl Tryz.underlying22 info_spanG rfl (by omega) (by omega) (w.heap.size + 1 + 1) vW _ rfl hIz.ww gx rfl (r := Wh.cells ⟨x, y⟩) hG rfl (by intro u hu; simp only [Wh.cells, List.mem_cons, List.not_mem_nil, or_false] at hu; rcases hu with rfl | rfl <;> rfl) hll hIz.f.lt ?_
         intro A2 c2 wz2 hown2 hgr
         rw [List.length_map] at hown2 ⊢
         refine hK.out _ _ (⟨cell_grown hgr hHeld.1 (fun k hk => by have := hvlt k hk; show ae.block ≠ k; omega), cell_grown hgr hHeld.2 (fun k hk => by have := hvlt k hk; show ae.block ≠ k; omega)⟩) (fun hHeld => ?_)
         clear hK K
         (try simp only [Act.put, List.setIfInBounds_toArray, List.set_cons_zero, List.set_cons_succ])
         refine wpAnyH_take (i := 11) (oi := ⟨some 80, .fieldAddr 25 (.tmp 4) 0, 0, "ref.go:475", #[⟨0, .phase⟩, ⟨1, .phase⟩, ⟨2, .phase⟩, ⟨3, .phase⟩, ⟨4, .phase⟩, ⟨5, .phase⟩, ⟨6, .phase⟩, ⟨7, .phase⟩, ⟨8, .phase⟩, ⟨9, .phase⟩, ⟨10, .phase⟩], none⟩) (v := ?_) rfl (by kernel_rfl) (by kernel_rfl) (by kernel_rfl) (fun _ _ _ h => h) (Or.inl ⟨by rfl, fun W hSw => ?_⟩) hHeld ?_
         rotate_left
         ·(try dsimp only at hSw); go_simp; (try with_reducible rfl)
         (try simp only [Act.put, List.setIfInBounds_toArray, List.set_cons_zero, List.set_cons_succ])
         refine wpAnyH_ready (rs := [12]) (by kernel_rfl) (by simp) ?_
         refine (AllReadyH.cons (o := ⟨none, .store 22 (.tmp 80) (.tmp 79), 0, "ref.go:475", #[⟨11, .data⟩, ⟨10, .data⟩, ⟨10, .chain⟩, ⟨0, .phase⟩, ⟨1, .phase⟩, ⟨2, .phase⟩, ⟨3, .phase⟩, ⟨4, .phase⟩, ⟨5, .phase⟩, ⟨6, .phase⟩, ⟨7, .phase⟩, ⟨8, .phase⟩, ⟨9, .phase⟩, ⟨10, .phase⟩], none⟩) rfl (fun K hK => ?_) AllReadyH.nil)
         rw [if_pos (by rfl)]
         have hF2 := hIz.f.grown hgr (ownS_not hIz.ww hIz.f (by decide))
         have hcF := fun j => hF2.cell j
         have hfF := fun j => hF2.frozen j
         go_simp
         clear hcF hfF
         refine hK.out _ _ (⟨cell_grown (grown_set wz2 ⟨w.heap.size + 1, 0, none⟩ _) hHeld.1 (fun k hk => by cases hk; exact haene), cell_grown (grown_set wz2 ⟨w.heap.size + 1, 0, none⟩ _) hHeld.2 (fun k hk => by cases hk; exact haene)⟩) (fun hHeld => ?_)
         clear hK K
         refine wpAnyH_done (by kernel_rfl) ?_ _
         refine NoPanic.normal ?_
         go_wp2_with fail
         refine ⟨⟨k + 1, _, _, _, by omega, by go_num, hIz.addW HRK.out HST.out hown2 hgr⟩, ?_⟩
         simp [intOf]; omega
        ·rw [if_pos (by rfl)]
         refine wp_build_span rfl rfl ?_
         intro gx wz hgz hG hb1
         replace hIz := hIz.below hb1
         refine hK.out _ _ (⟨(hb1.cell (p := ae) (World.block_lt_of_cell? _ _ hHeld.1)).trans hHeld.1, (hb1.cell (p := ⟨ae.block, ae.off + 1, none⟩) (World.block_lt_of_cell? _ _ hHeld.2)).trans hHeld.2⟩) (fun hHeld => ?_)
         clear hK K
         (try simp only [Act.put, List.setIfInBounds_toArray, List.set_cons_zero, List.set_cons_succ])
         refine wpAnyH_ready (rs := [1]) (by kernel_rfl) (by simp) ?_
         refine (AllReadyH.cons (o := ⟨some 70, .load 22 (.tmp 69), 22, "ref.go:475", #[⟨0, .data⟩], none⟩) rfl (fun K hK => ?_) AllReadyH.nil)
         rw [if_pos (by rfl)]
         have hcf := hIz.f.cell 0
         go_simp
         clear hcf
         refine hK.out _ _ (hHeld) (fun hHeld => ?_)
         clear hK K
         (try simp only [Act.put, List.setIfInBounds_toArray, List.set_cons_zero, List.set_cons_succ])
         refine wpAnyH_ready (rs := [10]) (by kernel_rfl) (by simp) ?_
         refine (AllReadyH.cons (o := ⟨some 79, .call { callee := .builtin .append, args := #[.tmp 70, .tmp 78], argTypes := #[22, 22] }, 22, "ref.go:475", #[⟨1, .data⟩, ⟨9, .data⟩], none⟩) rfl (fun K hK => ?_) AllReadyH.nil)
         rw [if_pos (by rfl)]
         (try replace hG := hG)
         refine wp_app_row (.tmp 70) (.tmp 78) rfl Tryz.underlying22 info_spanG rfl (by omega) (by omega) (w.heap.size + 1 + 1) vW _ rfl hIz.ww gx rfl (r := Wh.cells ⟨x, y⟩) hG rfl (by intro u hu; simp only [Wh.cells, List.mem_cons, List.not_mem_nil, or_false] at hu; rcases hu with rfl | rfl <;> rfl) hll hIz.f.lt ?_
         intro A2 c2 wz2 hown2 hgr
         rw [List.length_map] at hown2 ⊢
         refine hK.out _ _ (⟨cell_grown hgr hHeld.1 (fun k hk => by have := hvlt k hk; show ae.block ≠ k; omega), cell_grown hgr hHeld.2 (fun k hk => by have := hvlt k hk; show ae.block ≠ k; omega)⟩) (fun hHeld => ?_)
         clear hK K
         (try simp only [Act.put, List.setIfInBounds_toArray, List.set_cons_zero, List.set_cons_succ])
         refine wpAnyH_take (i := 11) (oi := ⟨some 80, .fieldAddr 25 (.tmp 4) 0, 0, "ref.go:475", #[⟨0, .phase⟩, ⟨1, .phase⟩, ⟨2, .phase⟩, ⟨3, .phase⟩, ⟨4, .phase⟩, ⟨5, .phase⟩, ⟨6, .phase⟩, ⟨7, .phase⟩, ⟨8, .phase⟩, ⟨9, .phase⟩, ⟨10, .phase⟩], none⟩) (v := ?_) rfl (by kernel_rfl) (by kernel_rfl) (by kernel_rfl) (fun _ _ _ h => h) (Or.inl ⟨by rfl, fun W hSw => ?_⟩) hHeld ?_
         rotate_left
         ·(try dsimp only at hSw); go_simp; (try with_reducible rfl)
         (try simp only [Act.put, List.setIfInBounds_toArray, List.set_cons_zero, List.set_cons_succ])
         refine wpAnyH_ready (rs := [12]) (by kernel_rfl) (by simp) ?_
         refine (AllReadyH.cons (o := ⟨none, .store 22 (.tmp 80) (.tmp 79), 0, "ref.go:475", #[⟨11, .data⟩, ⟨10, .data⟩, ⟨10, .chain⟩, ⟨0, .phase⟩, ⟨1, .phase⟩, ⟨2, .phase⟩, ⟨3, .phase⟩, ⟨4, .phase⟩, ⟨5, .phase⟩, ⟨6, .phase⟩, ⟨7, .phase⟩, ⟨8, .phase⟩, ⟨9, .phase⟩, ⟨10, .phase⟩], none⟩) rfl (fun K hK => ?_) AllReadyH.nil)
         rw [if_pos (by rfl)]
         have hF2 := hIz.f.grown hgr (ownS_not hIz.ww hIz.f (by decide))
         have hcF := fun j => hF2.cell j
         have hfF := fun j => hF2.frozen j
         go_simp
         clear hcF hfF
         refine hK.out _ _ (⟨cell_grown (grown_set wz2 ⟨w.heap.size + 1, 0, none⟩ _) hHeld.1 (fun k hk => by cases hk; exact haene), cell_grown (grown_set wz2 ⟨w.heap.size + 1, 0, none⟩ _) hHeld.2 (fun k hk => by cases hk; exact haene)⟩) (fun hHeld => ?_)
         clear hK K
         refine wpAnyH_done (by kernel_rfl) ?_ _
         refine NoPanic.normal ?_
         go_wp2_with fail
         refine ⟨⟨k + 1, _, _, _, by omega, by go_num, hIz.addW HRK.out HST.out hown2 hgr⟩, ?_⟩
         simp [intOf]; omega
       ·have hn2b : ((nx : Int) == 2) = false := beq_eq_false_iff_ne.2 (by omega)
        have HF := Lib.hid hf
        have HN2 := Lib.hid hn2
        clear hf hn2
        have HNO := Lib.hid (show rreadG s = none by rw [HRR.out, rgoG_stuck HRK.out HGO.out (rstepG_no HT.out (by rw [HHD.out]; exact HF.out) (fun e => HN2.out (HNX.out.symm.trans e.2)) (fun e => absurd (HHD.out.symm.trans e.1) (by decide)))]; rfl)
        go_wp2_with (first | (refine wpList_store_blk rfl _ _ _ rfl w3.heap.size 61 _ _ rfl rfl (Blk.new w3 _ _) rfl (by kernel_rfl) (by simp [Value.oneCell']) ?_; intro w4 hF4 hg4; have hI5 := hI4.below (hb34 w4 hg4); have hrX5 := hrX3.keep (hb34 w4 hg4); have hcw5 := ((hb34 w4 hg4).cell hab3).trans hcw3; have hab5 := Nat.lt_of_lt_of_le hab3 (hb34 w4 hg4).size; have hZ3 := hI5.z; have hf3 := hI5.bel) | (refine wpList_store_blk rfl _ _ _ rfl w.heap.size 25 _ _ rfl rfl hZ3 rfl (by kernel_rfl) (by simp [Value.oneCell']) ?_; intro Wa hCa hga))
        have hf7 : Below w.heap.size w Wa := hf3.grown hga hf3.size (by intro k hk; cases hk; exact Nat.le_refl _)
        refine bodyPost_ret (results_blk_tmp rfl _ _ _ _ rfl hCa Tryz.underlying25 rfl (by kernel_rfl)) rfl ⟨hf7, Or.inl ⟨HNO.out, rfl⟩⟩
      ·by_cases hw0 : hd = [102, 105, 110, 100]
       ·subst hw0
        by_cases hn1 : nx = 1
        ·subst hn1
         have HST := Lib.hid (rstepG_find (st := st) HT.out (by rw [HHD.out]; exact hf) HHD.out HNX.out)
         clear hf
         go_wp2_with (refine wpList_store_blk rfl _ _ _ rfl w3.heap.size 61 _ _ rfl rfl (Blk.new w3 _ _) rfl (by kernel_rfl) (by simp [Value.oneCell']) ?_; intro w4 hF4 hg4; have hI5 := hI4.below (hb34 w4 hg4); have hrX5 := hrX3.keep (hb34 w4 hg4); have hcw5 := ((hb34 w4 hg4).cell hab3).trans hcw3; have hab5 := Nat.lt_of_lt_of_le hab3 (hb34 w4 hg4).size)
         refine ⟨⟨k + 1, st, vW, vN, by omega, by go_num, hI5.step HRK.out HST.out⟩, ?_⟩
         simp [intOf]; omega
        ·have hn1b : ((nx : Int) == 1) = false := beq_eq_false_iff_ne.2 (by omega)
         have HF := Lib.hid hf
         have HN1 := Lib.hid hn1
         clear hf hn1
         have HNO := Lib.hid (show rreadG s = none by rw [HRR.out, rgoG_stuck HRK.out HGO.out (rstepG_no HT.out (by rw [HHD.out]; exact HF.out) (fun e => absurd (HHD.out.symm.trans e.1) (by decide)) (fun e => HN1.out (HNX.out.symm.trans e.2)))]; rfl)
         go_wp2_with (first | (refine wpList_store_blk rfl _ _ _ rfl w3.heap.size 61 _ _ rfl rfl (Blk.new w3 _ _) rfl (by kernel_rfl) (by simp [Value.oneCell']) ?_; intro w4 hF4 hg4; have hI5 := hI4.below (hb34 w4 hg4); have hrX5 := hrX3.keep (hb34 w4 hg4); have hcw5 := ((hb34 w4 hg4).cell hab3).trans hcw3; have hab5 := Nat.lt_of_lt_of_le hab3 (hb34 w4 hg4).size; have hZ3 := hI5.z; have hf3 := hI5.bel) | (refine wpList_store_blk rfl _ _ _ rfl w.heap.size 25 _ _ rfl rfl hZ3 rfl (by kernel_rfl) (by simp [Value.oneCell']) ?_; intro Wa hCa hga))
         have hf7 : Below w.heap.size w Wa := hf3.grown hga hf3.size (by intro k hk; cases hk; exact Nat.le_refl _)
         refine bodyPost_ret (results_blk_tmp rfl _ _ _ _ rfl hCa Tryz.underlying25 rfl (by kernel_rfl)) rfl ⟨hf7, Or.inl ⟨HNO.out, rfl⟩⟩
       ·have HF := Lib.hid hf
        have HW1 := Lib.hid hw1
        have HW0 := Lib.hid hw0
        clear hf
        have HNO := Lib.hid (show rreadG s = none by rw [HRR.out, rgoG_stuck HRK.out HGO.out (rstepG_no HT.out (by rw [HHD.out]; exact HF.out) (fun e => HW1.out (HHD.out.symm.trans e.1)) (fun e => HW0.out (HHD.out.symm.trans e.1)))]; rfl)
        go_wp2_with (first | (refine wpList_store_blk rfl _ _ _ rfl w3.heap.size 61 _ _ rfl rfl (Blk.new w3 _ _) rfl (by kernel_rfl) (by simp [Value.oneCell']) ?_; intro w4 hF4 hg4; have hI5 := hI4.below (hb34 w4 hg4); have hrX5 := hrX3.keep (hb34 w4 hg4); have hcw5 := ((hb34 w4 hg4).cell hab3).trans hcw3; have hab5 := Nat.lt_of_lt_of_le hab3 (hb34 w4 hg4).size; have hZ3 := hI5.z; have hf3 := hI5.bel) | (refine wpList_store_blk rfl _ _ _ rfl w.heap.size 25 _ _ rfl rfl hZ3 rfl (by kernel_rfl) (by simp [Value.oneCell']) ?_; intro Wa hCa hga))
        have hf7 : Below w.heap.size w Wa := hf3.grown hga hf3.size (by intro k hk; cases hk; exact Nat.le_refl _)
        refine bodyPost_ret (results_blk_tmp rfl _ _ _ _ rfl hCa Tryz.underlying25 rfl (by kernel_rfl)) rfl ⟨hf7, Or.inl ⟨HNO.out, rfl⟩⟩
  ·obtain rfl : k = n - 2 := by omega
   have hki : ¬ ((n - 2 : Nat) : Int) < (n : Int) - 2 := by omega
   have hkd : decide (((n - 2 : Nat) : Int) < (n : Int) - 2) = false := decide_eq_false hki
   have hfull : rgoG ([], []) R = some st := by
    have := HGO.out
    rw [List.take_of_length_le (by have := HRl.out; omega)] at this
    exact this
   have hsm := (rgoG_ok R _ st st0 hfull).1
   have HFU := Lib.hid (show rreadG s = readOfG s (some st) by rw [HRR.out, hfull])
   obtain ⟨vs, ms⟩ := st
   obtain ⟨A, wc, rfl⟩ := hI.ww.form
   obtain ⟨N, nc, rfl⟩ := hI.nn.form
   have hfi : FindAt wr A N vs ms := by
    have h1 := hI.ww
    have h2 := hI.nn
    simp only at h1 h2
    exact ⟨h1.rd, h2.rd⟩
   have hfA : ∀ ad, A = some ad → ad.block ≠ w.heap.size := fun ad e => by have := hI.ww.ge ad.block (by rw [e]; rfl); omega
   have hfN : ∀ ad, N = some ad → ad.block ≠ w.heap.size := fun ad e => by have := hI.nn.ge ad.block (by rw [e]; rfl); omega
   have hF := hI.f
   have hZ3 := hI.z
   have hf3 := hI.bel
   have hpr := Print8_any A N wc nc vs ms wr hfi (fun s hs => (hsm.1 s hs).mid) (fun n hn => (hsm.2 n hn).mid) (by simp only at hfew; omega)
   simp only [List.length_map] at hF ⊢
   clear hfull hsm hI hfew
   obtain ⟨T, gT⟩ : ∃ T, findText vs ms = T := ⟨_, rfl⟩
   rw [gT] at hpr
   have GT := Lib.hid gT
   clear gT
   have hcf := fun j => hF.cell j
   go_wp2_with fail
   refine hpr.mono ?_
   rintro e' w6 ⟨rfl, hb6⟩
   clear hpr hcf
   replace hF := hF.keep hb6
   replace hZ3 := hZ3.keep hb6
   replace hfi := hfi.keep hb6
   replace hf3 := fr_call hf3 hb6
   clear hb6
   by_cases hTs : T = s
   ·subst hTs
    have HYES := Lib.hid (show rreadG T = some (vs, ms) by rw [HFU.out]; unfold readOfG; simp only; rw [if_pos GT.out])
    have hcf := fun j => hF.cell j
    go_wp2_with (refine wpList_store_blk rfl _ _ _ rfl w.heap.size 25 _ _ rfl rfl hZ3 rfl (by kernel_rfl) (by simp [Value.oneCell']) ?_; intro Wa hCa hga)
    refine bodyPost_ret (results_blk_tmp rfl _ _ _ _ rfl hCa Tryz.underlying25 rfl (by kernel_rfl)) rfl ⟨hf3.grown hga hf3.size (by intro k hk; cases hk; exact Nat.le_refl _), Or.inr ⟨vs, ms, A, N, wc, nc, HYES.out, rfl, hfi.ws.far hga hfA, hfi.ns.far hga hfN⟩⟩
   ·have hq1 : (T == s) = false := beq_eq_false_iff_ne.2 hTs
    have hq2 : decide (T = s) = false := decide_eq_false hTs
    have HNO := Lib.hid (show rreadG s = none by rw [HFU.out]; unfold readOfG; simp only; rw [if_neg (fun e => hTs (GT.out.symm.trans e))])
    go_wp2_with (refine wpList_store_blk rfl _ _ _ rfl w.heap.size 25 _ _ rfl rfl hZ3 rfl (by kernel_rfl) (by simp [Value.oneCell']) ?_; intro Wa hCa hga)
    refine bodyPost_ret (results_blk_tmp rfl _ _ _ _ rfl hCa Tryz.underlying25 rfl (by kernel_rfl)) rfl ⟨hf3.grown hga hf3.size (by intro k hk; cases hk; exact Nat.le_refl _), Or.inl ⟨HNO.out, rfl⟩⟩
end Go.Proofs.YthenlopnlaiodaaGreatDoor
end
