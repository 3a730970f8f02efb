/- Reference: what Read has come to, between two lines. Reference: Read. Reference: lists of facts that are the same. -/
import Derived.Test.YthjblcboainknaaGreatDoorMU2
import Derived.Test.YthjblcboainknaaGreatDoorMT3
import Derived.Test.YthjblcboainknaaGreatDoorMT4
import Derived.Test.YthjblcboainknaaGreatDoorMD1
section
namespace Go.Proofs.YthjblcboainknaaGreatDoor
open Go.RowKit Dl

/-- the array behind a slice is one of ints -/
def TagI (W : World) (A : Option Addr) : Prop := ∀ ad, A = some ad → ∃ cur, Blk W ad.block 3 cur
theorem TagI.none (W : World) : TagI W none := fun _ h => by cases h
theorem TagI.grown {W W' : World} {A : Option Addr} {g : Option Nat} (h : TagI W A) (hg : W.grownBy W' g) (hne : ∀ ad, A = some ad → some ad.block ≠ g) : TagI W' A := fun ad e => by
 obtain ⟨cur, hB⟩ := h ad e
 exact ⟨cur, hB.grown hg (hne ad e)⟩
theorem TagI.keep {W W' : World} {A : Option Addr} (h : TagI W A) (hb : Below W.heap.size W W') : TagI W' A := fun ad e => by
 obtain ⟨cur, hB⟩ := h ad e
 exact ⟨cur, hB.keep hb⟩
theorem TagI.ne {W : World} {A : Option Addr} {g : Nat} {t : TypeId} {cs : Array Value} (h : TagI W A) (hB : Blk W g t cs) (ht : (3 : TypeId) ≠ t) : ∀ ad, A = some ad → ad.block ≠ g := fun ad e => by
 obtain ⟨cur, hA⟩ := h ad e
 exact hA.ne_ hB ht
theorem TagI.of_own {W : World} {base n c : Nat} {A : Option Addr} {xs : List Int} (h : Own W base (.slice A n c) xs) : TagI W A := fun ad e => by
 subst e
 rcases h.2 with ⟨h', _⟩ | ⟨g', cap, cur, h', _, hh, _⟩
 ·cases h'
 ·cases h'
  exact ⟨cur, hh⟩
theorem TagI.tail {W : World} {ad : Addr} {j : Nat} (h : TagI W (some ad)) : TagI W (some (ad.add j)) := fun ad' e => by
 cases e
 rw [block_of_add]
 exact h ad rfl
theorem Rd.farO {w w' : World} {A : Option Addr} {n : Nat} {g : Option Nat} {xs : List Int} (h : Rd w A n xs) (hg : w.grownBy w' g) (hne : ∀ ad, A = some ad → some ad.block ≠ g) : Rd w' A n xs :=
 ⟨h.1, fun hn => by
  obtain ⟨ad, e, hlt, hc⟩ := h.2 hn
  exact ⟨ad, e, Nat.lt_of_lt_of_le hlt hg.size, fun j hj => (World.cell?_of_block (hg.block _ (by rw [block_of_add]; exact hlt) (by rw [block_of_add]; exact hne ad e))).trans (hc j hj)⟩⟩
theorem own_tag_ne {W : World} {base k : Nat} {v : Value} {rows : List (List Value)} {A : Option Addr} (h : OwnS W base 69 k v rows) (hT : TagI W A) : ∀ ad, A = some ad → some ad.block ≠ v.ownBlock := fun ad e => by
 obtain ⟨cur, hB⟩ := hT ad e
 exact fun h' => own_blk_ne h.1 hB (by decide) h'.symm

theorem TagS.grown {W W' : World} {A : Option Addr} {g : Option Nat} (h : TagS W A) (hg : W.grownBy W' g) (hne : ∀ ad, A = some ad → some ad.block ≠ g) : TagS W' A := fun ad e => by
 obtain ⟨cur, hB⟩ := h ad e
 exact ⟨cur, hB.grown hg (hne ad e)⟩
theorem TagS.keep {W W' : World} {A : Option Addr} (h : TagS W A) (hb : Below W.heap.size W W') : TagS W' A := fun ad e => by
 obtain ⟨cur, hB⟩ := h ad e
 exact ⟨cur, hB.keep hb⟩
theorem TagS.ne {W : World} {A : Option Addr} {g : Nat} {t : TypeId} {cs : Array Value} (h : TagS W A) (hB : Blk W g t cs) (ht : (9 : TypeId) ≠ t) : ∀ ad, A = some ad → some ad.block ≠ some g := fun ad e h' => by
 obtain ⟨cur, hA⟩ := h ad e
 exact hA.ne_ hB ht (by injection h')
theorem own_tagS_ne {W : World} {base k : Nat} {v : Value} {rows : List (List Value)} {A : Option Addr} (h : OwnS W base 69 k v rows) (hT : TagS W A) : ∀ ad, A = some ad → some ad.block ≠ v.ownBlock := fun ad e => by
 obtain ⟨cur, hB⟩ := hT ad e
 exact fun h' => own_blk_ne h.1 hB (by decide) h'.symm
theorem RdT.farO {w w' : World} {A : Option Addr} {n : Nat} {ps : List (List UInt8)} {g : Option Nat} (h : RdT w A n ps) (hg : w.grownBy w' g) (hne : ∀ ad, A = some ad → some ad.block ≠ g) : RdT w' A n ps :=
 ⟨h.1, fun j p hp => by
  obtain ⟨ad, e, hlt, hc⟩ := h.2 j p hp
  exact ⟨ad, e, Nat.lt_of_lt_of_le hlt hg.size, (World.cell?_of_block (hg.block _ (by rw [block_of_add]; exact hlt) (by rw [block_of_add]; exact hne ad e))).trans hc⟩⟩

/-- what is read so far, in the blocks of the call's own variables; and the lines -/
def RSt (w : World) (L : Option Addr) (n : Nat) (P : List (List UInt8)) (st : Alm) (v : Value) (W : World) : Prop :=
 (∃ A c, Blk W (w.heap.size + 1 + 1) 24 #[.int .i64 st.e, .slice A st.cs.length c] ∧ Rd W A st.cs.length st.cs ∧ TagI W A) ∧
 Blk W (w.heap.size + 1 + 1 + 1) 26 #[.int .i64 st.num, .int .i64 st.den, .int .i64 st.add] ∧
 OwnS W (w.heap.size + 1 + 1 + 1 + 1) 69 4 v (st.l.map Fact.row) ∧
 Blk W w.heap.size 24 #[.int .i64 0, .slice none 0 0] ∧ Blk W (w.heap.size + 1) 26 #[.int .i64 0, .int .i64 0, .int .i64 0] ∧ Below w.heap.size w W ∧ RdT W L n P ∧ TagS W L
theorem RSt.keep {w W W' : World} {L : Option Addr} {n : Nat} {P : List (List UInt8)} {st : Alm} {v : Value} (h : RSt w L n P st v W) (hb : Below W.heap.size W W') : RSt w L n P st v W' := by
 obtain ⟨⟨A, c, h1, h2, h3⟩, h4, h5, h6, h7, h8, h9, h10⟩ := h
 exact ⟨⟨A, c, h1.keep hb, h2.keep hb, h3.keep hb⟩, h4.keep hb, h5.keep hb, h6.keep hb, h7.keep hb, fr_call h8 hb, h9.keep hb, h10.keep hb⟩
theorem RSt.fact {w W W' : World} {L : Option Addr} {n : Nat} {P : List (List UInt8)} {st : Alm} {v v' : Value} {f : Fact} (h : RSt w L n P st v W) (hg : W.grownBy W' v.ownBlock) (ho : OwnS W' (w.heap.size + 1 + 1 + 1 + 1) 69 4 v' ((st.l ++ [f]).map Fact.row)) : RSt w L n P { st with l := st.l ++ [f] } v' W' := by
 obtain ⟨⟨A, c, h1, h2, h3⟩, h4, h5, h6, h7, h8, h9, h10⟩ := h
 have n1 := fun e => own_blk_ne h5.1 h1 (by decide) (Eq.symm e)
 have n4 := fun e => own_blk_ne h5.1 h4 (by decide) (Eq.symm e)
 have n6 := fun e => own_blk_ne h5.1 h6 (by decide) (Eq.symm e)
 have n7 := fun e => own_blk_ne h5.1 h7 (by decide) (Eq.symm e)
 have n3 := own_tag_ne h5 h3
 have n10 := own_tagS_ne h5 h10
 have hge := h5.ge
 exact ⟨⟨A, c, h1.grown hg n1, h2.farO hg n3, h3.grown hg n3⟩, h4.grown hg n4, ho, h6.grown hg n6, h7.grown hg n7, h8.grown hg h8.size (fun k hk => by have := hge k hk; omega), h9.farO hg n10, h10.grown hg n10⟩
theorem RSt.cal {w W W' : World} {L : Option Addr} {n : Nat} {P : List (List UInt8)} {st : Alm} {v : Value} {e : Int} {cs : List Int} {A' : Option Addr} {c' : Nat} (h : RSt w L n P st v W) (hg : W.grownBy W' (some (w.heap.size + 1 + 1)))
  (hB : Blk W' (w.heap.size + 1 + 1) 24 #[.int .i64 e, .slice A' cs.length c']) (hr : Rd W A' cs.length cs) (hT : TagI W A') : RSt w L n P { st with e := e, cs := cs } v W' := by
 obtain ⟨⟨A, c, h1, h2, h3⟩, h4, h5, h6, h7, h8, h9, h10⟩ := h
 have n := hT.ne h1 (by decide)
 have n10 := h10.ne h1 (by decide)
 exact ⟨⟨A', c', hB, hr.far hg n, hT.grown hg (fun ad e h => n ad e (by injection h))⟩, h4.grown hg (by simp), h5.far hg (by omega), h6.grown hg (by simp <;> omega), h7.grown hg (by simp), h8.grown hg h8.size (fun k hk => by cases hk; omega), h9.farO hg n10, h10.grown hg n10⟩
theorem RSt.moon {w W W' : World} {L : Option Addr} {n : Nat} {P : List (List UInt8)} {st : Alm} {v : Value} {x y z : Int} (h : RSt w L n P st v W) (hg : W.grownBy W' (some (w.heap.size + 1 + 1 + 1)))
  (hB : Blk W' (w.heap.size + 1 + 1 + 1) 26 #[.int .i64 x, .int .i64 y, .int .i64 z]) : RSt w L n P { st with num := x, den := y, add := z } v W' := by
 obtain ⟨⟨A, c, h1, h2, h3⟩, h4, h5, h6, h7, h8, h9, h10⟩ := h
 have n := h3.ne h4 (by decide)
 have n10 := h10.ne h4 (by decide)
 exact ⟨⟨A, c, h1.grown hg (by simp), h2.far hg n, h3.grown hg (fun ad e h => n ad e (by injection h))⟩, hB, h5.far hg (by omega), h6.grown hg (by simp <;> omega), h7.grown hg (by simp <;> omega), h8.grown hg h8.size (fun k hk => by cases hk; omega), h9.farO hg n10, h10.grown hg n10⟩

/-- what Read returns where a text does not have its form -/
def readNo : Ending := .returned (.tuple #[.agg #[.int .i64 0, .slice none 0 0], .agg #[.int .i64 0, .int .i64 0, .int .i64 0], .slice none 0 0, .bool false])
def RReadPost (s : List UInt8) (w : World) (e : Ending) (w' : World) : Prop :=
 Below w.heap.size w w' ∧ ((rread s = none ∧ e = readNo) ∨
  (∃ (a : Alm) (A : Option Addr) (c : Nat) (L : Option Addr) (lc : Nat), rread s = some a ∧
   e = .returned (.tuple #[.agg #[.int .i64 a.e, .slice A a.cs.length c], .agg #[.int .i64 a.num, .int .i64 a.den, .int .i64 a.add], .slice L a.l.length lc, .bool true]) ∧ Rd w' A a.cs.length a.cs ∧ RdS w' L 4 (a.l.map Fact.row)))
theorem rgo_snoc (R : List (List UInt8)) (r : List UInt8) (st : Alm) : rgo st (R ++ [r]) = match rgo st R with | none => none | some st' => rstep st' r := by
 rw [rgo_app]
 cases rgo st R with
 | none => rfl
 | some st' =>
  show rgo st' [r] = rstep st' r
  unfold rgo
  cases rstep st' r <;> rfl
theorem rgo_stuck {R : List (List UInt8)} {k : Nat} {r : List UInt8} {st : Alm} (hr : R[k]? = some r) (hk : rgo ⟨0, [], 0, 0, 0, []⟩ (R.take k) = some st) (hs : rstep st r = none) : rgo ⟨0, [], 0, 0, 0, []⟩ R = none := by
 have hl : k < R.length := (List.getElem?_eq_some_iff.1 hr).1
 have he := (List.getElem?_eq_some_iff.1 hr).2
 have h1 : R = R.take (k + 1) ++ R.drop (k + 1) := (List.take_append_drop _ _).symm
 rw [h1, rgo_app, List.take_succ_eq_append_getElem hl, he, rgo_snoc, hk]
 simp only [hs]
theorem rgo_next {R : List (List UInt8)} {k : Nat} {r : List UInt8} {st st' : Alm} (hr : R[k]? = some r) (hk : rgo ⟨0, [], 0, 0, 0, []⟩ (R.take k) = some st) (hs : rstep st r = some st') : rgo ⟨0, [], 0, 0, 0, []⟩ (R.take (k + 1)) = some st' := by
 have hl : k < R.length := (List.getElem?_eq_some_iff.1 hr).1
 have he := (List.getElem?_eq_some_iff.1 hr).2
 rw [List.take_succ_eq_append_getElem hl, he, rgo_snoc, hk]
 exact hs
def readOf (s : List UInt8) : Option Alm → Option Alm
 | none => none
 | some a => if a.text = s then some a else none
theorem rread_of (s : List UInt8) : rread s = readOf s (rgo ⟨0, [], 0, 0, 0, []⟩ ((pieces 10 s).take ((pieces 10 s).length - 2))) := by
 unfold rread readOf
 rfl
theorem rstep_t {st : Alm} {r : List UInt8} (h : toldB r = none) : rstep st r = none := by unfold rstep; rw [h]
theorem rstep_fact {st : Alm} {r : List UInt8} {x : List Int} {f : Fact} (h : toldB r = some x) (hf : factOf (headB r) x = some f) : rstep st r = some { st with l := st.l ++ [f] } := by
 unfold rstep
 rw [h]
 simp only [hf]
theorem rstep_cal {st : Alm} {r : List UInt8} {x : List Int} (h : toldB r = some x) (hf : factOf (headB r) x = none) (hw : headB r = wordB 0) (hx : 0 < x.length) : rstep st r = some { st with e := x[0]?.getD 0, cs := x.tail } := by
 unfold rstep
 rw [h]
 simp only [hf]
 rw [if_pos ⟨hw, hx⟩]
theorem rstep_moon {st : Alm} {r : List UInt8} {x : List Int} (h : toldB r = some x) (hf : factOf (headB r) x = none) (hw : headB r = wordB 1) (hx : x.length = 3) : rstep st r = some { st with num := x[0]?.getD 0, den := x[1]?.getD 0, add := x[2]?.getD 0 } := by
 unfold rstep
 rw [h]
 simp only [hf]
 rw [if_neg (fun e => absurd (hw.symm.trans e.1) (by decide)), if_pos ⟨hw, hx⟩]
theorem rstep_no {st : Alm} {r : List UInt8} {x : List Int} (h : toldB r = some x) (hf : factOf (headB r) x = none) (h0 : ¬ (headB r = wordB 0 ∧ 0 < x.length)) (h1 : ¬ (headB r = wordB 1 ∧ x.length = 3)) : rstep st r = none := by
 unfold rstep
 rw [h]
 simp only [hf]
 rw [if_neg h0, if_neg h1]
end Go.Proofs.YthjblcboainknaaGreatDoor
end

section
namespace Go.Proofs.YthjblcboainknaaGreatDoor
open Go.RowKit Dl

set_option maxRecDepth 100000 in
set_option maxHeartbeats 16000000 in
theorem rRead_any (s : List UInt8) (w : World) (hs : s.length ≤ 500) :
  Calls Tryz.prog 17 #[.string ⟨s.toArray⟩] w fun e w' => RReadPost s w e w' := by
 have hpl := pieces_len 10 s
 have hps := pieces_small 10 s
 have g4 := fr_alloc (fr_alloc (fr_alloc (fr_alloc (fr_refl w) (.cells #[.int .i64 0, .slice none 0 0] 24)) (.cells #[.int .i64 0, .int .i64 0, .int .i64 0] 26)) (.cells #[.int .i64 0, .slice none 0 0] 24)) (.cells #[.int .i64 0, .int .i64 0, .int .i64 0] 26)
 have hst : ∀ W L n P, Below ((((w.alloc (.cells #[.int .i64 0, .slice none 0 0] 24)).alloc (.cells #[.int .i64 0, .int .i64 0, .int .i64 0] 26)).alloc (.cells #[.int .i64 0, .slice none 0 0] 24)).alloc (.cells #[.int .i64 0, .int .i64 0, .int .i64 0] 26)).heap.size ((((w.alloc (.cells #[.int .i64 0, .slice none 0 0] 24)).alloc (.cells #[.int .i64 0, .int .i64 0, .int .i64 0] 26)).alloc (.cells #[.int .i64 0, .slice none 0 0] 24)).alloc (.cells #[.int .i64 0, .int .i64 0, .int .i64 0] 26)) W → RdT W L n P → TagS W L → RSt w L n P ⟨0, [], 0, 0, 0, []⟩ (.slice none 0 0) W := fun W L n P hb h9 h10 =>
  ⟨⟨none, 0, Blk.keep (w := ((((w.alloc (.cells #[.int .i64 0, .slice none 0 0] 24)).alloc (.cells #[.int .i64 0, .int .i64 0, .int .i64 0] 26)).alloc (.cells #[.int .i64 0, .slice none 0 0] 24)).alloc (.cells #[.int .i64 0, .int .i64 0, .int .i64 0] 26))) ((Blk.new_at _ _ (by simp)).alloc _) hb, Rd.nil_ _ _, TagI.none _⟩, Blk.keep (w := ((((w.alloc (.cells #[.int .i64 0, .slice none 0 0] 24)).alloc (.cells #[.int .i64 0, .int .i64 0, .int .i64 0] 26)).alloc (.cells #[.int .i64 0, .slice none 0 0] 24)).alloc (.cells #[.int .i64 0, .int .i64 0, .int .i64 0] 26))) (Blk.new_at _ _ (by simp)) hb, OwnS.nil _ _ _ _, Blk.keep (w := ((((w.alloc (.cells #[.int .i64 0, .slice none 0 0] 24)).alloc (.cells #[.int .i64 0, .int .i64 0, .int .i64 0] 26)).alloc (.cells #[.int .i64 0, .slice none 0 0] 24)).alloc (.cells #[.int .i64 0, .int .i64 0, .int .i64 0] 26))) ((((Blk.new w _ _).alloc _).alloc _).alloc _) hb, Blk.keep (w := ((((w.alloc (.cells #[.int .i64 0, .slice none 0 0] 24)).alloc (.cells #[.int .i64 0, .int .i64 0, .int .i64 0] 26)).alloc (.cells #[.int .i64 0, .slice none 0 0] 24)).alloc (.cells #[.int .i64 0, .int .i64 0, .int .i64 0] 26))) (((Blk.new_at _ _ (by simp)).alloc _).alloc _) hb, fr_call g4 hb, h9, h10⟩
 have hsp := fun W => rsplit_is 10 s W (by omega)
 obtain ⟨P, gP⟩ : ∃ P, pieces 10 s = P := ⟨_, rfl⟩
 rw [gP] at hpl hps
 simp only [gP] at hsp
 have HRR := Lib.hid (show rread s = readOf s (rgo ⟨0, [], 0, 0, 0, []⟩ (P.take (P.length - 2))) by rw [rread_of, gP])
 have HPS := Lib.hid hps
 clear gP hps
 go_enter Tryz.func17, Tryz.ntmps17
 go_wp2_with fail
 refine (hsp _).mono ?_
 clear hsp
 rintro e' w1 ⟨A0, cap0, rfl, hT1, hTs1, hb1⟩
 have hst1 := hst w1 A0 P.length P hb1 hT1 hTs1
 clear hst hb1 g4 hT1 hTs1
 obtain ⟨R, gR⟩ : ∃ R, P.take (P.length - 2) = R := ⟨_, rfl⟩
 have HRl := Lib.hid (show R.length = P.length - 2 by rw [← gR, List.length_take]; omega)
 have HRg := Lib.hid (fun j (hj : j < P.length - 2) => (show R[j]? = P[j]? by rw [← gR, List.getElem?_take, if_pos hj]))
 rw [gR] at HRR
 clear gR
 generalize hn : P.length = n at *
 have HN := Lib.hid hn
 clear hn
 go_wp2_with fail
 go_loopw [8, 10] (fun v i wx => ∃ (k : Nat) (st : Alm), k ≤ n - 2 ∧ i = .int .i64 k ∧ rgo ⟨0, [], 0, 0, 0, []⟩ (R.take k) = some st ∧ st.l.length ≤ k ∧ st.cs.length ≤ 500 ∧ RSt w A0 n P st v wx) (fun _ i _ => n - 2 - (intOf i).toNat)
 case atStart => exact ⟨0, _, Nat.zero_le _, rfl, rfl, Nat.zero_le _, Nat.zero_le _, hst1⟩
 case round =>
  clear hst1
  obtain ⟨k, st, hk, rfl, hgo, hll, hcl, hst⟩ := hrel
  have HGO := Lib.hid hgo
  clear hgo
  by_cases hlt : k < n - 2
  ·have hki : (k : Int) < (n : Int) - 2 := by omega
   have hkd : decide ((k : Int) < (n : Int) - 2) = true := decide_eq_true hki
   have hkn : k < n := by omega
   have hkni : (k : Int) < (n : Int) := by omega
   have hk0 : (0 : Int) ≤ (k : Int) := Int.natCast_nonneg k
   obtain ⟨r, hr⟩ : ∃ r, P[k]? = some r := ⟨_, List.getElem?_eq_getElem (by have := HN.out; omega)⟩
   obtain ⟨ad, rfl, hab, hcr⟩ := hst.2.2.2.2.2.2.1.2 k r hr
   have hlr : r.length ≤ 500 := Nat.le_trans (HPS.out r (List.mem_of_getElem? hr)) hs
   have HRK := Lib.hid (show R[k]? = some r by rw [HRg.out k hlt]; exact hr)
   unfold strV at hcr
   clear hr
   have hpl2 := pieces_len 32 r
   have hps2 := pieces_small 32 r
   have hpf2 := pieces_form 32 r
   have hsp := fun W => rsplit_is 32 r W (by omega)
   obtain ⟨Q, gQ⟩ : ∃ Q, pieces 32 r = Q := ⟨_, rfl⟩
   rw [gQ] at hpl2 hps2
   simp only [gQ] at hsp
   obtain ⟨hd, ws, hQ⟩ : ∃ hd ws, Q = hd :: ws := ⟨_, _, by rw [← gQ]; exact hpf2⟩
   have HTO := Lib.hid (show toldB r = nums ws by unfold toldB; rw [gQ, hQ]; rfl)
   have HHD := Lib.hid (show headB r = hd by unfold headB; rw [gQ, hQ]; rfl)
   have HPS2 := Lib.hid hps2
   clear gQ hps2 hpf2
   go_wp2_with fail
   refine (hsp _).mono ?_
   clear hsp
   rintro e' w2 ⟨A2, cap2, rfl, hT2, _, hb2⟩
   have hst2 := hst.keep hb2
   generalize hq : Q.length = q at *
   have HQL := Lib.hid hq
   clear hq hst hb2 hcr hab
   have HQ := Lib.hid hQ
   clear hQ
   go_wp2_with fail
   obtain ⟨wo, rfl⟩ : ∃ wo : World, wo = wr := ⟨_, rfl⟩
   go_loopw [12, 13] (fun xv jv wx => ∃ (j : Nat) (xs : List Int), 1 ≤ j ∧ j ≤ q ∧ jv = .int .i64 j ∧ nums (ws.take (j - 1)) = some xs ∧ Own wx w2.heap.size xv xs ∧ Below w2.heap.size w2 wx) (fun _ jv _ => q - (intOf jv).toNat)
   case atStart => exact ⟨1, [], Nat.le_refl _, hpl2.1, rfl, rfl, Own.nil _ _, fr_refl _⟩
   case round =>
    obtain ⟨j, xs, hj1, hjq, rfl, hnum, hown, hbx⟩ := hrel
    have hxl : xs.length = j - 1 := by rw [nums_len hnum, List.length_take]; have := HQL.out; rw [HQ.out, List.length_cons] at this; omega
    obtain ⟨B, b, rfl⟩ := hown.form
    have HXL := Lib.hid hxl
    have HNU := Lib.hid hnum
    clear hnum hxl
    by_cases hltj : j < q
    ·obtain ⟨wd, hwd⟩ : ∃ wd, Q[j]? = some wd := ⟨_, List.getElem?_eq_getElem (by have := HQL.out; omega)⟩
     obtain ⟨ad, rfl, hab, hcw⟩ := (hT2.keep hbx).2 j wd hwd
     have hwl : wd.length ≤ 500 := Nat.le_trans (HPS2.out wd (List.mem_of_getElem? hwd)) hlr
     have hw1 : ws[j - 1]? = some wd := by
      rw [HQ.out] at hwd
      obtain ⟨i, rfl⟩ : ∃ i, j = i + 1 := ⟨j - 1, by omega⟩
      rw [List.getElem?_cons_succ] at hwd
      exact hwd
     have HW := Lib.hid hw1
     unfold strV at hcw
     have hji : (j : Int) < (q : Int) := by omega
     have hj0 : (0 : Int) ≤ (j : Int) := Int.natCast_nonneg j
     clear hwd hw1
     go_wp2_with fail
     refine (rnumber_is wd _ (by omega)).mono ?_
     rintro e' w3 ⟨rfl, hb3⟩
     have hst3 := (hst2.keep hbx).keep hb3
     have hown3 := hown.keep hb3
     have hbx3 := fr_call hbx hb3
     cases hN : numB wd with
     | none =>
      have HNO := Lib.hid (show rread s = none by rw [HRR.out, rgo_stuck HRK.out HGO.out (rstep_t (by rw [HTO.out]; exact nums_fail HW.out hN))]; rfl)
      simp only [Option.getD_none]
      clear hab hcw
      obtain ⟨_, _, _, hZ1, hZ2, hf5, _, _⟩ := hst3
      go_wp2_with (first | (refine wpList_store_blk rfl _ _ _ rfl w.heap.size 24 _ _ rfl rfl hZ1 rfl (by kernel_rfl) (by simp [Value.oneCell']) ?_; intro Wa hCa hga; have hMa := hZ2.grown hga (by simp)) | (refine wpList_store_blk rfl _ _ _ rfl (w.heap.size + 1) 26 _ _ rfl rfl hMa rfl (by kernel_rfl) (by simp [Value.oneCell']) ?_; intro Wb hM7 hgb; have hC7 := hCa.grown hgb (by simp)))
      have hf7 : Below w.heap.size w Wb := ((hf5).grown hga (hf5).size (by intro k hk; cases hk; omega)).grown hgb ((hf5).grown hga (hf5).size (by intro k hk; cases hk; omega)).size (by intro k hk; cases hk; omega)
      refine bodyPost_ret (results_blk_two rfl _ _ _ _ _ _ _ rfl rfl hC7 hM7 Tryz.underlying24 rfl (by kernel_rfl) Tryz.underlying26 rfl (by kernel_rfl)) rfl ⟨hf7, Or.inl ⟨HNO.out, rfl⟩⟩
     | some v =>
      have hv := numB_some hN
      obtain ⟨hv1, hv2⟩ := hv.1
      have hvn : ¬ v < 0 := by omega
      have hvd : decide (v < 0) = false := decide_eq_false hvn
      have HN2 := Lib.hid hN
      simp only [Option.getD_some]
      clear hv hN hab hcw
      go_wp2_with (at_builtin; refine app_int rfl (.tmp 46) (.tmp 48) rfl w2.heap.size _ xs rfl rfl hown3 (by have := HXL.out; omega) hbx3.size ?_; intro B2 cap3 wC hown' hg)
      have ha := fr_alloc (fr_refl w3) (.cells #[.int .i64 v] 3)
      have hge := own_ge hown3
      refine ⟨⟨j + 1, xs ++ [v], by omega, by omega, by go_num, ?_, hown', (fr_call hbx3 ha).grown hg (fr_call hbx3 ha).size hge⟩, ?_⟩
      ·have hw := (List.getElem?_eq_some_iff.1 HW.out).2
       have hjl := (List.getElem?_eq_some_iff.1 HW.out).1
       rw [show j + 1 - 1 = (j - 1) + 1 by omega, List.take_succ_eq_append_getElem hjl, hw, nums_snoc, HNU.out, HN2.out]
      ·simp [intOf]; omega
    ·obtain rfl : j = q := by omega
     have hwsl : ws.length = j - 1 := by have := HQL.out; rw [HQ.out, List.length_cons] at this; omega
     have hfin := HNU.out
     rw [List.take_of_length_le (by omega)] at hfin
     have HT := Lib.hid (HTO.out.trans hfin)
     have hQ0 : Q[0]? = some hd := by rw [HQ.out]; rfl
     obtain ⟨ad, rfl, hab, hcw⟩ := (hT2.keep hbx).2 0 hd hQ0
     have hhl : hd.length ≤ 500 := Nat.le_trans (HPS2.out hd (List.mem_of_getElem? hQ0)) hlr
     rw [show ad.add 0 = ad by unfold Addr.add; simp] at hcw
     unfold strV at hcw
     have hst3 := hst2.keep hbx
     have hrX := hown.rd
     have hcapX := hown.cap
     have hTX := TagI.of_own hown
     have hxs : xs.length ≤ 500 := by have := HXL.out; omega
     clear hfin hQ0 hwsl hown hbx
     generalize hnx : xs.length = nx at *
     have HNX := Lib.hid hnx
     clear hnx
     go_wp2_with fail
     refine (rfact_any hd B b nx xs _ hrX hcapX (by omega)).mono ?_
     rintro e' w3 ⟨hff, hb3⟩
     have hst4 := hst3.keep hb3
     have hrX3 := hrX.keep hb3
     have hTX3 := hTX.keep hb3
     have hcw3 := (hb3.cell hab).trans hcw
     have hab3 := Nat.lt_of_lt_of_le hab hb3.size
     clear hst3 hrX hTX hcw hab hst2 hb3
     rcases hff with ⟨⟨fk, fm, fd, fv⟩, hf, rfl⟩ | ⟨hf, rfl⟩
     ·have HST := Lib.hid (rstep_fact (st := st) HT.out (by rw [HHD.out]; exact hf))
      have hb34 : ∀ w4, (w3.alloc (.cells #[.int .i64 0, .int .i64 0, .int .i64 0, .int .i64 0] 69)).grownBy w4 (some w3.heap.size) → Below w3.heap.size w3 w4 := fun w4 hg => (fr_alloc (fr_refl w3) _).grown hg (fr_alloc (fr_refl w3) _).size (by intro k hk; cases hk; exact Nat.le_refl _)
      have hlm : (st.l.map Fact.row).length < 1000000 := by rw [List.length_map]; omega
      clear hf
      go_wp2_with (first | (refine wpList_store_blk rfl _ _ _ rfl w3.heap.size 69 _ _ rfl rfl (Blk.new w3 _ _) rfl (by kernel_rfl) (by simp [Value.oneCell']) ?_; intro w4 hF4 hg4; have hst5 := hst4.keep (hb34 w4 hg4); have hcF := fun i => hF4.cell i; have hfF := fun i => hF4.frozen i; have hlF := hF4.lt; have hown5 := hst5.2.2.1; have hbs5 := hst5.2.1.lt) | (at_builtin; refine app_row rfl (.tmp 59) (.tmp 61) rfl Tryz.underlying27 info_fact rfl (by decide) (by decide) (w.heap.size + 1 + 1 + 1 + 1) _ _ rfl rfl hown5 rfl (by simp [Value.oneCell']) hlm (by omega) ?_; intro L2 lc2 wC hownC hgC))
      have hst6 := (hst5.keep (fr_alloc (fr_refl w4) (.cells #[.int .i64 fk, .int .i64 fm, .int .i64 fd, .int .i64 fv] 69))).fact (f := ⟨fk, fm, fd, fv⟩) hgC (by rw [List.map_append]; exact hownC)
      refine ⟨⟨k + 1, { st with l := st.l ++ [⟨fk, fm, fd, fv⟩] }, by omega, by go_num, rgo_next HRK.out HGO.out HST.out, by simp; omega, hcl, by simpa using hst6⟩, ?_⟩
      simp [intOf]; omega
     ·have hb34 : ∀ w4, (w3.alloc (.cells #[.int .i64 0, .int .i64 0, .int .i64 0, .int .i64 0] 69)).grownBy w4 (some w3.heap.size) → Below w3.heap.size w3 w4 := fun w4 hg => (fr_alloc (fr_refl w3) _).grown hg (fr_alloc (fr_refl w3) _).size (by intro k hk; cases hk; exact Nat.le_refl _)
      by_cases hw0 : hd = [99, 97, 108, 101, 110, 100, 97, 114]
      ·subst hw0
       rcases xs with _ | ⟨e0, cs0⟩
       ·obtain rfl : nx = 0 := by have := HNX.out; simpa using this.symm
        have HNO := Lib.hid (show rread s = none by rw [HRR.out, rgo_stuck HRK.out HGO.out (rstep_no HT.out (by rw [HHD.out]; exact hf) (fun e => absurd e.2 (by simp)) (fun e => absurd (HHD.out.symm.trans e.1) (by decide)))]; rfl)
        clear hf
        go_wp2_with (first | (refine wpList_store_blk rfl _ _ _ rfl w3.heap.size 69 _ _ rfl rfl (Blk.new w3 _ _) rfl (by kernel_rfl) (by simp [Value.oneCell']) ?_; intro w4 hF4 hg4; have hst5 := hst4.keep (hb34 w4 hg4); have hrX5 := hrX3.keep (hb34 w4 hg4); have hTX5 := hTX3.keep (hb34 w4 hg4); have hcw5 := ((hb34 w4 hg4).cell hab3).trans hcw3; have hab5 := Nat.lt_of_lt_of_le hab3 (hb34 w4 hg4).size ; obtain ⟨_, _, _, hZ1, hZ2, hf5, _, _⟩ := hst5) | (refine wpList_store_blk rfl _ _ _ rfl w.heap.size 24 _ _ rfl rfl hZ1 rfl (by kernel_rfl) (by simp [Value.oneCell']) ?_; intro Wa hCa hga; have hMa := hZ2.grown hga (by simp)) | (refine wpList_store_blk rfl _ _ _ rfl (w.heap.size + 1) 26 _ _ rfl rfl hMa rfl (by kernel_rfl) (by simp [Value.oneCell']) ?_; intro Wb hM7 hgb; have hC7 := hCa.grown hgb (by simp)))
        have hf7 : Below w.heap.size w Wb := ((hf5).grown hga (hf5).size (by intro k hk; cases hk; omega)).grown hgb ((hf5).grown hga (hf5).size (by intro k hk; cases hk; omega)).size (by intro k hk; cases hk; omega)
        refine bodyPost_ret (results_blk_two rfl _ _ _ _ _ _ _ rfl rfl hC7 hM7 Tryz.underlying24 rfl (by kernel_rfl) Tryz.underlying26 rfl (by kernel_rfl)) rfl ⟨hf7, Or.inl ⟨HNO.out, rfl⟩⟩
       ·obtain rfl : nx = cs0.length + 1 := by have := HNX.out; simpa using this.symm
        have HST := Lib.hid (show rstep st r = some { st with e := e0, cs := cs0 } from rstep_cal (st := st) HT.out (by rw [HHD.out]; exact hf) HHD.out (by simp))
        have hl01 : (0 : Int) < (cs0.length : Int) + 1 := by omega
        have hl02 : 0 < cs0.length + 1 := by omega
        have hl03 : decide ((0 : Int) < (cs0.length : Int) + 1) = true := decide_eq_true hl01
        have hl11 : (1 : Int) ≤ (cs0.length : Int) + 1 := by omega
        have hl12 : (cs0.length : Int) + 1 ≤ (b : Int) := by omega
        have hl13 : (1 : Int) ≤ (b : Int) := by omega
        have hcs0 : cs0.length ≤ 500 := by omega
        clear hf
        go_upto_region 21 with ((refine wpList_store_blk rfl _ _ _ rfl w3.heap.size 69 _ _ rfl rfl (Blk.new w3 _ _) rfl (by kernel_rfl) (by simp [Value.oneCell']) ?_; intro w4 hF4 hg4; have hst5 := hst4.keep (hb34 w4 hg4); have hrX5 := hrX3.keep (hb34 w4 hg4); have hTX5 := hTX3.keep (hb34 w4 hg4); have hcw5 := ((hb34 w4 hg4).cell hab3).trans hcw3; have hab5 := Nat.lt_of_lt_of_le hab3 (hb34 w4 hg4).size))
        obtain ⟨adB, rfl, habB, hx0⟩ := hrX5.at_ (show 0 < cs0.length + 1 by omega)
        rw [show adB.add 0 = adB by unfold Addr.add; simp] at hx0
        have hx0' : w4.cell? adB = some (.int .i64 e0) := hx0
        clear hx0
        obtain ⟨⟨Ac, cc, hOld, _, _⟩, _⟩ := id hst5
        have hneB : ¬ adB.block = w.heap.size + 1 + 1 := hTX5.ne hOld (by decide) adB rfl
        by_cases hc1 : b = 1
        ·obtain rfl : cs0 = [] := List.eq_nil_of_length_eq_zero (by omega)
         subst hc1
         refine wp_region_noPanic ?_
         refine wp_region_held_drew (S := fun W => (∀ p : Addr, ¬ p.block = w.heap.size + 1 + 1 → p.block < w4.heap.size → W.cell? p = w4.cell? p) ∧ w4.grownBy W (some (w.heap.size + 1 + 1))) (by kernel_rfl) ⟨fun _ _ _ => rfl, grown_below (World.grownBy.refl w4 _) (fr_drew (fr_refl _))⟩ (fun hHeld => ?_)
         -- the region, step by step
         refine wpAnyH_take (i := 0) (oi := ⟨some 72, .move (.tmp 12), 22, "ref.go:606", #[], none⟩) (v := ?_) rfl (by kernel_rfl) (by kernel_rfl) (by kernel_rfl) (fun _ _ _ h => h) (Or.inl ⟨by rfl, fun W hSw => ?_⟩) hHeld ?_
         rotate_left
         ·(try dsimp only at hSw); go_simp; (try with_reducible rfl)
         (try simp only [Act.put, List.setIfInBounds_toArray, List.set_cons_zero, List.set_cons_succ])
         refine wpAnyH_take (i := 1) (oi := ⟨some 73, .indexAddr 22 (.tmp 72) (.const (.int .i64 0)), 0, "ref.go:606", #[⟨0, .data⟩], none⟩) (v := ?_) rfl (by kernel_rfl) (by kernel_rfl) (by kernel_rfl) (fun _ _ _ h => h) (Or.inl ⟨by rfl, fun W hSw => ?_⟩) hHeld ?_
         rotate_left
         ·(try dsimp only at hSw); go_simp; (try with_reducible rfl)
         (try simp only [Act.put, List.setIfInBounds_toArray, List.set_cons_zero, List.set_cons_succ])
         refine wpAnyH_take (i := 2) (oi := ⟨some 74, .load 3 (.tmp 73), 3, "ref.go:606", #[⟨1, .data⟩], none⟩) (v := ?_) rfl (by kernel_rfl) (by kernel_rfl) (by kernel_rfl) (fun _ _ _ h => h) (Or.inl ⟨by rfl, fun W hSw => ?_⟩) hHeld ?_
         rotate_left
         ·(try dsimp only at hSw); go_simp; (try with_reducible rfl)
         (try simp only [Act.put, List.setIfInBounds_toArray, List.set_cons_zero, List.set_cons_succ])
         refine wpAnyH_take (i := 3) (oi := ⟨some 75, .move (.tmp 12), 22, "ref.go:606", #[], none⟩) (v := ?_) rfl (by kernel_rfl) (by kernel_rfl) (by kernel_rfl) (fun _ _ _ h => h) (Or.inl ⟨by rfl, fun W hSw => ?_⟩) hHeld ?_
         rotate_left
         ·(try dsimp only at hSw); go_simp; (try with_reducible rfl)
         (try simp only [Act.put, List.setIfInBounds_toArray, List.set_cons_zero, List.set_cons_succ])
         refine wpAnyH_take (i := 4) (oi := ⟨some 76, .slice 22 (.tmp 75) (some (.const (.int .i64 1))) none none, 22, "ref.go:606", #[⟨3, .data⟩], none⟩) (v := ?_) rfl (by kernel_rfl) (by kernel_rfl) (by kernel_rfl) (fun _ _ _ h => h) (Or.inl ⟨by rfl, fun W hSw => ?_⟩) hHeld ?_
         rotate_left
         ·(try dsimp only at hSw); go_simp; (try with_reducible rfl)
         (try simp only [Act.put, List.setIfInBounds_toArray, List.set_cons_zero, List.set_cons_succ])
         refine wpAnyH_take (i := 5) (oi := ⟨some 77, .build 24 #[(0, .tmp 74), (1, .tmp 76)], 24, "ref.go:606", #[⟨2, .data⟩, ⟨4, .data⟩], none⟩) (v := ?_) rfl (by kernel_rfl) (by kernel_rfl) (by kernel_rfl) (fun _ _ _ h => h) (Or.inl ⟨by rfl, fun W hSw => ?_⟩) hHeld ?_
         rotate_left
         ·(try dsimp only at hSw); go_simp; (try with_reducible rfl)
         (try simp only [Act.put, List.setIfInBounds_toArray, List.set_cons_zero, List.set_cons_succ])
         refine wpAnyH_ready (rs := [6]) (by kernel_rfl) (by simp) ?_
         refine AllReadyH.cons (o := ⟨none, .store 24 (.tmp 6) (.tmp 77), 0, "ref.go:606", #[⟨5, .data⟩, ⟨0, .phase⟩, ⟨1, .phase⟩, ⟨2, .phase⟩, ⟨3, .phase⟩, ⟨4, .phase⟩, ⟨5, .phase⟩], none⟩) rfl (fun K hK => ?_) AllReadyH.nil
         rw [if_pos (by rfl)]
         refine wp_store_blk _ _ _ rfl (w.heap.size + 1 + 1) 24 _ _ rfl rfl (hOld.drew) rfl (by kernel_rfl) (by simp [Value.oneCell']) ?_
         intro W5 hR5 hg5
         refine hK.out _ _ (⟨fun p hp hq => (World.cell?_of_block (hg5.block p.block (by simpa using hq) (by simpa using hp))).trans (hHeld.1 p hp hq), grown_trans hHeld.2 hg5⟩) (fun hHeld => ?_)
         clear hK K
         refine wpAnyH_done (by kernel_rfl) ?_ _
         refine NoPanic.normal ?_
         go_wp2_with fail
         refine ⟨⟨k + 1, { st with e := e0, cs := [] }, by omega, by go_num, rgo_next HRK.out HGO.out HST.out, by simp; omega, hcs0, hst5.cal hHeld.2 hR5 (Rd.nil_ _ _) ?_⟩, ?_⟩
         ·exact hTX5
         ·simp [intOf]; omega
        ·have hc1i : ¬ (b : Int) = 1 := by omega
         have hrt := hrX5.tail_
         refine wp_region_noPanic ?_
         refine wp_region_held_drew (S := fun W => (∀ p : Addr, ¬ p.block = w.heap.size + 1 + 1 → p.block < w4.heap.size → W.cell? p = w4.cell? p) ∧ w4.grownBy W (some (w.heap.size + 1 + 1))) (by kernel_rfl) ⟨fun _ _ _ => rfl, grown_below (World.grownBy.refl w4 _) (fr_drew (fr_refl _))⟩ (fun hHeld => ?_)
         -- the region, step by step
         refine wpAnyH_take (i := 0) (oi := ⟨some 72, .move (.tmp 12), 22, "ref.go:606", #[], none⟩) (v := ?_) rfl (by kernel_rfl) (by kernel_rfl) (by kernel_rfl) (fun _ _ _ h => h) (Or.inl ⟨by rfl, fun W hSw => ?_⟩) hHeld ?_
         rotate_left
         ·(try dsimp only at hSw); go_simp; (try with_reducible rfl)
         (try simp only [Act.put, List.setIfInBounds_toArray, List.set_cons_zero, List.set_cons_succ])
         refine wpAnyH_take (i := 1) (oi := ⟨some 73, .indexAddr 22 (.tmp 72) (.const (.int .i64 0)), 0, "ref.go:606", #[⟨0, .data⟩], none⟩) (v := ?_) rfl (by kernel_rfl) (by kernel_rfl) (by kernel_rfl) (fun _ _ _ h => h) (Or.inl ⟨by rfl, fun W hSw => ?_⟩) hHeld ?_
         rotate_left
         ·(try dsimp only at hSw); go_simp; (try with_reducible rfl)
         (try simp only [Act.put, List.setIfInBounds_toArray, List.set_cons_zero, List.set_cons_succ])
         refine wpAnyH_take (i := 2) (oi := ⟨some 74, .load 3 (.tmp 73), 3, "ref.go:606", #[⟨1, .data⟩], none⟩) (v := ?_) rfl (by kernel_rfl) (by kernel_rfl) (by kernel_rfl) (fun _ _ _ h => h) (Or.inl ⟨by rfl, fun W hSw => ?_⟩) hHeld ?_
         rotate_left
         ·(try dsimp only at hSw); go_simp; (try with_reducible rfl)
         (try simp only [Act.put, List.setIfInBounds_toArray, List.set_cons_zero, List.set_cons_succ])
         refine wpAnyH_take (i := 3) (oi := ⟨some 75, .move (.tmp 12), 22, "ref.go:606", #[], none⟩) (v := ?_) rfl (by kernel_rfl) (by kernel_rfl) (by kernel_rfl) (fun _ _ _ h => h) (Or.inl ⟨by rfl, fun W hSw => ?_⟩) hHeld ?_
         rotate_left
         ·(try dsimp only at hSw); go_simp; (try with_reducible rfl)
         (try simp only [Act.put, List.setIfInBounds_toArray, List.set_cons_zero, List.set_cons_succ])
         refine wpAnyH_take (i := 4) (oi := ⟨some 76, .slice 22 (.tmp 75) (some (.const (.int .i64 1))) none none, 22, "ref.go:606", #[⟨3, .data⟩], none⟩) (v := ?_) rfl (by kernel_rfl) (by kernel_rfl) (by kernel_rfl) (fun _ _ _ h => h) (Or.inl ⟨by rfl, fun W hSw => ?_⟩) hHeld ?_
         rotate_left
         ·(try dsimp only at hSw); go_simp; (try with_reducible rfl)
         (try simp only [Act.put, List.setIfInBounds_toArray, List.set_cons_zero, List.set_cons_succ])
         refine wpAnyH_take (i := 5) (oi := ⟨some 77, .build 24 #[(0, .tmp 74), (1, .tmp 76)], 24, "ref.go:606", #[⟨2, .data⟩, ⟨4, .data⟩], none⟩) (v := ?_) rfl (by kernel_rfl) (by kernel_rfl) (by kernel_rfl) (fun _ _ _ h => h) (Or.inl ⟨by rfl, fun W hSw => ?_⟩) hHeld ?_
         rotate_left
         ·(try dsimp only at hSw); go_simp; (try with_reducible rfl)
         (try simp only [Act.put, List.setIfInBounds_toArray, List.set_cons_zero, List.set_cons_succ])
         refine wpAnyH_ready (rs := [6]) (by kernel_rfl) (by simp) ?_
         refine AllReadyH.cons (o := ⟨none, .store 24 (.tmp 6) (.tmp 77), 0, "ref.go:606", #[⟨5, .data⟩, ⟨0, .phase⟩, ⟨1, .phase⟩, ⟨2, .phase⟩, ⟨3, .phase⟩, ⟨4, .phase⟩, ⟨5, .phase⟩], none⟩) rfl (fun K hK => ?_) AllReadyH.nil
         rw [if_pos (by rfl)]
         refine wp_store_blk _ _ _ rfl (w.heap.size + 1 + 1) 24 _ _ rfl rfl (hOld.drew) rfl (by kernel_rfl) (by simp [Value.oneCell']) ?_
         intro W5 hR5 hg5
         refine hK.out _ _ (⟨fun p hp hq => (World.cell?_of_block (hg5.block p.block (by simpa using hq) (by simpa using hp))).trans (hHeld.1 p hp hq), grown_trans hHeld.2 hg5⟩) (fun hHeld => ?_)
         clear hK K
         refine wpAnyH_done (by kernel_rfl) ?_ _
         refine NoPanic.normal ?_
         go_wp2_with fail
         refine ⟨⟨k + 1, { st with e := e0, cs := cs0 }, by omega, by go_num, rgo_next HRK.out HGO.out HST.out, by simp; omega, hcs0, hst5.cal hHeld.2 hR5 hrt (hTX5.tail (j := 1))⟩, ?_⟩
         simp [intOf]; omega
      ·by_cases hw1 : hd = [109, 111, 111, 110]
       ·subst hw1
        by_cases hn3 : nx = 3
        ·subst hn3
         obtain ⟨x, y, z, rfl⟩ := list3 HNX.out
         have HST := Lib.hid (show rstep st r = some { st with num := x, den := y, add := z } from rstep_moon (st := st) HT.out (by rw [HHD.out]; exact hf) HHD.out rfl)
         clear hf
         go_upto_region 23 with ((refine wpList_store_blk rfl _ _ _ rfl w3.heap.size 69 _ _ rfl rfl (Blk.new w3 _ _) rfl (by kernel_rfl) (by simp [Value.oneCell']) ?_; intro w4 hF4 hg4; have hst5 := hst4.keep (hb34 w4 hg4); have hrX5 := hrX3.keep (hb34 w4 hg4); have hTX5 := hTX3.keep (hb34 w4 hg4); have hcw5 := ((hb34 w4 hg4).cell hab3).trans hcw3; have hab5 := Nat.lt_of_lt_of_le hab3 (hb34 w4 hg4).size))
         obtain ⟨adB, rfl, habB, hx0⟩ := hrX5.at_ (show 0 < 3 by omega)
         obtain ⟨adC, e1, _, hx1⟩ := hrX5.at_ (show 1 < 3 by omega)
         obtain rfl : adB = adC := by injection e1
         obtain ⟨adC, e2, _, hx2⟩ := hrX5.at_ (show 2 < 3 by omega)
         obtain rfl : adB = adC := by injection e2
         clear e1 e2
         rw [show adB.add 0 = adB by unfold Addr.add; simp] at hx0
         have hx0' : w4.cell? adB = some (.int .i64 x) := hx0
         have hx1' : w4.cell? (adB.add 1) = some (.int .i64 y) := hx1
         have hx2' : w4.cell? (adB.add 2) = some (.int .i64 z) := hx2
         have hab1 : (adB.add 1).block < w4.heap.size := by rw [block_of_add]; exact habB
         have hab2 : (adB.add 2).block < w4.heap.size := by rw [block_of_add]; exact habB
         have hx1'' := hx1'
         rw [show adB.add 1 = ⟨adB.block, adB.off + 1, none⟩ by unfold Addr.add; simp] at hx1''
         have hx2'' := hx2'
         rw [show adB.add 2 = ⟨adB.block, adB.off + 2, none⟩ by unfold Addr.add; simp] at hx2''
         clear hx0 hx1 hx2
         obtain ⟨_, hOld, _⟩ := id hst5
         have hneB : ¬ adB.block = w.heap.size + 1 + 1 + 1 := hTX5.ne hOld (by decide) adB rfl
         refine wp_region_noPanic ?_
         refine wp_region_held_drew (S := fun W => (∀ p : Addr, ¬ p.block = w.heap.size + 1 + 1 + 1 → p.block < w4.heap.size → W.cell? p = w4.cell? p) ∧ w4.grownBy W (some (w.heap.size + 1 + 1 + 1))) (by kernel_rfl) ⟨fun _ _ _ => rfl, grown_below (World.grownBy.refl w4 _) (fr_drew (fr_refl _))⟩ (fun hHeld => ?_)
         -- the region, step by step
         refine wpAnyH_take (i := 0) (oi := ⟨some 87, .move (.tmp 12), 22, "ref.go:608", #[], none⟩) (v := ?_) rfl (by kernel_rfl) (by kernel_rfl) (by kernel_rfl) (fun _ _ _ h => h) (Or.inl ⟨by rfl, fun W hSw => ?_⟩) hHeld ?_
         rotate_left
         ·(try dsimp only at hSw); go_simp; (try with_reducible rfl)
         (try simp only [Act.put, List.setIfInBounds_toArray, List.set_cons_zero, List.set_cons_succ])
         refine wpAnyH_take (i := 1) (oi := ⟨some 88, .indexAddr 22 (.tmp 87) (.const (.int .i64 0)), 0, "ref.go:608", #[⟨0, .data⟩], none⟩) (v := ?_) rfl (by kernel_rfl) (by kernel_rfl) (by kernel_rfl) (fun _ _ _ h => h) (Or.inl ⟨by rfl, fun W hSw => ?_⟩) hHeld ?_
         rotate_left
         ·(try dsimp only at hSw); go_simp; (try with_reducible rfl)
         (try simp only [Act.put, List.setIfInBounds_toArray, List.set_cons_zero, List.set_cons_succ])
         refine wpAnyH_take (i := 2) (oi := ⟨some 89, .load 3 (.tmp 88), 3, "ref.go:608", #[⟨1, .data⟩], none⟩) (v := ?_) rfl (by kernel_rfl) (by kernel_rfl) (by kernel_rfl) (fun _ _ _ h => h) (Or.inl ⟨by rfl, fun W hSw => ?_⟩) hHeld ?_
         rotate_left
         ·(try dsimp only at hSw); go_simp; (try with_reducible rfl)
         (try simp only [Act.put, List.setIfInBounds_toArray, List.set_cons_zero, List.set_cons_succ])
         refine wpAnyH_take (i := 3) (oi := ⟨some 90, .move (.tmp 12), 22, "ref.go:608", #[], none⟩) (v := ?_) rfl (by kernel_rfl) (by kernel_rfl) (by kernel_rfl) (fun _ _ _ h => h) (Or.inl ⟨by rfl, fun W hSw => ?_⟩) hHeld ?_
         rotate_left
         ·(try dsimp only at hSw); go_simp; (try with_reducible rfl)
         (try simp only [Act.put, List.setIfInBounds_toArray, List.set_cons_zero, List.set_cons_succ])
         refine wpAnyH_take (i := 4) (oi := ⟨some 91, .indexAddr 22 (.tmp 90) (.const (.int .i64 1)), 0, "ref.go:608", #[⟨3, .data⟩], none⟩) (v := ?_) rfl (by kernel_rfl) (by kernel_rfl) (by kernel_rfl) (fun _ _ _ h => h) (Or.inl ⟨by rfl, fun W hSw => ?_⟩) hHeld ?_
         rotate_left
         ·(try dsimp only at hSw); go_simp; (try with_reducible rfl)
         (try simp only [Act.put, List.setIfInBounds_toArray, List.set_cons_zero, List.set_cons_succ])
         refine wpAnyH_take (i := 5) (oi := ⟨some 92, .load 3 (.tmp 91), 3, "ref.go:608", #[⟨4, .data⟩], none⟩) (v := ?_) rfl (by kernel_rfl) (by kernel_rfl) (by kernel_rfl) (fun _ _ _ h => h) (Or.inl ⟨by rfl, fun W hSw => ?_⟩) hHeld ?_
         rotate_left
         ·(try dsimp only at hSw); go_simp; (try with_reducible rfl)
         (try simp only [Act.put, List.setIfInBounds_toArray, List.set_cons_zero, List.set_cons_succ])
         refine wpAnyH_take (i := 6) (oi := ⟨some 93, .move (.tmp 12), 22, "ref.go:608", #[], none⟩) (v := ?_) rfl (by kernel_rfl) (by kernel_rfl) (by kernel_rfl) (fun _ _ _ h => h) (Or.inl ⟨by rfl, fun W hSw => ?_⟩) hHeld ?_
         rotate_left
         ·(try dsimp only at hSw); go_simp; (try with_reducible rfl)
         (try simp only [Act.put, List.setIfInBounds_toArray, List.set_cons_zero, List.set_cons_succ])
         refine wpAnyH_take (i := 7) (oi := ⟨some 94, .indexAddr 22 (.tmp 93) (.const (.int .i64 2)), 0, "ref.go:608", #[⟨6, .data⟩], none⟩) (v := ?_) rfl (by kernel_rfl) (by kernel_rfl) (by kernel_rfl) (fun _ _ _ h => h) (Or.inl ⟨by rfl, fun W hSw => ?_⟩) hHeld ?_
         rotate_left
         ·(try dsimp only at hSw); go_simp; (try with_reducible rfl)
         (try simp only [Act.put, List.setIfInBounds_toArray, List.set_cons_zero, List.set_cons_succ])
         refine wpAnyH_take (i := 8) (oi := ⟨some 95, .load 3 (.tmp 94), 3, "ref.go:608", #[⟨7, .data⟩], none⟩) (v := ?_) rfl (by kernel_rfl) (by kernel_rfl) (by kernel_rfl) (fun _ _ _ h => h) (Or.inl ⟨by rfl, fun W hSw => ?_⟩) hHeld ?_
         rotate_left
         ·(try dsimp only at hSw); go_simp; (try with_reducible rfl)
         (try simp only [Act.put, List.setIfInBounds_toArray, List.set_cons_zero, List.set_cons_succ])
         refine wpAnyH_take (i := 9) (oi := ⟨some 96, .build 26 #[(0, .tmp 89), (1, .tmp 92), (2, .tmp 95)], 26, "ref.go:608", #[⟨2, .data⟩, ⟨5, .data⟩, ⟨8, .data⟩], none⟩) (v := ?_) rfl (by kernel_rfl) (by kernel_rfl) (by kernel_rfl) (fun _ _ _ h => h) (Or.inl ⟨by rfl, fun W hSw => ?_⟩) hHeld ?_
         rotate_left
         ·(try dsimp only at hSw); go_simp; (try with_reducible rfl)
         (try simp only [Act.put, List.setIfInBounds_toArray, List.set_cons_zero, List.set_cons_succ])
         refine wpAnyH_ready (rs := [10]) (by kernel_rfl) (by simp) ?_
         refine AllReadyH.cons (o := ⟨none, .store 26 (.tmp 7) (.tmp 96), 0, "ref.go:608", #[⟨9, .data⟩, ⟨0, .phase⟩, ⟨1, .phase⟩, ⟨2, .phase⟩, ⟨3, .phase⟩, ⟨4, .phase⟩, ⟨5, .phase⟩, ⟨6, .phase⟩, ⟨7, .phase⟩, ⟨8, .phase⟩, ⟨9, .phase⟩], none⟩) rfl (fun K hK => ?_) AllReadyH.nil
         rw [if_pos (by rfl)]
         refine wp_store_blk _ _ _ rfl (w.heap.size + 1 + 1 + 1) 26 _ _ rfl rfl (hOld.drew) rfl (by kernel_rfl) (by simp [Value.oneCell']) ?_
         intro W5 hR5 hg5
         refine hK.out _ _ (⟨fun p hp hq => (World.cell?_of_block (hg5.block p.block (by simpa using hq) (by simpa using hp))).trans (hHeld.1 p hp hq), grown_trans hHeld.2 hg5⟩) (fun hHeld => ?_)
         clear hK K
         refine wpAnyH_done (by kernel_rfl) ?_ _
         refine NoPanic.normal ?_
         go_wp2_with fail
         refine ⟨⟨k + 1, { st with num := x, den := y, add := z }, by omega, by go_num, rgo_next HRK.out HGO.out HST.out, by simp; omega, hcl, hst5.moon hHeld.2 hR5⟩, ?_⟩
         simp [intOf]; omega
        ·have hn3b : ((nx : Int) == 3) = false := beq_eq_false_iff_ne.2 (by omega)
         have HNO := Lib.hid (show rread s = none by rw [HRR.out, rgo_stuck HRK.out HGO.out (rstep_no HT.out (by rw [HHD.out]; exact hf) (fun e => absurd (HHD.out.symm.trans e.1) (by decide)) (fun e => hn3 (HNX.out.symm.trans e.2)))]; rfl)
         clear hf
         go_wp2_with (first | (refine wpList_store_blk rfl _ _ _ rfl w3.heap.size 69 _ _ rfl rfl (Blk.new w3 _ _) rfl (by kernel_rfl) (by simp [Value.oneCell']) ?_; intro w4 hF4 hg4; have hst5 := hst4.keep (hb34 w4 hg4); have hrX5 := hrX3.keep (hb34 w4 hg4); have hTX5 := hTX3.keep (hb34 w4 hg4); have hcw5 := ((hb34 w4 hg4).cell hab3).trans hcw3; have hab5 := Nat.lt_of_lt_of_le hab3 (hb34 w4 hg4).size ; obtain ⟨_, _, _, hZ1, hZ2, hf5, _, _⟩ := hst5) | (refine wpList_store_blk rfl _ _ _ rfl w.heap.size 24 _ _ rfl rfl hZ1 rfl (by kernel_rfl) (by simp [Value.oneCell']) ?_; intro Wa hCa hga; have hMa := hZ2.grown hga (by simp)) | (refine wpList_store_blk rfl _ _ _ rfl (w.heap.size + 1) 26 _ _ rfl rfl hMa rfl (by kernel_rfl) (by simp [Value.oneCell']) ?_; intro Wb hM7 hgb; have hC7 := hCa.grown hgb (by simp)))
         have hf7 : Below w.heap.size w Wb := ((hf5).grown hga (hf5).size (by intro k hk; cases hk; omega)).grown hgb ((hf5).grown hga (hf5).size (by intro k hk; cases hk; omega)).size (by intro k hk; cases hk; omega)
         refine bodyPost_ret (results_blk_two rfl _ _ _ _ _ _ _ rfl rfl hC7 hM7 Tryz.underlying24 rfl (by kernel_rfl) Tryz.underlying26 rfl (by kernel_rfl)) rfl ⟨hf7, Or.inl ⟨HNO.out, rfl⟩⟩
       ·have HNO := Lib.hid (show rread s = none by rw [HRR.out, rgo_stuck HRK.out HGO.out (rstep_no HT.out (by rw [HHD.out]; exact hf) (fun e => hw0 (HHD.out.symm.trans e.1)) (fun e => hw1 (HHD.out.symm.trans e.1)))]; rfl)
        clear hf
        go_wp2_with (first | (refine wpList_store_blk rfl _ _ _ rfl w3.heap.size 69 _ _ rfl rfl (Blk.new w3 _ _) rfl (by kernel_rfl) (by simp [Value.oneCell']) ?_; intro w4 hF4 hg4; have hst5 := hst4.keep (hb34 w4 hg4); have hrX5 := hrX3.keep (hb34 w4 hg4); have hTX5 := hTX3.keep (hb34 w4 hg4); have hcw5 := ((hb34 w4 hg4).cell hab3).trans hcw3; have hab5 := Nat.lt_of_lt_of_le hab3 (hb34 w4 hg4).size ; obtain ⟨_, _, _, hZ1, hZ2, hf5, _, _⟩ := hst5) | (refine wpList_store_blk rfl _ _ _ rfl w.heap.size 24 _ _ rfl rfl hZ1 rfl (by kernel_rfl) (by simp [Value.oneCell']) ?_; intro Wa hCa hga; have hMa := hZ2.grown hga (by simp)) | (refine wpList_store_blk rfl _ _ _ rfl (w.heap.size + 1) 26 _ _ rfl rfl hMa rfl (by kernel_rfl) (by simp [Value.oneCell']) ?_; intro Wb hM7 hgb; have hC7 := hCa.grown hgb (by simp)))
        have hf7 : Below w.heap.size w Wb := ((hf5).grown hga (hf5).size (by intro k hk; cases hk; omega)).grown hgb ((hf5).grown hga (hf5).size (by intro k hk; cases hk; omega)).size (by intro k hk; cases hk; omega)
        refine bodyPost_ret (results_blk_two rfl _ _ _ _ _ _ _ rfl rfl hC7 hM7 Tryz.underlying24 rfl (by kernel_rfl) Tryz.underlying26 rfl (by kernel_rfl)) rfl ⟨hf7, Or.inl ⟨HNO.out, rfl⟩⟩

  ·obtain rfl : k = n - 2 := by omega
   have hki : ¬ ((n - 2 : Nat) : Int) < (n : Int) - 2 := by omega
   have hkd : decide (((n - 2 : Nat) : Int) < (n : Int) - 2) = false := decide_eq_false hki
   have hfull : rgo ⟨0, [], 0, 0, 0, []⟩ R = some st := by
    have := HGO.out
    rw [List.take_of_length_le (by have := HRl.out; omega)] at this
    exact this
   obtain ⟨ho1, ho2, ho3⟩ := rgo_ok R _ st alm0_ok hfull
   have HFU := Lib.hid (show rread s = readOf s (some st) by rw [HRR.out, hfull])
   have hb0 : (∀ x ∈ st.e :: st.cs, 0 ≤ x ∧ x ≤ 1000000) := fun x hx => by have := ho1 x hx; unfold Sm at this; omega
   have hb1 : (∀ x ∈ [st.num, st.den, st.add], 0 ≤ x ∧ x ≤ 1000000) := fun x hx => by have := ho2 x hx; unfold Sm at this; omega
   have hb2 := fun f hf => fact_ok_small (ho3 f hf)
   have HB0 := Lib.hid hb0
   have HB1 := Lib.hid hb1
   have HB2 := Lib.hid hb2
   obtain ⟨⟨A, c, hC, hrA, hTA⟩, hM, hown, hZ1, hZ2, hf5, _, _⟩ := hst
   obtain ⟨L, lc, rfl⟩ := hown.len4
   have hll5 : st.l.length ≤ 500 := by omega
   clear hfull ho1 ho2 ho3 hb0 hb1 hb2
   have kc0 : wr.cell? ⟨w.heap.size + 1 + 1, 0, none⟩ = some (.int .i64 st.e) := by rw [hC.cell]; rfl
   have kc1 : wr.cell? ⟨w.heap.size + 1 + 1, 1, none⟩ = some (.slice A st.cs.length c) := by rw [hC.cell]; rfl
   have km0 : wr.cell? ⟨w.heap.size + 1 + 1 + 1, 0, none⟩ = some (.int .i64 st.num) := by rw [hM.cell]; rfl
   have km1 : wr.cell? ⟨w.heap.size + 1 + 1 + 1, 1, none⟩ = some (.int .i64 st.den) := by rw [hM.cell]; rfl
   have km2 : wr.cell? ⟨w.heap.size + 1 + 1 + 1, 2, none⟩ = some (.int .i64 st.add) := by rw [hM.cell]; rfl
   go_wp2_with fail
   refine (rPrint_gen A L st.cs.length c lc st.cs st.e st.num st.den st.add st.l _ hrA hcl HB0.out HB1.out hown.rd hll5 (fun f hf => (HB2.out f hf).1) (fun f hf => (HB2.out f hf).2)).mono ?_
   obtain ⟨T, gT⟩ : ∃ T, textB (almRows st.e st.cs st.num st.den st.add st.l) = T := ⟨_, rfl⟩
   rw [gT]
   have GT := Lib.hid (show st.text = T from gT)
   clear gT
   rintro e' w6 ⟨rfl, hb6⟩
   replace hC := hC.keep hb6
   replace hM := hM.keep hb6
   replace hrA := hrA.keep hb6
   replace hTA := hTA.keep hb6
   replace hown := hown.keep hb6
   replace hZ1 := hZ1.keep hb6
   replace hZ2 := hZ2.keep hb6
   replace hf5 := fr_call hf5 hb6
   clear kc0 kc1 km0 km1 km2 hb6
   by_cases hTs : T = s
   ·subst hTs
    have HYES := Lib.hid (show rread T = some st by rw [HFU.out]; unfold readOf; simp only; rw [if_pos GT.out])
    have hA1 := hTA.ne hZ1 (by decide)
    have hA2 := hTA.ne hZ2 (by decide)
    have hne1 : ¬ w.heap.size + 1 = w.heap.size := by omega
    have hne2 : ¬ w.heap.size + 1 + 1 = w.heap.size := by omega
    have hne3 : ¬ w.heap.size + 1 + 1 + 1 = w.heap.size := by omega
    have hne4 : ¬ w.heap.size + 1 + 1 = w.heap.size + 1 := by omega
    have hne5 : ¬ w.heap.size + 1 + 1 + 1 = w.heap.size + 1 := by omega
    go_wp2_with fail
    refine wp_region_noPanic ?_
    refine wp_region_held_drew (S := fun W => ((∀ i, i < 2 → W.cell? ⟨w.heap.size + 1 + 1, i, none⟩ = w6.cell? ⟨w.heap.size + 1 + 1, i, none⟩) ∧ (∀ i, i < 3 → W.cell? ⟨w.heap.size + 1 + 1 + 1, i, none⟩ = w6.cell? ⟨w.heap.size + 1 + 1 + 1, i, none⟩)) ∧ Blk W (w.heap.size + 1 + 1) 24 #[.int .i64 st.e, .slice A st.cs.length c] ∧ Blk W (w.heap.size + 1 + 1 + 1) 26 #[.int .i64 st.num, .int .i64 st.den, .int .i64 st.add]) (by kernel_rfl) ⟨⟨fun _ _ => rfl, fun _ _ => rfl⟩, hC.drew, hM.drew⟩ (fun hHeld => ?_)
    have kc0 : w6.cell? ⟨w.heap.size + 1 + 1, 0, none⟩ = some (.int .i64 st.e) := by rw [hC.cell]; rfl
    have kc1 : w6.cell? ⟨w.heap.size + 1 + 1, 1, none⟩ = some (.slice A st.cs.length c) := by rw [hC.cell]; rfl
    have km0 : w6.cell? ⟨w.heap.size + 1 + 1 + 1, 0, none⟩ = some (.int .i64 st.num) := by rw [hM.cell]; rfl
    have km1 : w6.cell? ⟨w.heap.size + 1 + 1 + 1, 1, none⟩ = some (.int .i64 st.den) := by rw [hM.cell]; rfl
    have km2 : w6.cell? ⟨w.heap.size + 1 + 1 + 1, 2, none⟩ = some (.int .i64 st.add) := by rw [hM.cell]; rfl
    have hC8 := hZ1.drew
    have hM8 := hZ2.drew
    -- the region, step by step, in whatever order
    refine wpAnyH_take (i := 0) (oi := ⟨some 107, .load 24 (.tmp 6), 24, "ref.go:616", #[], none⟩) (v := ?_) rfl (by kernel_rfl) (by kernel_rfl) (by kernel_rfl) (fun _ _ _ h => h) (Or.inl ⟨by rfl, fun W hSw => ?_⟩) hHeld ?_
    rotate_left
    ·(try dsimp only at hSw); go_simp; (try with_reducible rfl)
    (try simp only [Act.put, List.setIfInBounds_toArray, List.set_cons_zero, List.set_cons_succ])
    refine wpAnyH_take (i := 1) (oi := ⟨some 108, .load 26 (.tmp 7), 26, "ref.go:616", #[⟨3, .gcOnly .lateStores⟩], none⟩) (v := ?_) rfl (by kernel_rfl) (by kernel_rfl) (by kernel_rfl) (fun _ _ _ h => h) (Or.inl ⟨by rfl, fun W hSw => ?_⟩) hHeld ?_
    rotate_left
    ·(try dsimp only at hSw); go_simp; (try with_reducible rfl)
    (try simp only [Act.put, List.setIfInBounds_toArray, List.set_cons_zero, List.set_cons_succ])
    refine wpAnyH_take (i := 2) (oi := ⟨some 109, .move (.tmp 8), 27, "ref.go:616", #[⟨4, .gcOnly .lateStores⟩], none⟩) (v := ?_) rfl (by kernel_rfl) (by kernel_rfl) (by kernel_rfl) (fun _ _ _ h => h) (Or.inl ⟨by rfl, fun W hSw => ?_⟩) hHeld ?_
    rotate_left
    ·(try dsimp only at hSw); go_simp; (try with_reducible rfl)
    (try simp only [Act.put, List.setIfInBounds_toArray, List.set_cons_zero, List.set_cons_succ])
    refine wpAnyH_ready (rs := [3]) (by kernel_rfl) (by simp) ?_
    refine (AllReadyH.cons (o := ⟨none, .store 24 (.tmp 2) (.tmp 107), 0, "ref.go:616", #[⟨0, .data⟩, ⟨0, .phase⟩, ⟨1, .textOnly .lateStores⟩, ⟨2, .textOnly .lateStores⟩], none⟩) rfl (fun K hK => ?_) AllReadyH.nil)
    rw [if_pos (by rfl)]
    first | (refine wp_store_blk _ _ _ rfl w.heap.size 24 _ _ rfl rfl hC8 rfl (by kernel_rfl) (by simp [Value.oneCell']) ?_) | (refine wp_store_blk _ _ _ rfl w.heap.size 24 _ _ rfl rfl (hC8.grown hgb (by simp)) rfl (by kernel_rfl) (by simp [Value.oneCell']) ?_)
    intro Wa hCa hga
    refine hK.out _ _ (⟨⟨fun i hi => by rw [(hHeld.2.1.grown hga (by intro e; injection e; omega)).cell, hC.cell], fun i hi => by rw [(hHeld.2.2.grown hga (by intro e; injection e; omega)).cell, hM.cell]⟩, hHeld.2.1.grown hga (by intro e; injection e; omega), hHeld.2.2.grown hga (by intro e; injection e; omega)⟩) (fun hHeld => ?_)
    clear hK K
    refine wpAnyH_ready (rs := [4]) (by kernel_rfl) (by simp) ?_
    refine (AllReadyH.cons (o := ⟨none, .store 26 (.tmp 3) (.tmp 108), 0, "ref.go:616", #[⟨1, .data⟩, ⟨3, .chain⟩, ⟨0, .phase⟩, ⟨1, .phase⟩, ⟨2, .textOnly .lateStores⟩, ⟨3, .phase⟩], none⟩) rfl (fun K hK => ?_) AllReadyH.nil)
    rw [if_pos (by rfl)]
    first | (refine wp_store_blk _ _ _ rfl (w.heap.size + 1) 26 _ _ rfl rfl hM8 rfl (by kernel_rfl) (by simp [Value.oneCell']) ?_) | (refine wp_store_blk _ _ _ rfl (w.heap.size + 1) 26 _ _ rfl rfl (hM8.grown hga (by simp)) rfl (by kernel_rfl) (by simp [Value.oneCell']) ?_)
    intro Wb hMb hgb
    refine hK.out _ _ (⟨⟨fun i hi => by rw [(hHeld.2.1.grown hgb (by intro e; injection e; omega)).cell, hC.cell], fun i hi => by rw [(hHeld.2.2.grown hgb (by intro e; injection e; omega)).cell, hM.cell]⟩, hHeld.2.1.grown hgb (by intro e; injection e; omega), hHeld.2.2.grown hgb (by intro e; injection e; omega)⟩) (fun hHeld => ?_)
    clear hK K
    refine wpAnyH_take (i := 5) (oi := ⟨some 4, .assign (.tmp 109), 27, "ref.go:616", #[⟨2, .data⟩, ⟨4, .chain⟩, ⟨0, .phase⟩, ⟨1, .phase⟩, ⟨2, .phase⟩, ⟨3, .phase⟩, ⟨4, .phase⟩], none⟩) (v := ?_) rfl (by kernel_rfl) (by kernel_rfl) (by kernel_rfl) (fun _ _ _ h => h) (Or.inl ⟨by rfl, fun W hSw => ?_⟩) hHeld ?_
    rotate_left
    ·(try dsimp only at hSw); go_simp; (try with_reducible rfl)
    (try simp only [Act.put, List.setIfInBounds_toArray, List.set_cons_zero, List.set_cons_succ])
    refine wpAnyH_take (i := 6) (oi := ⟨some 5, .assign (.const (.bool true)), 4, "ref.go:616", #[⟨5, .chain⟩, ⟨0, .phase⟩, ⟨1, .phase⟩, ⟨2, .phase⟩, ⟨3, .phase⟩, ⟨4, .phase⟩, ⟨5, .phase⟩], none⟩) (v := ?_) rfl (by kernel_rfl) (by kernel_rfl) (by kernel_rfl) (fun _ _ _ h => h) (Or.inl ⟨by rfl, fun W hSw => ?_⟩) hHeld ?_
    rotate_left
    ·(try dsimp only at hSw); go_simp; (try with_reducible rfl)
    (try simp only [Act.put, List.setIfInBounds_toArray, List.set_cons_zero, List.set_cons_succ])
    refine wpAnyH_done (by kernel_rfl) ?_ _
    refine NoPanic.normal ?_
    go_wp2_with fail
    first
    | (exact bodyPost_ret (results_blk_two rfl _ _ _ _ _ _ _ rfl rfl (hCa.grown hgb (by simp)) hMb Tryz.underlying24 rfl (by kernel_rfl) Tryz.underlying26 rfl (by kernel_rfl)) rfl ⟨(((fr_call hf5 (fr_drew (fr_refl _))).grown hga (fr_call hf5 (fr_drew (fr_refl _))).size (by intro k hk; cases hk; omega)).grown hgb ((fr_call hf5 (fr_drew (fr_refl _))).grown hga (fr_call hf5 (fr_drew (fr_refl _))).size (by intro k hk; cases hk; omega)).size (by intro k hk; cases hk; omega)), Or.inr ⟨st, A, c, L, lc, HYES.out, rfl, ((hrA.keep (fr_drew (fr_refl _))).far hga hA1).far hgb hA2, OwnS.rd (((hown.keep (fr_drew (fr_refl _))).far hga (by omega)).far hgb (by omega))⟩⟩)
    | (exact bodyPost_ret (results_blk_two rfl _ _ _ _ _ _ _ rfl rfl hCa (hMb.grown hga (by simp)) Tryz.underlying24 rfl (by kernel_rfl) Tryz.underlying26 rfl (by kernel_rfl)) rfl ⟨(((fr_call hf5 (fr_drew (fr_refl _))).grown hgb (fr_call hf5 (fr_drew (fr_refl _))).size (by intro k hk; cases hk; omega)).grown hga ((fr_call hf5 (fr_drew (fr_refl _))).grown hgb (fr_call hf5 (fr_drew (fr_refl _))).size (by intro k hk; cases hk; omega)).size (by intro k hk; cases hk; omega)), Or.inr ⟨st, A, c, L, lc, HYES.out, rfl, ((hrA.keep (fr_drew (fr_refl _))).far hgb hA2).far hga hA1, OwnS.rd (((hown.keep (fr_drew (fr_refl _))).far hgb (by omega)).far hga (by omega))⟩⟩)
   ·have hq1 : (T == s) = false := beq_eq_false_iff_ne.2 hTs
    have hq2 : decide (T = s) = false := decide_eq_false hTs
    have HNO := Lib.hid (show rread s = none by rw [HFU.out]; unfold readOf; simp only; rw [if_neg (fun e => hTs (GT.out.symm.trans e))])
    go_wp2_with (first | (refine wpList_store_blk rfl _ _ _ rfl w.heap.size 24 _ _ rfl rfl hZ1 rfl (by kernel_rfl) (by simp [Value.oneCell']) ?_; intro Wa hCa hga; have hMa := hZ2.grown hga (by simp)) | (refine wpList_store_blk rfl _ _ _ rfl (w.heap.size + 1) 26 _ _ rfl rfl hMa rfl (by kernel_rfl) (by simp [Value.oneCell']) ?_; intro Wb hM7 hgb; have hC7 := hCa.grown hgb (by simp)))
    have hf7 : Below w.heap.size w Wb := ((hf5).grown hga (hf5).size (by intro k hk; cases hk; omega)).grown hgb ((hf5).grown hga (hf5).size (by intro k hk; cases hk; omega)).size (by intro k hk; cases hk; omega)
    refine bodyPost_ret (results_blk_two rfl _ _ _ _ _ _ _ rfl rfl hC7 hM7 Tryz.underlying24 rfl (by kernel_rfl) Tryz.underlying26 rfl (by kernel_rfl)) rfl ⟨hf7, Or.inl ⟨HNO.out, rfl⟩⟩
end Go.Proofs.YthjblcboainknaaGreatDoor
end

section
namespace Go.Proofs.YthjblcboainknaaGreatDoor
open Go.RowKit Dl

set_option maxRecDepth 100000 in
set_option maxHeartbeats 4000000 in
theorem rSameFacts_same (A1 A2 : Option Addr) (n c1 c2 : Nat) (l : List Fact) (w : World) (h1 : RdS w A1 4 (l.map Fact.row)) (h2 : RdS w A2 4 (l.map Fact.row)) (hn : l.length = n) (hm : n ≤ 1000000) :
  Calls Tryz.prog 16 #[.slice A1 n c1, .slice A2 n c2] w fun e' w' => e' = .returned (.bool true) ∧ Below w.heap.size w w' := by
 have HN := Lib.hid hn
 clear hn
 go_enter Tryz.func16, Tryz.ntmps16
 go_wp2_with fail
 go_loopw [5] (fun i wr => ∃ k : Nat, k ≤ n ∧ i = .int .i64 k ∧ Below w.heap.size w wr) (fun i _ => n - (intOf i).toNat)
 case atStart => exact ⟨0, Nat.zero_le _, rfl, fr_refl _⟩
 case round =>
  obtain ⟨k, hk, rfl, hbel⟩ := hrel
  by_cases hlt : k < n
  ·have hkl : k < l.length := by have := HN.out; omega
   have hrow : (l.map Fact.row)[k]? = some (l[k].row) := by simp [hkl]
   obtain ⟨ad, rfl, hab, _, hc⟩ := (h1.keep hbel).at_ hrow
   obtain ⟨ae, rfl, hae, _, hd⟩ := (h2.keep hbel).at_ hrow
   have hqa : ∀ (ad : Addr) j, ad.add (k * 4 + (j + 1)) = (ad.add (k * 4)).add (j + 1) := fun ad j => by
    unfold Addr.add; by_cases h0 : k * 4 = 0 <;> simp [h0, Nat.add_assoc]
   have hc0 : wr.cell? (ad.add (k * 4)) = some (.int .i64 l[k].k) := hc 0 _ rfl
   have hc1 : wr.cell? ⟨(ad.add (k * 4)).block, (ad.add (k * 4)).off + 1, none⟩ = some (.int .i64 l[k].m) := (congrArg wr.cell? (hqa ad 0)).symm.trans (hc 1 _ rfl)
   have hc2 : wr.cell? ⟨(ad.add (k * 4)).block, (ad.add (k * 4)).off + 2, none⟩ = some (.int .i64 l[k].d) := (congrArg wr.cell? (hqa ad 1)).symm.trans (hc 2 _ rfl)
   have hc3 : wr.cell? ⟨(ad.add (k * 4)).block, (ad.add (k * 4)).off + 3, none⟩ = some (.int .i64 l[k].v) := (congrArg wr.cell? (hqa ad 2)).symm.trans (hc 3 _ rfl)
   have hd0 : wr.cell? (ae.add (k * 4)) = some (.int .i64 l[k].k) := hd 0 _ rfl
   have hd1 : wr.cell? ⟨(ae.add (k * 4)).block, (ae.add (k * 4)).off + 1, none⟩ = some (.int .i64 l[k].m) := (congrArg wr.cell? (hqa ae 0)).symm.trans (hd 1 _ rfl)
   have hd2 : wr.cell? ⟨(ae.add (k * 4)).block, (ae.add (k * 4)).off + 2, none⟩ = some (.int .i64 l[k].d) := (congrArg wr.cell? (hqa ae 1)).symm.trans (hd 2 _ rfl)
   have hd3 : wr.cell? ⟨(ae.add (k * 4)).block, (ae.add (k * 4)).off + 3, none⟩ = some (.int .i64 l[k].v) := (congrArg wr.cell? (hqa ae 2)).symm.trans (hd 3 _ rfl)
   have hlt' : (k : Int) < (n : Int) := by omega
   generalize l[k] = f at *
   obtain ⟨fk, fm, fd, fv⟩ := f
   simp only at hc0 hc1 hc2 hc3 hd0 hd1 hd2 hd3
   clear hc hd hrow hqa
   go_wp2_with fail
   go_quiet (fail)
   go_wp2_with fail
   go_roundw
   case rel => exact ⟨k + 1, hlt, by go_num, fr_drewN hbel _⟩
   case measure => simp [intOf]; omega
  ·obtain rfl : k = n := by omega
   go_wp2_with fail
   go_ret
   exact ⟨rfl, hbel⟩
end Go.Proofs.YthjblcboainknaaGreatDoor
end
