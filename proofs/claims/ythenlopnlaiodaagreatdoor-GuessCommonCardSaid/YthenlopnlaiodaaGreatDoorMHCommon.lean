/- Plain: what trains have in common, for the law GuessCommon. Reference: Common. The law GuessCommon, walked (by gen_common.py). The statement of GuessCommon: for every input the law returns true, and the input reads behind the call as it did; the listed table is tied to the program's text. No condition of its own. -/
import Derived.Test.YthenlopnlaiodaaGreatDoorMG14
import Derived.Test.YthenlopnlaiodaaGreatDoorMG11
import Derived.Test.YthenlopnlaiodaaGreatDoorMG13
import Derived.Test.YthenlopnlaiodaaGreatDoorMG20
import Derived.Test.YthenlopnlaiodaaGreatDoorMG21
import Derived.Test.YthenlopnlaiodaaGreatDoorRows
import Derived.Test.YthenlopnlaiodaaGreatDoorCards
import Derived.Test.YthenlopnlaiodaaGreatDoorTie
import Derived.SevenTiedAt
section
namespace Go.Proofs.YthenlopnlaiodaaGreatDoor

theorem com_nil : ∀ a : List Int, comL a [] = 0
 | [] => rfl
 | x :: a => by simp [comL, com_nil a]
theorem com_cons (x : Int) : ∀ (a l : List Int), comL a (x :: l) = if x ∈ a then comL (a.erase x) l + 1 else comL a l
 | [], l => by simp [comL]
 | y :: a, l => by
  have ih := com_cons x a
  by_cases hyx : y = x
  ·subst hyx
   simp [comL]
  ·have hxy : ¬ x = y := fun e => hyx e.symm
   have he : (y :: a).erase x = y :: a.erase x := by rw [List.erase_cons_tail]; simpa using hyx
   have hl : (x :: l).erase y = x :: l.erase y := by rw [List.erase_cons_tail]; simpa using hxy
   by_cases hyl : y ∈ l
   ·have h1 : comL (y :: a) (x :: l) = comL a (x :: l.erase y) + 1 := by
     rw [comL, if_pos (List.mem_cons_of_mem _ hyl), hl]
    rw [h1, ih, he]
    by_cases hxa : x ∈ a
    ·rw [if_pos hxa, if_pos (List.mem_cons_of_mem _ hxa), comL, if_pos hyl]
    ·rw [if_neg hxa, if_neg (by simp [hxa, hxy]), comL, if_pos hyl]
   ·have h1 : comL (y :: a) (x :: l) = comL a (x :: l) := by
     rw [comL, if_neg (by simp [hyl, hyx])]
    rw [h1, ih, he]
    by_cases hxa : x ∈ a
    ·rw [if_pos hxa, if_pos (List.mem_cons_of_mem _ hxa), comL, if_neg hyl]
    ·rw [if_neg hxa, if_neg (by simp [hxa, hxy]), comL, if_neg hyl]
theorem com_comm (a : List Int) : ∀ l : List Int, comL a l = comL l a := by
 intro l
 induction l generalizing a with
 | nil => rw [com_nil]; rfl
 | cons x l ih =>
  rw [com_cons]
  by_cases h : x ∈ a
  ·rw [if_pos h, comL, if_pos h, ih]
  ·rw [if_neg h, comL, if_neg h, ih]
theorem com_self : ∀ a : List Int, comL a a = a.length
 | [] => rfl
 | x :: a => by
  rw [comL, if_pos (List.mem_cons_self ..), List.erase_cons_head, com_self a]; rfl
theorem com_le : ∀ a l : List Int, comL a l ≤ a.length
 | [], _ => Nat.le_refl _
 | x :: a, l => by
  unfold comL
  split
  ·have := com_le a (l.erase x); simp only [List.length_cons]; omega
  ·have := com_le a l; simp only [List.length_cons]; omega
theorem com_le' (a l : List Int) : comL a l ≤ l.length := by rw [com_comm]; exact com_le l a

/- the least and the greatest of what trains of two lists have in common -/
structure Alk (ts us : List (List Int)) (n m : Nat) (s : Int × Int) : Prop where
 lo : ∀ i j, i < n → j < m → s.1 ≤ comAt ts us i j
 hi : ∀ i j, i < n → j < m → comAt ts us i j ≤ s.2
 at1 : ∃ i j, i < ts.length ∧ j < us.length ∧ s.1 = comAt ts us i j
 at2 : ∃ i j, i < ts.length ∧ j < us.length ∧ s.2 = comAt ts us i j
theorem mm_spec (s : Int × Int) (x : Int) : (mm s x).1 ≤ s.1 ∧ (mm s x).1 ≤ x ∧ s.2 ≤ (mm s x).2 ∧ x ≤ (mm s x).2 ∧ ((mm s x).1 = s.1 ∨ (mm s x).1 = x) ∧ ((mm s x).2 = s.2 ∨ (mm s x).2 = x) := by
 unfold mm
 simp only
 omega
theorem rowJ_spec (ts us : List (List Int)) (i : Nat) (hi : i < ts.length) (s : Int × Int) : ∀ m, m ≤ us.length →
  ((rowJ ts us i s m).1 ≤ s.1 ∧ s.2 ≤ (rowJ ts us i s m).2) ∧ (∀ j, j < m → (rowJ ts us i s m).1 ≤ comAt ts us i j ∧ comAt ts us i j ≤ (rowJ ts us i s m).2) ∧
  ((rowJ ts us i s m).1 = s.1 ∨ ∃ j, j < us.length ∧ (rowJ ts us i s m).1 = comAt ts us i j) ∧ ((rowJ ts us i s m).2 = s.2 ∨ ∃ j, j < us.length ∧ (rowJ ts us i s m).2 = comAt ts us i j)
 | 0, _ => ⟨⟨Int.le_refl _, Int.le_refl _⟩, fun j h => absurd h (by omega), Or.inl rfl, Or.inl rfl⟩
 | m + 1, hm => by
  obtain ⟨h1, h2, h3, h4⟩ := rowJ_spec ts us i hi s m (by omega)
  obtain ⟨k1, k2, k3, k4, k5, k6⟩ := mm_spec (rowJ ts us i s m) (comAt ts us i m)
  unfold rowJ
  refine ⟨⟨by omega, by omega⟩, fun j hj => ?_, ?_, ?_⟩
  ·by_cases e : j = m
   ·subst e; exact ⟨k2, k4⟩
   ·have := h2 j (by omega); omega
  ·rcases k5 with e | e
   ·rw [e]; exact h3
   ·exact Or.inr ⟨m, by omega, e⟩
  ·rcases k6 with e | e
   ·rw [e]; exact h4
   ·exact Or.inr ⟨m, by omega, e⟩
theorem rowI_spec (ts us : List (List Int)) (h1 : 0 < ts.length) (h2 : 0 < us.length) : ∀ n, n ≤ ts.length → Alk ts us n us.length (rowI ts us n)
 | 0, _ => ⟨fun i j h => absurd h (by omega), fun i j h => absurd h (by omega), ⟨0, 0, h1, h2, rfl⟩, ⟨0, 0, h1, h2, rfl⟩⟩
 | n + 1, hn => by
  obtain ⟨a1, a2, ⟨i1, j1, b1, c1, d1⟩, i2, j2, b2, c2, d2⟩ := rowI_spec ts us h1 h2 n (by omega)
  obtain ⟨k1, k2, k3, k4⟩ := rowJ_spec ts us n (by omega) (rowI ts us n) us.length (Nat.le_refl _)
  unfold rowI
  refine ⟨fun i j hi hj => ?_, fun i j hi hj => ?_, ?_, ?_⟩
  ·by_cases e : i = n
   ·subst e; exact (k2 j hj).1
   ·have := a1 i j (by omega) hj; omega
  ·by_cases e : i = n
   ·subst e; exact (k2 j hj).2
   ·have := a2 i j (by omega) hj; omega
  ·rcases k3 with e | ⟨j, hj, e⟩
   ·exact ⟨i1, j1, b1, c1, by rw [e, d1]⟩
   ·exact ⟨n, j, by omega, hj, e⟩
  ·rcases k4 with e | ⟨j, hj, e⟩
   ·exact ⟨i2, j2, b2, c2, by rw [e, d2]⟩
   ·exact ⟨n, j, by omega, hj, e⟩
theorem alike_spec {ts us : List (List Int)} (h1 : ts ≠ []) (h2 : us ≠ []) : Alk ts us ts.length us.length (alikeL ts us) :=
 rowI_spec ts us (List.length_pos_iff.2 h1) (List.length_pos_iff.2 h2) ts.length (Nat.le_refl _)
theorem comAt_comm (ts us : List (List Int)) (i j : Nat) : comAt ts us i j = comAt us ts j i := by unfold comAt; rw [com_comm]
theorem alike_comm {ts us : List (List Int)} (h1 : ts ≠ []) (h2 : us ≠ []) : alikeL us ts = alikeL ts us := by
 obtain ⟨a1, a2, ⟨i1, j1, b1, c1, d1⟩, i2, j2, b2, c2, d2⟩ := alike_spec h1 h2
 obtain ⟨e1, e2, ⟨k1, l1, f1, g1, m1⟩, k2, l2, f2, g2, m2⟩ := alike_spec h2 h1
 have q1 := a1 l1 k1 g1 f1
 have q2 := e1 j1 i1 c1 b1
 have q3 := a2 l2 k2 g2 f2
 have q4 := e2 j2 i2 c2 b2
 rw [comAt_comm] at q1 q2 q3 q4
 exact Prod.ext (by omega) (by omega)
/-- what the law says of two lists of trains with n and m numbers each -/
theorem alike_law {ts us : List (List Int)} {n m : Nat} (h1 : ts ≠ []) (h2 : us ≠ []) (hn : ∀ t ∈ ts, t.length = n) (hm : ∀ t ∈ us, t.length = m) : 0 ≤ (alikeL ts us).1 ∧ (alikeL ts us).1 ≤ (alikeL ts us).2 ∧ (alikeL ts us).2 ≤ n ∧ (alikeL ts us).2 ≤ m := by
 obtain ⟨a1, a2, ⟨i1, j1, b1, c1, d1⟩, i2, j2, b2, c2, d2⟩ := alike_spec h1 h2
 have q1 := a2 i1 j1 b1 c1
 have k0 : 0 ≤ comAt ts us i1 j1 := by unfold comAt; omega
 have e1 : ts[i2]?.getD [] = ts[i2] := by simp [b2]
 have e2 : us[j2]?.getD [] = us[j2] := by simp [c2]
 have k1 := com_le ts[i2] us[j2]
 have k2 := com_le' ts[i2] us[j2]
 rw [hn _ (List.getElem_mem b2)] at k1
 rw [hm _ (List.getElem_mem c2)] at k2
 have k3 : comAt ts us i2 j2 = (comL ts[i2] us[j2] : Nat) := by unfold comAt; rw [e1, e2]
 omega
theorem alike_mem {ts us : List (List Int)} {a b : List Int} (ha : a ∈ ts) (hb : b ∈ us) : (alikeL ts us).1 ≤ (comL a b : Nat) ∧ ((comL a b : Nat) : Int) ≤ (alikeL ts us).2 := by
 have h := alike_spec (List.ne_nil_of_mem ha) (List.ne_nil_of_mem hb)
 obtain ⟨i, hi, rfl⟩ := List.getElem_of_mem ha
 obtain ⟨j, hj, rfl⟩ := List.getElem_of_mem hb
 have k1 := h.lo i j hi hj
 have k2 := h.hi i j hi hj
 unfold comAt at k1 k2
 rw [show ts[i]?.getD [] = ts[i] by simp [hi], show us[j]?.getD [] = us[j] by simp [hj]] at k1 k2
 exact ⟨k1, k2⟩
theorem alike_own {ts : List (List Int)} {n : Nat} (h1 : ts ≠ []) (hn : ∀ t ∈ ts, t.length = n) : (alikeL ts ts).2 = n := by
 have h2 := (alike_law h1 h1 hn hn).2.2.1
 obtain ⟨t, ht⟩ := List.exists_mem_of_ne_nil _ h1
 have h3 := (alike_mem ht ht).2
 rw [com_self, hn t ht] at h3
 omega

/- the reference's way: what is met is set to 0 -/
theorem filter_set (x : Int) (hx : x ≠ 0) : ∀ (l : List Int) (k : Nat), (h : k < l.length) → l[k] = x → (∀ j, (hj : j < k) → l[j] ≠ x) → (l.set k 0).filter (· ≠ 0) = (l.filter (· ≠ 0)).erase x
 | [], k, h, _, _ => by simp at h
 | y :: l, 0, h, e, _ => by
  have e : y = x := e
  subst e
  simp [hx]
 | y :: l, k + 1, h, e, hn => by
  have h0 : y ≠ x := hn 0 (by omega)
  have ih := filter_set x hx l k (by simpa using h) (by simpa using e) (fun j hj => by simpa using hn (j + 1) (by omega))
  simp only [List.set_cons_succ]
  by_cases hy : y = 0
  ·subst hy
   simpa using ih
  ·rw [List.filter_cons_of_pos (by simpa using hy), List.filter_cons_of_pos (by simpa using hy), ih, List.erase_cons_tail (by simpa using h0)]
end Go.Proofs.YthenlopnlaiodaaGreatDoor
end

section
namespace Go.Proofs.YthenlopnlaiodaaGreatDoor
open Go.RowKit Go.Shelf

/-- a row of numbers in a block -/
def LRow (W : World) (g : Nat) (l : List Int) : Prop := ∃ cs, Blk W g 3 cs ∧ ∀ j, (h : j < l.length) → cs[j]? = some (.int .i64 l[j])
theorem LRow.of_own {W : World} {base n c : Nat} {A : Option Addr} {xs : List Int} (h : Own W base (.slice A n c) xs) (hp : 0 < xs.length) : ∃ g, A = some ⟨g, 0, none⟩ ∧ base ≤ g ∧ g < W.heap.size ∧ LRow W g xs := by
 rcases h.2 with ⟨h0, h1⟩ | ⟨g, cap, cur, hv, hb, hh, hle, h3, h4, h5⟩
 ·omega
 ·injection hv with hA h1 h2
  refine ⟨g, hA, hb, heap_lt hh, cur, hh, fun j hj => ?_⟩
  have h6 := congrArg (fun l => l[j]?) h5
  simp only [Nat.mul_one, List.getElem?_map] at h6
  rw [List.getElem?_take, if_pos (by omega), List.getElem?_eq_getElem hj] at h6
  simpa using h6
theorem LRow.keep {W W' : World} {g : Nat} {l : List Int} (h : LRow W g l) (hb : Below W.heap.size W W') : LRow W' g l := let ⟨cs, h1, h2⟩ := h; ⟨cs, h1.keep hb, h2⟩
theorem LRow.cell {W : World} {g : Nat} {l : List Int} (h : LRow W g l) {j : Nat} (hj : j < l.length) : W.cell? ((⟨g, 0, none⟩ : Addr).add j) = some (.int .i64 l[j]) ∧ W.frozen? ((⟨g, 0, none⟩ : Addr).add j) = false := by
 obtain ⟨cs, h1, h2⟩ := h
 rw [add_lit, Nat.zero_add]
 exact ⟨(h1.cell j).trans (h2 j hj), h1.frozen j⟩
theorem LRow.set {W : World} {g : Nat} {l : List Int} (h : LRow W g l) (k : Nat) : LRow (W.setCell ⟨g, k, none⟩ (.int .i64 0)) g (l.set k 0) := by
 obtain ⟨cs, h1, h2⟩ := h
 refine ⟨_, h1.set_ k _, fun j hj => ?_⟩
 rw [List.length_set] at hj
 have := h2 j hj
 have hs : j < cs.size := (Array.getElem?_eq_some_iff.1 this).1
 by_cases e : k = j
 ·subst e
  simp [hs]
 ·rw [List.getElem_set_ne e]
  simp [e]
  exact (Array.getElem?_eq_some_iff.1 this).2 ▸ (by simp)
theorem LRow.lt' {W W' : World} {g : Nat} {l : List Int} (h : LRow W g l) (hb : Below W.heap.size W W') : g < W'.heap.size := by
 obtain ⟨cs, h1, _⟩ := h
 exact Nat.lt_of_lt_of_le h1.lt hb.size
theorem filter_at {x : Int} (hx : x ≠ 0) {l : List Int} {k : Nat} (h : k < l.length) (e : l[k] = x) : x ∈ l.filter (· ≠ 0) := by
 rw [List.mem_filter]
 exact ⟨e ▸ List.getElem_mem h, by simpa using hx⟩
theorem filter_not {x : Int} {l : List Int} (h : ∀ j, (hj : j < l.length) → l[j] ≠ x) : x ∉ l.filter (· ≠ 0) := fun hm => by
 obtain ⟨j, hj, e⟩ := List.getElem_of_mem (List.mem_filter.1 hm).1
 exact h j hj e
set_option maxRecDepth 100000 in
set_option maxHeartbeats 8000000 in
theorem Common8_any (A B : Option Addr) (n m c d : Nat) (ps qs : List Wh) (w : World) (hp : RdS w A 2 (ps.map Wh.cells)) (hq : RdS w B 2 (qs.map Wh.cells)) (hn : ps.length = n) (hm : qs.length = m) (hn2 : n ≤ 1000) (hm2 : m ≤ 1000) (hm1 : 1 ≤ m) (hpz : ∀ x ∈ teethL ps, x ≠ 0) (hqz : ∀ x ∈ teethL qs, x ≠ 0) :
  Calls Tryz.prog 26 #[.slice A n c, .slice B m d] w fun e w' => e = .returned (.int .i64 (comL (teethL ps) (teethL qs) : Nat)) ∧ Below w.heap.size w w' := by
 have hl1 := teethL_len ps
 have hl2 := teethL_len qs
 have t1 := fun W h => Teeth8_any A n c ps W h hn hn2
 have t2 := fun W h => Teeth8_any B m d qs W h hm hm2
 rw [hn] at hl1
 rw [hm] at hl2
 obtain ⟨us, hus⟩ : ∃ us, teethL ps = us := ⟨_, rfl⟩
 obtain ⟨vs, hvs⟩ : ∃ vs, teethL qs = vs := ⟨_, rfl⟩
 rw [hus] at hl1 hpz t1 ⊢
 rw [hvs] at hl2 hqz t2 ⊢
 obtain ⟨p, hp2⟩ : ∃ p, us.length = p := ⟨_, rfl⟩
 obtain ⟨q, hq2⟩ : ∃ q, vs.length = q := ⟨_, rfl⟩
 have HZ1 := Lib.hid hpz
 have hq0 : 0 < q := by omega
 have hq9 : q ≤ 2000 := by omega
 have hp9 : p ≤ 2000 := by omega
 have HF := Lib.hid (show vs.filter (· ≠ 0) = vs from List.filter_eq_self.2 (fun x hx => by simpa using hqz x hx))
 clear hn hm hus hvs hpz hqz hl1 hl2 hn2 hm2
 go_enter Tryz.func26, Tryz.ntmps26
 go_wp2_with fail
 refine (t2 _ hq).mono ?_
 rintro e w1 ⟨B1, b1, rfl, hown1, hb1⟩
 obtain ⟨g, rfl, hg0, hg1, hrow⟩ := LRow.of_own hown1 (by omega)
 rw [hq2]
 obtain ⟨ag, hag⟩ : ∃ ag : Addr, ag = ⟨g, 0, none⟩ := ⟨_, rfl⟩
 rw [← hag]
 have HAG := Lib.hid hag
 clear hag
 go_wp2_with fail
 refine (t1 _ (hp.keep hb1)).mono ?_
 rintro e w2 ⟨A1, a1, rfl, hown2, hb2⟩
 have hfr := hown2.fresh
 have hrd := hown2.rd
 replace hrow := hrow.keep hb2
 have hbel := fr_call hb1 hb2
 rw [hp2] at hrd ⊢
 have HP := Lib.hid hp2
 have HQ := Lib.hid hq2
 clear t1 t2 hown1 hown2 hb1 hb2 hp hq hp2 hq2
 go_wp2_with fail
 go_loopw [5, 8] (fun v i wr => ∃ (k : Nat) (z : Nat) (l : List Int), k ≤ p ∧ i = .int .i64 k ∧ v = .int .i64 z ∧ z ≤ k ∧ l.length = q ∧ LRow wr g l ∧ Rd wr A1 p us ∧ Hid (comL us vs = z + comL (us.drop k) (l.filter (· ≠ 0))) ∧ Below w.heap.size w wr) (fun _ i _ => p - (intOf i).toNat)
 case atStart => exact ⟨0, 0, vs, Nat.zero_le _, rfl, rfl, Nat.le_refl _, HQ.out, hrow, hrd, Lib.hid (by rw [HF.out]; simp), hbel⟩
 case round =>
  obtain ⟨k, z, l, hk, rfl, rfl, hzk, hll, hrowk, hrdk, hcom, hbk⟩ := hrel
  obtain ⟨w4, hw4⟩ : ∃ w4, w4 = wr := ⟨_, rfl⟩
  subst hw4
  clear hrow hrd hbel
  by_cases hlt : k < p
  ·have hkl : k < us.length := by rw [HP.out]; exact hlt
   obtain ⟨ad, rfl, hab, hc⟩ := hrdk.at_ hlt
   have hxn : us[k]?.getD 0 = us[k] := by simp [hkl]
   have hx0 : us[k] ≠ 0 := HZ1.out _ (List.getElem_mem hkl)
   have hdk : us.drop k = us[k] :: us.drop (k + 1) := List.drop_eq_getElem_cons hkl
   have hadg : ad.block ≠ g := by have := hfr ad rfl; omega
   rw [hxn] at hc
   rw [hdk] at hcom
   generalize us[k] = x at *
   have hX0 := Lib.hid hx0
   have i1 : 0 ≤ (k : Int) := by omega
   have i2 : (k : Int) < (p : Int) := by omega
   clear hxn hdk hx0
   go_wp2_with fail
   go_loopw [5, 9] (fun v i wr => ∃ j : Nat, j ≤ q ∧ i = .int .i64 j ∧ v = .int .i64 z ∧ Hid (∀ a, (h : a < l.length) → a < j → l[a] ≠ x) ∧ Below w4.heap.size w4 wr) (fun _ i _ => q - (intOf i).toNat)
   case atStart => exact ⟨0, Nat.zero_le _, rfl, rfl, Lib.hid (fun a _ h => absurd h (by omega)), fr_refl _⟩
   case round =>
    obtain ⟨j, hj, rfl, rfl, hnx, hbr⟩ := hrel
    have hc2 := (hbr.cell (p := ad.add k) (by rw [block_of_add]; exact hab)).trans hc
    by_cases hlj : j < q
    ·have hjl : j < l.length := by rw [hll]; exact hlj
     obtain ⟨hcl, hfl⟩ := (hrowk.keep hbr).cell hjl
     have hgl : (ag.add j).block < wr.heap.size := by
      rw [block_of_add, HAG.out]
      exact hrowk.lt' hbr
     rw [← HAG.out] at hcl hfl
     have i3 : 0 ≤ (j : Int) := by omega
     have i4 : (j : Int) < (q : Int) := by omega
     have HL := Lib.hid hll
     by_cases hx : l[j] = x
     ·have hmem := Lib.hid (filter_at hX0.out hjl hx)
      have hset := Lib.hid (filter_set x hX0.out l j hjl hx (fun a ha => hnx.out a (by omega) ha))
      have hlen := Lib.hid (show (l.set j 0).length = q by rw [List.length_set]; exact hll)
      rw [hx] at hcl
      have hxx : (x == x) = true := beq_self_eq_true _
      have hzw : IntKind.i64.wrap ((z : Int) + 1) = ((z + 1 : Nat) : Int) := by rw [IntWalk.i64_in _ (by omega)]; omega
      have hdr := fr_drew (fr_refl wr)
      have hfz : (World.drew wr).frozen? (ag.add j) = false := hfl
      clear hx
      go_wp2_with fail
      go_still (by kernel_rfl)
      go_wp2_with fail
      have hAj : ag.add j = ⟨g, j, none⟩ := by rw [HAG.out, add_lit, Nat.zero_add]
      have hrow2 := (hrowk.keep hbr).set j
      rw [← hAj] at hrow2
      have hgs := grown_set wr (ag.add j) (.int .i64 0)
      have hgb : w.heap.size ≤ (ag.add j).block := by rw [hAj]; exact hg0
      have hbs := hbk.trans (hbr.mono hbk.size)
      have hbw := fr_set hbs hgb (.int .i64 0)
      have hrd2 := (hrdk.keep hbr).far hgs (fun ad' e => by cases e; rw [hAj]; exact hadg)
      have hd2 := fr_drew (fr_refl (wr.setCell (ag.add j) (.int .i64 0)))
      refine ⟨⟨k + 1, z + 1, l.set j 0, hlt, rfl, rfl, by omega, hlen.out, hrow2.keep hd2, hrd2.keep hd2, Lib.hid (by rw [hcom.out, hset.out, comL, if_pos hmem.out]; omega), fr_call hbw hd2⟩, ?_⟩
      simp [intOf]; omega
     ·have hxx : (l[j] == x) = false := beq_eq_false_iff_ne.2 hx
      have hnx2 := Lib.hid (fun a (h : a < l.length) (ha : a < j + 1) => show l[a] ≠ x from by
       by_cases e : a = j
       ·subst e; exact hx
       ·exact hnx.out a h (by omega))
      generalize l[j] = y at *
      clear hx
      go_wp2_with fail
      go_still (by kernel_rfl)
      go_wp2_with fail
      refine ⟨⟨j + 1, hlj, rfl, rfl, hnx2, fr_call hbr (fr_drew (fr_refl _))⟩, ?_⟩
      simp [intOf]; omega
    ·obtain rfl : j = q := by omega
     have hnot := filter_not (x := x) (fun a h => hnx.out a h (by rw [← hll]; exact h))
     go_wp2_with fail
     refine ⟨⟨k + 1, z, l, hlt, rfl, rfl, by omega, hll, hrowk.keep hbr, hrdk.keep hbr, Lib.hid (by rw [hcom.out, comL, if_neg hnot]), hbk.trans (hbr.mono hbk.size)⟩, ?_⟩
     simp [intOf]; omega
  ·obtain rfl : k = p := by omega
   have hd0 : us.drop k = [] := List.drop_eq_nil_iff.2 (by rw [HP.out]; exact Nat.le_refl _)
   rw [hd0] at hcom
   go_wp2_with fail
   go_ret
   exact ⟨by rw [hcom.out]; simp [comL], hbk⟩
end Go.Proofs.YthenlopnlaiodaaGreatDoor
end

section
namespace Go.Proofs.YthenlopnlaiodaaGreatDoor
open Go.RowKit Go.Shelf

theorem fits_ne : ∀ {ws : List Wh} {t : List Int}, (∀ s ∈ ws, 4 ≤ s.lo ∧ s.lo ≤ s.hi ∧ s.hi ≤ 60 ∧ s.hi - s.lo ≤ 5) → Fits ws t → ∀ x ∈ t, x ≠ 0
 | [], [], _, _, x, hx => by simp at hx
 | [], _ :: _, _, h, _, _ => absurd h (by simp [Fits])
 | _ :: _, [], _, h, _, _ => absurd h (by simp [Fits])
 | s :: ws, y :: t, hw, h, x, hx => by
  rcases List.mem_cons.1 hx with rfl | hx
  ·have := hw s (by simp); have := h.1; omega
  ·exact fits_ne (fun s hs => hw s (by simp [hs])) h.2 x hx
set_option maxRecDepth 100000 in
set_option maxHeartbeats 16000000 in
theorem common_true (A N B M C D : Option Addr) (c d e k i j : Nat) (ws vs : List Wh) (ns ms : List Note) (x y : List Wh) (w : World) (hf : FindAt w A N ws ns) (hg : FindAt w B M vs ms) (hx : RdS w C 2 (x.map Wh.cells)) (hy : RdS w D 2 (y.map Wh.cells)) (hxn : x.length ≤ 9223372036854775807) (hyn : y.length ≤ 9223372036854775807) (hT : TabP w) (hM : MaxP w) :
  Calls Tryz.prog 4 #[.agg #[.slice A ws.length c, .slice N ns.length d], .agg #[.slice B vs.length e, .slice M ms.length k], .slice C x.length i, .slice D y.length j] w fun e' w' => e' = .returned (.bool true) ∧ Below w.heap.size w w' := by
 have hfr := fr_alloc (fr_alloc (fr_refl w) (.cells #[.slice A ws.length c, .slice N ns.length d] 25)) (.cells #[.slice B vs.length e, .slice M ms.length k] 25)
 have hX0 : Blk ((w.alloc (.cells #[.slice A ws.length c, .slice N ns.length d] 25)).alloc (.cells #[.slice B vs.length e, .slice M ms.length k] 25)) (w.heap.size) 25 #[.slice A ws.length c, .slice N ns.length d] := ((Blk.new_at _ _ (by simp)).alloc _)
 have hX1 : Blk ((w.alloc (.cells #[.slice A ws.length c, .slice N ns.length d] 25)).alloc (.cells #[.slice B vs.length e, .slice M ms.length k] 25)) (w.heap.size + 1) 25 #[.slice B vs.length e, .slice M ms.length k] := (Blk.new_at _ _ (by simp))
 replace hf := hf.keep hfr
 replace hg := hg.keep hfr
 replace hx := hx.keep hfr
 replace hy := hy.keep hfr
 have hc0 := fun j => hX0.cell j
 have hl0 := hX0.lt
 have hc1 := fun j => hX1.cell j
 have hl1 := hX1.lt
 cases s1 : (decide ((ws.length : Int) ≤ 8) && decide ((ns.length : Int) ≤ 11))
 ·go_enter Tryz.func4, Tryz.ntmps4
  go_wp2_with fail
  refine (short_any A N ws.length ns.length c d _ _ s1).mono ?_
  rintro e' w1 ⟨rfl, hb⟩
  replace hfr := fr_call hfr hb
  replace hf := hf.keep hb
  replace hg := hg.keep hb
  replace hx := hx.keep hb
  replace hy := hy.keep hb
  replace hX0 := hX0.keep hb
  replace hX1 := hX1.keep hb
  clear hb hc0 hc1
  have hc0 := fun j => hX0.cell j
  have hl0 := hX0.lt
  have hc1 := fun j => hX1.cell j
  have hl1 := hX1.lt
  go_wp2_with fail
  refine (known_is _ (hT.keep hfr) (hM.keep hfr)).mono ?_
  rintro e' w1 ⟨rfl, hb⟩
  replace hfr := fr_call hfr hb
  clear hb
  go_wp2_with fail
  go_ret
  exact ⟨rfl, hfr⟩
 ·have s1a : ws.length ≤ 8 ∧ ns.length ≤ 11 := by simp at s1; omega
  cases s2 : (decide ((vs.length : Int) ≤ 8) && decide ((ms.length : Int) ≤ 11))
  ·go_enter Tryz.func4, Tryz.ntmps4
   go_wp2_with fail
   refine (short_any A N ws.length ns.length c d _ _ s1).mono ?_
   rintro e' w1 ⟨rfl, hb⟩
   replace hfr := fr_call hfr hb
   replace hf := hf.keep hb
   replace hg := hg.keep hb
   replace hx := hx.keep hb
   replace hy := hy.keep hb
   replace hX0 := hX0.keep hb
   replace hX1 := hX1.keep hb
   clear hb hc0 hc1
   have hc0 := fun j => hX0.cell j
   have hl0 := hX0.lt
   have hc1 := fun j => hX1.cell j
   have hl1 := hX1.lt
   go_wp2_with fail
   refine (short_any B M vs.length ms.length e k _ _ s2).mono ?_
   rintro e' w1 ⟨rfl, hb⟩
   replace hfr := fr_call hfr hb
   replace hf := hf.keep hb
   replace hg := hg.keep hb
   replace hx := hx.keep hb
   replace hy := hy.keep hb
   replace hX0 := hX0.keep hb
   replace hX1 := hX1.keep hb
   clear hb hc0 hc1
   have hc0 := fun j => hX0.cell j
   have hl0 := hX0.lt
   have hc1 := fun j => hX1.cell j
   have hl1 := hX1.lt
   go_wp2_with fail
   refine (known_is _ (hT.keep hfr) (hM.keep hfr)).mono ?_
   rintro e' w1 ⟨rfl, hb⟩
   replace hfr := fr_call hfr hb
   clear hb
   go_wp2_with fail
   go_ret
   exact ⟨rfl, hfr⟩
  ·have s2a : vs.length ≤ 8 ∧ ms.length ≤ 11 := by simp at s2; omega
   cases f1 : findB ws ns
   ·go_enter Tryz.func4, Tryz.ntmps4
    go_wp2_with fail
    refine (short_any A N ws.length ns.length c d _ _ s1).mono ?_
    rintro e' w1 ⟨rfl, hb⟩
    replace hfr := fr_call hfr hb
    replace hf := hf.keep hb
    replace hg := hg.keep hb
    replace hx := hx.keep hb
    replace hy := hy.keep hb
    replace hX0 := hX0.keep hb
    replace hX1 := hX1.keep hb
    clear hb hc0 hc1
    have hc0 := fun j => hX0.cell j
    have hl0 := hX0.lt
    have hc1 := fun j => hX1.cell j
    have hl1 := hX1.lt
    go_wp2_with fail
    refine (short_any B M vs.length ms.length e k _ _ s2).mono ?_
    rintro e' w1 ⟨rfl, hb⟩
    replace hfr := fr_call hfr hb
    replace hf := hf.keep hb
    replace hg := hg.keep hb
    replace hx := hx.keep hb
    replace hy := hy.keep hb
    replace hX0 := hX0.keep hb
    replace hX1 := hX1.keep hb
    clear hb hc0 hc1
    have hc0 := fun j => hX0.cell j
    have hl0 := hX0.lt
    have hc1 := fun j => hX1.cell j
    have hl1 := hX1.lt
    go_wp2_with fail
    refine (Find8_any A N ws.length ns.length c d ws ns _ hf rfl rfl (by omega) (by omega) _ f1).mono ?_
    rintro e' w1 ⟨rfl, hb⟩
    replace hfr := fr_call hfr hb
    replace hf := hf.keep hb
    replace hg := hg.keep hb
    replace hx := hx.keep hb
    replace hy := hy.keep hb
    replace hX0 := hX0.keep hb
    replace hX1 := hX1.keep hb
    clear hb hc0 hc1
    have hc0 := fun j => hX0.cell j
    have hl0 := hX0.lt
    have hc1 := fun j => hX1.cell j
    have hl1 := hX1.lt
    go_wp2_with fail
    refine (known_is _ (hT.keep hfr) (hM.keep hfr)).mono ?_
    rintro e' w1 ⟨rfl, hb⟩
    replace hfr := fr_call hfr hb
    clear hb
    go_wp2_with fail
    go_ret
    exact ⟨rfl, hfr⟩
   ·cases f2 : findB vs ms
    ·go_enter Tryz.func4, Tryz.ntmps4
     go_wp2_with fail
     refine (short_any A N ws.length ns.length c d _ _ s1).mono ?_
     rintro e' w1 ⟨rfl, hb⟩
     replace hfr := fr_call hfr hb
     replace hf := hf.keep hb
     replace hg := hg.keep hb
     replace hx := hx.keep hb
     replace hy := hy.keep hb
     replace hX0 := hX0.keep hb
     replace hX1 := hX1.keep hb
     clear hb hc0 hc1
     have hc0 := fun j => hX0.cell j
     have hl0 := hX0.lt
     have hc1 := fun j => hX1.cell j
     have hl1 := hX1.lt
     go_wp2_with fail
     refine (short_any B M vs.length ms.length e k _ _ s2).mono ?_
     rintro e' w1 ⟨rfl, hb⟩
     replace hfr := fr_call hfr hb
     replace hf := hf.keep hb
     replace hg := hg.keep hb
     replace hx := hx.keep hb
     replace hy := hy.keep hb
     replace hX0 := hX0.keep hb
     replace hX1 := hX1.keep hb
     clear hb hc0 hc1
     have hc0 := fun j => hX0.cell j
     have hl0 := hX0.lt
     have hc1 := fun j => hX1.cell j
     have hl1 := hX1.lt
     go_wp2_with fail
     refine (Find8_any A N ws.length ns.length c d ws ns _ hf rfl rfl (by omega) (by omega) _ f1).mono ?_
     rintro e' w1 ⟨rfl, hb⟩
     replace hfr := fr_call hfr hb
     replace hf := hf.keep hb
     replace hg := hg.keep hb
     replace hx := hx.keep hb
     replace hy := hy.keep hb
     replace hX0 := hX0.keep hb
     replace hX1 := hX1.keep hb
     clear hb hc0 hc1
     have hc0 := fun j => hX0.cell j
     have hl0 := hX0.lt
     have hc1 := fun j => hX1.cell j
     have hl1 := hX1.lt
     go_wp2_with fail
     refine (Find8_any B M vs.length ms.length e k vs ms _ hg rfl rfl (by omega) (by omega) _ f2).mono ?_
     rintro e' w1 ⟨rfl, hb⟩
     replace hfr := fr_call hfr hb
     replace hf := hf.keep hb
     replace hg := hg.keep hb
     replace hx := hx.keep hb
     replace hy := hy.keep hb
     replace hX0 := hX0.keep hb
     replace hX1 := hX1.keep hb
     clear hb hc0 hc1
     have hc0 := fun j => hX0.cell j
     have hl0 := hX0.lt
     have hc1 := fun j => hX1.cell j
     have hl1 := hX1.lt
     go_wp2_with fail
     refine (known_is _ (hT.keep hfr) (hM.keep hfr)).mono ?_
     rintro e' w1 ⟨rfl, hb⟩
     replace hfr := fr_call hfr hb
     clear hb
     go_wp2_with fail
     go_ret
     exact ⟨rfl, hfr⟩
    ·cases n1 : narrowB ws ns
     ·go_enter Tryz.func4, Tryz.ntmps4
      go_wp2_with fail
      refine (short_any A N ws.length ns.length c d _ _ s1).mono ?_
      rintro e' w1 ⟨rfl, hb⟩
      replace hfr := fr_call hfr hb
      replace hf := hf.keep hb
      replace hg := hg.keep hb
      replace hx := hx.keep hb
      replace hy := hy.keep hb
      replace hX0 := hX0.keep hb
      replace hX1 := hX1.keep hb
      clear hb hc0 hc1
      have hc0 := fun j => hX0.cell j
      have hl0 := hX0.lt
      have hc1 := fun j => hX1.cell j
      have hl1 := hX1.lt
      go_wp2_with fail
      refine (short_any B M vs.length ms.length e k _ _ s2).mono ?_
      rintro e' w1 ⟨rfl, hb⟩
      replace hfr := fr_call hfr hb
      replace hf := hf.keep hb
      replace hg := hg.keep hb
      replace hx := hx.keep hb
      replace hy := hy.keep hb
      replace hX0 := hX0.keep hb
      replace hX1 := hX1.keep hb
      clear hb hc0 hc1
      have hc0 := fun j => hX0.cell j
      have hl0 := hX0.lt
      have hc1 := fun j => hX1.cell j
      have hl1 := hX1.lt
      go_wp2_with fail
      refine (Find8_any A N ws.length ns.length c d ws ns _ hf rfl rfl (by omega) (by omega) _ f1).mono ?_
      rintro e' w1 ⟨rfl, hb⟩
      replace hfr := fr_call hfr hb
      replace hf := hf.keep hb
      replace hg := hg.keep hb
      replace hx := hx.keep hb
      replace hy := hy.keep hb
      replace hX0 := hX0.keep hb
      replace hX1 := hX1.keep hb
      clear hb hc0 hc1
      have hc0 := fun j => hX0.cell j
      have hl0 := hX0.lt
      have hc1 := fun j => hX1.cell j
      have hl1 := hX1.lt
      go_wp2_with fail
      refine (Find8_any B M vs.length ms.length e k vs ms _ hg rfl rfl (by omega) (by omega) _ f2).mono ?_
      rintro e' w1 ⟨rfl, hb⟩
      replace hfr := fr_call hfr hb
      replace hf := hf.keep hb
      replace hg := hg.keep hb
      replace hx := hx.keep hb
      replace hy := hy.keep hb
      replace hX0 := hX0.keep hb
      replace hX1 := hX1.keep hb
      clear hb hc0 hc1
      have hc0 := fun j => hX0.cell j
      have hl0 := hX0.lt
      have hc1 := fun j => hX1.cell j
      have hl1 := hX1.lt
      go_wp2_with fail
      refine (narrow_any A N ws.length ns.length c d ws ns _ hf rfl rfl (by omega) (by omega) _ n1).mono ?_
      rintro e' w1 ⟨rfl, hb⟩
      replace hfr := fr_call hfr hb
      replace hf := hf.keep hb
      replace hg := hg.keep hb
      replace hx := hx.keep hb
      replace hy := hy.keep hb
      replace hX0 := hX0.keep hb
      replace hX1 := hX1.keep hb
      clear hb hc0 hc1
      have hc0 := fun j => hX0.cell j
      have hl0 := hX0.lt
      have hc1 := fun j => hX1.cell j
      have hl1 := hX1.lt
      go_wp2_with fail
      refine (known_is _ (hT.keep hfr) (hM.keep hfr)).mono ?_
      rintro e' w1 ⟨rfl, hb⟩
      replace hfr := fr_call hfr hb
      clear hb
      go_wp2_with fail
      go_ret
      exact ⟨rfl, hfr⟩
     ·cases n2 : narrowB vs ms
      ·go_enter Tryz.func4, Tryz.ntmps4
       go_wp2_with fail
       refine (short_any A N ws.length ns.length c d _ _ s1).mono ?_
       rintro e' w1 ⟨rfl, hb⟩
       replace hfr := fr_call hfr hb
       replace hf := hf.keep hb
       replace hg := hg.keep hb
       replace hx := hx.keep hb
       replace hy := hy.keep hb
       replace hX0 := hX0.keep hb
       replace hX1 := hX1.keep hb
       clear hb hc0 hc1
       have hc0 := fun j => hX0.cell j
       have hl0 := hX0.lt
       have hc1 := fun j => hX1.cell j
       have hl1 := hX1.lt
       go_wp2_with fail
       refine (short_any B M vs.length ms.length e k _ _ s2).mono ?_
       rintro e' w1 ⟨rfl, hb⟩
       replace hfr := fr_call hfr hb
       replace hf := hf.keep hb
       replace hg := hg.keep hb
       replace hx := hx.keep hb
       replace hy := hy.keep hb
       replace hX0 := hX0.keep hb
       replace hX1 := hX1.keep hb
       clear hb hc0 hc1
       have hc0 := fun j => hX0.cell j
       have hl0 := hX0.lt
       have hc1 := fun j => hX1.cell j
       have hl1 := hX1.lt
       go_wp2_with fail
       refine (Find8_any A N ws.length ns.length c d ws ns _ hf rfl rfl (by omega) (by omega) _ f1).mono ?_
       rintro e' w1 ⟨rfl, hb⟩
       replace hfr := fr_call hfr hb
       replace hf := hf.keep hb
       replace hg := hg.keep hb
       replace hx := hx.keep hb
       replace hy := hy.keep hb
       replace hX0 := hX0.keep hb
       replace hX1 := hX1.keep hb
       clear hb hc0 hc1
       have hc0 := fun j => hX0.cell j
       have hl0 := hX0.lt
       have hc1 := fun j => hX1.cell j
       have hl1 := hX1.lt
       go_wp2_with fail
       refine (Find8_any B M vs.length ms.length e k vs ms _ hg rfl rfl (by omega) (by omega) _ f2).mono ?_
       rintro e' w1 ⟨rfl, hb⟩
       replace hfr := fr_call hfr hb
       replace hf := hf.keep hb
       replace hg := hg.keep hb
       replace hx := hx.keep hb
       replace hy := hy.keep hb
       replace hX0 := hX0.keep hb
       replace hX1 := hX1.keep hb
       clear hb hc0 hc1
       have hc0 := fun j => hX0.cell j
       have hl0 := hX0.lt
       have hc1 := fun j => hX1.cell j
       have hl1 := hX1.lt
       go_wp2_with fail
       refine (narrow_any A N ws.length ns.length c d ws ns _ hf rfl rfl (by omega) (by omega) _ n1).mono ?_
       rintro e' w1 ⟨rfl, hb⟩
       replace hfr := fr_call hfr hb
       replace hf := hf.keep hb
       replace hg := hg.keep hb
       replace hx := hx.keep hb
       replace hy := hy.keep hb
       replace hX0 := hX0.keep hb
       replace hX1 := hX1.keep hb
       clear hb hc0 hc1
       have hc0 := fun j => hX0.cell j
       have hl0 := hX0.lt
       have hc1 := fun j => hX1.cell j
       have hl1 := hX1.lt
       go_wp2_with fail
       refine (narrow_any B M vs.length ms.length e k vs ms _ hg rfl rfl (by omega) (by omega) _ n2).mono ?_
       rintro e' w1 ⟨rfl, hb⟩
       replace hfr := fr_call hfr hb
       replace hf := hf.keep hb
       replace hg := hg.keep hb
       replace hx := hx.keep hb
       replace hy := hy.keep hb
       replace hX0 := hX0.keep hb
       replace hX1 := hX1.keep hb
       clear hb hc0 hc1
       have hc0 := fun j => hX0.cell j
       have hl0 := hX0.lt
       have hc1 := fun j => hX1.cell j
       have hl1 := hX1.lt
       go_wp2_with fail
       refine (known_is _ (hT.keep hfr) (hM.keep hfr)).mono ?_
       rintro e' w1 ⟨rfl, hb⟩
       replace hfr := fr_call hfr hb
       clear hb
       go_wp2_with fail
       go_ret
       exact ⟨rfl, hfr⟩
      ·by_cases k1 : x.length ≤ 5
       ·have k1b : ¬ (5 < (x.length : Int)) := by omega
        by_cases k2 : y.length ≤ 5
        ·have k2b : ¬ (5 < (y.length : Int)) := by omega
         by_cases o1 : Fits ws (teethL x)
         ·have o1H := Lib.hid o1
          by_cases o2 : Fits vs (teethL y)
          ·have o2H := Lib.hid o2
           have hv := find_ok f1
           have hu := find_ok f2
           obtain ⟨ts, hts⟩ : ∃ ts, guessL ws ns = ts := ⟨_, rfl⟩
           obtain ⟨us, hus⟩ : ∃ us, guessL vs ms = us := ⟨_, rfl⟩
           have htl : ∀ t ∈ ts, t.length = ws.length := fun t ht => by rw [← hts] at ht; exact (mem_guess.1 ht).1.len
           have hul : ∀ t ∈ us, t.length = vs.length := fun t ht => by rw [← hus] at ht; exact (mem_guess.1 ht).1.len
           obtain ⟨la, has⟩ : ∃ la, breaksL ns (teethL x) = la := ⟨_, rfl⟩
           obtain ⟨bs, hbs⟩ : ∃ bs, breaksL ms (teethL y) = bs := ⟨_, rfl⟩
           have hma : la.length = 0 → teethL x ∈ ts := fun h => by rw [← hts, mem_guess, has]; exact ⟨o1, List.length_eq_zero_iff.1 h⟩
           have hmb : bs.length = 0 → teethL y ∈ us := fun h => by rw [← hus, mem_guess, hbs]; exact ⟨o2, List.length_eq_zero_iff.1 h⟩
           have ha1 := fun W h1 h2 => Alike_ok A N B M c d e k ws vs ns ms ts us W h1 hv h2 hu hts hus
           have ha2 := fun W h1 h2 => Alike_ok B M A N e k c d vs ws ms ns us ts W h2 hu h1 hv hus hts
           have ha3 := fun W h1 => Alike_ok A N A N c d c d ws ws ns ns ts ts W h1 hv h1 hv hts hts
           have hb1 := fun W h1 h2 => Breaks_own A N C c d i x.length ws ns x W h1 hv h2 rfl o1
           have hb2 := fun W h1 h2 => Breaks_own B M D e k j y.length vs ms y W h1 hu h2 rfl o2
           have hcm := fun W h1 h2 => Common8_any C D x.length y.length i j x y W h1 h2 rfl rfl (by omega) (by omega) (by have h1 := o2.len; rw [teethL_len] at h1; have := hu.two; omega) (fun z hz => fits_ne hv.wh o1 z hz) (fun z hz => fits_ne hu.wh o2 z hz)
           rw [has] at hb1
           rw [hbs] at hb2
           obtain ⟨p, hp⟩ : ∃ p, la.length = p := ⟨_, rfl⟩
           obtain ⟨q, hq⟩ : ∃ q, bs.length = q := ⟨_, rfl⟩
           obtain ⟨z, hz⟩ : ∃ z, comL (teethL x) (teethL y) = z := ⟨_, rfl⟩
           rw [hz] at hcm
           have F1 := Lib.hid f1
           have F2 := Lib.hid f2
           unfold AlikePost at ha1 ha2 ha3
           unfold RetD at hb1 hb2
           rw [hp] at hma hb1
           rw [hq] at hmb hb2
           have hin : p = 0 → q = 0 → (alikeL ts us).1 ≤ (z : Int) ∧ (z : Int) ≤ (alikeL ts us).2 := fun h1 h2 => by rw [← hz]; exact alike_mem (hma h1) (hmb h2)
           clear has hbs hts hus hv hu f1 f2 o1 o2 hp hq hz
           by_cases he : ts = [] ∨ us = []
           ·have he2 : us = [] ∨ ts = [] := he.symm
            simp only [if_pos he, if_pos he2, RetSp] at ha1 ha2
            by_cases hp0 : p = 0
            ·have hq0 : q ≠ 0 := fun h => by
              rcases he with e | e
              ·have := hma hp0; rw [e] at this; cases this
              ·have := hmb h; rw [e] at this; cases this
             have hpb : ((p : Int) != 0) = false := by rw [hp0]; rfl
             have hqb : ((q : Int) != 0) = true := by simpa using hq0
             clear hp0 hq0 he he2 hma hmb hin ha3
             go_enter Tryz.func4, Tryz.ntmps4
             go_wp2_with fail
             refine (short_any A N ws.length ns.length c d _ _ s1).mono ?_
             rintro e' w1 ⟨rfl, hb⟩
             replace hfr := fr_call hfr hb
             replace hf := hf.keep hb
             replace hg := hg.keep hb
             replace hx := hx.keep hb
             replace hy := hy.keep hb
             replace hX0 := hX0.keep hb
             replace hX1 := hX1.keep hb
             clear hb hc0 hc1
             have hc0 := fun j => hX0.cell j
             have hl0 := hX0.lt
             have hc1 := fun j => hX1.cell j
             have hl1 := hX1.lt
             go_wp2_with fail
             refine (short_any B M vs.length ms.length e k _ _ s2).mono ?_
             rintro e' w1 ⟨rfl, hb⟩
             replace hfr := fr_call hfr hb
             replace hf := hf.keep hb
             replace hg := hg.keep hb
             replace hx := hx.keep hb
             replace hy := hy.keep hb
             replace hX0 := hX0.keep hb
             replace hX1 := hX1.keep hb
             clear hb hc0 hc1
             have hc0 := fun j => hX0.cell j
             have hl0 := hX0.lt
             have hc1 := fun j => hX1.cell j
             have hl1 := hX1.lt
             go_wp2_with fail
             refine (Find8_any A N ws.length ns.length c d ws ns _ hf rfl rfl (by omega) (by omega) _ F1.out).mono ?_
             rintro e' w1 ⟨rfl, hb⟩
             replace hfr := fr_call hfr hb
             replace hf := hf.keep hb
             replace hg := hg.keep hb
             replace hx := hx.keep hb
             replace hy := hy.keep hb
             replace hX0 := hX0.keep hb
             replace hX1 := hX1.keep hb
             clear hb hc0 hc1
             have hc0 := fun j => hX0.cell j
             have hl0 := hX0.lt
             have hc1 := fun j => hX1.cell j
             have hl1 := hX1.lt
             go_wp2_with fail
             refine (Find8_any B M vs.length ms.length e k vs ms _ hg rfl rfl (by omega) (by omega) _ F2.out).mono ?_
             rintro e' w1 ⟨rfl, hb⟩
             replace hfr := fr_call hfr hb
             replace hf := hf.keep hb
             replace hg := hg.keep hb
             replace hx := hx.keep hb
             replace hy := hy.keep hb
             replace hX0 := hX0.keep hb
             replace hX1 := hX1.keep hb
             clear hb hc0 hc1
             have hc0 := fun j => hX0.cell j
             have hl0 := hX0.lt
             have hc1 := fun j => hX1.cell j
             have hl1 := hX1.lt
             go_wp2_with fail
             refine (narrow_any A N ws.length ns.length c d ws ns _ hf rfl rfl (by omega) (by omega) _ n1).mono ?_
             rintro e' w1 ⟨rfl, hb⟩
             replace hfr := fr_call hfr hb
             replace hf := hf.keep hb
             replace hg := hg.keep hb
             replace hx := hx.keep hb
             replace hy := hy.keep hb
             replace hX0 := hX0.keep hb
             replace hX1 := hX1.keep hb
             clear hb hc0 hc1
             have hc0 := fun j => hX0.cell j
             have hl0 := hX0.lt
             have hc1 := fun j => hX1.cell j
             have hl1 := hX1.lt
             go_wp2_with fail
             refine (narrow_any B M vs.length ms.length e k vs ms _ hg rfl rfl (by omega) (by omega) _ n2).mono ?_
             rintro e' w1 ⟨rfl, hb⟩
             replace hfr := fr_call hfr hb
             replace hf := hf.keep hb
             replace hg := hg.keep hb
             replace hx := hx.keep hb
             replace hy := hy.keep hb
             replace hX0 := hX0.keep hb
             replace hX1 := hX1.keep hb
             clear hb hc0 hc1
             have hc0 := fun j => hX0.cell j
             have hl0 := hX0.lt
             have hc1 := fun j => hX1.cell j
             have hl1 := hX1.lt
             go_wp2_with fail
             refine (Own8_any A N C ws.length ns.length c d x.length i ws x _ hf.ws hx rfl (by omega) rfl (by omega) true (by simp [o1H.out])).mono ?_
             rintro e' w1 ⟨rfl, hb⟩
             replace hfr := fr_call hfr hb
             replace hf := hf.keep hb
             replace hg := hg.keep hb
             replace hx := hx.keep hb
             replace hy := hy.keep hb
             replace hX0 := hX0.keep hb
             replace hX1 := hX1.keep hb
             clear hb hc0 hc1
             have hc0 := fun j => hX0.cell j
             have hl0 := hX0.lt
             have hc1 := fun j => hX1.cell j
             have hl1 := hX1.lt
             go_wp2_with fail
             refine (Own8_any B M D vs.length ms.length e k y.length j vs y _ hg.ws hy rfl (by omega) rfl (by omega) true (by simp [o2H.out])).mono ?_
             rintro e' w1 ⟨rfl, hb⟩
             replace hfr := fr_call hfr hb
             replace hf := hf.keep hb
             replace hg := hg.keep hb
             replace hx := hx.keep hb
             replace hy := hy.keep hb
             replace hX0 := hX0.keep hb
             replace hX1 := hX1.keep hb
             clear hb hc0 hc1
             have hc0 := fun j => hX0.cell j
             have hl0 := hX0.lt
             have hc1 := fun j => hX1.cell j
             have hl1 := hX1.lt
             go_wp2_with fail
             refine (ha1 _ hf hg).mono ?_
             rintro e' w7 ⟨rfl, hb⟩
             replace hfr := fr_call hfr hb
             replace hf := hf.keep hb
             replace hg := hg.keep hb
             replace hx := hx.keep hb
             replace hy := hy.keep hb
             replace hX0 := hX0.keep hb
             replace hX1 := hX1.keep hb
             clear hb hc0 hc1
             have hc0 := fun j => hX0.cell j
             have hl0 := hX0.lt
             have hc1 := fun j => hX1.cell j
             have hl1 := hX1.lt
             have hS0 := Blk.new w7 47 #[.int .i64 0, .int .i64 0]
             have hb := fr_alloc (fr_refl w7) (.cells #[.int .i64 0, .int .i64 0] 47)
             replace hfr := fr_call hfr hb
             replace hf := hf.keep hb
             replace hg := hg.keep hb
             replace hx := hx.keep hb
             replace hy := hy.keep hb
             replace hX0 := hX0.keep hb
             replace hX1 := hX1.keep hb
             clear hb hc0 hc1
             have hc0 := fun j => hX0.cell j
             have hl0 := hX0.lt
             have hc1 := fun j => hX1.cell j
             have hl1 := hX1.lt
             go_wp2_with fail
             refine (ha2 _ hf hg).mono ?_
             rintro e' w8 ⟨rfl, hb⟩
             replace hfr := fr_call hfr hb
             replace hf := hf.keep hb
             replace hg := hg.keep hb
             replace hx := hx.keep hb
             replace hy := hy.keep hb
             replace hS0 := hS0.keep hb
             replace hX0 := hX0.keep hb
             replace hX1 := hX1.keep hb
             clear hb hc0 hc1
             have hc0 := fun j => hX0.cell j
             have hl0 := hX0.lt
             have hc1 := fun j => hX1.cell j
             have hl1 := hX1.lt
             have hS1 := Blk.new w8 47 #[.int .i64 0, .int .i64 0]
             have hb := fr_alloc (fr_refl w8) (.cells #[.int .i64 0, .int .i64 0] 47)
             replace hfr := fr_call hfr hb
             replace hf := hf.keep hb
             replace hg := hg.keep hb
             replace hx := hx.keep hb
             replace hy := hy.keep hb
             replace hS0 := hS0.keep hb
             replace hX0 := hX0.keep hb
             replace hX1 := hX1.keep hb
             clear hb hc0 hc1
             have hc0 := fun j => hX0.cell j
             have hl0 := hX0.lt
             have hc1 := fun j => hX1.cell j
             have hl1 := hX1.lt
             go_wp2_with fail
             refine (hb1 _ hf hx).mono ?_
             rintro e' w1 ⟨P1, p1, rfl, -, hb⟩
             replace hfr := fr_call hfr hb
             replace hf := hf.keep hb
             replace hg := hg.keep hb
             replace hx := hx.keep hb
             replace hy := hy.keep hb
             replace hS0 := hS0.keep hb
             replace hS1 := hS1.keep hb
             replace hX0 := hX0.keep hb
             replace hX1 := hX1.keep hb
             clear hb hc0 hc1
             have hc0 := fun j => hX0.cell j
             have hl0 := hX0.lt
             have hc1 := fun j => hX1.cell j
             have hl1 := hX1.lt
             go_wp2_with fail
             refine (hb2 _ hg hy).mono ?_
             rintro e' w1 ⟨P2, p2, rfl, -, hb⟩
             replace hfr := fr_call hfr hb
             replace hf := hf.keep hb
             replace hg := hg.keep hb
             replace hx := hx.keep hb
             replace hy := hy.keep hb
             replace hS0 := hS0.keep hb
             replace hS1 := hS1.keep hb
             replace hX0 := hX0.keep hb
             replace hX1 := hX1.keep hb
             clear hb hc0 hc1
             have hc0 := fun j => hX0.cell j
             have hl0 := hX0.lt
             have hc1 := fun j => hX1.cell j
             have hl1 := hX1.lt
             have hc2 := fun j => hS0.cell j
             have hc3 := fun j => hS1.cell j
             have hl2 := hS0.lt
             have hl3 := hS1.lt
             go_wp2_with fail
             refine (known_is _ (hT.keep hfr) (hM.keep hfr)).mono ?_
             rintro e' w1 ⟨rfl, hb⟩
             replace hfr := fr_call hfr hb
             clear hb
             go_wp2_with fail
             go_ret
             exact ⟨rfl, hfr⟩
            ·have hpb : ((p : Int) != 0) = true := by simpa using hp0
             clear hp0 he he2 hma hmb hin ha3
             go_enter Tryz.func4, Tryz.ntmps4
             go_wp2_with fail
             refine (short_any A N ws.length ns.length c d _ _ s1).mono ?_
             rintro e' w1 ⟨rfl, hb⟩
             replace hfr := fr_call hfr hb
             replace hf := hf.keep hb
             replace hg := hg.keep hb
             replace hx := hx.keep hb
             replace hy := hy.keep hb
             replace hX0 := hX0.keep hb
             replace hX1 := hX1.keep hb
             clear hb hc0 hc1
             have hc0 := fun j => hX0.cell j
             have hl0 := hX0.lt
             have hc1 := fun j => hX1.cell j
             have hl1 := hX1.lt
             go_wp2_with fail
             refine (short_any B M vs.length ms.length e k _ _ s2).mono ?_
             rintro e' w1 ⟨rfl, hb⟩
             replace hfr := fr_call hfr hb
             replace hf := hf.keep hb
             replace hg := hg.keep hb
             replace hx := hx.keep hb
             replace hy := hy.keep hb
             replace hX0 := hX0.keep hb
             replace hX1 := hX1.keep hb
             clear hb hc0 hc1
             have hc0 := fun j => hX0.cell j
             have hl0 := hX0.lt
             have hc1 := fun j => hX1.cell j
             have hl1 := hX1.lt
             go_wp2_with fail
             refine (Find8_any A N ws.length ns.length c d ws ns _ hf rfl rfl (by omega) (by omega) _ F1.out).mono ?_
             rintro e' w1 ⟨rfl, hb⟩
             replace hfr := fr_call hfr hb
             replace hf := hf.keep hb
             replace hg := hg.keep hb
             replace hx := hx.keep hb
             replace hy := hy.keep hb
             replace hX0 := hX0.keep hb
             replace hX1 := hX1.keep hb
             clear hb hc0 hc1
             have hc0 := fun j => hX0.cell j
             have hl0 := hX0.lt
             have hc1 := fun j => hX1.cell j
             have hl1 := hX1.lt
             go_wp2_with fail
             refine (Find8_any B M vs.length ms.length e k vs ms _ hg rfl rfl (by omega) (by omega) _ F2.out).mono ?_
             rintro e' w1 ⟨rfl, hb⟩
             replace hfr := fr_call hfr hb
             replace hf := hf.keep hb
             replace hg := hg.keep hb
             replace hx := hx.keep hb
             replace hy := hy.keep hb
             replace hX0 := hX0.keep hb
             replace hX1 := hX1.keep hb
             clear hb hc0 hc1
             have hc0 := fun j => hX0.cell j
             have hl0 := hX0.lt
             have hc1 := fun j => hX1.cell j
             have hl1 := hX1.lt
             go_wp2_with fail
             refine (narrow_any A N ws.length ns.length c d ws ns _ hf rfl rfl (by omega) (by omega) _ n1).mono ?_
             rintro e' w1 ⟨rfl, hb⟩
             replace hfr := fr_call hfr hb
             replace hf := hf.keep hb
             replace hg := hg.keep hb
             replace hx := hx.keep hb
             replace hy := hy.keep hb
             replace hX0 := hX0.keep hb
             replace hX1 := hX1.keep hb
             clear hb hc0 hc1
             have hc0 := fun j => hX0.cell j
             have hl0 := hX0.lt
             have hc1 := fun j => hX1.cell j
             have hl1 := hX1.lt
             go_wp2_with fail
             refine (narrow_any B M vs.length ms.length e k vs ms _ hg rfl rfl (by omega) (by omega) _ n2).mono ?_
             rintro e' w1 ⟨rfl, hb⟩
             replace hfr := fr_call hfr hb
             replace hf := hf.keep hb
             replace hg := hg.keep hb
             replace hx := hx.keep hb
             replace hy := hy.keep hb
             replace hX0 := hX0.keep hb
             replace hX1 := hX1.keep hb
             clear hb hc0 hc1
             have hc0 := fun j => hX0.cell j
             have hl0 := hX0.lt
             have hc1 := fun j => hX1.cell j
             have hl1 := hX1.lt
             go_wp2_with fail
             refine (Own8_any A N C ws.length ns.length c d x.length i ws x _ hf.ws hx rfl (by omega) rfl (by omega) true (by simp [o1H.out])).mono ?_
             rintro e' w1 ⟨rfl, hb⟩
             replace hfr := fr_call hfr hb
             replace hf := hf.keep hb
             replace hg := hg.keep hb
             replace hx := hx.keep hb
             replace hy := hy.keep hb
             replace hX0 := hX0.keep hb
             replace hX1 := hX1.keep hb
             clear hb hc0 hc1
             have hc0 := fun j => hX0.cell j
             have hl0 := hX0.lt
             have hc1 := fun j => hX1.cell j
             have hl1 := hX1.lt
             go_wp2_with fail
             refine (Own8_any B M D vs.length ms.length e k y.length j vs y _ hg.ws hy rfl (by omega) rfl (by omega) true (by simp [o2H.out])).mono ?_
             rintro e' w1 ⟨rfl, hb⟩
             replace hfr := fr_call hfr hb
             replace hf := hf.keep hb
             replace hg := hg.keep hb
             replace hx := hx.keep hb
             replace hy := hy.keep hb
             replace hX0 := hX0.keep hb
             replace hX1 := hX1.keep hb
             clear hb hc0 hc1
             have hc0 := fun j => hX0.cell j
             have hl0 := hX0.lt
             have hc1 := fun j => hX1.cell j
             have hl1 := hX1.lt
             go_wp2_with fail
             refine (ha1 _ hf hg).mono ?_
             rintro e' w7 ⟨rfl, hb⟩
             replace hfr := fr_call hfr hb
             replace hf := hf.keep hb
             replace hg := hg.keep hb
             replace hx := hx.keep hb
             replace hy := hy.keep hb
             replace hX0 := hX0.keep hb
             replace hX1 := hX1.keep hb
             clear hb hc0 hc1
             have hc0 := fun j => hX0.cell j
             have hl0 := hX0.lt
             have hc1 := fun j => hX1.cell j
             have hl1 := hX1.lt
             have hS0 := Blk.new w7 47 #[.int .i64 0, .int .i64 0]
             have hb := fr_alloc (fr_refl w7) (.cells #[.int .i64 0, .int .i64 0] 47)
             replace hfr := fr_call hfr hb
             replace hf := hf.keep hb
             replace hg := hg.keep hb
             replace hx := hx.keep hb
             replace hy := hy.keep hb
             replace hX0 := hX0.keep hb
             replace hX1 := hX1.keep hb
             clear hb hc0 hc1
             have hc0 := fun j => hX0.cell j
             have hl0 := hX0.lt
             have hc1 := fun j => hX1.cell j
             have hl1 := hX1.lt
             go_wp2_with fail
             refine (ha2 _ hf hg).mono ?_
             rintro e' w8 ⟨rfl, hb⟩
             replace hfr := fr_call hfr hb
             replace hf := hf.keep hb
             replace hg := hg.keep hb
             replace hx := hx.keep hb
             replace hy := hy.keep hb
             replace hS0 := hS0.keep hb
             replace hX0 := hX0.keep hb
             replace hX1 := hX1.keep hb
             clear hb hc0 hc1
             have hc0 := fun j => hX0.cell j
             have hl0 := hX0.lt
             have hc1 := fun j => hX1.cell j
             have hl1 := hX1.lt
             have hS1 := Blk.new w8 47 #[.int .i64 0, .int .i64 0]
             have hb := fr_alloc (fr_refl w8) (.cells #[.int .i64 0, .int .i64 0] 47)
             replace hfr := fr_call hfr hb
             replace hf := hf.keep hb
             replace hg := hg.keep hb
             replace hx := hx.keep hb
             replace hy := hy.keep hb
             replace hS0 := hS0.keep hb
             replace hX0 := hX0.keep hb
             replace hX1 := hX1.keep hb
             clear hb hc0 hc1
             have hc0 := fun j => hX0.cell j
             have hl0 := hX0.lt
             have hc1 := fun j => hX1.cell j
             have hl1 := hX1.lt
             go_wp2_with fail
             refine (hb1 _ hf hx).mono ?_
             rintro e' w1 ⟨P1, p1, rfl, -, hb⟩
             replace hfr := fr_call hfr hb
             replace hf := hf.keep hb
             replace hg := hg.keep hb
             replace hx := hx.keep hb
             replace hy := hy.keep hb
             replace hS0 := hS0.keep hb
             replace hS1 := hS1.keep hb
             replace hX0 := hX0.keep hb
             replace hX1 := hX1.keep hb
             clear hb hc0 hc1
             have hc0 := fun j => hX0.cell j
             have hl0 := hX0.lt
             have hc1 := fun j => hX1.cell j
             have hl1 := hX1.lt
             go_wp2_with fail
             refine (hb2 _ hg hy).mono ?_
             rintro e' w1 ⟨P2, p2, rfl, -, hb⟩
             replace hfr := fr_call hfr hb
             replace hf := hf.keep hb
             replace hg := hg.keep hb
             replace hx := hx.keep hb
             replace hy := hy.keep hb
             replace hS0 := hS0.keep hb
             replace hS1 := hS1.keep hb
             replace hX0 := hX0.keep hb
             replace hX1 := hX1.keep hb
             clear hb hc0 hc1
             have hc0 := fun j => hX0.cell j
             have hl0 := hX0.lt
             have hc1 := fun j => hX1.cell j
             have hl1 := hX1.lt
             have hc2 := fun j => hS0.cell j
             have hc3 := fun j => hS1.cell j
             have hl2 := hS0.lt
             have hl3 := hS1.lt
             go_wp2_with fail
             refine (known_is _ (hT.keep hfr) (hM.keep hfr)).mono ?_
             rintro e' w1 ⟨rfl, hb⟩
             replace hfr := fr_call hfr hb
             clear hb
             go_wp2_with fail
             go_ret
             exact ⟨rfl, hfr⟩
           ·have he2 : ¬ (us = [] ∨ ts = []) := fun h => he h.symm
            by_cases hlong : 200 < ts.length ∨ 200 < us.length
            ·have hlong2 : 200 < us.length ∨ 200 < ts.length := hlong.symm
             simp only [if_neg he, if_neg he2, if_pos hlong, if_pos hlong2, RetSp] at ha1 ha2
             clear he he2 hlong hlong2 hma hmb hin ha3
             go_enter Tryz.func4, Tryz.ntmps4
             go_wp2_with fail
             refine (short_any A N ws.length ns.length c d _ _ s1).mono ?_
             rintro e' w1 ⟨rfl, hb⟩
             replace hfr := fr_call hfr hb
             replace hf := hf.keep hb
             replace hg := hg.keep hb
             replace hx := hx.keep hb
             replace hy := hy.keep hb
             replace hX0 := hX0.keep hb
             replace hX1 := hX1.keep hb
             clear hb hc0 hc1
             have hc0 := fun j => hX0.cell j
             have hl0 := hX0.lt
             have hc1 := fun j => hX1.cell j
             have hl1 := hX1.lt
             go_wp2_with fail
             refine (short_any B M vs.length ms.length e k _ _ s2).mono ?_
             rintro e' w1 ⟨rfl, hb⟩
             replace hfr := fr_call hfr hb
             replace hf := hf.keep hb
             replace hg := hg.keep hb
             replace hx := hx.keep hb
             replace hy := hy.keep hb
             replace hX0 := hX0.keep hb
             replace hX1 := hX1.keep hb
             clear hb hc0 hc1
             have hc0 := fun j => hX0.cell j
             have hl0 := hX0.lt
             have hc1 := fun j => hX1.cell j
             have hl1 := hX1.lt
             go_wp2_with fail
             refine (Find8_any A N ws.length ns.length c d ws ns _ hf rfl rfl (by omega) (by omega) _ F1.out).mono ?_
             rintro e' w1 ⟨rfl, hb⟩
             replace hfr := fr_call hfr hb
             replace hf := hf.keep hb
             replace hg := hg.keep hb
             replace hx := hx.keep hb
             replace hy := hy.keep hb
             replace hX0 := hX0.keep hb
             replace hX1 := hX1.keep hb
             clear hb hc0 hc1
             have hc0 := fun j => hX0.cell j
             have hl0 := hX0.lt
             have hc1 := fun j => hX1.cell j
             have hl1 := hX1.lt
             go_wp2_with fail
             refine (Find8_any B M vs.length ms.length e k vs ms _ hg rfl rfl (by omega) (by omega) _ F2.out).mono ?_
             rintro e' w1 ⟨rfl, hb⟩
             replace hfr := fr_call hfr hb
             replace hf := hf.keep hb
             replace hg := hg.keep hb
             replace hx := hx.keep hb
             replace hy := hy.keep hb
             replace hX0 := hX0.keep hb
             replace hX1 := hX1.keep hb
             clear hb hc0 hc1
             have hc0 := fun j => hX0.cell j
             have hl0 := hX0.lt
             have hc1 := fun j => hX1.cell j
             have hl1 := hX1.lt
             go_wp2_with fail
             refine (narrow_any A N ws.length ns.length c d ws ns _ hf rfl rfl (by omega) (by omega) _ n1).mono ?_
             rintro e' w1 ⟨rfl, hb⟩
             replace hfr := fr_call hfr hb
             replace hf := hf.keep hb
             replace hg := hg.keep hb
             replace hx := hx.keep hb
             replace hy := hy.keep hb
             replace hX0 := hX0.keep hb
             replace hX1 := hX1.keep hb
             clear hb hc0 hc1
             have hc0 := fun j => hX0.cell j
             have hl0 := hX0.lt
             have hc1 := fun j => hX1.cell j
             have hl1 := hX1.lt
             go_wp2_with fail
             refine (narrow_any B M vs.length ms.length e k vs ms _ hg rfl rfl (by omega) (by omega) _ n2).mono ?_
             rintro e' w1 ⟨rfl, hb⟩
             replace hfr := fr_call hfr hb
             replace hf := hf.keep hb
             replace hg := hg.keep hb
             replace hx := hx.keep hb
             replace hy := hy.keep hb
             replace hX0 := hX0.keep hb
             replace hX1 := hX1.keep hb
             clear hb hc0 hc1
             have hc0 := fun j => hX0.cell j
             have hl0 := hX0.lt
             have hc1 := fun j => hX1.cell j
             have hl1 := hX1.lt
             go_wp2_with fail
             refine (Own8_any A N C ws.length ns.length c d x.length i ws x _ hf.ws hx rfl (by omega) rfl (by omega) true (by simp [o1H.out])).mono ?_
             rintro e' w1 ⟨rfl, hb⟩
             replace hfr := fr_call hfr hb
             replace hf := hf.keep hb
             replace hg := hg.keep hb
             replace hx := hx.keep hb
             replace hy := hy.keep hb
             replace hX0 := hX0.keep hb
             replace hX1 := hX1.keep hb
             clear hb hc0 hc1
             have hc0 := fun j => hX0.cell j
             have hl0 := hX0.lt
             have hc1 := fun j => hX1.cell j
             have hl1 := hX1.lt
             go_wp2_with fail
             refine (Own8_any B M D vs.length ms.length e k y.length j vs y _ hg.ws hy rfl (by omega) rfl (by omega) true (by simp [o2H.out])).mono ?_
             rintro e' w1 ⟨rfl, hb⟩
             replace hfr := fr_call hfr hb
             replace hf := hf.keep hb
             replace hg := hg.keep hb
             replace hx := hx.keep hb
             replace hy := hy.keep hb
             replace hX0 := hX0.keep hb
             replace hX1 := hX1.keep hb
             clear hb hc0 hc1
             have hc0 := fun j => hX0.cell j
             have hl0 := hX0.lt
             have hc1 := fun j => hX1.cell j
             have hl1 := hX1.lt
             go_wp2_with fail
             refine (ha1 _ hf hg).mono ?_
             rintro e' w7 ⟨rfl, hb⟩
             replace hfr := fr_call hfr hb
             replace hf := hf.keep hb
             replace hg := hg.keep hb
             replace hx := hx.keep hb
             replace hy := hy.keep hb
             replace hX0 := hX0.keep hb
             replace hX1 := hX1.keep hb
             clear hb hc0 hc1
             have hc0 := fun j => hX0.cell j
             have hl0 := hX0.lt
             have hc1 := fun j => hX1.cell j
             have hl1 := hX1.lt
             have hS0 := Blk.new w7 47 #[.int .i64 0, .int .i64 0]
             have hb := fr_alloc (fr_refl w7) (.cells #[.int .i64 0, .int .i64 0] 47)
             replace hfr := fr_call hfr hb
             replace hf := hf.keep hb
             replace hg := hg.keep hb
             replace hx := hx.keep hb
             replace hy := hy.keep hb
             replace hX0 := hX0.keep hb
             replace hX1 := hX1.keep hb
             clear hb hc0 hc1
             have hc0 := fun j => hX0.cell j
             have hl0 := hX0.lt
             have hc1 := fun j => hX1.cell j
             have hl1 := hX1.lt
             go_wp2_with fail
             refine (ha2 _ hf hg).mono ?_
             rintro e' w8 ⟨rfl, hb⟩
             replace hfr := fr_call hfr hb
             replace hf := hf.keep hb
             replace hg := hg.keep hb
             replace hx := hx.keep hb
             replace hy := hy.keep hb
             replace hS0 := hS0.keep hb
             replace hX0 := hX0.keep hb
             replace hX1 := hX1.keep hb
             clear hb hc0 hc1
             have hc0 := fun j => hX0.cell j
             have hl0 := hX0.lt
             have hc1 := fun j => hX1.cell j
             have hl1 := hX1.lt
             have hS1 := Blk.new w8 47 #[.int .i64 0, .int .i64 0]
             have hb := fr_alloc (fr_refl w8) (.cells #[.int .i64 0, .int .i64 0] 47)
             replace hfr := fr_call hfr hb
             replace hf := hf.keep hb
             replace hg := hg.keep hb
             replace hx := hx.keep hb
             replace hy := hy.keep hb
             replace hS0 := hS0.keep hb
             replace hX0 := hX0.keep hb
             replace hX1 := hX1.keep hb
             clear hb hc0 hc1
             have hc0 := fun j => hX0.cell j
             have hl0 := hX0.lt
             have hc1 := fun j => hX1.cell j
             have hl1 := hX1.lt
             go_wp2_with fail
             refine (hb1 _ hf hx).mono ?_
             rintro e' w1 ⟨P1, p1, rfl, -, hb⟩
             replace hfr := fr_call hfr hb
             replace hf := hf.keep hb
             replace hg := hg.keep hb
             replace hx := hx.keep hb
             replace hy := hy.keep hb
             replace hS0 := hS0.keep hb
             replace hS1 := hS1.keep hb
             replace hX0 := hX0.keep hb
             replace hX1 := hX1.keep hb
             clear hb hc0 hc1
             have hc0 := fun j => hX0.cell j
             have hl0 := hX0.lt
             have hc1 := fun j => hX1.cell j
             have hl1 := hX1.lt
             go_wp2_with fail
             refine (hb2 _ hg hy).mono ?_
             rintro e' w1 ⟨P2, p2, rfl, -, hb⟩
             replace hfr := fr_call hfr hb
             replace hf := hf.keep hb
             replace hg := hg.keep hb
             replace hx := hx.keep hb
             replace hy := hy.keep hb
             replace hS0 := hS0.keep hb
             replace hS1 := hS1.keep hb
             replace hX0 := hX0.keep hb
             replace hX1 := hX1.keep hb
             clear hb hc0 hc1
             have hc0 := fun j => hX0.cell j
             have hl0 := hX0.lt
             have hc1 := fun j => hX1.cell j
             have hl1 := hX1.lt
             have hc2 := fun j => hS0.cell j
             have hc3 := fun j => hS1.cell j
             have hl2 := hS0.lt
             have hl3 := hS1.lt
             go_wp2_with fail
             refine (known_is _ (hT.keep hfr) (hM.keep hfr)).mono ?_
             rintro e' w1 ⟨rfl, hb⟩
             replace hfr := fr_call hfr hb
             clear hb
             go_wp2_with fail
             go_ret
             exact ⟨rfl, hfr⟩
            ·have hlong2 : ¬ (200 < us.length ∨ 200 < ts.length) := fun h => hlong h.symm
             have he3 : ¬ (ts = [] ∨ ts = []) := fun h => he (h.elim Or.inl Or.inl)
             have hlong3 : ¬ (200 < ts.length ∨ 200 < ts.length) := fun h => hlong (h.elim Or.inl Or.inl)
             have n1 : ts ≠ [] := fun h => he (Or.inl h)
             have n2 : us ≠ [] := fun h => he (Or.inr h)
             simp only [if_neg he, if_neg he2, if_neg he3, if_neg hlong, if_neg hlong2, if_neg hlong3, RetSp, alike_comm n1 n2, alike_own n1 htl] at ha1 ha2 ha3
             obtain ⟨q1, q2, q3, q4⟩ := alike_law n1 n2 htl hul
             generalize (alikeL ts us).1 = lo at *
             generalize (alikeL ts us).2 = hi at *
             generalize (alikeL ts ts).1 = ol at *
             clear he he2 he3 hlong hlong2 hlong3 hma hmb n1 n2 htl hul
             have hwl : ((ws.length : Int) == (ws.length : Int)) = true := beq_self_eq_true _
             by_cases hp0 : p = 0
             ·have hpb : ((p : Int) == 0) = true := by rw [hp0]; rfl
              by_cases hq0 : q = 0
              ·have hqb : ((q : Int) == 0) = true := by rw [hq0]; rfl
               obtain ⟨r1, r2⟩ := hin hp0 hq0
               have r3 : ¬ ((z : Int) < lo) := by omega
               have r4 : ¬ (hi < (z : Int)) := by omega
               clear hp0 hq0 hin
               go_enter Tryz.func4, Tryz.ntmps4
               go_wp2_with fail
               refine (short_any A N ws.length ns.length c d _ _ s1).mono ?_
               rintro e' w1 ⟨rfl, hb⟩
               replace hfr := fr_call hfr hb
               replace hf := hf.keep hb
               replace hg := hg.keep hb
               replace hx := hx.keep hb
               replace hy := hy.keep hb
               replace hX0 := hX0.keep hb
               replace hX1 := hX1.keep hb
               clear hb hc0 hc1
               have hc0 := fun j => hX0.cell j
               have hl0 := hX0.lt
               have hc1 := fun j => hX1.cell j
               have hl1 := hX1.lt
               go_wp2_with fail
               refine (short_any B M vs.length ms.length e k _ _ s2).mono ?_
               rintro e' w1 ⟨rfl, hb⟩
               replace hfr := fr_call hfr hb
               replace hf := hf.keep hb
               replace hg := hg.keep hb
               replace hx := hx.keep hb
               replace hy := hy.keep hb
               replace hX0 := hX0.keep hb
               replace hX1 := hX1.keep hb
               clear hb hc0 hc1
               have hc0 := fun j => hX0.cell j
               have hl0 := hX0.lt
               have hc1 := fun j => hX1.cell j
               have hl1 := hX1.lt
               go_wp2_with fail
               refine (Find8_any A N ws.length ns.length c d ws ns _ hf rfl rfl (by omega) (by omega) _ F1.out).mono ?_
               rintro e' w1 ⟨rfl, hb⟩
               replace hfr := fr_call hfr hb
               replace hf := hf.keep hb
               replace hg := hg.keep hb
               replace hx := hx.keep hb
               replace hy := hy.keep hb
               replace hX0 := hX0.keep hb
               replace hX1 := hX1.keep hb
               clear hb hc0 hc1
               have hc0 := fun j => hX0.cell j
               have hl0 := hX0.lt
               have hc1 := fun j => hX1.cell j
               have hl1 := hX1.lt
               go_wp2_with fail
               refine (Find8_any B M vs.length ms.length e k vs ms _ hg rfl rfl (by omega) (by omega) _ F2.out).mono ?_
               rintro e' w1 ⟨rfl, hb⟩
               replace hfr := fr_call hfr hb
               replace hf := hf.keep hb
               replace hg := hg.keep hb
               replace hx := hx.keep hb
               replace hy := hy.keep hb
               replace hX0 := hX0.keep hb
               replace hX1 := hX1.keep hb
               clear hb hc0 hc1
               have hc0 := fun j => hX0.cell j
               have hl0 := hX0.lt
               have hc1 := fun j => hX1.cell j
               have hl1 := hX1.lt
               go_wp2_with fail
               refine (narrow_any A N ws.length ns.length c d ws ns _ hf rfl rfl (by omega) (by omega) _ n1).mono ?_
               rintro e' w1 ⟨rfl, hb⟩
               replace hfr := fr_call hfr hb
               replace hf := hf.keep hb
               replace hg := hg.keep hb
               replace hx := hx.keep hb
               replace hy := hy.keep hb
               replace hX0 := hX0.keep hb
               replace hX1 := hX1.keep hb
               clear hb hc0 hc1
               have hc0 := fun j => hX0.cell j
               have hl0 := hX0.lt
               have hc1 := fun j => hX1.cell j
               have hl1 := hX1.lt
               go_wp2_with fail
               refine (narrow_any B M vs.length ms.length e k vs ms _ hg rfl rfl (by omega) (by omega) _ n2).mono ?_
               rintro e' w1 ⟨rfl, hb⟩
               replace hfr := fr_call hfr hb
               replace hf := hf.keep hb
               replace hg := hg.keep hb
               replace hx := hx.keep hb
               replace hy := hy.keep hb
               replace hX0 := hX0.keep hb
               replace hX1 := hX1.keep hb
               clear hb hc0 hc1
               have hc0 := fun j => hX0.cell j
               have hl0 := hX0.lt
               have hc1 := fun j => hX1.cell j
               have hl1 := hX1.lt
               go_wp2_with fail
               refine (Own8_any A N C ws.length ns.length c d x.length i ws x _ hf.ws hx rfl (by omega) rfl (by omega) true (by simp [o1H.out])).mono ?_
               rintro e' w1 ⟨rfl, hb⟩
               replace hfr := fr_call hfr hb
               replace hf := hf.keep hb
               replace hg := hg.keep hb
               replace hx := hx.keep hb
               replace hy := hy.keep hb
               replace hX0 := hX0.keep hb
               replace hX1 := hX1.keep hb
               clear hb hc0 hc1
               have hc0 := fun j => hX0.cell j
               have hl0 := hX0.lt
               have hc1 := fun j => hX1.cell j
               have hl1 := hX1.lt
               go_wp2_with fail
               refine (Own8_any B M D vs.length ms.length e k y.length j vs y _ hg.ws hy rfl (by omega) rfl (by omega) true (by simp [o2H.out])).mono ?_
               rintro e' w1 ⟨rfl, hb⟩
               replace hfr := fr_call hfr hb
               replace hf := hf.keep hb
               replace hg := hg.keep hb
               replace hx := hx.keep hb
               replace hy := hy.keep hb
               replace hX0 := hX0.keep hb
               replace hX1 := hX1.keep hb
               clear hb hc0 hc1
               have hc0 := fun j => hX0.cell j
               have hl0 := hX0.lt
               have hc1 := fun j => hX1.cell j
               have hl1 := hX1.lt
               go_wp2_with fail
               refine (ha1 _ hf hg).mono ?_
               rintro e' w7 ⟨rfl, hb⟩
               replace hfr := fr_call hfr hb
               replace hf := hf.keep hb
               replace hg := hg.keep hb
               replace hx := hx.keep hb
               replace hy := hy.keep hb
               replace hX0 := hX0.keep hb
               replace hX1 := hX1.keep hb
               clear hb hc0 hc1
               have hc0 := fun j => hX0.cell j
               have hl0 := hX0.lt
               have hc1 := fun j => hX1.cell j
               have hl1 := hX1.lt
               have hS0 := Blk.new w7 47 #[.int .i64 lo, .int .i64 hi]
               have hb := fr_alloc (fr_refl w7) (.cells #[.int .i64 lo, .int .i64 hi] 47)
               replace hfr := fr_call hfr hb
               replace hf := hf.keep hb
               replace hg := hg.keep hb
               replace hx := hx.keep hb
               replace hy := hy.keep hb
               replace hX0 := hX0.keep hb
               replace hX1 := hX1.keep hb
               clear hb hc0 hc1
               have hc0 := fun j => hX0.cell j
               have hl0 := hX0.lt
               have hc1 := fun j => hX1.cell j
               have hl1 := hX1.lt
               go_wp2_with fail
               refine (ha2 _ hf hg).mono ?_
               rintro e' w8 ⟨rfl, hb⟩
               replace hfr := fr_call hfr hb
               replace hf := hf.keep hb
               replace hg := hg.keep hb
               replace hx := hx.keep hb
               replace hy := hy.keep hb
               replace hS0 := hS0.keep hb
               replace hX0 := hX0.keep hb
               replace hX1 := hX1.keep hb
               clear hb hc0 hc1
               have hc0 := fun j => hX0.cell j
               have hl0 := hX0.lt
               have hc1 := fun j => hX1.cell j
               have hl1 := hX1.lt
               have hS1 := Blk.new w8 47 #[.int .i64 lo, .int .i64 hi]
               have hb := fr_alloc (fr_refl w8) (.cells #[.int .i64 lo, .int .i64 hi] 47)
               replace hfr := fr_call hfr hb
               replace hf := hf.keep hb
               replace hg := hg.keep hb
               replace hx := hx.keep hb
               replace hy := hy.keep hb
               replace hS0 := hS0.keep hb
               replace hX0 := hX0.keep hb
               replace hX1 := hX1.keep hb
               clear hb hc0 hc1
               have hc0 := fun j => hX0.cell j
               have hl0 := hX0.lt
               have hc1 := fun j => hX1.cell j
               have hl1 := hX1.lt
               go_wp2_with fail
               refine (hb1 _ hf hx).mono ?_
               rintro e' w1 ⟨P1, p1, rfl, -, hb⟩
               replace hfr := fr_call hfr hb
               replace hf := hf.keep hb
               replace hg := hg.keep hb
               replace hx := hx.keep hb
               replace hy := hy.keep hb
               replace hS0 := hS0.keep hb
               replace hS1 := hS1.keep hb
               replace hX0 := hX0.keep hb
               replace hX1 := hX1.keep hb
               clear hb hc0 hc1
               have hc0 := fun j => hX0.cell j
               have hl0 := hX0.lt
               have hc1 := fun j => hX1.cell j
               have hl1 := hX1.lt
               go_wp2_with fail
               refine (hb2 _ hg hy).mono ?_
               rintro e' w1 ⟨P2, p2, rfl, -, hb⟩
               replace hfr := fr_call hfr hb
               replace hf := hf.keep hb
               replace hg := hg.keep hb
               replace hx := hx.keep hb
               replace hy := hy.keep hb
               replace hS0 := hS0.keep hb
               replace hS1 := hS1.keep hb
               replace hX0 := hX0.keep hb
               replace hX1 := hX1.keep hb
               clear hb hc0 hc1
               have hc0 := fun j => hX0.cell j
               have hl0 := hX0.lt
               have hc1 := fun j => hX1.cell j
               have hl1 := hX1.lt
               have hc2 := fun j => hS0.cell j
               have hc3 := fun j => hS1.cell j
               have hl2 := hS0.lt
               have hl3 := hS1.lt
               go_wp2_with fail
               refine (hcm _ hx hy).mono ?_
               rintro e' w1 ⟨rfl, hb⟩
               replace hfr := fr_call hfr hb
               replace hf := hf.keep hb
               replace hg := hg.keep hb
               replace hx := hx.keep hb
               replace hy := hy.keep hb
               replace hS0 := hS0.keep hb
               replace hX0 := hX0.keep hb
               replace hX1 := hX1.keep hb
               clear hb hc0 hc1
               have hc0 := fun j => hX0.cell j
               have hl0 := hX0.lt
               have hc1 := fun j => hX1.cell j
               have hl1 := hX1.lt
               clear hc2 hl2 hc3 hl3 hS1
               have hc2 := fun j => hS0.cell j
               have hl2 := hS0.lt
               go_wp2_with fail
               refine (ha3 _ hf).mono ?_
               rintro e' w9 ⟨rfl, hb⟩
               replace hfr := fr_call hfr hb
               replace hf := hf.keep hb
               replace hg := hg.keep hb
               replace hx := hx.keep hb
               replace hy := hy.keep hb
               replace hS0 := hS0.keep hb
               replace hX0 := hX0.keep hb
               replace hX1 := hX1.keep hb
               clear hb hc0 hc1
               have hc0 := fun j => hX0.cell j
               have hl0 := hX0.lt
               have hc1 := fun j => hX1.cell j
               have hl1 := hX1.lt
               clear hc2
               have hS2 := Blk.new w9 47 #[.int .i64 ol, .int .i64 (ws.length : Int)]
               have hb := fr_alloc (fr_refl w9) (.cells #[.int .i64 ol, .int .i64 (ws.length : Int)] 47)
               replace hfr := fr_call hfr hb
               replace hf := hf.keep hb
               replace hg := hg.keep hb
               replace hx := hx.keep hb
               replace hy := hy.keep hb
               replace hS0 := hS0.keep hb
               replace hX0 := hX0.keep hb
               replace hX1 := hX1.keep hb
               clear hb hc0 hc1
               have hc0 := fun j => hX0.cell j
               have hl0 := hX0.lt
               have hc1 := fun j => hX1.cell j
               have hl1 := hX1.lt
               have hc2 := fun j => hS0.cell j
               have hc4 := fun j => hS2.cell j
               have hl2 := hS0.lt
               have hl4 := hS2.lt
               go_wp2_with fail
               refine (known_is _ (hT.keep hfr) (hM.keep hfr)).mono ?_
               rintro e' w1 ⟨rfl, hb⟩
               replace hfr := fr_call hfr hb
               clear hb
               go_wp2_with fail
               go_ret
               exact ⟨rfl, hfr⟩
              ·have hqb : ((q : Int) == 0) = false := beq_eq_false_iff_ne.2 (by omega)
               clear hp0 hq0 hin
               go_enter Tryz.func4, Tryz.ntmps4
               go_wp2_with fail
               refine (short_any A N ws.length ns.length c d _ _ s1).mono ?_
               rintro e' w1 ⟨rfl, hb⟩
               replace hfr := fr_call hfr hb
               replace hf := hf.keep hb
               replace hg := hg.keep hb
               replace hx := hx.keep hb
               replace hy := hy.keep hb
               replace hX0 := hX0.keep hb
               replace hX1 := hX1.keep hb
               clear hb hc0 hc1
               have hc0 := fun j => hX0.cell j
               have hl0 := hX0.lt
               have hc1 := fun j => hX1.cell j
               have hl1 := hX1.lt
               go_wp2_with fail
               refine (short_any B M vs.length ms.length e k _ _ s2).mono ?_
               rintro e' w1 ⟨rfl, hb⟩
               replace hfr := fr_call hfr hb
               replace hf := hf.keep hb
               replace hg := hg.keep hb
               replace hx := hx.keep hb
               replace hy := hy.keep hb
               replace hX0 := hX0.keep hb
               replace hX1 := hX1.keep hb
               clear hb hc0 hc1
               have hc0 := fun j => hX0.cell j
               have hl0 := hX0.lt
               have hc1 := fun j => hX1.cell j
               have hl1 := hX1.lt
               go_wp2_with fail
               refine (Find8_any A N ws.length ns.length c d ws ns _ hf rfl rfl (by omega) (by omega) _ F1.out).mono ?_
               rintro e' w1 ⟨rfl, hb⟩
               replace hfr := fr_call hfr hb
               replace hf := hf.keep hb
               replace hg := hg.keep hb
               replace hx := hx.keep hb
               replace hy := hy.keep hb
               replace hX0 := hX0.keep hb
               replace hX1 := hX1.keep hb
               clear hb hc0 hc1
               have hc0 := fun j => hX0.cell j
               have hl0 := hX0.lt
               have hc1 := fun j => hX1.cell j
               have hl1 := hX1.lt
               go_wp2_with fail
               refine (Find8_any B M vs.length ms.length e k vs ms _ hg rfl rfl (by omega) (by omega) _ F2.out).mono ?_
               rintro e' w1 ⟨rfl, hb⟩
               replace hfr := fr_call hfr hb
               replace hf := hf.keep hb
               replace hg := hg.keep hb
               replace hx := hx.keep hb
               replace hy := hy.keep hb
               replace hX0 := hX0.keep hb
               replace hX1 := hX1.keep hb
               clear hb hc0 hc1
               have hc0 := fun j => hX0.cell j
               have hl0 := hX0.lt
               have hc1 := fun j => hX1.cell j
               have hl1 := hX1.lt
               go_wp2_with fail
               refine (narrow_any A N ws.length ns.length c d ws ns _ hf rfl rfl (by omega) (by omega) _ n1).mono ?_
               rintro e' w1 ⟨rfl, hb⟩
               replace hfr := fr_call hfr hb
               replace hf := hf.keep hb
               replace hg := hg.keep hb
               replace hx := hx.keep hb
               replace hy := hy.keep hb
               replace hX0 := hX0.keep hb
               replace hX1 := hX1.keep hb
               clear hb hc0 hc1
               have hc0 := fun j => hX0.cell j
               have hl0 := hX0.lt
               have hc1 := fun j => hX1.cell j
               have hl1 := hX1.lt
               go_wp2_with fail
               refine (narrow_any B M vs.length ms.length e k vs ms _ hg rfl rfl (by omega) (by omega) _ n2).mono ?_
               rintro e' w1 ⟨rfl, hb⟩
               replace hfr := fr_call hfr hb
               replace hf := hf.keep hb
               replace hg := hg.keep hb
               replace hx := hx.keep hb
               replace hy := hy.keep hb
               replace hX0 := hX0.keep hb
               replace hX1 := hX1.keep hb
               clear hb hc0 hc1
               have hc0 := fun j => hX0.cell j
               have hl0 := hX0.lt
               have hc1 := fun j => hX1.cell j
               have hl1 := hX1.lt
               go_wp2_with fail
               refine (Own8_any A N C ws.length ns.length c d x.length i ws x _ hf.ws hx rfl (by omega) rfl (by omega) true (by simp [o1H.out])).mono ?_
               rintro e' w1 ⟨rfl, hb⟩
               replace hfr := fr_call hfr hb
               replace hf := hf.keep hb
               replace hg := hg.keep hb
               replace hx := hx.keep hb
               replace hy := hy.keep hb
               replace hX0 := hX0.keep hb
               replace hX1 := hX1.keep hb
               clear hb hc0 hc1
               have hc0 := fun j => hX0.cell j
               have hl0 := hX0.lt
               have hc1 := fun j => hX1.cell j
               have hl1 := hX1.lt
               go_wp2_with fail
               refine (Own8_any B M D vs.length ms.length e k y.length j vs y _ hg.ws hy rfl (by omega) rfl (by omega) true (by simp [o2H.out])).mono ?_
               rintro e' w1 ⟨rfl, hb⟩
               replace hfr := fr_call hfr hb
               replace hf := hf.keep hb
               replace hg := hg.keep hb
               replace hx := hx.keep hb
               replace hy := hy.keep hb
               replace hX0 := hX0.keep hb
               replace hX1 := hX1.keep hb
               clear hb hc0 hc1
               have hc0 := fun j => hX0.cell j
               have hl0 := hX0.lt
               have hc1 := fun j => hX1.cell j
               have hl1 := hX1.lt
               go_wp2_with fail
               refine (ha1 _ hf hg).mono ?_
               rintro e' w7 ⟨rfl, hb⟩
               replace hfr := fr_call hfr hb
               replace hf := hf.keep hb
               replace hg := hg.keep hb
               replace hx := hx.keep hb
               replace hy := hy.keep hb
               replace hX0 := hX0.keep hb
               replace hX1 := hX1.keep hb
               clear hb hc0 hc1
               have hc0 := fun j => hX0.cell j
               have hl0 := hX0.lt
               have hc1 := fun j => hX1.cell j
               have hl1 := hX1.lt
               have hS0 := Blk.new w7 47 #[.int .i64 lo, .int .i64 hi]
               have hb := fr_alloc (fr_refl w7) (.cells #[.int .i64 lo, .int .i64 hi] 47)
               replace hfr := fr_call hfr hb
               replace hf := hf.keep hb
               replace hg := hg.keep hb
               replace hx := hx.keep hb
               replace hy := hy.keep hb
               replace hX0 := hX0.keep hb
               replace hX1 := hX1.keep hb
               clear hb hc0 hc1
               have hc0 := fun j => hX0.cell j
               have hl0 := hX0.lt
               have hc1 := fun j => hX1.cell j
               have hl1 := hX1.lt
               go_wp2_with fail
               refine (ha2 _ hf hg).mono ?_
               rintro e' w8 ⟨rfl, hb⟩
               replace hfr := fr_call hfr hb
               replace hf := hf.keep hb
               replace hg := hg.keep hb
               replace hx := hx.keep hb
               replace hy := hy.keep hb
               replace hS0 := hS0.keep hb
               replace hX0 := hX0.keep hb
               replace hX1 := hX1.keep hb
               clear hb hc0 hc1
               have hc0 := fun j => hX0.cell j
               have hl0 := hX0.lt
               have hc1 := fun j => hX1.cell j
               have hl1 := hX1.lt
               have hS1 := Blk.new w8 47 #[.int .i64 lo, .int .i64 hi]
               have hb := fr_alloc (fr_refl w8) (.cells #[.int .i64 lo, .int .i64 hi] 47)
               replace hfr := fr_call hfr hb
               replace hf := hf.keep hb
               replace hg := hg.keep hb
               replace hx := hx.keep hb
               replace hy := hy.keep hb
               replace hS0 := hS0.keep hb
               replace hX0 := hX0.keep hb
               replace hX1 := hX1.keep hb
               clear hb hc0 hc1
               have hc0 := fun j => hX0.cell j
               have hl0 := hX0.lt
               have hc1 := fun j => hX1.cell j
               have hl1 := hX1.lt
               go_wp2_with fail
               refine (hb1 _ hf hx).mono ?_
               rintro e' w1 ⟨P1, p1, rfl, -, hb⟩
               replace hfr := fr_call hfr hb
               replace hf := hf.keep hb
               replace hg := hg.keep hb
               replace hx := hx.keep hb
               replace hy := hy.keep hb
               replace hS0 := hS0.keep hb
               replace hS1 := hS1.keep hb
               replace hX0 := hX0.keep hb
               replace hX1 := hX1.keep hb
               clear hb hc0 hc1
               have hc0 := fun j => hX0.cell j
               have hl0 := hX0.lt
               have hc1 := fun j => hX1.cell j
               have hl1 := hX1.lt
               go_wp2_with fail
               refine (hb2 _ hg hy).mono ?_
               rintro e' w1 ⟨P2, p2, rfl, -, hb⟩
               replace hfr := fr_call hfr hb
               replace hf := hf.keep hb
               replace hg := hg.keep hb
               replace hx := hx.keep hb
               replace hy := hy.keep hb
               replace hS0 := hS0.keep hb
               replace hS1 := hS1.keep hb
               replace hX0 := hX0.keep hb
               replace hX1 := hX1.keep hb
               clear hb hc0 hc1
               have hc0 := fun j => hX0.cell j
               have hl0 := hX0.lt
               have hc1 := fun j => hX1.cell j
               have hl1 := hX1.lt
               have hc2 := fun j => hS0.cell j
               have hc3 := fun j => hS1.cell j
               have hl2 := hS0.lt
               have hl3 := hS1.lt
               go_wp2_with fail
               refine (hcm _ hx hy).mono ?_
               rintro e' w1 ⟨rfl, hb⟩
               replace hfr := fr_call hfr hb
               replace hf := hf.keep hb
               replace hg := hg.keep hb
               replace hx := hx.keep hb
               replace hy := hy.keep hb
               replace hS0 := hS0.keep hb
               replace hX0 := hX0.keep hb
               replace hX1 := hX1.keep hb
               clear hb hc0 hc1
               have hc0 := fun j => hX0.cell j
               have hl0 := hX0.lt
               have hc1 := fun j => hX1.cell j
               have hl1 := hX1.lt
               clear hc2 hl2 hc3 hl3 hS1
               have hc2 := fun j => hS0.cell j
               have hl2 := hS0.lt
               go_wp2_with fail
               refine (ha3 _ hf).mono ?_
               rintro e' w9 ⟨rfl, hb⟩
               replace hfr := fr_call hfr hb
               replace hf := hf.keep hb
               replace hg := hg.keep hb
               replace hx := hx.keep hb
               replace hy := hy.keep hb
               replace hS0 := hS0.keep hb
               replace hX0 := hX0.keep hb
               replace hX1 := hX1.keep hb
               clear hb hc0 hc1
               have hc0 := fun j => hX0.cell j
               have hl0 := hX0.lt
               have hc1 := fun j => hX1.cell j
               have hl1 := hX1.lt
               clear hc2
               have hS2 := Blk.new w9 47 #[.int .i64 ol, .int .i64 (ws.length : Int)]
               have hb := fr_alloc (fr_refl w9) (.cells #[.int .i64 ol, .int .i64 (ws.length : Int)] 47)
               replace hfr := fr_call hfr hb
               replace hf := hf.keep hb
               replace hg := hg.keep hb
               replace hx := hx.keep hb
               replace hy := hy.keep hb
               replace hS0 := hS0.keep hb
               replace hX0 := hX0.keep hb
               replace hX1 := hX1.keep hb
               clear hb hc0 hc1
               have hc0 := fun j => hX0.cell j
               have hl0 := hX0.lt
               have hc1 := fun j => hX1.cell j
               have hl1 := hX1.lt
               have hc2 := fun j => hS0.cell j
               have hc4 := fun j => hS2.cell j
               have hl2 := hS0.lt
               have hl4 := hS2.lt
               go_wp2_with fail
               refine (known_is _ (hT.keep hfr) (hM.keep hfr)).mono ?_
               rintro e' w1 ⟨rfl, hb⟩
               replace hfr := fr_call hfr hb
               clear hb
               go_wp2_with fail
               go_ret
               exact ⟨rfl, hfr⟩
             ·have hpb : ((p : Int) == 0) = false := beq_eq_false_iff_ne.2 (by omega)
              clear hp0 hin
              go_enter Tryz.func4, Tryz.ntmps4
              go_wp2_with fail
              refine (short_any A N ws.length ns.length c d _ _ s1).mono ?_
              rintro e' w1 ⟨rfl, hb⟩
              replace hfr := fr_call hfr hb
              replace hf := hf.keep hb
              replace hg := hg.keep hb
              replace hx := hx.keep hb
              replace hy := hy.keep hb
              replace hX0 := hX0.keep hb
              replace hX1 := hX1.keep hb
              clear hb hc0 hc1
              have hc0 := fun j => hX0.cell j
              have hl0 := hX0.lt
              have hc1 := fun j => hX1.cell j
              have hl1 := hX1.lt
              go_wp2_with fail
              refine (short_any B M vs.length ms.length e k _ _ s2).mono ?_
              rintro e' w1 ⟨rfl, hb⟩
              replace hfr := fr_call hfr hb
              replace hf := hf.keep hb
              replace hg := hg.keep hb
              replace hx := hx.keep hb
              replace hy := hy.keep hb
              replace hX0 := hX0.keep hb
              replace hX1 := hX1.keep hb
              clear hb hc0 hc1
              have hc0 := fun j => hX0.cell j
              have hl0 := hX0.lt
              have hc1 := fun j => hX1.cell j
              have hl1 := hX1.lt
              go_wp2_with fail
              refine (Find8_any A N ws.length ns.length c d ws ns _ hf rfl rfl (by omega) (by omega) _ F1.out).mono ?_
              rintro e' w1 ⟨rfl, hb⟩
              replace hfr := fr_call hfr hb
              replace hf := hf.keep hb
              replace hg := hg.keep hb
              replace hx := hx.keep hb
              replace hy := hy.keep hb
              replace hX0 := hX0.keep hb
              replace hX1 := hX1.keep hb
              clear hb hc0 hc1
              have hc0 := fun j => hX0.cell j
              have hl0 := hX0.lt
              have hc1 := fun j => hX1.cell j
              have hl1 := hX1.lt
              go_wp2_with fail
              refine (Find8_any B M vs.length ms.length e k vs ms _ hg rfl rfl (by omega) (by omega) _ F2.out).mono ?_
              rintro e' w1 ⟨rfl, hb⟩
              replace hfr := fr_call hfr hb
              replace hf := hf.keep hb
              replace hg := hg.keep hb
              replace hx := hx.keep hb
              replace hy := hy.keep hb
              replace hX0 := hX0.keep hb
              replace hX1 := hX1.keep hb
              clear hb hc0 hc1
              have hc0 := fun j => hX0.cell j
              have hl0 := hX0.lt
              have hc1 := fun j => hX1.cell j
              have hl1 := hX1.lt
              go_wp2_with fail
              refine (narrow_any A N ws.length ns.length c d ws ns _ hf rfl rfl (by omega) (by omega) _ n1).mono ?_
              rintro e' w1 ⟨rfl, hb⟩
              replace hfr := fr_call hfr hb
              replace hf := hf.keep hb
              replace hg := hg.keep hb
              replace hx := hx.keep hb
              replace hy := hy.keep hb
              replace hX0 := hX0.keep hb
              replace hX1 := hX1.keep hb
              clear hb hc0 hc1
              have hc0 := fun j => hX0.cell j
              have hl0 := hX0.lt
              have hc1 := fun j => hX1.cell j
              have hl1 := hX1.lt
              go_wp2_with fail
              refine (narrow_any B M vs.length ms.length e k vs ms _ hg rfl rfl (by omega) (by omega) _ n2).mono ?_
              rintro e' w1 ⟨rfl, hb⟩
              replace hfr := fr_call hfr hb
              replace hf := hf.keep hb
              replace hg := hg.keep hb
              replace hx := hx.keep hb
              replace hy := hy.keep hb
              replace hX0 := hX0.keep hb
              replace hX1 := hX1.keep hb
              clear hb hc0 hc1
              have hc0 := fun j => hX0.cell j
              have hl0 := hX0.lt
              have hc1 := fun j => hX1.cell j
              have hl1 := hX1.lt
              go_wp2_with fail
              refine (Own8_any A N C ws.length ns.length c d x.length i ws x _ hf.ws hx rfl (by omega) rfl (by omega) true (by simp [o1H.out])).mono ?_
              rintro e' w1 ⟨rfl, hb⟩
              replace hfr := fr_call hfr hb
              replace hf := hf.keep hb
              replace hg := hg.keep hb
              replace hx := hx.keep hb
              replace hy := hy.keep hb
              replace hX0 := hX0.keep hb
              replace hX1 := hX1.keep hb
              clear hb hc0 hc1
              have hc0 := fun j => hX0.cell j
              have hl0 := hX0.lt
              have hc1 := fun j => hX1.cell j
              have hl1 := hX1.lt
              go_wp2_with fail
              refine (Own8_any B M D vs.length ms.length e k y.length j vs y _ hg.ws hy rfl (by omega) rfl (by omega) true (by simp [o2H.out])).mono ?_
              rintro e' w1 ⟨rfl, hb⟩
              replace hfr := fr_call hfr hb
              replace hf := hf.keep hb
              replace hg := hg.keep hb
              replace hx := hx.keep hb
              replace hy := hy.keep hb
              replace hX0 := hX0.keep hb
              replace hX1 := hX1.keep hb
              clear hb hc0 hc1
              have hc0 := fun j => hX0.cell j
              have hl0 := hX0.lt
              have hc1 := fun j => hX1.cell j
              have hl1 := hX1.lt
              go_wp2_with fail
              refine (ha1 _ hf hg).mono ?_
              rintro e' w7 ⟨rfl, hb⟩
              replace hfr := fr_call hfr hb
              replace hf := hf.keep hb
              replace hg := hg.keep hb
              replace hx := hx.keep hb
              replace hy := hy.keep hb
              replace hX0 := hX0.keep hb
              replace hX1 := hX1.keep hb
              clear hb hc0 hc1
              have hc0 := fun j => hX0.cell j
              have hl0 := hX0.lt
              have hc1 := fun j => hX1.cell j
              have hl1 := hX1.lt
              have hS0 := Blk.new w7 47 #[.int .i64 lo, .int .i64 hi]
              have hb := fr_alloc (fr_refl w7) (.cells #[.int .i64 lo, .int .i64 hi] 47)
              replace hfr := fr_call hfr hb
              replace hf := hf.keep hb
              replace hg := hg.keep hb
              replace hx := hx.keep hb
              replace hy := hy.keep hb
              replace hX0 := hX0.keep hb
              replace hX1 := hX1.keep hb
              clear hb hc0 hc1
              have hc0 := fun j => hX0.cell j
              have hl0 := hX0.lt
              have hc1 := fun j => hX1.cell j
              have hl1 := hX1.lt
              go_wp2_with fail
              refine (ha2 _ hf hg).mono ?_
              rintro e' w8 ⟨rfl, hb⟩
              replace hfr := fr_call hfr hb
              replace hf := hf.keep hb
              replace hg := hg.keep hb
              replace hx := hx.keep hb
              replace hy := hy.keep hb
              replace hS0 := hS0.keep hb
              replace hX0 := hX0.keep hb
              replace hX1 := hX1.keep hb
              clear hb hc0 hc1
              have hc0 := fun j => hX0.cell j
              have hl0 := hX0.lt
              have hc1 := fun j => hX1.cell j
              have hl1 := hX1.lt
              have hS1 := Blk.new w8 47 #[.int .i64 lo, .int .i64 hi]
              have hb := fr_alloc (fr_refl w8) (.cells #[.int .i64 lo, .int .i64 hi] 47)
              replace hfr := fr_call hfr hb
              replace hf := hf.keep hb
              replace hg := hg.keep hb
              replace hx := hx.keep hb
              replace hy := hy.keep hb
              replace hS0 := hS0.keep hb
              replace hX0 := hX0.keep hb
              replace hX1 := hX1.keep hb
              clear hb hc0 hc1
              have hc0 := fun j => hX0.cell j
              have hl0 := hX0.lt
              have hc1 := fun j => hX1.cell j
              have hl1 := hX1.lt
              go_wp2_with fail
              refine (hb1 _ hf hx).mono ?_
              rintro e' w1 ⟨P1, p1, rfl, -, hb⟩
              replace hfr := fr_call hfr hb
              replace hf := hf.keep hb
              replace hg := hg.keep hb
              replace hx := hx.keep hb
              replace hy := hy.keep hb
              replace hS0 := hS0.keep hb
              replace hS1 := hS1.keep hb
              replace hX0 := hX0.keep hb
              replace hX1 := hX1.keep hb
              clear hb hc0 hc1
              have hc0 := fun j => hX0.cell j
              have hl0 := hX0.lt
              have hc1 := fun j => hX1.cell j
              have hl1 := hX1.lt
              go_wp2_with fail
              refine (hb2 _ hg hy).mono ?_
              rintro e' w1 ⟨P2, p2, rfl, -, hb⟩
              replace hfr := fr_call hfr hb
              replace hf := hf.keep hb
              replace hg := hg.keep hb
              replace hx := hx.keep hb
              replace hy := hy.keep hb
              replace hS0 := hS0.keep hb
              replace hS1 := hS1.keep hb
              replace hX0 := hX0.keep hb
              replace hX1 := hX1.keep hb
              clear hb hc0 hc1
              have hc0 := fun j => hX0.cell j
              have hl0 := hX0.lt
              have hc1 := fun j => hX1.cell j
              have hl1 := hX1.lt
              have hc2 := fun j => hS0.cell j
              have hc3 := fun j => hS1.cell j
              have hl2 := hS0.lt
              have hl3 := hS1.lt
              go_wp2_with fail
              refine (hcm _ hx hy).mono ?_
              rintro e' w1 ⟨rfl, hb⟩
              replace hfr := fr_call hfr hb
              replace hf := hf.keep hb
              replace hg := hg.keep hb
              replace hx := hx.keep hb
              replace hy := hy.keep hb
              replace hS0 := hS0.keep hb
              replace hX0 := hX0.keep hb
              replace hX1 := hX1.keep hb
              clear hb hc0 hc1
              have hc0 := fun j => hX0.cell j
              have hl0 := hX0.lt
              have hc1 := fun j => hX1.cell j
              have hl1 := hX1.lt
              clear hc2 hl2 hc3 hl3 hS1
              have hc2 := fun j => hS0.cell j
              have hl2 := hS0.lt
              go_wp2_with fail
              refine (ha3 _ hf).mono ?_
              rintro e' w9 ⟨rfl, hb⟩
              replace hfr := fr_call hfr hb
              replace hf := hf.keep hb
              replace hg := hg.keep hb
              replace hx := hx.keep hb
              replace hy := hy.keep hb
              replace hS0 := hS0.keep hb
              replace hX0 := hX0.keep hb
              replace hX1 := hX1.keep hb
              clear hb hc0 hc1
              have hc0 := fun j => hX0.cell j
              have hl0 := hX0.lt
              have hc1 := fun j => hX1.cell j
              have hl1 := hX1.lt
              clear hc2
              have hS2 := Blk.new w9 47 #[.int .i64 ol, .int .i64 (ws.length : Int)]
              have hb := fr_alloc (fr_refl w9) (.cells #[.int .i64 ol, .int .i64 (ws.length : Int)] 47)
              replace hfr := fr_call hfr hb
              replace hf := hf.keep hb
              replace hg := hg.keep hb
              replace hx := hx.keep hb
              replace hy := hy.keep hb
              replace hS0 := hS0.keep hb
              replace hX0 := hX0.keep hb
              replace hX1 := hX1.keep hb
              clear hb hc0 hc1
              have hc0 := fun j => hX0.cell j
              have hl0 := hX0.lt
              have hc1 := fun j => hX1.cell j
              have hl1 := hX1.lt
              have hc2 := fun j => hS0.cell j
              have hc4 := fun j => hS2.cell j
              have hl2 := hS0.lt
              have hl4 := hS2.lt
              go_wp2_with fail
              refine (known_is _ (hT.keep hfr) (hM.keep hfr)).mono ?_
              rintro e' w1 ⟨rfl, hb⟩
              replace hfr := fr_call hfr hb
              clear hb
              go_wp2_with fail
              go_ret
              exact ⟨rfl, hfr⟩
          ·go_enter Tryz.func4, Tryz.ntmps4
           go_wp2_with fail
           refine (short_any A N ws.length ns.length c d _ _ s1).mono ?_
           rintro e' w1 ⟨rfl, hb⟩
           replace hfr := fr_call hfr hb
           replace hf := hf.keep hb
           replace hg := hg.keep hb
           replace hx := hx.keep hb
           replace hy := hy.keep hb
           replace hX0 := hX0.keep hb
           replace hX1 := hX1.keep hb
           clear hb hc0 hc1
           have hc0 := fun j => hX0.cell j
           have hl0 := hX0.lt
           have hc1 := fun j => hX1.cell j
           have hl1 := hX1.lt
           go_wp2_with fail
           refine (short_any B M vs.length ms.length e k _ _ s2).mono ?_
           rintro e' w1 ⟨rfl, hb⟩
           replace hfr := fr_call hfr hb
           replace hf := hf.keep hb
           replace hg := hg.keep hb
           replace hx := hx.keep hb
           replace hy := hy.keep hb
           replace hX0 := hX0.keep hb
           replace hX1 := hX1.keep hb
           clear hb hc0 hc1
           have hc0 := fun j => hX0.cell j
           have hl0 := hX0.lt
           have hc1 := fun j => hX1.cell j
           have hl1 := hX1.lt
           go_wp2_with fail
           refine (Find8_any A N ws.length ns.length c d ws ns _ hf rfl rfl (by omega) (by omega) _ f1).mono ?_
           rintro e' w1 ⟨rfl, hb⟩
           replace hfr := fr_call hfr hb
           replace hf := hf.keep hb
           replace hg := hg.keep hb
           replace hx := hx.keep hb
           replace hy := hy.keep hb
           replace hX0 := hX0.keep hb
           replace hX1 := hX1.keep hb
           clear hb hc0 hc1
           have hc0 := fun j => hX0.cell j
           have hl0 := hX0.lt
           have hc1 := fun j => hX1.cell j
           have hl1 := hX1.lt
           go_wp2_with fail
           refine (Find8_any B M vs.length ms.length e k vs ms _ hg rfl rfl (by omega) (by omega) _ f2).mono ?_
           rintro e' w1 ⟨rfl, hb⟩
           replace hfr := fr_call hfr hb
           replace hf := hf.keep hb
           replace hg := hg.keep hb
           replace hx := hx.keep hb
           replace hy := hy.keep hb
           replace hX0 := hX0.keep hb
           replace hX1 := hX1.keep hb
           clear hb hc0 hc1
           have hc0 := fun j => hX0.cell j
           have hl0 := hX0.lt
           have hc1 := fun j => hX1.cell j
           have hl1 := hX1.lt
           go_wp2_with fail
           refine (narrow_any A N ws.length ns.length c d ws ns _ hf rfl rfl (by omega) (by omega) _ n1).mono ?_
           rintro e' w1 ⟨rfl, hb⟩
           replace hfr := fr_call hfr hb
           replace hf := hf.keep hb
           replace hg := hg.keep hb
           replace hx := hx.keep hb
           replace hy := hy.keep hb
           replace hX0 := hX0.keep hb
           replace hX1 := hX1.keep hb
           clear hb hc0 hc1
           have hc0 := fun j => hX0.cell j
           have hl0 := hX0.lt
           have hc1 := fun j => hX1.cell j
           have hl1 := hX1.lt
           go_wp2_with fail
           refine (narrow_any B M vs.length ms.length e k vs ms _ hg rfl rfl (by omega) (by omega) _ n2).mono ?_
           rintro e' w1 ⟨rfl, hb⟩
           replace hfr := fr_call hfr hb
           replace hf := hf.keep hb
           replace hg := hg.keep hb
           replace hx := hx.keep hb
           replace hy := hy.keep hb
           replace hX0 := hX0.keep hb
           replace hX1 := hX1.keep hb
           clear hb hc0 hc1
           have hc0 := fun j => hX0.cell j
           have hl0 := hX0.lt
           have hc1 := fun j => hX1.cell j
           have hl1 := hX1.lt
           go_wp2_with fail
           refine (Own8_any A N C ws.length ns.length c d x.length i ws x _ hf.ws hx rfl (by omega) rfl (by omega) true (by simp [o1H.out])).mono ?_
           rintro e' w1 ⟨rfl, hb⟩
           replace hfr := fr_call hfr hb
           replace hf := hf.keep hb
           replace hg := hg.keep hb
           replace hx := hx.keep hb
           replace hy := hy.keep hb
           replace hX0 := hX0.keep hb
           replace hX1 := hX1.keep hb
           clear hb hc0 hc1
           have hc0 := fun j => hX0.cell j
           have hl0 := hX0.lt
           have hc1 := fun j => hX1.cell j
           have hl1 := hX1.lt
           go_wp2_with fail
           refine (Own8_any B M D vs.length ms.length e k y.length j vs y _ hg.ws hy rfl (by omega) rfl (by omega) false (by simp [o2])).mono ?_
           rintro e' w1 ⟨rfl, hb⟩
           replace hfr := fr_call hfr hb
           replace hf := hf.keep hb
           replace hg := hg.keep hb
           replace hx := hx.keep hb
           replace hy := hy.keep hb
           replace hX0 := hX0.keep hb
           replace hX1 := hX1.keep hb
           clear hb hc0 hc1
           have hc0 := fun j => hX0.cell j
           have hl0 := hX0.lt
           have hc1 := fun j => hX1.cell j
           have hl1 := hX1.lt
           go_wp2_with fail
           refine (known_is _ (hT.keep hfr) (hM.keep hfr)).mono ?_
           rintro e' w1 ⟨rfl, hb⟩
           replace hfr := fr_call hfr hb
           clear hb
           go_wp2_with fail
           go_ret
           exact ⟨rfl, hfr⟩
         ·go_enter Tryz.func4, Tryz.ntmps4
          go_wp2_with fail
          refine (short_any A N ws.length ns.length c d _ _ s1).mono ?_
          rintro e' w1 ⟨rfl, hb⟩
          replace hfr := fr_call hfr hb
          replace hf := hf.keep hb
          replace hg := hg.keep hb
          replace hx := hx.keep hb
          replace hy := hy.keep hb
          replace hX0 := hX0.keep hb
          replace hX1 := hX1.keep hb
          clear hb hc0 hc1
          have hc0 := fun j => hX0.cell j
          have hl0 := hX0.lt
          have hc1 := fun j => hX1.cell j
          have hl1 := hX1.lt
          go_wp2_with fail
          refine (short_any B M vs.length ms.length e k _ _ s2).mono ?_
          rintro e' w1 ⟨rfl, hb⟩
          replace hfr := fr_call hfr hb
          replace hf := hf.keep hb
          replace hg := hg.keep hb
          replace hx := hx.keep hb
          replace hy := hy.keep hb
          replace hX0 := hX0.keep hb
          replace hX1 := hX1.keep hb
          clear hb hc0 hc1
          have hc0 := fun j => hX0.cell j
          have hl0 := hX0.lt
          have hc1 := fun j => hX1.cell j
          have hl1 := hX1.lt
          go_wp2_with fail
          refine (Find8_any A N ws.length ns.length c d ws ns _ hf rfl rfl (by omega) (by omega) _ f1).mono ?_
          rintro e' w1 ⟨rfl, hb⟩
          replace hfr := fr_call hfr hb
          replace hf := hf.keep hb
          replace hg := hg.keep hb
          replace hx := hx.keep hb
          replace hy := hy.keep hb
          replace hX0 := hX0.keep hb
          replace hX1 := hX1.keep hb
          clear hb hc0 hc1
          have hc0 := fun j => hX0.cell j
          have hl0 := hX0.lt
          have hc1 := fun j => hX1.cell j
          have hl1 := hX1.lt
          go_wp2_with fail
          refine (Find8_any B M vs.length ms.length e k vs ms _ hg rfl rfl (by omega) (by omega) _ f2).mono ?_
          rintro e' w1 ⟨rfl, hb⟩
          replace hfr := fr_call hfr hb
          replace hf := hf.keep hb
          replace hg := hg.keep hb
          replace hx := hx.keep hb
          replace hy := hy.keep hb
          replace hX0 := hX0.keep hb
          replace hX1 := hX1.keep hb
          clear hb hc0 hc1
          have hc0 := fun j => hX0.cell j
          have hl0 := hX0.lt
          have hc1 := fun j => hX1.cell j
          have hl1 := hX1.lt
          go_wp2_with fail
          refine (narrow_any A N ws.length ns.length c d ws ns _ hf rfl rfl (by omega) (by omega) _ n1).mono ?_
          rintro e' w1 ⟨rfl, hb⟩
          replace hfr := fr_call hfr hb
          replace hf := hf.keep hb
          replace hg := hg.keep hb
          replace hx := hx.keep hb
          replace hy := hy.keep hb
          replace hX0 := hX0.keep hb
          replace hX1 := hX1.keep hb
          clear hb hc0 hc1
          have hc0 := fun j => hX0.cell j
          have hl0 := hX0.lt
          have hc1 := fun j => hX1.cell j
          have hl1 := hX1.lt
          go_wp2_with fail
          refine (narrow_any B M vs.length ms.length e k vs ms _ hg rfl rfl (by omega) (by omega) _ n2).mono ?_
          rintro e' w1 ⟨rfl, hb⟩
          replace hfr := fr_call hfr hb
          replace hf := hf.keep hb
          replace hg := hg.keep hb
          replace hx := hx.keep hb
          replace hy := hy.keep hb
          replace hX0 := hX0.keep hb
          replace hX1 := hX1.keep hb
          clear hb hc0 hc1
          have hc0 := fun j => hX0.cell j
          have hl0 := hX0.lt
          have hc1 := fun j => hX1.cell j
          have hl1 := hX1.lt
          go_wp2_with fail
          refine (Own8_any A N C ws.length ns.length c d x.length i ws x _ hf.ws hx rfl (by omega) rfl (by omega) false (by simp [o1])).mono ?_
          rintro e' w1 ⟨rfl, hb⟩
          replace hfr := fr_call hfr hb
          replace hf := hf.keep hb
          replace hg := hg.keep hb
          replace hx := hx.keep hb
          replace hy := hy.keep hb
          replace hX0 := hX0.keep hb
          replace hX1 := hX1.keep hb
          clear hb hc0 hc1
          have hc0 := fun j => hX0.cell j
          have hl0 := hX0.lt
          have hc1 := fun j => hX1.cell j
          have hl1 := hX1.lt
          go_wp2_with fail
          refine (known_is _ (hT.keep hfr) (hM.keep hfr)).mono ?_
          rintro e' w1 ⟨rfl, hb⟩
          replace hfr := fr_call hfr hb
          clear hb
          go_wp2_with fail
          go_ret
          exact ⟨rfl, hfr⟩
        ·have k2b : 5 < (y.length : Int) := by omega
         go_enter Tryz.func4, Tryz.ntmps4
         go_wp2_with fail
         refine (short_any A N ws.length ns.length c d _ _ s1).mono ?_
         rintro e' w1 ⟨rfl, hb⟩
         replace hfr := fr_call hfr hb
         replace hf := hf.keep hb
         replace hg := hg.keep hb
         replace hx := hx.keep hb
         replace hy := hy.keep hb
         replace hX0 := hX0.keep hb
         replace hX1 := hX1.keep hb
         clear hb hc0 hc1
         have hc0 := fun j => hX0.cell j
         have hl0 := hX0.lt
         have hc1 := fun j => hX1.cell j
         have hl1 := hX1.lt
         go_wp2_with fail
         refine (short_any B M vs.length ms.length e k _ _ s2).mono ?_
         rintro e' w1 ⟨rfl, hb⟩
         replace hfr := fr_call hfr hb
         replace hf := hf.keep hb
         replace hg := hg.keep hb
         replace hx := hx.keep hb
         replace hy := hy.keep hb
         replace hX0 := hX0.keep hb
         replace hX1 := hX1.keep hb
         clear hb hc0 hc1
         have hc0 := fun j => hX0.cell j
         have hl0 := hX0.lt
         have hc1 := fun j => hX1.cell j
         have hl1 := hX1.lt
         go_wp2_with fail
         refine (Find8_any A N ws.length ns.length c d ws ns _ hf rfl rfl (by omega) (by omega) _ f1).mono ?_
         rintro e' w1 ⟨rfl, hb⟩
         replace hfr := fr_call hfr hb
         replace hf := hf.keep hb
         replace hg := hg.keep hb
         replace hx := hx.keep hb
         replace hy := hy.keep hb
         replace hX0 := hX0.keep hb
         replace hX1 := hX1.keep hb
         clear hb hc0 hc1
         have hc0 := fun j => hX0.cell j
         have hl0 := hX0.lt
         have hc1 := fun j => hX1.cell j
         have hl1 := hX1.lt
         go_wp2_with fail
         refine (Find8_any B M vs.length ms.length e k vs ms _ hg rfl rfl (by omega) (by omega) _ f2).mono ?_
         rintro e' w1 ⟨rfl, hb⟩
         replace hfr := fr_call hfr hb
         replace hf := hf.keep hb
         replace hg := hg.keep hb
         replace hx := hx.keep hb
         replace hy := hy.keep hb
         replace hX0 := hX0.keep hb
         replace hX1 := hX1.keep hb
         clear hb hc0 hc1
         have hc0 := fun j => hX0.cell j
         have hl0 := hX0.lt
         have hc1 := fun j => hX1.cell j
         have hl1 := hX1.lt
         go_wp2_with fail
         refine (narrow_any A N ws.length ns.length c d ws ns _ hf rfl rfl (by omega) (by omega) _ n1).mono ?_
         rintro e' w1 ⟨rfl, hb⟩
         replace hfr := fr_call hfr hb
         replace hf := hf.keep hb
         replace hg := hg.keep hb
         replace hx := hx.keep hb
         replace hy := hy.keep hb
         replace hX0 := hX0.keep hb
         replace hX1 := hX1.keep hb
         clear hb hc0 hc1
         have hc0 := fun j => hX0.cell j
         have hl0 := hX0.lt
         have hc1 := fun j => hX1.cell j
         have hl1 := hX1.lt
         go_wp2_with fail
         refine (narrow_any B M vs.length ms.length e k vs ms _ hg rfl rfl (by omega) (by omega) _ n2).mono ?_
         rintro e' w1 ⟨rfl, hb⟩
         replace hfr := fr_call hfr hb
         replace hf := hf.keep hb
         replace hg := hg.keep hb
         replace hx := hx.keep hb
         replace hy := hy.keep hb
         replace hX0 := hX0.keep hb
         replace hX1 := hX1.keep hb
         clear hb hc0 hc1
         have hc0 := fun j => hX0.cell j
         have hl0 := hX0.lt
         have hc1 := fun j => hX1.cell j
         have hl1 := hX1.lt
         go_wp2_with fail
         refine (known_is _ (hT.keep hfr) (hM.keep hfr)).mono ?_
         rintro e' w1 ⟨rfl, hb⟩
         replace hfr := fr_call hfr hb
         clear hb
         go_wp2_with fail
         go_ret
         exact ⟨rfl, hfr⟩
       ·have k1b : 5 < (x.length : Int) := by omega
        go_enter Tryz.func4, Tryz.ntmps4
        go_wp2_with fail
        refine (short_any A N ws.length ns.length c d _ _ s1).mono ?_
        rintro e' w1 ⟨rfl, hb⟩
        replace hfr := fr_call hfr hb
        replace hf := hf.keep hb
        replace hg := hg.keep hb
        replace hx := hx.keep hb
        replace hy := hy.keep hb
        replace hX0 := hX0.keep hb
        replace hX1 := hX1.keep hb
        clear hb hc0 hc1
        have hc0 := fun j => hX0.cell j
        have hl0 := hX0.lt
        have hc1 := fun j => hX1.cell j
        have hl1 := hX1.lt
        go_wp2_with fail
        refine (short_any B M vs.length ms.length e k _ _ s2).mono ?_
        rintro e' w1 ⟨rfl, hb⟩
        replace hfr := fr_call hfr hb
        replace hf := hf.keep hb
        replace hg := hg.keep hb
        replace hx := hx.keep hb
        replace hy := hy.keep hb
        replace hX0 := hX0.keep hb
        replace hX1 := hX1.keep hb
        clear hb hc0 hc1
        have hc0 := fun j => hX0.cell j
        have hl0 := hX0.lt
        have hc1 := fun j => hX1.cell j
        have hl1 := hX1.lt
        go_wp2_with fail
        refine (Find8_any A N ws.length ns.length c d ws ns _ hf rfl rfl (by omega) (by omega) _ f1).mono ?_
        rintro e' w1 ⟨rfl, hb⟩
        replace hfr := fr_call hfr hb
        replace hf := hf.keep hb
        replace hg := hg.keep hb
        replace hx := hx.keep hb
        replace hy := hy.keep hb
        replace hX0 := hX0.keep hb
        replace hX1 := hX1.keep hb
        clear hb hc0 hc1
        have hc0 := fun j => hX0.cell j
        have hl0 := hX0.lt
        have hc1 := fun j => hX1.cell j
        have hl1 := hX1.lt
        go_wp2_with fail
        refine (Find8_any B M vs.length ms.length e k vs ms _ hg rfl rfl (by omega) (by omega) _ f2).mono ?_
        rintro e' w1 ⟨rfl, hb⟩
        replace hfr := fr_call hfr hb
        replace hf := hf.keep hb
        replace hg := hg.keep hb
        replace hx := hx.keep hb
        replace hy := hy.keep hb
        replace hX0 := hX0.keep hb
        replace hX1 := hX1.keep hb
        clear hb hc0 hc1
        have hc0 := fun j => hX0.cell j
        have hl0 := hX0.lt
        have hc1 := fun j => hX1.cell j
        have hl1 := hX1.lt
        go_wp2_with fail
        refine (narrow_any A N ws.length ns.length c d ws ns _ hf rfl rfl (by omega) (by omega) _ n1).mono ?_
        rintro e' w1 ⟨rfl, hb⟩
        replace hfr := fr_call hfr hb
        replace hf := hf.keep hb
        replace hg := hg.keep hb
        replace hx := hx.keep hb
        replace hy := hy.keep hb
        replace hX0 := hX0.keep hb
        replace hX1 := hX1.keep hb
        clear hb hc0 hc1
        have hc0 := fun j => hX0.cell j
        have hl0 := hX0.lt
        have hc1 := fun j => hX1.cell j
        have hl1 := hX1.lt
        go_wp2_with fail
        refine (narrow_any B M vs.length ms.length e k vs ms _ hg rfl rfl (by omega) (by omega) _ n2).mono ?_
        rintro e' w1 ⟨rfl, hb⟩
        replace hfr := fr_call hfr hb
        replace hf := hf.keep hb
        replace hg := hg.keep hb
        replace hx := hx.keep hb
        replace hy := hy.keep hb
        replace hX0 := hX0.keep hb
        replace hX1 := hX1.keep hb
        clear hb hc0 hc1
        have hc0 := fun j => hX0.cell j
        have hl0 := hX0.lt
        have hc1 := fun j => hX1.cell j
        have hl1 := hX1.lt
        go_wp2_with fail
        refine (known_is _ (hT.keep hfr) (hM.keep hfr)).mono ?_
        rintro e' w1 ⟨rfl, hb⟩
        replace hfr := fr_call hfr hb
        clear hb
        go_wp2_with fail
        go_ret
        exact ⟨rfl, hfr⟩
end Go.Proofs.YthenlopnlaiodaaGreatDoor
end

section
namespace Go.Proofs.YthenlopnlaiodaaGreatDoor.cGuessCommon
open Go.ChangeShapes Go.WideShapes Go.ChangeAt Go.WideMaps Go.WideElems Go.RowKit
set_option maxRecDepth 100000

theorem lifted (os : Os) (started : os.Started) (H : Type) (enc : TypeId × Value → H) :
  ReturnsInHanded {} Tryz.checked os 4 .any (fun w args => (Rows.guessCommonSpec.pre enc Tryz.prog Tryz.f4 [] false w args ∧ laidMetH Tryz.prog laidT w) ∧ sizedMet enc Tryz.prog Tryz.f4 (OpenSpec.ofChange Rows.guessCommonSpec) false w args)
   (Rows.guessCommonSpec.post enc Tryz.prog Tryz.f4 false true false false) := by
 refine change_and_shaped (C := Tryz.checked) (X := fun w _ => laidMetH Tryz.prog laidT w) (fun _ _ _ hh h => h.of_heap hh) own_none started (by kernel_rfl) Tryz.func4
  (ChangeSpec.witness_shaped (enc := enc) (C := Tryz.checked) (os := os) (X := fun w _ => laidMetH Tryz.prog laidT w) false (doorT os) #[.agg #[.slice none 0 0, .slice none 0 0], .agg #[.slice none 0 0, .slice none 0 0], .slice none 0 0, .slice none 0 0] 8 rfl (World.shaped_of_RefB (by kernel_rfl) (by kernel_rfl)) (by kernel_rfl) (by kernel_rfl) (by kernel_rfl) (doorT_met os _)) ?_
 intro W base args ds gs before hval0 hW hL hsh
 have hval : ∀ (j : Nat) t v, Tryz.f4.params[j]? = some t → args[j]? = some v → Value.okWide Tryz.prog W .any base t v := hval0
 have hW' := hW
 obtain ⟨p, q, hA0, _, _, _, _⟩ := hW
 have hA : DataW.TrodAll enc Tryz.prog W 0 (fun _ => true) true Tryz.f4.params.toList args.toList ds p := hA0
 rw [Tryz.params4] at hA hval
 clear hA0 hval0
 obtain ⟨v0, vs0, d0, ds0, p0, q0, hargs, rfl, rfl, h0, r0⟩ := trodAll_cons hA
 obtain ⟨v1, vs1, d1, ds1, p1, q1, rfl, rfl, rfl, h1, r1⟩ := trodAll_cons r0
 obtain ⟨v2, vs2, d2, ds2, p2, q2, rfl, rfl, rfl, h2, r2⟩ := trodAll_cons r1
 obtain ⟨v3, vs3, d3, ds3, p3, q3, rfl, rfl, rfl, h3, r3⟩ := trodAll_cons r2
 obtain ⟨rfl, rfl, rfl⟩ := trodAll_nil r3
 obtain rfl : args = #[v0, v1, v2, v3] := by cases args; simp_all
 obtain ⟨A0, N0, ws0, ns0, c0, m0, rfl, hf0, hn0, hm0⟩ := find_open (hval 0 25 v0 rfl rfl) h0
 obtain ⟨A1, N1, ws1, ns1, c1, m1, rfl, hf1, hn1, hm1⟩ := find_open (hval 1 25 v1 rfl rfl) h1
 obtain ⟨A2, x2, c2, rfl, hf2, hn2⟩ := train_open (hval 2 26 v2 rfl rfl) h2
 obtain ⟨A3, x3, c3, rfl, hf3, hn3⟩ := train_open (hval 3 26 v3 rfl rfl) h3
 refine (common_true A0 N0 A1 N1 A2 A3 c0 m0 c1 m1 c2 c3 ws0 ws1 ns0 ns1 x2 x3 W hf0 hf1 hf2 hf3 hn2 hn3 (tabT_of_laid hL) (maxP_of hsh)).mono fun e W' ⟨he, hb⟩ => ?_
 subst he
 exact ⟨_, rfl, law_post (by kernel_rfl) (by kernel_rfl) rfl hW' rfl rfl rfl hb⟩

theorem row_holds : Rows.GuessCommonSaid :=
 OpenClaim.holds_of_wide 4 Tryz.f4 rfl rfl rfl rfl rfl rfl rfl ⟨rfl, rfl, rfl, rfl, rfl⟩ rfl rfl rfl rfl rfl (by kernel_rfl) Tryz.func4 (by kernel_rfl)
  (of_decide_eq_true (by kernel_rfl)) (by unfold Func.isWrapper; rw [if_neg (of_decide_eq_false (by kernel_rfl))]; exact ⟨rfl, rfl⟩)
  (fun os started H enc _ => lifted os started H enc)

theorem card_holds : Rows.GuessCommonCardSaid :=
 Claim7.holds_tied_plain_at .later [] [.data, .data, .data, .data, .pinned] true _ _ row_holds (fun _ h => by cases h) (by kernel_rfl) (fun _ h => by cases h) guessCommon_row_tie rfl ⟨rfl, rfl⟩ (by kernel_rfl) rfl
  (fun f fn hf hfn => by
   obtain rfl : f = 4 := Option.some.inj ((show Tryz.prog.funcNamed "tellurion/tellurionlaw08.GuessCommon" = some 4 by kernel_rfl).symm.trans hf) |>.symm
   obtain rfl : fn = Tryz.f4 := (Option.some.inj (Tryz.func4.symm.trans hfn)).symm
   exact ⟨by kernel_rfl, fun j t ht => by
    rw [Tryz.params4] at ht
    have hm : t ∈ [25, 26] := by simpa using Array.mem_of_getElem? ht
    have hall : ([25, 26].all fun u => !Tryz.prog.wantsStandIn u) = true := by kernel_rfl
    exact (show Tryz.prog.wantsStandIn t = false by simpa using List.all_eq_true.1 hall t hm)⟩)
  (by kernel_rfl)
end Go.Proofs.YthenlopnlaiodaaGreatDoor.cGuessCommon
end
