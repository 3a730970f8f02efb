/- Valid inventories: what is written is read; it is short; one digit put for another one is never read. The law GuessSpoilt, walked (by gen_spoilt8.py). The statement of GuessSpoilt: for every input the law returns true, and the input reads behind the call as it did; the listed table is tied to the program's text. No condition of its own. -/
import Derived.Test.YthenlopnlaiodaaGreatDoorMG14
import Derived.Test.YthenlopnlaiodaaGreatDoorMG18
import Derived.Test.YthenlopnlaiodaaGreatDoorMG20
import Derived.Test.YthenlopnlaiodaaGreatDoorMG24
import Derived.Test.YthenlopnlaiodaaGreatDoorMG13
import Derived.Laws.IdiomStrings
import Derived.Test.YthenlopnlaiodaaGreatDoorMG21
import Derived.Test.YthenlopnlaiodaaGreatDoorRows
import Derived.Test.YthenlopnlaiodaaGreatDoorCards
import Derived.Test.YthenlopnlaiodaaGreatDoorTie
import Derived.SevenTiedAt
section
namespace Go.Proofs.YthenlopnlaiodaaGreatDoor

theorem itoa_le {n : Int} (m : Nat) (hm : 0 < m) (h0 : 0 ≤ n) (h : n < 10 ^ m) : (Lib.itoa n).length ≤ m := by
 rw [itoa_dec h0]
 exact dec_len m n.toNat hm (by
  have : ((n.toNat : Nat) : Int) < ((10 ^ m : Nat) : Int) := by rw [Int.toNat_of_nonneg h0]; push_cast; exact h
  exact_mod_cast this)
theorem blanks5 : ∀ (xs : List Int), (∀ x ∈ xs, Sm x) → (blanks xs).length ≤ 6 * xs.length
 | [], _ => by simp [blanks]
 | x :: xs, h => by
  have hx := h x List.mem_cons_self
  unfold Sm at hx
  have h1 := itoa_le (n := x) 5 (by omega) hx.1 (by omega)
  have h2 := blanks5 xs (fun y hy => h y (List.mem_cons_of_mem _ hy))
  have h3 : blanks (x :: xs) = (32 :: Lib.itoa x) ++ blanks xs := by simp [blanks]
  rw [h3]
  simp only [List.length_append, List.length_cons]
  omega
theorem line5 (k : Nat) {xs : List Int} (h : ∀ x ∈ xs, Sm x) : (lineB (wordG k) xs).length ≤ 5 + 6 * xs.length := by
 rw [line_blanks, List.length_append]
 have := wordG_len k
 have := blanks5 xs h
 omega
theorem noteB_sm {n : Note} {m : Int} (hm : 0 ≤ m ∧ m ≤ 1000) (h : noteB n m = true) : NoteSm n := by
 obtain ⟨k, a, b, lo, hi, ln, ld, mn, md⟩ := n
 unfold NoteSm
 unfold noteB at h
 unfold Sm
 simp only at h ⊢
 have hnone : ∀ {x y z u : Int}, noneB ⟨k, a, b, lo, hi, ln, ld, mn, md⟩ = true → ln = 0 ∧ ld = 0 ∧ mn = 0 ∧ md = 0 := fun h => by
  unfold noneB at h
  simpa [and_assoc] using h
 have hbare : bareB ⟨k, a, b, lo, hi, ln, ld, mn, md⟩ = true → lo = 0 ∧ hi = 0 := fun h => by
  unfold bareB at h
  simpa using h
 by_cases e1 : k = 1
 ·rw [if_pos e1] at h
  obtain ⟨h0, h⟩ := and_parts h
  obtain ⟨h1, h⟩ := and_parts h
  obtain ⟨h2, h⟩ := and_parts h
  obtain ⟨h3, h4⟩ := and_parts h
  have := hnone (x := 0) (y := 0) (z := 0) (u := 0) h0; have := inB_iff.1 h1; have := inB_iff.1 h2; have := inB_iff.1 h3; have := of_decide_eq_true h4
  omega
 rw [if_neg e1] at h
 by_cases e2 : k = 2
 ·rw [if_pos e2] at h
  obtain ⟨h0, h⟩ := and_parts h
  obtain ⟨h1, h⟩ := and_parts h
  obtain ⟨h2, h⟩ := and_parts h
  obtain ⟨h3, h4⟩ := and_parts h
  have := hnone (x := 0) (y := 0) (z := 0) (u := 0) h0; have := inB_iff.1 h1; have := beq_iff_eq.1 h2; have := inB_iff.1 h3; have := of_decide_eq_true h4
  omega
 rw [if_neg e2] at h
 by_cases e3 : k = 3
 ·rw [if_pos e3] at h
  obtain ⟨h0, h⟩ := and_parts h
  obtain ⟨h1, h⟩ := and_parts h
  obtain ⟨h2, h⟩ := and_parts h
  obtain ⟨h3, h⟩ := and_parts h
  obtain ⟨h4, _⟩ := and_parts h
  unfold fracB at h3 h4
  obtain ⟨h5, h6⟩ := and_parts h3
  obtain ⟨h7, h8⟩ := and_parts h4
  have := hbare h0; have := inB_iff.1 h1; have := of_decide_eq_true h2; have := inB_iff.1 h5; have := inB_iff.1 h6; have := inB_iff.1 h7; have := inB_iff.1 h8
  omega
 rw [if_neg e3] at h
 by_cases e4 : k = 4
 ·rw [if_pos e4] at h
  obtain ⟨h9, h⟩ := and_parts h
  obtain ⟨h0, h⟩ := and_parts h
  obtain ⟨h1, h2⟩ := and_parts h
  have := hnone (x := 0) (y := 0) (z := 0) (u := 0) h9; have := hbare h0; have := inB_iff.1 h1; have := of_decide_eq_true h2
  omega
 rw [if_neg e4] at h
 by_cases e5 : k = 5
 ·rw [if_pos e5] at h
  obtain ⟨h9, h⟩ := and_parts h
  obtain ⟨h0, h⟩ := and_parts h
  obtain ⟨h1, h2⟩ := and_parts h
  have := hnone (x := 0) (y := 0) (z := 0) (u := 0) h9; have := hbare h0; have := inB_iff.1 h1; have := inB_iff.1 h2
  omega
 rw [if_neg e5] at h
 cases h
theorem FindOk.sm {ws : List Wh} {ns : List Note} (h : FindOk ws ns) : StSm (ws, ns) := by
 refine ⟨fun s hs => ?_, fun n hn => noteB_sm (by have := h.six; omega) (h.note n hn)⟩
 have := h.wh s hs
 unfold WhSm Sm
 omega
theorem lines_le (m : Nat) : ∀ (R : List (List UInt8)), (∀ r ∈ R, r.length ≤ m) → (linesB R).length ≤ (m + 1) * R.length
 | [], _ => by simp [linesB]
 | r :: R, h => by
  have h1 := lines_le m R (fun x hx => h x (List.mem_cons_of_mem _ hx))
  have h2 := h r (List.mem_cons_self ..)
  have h3 : linesB (r :: R) = r ++ [10] ++ linesB R := by simp [linesB]
  rw [h3]
  simp only [List.length_append, List.length_cons, List.length_nil]
  rw [Nat.mul_add]
  omega
theorem lines_app (R S : List (List UInt8)) : linesB (R ++ S) = linesB R ++ linesB S := by simp [linesB]
theorem lines_one (r : List UInt8) : (linesB [r]).length = r.length + 1 := by simp [linesB]
theorem valid_rows {ws : List Wh} {ns : List Note} (h : FindOk ws ns) : (∀ r ∈ ws.map whRow, r.length ≤ 17) ∧ (∀ r ∈ ns.map noteRow, r.length ≤ 41) ∧ (lineB (wordG 0) [(ws.length : Int)]).length ≤ 11 := by
 have hs := h.sm
 refine ⟨fun r hr => ?_, fun r hr => ?_, ?_⟩
 ·obtain ⟨s, hs', rfl⟩ := List.mem_map.1 hr
  exact line5 1 (whXs_sm (hs.1 s hs'))
 ·obtain ⟨n, hn, rfl⟩ := List.mem_map.1 hr
  have := line5 (n.k + 1).toNat (noteXs_sm (hs.2 n hn))
  have := noteXs_len n
  unfold noteRow
  omega
 ·exact line5 0 (lenSm (by have := h.six; omega))
theorem valid_len {ws : List Wh} {ns : List Note} (h : FindOk ws ns) : (findText ws ns).length ≤ 480 := by
 obtain ⟨h1, h2, h3⟩ := valid_rows h
 have a1 := lines_le 17 _ h1
 have a2 := lines_le 41 _ h2
 have a3 := lines_one (lineB (wordG 0) [(ws.length : Int)])
 have e : findRows ws ns = [lineB (wordG 0) [(ws.length : Int)]] ++ ws.map whRow ++ ns.map noteRow := by simp [findRows]
 have h0 : 0 ≤ chkN (findRows ws ns) (findRows ws ns).length % 149 ∧ chkN (findRows ws ns) (findRows ws ns).length % 149 < 1000 := ⟨Int.emod_nonneg _ (by omega), by have := Int.emod_lt_of_pos (chkN (findRows ws ns) (findRows ws ns).length) (show (0 : Int) < 149 by decide); omega⟩
 unfold findText
 rw [text_linesM, List.length_append, List.length_append, endB_len h0.1 h0.2, e, lines_app, lines_app, List.length_append, List.length_append]
 simp only [List.length_map, List.length_cons, List.length_nil] at a1 a2 ⊢
 have := h.six
 have := h.eight
 omega
theorem valid_read {ws : List Wh} {ns : List Note} (h : FindOk ws ns) : gread (findText ws ns) = some (ws, ns) := gread_text h.sm
theorem mod149 : ∀ a : Fin 19, ∀ k : Fin 42, ∀ i : Fin 16, a.val ≠ 9 → (((a.val : Int) - 9) * ((k.val : Int) + 1) * ((i.val : Int) + 1)) % 149 ≠ 0 := by decide +kernel
theorem valid_spoilt {ws : List Wh} {ns : List Note} (h : FindOk ws ns)
  {at_ : Nat} (ha : at_ < (findText ws ns).length) {d : UInt8} (hd : digB d = true) (hs : digB (findText ws ns)[at_] = true) (hne : d ≠ (findText ws ns)[at_]) :
  gread ((findText ws ns).set at_ d) = none := by
 cases hr : gread ((findText ws ns).set at_ d) with
 | none => rfl
 | some a =>
  exfalso
  obtain ⟨vs, ms⟩ := a
  obtain ⟨h1, h2⟩ := gread_some hr
  obtain ⟨g1, g2, g3⟩ := valid_rows h
  have gl : ∀ r ∈ findRows ws ns, r.length ≤ 41 := fun r hr => by
   unfold findRows at hr
   rcases List.mem_cons.1 hr with rfl | hr
   ·omega
   rcases List.mem_append.1 hr with hr | hr
   ·have := g1 r hr; omega
   ·exact g2 r hr
  have gn : (findRows ws ns).length ≤ 15 := by
   have := h.six
   have := h.eight
   simp [findRows]
   omega
  refine text_spoilt (q := 149) (by decide) (by decide) (R := findRows ws ns) (R' := findRows vs ms) (find_no10 h.sm) (find_no10 h2) ?_ ha hd hs hne h1
  intro i k d c r hi hk b1 b2 b3
  have hr := gl r (List.mem_of_getElem? hi)
  have hi' := (List.getElem?_eq_some_iff.1 hi).1
  have := mod149 ⟨(d - c + 9).toNat, by omega⟩ ⟨k, by omega⟩ ⟨i, by omega⟩ (by simp only; omega)
  simp only at this
  rwa [show (((d - c + 9).toNat : Nat) : Int) - 9 = d - c by omega] at this
end Go.Proofs.YthenlopnlaiodaaGreatDoor
end

section
namespace Go.Proofs.YthenlopnlaiodaaGreatDoor
open Go.RowKit Go.Shelf

theorem bytes_laid (w : World) (tx : List UInt8) : ∃ (cap g : Nat) (W2 : World), (convert 9 81 (.string ⟨tx.toArray⟩)).run Tryz.prog w = .ok (.slice (some ⟨g, 0, none⟩) tx.length cap) W2 ∧ w.heap.size ≤ g ∧ Below w.heap.size w W2 ∧
  (∀ j, (hj : j < tx.length) → W2.cell? ⟨g, j, none⟩ = some (.int .u8 (tx[j].toNat : Int))) ∧ (∀ j, j < tx.length → W2.frozen? ⟨g, j, none⟩ = false) := by
 have h := run_bytes_of_string (P := Tryz.prog) w 9 81 5 ⟨tx.toArray⟩ Tryz.underlying9 Tryz.underlying81 Tryz.underlying5
 have hsz : (⟨tx.toArray⟩ : ByteArray).size = tx.length := by show tx.toArray.size = _; simp
 rw [hsz] at h
 generalize grownCap w tx.length 0 5 = cap at h
 have hC : ∀ j, (hj : j < tx.length) → (bytesRow ⟨tx.toArray⟩ cap)[j]? = some (.int .u8 (tx[j].toNat : Int)) := by
  intro j hj
  unfold bytesRow
  rw [Array.getElem?_append_left (by simpa using hj)]
  simp [hj]
 have hn : tx.length ≤ (bytesRow ⟨tx.toArray⟩ cap).size := by
  unfold bytesRow; simp
 generalize bytesRow ⟨tx.toArray⟩ cap = C at h hC hn
 refine ⟨cap, w.heap.size, _, h, Nat.le_refl _, fr_alloc (fr_drew (fr_refl w)) _, fun j hj => ?_, fun j hj => ?_⟩
 ·have := hC j hj
  unfold World.cell? World.alloc World.drew
  simp [this]
 ·unfold World.frozen? World.alloc World.drew
  simp
  omega
theorem bytes_conv (W : World) (g cap k : Nat) (tx : List UInt8) (dg : Int) (h0 : 0 ≤ dg) (h9 : dg ≤ 9) (hc : ∀ j, (hj : j < tx.length) → W.cell? ⟨g, j, none⟩ = some (.int .u8 (tx[j].toNat : Int))) :
  (convert 81 9 (.slice (some ⟨g, 0, none⟩) tx.length cap)).run Tryz.prog (W.setCell ⟨g, k, none⟩ (.int .u8 (48 + dg))) = .ok (.string ⟨(tx.set k (UInt8.ofNat (48 + dg.toNat))).toArray⟩) (W.setCell ⟨g, k, none⟩ (.int .u8 (48 + dg))) := by
 have hl : tx.length = (tx.set k (UInt8.ofNat (48 + dg.toNat))).length := by simp
 have key := run_convert_bytes_back (P := Tryz.prog) (W.setCell ⟨g, k, none⟩ (.int .u8 (48 + dg))) 81 9 5 ⟨g, 0, none⟩ cap (tx.set k (UInt8.ofNat (48 + dg.toNat))) Tryz.underlying81 Tryz.underlying5 Tryz.underlying9 (fun j hj => by
  have hj' : j < tx.length := by simpa using hj
  have e : (⟨g, 0, none⟩ : Addr).add j = ⟨g, j, none⟩ := by rw [add_lit, Nat.zero_add]
  rw [e]
  by_cases h : k = j
  ·subst h
   rw [World.cell?_setCell_same _ _ _ (hc k hj')]
   have : (UInt8.ofNat (48 + dg.toNat)).toNat = 48 + dg.toNat := UInt8.toNat_ofNat_of_lt (by show _ < 256; omega)
   simp only [List.getElem_set_self, this]
   congr 2
   omega
  ·rw [World.cell?_setCell_other _ _ _ _ (by intro e; cases e; exact h rfl), hc j hj']
   simp only [List.getElem_set_ne h])
 rw [← hl] at key
 exact key
theorem not_dig {c : UInt8} {n : Nat} (hn : c.toNat = n) (h1 : 48 ≤ n) (h2 : n ≤ 57) : digB c = true := by unfold digB; simp only [hn, Bool.and_eq_true, decide_eq_true_eq]; omega
set_option maxRecDepth 100000 in
set_option maxHeartbeats 16000000 in
theorem spoilt_true (A N : Option Addr) (c d : Nat) (ws : List Wh) (ns : List Note) (x dg : Int) (w : World) (hf : FindAt w A N ws ns) (hT : TabP w) (hM : MaxP w) :
  Calls Tryz.prog 10 #[.agg #[.slice A ws.length c, .slice N ns.length d], .int .i64 x, .int .i64 dg] w fun e' w' => e' = .returned (.bool true) ∧ Below w.heap.size w w' := by
 have hfr := fr_alloc (fr_refl w) (.cells #[.slice A ws.length c, .slice N ns.length d] 25)
 have hX0 : Blk (w.alloc (.cells #[.slice A ws.length c, .slice N ns.length d] 25)) (w.heap.size) 25 #[.slice A ws.length c, .slice N ns.length d] := (Blk.new_at _ _ (by simp))
 replace hf := hf.keep hfr
 have hc0 := fun j => hX0.cell j
 have hl0 := hX0.lt
 cases s1 : (decide ((ws.length : Int) ≤ 8) && decide ((ns.length : Int) ≤ 11))
 ·go_enter Tryz.func10, Tryz.ntmps10
  go_wp2_with fail
  refine (short_any A N ws.length ns.length c d _ _ s1).mono ?_
  rintro e' w1 ⟨rfl, hb⟩
  replace hfr := fr_call hfr hb
  replace hf := hf.keep hb
  replace hX0 := hX0.keep hb
  clear hb hc0
  have hc0 := fun j => hX0.cell j
  have hl0 := hX0.lt
  go_wp2_with fail
  refine (known_is _ (hT.keep hfr) (hM.keep hfr)).mono ?_
  rintro e' w1 ⟨rfl, hb⟩
  replace hfr := fr_call hfr hb
  clear hb
  go_wp2_with fail
  go_ret
  exact ⟨rfl, hfr⟩
 ·have s1a : ws.length ≤ 8 ∧ ns.length ≤ 11 := by simp at s1; omega
  cases f1 : findB ws ns
  ·go_enter Tryz.func10, Tryz.ntmps10
   go_wp2_with fail
   refine (short_any A N ws.length ns.length c d _ _ s1).mono ?_
   rintro e' w1 ⟨rfl, hb⟩
   replace hfr := fr_call hfr hb
   replace hf := hf.keep hb
   replace hX0 := hX0.keep hb
   clear hb hc0
   have hc0 := fun j => hX0.cell j
   have hl0 := hX0.lt
   go_wp2_with fail
   refine (Find8_any A N ws.length ns.length c d ws ns _ hf rfl rfl (by omega) (by omega) _ f1).mono ?_
   rintro e' w1 ⟨rfl, hb⟩
   replace hfr := fr_call hfr hb
   replace hf := hf.keep hb
   replace hX0 := hX0.keep hb
   clear hb hc0
   have hc0 := fun j => hX0.cell j
   have hl0 := hX0.lt
   go_wp2_with fail
   refine (known_is _ (hT.keep hfr) (hM.keep hfr)).mono ?_
   rintro e' w1 ⟨rfl, hb⟩
   replace hfr := fr_call hfr hb
   clear hb
   go_wp2_with fail
   go_ret
   exact ⟨rfl, hfr⟩
  ·by_cases o0 : dg < 0
   ·go_enter Tryz.func10, Tryz.ntmps10
    go_wp2_with fail
    refine (short_any A N ws.length ns.length c d _ _ s1).mono ?_
    rintro e' w1 ⟨rfl, hb⟩
    replace hfr := fr_call hfr hb
    replace hf := hf.keep hb
    replace hX0 := hX0.keep hb
    clear hb hc0
    have hc0 := fun j => hX0.cell j
    have hl0 := hX0.lt
    go_wp2_with fail
    refine (Find8_any A N ws.length ns.length c d ws ns _ hf rfl rfl (by omega) (by omega) _ f1).mono ?_
    rintro e' w1 ⟨rfl, hb⟩
    replace hfr := fr_call hfr hb
    replace hf := hf.keep hb
    replace hX0 := hX0.keep hb
    clear hb hc0
    have hc0 := fun j => hX0.cell j
    have hl0 := hX0.lt
    go_wp2_with fail
    refine (known_is _ (hT.keep hfr) (hM.keep hfr)).mono ?_
    rintro e' w1 ⟨rfl, hb⟩
    replace hfr := fr_call hfr hb
    clear hb
    go_wp2_with fail
    go_ret
    exact ⟨rfl, hfr⟩
   ·by_cases o1 : 9 < dg
    ·go_enter Tryz.func10, Tryz.ntmps10
     go_wp2_with fail
     refine (short_any A N ws.length ns.length c d _ _ s1).mono ?_
     rintro e' w1 ⟨rfl, hb⟩
     replace hfr := fr_call hfr hb
     replace hf := hf.keep hb
     replace hX0 := hX0.keep hb
     clear hb hc0
     have hc0 := fun j => hX0.cell j
     have hl0 := hX0.lt
     go_wp2_with fail
     refine (Find8_any A N ws.length ns.length c d ws ns _ hf rfl rfl (by omega) (by omega) _ f1).mono ?_
     rintro e' w1 ⟨rfl, hb⟩
     replace hfr := fr_call hfr hb
     replace hf := hf.keep hb
     replace hX0 := hX0.keep hb
     clear hb hc0
     have hc0 := fun j => hX0.cell j
     have hl0 := hX0.lt
     go_wp2_with fail
     refine (known_is _ (hT.keep hfr) (hM.keep hfr)).mono ?_
     rintro e' w1 ⟨rfl, hb⟩
     replace hfr := fr_call hfr hb
     clear hb
     go_wp2_with fail
     go_ret
     exact ⟨rfl, hfr⟩
    ·have hv := find_ok f1
     have F1 := Lib.hid f1
     have HV := Lib.hid hv
     obtain ⟨tx, htx⟩ : ∃ tx, findText ws ns = tx := ⟨_, rfl⟩
     have hvl := valid_len hv
     have hpr := fun W h ht => Print_ok A N c d ws ns W h hv ht
     rw [htx] at hvl hpr
     have HTX := Lib.hid htx
     unfold RetTx at hpr
     clear htx hv f1
     by_cases hx0 : x < 0
     ·have q3 : decide (x < 0) = true := decide_eq_true hx0
      go_enter Tryz.func10, Tryz.ntmps10
      go_wp2_with fail
      refine (short_any A N ws.length ns.length c d _ _ s1).mono ?_
      rintro e' w1 ⟨rfl, hb⟩
      replace hfr := fr_call hfr hb
      replace hf := hf.keep hb
      replace hX0 := hX0.keep hb
      clear hb hc0
      have hc0 := fun j => hX0.cell j
      have hl0 := hX0.lt
      go_wp2_with fail
      refine (Find8_any A N ws.length ns.length c d ws ns _ hf rfl rfl (by omega) (by omega) _ F1.out).mono ?_
      rintro e' w1 ⟨rfl, hb⟩
      replace hfr := fr_call hfr hb
      replace hf := hf.keep hb
      replace hX0 := hX0.keep hb
      clear hb hc0
      have hc0 := fun j => hX0.cell j
      have hl0 := hX0.lt
      go_wp2_with fail
      refine (hpr _ hf (hT.keep hfr)).mono ?_
      rintro e' w1 ⟨rfl, hb⟩
      replace hfr := fr_call hfr hb
      replace hf := hf.keep hb
      replace hX0 := hX0.keep hb
      clear hb hc0
      have hc0 := fun j => hX0.cell j
      have hl0 := hX0.lt
      go_wp2_with fail
      refine (known_is _ (hT.keep hfr) (hM.keep hfr)).mono ?_
      rintro e' w1 ⟨rfl, hb⟩
      replace hfr := fr_call hfr hb
      clear hb
      go_wp2_with fail
      go_ret
      exact ⟨rfl, hfr⟩
     ·have q3 : decide (x < 0) = false := decide_eq_false hx0
      obtain ⟨k, rfl⟩ := Int.eq_ofNat_of_zero_le (show 0 ≤ x by omega)
      clear q3 hx0
      by_cases hk : tx.length ≤ k
      ·have q4 : decide ((tx.length : Int) ≤ (k : Int)) = true := decide_eq_true (by omega)
       have q5 : decide (tx.length ≤ k) = true := decide_eq_true hk
       go_enter Tryz.func10, Tryz.ntmps10
       go_wp2_with fail
       refine (short_any A N ws.length ns.length c d _ _ s1).mono ?_
       rintro e' w1 ⟨rfl, hb⟩
       replace hfr := fr_call hfr hb
       replace hf := hf.keep hb
       replace hX0 := hX0.keep hb
       clear hb hc0
       have hc0 := fun j => hX0.cell j
       have hl0 := hX0.lt
       go_wp2_with fail
       refine (Find8_any A N ws.length ns.length c d ws ns _ hf rfl rfl (by omega) (by omega) _ F1.out).mono ?_
       rintro e' w1 ⟨rfl, hb⟩
       replace hfr := fr_call hfr hb
       replace hf := hf.keep hb
       replace hX0 := hX0.keep hb
       clear hb hc0
       have hc0 := fun j => hX0.cell j
       have hl0 := hX0.lt
       go_wp2_with fail
       refine (hpr _ hf (hT.keep hfr)).mono ?_
       rintro e' w1 ⟨rfl, hb⟩
       replace hfr := fr_call hfr hb
       replace hf := hf.keep hb
       replace hX0 := hX0.keep hb
       clear hb hc0
       have hc0 := fun j => hX0.cell j
       have hl0 := hX0.lt
       go_wp2_with fail
       refine (known_is _ (hT.keep hfr) (hM.keep hfr)).mono ?_
       rintro e' w1 ⟨rfl, hb⟩
       replace hfr := fr_call hfr hb
       clear hb
       go_wp2_with fail
       go_ret
       exact ⟨rfl, hfr⟩
      ·have q4 : decide ((tx.length : Int) ≤ (k : Int)) = false := decide_eq_false (by omega)
       have q5 : decide (tx.length ≤ k) = false := decide_eq_false hk
       have hlt : k < tx.length := by omega
       have hks : k < (⟨tx.toArray⟩ : ByteArray).size := by show k < tx.toArray.size; simpa using hlt
       obtain ⟨b, hb⟩ : ∃ b, tx[k] = b := ⟨_, rfl⟩
       have hbs : (⟨tx.toArray⟩ : ByteArray)[k]'hks = b := by
        show tx.toArray[k] = b
        simp
        exact hb
       have HB := Lib.hid hb
       obtain ⟨z, hz⟩ : ∃ z, b.toNat = z := ⟨_, rfl⟩
       have hz255 : z < 256 := by rw [← hz]; exact b.toNat_lt
       have HZ := Lib.hid hz
       clear hb
       by_cases h48 : z < 48
       ·have hd1 : decide ((z : Int) < 48) = true := decide_eq_true (by omega)
        have hd2 : (z : Int) < 48 := by omega
        go_enter Tryz.func10, Tryz.ntmps10
        go_wp2_with fail
        refine (short_any A N ws.length ns.length c d _ _ s1).mono ?_
        rintro e' w1 ⟨rfl, hb⟩
        replace hfr := fr_call hfr hb
        replace hf := hf.keep hb
        replace hX0 := hX0.keep hb
        clear hb hc0
        have hc0 := fun j => hX0.cell j
        have hl0 := hX0.lt
        go_wp2_with fail
        refine (Find8_any A N ws.length ns.length c d ws ns _ hf rfl rfl (by omega) (by omega) _ F1.out).mono ?_
        rintro e' w1 ⟨rfl, hb⟩
        replace hfr := fr_call hfr hb
        replace hf := hf.keep hb
        replace hX0 := hX0.keep hb
        clear hb hc0
        have hc0 := fun j => hX0.cell j
        have hl0 := hX0.lt
        go_wp2_with fail
        refine (hpr _ hf (hT.keep hfr)).mono ?_
        rintro e' w1 ⟨rfl, hb⟩
        replace hfr := fr_call hfr hb
        replace hf := hf.keep hb
        replace hX0 := hX0.keep hb
        clear hb hc0
        have hc0 := fun j => hX0.cell j
        have hl0 := hX0.lt
        go_wp2_with fail
        refine (known_is _ (hT.keep hfr) (hM.keep hfr)).mono ?_
        rintro e' w1 ⟨rfl, hb⟩
        replace hfr := fr_call hfr hb
        clear hb
        go_wp2_with fail
        go_ret
        exact ⟨rfl, hfr⟩
       ·have hd1 : decide ((z : Int) < 48) = false := decide_eq_false (by omega)
        have hd2 : ¬ (z : Int) < 48 := by omega
        by_cases h57 : 57 < z
        ·have hd3 : decide ((57 : Int) < (z : Int)) = true := decide_eq_true (by omega)
         have hd4 : (57 : Int) < (z : Int) := by omega
         go_enter Tryz.func10, Tryz.ntmps10
         go_wp2_with fail
         refine (short_any A N ws.length ns.length c d _ _ s1).mono ?_
         rintro e' w1 ⟨rfl, hb⟩
         replace hfr := fr_call hfr hb
         replace hf := hf.keep hb
         replace hX0 := hX0.keep hb
         clear hb hc0
         have hc0 := fun j => hX0.cell j
         have hl0 := hX0.lt
         go_wp2_with fail
         refine (Find8_any A N ws.length ns.length c d ws ns _ hf rfl rfl (by omega) (by omega) _ F1.out).mono ?_
         rintro e' w1 ⟨rfl, hb⟩
         replace hfr := fr_call hfr hb
         replace hf := hf.keep hb
         replace hX0 := hX0.keep hb
         clear hb hc0
         have hc0 := fun j => hX0.cell j
         have hl0 := hX0.lt
         go_wp2_with fail
         refine (hpr _ hf (hT.keep hfr)).mono ?_
         rintro e' w1 ⟨rfl, hb⟩
         replace hfr := fr_call hfr hb
         replace hf := hf.keep hb
         replace hX0 := hX0.keep hb
         clear hb hc0
         have hc0 := fun j => hX0.cell j
         have hl0 := hX0.lt
         go_wp2_with fail
         refine (known_is _ (hT.keep hfr) (hM.keep hfr)).mono ?_
         rintro e' w1 ⟨rfl, hb⟩
         replace hfr := fr_call hfr hb
         clear hb
         go_wp2_with fail
         go_ret
         exact ⟨rfl, hfr⟩
        ·have hd3 : decide ((57 : Int) < (z : Int)) = false := decide_eq_false (by omega)
         have hd4 : ¬ (57 : Int) < (z : Int) := by omega
         by_cases hdg : (z : Int) - 48 = dg
         ·have hd5 : ((z : Int) - 48 == dg) = true := beq_iff_eq.2 hdg
          clear hdg
          go_enter Tryz.func10, Tryz.ntmps10
          go_wp2_with fail
          refine (short_any A N ws.length ns.length c d _ _ s1).mono ?_
          rintro e' w1 ⟨rfl, hb⟩
          replace hfr := fr_call hfr hb
          replace hf := hf.keep hb
          replace hX0 := hX0.keep hb
          clear hb hc0
          have hc0 := fun j => hX0.cell j
          have hl0 := hX0.lt
          go_wp2_with fail
          refine (Find8_any A N ws.length ns.length c d ws ns _ hf rfl rfl (by omega) (by omega) _ F1.out).mono ?_
          rintro e' w1 ⟨rfl, hb⟩
          replace hfr := fr_call hfr hb
          replace hf := hf.keep hb
          replace hX0 := hX0.keep hb
          clear hb hc0
          have hc0 := fun j => hX0.cell j
          have hl0 := hX0.lt
          go_wp2_with fail
          refine (hpr _ hf (hT.keep hfr)).mono ?_
          rintro e' w1 ⟨rfl, hb⟩
          replace hfr := fr_call hfr hb
          replace hf := hf.keep hb
          replace hX0 := hX0.keep hb
          clear hb hc0
          have hc0 := fun j => hX0.cell j
          have hl0 := hX0.lt
          go_wp2_with fail
          refine (known_is _ (hT.keep hfr) (hM.keep hfr)).mono ?_
          rintro e' w1 ⟨rfl, hb⟩
          replace hfr := fr_call hfr hb
          clear hb
          go_wp2_with fail
          go_ret
          exact ⟨rfl, hfr⟩
         ·have hd5 : ((z : Int) - 48 == dg) = false := beq_eq_false_iff_ne.2 hdg
          have HDG := Lib.hid hdg
          clear hdg
          have hsp : gread (tx.set k (UInt8.ofNat (48 + dg.toNat))) = none := by
           have hd : (UInt8.ofNat (48 + dg.toNat)).toNat = 48 + dg.toNat := UInt8.toNat_ofNat_of_lt (by show _ < 256; omega)
           have htx := HTX.out
           subst htx
           refine valid_spoilt HV.out hlt (not_dig hd (by omega) (by omega)) (by rw [HB.out]; exact not_dig HZ.out (by omega) (by omega)) (fun e => ?_)
           rw [HB.out] at e
           have h1 := HDG.out
           have h2 := HZ.out
           rw [← e, hd] at h2
           omega
          have hsl : (tx.set k (UInt8.ofNat (48 + dg.toNat))).length ≤ 500 := by rw [List.length_set]; omega
          have HSP := Lib.hid hsp
          clear hsp
          go_enter Tryz.func10, Tryz.ntmps10
          go_wp2_with fail
          refine (short_any A N ws.length ns.length c d _ _ s1).mono ?_
          rintro e' w1 ⟨rfl, hb⟩
          replace hfr := fr_call hfr hb
          replace hf := hf.keep hb
          replace hX0 := hX0.keep hb
          clear hb hc0
          have hc0 := fun j => hX0.cell j
          have hl0 := hX0.lt
          go_wp2_with fail
          refine (Find8_any A N ws.length ns.length c d ws ns _ hf rfl rfl (by omega) (by omega) _ F1.out).mono ?_
          rintro e' w1 ⟨rfl, hb⟩
          replace hfr := fr_call hfr hb
          replace hf := hf.keep hb
          replace hX0 := hX0.keep hb
          clear hb hc0
          have hc0 := fun j => hX0.cell j
          have hl0 := hX0.lt
          go_wp2_with fail
          refine (hpr _ hf (hT.keep hfr)).mono ?_
          rintro e' w1 ⟨rfl, hb⟩
          replace hfr := fr_call hfr hb
          replace hf := hf.keep hb
          replace hX0 := hX0.keep hb
          clear hb hc0
          have hc0 := fun j => hX0.cell j
          have hl0 := hX0.lt
          obtain ⟨cap, g, W2, hconv, hg, hb2, hcell, hfz⟩ := bytes_laid w1 tx
          have hback := bytes_conv W2 g cap k tx dg (by omega) (by omega) hcell
          have hc0 := hcell k hlt
          have hz0 := hfz k hlt
          obtain ⟨ts, hts⟩ : ∃ ts, tx.set k (UInt8.ofNat (48 + dg.toNat)) = ts := ⟨_, rfl⟩
          rw [hts] at hsl hback
          have HTS := Lib.hid hts
          clear hcell hfz hts
          have hb3 := hb2.setCell (p := ⟨g, k, none⟩) hg (.int .u8 (48 + dg))
          have hT3 := hT.keep (fr_call hfr hb3)
          have hM3 := hM.keep (fr_call hfr hb3)
          have hf3 := fr_call hfr hb3
          clear hb2 hb3 hf hfr hX0 hl0
          go_wp2_with fail
          refine (Read_none ts _ hsl hM3 hT3 (by rw [← HTS.out]; exact HSP.out)).mono ?_
          rintro e' w7 ⟨A', N', wc', nc', rfl, hF, hb⟩
          have hfr := fr_call hf3 hb
          clear hb hT3 hM3 hf3 hconv hback hc0 hz0
          go_wp2_with (refine wpList_store_blk rfl _ _ _ rfl w7.heap.size 25 _ _ rfl rfl (Blk.new w7 _ _) rfl (by kernel_rfl) (by simp [Value.oneCell']) ?_; intro w8 hS1 hgr; have hb : Below w7.heap.size w7 w8 := (fr_alloc (fr_refl w7) _).grown hgr (fr_alloc (fr_refl w7) _).size (by intro k hk; cases hk; exact Nat.le_refl _); replace hfr := fr_call hfr hb; replace hF := hF.keep hb; clear hb hgr; have hc1 := fun j => hS1.cell j; have hl1 := hS1.lt)
          refine (SameFinds_same _ _ none none _ _ 0 0 [] [] _ hF (FindAt.nil _) (by simp) (by simp)).mono ?_
          rintro e' w9 ⟨rfl, hb⟩
          replace hfr := fr_call hfr hb
          clear hb
          go_wp2_with fail
          refine (known_is _ (hT.keep hfr) (hM.keep hfr)).mono ?_
          rintro e' w1 ⟨rfl, hb⟩
          replace hfr := fr_call hfr hb
          clear hb
          go_wp2_with fail
          go_ret
          exact ⟨rfl, hfr⟩
end Go.Proofs.YthenlopnlaiodaaGreatDoor
end

section
namespace Go.Proofs.YthenlopnlaiodaaGreatDoor.cGuessSpoilt
open Go.ChangeShapes Go.WideShapes Go.ChangeAt Go.WideMaps Go.WideElems Go.RowKit
set_option maxRecDepth 100000

theorem lifted (os : Os) (started : os.Started) (H : Type) (enc : TypeId × Value → H) :
  ReturnsInHanded {} Tryz.checked os 10 .any (fun w args => (Rows.guessSpoiltSpec.pre enc Tryz.prog Tryz.f10 [] false w args ∧ laidMetH Tryz.prog laidT w) ∧ sizedMet enc Tryz.prog Tryz.f10 (OpenSpec.ofChange Rows.guessSpoiltSpec) false w args)
   (Rows.guessSpoiltSpec.post enc Tryz.prog Tryz.f10 false true false false) := by
 refine change_and_shaped (C := Tryz.checked) (X := fun w _ => laidMetH Tryz.prog laidT w) (fun _ _ _ hh h => h.of_heap hh) own_none started (by kernel_rfl) Tryz.func10
  (ChangeSpec.witness_shaped (enc := enc) (C := Tryz.checked) (os := os) (X := fun w _ => laidMetH Tryz.prog laidT w) false (doorT os) #[.agg #[.slice none 0 0, .slice none 0 0], .int .i64 0, .int .i64 0] 8 rfl (World.shaped_of_RefB (by kernel_rfl) (by kernel_rfl)) (by kernel_rfl) (by kernel_rfl) (by kernel_rfl) (doorT_met os _)) ?_
 intro W base args ds gs before hval0 hW hL hsh
 have hval : ∀ (j : Nat) t v, Tryz.f10.params[j]? = some t → args[j]? = some v → Value.okWide Tryz.prog W .any base t v := hval0
 have hW' := hW
 obtain ⟨p, q, hA0, _, _, _, _⟩ := hW
 have hA : DataW.TrodAll enc Tryz.prog W 0 (fun _ => true) true Tryz.f10.params.toList args.toList ds p := hA0
 rw [Tryz.params10] at hA hval
 clear hA0 hval0
 obtain ⟨v0, vs0, d0, ds0, p0, q0, hargs, rfl, rfl, h0, r0⟩ := trodAll_cons hA
 obtain ⟨v1, vs1, d1, ds1, p1, q1, rfl, rfl, rfl, h1, r1⟩ := trodAll_cons r0
 obtain ⟨v2, vs2, d2, ds2, p2, q2, rfl, rfl, rfl, h2, r2⟩ := trodAll_cons r1
 obtain ⟨rfl, rfl, rfl⟩ := trodAll_nil r2
 obtain rfl : args = #[v0, v1, v2] := by cases args; simp_all
 obtain ⟨A0, N0, ws0, ns0, c0, m0, rfl, hf0, hn0, hm0⟩ := find_open (hval 0 25 v0 rfl rfl) h0
 obtain ⟨x1, rfl, _, _, _⟩ := open_int Tryz.underlying3 (hval 1 3 v1 rfl rfl) h1
 obtain ⟨x2, rfl, _, _, _⟩ := open_int Tryz.underlying3 (hval 2 3 v2 rfl rfl) h2
 refine (spoilt_true A0 N0 c0 m0 ws0 ns0 x1 x2 W hf0 (tabT_of_laid hL) (maxP_of hsh)).mono fun e W' ⟨he, hb⟩ => ?_
 subst he
 exact ⟨_, rfl, law_post (by kernel_rfl) (by kernel_rfl) rfl hW' rfl rfl rfl hb⟩

theorem row_holds : Rows.GuessSpoiltSaid :=
 OpenClaim.holds_of_wide 10 Tryz.f10 rfl rfl rfl rfl rfl rfl rfl ⟨rfl, rfl, rfl, rfl, rfl⟩ rfl rfl rfl rfl rfl (by kernel_rfl) Tryz.func10 (by kernel_rfl)
  (of_decide_eq_true (by kernel_rfl)) (by unfold Func.isWrapper; rw [if_neg (of_decide_eq_false (by kernel_rfl))]; exact ⟨rfl, rfl⟩)
  (fun os started H enc _ => lifted os started H enc)

theorem card_holds : Rows.GuessSpoiltCardSaid :=
 Claim7.holds_tied_plain_at .later [] [.data, .data, .data, .data, .pinned] true _ _ row_holds (fun _ h => by cases h) (by kernel_rfl) (fun _ h => by cases h) guessSpoilt_row_tie rfl ⟨rfl, rfl⟩ (by kernel_rfl) rfl
  (fun f fn hf hfn => by
   obtain rfl : f = 10 := Option.some.inj ((show Tryz.prog.funcNamed "tellurion/tellurionlaw08.GuessSpoilt" = some 10 by kernel_rfl).symm.trans hf) |>.symm
   obtain rfl : fn = Tryz.f10 := (Option.some.inj (Tryz.func10.symm.trans hfn)).symm
   exact ⟨by kernel_rfl, fun j t ht => by
    rw [Tryz.params10] at ht
    have hm : t ∈ [25, 3] := by simpa using Array.mem_of_getElem? ht
    have hall : ([25, 3].all fun u => !Tryz.prog.wantsStandIn u) = true := by kernel_rfl
    exact (show Tryz.prog.wantsStandIn t = false by simpa using List.all_eq_true.1 hall t hm)⟩)
  (by kernel_rfl)
end Go.Proofs.YthenlopnlaiodaaGreatDoor.cGuessSpoilt
end
