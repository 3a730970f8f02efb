/- Reference: the inventory of a find (by gen_oi.py). Plain: what strings.Split and strings.Cut give, as parts. Walks: what is given up with; the parts of a string; the numbers of a row. Walk: the numbers of a row. -/
import Derived.Test.YthenlopnlaiodaaGreatDoorMG17
import Derived.Test.YthenlopnlaiodaaGreatDoorMG11
import Derived.Test.YthenlopnlaiodaaGreatDoorMG13
import Derived.Lib.SplitLaws
import Derived.Lib.IndexMore
import Derived.Test.YthenlopnlaiodaaGreatDoorMG5
import Derived.Laws.RangeString
import Derived.Laws.RangeAny
section
namespace Go.Proofs.YthenlopnlaiodaaGreatDoor
open Go.RowKit Go.Shelf

/-- rows, a line end behind each -/
def linesB (R : List (List UInt8)) : List UInt8 := (R.map (fun r => r ++ [10])).flatten
theorem linesB_snoc (R : List (List UInt8)) (r : List UInt8) : linesB (R ++ [r]) = linesB R ++ r ++ [10] := by simp [linesB]
theorem linesB_len (R : List (List UInt8)) (h : ∀ r ∈ R, r.length ≤ 4000) : (linesB R).length ≤ 4001 * R.length := by
 induction R with
 | nil => simp [linesB]
 | cons r R ih =>
  have h1 := h r (by simp)
  have h2 := ih (fun x hx => h x (by simp [hx]))
  have h3 : linesB (r :: R) = (r ++ [10]) ++ linesB R := by simp [linesB]
  rw [h3]
  simp only [List.length_append, List.length_cons, List.length_nil]
  omega
section
variable {o : Oper} {a : Act} {w : World} {K : Act → World → Prop} {Q : Exit → Act → World → Prop}
theorem wp_build1s {x : Nat} {s : ByteArray} (ho : o.op = .buildSlice 144 1 #[(0, .tmp x)]) (hx : a.tmps.getD x undef = .string s)
  (h : ∀ g w', w.heap.size = g → Blk w' g 9 #[.string s] → Below w.heap.size w w' → K (a.put o.dst (.slice (some ⟨g, 0, none⟩) 1 1)) w') : o.wp Tryz.prog a w K Q := by
 have h1 := h w.heap.size (w.alloc (.cells #[.string s] 9)) rfl (Blk.new w _ _) (fr_alloc (fr_refl w) _)
 obtain ⟨dst, op, ty, pos, after, guard⟩ := o
 simp only at ho
 subst ho
 have hx' : a.tmps[x]?.getD undef = .string s := by simpa using hx
 go_simp
 exact h1
end
theorem text_linesM (q : Int) (R : List (List UInt8)) : textM q R = linesB R ++ endB (chkN R R.length % q) ++ [10] := by
 unfold textM chkM
 cases R with
 | nil => simp [linesB, Lib.join_one]
 | cons r R =>
  rw [List.cons_append, join_lines, ← List.cons_append]
  simp [linesB]
set_option maxRecDepth 100000 in
set_option maxHeartbeats 16000000 in
theorem Print8_any (A N : Option Addr) (wc nc : Nat) (ws : List Wh) (ns : List Note) (w : World) (hf : FindAt w A N ws ns) (hw : ∀ s ∈ ws, MidW s) (hn : ∀ n ∈ ns, MidN n) (hlen : ws.length + ns.length ≤ 499) :
  Calls Tryz.prog 61 #[.agg #[.slice A ws.length wc, .slice N ns.length nc]] w fun e w' => e = .returned (.string ⟨(findText ws ns).toArray⟩) ∧ Below w.heap.size w w' := by
 have hb0 := fr_alloc (fr_refl w) (.cells #[.slice A ws.length wc, .slice N ns.length nc] 25)
 have hX := Blk.new w 25 #[.slice A ws.length wc, .slice N ns.length nc]
 have hR40 := find_rows_len hw hn (by omega)
 obtain ⟨m, hm⟩ : ∃ m, ws.length = m := ⟨_, rfl⟩
 obtain ⟨q, hq⟩ : ∃ q, ns.length = q := ⟨_, rfl⟩
 rw [hm] at hX hb0 hlen ⊢
 rw [hq] at hX hb0 hlen ⊢
 have HM := Lib.hid hm
 have HQ := Lib.hid hq
 have HR40 := Lib.hid hR40
 clear hm hq hR40
 have hcX := fun j => hX.cell j
 have hbI := fr_alloc hb0 (.cells #[.int .i64 (m : Int)] 3)
 have hXI := hX.alloc (.cells #[.int .i64 (m : Int)] 3)
 go_enter Tryz.func61, Tryz.ntmps61
 go_wp2_with fail
 refine (rwords_any (some ⟨w.heap.size + 1, 0, none⟩) 1 1 [(m : Int)] _ (rd_of_blk (xs := [(m : Int)]) (Blk.new_at _ _ (by simp))) (by omega) (by simp; omega)).mono ?_
 rintro e w1 ⟨rfl, hb1⟩
 have hbl := blanks_len [(m : Int)] (by simp; omega)
 have HB := line_blanks 0 [(m : Int)]
 have hr0s := Lib.hid (show Value.string (⟨#[102, 105, 110, 100]⟩ ++ ⟨(blanks [(m : Int)]).toArray⟩) = .string ⟨(lineB (wordG 0) [(m : Int)]).toArray⟩ from by rw [HB]; rfl)
 generalize hr0 : lineB (wordG 0) [(m : Int)] = r0 at *
 have HR0 := Lib.hid hr0
 simp only [List.length_cons, List.length_nil] at hbl
 generalize blanks [(m : Int)] = bl at *
 have hl2 : 4 + bl.length ≤ 9223372036854775807 := by omega
 clear hcX hr0 HB hX
 replace hX := hXI.keep hb1
 have hbw := fr_call hbI hb1
 have hbS := fr_alloc (fr_refl w1) (.cells #[.string ⟨r0.toArray⟩] 9)
 have hS0 : OwnS (w1.alloc (.cells #[.string ⟨r0.toArray⟩] 9)) w1.heap.size 9 1 (.slice (some ⟨w1.heap.size, 0, none⟩) 1 1) (cellRows [r0]) :=
  ⟨⟨rfl, Or.inr ⟨w1.heap.size, 1, _, rfl, Nat.le_refl _, Blk.new w1 _ _, Nat.le_refl _, by unfold maxLen; omega, rfl, rfl⟩⟩, fun r hr => by simp only [cellRows, List.map_cons, List.map_nil, List.mem_singleton] at hr; rw [hr]; rfl⟩
 have hX1 := hX.keep hbS
 have hcX := fun j => hX1.cell j
 go_wp2_with fail
 obtain ⟨w2, hw2⟩ : ∃ w2, w1.alloc (.cells #[.string ⟨r0.toArray⟩] 9) = w2 := ⟨_, rfl⟩
 rw [hr0s.out]
 rw [hw2] at hbS hS0 hX1 hcX ⊢
 clear hw2 hr0s
 have hg1 : w.heap.size ≤ w1.heap.size := hbw.size
 replace hS0 : OwnS w2 w.heap.size 9 1 (.slice (some ⟨w1.heap.size, 0, none⟩) 1 1) (cellRows [r0]) := own_baseS hS0 hg1
 have hb2 := fr_call hbw hbS
 clear hX hbS hb0 hbw hb1 hcX hXI hbI
 go_loopw [3, 4] (fun v i wr => ∃ k : Nat, k ≤ m ∧ i = .int .i64 k ∧ OwnS wr w.heap.size 9 1 v (cellRows (r0 :: (ws.take k).map whRow)) ∧ Below w.heap.size w wr ∧ Blk wr w.heap.size 25 #[.slice A m wc, .slice N q nc]) (fun _ i _ => m - (intOf i).toNat)
 case atStart => exact ⟨0, Nat.zero_le _, rfl, hS0, hb2, hX1⟩
 case round =>
  obtain ⟨k, hk, rfl, hown, hbel, hXr⟩ := hrel
  obtain ⟨w3, hw3⟩ : ∃ w3, w3 = wr := ⟨_, rfl⟩
  subst hw3
  clear hS0 hb2 hX1
  have hcX := fun j => hXr.cell j
  have hxl := hXr.lt
  by_cases hlt : k < m
  ·have hkl : k < ws.length := by rw [HM.out]; exact hlt
   obtain ⟨ad, e0, hab0, hw1, hw2⟩ := whs_at hf.ws hkl
   obtain ⟨ad', rfl, hab, k0, k1⟩ := whs_at (hf.ws.keep hbel) hkl
   cases e0
   have HW1 := Lib.hid hw1
   have HW2 := Lib.hid hw2
   have hbw0 : (ad.add (k * 2)).block < w.heap.size := by rw [block_of_add]; exact hab0
   clear hw1 hw2
   have hms := (hw _ (List.getElem_mem hkl)).xs
   have htk : (ws.take (k + 1)).map whRow = (ws.take k).map whRow ++ [whRow ws[k]] := by rw [List.take_succ_eq_append_getElem hkl, List.map_append]; rfl
   have HTK := Lib.hid htk
   have hrd : whRow ws[k] = lineB (wordG 1) [ws[k].lo, ws[k].hi] := rfl
   generalize whRow ws[k] = rk at *
   generalize ws[k].lo = x at *
   generalize ws[k].hi = y at *
   have HRD := Lib.hid hrd
   clear htk hrd
   have hll : (cellRows (r0 :: (ws.take k).map whRow)).length < 1000000 := by simp [cellRows]; omega
   have hcr : cellRows (r0 :: (ws.take (k + 1)).map whRow) = cellRows (r0 :: (ws.take k).map whRow) ++ [[.string ⟨rk.toArray⟩]] := by rw [HTK.out]; simp [cellRows, strV]
   generalize cellRows (r0 :: (ws.take k).map whRow) = RR at *
   have HCR := Lib.hid hcr
   clear hcr
   have i1 : 0 ≤ (k : Int) := by omega
   have i2 : (k : Int) < (m : Int) := by omega
   have hc00 : w3.cell? ⟨w.heap.size, 0, none⟩ = some (.slice (some ad) m wc) := hcX 0
   have hb2' : (ad.add (k * 2)).block < w3.heap.size := by rw [block_of_add]; exact hab
   have hbz := fr_drew (fr_refl w3)
   have hownz := hown.keep hbz
   have hXz := hXr.keep hbz
   have hbl := blanks_len [x, y] hms
   have hr0s := Lib.hid (show Value.string (⟨#[119, 104, 101, 101, 108]⟩ ++ ⟨(blanks [x, y]).toArray⟩) = .string ⟨rk.toArray⟩ from by rw [HRD.out, line_blanks]; rfl)
   simp only [List.length_cons, List.length_nil] at hbl
   have hl2 : ¬ (9223372036854775807 < 5 + (blanks [x, y]).length) := by omega
   clear hcX
   go_wp2_with fail
   refine wp_region_noPanic ?_
   refine wp_region_held_drew (S := fun W => W.cell? ⟨w.heap.size, 0, none⟩ = some (.slice (some ad) m wc) ∧ W.cell? (ad.add (k * 2)) = some (.int .i64 x) ∧ W.cell? ⟨(ad.add (k * 2)).block, (ad.add (k * 2)).off + 1, none⟩ = some (.int .i64 y)) (by kernel_rfl) ⟨hc00, k0, k1⟩ (fun hHeld => ?_)
   generalize w3.drew = wz at hbz hHeld hownz hXz ⊢
   -- the region, step by step, in whatever order
   refine wpAnyH_take (i := 0) (oi := ⟨some 24, .move (.tmp 3), 144, "ref.go:393", #[], none⟩) (v := ?_) rfl (by kernel_rfl) (by kernel_rfl) (by kernel_rfl) (fun _ _ _ h => h) (Or.inl ⟨by rfl, fun W hSw => ?_⟩) hHeld ?_
   rotate_left
   ·(try dsimp only at hSw); go_simp; (try with_reducible rfl)
   (try simp only [Act.put, List.setIfInBounds_toArray, List.set_cons_zero, List.set_cons_succ])
   refine wpAnyH_take (i := 1) (oi := ⟨some 25, .fieldAddr 25 (.tmp 1) 0, 0, "ref.go:393", #[], none⟩) (v := ?_) rfl (by kernel_rfl) (by kernel_rfl) (by kernel_rfl) (fun _ _ _ h => h) (Or.inl ⟨by rfl, fun W hSw => ?_⟩) hHeld ?_
   rotate_left
   ·(try dsimp only at hSw); go_simp; (try with_reducible rfl)
   (try simp only [Act.put, List.setIfInBounds_toArray, List.set_cons_zero, List.set_cons_succ])
   refine wpAnyH_take (i := 2) (oi := ⟨some 26, .load 22 (.tmp 25), 22, "ref.go:393", #[⟨1, .data⟩], none⟩) (v := ?_) rfl (by kernel_rfl) (by kernel_rfl) (by kernel_rfl) (fun _ _ _ h => h) (Or.inl ⟨by rfl, fun W hSw => ?_⟩) hHeld ?_
   rotate_left
   ·(try dsimp only at hSw); go_simp; (try with_reducible rfl)
   (try simp only [Act.put, List.setIfInBounds_toArray, List.set_cons_zero, List.set_cons_succ])
   refine wpAnyH_take (i := 3) (oi := ⟨some 27, .move (.tmp 4), 3, "ref.go:393", #[], none⟩) (v := ?_) rfl (by kernel_rfl) (by kernel_rfl) (by kernel_rfl) (fun _ _ _ h => h) (Or.inl ⟨by rfl, fun W hSw => ?_⟩) hHeld ?_
   rotate_left
   ·(try dsimp only at hSw); go_simp; (try with_reducible rfl)
   (try simp only [Act.put, List.setIfInBounds_toArray, List.set_cons_zero, List.set_cons_succ])
   refine wpAnyH_take (i := 4) (oi := ⟨some 28, .indexAddr 22 (.tmp 26) (.tmp 27), 0, "ref.go:393", #[⟨2, .data⟩, ⟨3, .data⟩], none⟩) (v := ?_) rfl (by kernel_rfl) (by kernel_rfl) (by kernel_rfl) (fun _ _ _ h => h) (Or.inl ⟨by rfl, fun W hSw => ?_⟩) hHeld ?_
   rotate_left
   ·(try dsimp only at hSw); go_simp; (try with_reducible rfl)
   (try simp only [Act.put, List.setIfInBounds_toArray, List.set_cons_zero, List.set_cons_succ])
   refine wpAnyH_take (i := 5) (oi := ⟨some 29, .fieldAddr 47 (.tmp 28) 0, 0, "ref.go:393", #[⟨4, .data⟩], none⟩) (v := ?_) rfl (by kernel_rfl) (by kernel_rfl) (by kernel_rfl) (fun _ _ _ h => h) (Or.inl ⟨by rfl, fun W hSw => ?_⟩) hHeld ?_
   rotate_left
   ·(try dsimp only at hSw); go_simp; (try with_reducible rfl)
   (try simp only [Act.put, List.setIfInBounds_toArray, List.set_cons_zero, List.set_cons_succ])
   refine wpAnyH_take (i := 6) (oi := ⟨some 30, .load 3 (.tmp 29), 3, "ref.go:393", #[⟨5, .data⟩], none⟩) (v := ?_) rfl (by kernel_rfl) (by kernel_rfl) (by kernel_rfl) (fun _ _ _ h => h) (Or.inl ⟨by rfl, fun W hSw => ?_⟩) hHeld ?_
   rotate_left
   ·(try dsimp only at hSw); go_simp; (try with_reducible rfl)
   (try simp only [Act.put, List.setIfInBounds_toArray, List.set_cons_zero, List.set_cons_succ])
   refine wpAnyH_take (i := 7) (oi := ⟨some 31, .fieldAddr 25 (.tmp 1) 0, 0, "ref.go:393", #[], none⟩) (v := ?_) rfl (by kernel_rfl) (by kernel_rfl) (by kernel_rfl) (fun _ _ _ h => h) (Or.inl ⟨by rfl, fun W hSw => ?_⟩) hHeld ?_
   rotate_left
   ·(try dsimp only at hSw); go_simp; (try with_reducible rfl)
   (try simp only [Act.put, List.setIfInBounds_toArray, List.set_cons_zero, List.set_cons_succ])
   refine wpAnyH_take (i := 8) (oi := ⟨some 32, .load 22 (.tmp 31), 22, "ref.go:393", #[⟨7, .data⟩], none⟩) (v := ?_) rfl (by kernel_rfl) (by kernel_rfl) (by kernel_rfl) (fun _ _ _ h => h) (Or.inl ⟨by rfl, fun W hSw => ?_⟩) hHeld ?_
   rotate_left
   ·(try dsimp only at hSw); go_simp; (try with_reducible rfl)
   (try simp only [Act.put, List.setIfInBounds_toArray, List.set_cons_zero, List.set_cons_succ])
   refine wpAnyH_take (i := 9) (oi := ⟨some 33, .move (.tmp 4), 3, "ref.go:393", #[], none⟩) (v := ?_) rfl (by kernel_rfl) (by kernel_rfl) (by kernel_rfl) (fun _ _ _ h => h) (Or.inl ⟨by rfl, fun W hSw => ?_⟩) hHeld ?_
   rotate_left
   ·(try dsimp only at hSw); go_simp; (try with_reducible rfl)
   (try simp only [Act.put, List.setIfInBounds_toArray, List.set_cons_zero, List.set_cons_succ])
   refine wpAnyH_take (i := 10) (oi := ⟨some 34, .indexAddr 22 (.tmp 32) (.tmp 33), 0, "ref.go:393", #[⟨8, .data⟩, ⟨9, .data⟩], none⟩) (v := ?_) rfl (by kernel_rfl) (by kernel_rfl) (by kernel_rfl) (fun _ _ _ h => h) (Or.inl ⟨by rfl, fun W hSw => ?_⟩) hHeld ?_
   rotate_left
   ·(try dsimp only at hSw); go_simp; (try with_reducible rfl)
   (try simp only [Act.put, List.setIfInBounds_toArray, List.set_cons_zero, List.set_cons_succ])
   refine wpAnyH_take (i := 11) (oi := ⟨some 35, .fieldAddr 47 (.tmp 34) 1, 0, "ref.go:393", #[⟨10, .data⟩], none⟩) (v := ?_) rfl (by kernel_rfl) (by kernel_rfl) (by kernel_rfl) (fun _ _ _ h => h) (Or.inl ⟨by rfl, fun W hSw => ?_⟩) hHeld ?_
   rotate_left
   ·(try dsimp only at hSw); go_simp; (try with_reducible rfl)
   (try simp only [Act.put, List.setIfInBounds_toArray, List.set_cons_zero, List.set_cons_succ])
   refine wpAnyH_take (i := 12) (oi := ⟨some 36, .load 3 (.tmp 35), 3, "ref.go:393", #[⟨11, .data⟩], none⟩) (v := ?_) rfl (by kernel_rfl) (by kernel_rfl) (by kernel_rfl) (fun _ _ _ h => h) (Or.inl ⟨by rfl, fun W hSw => ?_⟩) hHeld ?_
   rotate_left
   ·(try dsimp only at hSw); go_simp; (try with_reducible rfl)
   (try simp only [Act.put, List.setIfInBounds_toArray, List.set_cons_zero, List.set_cons_succ])
   refine wpAnyH_ready (rs := [13]) (by kernel_rfl) (by simp) ?_
   refine (AllReadyH.cons (o := ⟨some 37, .buildSlice 34 2 #[(0, .tmp 30), (1, .tmp 36)], 34, "ref.go:393", #[⟨6, .data⟩, ⟨12, .data⟩], none⟩) rfl (fun K hK => ?_) AllReadyH.nil)
   rw [if_pos (by rfl)]
   refine wp_build2 rfl rfl rfl ?_
   intro g wz hgz hG hb1
   replace hbz := fr_call hbz hb1
   replace hownz := hownz.keep hb1
   replace hXz := hXz.keep hb1
   refine hK.out _ _ (⟨(hbz.cell (p := ⟨w.heap.size, 0, none⟩) hxl).trans hc00, (hbz.cell (p := ad.add (k * 2)) hb2').trans k0, (hbz.cell (p := ⟨(ad.add (k * 2)).block, (ad.add (k * 2)).off + 1, none⟩) hb2').trans k1⟩) (fun hHeld => ?_)
   clear hK K
   (try simp only [Act.put, List.setIfInBounds_toArray, List.set_cons_zero, List.set_cons_succ])
   refine wpAnyH_ready (rs := [14]) (by kernel_rfl) (by simp) ?_
   refine (AllReadyH.cons (o := ⟨some 38, .call { callee := .value (.func 119), args := #[.tmp 37], argTypes := #[34] }, 9, "ref.go:393", #[⟨13, .data⟩], none⟩) rfl (fun K hK => ?_) AllReadyH.nil)
   rw [if_pos (by rfl)]
   go_simp
   refine (rwords_any (some ⟨g, 0, none⟩) 2 2 [x, y] _ (rd_of_blk (xs := [x, y]) hG) (by omega) hms).mono ?_
   rintro e' wz2 ⟨rfl, hb1⟩
   replace hbz := fr_call hbz hb1
   replace hownz := hownz.keep hb1
   replace hXz := hXz.keep hb1
   refine hK.out _ _ (⟨(hbz.cell (p := ⟨w.heap.size, 0, none⟩) hxl).trans hc00, (hbz.cell (p := ad.add (k * 2)) hb2').trans k0, (hbz.cell (p := ⟨(ad.add (k * 2)).block, (ad.add (k * 2)).off + 1, none⟩) hb2').trans k1⟩) (fun hHeld => ?_)
   clear hK K
   (try simp only [Act.put, List.setIfInBounds_toArray, List.set_cons_zero, List.set_cons_succ])
   refine wpAnyH_take (i := 15) (oi := ⟨some 39, .binOp .add 9 (.const (.string { data := #[119, 104, 101, 101, 108] })) (.tmp 38) 9, 9, "ref.go:393", #[⟨14, .data⟩], none⟩) (v := ?_) rfl (by kernel_rfl) (by kernel_rfl) (by kernel_rfl) (fun _ _ _ h => h) (Or.inl ⟨by rfl, fun W hSw => ?_⟩) hHeld ?_
   rotate_left
   ·(try dsimp only at hSw); go_simp; (try with_reducible rfl)
   (try simp only [Act.put, List.setIfInBounds_toArray, List.set_cons_zero, List.set_cons_succ])
   refine wpAnyH_ready (rs := [16]) (by kernel_rfl) (by simp) ?_
   refine (AllReadyH.cons (o := ⟨some 40, .buildSlice 144 1 #[(0, .tmp 39)], 144, "ref.go:393", #[⟨15, .data⟩], none⟩) rfl (fun K hK => ?_) AllReadyH.nil)
   rw [if_pos (by rfl)]
   refine wp_build1s rfl rfl ?_
   intro g2 wz3 hgz2 hG2 hb1
   replace hbz := fr_call hbz hb1
   replace hownz := hownz.keep hb1
   replace hXz := hXz.keep hb1
   refine hK.out _ _ (⟨(hbz.cell (p := ⟨w.heap.size, 0, none⟩) hxl).trans hc00, (hbz.cell (p := ad.add (k * 2)) hb2').trans k0, (hbz.cell (p := ⟨(ad.add (k * 2)).block, (ad.add (k * 2)).off + 1, none⟩) hb2').trans k1⟩) (fun hHeld => ?_)
   clear hK K
   (try simp only [Act.put, List.setIfInBounds_toArray, List.set_cons_zero, List.set_cons_succ])
   refine wpAnyH_ready (rs := [17]) (by kernel_rfl) (by simp) ?_
   refine (AllReadyH.cons (o := ⟨some 41, .call { callee := .builtin .append, args := #[.tmp 24, .tmp 40], argTypes := #[144, 144] }, 144, "ref.go:393", #[⟨0, .data⟩, ⟨16, .data⟩, ⟨14, .chain⟩], none⟩) rfl (fun K hK => ?_) AllReadyH.nil)
   rw [if_pos (by rfl)]
   rw [hr0s.out] at hG2
   refine wp_app_row (.tmp 24) (.tmp 40) rfl Tryz.underlying144 info_string rfl (by decide) (by decide) w.heap.size _ RR rfl hownz g2 rfl (r := [.string ⟨rk.toArray⟩]) hG2 rfl (by intro u hu; rw [List.mem_singleton.1 hu]; rfl) hll (Nat.le_trans hbel.size hbz.size) ?_
   intro A1 c1 wz4 hown5 hg5
   have hX5 := hXz.grown hg5 (ownS_not hownz hXz (by decide))
   have hbel5 := (fr_call hbel hbz).grown hg5 (Nat.le_trans hbel.size hbz.size) hownz.ge
   refine hK.out _ _ (⟨hX5.cell 0, (hbel5.cell (p := ad.add (k * 2)) hbw0).trans HW1.out, (hbel5.cell (p := ⟨(ad.add (k * 2)).block, (ad.add (k * 2)).off + 1, none⟩) hbw0).trans HW2.out⟩) (fun hHeld => ?_)
   clear hK K
   (try simp only [Act.put, List.setIfInBounds_toArray, List.set_cons_zero, List.set_cons_succ])
   refine wpAnyH_take (i := 18) (oi := ⟨some 3, .assign (.tmp 41), 144, "ref.go:393", #[⟨17, .data⟩, ⟨17, .chain⟩, ⟨0, .phase⟩, ⟨1, .phase⟩, ⟨2, .phase⟩, ⟨3, .phase⟩, ⟨4, .phase⟩, ⟨5, .phase⟩, ⟨6, .phase⟩, ⟨7, .phase⟩, ⟨8, .phase⟩, ⟨9, .phase⟩, ⟨10, .phase⟩, ⟨11, .phase⟩, ⟨12, .phase⟩, ⟨13, .phase⟩, ⟨14, .phase⟩, ⟨15, .phase⟩, ⟨16, .phase⟩, ⟨17, .phase⟩], none⟩) (v := ?_) rfl (by kernel_rfl) (by kernel_rfl) (by kernel_rfl) (fun _ _ _ h => h) (Or.inl ⟨by rfl, fun W hSw => ?_⟩) hHeld ?_
   rotate_left
   ·(try dsimp only at hSw); go_simp; (try with_reducible rfl)
   (try simp only [Act.put, List.setIfInBounds_toArray, List.set_cons_zero, List.set_cons_succ])
   refine wpAnyH_done (by kernel_rfl) ?_ _
   refine NoPanic.normal ?_
   go_wp2_with fail
   refine ⟨⟨k + 1, hlt, rfl, by rw [HCR.out]; exact hown5, hbel5, hX5⟩, ?_⟩
   simp [intOf]; omega
  ·obtain rfl : k = m := by omega
   have htk : ws.take k = ws := List.take_of_length_le (by rw [HM.out]; exact Nat.le_refl _)
   rw [htk] at hown
   have hrows : findRows ws ns = (r0 :: ws.map whRow) ++ ns.map noteRow := by unfold findRows; rw [HM.out, HR0.out]; rfl
   have HRW := Lib.hid hrows
   have hrl : (r0 :: ws.map whRow).length = k + 1 := by simp [HM.out]
   clear htk hrows
   generalize r0 :: ws.map whRow = R1 at *
   have HRL := Lib.hid hrl
   clear hrl
   go_wp2_with fail
   clear hcX
   go_loopw [3, 5] (fun v i wr => ∃ p : Nat, p ≤ q ∧ i = .int .i64 p ∧ OwnS wr w.heap.size 9 1 v (cellRows (R1 ++ (ns.take p).map noteRow)) ∧ Below w.heap.size w wr ∧ Blk wr w.heap.size 25 #[.slice A k wc, .slice N q nc]) (fun _ i _ => q - (intOf i).toNat)
   case atStart => exact ⟨0, Nat.zero_le _, rfl, by simpa using hown, hbel, hXr⟩
   case round =>
    clear hxl
    obtain ⟨p, hp, rfl, hown, hbel, hXr⟩ := hrel
    obtain ⟨w4, hw4⟩ : ∃ w4, w4 = wr := ⟨_, rfl⟩
    subst hw4
    have hcX := fun j => hXr.cell j
    have hxl := hXr.lt
    by_cases hltp : p < q
    ·have hkl : p < ns.length := by rw [HQ.out]; exact hltp
     obtain ⟨ad, rfl, hab, k0, k1, k2, k3, k4, k5, k6, k7, k8⟩ := notes_at (hf.ns.keep hbel) hkl
     have hms := hn _ (List.getElem_mem hkl)
     have htk : (ns.take (p + 1)).map noteRow = (ns.take p).map noteRow ++ [noteRow ns[p]] := by rw [List.take_succ_eq_append_getElem hkl, List.map_append]; rfl
     have HTK := Lib.hid htk
     have hrow := fun W => rrow8_any ns[p] W hms
     unfold Note.cells at hrow
     clear htk hms
     generalize noteRow ns[p] = rk at *
     generalize ns[p] = nt at *
     obtain ⟨nk, na, nb, nlo, nhi, nln, nld, nmn, nmd⟩ := nt
     simp only at hrow k0 k1 k2 k3 k4 k5 k6 k7 k8
     have hll : (cellRows (R1 ++ (ns.take p).map noteRow)).length < 1000000 := by have := HRL.out; simp [cellRows]; omega
     have hcr : cellRows (R1 ++ (ns.take (p + 1)).map noteRow) = cellRows (R1 ++ (ns.take p).map noteRow) ++ [[.string ⟨rk.toArray⟩]] := by rw [HTK.out]; simp [cellRows, strV]
     generalize cellRows (R1 ++ (ns.take p).map noteRow) = RR at *
     have HCR := Lib.hid hcr
     clear hcr
     go_wp2_with fail
     refine (hrow _).mono ?_
     rintro e w5 ⟨rfl, hb45⟩
     have hown4 := hown.keep hb45
     have hbel4 := fr_call hbel hb45
     have hX4 := hXr.keep hb45
     clear hrow k0 k1 k2 k3 k4 k5 k6 k7 k8
     go_wp2_with (at_builtin; refine app_row rfl (.tmp 49) (.tmp 56) rfl Tryz.underlying144 info_string rfl (by decide) (by decide) w.heap.size _ _ rfl rfl hown4 rfl (by simp [Value.oneCell']) hll hbel4.size ?_; intro B0 cap0 wy hown5 hg5)
     have hX5 := (hX4.alloc (.cells #[.string ⟨rk.toArray⟩] 9)).grown hg5 (ownS_not hown4 hX4 (by decide))
     have hbel5 := (fr_alloc hbel4 _).grown hg5 (fr_alloc hbel4 (.cells #[.string ⟨rk.toArray⟩] 9)).size hown4.ge
     go_wp2_with fail
     refine ⟨⟨p + 1, hltp, rfl, by rw [HCR.out]; exact hown5, hbel5, hX5⟩, ?_⟩
     simp [intOf]; omega
    ·obtain rfl : p = q := by omega
     have htk : ns.take p = ns := List.take_of_length_le (by rw [HQ.out]; exact Nat.le_refl _)
     rw [htk, ← HRW.out] at hown
     have hRRl : (findRows ws ns).length ≤ 500 := by rw [HRW.out, List.length_append, HRL.out, List.length_map, HQ.out]; omega
     have hR40 := HR40.out
     clear htk
     generalize hRR : findRows ws ns = RR at *
     have HRR := Lib.hid hRR
     clear hRR
     have hCN := fun i h => chkN_bounds RR hR40 i h
     obtain ⟨B, b, rfl⟩ := hown.form
     have hrdS := hown.rd
     have hRl : (cellRows RR).length = RR.length := by unfold cellRows; rw [List.length_map]
     rw [hRl] at hown
     rw [hRl]
     clear hRl
     generalize hnr : RR.length = nr at *
     have HNR := Lib.hid hnr
     clear hnr
     have hLL : ∀ j, j ≤ nr → (linesB (RR.take j)).length ≤ 4001 * j := fun j hj => by
      have := linesB_len (RR.take j) (fun r h => hR40 r (List.mem_of_mem_take h))
      rw [List.length_take] at this
      exact Nat.le_trans this (Nat.mul_le_mul (Nat.le_refl _) (Nat.min_le_left _ _))
     have HLL := Lib.hid hLL
     clear hLL
     go_wp2_with fail
     go_loop [6, 7, 8] (fun sv v i => ∃ j : Nat, j ≤ nr ∧ i = .int .i64 j ∧ v = .int .i64 (chkN RR j) ∧ sv = .string ⟨(linesB (RR.take j)).toArray⟩) (fun _ _ i => nr - (intOf i).toNat)
     case atStart => exact ⟨0, Nat.zero_le _, rfl, rfl, by simp [linesB]⟩
     case round =>
      obtain ⟨j, hj, rfl, rfl, rfl⟩ := hrel
      have hlj := HLL.out j hj
      by_cases hltj : j < nr
      ·have hjl : j < RR.length := by have := HNR.out; omega
       have hrowj : (cellRows RR)[j]? = some [strV RR[j]] := by simp [cellRows, hjl]
       obtain ⟨ad3, rfl, hab3, _, hc3⟩ := hrdS.at_ hrowj
       have hcs : w4.cell? (ad3.add (j * 1)) = some (strV RR[j]) := hc3 0 _ rfl
       rw [Nat.mul_one] at hcs
       have hrl40 := hR40 RR[j] (List.getElem_mem hjl)
       have hgj : RR[j]?.getD [] = RR[j] := by simp [hjl]
       have hb0 := hCN j (by omega) (by omega)
       have hst : chkN RR (j + 1) = chkN RR j + chk1 j RR[j] RR[j].length := by
        show chkN RR j + chk1 j (RR[j]?.getD []) (RR[j]?.getD []).length = _
        rw [hgj]
       have hsl : linesB (RR.take (j + 1)) = linesB (RR.take j) ++ RR[j] ++ [10] := by
        rw [List.take_succ_eq_append_getElem hjl, linesB_snoc]
       have HST := Lib.hid hst
       have HSL := Lib.hid hsl
       clear hst hgj hc3 hrowj hsl
       generalize RR[j] = r at *
       generalize linesB (RR.take j) = lj at *
       unfold strV at hcs
       have hq2 : lj.length + r.length ≤ 9223372036854775807 := by omega
       have hq3 : lj.length + r.length + 1 ≤ 9223372036854775807 := by omega
       go_wp2_with fail
       go_loop [7, 9] (fun v i => ∃ p : Nat, p ≤ r.length ∧ i = .int .i64 p ∧ v = .int .i64 (chkN RR j + chk1 j r p)) (fun _ i => r.length - (intOf i).toNat)
       case atStart => exact ⟨0, Nat.zero_le _, rfl, by simp [chk1]⟩
       case round =>
        obtain ⟨p, hp, rfl, rfl⟩ := hrel
        by_cases hltp : p < r.length
        ·have hgp : r[p]?.getD 0 = r[p] := by simp [hltp]
         have hcb := chk1_bounds j r (by omega) p (by omega)
         have hst : chk1 j r (p + 1) = chk1 j r p + ((r[p].toNat : Nat) : Int) * ((p : Int) + 1) * ((j : Int) + 1) := by
          show chk1 j r p + (((r[p]?.getD 0).toNat : Nat) : Int) * ((p : Int) + 1) * ((j : Int) + 1) = _
          rw [hgp]
         have HSP := Lib.hid hst
         clear hst hgp
         go_wp2_with fail
         have hcw := chk_wrap (chkN RR j) (chk1 j r p) r[p] j p (by omega) (by omega) (by omega) (by omega)
         refine ⟨⟨p + 1, hltp, rfl, ?_⟩, ?_⟩
         ·show Value.int .i64 (wrap64 (chkN RR j + chk1 j r p + wrap64 (wrap64 (wrap64 ((r[p].toNat : Nat) : Int) * ((p : Int) + 1)) * ((j : Int) + 1)))) = _
          rw [hcw, HSP.out, Int.add_assoc]
         ·simp [intOf]; omega
        ·obtain rfl : p = r.length := by omega
         go_wp2_with fail
         refine ⟨⟨j + 1, hltj, rfl, by rw [HST.out], ?_⟩, ?_⟩
         ·rw [HSL.out]
          congr 1
         ·simp [intOf]; omega
      ·obtain rfl : j = nr := by omega
       have hb0 := hCN j (by omega) (by omega)
       have t1 : (chkN RR j).tmod 149 = chkN RR j % 149 := Int.tmod_eq_emod_of_nonneg (by omega)
       have t2 : IntKind.i64.wrap (chkN RR j % 149) = chkN RR j % 149 := IntWalk.i64_in _ (by omega)
       obtain ⟨ct, hct⟩ : ∃ ct : Int, chkN RR j % 149 = ct := ⟨_, rfl⟩
       have hc1 : 0 ≤ ct := by omega
       have hc2 : ct < 149 := by omega
       have t3 : ct.tdiv 100 = ct / 100 := Int.tdiv_eq_ediv_of_nonneg hc1
       have t4 : ct.tdiv 10 = ct / 10 := Int.tdiv_eq_ediv_of_nonneg hc1
       have t5 : ct.tmod 10 = ct % 10 := Int.tmod_eq_emod_of_nonneg hc1
       have t6 : (ct / 10).tmod 10 = ct / 10 % 10 := Int.tmod_eq_emod_of_nonneg (by omega)
       have t7 : IntKind.i64.wrap (ct / 100) = ct / 100 := IntWalk.i64_in _ (by omega)
       have t8 : IntKind.i64.wrap (ct / 10) = ct / 10 := IntWalk.i64_in _ (by omega)
       have t9 : IntKind.i64.wrap (ct / 10 % 10) = ct / 10 % 10 := IntWalk.i64_in _ (by omega)
       have t10 : IntKind.i64.wrap (ct % 10) = ct % 10 := IntWalk.i64_in _ (by omega)
       have l1 := itoa_len (ct / 100) (by omega) (by omega)
       have l2 := itoa_len (ct / 10 % 10) (by omega) (by omega)
       have l3 := itoa_len (ct % 10) (by omega) (by omega)
       rw [hct] at t1 t2
       have HCT := Lib.hid hct
       clear hct
       have hRE : textM 149 RR = linesB RR ++ ([101, 110, 100, 32] ++ Lib.itoa (ct / 100) ++ Lib.itoa (ct / 10 % 10) ++ Lib.itoa (ct % 10)) ++ [10] := by
        rw [text_linesM, HNR.out, HCT.out]; rfl
       have hTR : RR.take j = RR := List.take_of_length_le (by have := HNR.out; omega)
       rw [hTR] at hlj ⊢
       generalize linesB RR = lj at *
       have HRE := Lib.hid hRE
       clear hRE hTR
       have hq4 : lj.length + 4 ≤ 9223372036854775807 := by omega
       go_wp2_with fail
       refine (rDecimal_int (ct / 100) _ (by omega) (by omega)).mono ?_
       rintro e' w7 ⟨rfl, hb7⟩
       generalize hA1 : Lib.itoa (ct / 100) = A1 at *
       have HA1 := Lib.hid hA1
       clear hA1
       have hq5 : lj.length + 4 + A1.length ≤ 9223372036854775807 := by omega
       go_wp2_with fail
       refine (rDecimal_int (ct / 10 % 10) _ (by omega) (by omega)).mono ?_
       rintro e' w8 ⟨rfl, hb8⟩
       generalize hA2 : Lib.itoa (ct / 10 % 10) = A2 at *
       have HA2 := Lib.hid hA2
       clear hA2
       have hq6 : lj.length + 4 + A1.length + A2.length ≤ 9223372036854775807 := by omega
       go_wp2_with fail
       refine (rDecimal_int (ct % 10) _ (by omega) (by omega)).mono ?_
       rintro e' w9 ⟨rfl, hb9⟩
       generalize hA3 : Lib.itoa (ct % 10) = A3 at *
       have HA3 := Lib.hid hA3
       clear hA3
       have hq7 : lj.length + 4 + A1.length + A2.length + A3.length ≤ 9223372036854775807 := by omega
       have hq8 : lj.length + 4 + A1.length + A2.length + A3.length + 1 ≤ 9223372036854775807 := by omega
       go_wp2_with fail
       go_ret
       unfold findText; rw [HRR.out, HRE.out]
       have hS : Value.string ({ data := lj.toArray } ++ { data := #[101, 110, 100, 32] } ++ { data := A1.toArray } ++ { data := A2.toArray } ++ { data := A3.toArray } ++ { data := #[10] }) = Value.string { data := (lj ++ ([101, 110, 100, 32] ++ A1 ++ A2 ++ A3) ++ [10]).toArray } := by
        congr 1
        apply ByteArray.ext
        simp [ByteArray.data_append]
       exact ⟨congrArg Ending.returned hS, fr_call (fr_call (fr_call hbel hb7) hb8) hb9⟩
end Go.Proofs.YthenlopnlaiodaaGreatDoor
end

section
namespace Go.Proofs.YthenlopnlaiodaaGreatDoor

theorem index_eq (c : UInt8) (s : List UInt8) : Lib.index (c :: s) [c] = 0 := by rw [Lib.index]; simp [List.isPrefixOf]
theorem index_ne {b c : UInt8} (s : List UInt8) (h : b ≠ c) : Lib.index (b :: s) [c] = if Lib.index s [c] == -1 then -1 else Lib.index s [c] + 1 := by
 have hp : ([c] : List UInt8).isPrefixOf (b :: s) = false := by simp [List.isPrefixOf, Ne.symm h]
 rw [Lib.index, hp]
 simp
theorem splitK_pieces (c : UInt8) : ∀ (s : List UInt8), Lib.splitK [c] 0 (s.count c) s = pieces c s
 | [] => by simp [Lib.splitK, pieces]
 | b :: s => by
  have ih := splitK_pieces c s
  by_cases h : b = c
  ·subst h
   have hc : (b :: s).count b = s.count b + 1 := by simp
   rw [hc]
   unfold Lib.splitK
   rw [index_eq]
   simp only [pieces, if_true]
   simp
   exact ih
  ·have hc : (b :: s).count c = s.count c := List.count_cons_of_ne (by simpa using h)
   rw [hc]
   simp only [pieces]
   rw [if_neg h]
   cases hk : s.count c with
   | zero =>
    rw [hk] at ih
    unfold Lib.splitK at ih ⊢
    rw [← ih]
    rfl
   | succ k =>
    rw [hk] at ih
    unfold Lib.splitK at ih ⊢
    rw [index_ne s h]
    by_cases hm : Lib.index s [c] = -1
    ·rw [if_pos (beq_iff_eq.2 hm)] at ih
     rw [if_pos (beq_iff_eq.2 hm), if_pos (by decide), ← ih]
     rfl
    ·have hge := Lib.index_ge s [c]
     have hm' : ¬ (Lib.index s [c] == -1) = true := fun e => hm (beq_iff_eq.1 e)
     have hm2 : ¬ (Lib.index s [c] + 1 == -1) = true := fun e => by have := beq_iff_eq.1 e; omega
     rw [if_neg hm'] at ih
     rw [if_neg hm', if_neg hm2, ← ih]
     have e : (Lib.index s [c] + 1).toNat = (Lib.index s [c]).toNat + 1 := by omega
     rw [e]
     simp
theorem split_pieces (c : UInt8) (l : List UInt8) : (Lib.splitB ⟨#[c]⟩ 0 (Lib.countB ⟨l.toArray⟩ ⟨#[c]⟩) ⟨l.toArray⟩).map (·.data.toList) = pieces c l := by
 rw [Lib.splitB_data]
 have h1 : Lib.countB ⟨l.toArray⟩ ⟨#[c]⟩ = l.count c := by
  show Lib.count l [c] = _
  exact Lib.count_one c l
 rw [h1]
 exact splitK_pieces c l
theorem split_count (c : UInt8) (l : List UInt8) : Lib.countB ⟨l.toArray⟩ ⟨#[c]⟩ + 1 = (pieces c l).length := by
 rw [← split_pieces, List.length_map]
 exact (Lib.splitB_all ⟨#[c]⟩ (Nat.le_refl 1) 0 _ ⟨l.toArray⟩ rfl).symm
theorem bytes_back (x : ByteArray) : (⟨x.data.toList.toArray⟩ : ByteArray) = x := by cases x; simp
theorem split_cells (c : UInt8) (l : List UInt8) : (Lib.splitB ⟨#[c]⟩ 0 (Lib.countB ⟨l.toArray⟩ ⟨#[c]⟩) ⟨l.toArray⟩).map Value.string = (pieces c l).map (fun p => Value.string ⟨p.toArray⟩) := by
 rw [← split_pieces, List.map_map]
 refine List.map_congr_left fun x _ => ?_
 simp
theorem cut_head (c : UInt8) : ∀ l : List UInt8, (Lib.cut l [c]).1 = (pieces c l).headD []
 | [] => by simp [Lib.cut, Lib.index, pieces]
 | b :: s => by
  have ih := cut_head c s
  unfold Lib.cut at ih ⊢
  by_cases h : b = c
  ·subst h
   rw [index_eq]
   simp [pieces]
  ·rw [index_ne s h]
   simp only [pieces]
   rw [if_neg h]
   have hge := Lib.index_ge s [c]
   by_cases hm : Lib.index s [c] = -1
   ·rw [if_neg (by omega)] at ih
    rw [if_pos (beq_iff_eq.2 hm), if_neg (by decide)]
    simp only [List.headD_cons]
    rw [← ih]
   ·have hm' : ¬ (Lib.index s [c] == -1) = true := fun e => hm (beq_iff_eq.1 e)
    rw [if_pos (by omega)] at ih
    rw [if_neg hm', if_pos (by omega)]
    simp only [List.headD_cons]
    rw [← ih]
    have e : (Lib.index s [c] + 1).toNat = (Lib.index s [c]).toNat + 1 := by omega
    rw [e]
    rfl
end Go.Proofs.YthenlopnlaiodaaGreatDoor
end

section
namespace Go.Proofs.YthenlopnlaiodaaGreatDoor
open Go.RowKit Go.Shelf

theorem Own.cap {w : World} {base : Nat} {A : Option Addr} {n c : Nat} {xs : List Int} (h : Own w base (.slice A n c) xs) : n ≤ c := by
 rcases h.2 with ⟨h0, _⟩ | ⟨g, cap, cur, hv, _, _, hle, _⟩
 ·injection h0 with _ h1 h2
  omega
 ·injection hv with _ h1 h2
  omega

/-- the longest string that the library's search takes in one: some number -/
def MaxP (w : World) : Prop := ∃ m : Int, w.cell? ⟨0, 0, none⟩ = some (.int .i64 m)
theorem MaxP.keep {w w' : World} (h : MaxP w) (hb : Below w.heap.size w w') : MaxP w' := by
 obtain ⟨m, hm⟩ := h
 exact ⟨m, (hb.cell (World.block_lt_of_cell? _ _ hm)).trans hm⟩
/-- what gave up -/
def Gave (w : World) (e : Ending) (w' : World) : Prop := ∃ s, e = .panicked (noneV s) ∧ Below w.heap.size w w'
/-- a slice of strings -/
def RdT (w : World) (A : Option Addr) (n : Nat) (ps : List (List UInt8)) : Prop := ps.length = n ∧ ∀ j : Nat, ∀ p, ps[j]? = some p → ∃ ad, A = some ad ∧ ad.block < w.heap.size ∧ w.cell? (ad.add j) = some (strV p)
theorem RdT.keep {w w' : World} {A : Option Addr} {n : Nat} {ps : List (List UInt8)} (h : RdT w A n ps) (hb : Below w.heap.size w w') : RdT w' A n ps :=
 ⟨h.1, fun j p hp => by
  obtain ⟨ad, e, hlt, hc⟩ := h.2 j p hp
  exact ⟨ad, e, Nat.lt_of_lt_of_le hlt hb.size, (hb.cell (by rw [block_of_add]; exact hlt)).trans hc⟩⟩

set_option maxHeartbeats 1000000 in
theorem sure_yes (s : ByteArray) (w : World) : Calls Tryz.prog 146 #[.bool true, .string s] w fun e w' => e = .returned (.tuple #[]) ∧ w = w' := by
 go_enter Tryz.func146, Tryz.ntmps146
 go_wp2_with fail
 go_end0
 exact ⟨rfl, rfl⟩
set_option maxHeartbeats 1000000 in
theorem sure_no (s : ByteArray) (w : World) : Calls Tryz.prog 146 #[.bool false, .string s] w fun e w' => e = .panicked (noneV s) ∧ w = w' := by
 unfold noneV
 go_enter Tryz.func146, Tryz.ntmps146
 go_wp2_with fail
 exact ⟨rfl, rfl, rfl⟩

theorem split_is (c : UInt8) (l : List UInt8) (w : World) (hl : l.length ≤ 1000000) (hM : MaxP w) :
  Calls Tryz.prog 145 #[.string ⟨l.toArray⟩, .string ⟨#[c]⟩] w fun e w' => e = .returned (.slice (some ⟨w.heap.size, 0, none⟩) (pieces c l).length (pieces c l).length) ∧
   (∀ j p, (pieces c l)[j]? = some p → w'.cell? ⟨w.heap.size, j, none⟩ = some (strV p)) ∧ w'.heap.size = w.heap.size + 1 ∧ Below w.heap.size w w' := by
 obtain ⟨m, hm⟩ := hM
 have hs : (⟨l.toArray⟩ : ByteArray).size = l.length := by show l.toArray.size = _; simp
 refine (Tryz.strings_Split ⟨l.toArray⟩ ⟨#[c]⟩ m w (by rw [hs]; omega) hm (Nat.le_refl 1)).mono ?_
 rintro e w' ⟨rfl, rfl⟩
 rw [split_count]
 refine ⟨rfl, fun j p hp => ?_, by simp, fr_alloc (fr_refl w) _⟩
 rw [cell_new, split_cells, List.getElem?_toArray, List.getElem?_map, hp]
 rfl

/-- what told returns, or that it gives up -/
def ToldPost (l : List UInt8) (w : World) (e : Ending) (w' : World) : Prop :=
 (∃ xs A c, toldB l = some xs ∧ e = .returned (.slice A xs.length c) ∧ Rd w' A xs.length xs ∧ xs.length ≤ c ∧ Fresh w.heap.size A ∧ Below w.heap.size w w') ∨ (toldB l = none ∧ Gave w e w')
theorem nums_fail {ws : List (List UInt8)} {j : Nat} {wd : List UInt8} (h : ws[j]? = some wd) (hn : numB wd = none) : nums ws = none := by
 cases hx : nums ws with
 | none => rfl
 | some xs =>
  obtain ⟨hs, he⟩ := nums_some ws xs hx
  rw [he, List.getElem?_map] at h
  cases hj : xs[j]? with
  | none => rw [hj] at h; cases h
  | some x =>
   rw [hj] at h
   cases h
   rw [numB_itoa (hs x (List.mem_of_getElem? hj))] at hn
   cases hn
theorem numB_dig {wd : List UInt8} (h : wd.all digB = false) : numB wd = none := by
 unfold numB
 rw [if_neg]
 rintro ⟨_, _, h3, _⟩
 rw [h] at h3
 cases h3
theorem numB_long {wd : List UInt8} (h : 5 < wd.length) : numB wd = none := by
 unfold numB
 rw [if_neg]
 rintro ⟨_, h2, _, _⟩
 omega
theorem all_at {wd : List UInt8} {p : Nat} {b : UInt8} (h : wd[p]? = some b) (hb : digB b = false) : wd.all digB = false := by
 rw [List.all_eq_false]
 exact ⟨b, List.mem_of_getElem? h, by rw [hb]; simp⟩
theorem iter_fr (w : World) (s : ByteArray) (pos : Nat) : Below w.heap.size w (w.iter s pos) := fr_alloc (fr_refl w) _
theorem val_step (wd : List UInt8) (p : Nat) (b : UInt8) (h : wd[p]? = some b) : valOf (wd.take (p + 1)) = 10 * valOf (wd.take p) + ((b.toNat : Int) - 48) := by
 have hl : p < wd.length := (List.getElem?_eq_some_iff.1 h).1
 have hb : wd[p] = b := (List.getElem?_eq_some_iff.1 h).2
 rw [List.take_succ_eq_append_getElem hl, hb]
 unfold valOf
 rw [valGo_app]
 rfl
theorem val_small (wd : List UInt8) (p : Nat) (hp : p ≤ 5) (h : (wd.take p).all digB = true) : 0 ≤ valOf (wd.take p) ∧ valOf (wd.take p) ≤ 99999 := by
 have hb := valGo_bounds (wd.take p) 0 (Int.le_refl _) h
 have h5 : 10 ^ (wd.take p).length ≤ 100000 := Nat.le_trans (Nat.pow_le_pow_right (show 0 < 10 by omega) (by rw [List.length_take]; omega : (wd.take p).length ≤ 5)) (by decide)
 have e1 : ((10 ^ (wd.take p).length : Nat) : Int) = (10 : Int) ^ (wd.take p).length := by push_cast; rfl
 unfold valOf
 omega
end Go.Proofs.YthenlopnlaiodaaGreatDoor
end

section
namespace Go.Proofs.YthenlopnlaiodaaGreatDoor
open Go.RowKit Go.Shelf

theorem digB_iff (b : UInt8) : digB b = true ↔ 48 ≤ b.toNat ∧ b.toNat ≤ 57 := by unfold digB; simp

set_option maxRecDepth 100000 in
set_option maxHeartbeats 8000000 in
theorem told_any (l : List UInt8) (w : World) (hl : l.length ≤ 1000) (hM : MaxP w) (hT : TabP w) :
  Calls Tryz.prog 149 #[.string ⟨l.toArray⟩] w fun e w' => ToldPost l w e w' := by
 have hpl := pieces_len 32 l
 have hpf := pieces_form 32 l
 obtain ⟨ws, gws⟩ : ∃ ws, (pieces 32 l).tail = ws := ⟨_, rfl⟩
 obtain ⟨p0, gp0⟩ : ∃ p0, (pieces 32 l).headD [] = p0 := ⟨_, rfl⟩
 rw [gws, gp0] at hpf
 have HTO := Lib.hid (show toldB l = nums ws by unfold toldB; rw [gws])
 have hsp := split_is 32 l w (by omega) hM
 rw [hpf] at hpl hsp
 simp only [List.length_cons] at hpl hsp
 clear hpf gws gp0
 go_enter Tryz.func149, Tryz.ntmps149
 go_wp2_with fail
 refine hsp.mono ?_
 clear hsp
 rintro e' w1 ⟨rfl, hcell, hsz, hb1⟩
 have hT1 := hT.keep hb1
 have hcell2 : ∀ j p, ws[j]? = some p → w1.cell? ⟨w.heap.size, j + 1, none⟩ = some (strV p) := fun j p h => hcell (j + 1) p h
 have HC := Lib.hid hcell2
 have HSZ := Lib.hid hsz
 have hg1 : w.heap.size < w1.heap.size := by omega
 have HB1 := Lib.hid hb1
 clear hcell hcell2 hsz hb1
 by_cases h0 : ws = []
 ·subst h0
  go_wp2_with fail
  go_loopw [3, 13] (fun v i wx => v = .slice none 0 0 ∧ i = .int .i64 0 ∧ w1 = wx) (fun _ _ _ => 0)
  case atStart => exact ⟨rfl, rfl, rfl⟩
  case round =>
   obtain ⟨rfl, rfl, rfl⟩ := hrel
   go_wp2_with fail
   go_ret
   exact Or.inl ⟨[], none, 0, HTO.out, rfl, Rd.nil_ _ _, Nat.le_refl _, (fun ad h => by cases h), HB1.out⟩
 ·have hw1 : 1 ≤ ws.length := by
   cases ws with
   | nil => exact absurd rfl h0
   | cons _ _ => simp
  generalize hlen : ws.length = n at *
  have HL := Lib.hid hlen
  clear hlen h0
  go_wp2_with fail
  go_loopw [3, 13] (fun v i wr => ∃ (j : Nat) (xs : List Int), j ≤ n ∧ i = .int .i64 j ∧ nums (ws.take j) = some xs ∧ Own wr w1.heap.size v xs ∧ Below w1.heap.size w1 wr) (fun _ i _ => n - (intOf i).toNat)
  case atStart => exact ⟨0, [], Nat.zero_le _, rfl, rfl, Own.nil _ _, fr_refl _⟩
  case round =>
   obtain ⟨j, xs, hj, rfl, hnum, hown, hbel⟩ := hrel
   obtain ⟨B0, b0, rfl⟩ := hown.form
   have hxl : xs.length = j := by rw [nums_len hnum, List.length_take]; have := HL.out; omega
   have HN := Lib.hid hnum
   have HXL := Lib.hid hxl
   clear hnum hxl
   by_cases hlt : j < n
   ·obtain ⟨wd, hwd⟩ : ∃ wd, ws[j]? = some wd := ⟨_, List.getElem?_eq_getElem (by have := HL.out; omega)⟩
    have HW := Lib.hid hwd
    have hcw : wr.cell? ⟨w.heap.size, j + 1, none⟩ = some (.string ⟨wd.toArray⟩) := (hbel.cell (p := ⟨w.heap.size, j + 1, none⟩) hg1).trans (HC.out j wd hwd)
    have hcw2 : wr.cell? ⟨w.heap.size, 1 + j, none⟩ = some (.string ⟨wd.toArray⟩) := by rw [Nat.add_comm]; exact hcw
    have hgr : w.heap.size < wr.heap.size := Nat.lt_of_lt_of_le hg1 hbel.size
    have hji : (j : Int) < (n : Int) := by omega
    have hj0 : (0 : Int) ≤ (j : Int) := Int.natCast_nonneg j
    have hss : (⟨wd.toArray⟩ : ByteArray).size = wd.length := by show wd.toArray.size = _; simp
    have HSS := Lib.hid hss
    have HFAIL := Lib.hid (fun (hq : numB wd = none) => (show toldB l = none by rw [HTO.out]; exact nums_fail hwd hq))
    clear hwd hss
    go_wp2_with fail
    go_loopw [6] (fun nn wx => ∃ pos : Nat, pos ≤ wd.length ∧ wx = wr.iter ⟨wd.toArray⟩ pos ∧ nn = .int .i64 (valOf (wd.take pos)) ∧ (wd.take pos).all digB = true ∧ (0 < pos → wd.length ≤ 5)) (fun _ wx => wd.length - wx.iterPos wr.heap.size)
    case atStart => exact ⟨0, Nat.zero_le _, rfl, rfl, rfl, fun h => absurd h (by omega)⟩
    case round =>
     obtain ⟨pos, hpos, rfl, rfl, hall, hp5⟩ := hrel
     have HALL := Lib.hid hall
     have HP5 := Lib.hid hp5
     clear hall hp5
     by_cases hp : pos < wd.length
     ·obtain ⟨b, hb⟩ : ∃ b, wd[pos]? = some b := ⟨_, List.getElem?_eq_getElem hp⟩
      have hps : pos < (⟨wd.toArray⟩ : ByteArray).size := by rw [HSS.out]; exact hp
      have hbs : (⟨wd.toArray⟩ : ByteArray)[pos]'hps = b := by
       show wd.toArray[pos] = b
       simp
       exact (List.getElem?_eq_some_iff.1 hb).2
      have HB := Lib.hid hb
      by_cases ha : b.toNat < 128
      ·have hnx : ∀ ty, (Instr.next (.pointer (some ⟨wr.heap.size, 0, none⟩)) true ty).run Tryz.prog (wr.iter ⟨wd.toArray⟩ pos) = .ok (.tuple #[.bool true, .int .i64 pos, .int .i32 ((b.toNat : Nat) : Int)]) (wr.iter ⟨wd.toArray⟩ (pos + 1)) := fun ty => by
        have h := run_next_ascii (P := Tryz.prog) wr ⟨wd.toArray⟩ pos ty hps (by rw [hbs]; exact ha)
        rw [hbs] at h
        exact h
       clear hb hbs
       by_cases hd : digB b = true
       ·have hdd := (digB_iff b).1 hd
        have HD := Lib.hid hd
        clear hd
        obtain ⟨c, hc⟩ : ∃ c, b.toNat = c := ⟨_, rfl⟩
        rw [hc] at hdd ha hnx
        have HCB := Lib.hid hc
        clear hc
        obtain ⟨hd1, hd2⟩ := hdd
        have hd3 : (48 : Int) ≤ (c : Int) := by omega
        have hd4 : (c : Int) ≤ 57 := by omega
        by_cases h5 : wd.length ≤ 5
        ·have h5i : (wd.length : Int) ≤ 5 := by omega
         have hv := val_small wd pos (by omega) HALL.out
         have hst := val_step wd pos b HB.out
         rw [HCB.out] at hst
         have HST := Lib.hid hst
         clear hst
         obtain ⟨v, gv⟩ : ∃ v, valOf (wd.take pos) = v := ⟨_, rfl⟩
         rw [gv] at hv
         have GV := Lib.hid gv
         simp only [gv]
         clear gv
         obtain ⟨hv1, hv2⟩ := hv
         go_wp2_with fail
         refine (sure_yes _ _).mono ?_
         rintro e' w' ⟨rfl, rfl⟩
         go_wp2_with fail
         refine ⟨⟨pos + 1, by omega, rfl, ?_, ?_, fun _ => h5⟩, ?_⟩
         ·rw [HST.out, GV.out]
         ·rw [List.take_succ_eq_append_getElem hp, List.all_append, HALL.out]
          have := (List.getElem?_eq_some_iff.1 HB.out).2
          rw [this]
          simp [HD.out]
         ·simp
          omega
        ·have h5i : ¬ (wd.length : Int) ≤ 5 := by omega
         have h5d : decide ((wd.length : Int) ≤ 5) = false := decide_eq_false h5i
         go_wp2_with fail
         refine (sure_no _ _).mono ?_
         rintro e' w' ⟨rfl, rfl⟩
         exact ⟨rfl, Or.inr ⟨HFAIL.out (numB_long (by omega)), _, rfl, fr_call (fr_call HB1.out hbel) (iter_fr _ _ _)⟩⟩
       ·have hdf : digB b = false := by simpa using hd
        have HDF := Lib.hid (numB_dig (all_at HB.out hdf))
        have hdd : b.toNat < 48 ∨ 57 < b.toNat := by
         have := mt (digB_iff b).2 hd
         omega
        clear hd hdf
        obtain ⟨c, hc⟩ : ∃ c, b.toNat = c := ⟨_, rfl⟩
        rw [hc] at hdd ha hnx
        have HCB := Lib.hid hc
        clear hc
        rcases hdd with hd1 | hd1
        ·have hd3 : decide ((48 : Int) ≤ (c : Int)) = false := decide_eq_false (by omega)
         have hd4 : ¬ (48 : Int) ≤ (c : Int) := by omega
         go_wp2_with fail
         refine (sure_no _ _).mono ?_
         rintro e' w' ⟨rfl, rfl⟩
         exact ⟨rfl, Or.inr ⟨HFAIL.out HDF.out, _, rfl, fr_call (fr_call HB1.out hbel) (iter_fr _ _ _)⟩⟩
        ·have hd3 : (48 : Int) ≤ (c : Int) := by omega
         have hd4 : decide ((c : Int) ≤ 57) = false := decide_eq_false (by omega)
         go_wp2_with fail
         refine (sure_no _ _).mono ?_
         rintro e' w' ⟨rfl, rfl⟩
         exact ⟨rfl, Or.inr ⟨HFAIL.out HDF.out, _, rfl, fr_call (fr_call HB1.out hbel) (iter_fr _ _ _)⟩⟩
      ·have hdf : digB b = false := by
        unfold digB
        have : decide (b.toNat ≤ 57) = false := decide_eq_false (by omega)
        rw [this, Bool.and_false]
       have HDF := Lib.hid (numB_dig (all_at HB.out hdf))
       have hdh := decode_high ⟨wd.toArray⟩ pos hps (by rw [hbs]; omega)
       have hdl := decode_le ⟨wd.toArray⟩ pos
       have hnx : ∀ ty, (Instr.next (.pointer (some ⟨wr.heap.size, 0, none⟩)) true ty).run Tryz.prog (wr.iter ⟨wd.toArray⟩ pos) = _ := fun ty => run_next_any (P := Tryz.prog) wr ⟨wd.toArray⟩ pos ty hps
       clear hb hbs hdf
       generalize (Utf8.decode ⟨wd.toArray⟩ pos).2 = wdt at *
       generalize (Utf8.decode ⟨wd.toArray⟩ pos).1 = c at *
       have hd3 : (48 : Int) ≤ (c : Int) := by omega
       have hd4 : decide ((c : Int) ≤ 57) = false := decide_eq_false (by omega)
       go_wp2_with fail
       refine (sure_no _ _).mono ?_
       rintro e' w' ⟨rfl, rfl⟩
       exact ⟨rfl, Or.inr ⟨HFAIL.out HDF.out, _, rfl, fr_call (fr_call HB1.out hbel) (iter_fr _ _ _)⟩⟩
     ·obtain rfl : pos = wd.length := by omega
      generalize hpl2 : wd.length = pos at *
      have HPL := Lib.hid hpl2
      clear hpl2 hp hpos
      have hps : ¬ pos < (⟨wd.toArray⟩ : ByteArray).size := by rw [HSS.out]; omega
      have hnx : ∀ ty, (Instr.next (.pointer (some ⟨wr.heap.size, 0, none⟩)) true ty).run Tryz.prog (wr.iter ⟨wd.toArray⟩ pos) = _ := fun ty => run_next_end (P := Tryz.prog) wr ⟨wd.toArray⟩ pos ty hps
      have htk : wd.take pos = wd := List.take_of_length_le (by have := HPL.out; omega)
      have hall := HALL.out
      rw [htk] at hall ⊢
      have HT := Lib.hid htk
      clear htk
      have hbi := iter_fr wr ⟨wd.toArray⟩ pos
      have hownI := hown.keep hbi
      have hTI := (hT1.keep hbel).keep hbi
      have hbelI := fr_call hbel hbi
      by_cases hne : wd = []
      ·have HE := Lib.hid (show numB wd = none by rw [hne]; unfold numB; rw [if_neg (fun h => h.1 rfl)])
       have hq2 : (wd == ([] : List UInt8)) = true := by rw [hne]; rfl
       have hq1 : (wd == ByteArray.toList ⟨#[]⟩) = true := by
        show (wd == ByteArray.toList ⟨([] : List UInt8).toArray⟩) = true
        rw [ByteArray.toList_mk]
        exact hq2
       have hq3 : wd.isEmpty = true := by rw [hne]; rfl
       generalize valOf wd = v0 at *
       generalize wr.iter ⟨wd.toArray⟩ pos = wi at *
       clear hne hall
       go_wp2_with fail
       refine (sure_no _ _).mono ?_
       rintro e' w' ⟨rfl, rfl⟩
       exact ⟨rfl, Or.inr ⟨HFAIL.out HE.out, _, rfl, fr_call HB1.out hbelI⟩⟩
      ·have h5 := HP5.out (by have := HPL.out; cases wd with | nil => exact absurd rfl hne | cons _ _ => simp at this; omega)
       have hv := val_small wd pos h5 (by rw [HT.out]; exact hall)
       rw [HT.out] at hv
       obtain ⟨v, gv⟩ : ∃ v, valOf wd = v := ⟨_, rfl⟩
       rw [gv] at hv ⊢
       have GV := Lib.hid gv
       clear gv
       obtain ⟨hv1, hv2⟩ := hv
       generalize wr.iter ⟨wd.toArray⟩ pos = wi at *
       have HALL2 := Lib.hid hall
       have hq2 : (wd == ([] : List UInt8)) = false := by
        cases wd with
        | nil => exact absurd rfl hne
        | cons _ _ => rfl
       have hq1 : (wd == ByteArray.toList ⟨#[]⟩) = false := by
        show (wd == ByteArray.toList ⟨([] : List UInt8).toArray⟩) = false
        rw [ByteArray.toList_mk]
        exact hq2
       have hq3 : wd.isEmpty = false := by
        cases wd with
        | nil => exact absurd rfl hne
        | cons _ _ => rfl
       have HNE := Lib.hid hne
       clear hall hne
       go_wp2_with fail
       refine (itoa_any v _ hv1 (by omega) hTI).mono ?_
       rintro e' w2 ⟨rfl, hb2⟩
       obtain ⟨it, git⟩ : ∃ it, Lib.itoa v = it := ⟨_, rfl⟩
       rw [git]
       have GIT := Lib.hid git
       clear git
       have hown2 := hownI.keep hb2
       have hbel2 := fr_call hbelI hb2
       by_cases hit : it = wd
       ·subst hit
        go_wp2_with fail
        refine (sure_yes _ _).mono ?_
        rintro e' w' ⟨rfl, rfl⟩
        go_wp2_with (at_builtin; refine app_int rfl (.tmp 51) (.tmp 53) rfl w1.heap.size _ xs rfl rfl hown2 (by have := HXL.out; omega) hbel2.size ?_; intro B2 cap2 wC hown' hg)
        have ha := fr_alloc (fr_refl w2) (.cells #[.int .i64 v] 3)
        have hge := own_ge hown2
        refine ⟨⟨j + 1, xs ++ [v], by omega, by go_num, ?_, hown', (fr_call hbel2 ha).grown hg (fr_call hbel2 ha).size hge⟩, ?_⟩
        ·have hjl : j < ws.length := by have := HL.out; omega
         have hw := (List.getElem?_eq_some_iff.1 HW.out).2
         rw [List.take_succ_eq_append_getElem hjl, hw, nums_snoc, HN.out, ← GIT.out, numB_itoa ⟨hv1, hv2⟩]
        ·simp [intOf]; omega
       ·have hi1 : (it == wd) = false := beq_eq_false_iff_ne.2 hit
        have hi2 : decide (it = wd) = false := decide_eq_false hit
        go_wp2_with fail
        refine (sure_no _ _).mono ?_
        rintro e' w' ⟨rfl, rfl⟩
        refine ⟨rfl, Or.inr ⟨HFAIL.out ?_, _, rfl, fr_call HB1.out hbel2⟩⟩
        unfold numB
        rw [if_neg]
        rintro ⟨_, _, _, h4⟩
        rw [GV.out, GIT.out] at h4
        exact hit h4
   ·obtain rfl : j = n := by omega
    have hfin := HN.out
    rw [List.take_of_length_le (by have := HL.out; omega)] at hfin
    have HF := Lib.hid (HTO.out.trans hfin)
    have hcap := hown.cap
    have hfrs : Fresh w.heap.size B0 := fun ad h => by
     subst h
     have := own_ge hown ad.block (by simp [Value.ownBlock])
     omega
    clear hfin
    go_wp2_with fail
    go_ret
    exact Or.inl ⟨xs, B0, b0, HF.out, rfl, hown.rd, hcap, hfrs, fr_call HB1.out hbel⟩
end Go.Proofs.YthenlopnlaiodaaGreatDoor
end
