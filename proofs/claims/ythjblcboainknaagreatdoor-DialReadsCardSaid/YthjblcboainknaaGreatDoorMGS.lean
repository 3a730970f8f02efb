/- The law of reading: DialReads, walked (by laws_o.py). -/
import Derived.Test.YthjblcboainknaaGreatDoorMEC
import Derived.Test.YthjblcboainknaaGreatDoorMU3
import Derived.Test.YthjblcboainknaaGreatDoorMD1
import Derived.Test.YthjblcboainknaaGreatDoorMD4
import Derived.Test.YthjblcboainknaaGreatDoorMCS
namespace Go.Proofs.YthjblcboainknaaGreatDoor
open Go.RowKit Dl

theorem dread_len {s : List UInt8} {a : Alm} (h : dread s = some a) (h4 : s.length ≤ 400) : a.cs.length ≤ 1000000 ∧ a.l.length ≤ 1000000 := by
 obtain ⟨ht, ho1, _, ho3⟩ := dread_some h
 have hp := alm_pieces ⟨ho1, by assumption, ho3⟩
 have hl := pieces_len 10 s
 rw [ht, hp] at hl
 rw [← ht] at hl
 have hr : pieces 32 (rowB 0 (a.e :: a.cs)) = wordB 0 :: (a.e :: a.cs).map Lib.itoa := by
  rw [row_line]
  exact line_pieces (fun x hx => (word_no 0 x hx).1) (fun x hx => (ho1 x hx).1)
 have hm : rowB 0 (a.e :: a.cs) ∈ pieces 10 s := by
  rw [ht, hp]
  simp [Alm.rows, almRows]
 have hs := pieces_small 10 s _ hm
 have h2 := pieces_len 32 (rowB 0 (a.e :: a.cs))
 rw [hr] at h2
 simp only [List.length_append, List.length_cons, List.length_nil, List.length_map, Alm.rows, almRows] at hl h2
 omega
set_option maxRecDepth 100000 in
set_option maxHeartbeats 16000000 in
theorem reads_true (s : List UInt8) (w : World) (hln : s.length ≤ 9223372036854775807) (hT : TabP w) (hM : MaxP w) :
  Calls Tryz.prog 4 #[.string ⟨s.toArray⟩] w fun e' w' => e' = .returned (.bool true) ∧ Below w.heap.size w w' := by
 by_cases h5 : 500 < s.length
 ·have hd5 : decide ((500 : Int) < (s.length : Int)) = true := decide_eq_true (by omega)
  have hf := fr_refl w
  go_enter Tryz.func4, Tryz.ntmps4
  go_wp2_with fail
  refine (known_is _ hT).mono ?_
  rintro e' w1 ⟨rfl, hb⟩
  replace hT := hT.keep hb
  replace hM := hM.keep hb
  replace hf := fr_call hf hb
  clear hb
  go_wp2_with fail
  go_ret
  exact ⟨rfl, hf⟩
 ·have hd5 : decide ((500 : Int) < (s.length : Int)) = false := decide_eq_false (by omega)
  have hf := fr_refl w
  have hsame := read_same s
  go_enter Tryz.func4, Tryz.ntmps4
  go_wp2_with fail
  refine (Read_any s _ hln hM hT).mono ?_
  rintro e' w1 ⟨hb, hp⟩
  replace hT := hT.keep hb
  replace hM := hM.keep hb
  replace hf := fr_call hf hb
  clear hb
  rcases hp with ⟨h4, rfl⟩ | ⟨h4, hdr, rfl⟩ | ⟨h4, a, hdr, hal, rfl⟩ | ⟨h4, a, A, c, L, lc, hdr, hal, rfl, hrA, hrL⟩
  ·have hd4 : decide ((400 : Int) < (s.length : Int)) = true := decide_eq_true (by omega)
   clear hsame
   unfold readE
   have hN1 : Blk ((w1.alloc (.cells #[.int .i64 0, .slice none 0 0] 24)).alloc (.cells #[.int .i64 0, .int .i64 0, .int .i64 0] 26)) w1.heap.size 24 #[.int .i64 0, .slice none 0 0] := (Blk.new w1 _ _).alloc _
   have hN2 : Blk ((w1.alloc (.cells #[.int .i64 0, .slice none 0 0] 24)).alloc (.cells #[.int .i64 0, .int .i64 0, .int .i64 0] 26)) (w1.heap.size + 1) 26 #[.int .i64 0, .int .i64 0, .int .i64 0] := Blk.new_at _ _ (by simp)
   have hg2 := fr_alloc (fr_alloc (fr_refl w1) (.cells #[.int .i64 0, .slice none 0 0] 24)) (.cells #[.int .i64 0, .int .i64 0, .int .i64 0] 26)
   go_wp2_with (first | (refine wpList_store_blk rfl _ _ _ rfl w1.heap.size 24 _ _ rfl rfl hN1 rfl (by kernel_rfl) (by simp [Value.oneCell']) ?_; intro Wa hCa hga; have hMa := hN2.grown hga (by simp)) | (refine wpList_store_blk rfl _ _ _ rfl (w1.heap.size + 1) 26 _ _ rfl rfl hMa rfl (by kernel_rfl) (by simp [Value.oneCell']) ?_; intro w2 hM3 hgb; have hC3 := hCa.grown hgb (by simp); have hb12 : Below w1.heap.size w1 w2 := (hg2.grown hga hg2.size (by intro k hk; cases hk; omega)).grown hgb (hg2.grown hga hg2.size (by intro k hk; cases hk; omega)).size (by intro k hk; cases hk; omega); replace hT := hT.keep hb12; replace hM := hM.keep hb12; replace hf := fr_call hf hb12; have hcC3 := fun j => hC3.cell j; have hlC3 := hC3.lt; have hcM3 := fun j => hM3.cell j; have hlM3 := hM3.lt; clear hb12 hN1 hN2 hg2 hga hgb hCa hMa))
   refine (rRead_any s _ (by omega)).mono ?_
   rintro e' w3 ⟨hb, hq⟩
   replace hT := hT.keep hb
   replace hM := hM.keep hb
   replace hC3 := hC3.keep hb
   replace hcC3 := fun j => hC3.cell j
   replace hlC3 := hC3.lt
   replace hM3 := hM3.keep hb
   replace hcM3 := fun j => hM3.cell j
   replace hlM3 := hM3.lt
   replace hf := fr_call hf hb
   clear hb
   rcases hq with ⟨hr, rfl⟩ | ⟨a', A', c', L', lc', hr, rfl, hrA', hrL'⟩
   ·unfold readNo
    clear hr
    have hN1 : Blk ((w3.alloc (.cells #[.int .i64 0, .slice none 0 0] 24)).alloc (.cells #[.int .i64 0, .int .i64 0, .int .i64 0] 26)) w3.heap.size 24 #[.int .i64 0, .slice none 0 0] := (Blk.new w3 _ _).alloc _
    have hN2 : Blk ((w3.alloc (.cells #[.int .i64 0, .slice none 0 0] 24)).alloc (.cells #[.int .i64 0, .int .i64 0, .int .i64 0] 26)) (w3.heap.size + 1) 26 #[.int .i64 0, .int .i64 0, .int .i64 0] := Blk.new_at _ _ (by simp)
    have hg2 := fr_alloc (fr_alloc (fr_refl w3) (.cells #[.int .i64 0, .slice none 0 0] 24)) (.cells #[.int .i64 0, .int .i64 0, .int .i64 0] 26)
    go_wp2_with (first | (refine wpList_store_blk rfl _ _ _ rfl w3.heap.size 24 _ _ rfl rfl hN1 rfl (by kernel_rfl) (by simp [Value.oneCell']) ?_; intro Wa hCa hga; have hMa := hN2.grown hga (by simp)) | (refine wpList_store_blk rfl _ _ _ rfl (w3.heap.size + 1) 26 _ _ rfl rfl hMa rfl (by kernel_rfl) (by simp [Value.oneCell']) ?_; intro w4 hM7 hgb; have hC7 := hCa.grown hgb (by simp); have hb12 : Below w3.heap.size w3 w4 := (hg2.grown hga hg2.size (by intro k hk; cases hk; omega)).grown hgb (hg2.grown hga hg2.size (by intro k hk; cases hk; omega)).size (by intro k hk; cases hk; omega); replace hT := hT.keep hb12; replace hM := hM.keep hb12; replace hC3 := hC3.keep hb12; replace hcC3 := fun j => hC3.cell j; replace hlC3 := hC3.lt; replace hM3 := hM3.keep hb12; replace hcM3 := fun j => hM3.cell j; replace hlM3 := hM3.lt; replace hf := fr_call hf hb12; have hcC7 := fun j => hC7.cell j; have hlC7 := hC7.lt; have hcM7 := fun j => hM7.cell j; have hlM7 := hM7.lt; clear hb12 hN1 hN2 hg2 hga hgb hCa hMa))
    refine (rSameCalendar_is none none 0 0 0 0 [] [] 0 0 _ (Rd.nil_ _ _) (Rd.nil_ _ _) (by omega) (by omega) true rfl).mono ?_
    rintro e' w8 ⟨rfl, hb⟩
    replace hT := hT.keep hb
    replace hM := hM.keep hb
    replace hC3 := hC3.keep hb
    replace hcC3 := fun j => hC3.cell j
    replace hlC3 := hC3.lt
    replace hM3 := hM3.keep hb
    replace hcM3 := fun j => hM3.cell j
    replace hlM3 := hM3.lt
    replace hC7 := hC7.keep hb
    replace hcC7 := fun j => hC7.cell j
    replace hlC7 := hC7.lt
    replace hM7 := hM7.keep hb
    replace hcM7 := fun j => hM7.cell j
    replace hlM7 := hM7.lt
    replace hf := fr_call hf hb
    clear hb
    go_wp2_with fail
    refine (known_is _ hT).mono ?_
    rintro e' w9 ⟨rfl, hb⟩
    replace hT := hT.keep hb
    replace hM := hM.keep hb
    replace hC3 := hC3.keep hb
    replace hcC3 := fun j => hC3.cell j
    replace hlC3 := hC3.lt
    replace hM3 := hM3.keep hb
    replace hcM3 := fun j => hM3.cell j
    replace hlM3 := hM3.lt
    replace hC7 := hC7.keep hb
    replace hcC7 := fun j => hC7.cell j
    replace hlC7 := hC7.lt
    replace hM7 := hM7.keep hb
    replace hcM7 := fun j => hM7.cell j
    replace hlM7 := hM7.lt
    replace hf := fr_call hf hb
    clear hb
    go_wp2_with fail
    go_ret
    exact ⟨rfl, hf⟩
   ·clear hr hrA' hrL'
    have hN1 : Blk ((w3.alloc (.cells #[.int .i64 0, .slice none 0 0] 24)).alloc (.cells #[.int .i64 0, .int .i64 0, .int .i64 0] 26)) w3.heap.size 24 #[.int .i64 0, .slice none 0 0] := (Blk.new w3 _ _).alloc _
    have hN2 : Blk ((w3.alloc (.cells #[.int .i64 0, .slice none 0 0] 24)).alloc (.cells #[.int .i64 0, .int .i64 0, .int .i64 0] 26)) (w3.heap.size + 1) 26 #[.int .i64 0, .int .i64 0, .int .i64 0] := Blk.new_at _ _ (by simp)
    have hg2 := fr_alloc (fr_alloc (fr_refl w3) (.cells #[.int .i64 0, .slice none 0 0] 24)) (.cells #[.int .i64 0, .int .i64 0, .int .i64 0] 26)
    go_wp2_with (first | (refine wpList_store_blk rfl _ _ _ rfl w3.heap.size 24 _ _ rfl rfl hN1 rfl (by kernel_rfl) (by simp [Value.oneCell']) ?_; intro Wa hCa hga; have hMa := hN2.grown hga (by simp)) | (refine wpList_store_blk rfl _ _ _ rfl (w3.heap.size + 1) 26 _ _ rfl rfl hMa rfl (by kernel_rfl) (by simp [Value.oneCell']) ?_; intro w4 hM7 hgb; have hC7 := hCa.grown hgb (by simp); have hb12 : Below w3.heap.size w3 w4 := (hg2.grown hga hg2.size (by intro k hk; cases hk; omega)).grown hgb (hg2.grown hga hg2.size (by intro k hk; cases hk; omega)).size (by intro k hk; cases hk; omega); replace hT := hT.keep hb12; replace hM := hM.keep hb12; replace hC3 := hC3.keep hb12; replace hcC3 := fun j => hC3.cell j; replace hlC3 := hC3.lt; replace hM3 := hM3.keep hb12; replace hcM3 := fun j => hM3.cell j; replace hlM3 := hM3.lt; replace hf := fr_call hf hb12; have hcC7 := fun j => hC7.cell j; have hlC7 := hC7.lt; have hcM7 := fun j => hM7.cell j; have hlM7 := hM7.lt; clear hb12 hN1 hN2 hg2 hga hgb hCa hMa))
    refine (rSameCalendar_is none none 0 0 0 0 [] [] 0 0 _ (Rd.nil_ _ _) (Rd.nil_ _ _) (by omega) (by omega) true rfl).mono ?_
    rintro e' w8 ⟨rfl, hb⟩
    replace hT := hT.keep hb
    replace hM := hM.keep hb
    replace hC3 := hC3.keep hb
    replace hcC3 := fun j => hC3.cell j
    replace hlC3 := hC3.lt
    replace hM3 := hM3.keep hb
    replace hcM3 := fun j => hM3.cell j
    replace hlM3 := hM3.lt
    replace hC7 := hC7.keep hb
    replace hcC7 := fun j => hC7.cell j
    replace hlC7 := hC7.lt
    replace hM7 := hM7.keep hb
    replace hcM7 := fun j => hM7.cell j
    replace hlM7 := hM7.lt
    replace hf := fr_call hf hb
    clear hb
    go_wp2_with fail
    refine (known_is _ hT).mono ?_
    rintro e' w9 ⟨rfl, hb⟩
    replace hT := hT.keep hb
    replace hM := hM.keep hb
    replace hC3 := hC3.keep hb
    replace hcC3 := fun j => hC3.cell j
    replace hlC3 := hC3.lt
    replace hM3 := hM3.keep hb
    replace hcM3 := fun j => hM3.cell j
    replace hlM3 := hM3.lt
    replace hC7 := hC7.keep hb
    replace hcC7 := fun j => hC7.cell j
    replace hlC7 := hC7.lt
    replace hM7 := hM7.keep hb
    replace hcM7 := fun j => hM7.cell j
    replace hlM7 := hM7.lt
    replace hf := fr_call hf hb
    clear hb
    go_wp2_with fail
    go_ret
    exact ⟨rfl, hf⟩
  ·have hd4 : decide ((400 : Int) < (s.length : Int)) = false := decide_eq_false (by omega)
   rw [hdr] at hsame
   unfold readE
   have hN1 : Blk ((w1.alloc (.cells #[.int .i64 0, .slice none 0 0] 24)).alloc (.cells #[.int .i64 0, .int .i64 0, .int .i64 0] 26)) w1.heap.size 24 #[.int .i64 0, .slice none 0 0] := (Blk.new w1 _ _).alloc _
   have hN2 : Blk ((w1.alloc (.cells #[.int .i64 0, .slice none 0 0] 24)).alloc (.cells #[.int .i64 0, .int .i64 0, .int .i64 0] 26)) (w1.heap.size + 1) 26 #[.int .i64 0, .int .i64 0, .int .i64 0] := Blk.new_at _ _ (by simp)
   have hg2 := fr_alloc (fr_alloc (fr_refl w1) (.cells #[.int .i64 0, .slice none 0 0] 24)) (.cells #[.int .i64 0, .int .i64 0, .int .i64 0] 26)
   go_wp2_with (first | (refine wpList_store_blk rfl _ _ _ rfl w1.heap.size 24 _ _ rfl rfl hN1 rfl (by kernel_rfl) (by simp [Value.oneCell']) ?_; intro Wa hCa hga; have hMa := hN2.grown hga (by simp)) | (refine wpList_store_blk rfl _ _ _ rfl (w1.heap.size + 1) 26 _ _ rfl rfl hMa rfl (by kernel_rfl) (by simp [Value.oneCell']) ?_; intro w2 hM3 hgb; have hC3 := hCa.grown hgb (by simp); have hb12 : Below w1.heap.size w1 w2 := (hg2.grown hga hg2.size (by intro k hk; cases hk; omega)).grown hgb (hg2.grown hga hg2.size (by intro k hk; cases hk; omega)).size (by intro k hk; cases hk; omega); replace hT := hT.keep hb12; replace hM := hM.keep hb12; replace hf := fr_call hf hb12; have hcC3 := fun j => hC3.cell j; have hlC3 := hC3.lt; have hcM3 := fun j => hM3.cell j; have hlM3 := hM3.lt; clear hb12 hN1 hN2 hg2 hga hgb hCa hMa))
   refine (rRead_any s _ (by omega)).mono ?_
   rintro e' w3 ⟨hb, hq⟩
   replace hT := hT.keep hb
   replace hM := hM.keep hb
   replace hC3 := hC3.keep hb
   replace hcC3 := fun j => hC3.cell j
   replace hlC3 := hC3.lt
   replace hM3 := hM3.keep hb
   replace hcM3 := fun j => hM3.cell j
   replace hlM3 := hM3.lt
   replace hf := fr_call hf hb
   clear hb
   rcases hq with ⟨hr, rfl⟩ | ⟨a', A', c', L', lc', hr, rfl, hrA', hrL'⟩
   ·unfold readNo
    clear hr
    have hN1 : Blk ((w3.alloc (.cells #[.int .i64 0, .slice none 0 0] 24)).alloc (.cells #[.int .i64 0, .int .i64 0, .int .i64 0] 26)) w3.heap.size 24 #[.int .i64 0, .slice none 0 0] := (Blk.new w3 _ _).alloc _
    have hN2 : Blk ((w3.alloc (.cells #[.int .i64 0, .slice none 0 0] 24)).alloc (.cells #[.int .i64 0, .int .i64 0, .int .i64 0] 26)) (w3.heap.size + 1) 26 #[.int .i64 0, .int .i64 0, .int .i64 0] := Blk.new_at _ _ (by simp)
    have hg2 := fr_alloc (fr_alloc (fr_refl w3) (.cells #[.int .i64 0, .slice none 0 0] 24)) (.cells #[.int .i64 0, .int .i64 0, .int .i64 0] 26)
    go_wp2_with (first | (refine wpList_store_blk rfl _ _ _ rfl w3.heap.size 24 _ _ rfl rfl hN1 rfl (by kernel_rfl) (by simp [Value.oneCell']) ?_; intro Wa hCa hga; have hMa := hN2.grown hga (by simp)) | (refine wpList_store_blk rfl _ _ _ rfl (w3.heap.size + 1) 26 _ _ rfl rfl hMa rfl (by kernel_rfl) (by simp [Value.oneCell']) ?_; intro w4 hM7 hgb; have hC7 := hCa.grown hgb (by simp); have hb12 : Below w3.heap.size w3 w4 := (hg2.grown hga hg2.size (by intro k hk; cases hk; omega)).grown hgb (hg2.grown hga hg2.size (by intro k hk; cases hk; omega)).size (by intro k hk; cases hk; omega); replace hT := hT.keep hb12; replace hM := hM.keep hb12; replace hC3 := hC3.keep hb12; replace hcC3 := fun j => hC3.cell j; replace hlC3 := hC3.lt; replace hM3 := hM3.keep hb12; replace hcM3 := fun j => hM3.cell j; replace hlM3 := hM3.lt; replace hf := fr_call hf hb12; have hcC7 := fun j => hC7.cell j; have hlC7 := hC7.lt; have hcM7 := fun j => hM7.cell j; have hlM7 := hM7.lt; clear hb12 hN1 hN2 hg2 hga hgb hCa hMa))
    refine (rSameCalendar_is none none 0 0 0 0 [] [] 0 0 _ (Rd.nil_ _ _) (Rd.nil_ _ _) (by omega) (by omega) true rfl).mono ?_
    rintro e' w8 ⟨rfl, hb⟩
    replace hT := hT.keep hb
    replace hM := hM.keep hb
    replace hC3 := hC3.keep hb
    replace hcC3 := fun j => hC3.cell j
    replace hlC3 := hC3.lt
    replace hM3 := hM3.keep hb
    replace hcM3 := fun j => hM3.cell j
    replace hlM3 := hM3.lt
    replace hC7 := hC7.keep hb
    replace hcC7 := fun j => hC7.cell j
    replace hlC7 := hC7.lt
    replace hM7 := hM7.keep hb
    replace hcM7 := fun j => hM7.cell j
    replace hlM7 := hM7.lt
    replace hf := fr_call hf hb
    clear hb
    go_wp2_with fail
    refine (known_is _ hT).mono ?_
    rintro e' w9 ⟨rfl, hb⟩
    replace hT := hT.keep hb
    replace hM := hM.keep hb
    replace hC3 := hC3.keep hb
    replace hcC3 := fun j => hC3.cell j
    replace hlC3 := hC3.lt
    replace hM3 := hM3.keep hb
    replace hcM3 := fun j => hM3.cell j
    replace hlM3 := hM3.lt
    replace hC7 := hC7.keep hb
    replace hcC7 := fun j => hC7.cell j
    replace hlC7 := hC7.lt
    replace hM7 := hM7.keep hb
    replace hcM7 := fun j => hM7.cell j
    replace hlM7 := hM7.lt
    replace hf := fr_call hf hb
    clear hb
    go_wp2_with fail
    go_ret
    exact ⟨rfl, hf⟩
   ·rw [hsame] at hr; cases hr
  ·have hd4 : decide ((400 : Int) < (s.length : Int)) = false := decide_eq_false (by omega)
   rw [hdr] at hsame
   unfold readE
   have HDR := Lib.hid hdr
   clear hdr
   obtain ⟨ae, acs, anum, aden, aadd, al⟩ := a
   have hAlm : almB ⟨ae, acs, anum, aden, aadd, al⟩ = (calOk ae acs && moonB anum aden aadd && factsB al) := rfl
   rw [hAlm] at hal
   clear hAlm
   have hlen := dread_len HDR.out h4
   simp only at hlen
   have hN1 : Blk ((w1.alloc (.cells #[.int .i64 0, .slice none 0 0] 24)).alloc (.cells #[.int .i64 0, .int .i64 0, .int .i64 0] 26)) w1.heap.size 24 #[.int .i64 0, .slice none 0 0] := (Blk.new w1 _ _).alloc _
   have hN2 : Blk ((w1.alloc (.cells #[.int .i64 0, .slice none 0 0] 24)).alloc (.cells #[.int .i64 0, .int .i64 0, .int .i64 0] 26)) (w1.heap.size + 1) 26 #[.int .i64 0, .int .i64 0, .int .i64 0] := Blk.new_at _ _ (by simp)
   have hg2 := fr_alloc (fr_alloc (fr_refl w1) (.cells #[.int .i64 0, .slice none 0 0] 24)) (.cells #[.int .i64 0, .int .i64 0, .int .i64 0] 26)
   go_wp2_with (first | (refine wpList_store_blk rfl _ _ _ rfl w1.heap.size 24 _ _ rfl rfl hN1 rfl (by kernel_rfl) (by simp [Value.oneCell']) ?_; intro Wa hCa hga; have hMa := hN2.grown hga (by simp)) | (refine wpList_store_blk rfl _ _ _ rfl (w1.heap.size + 1) 26 _ _ rfl rfl hMa rfl (by kernel_rfl) (by simp [Value.oneCell']) ?_; intro w2 hM3 hgb; have hC3 := hCa.grown hgb (by simp); have hb12 : Below w1.heap.size w1 w2 := (hg2.grown hga hg2.size (by intro k hk; cases hk; omega)).grown hgb (hg2.grown hga hg2.size (by intro k hk; cases hk; omega)).size (by intro k hk; cases hk; omega); replace hT := hT.keep hb12; replace hM := hM.keep hb12; replace hf := fr_call hf hb12; have hcC3 := fun j => hC3.cell j; have hlC3 := hC3.lt; have hcM3 := fun j => hM3.cell j; have hlM3 := hM3.lt; clear hb12 hN1 hN2 hg2 hga hgb hCa hMa))
   refine (rRead_any s _ (by omega)).mono ?_
   rintro e' w3 ⟨hb, hq⟩
   replace hT := hT.keep hb
   replace hM := hM.keep hb
   replace hC3 := hC3.keep hb
   replace hcC3 := fun j => hC3.cell j
   replace hlC3 := hC3.lt
   replace hM3 := hM3.keep hb
   replace hcM3 := fun j => hM3.cell j
   replace hlM3 := hM3.lt
   replace hf := fr_call hf hb
   clear hb
   rcases hq with ⟨hr, rfl⟩ | ⟨a', A', c', L', lc', hr, rfl, hrA', hrL'⟩
   ·rw [hsame] at hr; cases hr
   ·rw [hsame] at hr
    cases hr
    simp only at hrA' hrL'
    have hN1 : Blk ((w3.alloc (.cells #[.int .i64 0, .slice none 0 0] 24)).alloc (.cells #[.int .i64 0, .int .i64 0, .int .i64 0] 26)) w3.heap.size 24 #[.int .i64 0, .slice none 0 0] := (Blk.new w3 _ _).alloc _
    have hN2 : Blk ((w3.alloc (.cells #[.int .i64 0, .slice none 0 0] 24)).alloc (.cells #[.int .i64 0, .int .i64 0, .int .i64 0] 26)) (w3.heap.size + 1) 26 #[.int .i64 0, .int .i64 0, .int .i64 0] := Blk.new_at _ _ (by simp)
    have hg2 := fr_alloc (fr_alloc (fr_refl w3) (.cells #[.int .i64 0, .slice none 0 0] 24)) (.cells #[.int .i64 0, .int .i64 0, .int .i64 0] 26)
    go_wp2_with (first | (refine wpList_store_blk rfl _ _ _ rfl w3.heap.size 24 _ _ rfl rfl hN1 rfl (by kernel_rfl) (by simp [Value.oneCell']) ?_; intro Wa hCa hga; have hMa := hN2.grown hga (by simp)) | (refine wpList_store_blk rfl _ _ _ rfl (w3.heap.size + 1) 26 _ _ rfl rfl hMa rfl (by kernel_rfl) (by simp [Value.oneCell']) ?_; intro w4 hM7 hgb; have hC7 := hCa.grown hgb (by simp); have hb12 : Below w3.heap.size w3 w4 := (hg2.grown hga hg2.size (by intro k hk; cases hk; omega)).grown hgb (hg2.grown hga hg2.size (by intro k hk; cases hk; omega)).size (by intro k hk; cases hk; omega); replace hT := hT.keep hb12; replace hM := hM.keep hb12; replace hrA' := hrA'.keep hb12; replace hrL' := hrL'.keep hb12; replace hC3 := hC3.keep hb12; replace hcC3 := fun j => hC3.cell j; replace hlC3 := hC3.lt; replace hM3 := hM3.keep hb12; replace hcM3 := fun j => hM3.cell j; replace hlM3 := hM3.lt; replace hf := fr_call hf hb12; have hcC7 := fun j => hC7.cell j; have hlC7 := hC7.lt; have hcM7 := fun j => hM7.cell j; have hlM7 := hM7.lt; clear hb12 hN1 hN2 hg2 hga hgb hCa hMa))
    cases hok : calOk ae acs
    ·refine (rCalendar_is A' acs.length c' acs ae _ hrA' (by omega) _ hok).mono ?_
     rintro e' w5 ⟨rfl, hb⟩
     replace hT := hT.keep hb
     replace hM := hM.keep hb
     replace hrA' := hrA'.keep hb
     replace hrL' := hrL'.keep hb
     replace hC3 := hC3.keep hb
     replace hcC3 := fun j => hC3.cell j
     replace hlC3 := hC3.lt
     replace hM3 := hM3.keep hb
     replace hcM3 := fun j => hM3.cell j
     replace hlM3 := hM3.lt
     replace hC7 := hC7.keep hb
     replace hcC7 := fun j => hC7.cell j
     replace hlC7 := hC7.lt
     replace hM7 := hM7.keep hb
     replace hcM7 := fun j => hM7.cell j
     replace hlM7 := hM7.lt
     replace hf := fr_call hf hb
     clear hb
     go_wp2_with fail
     refine (rSameCalendar_is none none 0 0 0 0 [] [] 0 0 _ (Rd.nil_ _ _) (Rd.nil_ _ _) (by omega) (by omega) true rfl).mono ?_
     rintro e' w8 ⟨rfl, hb⟩
     replace hT := hT.keep hb
     replace hM := hM.keep hb
     replace hrA' := hrA'.keep hb
     replace hrL' := hrL'.keep hb
     replace hC3 := hC3.keep hb
     replace hcC3 := fun j => hC3.cell j
     replace hlC3 := hC3.lt
     replace hM3 := hM3.keep hb
     replace hcM3 := fun j => hM3.cell j
     replace hlM3 := hM3.lt
     replace hC7 := hC7.keep hb
     replace hcC7 := fun j => hC7.cell j
     replace hlC7 := hC7.lt
     replace hM7 := hM7.keep hb
     replace hcM7 := fun j => hM7.cell j
     replace hlM7 := hM7.lt
     replace hf := fr_call hf hb
     clear hb
     go_wp2_with fail
     refine (known_is _ hT).mono ?_
     rintro e' w9 ⟨rfl, hb⟩
     replace hT := hT.keep hb
     replace hM := hM.keep hb
     replace hrA' := hrA'.keep hb
     replace hrL' := hrL'.keep hb
     replace hC3 := hC3.keep hb
     replace hcC3 := fun j => hC3.cell j
     replace hlC3 := hC3.lt
     replace hM3 := hM3.keep hb
     replace hcM3 := fun j => hM3.cell j
     replace hlM3 := hM3.lt
     replace hC7 := hC7.keep hb
     replace hcC7 := fun j => hC7.cell j
     replace hlC7 := hC7.lt
     replace hM7 := hM7.keep hb
     replace hcM7 := fun j => hM7.cell j
     replace hlM7 := hM7.lt
     replace hf := fr_call hf hb
     clear hb
     go_wp2_with fail
     go_ret
     exact ⟨rfl, hf⟩
    ·cases hmb : moonB anum aden aadd
     ·refine (rCalendar_is A' acs.length c' acs ae _ hrA' (by omega) _ hok).mono ?_
      rintro e' w5 ⟨rfl, hb⟩
      replace hT := hT.keep hb
      replace hM := hM.keep hb
      replace hrA' := hrA'.keep hb
      replace hrL' := hrL'.keep hb
      replace hC3 := hC3.keep hb
      replace hcC3 := fun j => hC3.cell j
      replace hlC3 := hC3.lt
      replace hM3 := hM3.keep hb
      replace hcM3 := fun j => hM3.cell j
      replace hlM3 := hM3.lt
      replace hC7 := hC7.keep hb
      replace hcC7 := fun j => hC7.cell j
      replace hlC7 := hC7.lt
      replace hM7 := hM7.keep hb
      replace hcM7 := fun j => hM7.cell j
      replace hlM7 := hM7.lt
      replace hf := fr_call hf hb
      clear hb
      go_wp2_with fail
      refine (rMoon_is _ _ _ _ _ hmb).mono ?_
      rintro e' w6 ⟨rfl, hb⟩
      replace hT := hT.keep hb
      replace hM := hM.keep hb
      replace hrA' := hrA'.keep hb
      replace hrL' := hrL'.keep hb
      replace hC3 := hC3.keep hb
      replace hcC3 := fun j => hC3.cell j
      replace hlC3 := hC3.lt
      replace hM3 := hM3.keep hb
      replace hcM3 := fun j => hM3.cell j
      replace hlM3 := hM3.lt
      replace hC7 := hC7.keep hb
      replace hcC7 := fun j => hC7.cell j
      replace hlC7 := hC7.lt
      replace hM7 := hM7.keep hb
      replace hcM7 := fun j => hM7.cell j
      replace hlM7 := hM7.lt
      replace hf := fr_call hf hb
      clear hb
      go_wp2_with fail
      refine (rSameCalendar_is none none 0 0 0 0 [] [] 0 0 _ (Rd.nil_ _ _) (Rd.nil_ _ _) (by omega) (by omega) true rfl).mono ?_
      rintro e' w8 ⟨rfl, hb⟩
      replace hT := hT.keep hb
      replace hM := hM.keep hb
      replace hrA' := hrA'.keep hb
      replace hrL' := hrL'.keep hb
      replace hC3 := hC3.keep hb
      replace hcC3 := fun j => hC3.cell j
      replace hlC3 := hC3.lt
      replace hM3 := hM3.keep hb
      replace hcM3 := fun j => hM3.cell j
      replace hlM3 := hM3.lt
      replace hC7 := hC7.keep hb
      replace hcC7 := fun j => hC7.cell j
      replace hlC7 := hC7.lt
      replace hM7 := hM7.keep hb
      replace hcM7 := fun j => hM7.cell j
      replace hlM7 := hM7.lt
      replace hf := fr_call hf hb
      clear hb
      go_wp2_with fail
      refine (known_is _ hT).mono ?_
      rintro e' w9 ⟨rfl, hb⟩
      replace hT := hT.keep hb
      replace hM := hM.keep hb
      replace hrA' := hrA'.keep hb
      replace hrL' := hrL'.keep hb
      replace hC3 := hC3.keep hb
      replace hcC3 := fun j => hC3.cell j
      replace hlC3 := hC3.lt
      replace hM3 := hM3.keep hb
      replace hcM3 := fun j => hM3.cell j
      replace hlM3 := hM3.lt
      replace hC7 := hC7.keep hb
      replace hcC7 := fun j => hC7.cell j
      replace hlC7 := hC7.lt
      replace hM7 := hM7.keep hb
      replace hcM7 := fun j => hM7.cell j
      replace hlM7 := hM7.lt
      replace hf := fr_call hf hb
      clear hb
      go_wp2_with fail
      go_ret
      exact ⟨rfl, hf⟩
     ·cases hfa : factsB al
      ·refine (rCalendar_is A' acs.length c' acs ae _ hrA' (by omega) _ hok).mono ?_
       rintro e' w5 ⟨rfl, hb⟩
       replace hT := hT.keep hb
       replace hM := hM.keep hb
       replace hrA' := hrA'.keep hb
       replace hrL' := hrL'.keep hb
       replace hC3 := hC3.keep hb
       replace hcC3 := fun j => hC3.cell j
       replace hlC3 := hC3.lt
       replace hM3 := hM3.keep hb
       replace hcM3 := fun j => hM3.cell j
       replace hlM3 := hM3.lt
       replace hC7 := hC7.keep hb
       replace hcC7 := fun j => hC7.cell j
       replace hlC7 := hC7.lt
       replace hM7 := hM7.keep hb
       replace hcM7 := fun j => hM7.cell j
       replace hlM7 := hM7.lt
       replace hf := fr_call hf hb
       clear hb
       go_wp2_with fail
       refine (rMoon_is _ _ _ _ _ hmb).mono ?_
       rintro e' w6 ⟨rfl, hb⟩
       replace hT := hT.keep hb
       replace hM := hM.keep hb
       replace hrA' := hrA'.keep hb
       replace hrL' := hrL'.keep hb
       replace hC3 := hC3.keep hb
       replace hcC3 := fun j => hC3.cell j
       replace hlC3 := hC3.lt
       replace hM3 := hM3.keep hb
       replace hcM3 := fun j => hM3.cell j
       replace hlM3 := hM3.lt
       replace hC7 := hC7.keep hb
       replace hcC7 := fun j => hC7.cell j
       replace hlC7 := hC7.lt
       replace hM7 := hM7.keep hb
       replace hcM7 := fun j => hM7.cell j
       replace hlM7 := hM7.lt
       replace hf := fr_call hf hb
       clear hb
       go_wp2_with fail
       refine (rFacts_is L' lc' al _ hrL' (by omega) _ hfa).mono ?_
       rintro e' w7 ⟨rfl, hb⟩
       replace hT := hT.keep hb
       replace hM := hM.keep hb
       replace hrA' := hrA'.keep hb
       replace hrL' := hrL'.keep hb
       replace hC3 := hC3.keep hb
       replace hcC3 := fun j => hC3.cell j
       replace hlC3 := hC3.lt
       replace hM3 := hM3.keep hb
       replace hcM3 := fun j => hM3.cell j
       replace hlM3 := hM3.lt
       replace hC7 := hC7.keep hb
       replace hcC7 := fun j => hC7.cell j
       replace hlC7 := hC7.lt
       replace hM7 := hM7.keep hb
       replace hcM7 := fun j => hM7.cell j
       replace hlM7 := hM7.lt
       replace hf := fr_call hf hb
       clear hb
       go_wp2_with fail
       refine (rSameCalendar_is none none 0 0 0 0 [] [] 0 0 _ (Rd.nil_ _ _) (Rd.nil_ _ _) (by omega) (by omega) true rfl).mono ?_
       rintro e' w8 ⟨rfl, hb⟩
       replace hT := hT.keep hb
       replace hM := hM.keep hb
       replace hrA' := hrA'.keep hb
       replace hrL' := hrL'.keep hb
       replace hC3 := hC3.keep hb
       replace hcC3 := fun j => hC3.cell j
       replace hlC3 := hC3.lt
       replace hM3 := hM3.keep hb
       replace hcM3 := fun j => hM3.cell j
       replace hlM3 := hM3.lt
       replace hC7 := hC7.keep hb
       replace hcC7 := fun j => hC7.cell j
       replace hlC7 := hC7.lt
       replace hM7 := hM7.keep hb
       replace hcM7 := fun j => hM7.cell j
       replace hlM7 := hM7.lt
       replace hf := fr_call hf hb
       clear hb
       go_wp2_with fail
       refine (known_is _ hT).mono ?_
       rintro e' w9 ⟨rfl, hb⟩
       replace hT := hT.keep hb
       replace hM := hM.keep hb
       replace hrA' := hrA'.keep hb
       replace hrL' := hrL'.keep hb
       replace hC3 := hC3.keep hb
       replace hcC3 := fun j => hC3.cell j
       replace hlC3 := hC3.lt
       replace hM3 := hM3.keep hb
       replace hcM3 := fun j => hM3.cell j
       replace hlM3 := hM3.lt
       replace hC7 := hC7.keep hb
       replace hcC7 := fun j => hC7.cell j
       replace hlC7 := hC7.lt
       replace hM7 := hM7.keep hb
       replace hcM7 := fun j => hM7.cell j
       replace hlM7 := hM7.lt
       replace hf := fr_call hf hb
       clear hb
       go_wp2_with fail
       go_ret
       exact ⟨rfl, hf⟩
      ·rw [hok, hmb, hfa] at hal; cases hal
  ·have hd4 : decide ((400 : Int) < (s.length : Int)) = false := decide_eq_false (by omega)
   rw [hdr] at hsame
   have HDR := Lib.hid hdr
   clear hdr
   obtain ⟨ae, acs, anum, aden, aadd, al⟩ := a
   have hAlm : almB ⟨ae, acs, anum, aden, aadd, al⟩ = (calOk ae acs && moonB anum aden aadd && factsB al) := rfl
   rw [hAlm] at hal
   clear hAlm
   simp only at hrA hrL
   have hlen := dread_len HDR.out h4
   simp only at hlen
   have hN1 : Blk ((w1.alloc (.cells #[.int .i64 0, .slice none 0 0] 24)).alloc (.cells #[.int .i64 0, .int .i64 0, .int .i64 0] 26)) w1.heap.size 24 #[.int .i64 0, .slice none 0 0] := (Blk.new w1 _ _).alloc _
   have hN2 : Blk ((w1.alloc (.cells #[.int .i64 0, .slice none 0 0] 24)).alloc (.cells #[.int .i64 0, .int .i64 0, .int .i64 0] 26)) (w1.heap.size + 1) 26 #[.int .i64 0, .int .i64 0, .int .i64 0] := Blk.new_at _ _ (by simp)
   have hg2 := fr_alloc (fr_alloc (fr_refl w1) (.cells #[.int .i64 0, .slice none 0 0] 24)) (.cells #[.int .i64 0, .int .i64 0, .int .i64 0] 26)
   go_wp2_with (first | (refine wpList_store_blk rfl _ _ _ rfl w1.heap.size 24 _ _ rfl rfl hN1 rfl (by kernel_rfl) (by simp [Value.oneCell']) ?_; intro Wa hCa hga; have hMa := hN2.grown hga (by simp)) | (refine wpList_store_blk rfl _ _ _ rfl (w1.heap.size + 1) 26 _ _ rfl rfl hMa rfl (by kernel_rfl) (by simp [Value.oneCell']) ?_; intro w2 hM3 hgb; have hC3 := hCa.grown hgb (by simp); have hb12 : Below w1.heap.size w1 w2 := (hg2.grown hga hg2.size (by intro k hk; cases hk; omega)).grown hgb (hg2.grown hga hg2.size (by intro k hk; cases hk; omega)).size (by intro k hk; cases hk; omega); replace hT := hT.keep hb12; replace hM := hM.keep hb12; replace hrA := hrA.keep hb12; replace hrL := hrL.keep hb12; replace hf := fr_call hf hb12; have hcC3 := fun j => hC3.cell j; have hlC3 := hC3.lt; have hcM3 := fun j => hM3.cell j; have hlM3 := hM3.lt; clear hb12 hN1 hN2 hg2 hga hgb hCa hMa))
   refine (rRead_any s _ (by omega)).mono ?_
   rintro e' w3 ⟨hb, hq⟩
   replace hT := hT.keep hb
   replace hM := hM.keep hb
   replace hrA := hrA.keep hb
   replace hrL := hrL.keep hb
   replace hC3 := hC3.keep hb
   replace hcC3 := fun j => hC3.cell j
   replace hlC3 := hC3.lt
   replace hM3 := hM3.keep hb
   replace hcM3 := fun j => hM3.cell j
   replace hlM3 := hM3.lt
   replace hf := fr_call hf hb
   clear hb
   rcases hq with ⟨hr, rfl⟩ | ⟨a', A', c', L', lc', hr, rfl, hrA', hrL'⟩
   ·rw [hsame] at hr; cases hr
   ·rw [hsame] at hr
    cases hr
    simp only at hrA' hrL'
    have hN1 : Blk ((w3.alloc (.cells #[.int .i64 0, .slice none 0 0] 24)).alloc (.cells #[.int .i64 0, .int .i64 0, .int .i64 0] 26)) w3.heap.size 24 #[.int .i64 0, .slice none 0 0] := (Blk.new w3 _ _).alloc _
    have hN2 : Blk ((w3.alloc (.cells #[.int .i64 0, .slice none 0 0] 24)).alloc (.cells #[.int .i64 0, .int .i64 0, .int .i64 0] 26)) (w3.heap.size + 1) 26 #[.int .i64 0, .int .i64 0, .int .i64 0] := Blk.new_at _ _ (by simp)
    have hg2 := fr_alloc (fr_alloc (fr_refl w3) (.cells #[.int .i64 0, .slice none 0 0] 24)) (.cells #[.int .i64 0, .int .i64 0, .int .i64 0] 26)
    go_wp2_with (first | (refine wpList_store_blk rfl _ _ _ rfl w3.heap.size 24 _ _ rfl rfl hN1 rfl (by kernel_rfl) (by simp [Value.oneCell']) ?_; intro Wa hCa hga; have hMa := hN2.grown hga (by simp)) | (refine wpList_store_blk rfl _ _ _ rfl (w3.heap.size + 1) 26 _ _ rfl rfl hMa rfl (by kernel_rfl) (by simp [Value.oneCell']) ?_; intro w4 hM7 hgb; have hC7 := hCa.grown hgb (by simp); have hb12 : Below w3.heap.size w3 w4 := (hg2.grown hga hg2.size (by intro k hk; cases hk; omega)).grown hgb (hg2.grown hga hg2.size (by intro k hk; cases hk; omega)).size (by intro k hk; cases hk; omega); replace hT := hT.keep hb12; replace hM := hM.keep hb12; replace hrA := hrA.keep hb12; replace hrL := hrL.keep hb12; replace hrA' := hrA'.keep hb12; replace hrL' := hrL'.keep hb12; replace hC3 := hC3.keep hb12; replace hcC3 := fun j => hC3.cell j; replace hlC3 := hC3.lt; replace hM3 := hM3.keep hb12; replace hcM3 := fun j => hM3.cell j; replace hlM3 := hM3.lt; replace hf := fr_call hf hb12; have hcC7 := fun j => hC7.cell j; have hlC7 := hC7.lt; have hcM7 := fun j => hM7.cell j; have hlM7 := hM7.lt; clear hb12 hN1 hN2 hg2 hga hgb hCa hMa))
    rw [Bool.and_eq_true, Bool.and_eq_true] at hal
    obtain ⟨⟨hok, hmb⟩, hfa⟩ := hal
    refine (rCalendar_is A' acs.length c' acs ae _ hrA' (by omega) _ hok).mono ?_
    rintro e' w5 ⟨rfl, hb⟩
    replace hT := hT.keep hb
    replace hM := hM.keep hb
    replace hrA := hrA.keep hb
    replace hrL := hrL.keep hb
    replace hrA' := hrA'.keep hb
    replace hrL' := hrL'.keep hb
    replace hC3 := hC3.keep hb
    replace hcC3 := fun j => hC3.cell j
    replace hlC3 := hC3.lt
    replace hM3 := hM3.keep hb
    replace hcM3 := fun j => hM3.cell j
    replace hlM3 := hM3.lt
    replace hC7 := hC7.keep hb
    replace hcC7 := fun j => hC7.cell j
    replace hlC7 := hC7.lt
    replace hM7 := hM7.keep hb
    replace hcM7 := fun j => hM7.cell j
    replace hlM7 := hM7.lt
    replace hf := fr_call hf hb
    clear hb
    go_wp2_with fail
    refine (rMoon_is _ _ _ _ _ hmb).mono ?_
    rintro e' w6 ⟨rfl, hb⟩
    replace hT := hT.keep hb
    replace hM := hM.keep hb
    replace hrA := hrA.keep hb
    replace hrL := hrL.keep hb
    replace hrA' := hrA'.keep hb
    replace hrL' := hrL'.keep hb
    replace hC3 := hC3.keep hb
    replace hcC3 := fun j => hC3.cell j
    replace hlC3 := hC3.lt
    replace hM3 := hM3.keep hb
    replace hcM3 := fun j => hM3.cell j
    replace hlM3 := hM3.lt
    replace hC7 := hC7.keep hb
    replace hcC7 := fun j => hC7.cell j
    replace hlC7 := hC7.lt
    replace hM7 := hM7.keep hb
    replace hcM7 := fun j => hM7.cell j
    replace hlM7 := hM7.lt
    replace hf := fr_call hf hb
    clear hb
    go_wp2_with fail
    refine (rFacts_is L' lc' al _ hrL' (by omega) _ hfa).mono ?_
    rintro e' w7 ⟨rfl, hb⟩
    replace hT := hT.keep hb
    replace hM := hM.keep hb
    replace hrA := hrA.keep hb
    replace hrL := hrL.keep hb
    replace hrA' := hrA'.keep hb
    replace hrL' := hrL'.keep hb
    replace hC3 := hC3.keep hb
    replace hcC3 := fun j => hC3.cell j
    replace hlC3 := hC3.lt
    replace hM3 := hM3.keep hb
    replace hcM3 := fun j => hM3.cell j
    replace hlM3 := hM3.lt
    replace hC7 := hC7.keep hb
    replace hcC7 := fun j => hC7.cell j
    replace hlC7 := hC7.lt
    replace hM7 := hM7.keep hb
    replace hcM7 := fun j => hM7.cell j
    replace hlM7 := hM7.lt
    replace hf := fr_call hf hb
    clear hb
    have HTX := Lib.hid (show almText ae acs anum aden aadd al = s from (dread_some HDR.out).1.symm)
    go_wp2_with fail
    refine (Print_ok A L acs.length c lc acs ae anum aden aadd al _ hrA (by omega) hrL (by omega) hok hmb hfa hT).mono ?_
    rintro e' w8 ⟨rfl, hb⟩
    replace hT := hT.keep hb
    replace hM := hM.keep hb
    replace hrA := hrA.keep hb
    replace hrL := hrL.keep hb
    replace hrA' := hrA'.keep hb
    replace hrL' := hrL'.keep hb
    replace hC3 := hC3.keep hb
    replace hcC3 := fun j => hC3.cell j
    replace hlC3 := hC3.lt
    replace hM3 := hM3.keep hb
    replace hcM3 := fun j => hM3.cell j
    replace hlM3 := hM3.lt
    replace hC7 := hC7.keep hb
    replace hcC7 := fun j => hC7.cell j
    replace hlC7 := hC7.lt
    replace hM7 := hM7.keep hb
    replace hcM7 := fun j => hM7.cell j
    replace hlM7 := hM7.lt
    replace hf := fr_call hf hb
    clear hb
    rw [HTX.out]
    go_wp2_with fail
    refine (rSameCalendar_is A A' acs.length c acs.length c' acs acs ae ae _ hrA hrA' (by omega) (by omega) true (by simp)).mono ?_
    rintro e' w10 ⟨rfl, hb⟩
    replace hT := hT.keep hb
    replace hM := hM.keep hb
    replace hrA := hrA.keep hb
    replace hrL := hrL.keep hb
    replace hrA' := hrA'.keep hb
    replace hrL' := hrL'.keep hb
    replace hC3 := hC3.keep hb
    replace hcC3 := fun j => hC3.cell j
    replace hlC3 := hC3.lt
    replace hM3 := hM3.keep hb
    replace hcM3 := fun j => hM3.cell j
    replace hlM3 := hM3.lt
    replace hC7 := hC7.keep hb
    replace hcC7 := fun j => hC7.cell j
    replace hlC7 := hC7.lt
    replace hM7 := hM7.keep hb
    replace hcM7 := fun j => hM7.cell j
    replace hlM7 := hM7.lt
    replace hf := fr_call hf hb
    clear hb
    go_wp2_with fail
    refine (rSameFacts_same L L' al.length lc lc' al _ hrL hrL' rfl (by omega)).mono ?_
    rintro e' w11 ⟨rfl, hb⟩
    replace hT := hT.keep hb
    replace hM := hM.keep hb
    replace hrA := hrA.keep hb
    replace hrL := hrL.keep hb
    replace hrA' := hrA'.keep hb
    replace hrL' := hrL'.keep hb
    replace hC3 := hC3.keep hb
    replace hcC3 := fun j => hC3.cell j
    replace hlC3 := hC3.lt
    replace hM3 := hM3.keep hb
    replace hcM3 := fun j => hM3.cell j
    replace hlM3 := hM3.lt
    replace hC7 := hC7.keep hb
    replace hcC7 := fun j => hC7.cell j
    replace hlC7 := hC7.lt
    replace hM7 := hM7.keep hb
    replace hcM7 := fun j => hM7.cell j
    replace hlM7 := hM7.lt
    replace hf := fr_call hf hb
    clear hb
    go_wp2_with fail
    refine (known_is _ hT).mono ?_
    rintro e' w12 ⟨rfl, hb⟩
    replace hT := hT.keep hb
    replace hM := hM.keep hb
    replace hrA := hrA.keep hb
    replace hrL := hrL.keep hb
    replace hrA' := hrA'.keep hb
    replace hrL' := hrL'.keep hb
    replace hC3 := hC3.keep hb
    replace hcC3 := fun j => hC3.cell j
    replace hlC3 := hC3.lt
    replace hM3 := hM3.keep hb
    replace hcM3 := fun j => hM3.cell j
    replace hlM3 := hM3.lt
    replace hC7 := hC7.keep hb
    replace hcC7 := fun j => hC7.cell j
    replace hlC7 := hC7.lt
    replace hM7 := hM7.keep hb
    replace hcM7 := fun j => hM7.cell j
    replace hlM7 := hM7.lt
    replace hf := fr_call hf hb
    clear hb
    go_wp2_with fail
    go_ret
    exact ⟨rfl, hf⟩
end Go.Proofs.YthjblcboainknaaGreatDoor
