/- The law of checks: DialSpoilt, walked (by laws_p.py). -/
import Derived.Test.YthjblcboainknaaGreatDoorMGT
import Derived.Laws.IdiomStrings
namespace Go.Proofs.YthjblcboainknaaGreatDoor
open Go.RowKit Dl
theorem bytes_laid (w : World) (tx : List UInt8) : ∃ (cap g : Nat) (W2 : World), (convert 9 44 (.string ⟨tx.toArray⟩)).run Tryz.prog w = .ok (.slice (some ⟨g, 0, none⟩) tx.length cap) W2 ∧ w.heap.size ≤ g ∧ Below w.heap.size w W2 ∧
  (∀ j, (hj : j < tx.length) → W2.cell? ⟨g, j, none⟩ = some (.int .u8 (tx[j].toNat : Int))) ∧ (∀ j, j < tx.length → W2.frozen? ⟨g, j, none⟩ = false) := by
 have h := run_bytes_of_string (P := Tryz.prog) w 9 44 5 ⟨tx.toArray⟩ Tryz.underlying9 Tryz.underlying44 Tryz.underlying5
 have hsz : (⟨tx.toArray⟩ : ByteArray).size = tx.length := by show tx.toArray.size = _; simp
 rw [hsz] at h
 generalize grownCap w tx.length 0 5 = cap at h
 have hC : ∀ j, (hj : j < tx.length) → (bytesRow ⟨tx.toArray⟩ cap)[j]? = some (.int .u8 (tx[j].toNat : Int)) := by
  intro j hj
  unfold bytesRow
  rw [Array.getElem?_append_left (by simpa using hj)]
  simp [hj]
 have hn : tx.length ≤ (bytesRow ⟨tx.toArray⟩ cap).size := by
  unfold bytesRow; simp
 generalize bytesRow ⟨tx.toArray⟩ cap = C at h hC hn
 refine ⟨cap, w.heap.size, _, h, Nat.le_refl _, fr_alloc (fr_drew (fr_refl w)) _, fun j hj => ?_, fun j hj => ?_⟩
 ·have := hC j hj
  unfold World.cell? World.alloc World.drew
  simp [this]
 ·unfold World.frozen? World.alloc World.drew
  simp
  omega
theorem bytes_conv (W : World) (g cap k : Nat) (tx : List UInt8) (dg : Int) (h0 : 0 ≤ dg) (h9 : dg ≤ 9) (hc : ∀ j, (hj : j < tx.length) → W.cell? ⟨g, j, none⟩ = some (.int .u8 (tx[j].toNat : Int))) :
  (convert 44 9 (.slice (some ⟨g, 0, none⟩) tx.length cap)).run Tryz.prog (W.setCell ⟨g, k, none⟩ (.int .u8 (48 + dg))) = .ok (.string ⟨(tx.set k (UInt8.ofNat (48 + dg.toNat))).toArray⟩) (W.setCell ⟨g, k, none⟩ (.int .u8 (48 + dg))) := by
 have hl : tx.length = (tx.set k (UInt8.ofNat (48 + dg.toNat))).length := by simp
 have key := run_convert_bytes_back (P := Tryz.prog) (W.setCell ⟨g, k, none⟩ (.int .u8 (48 + dg))) 44 9 5 ⟨g, 0, none⟩ cap (tx.set k (UInt8.ofNat (48 + dg.toNat))) Tryz.underlying44 Tryz.underlying5 Tryz.underlying9 (fun j hj => by
  have hj' : j < tx.length := by simpa using hj
  have e : (⟨g, 0, none⟩ : Addr).add j = ⟨g, j, none⟩ := by rw [add_lit, Nat.zero_add]
  rw [e]
  by_cases h : k = j
  ·subst h
   rw [World.cell?_setCell_same _ _ _ (hc k hj')]
   have : (UInt8.ofNat (48 + dg.toNat)).toNat = 48 + dg.toNat := UInt8.toNat_ofNat_of_lt (by show _ < 256; omega)
   simp only [List.getElem_set_self, this]
   congr 2
   omega
  ·rw [World.cell?_setCell_other _ _ _ _ (by intro e; cases e; exact h rfl), hc j hj']
   simp only [List.getElem_set_ne h])
 rw [← hl] at key
 exact key
theorem not_dig {c : UInt8} {n : Nat} (hn : c.toNat = n) (h1 : 48 ≤ n) (h2 : n ≤ 57) : digB c = true := by unfold digB; simp only [hn, Bool.and_eq_true, decide_eq_true_eq]; omega
set_option maxRecDepth 100000 in
set_option maxHeartbeats 16000000 in
theorem spoilt_ok (A L : Option Addr) (n c lc : Nat) (cs : List Int) (e num den add : Int) (l : List Fact) (x dg : Int) (w : World) (hr : Rd w A n cs) (hn : n ≤ 9223372036854775807) (hL : RdS w L 4 (l.map Fact.row)) (hln : l.length ≤ 9223372036854775807) (hT : TabP w) (hM : MaxP w) (hs : decide ((n : Int) ≤ 5) = true) (hso : decide ((l.length : Int) ≤ 8) = true) (hok : calOk e cs = true) (hm : moonB num den add = true) (hfa : factsB l = true) (hd0 : ¬ dg < 0) (hd9 : ¬ 9 < dg) (q1 : decide (dg < 0) = false) (q2 : decide (9 < dg) = false) :
  Calls Tryz.prog 5 #[.agg #[.int .i64 e, .slice A n c], .agg #[.int .i64 num, .int .i64 den, .int .i64 add], .slice L l.length lc, .int .i64 x, .int .i64 dg] w fun e' w' => e' = .returned (.bool true) ∧ Below w.heap.size w w' := by
 obtain ⟨tx, htx⟩ : ∃ tx, almText e cs num den add l = tx := ⟨_, rfl⟩
 have hvl := valid_len hok hm hfa
 have hvr := valid_read hok hm hfa
 rw [htx] at hvl hvr
 have HTX := Lib.hid htx
 clear htx
 have HVR := Lib.hid hvr
 clear hvr
 by_cases hx0 : x < 0
 ·have q3 : decide (x < 0) = true := decide_eq_true hx0
  have hf := fr_alloc (fr_alloc (fr_refl w) (.cells #[.int .i64 e, .slice A n c] 24)) (.cells #[.int .i64 num, .int .i64 den, .int .i64 add] 26)
  have hX : Blk ((w.alloc (.cells #[.int .i64 e, .slice A n c] 24)).alloc (.cells #[.int .i64 num, .int .i64 den, .int .i64 add] 26)) w.heap.size 24 #[.int .i64 e, .slice A n c] := (Blk.new w _ _).alloc _
  have hY : Blk ((w.alloc (.cells #[.int .i64 e, .slice A n c] 24)).alloc (.cells #[.int .i64 num, .int .i64 den, .int .i64 add] 26)) (w.heap.size + 1) 26 #[.int .i64 num, .int .i64 den, .int .i64 add] := Blk.new_at _ _ (by simp)
  replace hr := hr.keep hf
  replace hL := hL.keep hf
  replace hT := hT.keep hf
  replace hM := hM.keep hf
  have hcX := fun j => hX.cell j
  have hlX := hX.lt
  have hcY := fun j => hY.cell j
  have hlY := hY.lt
  go_enter Tryz.func5, Tryz.ntmps5
  go_wp2_with fail
  refine (lshort_is A n c _ _ true hs).mono ?_
  rintro e' w1 ⟨rfl, hb⟩
  replace hr := hr.keep hb
  replace hL := hL.keep hb
  replace hT := hT.keep hb
  replace hM := hM.keep hb
  replace hX := hX.keep hb
  replace hcX := fun j => hX.cell j
  replace hlX := hX.lt
  replace hY := hY.keep hb
  replace hcY := fun j => hY.cell j
  replace hlY := hY.lt
  replace hf := fr_call hf hb
  clear hb
  go_wp2_with fail
  refine (lsome_is L l.length lc _ true hso).mono ?_
  rintro e' w2 ⟨rfl, rfl⟩
  go_wp2_with fail
  refine (rCalendar_is A n c cs e _ hr hn _ hok).mono ?_
  rintro e' w3 ⟨rfl, hb⟩
  replace hr := hr.keep hb
  replace hL := hL.keep hb
  replace hT := hT.keep hb
  replace hM := hM.keep hb
  replace hX := hX.keep hb
  replace hcX := fun j => hX.cell j
  replace hlX := hX.lt
  replace hY := hY.keep hb
  replace hcY := fun j => hY.cell j
  replace hlY := hY.lt
  replace hf := fr_call hf hb
  clear hb
  go_wp2_with fail
  refine (rMoon_is _ _ _ _ _ hm).mono ?_
  rintro e' w4 ⟨rfl, hb⟩
  replace hr := hr.keep hb
  replace hL := hL.keep hb
  replace hT := hT.keep hb
  replace hM := hM.keep hb
  replace hX := hX.keep hb
  replace hcX := fun j => hX.cell j
  replace hlX := hX.lt
  replace hY := hY.keep hb
  replace hcY := fun j => hY.cell j
  replace hlY := hY.lt
  replace hf := fr_call hf hb
  clear hb
  go_wp2_with fail
  refine (rFacts_is L lc l _ hL hln _ hfa).mono ?_
  rintro e' w5 ⟨rfl, hb⟩
  replace hr := hr.keep hb
  replace hL := hL.keep hb
  replace hT := hT.keep hb
  replace hM := hM.keep hb
  replace hX := hX.keep hb
  replace hcX := fun j => hX.cell j
  replace hlX := hX.lt
  replace hY := hY.keep hb
  replace hcY := fun j => hY.cell j
  replace hlY := hY.lt
  replace hf := fr_call hf hb
  clear hb
  go_wp2_with fail
  refine (Print_ok A L n c lc cs e num den add l _ hr hn hL hln hok hm hfa hT).mono ?_
  rw [HTX.out]
  rintro e' w6 ⟨rfl, hb⟩
  replace hr := hr.keep hb
  replace hL := hL.keep hb
  replace hT := hT.keep hb
  replace hM := hM.keep hb
  replace hX := hX.keep hb
  replace hcX := fun j => hX.cell j
  replace hlX := hX.lt
  replace hY := hY.keep hb
  replace hcY := fun j => hY.cell j
  replace hlY := hY.lt
  replace hf := fr_call hf hb
  clear hb
  go_wp2_with fail
  refine (known_is _ hT).mono ?_
  rintro e' w7 ⟨rfl, hb⟩
  replace hr := hr.keep hb
  replace hL := hL.keep hb
  replace hT := hT.keep hb
  replace hM := hM.keep hb
  replace hX := hX.keep hb
  replace hcX := fun j => hX.cell j
  replace hlX := hX.lt
  replace hY := hY.keep hb
  replace hcY := fun j => hY.cell j
  replace hlY := hY.lt
  replace hf := fr_call hf hb
  clear hb
  go_wp2_with fail
  go_ret
  exact ⟨rfl, hf⟩
 ·have q3 : decide (x < 0) = false := decide_eq_false hx0
  obtain ⟨k, rfl⟩ := Int.eq_ofNat_of_zero_le (show 0 ≤ x by omega)
  clear q3 hx0
  have hf := fr_alloc (fr_alloc (fr_refl w) (.cells #[.int .i64 e, .slice A n c] 24)) (.cells #[.int .i64 num, .int .i64 den, .int .i64 add] 26)
  have hX : Blk ((w.alloc (.cells #[.int .i64 e, .slice A n c] 24)).alloc (.cells #[.int .i64 num, .int .i64 den, .int .i64 add] 26)) w.heap.size 24 #[.int .i64 e, .slice A n c] := (Blk.new w _ _).alloc _
  have hY : Blk ((w.alloc (.cells #[.int .i64 e, .slice A n c] 24)).alloc (.cells #[.int .i64 num, .int .i64 den, .int .i64 add] 26)) (w.heap.size + 1) 26 #[.int .i64 num, .int .i64 den, .int .i64 add] := Blk.new_at _ _ (by simp)
  replace hr := hr.keep hf
  replace hL := hL.keep hf
  replace hT := hT.keep hf
  replace hM := hM.keep hf
  have hcX := fun j => hX.cell j
  have hlX := hX.lt
  have hcY := fun j => hY.cell j
  have hlY := hY.lt
  go_enter Tryz.func5, Tryz.ntmps5
  go_wp2_with fail
  refine (lshort_is A n c _ _ true hs).mono ?_
  rintro e' w1 ⟨rfl, hb⟩
  replace hr := hr.keep hb
  replace hL := hL.keep hb
  replace hT := hT.keep hb
  replace hM := hM.keep hb
  replace hX := hX.keep hb
  replace hcX := fun j => hX.cell j
  replace hlX := hX.lt
  replace hY := hY.keep hb
  replace hcY := fun j => hY.cell j
  replace hlY := hY.lt
  replace hf := fr_call hf hb
  clear hb
  go_wp2_with fail
  refine (lsome_is L l.length lc _ true hso).mono ?_
  rintro e' w2 ⟨rfl, rfl⟩
  go_wp2_with fail
  refine (rCalendar_is A n c cs e _ hr hn _ hok).mono ?_
  rintro e' w3 ⟨rfl, hb⟩
  replace hr := hr.keep hb
  replace hL := hL.keep hb
  replace hT := hT.keep hb
  replace hM := hM.keep hb
  replace hX := hX.keep hb
  replace hcX := fun j => hX.cell j
  replace hlX := hX.lt
  replace hY := hY.keep hb
  replace hcY := fun j => hY.cell j
  replace hlY := hY.lt
  replace hf := fr_call hf hb
  clear hb
  go_wp2_with fail
  refine (rMoon_is _ _ _ _ _ hm).mono ?_
  rintro e' w4 ⟨rfl, hb⟩
  replace hr := hr.keep hb
  replace hL := hL.keep hb
  replace hT := hT.keep hb
  replace hM := hM.keep hb
  replace hX := hX.keep hb
  replace hcX := fun j => hX.cell j
  replace hlX := hX.lt
  replace hY := hY.keep hb
  replace hcY := fun j => hY.cell j
  replace hlY := hY.lt
  replace hf := fr_call hf hb
  clear hb
  go_wp2_with fail
  refine (rFacts_is L lc l _ hL hln _ hfa).mono ?_
  rintro e' w5 ⟨rfl, hb⟩
  replace hr := hr.keep hb
  replace hL := hL.keep hb
  replace hT := hT.keep hb
  replace hM := hM.keep hb
  replace hX := hX.keep hb
  replace hcX := fun j => hX.cell j
  replace hlX := hX.lt
  replace hY := hY.keep hb
  replace hcY := fun j => hY.cell j
  replace hlY := hY.lt
  replace hf := fr_call hf hb
  clear hb
  go_wp2_with fail
  refine (Print_ok A L n c lc cs e num den add l _ hr hn hL hln hok hm hfa hT).mono ?_
  rw [HTX.out]
  rintro e' w6 ⟨rfl, hb⟩
  replace hr := hr.keep hb
  replace hL := hL.keep hb
  replace hT := hT.keep hb
  replace hM := hM.keep hb
  replace hX := hX.keep hb
  replace hcX := fun j => hX.cell j
  replace hlX := hX.lt
  replace hY := hY.keep hb
  replace hcY := fun j => hY.cell j
  replace hlY := hY.lt
  replace hf := fr_call hf hb
  clear hb
  by_cases hk : tx.length ≤ k
  ·have q4 : decide ((tx.length : Int) ≤ (k : Int)) = true := decide_eq_true (by omega)
   have q5 : decide (tx.length ≤ k) = true := decide_eq_true hk
   go_wp2_with fail
   refine (known_is _ hT).mono ?_
   rintro e' w7 ⟨rfl, hb⟩
   replace hr := hr.keep hb
   replace hL := hL.keep hb
   replace hT := hT.keep hb
   replace hM := hM.keep hb
   replace hX := hX.keep hb
   replace hcX := fun j => hX.cell j
   replace hlX := hX.lt
   replace hY := hY.keep hb
   replace hcY := fun j => hY.cell j
   replace hlY := hY.lt
   replace hf := fr_call hf hb
   clear hb
   go_wp2_with fail
   go_ret
   exact ⟨rfl, hf⟩
  ·have q4 : decide ((tx.length : Int) ≤ (k : Int)) = false := decide_eq_false (by omega)
   have q5 : decide (tx.length ≤ k) = false := decide_eq_false hk
   have hlt : k < tx.length := by omega
   have hks : k < (⟨tx.toArray⟩ : ByteArray).size := by show k < tx.toArray.size; simpa using hlt
   obtain ⟨b, hb⟩ : ∃ b, tx[k] = b := ⟨_, rfl⟩
   have hbs : (⟨tx.toArray⟩ : ByteArray)[k]'hks = b := by
    show tx.toArray[k] = b
    simp
    exact hb
   have HB := Lib.hid hb
   obtain ⟨z, hz⟩ : ∃ z, b.toNat = z := ⟨_, rfl⟩
   have hz255 : z < 256 := by rw [← hz]; exact b.toNat_lt
   have HZ := Lib.hid hz
   clear hb
   by_cases h48 : z < 48
   ·have hd1 : decide ((z : Int) < 48) = true := decide_eq_true (by omega)
    have hd2 : (z : Int) < 48 := by omega
    go_wp2_with fail
    refine (known_is _ hT).mono ?_
    rintro e' w7 ⟨rfl, hb⟩
    replace hr := hr.keep hb
    replace hL := hL.keep hb
    replace hT := hT.keep hb
    replace hM := hM.keep hb
    replace hX := hX.keep hb
    replace hcX := fun j => hX.cell j
    replace hlX := hX.lt
    replace hY := hY.keep hb
    replace hcY := fun j => hY.cell j
    replace hlY := hY.lt
    replace hf := fr_call hf hb
    clear hb
    go_wp2_with fail
    go_ret
    exact ⟨rfl, hf⟩
   ·have hd1 : decide ((z : Int) < 48) = false := decide_eq_false (by omega)
    have hd2 : ¬ (z : Int) < 48 := by omega
    by_cases h57 : 57 < z
    ·have hd3 : decide ((57 : Int) < (z : Int)) = true := decide_eq_true (by omega)
     have hd4 : (57 : Int) < (z : Int) := by omega
     go_wp2_with fail
     refine (known_is _ hT).mono ?_
     rintro e' w7 ⟨rfl, hb⟩
     replace hr := hr.keep hb
     replace hL := hL.keep hb
     replace hT := hT.keep hb
     replace hM := hM.keep hb
     replace hX := hX.keep hb
     replace hcX := fun j => hX.cell j
     replace hlX := hX.lt
     replace hY := hY.keep hb
     replace hcY := fun j => hY.cell j
     replace hlY := hY.lt
     replace hf := fr_call hf hb
     clear hb
     go_wp2_with fail
     go_ret
     exact ⟨rfl, hf⟩
    ·have hd3 : decide ((57 : Int) < (z : Int)) = false := decide_eq_false (by omega)
     have hd4 : ¬ (57 : Int) < (z : Int) := by omega
     by_cases hdg : (z : Int) - 48 = dg
     ·have hd5 : ((z : Int) - 48 == dg) = true := beq_iff_eq.2 hdg
      have HDG := Lib.hid hdg
      clear hdg
      go_wp2_with fail
      refine (known_is _ hT).mono ?_
      rintro e' w7 ⟨rfl, hb⟩
      replace hr := hr.keep hb
      replace hL := hL.keep hb
      replace hT := hT.keep hb
      replace hM := hM.keep hb
      replace hX := hX.keep hb
      replace hcX := fun j => hX.cell j
      replace hlX := hX.lt
      replace hY := hY.keep hb
      replace hcY := fun j => hY.cell j
      replace hlY := hY.lt
      replace hf := fr_call hf hb
      clear hb
      go_wp2_with fail
      go_ret
      exact ⟨rfl, hf⟩
     ·have hd5 : ((z : Int) - 48 == dg) = false := beq_eq_false_iff_ne.2 hdg
      have HDG := Lib.hid hdg
      clear hdg
      have hsp : dread (tx.set k (UInt8.ofNat (48 + dg.toNat))) = none := by
       have hd : (UInt8.ofNat (48 + dg.toNat)).toNat = 48 + dg.toNat := UInt8.toNat_ofNat_of_lt (by show _ < 256; omega)
       have htx := HTX.out
       subst htx
       refine valid_spoilt hok hm hfa hlt (not_dig hd (by omega) (by omega)) (by rw [HB.out]; exact not_dig HZ.out (by omega) (by omega)) (fun e => ?_)
       rw [HB.out] at e
       have h1 := HDG.out
       have h2 := HZ.out
       rw [← e, hd] at h2
       omega
      have hsl : (tx.set k (UInt8.ofNat (48 + dg.toNat))).length ≤ 300 := by rw [List.length_set]; exact hvl
      obtain ⟨cap, g, W2, hconv, hg, hb2, hcell, hfz⟩ := bytes_laid w6 tx
      have hback := bytes_conv W2 g cap k tx dg (by omega) (by omega) hcell
      have hc0 := hcell k hlt
      have hz0 := hfz k hlt
      obtain ⟨ts, hts⟩ : ∃ ts, tx.set k (UInt8.ofNat (48 + dg.toNat)) = ts := ⟨_, rfl⟩
      rw [hts] at hsp hsl hback
      clear hcell hfz hts
      have hb3 := hb2.setCell (p := ⟨g, k, none⟩) hg (.int .u8 (48 + dg))
      have hT3 := hT.keep hb3
      have hM3 := hM.keep hb3
      have hf3 := fr_call hf hb3
      have HSP := Lib.hid hsp
      clear hsp hb2 hb3 hT hM hr hL hf hX hY hcX hcY hlX hlY
      go_wp2_with fail
      refine (Read_spoilt hsl HSP.out _ hT3 hM3).mono ?_
      rintro e' w7 ⟨rfl, hb⟩
      have hT := hT3.keep hb
      have hM := hM3.keep hb
      have hf := fr_call hf3 hb
      clear hb hT3 hM3 hf3 hconv hback hc0 hz0
      unfold readE
      have hN1 : Blk ((w7.alloc (.cells #[.int .i64 0, .slice none 0 0] 24)).alloc (.cells #[.int .i64 0, .int .i64 0, .int .i64 0] 26)) w7.heap.size 24 #[.int .i64 0, .slice none 0 0] := (Blk.new w7 _ _).alloc _
      have hN2 : Blk ((w7.alloc (.cells #[.int .i64 0, .slice none 0 0] 24)).alloc (.cells #[.int .i64 0, .int .i64 0, .int .i64 0] 26)) (w7.heap.size + 1) 26 #[.int .i64 0, .int .i64 0, .int .i64 0] := Blk.new_at _ _ (by simp)
      have hg2 := fr_alloc (fr_alloc (fr_refl w7) (.cells #[.int .i64 0, .slice none 0 0] 24)) (.cells #[.int .i64 0, .int .i64 0, .int .i64 0] 26)
      go_wp2_with (first | (refine wpList_store_blk rfl _ _ _ rfl w7.heap.size 24 _ _ rfl rfl hN1 rfl (by kernel_rfl) (by simp [Value.oneCell']) ?_; intro Wa hCa hga; have hMa := hN2.grown hga (by simp)) | (refine wpList_store_blk rfl _ _ _ rfl (w7.heap.size + 1) 26 _ _ rfl rfl hMa rfl (by kernel_rfl) (by simp [Value.oneCell']) ?_; intro w8 hM9 hgb; have hC9 := hCa.grown hgb (by simp); have hb12 : Below w7.heap.size w7 w8 := (hg2.grown hga hg2.size (by intro k hk; cases hk; omega)).grown hgb (hg2.grown hga hg2.size (by intro k hk; cases hk; omega)).size (by intro k hk; cases hk; omega); replace hT := hT.keep hb12; replace hM := hM.keep hb12; replace hf := fr_call hf hb12; have hcC9 := fun j => hC9.cell j; have hlC9 := hC9.lt; have hcM9 := fun j => hM9.cell j; have hlM9 := hM9.lt; clear hb12 hN1 hN2 hg2 hga hgb hCa hMa))
      refine (rSameCalendar_is none none 0 0 0 0 [] [] 0 0 _ (Rd.nil_ _ _) (Rd.nil_ _ _) (by omega) (by omega) true rfl).mono ?_
      rintro e' w9 ⟨rfl, hb⟩
      replace hT := hT.keep hb
      replace hM := hM.keep hb
      replace hC9 := hC9.keep hb
      replace hcC9 := fun j => hC9.cell j
      replace hlC9 := hC9.lt
      replace hM9 := hM9.keep hb
      replace hcM9 := fun j => hM9.cell j
      replace hlM9 := hM9.lt
      replace hf := fr_call hf hb
      clear hb
      go_wp2_with fail
      refine (known_is _ hT).mono ?_
      rintro e' w10 ⟨rfl, hb⟩
      replace hT := hT.keep hb
      replace hM := hM.keep hb
      replace hC9 := hC9.keep hb
      replace hcC9 := fun j => hC9.cell j
      replace hlC9 := hC9.lt
      replace hM9 := hM9.keep hb
      replace hcM9 := fun j => hM9.cell j
      replace hlM9 := hM9.lt
      replace hf := fr_call hf hb
      clear hb
      go_wp2_with fail
      go_ret
      exact ⟨rfl, hf⟩
set_option maxRecDepth 100000 in
set_option maxHeartbeats 16000000 in
theorem spoilt_true (A L : Option Addr) (n c lc : Nat) (cs : List Int) (e num den add : Int) (l : List Fact) (x dg : Int) (w : World) (hr : Rd w A n cs) (hn : n ≤ 9223372036854775807) (hL : RdS w L 4 (l.map Fact.row)) (hln : l.length ≤ 9223372036854775807) (hT : TabP w) (hM : MaxP w) :
  Calls Tryz.prog 5 #[.agg #[.int .i64 e, .slice A n c], .agg #[.int .i64 num, .int .i64 den, .int .i64 add], .slice L l.length lc, .int .i64 x, .int .i64 dg] w fun e' w' => e' = .returned (.bool true) ∧ Below w.heap.size w w' := by
 cases hs : decide ((n : Int) ≤ 5)
 ·have hf := fr_alloc (fr_alloc (fr_refl w) (.cells #[.int .i64 e, .slice A n c] 24)) (.cells #[.int .i64 num, .int .i64 den, .int .i64 add] 26)
  have hX : Blk ((w.alloc (.cells #[.int .i64 e, .slice A n c] 24)).alloc (.cells #[.int .i64 num, .int .i64 den, .int .i64 add] 26)) w.heap.size 24 #[.int .i64 e, .slice A n c] := (Blk.new w _ _).alloc _
  have hY : Blk ((w.alloc (.cells #[.int .i64 e, .slice A n c] 24)).alloc (.cells #[.int .i64 num, .int .i64 den, .int .i64 add] 26)) (w.heap.size + 1) 26 #[.int .i64 num, .int .i64 den, .int .i64 add] := Blk.new_at _ _ (by simp)
  replace hr := hr.keep hf
  replace hL := hL.keep hf
  replace hT := hT.keep hf
  replace hM := hM.keep hf
  have hcX := fun j => hX.cell j
  have hlX := hX.lt
  have hcY := fun j => hY.cell j
  have hlY := hY.lt
  go_enter Tryz.func5, Tryz.ntmps5
  go_wp2_with fail
  refine (lshort_is A n c _ _ false hs).mono ?_
  rintro e' w1 ⟨rfl, hb⟩
  replace hr := hr.keep hb
  replace hL := hL.keep hb
  replace hT := hT.keep hb
  replace hM := hM.keep hb
  replace hX := hX.keep hb
  replace hcX := fun j => hX.cell j
  replace hlX := hX.lt
  replace hY := hY.keep hb
  replace hcY := fun j => hY.cell j
  replace hlY := hY.lt
  replace hf := fr_call hf hb
  clear hb
  go_wp2_with fail
  refine (known_is _ hT).mono ?_
  rintro e' w2 ⟨rfl, hb⟩
  replace hr := hr.keep hb
  replace hL := hL.keep hb
  replace hT := hT.keep hb
  replace hM := hM.keep hb
  replace hX := hX.keep hb
  replace hcX := fun j => hX.cell j
  replace hlX := hX.lt
  replace hY := hY.keep hb
  replace hcY := fun j => hY.cell j
  replace hlY := hY.lt
  replace hf := fr_call hf hb
  clear hb
  go_wp2_with fail
  go_ret
  exact ⟨rfl, hf⟩
 ·cases hso : decide ((l.length : Int) ≤ 8)
  ·have hf := fr_alloc (fr_alloc (fr_refl w) (.cells #[.int .i64 e, .slice A n c] 24)) (.cells #[.int .i64 num, .int .i64 den, .int .i64 add] 26)
   have hX : Blk ((w.alloc (.cells #[.int .i64 e, .slice A n c] 24)).alloc (.cells #[.int .i64 num, .int .i64 den, .int .i64 add] 26)) w.heap.size 24 #[.int .i64 e, .slice A n c] := (Blk.new w _ _).alloc _
   have hY : Blk ((w.alloc (.cells #[.int .i64 e, .slice A n c] 24)).alloc (.cells #[.int .i64 num, .int .i64 den, .int .i64 add] 26)) (w.heap.size + 1) 26 #[.int .i64 num, .int .i64 den, .int .i64 add] := Blk.new_at _ _ (by simp)
   replace hr := hr.keep hf
   replace hL := hL.keep hf
   replace hT := hT.keep hf
   replace hM := hM.keep hf
   have hcX := fun j => hX.cell j
   have hlX := hX.lt
   have hcY := fun j => hY.cell j
   have hlY := hY.lt
   go_enter Tryz.func5, Tryz.ntmps5
   go_wp2_with fail
   refine (lshort_is A n c _ _ true hs).mono ?_
   rintro e' w1 ⟨rfl, hb⟩
   replace hr := hr.keep hb
   replace hL := hL.keep hb
   replace hT := hT.keep hb
   replace hM := hM.keep hb
   replace hX := hX.keep hb
   replace hcX := fun j => hX.cell j
   replace hlX := hX.lt
   replace hY := hY.keep hb
   replace hcY := fun j => hY.cell j
   replace hlY := hY.lt
   replace hf := fr_call hf hb
   clear hb
   go_wp2_with fail
   refine (lsome_is L l.length lc _ false hso).mono ?_
   rintro e' w2 ⟨rfl, rfl⟩
   go_wp2_with fail
   refine (known_is _ hT).mono ?_
   rintro e' w3 ⟨rfl, hb⟩
   replace hr := hr.keep hb
   replace hL := hL.keep hb
   replace hT := hT.keep hb
   replace hM := hM.keep hb
   replace hX := hX.keep hb
   replace hcX := fun j => hX.cell j
   replace hlX := hX.lt
   replace hY := hY.keep hb
   replace hcY := fun j => hY.cell j
   replace hlY := hY.lt
   replace hf := fr_call hf hb
   clear hb
   go_wp2_with fail
   go_ret
   exact ⟨rfl, hf⟩
  ·cases hok : calOk e cs
   ·have hf := fr_alloc (fr_alloc (fr_refl w) (.cells #[.int .i64 e, .slice A n c] 24)) (.cells #[.int .i64 num, .int .i64 den, .int .i64 add] 26)
    have hX : Blk ((w.alloc (.cells #[.int .i64 e, .slice A n c] 24)).alloc (.cells #[.int .i64 num, .int .i64 den, .int .i64 add] 26)) w.heap.size 24 #[.int .i64 e, .slice A n c] := (Blk.new w _ _).alloc _
    have hY : Blk ((w.alloc (.cells #[.int .i64 e, .slice A n c] 24)).alloc (.cells #[.int .i64 num, .int .i64 den, .int .i64 add] 26)) (w.heap.size + 1) 26 #[.int .i64 num, .int .i64 den, .int .i64 add] := Blk.new_at _ _ (by simp)
    replace hr := hr.keep hf
    replace hL := hL.keep hf
    replace hT := hT.keep hf
    replace hM := hM.keep hf
    have hcX := fun j => hX.cell j
    have hlX := hX.lt
    have hcY := fun j => hY.cell j
    have hlY := hY.lt
    go_enter Tryz.func5, Tryz.ntmps5
    go_wp2_with fail
    refine (lshort_is A n c _ _ true hs).mono ?_
    rintro e' w1 ⟨rfl, hb⟩
    replace hr := hr.keep hb
    replace hL := hL.keep hb
    replace hT := hT.keep hb
    replace hM := hM.keep hb
    replace hX := hX.keep hb
    replace hcX := fun j => hX.cell j
    replace hlX := hX.lt
    replace hY := hY.keep hb
    replace hcY := fun j => hY.cell j
    replace hlY := hY.lt
    replace hf := fr_call hf hb
    clear hb
    go_wp2_with fail
    refine (lsome_is L l.length lc _ true hso).mono ?_
    rintro e' w2 ⟨rfl, rfl⟩
    go_wp2_with fail
    refine (rCalendar_is A n c cs e _ hr hn _ hok).mono ?_
    rintro e' w3 ⟨rfl, hb⟩
    replace hr := hr.keep hb
    replace hL := hL.keep hb
    replace hT := hT.keep hb
    replace hM := hM.keep hb
    replace hX := hX.keep hb
    replace hcX := fun j => hX.cell j
    replace hlX := hX.lt
    replace hY := hY.keep hb
    replace hcY := fun j => hY.cell j
    replace hlY := hY.lt
    replace hf := fr_call hf hb
    clear hb
    go_wp2_with fail
    refine (known_is _ hT).mono ?_
    rintro e' w4 ⟨rfl, hb⟩
    replace hr := hr.keep hb
    replace hL := hL.keep hb
    replace hT := hT.keep hb
    replace hM := hM.keep hb
    replace hX := hX.keep hb
    replace hcX := fun j => hX.cell j
    replace hlX := hX.lt
    replace hY := hY.keep hb
    replace hcY := fun j => hY.cell j
    replace hlY := hY.lt
    replace hf := fr_call hf hb
    clear hb
    go_wp2_with fail
    go_ret
    exact ⟨rfl, hf⟩
   ·cases hm : moonB num den add
    ·have hf := fr_alloc (fr_alloc (fr_refl w) (.cells #[.int .i64 e, .slice A n c] 24)) (.cells #[.int .i64 num, .int .i64 den, .int .i64 add] 26)
     have hX : Blk ((w.alloc (.cells #[.int .i64 e, .slice A n c] 24)).alloc (.cells #[.int .i64 num, .int .i64 den, .int .i64 add] 26)) w.heap.size 24 #[.int .i64 e, .slice A n c] := (Blk.new w _ _).alloc _
     have hY : Blk ((w.alloc (.cells #[.int .i64 e, .slice A n c] 24)).alloc (.cells #[.int .i64 num, .int .i64 den, .int .i64 add] 26)) (w.heap.size + 1) 26 #[.int .i64 num, .int .i64 den, .int .i64 add] := Blk.new_at _ _ (by simp)
     replace hr := hr.keep hf
     replace hL := hL.keep hf
     replace hT := hT.keep hf
     replace hM := hM.keep hf
     have hcX := fun j => hX.cell j
     have hlX := hX.lt
     have hcY := fun j => hY.cell j
     have hlY := hY.lt
     go_enter Tryz.func5, Tryz.ntmps5
     go_wp2_with fail
     refine (lshort_is A n c _ _ true hs).mono ?_
     rintro e' w1 ⟨rfl, hb⟩
     replace hr := hr.keep hb
     replace hL := hL.keep hb
     replace hT := hT.keep hb
     replace hM := hM.keep hb
     replace hX := hX.keep hb
     replace hcX := fun j => hX.cell j
     replace hlX := hX.lt
     replace hY := hY.keep hb
     replace hcY := fun j => hY.cell j
     replace hlY := hY.lt
     replace hf := fr_call hf hb
     clear hb
     go_wp2_with fail
     refine (lsome_is L l.length lc _ true hso).mono ?_
     rintro e' w2 ⟨rfl, rfl⟩
     go_wp2_with fail
     refine (rCalendar_is A n c cs e _ hr hn _ hok).mono ?_
     rintro e' w3 ⟨rfl, hb⟩
     replace hr := hr.keep hb
     replace hL := hL.keep hb
     replace hT := hT.keep hb
     replace hM := hM.keep hb
     replace hX := hX.keep hb
     replace hcX := fun j => hX.cell j
     replace hlX := hX.lt
     replace hY := hY.keep hb
     replace hcY := fun j => hY.cell j
     replace hlY := hY.lt
     replace hf := fr_call hf hb
     clear hb
     go_wp2_with fail
     refine (rMoon_is _ _ _ _ _ hm).mono ?_
     rintro e' w4 ⟨rfl, hb⟩
     replace hr := hr.keep hb
     replace hL := hL.keep hb
     replace hT := hT.keep hb
     replace hM := hM.keep hb
     replace hX := hX.keep hb
     replace hcX := fun j => hX.cell j
     replace hlX := hX.lt
     replace hY := hY.keep hb
     replace hcY := fun j => hY.cell j
     replace hlY := hY.lt
     replace hf := fr_call hf hb
     clear hb
     go_wp2_with fail
     refine (known_is _ hT).mono ?_
     rintro e' w5 ⟨rfl, hb⟩
     replace hr := hr.keep hb
     replace hL := hL.keep hb
     replace hT := hT.keep hb
     replace hM := hM.keep hb
     replace hX := hX.keep hb
     replace hcX := fun j => hX.cell j
     replace hlX := hX.lt
     replace hY := hY.keep hb
     replace hcY := fun j => hY.cell j
     replace hlY := hY.lt
     replace hf := fr_call hf hb
     clear hb
     go_wp2_with fail
     go_ret
     exact ⟨rfl, hf⟩
    ·cases hfa : factsB l
     ·have hf := fr_alloc (fr_alloc (fr_refl w) (.cells #[.int .i64 e, .slice A n c] 24)) (.cells #[.int .i64 num, .int .i64 den, .int .i64 add] 26)
      have hX : Blk ((w.alloc (.cells #[.int .i64 e, .slice A n c] 24)).alloc (.cells #[.int .i64 num, .int .i64 den, .int .i64 add] 26)) w.heap.size 24 #[.int .i64 e, .slice A n c] := (Blk.new w _ _).alloc _
      have hY : Blk ((w.alloc (.cells #[.int .i64 e, .slice A n c] 24)).alloc (.cells #[.int .i64 num, .int .i64 den, .int .i64 add] 26)) (w.heap.size + 1) 26 #[.int .i64 num, .int .i64 den, .int .i64 add] := Blk.new_at _ _ (by simp)
      replace hr := hr.keep hf
      replace hL := hL.keep hf
      replace hT := hT.keep hf
      replace hM := hM.keep hf
      have hcX := fun j => hX.cell j
      have hlX := hX.lt
      have hcY := fun j => hY.cell j
      have hlY := hY.lt
      go_enter Tryz.func5, Tryz.ntmps5
      go_wp2_with fail
      refine (lshort_is A n c _ _ true hs).mono ?_
      rintro e' w1 ⟨rfl, hb⟩
      replace hr := hr.keep hb
      replace hL := hL.keep hb
      replace hT := hT.keep hb
      replace hM := hM.keep hb
      replace hX := hX.keep hb
      replace hcX := fun j => hX.cell j
      replace hlX := hX.lt
      replace hY := hY.keep hb
      replace hcY := fun j => hY.cell j
      replace hlY := hY.lt
      replace hf := fr_call hf hb
      clear hb
      go_wp2_with fail
      refine (lsome_is L l.length lc _ true hso).mono ?_
      rintro e' w2 ⟨rfl, rfl⟩
      go_wp2_with fail
      refine (rCalendar_is A n c cs e _ hr hn _ hok).mono ?_
      rintro e' w3 ⟨rfl, hb⟩
      replace hr := hr.keep hb
      replace hL := hL.keep hb
      replace hT := hT.keep hb
      replace hM := hM.keep hb
      replace hX := hX.keep hb
      replace hcX := fun j => hX.cell j
      replace hlX := hX.lt
      replace hY := hY.keep hb
      replace hcY := fun j => hY.cell j
      replace hlY := hY.lt
      replace hf := fr_call hf hb
      clear hb
      go_wp2_with fail
      refine (rMoon_is _ _ _ _ _ hm).mono ?_
      rintro e' w4 ⟨rfl, hb⟩
      replace hr := hr.keep hb
      replace hL := hL.keep hb
      replace hT := hT.keep hb
      replace hM := hM.keep hb
      replace hX := hX.keep hb
      replace hcX := fun j => hX.cell j
      replace hlX := hX.lt
      replace hY := hY.keep hb
      replace hcY := fun j => hY.cell j
      replace hlY := hY.lt
      replace hf := fr_call hf hb
      clear hb
      go_wp2_with fail
      refine (rFacts_is L lc l _ hL hln _ hfa).mono ?_
      rintro e' w5 ⟨rfl, hb⟩
      replace hr := hr.keep hb
      replace hL := hL.keep hb
      replace hT := hT.keep hb
      replace hM := hM.keep hb
      replace hX := hX.keep hb
      replace hcX := fun j => hX.cell j
      replace hlX := hX.lt
      replace hY := hY.keep hb
      replace hcY := fun j => hY.cell j
      replace hlY := hY.lt
      replace hf := fr_call hf hb
      clear hb
      go_wp2_with fail
      refine (known_is _ hT).mono ?_
      rintro e' w6 ⟨rfl, hb⟩
      replace hr := hr.keep hb
      replace hL := hL.keep hb
      replace hT := hT.keep hb
      replace hM := hM.keep hb
      replace hX := hX.keep hb
      replace hcX := fun j => hX.cell j
      replace hlX := hX.lt
      replace hY := hY.keep hb
      replace hcY := fun j => hY.cell j
      replace hlY := hY.lt
      replace hf := fr_call hf hb
      clear hb
      go_wp2_with fail
      go_ret
      exact ⟨rfl, hf⟩
     ·by_cases hd0 : dg < 0
      ·have q1 : decide (dg < 0) = true := decide_eq_true hd0
       have hf := fr_alloc (fr_alloc (fr_refl w) (.cells #[.int .i64 e, .slice A n c] 24)) (.cells #[.int .i64 num, .int .i64 den, .int .i64 add] 26)
       have hX : Blk ((w.alloc (.cells #[.int .i64 e, .slice A n c] 24)).alloc (.cells #[.int .i64 num, .int .i64 den, .int .i64 add] 26)) w.heap.size 24 #[.int .i64 e, .slice A n c] := (Blk.new w _ _).alloc _
       have hY : Blk ((w.alloc (.cells #[.int .i64 e, .slice A n c] 24)).alloc (.cells #[.int .i64 num, .int .i64 den, .int .i64 add] 26)) (w.heap.size + 1) 26 #[.int .i64 num, .int .i64 den, .int .i64 add] := Blk.new_at _ _ (by simp)
       replace hr := hr.keep hf
       replace hL := hL.keep hf
       replace hT := hT.keep hf
       replace hM := hM.keep hf
       have hcX := fun j => hX.cell j
       have hlX := hX.lt
       have hcY := fun j => hY.cell j
       have hlY := hY.lt
       go_enter Tryz.func5, Tryz.ntmps5
       go_wp2_with fail
       refine (lshort_is A n c _ _ true hs).mono ?_
       rintro e' w1 ⟨rfl, hb⟩
       replace hr := hr.keep hb
       replace hL := hL.keep hb
       replace hT := hT.keep hb
       replace hM := hM.keep hb
       replace hX := hX.keep hb
       replace hcX := fun j => hX.cell j
       replace hlX := hX.lt
       replace hY := hY.keep hb
       replace hcY := fun j => hY.cell j
       replace hlY := hY.lt
       replace hf := fr_call hf hb
       clear hb
       go_wp2_with fail
       refine (lsome_is L l.length lc _ true hso).mono ?_
       rintro e' w2 ⟨rfl, rfl⟩
       go_wp2_with fail
       refine (rCalendar_is A n c cs e _ hr hn _ hok).mono ?_
       rintro e' w3 ⟨rfl, hb⟩
       replace hr := hr.keep hb
       replace hL := hL.keep hb
       replace hT := hT.keep hb
       replace hM := hM.keep hb
       replace hX := hX.keep hb
       replace hcX := fun j => hX.cell j
       replace hlX := hX.lt
       replace hY := hY.keep hb
       replace hcY := fun j => hY.cell j
       replace hlY := hY.lt
       replace hf := fr_call hf hb
       clear hb
       go_wp2_with fail
       refine (rMoon_is _ _ _ _ _ hm).mono ?_
       rintro e' w4 ⟨rfl, hb⟩
       replace hr := hr.keep hb
       replace hL := hL.keep hb
       replace hT := hT.keep hb
       replace hM := hM.keep hb
       replace hX := hX.keep hb
       replace hcX := fun j => hX.cell j
       replace hlX := hX.lt
       replace hY := hY.keep hb
       replace hcY := fun j => hY.cell j
       replace hlY := hY.lt
       replace hf := fr_call hf hb
       clear hb
       go_wp2_with fail
       refine (rFacts_is L lc l _ hL hln _ hfa).mono ?_
       rintro e' w5 ⟨rfl, hb⟩
       replace hr := hr.keep hb
       replace hL := hL.keep hb
       replace hT := hT.keep hb
       replace hM := hM.keep hb
       replace hX := hX.keep hb
       replace hcX := fun j => hX.cell j
       replace hlX := hX.lt
       replace hY := hY.keep hb
       replace hcY := fun j => hY.cell j
       replace hlY := hY.lt
       replace hf := fr_call hf hb
       clear hb
       go_wp2_with fail
       refine (known_is _ hT).mono ?_
       rintro e' w6 ⟨rfl, hb⟩
       replace hr := hr.keep hb
       replace hL := hL.keep hb
       replace hT := hT.keep hb
       replace hM := hM.keep hb
       replace hX := hX.keep hb
       replace hcX := fun j => hX.cell j
       replace hlX := hX.lt
       replace hY := hY.keep hb
       replace hcY := fun j => hY.cell j
       replace hlY := hY.lt
       replace hf := fr_call hf hb
       clear hb
       go_wp2_with fail
       go_ret
       exact ⟨rfl, hf⟩
      ·have q1 : decide (dg < 0) = false := decide_eq_false hd0
       by_cases hd9 : 9 < dg
       ·have q2 : decide (9 < dg) = true := decide_eq_true hd9
        have hf := fr_alloc (fr_alloc (fr_refl w) (.cells #[.int .i64 e, .slice A n c] 24)) (.cells #[.int .i64 num, .int .i64 den, .int .i64 add] 26)
        have hX : Blk ((w.alloc (.cells #[.int .i64 e, .slice A n c] 24)).alloc (.cells #[.int .i64 num, .int .i64 den, .int .i64 add] 26)) w.heap.size 24 #[.int .i64 e, .slice A n c] := (Blk.new w _ _).alloc _
        have hY : Blk ((w.alloc (.cells #[.int .i64 e, .slice A n c] 24)).alloc (.cells #[.int .i64 num, .int .i64 den, .int .i64 add] 26)) (w.heap.size + 1) 26 #[.int .i64 num, .int .i64 den, .int .i64 add] := Blk.new_at _ _ (by simp)
        replace hr := hr.keep hf
        replace hL := hL.keep hf
        replace hT := hT.keep hf
        replace hM := hM.keep hf
        have hcX := fun j => hX.cell j
        have hlX := hX.lt
        have hcY := fun j => hY.cell j
        have hlY := hY.lt
        go_enter Tryz.func5, Tryz.ntmps5
        go_wp2_with fail
        refine (lshort_is A n c _ _ true hs).mono ?_
        rintro e' w1 ⟨rfl, hb⟩
        replace hr := hr.keep hb
        replace hL := hL.keep hb
        replace hT := hT.keep hb
        replace hM := hM.keep hb
        replace hX := hX.keep hb
        replace hcX := fun j => hX.cell j
        replace hlX := hX.lt
        replace hY := hY.keep hb
        replace hcY := fun j => hY.cell j
        replace hlY := hY.lt
        replace hf := fr_call hf hb
        clear hb
        go_wp2_with fail
        refine (lsome_is L l.length lc _ true hso).mono ?_
        rintro e' w2 ⟨rfl, rfl⟩
        go_wp2_with fail
        refine (rCalendar_is A n c cs e _ hr hn _ hok).mono ?_
        rintro e' w3 ⟨rfl, hb⟩
        replace hr := hr.keep hb
        replace hL := hL.keep hb
        replace hT := hT.keep hb
        replace hM := hM.keep hb
        replace hX := hX.keep hb
        replace hcX := fun j => hX.cell j
        replace hlX := hX.lt
        replace hY := hY.keep hb
        replace hcY := fun j => hY.cell j
        replace hlY := hY.lt
        replace hf := fr_call hf hb
        clear hb
        go_wp2_with fail
        refine (rMoon_is _ _ _ _ _ hm).mono ?_
        rintro e' w4 ⟨rfl, hb⟩
        replace hr := hr.keep hb
        replace hL := hL.keep hb
        replace hT := hT.keep hb
        replace hM := hM.keep hb
        replace hX := hX.keep hb
        replace hcX := fun j => hX.cell j
        replace hlX := hX.lt
        replace hY := hY.keep hb
        replace hcY := fun j => hY.cell j
        replace hlY := hY.lt
        replace hf := fr_call hf hb
        clear hb
        go_wp2_with fail
        refine (rFacts_is L lc l _ hL hln _ hfa).mono ?_
        rintro e' w5 ⟨rfl, hb⟩
        replace hr := hr.keep hb
        replace hL := hL.keep hb
        replace hT := hT.keep hb
        replace hM := hM.keep hb
        replace hX := hX.keep hb
        replace hcX := fun j => hX.cell j
        replace hlX := hX.lt
        replace hY := hY.keep hb
        replace hcY := fun j => hY.cell j
        replace hlY := hY.lt
        replace hf := fr_call hf hb
        clear hb
        go_wp2_with fail
        refine (known_is _ hT).mono ?_
        rintro e' w6 ⟨rfl, hb⟩
        replace hr := hr.keep hb
        replace hL := hL.keep hb
        replace hT := hT.keep hb
        replace hM := hM.keep hb
        replace hX := hX.keep hb
        replace hcX := fun j => hX.cell j
        replace hlX := hX.lt
        replace hY := hY.keep hb
        replace hcY := fun j => hY.cell j
        replace hlY := hY.lt
        replace hf := fr_call hf hb
        clear hb
        go_wp2_with fail
        go_ret
        exact ⟨rfl, hf⟩
       ·have q2 : decide (9 < dg) = false := decide_eq_false hd9
        exact spoilt_ok A L n c lc cs e num den add l x dg w hr hn hL hln hT hM hs hso hok hm hfa hd0 hd9 q1 q2
end Go.Proofs.YthjblcboainknaaGreatDoor
