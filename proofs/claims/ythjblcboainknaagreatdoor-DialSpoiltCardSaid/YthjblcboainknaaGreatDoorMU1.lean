/- Reference: a number in decimal; numbers with blanks; the row of a fact. Reference: the almanac of a calendar, a moon and facts. -/
import Derived.Test.YthjblcboainknaaGreatDoorMCS
import Derived.Test.YthjblcboainknaaGreatDoorMP2
import Derived.Laws.IdiomStrings
section
namespace Go.Proofs.YthjblcboainknaaGreatDoor
open Go.RowKit Dl

def digN (n : Nat) : UInt8 := UInt8.ofNat (48 + n % 10)
set_option maxRecDepth 100000 in
theorem run_dig (n : Nat) (x : Int) (hx : x = (n : Int)) (w : World) :
  (convert 44 9 (Value.slice (some { block := w.heap.size, off := 0 }) 1 1)).run Tryz.prog (w.alloc (Obj.cells #[Value.int IntKind.u8 (48 + x % 10)] 5)) =
   .ok (.string ⟨#[digN n]⟩) (w.alloc (Obj.cells #[Value.int IntKind.u8 (48 + x % 10)] 5)) := by
 subst hx
 exact run_convert_bytes_back (P := Tryz.prog) (w.alloc (Obj.cells #[Value.int IntKind.u8 (48 + ↑n % 10)] 5)) 44 9 5 ⟨w.heap.size, 0, none⟩ 1 [digN n] Tryz.underlying44 Tryz.underlying5 Tryz.underlying9 (fun j hj => by
  obtain rfl : j = 0 := by simpa using hj
  have h3 : (w.alloc (Obj.cells #[Value.int IntKind.u8 (48 + ↑n % 10)] 5)).cell? ⟨w.heap.size, 0, none⟩ = some (Value.int IntKind.u8 (48 + ↑n % 10)) := (Blk.new w 5 #[Value.int IntKind.u8 (48 + (n : Int) % 10)]).cell 0
  have h4 : (⟨w.heap.size, 0, none⟩ : Addr).add 0 = ⟨w.heap.size, 0, none⟩ := rfl
  rw [h4, h3]
  have : (digN n).toNat = 48 + n % 10 := UInt8.toNat_ofNat_of_lt (by show _ < 256; omega)
  simp only [List.getElem_cons_zero, this]
  simp)
theorem str_dig (n : Nat) (T : List UInt8) : Value.string (⟨#[digN n]⟩ ++ ⟨T.toArray⟩) = Value.string ⟨(digN n :: T).toArray⟩ := rfl
theorem dec_big {n : Nat} (h : ¬ n < 10) : Lib.decDigits n = Lib.decDigits (n / 10) ++ [digN n] := by rw [Lib.decDigits, dif_neg h]; rfl
theorem dec_small {n : Nat} (h : n < 10) : Lib.decDigits n = [digN n] := by rw [Lib.decDigits, dif_pos h, digN, Nat.mod_eq_of_lt h]

set_option maxRecDepth 100000 in
set_option maxHeartbeats 4000000 in
theorem rDecimal_any (N : Nat) (w : World) (hn : N ≤ 1000000) :
  Calls Tryz.prog 46 #[.int .i64 N] w fun e w' => e = .returned (.string ⟨(Lib.decDigits N).toArray⟩) ∧ Below w.heap.size w w' := by
 have HD := run_dig N N rfl
 go_enter Tryz.func46, Tryz.ntmps46
 go_wp2_with fail
 go_loopw [0, 3] (fun a v wr => ∃ (m : Nat) (T : List UInt8), m ≤ N ∧ a = .int .i64 m ∧ v = .string ⟨(digN m :: T).toArray⟩ ∧ Lib.decDigits N = Lib.decDigits m ++ T ∧ Below w.heap.size w wr) (fun a _ _ => (intOf a).toNat)
 case atStart => exact ⟨N, [], Nat.le_refl _, rfl, rfl, by simp, fr_alloc (fr_refl _) _⟩
 case round =>
  obtain ⟨m, T, hm, rfl, rfl, hd, hbel⟩ := hrel
  have HT := Lib.hid hd
  have hTl : T.length ≤ 7 := by
   have := congrArg List.length hd
   rw [List.length_append] at this
   have := digits_len 7 N (by omega) (by omega)
   omega
  clear hd HD
  by_cases h10 : m < 10
  ·have hc : decide ((10 : Int) ≤ (m : Int)) = false := decide_eq_false (by omega)
   go_wp2_with fail
   go_ret
   refine ⟨?_, hbel⟩
   rw [HT.out, dec_small h10]
   rfl
  ·have hc : decide ((10 : Int) ≤ (m : Int)) = true := decide_eq_true (by omega)
   have hq : (m : Int).tdiv 10 = ((m / 10 : Nat) : Int) := rfl
   have HD := run_dig (m / 10) ((m : Int) / 10) (by simp)
   have hsd := str_dig (m / 10)
   go_wp2_with fail
   go_round
   case rel => exact ⟨m / 10, digN m :: T, by omega, by simp, rfl, by rw [HT.out, dec_big h10, List.append_assoc]; rfl, fr_alloc hbel _⟩
   case measure => simp [intOf]; omega
theorem rDecimal_int (x : Int) (w : World) (h0 : 0 ≤ x) (h1 : x ≤ 1000000) :
  Calls Tryz.prog 46 #[.int .i64 x] w fun e w' => e = .returned (.string ⟨(Lib.itoa x).toArray⟩) ∧ Below w.heap.size w w' := by
 obtain ⟨n, rfl⟩ := Int.eq_ofNat_of_zero_le h0
 have := rDecimal_any n w (by omega)
 rw [Lib.itoa_nonneg]
 exact this

/-- numbers, a blank before each -/
def blanks (xs : List Int) : List UInt8 := (xs.map (fun n => 32 :: Lib.itoa n)).flatten
theorem rowB_blanks (k : Nat) (xs : List Int) : rowB k xs = wordB k ++ blanks xs := rfl
theorem blanks_len (xs : List Int) (hx : ∀ x ∈ xs, 0 ≤ x ∧ x ≤ 1000000) : (blanks xs).length ≤ 8 * xs.length := by
 induction xs with
 | nil => simp [blanks]
 | cons x xs ih =>
  have h1 := itoa_len x (hx x List.mem_cons_self).1 (hx x List.mem_cons_self).2
  have h2 := ih (fun y hy => hx y (List.mem_cons_of_mem _ hy))
  have h3 : blanks (x :: xs) = (32 :: Lib.itoa x) ++ blanks xs := by simp [blanks]
  rw [h3]
  simp only [List.length_append, List.length_cons]
  omega
theorem str_app4 (a b : List UInt8) : Value.string ((⟨a.toArray⟩ ++ ⟨#[32]⟩) ++ ⟨b.toArray⟩) = Value.string ⟨(a ++ 32 :: b).toArray⟩ := by
 congr 1
 apply ByteArray.ext
 simp [ByteArray.data_append]
set_option maxRecDepth 100000 in
set_option maxHeartbeats 4000000 in
theorem rwords_any (A : Option Addr) (n c : Nat) (xs : List Int) (w : World) (hr : Rd w A n xs) (hn : n ≤ 1000) (hx : ∀ x ∈ xs, 0 ≤ x ∧ x ≤ 1000000) :
  Calls Tryz.prog 44 #[.slice A n c] w fun e w' => e = .returned (.string ⟨(blanks xs).toArray⟩) ∧ Below w.heap.size w w' := by
 have hrl : ∀ j, j ≤ n → (blanks (xs.take j)).length ≤ 8 * j := fun j hj => by
  have := blanks_len (xs.take j) (fun x h => hx x (List.mem_of_mem_take h))
  rw [List.length_take] at this
  omega
 have HRL := Lib.hid hrl
 clear hrl
 go_enter Tryz.func44, Tryz.ntmps44
 go_wp2_with fail
 go_loopw [3, 4] (fun s i wr => ∃ j : Nat, j ≤ n ∧ i = .int .i64 j ∧ s = .string ⟨(blanks (xs.take j)).toArray⟩ ∧ Below w.heap.size w wr) (fun _ i _ => n - (intOf i).toNat)
 case atStart => exact ⟨0, Nat.zero_le _, rfl, by simp [blanks], fr_refl _⟩
 case round =>
  obtain ⟨j, hj, rfl, rfl, hbel⟩ := hrel
  by_cases hlt : j < n
  ·obtain ⟨ad, rfl, hab, hc⟩ := (hr.keep hbel).at_ hlt
   have hx1 : 0 ≤ xs[j]?.getD 0 ∧ xs[j]?.getD 0 ≤ 1000000 := by
    have hl := hr.len
    rw [List.getElem?_eq_getElem (by omega)]
    exact hx _ (List.getElem_mem _)
   have hst : blanks (xs.take (j + 1)) = blanks (xs.take j) ++ (32 :: Lib.itoa (xs[j]?.getD 0)) := by
    rw [take_snoc' xs j (by have := hr.len; omega)]
    simp [blanks]
   have HST := Lib.hid hst
   clear hst
   have hl2 : (blanks (xs.take j)).length ≤ 8 * j := HRL.out j (by omega)
   generalize xs[j]?.getD 0 = xj at *
   generalize hR : blanks (xs.take j) = rb at *
   have HR := Lib.hid hR
   clear hR
   have hl3 : rb.length + 1 ≤ 9223372036854775807 := by omega
   go_wp2_with fail
   refine (rDecimal_int xj _ hx1.1 (by omega)).mono ?_
   rintro e w2 ⟨rfl, hb2⟩
   have hl1 := itoa_len xj hx1.1 hx1.2
   generalize hI : Lib.itoa xj = it at *
   have HI := Lib.hid hI
   clear hI
   have hl4 : rb.length + 1 + it.length ≤ 9223372036854775807 := by omega
   go_wp2_with fail
   refine ⟨⟨j + 1, hlt, rfl, ?_, fr_call hbel hb2⟩, ?_⟩
   ·rw [HST.out]
    exact str_app4 _ _
   ·simp [intOf]; omega
  ·obtain rfl : j = n := by omega
   go_wp2_with fail
   go_ret
   rw [List.take_of_length_le (by have := hr.len; omega)]
   exact ⟨rfl, hbel⟩

theorem fXs (f : Fact) (j : Nat) (h : (f.k + 1).toNat = j) : factRow f = rowB j (factXs f) := by rw [← h]; rfl
set_option maxRecDepth 100000 in
set_option maxHeartbeats 4000000 in
theorem rrow_any (k m d v : Int) (w : World) (hk : 1 ≤ k ∧ k ≤ 5) (hm : 0 ≤ m ∧ m ≤ 1000000) (hd : 0 ≤ d ∧ d ≤ 1000000) (hv : 0 ≤ v ∧ v ≤ 1000000) :
  Calls Tryz.prog 45 #[.agg #[.int .i64 k, .int .i64 m, .int .i64 d, .int .i64 v]] w fun e w' => e = .returned (.string ⟨(factRow ⟨k, m, d, v⟩).toArray⟩) ∧ Below w.heap.size w w' := by
 have h5 : k = 1 ∨ k = 2 ∨ k = 3 ∨ k = 4 ∨ k = 5 := by omega
 rcases h5 with rfl | rfl | rfl | rfl | rfl
 ·rw [factXs_1]
  go_enter Tryz.func45, Tryz.ntmps45
  go_wp2_with fail
  refine (rwords_any (some ⟨w.heap.size + 1, 0, none⟩) 3 3 [m, d, v] _ (rd_of_blk (xs := [m, d, v]) (Blk.new_at _ _ (by simp))) (by omega) (by simp; omega)).mono ?_
  rintro e w2 ⟨rfl, hb2⟩
  have hl := blanks_len [m, d, v] (by simp; omega)
  have HB := rowB_blanks 2 [m, d, v]
  generalize blanks [m, d, v] = bl at *
  simp only [List.length_cons, List.length_nil] at hl
  have hl2 : 7 + bl.length ≤ 9223372036854775807 := by omega
  go_wp2_with fail
  go_ret
  refine ⟨?_, fr_call (fr_alloc (fr_alloc (fr_refl w) _) _) hb2⟩
  rw [HB]
  rfl
 ·rw [factXs_2]
  go_enter Tryz.func45, Tryz.ntmps45
  go_wp2_with fail
  refine (rwords_any (some ⟨w.heap.size + 1, 0, none⟩) 3 3 [m, d, v] _ (rd_of_blk (xs := [m, d, v]) (Blk.new_at _ _ (by simp))) (by omega) (by simp; omega)).mono ?_
  rintro e w2 ⟨rfl, hb2⟩
  have hl := blanks_len [m, d, v] (by simp; omega)
  have HB := rowB_blanks 3 [m, d, v]
  generalize blanks [m, d, v] = bl at *
  simp only [List.length_cons, List.length_nil] at hl
  have hl2 : 3 + bl.length ≤ 9223372036854775807 := by omega
  go_wp2_with fail
  go_ret
  refine ⟨?_, fr_call (fr_alloc (fr_alloc (fr_refl w) _) _) hb2⟩
  rw [HB]
  rfl
 ·rw [factXs_3]
  go_enter Tryz.func45, Tryz.ntmps45
  go_wp2_with fail
  refine (rwords_any (some ⟨w.heap.size + 1, 0, none⟩) 2 2 [m, d] _ (rd_of_blk (xs := [m, d]) (Blk.new_at _ _ (by simp))) (by omega) (by simp; omega)).mono ?_
  rintro e w2 ⟨rfl, hb2⟩
  have hl := blanks_len [m, d] (by simp; omega)
  have HB := rowB_blanks 4 [m, d]
  generalize blanks [m, d] = bl at *
  simp only [List.length_cons, List.length_nil] at hl
  have hl2 : 6 + bl.length ≤ 9223372036854775807 := by omega
  go_wp2_with fail
  go_ret
  refine ⟨?_, fr_call (fr_alloc (fr_alloc (fr_refl w) _) _) hb2⟩
  rw [HB]
  rfl
 ·rw [factXs_4]
  go_enter Tryz.func45, Tryz.ntmps45
  go_wp2_with fail
  refine (rwords_any (some ⟨w.heap.size + 1, 0, none⟩) 1 1 [v] _ (rd_of_blk (xs := [v]) (Blk.new_at _ _ (by simp))) (by omega) (by simp; omega)).mono ?_
  rintro e w2 ⟨rfl, hb2⟩
  have hl := blanks_len [v] (by simp; omega)
  have HB := rowB_blanks 5 [v]
  generalize blanks [v] = bl at *
  simp only [List.length_cons, List.length_nil] at hl
  have hl2 : 6 + bl.length ≤ 9223372036854775807 := by omega
  go_wp2_with fail
  go_ret
  refine ⟨?_, fr_call (fr_alloc (fr_alloc (fr_refl w) _) _) hb2⟩
  rw [HB]
  rfl
 ·rw [factXs_5]
  go_enter Tryz.func45, Tryz.ntmps45
  go_wp2_with fail
  refine (rwords_any (some ⟨w.heap.size + 1, 0, none⟩) 1 1 [v] _ (rd_of_blk (xs := [v]) (Blk.new_at _ _ (by simp))) (by omega) (by simp; omega)).mono ?_
  rintro e w2 ⟨rfl, hb2⟩
  have hl := blanks_len [v] (by simp; omega)
  have HB := rowB_blanks 6 [v]
  generalize blanks [v] = bl at *
  simp only [List.length_cons, List.length_nil] at hl
  have hl2 : 4 + bl.length ≤ 9223372036854775807 := by omega
  go_wp2_with fail
  go_ret
  refine ⟨?_, fr_call (fr_alloc (fr_alloc (fr_refl w) _) _) hb2⟩
  rw [HB]
  rfl
end Go.Proofs.YthjblcboainknaaGreatDoor
end

section
namespace Go.Proofs.YthjblcboainknaaGreatDoor
open Go.RowKit Dl

theorem term_bounds' (b : UInt8) (i j : Nat) (hi : i ≤ 600) (hj : j ≤ 5000) : 0 ≤ ((b.toNat : Nat) : Int) * ((j : Int) + 1) * ((i : Int) + 1) ∧ ((b.toNat : Nat) : Int) * ((j : Int) + 1) * ((i : Int) + 1) ≤ 800000000 ∧ ((b.toNat : Nat) : Int) * ((j : Int) + 1) ≤ 1300000 ∧ 0 ≤ ((b.toNat : Nat) : Int) * ((j : Int) + 1) := by
 have hb : b.toNat ≤ 255 := by have := b.toNat_lt; omega
 have h1 : b.toNat * (j + 1) ≤ 255 * 5001 := Nat.mul_le_mul hb (by omega)
 have h2 : b.toNat * (j + 1) * (i + 1) ≤ 255 * 5001 * 601 := Nat.mul_le_mul h1 (by omega)
 have e1 : ((b.toNat : Nat) : Int) * ((j : Int) + 1) = ((b.toNat * (j + 1) : Nat) : Int) := by push_cast; rfl
 have e2 : ((b.toNat : Nat) : Int) * ((j : Int) + 1) * ((i : Int) + 1) = ((b.toNat * (j + 1) * (i + 1) : Nat) : Int) := by push_cast; rfl
 rw [e2, e1]
 omega
theorem chk_wrap' (S C : Int) (b : UInt8) (j p : Nat) (hS : 0 ≤ S ∧ S ≤ 3000000000000000) (hC : 0 ≤ C ∧ C ≤ 4100000000000) (hj : j ≤ 600) (hp : p ≤ 5000) :
  wrap64 (S + C + wrap64 (wrap64 (wrap64 ((b.toNat : Nat) : Int) * ((p : Int) + 1)) * ((j : Int) + 1))) = S + C + ((b.toNat : Nat) : Int) * ((p : Int) + 1) * ((j : Int) + 1) := by
 obtain ⟨tb1, tb2, tb3, tb4⟩ := term_bounds' b j p hj hp
 have hbb : b.toNat ≤ 255 := by have := b.toNat_lt; omega
 generalize b.toNat = n at *
 have e1 : wrap64 ((n : Nat) : Int) = (n : Int) := IntWalk.wrap64_in _ (by omega)
 rw [e1]
 generalize (n : Int) * ((p : Int) + 1) = x at *
 have e2 : wrap64 x = x := IntWalk.wrap64_in _ (by omega)
 rw [e2]
 generalize x * ((j : Int) + 1) = y at *
 have e3 : wrap64 y = y := IntWalk.wrap64_in _ (by omega)
 rw [e3]
 exact IntWalk.wrap64_in _ (by omega)
theorem chk1_bounds' (i : Nat) (r : List UInt8) (hi : i ≤ 600) : ∀ j, j ≤ 5001 → 0 ≤ chk1 i r j ∧ chk1 i r j ≤ 800000000 * j := by
 intro j
 induction j with
 | zero => intro _; exact ⟨Int.le_refl _, Int.le_refl _⟩
 | succ j ih =>
  intro hj
  have h1 := ih (by omega)
  have h2 := term_bounds' (r[j]?.getD 0) i j hi (by omega)
  unfold chk1
  push_cast
  omega
theorem chkN_bounds' (R : List (List UInt8)) (hR : ∀ r ∈ R, r.length ≤ 5000) : ∀ i, i ≤ 600 → i ≤ R.length → 0 ≤ chkN R i ∧ chkN R i ≤ 4000000000000 * i := by
 intro i
 induction i with
 | zero => intro _ _; exact ⟨Int.le_refl _, Int.le_refl _⟩
 | succ i ih =>
  intro h8 hl
  have h1 := ih (by omega) (by omega)
  have h2 : (R[i]?.getD []).length ≤ 5000 := by
   rw [List.getElem?_eq_getElem (by omega)]
   exact hR _ (List.getElem_mem _)
  have h3 := chk1_bounds' i (R[i]?.getD []) (by omega) (R[i]?.getD []).length (by omega)
  unfold chkN
  push_cast
  omega
theorem rowB_len' (k : Nat) (xs : List Int) (hx : ∀ x ∈ xs, 0 ≤ x ∧ x ≤ 1000000) (hl : xs.length ≤ 600) : (rowB k xs).length ≤ 5000 := by
 have h := row_len k xs hx xs.length (Nat.le_refl _)
 rw [List.take_length] at h
 omega
/-- rows, a line end behind each -/
def linesB (R : List (List UInt8)) : List UInt8 := (R.map (fun r => r ++ [10])).flatten
theorem linesB_snoc (R : List (List UInt8)) (r : List UInt8) : linesB (R ++ [r]) = linesB R ++ r ++ [10] := by simp [linesB]
theorem linesB_len (R : List (List UInt8)) (h : ∀ r ∈ R, r.length ≤ 5000) : (linesB R).length ≤ 5001 * R.length := by
 induction R with
 | nil => simp [linesB]
 | cons r R ih =>
  have h1 := h r (by simp)
  have h2 := ih (fun x hx => h x (by simp [hx]))
  have h3 : linesB (r :: R) = (r ++ [10]) ++ linesB R := by simp [linesB]
  rw [h3]
  simp only [List.length_append, List.length_cons, List.length_nil]
  omega
theorem text_lines (R : List (List UInt8)) : textB R = linesB R ++ endB (chkN R R.length % 103) ++ [10] := by
 unfold textB textM chkM
 cases R with
 | nil => simp [linesB, Lib.join_one]
 | cons r R =>
  rw [List.cons_append, join_lines, ← List.cons_append]
  simp [linesB]
theorem alm_len (e : Int) (cs : List Int) (num den add : Int) (l : List Fact) (hc : cs.length ≤ 500) (hl : l.length ≤ 500) (hxc : ∀ x ∈ e :: cs, 0 ≤ x ∧ x ≤ 1000000) (hxm : ∀ x ∈ [num, den, add], 0 ≤ x ∧ x ≤ 1000000)
  (hsm : ∀ f ∈ l, (0 ≤ f.m ∧ f.m ≤ 1000000) ∧ (0 ≤ f.d ∧ f.d ≤ 1000000) ∧ (0 ≤ f.v ∧ f.v ≤ 1000000)) : (almRows e cs num den add l).length ≤ 502 ∧ ∀ r ∈ almRows e cs num den add l, r.length ≤ 5000 := by
 refine ⟨?_, fun r hr' => ?_⟩
 ·unfold almRows
  simp only [List.length_cons, List.length_map]
  omega
 ·unfold almRows at hr'
  rcases List.mem_cons.1 hr' with rfl | h
  ·exact rowB_len' 0 _ hxc (by simp; omega)
  ·rcases List.mem_cons.1 h with rfl | h
   ·exact rowB_len' 1 _ hxm (by simp)
   ·obtain ⟨f, hf, rfl⟩ := List.mem_map.1 h
    have := hsm f hf
    refine rowB_len' _ _ (fun x hx => ?_) (by unfold factXs; split <;> (try split) <;> simp)
    unfold factXs at hx
    split at hx
    ·simp only [List.mem_cons, List.not_mem_nil, or_false] at hx
     omega
    ·split at hx
     ·simp only [List.mem_cons, List.not_mem_nil, or_false] at hx
      omega
     ·simp only [List.mem_cons, List.not_mem_nil, or_false] at hx
      omega

set_option maxRecDepth 100000 in
set_option maxHeartbeats 16000000 in
theorem rPrint_gen (A L : Option Addr) (n c lc : Nat) (cs : List Int) (e num den add : Int) (l : List Fact) (w : World) (hr : Rd w A n cs) (hn : n ≤ 500) (hxc : ∀ x ∈ e :: cs, 0 ≤ x ∧ x ≤ 1000000) (hxm : ∀ x ∈ [num, den, add], 0 ≤ x ∧ x ≤ 1000000)
  (hL : RdS w L 4 (l.map Fact.row)) (hl6 : l.length ≤ 500) (hkinds : ∀ f ∈ l, 1 ≤ f.k ∧ f.k ≤ 5) (hsm : ∀ f ∈ l, (0 ≤ f.m ∧ f.m ≤ 1000000) ∧ (0 ≤ f.d ∧ f.d ≤ 1000000) ∧ (0 ≤ f.v ∧ f.v ≤ 1000000)) :
  Calls Tryz.prog 14 #[.agg #[.int .i64 e, .slice A n c], .agg #[.int .i64 num, .int .i64 den, .int .i64 add], .slice L l.length lc] w fun e' w' =>
   e' = .returned (.string ⟨(textB (almRows e cs num den add l)).toArray⟩) ∧ Below w.heap.size w w' := by
 have hAL := alm_len e cs num den add l (by have := hr.len; omega) hl6 hxc hxm hsm
 have hbl0 := blanks_len (e :: cs) hxc
 have hbl1 := blanks_len [num, den, add] hxm
 have hcl : (e :: cs).length ≤ 501 := by have := hr.len; simp; omega
 have hw0 : rowB 0 (e :: cs) = wordB 0 ++ blanks (e :: cs) := rfl
 have hw1 : rowB 1 [num, den, add] = wordB 1 ++ blanks [num, den, add] := rfl
 have g1 := fr_alloc (fr_alloc (fr_refl w) (.cells #[.int .i64 e, .slice A n c] 24)) (.cells #[.int .i64 num, .int .i64 den, .int .i64 add] 26)
 go_enter Tryz.func14, Tryz.ntmps14
 go_upto_region 1 with (fail)
 have hr0 := hr.keep g1
 obtain ⟨bl0, hb0⟩ : ∃ b, blanks (e :: cs) = b := ⟨_, rfl⟩
 obtain ⟨bl1, hb1⟩ : ∃ b, blanks [num, den, add] = b := ⟨_, rfl⟩
 rw [hb0] at hbl0 hw0
 rw [hb1] at hbl1 hw1
 have hq0 : ¬ (9223372036854775807 < 8 + bl0.length) := by omega
 have hq1 : ¬ (9223372036854775807 < 4 + bl1.length) := by simp only [List.length_cons, List.length_nil] at hbl1; omega
 have HB0 := Lib.hid hb0
 have HB1 := Lib.hid hb1
 have HW0 := Lib.hid hw0
 have HW1 := Lib.hid hw1
 have HAL := Lib.hid hAL
 clear hb0 hb1 hw0 hw1 hAL hbl0 hbl1 hcl
 go_cut [7] from 13 (fun s7 wc => ∃ g, s7 = .slice (some ⟨g, 0, none⟩) 2 2 ∧ Blk wc g 9 #[strV (rowB 0 (e :: cs)), strV (rowB 1 [num, den, add])] ∧ w.heap.size ≤ g ∧ Below w.heap.size w wc)
 case first =>
  refine wp_region_noPanic ?_
  refine wp_region_held_drew (S := fun W => (∀ p : Addr, p.block < ((w.alloc (.cells #[.int .i64 e, .slice A n c] 24)).alloc (.cells #[.int .i64 num, .int .i64 den, .int .i64 add] 26)).heap.size → W.cell? p = ((w.alloc (.cells #[.int .i64 e, .slice A n c] 24)).alloc (.cells #[.int .i64 num, .int .i64 den, .int .i64 add] 26)).cell? p) ∧ Below ((w.alloc (.cells #[.int .i64 e, .slice A n c] 24)).alloc (.cells #[.int .i64 num, .int .i64 den, .int .i64 add] 26)).heap.size ((w.alloc (.cells #[.int .i64 e, .slice A n c] 24)).alloc (.cells #[.int .i64 num, .int .i64 den, .int .i64 add] 26)) W) (by kernel_rfl) ⟨fun _ _ => rfl, fr_drew (fr_refl _)⟩ (fun hHeld => ?_)
  -- the region, step by step, in whatever order
  refine wpAnyH_take (i := 0) (oi := ⟨some 13, .fieldAddr 24 (.tmp 3) 0, 0, "ref.go:523", #[], none⟩) (v := ?_) rfl (by kernel_rfl) (by kernel_rfl) (by kernel_rfl) (fun _ _ _ h => h) (Or.inl ⟨by rfl, fun W hSw => ?_⟩) hHeld ?_
  rotate_left
  ·(try dsimp only at hSw); go_simp; (try with_reducible rfl)
  (try simp only [Act.put, List.setIfInBounds_toArray, List.set_cons_zero, List.set_cons_succ])
  refine wpAnyH_take (i := 1) (oi := ⟨some 14, .load 3 (.tmp 13), 3, "ref.go:523", #[⟨0, .data⟩], none⟩) (v := ?_) rfl (by kernel_rfl) (by kernel_rfl) (by kernel_rfl) (fun _ _ _ h => h) (Or.inl ⟨by rfl, fun W hSw => ?_⟩) hHeld ?_
  rotate_left
  ·(try dsimp only at hSw); go_simp; (try with_reducible rfl)
  (try simp only [Act.put, List.setIfInBounds_toArray, List.set_cons_zero, List.set_cons_succ])
  refine wpAnyH_take (i := 3) (oi := ⟨some 16, .fieldAddr 24 (.tmp 3) 1, 0, "ref.go:523", #[], none⟩) (v := ?_) rfl (by kernel_rfl) (by kernel_rfl) (by kernel_rfl) (fun _ _ _ h => h) (Or.inl ⟨by rfl, fun W hSw => ?_⟩) hHeld ?_
  rotate_left
  ·(try dsimp only at hSw); go_simp; (try with_reducible rfl)
  (try simp only [Act.put, List.setIfInBounds_toArray, List.set_cons_zero, List.set_cons_succ])
  refine wpAnyH_take (i := 4) (oi := ⟨some 17, .load 22 (.tmp 16), 22, "ref.go:523", #[⟨3, .data⟩], none⟩) (v := ?_) rfl (by kernel_rfl) (by kernel_rfl) (by kernel_rfl) (fun _ _ _ h => h) (Or.inl ⟨by rfl, fun W hSw => ?_⟩) hHeld ?_
  rotate_left
  ·(try dsimp only at hSw); go_simp; (try with_reducible rfl)
  (try simp only [Act.put, List.setIfInBounds_toArray, List.set_cons_zero, List.set_cons_succ])
  refine wpAnyH_take (i := 8) (oi := ⟨some 21, .fieldAddr 26 (.tmp 4) 0, 0, "ref.go:523", #[], none⟩) (v := ?_) rfl (by kernel_rfl) (by kernel_rfl) (by kernel_rfl) (fun _ _ _ h => h) (Or.inl ⟨by rfl, fun W hSw => ?_⟩) hHeld ?_
  rotate_left
  ·(try dsimp only at hSw); go_simp; (try with_reducible rfl)
  (try simp only [Act.put, List.setIfInBounds_toArray, List.set_cons_zero, List.set_cons_succ])
  refine wpAnyH_take (i := 9) (oi := ⟨some 22, .load 3 (.tmp 21), 3, "ref.go:523", #[⟨8, .data⟩], none⟩) (v := ?_) rfl (by kernel_rfl) (by kernel_rfl) (by kernel_rfl) (fun _ _ _ h => h) (Or.inl ⟨by rfl, fun W hSw => ?_⟩) hHeld ?_
  rotate_left
  ·(try dsimp only at hSw); go_simp; (try with_reducible rfl)
  (try simp only [Act.put, List.setIfInBounds_toArray, List.set_cons_zero, List.set_cons_succ])
  refine wpAnyH_take (i := 10) (oi := ⟨some 23, .fieldAddr 26 (.tmp 4) 1, 0, "ref.go:523", #[], none⟩) (v := ?_) rfl (by kernel_rfl) (by kernel_rfl) (by kernel_rfl) (fun _ _ _ h => h) (Or.inl ⟨by rfl, fun W hSw => ?_⟩) hHeld ?_
  rotate_left
  ·(try dsimp only at hSw); go_simp; (try with_reducible rfl)
  (try simp only [Act.put, List.setIfInBounds_toArray, List.set_cons_zero, List.set_cons_succ])
  refine wpAnyH_take (i := 11) (oi := ⟨some 24, .load 3 (.tmp 23), 3, "ref.go:523", #[⟨10, .data⟩], none⟩) (v := ?_) rfl (by kernel_rfl) (by kernel_rfl) (by kernel_rfl) (fun _ _ _ h => h) (Or.inl ⟨by rfl, fun W hSw => ?_⟩) hHeld ?_
  rotate_left
  ·(try dsimp only at hSw); go_simp; (try with_reducible rfl)
  (try simp only [Act.put, List.setIfInBounds_toArray, List.set_cons_zero, List.set_cons_succ])
  refine wpAnyH_take (i := 12) (oi := ⟨some 25, .fieldAddr 26 (.tmp 4) 2, 0, "ref.go:523", #[], none⟩) (v := ?_) rfl (by kernel_rfl) (by kernel_rfl) (by kernel_rfl) (fun _ _ _ h => h) (Or.inl ⟨by rfl, fun W hSw => ?_⟩) hHeld ?_
  rotate_left
  ·(try dsimp only at hSw); go_simp; (try with_reducible rfl)
  (try simp only [Act.put, List.setIfInBounds_toArray, List.set_cons_zero, List.set_cons_succ])
  refine wpAnyH_take (i := 13) (oi := ⟨some 26, .load 3 (.tmp 25), 3, "ref.go:523", #[⟨12, .data⟩], none⟩) (v := ?_) rfl (by kernel_rfl) (by kernel_rfl) (by kernel_rfl) (fun _ _ _ h => h) (Or.inl ⟨by rfl, fun W hSw => ?_⟩) hHeld ?_
  rotate_left
  ·(try dsimp only at hSw); go_simp; (try with_reducible rfl)
  (try simp only [Act.put, List.setIfInBounds_toArray, List.set_cons_zero, List.set_cons_succ])
  refine wpAnyH_ready (rs := [2, 14]) (by kernel_rfl) (by simp) ?_
  refine (AllReadyH.cons (o := ⟨some 15, .buildSlice 22 1 #[(0, .tmp 14)], 22, "ref.go:523", #[⟨1, .data⟩], none⟩) rfl (fun K hK => ?_) (AllReadyH.cons (o := ⟨some 27, .buildSlice 22 3 #[(0, .tmp 22), (1, .tmp 24), (2, .tmp 26)], 22, "ref.go:523", #[⟨9, .data⟩, ⟨11, .data⟩, ⟨13, .data⟩], none⟩) rfl (fun K hK => ?_) AllReadyH.nil))
  ·rw [if_pos (by rfl)]
   refine wp_build1 rfl rfl ?_
   intro gA WA hOA hbA hgA
   have hgA0 := Nat.le_trans hHeld.2.size hgA
   (try replace hRB := hRB.keep hbA)
   refine hK.out _ _ (kp_step hbA hHeld) (fun hHeld => ?_)
   clear hK K
   (try simp only [Act.put, List.setIfInBounds_toArray, List.set_cons_zero, List.set_cons_succ])
   refine wpAnyH_ready (rs := [5, 14]) (by kernel_rfl) (by simp) ?_
   refine (AllReadyH.cons (o := ⟨some 18, .call { callee := .builtin .append, args := #[.tmp 15, .tmp 17], argTypes := #[22, 22] }, 22, "ref.go:523", #[⟨2, .data⟩, ⟨4, .data⟩], none⟩) rfl (fun K hK => ?_) (AllReadyH.cons (o := ⟨some 27, .buildSlice 22 3 #[(0, .tmp 22), (1, .tmp 24), (2, .tmp 26)], 22, "ref.go:523", #[⟨9, .data⟩, ⟨11, .data⟩, ⟨13, .data⟩], none⟩) rfl (fun K hK => ?_) AllReadyH.nil))
   ·rw [if_pos (by rfl)]
    refine wp_app_any _ _ rfl gA _ [e] rfl (own_of_blk hOA) A n c cs rfl (hr0.keep hHeld.2) (by simp) (by omega) (Nat.le_of_lt hOA.lt) ?_
    intro A' c' WP hOP hgP
    have hRA := hOP.rd
    (try replace hRB := rd_far_blk hRB (by simp) hOA hgP)
    have hbP := hHeld.2.grown hgP hHeld.2.size (by intro k hk; cases hk; exact hgA0)
    refine hK.out _ _ (kp_of hbP) (fun hHeld => ?_)
    clear hK K
    (try simp only [Act.put, List.setIfInBounds_toArray, List.set_cons_zero, List.set_cons_succ])
    refine wpAnyH_ready (rs := [6, 14]) (by kernel_rfl) (by simp) ?_
    refine (AllReadyH.cons (o := ⟨some 19, .call { callee := .value (.func 44), args := #[.tmp 18], argTypes := #[22] }, 9, "ref.go:523", #[⟨5, .data⟩, ⟨5, .chain⟩], none⟩) rfl (fun K hK => ?_) (AllReadyH.cons (o := ⟨some 27, .buildSlice 22 3 #[(0, .tmp 22), (1, .tmp 24), (2, .tmp 26)], 22, "ref.go:523", #[⟨9, .data⟩, ⟨11, .data⟩, ⟨13, .data⟩], none⟩) rfl (fun K hK => ?_) AllReadyH.nil))
    ·rw [if_pos (by rfl)]
     go_simp
     refine (rwords_any A' ([e].length + n) c' ([e] ++ cs) _ hRA (by simp; omega) hxc).mono ?_
     rintro e' WR ⟨rfl, hbR⟩
     rw [show blanks ([e] ++ cs) = bl0 from HB0.out]
     (try replace hRB := hRB.keep hbR)
     refine hK.out _ _ (kp_step hbR hHeld) (fun hHeld => ?_)
     clear hK K
     (try simp only [Act.put, List.setIfInBounds_toArray, List.set_cons_zero, List.set_cons_succ])
     refine wpAnyH_take (i := 7) (oi := ⟨some 20, .binOp .add 9 (.const (.string { data := #[99, 97, 108, 101, 110, 100, 97, 114] })) (.tmp 19) 9, 9, "ref.go:523", #[⟨6, .data⟩], none⟩) (v := ?_) rfl (by kernel_rfl) (by kernel_rfl) (by kernel_rfl) (fun _ _ _ h => h) (Or.inl ⟨by rfl, fun W hSw => ?_⟩) hHeld ?_
     rotate_left
     ·(try dsimp only at hSw); go_simp; (try with_reducible rfl)
     (try simp only [Act.put, List.setIfInBounds_toArray, List.set_cons_zero, List.set_cons_succ])
     refine wpAnyH_ready (rs := [14]) (by kernel_rfl) (by simp) ?_
     refine (AllReadyH.cons (o := ⟨some 27, .buildSlice 22 3 #[(0, .tmp 22), (1, .tmp 24), (2, .tmp 26)], 22, "ref.go:523", #[⟨9, .data⟩, ⟨11, .data⟩, ⟨13, .data⟩], none⟩) rfl (fun K hK => ?_) AllReadyH.nil)
     rw [if_pos (by rfl)]
     refine wp_build3 rfl rfl rfl rfl ?_
     intro gB WB hOB hbB hgB
     have hRB := rd_of_blk (xs := [num, den, add]) hOB
     (try replace hOA := hOA.keep hbB)
     (try replace hRA := hRA.keep hbB)
     refine hK.out _ _ (kp_step hbB hHeld) (fun hHeld => ?_)
     clear hK K
     (try simp only [Act.put, List.setIfInBounds_toArray, List.set_cons_zero, List.set_cons_succ])
     refine wpAnyH_ready (rs := [15]) (by kernel_rfl) (by simp) ?_
     refine (AllReadyH.cons (o := ⟨some 28, .call { callee := .value (.func 44), args := #[.tmp 27], argTypes := #[22] }, 9, "ref.go:523", #[⟨14, .data⟩, ⟨6, .chain⟩], none⟩) rfl (fun K hK => ?_) AllReadyH.nil)
     rw [if_pos (by rfl)]
     go_simp
     refine (rwords_any (some ⟨gB, 0, none⟩) 3 3 [num, den, add] _ hRB (by omega) hxm).mono ?_
     rintro e' WS ⟨rfl, hbS⟩
     rw [HB1.out]
     (try replace hOA := hOA.keep hbS)
     (try replace hRA := hRA.keep hbS)
     refine hK.out _ _ (kp_step hbS hHeld) (fun hHeld => ?_)
     clear hK K
     (try simp only [Act.put, List.setIfInBounds_toArray, List.set_cons_zero, List.set_cons_succ])
     refine wpAnyH_take (i := 16) (oi := ⟨some 29, .binOp .add 9 (.const (.string { data := #[109, 111, 111, 110] })) (.tmp 28) 9, 9, "ref.go:523", #[⟨15, .data⟩], none⟩) (v := ?_) rfl (by kernel_rfl) (by kernel_rfl) (by kernel_rfl) (fun _ _ _ h => h) (Or.inl ⟨by rfl, fun W hSw => ?_⟩) hHeld ?_
     rotate_left
     ·(try dsimp only at hSw); go_simp; (try with_reducible rfl)
     (try simp only [Act.put, List.setIfInBounds_toArray, List.set_cons_zero, List.set_cons_succ])
     refine wpAnyH_ready (rs := [17]) (by kernel_rfl) (by simp) ?_
     refine (AllReadyH.cons (o := ⟨some 30, .buildSlice 80 2 #[(0, .tmp 20), (1, .tmp 29)], 80, "ref.go:523", #[⟨7, .data⟩, ⟨16, .data⟩], none⟩) rfl (fun K hK => ?_) AllReadyH.nil)
     rw [if_pos (by rfl)]
     refine wp_build2s rfl rfl rfl ?_
     intro gC WC hOC hbC hgC
     have hgC0 := Nat.le_trans hHeld.2.size hgC
     refine hK.out _ _ (kp_step hbC hHeld) (fun hHeld => ?_)
     clear hK K
     (try simp only [Act.put, List.setIfInBounds_toArray, List.set_cons_zero, List.set_cons_succ])
     refine wpAnyH_take (i := 18) (oi := ⟨some 7, .assign (.tmp 30), 80, "ref.go:523", #[⟨17, .data⟩, ⟨15, .chain⟩, ⟨0, .phase⟩, ⟨1, .phase⟩, ⟨2, .phase⟩, ⟨3, .phase⟩, ⟨4, .phase⟩, ⟨5, .phase⟩, ⟨6, .phase⟩, ⟨7, .phase⟩, ⟨8, .phase⟩, ⟨9, .phase⟩, ⟨10, .phase⟩, ⟨11, .phase⟩, ⟨12, .phase⟩, ⟨13, .phase⟩, ⟨14, .phase⟩, ⟨15, .phase⟩, ⟨16, .phase⟩, ⟨17, .phase⟩], none⟩) (v := ?_) rfl (by kernel_rfl) (by kernel_rfl) (by kernel_rfl) (fun _ _ _ h => h) (Or.inl ⟨by rfl, fun W hSw => ?_⟩) hHeld ?_
     rotate_left
     ·(try dsimp only at hSw); go_simp; (try with_reducible rfl)
     (try simp only [Act.put, List.setIfInBounds_toArray, List.set_cons_zero, List.set_cons_succ])
     refine wpAnyH_done (by kernel_rfl) ?_ _
     refine NoPanic.normal ?_
     go_wp2_with fail
     go_meet
     case rel => exact ⟨gC, rfl, by rw [HW0.out, HW1.out]; exact hOC, Nat.le_trans g1.size hgC0, fr_call g1 hHeld.2⟩
    ·rw [if_pos (by rfl)]
     refine wp_build3 rfl rfl rfl rfl ?_
     intro gB WB hOB hbB hgB
     have hRB := rd_of_blk (xs := [num, den, add]) hOB
     (try replace hOA := hOA.keep hbB)
     (try replace hRA := hRA.keep hbB)
     refine hK.out _ _ (kp_step hbB hHeld) (fun hHeld => ?_)
     clear hK K
     (try simp only [Act.put, List.setIfInBounds_toArray, List.set_cons_zero, List.set_cons_succ])
     refine wpAnyH_ready (rs := [6]) (by kernel_rfl) (by simp) ?_
     refine (AllReadyH.cons (o := ⟨some 19, .call { callee := .value (.func 44), args := #[.tmp 18], argTypes := #[22] }, 9, "ref.go:523", #[⟨5, .data⟩, ⟨5, .chain⟩], none⟩) rfl (fun K hK => ?_) AllReadyH.nil)
     rw [if_pos (by rfl)]
     go_simp
     refine (rwords_any A' ([e].length + n) c' ([e] ++ cs) _ hRA (by simp; omega) hxc).mono ?_
     rintro e' WR ⟨rfl, hbR⟩
     rw [show blanks ([e] ++ cs) = bl0 from HB0.out]
     (try replace hRB := hRB.keep hbR)
     refine hK.out _ _ (kp_step hbR hHeld) (fun hHeld => ?_)
     clear hK K
     (try simp only [Act.put, List.setIfInBounds_toArray, List.set_cons_zero, List.set_cons_succ])
     refine wpAnyH_take (i := 7) (oi := ⟨some 20, .binOp .add 9 (.const (.string { data := #[99, 97, 108, 101, 110, 100, 97, 114] })) (.tmp 19) 9, 9, "ref.go:523", #[⟨6, .data⟩], none⟩) (v := ?_) rfl (by kernel_rfl) (by kernel_rfl) (by kernel_rfl) (fun _ _ _ h => h) (Or.inl ⟨by rfl, fun W hSw => ?_⟩) hHeld ?_
     rotate_left
     ·(try dsimp only at hSw); go_simp; (try with_reducible rfl)
     (try simp only [Act.put, List.setIfInBounds_toArray, List.set_cons_zero, List.set_cons_succ])
     refine wpAnyH_ready (rs := [15]) (by kernel_rfl) (by simp) ?_
     refine (AllReadyH.cons (o := ⟨some 28, .call { callee := .value (.func 44), args := #[.tmp 27], argTypes := #[22] }, 9, "ref.go:523", #[⟨14, .data⟩, ⟨6, .chain⟩], none⟩) rfl (fun K hK => ?_) AllReadyH.nil)
     rw [if_pos (by rfl)]
     go_simp
     refine (rwords_any (some ⟨gB, 0, none⟩) 3 3 [num, den, add] _ hRB (by omega) hxm).mono ?_
     rintro e' WS ⟨rfl, hbS⟩
     rw [HB1.out]
     (try replace hOA := hOA.keep hbS)
     (try replace hRA := hRA.keep hbS)
     refine hK.out _ _ (kp_step hbS hHeld) (fun hHeld => ?_)
     clear hK K
     (try simp only [Act.put, List.setIfInBounds_toArray, List.set_cons_zero, List.set_cons_succ])
     refine wpAnyH_take (i := 16) (oi := ⟨some 29, .binOp .add 9 (.const (.string { data := #[109, 111, 111, 110] })) (.tmp 28) 9, 9, "ref.go:523", #[⟨15, .data⟩], none⟩) (v := ?_) rfl (by kernel_rfl) (by kernel_rfl) (by kernel_rfl) (fun _ _ _ h => h) (Or.inl ⟨by rfl, fun W hSw => ?_⟩) hHeld ?_
     rotate_left
     ·(try dsimp only at hSw); go_simp; (try with_reducible rfl)
     (try simp only [Act.put, List.setIfInBounds_toArray, List.set_cons_zero, List.set_cons_succ])
     refine wpAnyH_ready (rs := [17]) (by kernel_rfl) (by simp) ?_
     refine (AllReadyH.cons (o := ⟨some 30, .buildSlice 80 2 #[(0, .tmp 20), (1, .tmp 29)], 80, "ref.go:523", #[⟨7, .data⟩, ⟨16, .data⟩], none⟩) rfl (fun K hK => ?_) AllReadyH.nil)
     rw [if_pos (by rfl)]
     refine wp_build2s rfl rfl rfl ?_
     intro gC WC hOC hbC hgC
     have hgC0 := Nat.le_trans hHeld.2.size hgC
     refine hK.out _ _ (kp_step hbC hHeld) (fun hHeld => ?_)
     clear hK K
     (try simp only [Act.put, List.setIfInBounds_toArray, List.set_cons_zero, List.set_cons_succ])
     refine wpAnyH_take (i := 18) (oi := ⟨some 7, .assign (.tmp 30), 80, "ref.go:523", #[⟨17, .data⟩, ⟨15, .chain⟩, ⟨0, .phase⟩, ⟨1, .phase⟩, ⟨2, .phase⟩, ⟨3, .phase⟩, ⟨4, .phase⟩, ⟨5, .phase⟩, ⟨6, .phase⟩, ⟨7, .phase⟩, ⟨8, .phase⟩, ⟨9, .phase⟩, ⟨10, .phase⟩, ⟨11, .phase⟩, ⟨12, .phase⟩, ⟨13, .phase⟩, ⟨14, .phase⟩, ⟨15, .phase⟩, ⟨16, .phase⟩, ⟨17, .phase⟩], none⟩) (v := ?_) rfl (by kernel_rfl) (by kernel_rfl) (by kernel_rfl) (fun _ _ _ h => h) (Or.inl ⟨by rfl, fun W hSw => ?_⟩) hHeld ?_
     rotate_left
     ·(try dsimp only at hSw); go_simp; (try with_reducible rfl)
     (try simp only [Act.put, List.setIfInBounds_toArray, List.set_cons_zero, List.set_cons_succ])
     refine wpAnyH_done (by kernel_rfl) ?_ _
     refine NoPanic.normal ?_
     go_wp2_with fail
     go_meet
     case rel => exact ⟨gC, rfl, by rw [HW0.out, HW1.out]; exact hOC, Nat.le_trans g1.size hgC0, fr_call g1 hHeld.2⟩
   ·rw [if_pos (by rfl)]
    refine wp_build3 rfl rfl rfl rfl ?_
    intro gB WB hOB hbB hgB
    have hRB := rd_of_blk (xs := [num, den, add]) hOB
    (try replace hOA := hOA.keep hbB)
    (try replace hRA := hRA.keep hbB)
    refine hK.out _ _ (kp_step hbB hHeld) (fun hHeld => ?_)
    clear hK K
    (try simp only [Act.put, List.setIfInBounds_toArray, List.set_cons_zero, List.set_cons_succ])
    refine wpAnyH_ready (rs := [5]) (by kernel_rfl) (by simp) ?_
    refine (AllReadyH.cons (o := ⟨some 18, .call { callee := .builtin .append, args := #[.tmp 15, .tmp 17], argTypes := #[22, 22] }, 22, "ref.go:523", #[⟨2, .data⟩, ⟨4, .data⟩], none⟩) rfl (fun K hK => ?_) AllReadyH.nil)
    rw [if_pos (by rfl)]
    refine wp_app_any _ _ rfl gA _ [e] rfl (own_of_blk hOA) A n c cs rfl (hr0.keep hHeld.2) (by simp) (by omega) (Nat.le_of_lt hOA.lt) ?_
    intro A' c' WP hOP hgP
    have hRA := hOP.rd
    (try replace hRB := rd_far_blk hRB (by simp) hOA hgP)
    have hbP := hHeld.2.grown hgP hHeld.2.size (by intro k hk; cases hk; exact hgA0)
    refine hK.out _ _ (kp_of hbP) (fun hHeld => ?_)
    clear hK K
    (try simp only [Act.put, List.setIfInBounds_toArray, List.set_cons_zero, List.set_cons_succ])
    refine wpAnyH_ready (rs := [6]) (by kernel_rfl) (by simp) ?_
    refine (AllReadyH.cons (o := ⟨some 19, .call { callee := .value (.func 44), args := #[.tmp 18], argTypes := #[22] }, 9, "ref.go:523", #[⟨5, .data⟩, ⟨5, .chain⟩], none⟩) rfl (fun K hK => ?_) AllReadyH.nil)
    rw [if_pos (by rfl)]
    go_simp
    refine (rwords_any A' ([e].length + n) c' ([e] ++ cs) _ hRA (by simp; omega) hxc).mono ?_
    rintro e' WR ⟨rfl, hbR⟩
    rw [show blanks ([e] ++ cs) = bl0 from HB0.out]
    (try replace hRB := hRB.keep hbR)
    refine hK.out _ _ (kp_step hbR hHeld) (fun hHeld => ?_)
    clear hK K
    (try simp only [Act.put, List.setIfInBounds_toArray, List.set_cons_zero, List.set_cons_succ])
    refine wpAnyH_take (i := 7) (oi := ⟨some 20, .binOp .add 9 (.const (.string { data := #[99, 97, 108, 101, 110, 100, 97, 114] })) (.tmp 19) 9, 9, "ref.go:523", #[⟨6, .data⟩], none⟩) (v := ?_) rfl (by kernel_rfl) (by kernel_rfl) (by kernel_rfl) (fun _ _ _ h => h) (Or.inl ⟨by rfl, fun W hSw => ?_⟩) hHeld ?_
    rotate_left
    ·(try dsimp only at hSw); go_simp; (try with_reducible rfl)
    (try simp only [Act.put, List.setIfInBounds_toArray, List.set_cons_zero, List.set_cons_succ])
    refine wpAnyH_ready (rs := [15]) (by kernel_rfl) (by simp) ?_
    refine (AllReadyH.cons (o := ⟨some 28, .call { callee := .value (.func 44), args := #[.tmp 27], argTypes := #[22] }, 9, "ref.go:523", #[⟨14, .data⟩, ⟨6, .chain⟩], none⟩) rfl (fun K hK => ?_) AllReadyH.nil)
    rw [if_pos (by rfl)]
    go_simp
    refine (rwords_any (some ⟨gB, 0, none⟩) 3 3 [num, den, add] _ hRB (by omega) hxm).mono ?_
    rintro e' WS ⟨rfl, hbS⟩
    rw [HB1.out]
    (try replace hOA := hOA.keep hbS)
    (try replace hRA := hRA.keep hbS)
    refine hK.out _ _ (kp_step hbS hHeld) (fun hHeld => ?_)
    clear hK K
    (try simp only [Act.put, List.setIfInBounds_toArray, List.set_cons_zero, List.set_cons_succ])
    refine wpAnyH_take (i := 16) (oi := ⟨some 29, .binOp .add 9 (.const (.string { data := #[109, 111, 111, 110] })) (.tmp 28) 9, 9, "ref.go:523", #[⟨15, .data⟩], none⟩) (v := ?_) rfl (by kernel_rfl) (by kernel_rfl) (by kernel_rfl) (fun _ _ _ h => h) (Or.inl ⟨by rfl, fun W hSw => ?_⟩) hHeld ?_
    rotate_left
    ·(try dsimp only at hSw); go_simp; (try with_reducible rfl)
    (try simp only [Act.put, List.setIfInBounds_toArray, List.set_cons_zero, List.set_cons_succ])
    refine wpAnyH_ready (rs := [17]) (by kernel_rfl) (by simp) ?_
    refine (AllReadyH.cons (o := ⟨some 30, .buildSlice 80 2 #[(0, .tmp 20), (1, .tmp 29)], 80, "ref.go:523", #[⟨7, .data⟩, ⟨16, .data⟩], none⟩) rfl (fun K hK => ?_) AllReadyH.nil)
    rw [if_pos (by rfl)]
    refine wp_build2s rfl rfl rfl ?_
    intro gC WC hOC hbC hgC
    have hgC0 := Nat.le_trans hHeld.2.size hgC
    refine hK.out _ _ (kp_step hbC hHeld) (fun hHeld => ?_)
    clear hK K
    (try simp only [Act.put, List.setIfInBounds_toArray, List.set_cons_zero, List.set_cons_succ])
    refine wpAnyH_take (i := 18) (oi := ⟨some 7, .assign (.tmp 30), 80, "ref.go:523", #[⟨17, .data⟩, ⟨15, .chain⟩, ⟨0, .phase⟩, ⟨1, .phase⟩, ⟨2, .phase⟩, ⟨3, .phase⟩, ⟨4, .phase⟩, ⟨5, .phase⟩, ⟨6, .phase⟩, ⟨7, .phase⟩, ⟨8, .phase⟩, ⟨9, .phase⟩, ⟨10, .phase⟩, ⟨11, .phase⟩, ⟨12, .phase⟩, ⟨13, .phase⟩, ⟨14, .phase⟩, ⟨15, .phase⟩, ⟨16, .phase⟩, ⟨17, .phase⟩], none⟩) (v := ?_) rfl (by kernel_rfl) (by kernel_rfl) (by kernel_rfl) (fun _ _ _ h => h) (Or.inl ⟨by rfl, fun W hSw => ?_⟩) hHeld ?_
    rotate_left
    ·(try dsimp only at hSw); go_simp; (try with_reducible rfl)
    (try simp only [Act.put, List.setIfInBounds_toArray, List.set_cons_zero, List.set_cons_succ])
    refine wpAnyH_done (by kernel_rfl) ?_ _
    refine NoPanic.normal ?_
    go_wp2_with fail
    go_meet
    case rel => exact ⟨gC, rfl, by rw [HW0.out, HW1.out]; exact hOC, Nat.le_trans g1.size hgC0, fr_call g1 hHeld.2⟩
  ·rw [if_pos (by rfl)]
   refine wp_build3 rfl rfl rfl rfl ?_
   intro gB WB hOB hbB hgB
   have hRB := rd_of_blk (xs := [num, den, add]) hOB
   (try replace hOA := hOA.keep hbB)
   (try replace hRA := hRA.keep hbB)
   refine hK.out _ _ (kp_step hbB hHeld) (fun hHeld => ?_)
   clear hK K
   (try simp only [Act.put, List.setIfInBounds_toArray, List.set_cons_zero, List.set_cons_succ])
   refine wpAnyH_ready (rs := [2]) (by kernel_rfl) (by simp) ?_
   refine (AllReadyH.cons (o := ⟨some 15, .buildSlice 22 1 #[(0, .tmp 14)], 22, "ref.go:523", #[⟨1, .data⟩], none⟩) rfl (fun K hK => ?_) AllReadyH.nil)
   rw [if_pos (by rfl)]
   refine wp_build1 rfl rfl ?_
   intro gA WA hOA hbA hgA
   have hgA0 := Nat.le_trans hHeld.2.size hgA
   (try replace hRB := hRB.keep hbA)
   refine hK.out _ _ (kp_step hbA hHeld) (fun hHeld => ?_)
   clear hK K
   (try simp only [Act.put, List.setIfInBounds_toArray, List.set_cons_zero, List.set_cons_succ])
   refine wpAnyH_ready (rs := [5]) (by kernel_rfl) (by simp) ?_
   refine (AllReadyH.cons (o := ⟨some 18, .call { callee := .builtin .append, args := #[.tmp 15, .tmp 17], argTypes := #[22, 22] }, 22, "ref.go:523", #[⟨2, .data⟩, ⟨4, .data⟩], none⟩) rfl (fun K hK => ?_) AllReadyH.nil)
   rw [if_pos (by rfl)]
   refine wp_app_any _ _ rfl gA _ [e] rfl (own_of_blk hOA) A n c cs rfl (hr0.keep hHeld.2) (by simp) (by omega) (Nat.le_of_lt hOA.lt) ?_
   intro A' c' WP hOP hgP
   have hRA := hOP.rd
   (try replace hRB := rd_far_blk hRB (by simp) hOA hgP)
   have hbP := hHeld.2.grown hgP hHeld.2.size (by intro k hk; cases hk; exact hgA0)
   refine hK.out _ _ (kp_of hbP) (fun hHeld => ?_)
   clear hK K
   (try simp only [Act.put, List.setIfInBounds_toArray, List.set_cons_zero, List.set_cons_succ])
   refine wpAnyH_ready (rs := [6]) (by kernel_rfl) (by simp) ?_
   refine (AllReadyH.cons (o := ⟨some 19, .call { callee := .value (.func 44), args := #[.tmp 18], argTypes := #[22] }, 9, "ref.go:523", #[⟨5, .data⟩, ⟨5, .chain⟩], none⟩) rfl (fun K hK => ?_) AllReadyH.nil)
   rw [if_pos (by rfl)]
   go_simp
   refine (rwords_any A' ([e].length + n) c' ([e] ++ cs) _ hRA (by simp; omega) hxc).mono ?_
   rintro e' WR ⟨rfl, hbR⟩
   rw [show blanks ([e] ++ cs) = bl0 from HB0.out]
   (try replace hRB := hRB.keep hbR)
   refine hK.out _ _ (kp_step hbR hHeld) (fun hHeld => ?_)
   clear hK K
   (try simp only [Act.put, List.setIfInBounds_toArray, List.set_cons_zero, List.set_cons_succ])
   refine wpAnyH_take (i := 7) (oi := ⟨some 20, .binOp .add 9 (.const (.string { data := #[99, 97, 108, 101, 110, 100, 97, 114] })) (.tmp 19) 9, 9, "ref.go:523", #[⟨6, .data⟩], none⟩) (v := ?_) rfl (by kernel_rfl) (by kernel_rfl) (by kernel_rfl) (fun _ _ _ h => h) (Or.inl ⟨by rfl, fun W hSw => ?_⟩) hHeld ?_
   rotate_left
   ·(try dsimp only at hSw); go_simp; (try with_reducible rfl)
   (try simp only [Act.put, List.setIfInBounds_toArray, List.set_cons_zero, List.set_cons_succ])
   refine wpAnyH_ready (rs := [15]) (by kernel_rfl) (by simp) ?_
   refine (AllReadyH.cons (o := ⟨some 28, .call { callee := .value (.func 44), args := #[.tmp 27], argTypes := #[22] }, 9, "ref.go:523", #[⟨14, .data⟩, ⟨6, .chain⟩], none⟩) rfl (fun K hK => ?_) AllReadyH.nil)
   rw [if_pos (by rfl)]
   go_simp
   refine (rwords_any (some ⟨gB, 0, none⟩) 3 3 [num, den, add] _ hRB (by omega) hxm).mono ?_
   rintro e' WS ⟨rfl, hbS⟩
   rw [HB1.out]
   (try replace hOA := hOA.keep hbS)
   (try replace hRA := hRA.keep hbS)
   refine hK.out _ _ (kp_step hbS hHeld) (fun hHeld => ?_)
   clear hK K
   (try simp only [Act.put, List.setIfInBounds_toArray, List.set_cons_zero, List.set_cons_succ])
   refine wpAnyH_take (i := 16) (oi := ⟨some 29, .binOp .add 9 (.const (.string { data := #[109, 111, 111, 110] })) (.tmp 28) 9, 9, "ref.go:523", #[⟨15, .data⟩], none⟩) (v := ?_) rfl (by kernel_rfl) (by kernel_rfl) (by kernel_rfl) (fun _ _ _ h => h) (Or.inl ⟨by rfl, fun W hSw => ?_⟩) hHeld ?_
   rotate_left
   ·(try dsimp only at hSw); go_simp; (try with_reducible rfl)
   (try simp only [Act.put, List.setIfInBounds_toArray, List.set_cons_zero, List.set_cons_succ])
   refine wpAnyH_ready (rs := [17]) (by kernel_rfl) (by simp) ?_
   refine (AllReadyH.cons (o := ⟨some 30, .buildSlice 80 2 #[(0, .tmp 20), (1, .tmp 29)], 80, "ref.go:523", #[⟨7, .data⟩, ⟨16, .data⟩], none⟩) rfl (fun K hK => ?_) AllReadyH.nil)
   rw [if_pos (by rfl)]
   refine wp_build2s rfl rfl rfl ?_
   intro gC WC hOC hbC hgC
   have hgC0 := Nat.le_trans hHeld.2.size hgC
   refine hK.out _ _ (kp_step hbC hHeld) (fun hHeld => ?_)
   clear hK K
   (try simp only [Act.put, List.setIfInBounds_toArray, List.set_cons_zero, List.set_cons_succ])
   refine wpAnyH_take (i := 18) (oi := ⟨some 7, .assign (.tmp 30), 80, "ref.go:523", #[⟨17, .data⟩, ⟨15, .chain⟩, ⟨0, .phase⟩, ⟨1, .phase⟩, ⟨2, .phase⟩, ⟨3, .phase⟩, ⟨4, .phase⟩, ⟨5, .phase⟩, ⟨6, .phase⟩, ⟨7, .phase⟩, ⟨8, .phase⟩, ⟨9, .phase⟩, ⟨10, .phase⟩, ⟨11, .phase⟩, ⟨12, .phase⟩, ⟨13, .phase⟩, ⟨14, .phase⟩, ⟨15, .phase⟩, ⟨16, .phase⟩, ⟨17, .phase⟩], none⟩) (v := ?_) rfl (by kernel_rfl) (by kernel_rfl) (by kernel_rfl) (fun _ _ _ h => h) (Or.inl ⟨by rfl, fun W hSw => ?_⟩) hHeld ?_
   rotate_left
   ·(try dsimp only at hSw); go_simp; (try with_reducible rfl)
   (try simp only [Act.put, List.setIfInBounds_toArray, List.set_cons_zero, List.set_cons_succ])
   refine wpAnyH_done (by kernel_rfl) ?_ _
   refine NoPanic.normal ?_
   go_wp2_with fail
   go_meet
   case rel => exact ⟨gC, rfl, by rw [HW0.out, HW1.out]; exact hOC, Nat.le_trans g1.size hgC0, fr_call g1 hHeld.2⟩
 case rest =>
  obtain ⟨g, rfl, hOC, hg0, hfr⟩ := hcut
  have hown0 : OwnS wc w.heap.size 9 1 (.slice (some ⟨g, 0, none⟩) 2 2) (cellRows [rowB 0 (e :: cs), rowB 1 [num, den, add]]) :=
   ⟨⟨rfl, Or.inr ⟨g, 2, _, rfl, hg0, hOC, Nat.le_refl _, by unfold maxLen; omega, rfl, rfl⟩⟩, fun r hr => by
    simp only [cellRows, List.map_cons, List.map_nil, List.mem_cons, List.not_mem_nil, or_false] at hr
    rcases hr with rfl | rfl <;> rfl⟩
  go_wp2_with fail
  generalize hlen : l.length = nl at *
  have HLN := Lib.hid hlen
  clear hlen
  obtain ⟨rs, hrs⟩ : ∃ rs : List (List UInt8), [rowB 0 (e :: cs), rowB 1 [num, den, add]] = rs := ⟨_, rfl⟩
  have hrl : rs.length = 2 := by rw [← hrs]; rfl
  rw [hrs] at hown0
  have HRS := Lib.hid hrs
  have HRL := Lib.hid hrl
  clear hrs hrl hOC hq0 hq1
  go_loopw [7, 8] (fun v i wr => ∃ k : Nat, k ≤ nl ∧ i = .int .i64 k ∧ OwnS wr w.heap.size 9 1 v (cellRows (rs ++ (l.take k).map factRow)) ∧ Below w.heap.size w wr) (fun _ i _ => nl - (intOf i).toNat)
  case atStart => exact ⟨0, Nat.zero_le _, rfl, by simpa using hown0, hfr⟩
  case round =>
   obtain ⟨k, hk, rfl, hown, hbel⟩ := hrel
   by_cases hlt : k < nl
   ·have hkl : k < l.length := by have := HLN.out; omega
    have hrow : (l.map Fact.row)[k]? = some (l[k].row) := by simp [hkl]
    obtain ⟨ad, rfl, hab, _, hc⟩ := (hL.keep hbel).at_ hrow
    have hqa : ∀ j, ad.add (k * 4 + (j + 1)) = (ad.add (k * 4)).add (j + 1) := fun j => by
     unfold Addr.add; by_cases h0 : k * 4 = 0 <;> simp [h0, Nat.add_assoc]
    have hc0 : wr.cell? (ad.add (k * 4)) = some (.int .i64 l[k].k) := hc 0 _ rfl
    have hc1 : wr.cell? ⟨(ad.add (k * 4)).block, (ad.add (k * 4)).off + 1, none⟩ = some (.int .i64 l[k].m) := (congrArg wr.cell? (hqa 0)).symm.trans (hc 1 _ rfl)
    have hc2 : wr.cell? ⟨(ad.add (k * 4)).block, (ad.add (k * 4)).off + 2, none⟩ = some (.int .i64 l[k].d) := (congrArg wr.cell? (hqa 1)).symm.trans (hc 2 _ rfl)
    have hc3 : wr.cell? ⟨(ad.add (k * 4)).block, (ad.add (k * 4)).off + 3, none⟩ = some (.int .i64 l[k].v) := (congrArg wr.cell? (hqa 2)).symm.trans (hc 3 _ rfl)
    have hqk := hkinds l[k] (List.getElem_mem hkl)
    have hsk := hsm l[k] (List.getElem_mem hkl)
    have hstep : rs ++ (l.take (k + 1)).map factRow = rs ++ (l.take k).map factRow ++ [factRow l[k]] := by
     rw [List.take_succ_eq_append_getElem hkl, List.map_append, List.append_assoc]; rfl
    have hll : (cellRows (rs ++ (l.take k).map factRow)).length < 1000000 := by
     unfold cellRows
     simp only [List.length_map, List.length_append, List.length_take, HRL.out]
     omega
    generalize l[k] = f at *
    obtain ⟨fk, fm, fd, fv⟩ := f
    simp only at hc0 hc1 hc2 hc3 hqk hsk
    obtain ⟨⟨hs1, hs2⟩, ⟨hs3, hs4⟩, hs5, hs6⟩ := hsk
    have HST := Lib.hid hstep
    clear hc hrow hqa hstep
    go_wp2_with fail
    refine (rrow_any fk fm fd fv _ hqk ⟨hs1, hs2⟩ ⟨hs3, hs4⟩ ⟨hs5, hs6⟩).mono ?_
    rintro e' w6 ⟨rfl, hb6⟩
    have hown6 := hown.keep hb6
    have hbel6 := fr_call hbel hb6
    go_wp2_with (at_builtin; refine app_row rfl (.tmp 37) (.tmp 43) rfl Tryz.underlying80 info_string rfl (by decide) (by decide) w.heap.size _ _ rfl rfl hown6 rfl (by simp [Value.oneCell']) hll hbel6.size ?_; intro B0 cap0 wy hown3 hg3)
    have hge := hown6.ge
    refine ⟨⟨k + 1, hlt, rfl, by rw [HST.out]; exact own_snoc hown3 (by simp [cellRows]), (fr_alloc hbel6 _).grown hg3 (fr_alloc hbel6 _).size hge⟩, ?_⟩
    simp [intOf]; omega
   ·obtain rfl : k = nl := by omega
    have hTk : l.take k = l := List.take_of_length_le (by have := HLN.out; omega)
    rw [hTk] at hown
    have hra : rs ++ l.map factRow = almRows e cs num den add l := by rw [← HRS.out]; rfl
    rw [hra] at hown
    obtain ⟨hlenR, hR40⟩ := HAL.out
    generalize hRR : almRows e cs num den add l = RR at *
    have HRR := Lib.hid hRR
    clear hRR
    have hCN := fun i h => chkN_bounds' RR hR40 i h
    obtain ⟨B, b, rfl⟩ := hown.form
    have hrdS := hown.rd
    have hRl : (cellRows RR).length = RR.length := by unfold cellRows; rw [List.length_map]
    rw [hRl] at hown
    rw [hRl]
    clear hRl
    generalize hnr : RR.length = nr at *
    have HNR := Lib.hid hnr
    clear hnr
    have hLL : ∀ j, j ≤ nr → (linesB (RR.take j)).length ≤ 5001 * j := fun j hj => by
     have := linesB_len (RR.take j) (fun r h => hR40 r (List.mem_of_mem_take h))
     rw [List.length_take] at this
     exact Nat.le_trans this (Nat.mul_le_mul (Nat.le_refl _) (Nat.min_le_left _ _))
    have HLL := Lib.hid hLL
    clear hLL
    go_wp2_with fail
    go_loop [9, 10, 11] (fun sv v i => ∃ j : Nat, j ≤ nr ∧ i = .int .i64 j ∧ v = .int .i64 (chkN RR j) ∧ sv = .string ⟨(linesB (RR.take j)).toArray⟩) (fun _ _ i => nr - (intOf i).toNat)
    case atStart => exact ⟨0, Nat.zero_le _, rfl, rfl, by simp [linesB]⟩
    case round =>
     obtain ⟨j, hj, rfl, rfl, rfl⟩ := hrel
     have hlj := HLL.out j hj
     by_cases hltj : j < nr
     ·have hjl : j < RR.length := by have := HNR.out; omega
      have hrowj : (cellRows RR)[j]? = some [strV RR[j]] := by simp [cellRows, hjl]
      obtain ⟨ad3, rfl, hab3, _, hc3⟩ := hrdS.at_ hrowj
      have hcs : wr.cell? (ad3.add (j * 1)) = some (strV RR[j]) := hc3 0 _ rfl
      rw [Nat.mul_one] at hcs
      have hrl40 := hR40 RR[j] (List.getElem_mem hjl)
      have hgj : RR[j]?.getD [] = RR[j] := by simp [hjl]
      have hb0 := hCN j (by omega) (by omega)
      have hst : chkN RR (j + 1) = chkN RR j + chk1 j RR[j] RR[j].length := by
       show chkN RR j + chk1 j (RR[j]?.getD []) (RR[j]?.getD []).length = _
       rw [hgj]
      have hsl : linesB (RR.take (j + 1)) = linesB (RR.take j) ++ RR[j] ++ [10] := by
       rw [List.take_succ_eq_append_getElem hjl, linesB_snoc]
      have HST := Lib.hid hst
      have HSL := Lib.hid hsl
      clear hst hgj hc3 hrowj hsl
      generalize RR[j] = r at *
      generalize linesB (RR.take j) = lj at *
      unfold strV at hcs
      have hq2 : lj.length + r.length ≤ 9223372036854775807 := by omega
      have hq3 : lj.length + r.length + 1 ≤ 9223372036854775807 := by omega
      go_wp2_with fail
      go_loop [10, 12] (fun v i => ∃ p : Nat, p ≤ r.length ∧ i = .int .i64 p ∧ v = .int .i64 (chkN RR j + chk1 j r p)) (fun _ i => r.length - (intOf i).toNat)
      case atStart => exact ⟨0, Nat.zero_le _, rfl, by simp [chk1]⟩
      case round =>
       obtain ⟨p, hp, rfl, rfl⟩ := hrel
       by_cases hltp : p < r.length
       ·have hgp : r[p]?.getD 0 = r[p] := by simp [hltp]
        have hcb := chk1_bounds' j r (by omega) p (by omega)
        have hst : chk1 j r (p + 1) = chk1 j r p + ((r[p].toNat : Nat) : Int) * ((p : Int) + 1) * ((j : Int) + 1) := by
         show chk1 j r p + (((r[p]?.getD 0).toNat : Nat) : Int) * ((p : Int) + 1) * ((j : Int) + 1) = _
         rw [hgp]
        have HSP := Lib.hid hst
        clear hst hgp
        go_wp2_with fail
        have hcw := chk_wrap' (chkN RR j) (chk1 j r p) r[p] j p (by omega) (by omega) (by omega) (by omega)
        refine ⟨⟨p + 1, hltp, rfl, ?_⟩, ?_⟩
        ·show Value.int .i64 (wrap64 (chkN RR j + chk1 j r p + wrap64 (wrap64 (wrap64 ((r[p].toNat : Nat) : Int) * ((p : Int) + 1)) * ((j : Int) + 1)))) = _
         rw [hcw, HSP.out, Int.add_assoc]
        ·simp [intOf]; omega
       ·obtain rfl : p = r.length := by omega
        go_wp2_with fail
        refine ⟨⟨j + 1, hltj, rfl, by rw [HST.out], ?_⟩, ?_⟩
        ·rw [HSL.out]
         congr 1
        ·simp [intOf]; omega
     ·obtain rfl : j = nr := by omega
      have hb0 := hCN j (by omega) (by omega)
      have t1 : (chkN RR j).tmod 103 = chkN RR j % 103 := Int.tmod_eq_emod_of_nonneg (by omega)
      have t2 : IntKind.i64.wrap (chkN RR j % 103) = chkN RR j % 103 := IntWalk.i64_in _ (by omega)
      obtain ⟨ct, hct⟩ : ∃ ct : Int, chkN RR j % 103 = ct := ⟨_, rfl⟩
      have hc1 : 0 ≤ ct := by omega
      have hc2 : ct < 103 := by omega
      have t3 : ct.tdiv 100 = ct / 100 := Int.tdiv_eq_ediv_of_nonneg hc1
      have t4 : ct.tdiv 10 = ct / 10 := Int.tdiv_eq_ediv_of_nonneg hc1
      have t5 : ct.tmod 10 = ct % 10 := Int.tmod_eq_emod_of_nonneg hc1
      have t6 : (ct / 10).tmod 10 = ct / 10 % 10 := Int.tmod_eq_emod_of_nonneg (by omega)
      have t7 : IntKind.i64.wrap (ct / 100) = ct / 100 := IntWalk.i64_in _ (by omega)
      have t8 : IntKind.i64.wrap (ct / 10) = ct / 10 := IntWalk.i64_in _ (by omega)
      have t9 : IntKind.i64.wrap (ct / 10 % 10) = ct / 10 % 10 := IntWalk.i64_in _ (by omega)
      have t10 : IntKind.i64.wrap (ct % 10) = ct % 10 := IntWalk.i64_in _ (by omega)
      have l1 := itoa_len (ct / 100) (by omega) (by omega)
      have l2 := itoa_len (ct / 10 % 10) (by omega) (by omega)
      have l3 := itoa_len (ct % 10) (by omega) (by omega)
      rw [hct] at t1 t2
      have HCT := Lib.hid hct
      clear hct
      have hRE : textB RR = linesB RR ++ ([101, 110, 100, 32] ++ Lib.itoa (ct / 100) ++ Lib.itoa (ct / 10 % 10) ++ Lib.itoa (ct % 10)) ++ [10] := by
       rw [text_lines, HNR.out, HCT.out]; rfl
      have hTR : RR.take j = RR := List.take_of_length_le (by have := HNR.out; omega)
      rw [hTR] at hlj ⊢
      generalize linesB RR = lj at *
      have HRE := Lib.hid hRE
      clear hRE hTR
      have hq4 : lj.length + 4 ≤ 9223372036854775807 := by omega
      go_wp2_with fail
      refine (rDecimal_int (ct / 100) _ (by omega) (by omega)).mono ?_
      rintro e' w7 ⟨rfl, hb7⟩
      generalize hA1 : Lib.itoa (ct / 100) = A1 at *
      have HA1 := Lib.hid hA1
      clear hA1
      have hq5 : lj.length + 4 + A1.length ≤ 9223372036854775807 := by omega
      go_wp2_with fail
      refine (rDecimal_int (ct / 10 % 10) _ (by omega) (by omega)).mono ?_
      rintro e' w8 ⟨rfl, hb8⟩
      generalize hA2 : Lib.itoa (ct / 10 % 10) = A2 at *
      have HA2 := Lib.hid hA2
      clear hA2
      have hq6 : lj.length + 4 + A1.length + A2.length ≤ 9223372036854775807 := by omega
      go_wp2_with fail
      refine (rDecimal_int (ct % 10) _ (by omega) (by omega)).mono ?_
      rintro e' w9 ⟨rfl, hb9⟩
      generalize hA3 : Lib.itoa (ct % 10) = A3 at *
      have HA3 := Lib.hid hA3
      clear hA3
      have hq7 : lj.length + 4 + A1.length + A2.length + A3.length ≤ 9223372036854775807 := by omega
      have hq8 : lj.length + 4 + A1.length + A2.length + A3.length + 1 ≤ 9223372036854775807 := by omega
      go_wp2_with fail
      go_ret
      rw [HRR.out, HRE.out]
      have hS : Value.string ({ data := lj.toArray } ++ { data := #[101, 110, 100, 32] } ++ { data := A1.toArray } ++ { data := A2.toArray } ++ { data := A3.toArray } ++ { data := #[10] }) = Value.string { data := (lj ++ ([101, 110, 100, 32] ++ A1 ++ A2 ++ A3) ++ [10]).toArray } := by
       congr 1
       apply ByteArray.ext
       simp [ByteArray.data_append]
      exact ⟨congrArg Ending.returned hS, fr_call (fr_call (fr_call hbel hb7) hb8) hb9⟩
end Go.Proofs.YthjblcboainknaaGreatDoor
end
