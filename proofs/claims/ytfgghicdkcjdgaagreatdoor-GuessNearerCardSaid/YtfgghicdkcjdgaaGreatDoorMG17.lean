/- Walks: guess, a line (by gen_row.py). Walk: guess, the inventory's text (by gen_nc.py). The laws' own helpers: the finds G and H (by gen_ok.py). Reference: a number in decimal; numbers with blanks; the row of a note (by a script from UA). -/
import Derived.Test.YtfgghicdkcjdgaaGreatDoorMG16
import Derived.Test.YtfgghicdkcjdgaaGreatDoorMG2
import Derived.Laws.IdiomStrings
section
namespace Go.Proofs.YtfgghicdkcjdgaaGreatDoor
open Go.RowKit Go.Shelf

theorem str_app3 (a b : List UInt8) : Value.string (⟨a.toArray⟩ ++ (⟨#[32]⟩ ++ ⟨b.toArray⟩)) = Value.string ⟨(a ++ 32 :: b).toArray⟩ := by
 congr 1
theorem lineB_snoc (word : List UInt8) (xs : List Int) (j : Nat) (h : j < xs.length) : lineB word (xs.take (j + 1)) = lineB word (xs.take j) ++ (32 :: Lib.itoa (xs[j]?.getD 0)) := by
 rw [List.take_succ_eq_append_getElem h, List.getElem?_eq_getElem h]
 simp only [lineB, List.map_append, List.map_cons, List.map_nil, List.flatten_append, List.flatten_cons, List.flatten_nil, List.append_nil, List.append_assoc, Option.getD_some]
theorem wordG_len (k : Nat) : (wordG k).length ≤ 5 := by unfold wordG; split <;> decide
theorem line_len (word : List UInt8) (hw : word.length ≤ 5) (xs : List Int) (hx : ∀ x ∈ xs, 0 ≤ x ∧ x ≤ 1000000) : ∀ j, j ≤ xs.length → (lineB word (xs.take j)).length ≤ 8 + 8 * j := by
 intro j
 induction j with
 | zero => intro _; simp [lineB]; omega
 | succ j ih =>
  intro hj
  have h1 := ih (by omega)
  have h2 := hx xs[j] (List.getElem_mem (by omega))
  have h3 := itoa_len xs[j] h2.1 h2.2
  rw [lineB_snoc word xs j (by omega), List.getElem?_eq_getElem (by omega)]
  simp only [Option.getD_some, List.length_append, List.length_cons]
  omega
theorem noteXs_len (n : Note) : (noteXs n).length ≤ 6 := by
 unfold noteXs
 split
 ·simp
 split
 ·simp
 split <;> simp

set_option maxRecDepth 100000 in
set_option maxHeartbeats 4000000 in
theorem row_head (m : Int) (w : World) (hT : TabP w) (hx : ∀ x ∈ [m], 0 ≤ x ∧ x ≤ 1000000) :
  Calls Tryz.prog 158 #[.iface 195 (.agg #[.int .i64 m])] w fun e w' => e = .returned (.string ⟨(lineB (wordG 0) ([m])).toArray⟩) ∧ Below w.heap.size w w' := by
 have hrl : ∀ j, j ≤ ([m]).length → (lineB (wordG 0) (([m]).take j)).length ≤ 8 + 8 * j := line_len _ (wordG_len _) _ hx
 have hnum := fun W => numbers_head m W
 have hxl : ([m]).length ≤ 6 := by simp
 obtain ⟨xs, hxs⟩ : ∃ xs, xs = [m] := ⟨_, rfl⟩
 rw [← hxs] at hrl hnum hx hxl
 rw [← hxs]
 have HRL := Lib.hid hrl
 have HX := Lib.hid hx
 clear hrl hxs hx
 have hta : ∀ w, (Instr.typeAssert (.iface 195 (.agg #[.int .i64 m])) 210 197 true).run Tryz.prog w = .ok (.tuple #[.agg #[.int .i64 0, .int .i64 0], .bool false]) w := fun w => by kernel_rfl
 have htb : ∀ w, (Instr.typeAssert (.iface 195 (.agg #[.int .i64 m])) 210 199 true).run Tryz.prog w = .ok (.tuple #[.agg #[.int .i64 0, .int .i64 0, .int .i64 0, .int .i64 0, .int .i64 0, .int .i64 0, .int .i64 0, .int .i64 0, .int .i64 0], .bool false]) w := fun w => by kernel_rfl
 have hix := word_ix0
 have hbw := fr_refl w
 go_enter Tryz.func158, Tryz.ntmps158
 go_wp2_with fail
 refine (words_is _).mono ?_
 rintro e w1 ⟨rfl, hb1⟩
 replace hbw := fr_call hbw hb1
 go_wp2_with fail
 refine (hnum _).mono ?_
 rintro e w2 ⟨A, c, rfl, hO, hb2⟩
 replace hbw := fr_call hbw hb2
 clear hix hnum
 obtain ⟨n, hn⟩ : ∃ n, xs.length = n := ⟨_, rfl⟩
 have HN := Lib.hid hn
 rw [hn] at hO hxl ⊢
 clear hn
 have hT2 := hT.keep hbw
 have hrd := hO.rd
 go_wp2_with fail
 go_loopw [6, 27] (fun s i wr => ∃ j : Nat, j ≤ n ∧ i = .int .i64 j ∧ s = .string ⟨(lineB (wordG 0) (xs.take j)).toArray⟩ ∧ Below w2.heap.size w2 wr) (fun _ i _ => n - (intOf i).toNat)
 case atStart => exact ⟨0, Nat.zero_le _, rfl, by simp [lineB], fr_refl _⟩
 case round =>
  obtain ⟨j, hj, rfl, rfl, hbel⟩ := hrel
  by_cases hlt : j < n
  ·have hjl : j < xs.length := by rw [HN.out]; exact hlt
   obtain ⟨ad, rfl, hab, hc⟩ := (hrd.keep hbel).at_ hlt
   have hx1 : 0 ≤ xs[j]?.getD 0 ∧ xs[j]?.getD 0 ≤ 1000000 := by
    rw [List.getElem?_eq_getElem hjl]
    exact HX.out _ (List.getElem_mem _)
   have hst := lineB_snoc (wordG 0) xs j hjl
   have HST := Lib.hid hst
   clear hst
   generalize xs[j]?.getD 0 = xj at *
   go_wp2_with fail
   refine (itoa_any xj _ hx1.1 (by omega) (hT2.keep hbel)).mono ?_
   rintro e w3 ⟨rfl, hb3⟩
   have hl1 := itoa_len xj hx1.1 hx1.2
   have hl2 : (lineB (wordG 0) (xs.take j)).length ≤ 8 + 8 * j := HRL.out j (by omega)
   generalize hI : Lib.itoa xj = it at *
   generalize hR : lineB (wordG 0) (xs.take j) = rb at *
   have HI := Lib.hid hI
   have HR := Lib.hid hR
   clear hI hR
   have hl3 : it.length + 1 ≤ 9223372036854775807 := by omega
   have hl4 : rb.length + (it.length + 1) ≤ 9223372036854775807 := by omega
   go_wp2_with fail
   refine ⟨⟨j + 1, hlt, rfl, ?_, fr_call hbel hb3⟩, ?_⟩
   ·rw [HST.out]
    exact str_app3 _ _
   ·simp [intOf]; omega
  ·obtain rfl : j = n := by omega
   go_wp2_with fail
   go_ret
   rw [List.take_of_length_le (by rw [HN.out]; exact Nat.le_refl _)]
   exact ⟨rfl, fr_call hbw hbel⟩

set_option maxRecDepth 100000 in
set_option maxHeartbeats 4000000 in
theorem row_wheel (s : Wh) (w : World) (hT : TabP w) (hx : ∀ x ∈ [s.lo, s.hi], 0 ≤ x ∧ x ≤ 1000000) :
  Calls Tryz.prog 158 #[.iface 197 (.agg #[.int .i64 s.lo, .int .i64 s.hi])] w fun e w' => e = .returned (.string ⟨(lineB (wordG 1) ([s.lo, s.hi])).toArray⟩) ∧ Below w.heap.size w w' := by
 have hrl : ∀ j, j ≤ ([s.lo, s.hi]).length → (lineB (wordG 1) (([s.lo, s.hi]).take j)).length ≤ 8 + 8 * j := line_len _ (wordG_len _) _ hx
 have hnum := fun W => numbers_wheel s W
 have hxl : ([s.lo, s.hi]).length ≤ 6 := by simp
 obtain ⟨xs, hxs⟩ : ∃ xs, xs = [s.lo, s.hi] := ⟨_, rfl⟩
 rw [← hxs] at hrl hnum hx hxl
 rw [← hxs]
 have HRL := Lib.hid hrl
 have HX := Lib.hid hx
 clear hrl hxs hx
 have hta : ∀ w, (Instr.typeAssert (.iface 197 (.agg #[.int .i64 s.lo, .int .i64 s.hi])) 210 197 true).run Tryz.prog w = .ok (.tuple #[.agg #[.int .i64 s.lo, .int .i64 s.hi], .bool true]) w := fun w => by kernel_rfl
 have hix := word_ix1
 have hbw := fr_alloc (fr_refl w) (.cells #[.int .i64 s.lo, .int .i64 s.hi] 197)
 go_enter Tryz.func158, Tryz.ntmps158
 go_wp2_with fail
 refine (words_is _).mono ?_
 rintro e w1 ⟨rfl, hb1⟩
 replace hbw := fr_call hbw hb1
 go_wp2_with fail
 refine (hnum _).mono ?_
 rintro e w2 ⟨A, c, rfl, hO, hb2⟩
 replace hbw := fr_call hbw hb2
 clear hix hnum
 obtain ⟨n, hn⟩ : ∃ n, xs.length = n := ⟨_, rfl⟩
 have HN := Lib.hid hn
 rw [hn] at hO hxl ⊢
 clear hn
 have hT2 := hT.keep hbw
 have hrd := hO.rd
 go_wp2_with fail
 go_loopw [6, 27] (fun s i wr => ∃ j : Nat, j ≤ n ∧ i = .int .i64 j ∧ s = .string ⟨(lineB (wordG 1) (xs.take j)).toArray⟩ ∧ Below w2.heap.size w2 wr) (fun _ i _ => n - (intOf i).toNat)
 case atStart => exact ⟨0, Nat.zero_le _, rfl, by simp [lineB], fr_refl _⟩
 case round =>
  obtain ⟨j, hj, rfl, rfl, hbel⟩ := hrel
  by_cases hlt : j < n
  ·have hjl : j < xs.length := by rw [HN.out]; exact hlt
   obtain ⟨ad, rfl, hab, hc⟩ := (hrd.keep hbel).at_ hlt
   have hx1 : 0 ≤ xs[j]?.getD 0 ∧ xs[j]?.getD 0 ≤ 1000000 := by
    rw [List.getElem?_eq_getElem hjl]
    exact HX.out _ (List.getElem_mem _)
   have hst := lineB_snoc (wordG 1) xs j hjl
   have HST := Lib.hid hst
   clear hst
   generalize xs[j]?.getD 0 = xj at *
   go_wp2_with fail
   refine (itoa_any xj _ hx1.1 (by omega) (hT2.keep hbel)).mono ?_
   rintro e w3 ⟨rfl, hb3⟩
   have hl1 := itoa_len xj hx1.1 hx1.2
   have hl2 : (lineB (wordG 1) (xs.take j)).length ≤ 8 + 8 * j := HRL.out j (by omega)
   generalize hI : Lib.itoa xj = it at *
   generalize hR : lineB (wordG 1) (xs.take j) = rb at *
   have HI := Lib.hid hI
   have HR := Lib.hid hR
   clear hI hR
   have hl3 : it.length + 1 ≤ 9223372036854775807 := by omega
   have hl4 : rb.length + (it.length + 1) ≤ 9223372036854775807 := by omega
   go_wp2_with fail
   refine ⟨⟨j + 1, hlt, rfl, ?_, fr_call hbel hb3⟩, ?_⟩
   ·rw [HST.out]
    exact str_app3 _ _
   ·simp [intOf]; omega
  ·obtain rfl : j = n := by omega
   go_wp2_with fail
   go_ret
   rw [List.take_of_length_le (by rw [HN.out]; exact Nat.le_refl _)]
   exact ⟨rfl, fr_call hbw hbel⟩

set_option maxRecDepth 100000 in
set_option maxHeartbeats 4000000 in
theorem row_note (n : Note) (hk : 1 ≤ n.k ∧ n.k ≤ 5) (w : World) (hT : TabP w) (hx : ∀ x ∈ noteXs n, 0 ≤ x ∧ x ≤ 1000000) :
  Calls Tryz.prog 158 #[.iface 199 (noteV n)] w fun e w' => e = .returned (.string ⟨(lineB (wordG (n.k + 1).toNat) (noteXs n)).toArray⟩) ∧ Below w.heap.size w w' := by
 have hrl : ∀ j, j ≤ (noteXs n).length → (lineB (wordG (n.k + 1).toNat) ((noteXs n).take j)).length ≤ 8 + 8 * j := line_len _ (wordG_len _) _ hx
 have hnum := fun W => numbers_note n W
 have hxl : (noteXs n).length ≤ 6 := by exact noteXs_len n
 obtain ⟨xs, hxs⟩ : ∃ xs, xs = noteXs n := ⟨_, rfl⟩
 rw [← hxs] at hrl hnum hx hxl
 rw [← hxs]
 have HRL := Lib.hid hrl
 have HX := Lib.hid hx
 clear hrl hxs hx
 have hta : ∀ w, (Instr.typeAssert (.iface 199 (.agg #[.int .i64 n.k, .int .i64 n.a, .int .i64 n.b, .int .i64 n.lo, .int .i64 n.hi, .int .i64 n.ln, .int .i64 n.ld, .int .i64 n.mn, .int .i64 n.md])) 210 197 true).run Tryz.prog w = .ok (.tuple #[.agg #[.int .i64 0, .int .i64 0], .bool false]) w := fun w => by kernel_rfl
 have htb : ∀ w, (Instr.typeAssert (.iface 199 (.agg #[.int .i64 n.k, .int .i64 n.a, .int .i64 n.b, .int .i64 n.lo, .int .i64 n.hi, .int .i64 n.ln, .int .i64 n.ld, .int .i64 n.mn, .int .i64 n.md])) 210 199 true).run Tryz.prog w = .ok (.tuple #[.agg #[.int .i64 n.k, .int .i64 n.a, .int .i64 n.b, .int .i64 n.lo, .int .i64 n.hi, .int .i64 n.ln, .int .i64 n.ld, .int .i64 n.mn, .int .i64 n.md], .bool true]) w := fun w => by kernel_rfl
 obtain ⟨q, hq⟩ : ∃ q : Nat, (n.k + 1).toNat = q := ⟨_, rfl⟩
 have hq7 : q < 7 := by omega
 have hqk : (2 : Int) + (n.k - 1) = (q : Int) := by omega
 rw [hq] at HRL ⊢
 have hix := word_ix q hq7
 have hbw := fr_alloc (fr_refl w) (.cells #[.int .i64 n.k, .int .i64 n.a, .int .i64 n.b, .int .i64 n.lo, .int .i64 n.hi, .int .i64 n.ln, .int .i64 n.ld, .int .i64 n.mn, .int .i64 n.md] 199)
 unfold noteV at hnum ⊢
 clear hq
 go_enter Tryz.func158, Tryz.ntmps158
 go_wp2_with fail
 clear hqk hk
 refine (words_is _).mono ?_
 rintro e w1 ⟨rfl, hb1⟩
 replace hbw := fr_call hbw hb1
 go_wp2_with fail
 refine (hnum _).mono ?_
 rintro e w2 ⟨A, c, rfl, hO, hb2⟩
 replace hbw := fr_call hbw hb2
 clear hix hnum
 obtain ⟨n, hn⟩ : ∃ n, xs.length = n := ⟨_, rfl⟩
 have HN := Lib.hid hn
 rw [hn] at hO hxl ⊢
 clear hn
 have hT2 := hT.keep hbw
 have hrd := hO.rd
 go_wp2_with fail
 go_loopw [6, 27] (fun s i wr => ∃ j : Nat, j ≤ n ∧ i = .int .i64 j ∧ s = .string ⟨(lineB (wordG q) (xs.take j)).toArray⟩ ∧ Below w2.heap.size w2 wr) (fun _ i _ => n - (intOf i).toNat)
 case atStart => exact ⟨0, Nat.zero_le _, rfl, by simp [lineB], fr_refl _⟩
 case round =>
  obtain ⟨j, hj, rfl, rfl, hbel⟩ := hrel
  by_cases hlt : j < n
  ·have hjl : j < xs.length := by rw [HN.out]; exact hlt
   obtain ⟨ad, rfl, hab, hc⟩ := (hrd.keep hbel).at_ hlt
   have hx1 : 0 ≤ xs[j]?.getD 0 ∧ xs[j]?.getD 0 ≤ 1000000 := by
    rw [List.getElem?_eq_getElem hjl]
    exact HX.out _ (List.getElem_mem _)
   have hst := lineB_snoc (wordG q) xs j hjl
   have HST := Lib.hid hst
   clear hst
   generalize xs[j]?.getD 0 = xj at *
   go_wp2_with fail
   refine (itoa_any xj _ hx1.1 (by omega) (hT2.keep hbel)).mono ?_
   rintro e w3 ⟨rfl, hb3⟩
   have hl1 := itoa_len xj hx1.1 hx1.2
   have hl2 : (lineB (wordG q) (xs.take j)).length ≤ 8 + 8 * j := HRL.out j (by omega)
   generalize hI : Lib.itoa xj = it at *
   generalize hR : lineB (wordG q) (xs.take j) = rb at *
   have HI := Lib.hid hI
   have HR := Lib.hid hR
   clear hI hR
   have hl3 : it.length + 1 ≤ 9223372036854775807 := by omega
   have hl4 : rb.length + (it.length + 1) ≤ 9223372036854775807 := by omega
   go_wp2_with fail
   refine ⟨⟨j + 1, hlt, rfl, ?_, fr_call hbel hb3⟩, ?_⟩
   ·rw [HST.out]
    exact str_app3 _ _
   ·simp [intOf]; omega
  ·obtain rfl : j = n := by omega
   go_wp2_with fail
   go_ret
   rw [List.take_of_length_le (by rw [HN.out]; exact Nat.le_refl _)]
   exact ⟨rfl, fr_call hbw hbel⟩
end Go.Proofs.YtfgghicdkcjdgaaGreatDoor
end

section
namespace Go.Proofs.YtfgghicdkcjdgaaGreatDoor
open Go.RowKit Go.Shelf

def strV (l : List UInt8) : Value := .string ⟨l.toArray⟩
theorem info_string : (Tryz.prog.info? 9).map (fun i => (i.zero, i.size, i.bytes)) = some (some (.string ⟨#[]⟩), 1, 16) := by kernel_rfl
def cellRows (rs : List (List UInt8)) : List (List Value) := rs.map (fun r => [strV r])

theorem term_bounds (b : UInt8) (i j : Nat) (hi : i ≤ 500) (hj : j ≤ 4000) : 0 ≤ ((b.toNat : Nat) : Int) * ((j : Int) + 1) * ((i : Int) + 1) ∧ ((b.toNat : Nat) : Int) * ((j : Int) + 1) * ((i : Int) + 1) ≤ 600000000 ∧ ((b.toNat : Nat) : Int) * ((j : Int) + 1) ≤ 1020255 ∧ 0 ≤ ((b.toNat : Nat) : Int) * ((j : Int) + 1) := by
 have hb : b.toNat ≤ 255 := by have := b.toNat_lt; omega
 have h1 : b.toNat * (j + 1) ≤ 255 * 4001 := Nat.mul_le_mul hb (by omega)
 have h2 : b.toNat * (j + 1) * (i + 1) ≤ 255 * 4001 * 501 := Nat.mul_le_mul h1 (by omega)
 have e1 : ((b.toNat : Nat) : Int) * ((j : Int) + 1) = ((b.toNat * (j + 1) : Nat) : Int) := by push_cast; rfl
 have e2 : ((b.toNat : Nat) : Int) * ((j : Int) + 1) * ((i : Int) + 1) = ((b.toNat * (j + 1) * (i + 1) : Nat) : Int) := by push_cast; rfl
 rw [e2, e1]
 omega
theorem chk_wrap (S C : Int) (b : UInt8) (j p : Nat) (hS : 0 ≤ S ∧ S ≤ 2000000000000000) (hC : 0 ≤ C ∧ C ≤ 3000000000000) (hj : j ≤ 500) (hp : p ≤ 4000) :
  wrap64 (S + C + wrap64 (wrap64 (wrap64 ((b.toNat : Nat) : Int) * ((p : Int) + 1)) * ((j : Int) + 1))) = S + C + ((b.toNat : Nat) : Int) * ((p : Int) + 1) * ((j : Int) + 1) := by
 obtain ⟨tb1, tb2, tb3, tb4⟩ := term_bounds b j p hj hp
 have hbb : b.toNat ≤ 255 := by have := b.toNat_lt; omega
 generalize b.toNat = n at *
 have e1 : wrap64 ((n : Nat) : Int) = (n : Int) := IntWalk.wrap64_in _ (by omega)
 rw [e1]
 generalize (n : Int) * ((p : Int) + 1) = x at *
 have e2 : wrap64 x = x := IntWalk.wrap64_in _ (by omega)
 rw [e2]
 generalize x * ((j : Int) + 1) = y at *
 have e3 : wrap64 y = y := IntWalk.wrap64_in _ (by omega)
 rw [e3]
 exact IntWalk.wrap64_in _ (by omega)
theorem chk1_bounds (i : Nat) (r : List UInt8) (hi : i ≤ 500) : ∀ j, j ≤ 4001 → 0 ≤ chk1 i r j ∧ chk1 i r j ≤ 600000000 * j := by
 intro j
 induction j with
 | zero => intro _; exact ⟨Int.le_refl _, Int.le_refl _⟩
 | succ j ih =>
  intro hj
  have h1 := ih (by omega)
  have h2 := term_bounds (r[j]?.getD 0) i j hi (by omega)
  unfold chk1
  push_cast
  omega
theorem chkN_bounds (R : List (List UInt8)) (hR : ∀ r ∈ R, r.length ≤ 4000) : ∀ i, i ≤ 500 → i ≤ R.length → 0 ≤ chkN R i ∧ chkN R i ≤ 2400000000000 * i := by
 intro i
 induction i with
 | zero => intro _ _; exact ⟨Int.le_refl _, Int.le_refl _⟩
 | succ i ih =>
  intro h8 hl
  have h1 := ih (by omega) (by omega)
  have h2 : (R[i]?.getD []).length ≤ 4000 := by
   rw [List.getElem?_eq_getElem (by omega)]
   exact hR _ (List.getElem_mem _)
  have h3 := chk1_bounds i (R[i]?.getD []) (by omega) (R[i]?.getD []).length (by omega)
  unfold chkN
  push_cast
  omega
theorem own_snoc {w : World} {base n m c : Nat} {E : TypeId} {A : Option Addr} {rs : List (List UInt8)} {r : List UInt8} (h : OwnS w base E 1 (.slice A n c) (cellRows rs ++ [[strV r]])) (hn : n = m) : OwnS w base E 1 (.slice A m c) (cellRows (rs ++ [r])) := by
 subst hn
 have : cellRows (rs ++ [r]) = cellRows rs ++ [[strV r]] := by unfold cellRows; rw [List.map_append]; rfl
 rw [this]
 exact h
theorem joinTail_len (xs : List (List UInt8)) (h : ∀ x ∈ xs, x.length ≤ 4010) : (Lib.joinTail [10] xs).length ≤ 4011 * xs.length := by
 induction xs with
 | nil => simp [Lib.joinTail]
 | cons x xs ih =>
  have h1 := h x (by simp)
  have h2 := ih (fun y hy => h y (by simp [hy]))
  unfold Lib.joinTail at h2 ⊢
  simp only [List.map_cons, List.flatten_cons, List.length_append, List.length_cons, List.length_nil]
  omega
theorem join_len (xs : List (List UInt8)) (h : ∀ x ∈ xs, x.length ≤ 4010) : (Lib.join xs [10]).length ≤ 4011 * xs.length := by
 cases xs with
 | nil => simp [Lib.join_nil]
 | cons x xs =>
  rw [Lib.join_cons]
  have h1 := h x (by simp)
  have h2 := joinTail_len xs (fun y hy => h y (by simp [hy]))
  simp only [List.length_append, List.length_cons]
  omega
theorem join_is (g c : Nat) {base : Nat} (rs : List (List UInt8)) (w : World) (h : OwnS w base 9 1 (.slice (some ⟨g, 0, none⟩) rs.length c) (cellRows rs)) (hc : rs.length ≤ c) (hrn : rs.length ≤ 1000) (hg : g < w.heap.size) (hl : (Lib.join rs [10]).length ≤ 10000000) :
  Calls Tryz.prog 159 #[.slice (some ⟨g, 0, none⟩) rs.length c, .string ⟨#[10]⟩] w fun e w' => e = .returned (.string ⟨(Lib.join rs [10]).toArray⟩) ∧ Below w.heap.size w w' := by
 have hm : (rs.map (fun l => (⟨l.toArray⟩ : ByteArray))).map (·.data.toList) = rs := by
  rw [List.map_map]
  exact (List.map_congr_left (fun l _ => by simp)).trans (List.map_id rs)
 have hs : (⟨#[10]⟩ : ByteArray).data.toList = [10] := rfl
 have hj := Tryz.strings_Join g 0 c (rs.map (fun l => (⟨l.toArray⟩ : ByteArray))) ⟨#[10]⟩ w (fun j x hx => by
  rw [List.getElem?_map] at hx
  cases hr : rs[j]? with
  | none => rw [hr] at hx; cases hx
  | some r =>
   rw [hr] at hx
   cases hx
   have hrow : (cellRows rs)[j]? = some [strV r] := by unfold cellRows; rw [List.getElem?_map, hr]; rfl
   obtain ⟨ad, e0, _, _, hcell⟩ := h.rd.at_ hrow
   cases e0
   have := hcell 0 _ rfl
   rw [add_lit, Nat.mul_one, Nat.add_zero] at this
   exact this) hg (by rw [List.length_map]; omega) (by rw [List.length_map]; exact hc) (by rw [hm, hs]; omega)
 rw [hm, hs, List.length_map] at hj
 exact hj

theorem row_len (word : List UInt8) (hw : word.length ≤ 5) (xs : List Int) (hx : ∀ x ∈ xs, 0 ≤ x ∧ x ≤ 1000000) (hl : xs.length ≤ 6) : (lineB word xs).length ≤ 4000 := by
 have := line_len word hw xs hx xs.length (Nat.le_refl _)
 rw [List.take_length] at this
 omega
/-- numbers of a find that its text can say -/
def MidW (s : Wh) : Prop := (0 ≤ s.lo ∧ s.lo ≤ 1000000) ∧ (0 ≤ s.hi ∧ s.hi ≤ 1000000)
def MidN (n : Note) : Prop := (1 ≤ n.k ∧ n.k ≤ 5) ∧ ∀ x ∈ noteXs n, 0 ≤ x ∧ x ≤ 1000000
theorem MidW.xs {s : Wh} (h : MidW s) : ∀ x ∈ [s.lo, s.hi], 0 ≤ x ∧ x ≤ 1000000 := fun x hx => by
 simp only [List.mem_cons, List.not_mem_nil, or_false] at hx
 rcases hx with rfl | rfl
 ·exact h.1
 ·exact h.2
theorem find_rows_len {ws : List Wh} {ns : List Note} (hw : ∀ s ∈ ws, MidW s) (hn : ∀ n ∈ ns, MidN n) (hl : ws.length ≤ 1000) : ∀ r ∈ findRows ws ns, r.length ≤ 4000 := fun r hr => by
 unfold findRows at hr
 rcases List.mem_cons.1 hr with rfl | hr
 ·exact row_len _ (wordG_len _) _ (fun x hx => by rw [List.mem_singleton.1 hx]; omega) (by simp)
 rcases List.mem_append.1 hr with hr | hr
 ·obtain ⟨s, hs, rfl⟩ := List.mem_map.1 hr
  exact row_len _ (wordG_len _) _ (hw s hs).xs (by simp)
 ·obtain ⟨n, hn', rfl⟩ := List.mem_map.1 hr
  exact row_len _ (wordG_len _) _ (hn n hn').2 (noteXs_len n)
theorem ownS_not {W : World} {base g : Nat} {E t : TypeId} {k : Nat} {v : Value} {rows : List (List Value)} {cs : Array Value} (h : OwnS W base E k v rows) (hB : Blk W g t cs) (ht : t ≠ E) : some g ≠ v.ownBlock := fun e => by
 rcases h.1.2 with ⟨rfl, _⟩ | ⟨g', cap, cur, rfl, _, hh, _⟩
 ·simp [Value.ownBlock] at e
 ·obtain rfl : g = g' := by simpa [Value.ownBlock] using e
  unfold Blk at hB
  rw [hB] at hh
  cases hh
  exact ht rfl
theorem own_baseS {w : World} {b b' : Nat} {E : TypeId} {k : Nat} {v : Value} {rows : List (List Value)} (h : OwnS w b E k v rows) (hb : b' ≤ b) : OwnS w b' E k v rows := by
 refine ⟨⟨h.1.1, ?_⟩, h.2⟩
 rcases h.1.2 with h1 | ⟨g, cap, cur, h1, h2, h3⟩
 ·exact Or.inl h1
 ·exact Or.inr ⟨g, cap, cur, h1, Nat.le_trans hb h2, h3⟩
set_option maxRecDepth 100000 in
set_option maxHeartbeats 16000000 in
theorem text_any (A N : Option Addr) (wc nc : Nat) (ws : List Wh) (ns : List Note) (w : World) (hf : FindAt w A N ws ns) (hw : ∀ s ∈ ws, MidW s) (hn : ∀ n ∈ ns, MidN n) (hlen : ws.length + ns.length ≤ 499) (hT : TabP w) :
  Calls Tryz.prog 137 #[.agg #[.slice A ws.length wc, .slice N ns.length nc]] w fun e w' => e = .returned (.string ⟨(findText ws ns).toArray⟩) ∧ Below w.heap.size w w' := by
 have hb0 := fr_alloc (fr_refl w) (.cells #[.slice A ws.length wc, .slice N ns.length nc] 25)
 have hX := Blk.new w 25 #[.slice A ws.length wc, .slice N ns.length nc]
 have hR40 := find_rows_len hw hn (by omega)
 have hrow0 := fun W h => row_head (ws.length : Int) W h (fun x hx => by rw [List.mem_singleton.1 hx]; omega)
 obtain ⟨m, hm⟩ : ∃ m, ws.length = m := ⟨_, rfl⟩
 obtain ⟨q, hq⟩ : ∃ q, ns.length = q := ⟨_, rfl⟩
 rw [hm] at hrow0 hX hb0 hlen ⊢
 rw [hq] at hX hb0 hlen ⊢
 have HM := Lib.hid hm
 have HQ := Lib.hid hq
 have HR40 := Lib.hid hR40
 clear hm hq hR40
 have hcX := fun j => hX.cell j
 go_enter Tryz.func137, Tryz.ntmps137
 go_wp2_with fail
 refine (hrow0 _ (hT.keep hb0)).mono ?_
 rintro e w1 ⟨rfl, hb1⟩
 generalize hr0 : lineB (wordG 0) [(m : Int)] = r0 at *
 have HR0 := Lib.hid hr0
 clear hcX hrow0 hr0
 replace hX := hX.keep hb1
 have hbw := fr_call hb0 hb1
 have hbS := fr_alloc (fr_refl w1) (.cells #[.string ⟨r0.toArray⟩] 9)
 have hS0 : OwnS (w1.alloc (.cells #[.string ⟨r0.toArray⟩] 9)) w1.heap.size 9 1 (.slice (some ⟨w1.heap.size, 0, none⟩) 1 1) (cellRows [r0]) :=
  ⟨⟨rfl, Or.inr ⟨w1.heap.size, 1, _, rfl, Nat.le_refl _, Blk.new w1 _ _, Nat.le_refl _, by unfold maxLen; omega, rfl, rfl⟩⟩, fun r hr => by simp only [cellRows, List.map_cons, List.map_nil, List.mem_singleton] at hr; rw [hr]; rfl⟩
 have hX1 := hX.keep hbS
 have hcX := fun j => hX1.cell j
 go_wp2_with fail
 obtain ⟨w2, hw2⟩ : ∃ w2, w1.alloc (.cells #[.string ⟨r0.toArray⟩] 9) = w2 := ⟨_, rfl⟩
 rw [hw2] at hbS hS0 hX1 hcX ⊢
 clear hw2
 have hg1 : w.heap.size ≤ w1.heap.size := hbw.size
 replace hS0 : OwnS w2 w.heap.size 9 1 (.slice (some ⟨w1.heap.size, 0, none⟩) 1 1) (cellRows [r0]) := own_baseS hS0 hg1
 have hb2 := fr_call hbw hbS
 clear hX hbS hb0 hbw hb1 hcX
 go_loopw [3, 22] (fun v i wr => ∃ k : Nat, k ≤ m ∧ i = .int .i64 k ∧ OwnS wr w.heap.size 9 1 v (cellRows (r0 :: (ws.take k).map whRow)) ∧ Below w.heap.size w wr ∧ Blk wr w.heap.size 25 #[.slice A m wc, .slice N q nc]) (fun _ i _ => m - (intOf i).toNat)
 case atStart => exact ⟨0, Nat.zero_le _, rfl, hS0, hb2, hX1⟩
 case round =>
  obtain ⟨k, hk, rfl, hown, hbel, hXr⟩ := hrel
  obtain ⟨w3, hw3⟩ : ∃ w3, w3 = wr := ⟨_, rfl⟩
  subst hw3
  clear hS0 hb2 hX1
  by_cases hlt : k < m
  ·have hkl : k < ws.length := by rw [HM.out]; exact hlt
   obtain ⟨ad, rfl, hab, k0, k1⟩ := whs_at (hf.ws.keep hbel) hkl
   have hms := hw _ (List.getElem_mem hkl)
   have htk : (ws.take (k + 1)).map whRow = (ws.take k).map whRow ++ [whRow ws[k]] := by rw [List.take_succ_eq_append_getElem hkl, List.map_append]; rfl
   have HTK := Lib.hid htk
   have hrow := fun W h => row_wheel ws[k] W h hms.xs
   have hrd : lineB (wordG 1) [ws[k].lo, ws[k].hi] = whRow ws[k] := rfl
   rw [hrd] at hrow
   clear htk hms hrd
   generalize whRow ws[k] = rk at *
   generalize ws[k].lo = x at *
   generalize ws[k].hi = y at *
   have hll : (cellRows (r0 :: (ws.take k).map whRow)).length < 1000000 := by simp [cellRows]; omega
   have hcr : cellRows (r0 :: (ws.take (k + 1)).map whRow) = cellRows (r0 :: (ws.take k).map whRow) ++ [[.string ⟨rk.toArray⟩]] := by rw [HTK.out]; simp [cellRows, strV]
   generalize cellRows (r0 :: (ws.take k).map whRow) = RR at *
   have HCR := Lib.hid hcr
   clear hcr
   go_wp2_with fail
   have hbX := fr_alloc (fr_refl w3) (.cells #[.int .i64 x, .int .i64 y] 47)
   refine (hrow _ ((hT.keep hbel).keep hbX)).mono ?_
   rintro e w4 ⟨rfl, hb4⟩
   have hb34 := fr_call hbX hb4
   have hown4 := hown.keep hb34
   have hbel4 := fr_call hbel hb34
   have hX4 := hXr.keep hb34
   clear hrow k0 k1
   go_wp2_with (at_builtin; refine app_row rfl (.tmp 26) (.tmp 31) rfl Tryz.underlying142 info_string rfl (by decide) (by decide) w.heap.size _ _ rfl rfl hown4 rfl (by simp [Value.oneCell']) hll hbel4.size ?_; intro B0 cap0 wy hown5 hg5)
   have hX5 := (hX4.alloc (.cells #[.string ⟨rk.toArray⟩] 9)).grown hg5 (ownS_not hown4 hX4 (by decide))
   have hbel5 := (fr_alloc hbel4 _).grown hg5 (fr_alloc hbel4 (.cells #[.string ⟨rk.toArray⟩] 9)).size hown4.ge
   go_wp2_with fail
   refine ⟨⟨k + 1, hlt, rfl, by rw [HCR.out]; exact hown5, hbel5, hX5⟩, ?_⟩
   simp [intOf]; omega
  ·obtain rfl : k = m := by omega
   have htk : ws.take k = ws := List.take_of_length_le (by rw [HM.out]; exact Nat.le_refl _)
   rw [htk] at hown
   have hrows : findRows ws ns = (r0 :: ws.map whRow) ++ ns.map noteRow := by unfold findRows; rw [HM.out, HR0.out]; rfl
   have HRW := Lib.hid hrows
   have hrl : (r0 :: ws.map whRow).length = k + 1 := by simp [HM.out]
   clear htk hrows
   generalize r0 :: ws.map whRow = R1 at *
   have HRL := Lib.hid hrl
   clear hrl
   have hcX := fun j => hXr.cell j
   go_wp2_with fail
   clear hcX
   go_loopw [3, 37] (fun v i wr => ∃ p : Nat, p ≤ q ∧ i = .int .i64 p ∧ OwnS wr w.heap.size 9 1 v (cellRows (R1 ++ (ns.take p).map noteRow)) ∧ Below w.heap.size w wr) (fun _ i _ => q - (intOf i).toNat)
   case atStart => exact ⟨0, Nat.zero_le _, rfl, by simpa using hown, hbel⟩
   case round =>
    obtain ⟨p, hp, rfl, hown, hbel⟩ := hrel
    obtain ⟨w4, hw4⟩ : ∃ w4, w4 = wr := ⟨_, rfl⟩
    subst hw4
    clear hXr
    by_cases hltp : p < q
    ·have hkl : p < ns.length := by rw [HQ.out]; exact hltp
     obtain ⟨ad, rfl, hab, k0, k1, k2, k3, k4, k5, k6, k7, k8⟩ := notes_at (hf.ns.keep hbel) hkl
     have hms := hn _ (List.getElem_mem hkl)
     have htk : (ns.take (p + 1)).map noteRow = (ns.take p).map noteRow ++ [noteRow ns[p]] := by rw [List.take_succ_eq_append_getElem hkl, List.map_append]; rfl
     have HTK := Lib.hid htk
     have hrow := fun W h => row_note ns[p] hms.1 W h hms.2
     have hrd : lineB (wordG (ns[p].k + 1).toNat) (noteXs ns[p]) = noteRow ns[p] := rfl
     rw [hrd] at hrow
     unfold noteV at hrow
     clear htk hms hrd
     generalize noteRow ns[p] = rk at *
     generalize ns[p] = nt at *
     obtain ⟨nk, na, nb, nlo, nhi, nln, nld, nmn, nmd⟩ := nt
     simp only at hrow k0 k1 k2 k3 k4 k5 k6 k7 k8
     have hll : (cellRows (R1 ++ (ns.take p).map noteRow)).length < 1000000 := by have := HRL.out; simp [cellRows]; omega
     have hcr : cellRows (R1 ++ (ns.take (p + 1)).map noteRow) = cellRows (R1 ++ (ns.take p).map noteRow) ++ [[.string ⟨rk.toArray⟩]] := by rw [HTK.out]; simp [cellRows, strV]
     generalize cellRows (R1 ++ (ns.take p).map noteRow) = RR at *
     have HCR := Lib.hid hcr
     clear hcr
     go_wp2_with fail
     have hbX := fr_alloc (fr_refl w4) (.cells #[.int .i64 nk, .int .i64 na, .int .i64 nb, .int .i64 nlo, .int .i64 nhi, .int .i64 nln, .int .i64 nld, .int .i64 nmn, .int .i64 nmd] 70)
     refine (hrow _ ((hT.keep hbel).keep hbX)).mono ?_
     rintro e w5 ⟨rfl, hb5⟩
     have hb45 := fr_call hbX hb5
     have hown4 := hown.keep hb45
     have hbel4 := fr_call hbel hb45
     clear hrow k0 k1 k2 k3 k4 k5 k6 k7 k8
     go_wp2_with (at_builtin; refine app_row rfl (.tmp 41) (.tmp 46) rfl Tryz.underlying142 info_string rfl (by decide) (by decide) w.heap.size _ _ rfl rfl hown4 rfl (by simp [Value.oneCell']) hll hbel4.size ?_; intro B0 cap0 wy hown5 hg5)
     have hbel5 := (fr_alloc hbel4 _).grown hg5 (fr_alloc hbel4 (.cells #[.string ⟨rk.toArray⟩] 9)).size hown4.ge
     go_wp2_with fail
     refine ⟨⟨p + 1, hltp, rfl, by rw [HCR.out]; exact hown5, hbel5⟩, ?_⟩
     simp [intOf]; omega
    ·obtain rfl : p = q := by omega
     have htk : ns.take p = ns := List.take_of_length_le (by rw [HQ.out]; exact Nat.le_refl _)
     rw [htk, ← HRW.out] at hown
     have hRRl : (findRows ws ns).length ≤ 500 := by rw [HRW.out, List.length_append, HRL.out, List.length_map, HQ.out]; omega
     have hR40 := HR40.out
     clear htk
     generalize hRR : findRows ws ns = RR at *
     have HRR := Lib.hid hRR
     clear hRR
     have hCN := fun i h => chkN_bounds RR hR40 i h
     obtain ⟨B, b, rfl⟩ := hown.form
     have hrdS := hown.rd
     have hRl : (cellRows RR).length = RR.length := by unfold cellRows; rw [List.length_map]
     rw [hRl] at hown
     rw [hRl]
     clear hRl
     generalize hnr : RR.length = nr at *
     have HNR := Lib.hid hnr
     clear hnr
     go_wp2_with fail
     go_loop [8, 51] (fun v i => ∃ j : Nat, j ≤ nr ∧ i = .int .i64 j ∧ v = .int .i64 (chkN RR j)) (fun _ i => nr - (intOf i).toNat)
     case atStart => exact ⟨0, Nat.zero_le _, rfl, rfl⟩
     case round =>
      obtain ⟨j, hj, rfl, rfl⟩ := hrel
      by_cases hltj : j < nr
      ·have hjl : j < RR.length := by have := HNR.out; omega
       have hrowj : (cellRows RR)[j]? = some [strV RR[j]] := by simp [cellRows, hjl]
       obtain ⟨ad3, rfl, hab3, _, hc3⟩ := hrdS.at_ hrowj
       have hcs : w4.cell? (ad3.add (j * 1)) = some (strV RR[j]) := hc3 0 _ rfl
       rw [Nat.mul_one] at hcs
       have hrl40 := hR40 RR[j] (List.getElem_mem hjl)
       have hgj : RR[j]?.getD [] = RR[j] := by simp [hjl]
       have hb0 := hCN j (by omega) (by omega)
       have hst : chkN RR (j + 1) = chkN RR j + chk1 j RR[j] RR[j].length := by
        show chkN RR j + chk1 j (RR[j]?.getD []) (RR[j]?.getD []).length = _
        rw [hgj]
       have HST := Lib.hid hst
       clear hst hgj hc3 hrowj
       generalize RR[j] = r at *
       unfold strV at hcs
       go_wp2_with fail
       go_loop [8, 58] (fun v i => ∃ p : Nat, p ≤ r.length ∧ i = .int .i64 p ∧ v = .int .i64 (chkN RR j + chk1 j r p)) (fun _ i => r.length - (intOf i).toNat)
       case atStart => exact ⟨0, Nat.zero_le _, rfl, by simp [chk1]⟩
       case round =>
        obtain ⟨p, hp, rfl, rfl⟩ := hrel
        by_cases hltp : p < r.length
        ·have hgp : r[p]?.getD 0 = r[p] := by simp [hltp]
         have hcb := chk1_bounds j r (by omega) p (by omega)
         have hst : chk1 j r (p + 1) = chk1 j r p + ((r[p].toNat : Nat) : Int) * ((p : Int) + 1) * ((j : Int) + 1) := by
          show chk1 j r p + (((r[p]?.getD 0).toNat : Nat) : Int) * ((p : Int) + 1) * ((j : Int) + 1) = _
          rw [hgp]
         have HSP := Lib.hid hst
         clear hst hgp
         go_wp2_with fail
         have hcw := chk_wrap (chkN RR j) (chk1 j r p) r[p] j p (by omega) (by omega) (by omega) (by omega)
         refine ⟨⟨p + 1, hltp, rfl, ?_⟩, ?_⟩
         ·show Value.int .i64 (wrap64 (chkN RR j + chk1 j r p + wrap64 (wrap64 (wrap64 ((r[p].toNat : Nat) : Int) * ((p : Int) + 1)) * ((j : Int) + 1)))) = _
          rw [hcw, HSP.out, Int.add_assoc]
         ·simp [intOf]; omega
        ·obtain rfl : p = r.length := by omega
         go_wp2_with fail
         refine ⟨⟨j + 1, hltj, rfl, by rw [HST.out]⟩, ?_⟩
         simp [intOf]; omega
      ·obtain rfl : j = nr := by omega
       have hb0 := hCN j (by omega) (by omega)
       have t1 : (chkN RR j).tmod 149 = chkN RR j % 149 := Int.tmod_eq_emod_of_nonneg (by omega)
       have t2 : IntKind.i64.wrap (chkN RR j % 149) = chkN RR j % 149 := IntWalk.i64_in _ (by omega)
       obtain ⟨ct, hct⟩ : ∃ ct : Int, chkN RR j % 149 = ct := ⟨_, rfl⟩
       have hc1 : 0 ≤ ct := by omega
       have hc2 : ct < 149 := by omega
       have t3 : ct.tdiv 100 = ct / 100 := Int.tdiv_eq_ediv_of_nonneg hc1
       have t4 : ct.tdiv 10 = ct / 10 := Int.tdiv_eq_ediv_of_nonneg hc1
       have t5 : ct.tmod 10 = ct % 10 := Int.tmod_eq_emod_of_nonneg hc1
       have t6 : (ct / 10).tmod 10 = ct / 10 % 10 := Int.tmod_eq_emod_of_nonneg (by omega)
       have t7 : IntKind.i64.wrap (ct / 100) = ct / 100 := IntWalk.i64_in _ (by omega)
       have t8 : IntKind.i64.wrap (ct / 10) = ct / 10 := IntWalk.i64_in _ (by omega)
       have t9 : IntKind.i64.wrap (ct / 10 % 10) = ct / 10 % 10 := IntWalk.i64_in _ (by omega)
       have t10 : IntKind.i64.wrap (ct % 10) = ct % 10 := IntWalk.i64_in _ (by omega)
       have hT6 := hT.keep hbel
       have l1 := itoa_len (ct / 100) (by omega) (by omega)
       have l2 := itoa_len (ct / 10 % 10) (by omega) (by omega)
       have l3 := itoa_len (ct % 10) (by omega) (by omega)
       rw [hct] at t1 t2
       have HCT := Lib.hid hct
       clear hct
       go_wp2_with fail
       refine (itoa_any (ct / 100) _ (by omega) (by omega) hT6).mono ?_
       rintro e' w7 ⟨rfl, hb7⟩
       generalize hA1 : Lib.itoa (ct / 100) = A1 at *
       have HA1 := Lib.hid hA1
       clear hA1
       go_wp2_with fail
       refine (itoa_any (ct / 10 % 10) _ (by omega) (by omega) (hT6.keep hb7)).mono ?_
       rintro e' w8 ⟨rfl, hb8⟩
       generalize hA2 : Lib.itoa (ct / 10 % 10) = A2 at *
       have HA2 := Lib.hid hA2
       clear hA2
       go_wp2_with fail
       refine (itoa_any (ct % 10) _ (by omega) (by omega) ((hT6.keep hb7).keep hb8)).mono ?_
       rintro e' w9 ⟨rfl, hb9⟩
       generalize hA3 : Lib.itoa (ct % 10) = A3 at *
       have HA3 := Lib.hid hA3
       clear hA3
       have ho9 := ((hown.keep hb7).keep hb8).keep hb9
       have hb79 := fr_call (fr_call (fr_call hbel hb7) hb8) hb9
       have hll9 : (cellRows RR).length < 1000000 := by unfold cellRows; rw [List.length_map, HNR.out]; omega
       go_wp2_with (at_builtin; refine app_row rfl (.tmp 77) (.tmp 91) rfl Tryz.underlying142 info_string rfl (by decide) (by decide) w.heap.size _ _ rfl rfl ho9 rfl (by simp [Value.oneCell']) hll9 hb79.size ?_; intro B0 cap0 wy hown3 hg3)
       have hge9 := ho9.ge
       have hend : Value.string (⟨#[101, 110, 100, 32]⟩ ++ ⟨A1.toArray⟩ ++ ⟨A2.toArray⟩ ++ ⟨A3.toArray⟩) = strV ([101, 110, 100, 32] ++ A1 ++ A2 ++ A3) := by congr 1
       rw [hend] at hown3
       have hfy := (fr_alloc hb79 _).grown hg3 (fr_alloc hb79 _).size hge9
       have hown4 := own_snoc (m := (RR ++ [[101, 110, 100, 32] ++ A1 ++ A2 ++ A3]).length) hown3 (by simp [cellRows])
       have hnn : (cellRows RR).length + 1 = (RR ++ [[101, 110, 100, 32] ++ A1 ++ A2 ++ A3]).length := by simp [cellRows]
       rw [hnn]
       have hRE : textM 149 RR = Lib.join (RR ++ [[101, 110, 100, 32] ++ A1 ++ A2 ++ A3]) [10] ++ [10] := by
        unfold textM endB chkM
        rw [HNR.out, HCT.out, HA1.out, HA2.out, HA3.out]
       have hr50 : ∀ r ∈ RR ++ [[101, 110, 100, 32] ++ A1 ++ A2 ++ A3], r.length ≤ 4010 := fun r hr' => by
        rcases List.mem_append.1 hr' with h | h
        ·have := hR40 r h; omega
        ·have : r = [101, 110, 100, 32] ++ A1 ++ A2 ++ A3 := by simpa using h
         rw [this]
         simp only [List.length_append, List.length_cons, List.length_nil]
         omega
       have hrn : (RR ++ [[101, 110, 100, 32] ++ A1 ++ A2 ++ A3]).length ≤ 501 := by
        rw [List.length_append, HNR.out]; simp only [List.length_cons, List.length_nil]; omega
       have hrp : 0 < (RR ++ [[101, 110, 100, 32] ++ A1 ++ A2 ++ A3]).length := by simp
       have HRE := Lib.hid hRE
       clear hRE hend hnn hown3 hg3
       generalize RR ++ [[101, 110, 100, 32] ++ A1 ++ A2 ++ A3] = RE at *
       obtain ⟨gz, rfl, hgz, hcz⟩ := hown4.addr (by simpa [cellRows] using hrp)
       have hjl := join_len RE hr50
       refine (join_is gz cap0 RE wy hown4 hcz (by omega) hgz (by omega)).mono ?_
       rintro e' w10 ⟨rfl, hb10⟩
       generalize hJ : Lib.join RE [10] = JJ at *
       have HJ := Lib.hid hJ
       clear hJ
       have hjl2 : JJ.length + 1 ≤ 9223372036854775807 := by omega
       have hS : Ending.returned (Value.string (⟨JJ.toArray⟩ ++ ⟨#[10]⟩)) = Ending.returned (Value.string ⟨(JJ ++ [10]).toArray⟩) := by congr 1
       go_wp2_with fail
       go_ret
       unfold findText
       rw [HRR.out, HRE.out]
       exact ⟨hS, fr_call hfy hb10⟩
end Go.Proofs.YtfgghicdkcjdgaaGreatDoor
end

section
namespace Go.Proofs.YtfgghicdkcjdgaaGreatDoor
open Go.RowKit Go.Shelf

theorem info_note : (Tryz.prog.info? 70).map (fun i => (i.zero, i.size, i.bytes)) = some (some (.agg #[.int .i64 0, .int .i64 0, .int .i64 0, .int .i64 0, .int .i64 0, .int .i64 0, .int .i64 0, .int .i64 0, .int .i64 0]), 9, 72) := by kernel_rfl
theorem RdS.lt0 {w : World} {g k : Nat} {rows : List (List Value)} (h : RdS w (some ⟨g, 0, none⟩) k rows) (hp : 0 < rows.length) : g < w.heap.size := by
 obtain ⟨ad, e, hlt, _⟩ := h hp
 cases e
 exact hlt
theorem RdS.far2 {w w' : World} {g k : Nat} {M : Option Nat} {rows : List (List Value)} (h : RdS w (some ⟨g, 0, none⟩) k rows) (hg : w.grownBy w' M) (hne : some g ≠ M) : RdS w' (some ⟨g, 0, none⟩) k rows := fun hn => by
 obtain ⟨ad, e, hlt, hc⟩ := h hn
 cases e
 exact ⟨_, rfl, Nat.lt_of_lt_of_le hlt hg.size, fun i r hr => ⟨(hc i r hr).1, fun j v hv => (World.cell?_of_block (hg.block _ (by rw [block_of_add]; exact hlt) (by rw [block_of_add]; exact hne))).trans ((hc i r hr).2 j v hv)⟩⟩
set_option maxRecDepth 100000 in
set_option maxHeartbeats 4000000 in
theorem G_any (w : World) : Calls Tryz.prog 37 #[] w (RetF1 w wsF nsG) := by
 have hf := fr_alloc (fr_refl w) (.cells #[.slice none 0 0, .slice none 0 0] 25)
 have hR := Blk.new w 25 #[.slice none 0 0, .slice none 0 0]
 go_enter Tryz.func37, Tryz.ntmps37
 go_wp2_with fail
 refine (F_any _).mono ?_
 rintro e w1 ⟨g1, g2, c, m, rfl, hfa, hown, ⟨hg1, hg2, cs1, hB1⟩, hb⟩
 simp only [World.size_alloc] at hg1 hg2
 replace hf := fr_call hf hb
 replace hR := hR.keep hb
 have hl1 := RdS.lt0 hfa.ws (by decide)
 have hl2 := RdS.lt0 hfa.ns (by decide)
 clear hb
 rw [World.size_alloc] at hown
 have hX := Blk.new w1 25 #[.slice (some ⟨g1, 0, none⟩) wsF.length c, .slice (some ⟨g2, 0, none⟩) nsF.length m]
 have hbX := fr_alloc (fr_refl w1) (.cells #[.slice (some ⟨g1, 0, none⟩) wsF.length c, .slice (some ⟨g2, 0, none⟩) nsF.length m] 25)
 replace hf := fr_call hf hbX
 replace hR := hR.keep hbX
 replace hown := hown.keep hbX
 replace hfa := hfa.keep hbX
 replace hB1 := hB1.keep hbX
 go_upto_region 2 with (fail)
 have hXs := hbX.size
 have hXl := hX.lt
 generalize w1.alloc (.cells #[.slice (some ⟨g1, 0, none⟩) wsF.length c, .slice (some ⟨g2, 0, none⟩) nsF.length m] 25) = w2 at *
 have hcX := fun j => hX.cell j
 have hba := fr_alloc (fr_refl w2) (.cells #[.int .i64 5, .int .i64 3, .int .i64 4, .int .i64 0, .int .i64 0, .int .i64 0, .int .i64 0, .int .i64 0, .int .i64 0] 70)
 have hXa := hX.keep hba
 have hRa := hR.keep hba
 have hBa := hB1.keep hba
 have hfa2 := fr_alloc hf (.cells #[.int .i64 5, .int .i64 3, .int .i64 4, .int .i64 0, .int .i64 0, .int .i64 0, .int .i64 0, .int .i64 0, .int .i64 0] 70)
 have hno1 := ownS_not hown hX (by decide)
 have hno2 := ownS_not hown hR (by decide)
 have hno3 := ownS_not hown hB1 (by decide)
 have hlen : nsF.length + 1 = nsG.length := rfl
 go_wp2_with (first | (at_builtin; go_must (refine app_row rfl (.tmp 4) (.tmp 6) rfl Tryz.underlying23 info_note rfl (by decide) (by decide) (w.heap.size + 1) (.slice (some ⟨g2, 0, none⟩) nsF.length m) _ rfl rfl hown (r := [.int .i64 5, .int .i64 3, .int .i64 4, .int .i64 0, .int .i64 0, .int .i64 0, .int .i64 0, .int .i64 0, .int .i64 0]) rfl (by simp [Value.oneCell']) (by simp [nsF]) (by omega) ?_); intro B0 cap0 wy hown5 hg5; obtain ⟨g3, e3, hg3l, -⟩ := hown5.addr (by simp); subst e3; have hXy := hXa.grown hg5 hno1; have hX3 := hXy.set_ 1 (.slice (some ⟨g3, 0, none⟩) ((nsF.map Note.cells).length + 1) cap0); have hRy := hRa.grown hg5 hno2; have hn1 := ownS_not hown5 hXy (by decide); have hn2 := ownS_not hown5 hRy (by decide); have hx1 : w.heap.size ≠ w1.heap.size := (by omega); have hR3 := hRy.far (p := ⟨w1.heap.size, 1, none⟩) hx1 (.slice (some ⟨g3, 0, none⟩) ((nsF.map Note.cells).length + 1) cap0); clear hcX; have hcX := fun j => hXy.cell j; have hfX := fun j => hXy.frozen j; have hc3 := fun j => hX3.cell j; clear hX3) | (refine wpList_store_blk rfl 25 _ _ rfl w.heap.size 25 _ #[.slice (some ⟨g1, 0, none⟩) wsF.length c, .slice (some ⟨g3, 0, none⟩) ((nsF.map Note.cells).length + 1) cap0] rfl rfl hR3 rfl (by kernel_rfl) (by simp [Value.oneCell']) ?_; intro W hW hgW))
 have hB1y := hBa.grown hg5 hno3
 have hn3 := ownS_not hown5 hB1y (by decide)
 have hWy := (hfa.ws.keep hba).far2 hg5 hno3
 have hfy := hfa2.grown hg5 (show w.heap.size ≤ _ from hfa2.size) (by intro k hk; have := hown.ge k hk; omega)
 have hg3 : w.heap.size + 1 ≤ g3 := hown5.ge g3 rfl
 have hx2 : g1 ≠ w1.heap.size := by omega
 have hs1 := grown_set wy ⟨w1.heap.size, 1, none⟩ (.slice (some ⟨g3, 0, none⟩) ((nsF.map Note.cells).length + 1) cap0)
 have hfz := (hfy.grown hs1 hfy.size (by intro k hk; cases hk; show _ ≤ w1.heap.size; omega)).grown hgW (hfy.grown hs1 hfy.size (by intro k hk; cases hk; show _ ≤ w1.heap.size; omega)).size (by intro k hk; cases hk; exact Nat.le_refl _)
 have hWz := (hWy.far2 hs1 (by intro e; injection e with e; exact hx2 e)).far2 hgW (by intro e; injection e with e; omega)
 have hBz := (hB1y.grown hs1 (by intro e; injection e with e; exact hx2 e)).grown hgW (by intro e; injection e with e; omega)
 have hOz : OwnS W (w.heap.size + 1) 70 9 (.slice (some ⟨g3, 0, none⟩) ((nsF.map Note.cells).length + 1) cap0) (nsF.map Note.cells ++ [[.int .i64 5, .int .i64 3, .int .i64 4, .int .i64 0, .int .i64 0, .int .i64 0, .int .i64 0, .int .i64 0, .int .i64 0]]) :=
  ⟨World.ownsRow.kept (World.ownsRow.kept hown5.1 hs1 (.inr (fun e => hn1 e.symm))) hgW (.inr (fun e => hn2 e.symm)), hown5.2⟩
 have hOz2 := own_baseS hOz (Nat.le_succ _)
 refine bodyPost_ret (results_blk1 rfl _ _ _ _ rfl hW Tryz.underlying25 rfl (by kernel_rfl)) rfl ⟨g1, g3, c, cap0, rfl, ⟨hWz, hOz.rd⟩, hOz2, ⟨by omega, by omega, _, hBz⟩, hfz⟩
set_option maxRecDepth 100000 in
set_option maxHeartbeats 4000000 in
theorem H_any (w : World) : Calls Tryz.prog 33 #[] w (RetF1 w wsF nsH) := by
 have hf := fr_alloc (fr_refl w) (.cells #[.slice none 0 0, .slice none 0 0] 25)
 have hR := Blk.new w 25 #[.slice none 0 0, .slice none 0 0]
 go_enter Tryz.func33, Tryz.ntmps33
 go_wp2_with fail
 refine (F_any _).mono ?_
 rintro e w1 ⟨g1, g2, c, m, rfl, hfa, hown, ⟨hg1, hg2, cs1, hB1⟩, hb⟩
 simp only [World.size_alloc] at hg1 hg2
 replace hf := fr_call hf hb
 replace hR := hR.keep hb
 have hl1 := RdS.lt0 hfa.ws (by decide)
 have hl2 := RdS.lt0 hfa.ns (by decide)
 clear hb
 rw [World.size_alloc] at hown
 have hX := Blk.new w1 25 #[.slice (some ⟨g1, 0, none⟩) wsF.length c, .slice (some ⟨g2, 0, none⟩) nsF.length m]
 have hbX := fr_alloc (fr_refl w1) (.cells #[.slice (some ⟨g1, 0, none⟩) wsF.length c, .slice (some ⟨g2, 0, none⟩) nsF.length m] 25)
 replace hf := fr_call hf hbX
 replace hR := hR.keep hbX
 replace hown := hown.keep hbX
 replace hfa := hfa.keep hbX
 replace hB1 := hB1.keep hbX
 go_upto_region 2 with (fail)
 have hXs := hbX.size
 have hXl := hX.lt
 generalize w1.alloc (.cells #[.slice (some ⟨g1, 0, none⟩) wsF.length c, .slice (some ⟨g2, 0, none⟩) nsF.length m] 25) = w2 at *
 have hcX := fun j => hX.cell j
 have hba := fr_alloc (fr_refl w2) (.cells #[.int .i64 4, .int .i64 0, .int .i64 2, .int .i64 0, .int .i64 0, .int .i64 0, .int .i64 0, .int .i64 0, .int .i64 0] 70)
 have hXa := hX.keep hba
 have hRa := hR.keep hba
 have hBa := hB1.keep hba
 have hfa2 := fr_alloc hf (.cells #[.int .i64 4, .int .i64 0, .int .i64 2, .int .i64 0, .int .i64 0, .int .i64 0, .int .i64 0, .int .i64 0, .int .i64 0] 70)
 have hno1 := ownS_not hown hX (by decide)
 have hno2 := ownS_not hown hR (by decide)
 have hno3 := ownS_not hown hB1 (by decide)
 have hlen : nsF.length + 1 = nsH.length := rfl
 go_wp2_with (first | (at_builtin; go_must (refine app_row rfl (.tmp 4) (.tmp 6) rfl Tryz.underlying23 info_note rfl (by decide) (by decide) (w.heap.size + 1) (.slice (some ⟨g2, 0, none⟩) nsF.length m) _ rfl rfl hown (r := [.int .i64 4, .int .i64 0, .int .i64 2, .int .i64 0, .int .i64 0, .int .i64 0, .int .i64 0, .int .i64 0, .int .i64 0]) rfl (by simp [Value.oneCell']) (by simp [nsF]) (by omega) ?_); intro B0 cap0 wy hown5 hg5; obtain ⟨g3, e3, hg3l, -⟩ := hown5.addr (by simp); subst e3; have hXy := hXa.grown hg5 hno1; have hX3 := hXy.set_ 1 (.slice (some ⟨g3, 0, none⟩) ((nsF.map Note.cells).length + 1) cap0); have hRy := hRa.grown hg5 hno2; have hn1 := ownS_not hown5 hXy (by decide); have hn2 := ownS_not hown5 hRy (by decide); have hx1 : w.heap.size ≠ w1.heap.size := (by omega); have hR3 := hRy.far (p := ⟨w1.heap.size, 1, none⟩) hx1 (.slice (some ⟨g3, 0, none⟩) ((nsF.map Note.cells).length + 1) cap0); clear hcX; have hcX := fun j => hXy.cell j; have hfX := fun j => hXy.frozen j; have hc3 := fun j => hX3.cell j; clear hX3) | (refine wpList_store_blk rfl 25 _ _ rfl w.heap.size 25 _ #[.slice (some ⟨g1, 0, none⟩) wsF.length c, .slice (some ⟨g3, 0, none⟩) ((nsF.map Note.cells).length + 1) cap0] rfl rfl hR3 rfl (by kernel_rfl) (by simp [Value.oneCell']) ?_; intro W hW hgW))
 have hB1y := hBa.grown hg5 hno3
 have hn3 := ownS_not hown5 hB1y (by decide)
 have hWy := (hfa.ws.keep hba).far2 hg5 hno3
 have hfy := hfa2.grown hg5 (show w.heap.size ≤ _ from hfa2.size) (by intro k hk; have := hown.ge k hk; omega)
 have hg3 : w.heap.size + 1 ≤ g3 := hown5.ge g3 rfl
 have hx2 : g1 ≠ w1.heap.size := by omega
 have hs1 := grown_set wy ⟨w1.heap.size, 1, none⟩ (.slice (some ⟨g3, 0, none⟩) ((nsF.map Note.cells).length + 1) cap0)
 have hfz := (hfy.grown hs1 hfy.size (by intro k hk; cases hk; show _ ≤ w1.heap.size; omega)).grown hgW (hfy.grown hs1 hfy.size (by intro k hk; cases hk; show _ ≤ w1.heap.size; omega)).size (by intro k hk; cases hk; exact Nat.le_refl _)
 have hWz := (hWy.far2 hs1 (by intro e; injection e with e; exact hx2 e)).far2 hgW (by intro e; injection e with e; omega)
 have hBz := (hB1y.grown hs1 (by intro e; injection e with e; exact hx2 e)).grown hgW (by intro e; injection e with e; omega)
 have hOz : OwnS W (w.heap.size + 1) 70 9 (.slice (some ⟨g3, 0, none⟩) ((nsF.map Note.cells).length + 1) cap0) (nsF.map Note.cells ++ [[.int .i64 4, .int .i64 0, .int .i64 2, .int .i64 0, .int .i64 0, .int .i64 0, .int .i64 0, .int .i64 0, .int .i64 0]]) :=
  ⟨World.ownsRow.kept (World.ownsRow.kept hown5.1 hs1 (.inr (fun e => hn1 e.symm))) hgW (.inr (fun e => hn2 e.symm)), hown5.2⟩
 have hOz2 := own_baseS hOz (Nat.le_succ _)
 refine bodyPost_ret (results_blk1 rfl _ _ _ _ rfl hW Tryz.underlying25 rfl (by kernel_rfl)) rfl ⟨g1, g3, c, cap0, rfl, ⟨hWz, hOz.rd⟩, hOz2, ⟨by omega, by omega, _, hBz⟩, hfz⟩
end Go.Proofs.YtfgghicdkcjdgaaGreatDoor
end

section
namespace Go.Proofs.YtfgghicdkcjdgaaGreatDoor
open Go.RowKit Go.Shelf

theorem rd_of_blk {w : World} {g : Nat} {xs : List Int} (h : Blk w g 3 (xs.map (Value.int .i64)).toArray) : Rd w (some ⟨g, 0, none⟩) xs.length xs := by
 refine ⟨rfl, fun _ => ⟨_, rfl, h.lt, fun j hj => ?_⟩⟩
 rw [add_lit, Nat.zero_add, h.cell]
 simp [hj]
def digN (n : Nat) : UInt8 := UInt8.ofNat (48 + n % 10)
set_option maxRecDepth 100000 in
theorem run_dig (n : Nat) (x : Int) (hx : x = (n : Int)) (w : World) :
  (convert 174 9 (Value.slice (some { block := w.heap.size, off := 0 }) 1 1)).run Tryz.prog (w.alloc (Obj.cells #[Value.int IntKind.u8 (48 + x % 10)] 5)) =
   .ok (.string ⟨#[digN n]⟩) (w.alloc (Obj.cells #[Value.int IntKind.u8 (48 + x % 10)] 5)) := by
 subst hx
 exact run_convert_bytes_back (P := Tryz.prog) (w.alloc (Obj.cells #[Value.int IntKind.u8 (48 + ↑n % 10)] 5)) 174 9 5 ⟨w.heap.size, 0, none⟩ 1 [digN n] Tryz.underlying174 Tryz.underlying5 Tryz.underlying9 (fun j hj => by
  obtain rfl : j = 0 := by simpa using hj
  have h3 : (w.alloc (Obj.cells #[Value.int IntKind.u8 (48 + ↑n % 10)] 5)).cell? ⟨w.heap.size, 0, none⟩ = some (Value.int IntKind.u8 (48 + ↑n % 10)) := (Blk.new w 5 #[Value.int IntKind.u8 (48 + (n : Int) % 10)]).cell 0
  have h4 : (⟨w.heap.size, 0, none⟩ : Addr).add 0 = ⟨w.heap.size, 0, none⟩ := rfl
  rw [h4, h3]
  have : (digN n).toNat = 48 + n % 10 := UInt8.toNat_ofNat_of_lt (by show _ < 256; omega)
  simp only [List.getElem_cons_zero, this]
  simp)
theorem str_dig (n : Nat) (T : List UInt8) : Value.string (⟨#[digN n]⟩ ++ ⟨T.toArray⟩) = Value.string ⟨(digN n :: T).toArray⟩ := rfl
theorem dec_big {n : Nat} (h : ¬ n < 10) : Lib.decDigits n = Lib.decDigits (n / 10) ++ [digN n] := by rw [Lib.decDigits, dif_neg h]; rfl
theorem dec_small {n : Nat} (h : n < 10) : Lib.decDigits n = [digN n] := by rw [Lib.decDigits, dif_pos h, digN, Nat.mod_eq_of_lt h]

set_option maxRecDepth 100000 in
set_option maxHeartbeats 4000000 in
theorem rDecimal_any (N : Nat) (w : World) (hn : N ≤ 1000000) :
  Calls Tryz.prog 99 #[.int .i64 N] w fun e w' => e = .returned (.string ⟨(Lib.decDigits N).toArray⟩) ∧ Below w.heap.size w w' := by
 have HD := run_dig N N rfl
 go_enter Tryz.func99, Tryz.ntmps99
 go_wp2_with fail
 go_loopw [0, 3] (fun a v wr => ∃ (m : Nat) (T : List UInt8), m ≤ N ∧ a = .int .i64 m ∧ v = .string ⟨(digN m :: T).toArray⟩ ∧ Lib.decDigits N = Lib.decDigits m ++ T ∧ Below w.heap.size w wr) (fun a _ _ => (intOf a).toNat)
 case atStart => exact ⟨N, [], Nat.le_refl _, rfl, rfl, by simp, fr_alloc (fr_refl _) _⟩
 case round =>
  obtain ⟨m, T, hm, rfl, rfl, hd, hbel⟩ := hrel
  have HT := Lib.hid hd
  have hTl : T.length ≤ 7 := by
   have := congrArg List.length hd
   rw [List.length_append] at this
   have := dec_len 7 N (by omega) (by omega)
   omega
  clear hd HD
  by_cases h10 : m < 10
  ·have hc : decide ((10 : Int) ≤ (m : Int)) = false := decide_eq_false (by omega)
   go_wp2_with fail
   go_ret
   refine ⟨?_, hbel⟩
   rw [HT.out, dec_small h10]
   rfl
  ·have hc : decide ((10 : Int) ≤ (m : Int)) = true := decide_eq_true (by omega)
   have hq : (m : Int).tdiv 10 = ((m / 10 : Nat) : Int) := rfl
   have HD := run_dig (m / 10) ((m : Int) / 10) (by simp)
   have hsd := str_dig (m / 10)
   go_wp2_with fail
   go_round
   case rel => exact ⟨m / 10, digN m :: T, by omega, by simp, rfl, by rw [HT.out, dec_big h10, List.append_assoc]; rfl, fr_alloc hbel _⟩
   case measure => simp [intOf]; omega
theorem rDecimal_int (x : Int) (w : World) (h0 : 0 ≤ x) (h1 : x ≤ 1000000) :
  Calls Tryz.prog 99 #[.int .i64 x] w fun e w' => e = .returned (.string ⟨(Lib.itoa x).toArray⟩) ∧ Below w.heap.size w w' := by
 obtain ⟨n, rfl⟩ := Int.eq_ofNat_of_zero_le h0
 have := rDecimal_any n w (by omega)
 rw [Lib.itoa_nonneg]
 exact this

/-- numbers, a blank before each -/
def blanks (xs : List Int) : List UInt8 := (xs.map (fun n => 32 :: Lib.itoa n)).flatten
theorem line_blanks (k : Nat) (xs : List Int) : lineB (wordG k) xs = wordG k ++ blanks xs := rfl
theorem blanks_len (xs : List Int) (hx : ∀ x ∈ xs, 0 ≤ x ∧ x ≤ 1000000) : (blanks xs).length ≤ 8 * xs.length := by
 induction xs with
 | nil => simp [blanks]
 | cons x xs ih =>
  have h1 := itoa_len x (hx x List.mem_cons_self).1 (hx x List.mem_cons_self).2
  have h2 := ih (fun y hy => hx y (List.mem_cons_of_mem _ hy))
  have h3 : blanks (x :: xs) = (32 :: Lib.itoa x) ++ blanks xs := by simp [blanks]
  rw [h3]
  simp only [List.length_append, List.length_cons]
  omega
theorem str_app4 (a b : List UInt8) : Value.string ((⟨a.toArray⟩ ++ ⟨#[32]⟩) ++ ⟨b.toArray⟩) = Value.string ⟨(a ++ 32 :: b).toArray⟩ := by
 congr 1
 apply ByteArray.ext
 simp [ByteArray.data_append]
set_option maxRecDepth 100000 in
set_option maxHeartbeats 4000000 in
theorem rwords_any (A : Option Addr) (n c : Nat) (xs : List Int) (w : World) (hr : Rd w A n xs) (hn : n ≤ 1000) (hx : ∀ x ∈ xs, 0 ≤ x ∧ x ≤ 1000000) :
  Calls Tryz.prog 97 #[.slice A n c] w fun e w' => e = .returned (.string ⟨(blanks xs).toArray⟩) ∧ Below w.heap.size w w' := by
 have hrl : ∀ j, j ≤ n → (blanks (xs.take j)).length ≤ 8 * j := fun j hj => by
  have := blanks_len (xs.take j) (fun x h => hx x (List.mem_of_mem_take h))
  rw [List.length_take] at this
  omega
 have HRL := Lib.hid hrl
 clear hrl
 go_enter Tryz.func97, Tryz.ntmps97
 go_wp2_with fail
 go_loopw [3, 4] (fun s i wr => ∃ j : Nat, j ≤ n ∧ i = .int .i64 j ∧ s = .string ⟨(blanks (xs.take j)).toArray⟩ ∧ Below w.heap.size w wr) (fun _ i _ => n - (intOf i).toNat)
 case atStart => exact ⟨0, Nat.zero_le _, rfl, by simp [blanks], fr_refl _⟩
 case round =>
  obtain ⟨j, hj, rfl, rfl, hbel⟩ := hrel
  by_cases hlt : j < n
  ·obtain ⟨ad, rfl, hab, hc⟩ := (hr.keep hbel).at_ hlt
   have hx1 : 0 ≤ xs[j]?.getD 0 ∧ xs[j]?.getD 0 ≤ 1000000 := by
    have hl := hr.len
    rw [List.getElem?_eq_getElem (by omega)]
    exact hx _ (List.getElem_mem _)
   have hst : blanks (xs.take (j + 1)) = blanks (xs.take j) ++ (32 :: Lib.itoa (xs[j]?.getD 0)) := by
    rw [take_snoc' xs j (by have := hr.len; omega)]
    simp [blanks]
   have HST := Lib.hid hst
   clear hst
   have hl2 : (blanks (xs.take j)).length ≤ 8 * j := HRL.out j (by omega)
   generalize xs[j]?.getD 0 = xj at *
   generalize hR : blanks (xs.take j) = rb at *
   have HR := Lib.hid hR
   clear hR
   have hl3 : rb.length + 1 ≤ 9223372036854775807 := by omega
   go_wp2_with fail
   refine (rDecimal_int xj _ hx1.1 (by omega)).mono ?_
   rintro e w2 ⟨rfl, hb2⟩
   have hl1 := itoa_len xj hx1.1 hx1.2
   generalize hI : Lib.itoa xj = it at *
   have HI := Lib.hid hI
   clear hI
   have hl4 : rb.length + 1 + it.length ≤ 9223372036854775807 := by omega
   go_wp2_with fail
   refine ⟨⟨j + 1, hlt, rfl, ?_, fr_call hbel hb2⟩, ?_⟩
   ·rw [HST.out]
    exact str_app4 _ _
   ·simp [intOf]; omega
  ·obtain rfl : j = n := by omega
   go_wp2_with fail
   go_ret
   rw [List.take_of_length_le (by have := hr.len; omega)]
   exact ⟨rfl, hbel⟩

set_option maxRecDepth 100000 in
set_option maxHeartbeats 4000000 in
theorem rrow8_any (n : Note) (w : World) (h : MidN n) :
  Calls Tryz.prog 98 #[.agg n.cells.toArray] w fun e w' => e = .returned (.string ⟨(noteRow n).toArray⟩) ∧ Below w.heap.size w w' := by
 obtain ⟨k, a, b, lo, hi, ln, ld, mn, md⟩ := n
 obtain ⟨hk, hX⟩ := h
 simp only at hk
 unfold Note.cells
 have h5 : k = 1 ∨ k = 2 ∨ k = 3 ∨ k = 4 ∨ k = 5 := by omega
 clear hk
 rcases h5 with rfl | rfl | rfl | rfl | rfl
 ·have hx : ∀ x ∈ [a, b, lo, hi], 0 ≤ x ∧ x ≤ 1000000 := hX
  go_enter Tryz.func98, Tryz.ntmps98
  go_wp2_with fail
  refine (rwords_any (some ⟨w.heap.size + 1, 0, none⟩) 4 4 [a, b, lo, hi] _ (rd_of_blk (xs := [a, b, lo, hi]) (Blk.new_at _ _ (by simp))) (by omega) hx).mono ?_
  rintro e w2 ⟨rfl, hb2⟩
  have hl := blanks_len [a, b, lo, hi] hx
  have HB := line_blanks 2 [a, b, lo, hi]
  generalize blanks [a, b, lo, hi] = bl at *
  simp only [List.length_cons, List.length_nil] at hl
  have hl2 : 3 + bl.length ≤ 9223372036854775807 := by omega
  go_wp2_with fail
  go_ret
  refine ⟨?_, fr_call (fr_alloc (fr_alloc (fr_refl w) _) _) hb2⟩
  show _ = Ending.returned (Value.string ⟨(lineB (wordG 2) [a, b, lo, hi]).toArray⟩)
  rw [HB]
  rfl
 ·have hx : ∀ x ∈ [a, lo, hi], 0 ≤ x ∧ x ≤ 1000000 := hX
  go_enter Tryz.func98, Tryz.ntmps98
  go_wp2_with fail
  refine (rwords_any (some ⟨w.heap.size + 1, 0, none⟩) 3 3 [a, lo, hi] _ (rd_of_blk (xs := [a, lo, hi]) (Blk.new_at _ _ (by simp))) (by omega) hx).mono ?_
  rintro e w2 ⟨rfl, hb2⟩
  have hl := blanks_len [a, lo, hi] hx
  have HB := line_blanks 3 [a, lo, hi]
  generalize blanks [a, lo, hi] = bl at *
  simp only [List.length_cons, List.length_nil] at hl
  have hl2 : 3 + bl.length ≤ 9223372036854775807 := by omega
  go_wp2_with fail
  go_ret
  refine ⟨?_, fr_call (fr_alloc (fr_alloc (fr_refl w) _) _) hb2⟩
  show _ = Ending.returned (Value.string ⟨(lineB (wordG 3) [a, lo, hi]).toArray⟩)
  rw [HB]
  rfl
 ·have hx : ∀ x ∈ [a, b, ln, ld, mn, md], 0 ≤ x ∧ x ≤ 1000000 := hX
  go_enter Tryz.func98, Tryz.ntmps98
  go_wp2_with fail
  refine (rwords_any (some ⟨w.heap.size + 1, 0, none⟩) 6 6 [a, b, ln, ld, mn, md] _ (rd_of_blk (xs := [a, b, ln, ld, mn, md]) (Blk.new_at _ _ (by simp))) (by omega) hx).mono ?_
  rintro e w2 ⟨rfl, hb2⟩
  have hl := blanks_len [a, b, ln, ld, mn, md] hx
  have HB := line_blanks 4 [a, b, ln, ld, mn, md]
  generalize blanks [a, b, ln, ld, mn, md] = bl at *
  simp only [List.length_cons, List.length_nil] at hl
  have hl2 : 5 + bl.length ≤ 9223372036854775807 := by omega
  go_wp2_with fail
  go_ret
  refine ⟨?_, fr_call (fr_alloc (fr_alloc (fr_refl w) _) _) hb2⟩
  show _ = Ending.returned (Value.string ⟨(lineB (wordG 4) [a, b, ln, ld, mn, md]).toArray⟩)
  rw [HB]
  rfl
 ·have hx : ∀ x ∈ [a, b], 0 ≤ x ∧ x ≤ 1000000 := hX
  go_enter Tryz.func98, Tryz.ntmps98
  go_wp2_with fail
  refine (rwords_any (some ⟨w.heap.size + 1, 0, none⟩) 2 2 [a, b] _ (rd_of_blk (xs := [a, b]) (Blk.new_at _ _ (by simp))) (by omega) hx).mono ?_
  rintro e w2 ⟨rfl, hb2⟩
  have hl := blanks_len [a, b] hx
  have HB := line_blanks 5 [a, b]
  generalize blanks [a, b] = bl at *
  simp only [List.length_cons, List.length_nil] at hl
  have hl2 : 4 + bl.length ≤ 9223372036854775807 := by omega
  go_wp2_with fail
  go_ret
  refine ⟨?_, fr_call (fr_alloc (fr_alloc (fr_refl w) _) _) hb2⟩
  show _ = Ending.returned (Value.string ⟨(lineB (wordG 5) [a, b]).toArray⟩)
  rw [HB]
  rfl
 ·have hx : ∀ x ∈ [a, b], 0 ≤ x ∧ x ≤ 1000000 := hX
  go_enter Tryz.func98, Tryz.ntmps98
  go_wp2_with fail
  refine (rwords_any (some ⟨w.heap.size + 1, 0, none⟩) 2 2 [a, b] _ (rd_of_blk (xs := [a, b]) (Blk.new_at _ _ (by simp))) (by omega) hx).mono ?_
  rintro e w2 ⟨rfl, hb2⟩
  have hl := blanks_len [a, b] hx
  have HB := line_blanks 6 [a, b]
  generalize blanks [a, b] = bl at *
  simp only [List.length_cons, List.length_nil] at hl
  have hl2 : 4 + bl.length ≤ 9223372036854775807 := by omega
  go_wp2_with fail
  go_ret
  refine ⟨?_, fr_call (fr_alloc (fr_alloc (fr_refl w) _) _) hb2⟩
  show _ = Ending.returned (Value.string ⟨(lineB (wordG 6) [a, b]).toArray⟩)
  rw [HB]
  rfl
end Go.Proofs.YtfgghicdkcjdgaaGreatDoor
end
