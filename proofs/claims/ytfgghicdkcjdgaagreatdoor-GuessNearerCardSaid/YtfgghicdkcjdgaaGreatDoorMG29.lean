/- Plain: what a find's train turns its hand by; ends that are reached; for GuessTrue. -/
import Derived.Test.YtfgghicdkcjdgaaGreatDoorMG25
import Derived.Test.YtfgghicdkcjdgaaGreatDoorMG8
namespace Go.Proofs.YtfgghicdkcjdgaaGreatDoor

theorem prL_pow {xs : List Int} (h : ∀ x ∈ xs, 1 ≤ x ∧ x ≤ 60) : ∀ k, k ≤ xs.length → 1 ≤ prL xs k ∧ prL xs k ≤ 60 ^ k
 | 0, _ => by simp [prL]
 | k + 1, hk => by
  have h1 := prL_pow h k (by omega)
  have h2 : 1 ≤ xs[k]?.getD 0 ∧ xs[k]?.getD 0 ≤ 60 := by
   rw [List.getElem?_eq_getElem (show k < xs.length by omega)]
   exact h _ (List.getElem_mem _)
  have h3 := Int.mul_le_mul h1.1 h2.1 (by omega) (by omega)
  have h4 := Int.mul_le_mul h1.2 h2.2 (by omega) (by omega)
  rw [prL, Int.pow_succ]
  omega
theorem pow60 : ∀ k, k ≤ 3 → (60 : Int) ^ k ≤ 216000 := by decide
theorem pr_small {ps : List Wh} (h : TeethP ps) (hn : ps.length ≤ 3) : (1 ≤ prD ps ∧ prD ps ≤ 216000) ∧ 1 ≤ prV ps ∧ prV ps ≤ 216000 := by
 have a1 := prL_pow (xs := losOf ps) (fun x hx => by obtain ⟨p, hp, rfl⟩ := List.mem_map.1 hx; have := h p hp; omega) ps.length (by simp [losOf])
 have a2 := prL_pow (xs := hisOf ps) (fun x hx => by obtain ⟨p, hp, rfl⟩ := List.mem_map.1 hx; have := h p hp; omega) ps.length (by simp [hisOf])
 have a3 := pow60 ps.length hn
 unfold prD prV
 omega
/-- a fraction that a train can turn its hand by -/
def Sized (p : Int × Int) : Prop := (1 ≤ p.1 ∧ p.1 ≤ 216000) ∧ 1 ≤ p.2 ∧ p.2 ≤ 216000
theorem turn_sized {ps : List Wh} (h : TeethP ps) (hn : ps.length ≤ 3) : Sized ((turnD ps : Int), (turnV ps : Int)) := by
 obtain ⟨⟨d1, d2⟩, v1, v2⟩ := pr_small h hn
 have g1 : 0 < Nat.gcd (prD ps) (prV ps) := Nat.gcd_pos_of_pos_left _ (by omega)
 have e1 : 0 < turnD ps := Nat.div_pos (Nat.le_of_dvd (by omega) (Nat.gcd_dvd_left _ _)) g1
 have e2 : 0 < turnV ps := Nat.div_pos (Nat.le_of_dvd (by omega) (Nat.gcd_dvd_right _ _)) g1
 have e3 : turnD ps ≤ prD ps := Nat.div_le_self _ _
 have e4 : turnV ps ≤ prV ps := Nat.div_le_self _ _
 unfold Sized
 simp only
 omega
theorem above_iff {a b c d : Int} : aboveB a b c d = true ↔ c * b < a * d := by unfold aboveB; simp
theorem above_no {a b c d : Int} : aboveB a b c d = false ↔ a * d ≤ c * b := by unfold aboveB; simp
theorem high_anti (a b : Int × Int) (_ : Sized a) (_ : Sized b) (h : ltHigh a b = true) : ltHigh b a = false := by
 unfold ltHigh at h ⊢
 rw [above_iff] at h
 rw [above_no]
 omega
theorem le_trans3 {a1 a2 b1 b2 c1 c2 : Int} (ha : 1 ≤ a2) (hb : 1 ≤ b2) (hc : 1 ≤ c2) (h1 : a1 * b2 ≤ b1 * a2) (h2 : b1 * c2 ≤ c1 * b2) : a1 * c2 ≤ c1 * a2 := by
 have e1 := Int.mul_le_mul_of_nonneg_right h1 (show 0 ≤ c2 by omega)
 have e2 := Int.mul_le_mul_of_nonneg_right h2 (show 0 ≤ a2 by omega)
 have e3 : b1 * a2 * c2 = b1 * c2 * a2 := by rw [Int.mul_assoc, Int.mul_comm a2 c2, ← Int.mul_assoc]
 have e4 : a1 * b2 * c2 = a1 * c2 * b2 := by rw [Int.mul_assoc, Int.mul_comm b2 c2, ← Int.mul_assoc]
 have e5 : c1 * b2 * a2 = c1 * a2 * b2 := by rw [Int.mul_assoc, Int.mul_comm b2 a2, ← Int.mul_assoc]
 refine Int.le_of_mul_le_mul_right ?_ (show 0 < b2 by omega)
 omega
theorem high_neg (a b c : Int × Int) (ha : Sized a) (hb : Sized b) (hc : Sized c) (h1 : ltHigh a b = false) (h2 : ltHigh b c = false) : ltHigh a c = false := by
 unfold ltHigh at h1 h2 ⊢
 rw [above_no] at h1 h2 ⊢
 exact le_trans3 ha.2.1 hb.2.1 hc.2.1 h1 h2
theorem low_anti (a b : Int × Int) (ha : Sized a) (hb : Sized b) (h : ltLow a b = true) : ltLow b a = false := high_anti b a hb ha h
theorem low_neg (a b c : Int × Int) (ha : Sized a) (hb : Sized b) (hc : Sized c) (h1 : ltLow a b = false) (h2 : ltLow b c = false) : ltLow a c = false := high_neg c b a hc hb ha h2 h1
theorem frac_sized {t : List Int} (h : (2 ≤ t.length ∧ t.length ≤ 6) ∧ TeethOk t) : Sized (fracOf t) := turn_sized (pairs_teeth h.2) (by rw [pairs_len]; omega)
/-- both fractions: no guess's fraction is below the one or above the other; both are reached -/
theorem turns_law {ts : List (List Int)} (h : OkT ts) (h0 : ts ≠ []) : (Sized (lowOf ts) ∧ Sized (highOf ts)) ∧ (∀ t ∈ ts, aboveB (lowOf ts).1 (lowOf ts).2 (fracOf t).1 (fracOf t).2 = false ∧ aboveB (fracOf t).1 (fracOf t).2 (highOf ts).1 (highOf ts).2 = false) ∧
  (∃ t ∈ ts, fracOf t = lowOf ts) ∧ (∃ t ∈ ts, fracOf t = highOf ts) := by
 have hP : ∀ x ∈ ts.map fracOf, Sized x := fun x hx => by
  obtain ⟨t, ht, rfl⟩ := List.mem_map.1 hx
  exact frac_sized (h t ht)
 have hne : ts.map fracOf ≠ [] := fun e => h0 (List.map_eq_nil_iff.1 e)
 obtain ⟨a, a1, a2, a3⟩ := best_min Sized low_anti low_neg hP hne
 obtain ⟨b, b1, b2, b3⟩ := best_min Sized high_anti high_neg hP hne
 have ea : lowOf ts = a := by unfold lowOf; rw [a1]; rfl
 have eb : highOf ts = b := by unfold highOf; rw [b1]; rfl
 rw [ea, eb]
 refine ⟨⟨hP a a2, hP b b2⟩, fun t ht => ⟨a3 _ (List.mem_map.2 ⟨t, ht, rfl⟩), b3 _ (List.mem_map.2 ⟨t, ht, rfl⟩)⟩, ?_, ?_⟩
 ·obtain ⟨t, ht, e⟩ := List.mem_map.1 a2
  exact ⟨t, ht, e⟩
 ·obtain ⟨t, ht, e⟩ := List.mem_map.1 b2
  exact ⟨t, ht, e⟩
/-- the marks of the ends of wheels that some trains reach -/
def lowM (us : List (List Int)) (k : List Wh) (j : Nat) : Bool := us.any (fun t => t[j]?.getD 0 == (k[j]?.getD ⟨0, 0⟩).lo)
def highM (us : List (List Int)) (k : List Wh) (j : Nat) : Bool := us.any (fun t => t[j]?.getD 0 == (k[j]?.getD ⟨0, 0⟩).hi)
theorem known_at (ts : List (List Int)) {n j : Nat} (h : j < n) : (knownL ts n)[j]?.getD ⟨0, 0⟩ = spanK ts j ts.length := by
 unfold knownL
 rw [List.getElem?_map, List.getElem?_range h]
 rfl
theorem marks_law {ts us : List (List Int)} {n j : Nat} (h0 : ts ≠ []) (hu : ∀ t, t ∈ ts → t ∈ us) (h : j < n) : lowM us (knownL ts n) j = true ∧ highM us (knownL ts n) j = true := by
 obtain ⟨_, ⟨t, ht, e⟩, ⟨u, hu', f⟩⟩ := span_spec j h0
 unfold lowM highM
 rw [known_at ts h]
 exact ⟨List.any_eq_true.2 ⟨t, hu t ht, by rw [e]; exact beq_self_eq_true _⟩, List.any_eq_true.2 ⟨u, hu u hu', by rw [f]; exact beq_self_eq_true _⟩⟩
theorem known_in {ts : List (List Int)} {n j : Nat} (h0 : ts ≠ []) (h : j < n) {t : List Int} (ht : t ∈ ts) : ((knownL ts n)[j]?.getD ⟨0, 0⟩).lo ≤ t[j]?.getD 0 ∧ t[j]?.getD 0 ≤ ((knownL ts n)[j]?.getD ⟨0, 0⟩).hi := by
 rw [known_at ts h]
 exact (span_spec j h0).1 t ht
end Go.Proofs.YtfgghicdkcjdgaaGreatDoor
