/- slices.Clone of structs. A region that draws its order: a condition on the world that only the operations ahead of its last ones need to keep. slices.Clone, whatever the slice is; what a variable's block leaves as it was. -/
import Derived.Test.YtkmiphabagoifaaGreatDoorMT4
import Derived.Shelf.SlicesE.Clone
import Derived.OrdersHeld
import Derived.Deep.RegionHeld
import Derived.Test.YtkmiphabagoifaaGreatDoorMT12
section
namespace Go.Proofs.YtkmiphabagoifaaGreatDoor
open Go.RowKit Go.Shelf

theorem flat_inv {k : Nat} (hk : 0 < k) : ∀ {rows : List (List Value)} (_ : ∀ r ∈ rows, r.length = k) (j : Nat) (u : Value), rows.flatten[j]? = some u → ∃ r, rows[j / k]? = some r ∧ r[j % k]? = some u
 | [], _, j, u, h => by simp at h
 | r0 :: rows, h, j, u, hj => by
  have h0 := h r0 (by simp)
  rw [List.flatten_cons] at hj
  rcases Nat.lt_or_ge j k with hlt | hge
  ·rw [List.getElem?_append_left (by omega)] at hj
   exact ⟨r0, by rw [Nat.div_eq_of_lt hlt]; rfl, by rw [Nat.mod_eq_of_lt hlt]; exact hj⟩
  ·rw [List.getElem?_append_right (by omega), h0] at hj
   obtain ⟨r, h1, h2⟩ := flat_inv hk (rows := rows) (fun r hr => h r (by simp [hr])) (j - k) u hj
   refine ⟨r, ?_, ?_⟩
   ·rw [show j / k = (j - k) / k + 1 from by rw [← Nat.add_div_right _ hk, Nat.sub_add_cancel hge]]
    simpa using h1
   ·rw [show j % k = (j - k) % k from (Nat.mod_eq_sub_mod hge)]
    exact h2
theorem clone_gen {ρ : Go.Shelf.Ren} (L : SlLaysE0.n41 Tryz.prog ρ) (z : Value) (k bytes : Nat) (hinfo : (Tryz.prog.info? (ρ.t 23)).map (fun i => (i.zero, i.size, i.bytes)) = some (some z, k, bytes)) (hzk : z.cells.size = k) (hk : 0 < k) (hby : bytes ≤ 1000) (zs : ∀ w, (Go.sizeOf (ρ.t 23)).run Tryz.prog w = .ok k w)
  (b off n c : Nat) (rows : List (List Value)) (w : World) (hr : RdS w (some ⟨b, off, none⟩) k rows) (hn : rows.length = n) (hkr : ∀ r ∈ rows, r.length = k) (h1 : ∀ r ∈ rows, ∀ u ∈ r, u.oneCell' = true) (hn2 : n ≤ 1000) :
  Calls Tryz.prog (ρ.f 41) #[.slice (some ⟨b, off, none⟩) n c] w fun e w' => ∃ A' c', e = .returned (.slice A' n c') ∧ OwnS w' w.heap.size (ρ.t 23) k (.slice A' n c') rows ∧ Below w.heap.size w w' := by
 obtain ⟨i0, hi, hz0, hz1, hz2⟩ := info_parts hinfo
 have hb : n * bytes ≤ 1000 * 1000 := Nat.mul_le_mul hn2 hby
 refine (AnyE.slices_Clone L i0 z k bytes hi hz0 hz1 hz2 hzk hk zs b off n c rows.flatten w (by rw [flat_len hkr, hn]) (by unfold maxLen; omega) (by omega) ?_ ?_).mono ?_
 ·intro j u hj
  obtain ⟨r, h2, h3⟩ := flat_inv hk hkr j u hj
  obtain ⟨ad, e, _, _, hc⟩ := hr.at_ h2
  cases e
  have := hc _ _ h3
  rw [show j / k * k + j % k = j from by rw [Nat.mul_comm]; exact Nat.div_add_mod j k] at this
  rw [← this]
  unfold Addr.add
  by_cases h4 : j = 0
  ·subst h4; rfl
  ·rw [if_neg h4]
 ·intro u hu
  obtain ⟨r, hr1, hr2⟩ := List.mem_flatten.1 hu
  exact h1 r hr1 u hr2
 ·rintro e w' ⟨v', rfl, hown, _, hbl⟩
  have ho : OwnS w' w.heap.size (ρ.t 23) k v' rows := ⟨by rw [hn]; exact hown, hkr⟩
  obtain ⟨A, c', rfl⟩ := ho.form
  rw [hn] at ho ⊢
  exact ⟨A, c', rfl, ho, hbl⟩
theorem clone_gen0 {ρ : Go.Shelf.Ren} (L : SlLaysE0.n41 Tryz.prog ρ) (k c : Nat) (w : World) :
  Calls Tryz.prog (ρ.f 41) #[.slice none 0 c] w fun e w' => ∃ A' c', e = .returned (.slice A' 0 c') ∧ OwnS w' w.heap.size (ρ.t 23) k (.slice A' 0 c') [] ∧ Below w.heap.size w w' := by
 refine (AnyE.slices_Clone_nil L 0 c w).mono ?_
 rintro e w' ⟨rfl, rfl⟩
 exact ⟨none, 0, rfl, OwnS.nil _ _ _ _, fr_refl _⟩

def renPt : Go.Shelf.Ren := ⟨fun | 41 => 153 | n => n, fun | 22 => 82 | 23 => 79 | 4 => 4 | n => n, fun | n => n⟩
theorem laysPt : Go.Proofs.SlLaysE0.n41 Tryz.prog renPt := {
 mixed := by kernel_rfl
 f41 := ⟨ "slices.Clone[[]tellurion/api.PlatePoint,tellurion/api.PlatePoint]", by decide, Tryz.func153.trans (congrArg some (by kernel_rfl))⟩
 t4 := Tryz.underlying4
 a4 := Tryz.isAgg4
 z4 := Tryz.sizeOf4
 v4 := Tryz.zeroValue4
 t22 := Tryz.underlying82
 a22 := Tryz.isAgg82
 z22 := Tryz.sizeOf82
 v22 := Tryz.zeroValue82 }
theorem clone_Pt (b off n c : Nat) (rows : List (List Value)) (w : World) (hr : RdS w (some ⟨b, off, none⟩) 2 rows) (hn : rows.length = n) (hkr : ∀ r ∈ rows, r.length = 2) (h1 : ∀ r ∈ rows, ∀ u ∈ r, u.oneCell' = true) (hn2 : n ≤ 1000) :
  Calls Tryz.prog 153 #[.slice (some ⟨b, off, none⟩) n c] w fun e w' => ∃ A' c', e = .returned (.slice A' n c') ∧ OwnS w' w.heap.size 79 2 (.slice A' n c') rows ∧ Below w.heap.size w w' :=
 clone_gen laysPt (.agg #[.int .i64 0, .int .i64 0]) 2 16 (by kernel_rfl) (by decide) (by decide) (by decide) Tryz.sizeOf79 b off n c rows w hr hn hkr h1 hn2
theorem clone0_Pt (c : Nat) (w : World) : Calls Tryz.prog 153 #[.slice none 0 c] w fun e w' => ∃ A' c', e = .returned (.slice A' 0 c') ∧ OwnS w' w.heap.size 79 2 (.slice A' 0 c') [] ∧ Below w.heap.size w w' := clone_gen0 laysPt 2 c w

def renWl : Go.Shelf.Ren := ⟨fun | 41 => 154 | n => n, fun | 22 => 83 | 23 => 155 | 4 => 4 | n => n, fun | n => n⟩
theorem laysWl : Go.Proofs.SlLaysE0.n41 Tryz.prog renWl := {
 mixed := by kernel_rfl
 f41 := ⟨ "slices.Clone[[]tellurion/api.PlateWheel,tellurion/api.PlateWheel]", by decide, Tryz.func154.trans (congrArg some (by kernel_rfl))⟩
 t4 := Tryz.underlying4
 a4 := Tryz.isAgg4
 z4 := Tryz.sizeOf4
 v4 := Tryz.zeroValue4
 t22 := Tryz.underlying83
 a22 := Tryz.isAgg83
 z22 := Tryz.sizeOf83
 v22 := Tryz.zeroValue83 }
theorem clone_Wl (b off n c : Nat) (rows : List (List Value)) (w : World) (hr : RdS w (some ⟨b, off, none⟩) 4 rows) (hn : rows.length = n) (hkr : ∀ r ∈ rows, r.length = 4) (h1 : ∀ r ∈ rows, ∀ u ∈ r, u.oneCell' = true) (hn2 : n ≤ 1000) :
  Calls Tryz.prog 154 #[.slice (some ⟨b, off, none⟩) n c] w fun e w' => ∃ A' c', e = .returned (.slice A' n c') ∧ OwnS w' w.heap.size 155 4 (.slice A' n c') rows ∧ Below w.heap.size w w' :=
 clone_gen laysWl (.agg #[.int .i64 0, .int .i64 0, .int .i64 0, .int .i64 0]) 4 32 (by kernel_rfl) (by decide) (by decide) (by decide) Tryz.sizeOf155 b off n c rows w hr hn hkr h1 hn2
theorem clone0_Wl (c : Nat) (w : World) : Calls Tryz.prog 154 #[.slice none 0 c] w fun e w' => ∃ A' c', e = .returned (.slice A' 0 c') ∧ OwnS w' w.heap.size 155 4 (.slice A' 0 c') [] ∧ Below w.heap.size w w' := clone_gen0 laysWl 4 c w

def renMs : Go.Shelf.Ren := ⟨fun | 41 => 155 | n => n, fun | 22 => 84 | 23 => 159 | 4 => 4 | n => n, fun | n => n⟩
theorem laysMs : Go.Proofs.SlLaysE0.n41 Tryz.prog renMs := {
 mixed := by kernel_rfl
 f41 := ⟨ "slices.Clone[[]tellurion/api.PlateMesh,tellurion/api.PlateMesh]", by decide, Tryz.func155.trans (congrArg some (by kernel_rfl))⟩
 t4 := Tryz.underlying4
 a4 := Tryz.isAgg4
 z4 := Tryz.sizeOf4
 v4 := Tryz.zeroValue4
 t22 := Tryz.underlying84
 a22 := Tryz.isAgg84
 z22 := Tryz.sizeOf84
 v22 := Tryz.zeroValue84 }
theorem clone_Ms (b off n c : Nat) (rows : List (List Value)) (w : World) (hr : RdS w (some ⟨b, off, none⟩) 2 rows) (hn : rows.length = n) (hkr : ∀ r ∈ rows, r.length = 2) (h1 : ∀ r ∈ rows, ∀ u ∈ r, u.oneCell' = true) (hn2 : n ≤ 1000) :
  Calls Tryz.prog 155 #[.slice (some ⟨b, off, none⟩) n c] w fun e w' => ∃ A' c', e = .returned (.slice A' n c') ∧ OwnS w' w.heap.size 159 2 (.slice A' n c') rows ∧ Below w.heap.size w w' :=
 clone_gen laysMs (.agg #[.int .i64 0, .int .i64 0]) 2 16 (by kernel_rfl) (by decide) (by decide) (by decide) Tryz.sizeOf159 b off n c rows w hr hn hkr h1 hn2
theorem clone0_Ms (c : Nat) (w : World) : Calls Tryz.prog 155 #[.slice none 0 c] w fun e w' => ∃ A' c', e = .returned (.slice A' 0 c') ∧ OwnS w' w.heap.size 159 2 (.slice A' 0 c') [] ∧ Below w.heap.size w w' := clone_gen0 laysMs 2 c w

def renLk : Go.Shelf.Ren := ⟨fun | 41 => 108 | n => n, fun | 22 => 22 | 23 => 140 | 4 => 4 | n => n, fun | n => n⟩
theorem laysLk : Go.Proofs.SlLaysE0.n41 Tryz.prog renLk := {
 mixed := by kernel_rfl
 f41 := ⟨ "slices.Clone[[]tellurion/api.ShopLink,tellurion/api.ShopLink]", by decide, Tryz.func108.trans (congrArg some (by kernel_rfl))⟩
 t4 := Tryz.underlying4
 a4 := Tryz.isAgg4
 z4 := Tryz.sizeOf4
 v4 := Tryz.zeroValue4
 t22 := Tryz.underlying22
 a22 := Tryz.isAgg22
 z22 := Tryz.sizeOf22
 v22 := Tryz.zeroValue22 }
theorem clone_Lk (b off n c : Nat) (rows : List (List Value)) (w : World) (hr : RdS w (some ⟨b, off, none⟩) 3 rows) (hn : rows.length = n) (hkr : ∀ r ∈ rows, r.length = 3) (h1 : ∀ r ∈ rows, ∀ u ∈ r, u.oneCell' = true) (hn2 : n ≤ 1000) :
  Calls Tryz.prog 108 #[.slice (some ⟨b, off, none⟩) n c] w fun e w' => ∃ A' c', e = .returned (.slice A' n c') ∧ OwnS w' w.heap.size 140 3 (.slice A' n c') rows ∧ Below w.heap.size w w' :=
 clone_gen laysLk (.agg #[.int .i64 0, .int .i64 0, .int .i64 0]) 3 24 (by kernel_rfl) (by decide) (by decide) (by decide) Tryz.sizeOf140 b off n c rows w hr hn hkr h1 hn2
theorem clone0_Lk (c : Nat) (w : World) : Calls Tryz.prog 108 #[.slice none 0 c] w fun e w' => ∃ A' c', e = .returned (.slice A' 0 c') ∧ OwnS w' w.heap.size 140 3 (.slice A' 0 c') [] ∧ Below w.heap.size w w' := clone_gen0 laysLk 3 c w

def renFr : Go.Shelf.Ren := ⟨fun | 41 => 109 | n => n, fun | 22 => 26 | 23 => 52 | 4 => 4 | n => n, fun | n => n⟩
theorem laysFr : Go.Proofs.SlLaysE0.n41 Tryz.prog renFr := {
 mixed := by kernel_rfl
 f41 := ⟨ "slices.Clone[[]tellurion/api.TrainFraction,tellurion/api.TrainFraction]", by decide, Tryz.func109.trans (congrArg some (by kernel_rfl))⟩
 t4 := Tryz.underlying4
 a4 := Tryz.isAgg4
 z4 := Tryz.sizeOf4
 v4 := Tryz.zeroValue4
 t22 := Tryz.underlying26
 a22 := Tryz.isAgg26
 z22 := Tryz.sizeOf26
 v22 := Tryz.zeroValue26 }
theorem clone_Fr (b off n c : Nat) (rows : List (List Value)) (w : World) (hr : RdS w (some ⟨b, off, none⟩) 2 rows) (hn : rows.length = n) (hkr : ∀ r ∈ rows, r.length = 2) (h1 : ∀ r ∈ rows, ∀ u ∈ r, u.oneCell' = true) (hn2 : n ≤ 1000) :
  Calls Tryz.prog 109 #[.slice (some ⟨b, off, none⟩) n c] w fun e w' => ∃ A' c', e = .returned (.slice A' n c') ∧ OwnS w' w.heap.size 52 2 (.slice A' n c') rows ∧ Below w.heap.size w w' :=
 clone_gen laysFr (.agg #[.int .i64 0, .int .i64 0]) 2 16 (by kernel_rfl) (by decide) (by decide) (by decide) Tryz.sizeOf52 b off n c rows w hr hn hkr h1 hn2
theorem clone0_Fr (c : Nat) (w : World) : Calls Tryz.prog 109 #[.slice none 0 c] w fun e w' => ∃ A' c', e = .returned (.slice A' 0 c') ∧ OwnS w' w.heap.size 52 2 (.slice A' 0 c') [] ∧ Below w.heap.size w w' := clone_gen0 laysFr 2 c w

def renFe : Go.Shelf.Ren := ⟨fun | 41 => 110 | n => n, fun | 22 => 33 | 23 => 145 | 4 => 4 | n => n, fun | n => n⟩
theorem laysFe : Go.Proofs.SlLaysE0.n41 Tryz.prog renFe := {
 mixed := by kernel_rfl
 f41 := ⟨ "slices.Clone[[]tellurion/api.DialFeast,tellurion/api.DialFeast]", by decide, Tryz.func110.trans (congrArg some (by kernel_rfl))⟩
 t4 := Tryz.underlying4
 a4 := Tryz.isAgg4
 z4 := Tryz.sizeOf4
 v4 := Tryz.zeroValue4
 t22 := Tryz.underlying33
 a22 := Tryz.isAgg33
 z22 := Tryz.sizeOf33
 v22 := Tryz.zeroValue33 }
theorem clone_Fe (b off n c : Nat) (rows : List (List Value)) (w : World) (hr : RdS w (some ⟨b, off, none⟩) 4 rows) (hn : rows.length = n) (hkr : ∀ r ∈ rows, r.length = 4) (h1 : ∀ r ∈ rows, ∀ u ∈ r, u.oneCell' = true) (hn2 : n ≤ 1000) :
  Calls Tryz.prog 110 #[.slice (some ⟨b, off, none⟩) n c] w fun e w' => ∃ A' c', e = .returned (.slice A' n c') ∧ OwnS w' w.heap.size 145 4 (.slice A' n c') rows ∧ Below w.heap.size w w' :=
 clone_gen laysFe (.agg #[.bool false, .int .i64 0, .int .i64 0, .int .i64 0]) 4 32 (by kernel_rfl) (by decide) (by decide) (by decide) Tryz.sizeOf145 b off n c rows w hr hn hkr h1 hn2
theorem clone0_Fe (c : Nat) (w : World) : Calls Tryz.prog 110 #[.slice none 0 c] w fun e w' => ∃ A' c', e = .returned (.slice A' 0 c') ∧ OwnS w' w.heap.size 145 4 (.slice A' 0 c') [] ∧ Below w.heap.size w w' := clone_gen0 laysFe 4 c w
end Go.Proofs.YtkmiphabagoifaaGreatDoor
end

section
namespace Go.Proofs.YtkmiphabagoifaaGreatDoor
open Go.RowKit

section
variable {P : Program} {ops : Array Oper} {Q : Exit → Act → World → Prop} {md : Region.Mode} {S : World → Prop} {D : Nat → Bool}
/-- whatever order is picked from here on; S holds behind every operation that is none of the last ones -/
def wpAnyT (P : Program) (md : Region.Mode) (ops : Array Oper) (Q : Exit → Act → World → Prop) (S : World → Prop) (D : Nat → Bool) : Nat → Array Bool → Act → World → Prop
 | 0, listed, a, w => Region.ready md ops listed = [] ∧ Q .normal a w
 | fuel + 1, listed, a, w =>
  (Region.ready md ops listed = [] → Q .normal a w) ∧
  ∀ i ∈ Region.ready md ops listed, wpOp P ops Q i (fun a' w' => (D i = false → S w') ∧ wpAnyT P md ops Q S D fuel (listed.setIfInBounds i true) a' w') a w
theorem wpAny_of_T : ∀ (fuel : Nat) (listed : Array Bool) (a : Act) (w : World), wpAnyT P md ops Q S D fuel listed a w → wpAny P md ops Q fuel listed a w
 | 0, _, _, _, h => h
 | fuel + 1, _, _, _, h => ⟨h.1, fun i hi => wpOp_mono (fun a' w' h' => wpAny_of_T fuel _ a' w' h'.2) (h.2 i hi)⟩
theorem wpAnyT_first {i : Nat} {oi : Oper} {v : Value} (hi : ops[i]? = some oi) (hsel : ∀ (j : Nat) (o : Oper) cs b, ops[j]? = some o → o.op ≠ .select cs b)
  (hQ : ∀ c a w, Q (.panic c) (a.put oi.dst v) w → Q (.panic c) a w) (hD : ∀ d od, D d = true → ops[d]? = some od → ∃ e ∈ od.after, Region.binds md e = true ∧ e.on = i) :
  ∀ (fuel : Nat) (listed : Array Bool) (a : Act) (w : World),
   (∀ j oj, ops[j]? = some oj → j ≠ i → listed.getD j true = false → (∀ e ∈ oj.after, Region.binds md e = true → e.on ≠ i) → oi.apart ops oj = true) →
   i ∈ Region.ready md ops listed → YieldsIf P ops S oi v a → S w →
   wpAnyT P md ops Q S D fuel (listed.setIfInBounds i true) (a.put oi.dst v) w → wpAnyT P md ops Q S D (fuel + 1) listed a w := by
 intro fuel
 induction fuel with
 | zero =>
  intro listed a w _ hr hy hS H
  refine ⟨fun h => (by rw [h] at hr; cases hr), fun j hj => ?_⟩
  by_cases hji : j = i
  ·subst hji; exact hy.wpOp hi hS ⟨fun _ => hS, H⟩
  ·have := ready_mono hj hji
   rw [H.1] at this
   cases this
 | succ fuel ih =>
  intro listed a w hfree hr hy hS H
  refine ⟨fun h => (by rw [h] at hr; cases hr), fun j hj => ?_⟩
  by_cases hji : j = i
  ·subst hji; exact hy.wpOp hi hS ⟨fun _ => hS, H⟩
  ·have h1 := H.2 j (ready_mono hj hji)
   obtain ⟨hjun, oj, hoj, hall⟩ := mem_ready.1 hj
   have hnot : ∀ e ∈ oj.after, Region.binds md e = true → e.on ≠ i := fun e he hb heq => by
    have h1 := hall e he hb
    have h0 := (mem_ready.1 hr).1
    rw [heq] at h1
    rcases Nat.lt_or_ge i listed.size with h' | h'
    ·simp [h'] at h0 h1; rw [h0] at h1; cases h1
    ·simp [Array.getElem?_eq_none h'] at h1
   have hDj : D j = false := by
    cases hd : D j with
    | false => rfl
    | true =>
     obtain ⟨e, he, hb, heq⟩ := hD j oj hd hoj
     exact absurd heq (hnot e he hb)
   have h2 := wpOp_putIf hoj (hfree j oj hoj hji hjun hnot) (fun cs b => hsel i oi cs b hi) (fun cs b => hsel j oj cs b hoj) hQ hy h1
   have hfree' : ∀ k ok, ops[k]? = some ok → k ≠ i → (listed.setIfInBounds j true).getD k true = false →
     (∀ e ∈ ok.after, Region.binds md e = true → e.on ≠ i) → oi.apart ops ok = true := fun k ok hk hki hun hno => by
    refine hfree k ok hk hki ?_ hno
    by_cases hjk : j = k
    ·subst hjk; exact hjun
    ·rw [getD_set_ne true hjk] at hun; exact hun
   refine wpOp_mono (fun a' w' h3 => ⟨h3.2.1, ih (listed.setIfInBounds j true) a' w' hfree' (ready_mono hr (Ne.symm hji)) h3.1 (h3.2.1 hDj) ?_⟩) h2
   rw [Array.setIfInBounds_comm _ _ hji]
   exact h3.2.2
/-- every last operation waits for this one -/
def waitB (md : Region.Mode) (ops : Array Oper) (D : Nat → Bool) (i : Nat) : Bool := (List.range ops.size).all fun d => !D d || ((ops[d]?.map fun od => od.after.toList.any fun e => Region.binds md e && e.on == i).getD true)
theorem waitB_spec {i : Nat} (h : waitB md ops D i = true) : ∀ d od, D d = true → ops[d]? = some od → ∃ e ∈ od.after, Region.binds md e = true ∧ e.on = i := fun d od hd ho => by
 have hlt : d < ops.size := (Array.getElem?_eq_some_iff.1 ho).1
 have h1 := List.all_eq_true.1 h d (List.mem_range.2 hlt)
 rw [hd, ho] at h1
 simp only [Bool.not_true, Bool.false_or, Option.map_some, Option.getD_some, List.any_eq_true, Bool.and_eq_true, beq_iff_eq] at h1
 obtain ⟨e, he, hb, heq⟩ := h1
 exact ⟨e, Array.mem_toList_iff.1 he, hb, heq⟩
theorem wpAnyT_take {i : Nat} {oi : Oper} {v : Value} {fuel : Nat} {listed : Array Bool} {a : Act} {w : World} (hi : ops[i]? = some oi)
  (hs : Region.noSelect ops = true) (hf : Region.free md ops listed i = true) (hr : (Region.ready md ops listed).contains i = true) (hD : waitB md ops D i = true)
  (hQ : ∀ c a w, Q (.panic c) (a.put oi.dst v) w → Q (.panic c) a w) (hy : YieldsIf P ops S oi v a) (hS : S w)
  (h : wpAnyT P md ops Q S D fuel (listed.setIfInBounds i true) (a.put oi.dst v) w) : wpAnyT P md ops Q S D (fuel + 1) listed a w :=
 wpAnyT_first hi (Region.noSelect_spec hs) hQ (waitB_spec hD) fuel listed a w (Region.free_spec hi hf) (by simpa using hr) hy hS h
theorem wpAnyT_done {listed : Array Bool} {a : Act} {w : World} (hr : Region.ready md ops listed = []) (h : Q .normal a w) :
  ∀ fuel, wpAnyT P md ops Q S D fuel listed a w
 | 0 => ⟨hr, h⟩
 | _ + 1 => ⟨fun _ => h, by rw [hr]; simp⟩
def AllReadyT (P : Program) (md : Region.Mode) (ops : Array Oper) (Q : Exit → Act → World → Prop) (S : World → Prop) (D : Nat → Bool) (fuel : Nat) (listed : Array Bool) (a : Act) (w : World) (rs : List Nat) : Prop :=
 ∀ i ∈ rs, wpOp P ops Q i (fun a' w' => (D i = false → S w') ∧ wpAnyT P md ops Q S D fuel (listed.setIfInBounds i true) a' w') a w
theorem AllReadyT.nil {fuel : Nat} {listed : Array Bool} {a : Act} {w : World} : AllReadyT P md ops Q S D fuel listed a w [] := fun _ h => by cases h
theorem AllReadyT.cons {fuel : Nat} {listed : Array Bool} {a : Act} {w : World} {i : Nat} {o : Oper} {rs : List Nat} (ho : ops[i]? = some o)
  (h : ∀ K' : Act → World → Prop, Shut (∀ a w, S w → (S w → wpAnyT P md ops Q S D fuel (listed.setIfInBounds i true) a w) → K' a w) → if Region.wanted o (yielded ops a.tmps) = true then Oper.wp P o a w K' Q else K' (a.put o.dst undef) w)
  (hs : AllReadyT P md ops Q S D fuel listed a w rs) : AllReadyT P md ops Q S D fuel listed a w (i :: rs) := fun j hj => by
 rcases List.mem_cons.1 hj with rfl | hj
 ·exact wpOp_step ho (fun K' hK => h K' (fun a w hS hW => hK a w ⟨fun _ => hS, hW hS⟩))
 ·exact hs j hj
/-- one of the last operations -/
theorem AllReadyT.last {fuel : Nat} {listed : Array Bool} {a : Act} {w : World} {i : Nat} {o : Oper} {rs : List Nat} (ho : ops[i]? = some o) (hd : D i = true)
  (h : ∀ K' : Act → World → Prop, Shut (∀ a w, wpAnyT P md ops Q S D fuel (listed.setIfInBounds i true) a w → K' a w) → if Region.wanted o (yielded ops a.tmps) = true then Oper.wp P o a w K' Q else K' (a.put o.dst undef) w)
  (hs : AllReadyT P md ops Q S D fuel listed a w rs) : AllReadyT P md ops Q S D fuel listed a w (i :: rs) := fun j hj => by
 rcases List.mem_cons.1 hj with rfl | hj
 ·exact wpOp_step ho (fun K' hK => h K' (fun a w hW => hK a w ⟨fun h0 => (by rw [hd] at h0; cases h0), hW⟩))
 ·exact hs j hj
theorem wpAnyT_ready {rs : List Nat} {fuel : Nat} {listed : Array Bool} {a : Act} {w : World} (hr : Region.ready md ops listed = rs) (hne : rs ≠ [])
  (h : AllReadyT P md ops Q S D fuel listed a w rs) : wpAnyT P md ops Q S D (fuel + 1) listed a w :=
 ⟨fun h0 => absurd (hr ▸ h0) hne, hr ▸ h⟩
theorem wp_region_T {id : Nat} {a : Act} {w : World} (D : Nat → Bool) (S : World → Prop) (hm : P.follows .mixedOrders = true) (hS : S w.drew)
  (h : S w.drew → wpAnyT P .any ops Q S D ops.size (Array.replicate ops.size false) a w.drew) : (Code.region id ops true).wp P Q a w :=
 wp_region_any hm (wpAny_of_T _ _ _ _ (h hS))
end
end Go.Proofs.YtkmiphabagoifaaGreatDoor
end

section
namespace Go.Proofs.YtkmiphabagoifaaGreatDoor
open Go.RowKit Go.Shelf

/-- a slice's address: nil, or a place in a row -/
def Fm (A : Option Addr) (n : Nat) : Prop := (A = none ∧ n = 0) ∨ ∃ b off, A = some ⟨b, off, none⟩
theorem own_baseR {w : World} {b b' : Nat} {E : TypeId} {k : Nat} {v : Value} {rows : List (List Value)} (h : OwnS w b E k v rows) (hb : b' ≤ b) : OwnS w b' E k v rows := by
 refine ⟨⟨h.1.1, ?_⟩, h.2⟩
 rcases h.1.2 with h1 | ⟨g, cap, cur, h1, h2, h3⟩
 ·exact Or.inl h1
 ·exact Or.inr ⟨g, cap, cur, h1, Nat.le_trans hb h2, h3⟩
theorem OwnS.fm {w : World} {base n c : Nat} {E : TypeId} {k : Nat} {A : Option Addr} {rows : List (List Value)} (h : OwnS w base E k (.slice A n c) rows) : Fm A n ∧ n ≤ c := by
 rcases h.1.2 with ⟨h1, h2⟩ | ⟨g, cap, cur, h1, _, _, h2, _⟩
 ·injection h1 with e1 e2 e3
  exact ⟨Or.inl ⟨e1, e2⟩, by omega⟩
 ·injection h1 with e1 e2 e3
  exact ⟨Or.inr ⟨g, 0, e1⟩, by omega⟩
theorem Own.fm {w : World} {base n c : Nat} {A : Option Addr} {xs : List Int} (h : Own w base (.slice A n c) xs) : Fm A n ∧ n ≤ c := by
 rcases h.2 with ⟨h1, h2⟩ | ⟨g, cap, cur, h1, _, _, h2, _⟩
 ·injection h1 with e1 e2 e3
  exact ⟨Or.inl ⟨e1, e2⟩, by omega⟩
 ·injection h1 with e1 e2 e3
  exact ⟨Or.inr ⟨g, 0, e1⟩, by omega⟩
theorem Own.fresh_ {w : World} {base n c : Nat} {A : Option Addr} {xs : List Int} (h : Own w base (.slice A n c) xs) : Fresh base A := by
 intro ad e'
 subst e'
 rcases h.2 with ⟨h0, _⟩ | ⟨g, cap, cur, hv, hb, _⟩
 ·cases h0
 ·injection hv with hA _ _
  cases hA
  exact hb
theorem clone_Lk' (A : Option Addr) (n c : Nat) (ls : List Lk) (w : World) (hr : RdS w A 3 (ls.map Lk.cells)) (hn : ls.length = n) (hf : Fm A n) (hn2 : n ≤ 1000) :
  Calls Tryz.prog 108 #[.slice A n c] w fun e w' => ∃ A' c', e = .returned (.slice A' n c') ∧ OwnS w' w.heap.size 140 3 (.slice A' n c') (ls.map Lk.cells) ∧ Below w.heap.size w w' := by
 rcases hf with ⟨rfl, rfl⟩ | ⟨b, off, rfl⟩
 ·obtain rfl := List.eq_nil_of_length_eq_zero hn
  exact clone0_Lk c w
 ·exact clone_Lk b off n c (ls.map Lk.cells) w hr (by rw [List.length_map]; exact hn) (by intro r hr; obtain ⟨p, _, rfl⟩ := List.mem_map.1 hr; rfl) (by intro r hr u hu; obtain ⟨p, _, rfl⟩ := List.mem_map.1 hr; simp only [Lk.cells, List.mem_cons, List.not_mem_nil, or_false] at hu; rcases hu with rfl | rfl | rfl <;> rfl) hn2
theorem clone_Fr' (A : Option Addr) (n c : Nat) (l : List (Int × Int)) (w : World) (hr : RdS w A 2 (l.map ptC)) (hn : l.length = n) (hf : Fm A n) (hn2 : n ≤ 1000) :
  Calls Tryz.prog 109 #[.slice A n c] w fun e w' => ∃ A' c', e = .returned (.slice A' n c') ∧ OwnS w' w.heap.size 52 2 (.slice A' n c') (l.map ptC) ∧ Below w.heap.size w w' := by
 rcases hf with ⟨rfl, rfl⟩ | ⟨b, off, rfl⟩
 ·obtain rfl := List.eq_nil_of_length_eq_zero hn
  exact clone0_Fr c w
 ·exact clone_Fr b off n c (l.map ptC) w hr (by rw [List.length_map]; exact hn) (by intro r hr; obtain ⟨p, _, rfl⟩ := List.mem_map.1 hr; rfl) (by intro r hr u hu; obtain ⟨p, _, rfl⟩ := List.mem_map.1 hr; simp only [ptC, List.mem_cons, List.not_mem_nil, or_false] at hu; rcases hu with rfl | rfl <;> rfl) hn2
theorem clone_Fe' (A : Option Addr) (n c : Nat) (l : List Feast) (w : World) (hr : RdS w A 4 (l.map Feast.row)) (hn : l.length = n) (hf : Fm A n) (hn2 : n ≤ 1000) :
  Calls Tryz.prog 110 #[.slice A n c] w fun e w' => ∃ A' c', e = .returned (.slice A' n c') ∧ OwnS w' w.heap.size 145 4 (.slice A' n c') (l.map Feast.row) ∧ Below w.heap.size w w' := by
 rcases hf with ⟨rfl, rfl⟩ | ⟨b, off, rfl⟩
 ·obtain rfl := List.eq_nil_of_length_eq_zero hn
  exact clone0_Fe c w
 ·exact clone_Fe b off n c (l.map Feast.row) w hr (by rw [List.length_map]; exact hn) (by intro r hr; obtain ⟨p, _, rfl⟩ := List.mem_map.1 hr; rfl) (by intro r hr u hu; obtain ⟨p, _, rfl⟩ := List.mem_map.1 hr; simp only [Feast.row, List.mem_cons, List.not_mem_nil, or_false] at hu; rcases hu with rfl | rfl | rfl | rfl <;> rfl) hn2
theorem clone_Int (A : Option Addr) (n c : Nat) (xs : List Int) (w : World) (hr : Rd w A n xs) (hf : Fm A n) (hn2 : n ≤ 1000) :
  Calls Tryz.prog 43 #[.slice A n c] w fun e w' => ∃ A' c', e = .returned (.slice A' n c') ∧ Own w' w.heap.size (.slice A' n c') xs ∧ Below w.heap.size w w' := by
 rcases hf with ⟨rfl, rfl⟩ | ⟨b, off, rfl⟩
 ·obtain rfl := List.eq_nil_of_length_eq_zero hr.len
  refine (Tryz.slices_Clone_nil 0 c w).mono ?_
  rintro e w' ⟨rfl, rfl⟩
  exact ⟨none, 0, rfl, Own.nil _ _, fr_refl _⟩
 ·obtain ⟨i0, hi, hz0, hz1, hz2⟩ := info_parts info_int
  have hl := hr.len
  refine (Tryz.slices_Clone i0 (.int .i64 0) 1 8 hi hz0 hz1 hz2 rfl (by decide) Tryz.sizeOf3 b off n c (xs.map (Value.int .i64)) w (by rw [List.length_map, hl, Nat.mul_one]) (by unfold maxLen; omega) (by omega) ?_ ?_).mono ?_
  ·intro j u hj
   rw [List.getElem?_map] at hj
   cases hx : xs[j]? with
   | none => rw [hx] at hj; cases hj
   | some x =>
    rw [hx] at hj
    cases hj
    have hjl : j < n := by rw [← hl]; exact (List.getElem?_eq_some_iff.1 hx).1
    obtain ⟨ad, e, _, hc⟩ := hr.at_ hjl
    cases e
    rw [hx] at hc
    rw [← show (Value.int .i64 ((some x).getD 0)) = Value.int .i64 x from rfl, ← hc]
    unfold Addr.add
    by_cases h4 : j = 0
    ·subst h4; rfl
    ·rw [if_neg h4]
  ·intro u hu
   obtain ⟨x, _, rfl⟩ := List.mem_map.1 hu
   rfl
  ·rintro e w' ⟨v', rfl, hown, _, hbl⟩
   have ho : Own w' w.heap.size v' xs := by unfold Own; rw [hl]; exact hown
   obtain ⟨A, c', rfl⟩ := ho.form
   rw [hl] at ho ⊢
   exact ⟨A, c', rfl, ho, hbl⟩
section
variable {s : Nat} {w0 w W : World}
theorem Exc.rdS0 {A : Option Addr} {k : Nat} {rows : List (List Value)} (h : Exc (fun i => i = s) w W) (hr0 : RdS w0 A k rows) (hs : w0.heap.size ≤ s) (hr : RdS w A k rows) : RdS W A k rows := fun hn => by
 obtain ⟨ad, e, hlt, hc⟩ := hr hn
 obtain ⟨ad', e', hlt', _⟩ := hr0 hn
 rw [e] at e'
 cases e'
 exact ⟨ad, e, Nat.lt_of_lt_of_le hlt h.size, fun i r hi => ⟨(hc i r hi).1, fun j v hv => (h.cell (by rw [block_of_add]; exact hlt) (by rw [block_of_add]; omega)).trans ((hc i r hi).2 j v hv)⟩⟩
theorem Exc.rd0 {A : Option Addr} {n : Nat} {xs : List Int} (h : Exc (fun i => i = s) w W) (hr0 : Rd w0 A n xs) (hs : w0.heap.size ≤ s) (hr : Rd w A n xs) : Rd W A n xs :=
 ⟨hr.1, fun hn => by
  obtain ⟨ad, e, hlt, hc⟩ := hr.2 hn
  obtain ⟨ad', e', hlt', _⟩ := hr0.2 hn
  rw [e] at e'
  cases e'
  exact ⟨ad, e, Nat.lt_of_lt_of_le hlt h.size, fun j hj => (h.cell (by rw [block_of_add]; exact hlt) (by rw [block_of_add]; omega)).trans (hc j hj)⟩⟩
theorem Exc.rdS1 {A : Option Addr} {k : Nat} {rows : List (List Value)} (h : Exc (fun i => i = s) w W) {b : Nat} (hf : Fresh b A) (hs : s < b) (hr : RdS w A k rows) : RdS W A k rows := fun hn => by
 obtain ⟨ad, e, hlt, hc⟩ := hr hn
 have := hf ad e
 exact ⟨ad, e, Nat.lt_of_lt_of_le hlt h.size, fun i r hi => ⟨(hc i r hi).1, fun j v hv => (h.cell (by rw [block_of_add]; exact hlt) (by rw [block_of_add]; omega)).trans ((hc i r hi).2 j v hv)⟩⟩
theorem Exc.rd1 {A : Option Addr} {n : Nat} {xs : List Int} (h : Exc (fun i => i = s) w W) {b : Nat} (hf : Fresh b A) (hs : s < b) (hr : Rd w A n xs) : Rd W A n xs :=
 ⟨hr.1, fun hn => by
  obtain ⟨ad, e, hlt, hc⟩ := hr.2 hn
  have := hf ad e
  exact ⟨ad, e, Nat.lt_of_lt_of_le hlt h.size, fun j hj => (h.cell (by rw [block_of_add]; exact hlt) (by rw [block_of_add]; omega)).trans (hc j hj)⟩⟩
end
end Go.Proofs.YtkmiphabagoifaaGreatDoor
end
