/- Walk: an almanac is read, or given up with. -/
import Derived.Test.YthjblcboainknaaGreatDoorMT2
import Derived.Test.YthjblcboainknaaGreatDoorME2
namespace Go.Proofs.YthjblcboainknaaGreatDoor
open Go.RowKit Dl

section
variable {o : Oper} {a : Act} {w : World} {K : Act → World → Prop} {Q : Exit → Act → World → Prop}
theorem wp_allocA (ho : o.op = .alloc 76)
  (h : ∀ g w', Blk w' g 76 #[.int .i64 0, .slice none 0 0, .int .i64 0, .int .i64 0, .int .i64 0, .slice none 0 0] → Below w.heap.size w w' → w.heap.size ≤ g → K (a.put o.dst (.pointer (some ⟨g, 0, none⟩))) w') : o.wp Tryz.prog a w K Q := by
 have h1 := h w.heap.size (w.alloc (.cells #[.int .i64 0, .slice none 0 0, .int .i64 0, .int .i64 0, .int .i64 0, .slice none 0 0] 76)) (Blk.new w _ _) (fr_alloc (fr_refl w) _) (Nat.le_refl _)
 obtain ⟨dst, op, ty, pos, after, guard⟩ := o
 simp only at ho
 subst ho
 go_simp
 exact h1
end
theorem app_row_at {ops : Array Oper} {rest : List Oper} {o : Oper} {a : Act} {Q : Exit → Act → World → Prop} {W : World} {E T : TypeId} {z : Value} {k bytes : Nat} {r : List Value} (hgd : o.guard = none) (s x : Operand)
  (ho : o.op = .call { callee := .builtin .append, args := #[s, x], argTypes := #[T, T] }) (hu : Tryz.prog.underlying T = some (.slice E)) (hinfo : (Tryz.prog.info? E).map (fun i => (i.zero, i.size, i.bytes)) = some (some z, k, bytes)) (hzk : z.cells.size = k) (hk : 0 < k) (hby : bytes ≤ 1000)
  (base g : Nat) (hgs : W.heap.size = g) (v : Value) (rows : List (List Value)) (hs : a.eval s = v) (hx : a.eval x = .slice (some ⟨g, 0, none⟩) 1 1) (hown : OwnS W base E k v rows) (hrl : r.length = k) (h1 : ∀ u ∈ r, u.oneCell' = true) (hn : rows.length < 1000000) (hbase : base ≤ W.heap.size)
  (h : ∀ A c w', OwnS w' base E k (.slice A (rows.length + 1) c) (rows ++ [r]) → (W.alloc (.cells r.toArray E)).grownBy w' v.ownBlock → wpList Tryz.prog ops Q rest (a.put o.dst (.slice A (rows.length + 1) c)) w') :
  wpList Tryz.prog ops Q (o :: rest) a (W.alloc (.cells r.toArray E)) := by
 subst hgs
 exact app_row hgd s x ho hu hinfo hzk hk hby base v rows hs hx hown hrl h1 hn hbase h
theorem Rd.tail_ {w : World} {ad : Addr} {n : Nat} {x : Int} {xs : List Int} (h : Rd w (some ad) (n + 1) (x :: xs)) : Rd w (some (ad.add 1)) n xs := by
 have hl := h.len
 refine ⟨by simpa using hl, fun hn => ⟨_, rfl, ?_, fun j hj => ?_⟩⟩
 ·obtain ⟨ad', e, hb, _⟩ := h.at_ (show 0 < n + 1 by omega)
  cases e
  rw [block_of_add]; exact hb
 ·obtain ⟨ad', e, _, hc⟩ := h.at_ (show j + 1 < n + 1 by omega)
  cases e
  rw [add_of_add, Nat.add_comm 1 j]
  exact hc
theorem list3 {xs : List Int} (h : xs.length = 3) : ∃ a b c, xs = [a, b, c] := by
 match xs, h with
 | [a, b, c], _ => exact ⟨a, b, c, rfl⟩
/-- what parsed returns, or that it gives up -/
def ParsedPost (s : List UInt8) (w : World) (e : Ending) (w' : World) : Prop :=
 (∃ (a : Alm) (A : Option Addr) (c : Nat) (L : Option Addr) (lc : Nat), dread s = some a ∧ e = .returned (.agg #[.int .i64 a.e, .slice A a.cs.length c, .int .i64 a.num, .int .i64 a.den, .int .i64 a.add, .slice L a.l.length lc]) ∧
  Rd w' A a.cs.length a.cs ∧ RdS w' L 4 (a.l.map Fact.row) ∧ Fresh w.heap.size A ∧ Fresh w.heap.size L ∧ (a.cs.length ≤ 400 ∧ a.l.length ≤ 400) ∧ Below w.heap.size w w') ∨ (dread s = none ∧ Gave w e w')

set_option maxRecDepth 100000 in
set_option maxHeartbeats 16000000 in
theorem parsed_any (s : List UInt8) (w : World) (hs : s.length ≤ 400) (hM : MaxP w) (hT : TabP w) :
  Calls Tryz.prog 43 #[.string ⟨s.toArray⟩] w fun e w' => ParsedPost s w e w' := by
 have hpl := pieces_len 10 s
 have hps := pieces_small 10 s
 have g1 := fr_alloc (fr_refl w) (.cells #[.int .i64 0, .slice none 0 0, .int .i64 0, .int .i64 0, .int .i64 0, .slice none 0 0] 76)
 have hR0 := Blk.new w 76 #[.int .i64 0, .slice none 0 0, .int .i64 0, .int .i64 0, .int .i64 0, .slice none 0 0]
 have hsp := split_is 10 s _ (by omega) (hM.keep g1)
 obtain ⟨P, gP⟩ : ∃ P, pieces 10 s = P := ⟨_, rfl⟩
 rw [gP] at hpl hps hsp
 have HD := Lib.hid (show dread s = dreadP P s by unfold dread; rw [gP])
 clear gP
 go_enter Tryz.func43, Tryz.ntmps43
 go_wp2_with fail
 refine hsp.mono ?_
 clear hsp
 rintro e' w1 ⟨rfl, hcell, hsz, hb1⟩
 have hf1 := fr_call g1 hb1
 have hR1 := hR0.keep hb1
 have hcell2 : ∀ j p, P[j]? = some p → w1.cell? ⟨w.heap.size + 1, j, none⟩ = some (.string ⟨p.toArray⟩) := fun j p h => by
  have := hcell j p h
  rw [World.size_alloc] at this
  exact this
 have hgR : w.heap.size + 1 < w1.heap.size := by rw [hsz, World.size_alloc]; omega
 have hM1 := hM.keep hf1
 have hT1 := hT.keep hf1
 clear hcell hsz hR0 hb1 g1
 have HC := Lib.hid hcell2
 clear hcell2
 generalize hn : P.length = n at *
 have HN := Lib.hid hn
 have HPS := Lib.hid hps
 clear hn hps
 by_cases h4 : n < 4
 ·have h4i : ¬ (4 : Int) ≤ (n : Int) := by omega
  have h4d : decide ((4 : Int) ≤ (n : Int)) = false := decide_eq_false h4i
  go_wp2_with fail
  refine (sure_no _ _).mono ?_
  rintro e' w' ⟨rfl, rfl⟩
  exact ⟨rfl, Or.inr ⟨HD.out.trans (dreadP_short (by rw [HN.out]; exact h4)), _, rfl, hf1⟩⟩
 ·have h4i : (4 : Int) ≤ (n : Int) := by omega
  have h4d : decide ((4 : Int) ≤ (n : Int)) = true := decide_eq_true h4i
  obtain ⟨p0, hp0⟩ : ∃ p, P[0]? = some p := ⟨_, List.getElem?_eq_getElem (by have := HN.out; omega)⟩
  obtain ⟨p1, hp1⟩ : ∃ p, P[1]? = some p := ⟨_, List.getElem?_eq_getElem (by have := HN.out; omega)⟩
  have hc0 := HC.out 0 p0 hp0
  have hc1 := HC.out 1 p1 hp1
  have hl0 : p0.length ≤ 400 := Nat.le_trans (HPS.out p0 (List.mem_of_getElem? hp0)) hs
  have hl1 : p1.length ≤ 400 := Nat.le_trans (HPS.out p1 (List.mem_of_getElem? hp1)) hs
  have HP0 := Lib.hid (show P[0]?.getD [] = p0 by rw [hp0]; rfl)
  have HP1 := Lib.hid (show P[1]?.getD [] = p1 by rw [hp1]; rfl)
  clear hp0 hp1
  have hi1 : (1 : Int) < (n : Int) := by omega
  have hi0 : (0 : Int) < (n : Int) := by omega
  have hn0 : 0 < n := by omega
  have hn1 : 1 < n := by omega
  go_wp2_with fail
  refine (sure_yes _ _).mono ?_
  rintro e' w' ⟨rfl, rfl⟩
  go_upto_region 3 with (fail)
  go_cut [4, 5] from 17 (fun s4 s5 wc => ∃ xs0 A0 c0 xs1 A1 c1, toldB p0 = some xs0 ∧ toldB p1 = some xs1 ∧ s4 = .slice A0 xs0.length c0 ∧ s5 = .slice A1 xs1.length c1 ∧ Rd wc A0 xs0.length xs0 ∧ Rd wc A1 xs1.length xs1 ∧ xs0.length ≤ c0 ∧ Fresh (w.heap.size + 1) A0 ∧ Below w1.heap.size w1 wc)
  case first =>
   refine wp_region_held_drew (S := fun W => (∀ p : Addr, p.block < (w1).heap.size → W.cell? p = (w1).cell? p) ∧ Below (w1).heap.size (w1) W) (by kernel_rfl) ⟨fun _ _ => rfl, fr_drew (fr_refl _)⟩ (fun hHeld => ?_)
   -- the region, step by step, in whatever order
   refine wpAnyH_take (i := 0) (oi := ⟨some 17, .move (.tmp 3), 80, "text.go:124", #[], none⟩) (v := ?_) rfl (by kernel_rfl) (by kernel_rfl) (by kernel_rfl) (fun _ _ _ h => h) (Or.inl ⟨by rfl, fun W hSw => ?_⟩) hHeld ?_
   rotate_left
   ·(try dsimp only at hSw); go_simp; (try with_reducible rfl)
   (try simp only [Act.put, List.setIfInBounds_toArray, List.set_cons_zero, List.set_cons_succ])
   refine wpAnyH_take (i := 1) (oi := ⟨some 18, .indexAddr 80 (.tmp 17) (.const (.int .i64 0)), 0, "text.go:124", #[⟨0, .data⟩], none⟩) (v := ?_) rfl (by kernel_rfl) (by kernel_rfl) (by kernel_rfl) (fun _ _ _ h => h) (Or.inl ⟨by rfl, fun W hSw => ?_⟩) hHeld ?_
   rotate_left
   ·(try dsimp only at hSw); go_simp; (try with_reducible rfl)
   (try simp only [Act.put, List.setIfInBounds_toArray, List.set_cons_zero, List.set_cons_succ])
   refine wpAnyH_take (i := 2) (oi := ⟨some 19, .load 9 (.tmp 18), 9, "text.go:124", #[⟨1, .data⟩], none⟩) (v := ?_) rfl (by kernel_rfl) (by kernel_rfl) (by kernel_rfl) (fun _ _ _ h => h) (Or.inl ⟨by rfl, fun W hSw => ?_⟩) hHeld ?_
   rotate_left
   ·(try dsimp only at hSw); go_simp; (try with_reducible rfl)
   (try simp only [Act.put, List.setIfInBounds_toArray, List.set_cons_zero, List.set_cons_succ])
   refine wpAnyH_take (i := 4) (oi := ⟨some 21, .move (.tmp 3), 80, "text.go:124", #[], none⟩) (v := ?_) rfl (by kernel_rfl) (by kernel_rfl) (by kernel_rfl) (fun _ _ _ h => h) (Or.inl ⟨by rfl, fun W hSw => ?_⟩) hHeld ?_
   rotate_left
   ·(try dsimp only at hSw); go_simp; (try with_reducible rfl)
   (try simp only [Act.put, List.setIfInBounds_toArray, List.set_cons_zero, List.set_cons_succ])
   refine wpAnyH_take (i := 5) (oi := ⟨some 22, .indexAddr 80 (.tmp 21) (.const (.int .i64 1)), 0, "text.go:124", #[⟨4, .data⟩], none⟩) (v := ?_) rfl (by kernel_rfl) (by kernel_rfl) (by kernel_rfl) (fun _ _ _ h => h) (Or.inl ⟨by rfl, fun W hSw => ?_⟩) hHeld ?_
   rotate_left
   ·(try dsimp only at hSw); go_simp; (try with_reducible rfl)
   (try simp only [Act.put, List.setIfInBounds_toArray, List.set_cons_zero, List.set_cons_succ])
   refine wpAnyH_take (i := 6) (oi := ⟨some 23, .load 9 (.tmp 22), 9, "text.go:124", #[⟨5, .data⟩], none⟩) (v := ?_) rfl (by kernel_rfl) (by kernel_rfl) (by kernel_rfl) (fun _ _ _ h => h) (Or.inl ⟨by rfl, fun W hSw => ?_⟩) hHeld ?_
   rotate_left
   ·(try dsimp only at hSw); go_simp; (try with_reducible rfl)
   (try simp only [Act.put, List.setIfInBounds_toArray, List.set_cons_zero, List.set_cons_succ])
   refine wpAnyH_ready (rs := [3]) (by kernel_rfl) (by simp) ?_
   refine (AllReadyH.cons (o := ⟨some 20, .call { callee := .value (.func 86), args := #[.tmp 19], argTypes := #[9] }, 22, "text.go:124", #[⟨2, .data⟩], none⟩) rfl (fun K hK => ?_) AllReadyH.nil)
   rw [if_pos (by rfl)]
   go_simp
   refine (told_any p0 _ (by omega) (hM1.keep hHeld.2) (hT1.keep hHeld.2)).mono ?_
   rintro e' wA ht
   rcases ht with ⟨xs0, A0, c0, ht0, rfl, hr0, hcap0, hfr0, hb⟩ | ⟨htn, sz, rfl, hb⟩
   rotate_left
   ·exact ⟨rfl, Or.inr ⟨HD.out.trans (dreadP_t0 (by rw [HP0.out]; exact htn)), sz, rfl, fr_call hf1 (fr_call hHeld.2 hb)⟩⟩
   (try replace hr1 := hr1.keep hb)
   have hfq0 : Fresh (w.heap.size + 1) A0 := fun ad h => by
    have h1 := hfr0 ad h
    have h2 := hHeld.2.size
    omega
   refine hK.out _ _ (kp_step hb hHeld) (fun hHeld => ?_)
   clear hK K
   (try simp only [Act.put, List.setIfInBounds_toArray, List.set_cons_zero, List.set_cons_succ])
   refine wpAnyH_ready (rs := [7]) (by kernel_rfl) (by simp) ?_
   refine (AllReadyH.cons (o := ⟨some 24, .call { callee := .value (.func 86), args := #[.tmp 23], argTypes := #[9] }, 22, "text.go:124", #[⟨6, .data⟩, ⟨3, .chain⟩], none⟩) rfl (fun K hK => ?_) AllReadyH.nil)
   rw [if_pos (by rfl)]
   go_simp
   refine (told_any p1 _ (by omega) (hM1.keep hHeld.2) (hT1.keep hHeld.2)).mono ?_
   rintro e' wB ht
   rcases ht with ⟨xs1, A1, c1, ht1, rfl, hr1, hcap1, _, hb⟩ | ⟨htn, sz, rfl, hb⟩
   rotate_left
   ·exact ⟨rfl, Or.inr ⟨HD.out.trans (dreadP_t1 (by rw [HP1.out]; exact htn)), sz, rfl, fr_call hf1 (fr_call hHeld.2 hb)⟩⟩
   (try replace hr0 := hr0.keep hb)
   refine hK.out _ _ (kp_step hb hHeld) (fun hHeld => ?_)
   clear hK K
   (try simp only [Act.put, List.setIfInBounds_toArray, List.set_cons_zero, List.set_cons_succ])
   refine wpAnyH_take (i := 8) (oi := ⟨some 4, .assign (.tmp 20), 22, "text.go:124", #[⟨3, .data⟩, ⟨7, .chain⟩, ⟨0, .phase⟩, ⟨1, .phase⟩, ⟨2, .phase⟩, ⟨3, .phase⟩, ⟨4, .textOnly .lateStores⟩, ⟨5, .textOnly .lateStores⟩, ⟨6, .textOnly .lateStores⟩, ⟨7, .textOnly .lateStoresUnsure⟩], none⟩) (v := ?_) rfl (by kernel_rfl) (by kernel_rfl) (by kernel_rfl) (fun _ _ _ h => h) (Or.inl ⟨by rfl, fun W hSw => ?_⟩) hHeld ?_
   rotate_left
   ·(try dsimp only at hSw); go_simp; (try with_reducible rfl)
   (try simp only [Act.put, List.setIfInBounds_toArray, List.set_cons_zero, List.set_cons_succ])
   refine wpAnyH_take (i := 9) (oi := ⟨some 5, .assign (.tmp 24), 22, "text.go:124", #[⟨7, .data⟩, ⟨8, .chain⟩, ⟨0, .phase⟩, ⟨1, .phase⟩, ⟨2, .phase⟩, ⟨3, .phase⟩, ⟨4, .phase⟩, ⟨5, .phase⟩, ⟨6, .phase⟩, ⟨7, .phase⟩, ⟨8, .phase⟩], none⟩) (v := ?_) rfl (by kernel_rfl) (by kernel_rfl) (by kernel_rfl) (fun _ _ _ h => h) (Or.inl ⟨by rfl, fun W hSw => ?_⟩) hHeld ?_
   rotate_left
   ·(try dsimp only at hSw); go_simp; (try with_reducible rfl)
   (try simp only [Act.put, List.setIfInBounds_toArray, List.set_cons_zero, List.set_cons_succ])
   refine wpAnyH_done (by kernel_rfl) ?_ _
   go_wp2_with fail
   go_meet
   case rel => exact ⟨xs0, A0, c0, xs1, A1, c1, ht0, ht1, rfl, rfl, hr0, hr1, hcap0, hfq0, hHeld.2⟩
  case rest =>
   obtain ⟨xs0, A0, c0, xs1, A1, c1, ht0, ht1, rfl, rfl, hr0, hr1, hcap0, hfr0, hb2⟩ := hcut
   obtain ⟨wa, rfl⟩ : ∃ wa : World, wa = wc := ⟨_, rfl⟩
   have hf2 := fr_call hf1 hb2
   have hR2 := hR1.keep hb2
   have HT0 := Lib.hid ht0
   have HT1 := Lib.hid ht1
   have hM2 := hM1.keep hb2
   have hT2 := hT1.keep hb2
   have hgR2 : w.heap.size + 1 < wa.heap.size := Nat.lt_of_lt_of_le hgR hb2.size
   have HC2 := Lib.hid (fun (j : Nat) p (h : P[j]? = some p) => (hb2.cell (p := ⟨w.heap.size + 1, j, none⟩) hgR).trans (HC.out j p h))
   clear ht0 ht1 hR1 hb2 hc0 hc1 HC hM1 hT1 hgR
   rcases xs0 with _ | ⟨e, cs⟩
   ·go_wp2_with fail
    refine (sure_no _ _).mono ?_
    rintro e' w' ⟨rfl, rfl⟩
    exact ⟨rfl, Or.inr ⟨HD.out.trans (dreadP_n0 (by rw [HP0.out]; exact HT0.out)), _, rfl, hf2⟩⟩
   ·simp only [List.length_cons] at hcap0 hr0 ⊢
    have d1 : decide ((1 : Int) ≤ (cs.length : Int) + 1) = true := decide_eq_true (by omega)
    have d2 : decide ((1 : Int) ≤ ((cs.length + 1 : Nat) : Int)) = true := decide_eq_true (by omega)
    by_cases h3 : xs1.length = 3
    ·obtain ⟨num, den, add, rfl⟩ := list3 h3
     clear h3
     go_wp2_with fail
     refine (sure_yes _ _).mono ?_
     rintro e' w' ⟨rfl, rfl⟩
     go_upto_region 5 with (fail)
     obtain ⟨ad0, rfl, hab0, hv0⟩ := hr0.at_ (show 0 < cs.length + 1 by omega)
     obtain ⟨ad1, rfl, hab1, hm0⟩ := hr1.at_ (show 0 < 3 by omega)
     obtain ⟨ad1', e1, _, hm1⟩ := hr1.at_ (show 1 < 3 by omega)
     obtain rfl : ad1 = ad1' := by injection e1
     obtain ⟨ad1', e2, _, hm2⟩ := hr1.at_ (show 2 < 3 by omega)
     obtain rfl : ad1 = ad1' := by injection e2
     clear e1 e2
     rw [show ad0.add 0 = ad0 by unfold Addr.add; simp] at hv0
     rw [show ad1.add 0 = ad1 by unfold Addr.add; simp] at hm0
     rw [show ad1.add 1 = ⟨ad1.block, ad1.off + 1, none⟩ by unfold Addr.add; simp] at hm1
     rw [show ad1.add 2 = ⟨ad1.block, ad1.off + 2, none⟩ by unfold Addr.add; simp] at hm2
     have hv0' : wa.cell? ad0 = some (.int .i64 e) := hv0
     have hm0' : wa.cell? ad1 = some (.int .i64 num) := hm0
     have hm1' : wa.cell? ⟨ad1.block, ad1.off + 1, none⟩ = some (.int .i64 den) := hm1
     have hm2' : wa.cell? ⟨ad1.block, ad1.off + 2, none⟩ = some (.int .i64 add) := hm2
     clear hv0 hm0 hm1 hm2
     have hl01 : (0 : Int) < (cs.length : Int) + 1 := by omega
     have hl02 : 0 < cs.length + 1 := by omega
     have hl11 : (1 : Int) ≤ (cs.length : Int) + 1 := by omega
     have hl12 : (cs.length : Int) + 1 ≤ (c0 : Int) := by omega
     have hl13 : (1 : Int) ≤ (c0 : Int) := by omega
     go_cut [6] from 35 (fun s6 wc => ∃ g A c, s6 = .pointer (some ⟨g, 0, none⟩) ∧ Blk wc g 76 #[.int .i64 e, .slice A cs.length c, .int .i64 num, .int .i64 den, .int .i64 add, .slice none 0 0] ∧ Rd wa A cs.length cs ∧ Fresh (w.heap.size + 1) A ∧ wa.heap.size ≤ g ∧ Below wa.heap.size wa wc)
     case first =>
      by_cases hc1 : c0 = 1
      ·have hcl : cs.length = 0 := by omega
       obtain rfl : cs = [] := List.eq_nil_of_length_eq_zero hcl
       subst hc1
       clear hcl
       refine wp_region_noPanic ?_
       refine wp_region_held_drew (S := fun W => (∀ p : Addr, p.block < (wa).heap.size → W.cell? p = (wa).cell? p) ∧ Below (wa).heap.size (wa) W) (by kernel_rfl) ⟨fun _ _ => rfl, fr_drew (fr_refl _)⟩ (fun hHeld => ?_)
       -- the region, step by step, in whatever order
       refine wpAnyH_take (i := 0) (oi := ⟨some 35, .move (.tmp 4), 22, "text.go:126", #[], none⟩) (v := ?_) rfl (by kernel_rfl) (by kernel_rfl) (by kernel_rfl) (fun _ _ _ h => h) (Or.inl ⟨by rfl, fun W hSw => ?_⟩) hHeld ?_
       rotate_left
       ·(try dsimp only at hSw); go_simp; (try with_reducible rfl)
       (try simp only [Act.put, List.setIfInBounds_toArray, List.set_cons_zero, List.set_cons_succ])
       refine wpAnyH_take (i := 1) (oi := ⟨some 36, .indexAddr 22 (.tmp 35) (.const (.int .i64 0)), 0, "text.go:126", #[⟨0, .data⟩], none⟩) (v := ?_) rfl (by kernel_rfl) (by kernel_rfl) (by kernel_rfl) (fun _ _ _ h => h) (Or.inl ⟨by rfl, fun W hSw => ?_⟩) hHeld ?_
       rotate_left
       ·(try dsimp only at hSw); go_simp; (try with_reducible rfl)
       (try simp only [Act.put, List.setIfInBounds_toArray, List.set_cons_zero, List.set_cons_succ])
       refine wpAnyH_take (i := 2) (oi := ⟨some 37, .load 3 (.tmp 36), 3, "text.go:126", #[⟨1, .data⟩], none⟩) (v := ?_) rfl (by kernel_rfl) (by kernel_rfl) (by kernel_rfl) (fun _ _ _ h => h) (Or.inl ⟨by rfl, fun W hSw => ?_⟩) hHeld ?_
       rotate_left
       ·(try dsimp only at hSw); go_simp; (try with_reducible rfl)
       (try simp only [Act.put, List.setIfInBounds_toArray, List.set_cons_zero, List.set_cons_succ])
       refine wpAnyH_take (i := 3) (oi := ⟨some 38, .move (.tmp 4), 22, "text.go:126", #[], none⟩) (v := ?_) rfl (by kernel_rfl) (by kernel_rfl) (by kernel_rfl) (fun _ _ _ h => h) (Or.inl ⟨by rfl, fun W hSw => ?_⟩) hHeld ?_
       rotate_left
       ·(try dsimp only at hSw); go_simp; (try with_reducible rfl)
       (try simp only [Act.put, List.setIfInBounds_toArray, List.set_cons_zero, List.set_cons_succ])
       refine wpAnyH_take (i := 4) (oi := ⟨some 39, .slice 22 (.tmp 38) (some (.const (.int .i64 1))) none none, 22, "text.go:126", #[⟨3, .data⟩], none⟩) (v := ?_) rfl (by kernel_rfl) (by kernel_rfl) (by kernel_rfl) (fun _ _ _ h => h) (Or.inl ⟨by rfl, fun W hSw => ?_⟩) hHeld ?_
       rotate_left
       ·(try dsimp only at hSw); go_simp; (try with_reducible rfl)
       (try simp only [Act.put, List.setIfInBounds_toArray, List.set_cons_zero, List.set_cons_succ])
       refine wpAnyH_take (i := 5) (oi := ⟨some 40, .build 24 #[(0, .tmp 37), (1, .tmp 39)], 24, "text.go:126", #[⟨2, .data⟩, ⟨4, .data⟩], none⟩) (v := ?_) rfl (by kernel_rfl) (by kernel_rfl) (by kernel_rfl) (fun _ _ _ h => h) (Or.inl ⟨by rfl, fun W hSw => ?_⟩) hHeld ?_
       rotate_left
       ·(try dsimp only at hSw); go_simp; (try with_reducible rfl)
       (try simp only [Act.put, List.setIfInBounds_toArray, List.set_cons_zero, List.set_cons_succ])
       refine wpAnyH_take (i := 6) (oi := ⟨some 41, .move (.tmp 5), 22, "text.go:126", #[], none⟩) (v := ?_) rfl (by kernel_rfl) (by kernel_rfl) (by kernel_rfl) (fun _ _ _ h => h) (Or.inl ⟨by rfl, fun W hSw => ?_⟩) hHeld ?_
       rotate_left
       ·(try dsimp only at hSw); go_simp; (try with_reducible rfl)
       (try simp only [Act.put, List.setIfInBounds_toArray, List.set_cons_zero, List.set_cons_succ])
       refine wpAnyH_take (i := 7) (oi := ⟨some 42, .indexAddr 22 (.tmp 41) (.const (.int .i64 0)), 0, "text.go:126", #[⟨6, .data⟩], none⟩) (v := ?_) rfl (by kernel_rfl) (by kernel_rfl) (by kernel_rfl) (fun _ _ _ h => h) (Or.inl ⟨by rfl, fun W hSw => ?_⟩) hHeld ?_
       rotate_left
       ·(try dsimp only at hSw); go_simp; (try with_reducible rfl)
       (try simp only [Act.put, List.setIfInBounds_toArray, List.set_cons_zero, List.set_cons_succ])
       refine wpAnyH_take (i := 8) (oi := ⟨some 43, .load 3 (.tmp 42), 3, "text.go:126", #[⟨7, .data⟩], none⟩) (v := ?_) rfl (by kernel_rfl) (by kernel_rfl) (by kernel_rfl) (fun _ _ _ h => h) (Or.inl ⟨by rfl, fun W hSw => ?_⟩) hHeld ?_
       rotate_left
       ·(try dsimp only at hSw); go_simp; (try with_reducible rfl)
       (try simp only [Act.put, List.setIfInBounds_toArray, List.set_cons_zero, List.set_cons_succ])
       refine wpAnyH_take (i := 9) (oi := ⟨some 44, .move (.tmp 5), 22, "text.go:126", #[], none⟩) (v := ?_) rfl (by kernel_rfl) (by kernel_rfl) (by kernel_rfl) (fun _ _ _ h => h) (Or.inl ⟨by rfl, fun W hSw => ?_⟩) hHeld ?_
       rotate_left
       ·(try dsimp only at hSw); go_simp; (try with_reducible rfl)
       (try simp only [Act.put, List.setIfInBounds_toArray, List.set_cons_zero, List.set_cons_succ])
       refine wpAnyH_take (i := 10) (oi := ⟨some 45, .indexAddr 22 (.tmp 44) (.const (.int .i64 1)), 0, "text.go:126", #[⟨9, .data⟩], none⟩) (v := ?_) rfl (by kernel_rfl) (by kernel_rfl) (by kernel_rfl) (fun _ _ _ h => h) (Or.inl ⟨by rfl, fun W hSw => ?_⟩) hHeld ?_
       rotate_left
       ·(try dsimp only at hSw); go_simp; (try with_reducible rfl)
       (try simp only [Act.put, List.setIfInBounds_toArray, List.set_cons_zero, List.set_cons_succ])
       refine wpAnyH_take (i := 11) (oi := ⟨some 46, .load 3 (.tmp 45), 3, "text.go:126", #[⟨10, .data⟩], none⟩) (v := ?_) rfl (by kernel_rfl) (by kernel_rfl) (by kernel_rfl) (fun _ _ _ h => h) (Or.inl ⟨by rfl, fun W hSw => ?_⟩) hHeld ?_
       rotate_left
       ·(try dsimp only at hSw); go_simp; (try with_reducible rfl)
       (try simp only [Act.put, List.setIfInBounds_toArray, List.set_cons_zero, List.set_cons_succ])
       refine wpAnyH_take (i := 12) (oi := ⟨some 47, .move (.tmp 5), 22, "text.go:126", #[], none⟩) (v := ?_) rfl (by kernel_rfl) (by kernel_rfl) (by kernel_rfl) (fun _ _ _ h => h) (Or.inl ⟨by rfl, fun W hSw => ?_⟩) hHeld ?_
       rotate_left
       ·(try dsimp only at hSw); go_simp; (try with_reducible rfl)
       (try simp only [Act.put, List.setIfInBounds_toArray, List.set_cons_zero, List.set_cons_succ])
       refine wpAnyH_take (i := 13) (oi := ⟨some 48, .indexAddr 22 (.tmp 47) (.const (.int .i64 2)), 0, "text.go:126", #[⟨12, .data⟩], none⟩) (v := ?_) rfl (by kernel_rfl) (by kernel_rfl) (by kernel_rfl) (fun _ _ _ h => h) (Or.inl ⟨by rfl, fun W hSw => ?_⟩) hHeld ?_
       rotate_left
       ·(try dsimp only at hSw); go_simp; (try with_reducible rfl)
       (try simp only [Act.put, List.setIfInBounds_toArray, List.set_cons_zero, List.set_cons_succ])
       refine wpAnyH_take (i := 14) (oi := ⟨some 49, .load 3 (.tmp 48), 3, "text.go:126", #[⟨13, .data⟩], none⟩) (v := ?_) rfl (by kernel_rfl) (by kernel_rfl) (by kernel_rfl) (fun _ _ _ h => h) (Or.inl ⟨by rfl, fun W hSw => ?_⟩) hHeld ?_
       rotate_left
       ·(try dsimp only at hSw); go_simp; (try with_reducible rfl)
       (try simp only [Act.put, List.setIfInBounds_toArray, List.set_cons_zero, List.set_cons_succ])
       refine wpAnyH_take (i := 15) (oi := ⟨some 50, .build 26 #[(0, .tmp 43), (1, .tmp 46), (2, .tmp 49)], 26, "text.go:126", #[⟨8, .data⟩, ⟨11, .data⟩, ⟨14, .data⟩], none⟩) (v := ?_) rfl (by kernel_rfl) (by kernel_rfl) (by kernel_rfl) (fun _ _ _ h => h) (Or.inl ⟨by rfl, fun W hSw => ?_⟩) hHeld ?_
       rotate_left
       ·(try dsimp only at hSw); go_simp; (try with_reducible rfl)
       (try simp only [Act.put, List.setIfInBounds_toArray, List.set_cons_zero, List.set_cons_succ])
       refine wpAnyH_take (i := 16) (oi := ⟨some 51, .build 76 #[(0, .tmp 40), (1, .tmp 50)], 76, "text.go:126", #[⟨5, .data⟩, ⟨15, .data⟩], none⟩) (v := ?_) rfl (by kernel_rfl) (by kernel_rfl) (by kernel_rfl) (fun _ _ _ h => h) (Or.inl ⟨by rfl, fun W hSw => ?_⟩) hHeld ?_
       rotate_left
       ·(try dsimp only at hSw); go_simp; (try with_reducible rfl)
       (try simp only [Act.put, List.setIfInBounds_toArray, List.set_cons_zero, List.set_cons_succ])
       refine wpAnyH_ready (rs := [17]) (by kernel_rfl) (by simp) ?_
       refine (AllReadyH.cons (o := ⟨some 6, .alloc 76, 0, "text.go:126", #[], none⟩) rfl (fun K hK => ?_) AllReadyH.nil)
       rw [if_pos (by rfl)]
       refine wp_allocA rfl ?_
       intro gZ WZ hZB hbZ hgZ
       have hgZ0 := Nat.le_trans hHeld.2.size hgZ
       refine hK.out _ _ (kp_step hbZ hHeld) (fun hHeld => ?_)
       clear hK K
       (try simp only [Act.put, List.setIfInBounds_toArray, List.set_cons_zero, List.set_cons_succ])
       refine wpAnyH_ready (rs := [18]) (by kernel_rfl) (by simp) ?_
       refine (AllReadyH.cons (o := ⟨none, .store 76 (.tmp 6) (.tmp 51), 0, "text.go:126", #[⟨17, .data⟩, ⟨16, .data⟩, ⟨0, .phase⟩, ⟨1, .phase⟩, ⟨2, .phase⟩, ⟨3, .phase⟩, ⟨4, .phase⟩, ⟨5, .phase⟩, ⟨6, .phase⟩, ⟨7, .phase⟩, ⟨8, .phase⟩, ⟨9, .phase⟩, ⟨10, .phase⟩, ⟨11, .phase⟩, ⟨12, .phase⟩, ⟨13, .phase⟩, ⟨14, .phase⟩, ⟨15, .phase⟩, ⟨16, .phase⟩, ⟨17, .phase⟩], none⟩) rfl (fun K hK => ?_) AllReadyH.nil)
       rw [if_pos (by rfl)]
       refine wp_store_blk _ _ _ rfl gZ 76 _ _ rfl rfl hZB rfl (by kernel_rfl) (by simp [Value.oneCell']) ?_
       intro W3 hZ3 hg3
       have hbl3 := hHeld.2.grown hg3 hHeld.2.size (by intro k hk; cases hk; exact hgZ0)
       refine hK.out _ _ (kp_of hbl3) (fun hHeld => ?_)
       clear hK K
       refine wpAnyH_done (by kernel_rfl) ?_ _
       refine NoPanic.normal ?_
       go_wp2_with fail
       go_meet
       case rel => exact ⟨gZ, _, _, rfl, hZ3, Rd.nil_ _ _, hfr0, hgZ0, hbl3⟩
      ·have hc1i : ¬ (c0 : Int) = 1 := by omega
       have hrt := hr0.tail_
       have hfrt : Fresh (w.heap.size + 1) (some (ad0.add 1)) := fun ad h => by
        cases h
        rw [block_of_add]
        exact hfr0 ad0 rfl
       refine wp_region_noPanic ?_
       refine wp_region_held_drew (S := fun W => (∀ p : Addr, p.block < (wa).heap.size → W.cell? p = (wa).cell? p) ∧ Below (wa).heap.size (wa) W) (by kernel_rfl) ⟨fun _ _ => rfl, fr_drew (fr_refl _)⟩ (fun hHeld => ?_)
       -- the region, step by step, in whatever order
       refine wpAnyH_take (i := 0) (oi := ⟨some 35, .move (.tmp 4), 22, "text.go:126", #[], none⟩) (v := ?_) rfl (by kernel_rfl) (by kernel_rfl) (by kernel_rfl) (fun _ _ _ h => h) (Or.inl ⟨by rfl, fun W hSw => ?_⟩) hHeld ?_
       rotate_left
       ·(try dsimp only at hSw); go_simp; (try with_reducible rfl)
       (try simp only [Act.put, List.setIfInBounds_toArray, List.set_cons_zero, List.set_cons_succ])
       refine wpAnyH_take (i := 1) (oi := ⟨some 36, .indexAddr 22 (.tmp 35) (.const (.int .i64 0)), 0, "text.go:126", #[⟨0, .data⟩], none⟩) (v := ?_) rfl (by kernel_rfl) (by kernel_rfl) (by kernel_rfl) (fun _ _ _ h => h) (Or.inl ⟨by rfl, fun W hSw => ?_⟩) hHeld ?_
       rotate_left
       ·(try dsimp only at hSw); go_simp; (try with_reducible rfl)
       (try simp only [Act.put, List.setIfInBounds_toArray, List.set_cons_zero, List.set_cons_succ])
       refine wpAnyH_take (i := 2) (oi := ⟨some 37, .load 3 (.tmp 36), 3, "text.go:126", #[⟨1, .data⟩], none⟩) (v := ?_) rfl (by kernel_rfl) (by kernel_rfl) (by kernel_rfl) (fun _ _ _ h => h) (Or.inl ⟨by rfl, fun W hSw => ?_⟩) hHeld ?_
       rotate_left
       ·(try dsimp only at hSw); go_simp; (try with_reducible rfl)
       (try simp only [Act.put, List.setIfInBounds_toArray, List.set_cons_zero, List.set_cons_succ])
       refine wpAnyH_take (i := 3) (oi := ⟨some 38, .move (.tmp 4), 22, "text.go:126", #[], none⟩) (v := ?_) rfl (by kernel_rfl) (by kernel_rfl) (by kernel_rfl) (fun _ _ _ h => h) (Or.inl ⟨by rfl, fun W hSw => ?_⟩) hHeld ?_
       rotate_left
       ·(try dsimp only at hSw); go_simp; (try with_reducible rfl)
       (try simp only [Act.put, List.setIfInBounds_toArray, List.set_cons_zero, List.set_cons_succ])
       refine wpAnyH_take (i := 4) (oi := ⟨some 39, .slice 22 (.tmp 38) (some (.const (.int .i64 1))) none none, 22, "text.go:126", #[⟨3, .data⟩], none⟩) (v := ?_) rfl (by kernel_rfl) (by kernel_rfl) (by kernel_rfl) (fun _ _ _ h => h) (Or.inl ⟨by rfl, fun W hSw => ?_⟩) hHeld ?_
       rotate_left
       ·(try dsimp only at hSw); go_simp; (try with_reducible rfl)
       (try simp only [Act.put, List.setIfInBounds_toArray, List.set_cons_zero, List.set_cons_succ])
       refine wpAnyH_take (i := 5) (oi := ⟨some 40, .build 24 #[(0, .tmp 37), (1, .tmp 39)], 24, "text.go:126", #[⟨2, .data⟩, ⟨4, .data⟩], none⟩) (v := ?_) rfl (by kernel_rfl) (by kernel_rfl) (by kernel_rfl) (fun _ _ _ h => h) (Or.inl ⟨by rfl, fun W hSw => ?_⟩) hHeld ?_
       rotate_left
       ·(try dsimp only at hSw); go_simp; (try with_reducible rfl)
       (try simp only [Act.put, List.setIfInBounds_toArray, List.set_cons_zero, List.set_cons_succ])
       refine wpAnyH_take (i := 6) (oi := ⟨some 41, .move (.tmp 5), 22, "text.go:126", #[], none⟩) (v := ?_) rfl (by kernel_rfl) (by kernel_rfl) (by kernel_rfl) (fun _ _ _ h => h) (Or.inl ⟨by rfl, fun W hSw => ?_⟩) hHeld ?_
       rotate_left
       ·(try dsimp only at hSw); go_simp; (try with_reducible rfl)
       (try simp only [Act.put, List.setIfInBounds_toArray, List.set_cons_zero, List.set_cons_succ])
       refine wpAnyH_take (i := 7) (oi := ⟨some 42, .indexAddr 22 (.tmp 41) (.const (.int .i64 0)), 0, "text.go:126", #[⟨6, .data⟩], none⟩) (v := ?_) rfl (by kernel_rfl) (by kernel_rfl) (by kernel_rfl) (fun _ _ _ h => h) (Or.inl ⟨by rfl, fun W hSw => ?_⟩) hHeld ?_
       rotate_left
       ·(try dsimp only at hSw); go_simp; (try with_reducible rfl)
       (try simp only [Act.put, List.setIfInBounds_toArray, List.set_cons_zero, List.set_cons_succ])
       refine wpAnyH_take (i := 8) (oi := ⟨some 43, .load 3 (.tmp 42), 3, "text.go:126", #[⟨7, .data⟩], none⟩) (v := ?_) rfl (by kernel_rfl) (by kernel_rfl) (by kernel_rfl) (fun _ _ _ h => h) (Or.inl ⟨by rfl, fun W hSw => ?_⟩) hHeld ?_
       rotate_left
       ·(try dsimp only at hSw); go_simp; (try with_reducible rfl)
       (try simp only [Act.put, List.setIfInBounds_toArray, List.set_cons_zero, List.set_cons_succ])
       refine wpAnyH_take (i := 9) (oi := ⟨some 44, .move (.tmp 5), 22, "text.go:126", #[], none⟩) (v := ?_) rfl (by kernel_rfl) (by kernel_rfl) (by kernel_rfl) (fun _ _ _ h => h) (Or.inl ⟨by rfl, fun W hSw => ?_⟩) hHeld ?_
       rotate_left
       ·(try dsimp only at hSw); go_simp; (try with_reducible rfl)
       (try simp only [Act.put, List.setIfInBounds_toArray, List.set_cons_zero, List.set_cons_succ])
       refine wpAnyH_take (i := 10) (oi := ⟨some 45, .indexAddr 22 (.tmp 44) (.const (.int .i64 1)), 0, "text.go:126", #[⟨9, .data⟩], none⟩) (v := ?_) rfl (by kernel_rfl) (by kernel_rfl) (by kernel_rfl) (fun _ _ _ h => h) (Or.inl ⟨by rfl, fun W hSw => ?_⟩) hHeld ?_
       rotate_left
       ·(try dsimp only at hSw); go_simp; (try with_reducible rfl)
       (try simp only [Act.put, List.setIfInBounds_toArray, List.set_cons_zero, List.set_cons_succ])
       refine wpAnyH_take (i := 11) (oi := ⟨some 46, .load 3 (.tmp 45), 3, "text.go:126", #[⟨10, .data⟩], none⟩) (v := ?_) rfl (by kernel_rfl) (by kernel_rfl) (by kernel_rfl) (fun _ _ _ h => h) (Or.inl ⟨by rfl, fun W hSw => ?_⟩) hHeld ?_
       rotate_left
       ·(try dsimp only at hSw); go_simp; (try with_reducible rfl)
       (try simp only [Act.put, List.setIfInBounds_toArray, List.set_cons_zero, List.set_cons_succ])
       refine wpAnyH_take (i := 12) (oi := ⟨some 47, .move (.tmp 5), 22, "text.go:126", #[], none⟩) (v := ?_) rfl (by kernel_rfl) (by kernel_rfl) (by kernel_rfl) (fun _ _ _ h => h) (Or.inl ⟨by rfl, fun W hSw => ?_⟩) hHeld ?_
       rotate_left
       ·(try dsimp only at hSw); go_simp; (try with_reducible rfl)
       (try simp only [Act.put, List.setIfInBounds_toArray, List.set_cons_zero, List.set_cons_succ])
       refine wpAnyH_take (i := 13) (oi := ⟨some 48, .indexAddr 22 (.tmp 47) (.const (.int .i64 2)), 0, "text.go:126", #[⟨12, .data⟩], none⟩) (v := ?_) rfl (by kernel_rfl) (by kernel_rfl) (by kernel_rfl) (fun _ _ _ h => h) (Or.inl ⟨by rfl, fun W hSw => ?_⟩) hHeld ?_
       rotate_left
       ·(try dsimp only at hSw); go_simp; (try with_reducible rfl)
       (try simp only [Act.put, List.setIfInBounds_toArray, List.set_cons_zero, List.set_cons_succ])
       refine wpAnyH_take (i := 14) (oi := ⟨some 49, .load 3 (.tmp 48), 3, "text.go:126", #[⟨13, .data⟩], none⟩) (v := ?_) rfl (by kernel_rfl) (by kernel_rfl) (by kernel_rfl) (fun _ _ _ h => h) (Or.inl ⟨by rfl, fun W hSw => ?_⟩) hHeld ?_
       rotate_left
       ·(try dsimp only at hSw); go_simp; (try with_reducible rfl)
       (try simp only [Act.put, List.setIfInBounds_toArray, List.set_cons_zero, List.set_cons_succ])
       refine wpAnyH_take (i := 15) (oi := ⟨some 50, .build 26 #[(0, .tmp 43), (1, .tmp 46), (2, .tmp 49)], 26, "text.go:126", #[⟨8, .data⟩, ⟨11, .data⟩, ⟨14, .data⟩], none⟩) (v := ?_) rfl (by kernel_rfl) (by kernel_rfl) (by kernel_rfl) (fun _ _ _ h => h) (Or.inl ⟨by rfl, fun W hSw => ?_⟩) hHeld ?_
       rotate_left
       ·(try dsimp only at hSw); go_simp; (try with_reducible rfl)
       (try simp only [Act.put, List.setIfInBounds_toArray, List.set_cons_zero, List.set_cons_succ])
       refine wpAnyH_take (i := 16) (oi := ⟨some 51, .build 76 #[(0, .tmp 40), (1, .tmp 50)], 76, "text.go:126", #[⟨5, .data⟩, ⟨15, .data⟩], none⟩) (v := ?_) rfl (by kernel_rfl) (by kernel_rfl) (by kernel_rfl) (fun _ _ _ h => h) (Or.inl ⟨by rfl, fun W hSw => ?_⟩) hHeld ?_
       rotate_left
       ·(try dsimp only at hSw); go_simp; (try with_reducible rfl)
       (try simp only [Act.put, List.setIfInBounds_toArray, List.set_cons_zero, List.set_cons_succ])
       refine wpAnyH_ready (rs := [17]) (by kernel_rfl) (by simp) ?_
       refine (AllReadyH.cons (o := ⟨some 6, .alloc 76, 0, "text.go:126", #[], none⟩) rfl (fun K hK => ?_) AllReadyH.nil)
       rw [if_pos (by rfl)]
       refine wp_allocA rfl ?_
       intro gZ WZ hZB hbZ hgZ
       have hgZ0 := Nat.le_trans hHeld.2.size hgZ
       refine hK.out _ _ (kp_step hbZ hHeld) (fun hHeld => ?_)
       clear hK K
       (try simp only [Act.put, List.setIfInBounds_toArray, List.set_cons_zero, List.set_cons_succ])
       refine wpAnyH_ready (rs := [18]) (by kernel_rfl) (by simp) ?_
       refine (AllReadyH.cons (o := ⟨none, .store 76 (.tmp 6) (.tmp 51), 0, "text.go:126", #[⟨17, .data⟩, ⟨16, .data⟩, ⟨0, .phase⟩, ⟨1, .phase⟩, ⟨2, .phase⟩, ⟨3, .phase⟩, ⟨4, .phase⟩, ⟨5, .phase⟩, ⟨6, .phase⟩, ⟨7, .phase⟩, ⟨8, .phase⟩, ⟨9, .phase⟩, ⟨10, .phase⟩, ⟨11, .phase⟩, ⟨12, .phase⟩, ⟨13, .phase⟩, ⟨14, .phase⟩, ⟨15, .phase⟩, ⟨16, .phase⟩, ⟨17, .phase⟩], none⟩) rfl (fun K hK => ?_) AllReadyH.nil)
       rw [if_pos (by rfl)]
       refine wp_store_blk _ _ _ rfl gZ 76 _ _ rfl rfl hZB rfl (by kernel_rfl) (by simp [Value.oneCell']) ?_
       intro W3 hZ3 hg3
       have hbl3 := hHeld.2.grown hg3 hHeld.2.size (by intro k hk; cases hk; exact hgZ0)
       refine hK.out _ _ (kp_of hbl3) (fun hHeld => ?_)
       clear hK K
       refine wpAnyH_done (by kernel_rfl) ?_ _
       refine NoPanic.normal ?_
       go_wp2_with fail
       go_meet
       case rel => exact ⟨gZ, _, _, rfl, hZ3, hrt, hfrt, hgZ0, hbl3⟩
     case rest =>
      obtain ⟨g, A, c, rfl, hG, hrA, hfrA, hg0, hb3⟩ := hcut
      clear hv0' hm0' hm1' hm2' hl01 hl02 hl11 hl12 hl13 hr0 hr1 hab0 hab1
      obtain ⟨m, rfl⟩ : ∃ m, n = m + 4 := ⟨n - 4, by omega⟩
      have hm2a : (0 : Int) ≤ (m : Int) + 2 := by omega
      have hm2b : (2 : Int) ≤ (m : Int) + 2 := by omega
      have hm2c : ((m : Int) + 2).toNat = m + 2 := by omega
      have hm4 : (m : Int) + 4 - 2 = (m : Int) + 2 := by omega
      have hm400 : m ≤ 400 := by omega
      rw [show ((m + 4 : Nat) : Int) = (m : Int) + 4 by push_cast; rfl]
      clear h4 h4i h4d hi1 hi0 hn0 hn1
      obtain ⟨R, gR⟩ : ∃ R, (P.drop 2).take (P.length - 4) = R := ⟨_, rfl⟩
      have HRl := Lib.hid (show R.length = m by rw [← gR, List.length_take, List.length_drop, HN.out]; omega)
      have HRg := Lib.hid (fun j (hj : j < m) => (show R[j]? = P[2 + j]? by rw [← gR, List.getElem?_take, if_pos (by rw [HN.out]; omega), List.getElem?_drop]))
      have HGR := Lib.hid gR
      clear gR
      go_wp2_with fail
      clear hm2a hm2b hm2c hm4
      go_loopw [58] (fun i wx => ∃ (j : Nat) (fs : List Fact) (L : Option Addr) (lc : Nat), j ≤ m ∧ i = .int .i64 j ∧ allFacts (R.take j) = some fs ∧ Blk wx g 76 #[.int .i64 e, .slice A cs.length c, .int .i64 num, .int .i64 den, .int .i64 add, .slice L fs.length lc] ∧ OwnS wx wa.heap.size 69 4 (.slice L fs.length lc) (fs.map Fact.row) ∧ Below wa.heap.size wa wx) (fun i _ => m - (intOf i).toNat)
      case atStart => exact ⟨0, [], none, 0, Nat.zero_le _, rfl, rfl, hG, OwnS.nil _ _ _ _, hb3⟩
      case round =>
       clear hG hb3
       obtain ⟨j, fs, L, lc, hj, rfl, hfs, hG, hown, hbx⟩ := hrel
       have hfl : fs.length = j := by rw [allFacts_len hfs, List.length_take, HRl.out]; omega
       have HFS := Lib.hid hfs
       have hfl4 : fs.length ≤ 400 := by omega
       have HFL := Lib.hid hfl
       clear hfs hfl
       by_cases hlt : j < m
       ·obtain ⟨r, hr⟩ : ∃ r, P[2 + j]? = some r := ⟨_, List.getElem?_eq_getElem (by rw [HN.out]; omega)⟩
        have hcr : wr.cell? ⟨w.heap.size + 1, 2 + j, none⟩ = some (.string ⟨r.toArray⟩) := (hbx.cell (p := ⟨w.heap.size + 1, 2 + j, none⟩) hgR2).trans (HC2.out _ r hr)
        have hgRr : w.heap.size + 1 < wr.heap.size := Nat.lt_of_lt_of_le hgR2 hbx.size
        have hlr : r.length ≤ 1000 := by have := HPS.out r (List.mem_of_getElem? hr); omega
        have HRJ := Lib.hid (show R[j]? = some r by rw [HRg.out j hlt]; exact hr)
        have hji : (j : Int) < (m : Int) := by omega
        clear hr
        go_wp2_with fail
        refine (fact_any r _ hlr (hM2.keep hbx) (hT2.keep hbx)).mono ?_
        rintro e' w5 ht
        rcases ht with ⟨⟨fk, fm, fd, fv⟩, hfB, rfl, hb5⟩ | ⟨hfn, sz, rfl, hb5⟩
        ·have HFB := Lib.hid hfB
         have hG5 := hG.keep hb5
         have hown5 := hown.keep hb5
         have hbx5 := fr_call hbx hb5
         have hcG := fun i => hG5.cell i
         have hfG := fun i => hG5.frozen i
         have hlG := hG5.lt
         have hlm : (fs.map Fact.row).length < 1000000 := by rw [List.length_map]; omega
         have hbx6 := fr_alloc hbx5 (.cells #[.int .i64 fk, .int .i64 fm, .int .i64 fd, .int .i64 fv] 69)
         have hown6 := hown5.keep (fr_alloc (fr_refl w5) (.cells #[.int .i64 fk, .int .i64 fm, .int .i64 fd, .int .i64 fv] 69))
         have hG6 := hG5.alloc (.cells #[.int .i64 fk, .int .i64 fm, .int .i64 fd, .int .i64 fv] 69)
         clear hfB hG hown
         go_wp2_with (at_builtin; refine app_row_at (r := [.int .i64 fk, .int .i64 fm, .int .i64 fd, .int .i64 fv]) rfl (.tmp 65) (.tmp 67) rfl Tryz.underlying27 info_fact rfl (by decide) (by decide) wa.heap.size (w5.heap.size + 1) (by simp) _ _ rfl rfl hown6 rfl (by simp [Value.oneCell']) hlm hbx6.size ?_; intro L2 lc2 wC hownC hgC; have hGC := (hG6.alloc (.cells #[.int .i64 fk, .int .i64 fm, .int .i64 fd, .int .i64 fv] 69)).grown hgC (Ne.symm (own_blk_ne hown6.1 hG6 (by decide))); have hcC := fun i => hGC.cell i; have hfC := fun i => hGC.frozen i; have hlC := hGC.lt)
         have hbxC := (fr_alloc hbx6 (.cells #[.int .i64 fk, .int .i64 fm, .int .i64 fd, .int .i64 fv] 69)).grown hgC (fr_alloc hbx6 _).size hown6.ge
         refine ⟨⟨j + 1, fs ++ [⟨fk, fm, fd, fv⟩], L2, lc2, by omega, by go_num, ?_, ?_, ?_, fr_set hbxC hg0 _⟩, ?_⟩
         ·have hjl : j < R.length := by rw [HRl.out]; exact hlt
          rw [List.take_succ_eq_append_getElem hjl, (List.getElem?_eq_some_iff.1 HRJ.out).2, allFacts_snoc, HFS.out, HFB.out]
         ·have := hGC.set_ 5 (.slice L2 (fs.length + 1) lc2)
          simpa using this
         ·have h5 : OwnS wC wa.heap.size 69 4 (.slice L2 (fs ++ [(⟨fk, fm, fd, fv⟩ : Fact)]).length lc2) ((fs ++ [(⟨fk, fm, fd, fv⟩ : Fact)]).map Fact.row) := by
           simpa [Fact.row] using hownC
          exact ⟨owns_set h5.1 hGC (by decide), h5.2⟩
         ·simp [intOf]; omega
        ·exact ⟨rfl, Or.inr ⟨HD.out.trans (dreadP_facts (by rw [HGR.out]; exact allFacts_fail HRJ.out hfn)), sz, rfl, fr_call hf2 (fr_call hbx hb5)⟩⟩
       ·obtain rfl : j = m := by omega
        have hfsR : allFacts R = some fs := by have := HFS.out; rw [List.take_of_length_le (by rw [HRl.out]; exact Nat.le_refl _)] at this; exact this
        have HFR := Lib.hid hfsR
        have hok := allFacts_ok R fs hfsR
        have hcs := (told_some HT0.out).1
        have hmo := (told_some HT1.out).1
        have HCS := Lib.hid hcs
        have HMO := Lib.hid hmo
        have HOK := Lib.hid hok
        have hcl : cs.length ≤ 400 := by
         have h1 := congrArg List.length (told_some HT0.out).2
         have h2 := pieces_len 32 p0
         rw [List.length_tail, List.length_map, List.length_cons] at h1
         omega
        clear hfsR hok hcs hmo
        have hcG := fun i => hG.cell i
        have hfG := fun i => hG.frozen i
        have hlG := hG.lt
        go_wp2_with fail
        refine (text_gen A L cs.length c lc cs e num den add fs _ (hrA.keep hbx) hcl (fun x hx => ⟨(HCS.out x hx).1, by have := (HCS.out x hx).2; omega⟩) (fun x hx => ⟨(HMO.out x hx).1, by have := (HMO.out x hx).2; omega⟩) hown.rd hfl4 (fun f hf => (fact_ok_small (HOK.out f hf)).1) (fun f hf => (fact_ok_small (HOK.out f hf)).2) (hT2.keep hbx)).mono ?_
        obtain ⟨T, gT⟩ : ∃ T, textB (almRows e cs num den add fs) = T := ⟨_, rfl⟩
        rw [gT]
        have GT := Lib.hid gT
        clear gT
        rintro e' w6 ⟨rfl, hb6⟩
        have hG6 := hG.keep hb6
        have hbx6 := fr_call hbx hb6
        have hcG6 := fun i => hG6.cell i
        have hfG6 := fun i => hG6.frozen i
        have hlG6 := hG6.lt
        have hR6 := hR2.keep hbx6
        clear hcG hfG hlG
        by_cases hTs : T = s
        ·have hq1 : (T == s) = true := beq_iff_eq.2 hTs
         have HTS := Lib.hid hTs
         clear hTs
         go_wp2_with fail
         refine (sure_yes _ _).mono ?_
         rintro e' w' ⟨rfl, rfl⟩
         go_wp2_with (refine wpList_store_blk rfl _ _ _ rfl w.heap.size 76 _ _ rfl rfl hR6 rfl (by kernel_rfl) (by simp [Value.oneCell']) ?_; intro W7 hR7 hg7)
         have hf7 : Below w.heap.size w W7 := (fr_call hf2 hbx6).grown hg7 (fr_call hf2 hbx6).size (by intro k hk; cases hk; exact Nat.le_refl _)
         refine bodyPost_ret (results_blk1 rfl _ _ _ _ rfl hR7 Tryz.underlying76 rfl (by kernel_rfl)) rfl (Or.inl ⟨⟨e, cs, num, den, add, fs⟩, A, c, L, lc, ?_, rfl, ?_, ?_, fun ad h => by have := hfrA ad h; omega, fun ad h => by have := hown.fresh ad h; omega, ⟨hcl, hfl4⟩, hf7⟩)
         ·rw [HD.out]
          exact dreadP_of (by rw [HN.out]; omega) (by rw [HP0.out]; exact HT0.out) (by rw [HP1.out]; exact HT1.out) (by rw [HGR.out]; exact HFR.out) (by rw [GT.out]; exact HTS.out)
         ·exact ((hrA.keep hbx6)).far hg7 (fun ad h => by have := hfrA ad h; omega)
         ·exact ((hown.keep hb6).far hg7 (by omega)).rd
        ·have hq1 : (T == s) = false := beq_eq_false_iff_ne.2 hTs
         go_wp2_with fail
         refine (sure_no _ _).mono ?_
         rintro e' w' ⟨rfl, rfl⟩
         exact ⟨rfl, Or.inr ⟨HD.out.trans (dreadP_text (by rw [HP0.out]; exact HT0.out) (by rw [HP1.out]; exact HT1.out) (by rw [HGR.out]; exact HFR.out) (by rw [GT.out]; exact hTs)), _, rfl, fr_call hf2 hbx6⟩⟩
    ·have d3 : ((xs1.length : Int) == 3) = false := beq_eq_false_iff_ne.2 (by omega)
     go_wp2_with fail
     refine (sure_no _ _).mono ?_
     rintro e' w' ⟨rfl, rfl⟩
     exact ⟨rfl, Or.inr ⟨HD.out.trans (dreadP_n1 (by rw [HP1.out]; exact HT1.out) h3), _, rfl, hf2⟩⟩
end Go.Proofs.YthjblcboainknaaGreatDoor
