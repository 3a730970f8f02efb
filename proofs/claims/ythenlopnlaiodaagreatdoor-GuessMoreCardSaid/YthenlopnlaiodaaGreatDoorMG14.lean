/- Plain: what two trains have in common. Walk: slices.Delete of one number of a row of the call's own. Walk: guess, what two trains have in common. Plain: what is known of the wheels. Walk: guess, Known. Walk: guess, Alike, its parts. Plain: the inventory of a find; what is read of a text. -/
import Derived.Test.YthenlopnlaiodaaGreatDoorMG10
import Derived.Test.YthenlopnlaiodaaGreatDoorMG3
import Derived.Lib.SlicesCompact
import Derived.Lib.SliceRun
import Derived.Deep.RegionLaw
import Derived.Shelf.RegionOpenPlain
import Derived.Deep.LoopGhost
import Derived.ScopeJumps
import Derived.WalkMore
import Derived.StillTailTactics
import Derived.Test.YthenlopnlaiodaaGreatDoorMG13
import Derived.Test.YthenlopnlaiodaaGreatDoorMG1
section
namespace Go.Proofs.YthenlopnlaiodaaGreatDoor
open Go.RowKit Go.Shelf

/-- how many wheels two trains have in common -/
def comL : List Int → List Int → Nat
 | [], _ => 0
 | x :: a, l => if x ∈ l then comL a (l.erase x) + 1 else comL a l
end Go.Proofs.YthenlopnlaiodaaGreatDoor
end

section
namespace Go.Proofs.YthenlopnlaiodaaGreatDoor
open Go.RowKit Go.Shelf

theorem setCells_lay {g : Nat} {t : TypeId} : ∀ (vs : List Value) (o : Nat) (w : World) (cs : Array Value), Blk w g t cs → Blk (w.setCells g o vs) g t (Lib.lay cs o vs)
 | [], _, _, _, h => h
 | v :: r, o, w, _, h => setCells_lay r (o + 1) (w.setCell ⟨g, o, none⟩ v) _ (h.set_ o v)
theorem lay_sz : ∀ (vs : List Value) (d : Array Value) (k : Nat), (Lib.lay d k vs).size = d.size
 | [], _, _ => rfl
 | x :: r, d, k => by rw [Lib.lay, lay_sz r]; simp
theorem wp_app_room {P : Program} {o : Oper} {a : Act} {w : World} {K : Act → World → Prop} {Q : Exit → Act → World → Prop}
  (hg : o.guard = none) (s x : Operand) (t : TypeId) (hop : o.op = .call { callee := .builtin .append, args := #[s, x], argTypes := #[t, t] })
  (e : TypeId) (i : TypeInfo) (size : Nat) (h1 : P.underlying t = some (.slice e)) (h2 : P.info? e = some i) (h4 : i.size = size)
  (b off n cap : Nat) (hs : a.eval s = .slice (some ⟨b, off, none⟩) n cap)
  (ad : Addr) (m c : Nat) (news : List Value) (hx : a.eval x = .slice (some ad) m c) (hn : news.length = m * size) (hc : ∀ j u, news[j]? = some u → w.cell? (ad.add j) = some u) (h1c : ∀ u ∈ news, u.oneCell' = true)
  (hroom : n + m ≤ cap) (hspare : ∀ j, j < news.length → (w.cell? ⟨b, off + n * size + j, none⟩).isSome = true ∧ w.frozen? ⟨b, off + n * size + j, none⟩ = false)
  (hK : K (a.put o.dst (.slice (some ⟨b, off, none⟩) (n + m) cap)) (w.setCells b (off + n * size) news)) : o.wp P a w K Q := by
 have h := step_append_room (P := P) (ops := #[]) (o := o) (a := a) (w := w) (K := K) (Q := Q) (E := True) hg s x t hop e i size h1 h2 h4 b off n cap hs ad m c news hx hn hc h1c hroom hspare hK
 rwa [if_pos (by simp [Region.wanted, hg])] at h
set_option maxRecDepth 100000 in
set_option maxHeartbeats 4000000 in
theorem delete_own (g n cap i j base : Nat) (xs : List Int) (w : World) (hown : Own w base (.slice (some ⟨g, 0, none⟩) n cap) xs) (hj : j = i + 1) (hi : i < n) (hn : n ≤ 1000) :
  Calls Tryz.prog 142 #[.slice (some ⟨g, 0, none⟩) n cap, .int .i64 (i : Int), .int .i64 (j : Int)] w fun e w' => e = .returned (.slice (some ⟨g, 0, none⟩) (n - 1) cap) ∧ Own w' base (.slice (some ⟨g, 0, none⟩) (n - 1) cap) (xs.eraseIdx i) ∧ w.grownBy w' (some g) := by
 obtain ⟨i0, hi0, hz0, hz1, hz2⟩ := info_parts info_int
 have hlen := hown.rd.len
 rcases hown.2 with ⟨h1, _⟩ | ⟨g', cap', cur, hv, hb, hh, hnc, hcm, hcs, hct⟩
 ·cases h1
 injection hv with e1 e2 e3
 have e1 := Option.some.inj e1
 injection e1 with e1
 subst e1
 subst e3
 have hB : Blk w g 3 cur := hh
 rw [Nat.mul_one] at hcs
 have hcell : ∀ t, t < n → cur[t]? = some (.int .i64 (xs[t]?.getD 0)) := fun t ht => by
  have h1 : (cur.toList.take (xs.length * 1))[t]? = (xs.map (Value.int .i64))[t]? := by rw [hct]
  rw [List.getElem?_take, if_pos (by omega), List.getElem?_map, Array.getElem?_toList] at h1
  rw [h1, List.getElem?_eq_getElem (by omega)]
  rfl
 obtain ⟨news, hnews⟩ : ∃ news, news = (xs.drop j).map (Value.int .i64) := ⟨_, rfl⟩
 have hnl : news.length = n - j := by rw [hnews]; simp; omega
 have hnget : ∀ t, t < n - j → news[t]? = some (.int .i64 (xs[j + t]?.getD 0)) := fun t ht => by
  rw [hnews, List.getElem?_map, List.getElem?_drop, List.getElem?_eq_getElem (by omega)]
  rfl
 obtain ⟨A, hA, hsrc⟩ : ∃ A : Addr, (if cap = j then (some ⟨g, 0, none⟩ : Option Addr) else some ⟨g, j, none⟩) = some A ∧ Hid (∀ t u, news[t]? = some u → w.drew.cell? (A.add t) = some u) := by
  by_cases h : cap = j
  ·refine ⟨⟨g, 0, none⟩, by simp [h], fun t u hu => ?_⟩
   rw [List.eq_nil_of_length_eq_zero (by rw [hnl]; omega : news.length = 0)] at hu
   simp at hu
  ·refine ⟨⟨g, j, none⟩, by simp [h], fun t u hu => ?_⟩
   have ht : t < n - j := by
    have := (List.getElem?_eq_some_iff.1 hu).1
    rwa [hnl] at this
   rw [hnget t ht] at hu
   rw [add_lit, ← hu, ← hcell (j + t) (by omega)]
   exact hB.cell (j + t)
 have s1 : Hid (news.length = (n - j) * 1) := by rw [Nat.mul_one]; exact hnl
 have s2 : Hid (∀ u ∈ news, u.oneCell' = true) := by
  intro u hu
  rw [hnews] at hu
  obtain ⟨x, _, rfl⟩ := List.mem_map.1 hu
  rfl
 have s3 : Hid (∀ t, t < news.length → (w.drew.cell? ⟨g, 0 + i * 1 + t, none⟩).isSome = true ∧ w.drew.frozen? ⟨g, 0 + i * 1 + t, none⟩ = false) := by
  intro t ht
  rw [hnl] at ht
  refine ⟨?_, hB.frozen _⟩
  have := hB.cell (0 + i * 1 + t)
  rw [show cur[0 + i * 1 + t]? = _ from hcell _ (by omega)] at this
  show (w.cell? _).isSome = true
  rw [this]; rfl
 obtain ⟨W1, hW1⟩ : ∃ W1, W1 = w.drew.setCells g (0 + i * 1) news := ⟨_, rfl⟩
 have hB1 : Blk W1 g 3 (Lib.lay cur (0 + i * 1) news) := by rw [hW1]; exact setCells_lay _ _ _ _ hB.drew
 have hz : ∀ w, (zeroValue 3).run Tryz.prog w = .ok (.int .i64 0) w := fun w => by kernel_rfl
 have hcl : ∀ ty, (Builtin.clear_ #[113] ty #[.slice (some ⟨g, i + (n - j), none⟩) (n - (i + (n - j))) (cap - (i + (n - j)))]).run Tryz.prog W1 = .ok (.tuple #[]) (W1.setCells g (i + (n - j)) (List.replicate (n - (i + (n - j))) (.int .i64 0))) :=
  fun ty => Lib.run_clear_slice W1 _ _ ty _ Tryz.underlying113 hz rfl rfl g (i + (n - j)) _ _ (by omega) (fun t ht => by rw [hB1.cell, Array.getElem?_eq_getElem (by rw [lay_sz]; omega)]; rfl) (fun t ht => hB1.frozen _)
 have hB2 := setCells_lay (List.replicate (n - (i + (n - j))) (.int .i64 0)) (i + (n - j)) W1 _ hB1
 have hg2 : w.grownBy (W1.setCells g (i + (n - j)) (List.replicate (n - (i + (n - j))) (.int .i64 0))) (some g) := by
  have h1 := setCells_grown (g := g) news (0 + i * 1) w.drew
  rw [← hW1] at h1
  have h2 := setCells_grown (g := g) (List.replicate (n - (i + (n - j))) (Value.int .i64 0)) (i + (n - j)) W1
  exact ⟨h2.os.trans h1.os, h2.tape.trans h1.tape, h2.output.trans h1.output, Nat.le_trans h1.size h2.size, fun k hk hne => (h2.block k (Nat.lt_of_lt_of_le hk h1.size) hne).trans (h1.block k hk hne)⟩
 have hfin : Own (W1.setCells g (i + (n - j)) (List.replicate (n - (i + (n - j))) (.int .i64 0))) base (.slice (some ⟨g, 0, none⟩) (n - 1) cap) (xs.eraseIdx i) := by
  have hel : (xs.eraseIdx i).length = n - 1 := by rw [List.length_eraseIdx]; split <;> omega
  unfold Own
  rw [hel]
  refine ⟨by rw [List.length_map, hel]; omega, Or.inr ⟨g, cap, _, rfl, hb, hB2, by omega, hcm, ?_, ?_⟩⟩
  ·rw [lay_sz, lay_sz, hcs, Nat.mul_one]
  ·apply List.ext_getElem?
   intro t
   rw [List.getElem?_take, Array.getElem?_toList]
   by_cases ht : t < n - 1
   ·rw [if_pos (by omega), Lib.lay_get? _ _ _ _ (by rw [lay_sz, List.length_replicate]; omega), if_neg (by omega), Lib.lay_get? _ _ _ _ (by rw [hnl]; omega), List.getElem?_map, List.getElem?_eraseIdx]
    by_cases hti : t < i
    ·rw [if_neg (by omega), if_pos hti, hcell t (by omega), List.getElem?_eq_getElem (by omega)]
     rfl
    ·have e5 : j + (t - (0 + i * 1)) = t + 1 := by omega
     rw [if_pos (by rw [hnl]; omega), if_neg hti, hnget _ (by omega), e5, List.getElem?_eq_getElem (by omega)]
     rfl
   ·rw [if_neg (by omega), List.getElem?_eq_none (by rw [List.length_map, hel]; omega)]
 have HW : Hid (W1 = w.drew.setCells g (0 + i * 1) news) := hW1
 have HFIN := Lib.hid hfin
 have HG2 := Lib.hid hg2
 have hic : i ≤ cap := by omega
 have hjc : j ≤ cap := by omega
 have hin : i ≤ n := by omega
 have hncap : n ≤ cap := by omega
 have hjn : j ≤ n := by omega
 have hij : i ≤ j := by omega
 have hne : ((i : Int) == (j : Int)) = false := beq_eq_false_iff_ne.2 (by omega)
 have HJ := Lib.hid hj
 have hcn : ¬ cap = i + (n - j) := by omega
 clear hB hcell hnews hnl hnget hW1 hB1 hB2 hg2 hfin hown hh hct hz hj hlen hcs e2
 go_enter Tryz.func142, Tryz.ntmps142
 go_wp2_with fail
 refine wp_region_noPanic ?_
 refine wp_region_held_drew (S := fun _ => True) (by kernel_rfl) trivial (fun hHeld => ?_)
 -- the region, step by step, in whatever order
 refine wpAnyH_take (i := 0) (oi := ⟨some 20, .move (.tmp 0), 113, "slices.go:232", #[], none⟩) (v := ?_) rfl (by kernel_rfl) (by kernel_rfl) (by kernel_rfl) (fun _ _ _ h => h) (Or.inl ⟨by rfl, fun W hSw => ?_⟩) hHeld ?_
 rotate_left
 ·(try dsimp only at hSw); go_simp; (try with_reducible rfl)
 (try simp only [Act.put, List.setIfInBounds_toArray, List.set_cons_zero, List.set_cons_succ])
 refine wpAnyH_take (i := 1) (oi := ⟨some 21, .move (.tmp 1), 3, "slices.go:232", #[], none⟩) (v := ?_) rfl (by kernel_rfl) (by kernel_rfl) (by kernel_rfl) (fun _ _ _ h => h) (Or.inl ⟨by rfl, fun W hSw => ?_⟩) hHeld ?_
 rotate_left
 ·(try dsimp only at hSw); go_simp; (try with_reducible rfl)
 (try simp only [Act.put, List.setIfInBounds_toArray, List.set_cons_zero, List.set_cons_succ])
 refine wpAnyH_take (i := 2) (oi := ⟨some 22, .slice 113 (.tmp 20) none (some (.tmp 21)) none, 113, "slices.go:232", #[⟨0, .data⟩, ⟨1, .data⟩], none⟩) (v := ?_) rfl (by kernel_rfl) (by kernel_rfl) (by kernel_rfl) (fun _ _ _ h => h) (Or.inl ⟨by rfl, fun W hSw => ?_⟩) hHeld ?_
 rotate_left
 ·(try dsimp only at hSw); go_simp; (try with_reducible rfl)
 (try simp only [Act.put, List.setIfInBounds_toArray, List.set_cons_zero, List.set_cons_succ])
 refine wpAnyH_take (i := 3) (oi := ⟨some 23, .move (.tmp 0), 113, "slices.go:232", #[], none⟩) (v := ?_) rfl (by kernel_rfl) (by kernel_rfl) (by kernel_rfl) (fun _ _ _ h => h) (Or.inl ⟨by rfl, fun W hSw => ?_⟩) hHeld ?_
 rotate_left
 ·(try dsimp only at hSw); go_simp; (try with_reducible rfl)
 (try simp only [Act.put, List.setIfInBounds_toArray, List.set_cons_zero, List.set_cons_succ])
 refine wpAnyH_take (i := 4) (oi := ⟨some 24, .move (.tmp 2), 3, "slices.go:232", #[], none⟩) (v := ?_) rfl (by kernel_rfl) (by kernel_rfl) (by kernel_rfl) (fun _ _ _ h => h) (Or.inl ⟨by rfl, fun W hSw => ?_⟩) hHeld ?_
 rotate_left
 ·(try dsimp only at hSw); go_simp; (try with_reducible rfl)
 (try simp only [Act.put, List.setIfInBounds_toArray, List.set_cons_zero, List.set_cons_succ])
 refine wpAnyH_take (i := 5) (oi := ⟨some 25, .slice 113 (.tmp 23) (some (.tmp 24)) none none, 113, "slices.go:232", #[⟨3, .data⟩, ⟨4, .data⟩], none⟩) (v := ?_) rfl (by kernel_rfl) (by kernel_rfl) (by kernel_rfl) (fun _ _ _ h => h) (Or.inl ⟨by rfl, fun W hSw => ?_⟩) hHeld ?_
 rotate_left
 ·(try dsimp only at hSw); go_simp; (try with_reducible rfl)
 (try simp only [Act.put, List.setIfInBounds_toArray, List.set_cons_zero, List.set_cons_succ])
 refine wpAnyH_ready (rs := [6]) (by kernel_rfl) (by simp) ?_
 refine (AllReadyH.cons (o := ⟨some 26, .call { callee := .builtin .append, args := #[.tmp 22, .tmp 25], argTypes := #[113, 113] }, 113, "slices.go:232", #[⟨2, .data⟩, ⟨5, .data⟩], none⟩) rfl (fun K hK => ?_) AllReadyH.nil)
 rw [if_pos (by rfl)]
 refine wp_app_room rfl (.tmp 22) (.tmp 25) 113 rfl 3 i0 1 Tryz.underlying113 hi0 hz1 g 0 i cap (by simp [Act.eval]) A (n - j) (cap - j) news (by simp [Act.eval]) s1.out hsrc.out s2.out (by omega) s3.out ?_
 rw [← HW.out]
 refine hK.out _ _ (trivial) (fun hHeld => ?_)
 clear hK K
 (try simp only [Act.put, List.setIfInBounds_toArray, List.set_cons_zero, List.set_cons_succ])
 refine wpAnyH_take (i := 7) (oi := ⟨some 0, .assign (.tmp 26), 113, "slices.go:232", #[⟨6, .data⟩, ⟨6, .chain⟩, ⟨0, .phase⟩, ⟨1, .phase⟩, ⟨2, .phase⟩, ⟨3, .phase⟩, ⟨4, .phase⟩, ⟨5, .phase⟩, ⟨6, .phase⟩], none⟩) (v := ?_) rfl (by kernel_rfl) (by kernel_rfl) (by kernel_rfl) (fun _ _ _ h => h) (Or.inl ⟨by rfl, fun W hSw => ?_⟩) hHeld ?_
 rotate_left
 ·(try dsimp only at hSw); go_simp; (try with_reducible rfl)
 (try simp only [Act.put, List.setIfInBounds_toArray, List.set_cons_zero])
 refine wpAnyH_done (by kernel_rfl) ?_ _
 refine NoPanic.normal ?_
 go_wp2_with fail
 go_ret
 have e4 : i + (n - j) = n - 1 := by have := HJ.out; omega
 exact ⟨by rw [← e4]; rfl, HFIN.out, HG2.out⟩
end Go.Proofs.YthenlopnlaiodaaGreatDoor
end

section
namespace Go.Proofs.YthenlopnlaiodaaGreatDoor
open Go.RowKit Go.Shelf
attribute [local go_sem] Oper.semAt_some

theorem erase_at {x : Int} : ∀ {xs : List Int} {j : Nat}, (∀ q, q < j → xs[q]?.getD 0 ≠ x) → (h : j < xs.length) → xs[j] = x → x ∈ xs ∧ xs.erase x = xs.eraseIdx j
 | [], j, _, h, _ => absurd h (by simp)
 | y :: xs, 0, _, _, h2 => by
  have h2 : y = x := h2
  subst h2
  simp
 | y :: xs, j + 1, h1, h, h2 => by
  have hy : y ≠ x := h1 0 (by omega)
  have ih := erase_at (xs := xs) (j := j) (fun q hq => h1 (q + 1) (by omega)) (by simpa using h) h2
  refine ⟨List.mem_cons_of_mem _ ih.1, ?_⟩
  rw [List.erase_cons_tail (by simpa using hy), ih.2]
  rfl
theorem not_in {x : Int} {xs : List Int} (h : ∀ q, q < xs.length → xs[q]?.getD 0 ≠ x) : ¬ x ∈ xs := fun hm => by
 obtain ⟨q, hq, rfl⟩ := List.getElem_of_mem hm
 exact h q hq (by simp [hq])
theorem comL_in {x : Int} {a l : List Int} (h : x ∈ l) : comL (x :: a) l = comL a (l.erase x) + 1 := by rw [comL, if_pos h]
theorem comL_out {x : Int} {a l : List Int} (h : ¬ x ∈ l) : comL (x :: a) l = comL a l := by rw [comL, if_neg h]
theorem comL_le : ∀ (a l : List Int), comL a l ≤ a.length
 | [], _ => Nat.le_refl _
 | x :: a, l => by
  rw [comL]
  split
  ·have := comL_le a (l.erase x); simp; omega
  ·have := comL_le a l; simp; omega
set_option maxRecDepth 100000 in
set_option maxHeartbeats 8000000 in
theorem common_any (A B : Option Addr) (n ac m bc : Nat) (a b : List Int) (w : World) (ha : Rd w A n a) (hb : Rd w B m b) (hn : n ≤ 6) (hm : 0 < m) (hm6 : m ≤ 6) :
  Calls Tryz.prog 77 #[.slice A n ac, .slice B m bc] w fun e w' => e = .returned (.int .i64 (comL a b : Nat)) ∧ Below w.heap.size w w' := by
 have hal := ha.len
 have hbl := hb.len
 go_enter Tryz.func77, Tryz.ntmps77
 go_wp2_with fail
 go_step3
 go_wp2_with fail
 refine (clone_any B m bc b w hb (Or.inl hm) (by omega)).mono ?_
 rintro e w1 ⟨C, cc, rfl, hO, hb1⟩
 obtain ⟨g, cap, hC⟩ : ∃ g cap, Value.slice C b.length cc = .slice (some ⟨g, 0, none⟩) b.length cap := by
  rcases hO.2 with ⟨h1, h2⟩ | ⟨g, cap, cur, hv, _⟩
  ·omega
  ·exact ⟨g, cap, hv⟩
 rw [hC] at hO ⊢
 have HBL := Lib.hid hbl
 have HAL := Lib.hid hal
 clear hbl hal hC
 go_wp2_with fail
 go_step3
 go_wp2_with fail
 go_loopg [5, 6, 15] n (fun gh v c i wr => ∃ (k : Nat) (xs : List Int) (q : Nat), k + gh = n ∧ i = .int .i64 k ∧ v = .slice (some ⟨g, 0, none⟩) xs.length cap ∧ c = .int .i64 q ∧ Own wr w.heap.size v xs ∧ xs.length ≤ 6 ∧ q ≤ k ∧ q + comL (a.drop k) xs = comL a b ∧ Below w.heap.size w wr)
 case atStart => exact ⟨0, b, 0, Nat.zero_add _, rfl, rfl, rfl, hO, by rw [HBL.out]; exact hm6, Nat.le_refl _, by simp, hb1⟩
 case round =>
  obtain ⟨k, xs, q, hk, rfl, rfl, rfl, hOr, hx6, hqk, hq, hbr⟩ := hrel
  clear hO hb1
  cases gk with
  | zero =>
   obtain rfl : k = n := by omega
   have hd : a.drop k = [] := List.drop_of_length_le (by rw [HAL.out]; exact Nat.le_refl _)
   rw [hd] at hq
   have HQ := Lib.hid hq
   clear hq hd
   go_wp2_with fail
   rw [Exit.noGoto_ret]
   go_ret
   refine ⟨?_, hbr⟩
   have := HQ.out
   simp only [comL, Nat.add_zero] at this
   rw [this]
   rfl
  | succ gn =>
   have hlt : k < n := by omega
   obtain ⟨ad, rfl, hab, hca⟩ := (ha.keep hbr).at_ hlt
   have hdr : a.drop k = (a[k]?.getD 0) :: a.drop (k + 1) := by
    have h1 : k < a.length := by rw [HAL.out]; exact hlt
    rw [List.drop_eq_getElem_cons h1, List.getElem?_eq_getElem h1]
    rfl
   rw [hdr] at hq
   have HQ := Lib.hid hq
   obtain ⟨x, hx⟩ : ∃ x, a[k]?.getD 0 = x := ⟨_, rfl⟩
   rw [hx] at HQ hca
   have hrx := hOr.rd
   clear hdr hq hx
   obtain ⟨m2, hm2⟩ : ∃ m2, xs.length = m2 := ⟨_, rfl⟩
   have HM2 := Lib.hid hm2
   rw [hm2] at hOr hrx hx6 ⊢
   clear hm2
   go_wp2_with fail
   go_loopg [5, 6, 21] m2 (fun gi v c i wq => ∃ j : Nat, j + gi = m2 ∧ i = .int .i64 j ∧ v = .slice (some ⟨g, 0, none⟩) m2 cap ∧ c = .int .i64 q ∧ Hid (∀ p, p < j → xs[p]?.getD 0 ≠ x) ∧ wq = wr)
   case atStart => exact ⟨0, Nat.zero_add _, rfl, rfl, rfl, Lib.hid (fun p hp => absurd hp (by omega)), rfl⟩
   case round =>
    obtain ⟨j, hj, rfl, rfl, rfl, hno, rfl⟩ := hrel
    cases gk with
    | zero =>
     obtain rfl : j = m2 := by omega
     go_wp2_with fail
     go_roundg gn
     case measure => omega
     case rel =>
      have hn' : ¬ x ∈ xs := not_in (by rw [HM2.out]; exact hno.out)
      have := HQ.out
      rw [comL_out hn'] at this
      exact ⟨k + 1, xs, q, by omega, by go_num, by rw [HM2.out], rfl, hOr, by rw [HM2.out]; exact hx6, by omega, this, hbr⟩
    | succ gj =>
     have hjl : j < m2 := by omega
     obtain ⟨ae, e, _, hcj⟩ := hrx.at_ hjl
     cases e
     rw [add_lit, Nat.zero_add] at hcj
     have hy : xs[j]? = some (xs[j]?.getD 0) := by rw [List.getElem?_eq_getElem (by rw [HM2.out]; exact hjl)]; rfl
     have HY := Lib.hid hy
     clear hy
     generalize xs[j]?.getD 0 = y at *
     by_cases hxy : y = x
     ·subst hxy
      have hdel := delete_own g m2 cap j (j + 1) w.heap.size xs _ hOr rfl hjl (by omega)
      rw [show ((j + 1 : Nat) : Int) = (j : Int) + 1 by omega] at hdel
      go_wp2_with fail
      refine hdel.mono ?_
      rintro e w3 ⟨rfl, hO3, hg3⟩
      have hge : w.heap.size ≤ g := (World.ownsRow.lt hOr g rfl).1
      have hb3 := hbr.grown hg3 hbr.size (by intro i hi; cases hi; exact hge)
      have her : y ∈ xs ∧ xs.erase y = xs.eraseIdx j := erase_at hno.out (by rw [HM2.out]; exact hjl) (by have := HY.out; rw [List.getElem?_eq_getElem (by rw [HM2.out]; exact hjl)] at this; exact Option.some.inj this)
      have hcm := HQ.out
      rw [comL_in her.1, her.2] at hcm
      have hel : (xs.eraseIdx j).length = m2 - 1 := by rw [List.length_eraseIdx, HM2.out]; split <;> omega
      have HCM := Lib.hid hcm
      have HEL := Lib.hid hel
      clear hcm hel her hOr hrx hdel hcj
      go_wp2_with fail
      go_roundg gn
      case measure => omega
      case rel => exact ⟨k + 1, xs.eraseIdx j, q + 1, by omega, by go_num, by rw [HEL.out], by go_num, hO3, by rw [HEL.out]; omega, by omega, by have := HCM.out; omega, hb3⟩
     ·have hne : (y == x) = false := beq_eq_false_iff_ne.2 hxy
      go_wp2_with fail
      go_roundg gj
      case measure => omega
      case rel =>
       refine ⟨j + 1, by omega, by go_num, rfl, rfl, Lib.hid (fun p hp => ?_), rfl⟩
       by_cases hpj : p = j
       ·rw [hpj, HY.out]; exact hxy
       ·exact hno.out p (by omega)
end Go.Proofs.YthenlopnlaiodaaGreatDoor
end

section
namespace Go.Proofs.YthenlopnlaiodaaGreatDoor
open Go.RowKit Go.Shelf

def spanStep (i : Nat) (s : Wh) (t : List Int) : Wh := ⟨min s.lo (t[i]?.getD 0), max s.hi (t[i]?.getD 0)⟩
def spanK (ts : List (List Int)) (i k : Nat) : Wh := (ts.take k).foldl (spanStep i) ⟨(ts[0]?.getD [])[i]?.getD 0, (ts[0]?.getD [])[i]?.getD 0⟩
theorem spanK_zero (ts : List (List Int)) (i : Nat) : spanK ts i 0 = ⟨(ts[0]?.getD [])[i]?.getD 0, (ts[0]?.getD [])[i]?.getD 0⟩ := rfl
theorem spanK_succ (ts : List (List Int)) (i k : Nat) (h : k < ts.length) : spanK ts i (k + 1) = spanStep i (spanK ts i k) ts[k] := by
 unfold spanK
 rw [List.take_succ_eq_append_getElem h, List.foldl_append]
 rfl
def knownL (ts : List (List Int)) (n : Nat) : List Wh := (List.range n).map (fun i => spanK ts i ts.length)
theorem knownL_len (ts : List (List Int)) (n : Nat) : (knownL ts n).length = n := by simp [knownL]
theorem knownL_succ (ts : List (List Int)) (n : Nat) : knownL ts (n + 1) = knownL ts n ++ [spanK ts n ts.length] := by simp [knownL, List.range_succ]
end Go.Proofs.YthenlopnlaiodaaGreatDoor
end

section
namespace Go.Proofs.YthenlopnlaiodaaGreatDoor
open Go.RowKit Go.Shelf
attribute [local go_sem] Oper.semAt_some

theorem span_zero (w : World) : (zeroValue 47).run Tryz.prog w = .ok (.agg #[.int .i64 0, .int .i64 0]) w := by kernel_rfl
theorem info_span : (Tryz.prog.info? 47).map (fun i => (i.zero, i.size, i.bytes)) = some (some (.agg #[.int .i64 0, .int .i64 0]), 2, 16) := by kernel_rfl
theorem guess_lens {ws : List Wh} {ns : List Note} : ∀ t ∈ guessL ws ns, t.length = ws.length := fun t ht => ((mem_allT ws t).1 (List.mem_filter.1 ht).1).len
set_option maxRecDepth 100000 in
set_option maxHeartbeats 8000000 in
theorem Known_none (A N : Option Addr) (wc nc : Nat) (ws : List Wh) (ns : List Note) (w : World) (hf : FindAt w A N ws ns) (hv : FindOk ws ns) (h0 : guessL ws ns = []) :
  Calls Tryz.prog 18 #[.agg #[.slice A ws.length wc, .slice N ns.length nc]] w (RetPE w 7 []) := by
 have hb0 := fr_alloc (fr_refl w) (.cells #[.slice A ws.length wc, .slice N ns.length nc] 25)
 replace hf := hf.keep hb0
 have hask := asked_nil A N wc nc ws ns _ hf hv h0
 clear h0
 go_enter Tryz.func18, Tryz.ntmps18
 go_wp2_with fail
 refine hask.mono ?_
 rintro e w1 ⟨rfl, hb1⟩
 go_wp2_with fail
 go_ret2
 exact ⟨none, 0, rfl, fun hn => absurd hn (by simp), fr_alloc (fr_call hb0 hb1) _⟩
set_option maxRecDepth 100000 in
set_option maxHeartbeats 8000000 in
theorem Known_some (A N : Option Addr) (wc nc : Nat) (ws : List Wh) (ns : List Note) (w : World) (hf : FindAt w A N ws ns) (hv : FindOk ws ns) (ts : List (List Int)) (hts : guessL ws ns = ts) (h0 : ¬ ts = []) :
  Calls Tryz.prog 18 #[.agg #[.slice A ws.length wc, .slice N ns.length nc]] w (RetPE w 0 (knownL ts ws.length)) := by
 have hb0 := fr_alloc (fr_refl w) (.cells #[.slice A ws.length wc, .slice N ns.length nc] 25)
 have hX := Blk.new w 25 #[.slice A ws.length wc, .slice N ns.length nc]
 replace hf := hf.keep hb0
 have hlens := guess_lens (ws := ws) (ns := ns)
 have hmany := guess_many hv
 have hask := asked_some A N wc nc ws ns _ hf hv (by rw [hts]; exact h0)
 rw [hts] at hask hlens hmany
 have hs6 := hv.six
 have hpos : 0 < ts.length := List.length_pos_iff.2 h0
 clear hts h0
 generalize hnw : ws.length = n at *
 have HNW := Lib.hid hnw
 clear hnw
 go_enter Tryz.func18, Tryz.ntmps18
 go_wp2_with fail
 refine hask.mono ?_
 rintro e w1 ⟨L, lc, rfl, hL, hb1⟩
 replace hX := hX.keep hb1
 replace hb0 := fr_call hb0 hb1
 have hT0 := hL.ts
 clear hL hask
 have hbG := fr_alloc (fr_refl w1) (.cells #[.slice A n wc, .slice N ns.length nc, .slice L ts.length lc] 110)
 have hG := Blk.new w1 110 #[.slice A n wc, .slice N ns.length nc, .slice L ts.length lc]
 replace hX := hX.keep hbG
 have hT := hT0.keep hbG
 replace hb0 := fr_call hb0 hbG
 clear hT0
 have hcX := fun j => hX.cell j
 obtain ⟨m, hm⟩ : ∃ m, ts.length = m := ⟨_, rfl⟩
 have HM := Lib.hid hm
 rw [hm] at hG hT hb0 hX hcX hpos hmany ⊢
 clear hm
 go_wp2_with fail
 obtain ⟨w3, hw3⟩ : ∃ w3, w1.alloc (.cells #[.slice A n wc, .slice N ns.length nc, .slice L m lc] 110) = w3 := ⟨_, rfl⟩
 rw [hw3] at hb0 hG hT hX ⊢
 clear hw3 hbG hcX
 have hltG := hG.lt
 generalize w1.heap.size = bg at *
 have hp0 : 0 < ts.length := by rw [HM.out]; exact hpos
 obtain ⟨ad, A0, c0, rfl, hab, hca, hr0⟩ := hT.at_ (i := 0) hp0
 have hl0 : ts[0].length = n := hlens _ (List.getElem_mem _)
 have hg0 : ts[0] = ts[0]?.getD [] := by simp [hp0]
 have HG0 := Lib.hid hg0
 rw [hl0] at hca hr0
 clear hl0 hg0
 generalize ts[0] = t0 at *
 rw [show ad.add 0 = ad from rfl] at hca
 go_loopw [6, 22] (fun v i wr => ∃ k : Nat, k ≤ n ∧ i = .int .i64 k ∧ OwnS wr w3.heap.size 47 2 v ((knownL ts k).map Wh.cells) ∧ Below w3.heap.size w3 wr) (fun _ i _ => n - (intOf i).toNat)
 case atStart => exact ⟨0, Nat.zero_le _, rfl, OwnS.nil _ _ _ _, fr_refl _⟩
 case round =>
  obtain ⟨k, hk, rfl, hown, hbel⟩ := hrel
  by_cases hlt : k < n
  ·have hGr := hG.keep hbel
   have hcG := hGr.cell 2
   have hca2 := (hbel.cell hab).trans hca
   have hltG2 := hGr.lt
   obtain ⟨ad0, rfl, hab0, hcx⟩ := (hr0.keep hbel).at_ hlt
   have hab2 : ad.block < wr.heap.size := Nat.lt_of_lt_of_le hab hbel.size
   have hx0 : t0[k]?.getD 0 = (ts[0]?.getD [])[k]?.getD 0 := by rw [HG0.out]
   have HX0 := Lib.hid hx0
   generalize t0[k]?.getD 0 = x at *
   clear hx0 hr0
   have q0 : IntKind.i64.wrap (k : Int) = (k : Int) := IntWalk.i64_in _ (by omega)
   have q1 : 0 ≤ (k : Int) := by omega
   have q2 : (k : Int) < (n : Int) := by omega
   have q3 : (0 : Int) < (m : Int) := by omega
   clear hX hab hca
   go_wp2_with fail
   have hbz := fr_drew (fr_refl wr)
   refine wp_region_noPanic ?_
   refine wp_region_held_drew (S := fun W => W.cell? ⟨bg, 2, none⟩ = some (.slice (some ad) m lc) ∧ W.cell? ad = some (.slice (some ad0) n c0) ∧ W.cell? (ad0.add k) = some (.int .i64 x)) (by kernel_rfl) ⟨hcG, hca2, hcx⟩ (fun hHeld => ?_)
   generalize wr.drew = wz at hbz hHeld ⊢
   -- the region, step by step, in whatever order
   refine wpAnyH_take (i := 0) (oi := ⟨some 25, .fieldAddr 110 (.tmp 4) 1, 0, "guess.go:281", #[], none⟩) (v := ?_) rfl (by kernel_rfl) (by kernel_rfl) (by kernel_rfl) (fun _ _ _ h => h) (Or.inl ⟨by rfl, fun W hSw => ?_⟩) hHeld ?_
   rotate_left
   ·(try dsimp only at hSw); go_simp; (try with_reducible rfl)
   (try simp only [Act.put, List.setIfInBounds_toArray, List.set_cons_zero, List.set_cons_succ])
   refine wpAnyH_take (i := 1) (oi := ⟨some 26, .load 108 (.tmp 25), 108, "guess.go:281", #[⟨0, .data⟩], none⟩) (v := ?_) rfl (by kernel_rfl) (by kernel_rfl) (by kernel_rfl) (fun _ _ _ h => h) (Or.inl ⟨by rfl, fun W hSw => ?_⟩) hHeld ?_
   rotate_left
   ·(try dsimp only at hSw); go_simp; (try with_reducible rfl)
   (try simp only [Act.put, List.setIfInBounds_toArray, List.set_cons_zero, List.set_cons_succ])
   refine wpAnyH_take (i := 2) (oi := ⟨some 27, .indexAddr 108 (.tmp 26) (.const (.int .i64 0)), 0, "guess.go:281", #[⟨1, .data⟩], none⟩) (v := ?_) rfl (by kernel_rfl) (by kernel_rfl) (by kernel_rfl) (fun _ _ _ h => h) (Or.inl ⟨by rfl, fun W hSw => ?_⟩) hHeld ?_
   rotate_left
   ·(try dsimp only at hSw); go_simp; (try with_reducible rfl)
   (try simp only [Act.put, List.setIfInBounds_toArray, List.set_cons_zero, List.set_cons_succ])
   refine wpAnyH_take (i := 3) (oi := ⟨some 28, .load 113 (.tmp 27), 113, "guess.go:281", #[⟨2, .data⟩], none⟩) (v := ?_) rfl (by kernel_rfl) (by kernel_rfl) (by kernel_rfl) (fun _ _ _ h => h) (Or.inl ⟨by rfl, fun W hSw => ?_⟩) hHeld ?_
   rotate_left
   ·(try dsimp only at hSw); go_simp; (try with_reducible rfl)
   (try simp only [Act.put, List.setIfInBounds_toArray, List.set_cons_zero, List.set_cons_succ])
   refine wpAnyH_take (i := 4) (oi := ⟨some 29, .move (.tmp 7), 3, "guess.go:281", #[], none⟩) (v := ?_) rfl (by kernel_rfl) (by kernel_rfl) (by kernel_rfl) (fun _ _ _ h => h) (Or.inl ⟨by rfl, fun W hSw => ?_⟩) hHeld ?_
   rotate_left
   ·(try dsimp only at hSw); go_simp; (try with_reducible rfl)
   (try simp only [Act.put, List.setIfInBounds_toArray, List.set_cons_zero, List.set_cons_succ])
   refine wpAnyH_take (i := 5) (oi := ⟨some 30, .indexAddr 113 (.tmp 28) (.tmp 29), 0, "guess.go:281", #[⟨3, .data⟩, ⟨4, .data⟩], none⟩) (v := ?_) rfl (by kernel_rfl) (by kernel_rfl) (by kernel_rfl) (fun _ _ _ h => h) (Or.inl ⟨by rfl, fun W hSw => ?_⟩) hHeld ?_
   rotate_left
   ·(try dsimp only at hSw); go_simp; (try with_reducible rfl)
   (try simp only [Act.put, List.setIfInBounds_toArray, List.set_cons_zero, List.set_cons_succ])
   refine wpAnyH_take (i := 6) (oi := ⟨some 31, .load 3 (.tmp 30), 3, "guess.go:281", #[⟨5, .data⟩], none⟩) (v := ?_) rfl (by kernel_rfl) (by kernel_rfl) (by kernel_rfl) (fun _ _ _ h => h) (Or.inl ⟨by rfl, fun W hSw => ?_⟩) hHeld ?_
   rotate_left
   ·(try dsimp only at hSw); go_simp; (try with_reducible rfl)
   (try simp only [Act.put, List.setIfInBounds_toArray, List.set_cons_zero, List.set_cons_succ])
   refine wpAnyH_take (i := 7) (oi := ⟨some 32, .fieldAddr 110 (.tmp 4) 1, 0, "guess.go:281", #[], none⟩) (v := ?_) rfl (by kernel_rfl) (by kernel_rfl) (by kernel_rfl) (fun _ _ _ h => h) (Or.inl ⟨by rfl, fun W hSw => ?_⟩) hHeld ?_
   rotate_left
   ·(try dsimp only at hSw); go_simp; (try with_reducible rfl)
   (try simp only [Act.put, List.setIfInBounds_toArray, List.set_cons_zero, List.set_cons_succ])
   refine wpAnyH_take (i := 8) (oi := ⟨some 33, .load 108 (.tmp 32), 108, "guess.go:281", #[⟨7, .data⟩], none⟩) (v := ?_) rfl (by kernel_rfl) (by kernel_rfl) (by kernel_rfl) (fun _ _ _ h => h) (Or.inl ⟨by rfl, fun W hSw => ?_⟩) hHeld ?_
   rotate_left
   ·(try dsimp only at hSw); go_simp; (try with_reducible rfl)
   (try simp only [Act.put, List.setIfInBounds_toArray, List.set_cons_zero, List.set_cons_succ])
   refine wpAnyH_take (i := 9) (oi := ⟨some 34, .indexAddr 108 (.tmp 33) (.const (.int .i64 0)), 0, "guess.go:281", #[⟨8, .data⟩], none⟩) (v := ?_) rfl (by kernel_rfl) (by kernel_rfl) (by kernel_rfl) (fun _ _ _ h => h) (Or.inl ⟨by rfl, fun W hSw => ?_⟩) hHeld ?_
   rotate_left
   ·(try dsimp only at hSw); go_simp; (try with_reducible rfl)
   (try simp only [Act.put, List.setIfInBounds_toArray, List.set_cons_zero, List.set_cons_succ])
   refine wpAnyH_take (i := 10) (oi := ⟨some 35, .load 113 (.tmp 34), 113, "guess.go:281", #[⟨9, .data⟩], none⟩) (v := ?_) rfl (by kernel_rfl) (by kernel_rfl) (by kernel_rfl) (fun _ _ _ h => h) (Or.inl ⟨by rfl, fun W hSw => ?_⟩) hHeld ?_
   rotate_left
   ·(try dsimp only at hSw); go_simp; (try with_reducible rfl)
   (try simp only [Act.put, List.setIfInBounds_toArray, List.set_cons_zero, List.set_cons_succ])
   refine wpAnyH_take (i := 11) (oi := ⟨some 36, .move (.tmp 7), 3, "guess.go:281", #[], none⟩) (v := ?_) rfl (by kernel_rfl) (by kernel_rfl) (by kernel_rfl) (fun _ _ _ h => h) (Or.inl ⟨by rfl, fun W hSw => ?_⟩) hHeld ?_
   rotate_left
   ·(try dsimp only at hSw); go_simp; (try with_reducible rfl)
   (try simp only [Act.put, List.setIfInBounds_toArray, List.set_cons_zero, List.set_cons_succ])
   refine wpAnyH_take (i := 12) (oi := ⟨some 37, .indexAddr 113 (.tmp 35) (.tmp 36), 0, "guess.go:281", #[⟨10, .data⟩, ⟨11, .data⟩], none⟩) (v := ?_) rfl (by kernel_rfl) (by kernel_rfl) (by kernel_rfl) (fun _ _ _ h => h) (Or.inl ⟨by rfl, fun W hSw => ?_⟩) hHeld ?_
   rotate_left
   ·(try dsimp only at hSw); go_simp; (try with_reducible rfl)
   (try simp only [Act.put, List.setIfInBounds_toArray, List.set_cons_zero, List.set_cons_succ])
   refine wpAnyH_take (i := 13) (oi := ⟨some 38, .load 3 (.tmp 37), 3, "guess.go:281", #[⟨12, .data⟩], none⟩) (v := ?_) rfl (by kernel_rfl) (by kernel_rfl) (by kernel_rfl) (fun _ _ _ h => h) (Or.inl ⟨by rfl, fun W hSw => ?_⟩) hHeld ?_
   rotate_left
   ·(try dsimp only at hSw); go_simp; (try with_reducible rfl)
   (try simp only [Act.put, List.setIfInBounds_toArray, List.set_cons_zero, List.set_cons_succ])
   refine wpAnyH_take (i := 14) (oi := ⟨some 39, .build 47 #[(0, .tmp 31), (1, .tmp 38)], 47, "guess.go:281", #[⟨6, .data⟩, ⟨13, .data⟩], none⟩) (v := ?_) rfl (by kernel_rfl) (by kernel_rfl) (by kernel_rfl) (fun _ _ _ h => h) (Or.inl ⟨by rfl, fun W hSw => ?_⟩) hHeld ?_
   rotate_left
   ·(try dsimp only at hSw); go_simp; (try with_reducible rfl)
   (try simp only [Act.put, List.setIfInBounds_toArray, List.set_cons_zero, List.set_cons_succ])
   refine wpAnyH_ready (rs := [15]) (by kernel_rfl) (by simp) ?_
   refine (AllReadyH.cons (o := ⟨some 8, .alloc 47, 0, "guess.go:281", #[], none⟩) rfl (fun K hK => ?_) AllReadyH.nil)
   rw [if_pos (by rfl)]
   refine wp_alloc_new 47 rfl _ (span_zero _) ?_
   intro g wz hgz hG1 hb1 _
   have hgo : wr.heap.size ≤ g := by have := hbz.size; omega
   replace hbz := fr_call hbz hb1
   refine hK.out _ _ (⟨(hbz.cell (p := ⟨bg, 2, none⟩) hltG2).trans hcG, (hbz.cell (p := ad) hab2).trans hca2, (hbz.cell (p := ad0.add k) (by rw [block_of_add]; exact hab0)).trans hcx⟩) (fun hHeld => ?_)
   clear hK K
   (try simp only [Act.put, List.setIfInBounds_toArray, List.set_cons_zero, List.set_cons_succ])
   refine wpAnyH_ready (rs := [16]) (by kernel_rfl) (by simp) ?_
   refine (AllReadyH.cons (o := ⟨none, .store 47 (.tmp 8) (.tmp 39), 0, "guess.go:281", #[⟨15, .data⟩, ⟨14, .data⟩, ⟨0, .phase⟩, ⟨1, .phase⟩, ⟨2, .phase⟩, ⟨3, .phase⟩, ⟨4, .phase⟩, ⟨5, .phase⟩, ⟨6, .phase⟩, ⟨7, .phase⟩, ⟨8, .phase⟩, ⟨9, .phase⟩, ⟨10, .phase⟩, ⟨11, .phase⟩, ⟨12, .phase⟩, ⟨13, .phase⟩, ⟨14, .phase⟩, ⟨15, .phase⟩], none⟩) rfl (fun K hK => ?_) AllReadyH.nil)
   rw [if_pos (by rfl)]
   refine wp_store_blk _ _ _ rfl g 47 _ _ rfl rfl hG1 rfl (by kernel_rfl) (by simp [Value.oneCell']) ?_
   intro wz hG2 hgr
   replace hbz := hbz.grown hgr hbz.size (by intro i hi; cases hi; exact hgo)
   refine hK.out _ _ (⟨(hbz.cell (p := ⟨bg, 2, none⟩) hltG2).trans hcG, (hbz.cell (p := ad) hab2).trans hca2, (hbz.cell (p := ad0.add k) (by rw [block_of_add]; exact hab0)).trans hcx⟩) (fun hHeld => ?_)
   clear hK K
   refine wpAnyH_done (by kernel_rfl) ?_ _
   refine NoPanic.normal ?_
   clear hHeld hcG hca2 hcx q0 q1 q2 q3
   have hGz := hGr.keep hbz
   have hcG := hGz.cell 2
   have hs0 : spanK ts k 0 = ⟨x, x⟩ := by rw [spanK_zero, HX0.out]
   have HS0 := Lib.hid hs0
   have hltg := hG2.lt
   clear hs0
   go_wp2_with fail
   go_loopw [43] (fun i w2 => ∃ j : Nat, j ≤ m ∧ i = .int .i64 j ∧ Blk w2 g 47 #[.int .i64 (spanK ts k j).lo, .int .i64 (spanK ts k j).hi] ∧ Below wr.heap.size wr w2) (fun i _ => m - (intOf i).toNat)
   case atStart => exact ⟨0, Nat.zero_le _, rfl, by rw [HS0.out]; exact hG2, hbz⟩
   case round =>
    obtain ⟨j, hj, rfl, hgj, hbj⟩ := hrel
    by_cases hjl : j < m
    ·have hjt : j < ts.length := by rw [HM.out]; exact hjl
     obtain ⟨ad', C, cc, e, habj, hcj, hrj⟩ := (hT.keep (fr_call hbel hbj)).at_ hjt
     cases e
     have hlj := hlens _ (List.getElem_mem hjt)
     have hst := spanK_succ ts k j hjt
     rw [hlj] at hcj hrj
     obtain ⟨adj, rfl, habx, hcy⟩ := hrj.at_ hlt
     have HST := Lib.hid hst
     have hcg0 := hgj.cell 0
     have hcg1 := hgj.cell 1
     have hfg0 := hgj.frozen 0
     have q1 : 0 ≤ (k : Int) := by omega
     have q2 : (k : Int) < (n : Int) := by omega
     clear hst hlj hrj hT hcG
     generalize hsj : spanK ts k j = sj at *
     obtain ⟨p, q⟩ := sj
     generalize hy : ts[j][k]?.getD 0 = y at *
     have HY := Lib.hid hy
     clear hy hsj
     simp only at hcg0 hcg1
     go_wp2_with fail
     have hgd := hgj.drew
     have hbd := fr_call hbj (fr_drew (fr_refl _))
     go_still_tail 15, (by kernel_rfl)
     change wpList _ _ _ _ _ (World.drew _)
     refine wpList_store_blk rfl _ _ _ rfl g 47 _ _ rfl rfl hgd rfl (by kernel_rfl) (by simp [Value.oneCell']) ?_
     intro W5 hG5 hg5
     have e1 : min p y = if y < p then y else p := by split <;> omega
     have e2 : max q y = if q < y then y else q := by split <;> omega
     have hn : spanK ts k (j + 1) = ⟨if y < p then y else p, if q < y then y else q⟩ := by
      rw [HST.out]
      unfold spanStep
      rw [HY.out, ← e1, ← e2]
     have HN := Lib.hid hn
     clear hn e1 e2
     go_wp2_with fail
     refine ⟨⟨j + 1, hjl, rfl, by rw [HN.out]; exact hG5, hbd.grown hg5 hbd.size (by intro i hi; cases hi; exact hgo)⟩, ?_⟩
     simp [intOf]; omega
    ·obtain rfl : j = m := by omega
     have hown2 := hown.keep hbj
     have hbb := fr_call hbel hbj
     have hks := knownL_succ ts k
     rw [HM.out] at hks
     have HKS := Lib.hid hks
     clear hks
     generalize spanK ts k j = sj at *
     obtain ⟨p, q⟩ := sj
     simp only at hgj
     have hcg0 := hgj.cell 0
     have hcg1 := hgj.cell 1
     clear hT hlens hcG
     go_wp2_with (at_builtin; go_must (refine app_row rfl (.tmp 63) (.tmp 65) rfl Tryz.underlying22 info_span rfl (by omega) (by omega) w3.heap.size _ ((knownL ts k).map Wh.cells) (r := Wh.cells ⟨p, q⟩) rfl rfl hown2 rfl (by intro u hu; simp only [Wh.cells, List.mem_cons, List.not_mem_nil, or_false] at hu; rcases hu with rfl | rfl <;> rfl) (by rw [List.length_map, knownL_len]; omega) hbb.size ?_); intro L1 lc1 w4 hown4 hg4)
     rw [List.length_map] at hown4
     go_roundw
     case rel => exact ⟨k + 1, hlt, by go_num, by rw [HKS.out, List.map_append]; exact hown4, (fr_alloc hbb _).grown hg4 (by have := hbb.size; simp; omega) hown2.ge⟩
     case measure => simp [intOf]; omega
  ·obtain rfl : k = n := by omega
   obtain ⟨A1, c1, rfl⟩ := hown.form
   rw [List.length_map, knownL_len] at hown ⊢
   go_wp2_with fail
   go_ret2
   exact ⟨A1, c1, by rw [knownL_len]; rfl, hown.rd, fr_call hb0 hbel⟩
end Go.Proofs.YthenlopnlaiodaaGreatDoor
end

section
namespace Go.Proofs.YthenlopnlaiodaaGreatDoor
open Go.RowKit Go.Shelf

def mm (s : Int × Int) (n : Int) : Int × Int := (min s.1 n, max s.2 n)
def comAt (ts us : List (List Int)) (i j : Nat) : Int := (comL (ts[i]?.getD []) (us[j]?.getD []) : Nat)
def rowJ (ts us : List (List Int)) (i : Nat) (s : Int × Int) : Nat → Int × Int
 | 0 => s
 | j + 1 => mm (rowJ ts us i s j) (comAt ts us i j)
def rowI (ts us : List (List Int)) : Nat → Int × Int
 | 0 => (comAt ts us 0 0, comAt ts us 0 0)
 | i + 1 => rowJ ts us i (rowI ts us i) us.length
def alikeL (ts us : List (List Int)) : Int × Int := rowI ts us ts.length
/-- the greatest length that is too great -/
def crowdN (n m : Nat) : Int := if 200 < n then n else m
def Alike1P (ts us : List (List Int)) (w : World) (e : Ending) (w' : World) : Prop := ((200 < ts.length ∨ 200 < us.length) ∧ e = .panicked (crowdV (crowdN ts.length us.length)) ∧ Below w.heap.size w w') ∨ ((ts.length ≤ 200 ∧ us.length ≤ 200) ∧ e = .returned (.tuple #[]) ∧ Below w.heap.size w w')
set_option maxRecDepth 100000 in
set_option maxHeartbeats 8000000 in
theorem Alike1_any (A N C M L K : Option Addr) (nw wc nn nc mw vc mn mc lc kc ba bb : Nat) (ts us : List (List Int)) (w : World) (hA : Blk w ba 110 #[.slice A nw wc, .slice N nn nc, .slice L ts.length lc]) (hB : Blk w bb 110 #[.slice C mw vc, .slice M mn mc, .slice K us.length kc])
  (hT : TsAt w L ts) (hU : TsAt w K us) (hl : ∀ t ∈ ts, t.length ≤ 6) (hk : ∀ t ∈ us, t.length ≤ 6) :
  Calls Tryz.prog 76 #[.pointer (some ⟨ba, 0, none⟩), .pointer (some ⟨bb, 0, none⟩)] w (Alike1P ts us w) := by
 have hcA := fun j => hA.cell j
 by_cases h1 : 200 < ts.length
 ·go_enter Tryz.func76, Tryz.ntmps76
  go_wp2_with fail
  refine (trains_long A N L nw wc nn nc ts.length lc w h1).mono ?_
  rintro e w1 ⟨rfl, hb1⟩
  go_wp2_with fail
  exact ⟨rfl, Or.inl ⟨Or.inl h1, by unfold crowdN; rw [if_pos h1], hb1⟩⟩
 ·have h1' : ts.length ≤ 200 := by omega
  go_enter Tryz.func76, Tryz.ntmps76
  go_wp2_with fail
  refine (trains_ok A N L nw wc nn nc lc ts w hT h1' hl).mono ?_
  rintro e w1 ⟨L1, lc1, rfl, _, hb1⟩
  have hB1 := hB.keep hb1
  have hcB := fun j => hB1.cell j
  have hU1 := hU.keep hb1
  clear hcA
  by_cases h2 : 200 < us.length
  ·go_wp2_with fail
   refine (trains_long C M K mw vc mn mc us.length kc w1 h2).mono ?_
   rintro e w2 ⟨rfl, hb2⟩
   go_wp2_with fail
   exact ⟨rfl, Or.inl ⟨Or.inr h2, by unfold crowdN; rw [if_neg h1], fr_call hb1 hb2⟩⟩
  ·have h2' : us.length ≤ 200 := by omega
   go_wp2_with fail
   refine (trains_ok C M K mw vc mn mc kc us w1 hU1 h2' hk).mono ?_
   rintro e w2 ⟨L2, lc2, rfl, _, hb2⟩
   go_wp2_with fail
   go_end0
   exact Or.inr ⟨⟨h1', h2'⟩, rfl, fr_call hb1 hb2⟩
end Go.Proofs.YthenlopnlaiodaaGreatDoor
end

section
namespace Go.Proofs.YthenlopnlaiodaaGreatDoor

def wordG : Nat → List UInt8
 | 0 => [102, 105, 110, 100]
 | 1 => [119, 104, 101, 101, 108]
 | 2 => [97, 114, 99]
 | 3 => [115, 117, 109]
 | 4 => [114, 97, 116, 105, 111]
 | 5 => [115, 97, 109, 101]
 | _ => [112, 97, 114, 116]
def noteXs (n : Note) : List Int := if n.k = 1 then [n.a, n.b, n.lo, n.hi] else if n.k = 2 then [n.a, n.lo, n.hi] else if n.k = 3 then [n.a, n.b, n.ln, n.ld, n.mn, n.md] else [n.a, n.b]
def noteRow (n : Note) : List UInt8 := lineB (wordG (n.k + 1).toNat) (noteXs n)
def whRow (s : Wh) : List UInt8 := lineB (wordG 1) [s.lo, s.hi]
def findRows (ws : List Wh) (ns : List Note) : List (List UInt8) := lineB (wordG 0) [(ws.length : Int)] :: (ws.map whRow ++ ns.map noteRow)
def findText (ws : List Wh) (ns : List Note) : List UInt8 := textM 149 (findRows ws ns)
def headG (r : List UInt8) : List UInt8 := (pieces 32 r).headD []
/-- the note of a word and numbers -/
def noteOf (w : List UInt8) (x : List Int) : Option Note :=
 if w = wordG 2 ∧ x.length = 4 then some ⟨1, x[0]?.getD 0, x[1]?.getD 0, x[2]?.getD 0, x[3]?.getD 0, 0, 0, 0, 0⟩
 else if w = wordG 3 ∧ x.length = 3 then some ⟨2, x[0]?.getD 0, 0, x[1]?.getD 0, x[2]?.getD 0, 0, 0, 0, 0⟩
 else if w = wordG 4 ∧ x.length = 6 then some ⟨3, x[0]?.getD 0, x[1]?.getD 0, 0, 0, x[2]?.getD 0, x[3]?.getD 0, x[4]?.getD 0, x[5]?.getD 0⟩
 else if w = wordG 5 ∧ x.length = 2 then some ⟨4, x[0]?.getD 0, x[1]?.getD 0, 0, 0, 0, 0, 0, 0⟩
 else if w = wordG 6 ∧ x.length = 2 then some ⟨5, x[0]?.getD 0, x[1]?.getD 0, 0, 0, 0, 0, 0, 0⟩
 else none
/-- a note as a line can say one -/
def NoteSm (n : Note) : Prop := (Sm n.a ∧ Sm n.b ∧ Sm n.lo ∧ Sm n.hi) ∧ (Sm n.ln ∧ Sm n.ld ∧ Sm n.mn ∧ Sm n.md) ∧
 ((n.k = 1 ∧ n.ln = 0 ∧ n.ld = 0 ∧ n.mn = 0 ∧ n.md = 0) ∨ (n.k = 2 ∧ n.b = 0 ∧ n.ln = 0 ∧ n.ld = 0 ∧ n.mn = 0 ∧ n.md = 0) ∨ (n.k = 3 ∧ n.lo = 0 ∧ n.hi = 0) ∨ ((n.k = 4 ∨ n.k = 5) ∧ n.lo = 0 ∧ n.hi = 0 ∧ n.ln = 0 ∧ n.ld = 0 ∧ n.mn = 0 ∧ n.md = 0))
def WhSm (s : Wh) : Prop := Sm s.lo ∧ Sm s.hi
def FindSm (ws : List Wh) (ns : List Note) : Prop := (∀ s ∈ ws, WhSm s) ∧ (∀ n ∈ ns, NoteSm n) ∧ ws.length ≤ 99999

theorem wordG_no (k : Nat) : ∀ x ∈ wordG k, x ≠ 32 ∧ x ≠ 10 := by
 have h : ∀ l : List UInt8, l.all (fun x => x != 32 && x != 10) = true → ∀ x ∈ l, x ≠ 32 ∧ x ≠ 10 := fun l hl x hx => by
  have := List.all_eq_true.1 hl x hx
  simpa using this
 apply h
 unfold wordG
 split <;> decide
theorem tellG (k : Nat) {xs : List Int} (h : ∀ x ∈ xs, Sm x) : toldB (lineB (wordG k) xs) = some xs := by
 unfold toldB
 rw [line_pieces (fun x hx => (wordG_no k x hx).1) (fun x hx => (h x hx).1)]
 exact nums_itoa xs h
theorem headG_line (k : Nat) {xs : List Int} (h : ∀ x ∈ xs, Sm x) : headG (lineB (wordG k) xs) = wordG k := by
 unfold headG
 rw [line_pieces (fun x hx => (wordG_no k x hx).1) (fun x hx => (h x hx).1)]
 rfl
theorem tellG_some {r : List UInt8} {xs : List Int} (h : toldB r = some xs) : ∀ x ∈ xs, Sm x := (nums_some _ _ h).1
theorem smG_get {xs : List Int} (h : ∀ x ∈ xs, Sm x) (i : Nat) : Sm (xs[i]?.getD 0) := by
 cases hi : xs[i]? with
 | none => exact ⟨Int.le_refl _, by decide⟩
 | some x => exact h x (List.mem_of_getElem? hi)
theorem sm0 : Sm 0 := ⟨Int.le_refl _, by decide⟩
theorem noteOf_ok {w : List UInt8} {x : List Int} {n : Note} (hx : ∀ y ∈ x, Sm y) (h : noteOf w x = some n) : NoteSm n := by
 have g := fun i => smG_get hx i
 unfold noteOf at h
 split at h
 ·cases h; exact ⟨⟨g 0, g 1, g 2, g 3⟩, ⟨sm0, sm0, sm0, sm0⟩, Or.inl ⟨rfl, rfl, rfl, rfl, rfl⟩⟩
 split at h
 ·cases h; exact ⟨⟨g 0, sm0, g 1, g 2⟩, ⟨sm0, sm0, sm0, sm0⟩, Or.inr (Or.inl ⟨rfl, rfl, rfl, rfl, rfl, rfl⟩)⟩
 split at h
 ·cases h; exact ⟨⟨g 0, g 1, sm0, sm0⟩, ⟨g 2, g 3, g 4, g 5⟩, Or.inr (Or.inr (Or.inl ⟨rfl, rfl, rfl⟩))⟩
 split at h
 ·cases h; exact ⟨⟨g 0, g 1, sm0, sm0⟩, ⟨sm0, sm0, sm0, sm0⟩, Or.inr (Or.inr (Or.inr ⟨Or.inl rfl, rfl, rfl, rfl, rfl, rfl, rfl⟩))⟩
 split at h
 ·cases h; exact ⟨⟨g 0, g 1, sm0, sm0⟩, ⟨sm0, sm0, sm0, sm0⟩, Or.inr (Or.inr (Or.inr ⟨Or.inr rfl, rfl, rfl, rfl, rfl, rfl, rfl⟩))⟩
 ·cases h
theorem noteXs_sm {n : Note} (h : NoteSm n) : ∀ x ∈ noteXs n, Sm x := by
 obtain ⟨⟨h1, h2, h3, h4⟩, ⟨h5, h6, h7, h8⟩, _⟩ := h
 intro x hx
 unfold noteXs at hx
 split at hx
 ·simp only [List.mem_cons, List.not_mem_nil, or_false] at hx
  rcases hx with rfl | rfl | rfl | rfl <;> assumption
 split at hx
 ·simp only [List.mem_cons, List.not_mem_nil, or_false] at hx
  rcases hx with rfl | rfl | rfl <;> assumption
 split at hx
 ·simp only [List.mem_cons, List.not_mem_nil, or_false] at hx
  rcases hx with rfl | rfl | rfl | rfl | rfl | rfl <;> assumption
 ·simp only [List.mem_cons, List.not_mem_nil, or_false] at hx
  rcases hx with rfl | rfl <;> assumption
theorem noteOf_row {n : Note} (h : NoteSm n) : noteOf (wordG (n.k + 1).toNat) (noteXs n) = some n := by
 obtain ⟨k, a, b, lo, hi, ln, ld, mn, md⟩ := n
 obtain ⟨_, _, h⟩ := h
 simp only at h
 rcases h with ⟨rfl, rfl, rfl, rfl, rfl⟩ | ⟨rfl, rfl, rfl, rfl, rfl, rfl⟩ | ⟨rfl, rfl, rfl⟩ | ⟨hk, rfl, rfl, rfl, rfl, rfl, rfl⟩
 ·simp [noteOf, noteXs]
 ·simp [noteOf, noteXs, wordG]
 ·simp [noteOf, noteXs, wordG]
 ·rcases hk with rfl | rfl
  ·simp [noteOf, noteXs, wordG]
  ·simp [noteOf, noteXs, wordG]
theorem note_word {n : Note} (h : NoteSm n) : wordG (n.k + 1).toNat ≠ wordG 1 := by
 obtain ⟨_, _, h⟩ := h
 have hk : n.k = 1 ∨ n.k = 2 ∨ n.k = 3 ∨ n.k = 4 ∨ n.k = 5 := by omega
 rcases hk with e | e | e | e | e <;> rw [e] <;> decide
theorem noteOf_word1 (x : List Int) : noteOf (wordG 1) x = none := by simp [noteOf, wordG]
theorem noteOf_word0 (x : List Int) : noteOf (wordG 0) x = none := by simp [noteOf, wordG]

/-- the program's way: row by row -/
def gstep (st : List Wh × List Note) (r : List UInt8) : Option (List Wh × List Note) :=
 match toldB r with
 | none => none
 | some x =>
  if headG r = wordG 1 then (if x.length = 2 then some (st.1 ++ [⟨x[0]?.getD 0, x[1]?.getD 0⟩], st.2) else none)
  else match noteOf (headG r) x with
   | some n => some (st.1, st.2 ++ [n])
   | none => none
def ggo : List Wh × List Note → List (List UInt8) → Option (List Wh × List Note)
 | st, [] => some st
 | st, r :: R => match gstep st r with | none => none | some st' => ggo st' R
def greadP (P : List (List UInt8)) (s : List UInt8) : Option (List Wh × List Note) :=
 if P.length < 3 then none else
 match ggo ([], []) ((P.drop 1).take (P.length - 3)) with
 | none => none
 | some f => if findText f.1 f.2 = s then some f else none
def gread (s : List UInt8) : Option (List Wh × List Note) := greadP (pieces 10 s) s
theorem ggo_app : ∀ (R U : List (List UInt8)) (st : List Wh × List Note), ggo st (R ++ U) = match ggo st R with | none => none | some st' => ggo st' U
 | [], _, _ => rfl
 | r :: R, U, st => by
  simp only [List.cons_append, ggo]
  cases gstep st r with
  | none => rfl
  | some st' => exact ggo_app R U st'
theorem whXs_sm {s : Wh} (h : WhSm s) : ∀ x ∈ [s.lo, s.hi], Sm x := fun x hx => by
 simp only [List.mem_cons, List.not_mem_nil, or_false] at hx
 rcases hx with rfl | rfl
 ·exact h.1
 ·exact h.2
theorem gstep_wh (st : List Wh × List Note) {s : Wh} (h : WhSm s) : gstep st (whRow s) = some (st.1 ++ [s], st.2) := by
 unfold gstep whRow
 rw [tellG 1 (whXs_sm h), headG_line 1 (whXs_sm h)]
 simp
theorem gstep_note (st : List Wh × List Note) {n : Note} (h : NoteSm n) : gstep st (noteRow n) = some (st.1, st.2 ++ [n]) := by
 unfold gstep noteRow
 rw [tellG _ (noteXs_sm h), headG_line _ (noteXs_sm h)]
 simp only
 rw [if_neg (note_word h), noteOf_row h]
theorem ggo_whs : ∀ (ws : List Wh) (st : List Wh × List Note), (∀ s ∈ ws, WhSm s) → ggo st (ws.map whRow) = some (st.1 ++ ws, st.2)
 | [], st, _ => by simp [ggo]
 | s :: ws, st, h => by
  simp only [List.map_cons, ggo]
  rw [gstep_wh st (h s (List.mem_cons_self ..))]
  simp only
  rw [ggo_whs ws _ (fun x hx => h x (List.mem_cons_of_mem _ hx))]
  simp
theorem ggo_notes : ∀ (ns : List Note) (st : List Wh × List Note), (∀ n ∈ ns, NoteSm n) → ggo st (ns.map noteRow) = some (st.1, st.2 ++ ns)
 | [], st, _ => by simp [ggo]
 | n :: ns, st, h => by
  simp only [List.map_cons, ggo]
  rw [gstep_note st (h n (List.mem_cons_self ..))]
  simp only
  rw [ggo_notes ns _ (fun x hx => h x (List.mem_cons_of_mem _ hx))]
  simp
/-- what the rows so far have given is small -/
def StSm (st : List Wh × List Note) : Prop := (∀ s ∈ st.1, WhSm s) ∧ (∀ n ∈ st.2, NoteSm n)
theorem st0 : StSm ([], []) := ⟨fun s hs => by simp at hs, fun s hs => by simp at hs⟩
theorem gstep_ok {st st' : List Wh × List Note} {r : List UInt8} (hs : StSm st) (h : gstep st r = some st') : StSm st' ∧ st'.1.length + st'.2.length = st.1.length + st.2.length + 1 := by
 unfold gstep at h
 cases ht : toldB r with
 | none => rw [ht] at h; cases h
 | some x =>
  have hx := tellG_some ht
  rw [ht] at h
  simp only at h
  split at h
  ·split at h
   ·cases h
    refine ⟨⟨fun s hs' => ?_, hs.2⟩, by simp; omega⟩
    rcases List.mem_append.1 hs' with h1 | h1
    ·exact hs.1 s h1
    ·rw [List.mem_singleton.1 h1]; exact ⟨smG_get hx 0, smG_get hx 1⟩
   ·cases h
  ·split at h
   ·rename_i n hn
    cases h
    refine ⟨⟨hs.1, fun s hs' => ?_⟩, by simp; omega⟩
    rcases List.mem_append.1 hs' with h1 | h1
    ·exact hs.2 s h1
    ·rw [List.mem_singleton.1 h1]; exact noteOf_ok hx hn
   ·cases h
theorem ggo_ok : ∀ (R : List (List UInt8)) (st st' : List Wh × List Note), StSm st → ggo st R = some st' → StSm st' ∧ st'.1.length + st'.2.length = st.1.length + st.2.length + R.length
 | [], st, st', hs, h => by simp only [ggo] at h; cases h; exact ⟨hs, by simp⟩
 | r :: R, st, st', hs, h => by
  simp only [ggo] at h
  cases h1 : gstep st r with
  | none => rw [h1] at h; cases h
  | some st1 =>
   rw [h1] at h
   have a := gstep_ok hs h1
   have b := ggo_ok R st1 st' a.1 h
   refine ⟨b.1, ?_⟩
   rw [b.2, a.2, List.length_cons]; omega
theorem lenSm {n : Nat} (h : n ≤ 99999) : ∀ x ∈ [(n : Int)], Sm x := fun x hx => by
 rw [List.mem_singleton.1 hx]
 unfold Sm; omega
theorem find_no10 {ws : List Wh} {ns : List Note} (h : StSm (ws, ns)) : ∀ r ∈ findRows ws ns, ∀ x ∈ r, x ≠ 10 := by
 intro r hr
 unfold findRows at hr
 rcases List.mem_cons.1 hr with rfl | hr
 ·exact line_no10 (fun x hx => (wordG_no 0 x hx).2) (fun x hx => by rw [List.mem_singleton.1 hx]; omega)
 rcases List.mem_append.1 hr with hr | hr
 ·obtain ⟨s, hs, rfl⟩ := List.mem_map.1 hr
  exact line_no10 (fun x hx => (wordG_no 1 x hx).2) (fun x hx => (whXs_sm (h.1 s hs) x hx).1)
 ·obtain ⟨n, hn, rfl⟩ := List.mem_map.1 hr
  exact line_no10 (fun x hx => (wordG_no _ x hx).2) (fun x hx => (noteXs_sm (h.2 n hn) x hx).1)
theorem find_pieces {ws : List Wh} {ns : List Note} (h : StSm (ws, ns)) : pieces 10 (findText ws ns) = findRows ws ns ++ [endB (chkM 149 (findRows ws ns)), []] := text_pieces (by decide) (find_no10 h)
theorem gread_text {ws : List Wh} {ns : List Note} (h : StSm (ws, ns)) : gread (findText ws ns) = some (ws, ns) := by
 unfold gread greadP
 rw [find_pieces h, if_neg (by simp [findRows]; omega)]
 have e : ((findRows ws ns ++ [endB (chkM 149 (findRows ws ns)), []]).drop 1).take ((findRows ws ns ++ [endB (chkM 149 (findRows ws ns)), []]).length - 3) = ws.map whRow ++ ns.map noteRow := by
  have hl : (findRows ws ns ++ [endB (chkM 149 (findRows ws ns)), []]).length - 3 = (ws.map whRow ++ ns.map noteRow).length := by simp [findRows]; omega
  rw [hl]
  generalize endB (chkM 149 (findRows ws ns)) = E
  unfold findRows
  rw [List.cons_append, List.drop_one, List.tail_cons]
  exact List.take_left
 rw [e, ggo_app, ggo_whs ws _ h.1]
 simp only
 rw [ggo_notes ns _ h.2]
 simp
theorem gread_some {s : List UInt8} {ws : List Wh} {ns : List Note} (h : gread s = some (ws, ns)) : s = findText ws ns ∧ StSm (ws, ns) := by
 unfold gread greadP at h
 split at h
 ·cases h
 split at h
 ·cases h
 ·rename_i f hf
  split at h
  ·rename_i ht
   cases h
   exact ⟨ht.symm, (ggo_ok _ _ _ st0 hf).1⟩
  ·cases h
theorem gread_iff {s : List UInt8} {ws : List Wh} {ns : List Note} : gread s = some (ws, ns) ↔ s = findText ws ns ∧ StSm (ws, ns) :=
 ⟨gread_some, fun ⟨h1, h2⟩ => by rw [h1]; exact gread_text h2⟩

/- The reference's way: line by line, the first one too. -/
def rstepG (st : List Wh × List Note) (r : List UInt8) : Option (List Wh × List Note) :=
 match toldB r with
 | none => none
 | some x =>
  match noteOf (headG r) x with
  | some n => some (st.1, st.2 ++ [n])
  | none =>
   if headG r = wordG 1 ∧ x.length = 2 then some (st.1 ++ [⟨x[0]?.getD 0, x[1]?.getD 0⟩], st.2)
   else if headG r = wordG 0 ∧ x.length = 1 then some st
   else none
def rgoG : List Wh × List Note → List (List UInt8) → Option (List Wh × List Note)
 | st, [] => some st
 | st, r :: R => match rstepG st r with | none => none | some st' => rgoG st' R
def rreadG (s : List UInt8) : Option (List Wh × List Note) :=
 match rgoG ([], []) ((pieces 10 s).take ((pieces 10 s).length - 2)) with
 | none => none
 | some f => if findText f.1 f.2 = s then some f else none
theorem rstepG_ok {st st' : List Wh × List Note} {r : List UInt8} (hs : StSm st) (h : rstepG st r = some st') : StSm st' ∧ st'.1.length + st'.2.length ≤ st.1.length + st.2.length + 1 := by
 unfold rstepG at h
 cases ht : toldB r with
 | none => rw [ht] at h; cases h
 | some x =>
  have hx := tellG_some ht
  rw [ht] at h
  simp only at h
  split at h
  ·rename_i n hn
   cases h
   refine ⟨⟨hs.1, fun s hs' => ?_⟩, by simp; omega⟩
   rcases List.mem_append.1 hs' with h1 | h1
   ·exact hs.2 s h1
   ·rw [List.mem_singleton.1 h1]; exact noteOf_ok hx hn
  ·split at h
   ·cases h
    refine ⟨⟨fun s hs' => ?_, hs.2⟩, by simp; omega⟩
    rcases List.mem_append.1 hs' with h1 | h1
    ·exact hs.1 s h1
    ·rw [List.mem_singleton.1 h1]; exact ⟨smG_get hx 0, smG_get hx 1⟩
   ·split at h
    ·cases h; exact ⟨hs, by omega⟩
    ·cases h
theorem rgoG_ok : ∀ (R : List (List UInt8)) (st st' : List Wh × List Note), StSm st → rgoG st R = some st' → StSm st' ∧ st'.1.length + st'.2.length ≤ st.1.length + st.2.length + R.length
 | [], st, st', hs, h => by simp only [rgoG] at h; cases h; exact ⟨hs, by simp⟩
 | r :: R, st, st', hs, h => by
  simp only [rgoG] at h
  cases h1 : rstepG st r with
  | none => rw [h1] at h; cases h
  | some st1 =>
   rw [h1] at h
   have a := rstepG_ok hs h1
   have b := rgoG_ok R st1 st' a.1 h
   refine ⟨b.1, ?_⟩
   rw [List.length_cons]; omega
theorem rgoG_app : ∀ (R U : List (List UInt8)) (st : List Wh × List Note), rgoG st (R ++ U) = match rgoG st R with | none => none | some st' => rgoG st' U
 | [], _, _ => rfl
 | r :: R, U, st => by
  simp only [List.cons_append, rgoG]
  cases rstepG st r with
  | none => rfl
  | some st' => exact rgoG_app R U st'
theorem rgoG_whs : ∀ (ws : List Wh) (st : List Wh × List Note), (∀ s ∈ ws, WhSm s) → rgoG st (ws.map whRow) = some (st.1 ++ ws, st.2)
 | [], st, _ => by simp [rgoG]
 | s :: ws, st, h => by
  have hs := h s (List.mem_cons_self ..)
  have h1 : rstepG st (whRow s) = some (st.1 ++ [s], st.2) := by
   unfold rstepG whRow
   rw [tellG 1 (whXs_sm hs), headG_line 1 (whXs_sm hs)]
   simp only
   rw [noteOf_word1]
   simp
  simp only [List.map_cons, rgoG]
  rw [h1]
  simp only
  rw [rgoG_whs ws _ (fun x hx => h x (List.mem_cons_of_mem _ hx))]
  simp
theorem rgoG_notes : ∀ (ns : List Note) (st : List Wh × List Note), (∀ n ∈ ns, NoteSm n) → rgoG st (ns.map noteRow) = some (st.1, st.2 ++ ns)
 | [], st, _ => by simp [rgoG]
 | n :: ns, st, h => by
  have hn := h n (List.mem_cons_self ..)
  have h1 : rstepG st (noteRow n) = some (st.1, st.2 ++ [n]) := by
   unfold rstepG noteRow
   rw [tellG _ (noteXs_sm hn), headG_line _ (noteXs_sm hn)]
   simp only
   rw [noteOf_row hn]
  simp only [List.map_cons, rgoG]
  rw [h1]
  simp only
  rw [rgoG_notes ns _ (fun x hx => h x (List.mem_cons_of_mem _ hx))]
  simp
theorem rreadG_text {ws : List Wh} {ns : List Note} (h : StSm (ws, ns)) (hl : ws.length ≤ 99999) : rreadG (findText ws ns) = some (ws, ns) := by
 unfold rreadG
 rw [find_pieces h]
 have e : (findRows ws ns ++ [endB (chkM 149 (findRows ws ns)), []]).take ((findRows ws ns ++ [endB (chkM 149 (findRows ws ns)), []]).length - 2) = findRows ws ns := by simp
 rw [e]
 have hs := lenSm hl
 have h1 : rstepG ([], []) (lineB (wordG 0) [(ws.length : Int)]) = some ([], []) := by
  unfold rstepG
  rw [tellG 0 hs, headG_line 0 hs]
  simp only
  rw [noteOf_word0]
  simp [wordG]
 have h2 : rgoG ([], []) (findRows ws ns) = some (ws, ns) := by
  simp only [findRows, rgoG]
  rw [h1]
  simp only
  rw [rgoG_app, rgoG_whs ws _ h.1]
  simp only
  rw [rgoG_notes ns _ h.2]
  simp
 rw [h2]
 simp
theorem rreadG_some {s : List UInt8} {ws : List Wh} {ns : List Note} (h : rreadG s = some (ws, ns)) : s = findText ws ns ∧ StSm (ws, ns) := by
 unfold rreadG at h
 split at h
 ·cases h
 ·rename_i f hf
  split at h
  ·rename_i ht
   cases h
   exact ⟨ht.symm, (rgoG_ok _ _ _ st0 hf).1⟩
  ·cases h
theorem readG_same (s : List UInt8) (hl : s.length ≤ 99998) : rreadG s = gread s := by
 have hp := (pieces_len 10 s).2
 cases h : gread s with
 | some f =>
  obtain ⟨ws, ns⟩ := f
  obtain ⟨h1, h2⟩ := gread_some h
  have h3 : ws.length ≤ 99999 := by
   have := find_pieces h2
   rw [← h1] at this
   rw [this] at hp
   simp [findRows] at hp
   omega
  rw [h1]; exact rreadG_text h2 h3
 | none =>
  cases h2 : rreadG s with
  | none => rfl
  | some f =>
   obtain ⟨ws, ns⟩ := f
   rw [gread_iff.2 (rreadG_some h2)] at h; cases h
theorem greadP_short {P : List (List UInt8)} {s : List UInt8} (h : P.length < 3) : greadP P s = none := by unfold greadP; rw [if_pos h]
theorem ggo_none_app {R : List (List UInt8)} {st : List Wh × List Note} (U : List (List UInt8)) (h : ggo st R = none) : ggo st (R ++ U) = none := by rw [ggo_app, h]
theorem ggo_snoc (R : List (List UInt8)) (r : List UInt8) (st : List Wh × List Note) : ggo st (R ++ [r]) = match ggo st R with | none => none | some st' => gstep st' r := by
 rw [ggo_app]
 cases ggo st R with
 | none => rfl
 | some st' =>
  simp only [ggo]
  cases gstep st' r <;> rfl
/-- a row that gives nothing, whatever came before -/
theorem ggo_fail {R : List (List UInt8)} {j : Nat} {r : List UInt8} {st : List Wh × List Note} (h : R[j]? = some r) (hn : ∀ st', gstep st' r = none) : ggo st R = none := by
 have hl : j < R.length := (List.getElem?_eq_some_iff.1 h).1
 have hr : R[j] = r := (List.getElem?_eq_some_iff.1 h).2
 have e : R = R.take j ++ [r] ++ R.drop (j + 1) := by
  rw [← hr, ← List.take_succ_eq_append_getElem hl, List.take_append_drop]
 rw [e]
 refine ggo_none_app _ ?_
 rw [ggo_snoc]
 cases ggo st (R.take j) with
 | none => rfl
 | some st' => exact hn st'
theorem gstep_told {r : List UInt8} (h : toldB r = none) (st : List Wh × List Note) : gstep st r = none := by unfold gstep; rw [h]
theorem gstep_two {r : List UInt8} {x : List Int} (h : toldB r = some x) (hw : headG r = wordG 1) (hx : x.length ≠ 2) (st : List Wh × List Note) : gstep st r = none := by
 unfold gstep
 rw [h]
 simp only
 rw [if_pos hw, if_neg hx]
theorem gstep_none {r : List UInt8} {x : List Int} (h : toldB r = some x) (hw : headG r ≠ wordG 1) (hx : noteOf (headG r) x = none) (st : List Wh × List Note) : gstep st r = none := by
 unfold gstep
 rw [h]
 simp only
 rw [if_neg hw, hx]
theorem greadP_go {P : List (List UInt8)} {s : List UInt8} (h : ggo ([], []) ((P.drop 1).take (P.length - 3)) = none) : greadP P s = none := by
 unfold greadP
 rw [h]
 split <;> rfl
theorem greadP_text {P : List (List UInt8)} {s : List UInt8} {ws : List Wh} {ns : List Note} (h : ggo ([], []) ((P.drop 1).take (P.length - 3)) = some (ws, ns)) (ht : findText ws ns ≠ s) : greadP P s = none := by
 unfold greadP
 rw [h]
 split
 ·rfl
 ·simp only
  rw [if_neg ht]
theorem greadP_of {P : List (List UInt8)} {s : List UInt8} {ws : List Wh} {ns : List Note} (hp : 3 ≤ P.length) (h : ggo ([], []) ((P.drop 1).take (P.length - 3)) = some (ws, ns)) (ht : findText ws ns = s) : greadP P s = some (ws, ns) := by
 unfold greadP
 rw [h, if_neg (by omega)]
 simp only
 rw [if_pos ht]
end Go.Proofs.YthenlopnlaiodaaGreatDoor
end
