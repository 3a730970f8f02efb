/- Walk, package plate: a piece with one wheel more. Walk: the chapter's piece. Walks, package journeyman: Parse of a line that is none; question. -/
import Derived.Test.YtdocgmafbacjcaaGreatDoorMT7
import Derived.Test.YtdocgmafbacjcaaGreatDoorMT10
import Derived.Test.YtdocgmafbacjcaaGreatDoorMT13
section
namespace Go.Proofs.YtdocgmafbacjcaaGreatDoor
open Go.RowKit Go.Shelf

theorem own_baseS {w : World} {b b' : Nat} {E : TypeId} {k : Nat} {v : Value} {rows : List (List Value)} (h : OwnS w b E k v rows) (hb : b' ≤ b) : OwnS w b' E k v rows := by
 refine ⟨⟨h.1.1, ?_⟩, h.2⟩
 rcases h.1.2 with h1 | ⟨g, cap, cur, h1, h2, h3⟩
 ·exact Or.inl h1
 ·exact Or.inr ⟨g, cap, cur, h1, Nat.le_trans hb h2, h3⟩
theorem info_pt : (Tryz.prog.info? 72).map (fun i => (i.zero, i.size, i.bytes)) = some (some (.agg #[.int .i64 0, .int .i64 0]), 2, 16) := by kernel_rfl
theorem info_pwh : (Tryz.prog.info? 147).map (fun i => (i.zero, i.size, i.bytes)) = some (some (.agg #[.int .i64 0, .int .i64 0, .int .i64 0, .int .i64 0]), 4, 32) := by kernel_rfl
theorem info_pms : (Tryz.prog.info? 151).map (fun i => (i.zero, i.size, i.bytes)) = some (some (.agg #[.int .i64 0, .int .i64 0]), 2, 16) := by kernel_rfl
section
variable {o : Oper} {a : Act} {w : World} {K : Act → World → Prop} {Q : Exit → Act → World → Prop}
theorem wp_build_PlatePoint {x : Nat} {d v : Int} (ho : o.op = .buildSlice 75 1 #[(0, .tmp x)]) (hx : a.tmps.getD x undef = .agg #[.int .i64 d, .int .i64 v])
  (h : ∀ g w', w.heap.size = g → Blk w' g 72 #[.int .i64 d, .int .i64 v] → Below w.heap.size w w' → K (a.put o.dst (.slice (some ⟨g, 0, none⟩) 1 1)) w') : o.wp Tryz.prog a w K Q := by
 have h1 := h w.heap.size (w.alloc (.cells #[.int .i64 d, .int .i64 v] 72)) rfl (Blk.new w _ _) (fr_alloc (fr_refl w) _)
 obtain ⟨dst, op, ty, pos, after, guard⟩ := o
 simp only at ho
 subst ho
 have hx' : a.tmps[x]?.getD undef = .agg #[.int .i64 d, .int .i64 v] := by simpa using hx
 go_simp
 exact h1
theorem wp_build_pwh {x : Nat} {d v e f : Int} (ho : o.op = .buildSlice 76 1 #[(0, .tmp x)]) (hx : a.tmps.getD x undef = .agg #[.int .i64 d, .int .i64 v, .int .i64 e, .int .i64 f])
  (h : ∀ g w', w.heap.size = g → Blk w' g 147 #[.int .i64 d, .int .i64 v, .int .i64 e, .int .i64 f] → Below w.heap.size w w' → K (a.put o.dst (.slice (some ⟨g, 0, none⟩) 1 1)) w') : o.wp Tryz.prog a w K Q := by
 have h1 := h w.heap.size (w.alloc (.cells #[.int .i64 d, .int .i64 v, .int .i64 e, .int .i64 f] 147)) rfl (Blk.new w _ _) (fr_alloc (fr_refl w) _)
 obtain ⟨dst, op, ty, pos, after, guard⟩ := o
 simp only at ho
 subst ho
 have hx' : a.tmps[x]?.getD undef = .agg #[.int .i64 d, .int .i64 v, .int .i64 e, .int .i64 f] := by simpa using hx
 go_simp
 exact h1
end
theorem Exc.rdS {S : Nat → Prop} {w W : World} {A : Option Addr} {k : Nat} {rows : List (List Value)} (h : Exc S w W) (hr : RdS w A k rows) (hA : ∀ ad, A = some ad → ¬ S ad.block) : RdS W A k rows := fun hn => by
 obtain ⟨ad, e, hlt, hc⟩ := hr hn
 exact ⟨ad, e, Nat.lt_of_lt_of_le hlt h.size, fun i r hi => ⟨(hc i r hi).1, fun j v hv => (h.cell (by rw [block_of_add]; exact hlt) (by rw [block_of_add]; exact hA ad e)).trans ((hc i r hi).2 j v hv)⟩⟩
set_option maxRecDepth 100000 in
set_option maxHeartbeats 16000000 in
theorem with_is (pw ph pp pg po : Int) (b1 f1 b2 f2 b3 f3 n nc m mc k kc : Nat) (x y la te : Int) (O : Option Addr) (q qc : Nat) (cs : List PPt) (ws : List PWh) (ms : List (Int × Int)) (os : List Int) (w : World)
  (hA : RdS w (some ⟨b1, f1, none⟩) 2 (cs.map PPt.cells)) (hn : cs.length = n) (hB : RdS w (some ⟨b2, f2, none⟩) 4 (ws.map PWh.cells)) (hm : ws.length = m) (hM : RdS w (some ⟨b3, f3, none⟩) 2 (ms.map ptC)) (hk : ms.length = k) (hO : Rd w O q os) (hbd : n ≤ 100 ∧ m ≤ 100 ∧ k ≤ 100 ∧ q ≤ 100) (hold : b2 < w.heap.size ∧ b3 < w.heap.size) (hoO : ∀ ad, O = some ad → ad.block < w.heap.size) :
  Calls Tryz.prog 81 #[.agg #[.int .i64 pw, .int .i64 ph, .int .i64 pp, .int .i64 pg, .int .i64 po, .slice (some ⟨b1, f1, none⟩) n nc, .slice (some ⟨b2, f2, none⟩) m mc, .slice (some ⟨b3, f3, none⟩) k kc], .agg #[.int .i64 x, .int .i64 y], .int .i64 la, .int .i64 te, .slice O q qc] w fun e w' => ∃ A B M ac bc mc', e = .returned (.agg #[.int .i64 pw, .int .i64 ph, .int .i64 pp, .int .i64 pg, .int .i64 po, .slice A (n + 1) ac, .slice B (m + 1) bc, .slice M (k + q) mc']) ∧ RdS w' A 2 ((cs ++ [(⟨x, y⟩ : PPt)]).map PPt.cells) ∧ RdS w' B 4 ((ws ++ [(⟨n, 0, la, te⟩ : PWh)]).map PWh.cells) ∧ RdS w' M 2 ((ms ++ os.map (fun z => (z, (m : Int)))).map ptC) ∧ (Fresh w.heap.size A ∧ Fresh w.heap.size B) ∧ Below w.heap.size w w' := by
 have hb0 := fr_alloc (fr_alloc (fr_alloc (fr_refl w) (.cells #[.int .i64 pw, .int .i64 ph, .int .i64 pp, .int .i64 pg, .int .i64 po, .slice (some ⟨b1, f1, none⟩) n nc, .slice (some ⟨b2, f2, none⟩) m mc, .slice (some ⟨b3, f3, none⟩) k kc] 79)) (.cells #[.int .i64 x, .int .i64 y] 72)) (.cells #[.int .i64 0, .int .i64 0, .int .i64 0, .int .i64 0, .int .i64 0, .slice none 0 0, .slice none 0 0, .slice none 0 0] 79)
 have hX : Blk (((w.alloc (.cells #[.int .i64 pw, .int .i64 ph, .int .i64 pp, .int .i64 pg, .int .i64 po, .slice (some ⟨b1, f1, none⟩) n nc, .slice (some ⟨b2, f2, none⟩) m mc, .slice (some ⟨b3, f3, none⟩) k kc] 79)).alloc (.cells #[.int .i64 x, .int .i64 y] 72)).alloc (.cells #[.int .i64 0, .int .i64 0, .int .i64 0, .int .i64 0, .int .i64 0, .slice none 0 0, .slice none 0 0, .slice none 0 0] 79)) w.heap.size 79 #[.int .i64 pw, .int .i64 ph, .int .i64 pp, .int .i64 pg, .int .i64 po, .slice (some ⟨b1, f1, none⟩) n nc, .slice (some ⟨b2, f2, none⟩) m mc, .slice (some ⟨b3, f3, none⟩) k kc] := ((Blk.new w _ _).alloc _).alloc _
 have hP : Blk (((w.alloc (.cells #[.int .i64 pw, .int .i64 ph, .int .i64 pp, .int .i64 pg, .int .i64 po, .slice (some ⟨b1, f1, none⟩) n nc, .slice (some ⟨b2, f2, none⟩) m mc, .slice (some ⟨b3, f3, none⟩) k kc] 79)).alloc (.cells #[.int .i64 x, .int .i64 y] 72)).alloc (.cells #[.int .i64 0, .int .i64 0, .int .i64 0, .int .i64 0, .int .i64 0, .slice none 0 0, .slice none 0 0, .slice none 0 0] 79)) (w.heap.size + 1) 72 #[.int .i64 x, .int .i64 y] := (Blk.new_at _ _ (by simp)).alloc _
 have hZ : Blk (((w.alloc (.cells #[.int .i64 pw, .int .i64 ph, .int .i64 pp, .int .i64 pg, .int .i64 po, .slice (some ⟨b1, f1, none⟩) n nc, .slice (some ⟨b2, f2, none⟩) m mc, .slice (some ⟨b3, f3, none⟩) k kc] 79)).alloc (.cells #[.int .i64 x, .int .i64 y] 72)).alloc (.cells #[.int .i64 0, .int .i64 0, .int .i64 0, .int .i64 0, .int .i64 0, .slice none 0 0, .slice none 0 0, .slice none 0 0] 79)) (w.heap.size + 1 + 1) 79 #[.int .i64 0, .int .i64 0, .int .i64 0, .int .i64 0, .int .i64 0, .slice none 0 0, .slice none 0 0, .slice none 0 0] := Blk.new_at _ _ (by simp)
 obtain ⟨w1, hw1⟩ : ∃ w1, ((w.alloc (.cells #[.int .i64 pw, .int .i64 ph, .int .i64 pp, .int .i64 pg, .int .i64 po, .slice (some ⟨b1, f1, none⟩) n nc, .slice (some ⟨b2, f2, none⟩) m mc, .slice (some ⟨b3, f3, none⟩) k kc] 79)).alloc (.cells #[.int .i64 x, .int .i64 y] 72)).alloc (.cells #[.int .i64 0, .int .i64 0, .int .i64 0, .int .i64 0, .int .i64 0, .slice none 0 0, .slice none 0 0, .slice none 0 0] 79) = w1 := ⟨_, rfl⟩
 rw [hw1] at hb0 hX hP hZ
 replace hA := hA.keep hb0
 replace hB := hB.keep hb0
 replace hM := hM.keep hb0
 replace hO := hO.keep hb0
 have HN := Lib.hid hn
 have HM := Lib.hid hm
 have HK := Lib.hid hk
 clear hn hm hk
 have hcX := fun j => hX.cell j
 have hlX := hX.lt
 have hlP := hP.lt
 have hlZ := hZ.lt
 go_enter Tryz.func81, Tryz.ntmps81
 go_upto_region 1 with (fail)
 (try rw [hw1])
 clear hw1
 go_wp2_with fail
 clear hcX
 have hbz := fr_drew (fr_refl w1)
 have hkS : ∀ W, Below w1.heap.size w1 W → W.cell? ⟨w.heap.size + 1, 0, none⟩ = some (.int .i64 x) ∧ W.cell? ⟨w.heap.size + 1, 1, none⟩ = some (.int .i64 y) := fun W hb => ⟨(hb.cell (p := ⟨w.heap.size + 1, 0, none⟩) hlP).trans (hP.cell 0), (hb.cell (p := ⟨w.heap.size + 1, 1, none⟩) hlP).trans (hP.cell 1)⟩
 go_cut [11] from 17 (fun s11 wc => s11 = .int .i64 m ∧ ∃ A2 c2, Blk wc w.heap.size 79 #[.int .i64 pw, .int .i64 ph, .int .i64 pp, .int .i64 pg, .int .i64 po, .slice A2 (n + 1) c2, .slice (some ⟨b2, f2, none⟩) m mc, .slice (some ⟨b3, f3, none⟩) k kc] ∧ OwnS wc w1.heap.size 72 2 (.slice A2 (n + 1) c2) (cs.map PPt.cells ++ [PPt.cells ⟨x, y⟩]) ∧ Exc (fun i => i = w.heap.size) w1 wc)
 case first =>
  refine wp_region_noPanic ?_
  refine wp_region_held_drew (S := fun W => W.cell? ⟨w.heap.size + 1, 0, none⟩ = some (.int .i64 x) ∧ W.cell? ⟨w.heap.size + 1, 1, none⟩ = some (.int .i64 y)) (by kernel_rfl) (hkS _ hbz) (fun hHeld => ?_)
  generalize w1.drew = wz at hbz hHeld ⊢
  -- the region, step by step, in whatever order
  refine tkH 0 ⟨some 17, .fieldAddr 79 (.tmp 5) 5, 0, "turn.go:103", #[], none⟩ hHeld ?_
  refine tkH 3 ⟨some 20, .load 72 (.tmp 6), 72, "turn.go:103", #[], none⟩ hHeld ?_
  refine wpAnyH_ready (rs := [1, 4]) (by kernel_rfl) (by simp) ?_
  refine (AllReadyH.cons (o := ⟨some 18, .load 75 (.tmp 17), 75, "turn.go:103", #[⟨0, .data⟩], none⟩) rfl (fun K hK => ?_) (AllReadyH.cons (o := ⟨some 21, .buildSlice 75 1 #[(0, .tmp 20)], 75, "turn.go:103", #[⟨3, .data⟩], none⟩) rfl (fun K hK => ?_) AllReadyH.nil))
  ·rw [if_pos (by rfl)]
   have hc5 := (hX.keep hbz).cell 5
   go_simp
   refine hK.out _ _ (hkS _ hbz) (fun hHeld => ?_)
   clear hK K
   (try simp only [Act.put, List.setIfInBounds_toArray, List.set_cons_zero, List.set_cons_succ])
   refine wpAnyH_ready (rs := [2, 4]) (by kernel_rfl) (by simp) ?_
   refine (AllReadyH.cons (o := ⟨some 19, .call { callee := .value (.func 141), args := #[.tmp 18], argTypes := #[75] }, 75, "turn.go:103", #[⟨1, .data⟩], none⟩) rfl (fun K hK => ?_) (AllReadyH.cons (o := ⟨some 21, .buildSlice 75 1 #[(0, .tmp 20)], 75, "turn.go:103", #[⟨3, .data⟩], none⟩) rfl (fun K hK => ?_) AllReadyH.nil))
   ·rw [if_pos (by rfl)]
    go_simp
    refine (clone_Pt b1 f1 n nc (cs.map PPt.cells) wz (hA.keep hbz) (by rw [List.length_map]; exact HN.out) (by intro r hr; obtain ⟨p, _, rfl⟩ := List.mem_map.1 hr; rfl) (by intro r hr u hu; obtain ⟨p, _, rfl⟩ := List.mem_map.1 hr; simp only [PPt.cells, List.mem_cons, List.not_mem_nil, or_false] at hu; rcases hu with rfl | rfl <;> rfl) (by omega)).mono ?_
    rintro e' wz ⟨A1, c1, rfl, hown, hb1⟩
    replace hown := own_baseS hown hbz.size
    replace hbz := fr_call hbz hb1
    (try replace hG := hG.keep hb1)
    refine hK.out _ _ (hkS _ hbz) (fun hHeld => ?_)
    clear hK K
    (try simp only [Act.put, List.setIfInBounds_toArray, List.set_cons_zero, List.set_cons_succ])
    refine rdH 4 ⟨some 21, .buildSlice 75 1 #[(0, .tmp 20)], 75, "turn.go:103", #[⟨3, .data⟩], none⟩ fun K hK => ?_
    refine wp_build_PlatePoint rfl rfl ?_
    intro g wz hgz hG hb1
    replace hbz := fr_call hbz hb1
    (try replace hown := hown.keep hb1)
    refine hK.out _ _ (hkS _ hbz) (fun hHeld => ?_)
    clear hK K
    (try simp only [Act.put, List.setIfInBounds_toArray, List.set_cons_zero, List.set_cons_succ])
    refine rdH 5 ⟨some 22, .call { callee := .builtin .append, args := #[.tmp 19, .tmp 21], argTypes := #[75, 75] }, 75, "turn.go:103", #[⟨2, .data⟩, ⟨4, .data⟩, ⟨2, .chain⟩], none⟩ fun K hK => ?_
    refine wp_app_row (.tmp 19) (.tmp 21) rfl Tryz.underlying75 info_pt rfl (by omega) (by omega) w1.heap.size _ (cs.map PPt.cells) rfl hown g rfl (r := PPt.cells ⟨x, y⟩) hG rfl (by intro u hu; simp only [PPt.cells, List.mem_cons, List.not_mem_nil, or_false] at hu; rcases hu with rfl | rfl <;> rfl) (by rw [List.length_map]; have := HN.out; omega) hbz.size ?_
    intro A2 c2 wz hown2 hgr
    rw [List.length_map, HN.out] at hown2 ⊢
    replace hbz := hbz.grown hgr hbz.size hown.ge
    clear hown hG
    refine hK.out _ _ (hkS _ hbz) (fun hHeld => ?_)
    clear hK K
    (try simp only [Act.put, List.setIfInBounds_toArray, List.set_cons_zero, List.set_cons_succ])
    refine tkH 6 ⟨some 23, .fieldAddr 79 (.tmp 5) 5, 0, "turn.go:103", #[⟨0, .phase⟩, ⟨1, .phase⟩, ⟨2, .phase⟩, ⟨3, .phase⟩, ⟨4, .phase⟩, ⟨5, .phase⟩], none⟩ hHeld ?_
    refine rdH 7 ⟨none, .store 75 (.tmp 23) (.tmp 22), 0, "turn.go:103", #[⟨6, .data⟩, ⟨5, .data⟩, ⟨5, .chain⟩, ⟨0, .phase⟩, ⟨1, .phase⟩, ⟨2, .phase⟩, ⟨3, .phase⟩, ⟨4, .phase⟩, ⟨5, .phase⟩], none⟩ fun K hK => ?_
    have hXz := hX.keep hbz
    have hcz := hXz.cell 5
    have hfz := hXz.frozen 5
    go_simp
    have hX2 := hXz.set_ 5 (.slice A2 (n + 1) c2)
    have hgs := grown_set wz ⟨w.heap.size, 5, none⟩ (.slice A2 (n + 1) c2)
    have hP2 := (hP.keep hbz).grown hgs (by simp)
    refine hK.out _ _ (⟨hP2.cell 0, hP2.cell 1⟩) (fun hHeld => ?_)
    clear hK K
    refine wpAnyH_done (by kernel_rfl) ?_ _
    refine NoPanic.normal ?_
    have hE2 : Exc (fun i => i = w.heap.size) w1 (wz.setCell ⟨w.heap.size, 5, none⟩ (.slice A2 (n + 1) c2)) := ((Exc.refl (fun i => i = w.heap.size) w1).below hbz).set (p := ⟨w.heap.size, 5, none⟩) (Or.inl rfl) _
    have ho2 := hown2.far hgs hlX
    go_wp2_with fail
    go_meet
    case rel => exact ⟨rfl, A2, c2, hX2, ho2, hE2⟩
   ·rw [if_pos (by rfl)]
    refine wp_build_PlatePoint rfl rfl ?_
    intro g wz hgz hG hb1
    replace hbz := fr_call hbz hb1
    (try replace hown := hown.keep hb1)
    refine hK.out _ _ (hkS _ hbz) (fun hHeld => ?_)
    clear hK K
    (try simp only [Act.put, List.setIfInBounds_toArray, List.set_cons_zero, List.set_cons_succ])
    refine rdH 2 ⟨some 19, .call { callee := .value (.func 141), args := #[.tmp 18], argTypes := #[75] }, 75, "turn.go:103", #[⟨1, .data⟩], none⟩ fun K hK => ?_
    go_simp
    refine (clone_Pt b1 f1 n nc (cs.map PPt.cells) wz (hA.keep hbz) (by rw [List.length_map]; exact HN.out) (by intro r hr; obtain ⟨p, _, rfl⟩ := List.mem_map.1 hr; rfl) (by intro r hr u hu; obtain ⟨p, _, rfl⟩ := List.mem_map.1 hr; simp only [PPt.cells, List.mem_cons, List.not_mem_nil, or_false] at hu; rcases hu with rfl | rfl <;> rfl) (by omega)).mono ?_
    rintro e' wz ⟨A1, c1, rfl, hown, hb1⟩
    replace hown := own_baseS hown hbz.size
    replace hbz := fr_call hbz hb1
    (try replace hG := hG.keep hb1)
    refine hK.out _ _ (hkS _ hbz) (fun hHeld => ?_)
    clear hK K
    (try simp only [Act.put, List.setIfInBounds_toArray, List.set_cons_zero, List.set_cons_succ])
    refine rdH 5 ⟨some 22, .call { callee := .builtin .append, args := #[.tmp 19, .tmp 21], argTypes := #[75, 75] }, 75, "turn.go:103", #[⟨2, .data⟩, ⟨4, .data⟩, ⟨2, .chain⟩], none⟩ fun K hK => ?_
    refine wp_app_row (.tmp 19) (.tmp 21) rfl Tryz.underlying75 info_pt rfl (by omega) (by omega) w1.heap.size _ (cs.map PPt.cells) rfl hown g rfl (r := PPt.cells ⟨x, y⟩) hG rfl (by intro u hu; simp only [PPt.cells, List.mem_cons, List.not_mem_nil, or_false] at hu; rcases hu with rfl | rfl <;> rfl) (by rw [List.length_map]; have := HN.out; omega) hbz.size ?_
    intro A2 c2 wz hown2 hgr
    rw [List.length_map, HN.out] at hown2 ⊢
    replace hbz := hbz.grown hgr hbz.size hown.ge
    clear hown hG
    refine hK.out _ _ (hkS _ hbz) (fun hHeld => ?_)
    clear hK K
    (try simp only [Act.put, List.setIfInBounds_toArray, List.set_cons_zero, List.set_cons_succ])
    refine tkH 6 ⟨some 23, .fieldAddr 79 (.tmp 5) 5, 0, "turn.go:103", #[⟨0, .phase⟩, ⟨1, .phase⟩, ⟨2, .phase⟩, ⟨3, .phase⟩, ⟨4, .phase⟩, ⟨5, .phase⟩], none⟩ hHeld ?_
    refine rdH 7 ⟨none, .store 75 (.tmp 23) (.tmp 22), 0, "turn.go:103", #[⟨6, .data⟩, ⟨5, .data⟩, ⟨5, .chain⟩, ⟨0, .phase⟩, ⟨1, .phase⟩, ⟨2, .phase⟩, ⟨3, .phase⟩, ⟨4, .phase⟩, ⟨5, .phase⟩], none⟩ fun K hK => ?_
    have hXz := hX.keep hbz
    have hcz := hXz.cell 5
    have hfz := hXz.frozen 5
    go_simp
    have hX2 := hXz.set_ 5 (.slice A2 (n + 1) c2)
    have hgs := grown_set wz ⟨w.heap.size, 5, none⟩ (.slice A2 (n + 1) c2)
    have hP2 := (hP.keep hbz).grown hgs (by simp)
    refine hK.out _ _ (⟨hP2.cell 0, hP2.cell 1⟩) (fun hHeld => ?_)
    clear hK K
    refine wpAnyH_done (by kernel_rfl) ?_ _
    refine NoPanic.normal ?_
    have hE2 : Exc (fun i => i = w.heap.size) w1 (wz.setCell ⟨w.heap.size, 5, none⟩ (.slice A2 (n + 1) c2)) := ((Exc.refl (fun i => i = w.heap.size) w1).below hbz).set (p := ⟨w.heap.size, 5, none⟩) (Or.inl rfl) _
    have ho2 := hown2.far hgs hlX
    go_wp2_with fail
    go_meet
    case rel => exact ⟨rfl, A2, c2, hX2, ho2, hE2⟩
  ·rw [if_pos (by rfl)]
   refine wp_build_PlatePoint rfl rfl ?_
   intro g wz hgz hG hb1
   replace hbz := fr_call hbz hb1
   (try replace hown := hown.keep hb1)
   refine hK.out _ _ (hkS _ hbz) (fun hHeld => ?_)
   clear hK K
   (try simp only [Act.put, List.setIfInBounds_toArray, List.set_cons_zero, List.set_cons_succ])
   refine rdH 1 ⟨some 18, .load 75 (.tmp 17), 75, "turn.go:103", #[⟨0, .data⟩], none⟩ fun K hK => ?_
   have hc5 := (hX.keep hbz).cell 5
   go_simp
   refine hK.out _ _ (hkS _ hbz) (fun hHeld => ?_)
   clear hK K
   (try simp only [Act.put, List.setIfInBounds_toArray, List.set_cons_zero, List.set_cons_succ])
   refine rdH 2 ⟨some 19, .call { callee := .value (.func 141), args := #[.tmp 18], argTypes := #[75] }, 75, "turn.go:103", #[⟨1, .data⟩], none⟩ fun K hK => ?_
   go_simp
   refine (clone_Pt b1 f1 n nc (cs.map PPt.cells) wz (hA.keep hbz) (by rw [List.length_map]; exact HN.out) (by intro r hr; obtain ⟨p, _, rfl⟩ := List.mem_map.1 hr; rfl) (by intro r hr u hu; obtain ⟨p, _, rfl⟩ := List.mem_map.1 hr; simp only [PPt.cells, List.mem_cons, List.not_mem_nil, or_false] at hu; rcases hu with rfl | rfl <;> rfl) (by omega)).mono ?_
   rintro e' wz ⟨A1, c1, rfl, hown, hb1⟩
   replace hown := own_baseS hown hbz.size
   replace hbz := fr_call hbz hb1
   (try replace hG := hG.keep hb1)
   refine hK.out _ _ (hkS _ hbz) (fun hHeld => ?_)
   clear hK K
   (try simp only [Act.put, List.setIfInBounds_toArray, List.set_cons_zero, List.set_cons_succ])
   refine rdH 5 ⟨some 22, .call { callee := .builtin .append, args := #[.tmp 19, .tmp 21], argTypes := #[75, 75] }, 75, "turn.go:103", #[⟨2, .data⟩, ⟨4, .data⟩, ⟨2, .chain⟩], none⟩ fun K hK => ?_
   refine wp_app_row (.tmp 19) (.tmp 21) rfl Tryz.underlying75 info_pt rfl (by omega) (by omega) w1.heap.size _ (cs.map PPt.cells) rfl hown g rfl (r := PPt.cells ⟨x, y⟩) hG rfl (by intro u hu; simp only [PPt.cells, List.mem_cons, List.not_mem_nil, or_false] at hu; rcases hu with rfl | rfl <;> rfl) (by rw [List.length_map]; have := HN.out; omega) hbz.size ?_
   intro A2 c2 wz hown2 hgr
   rw [List.length_map, HN.out] at hown2 ⊢
   replace hbz := hbz.grown hgr hbz.size hown.ge
   clear hown hG
   refine hK.out _ _ (hkS _ hbz) (fun hHeld => ?_)
   clear hK K
   (try simp only [Act.put, List.setIfInBounds_toArray, List.set_cons_zero, List.set_cons_succ])
   refine tkH 6 ⟨some 23, .fieldAddr 79 (.tmp 5) 5, 0, "turn.go:103", #[⟨0, .phase⟩, ⟨1, .phase⟩, ⟨2, .phase⟩, ⟨3, .phase⟩, ⟨4, .phase⟩, ⟨5, .phase⟩], none⟩ hHeld ?_
   refine rdH 7 ⟨none, .store 75 (.tmp 23) (.tmp 22), 0, "turn.go:103", #[⟨6, .data⟩, ⟨5, .data⟩, ⟨5, .chain⟩, ⟨0, .phase⟩, ⟨1, .phase⟩, ⟨2, .phase⟩, ⟨3, .phase⟩, ⟨4, .phase⟩, ⟨5, .phase⟩], none⟩ fun K hK => ?_
   have hXz := hX.keep hbz
   have hcz := hXz.cell 5
   have hfz := hXz.frozen 5
   go_simp
   have hX2 := hXz.set_ 5 (.slice A2 (n + 1) c2)
   have hgs := grown_set wz ⟨w.heap.size, 5, none⟩ (.slice A2 (n + 1) c2)
   have hP2 := (hP.keep hbz).grown hgs (by simp)
   refine hK.out _ _ (⟨hP2.cell 0, hP2.cell 1⟩) (fun hHeld => ?_)
   clear hK K
   refine wpAnyH_done (by kernel_rfl) ?_ _
   refine NoPanic.normal ?_
   have hE2 : Exc (fun i => i = w.heap.size) w1 (wz.setCell ⟨w.heap.size, 5, none⟩ (.slice A2 (n + 1) c2)) := ((Exc.refl (fun i => i = w.heap.size) w1).below hbz).set (p := ⟨w.heap.size, 5, none⟩) (Or.inl rfl) _
   have ho2 := hown2.far hgs hlX
   go_wp2_with fail
   go_meet
   case rel => exact ⟨rfl, A2, c2, hX2, ho2, hE2⟩
 obtain ⟨rfl, A2, c2, hX2, ho2, hE2⟩ := hcut
 clear hbz hkS
 obtain ⟨w2, hw2⟩ : ∃ w2, w2 = wc := ⟨_, rfl⟩
 subst hw2
 have hB2 := hE2.rdS hB (by intro ad e; cases e; show ¬ b2 = w.heap.size; omega)
 have hlX2 := hX2.lt
 have z1 : IntKind.i64.wrap (((n + 1 : Nat) : Int) - 1) = (n : Int) := by rw [IntWalk.i64_in _ (by omega)]; omega
 have z2 : ((n + 1 : Nat) : Int) = (n : Int) + 1 := rfl
 have z3 : IntKind.i64.wrap ((n : Int)) = (n : Int) := IntWalk.i64_in _ (by omega)
 go_upto_region 3 with (fail)
 go_cut [11] from 24 (fun s11 wc => s11 = .int .i64 m ∧ ∃ B2 c3, Blk wc w.heap.size 79 #[.int .i64 pw, .int .i64 ph, .int .i64 pp, .int .i64 pg, .int .i64 po, .slice A2 (n + 1) c2, .slice B2 (m + 1) c3, .slice (some ⟨b3, f3, none⟩) k kc] ∧ OwnS wc w2.heap.size 147 4 (.slice B2 (m + 1) c3) (ws.map PWh.cells ++ [PWh.cells ⟨n, 0, la, te⟩]) ∧ Exc (fun i => i = w.heap.size) w2 wc)
 case first =>
  have hbz := fr_drew (fr_refl w2)
  have hkS : ∀ W, Below w2.heap.size w2 W → W.cell? ⟨w.heap.size, 5, none⟩ = some (.slice A2 (n + 1) c2) := fun W hb => (hb.cell (p := ⟨w.heap.size, 5, none⟩) hlX2).trans (hX2.cell 5)
  refine wp_region_noPanic ?_
  refine wp_region_held_drew (S := fun W => W.cell? ⟨w.heap.size, 5, none⟩ = some (.slice A2 (n + 1) c2)) (by kernel_rfl) (hkS _ hbz) (fun hHeld => ?_)
  generalize w2.drew = wz at hbz hHeld ⊢
  -- the region, step by step, in whatever order
  refine tkH 0 ⟨some 24, .fieldAddr 79 (.tmp 5) 6, 0, "turn.go:104", #[], none⟩ hHeld ?_
  refine tkH 3 ⟨some 27, .fieldAddr 79 (.tmp 5) 5, 0, "turn.go:104", #[], none⟩ hHeld ?_
  refine tkH 4 ⟨some 28, .load 75 (.tmp 27), 75, "turn.go:104", #[⟨3, .data⟩], none⟩ hHeld ?_
  refine tkH 5 ⟨some 29, .call { callee := .builtin .len, args := #[.tmp 28], argTypes := #[75] }, 3, "turn.go:104", #[⟨4, .data⟩], none⟩ hHeld ?_
  refine tkH 6 ⟨some 30, .binOp .sub 3 (.tmp 29) (.const (.int .i64 1)) 3, 3, "turn.go:104", #[⟨5, .data⟩], none⟩ hHeld ?_
  refine tkH 7 ⟨some 31, .move (.tmp 2), 3, "turn.go:104", #[], none⟩ hHeld ?_
  refine tkH 8 ⟨some 32, .move (.tmp 3), 3, "turn.go:104", #[], none⟩ hHeld ?_
  refine tkH 9 ⟨some 33, .build 147 #[(0, .tmp 30), (2, .tmp 31), (3, .tmp 32)], 147, "turn.go:104", #[⟨6, .data⟩, ⟨7, .data⟩, ⟨8, .data⟩], none⟩ hHeld ?_
  refine wpAnyH_ready (rs := [1, 10]) (by kernel_rfl) (by simp) ?_
  refine (AllReadyH.cons (o := ⟨some 25, .load 76 (.tmp 24), 76, "turn.go:104", #[⟨0, .data⟩], none⟩) rfl (fun K hK => ?_) (AllReadyH.cons (o := ⟨some 34, .buildSlice 76 1 #[(0, .tmp 33)], 76, "turn.go:104", #[⟨9, .data⟩], none⟩) rfl (fun K hK => ?_) AllReadyH.nil))
  ·rw [if_pos (by rfl)]
   have hc6 := (hX2.keep hbz).cell 6
   go_simp
   refine hK.out _ _ (hkS _ hbz) (fun hHeld => ?_)
   clear hK K
   (try simp only [Act.put, List.setIfInBounds_toArray, List.set_cons_zero, List.set_cons_succ])
   refine wpAnyH_ready (rs := [2, 10]) (by kernel_rfl) (by simp) ?_
   refine (AllReadyH.cons (o := ⟨some 26, .call { callee := .value (.func 142), args := #[.tmp 25], argTypes := #[76] }, 76, "turn.go:104", #[⟨1, .data⟩], none⟩) rfl (fun K hK => ?_) (AllReadyH.cons (o := ⟨some 34, .buildSlice 76 1 #[(0, .tmp 33)], 76, "turn.go:104", #[⟨9, .data⟩], none⟩) rfl (fun K hK => ?_) AllReadyH.nil))
   ·rw [if_pos (by rfl)]
    go_simp
    refine (clone_Wl b2 f2 m mc (ws.map PWh.cells) wz (hB2.keep hbz) (by rw [List.length_map]; exact HM.out) (by intro r hr; obtain ⟨p, _, rfl⟩ := List.mem_map.1 hr; rfl) (by intro r hr u hu; obtain ⟨p, _, rfl⟩ := List.mem_map.1 hr; simp only [PWh.cells, List.mem_cons, List.not_mem_nil, or_false] at hu; rcases hu with rfl | rfl | rfl | rfl <;> rfl) (by omega)).mono ?_
    rintro e' wz ⟨B1, k1, rfl, hown, hb1⟩
    replace hown := own_baseS hown hbz.size
    replace hbz := fr_call hbz hb1
    (try replace hG := hG.keep hb1)
    refine hK.out _ _ (hkS _ hbz) (fun hHeld => ?_)
    clear hK K
    (try simp only [Act.put, List.setIfInBounds_toArray, List.set_cons_zero, List.set_cons_succ])
    refine rdH 10 ⟨some 34, .buildSlice 76 1 #[(0, .tmp 33)], 76, "turn.go:104", #[⟨9, .data⟩], none⟩ fun K hK => ?_
    refine wp_build_pwh rfl rfl ?_
    intro g wz hgz hG hb1
    replace hbz := fr_call hbz hb1
    (try replace hown := hown.keep hb1)
    refine hK.out _ _ (hkS _ hbz) (fun hHeld => ?_)
    clear hK K
    (try simp only [Act.put, List.setIfInBounds_toArray, List.set_cons_zero, List.set_cons_succ])
    refine rdH 11 ⟨some 35, .call { callee := .builtin .append, args := #[.tmp 26, .tmp 34], argTypes := #[76, 76] }, 76, "turn.go:104", #[⟨2, .data⟩, ⟨10, .data⟩, ⟨2, .chain⟩], none⟩ fun K hK => ?_
    refine wp_app_row (.tmp 26) (.tmp 34) rfl Tryz.underlying76 info_pwh rfl (by omega) (by omega) w2.heap.size _ (ws.map PWh.cells) rfl hown g rfl (r := PWh.cells ⟨n, 0, la, te⟩) hG rfl (by intro u hu; simp only [PWh.cells, List.mem_cons, List.not_mem_nil, or_false] at hu; rcases hu with rfl | rfl | rfl | rfl <;> rfl) (by rw [List.length_map]; have := HM.out; omega) hbz.size ?_
    intro B2 c3 wz hown2 hgr
    rw [List.length_map, HM.out] at hown2 ⊢
    replace hbz := hbz.grown hgr hbz.size hown.ge
    clear hown hG
    refine hK.out _ _ (hkS _ hbz) (fun hHeld => ?_)
    clear hK K
    (try simp only [Act.put, List.setIfInBounds_toArray, List.set_cons_zero, List.set_cons_succ])
    refine tkH 12 ⟨some 36, .fieldAddr 79 (.tmp 5) 6, 0, "turn.go:104", #[⟨0, .phase⟩, ⟨1, .phase⟩, ⟨2, .phase⟩, ⟨3, .phase⟩, ⟨4, .phase⟩, ⟨5, .phase⟩, ⟨6, .phase⟩, ⟨7, .phase⟩, ⟨8, .phase⟩, ⟨9, .phase⟩, ⟨10, .phase⟩, ⟨11, .phase⟩], none⟩ hHeld ?_
    refine rdH 13 ⟨none, .store 76 (.tmp 36) (.tmp 35), 0, "turn.go:104", #[⟨12, .data⟩, ⟨11, .data⟩, ⟨11, .chain⟩, ⟨0, .phase⟩, ⟨1, .phase⟩, ⟨2, .phase⟩, ⟨3, .phase⟩, ⟨4, .phase⟩, ⟨5, .phase⟩, ⟨6, .phase⟩, ⟨7, .phase⟩, ⟨8, .phase⟩, ⟨9, .phase⟩, ⟨10, .phase⟩, ⟨11, .phase⟩], none⟩ fun K hK => ?_
    have hXz := hX2.keep hbz
    have hcz := hXz.cell 6
    have hfz := hXz.frozen 6
    go_simp
    have hX3 := hXz.set_ 6 (.slice B2 (m + 1) c3)
    have hgs := grown_set wz ⟨w.heap.size, 6, none⟩ (.slice B2 (m + 1) c3)
    refine hK.out _ _ (hX3.cell 5) (fun hHeld => ?_)
    clear hK K
    refine wpAnyH_done (by kernel_rfl) ?_ _
    refine NoPanic.normal ?_
    have hE3 : Exc (fun i => i = w.heap.size) w2 (wz.setCell ⟨w.heap.size, 6, none⟩ (.slice B2 (m + 1) c3)) := ((Exc.refl (fun i => i = w.heap.size) w2).below hbz).set (p := ⟨w.heap.size, 6, none⟩) (Or.inl rfl) _
    have ho3 := hown2.far hgs (by omega)
    go_wp2_with fail
    go_meet
    case rel => exact ⟨rfl, B2, c3, hX3, ho3, hE3⟩
   ·rw [if_pos (by rfl)]
    refine wp_build_pwh rfl rfl ?_
    intro g wz hgz hG hb1
    replace hbz := fr_call hbz hb1
    (try replace hown := hown.keep hb1)
    refine hK.out _ _ (hkS _ hbz) (fun hHeld => ?_)
    clear hK K
    (try simp only [Act.put, List.setIfInBounds_toArray, List.set_cons_zero, List.set_cons_succ])
    refine rdH 2 ⟨some 26, .call { callee := .value (.func 142), args := #[.tmp 25], argTypes := #[76] }, 76, "turn.go:104", #[⟨1, .data⟩], none⟩ fun K hK => ?_
    go_simp
    refine (clone_Wl b2 f2 m mc (ws.map PWh.cells) wz (hB2.keep hbz) (by rw [List.length_map]; exact HM.out) (by intro r hr; obtain ⟨p, _, rfl⟩ := List.mem_map.1 hr; rfl) (by intro r hr u hu; obtain ⟨p, _, rfl⟩ := List.mem_map.1 hr; simp only [PWh.cells, List.mem_cons, List.not_mem_nil, or_false] at hu; rcases hu with rfl | rfl | rfl | rfl <;> rfl) (by omega)).mono ?_
    rintro e' wz ⟨B1, k1, rfl, hown, hb1⟩
    replace hown := own_baseS hown hbz.size
    replace hbz := fr_call hbz hb1
    (try replace hG := hG.keep hb1)
    refine hK.out _ _ (hkS _ hbz) (fun hHeld => ?_)
    clear hK K
    (try simp only [Act.put, List.setIfInBounds_toArray, List.set_cons_zero, List.set_cons_succ])
    refine rdH 11 ⟨some 35, .call { callee := .builtin .append, args := #[.tmp 26, .tmp 34], argTypes := #[76, 76] }, 76, "turn.go:104", #[⟨2, .data⟩, ⟨10, .data⟩, ⟨2, .chain⟩], none⟩ fun K hK => ?_
    refine wp_app_row (.tmp 26) (.tmp 34) rfl Tryz.underlying76 info_pwh rfl (by omega) (by omega) w2.heap.size _ (ws.map PWh.cells) rfl hown g rfl (r := PWh.cells ⟨n, 0, la, te⟩) hG rfl (by intro u hu; simp only [PWh.cells, List.mem_cons, List.not_mem_nil, or_false] at hu; rcases hu with rfl | rfl | rfl | rfl <;> rfl) (by rw [List.length_map]; have := HM.out; omega) hbz.size ?_
    intro B2 c3 wz hown2 hgr
    rw [List.length_map, HM.out] at hown2 ⊢
    replace hbz := hbz.grown hgr hbz.size hown.ge
    clear hown hG
    refine hK.out _ _ (hkS _ hbz) (fun hHeld => ?_)
    clear hK K
    (try simp only [Act.put, List.setIfInBounds_toArray, List.set_cons_zero, List.set_cons_succ])
    refine tkH 12 ⟨some 36, .fieldAddr 79 (.tmp 5) 6, 0, "turn.go:104", #[⟨0, .phase⟩, ⟨1, .phase⟩, ⟨2, .phase⟩, ⟨3, .phase⟩, ⟨4, .phase⟩, ⟨5, .phase⟩, ⟨6, .phase⟩, ⟨7, .phase⟩, ⟨8, .phase⟩, ⟨9, .phase⟩, ⟨10, .phase⟩, ⟨11, .phase⟩], none⟩ hHeld ?_
    refine rdH 13 ⟨none, .store 76 (.tmp 36) (.tmp 35), 0, "turn.go:104", #[⟨12, .data⟩, ⟨11, .data⟩, ⟨11, .chain⟩, ⟨0, .phase⟩, ⟨1, .phase⟩, ⟨2, .phase⟩, ⟨3, .phase⟩, ⟨4, .phase⟩, ⟨5, .phase⟩, ⟨6, .phase⟩, ⟨7, .phase⟩, ⟨8, .phase⟩, ⟨9, .phase⟩, ⟨10, .phase⟩, ⟨11, .phase⟩], none⟩ fun K hK => ?_
    have hXz := hX2.keep hbz
    have hcz := hXz.cell 6
    have hfz := hXz.frozen 6
    go_simp
    have hX3 := hXz.set_ 6 (.slice B2 (m + 1) c3)
    have hgs := grown_set wz ⟨w.heap.size, 6, none⟩ (.slice B2 (m + 1) c3)
    refine hK.out _ _ (hX3.cell 5) (fun hHeld => ?_)
    clear hK K
    refine wpAnyH_done (by kernel_rfl) ?_ _
    refine NoPanic.normal ?_
    have hE3 : Exc (fun i => i = w.heap.size) w2 (wz.setCell ⟨w.heap.size, 6, none⟩ (.slice B2 (m + 1) c3)) := ((Exc.refl (fun i => i = w.heap.size) w2).below hbz).set (p := ⟨w.heap.size, 6, none⟩) (Or.inl rfl) _
    have ho3 := hown2.far hgs (by omega)
    go_wp2_with fail
    go_meet
    case rel => exact ⟨rfl, B2, c3, hX3, ho3, hE3⟩
  ·rw [if_pos (by rfl)]
   refine wp_build_pwh rfl rfl ?_
   intro g wz hgz hG hb1
   replace hbz := fr_call hbz hb1
   (try replace hown := hown.keep hb1)
   refine hK.out _ _ (hkS _ hbz) (fun hHeld => ?_)
   clear hK K
   (try simp only [Act.put, List.setIfInBounds_toArray, List.set_cons_zero, List.set_cons_succ])
   refine rdH 1 ⟨some 25, .load 76 (.tmp 24), 76, "turn.go:104", #[⟨0, .data⟩], none⟩ fun K hK => ?_
   have hc6 := (hX2.keep hbz).cell 6
   go_simp
   refine hK.out _ _ (hkS _ hbz) (fun hHeld => ?_)
   clear hK K
   (try simp only [Act.put, List.setIfInBounds_toArray, List.set_cons_zero, List.set_cons_succ])
   refine rdH 2 ⟨some 26, .call { callee := .value (.func 142), args := #[.tmp 25], argTypes := #[76] }, 76, "turn.go:104", #[⟨1, .data⟩], none⟩ fun K hK => ?_
   go_simp
   refine (clone_Wl b2 f2 m mc (ws.map PWh.cells) wz (hB2.keep hbz) (by rw [List.length_map]; exact HM.out) (by intro r hr; obtain ⟨p, _, rfl⟩ := List.mem_map.1 hr; rfl) (by intro r hr u hu; obtain ⟨p, _, rfl⟩ := List.mem_map.1 hr; simp only [PWh.cells, List.mem_cons, List.not_mem_nil, or_false] at hu; rcases hu with rfl | rfl | rfl | rfl <;> rfl) (by omega)).mono ?_
   rintro e' wz ⟨B1, k1, rfl, hown, hb1⟩
   replace hown := own_baseS hown hbz.size
   replace hbz := fr_call hbz hb1
   (try replace hG := hG.keep hb1)
   refine hK.out _ _ (hkS _ hbz) (fun hHeld => ?_)
   clear hK K
   (try simp only [Act.put, List.setIfInBounds_toArray, List.set_cons_zero, List.set_cons_succ])
   refine rdH 11 ⟨some 35, .call { callee := .builtin .append, args := #[.tmp 26, .tmp 34], argTypes := #[76, 76] }, 76, "turn.go:104", #[⟨2, .data⟩, ⟨10, .data⟩, ⟨2, .chain⟩], none⟩ fun K hK => ?_
   refine wp_app_row (.tmp 26) (.tmp 34) rfl Tryz.underlying76 info_pwh rfl (by omega) (by omega) w2.heap.size _ (ws.map PWh.cells) rfl hown g rfl (r := PWh.cells ⟨n, 0, la, te⟩) hG rfl (by intro u hu; simp only [PWh.cells, List.mem_cons, List.not_mem_nil, or_false] at hu; rcases hu with rfl | rfl | rfl | rfl <;> rfl) (by rw [List.length_map]; have := HM.out; omega) hbz.size ?_
   intro B2 c3 wz hown2 hgr
   rw [List.length_map, HM.out] at hown2 ⊢
   replace hbz := hbz.grown hgr hbz.size hown.ge
   clear hown hG
   refine hK.out _ _ (hkS _ hbz) (fun hHeld => ?_)
   clear hK K
   (try simp only [Act.put, List.setIfInBounds_toArray, List.set_cons_zero, List.set_cons_succ])
   refine tkH 12 ⟨some 36, .fieldAddr 79 (.tmp 5) 6, 0, "turn.go:104", #[⟨0, .phase⟩, ⟨1, .phase⟩, ⟨2, .phase⟩, ⟨3, .phase⟩, ⟨4, .phase⟩, ⟨5, .phase⟩, ⟨6, .phase⟩, ⟨7, .phase⟩, ⟨8, .phase⟩, ⟨9, .phase⟩, ⟨10, .phase⟩, ⟨11, .phase⟩], none⟩ hHeld ?_
   refine rdH 13 ⟨none, .store 76 (.tmp 36) (.tmp 35), 0, "turn.go:104", #[⟨12, .data⟩, ⟨11, .data⟩, ⟨11, .chain⟩, ⟨0, .phase⟩, ⟨1, .phase⟩, ⟨2, .phase⟩, ⟨3, .phase⟩, ⟨4, .phase⟩, ⟨5, .phase⟩, ⟨6, .phase⟩, ⟨7, .phase⟩, ⟨8, .phase⟩, ⟨9, .phase⟩, ⟨10, .phase⟩, ⟨11, .phase⟩], none⟩ fun K hK => ?_
   have hXz := hX2.keep hbz
   have hcz := hXz.cell 6
   have hfz := hXz.frozen 6
   go_simp
   have hX3 := hXz.set_ 6 (.slice B2 (m + 1) c3)
   have hgs := grown_set wz ⟨w.heap.size, 6, none⟩ (.slice B2 (m + 1) c3)
   refine hK.out _ _ (hX3.cell 5) (fun hHeld => ?_)
   clear hK K
   refine wpAnyH_done (by kernel_rfl) ?_ _
   refine NoPanic.normal ?_
   have hE3 : Exc (fun i => i = w.heap.size) w2 (wz.setCell ⟨w.heap.size, 6, none⟩ (.slice B2 (m + 1) c3)) := ((Exc.refl (fun i => i = w.heap.size) w2).below hbz).set (p := ⟨w.heap.size, 6, none⟩) (Or.inl rfl) _
   have ho3 := hown2.far hgs (by omega)
   go_wp2_with fail
   go_meet
   case rel => exact ⟨rfl, B2, c3, hX3, ho3, hE3⟩
 obtain ⟨rfl, B2, c3, hX3, ho3, hE3⟩ := hcut
 obtain ⟨w3, hw3⟩ : ∃ w3, w3 = wc := ⟨_, rfl⟩
 subst hw3
 have hF2 := ho2.fresh
 have hF3 := ho3.fresh
 have hs2 := hE2.size
 have hs3 := hE3.size
 have hA3 := hE3.rdS ho2.rd (by intro ad e; have := hF2 ad e; omega)
 have hB3 := ho3.rd
 have hE := hE2.trans_ hE3 (fun i h => Or.inl h)
 have hM3 := hE.rdS hM (by intro ad e; cases e; show ¬ b3 = w.heap.size; omega)
 have hO3 := hE.rd hO (by intro ad e; have := hoO ad e; omega)
 have hZ3 := hE.blk hZ (by omega)
 clear hB2 hX2 ho2 ho3 hE2 hE3 hA hB hM hO hX hZ
 have hcX := fun j => hX3.cell j
 have hlX3 := hX3.lt
 go_wp2_with fail
 refine (clone_Ms b3 f3 k kc (ms.map ptC) w3 hM3 (by rw [List.length_map]; exact HK.out) (by intro r hr; obtain ⟨p, _, rfl⟩ := List.mem_map.1 hr; rfl) (by intro r hr u hu; obtain ⟨p, _, rfl⟩ := List.mem_map.1 hr; simp only [ptC, List.mem_cons, List.not_mem_nil, or_false] at hu; rcases hu with rfl | rfl <;> rfl) (by omega)).mono ?_
 rintro e' w4 ⟨M1, k1, rfl, hown, hb4⟩
 clear hcX
 have hX4 := hX3.keep hb4
 have hcX := fun j => hX4.cell j
 have hfX := fun j => hX4.frozen j
 have hE4 : Exc (fun i => i = w.heap.size) w3 (w4.setCell ⟨w.heap.size, 7, none⟩ (.slice M1 k k1)) := ((Exc.refl (fun i => i = w.heap.size) w3).below hb4).set (p := ⟨w.heap.size, 7, none⟩) (Or.inl rfl) _
 have ho4 := hown.far (grown_set w4 ⟨w.heap.size, 7, none⟩ (.slice M1 k k1)) hlX3
 have hX5 : Blk (w4.setCell ⟨w.heap.size, 7, none⟩ (.slice M1 k k1)) w.heap.size 79 #[.int .i64 pw, .int .i64 ph, .int .i64 pp, .int .i64 pg, .int .i64 po, .slice A2 (n + 1) c2, .slice B2 (m + 1) c3, .slice M1 k k1] := hX4.set_ 7 (.slice M1 k k1)
 have HF := Lib.hid hF2
 have HF3 := Lib.hid hF3
 clear hown hb4 hP hX3 hM3 hF2 hF3
 go_wp2_with fail
 go_loopw [43] (fun t wr => ∃ j : Nat, j ≤ q ∧ t = .int .i64 j ∧ ∃ M c, Blk wr w.heap.size 79 #[.int .i64 pw, .int .i64 ph, .int .i64 pp, .int .i64 pg, .int .i64 po, .slice A2 (n + 1) c2, .slice B2 (m + 1) c3, .slice M (k + j) c] ∧ OwnS wr w3.heap.size 151 2 (.slice M (k + j) c) ((ms ++ (os.take j).map (fun z => (z, (m : Int)))).map ptC) ∧ Exc (fun i => i = w.heap.size) w3 wr) (fun t _ => q - (intOf t).toNat)
 case atStart => exact ⟨0, Nat.zero_le _, rfl, M1, k1, hX5, by simpa using ho4, hE4⟩
 case round =>
  clear hX4 hX5 ho4 hE4 hcX hfX
  obtain ⟨j, hj, rfl, M, c, hXr, hor, hEr⟩ := hrel
  have hsr := hEr.size
  by_cases hlt : j < q
  ·have hOr := hEr.rd hO3 (by intro ad e; have := hoO ad e; omega)
   have hOl := hOr.len
   obtain ⟨ad, rfl, hab, ca⟩ := hOr.at_ hlt
   have HTK := Lib.hid (show os.take (j + 1) = os.take j ++ [os[j]?.getD 0] from by
    rw [List.take_succ_eq_append_getElem (by omega), List.getElem?_eq_getElem (by omega)]
    rfl)
   have HLN := Lib.hid (show ((ms ++ (os.take j).map (fun z => (z, (m : Int)))).map ptC).length = k + j from by
    rw [List.length_map, List.length_append, List.length_map, List.length_take, HK.out]; omega)
   generalize os[j]?.getD 0 = z at *
   have hcX := fun j => hXr.cell j
   have hlXr := hXr.lt
   have i1 : 0 ≤ (j : Int) := by omega
   have i2 : (j : Int) < (q : Int) := by omega
   clear hOr hO3 hZ3 hA3 hB3 hOl
   go_wp2_with (at_builtin; go_must (refine app_row rfl (.tmp 48) (.tmp 52) rfl Tryz.underlying77 info_pms rfl (by omega) (by omega) w3.heap.size _ _ rfl rfl hor (r := ptC (z, (m : Int))) rfl (by intro u hu; simp only [ptC, List.mem_cons, List.not_mem_nil, or_false] at hu; rcases hu with rfl | rfl <;> rfl) (by have := HLN.out; omega) (by omega) ?_); intro M' c' w5 ho5 hg5; rw [HLN.out] at ho5 ⊢; have hX6 := (hXr.alloc (.cells #[.int .i64 z, .int .i64 m] 151)).grown hg5 (by intro e; have := hor.ge _ e.symm; omega); have hcX6 := fun j => hX6.cell j; have hfX6 := fun j => hX6.frozen j; have hlX6 := hX6.lt)
   refine ⟨⟨j + 1, hlt, by go_num, M', c', hX6.set_ 7 (.slice M' (k + j + 1) c'), ?_, ((hEr.alloc _).grown hg5 (fun i e => Or.inr (hor.ge _ e))).set (p := ⟨w.heap.size, 7, none⟩) (Or.inl rfl) _⟩, ?_⟩
   ·rw [HTK.out, show (ms ++ (os.take j ++ [z]).map (fun z => (z, (m : Int)))).map ptC = (ms ++ (os.take j).map (fun z => (z, (m : Int)))).map ptC ++ [ptC (z, (m : Int))] from by simp]
    exact ho5.far (grown_set w5 ⟨w.heap.size, 7, none⟩ (.slice M' (k + j + 1) c')) hlX3
   ·simp [intOf]; omega
  ·obtain rfl : j = q := by omega
   rw [List.take_of_length_le (by have := hO3.len; omega)] at hor
   have hZr := hEr.blk hZ3 (by omega)
   have hcX := fun j => hXr.cell j
   have hlXr := hXr.lt
   have hAr := hEr.rdS hA3 (by intro ad e; have := HF.out ad e; omega)
   have hBr := hEr.rdS hB3 (by intro ad e; have := HF3.out ad e; omega)
   have hMr := hor.rd
   have hFM := hor.fresh
   have hEt := hE.trans_ hEr (fun i h => Or.inl h)
   have HR := Lib.hid (And.intro hAr (And.intro hBr hMr))
   clear hA3 hB3 hO3 hZ3 hAr hBr hMr hoO
   go_wp2_with (refine wpList_store_blk rfl _ _ _ rfl (w.heap.size + 1 + 1) 79 _ _ rfl rfl hZr rfl (by kernel_rfl) (by simp [Value.oneCell']) ?_; intro w6 hQ hgQ)
   refine bodyPost_ret (results_blk1 rfl _ _ _ _ rfl hQ Tryz.underlying79 rfl (by kernel_rfl)) rfl ?_
   refine ⟨A2, B2, M, c2, c3, c, rfl, ?_, ?_, ?_, ⟨fun ad e => by have := HF.out ad e; omega, fun ad e => by have := HF3.out ad e; omega⟩, ((hEt.toBelow hb0 (by intro i h; omega) (by omega)).grown hgQ (by have := hEt.size; omega) (by intro i h; cases h; omega))⟩
   ·rw [List.map_append]
    exact HR.out.1.far hgQ (by intro ad e; have := HF.out ad e; omega)
   ·rw [List.map_append]
    exact HR.out.2.1.far hgQ (by intro ad e; have := HF3.out ad e; omega)
   ·exact HR.out.2.2.far hgQ (by intro ad e; have := hFM ad e; omega)
end Go.Proofs.YtdocgmafbacjcaaGreatDoor
end

section
namespace Go.Proofs.YtdocgmafbacjcaaGreatDoor
open Go.RowKit Go.Shelf

theorem rdS_blk {W : World} {g k : Nat} {t : TypeId} {cs : Array Value} {rows : List (List Value)} (hB : Blk W g t cs) (hr : ∀ r ∈ rows, r.length = k) (hc : cs.toList = rows.flatten) : RdS W (some ⟨g, 0, none⟩) k rows := fun _ =>
 ⟨_, rfl, hB.lt, fun i r hi => ⟨hr r (List.mem_of_getElem? hi), fun j v hv => by
  rw [add_lit, Nat.zero_add, hB.cell, ← Array.getElem?_toList, hc]
  exact flat_get hr i r j v hi hv⟩⟩
set_option maxRecDepth 100000 in
set_option maxHeartbeats 4000000 in
theorem law2P_is (w : World) : Calls Tryz.prog 24 #[] w fun e w' => ∃ g1 g2 g3, e = .returned (.agg #[.int .i64 60, .int .i64 50, .int .i64 1, .int .i64 1, .int .i64 2, .slice (some ⟨g1, 0, none⟩) 3 3, .slice (some ⟨g2, 0, none⟩) 4 4, .slice (some ⟨g3, 0, none⟩) 2 2]) ∧ RdS w' (some ⟨g1, 0, none⟩) 2 (pCs.map PPt.cells) ∧ RdS w' (some ⟨g2, 0, none⟩) 4 (pWs.map PWh.cells) ∧ RdS w' (some ⟨g3, 0, none⟩) 2 (pMs.map ptC) ∧ Below w.heap.size w w' := by
 go_enter Tryz.func24, Tryz.ntmps24
 go_wp2_with fail
 refine bodyPost_ret (results_blk1 rfl _ _ _ _ rfl ((((Blk.new w _ _).alloc _).alloc _).alloc _) Tryz.underlying79 rfl (by kernel_rfl)) rfl ?_
 exact ⟨_, _, _, rfl, rdS_blk (((Blk.new_at _ _ (by simp)).alloc _).alloc _) (by decide) rfl, rdS_blk ((Blk.new_at _ _ (by simp)).alloc _) (by decide) rfl, rdS_blk (Blk.new_at _ _ (by simp)) (by decide) rfl, fr_alloc (fr_alloc (fr_alloc (fr_alloc (fr_refl w) _) _) _) _⟩
end Go.Proofs.YtdocgmafbacjcaaGreatDoor
end

section
namespace Go.Proofs.YtdocgmafbacjcaaGreatDoor
open Go.RowKit Go.Shelf

theorem Exc.pre {S : Nat → Prop} {w w1 W : World} (hb : Below w.heap.size w w1) (hx : Exc S w1 W) : Exc S w W :=
 ⟨hx.os.trans hb.os, hx.tape.trans hb.tape, hx.output.trans hb.output, Nat.le_trans hb.size hx.size, fun k hk hn => (hx.block k (Nat.lt_of_lt_of_le hk hb.size) hn).trans (hb.block k hk)⟩

set_option maxRecDepth 100000 in
set_option maxHeartbeats 8000000 in
theorem Parse1_none (l p0 : List UInt8) (ws : List (List UInt8)) (g1 g2 : Nat) (w : World) (hX : Blk w g1 9 #[.string ⟨l.toArray⟩]) (hl : l.length ≤ 1000) (hpf : pieces 32 l = p0 :: ws) (hk : Lib.idxBy eqF formsF (p0, ws.length) = -1) (hM : MaxP w) :
  Calls Tryz.prog 214 #[.pointer (some ⟨g1, 0, none⟩), .pointer (some ⟨g2, 0, none⟩)] w fun e w' => e = .panicked (jnoneV ⟨l.toArray⟩) ∧ Below w.heap.size w w' := by
 go_enter Tryz.func214, Tryz.ntmps214
 go_wp2_with fail
 refine (forms_is _).mono ?_
 rintro e w1 ⟨rfl, hb1⟩
 go_upto_region 1 with (refine wpList_store_blk rfl _ _ _ rfl w1.heap.size 177 _ formsV rfl rfl (Blk.new w1 _ _) rfl (by kernel_rfl) (by simp [formsV, Value.oneCell']) ?_; intro w2 hQ hgQ)
 have hb2 : Below w1.heap.size w1 w2 := (fr_alloc (fr_refl w1) _).grown hgQ (fr_alloc (fr_refl w1) _).size (by intro k hk; cases hk; exact Nat.le_refl _)
 have hb02 := fr_call hb1 hb2
 have hF : RdS w2 (some ⟨w1.heap.size, 0, none⟩) 2 (formsF.map formC) := rdS_blk hQ (by intro r hr; obtain ⟨p, _, rfl⟩ := List.mem_map.1 hr; rfl) (by kernel_rfl)
 have hXz := (hX.keep hb02).keep (fr_drew (fr_refl w2))
 have hXl := (hX.keep hb02).lt
 have HF := Lib.hid hF
 have hbz := fr_drew (fr_refl w2)
 have hkS : ∀ W, Below w2.heap.size w2 W → W.cell? ⟨g1, 0, none⟩ = some (.string ⟨l.toArray⟩) := fun W hb => ((hX.keep hb02).keep hb).cell 0
 have hs1 := hQ.lt
 clear hF hgQ
 refine wp_region_held_drew (S := fun W => W.cell? ⟨g1, 0, none⟩ = some (.string ⟨l.toArray⟩)) (by kernel_rfl) (hkS _ hbz) (fun hHeld => ?_)
 generalize w2.drew = wz at hbz hHeld hXz ⊢
 -- the region, step by step, in whatever order
 refine tkH 0 ⟨some 7, .load 9 (.tmp 0), 9, "text.go:95", #[], none⟩ hHeld ?_
 refine tkH 1 ⟨some 8, .slice 177 (.tmp 2) none none none, 281, "text.go:95", #[], none⟩ hHeld ?_
 refine rdH 2 ⟨some 9, .call { callee := .value (.func 215), args := #[.tmp 7, .tmp 8], argTypes := #[9, 281] }, 279, "text.go:95", #[⟨0, .data⟩, ⟨1, .data⟩], none⟩ fun K hK => ?_
 go_simp
 refine (told_none l p0 ws formsF w1.heap.size 0 6 wz hl hpf (HF.out.keep hbz) (by decide) hk ((hM.keep hb02).keep hbz)).mono ?_
 rintro e wz ⟨rfl, hb3⟩
 exact ⟨rfl, rfl, fr_call hb02 (fr_call hbz hb3)⟩
set_option maxRecDepth 100000 in
set_option maxHeartbeats 8000000 in
theorem Parse_none (l p0 : List UInt8) (ws : List (List UInt8)) (w : World) (hl : l.length ≤ 60) (hpf : pieces 32 l = p0 :: ws) (hk : Lib.idxBy eqF formsF (p0, ws.length) = -1) (hM : MaxP w) :
  Calls Tryz.prog 154 #[.string ⟨l.toArray⟩] w fun e w' => e = .returned (.tuple #[.agg #[.int .i64 0, .slice none 0 0], .int .i64 4]) ∧ Below w.heap.size w w' := by
 have hmf : ∀ (fn : Fn) (first cap : Array Value) (w : World), (Instr.makeFunc fn first cap).run Tryz.prog w = .ok (.func fn first cap) w := fun _ _ _ _ => rfl
 have hb0 := fr_alloc (fr_alloc (fr_refl w) (.cells #[.string ⟨l.toArray⟩] 9)) (.cells #[.int .i64 0, .slice none 0 0] 45)
 have hX := (Blk.new w 9 #[.string ⟨l.toArray⟩]).alloc (.cells #[.int .i64 0, .slice none 0 0] 45)
 have hZ : Blk ((w.alloc (.cells #[.string ⟨l.toArray⟩] 9)).alloc (.cells #[.int .i64 0, .slice none 0 0] 45)) (w.heap.size + 1) 45 #[.int .i64 0, .slice none 0 0] := Blk.new_at _ _ (by simp)
 obtain ⟨w1, hw1⟩ : ∃ w1, (w.alloc (.cells #[.string ⟨l.toArray⟩] 9)).alloc (.cells #[.int .i64 0, .slice none 0 0] 45) = w1 := ⟨_, rfl⟩
 rw [hw1] at hb0 hX hZ
 have hs0 : (⟨l.toArray⟩ : ByteArray).size = l.length := by show l.toArray.size = _; simp
 have hi : (l.length : Int) ≤ 60 := by omega
 have hcX := fun j => hX.cell j
 go_enter Tryz.func154, Tryz.ntmps154
 go_upto_region 1 with (fail)
 (try rw [hw1])
 clear hw1
 go_upto_region 4 with (fail)
 have hbA := fr_alloc hb0 (.cells #[.int .i64 0, .slice none 0 0] 45)
 have hXA := hX.alloc (.cells #[.int .i64 0, .slice none 0 0] 45)
 have hZA := hZ.alloc (.cells #[.int .i64 0, .slice none 0 0] 45)
 have hsA : w1.heap.size < (w1.alloc (.cells #[.int .i64 0, .slice none 0 0] 45)).heap.size := by simp
 generalize w1.alloc (.cells #[.int .i64 0, .slice none 0 0] 45) = wA at *
 have hMA := hM.keep hbA
 have hb1 := fr_alloc (fr_refl wA) (.cells #[.int .i64 0] 39)
 have hE := Blk.new wA 39 #[.int .i64 0]
 have hT := jtry_none_Parse #[.pointer (some ⟨w.heap.size, 0, none⟩), .pointer (some ⟨w1.heap.size, 0, none⟩)] (fun W => Below wA.heap.size wA W) wA ⟨l.toArray⟩ ((Parse1_none l p0 ws w.heap.size w1.heap.size (wA.alloc (.cells #[.int .i64 0] 39)) (hXA.alloc _) (by omega) hpf hk (hMA.keep hb1)).mono (fun e W ⟨he, hb⟩ => ⟨he, fr_call hb1 hb, (hE.keep hb).cell 0, (hE.keep hb).frozen 0⟩))
 clear hcX hX hZ hE hb1
 go_wp2_with fail
 refine hT.mono ?_
 rintro e w3 ⟨rfl, w2, hb2, rfl⟩
 have hb3 : Below wA.heap.size wA ((w2.alloc (.cells #[.string ⟨l.toArray⟩] 193)).setCell ⟨wA.heap.size, 0, none⟩ (.int .i64 4)) := (fr_alloc hb2 _).grown (grown_set _ ⟨wA.heap.size, 0, none⟩ _) (fr_alloc hb2 _).size (by intro k hk; cases hk; exact Nat.le_refl _)
 generalize (w2.alloc (.cells #[.string ⟨l.toArray⟩] 193)).setCell ⟨wA.heap.size, 0, none⟩ (.int .i64 4) = w4 at *
 have hZ4 := hZA.keep hb3
 have hb4 := fr_call hbA hb3
 clear hT hb2
 go_wp2_with (refine wpList_store_blk rfl _ _ _ rfl (w.heap.size + 1) 45 _ _ rfl rfl hZ4 rfl (by kernel_rfl) (by simp [Value.oneCell']) ?_; intro w5 hQ hgQ)
 refine bodyPost_ret (results_blk_tmp rfl _ _ _ _ rfl hQ Tryz.underlying45 rfl (by kernel_rfl)) rfl ?_
 exact ⟨rfl, hb4.grown hgQ hb4.size (by intro i h; cases h; exact Nat.le_succ _)⟩
set_option maxRecDepth 100000 in
set_option maxHeartbeats 8000000 in
theorem question1_ok (l p0 : List UInt8) (ws : List (List UInt8)) (g1 g2 k : Nat) (w : World) (hX : Blk w g1 9 #[.string ⟨l.toArray⟩]) (hZ : Blk w g2 58 #[.int .i64 0, .slice none 0 0]) (hl : l.length ≤ 1000) (hpf : pieces 32 l = p0 :: ws) (hws : ∀ wd ∈ ws, WdOk wd) (hk : Lib.idxBy eqF asksF (p0, ws.length) = (k : Int)) (hk2 : k ≤ 11) (hM : MaxP w) (hT : TabP w) :
  Calls Tryz.prog 217 #[.pointer (some ⟨g1, 0, none⟩), .pointer (some ⟨g2, 0, none⟩)] w fun e w' => e = .returned (.tuple #[]) ∧ ∃ A c, Blk w' g2 58 #[.int .i64 ((k + 1 : Nat) : Int), .slice A ws.length c] ∧ Rd w' A ws.length (ws.map valOf) ∧ Exc (fun i => i = g2) w w' ∧ Fresh w.heap.size A := by
 go_enter Tryz.func217, Tryz.ntmps217
 go_wp2_with fail
 refine (asks_is _).mono ?_
 rintro e w1 ⟨rfl, hb1⟩
 go_upto_region 1 with (refine wpList_store_blk rfl _ _ _ rfl w1.heap.size 122 _ asksV rfl rfl (Blk.new w1 _ _) rfl (by kernel_rfl) (by simp [asksV, Value.oneCell']) ?_; intro w2 hQ hgQ)
 have hb2 : Below w1.heap.size w1 w2 := (fr_alloc (fr_refl w1) _).grown hgQ (fr_alloc (fr_refl w1) _).size (by intro k hk; cases hk; exact Nat.le_refl _)
 have hb02 := fr_call hb1 hb2
 have hF : RdS w2 (some ⟨w1.heap.size, 0, none⟩) 2 (asksF.map formC) := rdS_blk hQ (by intro r hr; obtain ⟨p, _, rfl⟩ := List.mem_map.1 hr; rfl) (by kernel_rfl)
 have HF := Lib.hid hF
 have hbz := fr_drew (fr_refl w2)
 have hkS : ∀ W, Below w2.heap.size w2 W → W.cell? ⟨g1, 0, none⟩ = some (.string ⟨l.toArray⟩) := fun W hb => ((hX.keep hb02).keep hb).cell 0
 have hZ2 := hZ.keep hb02
 have y1 : IntKind.i64.wrap (1 + (k : Int)) = ((k + 1 : Nat) : Int) := by rw [IntWalk.i64_in _ (by omega)]; omega
 clear hF hgQ
 refine wp_region_held_drew (S := fun W => W.cell? ⟨g1, 0, none⟩ = some (.string ⟨l.toArray⟩)) (by kernel_rfl) (hkS _ hbz) (fun hHeld => ?_)
 generalize w2.drew = wz at hbz hHeld ⊢
 -- the region, step by step, in whatever order
 refine tkH 0 ⟨some 7, .load 9 (.tmp 0), 9, "text.go:109", #[], none⟩ hHeld ?_
 refine tkH 1 ⟨some 8, .slice 122 (.tmp 2) none none none, 281, "text.go:109", #[], none⟩ hHeld ?_
 refine rdH 2 ⟨some 9, .call { callee := .value (.func 215), args := #[.tmp 7, .tmp 8], argTypes := #[9, 281] }, 279, "text.go:109", #[⟨0, .data⟩, ⟨1, .data⟩], none⟩ fun K hK => ?_
 go_simp
 refine (told_ok l p0 ws asksF w1.heap.size 0 12 12 k wz hl hpf hws (HF.out.keep hbz) (by decide) (by decide) hk ((hM.keep hb02).keep hbz) ((hT.keep hb02).keep hbz)).mono ?_
 rintro e wz ⟨A, c, rfl, hA, hfA, hb3⟩
 have hs2 := hbz.size
 replace hbz := fr_call hbz hb3
 refine hK.out _ _ (hkS _ hbz) (fun hHeld => ?_)
 clear hK K
 (try simp only [Act.put, List.setIfInBounds_toArray, List.set_cons_zero, List.set_cons_succ])
 refine tkH 3 ⟨some 6, .move (.tmp 9), 279, "text.go:109", #[⟨2, .data⟩], none⟩ hHeld ?_
 refine tkH 4 ⟨some 10, .extract (.tmp 6) 0, 3, "text.go:109", #[⟨3, .data⟩], none⟩ hHeld ?_
 refine tkH 5 ⟨some 11, .extract (.tmp 6) 1, 23, "text.go:109", #[⟨3, .data⟩, ⟨6, .gcOnly .lateStores⟩], none⟩ hHeld ?_
 refine tkH 6 ⟨some 3, .assign (.tmp 10), 3, "text.go:109", #[⟨4, .data⟩, ⟨2, .chain⟩, ⟨0, .phase⟩, ⟨1, .phase⟩, ⟨2, .phase⟩, ⟨3, .phase⟩, ⟨4, .phase⟩, ⟨5, .textOnly .lateStores⟩], none⟩ hHeld ?_
 refine tkH 7 ⟨some 4, .assign (.tmp 11), 23, "text.go:109", #[⟨5, .data⟩, ⟨6, .chain⟩, ⟨0, .phase⟩, ⟨1, .phase⟩, ⟨2, .phase⟩, ⟨3, .phase⟩, ⟨4, .phase⟩, ⟨5, .phase⟩, ⟨6, .phase⟩], none⟩ hHeld ?_
 refine wpAnyH_done (by kernel_rfl) ?_ _
 go_wp2_with (refine wpList_store_blk rfl _ _ _ rfl g2 58 _ _ rfl rfl (hZ2.keep hbz) rfl (by kernel_rfl) (by simp [Value.oneCell']) ?_; intro w5 hQ5 hgQ5)
 go_end0
 have hE5 : Exc (fun i => i = g2) wz w5 := (Exc.refl _ wz).grown hgQ5 (by intro i h; cases h; exact Or.inl rfl)
 have hl2 := hZ2.lt
 have hs02 := hb02.size
 exact ⟨rfl, A, ⟨c, hQ5⟩, hE5.rd1 hfA (by omega) hA, ((Exc.refl _ w).below (fr_call hb02 hbz)).grown hgQ5 (by intro i h; cases h; exact Or.inl rfl), fun ad e => Nat.le_trans (by omega) (hfA ad e)⟩
set_option maxRecDepth 100000 in
set_option maxHeartbeats 8000000 in
theorem question_ok (l p0 : List UInt8) (ws : List (List UInt8)) (k : Nat) (w : World) (hl : l.length ≤ 1000) (hpf : pieces 32 l = p0 :: ws) (hws : ∀ wd ∈ ws, WdOk wd) (hk : Lib.idxBy eqF asksF (p0, ws.length) = (k : Int)) (hk2 : k ≤ 11) (hM : MaxP w) (hT : TabP w) :
  Calls Tryz.prog 156 #[.string ⟨l.toArray⟩] w fun e w' => ∃ A c, e = .returned (.tuple #[.agg #[.int .i64 ((k + 1 : Nat) : Int), .slice A ws.length c], .int .i64 0]) ∧ Rd w' A ws.length (ws.map valOf) ∧ Below w.heap.size w w' := by
 have hmf : ∀ (fn : Fn) (first cap : Array Value) (w : World), (Instr.makeFunc fn first cap).run Tryz.prog w = .ok (.func fn first cap) w := fun _ _ _ _ => rfl
 have hb0 := fr_alloc (fr_alloc (fr_refl w) (.cells #[.string ⟨l.toArray⟩] 9)) (.cells #[.int .i64 0, .slice none 0 0] 58)
 have hX := (Blk.new w 9 #[.string ⟨l.toArray⟩]).alloc (.cells #[.int .i64 0, .slice none 0 0] 58)
 have hZ : Blk ((w.alloc (.cells #[.string ⟨l.toArray⟩] 9)).alloc (.cells #[.int .i64 0, .slice none 0 0] 58)) (w.heap.size + 1) 58 #[.int .i64 0, .slice none 0 0] := Blk.new_at _ _ (by simp)
 obtain ⟨w1, hw1⟩ : ∃ w1, (w.alloc (.cells #[.string ⟨l.toArray⟩] 9)).alloc (.cells #[.int .i64 0, .slice none 0 0] 58) = w1 := ⟨_, rfl⟩
 rw [hw1] at hb0 hX hZ
 go_enter Tryz.func156, Tryz.ntmps156
 go_upto_region 1 with (fail)
 (try rw [hw1])
 clear hw1
 go_upto_region 2 with (fail)
 have hbA := fr_alloc hb0 (.cells #[.int .i64 0, .slice none 0 0] 58)
 have hXA := hX.alloc (.cells #[.int .i64 0, .slice none 0 0] 58)
 have hZA := hZ.alloc (.cells #[.int .i64 0, .slice none 0 0] 58)
 have hYA := Blk.new w1 58 #[.int .i64 0, .slice none 0 0]
 have hsA : w1.heap.size < (w1.alloc (.cells #[.int .i64 0, .slice none 0 0] 58)).heap.size := by simp
 generalize w1.alloc (.cells #[.int .i64 0, .slice none 0 0] 58) = wA at *
 have hMA := hM.keep hbA
 have hTA := hT.keep hbA
 have hb1 := fr_alloc (fr_refl wA) (.cells #[.int .i64 0] 39)
 have hE := Blk.new wA 39 #[.int .i64 0]
 have hs0 := hb0.size
 have hlZ := hZ.lt
 have hTr := jtry_ok_question #[.pointer (some ⟨w.heap.size, 0, none⟩), .pointer (some ⟨w1.heap.size, 0, none⟩)] (fun W => ∃ A c, Blk W w1.heap.size 58 #[.int .i64 ((k + 1 : Nat) : Int), .slice A ws.length c] ∧ Rd W A ws.length (ws.map valOf) ∧ Exc (fun i => i = w1.heap.size) wA W ∧ W.cell? ⟨wA.heap.size, 0, none⟩ = some (.int .i64 0) ∧ Fresh (wA.heap.size + 1) A) wA ((question1_ok l p0 ws w.heap.size w1.heap.size k (wA.alloc (.cells #[.int .i64 0] 39)) (hXA.alloc _) (hYA.alloc _) (by omega) hpf hws hk hk2 (hMA.keep hb1) (hTA.keep hb1)).mono (fun e W h => by
  obtain ⟨he, A, c, hB, hA, hx, hf⟩ := h
  have hEW := hx.blk hE (by omega)
  rw [World.size_alloc] at hf
  exact ⟨he, ⟨A, c, hB, hA, Exc.pre hb1 hx, hEW.cell 0, hf⟩, hEW.cell 0, hEW.frozen 0⟩))
 clear hX hZ hE hb1
 go_wp2_with fail
 refine hTr.mono ?_
 rintro e w3 ⟨rfl, w2, ⟨A, c, hB, hA, hx, _, hf⟩, rfl⟩
 have hgs := grown_set w2 ⟨wA.heap.size, 0, none⟩ (.int .i64 0)
 have hx2 : Exc (fun i => i = wA.heap.size) w2 (w2.setCell ⟨wA.heap.size, 0, none⟩ (.int .i64 0)) := (Exc.refl (fun i => i = wA.heap.size) w2).set (p := ⟨wA.heap.size, 0, none⟩) (Or.inl rfl) _
 have hB3 := hx2.blk hB (by omega)
 have hA3 := hx2.rd1 hf (Nat.lt_succ_self _) hA
 have hZ3 := hx2.blk (hx.blk hZA (by omega)) (by omega)
 have hx3 : Exc (fun i => i = w1.heap.size) wA (w2.setCell ⟨wA.heap.size, 0, none⟩ (.int .i64 0)) := hx.grown hgs (by intro i h; cases h; exact Or.inr (Nat.le_refl _))
 generalize w2.setCell ⟨wA.heap.size, 0, none⟩ (.int .i64 0) = w4 at *
 have hcB := fun j => hB3.cell j
 have hlB := hB3.lt
 have hf2 : Fresh (w.heap.size + 2) A := fun ad e => Nat.le_trans (by have := hbA.size; omega) (hf ad e)
 have hbT : Below w.heap.size w w4 := ⟨hx3.os.trans hbA.os, hx3.tape.trans hbA.tape, hx3.output.trans hbA.output, Nat.le_trans hbA.size hx3.size, fun i hi => (hx3.block i (Nat.lt_of_lt_of_le hi hbA.size) (by omega)).trans (hbA.block i hi)⟩
 clear hTr hx hx2 hx3 hgs hB hA hf hZA hXA hYA
 go_wp2_with (refine wpList_store_blk rfl _ _ _ rfl (w.heap.size + 1) 58 _ _ rfl rfl hZ3 rfl (by kernel_rfl) (by simp [Value.oneCell']) ?_; intro w5 hQ hgQ)
 refine bodyPost_ret (results_blk_tmp rfl _ _ _ _ rfl hQ Tryz.underlying58 rfl (by kernel_rfl)) rfl ?_
 have hx5 : Exc (fun i => i = w.heap.size + 1) w4 w5 := (Exc.refl _ w4).grown hgQ (by intro i h; cases h; exact Or.inl rfl)
 exact ⟨A, c, rfl, hx5.rd1 hf2 (by omega) hA3, hbT.grown hgQ hbT.size (by intro i h; cases h; exact Nat.le_succ _)⟩
end Go.Proofs.YtdocgmafbacjcaaGreatDoor
end
