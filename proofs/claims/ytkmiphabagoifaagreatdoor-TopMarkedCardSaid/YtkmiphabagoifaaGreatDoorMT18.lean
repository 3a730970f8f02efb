/- Walks, package journeyman: Parse of a line that is none; question. -/
import Derived.Test.YtkmiphabagoifaaGreatDoorMT16
import Derived.Test.YtkmiphabagoifaaGreatDoorMT17
namespace Go.Proofs.YtkmiphabagoifaaGreatDoor
open Go.RowKit Go.Shelf

theorem Exc.pre {S : Nat → Prop} {w w1 W : World} (hb : Below w.heap.size w w1) (hx : Exc S w1 W) : Exc S w W :=
 ⟨hx.os.trans hb.os, hx.tape.trans hb.tape, hx.output.trans hb.output, Nat.le_trans hb.size hx.size, fun k hk hn => (hx.block k (Nat.lt_of_lt_of_le hk hb.size) hn).trans (hb.block k hk)⟩

set_option maxRecDepth 100000 in
set_option maxHeartbeats 8000000 in
theorem Parse1_none (l p0 : List UInt8) (ws : List (List UInt8)) (g1 g2 : Nat) (w : World) (hX : Blk w g1 9 #[.string ⟨l.toArray⟩]) (hl : l.length ≤ 1000) (hpf : pieces 32 l = p0 :: ws) (hk : Lib.idxBy eqF formsF (p0, ws.length) = -1) (hM : MaxP w) :
  Calls Tryz.prog 221 #[.pointer (some ⟨g1, 0, none⟩), .pointer (some ⟨g2, 0, none⟩)] w fun e w' => e = .panicked (jnoneV ⟨l.toArray⟩) ∧ Below w.heap.size w w' := by
 go_enter Tryz.func221, Tryz.ntmps221
 go_wp2_with fail
 refine (forms_is _).mono ?_
 rintro e w1 ⟨rfl, hb1⟩
 go_upto_region 1 with (refine wpList_store_blk rfl _ _ _ rfl w1.heap.size 184 _ formsV rfl rfl (Blk.new w1 _ _) rfl (by kernel_rfl) (by simp [formsV, Value.oneCell']) ?_; intro w2 hQ hgQ)
 have hb2 : Below w1.heap.size w1 w2 := (fr_alloc (fr_refl w1) _).grown hgQ (fr_alloc (fr_refl w1) _).size (by intro k hk; cases hk; exact Nat.le_refl _)
 have hb02 := fr_call hb1 hb2
 have hF : RdS w2 (some ⟨w1.heap.size, 0, none⟩) 2 (formsF.map formC) := rdS_blk hQ (by intro r hr; obtain ⟨p, _, rfl⟩ := List.mem_map.1 hr; rfl) (by kernel_rfl)
 have hXz := (hX.keep hb02).keep (fr_drew (fr_refl w2))
 have hXl := (hX.keep hb02).lt
 have HF := Lib.hid hF
 have hbz := fr_drew (fr_refl w2)
 have hkS : ∀ W, Below w2.heap.size w2 W → W.cell? ⟨g1, 0, none⟩ = some (.string ⟨l.toArray⟩) := fun W hb => ((hX.keep hb02).keep hb).cell 0
 have hs1 := hQ.lt
 clear hF hgQ
 refine wp_region_held_drew (S := fun W => W.cell? ⟨g1, 0, none⟩ = some (.string ⟨l.toArray⟩)) (by kernel_rfl) (hkS _ hbz) (fun hHeld => ?_)
 generalize w2.drew = wz at hbz hHeld hXz ⊢
 -- the region, step by step, in whatever order
 refine wpAnyH_take (i := 0) (oi := ⟨some 7, .load 9 (.tmp 0), 9, "text.go:95", #[], none⟩) (v := ?_) rfl (by kernel_rfl) (by kernel_rfl) (by kernel_rfl) (fun _ _ _ h => h) (Or.inl ⟨by rfl, fun W hSw => ?_⟩) hHeld ?_
 rotate_left
 ·(try dsimp only at hSw); go_simp; (try with_reducible rfl)
 (try simp only [Act.put, List.setIfInBounds_toArray, List.set_cons_zero, List.set_cons_succ])
 refine wpAnyH_take (i := 1) (oi := ⟨some 8, .slice 184 (.tmp 2) none none none, 287, "text.go:95", #[], none⟩) (v := ?_) rfl (by kernel_rfl) (by kernel_rfl) (by kernel_rfl) (fun _ _ _ h => h) (Or.inl ⟨by rfl, fun W hSw => ?_⟩) hHeld ?_
 rotate_left
 ·(try dsimp only at hSw); go_simp; (try with_reducible rfl)
 (try simp only [Act.put, List.setIfInBounds_toArray, List.set_cons_zero, List.set_cons_succ])
 refine wpAnyH_ready (rs := [2]) (by kernel_rfl) (by simp) ?_
 refine (AllReadyH.cons (o := ⟨some 9, .call { callee := .value (.func 222), args := #[.tmp 7, .tmp 8], argTypes := #[9, 287] }, 285, "text.go:95", #[⟨0, .data⟩, ⟨1, .data⟩], none⟩) rfl (fun K hK => ?_) AllReadyH.nil)
 rw [if_pos (by rfl)]
 go_simp
 refine (told_none l p0 ws formsF w1.heap.size 0 6 wz hl hpf (HF.out.keep hbz) (by decide) hk ((hM.keep hb02).keep hbz)).mono ?_
 rintro e wz ⟨rfl, hb3⟩
 exact ⟨rfl, rfl, fr_call hb02 (fr_call hbz hb3)⟩
set_option maxRecDepth 100000 in
set_option maxHeartbeats 8000000 in
theorem Parse_none (l p0 : List UInt8) (ws : List (List UInt8)) (w : World) (hl : l.length ≤ 60) (hpf : pieces 32 l = p0 :: ws) (hk : Lib.idxBy eqF formsF (p0, ws.length) = -1) (hM : MaxP w) :
  Calls Tryz.prog 165 #[.string ⟨l.toArray⟩] w fun e w' => e = .returned (.tuple #[.agg #[.int .i64 0, .slice none 0 0], .int .i64 4]) ∧ Below w.heap.size w w' := by
 have hmf : ∀ (fn : Fn) (first cap : Array Value) (w : World), (Instr.makeFunc fn first cap).run Tryz.prog w = .ok (.func fn first cap) w := fun _ _ _ _ => rfl
 have hb0 := fr_alloc (fr_alloc (fr_refl w) (.cells #[.string ⟨l.toArray⟩] 9)) (.cells #[.int .i64 0, .slice none 0 0] 45)
 have hX := (Blk.new w 9 #[.string ⟨l.toArray⟩]).alloc (.cells #[.int .i64 0, .slice none 0 0] 45)
 have hZ : Blk ((w.alloc (.cells #[.string ⟨l.toArray⟩] 9)).alloc (.cells #[.int .i64 0, .slice none 0 0] 45)) (w.heap.size + 1) 45 #[.int .i64 0, .slice none 0 0] := Blk.new_at _ _ (by simp)
 obtain ⟨w1, hw1⟩ : ∃ w1, (w.alloc (.cells #[.string ⟨l.toArray⟩] 9)).alloc (.cells #[.int .i64 0, .slice none 0 0] 45) = w1 := ⟨_, rfl⟩
 rw [hw1] at hb0 hX hZ
 have hs0 : (⟨l.toArray⟩ : ByteArray).size = l.length := by show l.toArray.size = _; simp
 have hi : (l.length : Int) ≤ 60 := by omega
 have hcX := fun j => hX.cell j
 go_enter Tryz.func165, Tryz.ntmps165
 go_upto_region 1 with (fail)
 (try rw [hw1])
 clear hw1
 go_upto_region 4 with (fail)
 have hbA := fr_alloc hb0 (.cells #[.int .i64 0, .slice none 0 0] 45)
 have hXA := hX.alloc (.cells #[.int .i64 0, .slice none 0 0] 45)
 have hZA := hZ.alloc (.cells #[.int .i64 0, .slice none 0 0] 45)
 have hsA : w1.heap.size < (w1.alloc (.cells #[.int .i64 0, .slice none 0 0] 45)).heap.size := by simp
 generalize w1.alloc (.cells #[.int .i64 0, .slice none 0 0] 45) = wA at *
 have hMA := hM.keep hbA
 have hb1 := fr_alloc (fr_refl wA) (.cells #[.int .i64 0] 39)
 have hE := Blk.new wA 39 #[.int .i64 0]
 have hT := jtry_none_Parse #[.pointer (some ⟨w.heap.size, 0, none⟩), .pointer (some ⟨w1.heap.size, 0, none⟩)] (fun W => Below wA.heap.size wA W) wA ⟨l.toArray⟩ ((Parse1_none l p0 ws w.heap.size w1.heap.size (wA.alloc (.cells #[.int .i64 0] 39)) (hXA.alloc _) (by omega) hpf hk (hMA.keep hb1)).mono (fun e W ⟨he, hb⟩ => ⟨he, fr_call hb1 hb, (hE.keep hb).cell 0, (hE.keep hb).frozen 0⟩))
 clear hcX hX hZ hE hb1
 go_wp2_with fail
 refine hT.mono ?_
 rintro e w3 ⟨rfl, w2, hb2, rfl⟩
 have hb3 : Below wA.heap.size wA ((w2.alloc (.cells #[.string ⟨l.toArray⟩] 200)).setCell ⟨wA.heap.size, 0, none⟩ (.int .i64 4)) := (fr_alloc hb2 _).grown (grown_set _ ⟨wA.heap.size, 0, none⟩ _) (fr_alloc hb2 _).size (by intro k hk; cases hk; exact Nat.le_refl _)
 generalize (w2.alloc (.cells #[.string ⟨l.toArray⟩] 200)).setCell ⟨wA.heap.size, 0, none⟩ (.int .i64 4) = w4 at *
 have hZ4 := hZA.keep hb3
 have hb4 := fr_call hbA hb3
 clear hT hb2
 go_wp2_with (refine wpList_store_blk rfl _ _ _ rfl (w.heap.size + 1) 45 _ _ rfl rfl hZ4 rfl (by kernel_rfl) (by simp [Value.oneCell']) ?_; intro w5 hQ hgQ)
 refine bodyPost_ret (results_blk_tmp rfl _ _ _ _ rfl hQ Tryz.underlying45 rfl (by kernel_rfl)) rfl ?_
 exact ⟨rfl, hb4.grown hgQ hb4.size (by intro i h; cases h; exact Nat.le_succ _)⟩
set_option maxRecDepth 100000 in
set_option maxHeartbeats 8000000 in
theorem question1_ok (l p0 : List UInt8) (ws : List (List UInt8)) (g1 g2 k : Nat) (w : World) (hX : Blk w g1 9 #[.string ⟨l.toArray⟩]) (hZ : Blk w g2 58 #[.int .i64 0, .slice none 0 0]) (hl : l.length ≤ 1000) (hpf : pieces 32 l = p0 :: ws) (hws : ∀ wd ∈ ws, WdOk wd) (hk : Lib.idxBy eqF asksF (p0, ws.length) = (k : Int)) (hk2 : k ≤ 11) (hM : MaxP w) (hT : TabP w) :
  Calls Tryz.prog 224 #[.pointer (some ⟨g1, 0, none⟩), .pointer (some ⟨g2, 0, none⟩)] w fun e w' => e = .returned (.tuple #[]) ∧ ∃ A c, Blk w' g2 58 #[.int .i64 ((k + 1 : Nat) : Int), .slice A ws.length c] ∧ Rd w' A ws.length (ws.map valOf) ∧ Exc (fun i => i = g2) w w' ∧ Fresh w.heap.size A := by
 go_enter Tryz.func224, Tryz.ntmps224
 go_wp2_with fail
 refine (asks_is _).mono ?_
 rintro e w1 ⟨rfl, hb1⟩
 go_upto_region 1 with (refine wpList_store_blk rfl _ _ _ rfl w1.heap.size 127 _ asksV rfl rfl (Blk.new w1 _ _) rfl (by kernel_rfl) (by simp [asksV, Value.oneCell']) ?_; intro w2 hQ hgQ)
 have hb2 : Below w1.heap.size w1 w2 := (fr_alloc (fr_refl w1) _).grown hgQ (fr_alloc (fr_refl w1) _).size (by intro k hk; cases hk; exact Nat.le_refl _)
 have hb02 := fr_call hb1 hb2
 have hF : RdS w2 (some ⟨w1.heap.size, 0, none⟩) 2 (asksF.map formC) := rdS_blk hQ (by intro r hr; obtain ⟨p, _, rfl⟩ := List.mem_map.1 hr; rfl) (by kernel_rfl)
 have HF := Lib.hid hF
 have hbz := fr_drew (fr_refl w2)
 have hkS : ∀ W, Below w2.heap.size w2 W → W.cell? ⟨g1, 0, none⟩ = some (.string ⟨l.toArray⟩) := fun W hb => ((hX.keep hb02).keep hb).cell 0
 have hZ2 := hZ.keep hb02
 have y1 : IntKind.i64.wrap (1 + (k : Int)) = ((k + 1 : Nat) : Int) := by rw [IntWalk.i64_in _ (by omega)]; omega
 clear hF hgQ
 refine wp_region_held_drew (S := fun W => W.cell? ⟨g1, 0, none⟩ = some (.string ⟨l.toArray⟩)) (by kernel_rfl) (hkS _ hbz) (fun hHeld => ?_)
 generalize w2.drew = wz at hbz hHeld ⊢
 -- the region, step by step, in whatever order
 refine wpAnyH_take (i := 0) (oi := ⟨some 7, .load 9 (.tmp 0), 9, "text.go:109", #[], none⟩) (v := ?_) rfl (by kernel_rfl) (by kernel_rfl) (by kernel_rfl) (fun _ _ _ h => h) (Or.inl ⟨by rfl, fun W hSw => ?_⟩) hHeld ?_
 rotate_left
 ·(try dsimp only at hSw); go_simp; (try with_reducible rfl)
 (try simp only [Act.put, List.setIfInBounds_toArray, List.set_cons_zero, List.set_cons_succ])
 refine wpAnyH_take (i := 1) (oi := ⟨some 8, .slice 127 (.tmp 2) none none none, 287, "text.go:109", #[], none⟩) (v := ?_) rfl (by kernel_rfl) (by kernel_rfl) (by kernel_rfl) (fun _ _ _ h => h) (Or.inl ⟨by rfl, fun W hSw => ?_⟩) hHeld ?_
 rotate_left
 ·(try dsimp only at hSw); go_simp; (try with_reducible rfl)
 (try simp only [Act.put, List.setIfInBounds_toArray, List.set_cons_zero, List.set_cons_succ])
 refine wpAnyH_ready (rs := [2]) (by kernel_rfl) (by simp) ?_
 refine (AllReadyH.cons (o := ⟨some 9, .call { callee := .value (.func 222), args := #[.tmp 7, .tmp 8], argTypes := #[9, 287] }, 285, "text.go:109", #[⟨0, .data⟩, ⟨1, .data⟩], none⟩) rfl (fun K hK => ?_) AllReadyH.nil)
 rw [if_pos (by rfl)]
 go_simp
 refine (told_ok l p0 ws asksF w1.heap.size 0 12 12 k wz hl hpf hws (HF.out.keep hbz) (by decide) (by decide) hk ((hM.keep hb02).keep hbz) ((hT.keep hb02).keep hbz)).mono ?_
 rintro e wz ⟨A, c, rfl, hA, hfA, hb3⟩
 have hs2 := hbz.size
 replace hbz := fr_call hbz hb3
 refine hK.out _ _ (hkS _ hbz) (fun hHeld => ?_)
 clear hK K
 (try simp only [Act.put, List.setIfInBounds_toArray, List.set_cons_zero, List.set_cons_succ])
 refine wpAnyH_take (i := 3) (oi := ⟨some 6, .move (.tmp 9), 285, "text.go:109", #[⟨2, .data⟩], none⟩) (v := ?_) rfl (by kernel_rfl) (by kernel_rfl) (by kernel_rfl) (fun _ _ _ h => h) (Or.inl ⟨by rfl, fun W hSw => ?_⟩) hHeld ?_
 rotate_left
 ·(try dsimp only at hSw); go_simp; (try with_reducible rfl)
 (try simp only [Act.put, List.setIfInBounds_toArray, List.set_cons_zero, List.set_cons_succ])
 refine wpAnyH_take (i := 4) (oi := ⟨some 10, .extract (.tmp 6) 0, 3, "text.go:109", #[⟨3, .data⟩], none⟩) (v := ?_) rfl (by kernel_rfl) (by kernel_rfl) (by kernel_rfl) (fun _ _ _ h => h) (Or.inl ⟨by rfl, fun W hSw => ?_⟩) hHeld ?_
 rotate_left
 ·(try dsimp only at hSw); go_simp; (try with_reducible rfl)
 (try simp only [Act.put, List.setIfInBounds_toArray, List.set_cons_zero, List.set_cons_succ])
 refine wpAnyH_take (i := 5) (oi := ⟨some 11, .extract (.tmp 6) 1, 23, "text.go:109", #[⟨3, .data⟩, ⟨6, .gcOnly .lateStores⟩], none⟩) (v := ?_) rfl (by kernel_rfl) (by kernel_rfl) (by kernel_rfl) (fun _ _ _ h => h) (Or.inl ⟨by rfl, fun W hSw => ?_⟩) hHeld ?_
 rotate_left
 ·(try dsimp only at hSw); go_simp; (try with_reducible rfl)
 (try simp only [Act.put, List.setIfInBounds_toArray, List.set_cons_zero, List.set_cons_succ])
 refine wpAnyH_take (i := 6) (oi := ⟨some 3, .assign (.tmp 10), 3, "text.go:109", #[⟨4, .data⟩, ⟨2, .chain⟩, ⟨0, .phase⟩, ⟨1, .phase⟩, ⟨2, .phase⟩, ⟨3, .phase⟩, ⟨4, .phase⟩, ⟨5, .textOnly .lateStores⟩], none⟩) (v := ?_) rfl (by kernel_rfl) (by kernel_rfl) (by kernel_rfl) (fun _ _ _ h => h) (Or.inl ⟨by rfl, fun W hSw => ?_⟩) hHeld ?_
 rotate_left
 ·(try dsimp only at hSw); go_simp; (try with_reducible rfl)
 (try simp only [Act.put, List.setIfInBounds_toArray, List.set_cons_zero, List.set_cons_succ])
 refine wpAnyH_take (i := 7) (oi := ⟨some 4, .assign (.tmp 11), 23, "text.go:109", #[⟨5, .data⟩, ⟨6, .chain⟩, ⟨0, .phase⟩, ⟨1, .phase⟩, ⟨2, .phase⟩, ⟨3, .phase⟩, ⟨4, .phase⟩, ⟨5, .phase⟩, ⟨6, .phase⟩], none⟩) (v := ?_) rfl (by kernel_rfl) (by kernel_rfl) (by kernel_rfl) (fun _ _ _ h => h) (Or.inl ⟨by rfl, fun W hSw => ?_⟩) hHeld ?_
 rotate_left
 ·(try dsimp only at hSw); go_simp; (try with_reducible rfl)
 (try simp only [Act.put, List.setIfInBounds_toArray, List.set_cons_zero, List.set_cons_succ])
 refine wpAnyH_done (by kernel_rfl) ?_ _
 go_wp2_with (refine wpList_store_blk rfl _ _ _ rfl g2 58 _ _ rfl rfl (hZ2.keep hbz) rfl (by kernel_rfl) (by simp [Value.oneCell']) ?_; intro w5 hQ5 hgQ5)
 go_end0
 have hE5 : Exc (fun i => i = g2) wz w5 := (Exc.refl _ wz).grown hgQ5 (by intro i h; cases h; exact Or.inl rfl)
 have hl2 := hZ2.lt
 have hs02 := hb02.size
 exact ⟨rfl, A, ⟨c, hQ5⟩, hE5.rd1 hfA (by omega) hA, ((Exc.refl _ w).below (fr_call hb02 hbz)).grown hgQ5 (by intro i h; cases h; exact Or.inl rfl), fun ad e => Nat.le_trans (by omega) (hfA ad e)⟩
set_option maxRecDepth 100000 in
set_option maxHeartbeats 8000000 in
theorem question_ok (l p0 : List UInt8) (ws : List (List UInt8)) (k : Nat) (w : World) (hl : l.length ≤ 1000) (hpf : pieces 32 l = p0 :: ws) (hws : ∀ wd ∈ ws, WdOk wd) (hk : Lib.idxBy eqF asksF (p0, ws.length) = (k : Int)) (hk2 : k ≤ 11) (hM : MaxP w) (hT : TabP w) :
  Calls Tryz.prog 167 #[.string ⟨l.toArray⟩] w fun e w' => ∃ A c, e = .returned (.tuple #[.agg #[.int .i64 ((k + 1 : Nat) : Int), .slice A ws.length c], .int .i64 0]) ∧ Rd w' A ws.length (ws.map valOf) ∧ Below w.heap.size w w' := by
 have hmf : ∀ (fn : Fn) (first cap : Array Value) (w : World), (Instr.makeFunc fn first cap).run Tryz.prog w = .ok (.func fn first cap) w := fun _ _ _ _ => rfl
 have hb0 := fr_alloc (fr_alloc (fr_refl w) (.cells #[.string ⟨l.toArray⟩] 9)) (.cells #[.int .i64 0, .slice none 0 0] 58)
 have hX := (Blk.new w 9 #[.string ⟨l.toArray⟩]).alloc (.cells #[.int .i64 0, .slice none 0 0] 58)
 have hZ : Blk ((w.alloc (.cells #[.string ⟨l.toArray⟩] 9)).alloc (.cells #[.int .i64 0, .slice none 0 0] 58)) (w.heap.size + 1) 58 #[.int .i64 0, .slice none 0 0] := Blk.new_at _ _ (by simp)
 obtain ⟨w1, hw1⟩ : ∃ w1, (w.alloc (.cells #[.string ⟨l.toArray⟩] 9)).alloc (.cells #[.int .i64 0, .slice none 0 0] 58) = w1 := ⟨_, rfl⟩
 rw [hw1] at hb0 hX hZ
 go_enter Tryz.func167, Tryz.ntmps167
 go_upto_region 1 with (fail)
 (try rw [hw1])
 clear hw1
 go_upto_region 2 with (fail)
 have hbA := fr_alloc hb0 (.cells #[.int .i64 0, .slice none 0 0] 58)
 have hXA := hX.alloc (.cells #[.int .i64 0, .slice none 0 0] 58)
 have hZA := hZ.alloc (.cells #[.int .i64 0, .slice none 0 0] 58)
 have hYA := Blk.new w1 58 #[.int .i64 0, .slice none 0 0]
 have hsA : w1.heap.size < (w1.alloc (.cells #[.int .i64 0, .slice none 0 0] 58)).heap.size := by simp
 generalize w1.alloc (.cells #[.int .i64 0, .slice none 0 0] 58) = wA at *
 have hMA := hM.keep hbA
 have hTA := hT.keep hbA
 have hb1 := fr_alloc (fr_refl wA) (.cells #[.int .i64 0] 39)
 have hE := Blk.new wA 39 #[.int .i64 0]
 have hs0 := hb0.size
 have hlZ := hZ.lt
 have hTr := jtry_ok_question #[.pointer (some ⟨w.heap.size, 0, none⟩), .pointer (some ⟨w1.heap.size, 0, none⟩)] (fun W => ∃ A c, Blk W w1.heap.size 58 #[.int .i64 ((k + 1 : Nat) : Int), .slice A ws.length c] ∧ Rd W A ws.length (ws.map valOf) ∧ Exc (fun i => i = w1.heap.size) wA W ∧ W.cell? ⟨wA.heap.size, 0, none⟩ = some (.int .i64 0) ∧ Fresh (wA.heap.size + 1) A) wA ((question1_ok l p0 ws w.heap.size w1.heap.size k (wA.alloc (.cells #[.int .i64 0] 39)) (hXA.alloc _) (hYA.alloc _) (by omega) hpf hws hk hk2 (hMA.keep hb1) (hTA.keep hb1)).mono (fun e W h => by
  obtain ⟨he, A, c, hB, hA, hx, hf⟩ := h
  have hEW := hx.blk hE (by omega)
  rw [World.size_alloc] at hf
  exact ⟨he, ⟨A, c, hB, hA, Exc.pre hb1 hx, hEW.cell 0, hf⟩, hEW.cell 0, hEW.frozen 0⟩))
 clear hX hZ hE hb1
 go_wp2_with fail
 refine hTr.mono ?_
 rintro e w3 ⟨rfl, w2, ⟨A, c, hB, hA, hx, _, hf⟩, rfl⟩
 have hgs := grown_set w2 ⟨wA.heap.size, 0, none⟩ (.int .i64 0)
 have hx2 : Exc (fun i => i = wA.heap.size) w2 (w2.setCell ⟨wA.heap.size, 0, none⟩ (.int .i64 0)) := (Exc.refl (fun i => i = wA.heap.size) w2).set (p := ⟨wA.heap.size, 0, none⟩) (Or.inl rfl) _
 have hB3 := hx2.blk hB (by omega)
 have hA3 := hx2.rd1 hf (Nat.lt_succ_self _) hA
 have hZ3 := hx2.blk (hx.blk hZA (by omega)) (by omega)
 have hx3 : Exc (fun i => i = w1.heap.size) wA (w2.setCell ⟨wA.heap.size, 0, none⟩ (.int .i64 0)) := hx.grown hgs (by intro i h; cases h; exact Or.inr (Nat.le_refl _))
 generalize w2.setCell ⟨wA.heap.size, 0, none⟩ (.int .i64 0) = w4 at *
 have hcB := fun j => hB3.cell j
 have hlB := hB3.lt
 have hf2 : Fresh (w.heap.size + 2) A := fun ad e => Nat.le_trans (by have := hbA.size; omega) (hf ad e)
 have hbT : Below w.heap.size w w4 := ⟨hx3.os.trans hbA.os, hx3.tape.trans hbA.tape, hx3.output.trans hbA.output, Nat.le_trans hbA.size hx3.size, fun i hi => (hx3.block i (Nat.lt_of_lt_of_le hi hbA.size) (by omega)).trans (hbA.block i hi)⟩
 clear hTr hx hx2 hx3 hgs hB hA hf hZA hXA hYA
 go_wp2_with (refine wpList_store_blk rfl _ _ _ rfl (w.heap.size + 1) 58 _ _ rfl rfl hZ3 rfl (by kernel_rfl) (by simp [Value.oneCell']) ?_; intro w5 hQ hgQ)
 refine bodyPost_ret (results_blk_tmp rfl _ _ _ _ rfl hQ Tryz.underlying58 rfl (by kernel_rfl)) rfl ?_
 have hx5 : Exc (fun i => i = w.heap.size + 1) w4 w5 := (Exc.refl _ w4).grown hgQ (by intro i h; cases h; exact Or.inl rfl)
 exact ⟨A, c, rfl, hx5.rd1 hf2 (by omega) hA3, hbT.grown hgQ hbT.size (by intro i h; cases h; exact Nat.le_succ _)⟩
end Go.Proofs.YtkmiphabagoifaaGreatDoor
