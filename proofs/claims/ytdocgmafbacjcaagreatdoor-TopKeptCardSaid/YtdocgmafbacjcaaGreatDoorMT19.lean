/- Walks, package journeyman: Ask (by gen_yk.py). Walks, packages shop and journeyman: the train of a hand, by how much it is off, whether a hand is kept. Walk, package journeyman: on how many days some hand is off by more than the limit, where none is. Walks, package journeyman: an entry that sets the hands is tried (by gen_zq.py). -/
import Derived.Test.YtdocgmafbacjcaaGreatDoorMT18
import Derived.BigQuiet
import Derived.Test.YtdocgmafbacjcaaGreatDoorMT10
section
namespace Go.Proofs.YtdocgmafbacjcaaGreatDoor
open Go.RowKit Go.Shelf Dl

/-- a list of numbers as an answer -/
def RetR (w : World) (rn : Nat) (rl : List Int) (e : Ending) (w' : World) : Prop := ∃ A c, e = .returned (.tuple #[.slice A rn c, .int .i64 0]) ∧ Rd w' A rn rl ∧ Below w.heap.size w w'
def fnsV : Array Value := #[.func (.func 55) #[] #[], .func (.func 56) #[] #[], .func (.func 57) #[] #[], .func (.func 58) #[] #[], .func (.func 59) #[] #[], .func (.func 60) #[] #[], .func (.func 61) #[] #[], .func (.func 62) #[] #[], .func (.func 63) #[] #[], .func (.func 64) #[] #[], .func (.func 65) #[] #[], .func (.func 66) #[] #[]]
/-- which answer a question of a kind has -/
structure KindQ (K many : Nat) (F : FuncId) (fv : Value) : Prop where
 lt : K < 12
 mlt : many ≤ 3
 ix : ∀ w, (Instr.index 122 (.agg asksV) (.int .i64 (K : Int))).run Tryz.prog w = .ok fv w
 fd : ∀ w, (Instr.field 121 fv 1).run Tryz.prog w = .ok (.int .i64 (many : Int)) w
 fa : fnsV[K]? = some (.func (.func F) #[] #[])
 en : ∀ args w, (callFunc F args).run Tryz.prog w = .ok (.enter F args) w
set_option maxRecDepth 100000 in
set_option maxHeartbeats 16000000 in
theorem Ask_any (K many : Nat) (F : FuncId) (fv : Value) (hK : KindQ K many F fv) (g gs : Nat) (dv ev sv : Value) (ST : Nat → World → Prop) (N : Option Addr) (nc : Nat) (ns : List Int) (rn : Nat) (rl : List Int) (kk : Int) (hkk : kk = (K : Int) + 1) (w : World) (hG : Blk w g 93 #[.pointer (some ⟨gs, 0, none⟩), dv, ev, sv]) (hA : AskS g w ST) (hN : Rd w N many ns)
  (hmeth : ∀ s W, ST s W → Blk W g 93 #[.pointer (some ⟨gs, 0, none⟩), dv, ev, sv] → Rd W N many ns → Calls Tryz.prog F #[.agg #[.pointer (some ⟨s, 0, none⟩), .pointer (some ⟨g, 0, none⟩)], .slice N many nc] W (RetR W rn rl)) :
  Calls Tryz.prog 12 #[.pointer (some ⟨g, 0, none⟩), .agg #[.int .i64 kk, .slice N many nc]] w (RetR w rn rl) := by
 have hmf : ∀ (fn : Fn) (first cap : Array Value) (w : World), (Instr.makeFunc fn first cap).run Tryz.prog w = .ok (.func fn first cap) w := fun _ _ _ _ => rfl
 have hix := hK.ix
 have hfd := hK.fd
 have hen := hK.en
 have hfa := Lib.hid hK.fa
 have hkl := hK.lt
 have hml := hK.mlt
 have hwr : IntKind.i64.wrap (kk - 1) = (K : Int) := by rw [IntWalk.i64_in _ (by omega)]; omega
 have i1 : (0 : Int) ≤ (K : Int) := Int.natCast_nonneg K
 have i2 : (K : Int) < 12 := by omega
 have hin : 1 ≤ kk ∧ kk ≤ 12 := by omega
 clear hK hkk
 have hb0 := fr_alloc (fr_alloc (fr_refl w) (.cells #[.pointer (some ⟨g, 0, none⟩)] 38)) (.cells #[.int .i64 kk, .slice N many nc] 58)
 have hX := (Blk.new w 38 #[.pointer (some ⟨g, 0, none⟩)]).alloc (.cells #[.int .i64 kk, .slice N many nc] 58)
 have hY : Blk ((w.alloc (.cells #[.pointer (some ⟨g, 0, none⟩)] 38)).alloc (.cells #[.int .i64 kk, .slice N many nc] 58)) (w.heap.size + 1) 58 #[.int .i64 kk, .slice N many nc] := Blk.new_at _ _ (by simp)
 obtain ⟨w1, hw1⟩ : ∃ w1, (w.alloc (.cells #[.pointer (some ⟨g, 0, none⟩)] 38)).alloc (.cells #[.int .i64 kk, .slice N many nc] 58) = w1 := ⟨_, rfl⟩
 rw [hw1] at hb0 hX hY
 have hlG0 := hG.lt
 replace hG := hG.keep hb0
 replace hN := hN.keep hb0
 have hcX := fun j => hX.cell j
 have HA := Lib.hid hA
 have HM := Lib.hid hmeth
 have hs0 := hb0.size
 clear hA hmeth
 go_enter Tryz.func12, Tryz.ntmps12
 go_upto_region 1 with (fail)
 (try rw [hw1])
 clear hw1
 go_wp2_with fail
 refine (isOpen_yes g gs _ _ _ w1 hG).mono ?_
 rintro e w1' ⟨rfl, rfl⟩
 go_upto_region 3 with (fail)
 have hbz := fr_drew (fr_refl w1)
 have hkS : ∀ W, Below w1.heap.size w1 W → W.cell? ⟨w.heap.size + 1, 0, none⟩ = some (.int .i64 kk) ∧ W.cell? ⟨w.heap.size + 1, 1, none⟩ = some (.slice N many nc) := fun W hb => ⟨(hY.keep hb).cell 0, (hY.keep hb).cell 1⟩
 clear hcX
 go_cut [29] from 14 (fun s29 wc => s29 = .bool false ∧ Below w1.heap.size w1 wc)
 case first =>
  refine wp_region_noPanic ?_
  refine wp_region_held_drew (S := fun W => W.cell? ⟨w.heap.size + 1, 0, none⟩ = some (.int .i64 kk) ∧ W.cell? ⟨w.heap.size + 1, 1, none⟩ = some (.slice N many nc)) (by kernel_rfl) (hkS _ hbz) (fun hHeld => ?_)
  generalize w1.drew = wz at hbz hHeld ⊢
  -- the region, step by step, in whatever order
  refine tkH 0 ⟨some 14, .fieldAddr 58 (.tmp 3) 0, 0, "ask.go:157", #[], none⟩ hHeld ?_
  refine tkH 1 ⟨some 15, .load 56 (.tmp 14), 56, "ask.go:157", #[⟨0, .data⟩], none⟩ hHeld ?_
  refine rdH 2 ⟨some 16, .call { callee := .value (.func 52), args := #[.tmp 15, .const (.int .i64 1), .const (.int .i64 12)], argTypes := #[3, 3, 3] }, 4, "ask.go:157", #[⟨1, .data⟩], none⟩ fun K hK => ?_
  go_simp
  refine (jin_yes _ _ _ _ hin).mono ?_
  rintro e wz' ⟨rfl, rfl⟩
  refine hK.out _ _ (hkS _ hbz) (fun hHeld => ?_)
  clear hK K
  (try simp only [Act.put, List.setIfInBounds_toArray, List.set_cons_zero, List.set_cons_succ])
  refine tkH 3 ⟨some 17, .unOp .not 4 (.tmp 16), 4, "ask.go:157", #[⟨2, .data⟩], none⟩ hHeld ?_
  refine tkH 4 ⟨some 18, .move (.tmp 17), 4, "ask.go:157", #[⟨3, .data⟩, ⟨2, .chain⟩], none⟩ hHeld ?_
  refine tkH 5 ⟨some 19, .fieldAddr 58 (.tmp 3) 1, 0, "ask.go:157", #[⟨4, .guard⟩], some (4, false)⟩ hHeld ?_
  refine tkH 6 ⟨some 20, .load 23 (.tmp 19), 23, "ask.go:157", #[⟨5, .data⟩, ⟨4, .guard⟩], some (4, false)⟩ hHeld ?_
  refine tkH 7 ⟨some 21, .call { callee := .builtin .len, args := #[.tmp 20], argTypes := #[23] }, 3, "ask.go:157", #[⟨6, .data⟩, ⟨4, .guard⟩], some (4, false)⟩ hHeld ?_
  refine tkH 9 ⟨some 23, .fieldAddr 58 (.tmp 3) 0, 0, "ask.go:157", #[⟨4, .guard⟩], some (4, false)⟩ hHeld ?_
  refine tkH 10 ⟨some 24, .load 56 (.tmp 23), 56, "ask.go:157", #[⟨9, .data⟩, ⟨4, .guard⟩], some (4, false)⟩ hHeld ?_
  refine tkH 11 ⟨some 25, .binOp .sub 56 (.tmp 24) (.const (.int .i64 1)) 56, 56, "ask.go:157", #[⟨10, .data⟩, ⟨4, .guard⟩], some (4, false)⟩ hHeld ?_
  refine rdH 8 ⟨some 22, .call { callee := .value (.func 53), args := #[], argTypes := #[] }, 122, "ask.go:157", #[⟨4, .chain⟩, ⟨4, .guard⟩], some (4, false)⟩ fun K hK => ?_
  go_simp
  refine (asks_is _).mono ?_
  rintro e wz ⟨rfl, hb1⟩
  replace hbz := fr_call hbz hb1
  refine hK.out _ _ (hkS _ hbz) (fun hHeld => ?_)
  clear hK K
  (try simp only [Act.put, List.setIfInBounds_toArray, List.set_cons_zero, List.set_cons_succ])
  refine rdH 12 ⟨some 26, .index 122 (.tmp 22) (.tmp 25), 121, "ask.go:157", #[⟨8, .data⟩, ⟨11, .data⟩, ⟨4, .guard⟩], some (4, false)⟩ fun K hK => ?_
  go_simp
  refine hK.out _ _ (hkS _ hbz) (fun hHeld => ?_)
  clear hK K
  (try simp only [Act.put, List.setIfInBounds_toArray, List.set_cons_zero, List.set_cons_succ])
  refine rdH 13 ⟨some 27, .field 121 (.tmp 26) 1, 3, "ask.go:157", #[⟨12, .data⟩, ⟨4, .guard⟩], some (4, false)⟩ fun K hK => ?_
  go_simp
  refine hK.out _ _ (hkS _ hbz) (fun hHeld => ?_)
  clear hK K
  (try simp only [Act.put, List.setIfInBounds_toArray, List.set_cons_zero, List.set_cons_succ])
  refine tkH 14 ⟨some 28, .binOp .neq 3 (.tmp 21) (.tmp 27) 3, 4, "ask.go:157", #[⟨7, .data⟩, ⟨13, .data⟩, ⟨4, .guard⟩], some (4, false)⟩ hHeld ?_
  refine tkH 15 ⟨some 29, .pick (.tmp 18) (.const (.bool true)) (.tmp 28), 4, "ask.go:157", #[⟨4, .data⟩, ⟨14, .data⟩], none⟩ hHeld ?_
  refine wpAnyH_done (by kernel_rfl) ?_ _
  refine NoPanic.normal ?_
  go_wp2_with fail
  go_meet
  case rel => exact ⟨rfl, hbz⟩
 obtain ⟨rfl, hbz⟩ := hcut
 obtain ⟨wz, hwz⟩ : ∃ w2, w2 = wc := ⟨_, rfl⟩
 subst hwz
 have hX2 := hX.keep hbz
 have hY2 := hY.keep hbz
 have hN2 := hN.keep hbz
 have hG2 := hG.keep hbz
 have hb2 := fr_call hb0 hbz
 have hlX2 := hX2.lt
 have hlY2 := hY2.lt
 have hoN : ∀ ad, N = some ad → 0 < many → ad.block < w1.heap.size := fun ad e h => by
  obtain ⟨ad', e', hlt, _⟩ := hN.2 h
  rw [e] at e'
  cases e'
  exact hlt
 have hs12 := hbz.size
 clear hkS hX hY hN hG hix hfd
 have hcX := fun j => hX2.cell j
 generalize wz = w2 at *
 go_upto_region 6 with (refine wpList_store_blk rfl _ _ _ rfl w2.heap.size 125 _ _ rfl rfl (Blk.new w2 _ _) rfl (by kernel_rfl) (by simp [Value.oneCell']) ?_; intro w3 hQ hgQ)
 have hb23 : Below w2.heap.size w2 w3 := (fr_alloc (fr_refl w2) _).grown hgQ (fr_alloc (fr_refl w2) _).size (by intro k hk; cases hk; exact Nat.le_refl _)
 dsimp only [Act.put]
 have hb03 := fr_call hb2 hb23
 have hX3 := hX2.keep hb23
 have hY3 := hY2.keep hb23
 have hN3 := hN2.keep hb23
 have hG3 := hG2.keep hb23
 have hb1 := fr_alloc (fr_refl w3) (.cells #[.int .i64 0] 39)
 have hE := Blk.new w3 39 #[.int .i64 0]
 have hlQ := hQ.lt
 have hTr := jtry_ok_Ask #[.pointer (some ⟨w.heap.size, 0, none⟩), .pointer (some ⟨w2.heap.size, 0, none⟩)] (fun W => ∃ s, Blk W w2.heap.size 125 #[.pointer (some ⟨s, 0, none⟩), .pointer (some ⟨g, 0, none⟩)] ∧ ST s W ∧ Exc (fun i => i = w2.heap.size) w3 W ∧ W.cell? ⟨w3.heap.size, 0, none⟩ = some (.int .i64 0)) w3 ((Ask1_any w.heap.size w2.heap.size g ST w (w3.alloc (.cells #[.int .i64 0] 39)) HA.out (fr_call hb03 hb1) (hX3.alloc _) (hQ.alloc _)).mono (fun e W h => by
  obtain ⟨he, s, hQ4, hS4, hx4⟩ := h
  have hEW := hx4.blk hE (by omega)
  exact ⟨he, ⟨s, hQ4, hS4, Exc.pre hb1 hx4, hEW.cell 0⟩, hEW.cell 0, hEW.frozen 0⟩))
 clear hX2 hY2 hN2 hG2 hcX hE hb1 hQ
 go_wp2_with fail
 refine hTr.mono ?_
 rintro e w5 ⟨rfl, w4, ⟨s, hQ4, hS4, hx4, hc4⟩, rfl⟩
 rw [setCell_same hc4]
 have hG4 := hx4.blk hG3 (by omega)
 have hY4 := hx4.blk hY3 (by omega)
 have hs02 := hb2.size
 have hN4 : Rd w4 N many ns := by
  by_cases h : 0 < many
  ·exact hx4.rd hN3 (fun ad e => by have := hoN ad e h; show ¬ ad.block = w2.heap.size; omega)
  ·exact ⟨hN3.1, fun h' => absurd h' h⟩
 have hb04 : Below w.heap.size w w4 := ⟨hx4.os.trans hb03.os, hx4.tape.trans hb03.tape, hx4.output.trans hb03.output, Nat.le_trans hb03.size hx4.size, fun i hi => (hx4.block i (Nat.lt_of_lt_of_le hi hb03.size) (by show ¬ i = _; omega)).trans (hb03.block i hi)⟩
 clear hTr hG3 hX3 hY3 hN3 hc4 hx4 hb03 hb2 hb23 hgQ hb0 hoN
 go_upto_region 10 with (refine wpList_store_blk rfl _ _ _ rfl w4.heap.size 128 _ _ rfl rfl (Blk.new w4 _ _) rfl (by kernel_rfl) (by simp [Value.oneCell']) ?_; intro w6 hF hgF)
 have hb46 : Below w4.heap.size w4 w6 := (fr_alloc (fr_refl w4) _).grown hgF (fr_alloc (fr_refl w4) _).size (by intro k hk; cases hk; exact Nat.le_refl _)
 (try dsimp only [Act.put])
 have hQ6 := hQ4.keep hb46
 have hY6 := hY4.keep hb46
 have hG6 := hG4.keep hb46
 have hN6 := hN4.keep hb46
 have hS6 := Lib.hid (HA.out.keep _ _ _ hS4 hb46)
 have hb06 := fr_call hb04 hb46
 clear hQ4 hY4 hG4 hN4 hS4 hb04 hb46 hgF
 have hbz := fr_drew (fr_refl w6)
 have hkS : ∀ W, Below w6.heap.size w6 W → W.cell? ⟨w.heap.size + 1, 0, none⟩ = some (.int .i64 kk) ∧ W.cell? ⟨w.heap.size + 1, 1, none⟩ = some (.slice N many nc) ∧ W.cell? ⟨w2.heap.size, 0, none⟩ = some (.pointer (some ⟨s, 0, none⟩)) ∧ W.cell? ⟨w2.heap.size, 1, none⟩ = some (.pointer (some ⟨g, 0, none⟩)) ∧ W.cell? ⟨w4.heap.size, K, none⟩ = some (.func (.func F) #[] #[]) := fun W hb => ⟨(hY6.keep hb).cell 0, (hY6.keep hb).cell 1, (hQ6.keep hb).cell 0, (hQ6.keep hb).cell 1, ((hF.keep hb).cell K).trans hfa.out⟩
 clear hF hY6 hQ6
 refine wp_region_held_drew (S := fun W => W.cell? ⟨w.heap.size + 1, 0, none⟩ = some (.int .i64 kk) ∧ W.cell? ⟨w.heap.size + 1, 1, none⟩ = some (.slice N many nc) ∧ W.cell? ⟨w2.heap.size, 0, none⟩ = some (.pointer (some ⟨s, 0, none⟩)) ∧ W.cell? ⟨w2.heap.size, 1, none⟩ = some (.pointer (some ⟨g, 0, none⟩)) ∧ W.cell? ⟨w4.heap.size, K, none⟩ = some (.func (.func F) #[] #[])) (by kernel_rfl) (hkS _ hbz) (fun hHeld => ?_)
 generalize w6.drew = wz at hbz hHeld ⊢
 -- the region, step by step, in whatever order
 refine tkH 0 ⟨some 39, .fieldAddr 58 (.tmp 3) 0, 0, "ask.go:165", #[], none⟩ hHeld ?_
 refine tkH 1 ⟨some 40, .load 56 (.tmp 39), 56, "ask.go:165", #[⟨0, .data⟩], none⟩ hHeld ?_
 refine tkH 2 ⟨some 41, .binOp .sub 56 (.tmp 40) (.const (.int .i64 1)) 56, 56, "ask.go:165", #[⟨1, .data⟩], none⟩ hHeld ?_
 refine tkH 3 ⟨some 42, .indexAddr 128 (.tmp 8) (.tmp 41), 0, "ask.go:165", #[⟨2, .data⟩], none⟩ hHeld ?_
 refine tkH 4 ⟨some 43, .load 126 (.tmp 42), 126, "ask.go:165", #[⟨3, .data⟩], none⟩ hHeld ?_
 refine tkH 5 ⟨some 44, .load 125 (.tmp 6), 125, "ask.go:165", #[], none⟩ hHeld ?_
 refine tkH 6 ⟨some 45, .fieldAddr 58 (.tmp 3) 1, 0, "ask.go:165", #[], none⟩ hHeld ?_
 refine tkH 7 ⟨some 46, .load 23 (.tmp 45), 23, "ask.go:165", #[⟨6, .data⟩], none⟩ hHeld ?_
 refine rdH 8 ⟨some 47, .call { callee := .value (.tmp 43), args := #[.tmp 44, .tmp 46], argTypes := #[125, 23] }, 54, "ask.go:165", #[⟨4, .data⟩, ⟨5, .data⟩, ⟨7, .data⟩], none⟩ fun K hK => ?_
 go_simp
 refine (HM.out s wz (HA.out.keep _ _ _ hS6.out hbz) (hG6.keep hbz) (hN6.keep hbz)).mono ?_
 rintro e wz ⟨A, c, rfl, hAn, hb1⟩
 replace hbz := fr_call hbz hb1
 refine hK.out _ _ (hkS _ hbz) (fun hHeld => ?_)
 clear hK K
 (try simp only [Act.put, List.setIfInBounds_toArray, List.set_cons_zero, List.set_cons_succ])
 refine tkH 9 ⟨some 38, .move (.tmp 47), 54, "ask.go:165", #[⟨8, .data⟩], none⟩ hHeld ?_
 refine tkH 10 ⟨some 48, .extract (.tmp 38) 0, 23, "ask.go:165", #[⟨9, .data⟩], none⟩ hHeld ?_
 refine tkH 11 ⟨some 49, .extract (.tmp 38) 1, 39, "ask.go:165", #[⟨9, .data⟩, ⟨12, .gcOnly .lateStores⟩], none⟩ hHeld ?_
 refine tkH 12 ⟨some 9, .assign (.tmp 48), 23, "ask.go:165", #[⟨10, .data⟩, ⟨8, .chain⟩, ⟨0, .phase⟩, ⟨1, .phase⟩, ⟨2, .phase⟩, ⟨3, .phase⟩, ⟨4, .phase⟩, ⟨5, .phase⟩, ⟨6, .phase⟩, ⟨7, .phase⟩, ⟨8, .phase⟩, ⟨9, .phase⟩, ⟨10, .phase⟩, ⟨11, .textOnly .lateStores⟩], none⟩ hHeld ?_
 refine tkH 13 ⟨some 10, .assign (.tmp 49), 39, "ask.go:165", #[⟨11, .data⟩, ⟨12, .chain⟩, ⟨0, .phase⟩, ⟨1, .phase⟩, ⟨2, .phase⟩, ⟨3, .phase⟩, ⟨4, .phase⟩, ⟨5, .phase⟩, ⟨6, .phase⟩, ⟨7, .phase⟩, ⟨8, .phase⟩, ⟨9, .phase⟩, ⟨10, .phase⟩, ⟨11, .phase⟩, ⟨12, .phase⟩], none⟩ hHeld ?_
 refine wpAnyH_done (by kernel_rfl) ?_ _
 go_wp2_with fail
 go_ret2
 exact ⟨A, c, rfl, hAn, fr_call hb06 hbz⟩
section
variable {w : World} {g gs : Nat} {A1 A2 A3 A4 A5 A6 : Option Addr} {n1 c1 n2 c2 c3 n4 c4 n5 c5 n6 c6 wm br hr wg pc : Nat} {lim ep mn md ma yr : Int} {D : Option Addr} {m dc : Nat} {sv : Value} {ls : List Lk} {hs : List Int} {tg : List (Int × Int)} {ho cy : List Int} {fe : List Feast} {fs : List Int} {f : Int}
theorem askS_new (h : DeskAt w g gs A1 A2 A3 A4 A5 A6 n1 c1 n2 c2 c3 n4 c4 n5 c5 n6 c6 wm br hr wg pc lim ep mn md ma yr D m dc (.slice none 0 0) sv ls hs tg ho cy fe fs f) (hm : m ≤ 1000) (hbd : n1 ≤ 1000 ∧ n2 ≤ 1000 ∧ n4 ≤ 1000 ∧ n5 ≤ 1000 ∧ n6 ≤ 1000) : AskS g w (fun s W => ∃ B1 B2 B3 B4 B5 B6 k1 k2 k3 k4 k5 k6 mp zv, StAt W s B1 B2 B3 B4 B5 B6 n1 k1 n2 k2 k3 n4 k4 n5 k5 n6 k6 wm br hr wg pc lim ep mn md ma yr D m dc mp zv [] ls hs tg ho cy fe fs f ∧ zv = .slice none 0 0) := by
 refine ⟨fun W hb => (state_any g gs A1 A2 A3 A4 A5 A6 n1 c1 n2 c2 c3 n4 c4 n5 c5 n6 c6 wm br hr wg pc lim ep mn md ma yr D none m dc 0 0 sv [] ls hs tg ho cy fe fs f W (h.keep hb) (EntR.nil_ _ _ _) (fun k d e => by simp at e) hm (by omega) hbd).mono ?_, ?_, ?_⟩
 ·rintro e w' ⟨s, B1, B2, B3, B4, B5, B6, k1, k2, k3, k4, k5, k6, mp, zv, rfl, hS, hz, hs, hb⟩
  exact ⟨s, rfl, ⟨B1, B2, B3, B4, B5, B6, k1, k2, k3, k4, k5, k6, mp, zv, hS, hz rfl⟩, hs, hb⟩
 ·rintro s W W' ⟨B1, B2, B3, B4, B5, B6, k1, k2, k3, k4, k5, k6, mp, zv, hS, hz⟩ hb
  exact ⟨B1, B2, B3, B4, B5, B6, k1, k2, k3, k4, k5, k6, mp, zv, hS.keep hb, hz⟩
 ·rintro s q t cs W W' ⟨B1, B2, B3, B4, B5, B6, k1, k2, k3, k4, k5, k6, mp, zv, hS, hz⟩ hQ hcs hx hq
  exact ⟨B1, B2, B3, B4, B5, B6, k1, k2, k3, k4, k5, k6, mp, zv, hS.otherP hQ hcs hx hq, hz⟩
end
theorem Ask_hands (g gs : Nat) (A1 A2 A3 A4 A5 A6 : Option Addr) (n1 c1 n2 c2 c3 n4 c4 n5 c5 n6 c6 wm br hr wg pc : Nat) (lim ep mn md ma yr : Int) (D : Option Addr) (m dc : Nat) (sv : Value) (ls : List Lk) (hs : List Int) (tg : List (Int × Int)) (ho cy : List Int) (fe : List Feast) (fs : List Int) (f : Int) (N : Option Addr) (nc : Nat) (ns : List Int) (rn : Nat) (rl : List Int) (w : World) (h : DeskAt w g gs A1 A2 A3 A4 A5 A6 n1 c1 n2 c2 c3 n4 c4 n5 c5 n6 c6 wm br hr wg pc lim ep mn md ma yr D m dc (.slice none 0 0) sv ls hs tg ho cy fe fs f) (hm : m ≤ 1000) (hbd : n1 ≤ 1000 ∧ n2 ≤ 1000 ∧ n4 ≤ 1000 ∧ n5 ≤ 1000 ∧ n6 ≤ 1000) (hN : Rd w N 0 ns)
  (hmeth : ∀ s B1 B2 B3 B4 B5 B6 k1 k2 k3 k4 k5 k6 mp W, StateAt W s B1 B2 B3 B4 B5 B6 n1 k1 n2 k2 k3 n4 k4 n5 k5 n6 k6 wm br hr wg pc lim ep mn md ma yr D m dc mp ls hs tg ho cy fe fs f → Blk W g 93 #[.pointer (some ⟨gs, 0, none⟩), .slice D m dc, .slice none 0 0, sv] → Rd W N 0 ns → Calls Tryz.prog 55 #[.agg #[.pointer (some ⟨s, 0, none⟩), .pointer (some ⟨g, 0, none⟩)], .slice N 0 nc] W (RetR W rn rl)) :
  Calls Tryz.prog 12 #[.pointer (some ⟨g, 0, none⟩), .agg #[.int .i64 1, .slice N 0 nc]] w (RetR w rn rl) :=
 Ask_any 0 0 55 (.agg #[.string ⟨#[104, 97, 110, 100, 115]⟩, .int .i64 0]) ⟨by omega, by omega, fun w => by kernel_rfl, fun w => by kernel_rfl, rfl, enters_of Tryz.func55 (by kernel_rfl) rfl⟩ g gs _ _ sv _ N nc ns rn rl 1 rfl w h.d (askS_new h hm hbd) hN (fun s W hS hG hNW => by
  obtain ⟨B1, B2, B3, B4, B5, B6, k1, k2, k3, k4, k5, k6, mp, zv, hS, rfl⟩ := hS
  exact hmeth s B1 B2 B3 B4 B5 B6 k1 k2 k3 k4 k5 k6 mp W hS.state hG hNW)
theorem Ask_works (g gs : Nat) (A1 A2 A3 A4 A5 A6 : Option Addr) (n1 c1 n2 c2 c3 n4 c4 n5 c5 n6 c6 wm br hr wg pc : Nat) (lim ep mn md ma yr : Int) (D : Option Addr) (m dc : Nat) (sv : Value) (ls : List Lk) (hs : List Int) (tg : List (Int × Int)) (ho cy : List Int) (fe : List Feast) (fs : List Int) (f : Int) (N : Option Addr) (nc : Nat) (ns : List Int) (rn : Nat) (rl : List Int) (w : World) (h : DeskAt w g gs A1 A2 A3 A4 A5 A6 n1 c1 n2 c2 c3 n4 c4 n5 c5 n6 c6 wm br hr wg pc lim ep mn md ma yr D m dc (.slice none 0 0) sv ls hs tg ho cy fe fs f) (hm : m ≤ 1000) (hbd : n1 ≤ 1000 ∧ n2 ≤ 1000 ∧ n4 ≤ 1000 ∧ n5 ≤ 1000 ∧ n6 ≤ 1000) (hN : Rd w N 1 ns)
  (hmeth : ∀ s B1 B2 B3 B4 B5 B6 k1 k2 k3 k4 k5 k6 mp W, StateAt W s B1 B2 B3 B4 B5 B6 n1 k1 n2 k2 k3 n4 k4 n5 k5 n6 k6 wm br hr wg pc lim ep mn md ma yr D m dc mp ls hs tg ho cy fe fs f → Blk W g 93 #[.pointer (some ⟨gs, 0, none⟩), .slice D m dc, .slice none 0 0, sv] → Rd W N 1 ns → Calls Tryz.prog 62 #[.agg #[.pointer (some ⟨s, 0, none⟩), .pointer (some ⟨g, 0, none⟩)], .slice N 1 nc] W (RetR W rn rl)) :
  Calls Tryz.prog 12 #[.pointer (some ⟨g, 0, none⟩), .agg #[.int .i64 8, .slice N 1 nc]] w (RetR w rn rl) :=
 Ask_any 7 1 62 (.agg #[.string ⟨#[119, 111, 114, 107, 115]⟩, .int .i64 1]) ⟨by omega, by omega, fun w => by kernel_rfl, fun w => by kernel_rfl, rfl, enters_of Tryz.func62 (by kernel_rfl) rfl⟩ g gs _ _ sv _ N nc ns rn rl 8 rfl w h.d (askS_new h hm hbd) hN (fun s W hS hG hNW => by
  obtain ⟨B1, B2, B3, B4, B5, B6, k1, k2, k3, k4, k5, k6, mp, zv, hS, rfl⟩ := hS
  exact hmeth s B1 B2 B3 B4 B5 B6 k1 k2 k3 k4 k5 k6 mp W hS.state hG hNW)
theorem Ask_cuts (g gs : Nat) (A1 A2 A3 A4 A5 A6 : Option Addr) (n1 c1 n2 c2 c3 n4 c4 n5 c5 n6 c6 wm br hr wg pc : Nat) (lim ep mn md ma yr : Int) (D : Option Addr) (m dc : Nat) (sv : Value) (ls : List Lk) (hs : List Int) (tg : List (Int × Int)) (ho cy : List Int) (fe : List Feast) (fs : List Int) (f : Int) (N : Option Addr) (nc : Nat) (ns : List Int) (rn : Nat) (rl : List Int) (w : World) (h : DeskAt w g gs A1 A2 A3 A4 A5 A6 n1 c1 n2 c2 c3 n4 c4 n5 c5 n6 c6 wm br hr wg pc lim ep mn md ma yr D m dc (.slice none 0 0) sv ls hs tg ho cy fe fs f) (hm : m ≤ 1000) (hbd : n1 ≤ 1000 ∧ n2 ≤ 1000 ∧ n4 ≤ 1000 ∧ n5 ≤ 1000 ∧ n6 ≤ 1000) (hN : Rd w N 1 ns)
  (hmeth : ∀ s B1 B2 B3 B4 B5 B6 k1 k2 k3 k4 k5 k6 mp W, StateAt W s B1 B2 B3 B4 B5 B6 n1 k1 n2 k2 k3 n4 k4 n5 k5 n6 k6 wm br hr wg pc lim ep mn md ma yr D m dc mp ls hs tg ho cy fe fs f → Blk W g 93 #[.pointer (some ⟨gs, 0, none⟩), .slice D m dc, .slice none 0 0, sv] → Rd W N 1 ns → Calls Tryz.prog 64 #[.agg #[.pointer (some ⟨s, 0, none⟩), .pointer (some ⟨g, 0, none⟩)], .slice N 1 nc] W (RetR W rn rl)) :
  Calls Tryz.prog 12 #[.pointer (some ⟨g, 0, none⟩), .agg #[.int .i64 10, .slice N 1 nc]] w (RetR w rn rl) :=
 Ask_any 9 1 64 (.agg #[.string ⟨#[99, 117, 116, 115]⟩, .int .i64 1]) ⟨by omega, by omega, fun w => by kernel_rfl, fun w => by kernel_rfl, rfl, enters_of Tryz.func64 (by kernel_rfl) rfl⟩ g gs _ _ sv _ N nc ns rn rl 10 rfl w h.d (askS_new h hm hbd) hN (fun s W hS hG hNW => by
  obtain ⟨B1, B2, B3, B4, B5, B6, k1, k2, k3, k4, k5, k6, mp, zv, hS, rfl⟩ := hS
  exact hmeth s B1 B2 B3 B4 B5 B6 k1 k2 k3 k4 k5 k6 mp W hS.state hG hNW)
end Go.Proofs.YtdocgmafbacjcaaGreatDoor
end

section
namespace Go.Proofs.YtdocgmafbacjcaaGreatDoor
open Go.RowKit Go.Shelf Dl

theorem ShopOk.train {ls : List Lk} {hs : List Int} (h : ShopOk ls hs) {a : Nat} (h1 : 1 ≤ a) (h2 : a ≤ ls.length) : TeethP (trainL ls a) ∧ 1 ≤ (trainL ls a).length ∧ (trainL ls a).length ≤ 3 := by
 obtain ⟨k, rfl⟩ : ∃ k, a = k + 1 := ⟨a - 1, by omega⟩
 have he : ls[k]? = some ls[k] := List.getElem?_eq_getElem (by omega)
 have hlen : (trainL ls (k + 1)).length = (pathL ls ls[k].fr).length + 1 := by
  rw [trainL, List.length_map, pathL_succ h.fr he, List.length_append]
  rfl
 have hf := h.far ls[k] (List.getElem_mem (by omega))
 refine ⟨fun p hp => ?_, by omega, by omega⟩
 obtain ⟨i, hi, rfl⟩ := List.mem_map.1 hp
 have hil := pathL_mem h.fr (k + 1) h2 i hi
 have hi2 : i < ls.length := by omega
 have : prAt ls i = ls[i].pr := by simp [prAt, hi2]
 rw [this]
 exact h.teeth ls[i] (List.getElem_mem hi2)
theorem ShopOk.old {ls : List Lk} {hs : List Int} {w : World} {A : Option Addr} (h : ShopOk ls hs) (hr : RdS w A 3 (ls.map Lk.cells)) : ∀ ad, A = some ad → ad.block < w.heap.size := hr.oldA (by rw [List.length_map]; have := h.n; omega)
theorem ShopOk.path {ls : List Lk} {hs : List Int} (h : ShopOk ls hs) {a : Nat} (h1 : 1 ≤ a) (h2 : a ≤ ls.length) : (pathL ls a).length ≤ 1000 := by
 have := (h.train h1 h2).2.2
 rw [trainL, List.length_map] at this
 omega
/-- a train that is returned, and no error -/
def RetPT (w : World) (ps : List Wh) (e : Ending) (w' : World) : Prop := ∃ A c, e = .returned (.tuple #[.slice A ps.length c, .int .i64 0]) ∧ RdS w' A 2 (ps.map Wh.cells) ∧ Below w.heap.size w w'
set_option maxRecDepth 100000 in
set_option maxHeartbeats 4000000 in
theorem sTrain_ok (A H : Option Addr) (n c m hc a : Nat) (ls : List Lk) (hs : List Int) (w : World) (hr : RdS w A 3 (ls.map Lk.cells)) (hn : ls.length = n) (hh : Rd w H m hs) (hcap : n ≤ c) (hok : ShopOk ls hs) (h1 : 1 ≤ a) (h2 : a ≤ n) :
  Calls Tryz.prog 9 #[.agg #[.slice A n c, .slice H m hc], .int .i64 a] w (RetPT w (trainL ls a)) := by
 have hb0 := fr_alloc (fr_refl w) (.cells #[.slice A n c, .slice H m hc] 25)
 have hX := Blk.new w 25 #[.slice A n c, .slice H m hc]
 obtain ⟨w1, hw1⟩ : ∃ w1, w.alloc (.cells #[.slice A n c, .slice H m hc] 25) = w1 := ⟨_, rfl⟩
 rw [hw1] at hb0 hX
 replace hr := hr.keep hb0
 replace hh := hh.keep hb0
 have hnb := hok.n
 have K1 := sPiece_yes A H n c m hc ls hs w1 hr hn hh hcap hok
 have K2 := fun W (hb : Below w1.heap.size w1 W) => trainOf_any A H n c m hc a ls W (hr.keep hb) hn hok.fr h2 (by omega) (hok.old (hr.keep hb)) (hok.path h1 (by omega))
 have hi1 : inB (a : Int) 1 (n : Int) = true := inB_yes (by omega)
 have hcX := fun j => hX.cell j
 generalize trainL ls a = ps at *
 clear hr hh hok hnb hcap hn h1 h2
 go_enter Tryz.func9, Tryz.ntmps9
 go_upto_region 1 with (fail)
 (try rw [hw1])
 clear hw1
 go_wp2_with fail
 refine K1.mono ?_
 rintro e w2 ⟨rfl, hb2⟩
 have hX2 := hX.keep hb2
 clear hcX K1
 have hcX := fun j => hX2.cell j
 go_wp2_with fail
 refine (sin_is _ _ _ _ _ hi1).mono ?_
 rintro e w' ⟨rfl, rfl⟩
 go_wp2_with fail
 refine (K2 _ hb2).mono ?_
 rintro e w3 ⟨B, d, rfl, hO, hb3⟩
 go_wp2_with fail
 go_ret2
 exact ⟨B, d, rfl, hO.rd, fr_call hb0 (fr_call hb2 hb3)⟩
set_option maxRecDepth 100000 in
set_option maxHeartbeats 4000000 in
theorem sWrong_ok (A H : Option Addr) (n c m hc i a : Nat) (ls : List Lk) (hs : List Int) (f : Int × Int) (t : Int) (w : World) (hr : RdS w A 3 (ls.map Lk.cells)) (hn : ls.length = n) (hh : Rd w H m hs) (hcap : n ≤ c) (hok : ShopOk ls hs) (hi : hs[i]? = some (a : Int)) (hf : FrOk f) (ht : 0 ≤ t ∧ t ≤ 10000) :
  Calls Tryz.prog 132 #[.agg #[.slice A n c, .slice H m hc], .int .i64 i, .agg #[.int .i64 f.1, .int .i64 f.2], .int .i64 t] w fun e w' => e = .returned (.tuple #[.int .i64 (offN (wNum (trainL ls a) f) (wDen (trainL ls a) f) t), .int .i64 0]) ∧ Below w.heap.size w w' := by
 have hb0 := fr_alloc (fr_alloc (fr_refl w) (.cells #[.slice A n c, .slice H m hc] 25)) (.cells #[.int .i64 f.1, .int .i64 f.2] 52)
 have hX := (Blk.new w 25 #[.slice A n c, .slice H m hc]).alloc (.cells #[.int .i64 f.1, .int .i64 f.2] 52)
 have hF : Blk ((w.alloc (.cells #[.slice A n c, .slice H m hc] 25)).alloc (.cells #[.int .i64 f.1, .int .i64 f.2] 52)) (w.heap.size + 1) 52 #[.int .i64 f.1, .int .i64 f.2] := Blk.new_at _ _ (by simp)
 obtain ⟨w1, hw1⟩ : ∃ w1, (w.alloc (.cells #[.slice A n c, .slice H m hc] 25)).alloc (.cells #[.int .i64 f.1, .int .i64 f.2] 52) = w1 := ⟨_, rfl⟩
 rw [hw1] at hb0 hX hF
 replace hr := hr.keep hb0
 replace hh := hh.keep hb0
 have hnb := hok.n
 have hil : i < hs.length := (List.getElem?_eq_some_iff.1 hi).1
 have hml := hh.len
 have hab := hok.hand (a : Int) (List.mem_of_getElem? hi)
 have htr := hok.train (a := a) (by omega) (by omega)
 have K1 := sPiece_yes A H n c m hc ls hs w1 hr hn hh hcap hok
 have K2 := fun W (hb : Below w1.heap.size w1 W) => trainOf_any A H n c m hc a ls W (hr.keep hb) hn hok.fr (by omega) (by omega) (hok.old (hr.keep hb)) (hok.path (by omega) (by omega))
 have K3 := fun B d W (hrd : RdS W B 2 ((trainL ls a).map Wh.cells)) => Off_is B (trainL ls a).length d (trainL ls a) f t W hrd rfl htr.2 htr.1 hf ht
 have hi1 : inB (i : Int) 0 ((m : Int) - 1) = true := inB_yes (by omega)
 have i2 : IntKind.i64.wrap ((m : Int) - 1) = (m : Int) - 1 := IntWalk.i64_in _ (by have := hok.m; omega)
 have i3 : (0 : Int) ≤ (i : Int) := Int.natCast_nonneg i
 have i4 : (i : Int) < (m : Int) := by omega
 obtain ⟨ad, rfl, hadb, hc0⟩ := hh.at_ (show i < m by omega)
 rw [hi, Option.getD_some] at hc0
 have HAD := Lib.hid hadb
 generalize offN (wNum (trainL ls a) f) (wDen (trainL ls a) f) t = o at *
 generalize trainL ls a = ps at *
 obtain ⟨f1, f2⟩ := f
 simp only at hF K3 hw1 ⊢
 have hcX := fun j => hX.cell j
 clear hr hh hok hnb hcap hn hi hab htr hf ht hml hil
 go_enter Tryz.func132, Tryz.ntmps132
 go_upto_region 1 with (fail)
 (try rw [hw1])
 clear hw1
 go_wp2_with fail
 refine K1.mono ?_
 rintro e w2 ⟨rfl, hb2⟩
 have hX2 := hX.keep hb2
 clear hcX K1
 have hcX := fun j => hX2.cell j
 go_wp2_with fail
 refine (sin_is _ _ _ _ _ hi1).mono ?_
 rintro e w' ⟨rfl, rfl⟩
 go_wp2_with fail
 have hF2 := hF.keep hb2
 have hb02 := fr_call hb0 hb2
 have hbz := fr_drew (fr_refl w2)
 have hkS : ∀ W, Below w2.heap.size w2 W → ((W.cell? ⟨w.heap.size, 0, none⟩ = some (.slice A n c) ∧ W.cell? ⟨w.heap.size, 1, none⟩ = some (.slice (some ad) m hc)) ∧ W.cell? ⟨w.heap.size + 1, 0, none⟩ = some (.int .i64 f1) ∧ W.cell? ⟨w.heap.size + 1, 1, none⟩ = some (.int .i64 f2)) ∧ W.cell? (ad.add i) = some (.int .i64 a) := fun W hb => ⟨⟨⟨(hX2.keep hb).cell 0, (hX2.keep hb).cell 1⟩, (hF2.keep hb).cell 0, (hF2.keep hb).cell 1⟩, ((fr_call hb2 hb).cell (by rw [block_of_add]; exact HAD.out)).trans hc0⟩
 clear hcX hX hF
 refine wp_region_noPanic ?_
 refine wp_region_held_drew (S := fun W => ((W.cell? ⟨w.heap.size, 0, none⟩ = some (.slice A n c) ∧ W.cell? ⟨w.heap.size, 1, none⟩ = some (.slice (some ad) m hc)) ∧ W.cell? ⟨w.heap.size + 1, 0, none⟩ = some (.int .i64 f1) ∧ W.cell? ⟨w.heap.size + 1, 1, none⟩ = some (.int .i64 f2)) ∧ W.cell? (ad.add i) = some (.int .i64 a)) (by kernel_rfl) (hkS _ hbz) (fun hHeld => ?_)
 generalize w2.drew = wz at hbz hHeld ⊢
 -- the region, step by step, in whatever order
 refine tkH 0 ⟨some 22, .load 25 (.tmp 4), 25, "shop.go:122", #[], none⟩ hHeld ?_
 refine tkH 1 ⟨some 23, .fieldAddr 25 (.tmp 4) 1, 0, "shop.go:122", #[], none⟩ hHeld ?_
 refine tkH 2 ⟨some 24, .load 23 (.tmp 23), 23, "shop.go:122", #[⟨1, .data⟩], none⟩ hHeld ?_
 refine tkH 3 ⟨some 25, .move (.tmp 1), 3, "shop.go:122", #[], none⟩ hHeld ?_
 refine tkH 4 ⟨some 26, .indexAddr 23 (.tmp 24) (.tmp 25), 0, "shop.go:122", #[⟨2, .data⟩, ⟨3, .data⟩], none⟩ hHeld ?_
 refine tkH 5 ⟨some 27, .load 3 (.tmp 26), 3, "shop.go:122", #[⟨4, .data⟩], none⟩ hHeld ?_
 refine tkH 7 ⟨some 29, .load 52 (.tmp 6), 52, "shop.go:122", #[], none⟩ hHeld ?_
 refine tkH 8 ⟨some 30, .move (.tmp 3), 3, "shop.go:122", #[], none⟩ hHeld ?_
 refine rdH 6 ⟨some 28, .call { callee := .value (.func 41), args := #[.tmp 22, .tmp 27], argTypes := #[25, 3] }, 46, "shop.go:122", #[⟨0, .data⟩, ⟨5, .data⟩], none⟩ fun K hK => ?_
 go_simp
 refine (K2 _ (fr_call hb2 hbz)).mono ?_
 rintro e' wz ⟨B, d, rfl, hO, hb1⟩
 replace hbz := fr_call hbz hb1
 refine hK.out _ _ (hkS _ hbz) (fun hHeld => ?_)
 clear hK K
 (try simp only [Act.put, List.setIfInBounds_toArray, List.set_cons_zero, List.set_cons_succ])
 refine rdH 9 ⟨some 31, .call { callee := .value (.func 195), args := #[.tmp 28, .tmp 29, .tmp 30], argTypes := #[46, 52, 3] }, 81, "shop.go:122", #[⟨6, .data⟩, ⟨7, .data⟩, ⟨8, .data⟩, ⟨6, .chain⟩], none⟩ fun K hK => ?_
 go_simp
 refine (K3 B d _ hO.rd).mono ?_
 rintro e' wz ⟨rfl, hb1⟩
 replace hbz := fr_call hbz hb1
 refine hK.out _ _ (hkS _ hbz) (fun hHeld => ?_)
 clear hK K
 (try simp only [Act.put, List.setIfInBounds_toArray, List.set_cons_zero, List.set_cons_succ])
 refine tkH 10 ⟨some 32, .extract (.tmp 31) 0, 3, "shop.go:122", #[⟨9, .data⟩], none⟩ hHeld ?_
 refine tkH 11 ⟨some 33, .extract (.tmp 31) 1, 39, "shop.go:122", #[⟨9, .data⟩], none⟩ hHeld ?_
 refine tkH 12 ⟨some 8, .assign (.tmp 32), 3, "shop.go:122", #[⟨10, .data⟩, ⟨9, .chain⟩, ⟨0, .phase⟩, ⟨1, .phase⟩, ⟨2, .phase⟩, ⟨3, .phase⟩, ⟨4, .phase⟩, ⟨5, .phase⟩, ⟨6, .phase⟩, ⟨7, .phase⟩, ⟨8, .phase⟩, ⟨9, .phase⟩, ⟨10, .phase⟩, ⟨11, .phase⟩], none⟩ hHeld ?_
 refine tkH 13 ⟨some 9, .assign (.tmp 33), 39, "shop.go:122", #[⟨11, .data⟩, ⟨12, .chain⟩, ⟨0, .phase⟩, ⟨1, .phase⟩, ⟨2, .phase⟩, ⟨3, .phase⟩, ⟨4, .phase⟩, ⟨5, .phase⟩, ⟨6, .phase⟩, ⟨7, .phase⟩, ⟨8, .phase⟩, ⟨9, .phase⟩, ⟨10, .phase⟩, ⟨11, .phase⟩, ⟨12, .phase⟩], none⟩ hHeld ?_
 refine wpAnyH_done (by kernel_rfl) ?_ _
 refine NoPanic.normal ?_
 go_wp2_with fail
 go_ret2
 exact ⟨rfl, fr_call hb02 hbz⟩
section
variable {s n1 c1 n2 c2 : Nat} {A1 A2 : Option Addr} {lim : Int} {ls : List Lk} {hs : List Int} {w : World}
/-- what 'kept' needs of what stands -/
structure KpAt (W : World) (s : Nat) (A1 A2 : Option Addr) (n1 c1 n2 c2 : Nat) (lim : Int) (ls : List Lk) (hs : List Int) : Prop where
 c0 : W.cell? ⟨s, 0, none⟩ = some (.slice A1 n1 c1)
 c1 : W.cell? ⟨s, 1, none⟩ = some (.slice A2 n2 c2)
 c3 : W.cell? ⟨s, 3, none⟩ = some (.int .i64 lim)
 r1 : RdS W A1 3 (ls.map Lk.cells)
 l1 : ls.length = n1
 r2 : Rd W A2 n2 hs
theorem KpAt.keep {W W' : World} (h : KpAt W s A1 A2 n1 c1 n2 c2 lim ls hs) (hb : Below W.heap.size W W') : KpAt W' s A1 A2 n1 c1 n2 c2 lim ls hs :=
 ⟨(hb.cell (p := ⟨s, 0, none⟩) (World.block_lt_of_cell? W _ h.c0)).trans h.c0, (hb.cell (p := ⟨s, 1, none⟩) (World.block_lt_of_cell? W _ h.c1)).trans h.c1, (hb.cell (p := ⟨s, 3, none⟩) (World.block_lt_of_cell? W _ h.c3)).trans h.c3, h.r1.keep hb, h.l1, h.r2.keep hb⟩
set_option maxRecDepth 100000 in
set_option maxHeartbeats 8000000 in
theorem kept_yes (i a : Nat) (f : Int × Int) (t : Int) (h : KpAt w s A1 A2 n1 c1 n2 c2 lim ls hs) (hcap : n1 ≤ c1) (hok : ShopOk ls hs) (hi : hs[i]? = some (a : Int)) (hf : FrOk f) (ht : 0 ≤ t ∧ t ≤ 10000) (hlim : 0 ≤ lim ∧ lim ≤ 10800)
  (ho : -lim ≤ offN (wNum (trainL ls a) f) (wDen (trainL ls a) f) t ∧ offN (wNum (trainL ls a) f) (wDen (trainL ls a) f) t ≤ lim) :
  Calls Tryz.prog 113 #[.pointer (some ⟨s, 0, none⟩), .int .i64 i, .agg #[.int .i64 f.1, .int .i64 f.2], .int .i64 t] w fun e w' => e = .returned (.bool true) ∧ Below w.heap.size w w' := by
 have hb0 := fr_alloc (fr_refl w) (.cells #[.int .i64 f.1, .int .i64 f.2] 52)
 have hF := Blk.new w 52 #[.int .i64 f.1, .int .i64 f.2]
 obtain ⟨w1, hw1⟩ : ∃ w1, w.alloc (.cells #[.int .i64 f.1, .int .i64 f.2] 52) = w1 := ⟨_, rfl⟩
 rw [hw1] at hb0 hF
 replace h := h.keep hb0
 have KW := fun W (hb : Below w1.heap.size w1 W) => sWrong_ok A1 A2 n1 c1 n2 c2 i a ls hs f t W (h.keep hb).r1 h.l1 (h.keep hb).r2 hcap hok hi hf ht
 generalize offN (wNum (trainL ls a) f) (wDen (trainL ls a) f) t = o at *
 have hin : inB o (-lim) lim = true := inB_yes ho
 have i1 : IntKind.i64.wrap (-lim) = -lim := IntWalk.i64_in _ (by omega)
 obtain ⟨f1, f2⟩ := f
 simp only at hF KW hw1 ⊢
 clear hcap hok hi hf ht ho hlim
 go_enter Tryz.func113, Tryz.ntmps113
 go_upto_region 1 with (fail)
 (try rw [hw1])
 clear hw1
 have hbz := fr_drew (fr_refl w1)
 have hkS : ∀ W, Below w1.heap.size w1 W → ((W.cell? ⟨s, 0, none⟩ = some (.slice A1 n1 c1) ∧ W.cell? ⟨s, 1, none⟩ = some (.slice A2 n2 c2)) ∧ W.cell? ⟨w.heap.size, 0, none⟩ = some (.int .i64 f1) ∧ W.cell? ⟨w.heap.size, 1, none⟩ = some (.int .i64 f2)) ∧ W.cell? ⟨s, 3, none⟩ = some (.int .i64 lim) := fun W hb => ⟨⟨⟨(h.keep hb).c0, (h.keep hb).c1⟩, (hF.keep hb).cell 0, (hF.keep hb).cell 1⟩, (h.keep hb).c3⟩
 clear hF h
 go_cut [9, 10] from 12 (fun s9 s10 wc => s9 = .int .i64 o ∧ s10 = .int .i64 0 ∧ Below w1.heap.size w1 wc)
 case first =>
  refine wp_region_noPanic ?_
  refine wp_region_held_drew (S := fun W => ((W.cell? ⟨s, 0, none⟩ = some (.slice A1 n1 c1) ∧ W.cell? ⟨s, 1, none⟩ = some (.slice A2 n2 c2)) ∧ W.cell? ⟨w.heap.size, 0, none⟩ = some (.int .i64 f1) ∧ W.cell? ⟨w.heap.size, 1, none⟩ = some (.int .i64 f2)) ∧ W.cell? ⟨s, 3, none⟩ = some (.int .i64 lim)) (by kernel_rfl) (hkS _ hbz) (fun hHeld => ?_)
  generalize w1.drew = wz at hbz hHeld ⊢
  -- the region, step by step, in whatever order
  refine tkH 0 ⟨some 12, .move (.tmp 0), 103, "desk.go:192", #[], none⟩ hHeld ?_
  refine tkH 1 ⟨some 13, .nilCheck (.tmp 12), 0, "desk.go:192", #[⟨0, .data⟩], none⟩ hHeld ?_
  refine tkH 2 ⟨some 14, .fieldAddr 196 (.tmp 13) 0, 0, "desk.go:192", #[⟨1, .data⟩], none⟩ hHeld ?_
  refine tkH 3 ⟨some 15, .fieldAddr 35 (.tmp 14) 0, 0, "desk.go:192", #[⟨2, .data⟩], none⟩ hHeld ?_
  refine tkH 4 ⟨some 16, .load 25 (.tmp 15), 25, "desk.go:192", #[⟨3, .data⟩], none⟩ hHeld ?_
  refine tkH 5 ⟨some 17, .move (.tmp 1), 3, "desk.go:192", #[], none⟩ hHeld ?_
  refine tkH 6 ⟨some 18, .load 52 (.tmp 6), 52, "desk.go:192", #[], none⟩ hHeld ?_
  refine tkH 7 ⟨some 19, .move (.tmp 3), 3, "desk.go:192", #[], none⟩ hHeld ?_
  refine rdH 8 ⟨some 20, .call { callee := .value (.func 132), args := #[.tmp 16, .tmp 17, .tmp 18, .tmp 19], argTypes := #[25, 3, 52, 3] }, 81, "desk.go:192", #[⟨4, .data⟩, ⟨5, .data⟩, ⟨6, .data⟩, ⟨7, .data⟩], none⟩ fun K hK => ?_
  go_simp
  refine (KW _ hbz).mono ?_
  rintro e' wz ⟨rfl, hb1⟩
  replace hbz := fr_call hbz hb1
  refine hK.out _ _ (hkS _ hbz) (fun hHeld => ?_)
  clear hK K
  (try simp only [Act.put, List.setIfInBounds_toArray, List.set_cons_zero, List.set_cons_succ])
  refine tkH 9 ⟨some 11, .move (.tmp 20), 81, "desk.go:192", #[⟨8, .data⟩], none⟩ hHeld ?_
  refine tkH 10 ⟨some 21, .extract (.tmp 11) 0, 3, "desk.go:192", #[⟨9, .data⟩], none⟩ hHeld ?_
  refine tkH 11 ⟨some 22, .extract (.tmp 11) 1, 39, "desk.go:192", #[⟨9, .data⟩, ⟨12, .gcOnly .lateStores⟩], none⟩ hHeld ?_
  refine tkH 12 ⟨some 9, .assign (.tmp 21), 3, "desk.go:192", #[⟨10, .data⟩, ⟨8, .chain⟩, ⟨0, .phase⟩, ⟨1, .phase⟩, ⟨2, .phase⟩, ⟨3, .phase⟩, ⟨4, .phase⟩, ⟨5, .phase⟩, ⟨6, .phase⟩, ⟨7, .phase⟩, ⟨8, .phase⟩, ⟨9, .phase⟩, ⟨10, .phase⟩, ⟨11, .textOnly .lateStores⟩], none⟩ hHeld ?_
  refine tkH 13 ⟨some 10, .assign (.tmp 22), 39, "desk.go:192", #[⟨11, .data⟩, ⟨12, .chain⟩, ⟨0, .phase⟩, ⟨1, .phase⟩, ⟨2, .phase⟩, ⟨3, .phase⟩, ⟨4, .phase⟩, ⟨5, .phase⟩, ⟨6, .phase⟩, ⟨7, .phase⟩, ⟨8, .phase⟩, ⟨9, .phase⟩, ⟨10, .phase⟩, ⟨11, .phase⟩, ⟨12, .phase⟩], none⟩ hHeld ?_
  refine wpAnyH_done (by kernel_rfl) ?_ _
  refine NoPanic.normal ?_
  go_wp2_with fail
  go_meet
  case rel => exact ⟨rfl, rfl, hbz⟩
 obtain ⟨rfl, rfl, hbc⟩ := hcut
 have hkc := fun W (hb : Below wc.heap.size wc W) => hkS W (fr_call hbc hb)
 have hbz2 := fr_drew (fr_refl wc)
 clear hkS
 go_wp2_with fail
 refine wp_region_noPanic ?_
 refine wp_region_held_drew (S := fun W => ((W.cell? ⟨s, 0, none⟩ = some (.slice A1 n1 c1) ∧ W.cell? ⟨s, 1, none⟩ = some (.slice A2 n2 c2)) ∧ W.cell? ⟨w.heap.size, 0, none⟩ = some (.int .i64 f1) ∧ W.cell? ⟨w.heap.size, 1, none⟩ = some (.int .i64 f2)) ∧ W.cell? ⟨s, 3, none⟩ = some (.int .i64 lim)) (by kernel_rfl) (hkc _ hbz2) (fun hHeld => ?_)
 generalize wc.drew = wz at hbz2 hHeld ⊢
 -- the region, step by step, in whatever order
 refine tkH 0 ⟨some 23, .move (.tmp 9), 3, "desk.go:193", #[], none⟩ hHeld ?_
 refine tkH 1 ⟨some 24, .move (.tmp 0), 103, "desk.go:193", #[], none⟩ hHeld ?_
 refine tkH 2 ⟨some 25, .nilCheck (.tmp 24), 0, "desk.go:193", #[⟨1, .data⟩], none⟩ hHeld ?_
 refine tkH 3 ⟨some 26, .fieldAddr 196 (.tmp 25) 0, 0, "desk.go:193", #[⟨2, .data⟩], none⟩ hHeld ?_
 refine tkH 4 ⟨some 27, .fieldAddr 35 (.tmp 26) 2, 0, "desk.go:193", #[⟨3, .data⟩], none⟩ hHeld ?_
 refine tkH 5 ⟨some 28, .load 3 (.tmp 27), 3, "desk.go:193", #[⟨4, .data⟩], none⟩ hHeld ?_
 refine tkH 6 ⟨some 29, .unOp .neg 3 (.tmp 28), 3, "desk.go:193", #[⟨5, .data⟩], none⟩ hHeld ?_
 refine tkH 7 ⟨some 30, .move (.tmp 0), 103, "desk.go:193", #[], none⟩ hHeld ?_
 refine tkH 8 ⟨some 31, .nilCheck (.tmp 30), 0, "desk.go:193", #[⟨7, .data⟩], none⟩ hHeld ?_
 refine tkH 9 ⟨some 32, .fieldAddr 196 (.tmp 31) 0, 0, "desk.go:193", #[⟨8, .data⟩], none⟩ hHeld ?_
 refine tkH 10 ⟨some 33, .fieldAddr 35 (.tmp 32) 2, 0, "desk.go:193", #[⟨9, .data⟩], none⟩ hHeld ?_
 refine tkH 11 ⟨some 34, .load 3 (.tmp 33), 3, "desk.go:193", #[⟨10, .data⟩], none⟩ hHeld ?_
 refine rdH 12 ⟨some 35, .call { callee := .value (.func 52), args := #[.tmp 23, .tmp 29, .tmp 34], argTypes := #[3, 3, 3] }, 4, "desk.go:193", #[⟨0, .data⟩, ⟨6, .data⟩, ⟨11, .data⟩], none⟩ fun K hK => ?_
 go_simp
 refine (jin_is _ _ _ _ _ hin).mono ?_
 rintro e' wz' ⟨rfl, rfl⟩
 refine hK.out _ _ (hkc _ hbz2) (fun hHeld => ?_)
 clear hK K
 (try simp only [Act.put, List.setIfInBounds_toArray, List.set_cons_zero, List.set_cons_succ])
 refine tkH 13 ⟨some 8, .assign (.tmp 35), 4, "desk.go:193", #[⟨12, .data⟩, ⟨12, .chain⟩, ⟨0, .phase⟩, ⟨1, .phase⟩, ⟨2, .phase⟩, ⟨3, .phase⟩, ⟨4, .phase⟩, ⟨5, .phase⟩, ⟨6, .phase⟩, ⟨7, .phase⟩, ⟨8, .phase⟩, ⟨9, .phase⟩, ⟨10, .phase⟩, ⟨11, .phase⟩, ⟨12, .phase⟩], none⟩ hHeld ?_
 refine wpAnyH_done (by kernel_rfl) ?_ _
 refine NoPanic.normal ?_
 go_wp2_with fail
 go_ret
 exact ⟨rfl, fr_call hb0 (fr_call hbc hbz2)⟩
end
theorem last_take (ds : List Int) (day : Int) (k : Nat) (h : k < ds.length) : (ds.take (k + 1)).foldl (fun l d => if d ≤ day then d else l) 0 = if ds[k]?.getD 0 ≤ day then ds[k]?.getD 0 else (ds.take k).foldl (fun l d => if d ≤ day then d else l) 0 := by
 rw [List.take_succ_eq_append_getElem h, List.foldl_append, List.getElem?_eq_getElem h]
 rfl
set_option maxRecDepth 100000 in
set_option maxHeartbeats 4000000 in
theorem turns_is (s : Nat) (dp : Value) (Z : Option Addr) (n zc : Nat) (zs : List Int) (day : Int) (w : World) (hs : w.cell? ⟨s, 21, none⟩ = some (.slice Z n zc)) (hr : Rd w Z n zs) (hn : n ≤ 1000) (hb : ∀ x ∈ zs, 0 ≤ x ∧ x ≤ 1000) (hd : 0 ≤ day ∧ day ≤ 1000) :
  Calls Tryz.prog 133 #[.agg #[.pointer (some ⟨s, 0, none⟩), dp], .int .i64 day] w fun e w' => e = .returned (.int .i64 (day - lastD zs day)) ∧ Below w.heap.size w w' := by
 have hb0 := fr_alloc (fr_refl w) (.cells #[.pointer (some ⟨s, 0, none⟩), dp] 125)
 have hX := Blk.new w 125 #[.pointer (some ⟨s, 0, none⟩), dp]
 obtain ⟨w1, hw1⟩ : ∃ w1, w.alloc (.cells #[.pointer (some ⟨s, 0, none⟩), dp] 125) = w1 := ⟨_, rfl⟩
 rw [hw1] at hb0 hX
 replace hr := hr.keep hb0
 have hs1 := (hb0.cell (p := ⟨s, 21, none⟩) (World.block_lt_of_cell? w _ hs)).trans hs
 have hcX := hX.cell 0
 have HL := Lib.hid hr.len
 have HB := Lib.hid hb
 clear hs hX hb
 go_enter Tryz.func133, Tryz.ntmps133
 go_upto_region 1 with (fail)
 (try rw [hw1])
 clear hw1
 go_wp2_with fail
 go_loopw [5, 14] (fun v u wr => ∃ (k : Nat) (l : Int), k ≤ n ∧ u = .int .i64 k ∧ v = .int .i64 l ∧ 0 ≤ l ∧ l ≤ 1000 ∧ (zs.take k).foldl (fun l d => if d ≤ day then d else l) 0 = l ∧ wr = w1) (fun _ u _ => n - (intOf u).toNat)
 case atStart => exact ⟨0, 0, Nat.zero_le _, rfl, rfl, by omega, by omega, rfl, rfl⟩
 case round =>
  obtain ⟨k, l, hk, rfl, rfl, hl1, hl2, hq, rfl⟩ := hrel
  have HQ := Lib.hid hq
  clear hq
  by_cases hlt : k < n
  ·have hkl : k < zs.length := by have := HL.out; omega
   obtain ⟨ad, rfl, hab, hc0⟩ := hr.at_ hlt
   have hx := HB.out _ (getD_mem (ss := zs) (k := k) hkl)
   have HT := Lib.hid (last_take zs day k hkl)
   generalize zs[k]?.getD 0 = x at *
   have i1 : (0 : Int) ≤ (k : Int) := Int.natCast_nonneg k
   have i2 : (k : Int) < (n : Int) := by omega
   have i3 : IntKind.i64.wrap ((k : Int) + 1) = ((k + 1 : Nat) : Int) := by rw [IntWalk.i64_in _ (by omega)]; omega
   have HX := Lib.hid hx
   clear hr hx
   by_cases hxd : x ≤ day
   ·have j1 : decide (x ≤ day) = true := decide_eq_true hxd
    have HXD := Lib.hid hxd
    clear hxd
    go_wp2_with fail
    refine ⟨⟨k + 1, x, hlt, by go_num, rfl, by have := HX.out; omega, by have := HX.out; omega, by rw [HT.out, if_pos HXD.out], trivial⟩, ?_⟩
    simp [intOf]; omega
   ·have j1 : decide (x ≤ day) = false := decide_eq_false hxd
    have HXD := Lib.hid hxd
    clear hxd
    go_wp2_with fail
    refine ⟨⟨k + 1, l, hlt, by go_num, rfl, hl1, hl2, by rw [HT.out, if_neg HXD.out, HQ.out], trivial⟩, ?_⟩
    simp [intOf]; omega
  ·obtain rfl : k = n := by omega
   have j2 : IntKind.i64.wrap (day - l) = day - l := IntWalk.i64_in _ (by omega)
   clear hr
   go_wp2_with fail
   go_ret
   refine ⟨?_, hb0⟩
   have h := HQ.out
   rw [List.take_of_length_le (by have := HL.out; omega)] at h
   rw [lastD, h]
   rfl
end Go.Proofs.YtdocgmafbacjcaaGreatDoor
end

section
namespace Go.Proofs.YtdocgmafbacjcaaGreatDoor
open Go.RowKit Go.Shelf Dl

/-- what 'wrong' needs of what stands -/
structure WrAt (W : World) (s : Nat) (A1 A2 A3 D Z : Option Addr) (n1 c1 n2 c2 c3 m dc n zc : Nat) (lim : Int) (ls : List Lk) (hs : List Int) (tg : List (Int × Int)) (zs : List Int) : Prop where
 k : KpAt W s A1 A2 n1 c1 n2 c2 lim ls hs
 c2 : W.cell? ⟨s, 2, none⟩ = some (.slice A3 n2 c3)
 c17 : W.cell? ⟨s, 17, none⟩ = some (.slice D m dc)
 c21 : W.cell? ⟨s, 21, none⟩ = some (.slice Z n zc)
 r3 : RdS W A3 2 (tg.map ptC)
 l3 : tg.length = n2
 rz : Rd W Z n zs
theorem WrAt.keep {W W' : World} {s : Nat} {A1 A2 A3 D Z : Option Addr} {n1 c1 n2 c2 c3 m dc n zc : Nat} {lim : Int} {ls : List Lk} {hs : List Int} {tg : List (Int × Int)} {zs : List Int} (h : WrAt W s A1 A2 A3 D Z n1 c1 n2 c2 c3 m dc n zc lim ls hs tg zs) (hb : Below W.heap.size W W') : WrAt W' s A1 A2 A3 D Z n1 c1 n2 c2 c3 m dc n zc lim ls hs tg zs :=
 ⟨h.k.keep hb, (hb.cell (p := ⟨s, 2, none⟩) (World.block_lt_of_cell? W _ h.c2)).trans h.c2, (hb.cell (p := ⟨s, 17, none⟩) (World.block_lt_of_cell? W _ h.c17)).trans h.c17, (hb.cell (p := ⟨s, 21, none⟩) (World.block_lt_of_cell? W _ h.c21)).trans h.c21, h.r3.keep hb, h.l3, h.rz.keep hb⟩
set_option maxRecDepth 100000 in
set_option maxHeartbeats 8000000 in
theorem awrong_ok (s g : Nat) (A1 A2 A3 D Z N : Option Addr) (n1 c1 n2 c2 c3 m dc n zc nn nc : Nat) (lim : Int) (ls : List Lk) (hs : List Int) (tg : List (Int × Int)) (zs : List Int) (w : World) (h : WrAt w s A1 A2 A3 D Z n1 c1 n2 c2 c3 m dc n zc lim ls hs tg zs) (hcap : n1 ≤ c1) (hok : ShopOk ls hs) (hm : m ≤ 1000) (hn : n ≤ 1000) (hzs : ∀ x ∈ zs, 0 ≤ x ∧ x ≤ 1000) (hR : RisesD 0 zs) (hf : ∀ f ∈ tg, FrOk f) (hlim : 0 ≤ lim ∧ lim ≤ 10800)
  (ho : ∀ (i a : Nat) (f : Int × Int) (day : Int), hs[i]? = some (a : Int) → tg[i]? = some f → 0 ≤ day → day ≤ (m : Int) → -lim ≤ offN (wNum (trainL ls a) f) (wDen (trainL ls a) f) (day - lastD zs day) ∧ offN (wNum (trainL ls a) f) (wDen (trainL ls a) f) (day - lastD zs day) ≤ lim) :
  Calls Tryz.prog 61 #[.agg #[.pointer (some ⟨s, 0, none⟩), .pointer (some ⟨g, 0, none⟩)], .slice N nn nc] w (RetR w 1 [0]) := by
 have hb0 := fr_alloc (fr_refl w) (.cells #[.pointer (some ⟨s, 0, none⟩), .pointer (some ⟨g, 0, none⟩)] 125)
 have hX := Blk.new w 125 #[.pointer (some ⟨s, 0, none⟩), .pointer (some ⟨g, 0, none⟩)]
 obtain ⟨w1, hw1⟩ : ∃ w1, w.alloc (.cells #[.pointer (some ⟨s, 0, none⟩), .pointer (some ⟨g, 0, none⟩)] 125) = w1 := ⟨_, rfl⟩
 rw [hw1] at hb0 hX
 replace h := h.keep hb0
 have hcX := hX.cell 0
 have hc17 := h.c17
 have H := Lib.hid h
 have HN2 := Lib.hid (h.k.r2.len)
 have HL3 := Lib.hid h.l3
 have HO := Lib.hid ho
 have HF := Lib.hid hf
 have HZ := Lib.hid hzs
 have HOK := Lib.hid hok
 have hn2 : n2 ≤ 1000 := by have := HN2.out; have := hok.m; omega
 clear h ho hf hzs hok
 go_enter Tryz.func61, Tryz.ntmps61
 go_upto_region 1 with (fail)
 (try rw [hw1])
 clear hw1
 go_wp2_with fail
 go_step3
 go_wp2_with fail
 go_step3
 go_wp2_with fail
 clear hcX hc17
 go_loopg [6, 16] m (fun gh v t wr => ∃ j : Nat, j + gh = m ∧ v = .int .i64 0 ∧ t = .int .i64 j ∧ Below w1.heap.size w1 wr)
 case atStart => exact ⟨0, Nat.zero_add _, rfl, rfl, fr_refl _⟩
 case round =>
  obtain ⟨j, hjg, rfl, rfl, hbr⟩ := hrel
  have hXr := hX.keep hbr
  have hcX := hXr.cell 0
  have hc2 := (H.out.keep hbr).c2
  cases gk with
  | zero =>
   obtain rfl : j = m := by omega
   have q0 : ¬ (j : Int) < (j : Int) := by omega
   clear hcX hc2
   go_wp2_with fail
   go_ret2
   exact ⟨_, 1, rfl, Rd.new wr 3 [0], fr_call hb0 (fr_call hbr (fr_alloc (fr_refl wr) _))⟩
  | succ gn =>
   have j1 : (j : Int) < (m : Int) := by omega
   have j2 : (0 : Int) ≤ (j : Int) := Int.natCast_nonneg j
   have j3 : IntKind.i64.wrap ((j : Int) + 1) = ((j + 1 : Nat) : Int) := by rw [IntWalk.i64_in _ (by omega)]; omega
   go_wp2_with fail
   clear hcX hc2
   go_loopg [6, 26] n2 (fun gi v t wr => ∃ i : Nat, i + gi = n2 ∧ v = .int .i64 0 ∧ t = .int .i64 i ∧ Below w1.heap.size w1 wr)
   case atStart => exact ⟨0, Nat.zero_add _, rfl, rfl, hbr⟩
   case round =>
    obtain ⟨i, hig, rfl, rfl, hbq⟩ := hrel
    cases gk with
    | zero =>
     obtain rfl : i = n2 := by omega
     have q0 : ¬ (i : Int) < (i : Int) := by omega
     go_wp2_with fail
     go_roundg gn
     case rel => exact ⟨j + 1, by omega, rfl, by go_num, hbq⟩
     case measure => omega
    | succ gj =>
     have hlt : i < n2 := by omega
     have hil : i < hs.length := by have := HN2.out; omega
     have hjl : i < tg.length := by have := HL3.out; omega
     obtain ⟨⟨x, y⟩, hx⟩ : ∃ f, tg[i]? = some f := ⟨tg[i], List.getElem?_eq_getElem hjl⟩
     have hah := HOK.out.hand hs[i] (List.getElem_mem hil)
     obtain ⟨a, ha⟩ : ∃ a : Nat, hs[i]? = some (a : Int) := ⟨hs[i].toNat, by rw [List.getElem?_eq_getElem hil]; congr 1; omega⟩
     have hWr := H.out.keep hbq
     obtain ⟨ad, rfl, hab, h0, h1⟩ := hWr.r3.nth (i := i) (r := ptC (x, y)) (by simp [hx])
     have c0 := h0 _ rfl
     have c1 := h1 0 _ rfl
     simp only [Nat.zero_add] at c1
     have i1 : (0 : Int) ≤ (i : Int) := Int.natCast_nonneg i
     have i2 : (i : Int) < (n2 : Int) := by omega
     have i3 : IntKind.i64.wrap ((i : Int) + 1) = ((i + 1 : Nat) : Int) := by rw [IntWalk.i64_in _ (by omega)]; omega
     have hfx := HF.out _ (List.mem_of_getElem? hx)
     have hok2 := HO.out i a (x, y) ((j + 1 : Nat) : Int) ha hx (by omega) (by omega)
     have hlb := last_bd ((j + 1 : Nat) : Int) zs 0 (by omega) (by omega) hR
     have KT := fun W (hb : Below wr.heap.size wr W) => turns_is s (.pointer (some ⟨g, 0, none⟩)) Z n zc zs ((j + 1 : Nat) : Int) W (hWr.keep hb).c21 (hWr.keep hb).rz hn HZ.out (by omega)
     have hld : lastD zs ((j + 1 : Nat) : Int) = zs.foldl (fun l d => if d ≤ ((j + 1 : Nat) : Int) then d else l) 0 := rfl
     have KK := fun W (hb : Below wr.heap.size wr W) => kept_yes i a (x, y) (((j + 1 : Nat) : Int) - lastD zs ((j + 1 : Nat) : Int)) (hWr.keep hb).k hcap HOK.out ha hfx (by rw [hld]; omega) hlim hok2
     generalize lastD zs ((j + 1 : Nat) : Int) = lst at *
     simp only at KK
     clear h0 h1 hx hah ha hfx hok2 hlb hld
     have hXq := hX.keep hbq
     have hW := Lib.hid hWr
     clear hWr hXr
     go_upto_region 8 with (refine wpList_store_blk rfl _ _ _ rfl wr.heap.size 52 _ _ rfl rfl (Blk.new wr _ _) rfl (by kernel_rfl) (by simp [Value.oneCell']) ?_; intro w2 hF hgF)
     have hb2 : Below wr.heap.size wr w2 := (fr_alloc (fr_refl wr) _).grown hgF (fr_alloc (fr_refl wr) _).size (by intro k hk; cases hk; exact Nat.le_refl _)
     have hX2 := hXq.keep hb2
     have hbz := fr_drew (fr_refl w2)
     have hkS : ∀ W, Below w2.heap.size w2 W → (W.cell? ⟨w.heap.size, 0, none⟩ = some (.pointer (some ⟨s, 0, none⟩)) ∧ W.cell? ⟨w.heap.size, 1, none⟩ = some (.pointer (some ⟨g, 0, none⟩))) ∧ W.cell? ⟨wr.heap.size, 0, none⟩ = some (.int .i64 x) ∧ W.cell? ⟨wr.heap.size, 1, none⟩ = some (.int .i64 y) := fun W hb => ⟨⟨(hX2.keep hb).cell 0, (hX2.keep hb).cell 1⟩, (hF.keep hb).cell 0, (hF.keep hb).cell 1⟩
     clear c0 c1 hgF hF hX2 hXq
     (try dsimp only [Act.put])
     refine wp_region_noPanic ?_
     refine wp_region_held_drew (S := fun W => (W.cell? ⟨w.heap.size, 0, none⟩ = some (.pointer (some ⟨s, 0, none⟩)) ∧ W.cell? ⟨w.heap.size, 1, none⟩ = some (.pointer (some ⟨g, 0, none⟩))) ∧ W.cell? ⟨wr.heap.size, 0, none⟩ = some (.int .i64 x) ∧ W.cell? ⟨wr.heap.size, 1, none⟩ = some (.int .i64 y)) (by kernel_rfl) (hkS _ hbz) (fun hHeld => ?_)
     generalize w2.drew = wz at hbz hHeld ⊢
     -- the region, step by step, in whatever order
     refine tkH 0 ⟨some 31, .fieldAddr 125 (.tmp 2) 0, 0, "ask.go:94", #[], none⟩ hHeld ?_
     refine tkH 1 ⟨some 32, .load 103 (.tmp 31), 103, "ask.go:94", #[⟨0, .data⟩], none⟩ hHeld ?_
     refine tkH 2 ⟨some 33, .move (.tmp 8), 3, "ask.go:94", #[], none⟩ hHeld ?_
     refine tkH 3 ⟨some 34, .load 52 (.tmp 9), 52, "ask.go:94", #[], none⟩ hHeld ?_
     refine tkH 4 ⟨some 35, .load 125 (.tmp 2), 125, "ask.go:94", #[], none⟩ hHeld ?_
     refine tkH 5 ⟨some 36, .move (.tmp 7), 3, "ask.go:94", #[], none⟩ hHeld ?_
     refine tkH 6 ⟨some 37, .binOp .add 3 (.tmp 36) (.const (.int .i64 1)) 3, 3, "ask.go:94", #[⟨5, .data⟩], none⟩ hHeld ?_
     refine rdH 7 ⟨some 38, .call { callee := .value (.func 133), args := #[.tmp 35, .tmp 37], argTypes := #[125, 3] }, 3, "ask.go:94", #[⟨4, .data⟩, ⟨6, .data⟩], none⟩ fun K hK => ?_
     go_simp
     refine (KT _ (fr_call hb2 hbz)).mono ?_
     rintro e' wz ⟨rfl, hb1⟩
     replace hbz := fr_call hbz hb1
     refine hK.out _ _ (hkS _ hbz) (fun hHeld => ?_)
     clear hK K
     (try simp only [Act.put, List.setIfInBounds_toArray, List.set_cons_zero, List.set_cons_succ])
     refine rdH 8 ⟨some 39, .call { callee := .value (.func 113), args := #[.tmp 32, .tmp 33, .tmp 34, .tmp 38], argTypes := #[103, 3, 52, 3] }, 4, "ask.go:94", #[⟨1, .data⟩, ⟨2, .data⟩, ⟨3, .data⟩, ⟨7, .data⟩, ⟨7, .chain⟩], none⟩ fun K hK => ?_
     go_simp
     refine (KK _ (fr_call hb2 hbz)).mono ?_
     rintro e' wz ⟨rfl, hb1⟩
     replace hbz := fr_call hbz hb1
     refine hK.out _ _ (hkS _ hbz) (fun hHeld => ?_)
     clear hK K
     (try simp only [Act.put, List.setIfInBounds_toArray, List.set_cons_zero, List.set_cons_succ])
     refine tkH 9 ⟨some 40, .unOp .not 4 (.tmp 39), 4, "ask.go:94", #[⟨8, .data⟩], none⟩ hHeld ?_
     refine wpAnyH_done (by kernel_rfl) ?_ _
     refine NoPanic.normal ?_
     go_wp2_with fail
     go_roundg gj
     case rel => exact ⟨i + 1, by omega, rfl, by go_num, fr_call hbq (fr_call hb2 hbz)⟩
     case measure => omega
end Go.Proofs.YtdocgmafbacjcaaGreatDoor
end

section
namespace Go.Proofs.YtdocgmafbacjcaaGreatDoor
open Go.RowKit Go.Shelf Dl

set_option maxRecDepth 100000 in
set_option maxHeartbeats 8000000 in
theorem Enter1_any (b5 b1 g gs : Nat) (A1 A2 A3 A4 A5 A6 : Option Addr) (n1 c1 n2 c2 c3 n4 c4 n5 c5 n6 c6 wm br hr wg pc : Nat) (lim ep mn md ma yr : Int) (D E : Option Addr) (m dc n ec : Nat) (sv : Value) (ds : List Int) (ls : List Lk) (hs : List Int) (tg : List (Int × Int)) (ho cy : List Int) (fe : List Feast) (fs : List Int) (f : Int) (d : Int) (b : Bool) (w : World) (h : DeskAt w g gs A1 A2 A3 A4 A5 A6 n1 c1 n2 c2 c3 n4 c4 n5 c5 n6 c6 wm br hr wg pc lim ep mn md ma yr D m dc (.slice E n ec) sv ls hs tg ho cy fe fs f) (he : EntR w E n sv ds) (hgo : GoAll fs f m ds) (hm : m ≤ 1000) (hn : n ≤ 1000) (hbd : n1 ≤ 1000 ∧ n2 ≤ 1000 ∧ n4 ≤ 1000 ∧ n5 ≤ 1000 ∧ n6 ≤ 1000)
  (h5 : Blk w b5 96 #[dset d]) (h1 : Blk w b1 38 #[.pointer (some ⟨g, 0, none⟩)]) (hd : 1 ≤ d ∧ d ≤ (m : Int)) (hb : goB fs f ds d = b) :
  Calls Tryz.prog 35 #[.pointer (some ⟨b5, 0, none⟩), .pointer (some ⟨b1, 0, none⟩)] w fun e w' => (b = true → e = .returned (.tuple #[])) ∧ (b = false → e = .panicked (jrefV (dset d))) ∧ Below w.heap.size w w' := by
 have hta : ∀ w, (Instr.typeAssert (.iface 191 (.agg #[.int .i64 d])) 96 101 true).run Tryz.prog w = .ok (.tuple #[.agg #[.int .i64 0], .bool false]) w := fun w => by kernel_rfl
 have hlen : ds.length ≤ 1000 := by have := he.len; omega
 have KS := fun W (hB : Below w.heap.size w W) => state_any g gs A1 A2 A3 A4 A5 A6 n1 c1 n2 c2 c3 n4 c4 n5 c5 n6 c6 wm br hr wg pc lim ep mn md ma yr D E m dc n ec sv ds ls hs tg ho cy fe fs f W (h.keep hB) (he.keep hB) hgo hm hn hbd
 have KD := fun (s : Nat) B1 B2 B3 B4 B5 B6 k1 k2 k3 k4 k5 k6 mp zv W (hS : StAt W s B1 B2 B3 B4 B5 B6 n1 k1 n2 k2 k3 n4 k4 n5 k5 n6 k6 wm br hr wg pc lim ep mn md ma yr D m dc mp zv ds ls hs tg ho cy fe fs f) => do_any d hS hd hm hlen b hb
 have hc5 : w.cell? ⟨b5, 0, none⟩ = some (dset d) := h5.cell 0
 have hc1 : w.cell? ⟨b1, 0, none⟩ = some (.pointer (some ⟨g, 0, none⟩)) := h1.cell 0
 have hl5 := h5.lt
 have hl1 := h1.lt
 clear h he hgo hbd h5 h1 hb
 unfold dset at *
 go_enter Tryz.func35, Tryz.ntmps35
 go_upto_region 1 with (refine wpList_store_blk rfl _ _ _ rfl w.heap.size 101 _ _ rfl rfl (Blk.new w _ _) rfl (by kernel_rfl) (by simp [Value.oneCell']) ?_; intro w1 hQ hgQ)
 have hb1 : Below w.heap.size w w1 := (fr_alloc (fr_refl w) _).grown hgQ (fr_alloc (fr_refl w) _).size (by intro k hk; cases hk; exact Nat.le_refl _)
 have hc51 := (hb1.cell (p := ⟨b5, 0, none⟩) hl5).trans hc5
 have hc11 := (hb1.cell (p := ⟨b1, 0, none⟩) hl1).trans hc1
 have hs1 := hb1.size
 clear hc5 hc1 hQ hgQ hta
 (try dsimp only [Act.put])
 go_wp2_with fail
 have hbz := fr_drew (fr_refl w1)
 have hkS : ∀ W, Below w1.heap.size w1 W → W.cell? ⟨b5, 0, none⟩ = some (.iface 191 (.agg #[.int .i64 d])) ∧ W.cell? ⟨b1, 0, none⟩ = some (.pointer (some ⟨g, 0, none⟩)) := fun W hb => ⟨(hb.cell (p := ⟨b5, 0, none⟩) (by show b5 < _; omega)).trans hc51, (hb.cell (p := ⟨b1, 0, none⟩) (by show b1 < _; omega)).trans hc11⟩
 clear hc51 hc11
 cases b with
 | false =>
  refine wp_region_held_drew (S := fun W => W.cell? ⟨b5, 0, none⟩ = some (.iface 191 (.agg #[.int .i64 d])) ∧ W.cell? ⟨b1, 0, none⟩ = some (.pointer (some ⟨g, 0, none⟩))) (by kernel_rfl) (hkS _ hbz) (fun hHeld => ?_)
  generalize w1.drew = wz at hbz hHeld ⊢
  -- the region, step by step, in whatever order
  refine tkH 0 ⟨some 11, .load 38 (.tmp 1), 38, "desk.go:293", #[], none⟩ hHeld ?_
  refine tkH 2 ⟨some 13, .load 96 (.tmp 0), 96, "desk.go:293", #[], none⟩ hHeld ?_
  refine rdH 1 ⟨some 12, .call { callee := .value (.func 36), args := #[.tmp 11, .const (.int .i64 (-1))], argTypes := #[38, 3] }, 103, "desk.go:293", #[⟨0, .data⟩], none⟩ fun K hK => ?_
  go_simp
  refine (KS _ (fr_call hb1 hbz)).mono ?_
  rintro e' wz ⟨s, B1, B2, B3, B4, B5, B6, k1, k2, k3, k4, k5, k6, mp, zv, rfl, hS, _, hsz, hb2⟩
  have hsz0 := hbz.size
  replace hbz := fr_call hbz hb2
  have hsw := hb2.size
  refine hK.out _ _ (hkS _ hbz) (fun hHeld => ?_)
  clear hK K
  (try simp only [Act.put, List.setIfInBounds_toArray, List.set_cons_zero, List.set_cons_succ])
  refine rdH 3 ⟨some 14, .call { callee := .value (.func 37), args := #[.tmp 12, .tmp 13], argTypes := #[103, 96] }, 0, "desk.go:293", #[⟨1, .data⟩, ⟨2, .data⟩, ⟨1, .chain⟩], none⟩ fun K hK => ?_
  go_simp
  refine (KD s B1 B2 B3 B4 B5 B6 k1 k2 k3 k4 k5 k6 mp zv _ hS).mono ?_
  rintro e' wz ⟨_, h2, hx⟩
  obtain rfl := h2 rfl
  refine ⟨rfl, (fun h => by cases h), (fun _ => rfl), ?_⟩
  exact hx.toBelow (fr_call hb1 hbz) (fun k e => by
   rcases e with e | e
   ·omega
   ·have := own_ge hS.own k e; omega) (fr_call hb1 hbz).size
 | true =>
  refine wp_region_noPanic ?_
  refine wp_region_held_drew (S := fun W => W.cell? ⟨b5, 0, none⟩ = some (.iface 191 (.agg #[.int .i64 d])) ∧ W.cell? ⟨b1, 0, none⟩ = some (.pointer (some ⟨g, 0, none⟩))) (by kernel_rfl) (hkS _ hbz) (fun hHeld => ?_)
  generalize w1.drew = wz at hbz hHeld ⊢
  -- the region, step by step, in whatever order
  refine tkH 0 ⟨some 11, .load 38 (.tmp 1), 38, "desk.go:293", #[], none⟩ hHeld ?_
  refine tkH 2 ⟨some 13, .load 96 (.tmp 0), 96, "desk.go:293", #[], none⟩ hHeld ?_
  refine rdH 1 ⟨some 12, .call { callee := .value (.func 36), args := #[.tmp 11, .const (.int .i64 (-1))], argTypes := #[38, 3] }, 103, "desk.go:293", #[⟨0, .data⟩], none⟩ fun K hK => ?_
  go_simp
  refine (KS _ (fr_call hb1 hbz)).mono ?_
  rintro e' wz ⟨s, B1, B2, B3, B4, B5, B6, k1, k2, k3, k4, k5, k6, mp, zv, rfl, hS, _, hsz, hb2⟩
  have hsz0 := hbz.size
  replace hbz := fr_call hbz hb2
  have hsw := hb2.size
  refine hK.out _ _ (hkS _ hbz) (fun hHeld => ?_)
  clear hK K
  (try simp only [Act.put, List.setIfInBounds_toArray, List.set_cons_zero, List.set_cons_succ])
  refine rdH 3 ⟨some 14, .call { callee := .value (.func 37), args := #[.tmp 12, .tmp 13], argTypes := #[103, 96] }, 0, "desk.go:293", #[⟨1, .data⟩, ⟨2, .data⟩, ⟨1, .chain⟩], none⟩ fun K hK => ?_
  go_simp
  refine (KD s B1 B2 B3 B4 B5 B6 k1 k2 k3 k4 k5 k6 mp zv _ hS).mono ?_
  rintro e' wz ⟨h2, _, hx⟩
  obtain ⟨rfl, _⟩ := h2 rfl
  have hbx : Below w1.heap.size w1 wz := hx.toBelow hbz (fun k e => by
   rcases e with e | e
   ·omega
   ·have := own_ge hS.own k e; omega) hbz.size
  refine hK.out _ _ (hkS _ hbx) (fun hHeld => ?_)
  clear hK K
  (try simp only [Act.put, List.setIfInBounds_toArray, List.set_cons_zero, List.set_cons_succ])
  refine wpAnyH_done (by kernel_rfl) ?_ _
  refine NoPanic.normal ?_
  go_wp2_with fail
  refine bodyPost_ret (results_none rfl _ _ _) rfl ?_
  exact ⟨rfl, fr_call hb1 hbx⟩
end Go.Proofs.YtdocgmafbacjcaaGreatDoor
end
