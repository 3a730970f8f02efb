/- Walks, package journeyman: an entry that sets the hands is done (by gen_zi.py). Walk, package journeyman: the entries that stand, where each sets the hands. -/
import Derived.Test.YtdocgmafbacjcaaGreatDoorMT15
section
namespace Go.Proofs.YtdocgmafbacjcaaGreatDoor
open Go.RowKit Go.Shelf Dl

/-- a slice that has elements begins below a block -/
def Lo (B : Nat) (A : Option Addr) (n : Nat) : Prop := 0 < n → ∃ ad, A = some ad ∧ ad.block < B
theorem Lo.mono {B C n : Nat} {A : Option Addr} (h : Lo B A n) (hB : B ≤ C) : Lo C A n := fun hn => by
 obtain ⟨ad, e, hlt⟩ := h hn
 exact ⟨ad, e, Nat.lt_of_lt_of_le hlt hB⟩
theorem Rd.lo {w : World} {A : Option Addr} {n : Nat} {xs : List Int} (h : Rd w A n xs) : Lo w.heap.size A n := fun hn => by
 obtain ⟨ad, e, hlt, _⟩ := h.2 hn
 exact ⟨ad, e, hlt⟩
theorem RdS.lo {w : World} {A : Option Addr} {k n : Nat} {rows : List (List Value)} (h : RdS w A k rows) (hn : rows.length = n) : Lo w.heap.size A n := fun h0 => by
 obtain ⟨ad, e, hlt, _⟩ := h (by omega)
 exact ⟨ad, e, hlt⟩
theorem Rd.keepLo {B : Nat} {w w' : World} {A : Option Addr} {n : Nat} {xs : List Int} (h : Rd w A n xs) (hl : Lo B A n) (hb : Below B w w') : Rd w' A n xs :=
 ⟨h.1, fun hn => by
  obtain ⟨ad, e, hlt, hc⟩ := h.2 hn
  obtain ⟨ad', e', hlo⟩ := hl hn
  rw [e] at e'
  cases e'
  exact ⟨ad, e, Nat.lt_of_lt_of_le hlt hb.size, fun j hj => (hb.cell (by rw [block_of_add]; exact hlo)).trans (hc j hj)⟩⟩
theorem RdS.keepLo {B : Nat} {w w' : World} {A : Option Addr} {k n : Nat} {rows : List (List Value)} (h : RdS w A k rows) (hn : rows.length = n) (hl : Lo B A n) (hb : Below B w w') : RdS w' A k rows := fun h0 => by
 obtain ⟨ad, e, hlt, hc⟩ := h h0
 obtain ⟨ad', e', hlo⟩ := hl (by omega)
 rw [e] at e'
 cases e'
 exact ⟨ad, e, Nat.lt_of_lt_of_le hlt hb.size, fun i r hr => ⟨(hc i r hr).1, fun j v hv => (hb.cell (p := ad.add (i * k + j)) (by rw [block_of_add]; exact hlo)).trans ((hc i r hr).2 j v hv)⟩⟩
def SuLo (B : Nat) (A1 A2 A3 A4 A5 A6 : Option Addr) (n1 n2 n4 n5 n6 : Nat) : Prop := Lo B A1 n1 ∧ Lo B A2 n2 ∧ Lo B A3 n2 ∧ Lo B A4 n4 ∧ Lo B A5 n5 ∧ Lo B A6 n6
theorem SuAt.lo {w : World} {A1 A2 A3 A4 A5 A6 : Option Addr} {n1 n2 n4 n5 n6 : Nat} {ls : List Lk} {hs : List Int} {tg : List (Int × Int)} {ho cy : List Int} {fe : List Feast} (h : SuAt w A1 A2 A3 A4 A5 A6 n1 n2 n4 n5 n6 ls hs tg ho cy fe) : SuLo w.heap.size A1 A2 A3 A4 A5 A6 n1 n2 n4 n5 n6 :=
 ⟨h.r1.lo (by rw [List.length_map, h.l1]), h.r2.lo, h.r3.lo (by rw [List.length_map, h.l3]), h.r4.lo, h.r5.lo, h.r6.lo (by rw [List.length_map, h.l6])⟩
theorem SuLo.mono {B C : Nat} {A1 A2 A3 A4 A5 A6 : Option Addr} {n1 n2 n4 n5 n6 : Nat} (h : SuLo B A1 A2 A3 A4 A5 A6 n1 n2 n4 n5 n6) (hB : B ≤ C) : SuLo C A1 A2 A3 A4 A5 A6 n1 n2 n4 n5 n6 :=
 ⟨h.1.mono hB, h.2.1.mono hB, h.2.2.1.mono hB, h.2.2.2.1.mono hB, h.2.2.2.2.1.mono hB, h.2.2.2.2.2.mono hB⟩
theorem SuAt.keepLo {B : Nat} {w w' : World} {A1 A2 A3 A4 A5 A6 : Option Addr} {n1 n2 n4 n5 n6 : Nat} {ls : List Lk} {hs : List Int} {tg : List (Int × Int)} {ho cy : List Int} {fe : List Feast} (h : SuAt w A1 A2 A3 A4 A5 A6 n1 n2 n4 n5 n6 ls hs tg ho cy fe) (hl : SuLo B A1 A2 A3 A4 A5 A6 n1 n2 n4 n5 n6) (hb : Below B w w') : SuAt w' A1 A2 A3 A4 A5 A6 n1 n2 n4 n5 n6 ls hs tg ho cy fe :=
 ⟨h.r1.keepLo (by rw [List.length_map, h.l1]) hl.1 hb, h.l1, h.r2.keepLo hl.2.1 hb, h.r3.keepLo (by rw [List.length_map, h.l3]) hl.2.2.1 hb, h.l3, h.r4.keepLo hl.2.2.2.1 hb, h.r5.keepLo hl.2.2.2.2.1 hb, h.r6.keepLo (by rw [List.length_map, h.l6]) hl.2.2.2.2.2 hb, h.l6⟩
/-- what stands, in memory: a suite, its days, and the days on which hands were set -/
structure StAt (W : World) (s : Nat) (A1 A2 A3 A4 A5 A6 : Option Addr) (n1 c1 n2 c2 c3 n4 c4 n5 c5 n6 c6 wm br hr wg pc : Nat) (lim ep mn md ma yr : Int) (D : Option Addr) (m dc : Nat) (mp zv : Value) (zs : List Int) (ls : List Lk) (hs : List Int) (tg : List (Int × Int)) (ho cy : List Int) (fe : List Feast) (fs : List Int) (f : Int) : Prop where
 b : Blk W s 196 #[.slice A1 n1 c1, .slice A2 n2 c2, .slice A3 n2 c3, .int .i64 lim, .int .i64 wm, .slice A4 n4 c4, .int .i64 ep, .slice A5 n5 c5, .int .i64 mn, .int .i64 md, .int .i64 ma, .slice A6 n6 c6, .int .i64 yr, .int .i64 br, .int .i64 hr, .int .i64 wg, .int .i64 pc, .slice D m dc, .slice none 0 0, mp, .int .i64 0, zv]
 r : SuAt W A1 A2 A3 A4 A5 A6 n1 n2 n4 n5 n6 ls hs tg ho cy fe
 fm : Fm A1 n1 ∧ Fm A2 n2 ∧ Fm A3 n2 ∧ Fm A4 n4 ∧ Fm A5 n5 ∧ Fm A6 n6
 cap : n1 ≤ c1
 days : RdS W D 2 (yearR fs f m)
 lo : SuLo s A1 A2 A3 A4 A5 A6 n1 n2 n4 n5 n6
 dlo : Lo s D m
 own : Own W (s + 1) zv zs
section
variable {W W' : World} {s : Nat} {A1 A2 A3 A4 A5 A6 : Option Addr} {n1 c1 n2 c2 c3 n4 c4 n5 c5 n6 c6 wm br hr wg pc : Nat} {lim ep mn md ma yr : Int} {D : Option Addr} {m dc : Nat} {mp zv : Value} {zs : List Int} {ls : List Lk} {hs : List Int} {tg : List (Int × Int)} {ho cy : List Int} {fe : List Feast} {fs : List Int} {f : Int}
theorem StAt.keep (h : StAt W s A1 A2 A3 A4 A5 A6 n1 c1 n2 c2 c3 n4 c4 n5 c5 n6 c6 wm br hr wg pc lim ep mn md ma yr D m dc mp zv zs ls hs tg ho cy fe fs f) (hb : Below W.heap.size W W') : StAt W' s A1 A2 A3 A4 A5 A6 n1 c1 n2 c2 c3 n4 c4 n5 c5 n6 c6 wm br hr wg pc lim ep mn md ma yr D m dc mp zv zs ls hs tg ho cy fe fs f :=
 ⟨h.b.keep hb, h.r.keep hb, h.fm, h.cap, h.days.keep hb, h.lo, h.dlo, h.own.keep hb⟩
theorem year_row' (fs : List Int) (f : Int) (m k : Nat) (h : k < m) : (yearR fs f m)[k]? = some (dayR fs (f + (k : Int))) := by simp [yearR, h]
/-- whether an entry that sets the hands on a day goes -/
def goB (fs : List Int) (f : Int) (zs : List Int) (d : Int) : Bool := workB fs (f + (d - 1)) && (zs.isEmpty || decide (zs[zs.length - 1]?.getD 0 < d))
set_option maxRecDepth 100000 in
set_option maxHeartbeats 16000000 in
theorem do_any (d : Int) (h : StAt W s A1 A2 A3 A4 A5 A6 n1 c1 n2 c2 c3 n4 c4 n5 c5 n6 c6 wm br hr wg pc lim ep mn md ma yr D m dc mp zv zs ls hs tg ho cy fe fs f) (hd : 1 ≤ d ∧ d ≤ (m : Int)) (hm : m ≤ 1000) (hz : zs.length ≤ 1000) (b : Bool) (hgo : goB fs f zs d = b) :
  Calls Tryz.prog 37 #[.pointer (some ⟨s, 0, none⟩), dset d] W fun e W' => (b = true → e = .returned (.tuple #[]) ∧ ∃ zv', StAt W' s A1 A2 A3 A4 A5 A6 n1 c1 n2 c2 c3 n4 c4 n5 c5 n6 c6 wm br hr wg pc lim ep mn md ma yr D m dc mp zv' (zs ++ [d]) ls hs tg ho cy fe fs f) ∧ (b = false → e = .panicked (jrefV (dset d))) ∧ Exc (fun i => i = s ∨ zv.ownBlock = some i) W W' := by
 have hmf : ∀ (fn : Fn) (first cap : Array Value) (w : World), (Instr.makeFunc fn first cap).run Tryz.prog w = .ok (.func fn first cap) w := fun _ _ _ _ => rfl
 have hta : ∀ w, (Instr.typeAssert (.iface 191 (.agg #[.int .i64 d])) 96 181 true).run Tryz.prog w = .ok (.tuple #[.agg #[.int .i64 0], .bool false]) w := fun w => by kernel_rfl
 have htb : ∀ w, (Instr.typeAssert (.iface 191 (.agg #[.int .i64 d])) 96 185 true).run Tryz.prog w = .ok (.tuple #[.agg #[.int .i64 0, .int .i64 0, .int .i64 0], .bool false]) w := fun w => by kernel_rfl
 have htc : ∀ w, (Instr.typeAssert (.iface 191 (.agg #[.int .i64 d])) 96 187 true).run Tryz.prog w = .ok (.tuple #[.agg #[.int .i64 0, .int .i64 0, .int .i64 0], .bool false]) w := fun w => by kernel_rfl
 have htd : ∀ w, (Instr.typeAssert (.iface 191 (.agg #[.int .i64 d])) 96 189 true).run Tryz.prog w = .ok (.tuple #[.agg #[.int .i64 0, .int .i64 0], .bool false]) w := fun w => by kernel_rfl
 have hte : ∀ w, (Instr.typeAssert (.iface 191 (.agg #[.int .i64 d])) 96 191 true).run Tryz.prog w = .ok (.tuple #[.agg #[.int .i64 d], .bool true]) w := fun w => by kernel_rfl
 have hb0 := fr_alloc (fr_refl W) (.cells #[dset d] 96)
 have hX := Blk.new W 96 #[dset d]
 obtain ⟨w1, hw1⟩ : ∃ w1, W.alloc (.cells #[dset d] 96) = w1 := ⟨_, rfl⟩
 rw [hw1] at hb0 hX
 have hsl := h.b.lt
 replace h := h.keep hb0
 have hs0 := hb0.size
 have hcX := hX.cell 0
 have HX := Lib.hid hX
 unfold dset at hcX hw1 ⊢
 go_enter Tryz.func37, Tryz.ntmps37
 go_upto_region 1 with (fail)
 (try rw [hw1])
 clear hw1
 go_upto_region 43 with (fail)
 go_upto_region 44 with (refine wpList_store_blk rfl _ _ _ rfl w1.heap.size 191 _ _ rfl rfl (Blk.new w1 _ _) rfl (by kernel_rfl) (by simp [Value.oneCell']) ?_; intro w2 hY hgY)
 have hb12 : Below w1.heap.size w1 w2 := (fr_alloc (fr_refl w1) _).grown hgY (fr_alloc (fr_refl w1) _).size (by intro k hk; cases hk; exact Nat.le_refl _)
 replace h := h.keep hb12
 have hX2 := HX.out.keep hb12
 have hs2 := hb12.size
 clear hgY hX hcX hta htb htc htd hte HX
 replace hb0 := fr_call hb0 hb12
 clear hb12
 obtain ⟨k, hk⟩ : ∃ k : Nat, d - 1 = (k : Int) := ⟨(d - 1).toNat, by omega⟩
 have HK := Lib.hid hk
 have hkm : k < m := by omega
 obtain ⟨ad, rfl, hab, _, h1⟩ := h.days.nth (year_row' fs f m k hkm)
 have cw := h1 0 _ rfl
 simp only [Nat.zero_add] at cw
 rw [show f + (k : Int) = f + (d - 1) by omega] at cw
 have i1 : IntKind.i64.wrap (d - 1) = (k : Int) := by rw [hk, IntWalk.i64_in _ (by omega)]
 have i2 : (0 : Int) ≤ (k : Int) := Int.natCast_nonneg k
 have i3 : (k : Int) < (m : Int) := by omega
 have HG := Lib.hid hgo
 have HD := Lib.hid hd
 have HB := Lib.hid h
 have hab2 := Lib.hid hab
 obtain ⟨Z, zc, rfl⟩ := h.own.form
 have hB := h.b
 have hZ := h.own.rd
 clear hk h1 hgo hd h hab
 have hlY := hY.lt
 have hlX := hX2.lt
 have hlB := hB.lt
 cases hw : workB fs (f + (d - 1)) with
 | false =>
  have hb : b = false := by rw [← HG.out, goB, hw]; rfl
  subst hb
  rw [hw] at cw
  have hbz := fr_drew (fr_refl w2)
  have hkS : ∀ W', Below w2.heap.size w2 W' → W'.cell? ⟨s, 17, none⟩ = some (.slice (some ad) m dc) ∧ W'.cell? ⟨w1.heap.size, 0, none⟩ = some (.int .i64 d) ∧ W'.cell? ⟨(ad.add (k * 2)).block, (ad.add (k * 2)).off + 1, none⟩ = some (.bool false) := fun W' hb => ⟨(hB.keep hb).cell 17, (hY.keep hb).cell 0, (hb.cell (by show (ad.add (k * 2)).block < _; rw [block_of_add]; exact hab2.out)).trans cw⟩
  refine wp_region_held_drew (S := fun W' => W'.cell? ⟨s, 17, none⟩ = some (.slice (some ad) m dc) ∧ W'.cell? ⟨w1.heap.size, 0, none⟩ = some (.int .i64 d) ∧ W'.cell? ⟨(ad.add (k * 2)).block, (ad.add (k * 2)).off + 1, none⟩ = some (.bool false)) (by kernel_rfl) (hkS _ hbz) (fun hHeld => ?_)
  generalize w2.drew = wz at hbz hHeld ⊢
  -- the region, step by step, in whatever order
  refine tkH 0 ⟨some 263, .move (.tmp 4), 198, "desk.go:250", #[], none⟩ hHeld ?_
  refine tkH 1 ⟨some 264, .move (.tmp 0), 103, "desk.go:250", #[], none⟩ hHeld ?_
  refine tkH 2 ⟨some 265, .nilCheck (.tmp 264), 0, "desk.go:250", #[⟨1, .data⟩], none⟩ hHeld ?_
  refine tkH 3 ⟨some 266, .fieldAddr 196 (.tmp 265) 1, 0, "desk.go:250", #[⟨2, .data⟩], none⟩ hHeld ?_
  refine tkH 4 ⟨some 267, .load 88 (.tmp 266), 88, "desk.go:250", #[⟨3, .data⟩], none⟩ hHeld ?_
  refine tkH 5 ⟨some 268, .fieldAddr 191 (.tmp 25) 0, 0, "desk.go:250", #[], none⟩ hHeld ?_
  refine tkH 6 ⟨some 269, .load 3 (.tmp 268), 3, "desk.go:250", #[⟨5, .data⟩], none⟩ hHeld ?_
  refine tkH 7 ⟨some 270, .binOp .sub 3 (.tmp 269) (.const (.int .i64 1)) 3, 3, "desk.go:250", #[⟨6, .data⟩], none⟩ hHeld ?_
  refine tkH 8 ⟨some 271, .indexAddr 88 (.tmp 267) (.tmp 270), 0, "desk.go:250", #[⟨4, .data⟩, ⟨7, .data⟩], none⟩ hHeld ?_
  refine tkH 9 ⟨some 272, .fieldAddr 176 (.tmp 271) 1, 0, "desk.go:250", #[⟨8, .data⟩], none⟩ hHeld ?_
  refine tkH 10 ⟨some 273, .load 4 (.tmp 272), 4, "desk.go:250", #[⟨9, .data⟩], none⟩ hHeld ?_
  refine tkH 11 ⟨some 274, .move (.tmp 273), 4, "desk.go:250", #[⟨10, .data⟩], none⟩ hHeld ?_
  refine tkH 12 ⟨some 275, .move (.tmp 0), 103, "desk.go:250", #[⟨11, .guard⟩], some (11, true)⟩ hHeld ?_ (v := undef) (hy := Or.inr ⟨by rfl, rfl⟩)
  refine tkH 13 ⟨some 276, .nilCheck (.tmp 275), 0, "desk.go:250", #[⟨12, .data⟩, ⟨11, .guard⟩], some (11, true)⟩ hHeld ?_ (v := undef) (hy := Or.inr ⟨by rfl, rfl⟩)
  refine tkH 14 ⟨some 277, .fieldAddr 196 (.tmp 276) 5, 0, "desk.go:250", #[⟨13, .data⟩, ⟨11, .guard⟩], some (11, true)⟩ hHeld ?_ (v := undef) (hy := Or.inr ⟨by rfl, rfl⟩)
  refine tkH 15 ⟨some 278, .load 23 (.tmp 277), 23, "desk.go:250", #[⟨14, .data⟩, ⟨11, .guard⟩], some (11, true)⟩ hHeld ?_ (v := undef) (hy := Or.inr ⟨by rfl, rfl⟩)
  refine tkH 16 ⟨some 279, .call { callee := .builtin .len, args := #[.tmp 278], argTypes := #[23] }, 3, "desk.go:250", #[⟨15, .data⟩, ⟨11, .guard⟩], some (11, true)⟩ hHeld ?_ (v := undef) (hy := Or.inr ⟨by rfl, rfl⟩)
  refine tkH 17 ⟨some 280, .binOp .eql 3 (.tmp 279) (.const (.int .i64 0)) 3, 4, "desk.go:250", #[⟨16, .data⟩, ⟨11, .guard⟩], some (11, true)⟩ hHeld ?_ (v := undef) (hy := Or.inr ⟨by rfl, rfl⟩)
  refine tkH 18 ⟨some 281, .move (.tmp 280), 4, "desk.go:250", #[⟨17, .data⟩, ⟨11, .chain⟩, ⟨11, .guard⟩], some (11, true)⟩ hHeld ?_ (v := undef) (hy := Or.inr ⟨by rfl, rfl⟩)
  refine tkH 19 ⟨some 282, .fieldAddr 191 (.tmp 25) 0, 0, "desk.go:250", #[⟨18, .guard⟩], some (18, false)⟩ hHeld ?_ (v := undef) (hy := Or.inr ⟨by rfl, rfl⟩)
  refine tkH 20 ⟨some 283, .load 3 (.tmp 282), 3, "desk.go:250", #[⟨19, .data⟩, ⟨18, .guard⟩], some (18, false)⟩ hHeld ?_ (v := undef) (hy := Or.inr ⟨by rfl, rfl⟩)
  refine tkH 21 ⟨some 284, .move (.tmp 0), 103, "desk.go:250", #[⟨18, .guard⟩], some (18, false)⟩ hHeld ?_ (v := undef) (hy := Or.inr ⟨by rfl, rfl⟩)
  refine tkH 22 ⟨some 285, .nilCheck (.tmp 284), 0, "desk.go:250", #[⟨21, .data⟩, ⟨18, .guard⟩], some (18, false)⟩ hHeld ?_ (v := undef) (hy := Or.inr ⟨by rfl, rfl⟩)
  refine tkH 23 ⟨some 286, .fieldAddr 196 (.tmp 285) 5, 0, "desk.go:250", #[⟨22, .data⟩, ⟨18, .guard⟩], some (18, false)⟩ hHeld ?_ (v := undef) (hy := Or.inr ⟨by rfl, rfl⟩)
  refine tkH 24 ⟨some 287, .load 23 (.tmp 286), 23, "desk.go:250", #[⟨23, .data⟩, ⟨18, .guard⟩], some (18, false)⟩ hHeld ?_ (v := undef) (hy := Or.inr ⟨by rfl, rfl⟩)
  refine tkH 25 ⟨some 288, .move (.tmp 0), 103, "desk.go:250", #[⟨18, .guard⟩], some (18, false)⟩ hHeld ?_ (v := undef) (hy := Or.inr ⟨by rfl, rfl⟩)
  refine tkH 26 ⟨some 289, .nilCheck (.tmp 288), 0, "desk.go:250", #[⟨25, .data⟩, ⟨18, .guard⟩], some (18, false)⟩ hHeld ?_ (v := undef) (hy := Or.inr ⟨by rfl, rfl⟩)
  refine tkH 27 ⟨some 290, .fieldAddr 196 (.tmp 289) 5, 0, "desk.go:250", #[⟨26, .data⟩, ⟨18, .guard⟩], some (18, false)⟩ hHeld ?_ (v := undef) (hy := Or.inr ⟨by rfl, rfl⟩)
  refine tkH 28 ⟨some 291, .load 23 (.tmp 290), 23, "desk.go:250", #[⟨27, .data⟩, ⟨18, .guard⟩], some (18, false)⟩ hHeld ?_ (v := undef) (hy := Or.inr ⟨by rfl, rfl⟩)
  refine tkH 29 ⟨some 292, .call { callee := .builtin .len, args := #[.tmp 291], argTypes := #[23] }, 3, "desk.go:250", #[⟨28, .data⟩, ⟨18, .guard⟩], some (18, false)⟩ hHeld ?_ (v := undef) (hy := Or.inr ⟨by rfl, rfl⟩)
  refine tkH 30 ⟨some 293, .binOp .sub 3 (.tmp 292) (.const (.int .i64 1)) 3, 3, "desk.go:250", #[⟨29, .data⟩, ⟨18, .guard⟩], some (18, false)⟩ hHeld ?_ (v := undef) (hy := Or.inr ⟨by rfl, rfl⟩)
  refine tkH 31 ⟨some 294, .indexAddr 23 (.tmp 287) (.tmp 293), 0, "desk.go:250", #[⟨24, .data⟩, ⟨30, .data⟩, ⟨18, .guard⟩], some (18, false)⟩ hHeld ?_ (v := undef) (hy := Or.inr ⟨by rfl, rfl⟩)
  refine tkH 32 ⟨some 295, .load 3 (.tmp 294), 3, "desk.go:250", #[⟨31, .data⟩, ⟨18, .guard⟩], some (18, false)⟩ hHeld ?_ (v := undef) (hy := Or.inr ⟨by rfl, rfl⟩)
  refine tkH 33 ⟨some 296, .binOp .gtr 3 (.tmp 283) (.tmp 295) 3, 4, "desk.go:250", #[⟨20, .data⟩, ⟨32, .data⟩, ⟨18, .guard⟩], some (18, false)⟩ hHeld ?_ (v := undef) (hy := Or.inr ⟨by rfl, rfl⟩)
  refine tkH 34 ⟨some 297, .pick (.tmp 281) (.const (.bool true)) (.tmp 296), 4, "desk.go:250", #[⟨18, .data⟩, ⟨33, .data⟩, ⟨11, .guard⟩], some (11, true)⟩ hHeld ?_ (v := undef) (hy := Or.inr ⟨by rfl, rfl⟩)
  refine tkH 35 ⟨some 298, .pick (.tmp 274) (.tmp 297) (.const (.bool false)), 4, "desk.go:250", #[⟨11, .data⟩, ⟨34, .data⟩], none⟩ hHeld ?_
  refine rdH 36 ⟨some 299, .call { callee := .value (.tmp 263), args := #[.tmp 298], argTypes := #[4] }, 0, "desk.go:250", #[⟨0, .data⟩, ⟨35, .data⟩, ⟨18, .chain⟩], none⟩ fun K hK => ?_
  go_simp
  refine (do1_no W.heap.size _ d _ (hX2.keep hbz)).mono ?_
  rintro e' wz' ⟨rfl, rfl⟩
  exact ⟨rfl, (fun h => by cases h), (fun _ => rfl), (Exc.refl _ W).below (fr_call hb0 hbz)⟩
 | true =>
  rw [hw] at cw
  by_cases hlast : zs = [] ∨ zs[zs.length - 1]?.getD 0 < d
  case neg =>
   have hb : b = false := by
    rw [← HG.out, goB, hw]
    simp only [not_or] at hlast
    simp [hlast.1, hlast.2]
   subst hb
   have hzn : 0 < zs.length := List.length_pos_iff.2 (fun e => hlast (Or.inl e))
   obtain ⟨zd, rfl, hzb, cz⟩ := hZ.at_ (show zs.length - 1 < zs.length by omega)
   have j1 : decide (zs[zs.length - 1]?.getD 0 < d) = false := decide_eq_false (fun e => hlast (Or.inr e))
   have j2 : IntKind.i64.wrap ((zs.length : Int) - 1) = ((zs.length - 1 : Nat) : Int) := by rw [IntWalk.i64_in _ (by omega)]; omega
   have j3 : (0 : Int) ≤ ((zs.length - 1 : Nat) : Int) := Int.natCast_nonneg _
   have j4 : ((zs.length - 1 : Nat) : Int) < (zs.length : Int) := by omega
   have j5 : ((zs.length : Int) == 0) = false := by rw [beq_eq_false_iff_ne]; omega
   generalize zs[zs.length - 1]?.getD 0 = y at *
   generalize zs.length - 1 = q at *
   generalize zs.length = zn at *
   have hbz := fr_drew (fr_refl w2)
   have hkS : ∀ W', Below w2.heap.size w2 W' → W'.cell? ⟨s, 17, none⟩ = some (.slice (some ad) m dc) ∧ W'.cell? ⟨w1.heap.size, 0, none⟩ = some (.int .i64 d) ∧ W'.cell? ⟨(ad.add (k * 2)).block, (ad.add (k * 2)).off + 1, none⟩ = some (.bool true) ∧ W'.cell? ⟨s, 21, none⟩ = some (.slice (some zd) zn zc) ∧ W'.cell? (zd.add q) = some (.int .i64 y) := fun W' hb => ⟨(hB.keep hb).cell 17, (hY.keep hb).cell 0, (hb.cell (by show (ad.add (k * 2)).block < _; rw [block_of_add]; exact hab2.out)).trans cw, (hB.keep hb).cell 21, (hb.cell (by rw [block_of_add]; exact hzb)).trans cz⟩
   refine wp_region_held_drew (S := fun W' => W'.cell? ⟨s, 17, none⟩ = some (.slice (some ad) m dc) ∧ W'.cell? ⟨w1.heap.size, 0, none⟩ = some (.int .i64 d) ∧ W'.cell? ⟨(ad.add (k * 2)).block, (ad.add (k * 2)).off + 1, none⟩ = some (.bool true) ∧ W'.cell? ⟨s, 21, none⟩ = some (.slice (some zd) zn zc) ∧ W'.cell? (zd.add q) = some (.int .i64 y)) (by kernel_rfl) (hkS _ hbz) (fun hHeld => ?_)
   generalize w2.drew = wz at hbz hHeld ⊢
   -- the region, step by step, in whatever order
   refine tkH 0 ⟨some 263, .move (.tmp 4), 198, "desk.go:250", #[], none⟩ hHeld ?_
   refine tkH 1 ⟨some 264, .move (.tmp 0), 103, "desk.go:250", #[], none⟩ hHeld ?_
   refine tkH 2 ⟨some 265, .nilCheck (.tmp 264), 0, "desk.go:250", #[⟨1, .data⟩], none⟩ hHeld ?_
   refine tkH 3 ⟨some 266, .fieldAddr 196 (.tmp 265) 1, 0, "desk.go:250", #[⟨2, .data⟩], none⟩ hHeld ?_
   refine tkH 4 ⟨some 267, .load 88 (.tmp 266), 88, "desk.go:250", #[⟨3, .data⟩], none⟩ hHeld ?_
   refine tkH 5 ⟨some 268, .fieldAddr 191 (.tmp 25) 0, 0, "desk.go:250", #[], none⟩ hHeld ?_
   refine tkH 6 ⟨some 269, .load 3 (.tmp 268), 3, "desk.go:250", #[⟨5, .data⟩], none⟩ hHeld ?_
   refine tkH 7 ⟨some 270, .binOp .sub 3 (.tmp 269) (.const (.int .i64 1)) 3, 3, "desk.go:250", #[⟨6, .data⟩], none⟩ hHeld ?_
   refine tkH 8 ⟨some 271, .indexAddr 88 (.tmp 267) (.tmp 270), 0, "desk.go:250", #[⟨4, .data⟩, ⟨7, .data⟩], none⟩ hHeld ?_
   refine tkH 9 ⟨some 272, .fieldAddr 176 (.tmp 271) 1, 0, "desk.go:250", #[⟨8, .data⟩], none⟩ hHeld ?_
   refine tkH 10 ⟨some 273, .load 4 (.tmp 272), 4, "desk.go:250", #[⟨9, .data⟩], none⟩ hHeld ?_
   refine tkH 11 ⟨some 274, .move (.tmp 273), 4, "desk.go:250", #[⟨10, .data⟩], none⟩ hHeld ?_
   refine tkH 12 ⟨some 275, .move (.tmp 0), 103, "desk.go:250", #[⟨11, .guard⟩], some (11, true)⟩ hHeld ?_
   refine tkH 13 ⟨some 276, .nilCheck (.tmp 275), 0, "desk.go:250", #[⟨12, .data⟩, ⟨11, .guard⟩], some (11, true)⟩ hHeld ?_
   refine tkH 14 ⟨some 277, .fieldAddr 196 (.tmp 276) 5, 0, "desk.go:250", #[⟨13, .data⟩, ⟨11, .guard⟩], some (11, true)⟩ hHeld ?_
   refine tkH 15 ⟨some 278, .load 23 (.tmp 277), 23, "desk.go:250", #[⟨14, .data⟩, ⟨11, .guard⟩], some (11, true)⟩ hHeld ?_
   refine tkH 16 ⟨some 279, .call { callee := .builtin .len, args := #[.tmp 278], argTypes := #[23] }, 3, "desk.go:250", #[⟨15, .data⟩, ⟨11, .guard⟩], some (11, true)⟩ hHeld ?_
   refine tkH 17 ⟨some 280, .binOp .eql 3 (.tmp 279) (.const (.int .i64 0)) 3, 4, "desk.go:250", #[⟨16, .data⟩, ⟨11, .guard⟩], some (11, true)⟩ hHeld ?_
   refine tkH 18 ⟨some 281, .move (.tmp 280), 4, "desk.go:250", #[⟨17, .data⟩, ⟨11, .chain⟩, ⟨11, .guard⟩], some (11, true)⟩ hHeld ?_
   refine tkH 19 ⟨some 282, .fieldAddr 191 (.tmp 25) 0, 0, "desk.go:250", #[⟨18, .guard⟩], some (18, false)⟩ hHeld ?_
   refine tkH 20 ⟨some 283, .load 3 (.tmp 282), 3, "desk.go:250", #[⟨19, .data⟩, ⟨18, .guard⟩], some (18, false)⟩ hHeld ?_
   refine tkH 21 ⟨some 284, .move (.tmp 0), 103, "desk.go:250", #[⟨18, .guard⟩], some (18, false)⟩ hHeld ?_
   refine tkH 22 ⟨some 285, .nilCheck (.tmp 284), 0, "desk.go:250", #[⟨21, .data⟩, ⟨18, .guard⟩], some (18, false)⟩ hHeld ?_
   refine tkH 23 ⟨some 286, .fieldAddr 196 (.tmp 285) 5, 0, "desk.go:250", #[⟨22, .data⟩, ⟨18, .guard⟩], some (18, false)⟩ hHeld ?_
   refine tkH 24 ⟨some 287, .load 23 (.tmp 286), 23, "desk.go:250", #[⟨23, .data⟩, ⟨18, .guard⟩], some (18, false)⟩ hHeld ?_
   refine tkH 25 ⟨some 288, .move (.tmp 0), 103, "desk.go:250", #[⟨18, .guard⟩], some (18, false)⟩ hHeld ?_
   refine tkH 26 ⟨some 289, .nilCheck (.tmp 288), 0, "desk.go:250", #[⟨25, .data⟩, ⟨18, .guard⟩], some (18, false)⟩ hHeld ?_
   refine tkH 27 ⟨some 290, .fieldAddr 196 (.tmp 289) 5, 0, "desk.go:250", #[⟨26, .data⟩, ⟨18, .guard⟩], some (18, false)⟩ hHeld ?_
   refine tkH 28 ⟨some 291, .load 23 (.tmp 290), 23, "desk.go:250", #[⟨27, .data⟩, ⟨18, .guard⟩], some (18, false)⟩ hHeld ?_
   refine tkH 29 ⟨some 292, .call { callee := .builtin .len, args := #[.tmp 291], argTypes := #[23] }, 3, "desk.go:250", #[⟨28, .data⟩, ⟨18, .guard⟩], some (18, false)⟩ hHeld ?_
   refine tkH 30 ⟨some 293, .binOp .sub 3 (.tmp 292) (.const (.int .i64 1)) 3, 3, "desk.go:250", #[⟨29, .data⟩, ⟨18, .guard⟩], some (18, false)⟩ hHeld ?_
   refine tkH 31 ⟨some 294, .indexAddr 23 (.tmp 287) (.tmp 293), 0, "desk.go:250", #[⟨24, .data⟩, ⟨30, .data⟩, ⟨18, .guard⟩], some (18, false)⟩ hHeld ?_
   refine tkH 32 ⟨some 295, .load 3 (.tmp 294), 3, "desk.go:250", #[⟨31, .data⟩, ⟨18, .guard⟩], some (18, false)⟩ hHeld ?_
   refine tkH 33 ⟨some 296, .binOp .gtr 3 (.tmp 283) (.tmp 295) 3, 4, "desk.go:250", #[⟨20, .data⟩, ⟨32, .data⟩, ⟨18, .guard⟩], some (18, false)⟩ hHeld ?_
   refine tkH 34 ⟨some 297, .pick (.tmp 281) (.const (.bool true)) (.tmp 296), 4, "desk.go:250", #[⟨18, .data⟩, ⟨33, .data⟩, ⟨11, .guard⟩], some (11, true)⟩ hHeld ?_
   refine tkH 35 ⟨some 298, .pick (.tmp 274) (.tmp 297) (.const (.bool false)), 4, "desk.go:250", #[⟨11, .data⟩, ⟨34, .data⟩], none⟩ hHeld ?_
   refine rdH 36 ⟨some 299, .call { callee := .value (.tmp 263), args := #[.tmp 298], argTypes := #[4] }, 0, "desk.go:250", #[⟨0, .data⟩, ⟨35, .data⟩, ⟨18, .chain⟩], none⟩ fun K hK => ?_
   go_simp
   refine (do1_no W.heap.size _ d _ (hX2.keep hbz)).mono ?_
   rintro e' wz' ⟨rfl, rfl⟩
   exact ⟨rfl, (fun h => by cases h), (fun _ => rfl), (Exc.refl _ W).below (fr_call hb0 hbz)⟩
  have hb : b = true := by
   rw [← HG.out, goB, hw]
   rcases hlast with h | h
   ·simp [h]
   ·simp [h]
  subst hb
  dsimp only [Act.put]
  go_cut [299] from 263 (fun s299 wc => Below w2.heap.size w2 wc)
  case first =>
   have hbz := fr_drew (fr_refl w2)
   by_cases hzn : zs = []
   ·subst hzn
    have hkS : ∀ W', Below w2.heap.size w2 W' → W'.cell? ⟨s, 17, none⟩ = some (.slice (some ad) m dc) ∧ W'.cell? ⟨w1.heap.size, 0, none⟩ = some (.int .i64 d) ∧ W'.cell? ⟨(ad.add (k * 2)).block, (ad.add (k * 2)).off + 1, none⟩ = some (.bool true) ∧ W'.cell? ⟨s, 21, none⟩ = some (.slice Z 0 zc) := fun W' hb => ⟨(hB.keep hb).cell 17, (hY.keep hb).cell 0, (hb.cell (by show (ad.add (k * 2)).block < _; rw [block_of_add]; exact hab2.out)).trans cw, (hB.keep hb).cell 21⟩
    refine wp_region_noPanic ?_
    refine wp_region_held_drew (S := fun W' => W'.cell? ⟨s, 17, none⟩ = some (.slice (some ad) m dc) ∧ W'.cell? ⟨w1.heap.size, 0, none⟩ = some (.int .i64 d) ∧ W'.cell? ⟨(ad.add (k * 2)).block, (ad.add (k * 2)).off + 1, none⟩ = some (.bool true) ∧ W'.cell? ⟨s, 21, none⟩ = some (.slice Z 0 zc)) (by kernel_rfl) (hkS _ hbz) (fun hHeld => ?_)
    generalize w2.drew = wz at hbz hHeld ⊢
    -- the region, step by step, in whatever order
    refine tkH 0 ⟨some 263, .move (.tmp 4), 198, "desk.go:250", #[], none⟩ hHeld ?_
    refine tkH 1 ⟨some 264, .move (.tmp 0), 103, "desk.go:250", #[], none⟩ hHeld ?_
    refine tkH 2 ⟨some 265, .nilCheck (.tmp 264), 0, "desk.go:250", #[⟨1, .data⟩], none⟩ hHeld ?_
    refine tkH 3 ⟨some 266, .fieldAddr 196 (.tmp 265) 1, 0, "desk.go:250", #[⟨2, .data⟩], none⟩ hHeld ?_
    refine tkH 4 ⟨some 267, .load 88 (.tmp 266), 88, "desk.go:250", #[⟨3, .data⟩], none⟩ hHeld ?_
    refine tkH 5 ⟨some 268, .fieldAddr 191 (.tmp 25) 0, 0, "desk.go:250", #[], none⟩ hHeld ?_
    refine tkH 6 ⟨some 269, .load 3 (.tmp 268), 3, "desk.go:250", #[⟨5, .data⟩], none⟩ hHeld ?_
    refine tkH 7 ⟨some 270, .binOp .sub 3 (.tmp 269) (.const (.int .i64 1)) 3, 3, "desk.go:250", #[⟨6, .data⟩], none⟩ hHeld ?_
    refine tkH 8 ⟨some 271, .indexAddr 88 (.tmp 267) (.tmp 270), 0, "desk.go:250", #[⟨4, .data⟩, ⟨7, .data⟩], none⟩ hHeld ?_
    refine tkH 9 ⟨some 272, .fieldAddr 176 (.tmp 271) 1, 0, "desk.go:250", #[⟨8, .data⟩], none⟩ hHeld ?_
    refine tkH 10 ⟨some 273, .load 4 (.tmp 272), 4, "desk.go:250", #[⟨9, .data⟩], none⟩ hHeld ?_
    refine tkH 11 ⟨some 274, .move (.tmp 273), 4, "desk.go:250", #[⟨10, .data⟩], none⟩ hHeld ?_
    refine tkH 12 ⟨some 275, .move (.tmp 0), 103, "desk.go:250", #[⟨11, .guard⟩], some (11, true)⟩ hHeld ?_
    refine tkH 13 ⟨some 276, .nilCheck (.tmp 275), 0, "desk.go:250", #[⟨12, .data⟩, ⟨11, .guard⟩], some (11, true)⟩ hHeld ?_
    refine tkH 14 ⟨some 277, .fieldAddr 196 (.tmp 276) 5, 0, "desk.go:250", #[⟨13, .data⟩, ⟨11, .guard⟩], some (11, true)⟩ hHeld ?_
    refine tkH 15 ⟨some 278, .load 23 (.tmp 277), 23, "desk.go:250", #[⟨14, .data⟩, ⟨11, .guard⟩], some (11, true)⟩ hHeld ?_
    refine tkH 16 ⟨some 279, .call { callee := .builtin .len, args := #[.tmp 278], argTypes := #[23] }, 3, "desk.go:250", #[⟨15, .data⟩, ⟨11, .guard⟩], some (11, true)⟩ hHeld ?_
    refine tkH 17 ⟨some 280, .binOp .eql 3 (.tmp 279) (.const (.int .i64 0)) 3, 4, "desk.go:250", #[⟨16, .data⟩, ⟨11, .guard⟩], some (11, true)⟩ hHeld ?_
    refine tkH 18 ⟨some 281, .move (.tmp 280), 4, "desk.go:250", #[⟨17, .data⟩, ⟨11, .chain⟩, ⟨11, .guard⟩], some (11, true)⟩ hHeld ?_
    refine tkH 19 ⟨some 282, .fieldAddr 191 (.tmp 25) 0, 0, "desk.go:250", #[⟨18, .guard⟩], some (18, false)⟩ hHeld ?_ (v := undef) (hy := Or.inr ⟨by rfl, rfl⟩)
    refine tkH 20 ⟨some 283, .load 3 (.tmp 282), 3, "desk.go:250", #[⟨19, .data⟩, ⟨18, .guard⟩], some (18, false)⟩ hHeld ?_ (v := undef) (hy := Or.inr ⟨by rfl, rfl⟩)
    refine tkH 21 ⟨some 284, .move (.tmp 0), 103, "desk.go:250", #[⟨18, .guard⟩], some (18, false)⟩ hHeld ?_ (v := undef) (hy := Or.inr ⟨by rfl, rfl⟩)
    refine tkH 22 ⟨some 285, .nilCheck (.tmp 284), 0, "desk.go:250", #[⟨21, .data⟩, ⟨18, .guard⟩], some (18, false)⟩ hHeld ?_ (v := undef) (hy := Or.inr ⟨by rfl, rfl⟩)
    refine tkH 23 ⟨some 286, .fieldAddr 196 (.tmp 285) 5, 0, "desk.go:250", #[⟨22, .data⟩, ⟨18, .guard⟩], some (18, false)⟩ hHeld ?_ (v := undef) (hy := Or.inr ⟨by rfl, rfl⟩)
    refine tkH 24 ⟨some 287, .load 23 (.tmp 286), 23, "desk.go:250", #[⟨23, .data⟩, ⟨18, .guard⟩], some (18, false)⟩ hHeld ?_ (v := undef) (hy := Or.inr ⟨by rfl, rfl⟩)
    refine tkH 25 ⟨some 288, .move (.tmp 0), 103, "desk.go:250", #[⟨18, .guard⟩], some (18, false)⟩ hHeld ?_ (v := undef) (hy := Or.inr ⟨by rfl, rfl⟩)
    refine tkH 26 ⟨some 289, .nilCheck (.tmp 288), 0, "desk.go:250", #[⟨25, .data⟩, ⟨18, .guard⟩], some (18, false)⟩ hHeld ?_ (v := undef) (hy := Or.inr ⟨by rfl, rfl⟩)
    refine tkH 27 ⟨some 290, .fieldAddr 196 (.tmp 289) 5, 0, "desk.go:250", #[⟨26, .data⟩, ⟨18, .guard⟩], some (18, false)⟩ hHeld ?_ (v := undef) (hy := Or.inr ⟨by rfl, rfl⟩)
    refine tkH 28 ⟨some 291, .load 23 (.tmp 290), 23, "desk.go:250", #[⟨27, .data⟩, ⟨18, .guard⟩], some (18, false)⟩ hHeld ?_ (v := undef) (hy := Or.inr ⟨by rfl, rfl⟩)
    refine tkH 29 ⟨some 292, .call { callee := .builtin .len, args := #[.tmp 291], argTypes := #[23] }, 3, "desk.go:250", #[⟨28, .data⟩, ⟨18, .guard⟩], some (18, false)⟩ hHeld ?_ (v := undef) (hy := Or.inr ⟨by rfl, rfl⟩)
    refine tkH 30 ⟨some 293, .binOp .sub 3 (.tmp 292) (.const (.int .i64 1)) 3, 3, "desk.go:250", #[⟨29, .data⟩, ⟨18, .guard⟩], some (18, false)⟩ hHeld ?_ (v := undef) (hy := Or.inr ⟨by rfl, rfl⟩)
    refine tkH 31 ⟨some 294, .indexAddr 23 (.tmp 287) (.tmp 293), 0, "desk.go:250", #[⟨24, .data⟩, ⟨30, .data⟩, ⟨18, .guard⟩], some (18, false)⟩ hHeld ?_ (v := undef) (hy := Or.inr ⟨by rfl, rfl⟩)
    refine tkH 32 ⟨some 295, .load 3 (.tmp 294), 3, "desk.go:250", #[⟨31, .data⟩, ⟨18, .guard⟩], some (18, false)⟩ hHeld ?_ (v := undef) (hy := Or.inr ⟨by rfl, rfl⟩)
    refine tkH 33 ⟨some 296, .binOp .gtr 3 (.tmp 283) (.tmp 295) 3, 4, "desk.go:250", #[⟨20, .data⟩, ⟨32, .data⟩, ⟨18, .guard⟩], some (18, false)⟩ hHeld ?_ (v := undef) (hy := Or.inr ⟨by rfl, rfl⟩)
    refine tkH 34 ⟨some 297, .pick (.tmp 281) (.const (.bool true)) (.tmp 296), 4, "desk.go:250", #[⟨18, .data⟩, ⟨33, .data⟩, ⟨11, .guard⟩], some (11, true)⟩ hHeld ?_
    refine tkH 35 ⟨some 298, .pick (.tmp 274) (.tmp 297) (.const (.bool false)), 4, "desk.go:250", #[⟨11, .data⟩, ⟨34, .data⟩], none⟩ hHeld ?_
    refine rdH 36 ⟨some 299, .call { callee := .value (.tmp 263), args := #[.tmp 298], argTypes := #[4] }, 0, "desk.go:250", #[⟨0, .data⟩, ⟨35, .data⟩, ⟨18, .chain⟩], none⟩ fun K hK => ?_
    go_simp
    refine (do1_yes _ _).mono ?_
    rintro e' wz' ⟨rfl, rfl⟩
    refine hK.out _ _ (hkS _ hbz) (fun hHeld => ?_)
    clear hK K
    (try simp only [Act.put, List.setIfInBounds_toArray, List.set_cons_zero, List.set_cons_succ])
    refine wpAnyH_done (by kernel_rfl) ?_ _
    refine NoPanic.normal ?_
    go_wp2_with fail
    go_meet
    case rel => exact hbz
   ·have hlt := hlast.resolve_left hzn
    have hzp : 0 < zs.length := List.length_pos_iff.2 hzn
    obtain ⟨zd, rfl, hzb, cz⟩ := hZ.at_ (show zs.length - 1 < zs.length by omega)
    have j1 : decide (zs[zs.length - 1]?.getD 0 < d) = true := decide_eq_true hlt
    have j2 : IntKind.i64.wrap ((zs.length : Int) - 1) = ((zs.length - 1 : Nat) : Int) := by rw [IntWalk.i64_in _ (by omega)]; omega
    have j3 : (0 : Int) ≤ ((zs.length - 1 : Nat) : Int) := Int.natCast_nonneg _
    have j4 : ((zs.length - 1 : Nat) : Int) < (zs.length : Int) := by omega
    have j5 : ((zs.length : Int) == 0) = false := by rw [beq_eq_false_iff_ne]; omega
    clear hlast hlt
    generalize zs[zs.length - 1]?.getD 0 = y at *
    generalize zs.length - 1 = q at *
    generalize zs.length = zn at *
    have hkS : ∀ W', Below w2.heap.size w2 W' → W'.cell? ⟨s, 17, none⟩ = some (.slice (some ad) m dc) ∧ W'.cell? ⟨w1.heap.size, 0, none⟩ = some (.int .i64 d) ∧ W'.cell? ⟨(ad.add (k * 2)).block, (ad.add (k * 2)).off + 1, none⟩ = some (.bool true) ∧ W'.cell? ⟨s, 21, none⟩ = some (.slice (some zd) zn zc) ∧ W'.cell? (zd.add q) = some (.int .i64 y) := fun W' hb => ⟨(hB.keep hb).cell 17, (hY.keep hb).cell 0, (hb.cell (by show (ad.add (k * 2)).block < _; rw [block_of_add]; exact hab2.out)).trans cw, (hB.keep hb).cell 21, (hb.cell (by rw [block_of_add]; exact hzb)).trans cz⟩
    refine wp_region_noPanic ?_
    refine wp_region_held_drew (S := fun W' => W'.cell? ⟨s, 17, none⟩ = some (.slice (some ad) m dc) ∧ W'.cell? ⟨w1.heap.size, 0, none⟩ = some (.int .i64 d) ∧ W'.cell? ⟨(ad.add (k * 2)).block, (ad.add (k * 2)).off + 1, none⟩ = some (.bool true) ∧ W'.cell? ⟨s, 21, none⟩ = some (.slice (some zd) zn zc) ∧ W'.cell? (zd.add q) = some (.int .i64 y)) (by kernel_rfl) (hkS _ hbz) (fun hHeld => ?_)
    generalize w2.drew = wz at hbz hHeld ⊢
    -- the region, step by step, in whatever order
    refine tkH 0 ⟨some 263, .move (.tmp 4), 198, "desk.go:250", #[], none⟩ hHeld ?_
    refine tkH 1 ⟨some 264, .move (.tmp 0), 103, "desk.go:250", #[], none⟩ hHeld ?_
    refine tkH 2 ⟨some 265, .nilCheck (.tmp 264), 0, "desk.go:250", #[⟨1, .data⟩], none⟩ hHeld ?_
    refine tkH 3 ⟨some 266, .fieldAddr 196 (.tmp 265) 1, 0, "desk.go:250", #[⟨2, .data⟩], none⟩ hHeld ?_
    refine tkH 4 ⟨some 267, .load 88 (.tmp 266), 88, "desk.go:250", #[⟨3, .data⟩], none⟩ hHeld ?_
    refine tkH 5 ⟨some 268, .fieldAddr 191 (.tmp 25) 0, 0, "desk.go:250", #[], none⟩ hHeld ?_
    refine tkH 6 ⟨some 269, .load 3 (.tmp 268), 3, "desk.go:250", #[⟨5, .data⟩], none⟩ hHeld ?_
    refine tkH 7 ⟨some 270, .binOp .sub 3 (.tmp 269) (.const (.int .i64 1)) 3, 3, "desk.go:250", #[⟨6, .data⟩], none⟩ hHeld ?_
    refine tkH 8 ⟨some 271, .indexAddr 88 (.tmp 267) (.tmp 270), 0, "desk.go:250", #[⟨4, .data⟩, ⟨7, .data⟩], none⟩ hHeld ?_
    refine tkH 9 ⟨some 272, .fieldAddr 176 (.tmp 271) 1, 0, "desk.go:250", #[⟨8, .data⟩], none⟩ hHeld ?_
    refine tkH 10 ⟨some 273, .load 4 (.tmp 272), 4, "desk.go:250", #[⟨9, .data⟩], none⟩ hHeld ?_
    refine tkH 11 ⟨some 274, .move (.tmp 273), 4, "desk.go:250", #[⟨10, .data⟩], none⟩ hHeld ?_
    refine tkH 12 ⟨some 275, .move (.tmp 0), 103, "desk.go:250", #[⟨11, .guard⟩], some (11, true)⟩ hHeld ?_
    refine tkH 13 ⟨some 276, .nilCheck (.tmp 275), 0, "desk.go:250", #[⟨12, .data⟩, ⟨11, .guard⟩], some (11, true)⟩ hHeld ?_
    refine tkH 14 ⟨some 277, .fieldAddr 196 (.tmp 276) 5, 0, "desk.go:250", #[⟨13, .data⟩, ⟨11, .guard⟩], some (11, true)⟩ hHeld ?_
    refine tkH 15 ⟨some 278, .load 23 (.tmp 277), 23, "desk.go:250", #[⟨14, .data⟩, ⟨11, .guard⟩], some (11, true)⟩ hHeld ?_
    refine tkH 16 ⟨some 279, .call { callee := .builtin .len, args := #[.tmp 278], argTypes := #[23] }, 3, "desk.go:250", #[⟨15, .data⟩, ⟨11, .guard⟩], some (11, true)⟩ hHeld ?_
    refine tkH 17 ⟨some 280, .binOp .eql 3 (.tmp 279) (.const (.int .i64 0)) 3, 4, "desk.go:250", #[⟨16, .data⟩, ⟨11, .guard⟩], some (11, true)⟩ hHeld ?_
    refine tkH 18 ⟨some 281, .move (.tmp 280), 4, "desk.go:250", #[⟨17, .data⟩, ⟨11, .chain⟩, ⟨11, .guard⟩], some (11, true)⟩ hHeld ?_
    refine tkH 19 ⟨some 282, .fieldAddr 191 (.tmp 25) 0, 0, "desk.go:250", #[⟨18, .guard⟩], some (18, false)⟩ hHeld ?_
    refine tkH 20 ⟨some 283, .load 3 (.tmp 282), 3, "desk.go:250", #[⟨19, .data⟩, ⟨18, .guard⟩], some (18, false)⟩ hHeld ?_
    refine tkH 21 ⟨some 284, .move (.tmp 0), 103, "desk.go:250", #[⟨18, .guard⟩], some (18, false)⟩ hHeld ?_
    refine tkH 22 ⟨some 285, .nilCheck (.tmp 284), 0, "desk.go:250", #[⟨21, .data⟩, ⟨18, .guard⟩], some (18, false)⟩ hHeld ?_
    refine tkH 23 ⟨some 286, .fieldAddr 196 (.tmp 285) 5, 0, "desk.go:250", #[⟨22, .data⟩, ⟨18, .guard⟩], some (18, false)⟩ hHeld ?_
    refine tkH 24 ⟨some 287, .load 23 (.tmp 286), 23, "desk.go:250", #[⟨23, .data⟩, ⟨18, .guard⟩], some (18, false)⟩ hHeld ?_
    refine tkH 25 ⟨some 288, .move (.tmp 0), 103, "desk.go:250", #[⟨18, .guard⟩], some (18, false)⟩ hHeld ?_
    refine tkH 26 ⟨some 289, .nilCheck (.tmp 288), 0, "desk.go:250", #[⟨25, .data⟩, ⟨18, .guard⟩], some (18, false)⟩ hHeld ?_
    refine tkH 27 ⟨some 290, .fieldAddr 196 (.tmp 289) 5, 0, "desk.go:250", #[⟨26, .data⟩, ⟨18, .guard⟩], some (18, false)⟩ hHeld ?_
    refine tkH 28 ⟨some 291, .load 23 (.tmp 290), 23, "desk.go:250", #[⟨27, .data⟩, ⟨18, .guard⟩], some (18, false)⟩ hHeld ?_
    refine tkH 29 ⟨some 292, .call { callee := .builtin .len, args := #[.tmp 291], argTypes := #[23] }, 3, "desk.go:250", #[⟨28, .data⟩, ⟨18, .guard⟩], some (18, false)⟩ hHeld ?_
    refine tkH 30 ⟨some 293, .binOp .sub 3 (.tmp 292) (.const (.int .i64 1)) 3, 3, "desk.go:250", #[⟨29, .data⟩, ⟨18, .guard⟩], some (18, false)⟩ hHeld ?_
    refine tkH 31 ⟨some 294, .indexAddr 23 (.tmp 287) (.tmp 293), 0, "desk.go:250", #[⟨24, .data⟩, ⟨30, .data⟩, ⟨18, .guard⟩], some (18, false)⟩ hHeld ?_
    refine tkH 32 ⟨some 295, .load 3 (.tmp 294), 3, "desk.go:250", #[⟨31, .data⟩, ⟨18, .guard⟩], some (18, false)⟩ hHeld ?_
    refine tkH 33 ⟨some 296, .binOp .gtr 3 (.tmp 283) (.tmp 295) 3, 4, "desk.go:250", #[⟨20, .data⟩, ⟨32, .data⟩, ⟨18, .guard⟩], some (18, false)⟩ hHeld ?_
    refine tkH 34 ⟨some 297, .pick (.tmp 281) (.const (.bool true)) (.tmp 296), 4, "desk.go:250", #[⟨18, .data⟩, ⟨33, .data⟩, ⟨11, .guard⟩], some (11, true)⟩ hHeld ?_
    refine tkH 35 ⟨some 298, .pick (.tmp 274) (.tmp 297) (.const (.bool false)), 4, "desk.go:250", #[⟨11, .data⟩, ⟨34, .data⟩], none⟩ hHeld ?_
    refine rdH 36 ⟨some 299, .call { callee := .value (.tmp 263), args := #[.tmp 298], argTypes := #[4] }, 0, "desk.go:250", #[⟨0, .data⟩, ⟨35, .data⟩, ⟨18, .chain⟩], none⟩ fun K hK => ?_
    go_simp
    refine (do1_yes _ _).mono ?_
    rintro e' wz' ⟨rfl, rfl⟩
    refine hK.out _ _ (hkS _ hbz) (fun hHeld => ?_)
    clear hK K
    (try simp only [Act.put, List.setIfInBounds_toArray, List.set_cons_zero, List.set_cons_succ])
    refine wpAnyH_done (by kernel_rfl) ?_ _
    refine NoPanic.normal ?_
    go_wp2_with fail
    go_meet
    case rel => exact hbz
  have hbc := hcut
  clear hcut hlast cw hw hZ
  go_wp2_with fail
  have hbS : Below s w2 wc := hbc.mono (by omega)
  have hsc := hbc.size
  have hBz := (hB.keep hbc).drew
  have hOz := (HB.out.own.keep hbc).keep (fr_drew (fr_refl wc))
  have hbz : Below s w2 wc.drew := hbS.drew
  have hxz : Exc (fun i => i = s ∨ (Value.slice Z zs.length zc).ownBlock = some i) W wc.drew := (Exc.refl _ W).below (fr_drew (fr_call hb0 hbc))
  have hYz := (hY.keep hbc).drew
  have hszz : wc.heap.size ≤ wc.drew.heap.size := Nat.le_refl _
  have hcS := fun W' (h : Blk W' w1.heap.size 191 #[.int .i64 d]) => h.cell 0
  clear hB hY
  refine wp_region_noPanic ?_
  refine wp_region_held_drew (S := fun W' => Blk W' w1.heap.size 191 #[.int .i64 d]) (by kernel_rfl) hYz (fun hHeld => ?_)
  generalize wc.drew = wz at hbz hxz hHeld hBz hOz hszz ⊢
  -- the region, step by step, in whatever order
  refine tkH 0 ⟨some 300, .move (.tmp 0), 103, "desk.go:251", #[], none⟩ hHeld ?_
  refine tkH 1 ⟨some 301, .move (.tmp 0), 103, "desk.go:251", #[], none⟩ hHeld ?_
  refine tkH 2 ⟨some 302, .nilCheck (.tmp 301), 0, "desk.go:251", #[⟨1, .data⟩], none⟩ hHeld ?_
  refine tkH 3 ⟨some 303, .fieldAddr 196 (.tmp 302) 5, 0, "desk.go:251", #[⟨2, .data⟩], none⟩ hHeld ?_
  refine tkH 5 ⟨some 305, .fieldAddr 191 (.tmp 25) 0, 0, "desk.go:251", #[], none⟩ hHeld ?_
  refine tkH 6 ⟨some 306, .load 3 (.tmp 305), 3, "desk.go:251", #[⟨5, .data⟩], none⟩ hHeld ?_
  refine wpAnyH_ready (rs := [4, 7]) (by kernel_rfl) (by simp) ?_
  refine (AllReadyH.cons (o := ⟨some 304, .load 23 (.tmp 303), 23, "desk.go:251", #[⟨3, .data⟩], none⟩) rfl (fun K hK => ?_) (AllReadyH.cons (o := ⟨some 307, .buildSlice 23 1 #[(0, .tmp 306)], 23, "desk.go:251", #[⟨6, .data⟩], none⟩) rfl (fun K hK => ?_) AllReadyH.nil))
  ·rw [if_pos (by rfl)]
   have hc4 := hBz.cell 21
   go_simp
   refine hK.out _ _ (hHeld) (fun hHeld => ?_)
   clear hK K
   (try simp only [Act.put, List.setIfInBounds_toArray, List.set_cons_zero, List.set_cons_succ])
   refine rdH 7 ⟨some 307, .buildSlice 23 1 #[(0, .tmp 306)], 23, "desk.go:251", #[⟨6, .data⟩], none⟩ fun K hK => ?_
   refine wp_build_int rfl rfl ?_
   intro g1 wz hz1 hG1 hb1 _
   replace hbz := hbz.trans (hb1.mono (by omega))
   replace hxz := hxz.below hb1
   replace hszz := Nat.le_trans hszz hb1.size
   replace hBz := hBz.keep hb1
   replace hOz := hOz.keep hb1
   refine hK.out _ _ (hHeld.keep hb1) (fun hHeld => ?_)
   clear hK K
   (try simp only [Act.put, List.setIfInBounds_toArray, List.set_cons_zero, List.set_cons_succ])
   refine rdH 8 ⟨some 308, .call { callee := .builtin .append, args := #[.tmp 304, .tmp 307], argTypes := #[23, 23] }, 23, "desk.go:251", #[⟨4, .data⟩, ⟨7, .data⟩], none⟩ fun K hK => ?_
   refine wp_app_int2 23 Tryz.underlying23 (.tmp 304) (.tmp 307) rfl (s + 1) _ zs rfl hOz g1 d rfl hG1 (by omega) (by omega) ?_
   intro Z2 zc2 wz hO2 hgr _
   replace hbz := hbz.grown hgr (by omega) (fun k e => by have := own_ge hOz k e; omega)
   replace hxz := hxz.grown hgr (fun k e => Or.inl (Or.inr e))
   replace hszz := Nat.le_trans hszz hgr.size
   replace hBz := hBz.grown hgr (Ne.symm (own_blk_ne hOz hBz (by decide)))
   refine hK.out _ _ (hHeld.grown hgr (Ne.symm (own_blk_ne hOz hHeld (by decide)))) (fun hHeld => ?_)
   clear hK K
   (try simp only [Act.put, List.setIfInBounds_toArray, List.set_cons_zero, List.set_cons_succ])
   refine tkH 9 ⟨some 309, .nilCheck (.tmp 300), 0, "desk.go:251", #[⟨0, .data⟩, ⟨0, .phase⟩, ⟨1, .phase⟩, ⟨2, .phase⟩, ⟨3, .phase⟩, ⟨4, .phase⟩, ⟨5, .phase⟩, ⟨6, .phase⟩, ⟨7, .phase⟩, ⟨8, .phase⟩], none⟩ hHeld ?_
   refine tkH 10 ⟨some 310, .fieldAddr 196 (.tmp 309) 5, 0, "desk.go:251", #[⟨9, .data⟩, ⟨0, .phase⟩, ⟨1, .phase⟩, ⟨2, .phase⟩, ⟨3, .phase⟩, ⟨4, .phase⟩, ⟨5, .phase⟩, ⟨6, .phase⟩, ⟨7, .phase⟩, ⟨8, .phase⟩], none⟩ hHeld ?_
   refine rdH 11 ⟨none, .store 23 (.tmp 310) (.tmp 308), 0, "desk.go:251", #[⟨10, .data⟩, ⟨8, .data⟩, ⟨8, .chain⟩, ⟨0, .phase⟩, ⟨1, .phase⟩, ⟨2, .phase⟩, ⟨3, .phase⟩, ⟨4, .phase⟩, ⟨5, .phase⟩, ⟨6, .phase⟩, ⟨7, .phase⟩, ⟨8, .phase⟩], none⟩ fun K hK => ?_
   have hc11 := hBz.cell 21
   have hf11 := hBz.frozen 21
   go_simp
   have hB3 := hBz.set_ 21 (.slice Z2 (zs.length + 1) zc2)
   have hgs := grown_set wz ⟨s, 21, none⟩ (.slice Z2 (zs.length + 1) zc2)
   have hO3 := World.ownsRow.kept hO2 hgs (.inr (fun e => own_blk_ne hO2 hBz (by decide) e))
   have hbF := hbz.grown hgs (by omega) (by intro k hk; cases hk; exact Nat.le_refl _)
   have hxF := hxz.grown hgs (fun k e => by cases e; exact Or.inl (Or.inl rfl))
   refine hK.out _ _ (hHeld.grown hgs (by intro e; have : w1.heap.size = s := Option.some.inj e; omega)) (fun hHeld => ?_)
   clear hK K
   refine wpAnyH_done (by kernel_rfl) ?_ _
   refine NoPanic.normal ?_
   have hfin : StAt (wz.setCell ⟨s, 21, none⟩ (.slice Z2 (zs.length + 1) zc2)) s A1 A2 A3 A4 A5 A6 n1 c1 n2 c2 c3 n4 c4 n5 c5 n6 c6 wm br hr wg pc lim ep mn md ma yr (some ad) m dc mp (.slice Z2 (zs.length + 1) zc2) (zs ++ [d]) ls hs tg ho cy fe fs f := ⟨hB3, HB.out.r.keepLo HB.out.lo hbF, HB.out.fm, HB.out.cap, HB.out.days.keepLo (yearR_len fs f m) HB.out.dlo hbF, HB.out.lo, HB.out.dlo, hO3⟩
   go_wp2_with fail
   go_end0
   exact ⟨⟨rfl, _, hfin⟩, hxF⟩
  ·rw [if_pos (by rfl)]
   refine wp_build_int rfl rfl ?_
   intro g1 wz hz1 hG1 hb1 _
   replace hbz := hbz.trans (hb1.mono (by omega))
   replace hxz := hxz.below hb1
   replace hszz := Nat.le_trans hszz hb1.size
   replace hBz := hBz.keep hb1
   replace hOz := hOz.keep hb1
   refine hK.out _ _ (hHeld.keep hb1) (fun hHeld => ?_)
   clear hK K
   (try simp only [Act.put, List.setIfInBounds_toArray, List.set_cons_zero, List.set_cons_succ])
   refine rdH 4 ⟨some 304, .load 23 (.tmp 303), 23, "desk.go:251", #[⟨3, .data⟩], none⟩ fun K hK => ?_
   have hc4 := hBz.cell 21
   go_simp
   refine hK.out _ _ (hHeld) (fun hHeld => ?_)
   clear hK K
   (try simp only [Act.put, List.setIfInBounds_toArray, List.set_cons_zero, List.set_cons_succ])
   refine rdH 8 ⟨some 308, .call { callee := .builtin .append, args := #[.tmp 304, .tmp 307], argTypes := #[23, 23] }, 23, "desk.go:251", #[⟨4, .data⟩, ⟨7, .data⟩], none⟩ fun K hK => ?_
   refine wp_app_int2 23 Tryz.underlying23 (.tmp 304) (.tmp 307) rfl (s + 1) _ zs rfl hOz g1 d rfl hG1 (by omega) (by omega) ?_
   intro Z2 zc2 wz hO2 hgr _
   replace hbz := hbz.grown hgr (by omega) (fun k e => by have := own_ge hOz k e; omega)
   replace hxz := hxz.grown hgr (fun k e => Or.inl (Or.inr e))
   replace hszz := Nat.le_trans hszz hgr.size
   replace hBz := hBz.grown hgr (Ne.symm (own_blk_ne hOz hBz (by decide)))
   refine hK.out _ _ (hHeld.grown hgr (Ne.symm (own_blk_ne hOz hHeld (by decide)))) (fun hHeld => ?_)
   clear hK K
   (try simp only [Act.put, List.setIfInBounds_toArray, List.set_cons_zero, List.set_cons_succ])
   refine tkH 9 ⟨some 309, .nilCheck (.tmp 300), 0, "desk.go:251", #[⟨0, .data⟩, ⟨0, .phase⟩, ⟨1, .phase⟩, ⟨2, .phase⟩, ⟨3, .phase⟩, ⟨4, .phase⟩, ⟨5, .phase⟩, ⟨6, .phase⟩, ⟨7, .phase⟩, ⟨8, .phase⟩], none⟩ hHeld ?_
   refine tkH 10 ⟨some 310, .fieldAddr 196 (.tmp 309) 5, 0, "desk.go:251", #[⟨9, .data⟩, ⟨0, .phase⟩, ⟨1, .phase⟩, ⟨2, .phase⟩, ⟨3, .phase⟩, ⟨4, .phase⟩, ⟨5, .phase⟩, ⟨6, .phase⟩, ⟨7, .phase⟩, ⟨8, .phase⟩], none⟩ hHeld ?_
   refine rdH 11 ⟨none, .store 23 (.tmp 310) (.tmp 308), 0, "desk.go:251", #[⟨10, .data⟩, ⟨8, .data⟩, ⟨8, .chain⟩, ⟨0, .phase⟩, ⟨1, .phase⟩, ⟨2, .phase⟩, ⟨3, .phase⟩, ⟨4, .phase⟩, ⟨5, .phase⟩, ⟨6, .phase⟩, ⟨7, .phase⟩, ⟨8, .phase⟩], none⟩ fun K hK => ?_
   have hc11 := hBz.cell 21
   have hf11 := hBz.frozen 21
   go_simp
   have hB3 := hBz.set_ 21 (.slice Z2 (zs.length + 1) zc2)
   have hgs := grown_set wz ⟨s, 21, none⟩ (.slice Z2 (zs.length + 1) zc2)
   have hO3 := World.ownsRow.kept hO2 hgs (.inr (fun e => own_blk_ne hO2 hBz (by decide) e))
   have hbF := hbz.grown hgs (by omega) (by intro k hk; cases hk; exact Nat.le_refl _)
   have hxF := hxz.grown hgs (fun k e => by cases e; exact Or.inl (Or.inl rfl))
   refine hK.out _ _ (hHeld.grown hgs (by intro e; have : w1.heap.size = s := Option.some.inj e; omega)) (fun hHeld => ?_)
   clear hK K
   refine wpAnyH_done (by kernel_rfl) ?_ _
   refine NoPanic.normal ?_
   have hfin : StAt (wz.setCell ⟨s, 21, none⟩ (.slice Z2 (zs.length + 1) zc2)) s A1 A2 A3 A4 A5 A6 n1 c1 n2 c2 c3 n4 c4 n5 c5 n6 c6 wm br hr wg pc lim ep mn md ma yr (some ad) m dc mp (.slice Z2 (zs.length + 1) zc2) (zs ++ [d]) ls hs tg ho cy fe fs f := ⟨hB3, HB.out.r.keepLo HB.out.lo hbF, HB.out.fm, HB.out.cap, HB.out.days.keepLo (yearR_len fs f m) HB.out.dlo hbF, HB.out.lo, HB.out.dlo, hO3⟩
   go_wp2_with fail
   go_end0
   exact ⟨⟨rfl, _, hfin⟩, hxF⟩
end
end Go.Proofs.YtdocgmafbacjcaaGreatDoor
end

section
namespace Go.Proofs.YtdocgmafbacjcaaGreatDoor
open Go.RowKit Go.Shelf Dl

/-- a store of a whole struct, in a fence -/
theorem wpListIn_store_blk {F : Fence} {n : Nat} {P : Program} {op : Oper} {a : Act} {w : World} {Q : Exit → Act → World → Prop} {ops : Array Oper} {rest : List Oper} (hgd : op.guard = none) (ty : TypeId) (x y : Operand) (ho : op.op = .store ty x y) (g : Nat) (t : TypeId) (cs vs : Array Value)
  (hx : a.eval x = .pointer (some ⟨g, 0, none⟩)) (hy : a.eval y = .agg vs) (hB : Blk w g t cs) (hsz : vs.size = cs.size) (hi : (P.info? ty).map (·.size) = some vs.size) (h1 : vs.all (·.oneCell') = true)
  (h : ∀ W, Blk W g t vs → w.grownBy W (some g) → wpListIn F n P ops Q rest (a.put op.dst undef) W) : wpListIn F n P ops Q (op :: rest) a w := by
 refine wpListIn_plain hgd fun K hK => ?_
 have ht : w.there g 0 vs.size := fun j hj => by
  rw [Nat.zero_add, hB.cell, hB.frozen]
  exact ⟨by simp; omega, rfl⟩
 unfold Oper.wpIn
 refine ⟨by simp [Oper.about, ho], ?_⟩
 rw [Oper.semAt_plain F _ _ (by rw [ho]; intro c hc'; cases hc')]
 simp only [execOp, ho, hx, hy, Instr.storeAt, Instr.sureAddr, Sem.run_bind, Sem.run_pure, Result.andThen_ok, run_storeVar_mid w g 0 ty vs ht hi h1]
 exact hK _ _ (h _ (setCells_blk hB vs.toList (by simpa using hsz)) (setCells_grown _ _ _))

def entC (ad : Addr) (c : Nat) : List Value := [.int .i64 5, .slice (some ad) 1 c]
/-- the entries of a desk, in memory: each sets the hands on a day, and none is struck -/
structure EntR (W : World) (E : Option Addr) (n : Nat) (sv : Value) (ds : List Int) : Prop where
 len : ds.length = n
 ev : ∃ rows : List (List Value), RdS W E 2 rows ∧ rows.length = n ∧ ∀ (i : Nat) (d : Int), ds[i]? = some d → ∃ ad c, rows[i]? = some (entC ad c) ∧ ad.block < W.heap.size ∧ W.cell? ad = some (.int .i64 d)
 sv : 0 < n → ∃ S sc, sv = .slice S n sc ∧ RdS W S 1 (List.replicate n [.bool false])
theorem EntR.keep {W W' : World} {E : Option Addr} {n : Nat} {sv : Value} {ds : List Int} (h : EntR W E n sv ds) (hb : Below W.heap.size W W') : EntR W' E n sv ds := by
 obtain ⟨rows, h1, h2, h3⟩ := h.ev
 refine ⟨h.len, ⟨rows, h1.keep hb, h2, fun i d hi => ?_⟩, fun hn => ?_⟩
 ·obtain ⟨ad, c, e, hlt, hc⟩ := h3 i d hi
  exact ⟨ad, c, e, Nat.lt_of_lt_of_le hlt hb.size, (hb.cell hlt).trans hc⟩
 ·obtain ⟨S, sc, e, h4⟩ := h.sv hn
  exact ⟨S, sc, e, h4.keep hb⟩
theorem EntR.nil_ (W : World) (E : Option Addr) (sv : Value) : EntR W E 0 sv [] := ⟨rfl, ⟨[], fun h => absurd h (by simp), rfl, fun i d h => by simp at h⟩, fun h => absurd h (by omega)⟩
set_option maxRecDepth 100000 in
set_option maxHeartbeats 8000000 in
theorem stands_any (m l g gs dm dc n ec : Nat) (D E : Option Addr) (sv : Value) (ds : List Int) (w0 : World) (hG : Blk w0 g 93 #[.pointer (some ⟨gs, 0, none⟩), .slice D dm dc, .slice E n ec, sv]) (he : EntR w0 E n sv ds) (hn : n ≤ 1000)
  (J : Nat → World → Prop) (hJb : ∀ k W, J k W → Below w0.heap.size w0 W) (hJk : ∀ k W W', J k W → Below W.heap.size W W' → J k W')
  (hY : ∀ (k : Nat) (d : Int) W, J k W → ds[k]? = some d → YieldAt Fence.wide m Tryz.prog l #[.int .i64 k, dset d] W fun e W' => e = .returned (.bool true) ∧ J (k + 1) W')
  (W : World) (h0 : J 0 W) :
  CallsIn Fence.wide (m + 1) Tryz.prog 108 #[.pointer (some ⟨g, 0, none⟩), .func (.yield l) #[] #[]] W fun e W' => e = .returned (.tuple #[]) ∧ J n W' := by
 have hL := he.len
 have hcX := fun j => (hG.keep (hJb 0 W h0)).cell j
 have HL := Lib.hid hL
 clear hL
 refine callsIn_of_wp Tryz.func108 rfl trivial ?_ rfl
 simp only [Tryz.ntmps108, List.size_toArray, List.length_cons, List.length_nil, Nat.reduceAdd, Nat.reduceSub, Array.replicate_succ, Array.replicate_zero, List.push_toArray, List.append_toArray, List.nil_append, List.cons_append]
 gi_wp2
 gi_loopw [11] (fun u wr => ∃ k : Nat, k ≤ n ∧ u = .int .i64 k ∧ J k wr) (fun u _ => n - (intOf u).toNat)
 case atStart => exact ⟨0, Nat.zero_le _, rfl, h0⟩
 case round =>
  clear h0 hcX
  obtain ⟨k, hk, rfl, hJ⟩ := hrel
  by_cases hlt : k < n
  ·have hb := hJb k wr hJ
   have hGr := hG.keep hb
   have hcX := fun j => hGr.cell j
   obtain ⟨d, hd⟩ : ∃ d, ds[k]? = some d := ⟨ds[k]'(by have := HL.out; omega), List.getElem?_eq_getElem (by have := HL.out; omega)⟩
   obtain ⟨rows, h1, h2, h3⟩ := (he.keep hb).ev
   obtain ⟨ad, c, e1, hal, hca⟩ := h3 k d hd
   obtain ⟨S, sc, rfl, hS⟩ := (he.keep hb).sv (by omega)
   obtain ⟨ae, rfl, hae, ha0, ha1⟩ := h1.nth e1
   have c0 := ha0 _ rfl
   have c1 := ha1 0 _ rfl
   simp only [Nat.zero_add] at c1
   obtain ⟨aq, rfl, haq, hs0, _⟩ := hS.nth (i := k) (r := [.bool false]) (by simp [hlt])
   have c2 := hs0 _ rfl
   simp only [Nat.mul_one] at c2
   have i1 : (0 : Int) ≤ (k : Int) := Int.natCast_nonneg k
   have i2 : (k : Int) < (n : Int) := by omega
   have i3 : IntKind.i64.wrap ((k : Int) + 1) = ((k + 1 : Nat) : Int) := by rw [IntWalk.i64_in _ (by omega)]; omega
   have HY := Lib.hid (fun W h => hY k d W h hd)
   have HJ := Lib.hid hJ
   clear h1 h2 h3 hS hs0 ha0 ha1 e1 hd he hY hJb hG hJ
   gi_wp2_with (refine wpListIn_store_blk rfl _ _ _ rfl wr.heap.size 45 _ _ rfl rfl (Blk.new wr _ _) rfl (by kernel_rfl) (by simp [Value.oneCell']) ?_; intro w1 hQ hgQ; have hb1 : Below wr.heap.size wr w1 := (fr_alloc (fr_refl wr) _).grown hgQ (fr_alloc (fr_refl wr) _).size (by intro k hk; cases hk; exact Nat.le_refl _); have hcQ := fun j => hQ.cell j; have hcX1 := (hGr.keep hb1).cell 3; have c21 := (hb1.cell (p := aq.add k) (by rw [block_of_add]; exact haq)).trans c2; clear hcX c0 c1 c2 hgQ)
   have hd1 := deedOf_set ad c d w1 ((hb1.cell hal).trans hca) (Nat.lt_of_lt_of_le hal hb1.size)
   refine ⟨trivial, ?_⟩
   refine CallsIn.mono (callsIn_wide.2 hd1) ?_
   rintro e w2 ⟨rfl, hb2⟩
   obtain ⟨fn2, tm2, as2, bo2, hy2, hR2⟩ := HY.out w2 (hJk k wr w2 HJ.out (fr_call hb1 hb2))
   clear hd1 hcQ hcX1 c21
   gi_wp2
   refine hR2.mono ?_
   rintro e W3 ⟨rfl, hJ3⟩
   gi_wp2
   go_roundw
   case rel => exact ⟨k + 1, hlt, by go_num, hJ3⟩
   case measure => simp [intOf]; omega
  ·obtain rfl : k = n := by omega
   gi_wp2
   go_end0
   exact ⟨rfl, hJ⟩
end Go.Proofs.YtdocgmafbacjcaaGreatDoor
end
