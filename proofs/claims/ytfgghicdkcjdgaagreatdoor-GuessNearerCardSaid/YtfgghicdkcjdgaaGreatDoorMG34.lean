/- Go's library: slices.SortFunc at pairs of a train, twelve at most. Walk: guess, Ruled. Reference: Ordered. The laws' arguments, opened: a rule. -/
import Derived.Test.YtfgghicdkcjdgaaGreatDoorMG32
import Derived.Test.YtfgghicdkcjdgaaGreatDoorShelf
import Derived.Shelf.SlSortCmp.InsertionK
import Derived.Test.YtfgghicdkcjdgaaGreatDoorMG33
import Derived.Test.YtfgghicdkcjdgaaGreatDoorMG4
import Derived.Test.YtfgghicdkcjdgaaGreatDoorMG8
import Derived.BigRegion
import Derived.Test.YtfgghicdkcjdgaaGreatDoorMG27
section
namespace Go.Proofs.YtfgghicdkcjdgaaGreatDoor
open Go.RowKit Go.Shelf

def sortRen : Go.Shelf.Ren := ⟨fun | 20 => 143 | n => n, fun | 0 => 0 | 3 => 3 | 4 => 4 | 22 => 26 | 24 => 98 | 25 => 112 | n => n, fun | n => n⟩
theorem sort_lays : SlLaysF0.n20 Tryz.prog sortRen := {
 mixed := by kernel_rfl
 f20 := ⟨ "slices.insertionSortCmpFunc[tellurion/api.TrainPair]", by decide, Tryz.func143.trans (congrArg some (by kernel_rfl))⟩
 t0 := Tryz.underlying0
 a0 := Tryz.isAgg0
 z0 := Tryz.sizeOf0
 v0 := Tryz.zeroValue0
 t3 := Tryz.underlying3
 a3 := Tryz.isAgg3
 z3 := Tryz.sizeOf3
 v3 := Tryz.zeroValue3
 t4 := Tryz.underlying4
 a4 := Tryz.isAgg4
 z4 := Tryz.sizeOf4
 v4 := Tryz.zeroValue4
 t22 := Tryz.underlying26
 a22 := Tryz.isAgg26
 z22 := Tryz.sizeOf26
 v22 := Tryz.zeroValue26
 t25 := Tryz.underlying112
 a25 := Tryz.isAgg112
 z25 := Tryz.sizeOf112
 v25 := Tryz.zeroValue112 }
set_option maxRecDepth 100000 in
set_option maxHeartbeats 4000000 in
theorem ruled1_is (x y : Tw) (W : World) : Calls Tryz.prog 68 #[.agg (twCells x).toArray, .agg (twCells y).toArray] W fun e w' => e = .returned (.int .i64 (cfT x y)) ∧ ∃ q os', w' = Sort.grow (W.drewN q) os' := by
 obtain ⟨z, hz⟩ : ∃ z, cfT x y = z := ⟨_, rfl⟩
 rw [hz]
 have HC := Lib.hid (show z = if x.p.lo = y.p.lo then x.p.hi - y.p.hi else x.p.lo - y.p.lo from hz.symm)
 clear hz
 obtain ⟨⟨x1, x2⟩, ⟨a1, a2⟩, a3, a4⟩ := x
 obtain ⟨⟨y1, y2⟩, ⟨b1, b2⟩, b3, b4⟩ := y
 simp only at a1 a2 a3 a4 b1 b2 b3 b4 HC
 have hw : ∀ o1 o2 : Obj, ∃ q os', (W.alloc o1).alloc o2 = Sort.grow (W.drewN q) os' := fun o1 o2 => ⟨0, #[o1, o2], by rw [Sort.alloc_eq_grow, Sort.alloc_eq_grow, Sort.grow_grow]; rfl⟩
 have hX := (Blk.new W 98 #[.int .i64 x1, .int .i64 x2]).alloc (.cells #[.int .i64 y1, .int .i64 y2] 98)
 have hY : Blk ((W.alloc (.cells #[.int .i64 x1, .int .i64 x2] 98)).alloc (.cells #[.int .i64 y1, .int .i64 y2] 98)) (W.heap.size + 1) 98 #[.int .i64 y1, .int .i64 y2] := Blk.new_at _ _ (by simp)
 have hcX := fun j => hX.cell j
 have hcY := fun j => hY.cell j
 have z1 : IntKind.i64.wrap (x1 - y1) = x1 - y1 := IntWalk.i64_in _ (by omega)
 have z2 : IntKind.i64.wrap (x2 - y2) = x2 - y2 := IntWalk.i64_in _ (by omega)
 show Calls Tryz.prog 68 #[.agg #[.int .i64 x1, .int .i64 x2], .agg #[.int .i64 y1, .int .i64 y2]] W _
 by_cases h : x1 = y1
 ·subst h
  have d0 : (x1 != x1) = false := by simp
  have HZ := Lib.hid (show z = x2 - y2 from by rw [HC.out, if_pos rfl])
  go_enter Tryz.func68, Tryz.ntmps68
  go_wp2_with fail
  go_ret
  exact ⟨by rw [HZ.out]; rfl, hw _ _⟩
 ·have d0 : (x1 != y1) = true := bne_iff_ne.2 h
  have HZ := Lib.hid (show z = x1 - y1 from by rw [HC.out, if_neg h])
  clear h
  go_enter Tryz.func68, Tryz.ntmps68
  go_wp2_with fail
  go_ret
  exact ⟨by rw [HZ.out]; rfl, hw _ _⟩
theorem lt_of_cf : ltOf cfT = ltT := by
 funext x y
 exact lt_cf x y
theorem ins_sort (g cap : Nat) (d : Array Tw) (w : World) (hH : Sort.HoldsK twCells 2 w g 0 d) (hg : g < w.heap.size) (hs : d.size ≤ 12) :
  Calls Tryz.prog 143 #[.slice (some ⟨g, 0, none⟩) d.size cap, .int .i64 0, .int .i64 d.size, .func (.func 68) #[] #[]] w fun e w' => e = .returned (.tuple #[]) ∧ ∃ n os, w' = sortWorldK twCells 2 w g 0 n (Sort.insertionSort ltT d 0 d.size) os := by
 have h := AnyQ.insertionSortCmpFunc sort_lays 2 Tryz.isAgg98 Tryz.sizeOf98 twCells tw_len tw_one cfT 68 #[] g 0 cap 0 d.size d w (enters_of Tryz.func68 (by kernel_rfl) rfl) (fun m os dk _ x y => ruled1_is x y _) hH hg (Nat.zero_le _) (Nat.le_refl _) (by omega)
 rw [lt_of_cf] at h
 exact h
set_option maxRecDepth 100000 in
set_option maxHeartbeats 4000000 in
theorem pdq_sort (g cap : Nat) (d : Array Tw) (lim : Int) (w : World) (hH : Sort.HoldsK twCells 2 w g 0 d) (hg : g < w.heap.size) (hs : d.size ≤ 12) :
  Calls Tryz.prog 119 #[.slice (some ⟨g, 0, none⟩) d.size cap, .int .i64 0, .int .i64 d.size, .int .i64 lim, .func (.func 68) #[] #[]] w fun e w' => e = .returned (.tuple #[]) ∧ ∃ n os, w' = sortWorldK twCells 2 w g 0 n (Sort.insertionSort ltT d 0 d.size) os := by
 have hi := ins_sort g cap d w hH hg hs
 obtain ⟨n, hn⟩ : ∃ n, d.size = n := ⟨_, rfl⟩
 rw [hn] at hi hs ⊢
 have z0 : IntKind.i64.wrap (n : Int) = (n : Int) := IntWalk.i64_in _ (by omega)
 have q0 : (n : Int) ≤ 12 := by omega
 clear hH hn
 go_enter Tryz.func119, Tryz.ntmps119
 go_wp2
 refine wp_loop_rounds 1 ?_
 rw [rounds_succ]
 go_wp2_with fail
 refine hi.mono ?_
 rintro e w' ⟨rfl, m, os, rfl⟩
 go_wp2_with fail
 (try simp only [Exit.inBlock, Exit.then])
 refine bodyPost_ret (results_none rfl _ _ _) rfl ?_
 exact ⟨rfl, m, os, rfl⟩
set_option maxRecDepth 100000 in
set_option maxHeartbeats 4000000 in
theorem sort_func (g cap : Nat) (d : Array Tw) (w : World) (hH : Sort.HoldsK twCells 2 w g 0 d) (hg : g < w.heap.size) (hs : d.size ≤ 12) :
  Calls Tryz.prog 67 #[.slice (some ⟨g, 0, none⟩) d.size cap, .func (.func 68) #[] #[]] w fun e w' => e = .returned (.tuple #[]) ∧ ∃ n os, w' = sortWorldK twCells 2 w g 0 n (Sort.insertionSort ltT d 0 d.size) os := by
 have hi := fun lim => pdq_sort g cap d lim w hH hg hs
 obtain ⟨n, hn⟩ : ∃ n, d.size = n := ⟨_, rfl⟩
 rw [hn] at hi hs ⊢
 have hl := Tryz.bits_Len (n : Int) w (by omega) (by omega)
 have z0 : IntKind.u64.wrap (n : Int) = (n : Int) := by rw [IntKind.wrap_u64]; omega
 clear hH hn
 go_enter Tryz.func67, Tryz.ntmps67
 go_wp2_with fail
 refine hl.mono ?_
 rintro e w' ⟨rfl, rfl⟩
 go_wp2_with fail
 refine (hi _).mono ?_
 rintro e w' ⟨rfl, m, os, rfl⟩
 go_wp2_with fail
 go_end0
 exact ⟨rfl, m, os, rfl⟩
end Go.Proofs.YtfgghicdkcjdgaaGreatDoor
end

section
namespace Go.Proofs.YtfgghicdkcjdgaaGreatDoor
open Go.RowKit Go.Shelf

theorem ins_inner_size (a : Nat) : ∀ (j : Nat) (d : Array Tw), (Sort.insInner ltT a j d).size = d.size
 | 0, _ => rfl
 | j + 1, d => by
  unfold Sort.insInner
  split
  ·rw [ins_inner_size a j, Sort.size_swp]
  ·rfl
theorem ins_outer_size (a b : Nat) : ∀ (m i : Nat) (d : Array Tw), b - i = m → (Sort.insOuter ltT a b i d).size = d.size
 | 0, i, d, h => by rw [insOuter_stop _ _ _ _ _ (by omega)]
 | m + 1, i, d, h => by rw [insOuter_go _ _ _ _ _ (by omega), ins_outer_size a b m (i + 1) _ (by omega), ins_inner_size]
theorem ins_size (n : Nat) (d : Array Tw) : (Sort.insertionSort ltT d 0 n).size = d.size := ins_outer_size 0 n _ _ d rfl
theorem sort_len {l : List Wh} (h : TeethP l) : (sortT l).length = l.length := by
 rw [sortT_eq, whsT_len, ins_size, List.size_toArray, toT_len h]
/-- a row of one's own is sorted -/
theorem sort_row {W : World} {base n c : Nat} {A : Option Addr} {l : List Wh} (hown : OwnS W base 98 2 (.slice A n c) (l.map Wh.cells)) (hb : base ≤ W.heap.size) (hl : l.length = n) (h1 : 1 ≤ n) (hn : n ≤ 12) (ht : TeethP l) :
  Calls Tryz.prog 67 #[.slice A n c, .func (.func 68) #[] #[]] W fun e w' => e = .returned (.tuple #[]) ∧ RdS w' A 2 ((sortT l).map Wh.cells) ∧ Below base W w' := by
 obtain ⟨d, hd⟩ : ∃ d, (toT l).toArray = d := ⟨_, rfl⟩
 have hds : d.size = n := by rw [← hd, List.size_toArray, toT_len ht, hl]
 have hdl : whsT d = l := by rw [← hd]; exact whsT_to ht
 have hso : sortT l = whsT (Sort.insertionSort ltT d 0 n) := by rw [sortT_eq, hd, toT_len ht, hl]
 rw [← hdl] at hown
 obtain ⟨g, rfl, hgw, hgl, -, hH⟩ := own_holds d hown h1
 have h := sort_func g c d W hH hgl (by omega)
 rw [hds] at h
 refine h.mono ?_
 rintro e w' ⟨rfl, m, os, rfl⟩
 refine ⟨rfl, ?_, sort_below hgw hb⟩
 rw [hso]
 refine holds_rd (holdsK_sortWorldK_c twCells 2 W g 0 d _ m os hH hgl (ins_size n d)) ?_
 exact Nat.lt_of_lt_of_le hgl (size_sortWorldK_c twCells 2 W g 0 m _ os)
set_option maxRecDepth 100000 in
set_option maxHeartbeats 16000000 in
theorem Ruled_ok (A N V : Option Addr) (wc nc n c : Nat) (ws : List Wh) (ns : List Note) (r : Rule) (ts : List (List Int)) (hts : guessL ws ns = ts) (w : World) (hf : FindAt w A N ws ns) (hv : FindOk ws ns) (hr : Rd w V n r.never) (ho : RuleOk r) :
  Calls Tryz.prog 22 #[.agg #[.slice A ws.length wc, .slice N ns.length nc], .agg (r.args V n c)] w (RetE w 0 (ruledN r ts : Int)) := by
 have hb0 := fr_alloc (fr_alloc (fr_refl w) (.cells #[.slice A ws.length wc, .slice N ns.length nc] 25)) (.cells (r.args V n c) 53)
 have hX := (Blk.new w 25 #[.slice A ws.length wc, .slice N ns.length nc]).alloc (.cells (r.args V n c) 53)
 have hR : Blk ((w.alloc (.cells #[.slice A ws.length wc, .slice N ns.length nc] 25)).alloc (.cells (r.args V n c) 53)) (w.heap.size + 1) 53 (r.args V n c) := Blk.new_at _ _ (by simp)
 replace hf := hf.keep hb0
 replace hr := hr.keep hb0
 have hs := hv.six
 have h8 := hv.eight
 have HO := Lib.hid (show OkT ts by rw [← hts]; exact guess_okT hv)
 have hmany : ts.length ≤ 46656 := by rw [← hts]; exact guess_many hv
 have hck := fun W h => tCheck_ok V n c r W h ho
 have hfi := fun A l k kc W h1 h2 h3 h4 h5 => tFits_is A V k kc n c r l W h1 h2 h3 h4 h5 ho
 have hgu := fun W h => guess_any A N wc nc ws ns W h hv
 have hif := fun W h => isFind_is A N wc nc ws ns W h (by omega) (by omega) hv.mo true hv.find
 unfold RetG at hgu
 rw [hts] at hgu
 have HSN := Lib.hid (ruled_snoc r ts)
 have HRL := Lib.hid (fun k => ruled_le r (ts.take k))
 have HSN2 := Lib.hid (fun (k : Nat) (t : List Int) => ruled_snoc r (ts.take k) t)
 obtain ⟨tn, htn⟩ : ∃ tn, ts.length = tn := ⟨_, rfl⟩
 have HTN := Lib.hid htn
 rw [htn] at hmany hgu
 clear htn hts ho hv HSN
 unfold Rule.args at *
 obtain ⟨e1, hz1⟩ : ∃ z, r.least = z := ⟨_, rfl⟩
 obtain ⟨e2, hz2⟩ : ∃ z, r.most = z := ⟨_, rfl⟩
 obtain ⟨e3, hz3⟩ : ∃ z, r.pairs = z := ⟨_, rfl⟩
 obtain ⟨e4, hz4⟩ : ∃ z, r.sense = z := ⟨_, rfl⟩
 simp only [hz1, hz2, hz3, hz4] at *
 clear hz1 hz2 hz3 hz4
 go_enter Tryz.func22, Tryz.ntmps22
 have hcX := fun j => hX.cell j
 have hlX := hX.lt
 have hcR := fun j => hR.cell j
 have hlR := hR.lt
 go_wp2_with fail
 refine (hif _ hf).mono ?_
 rintro e' w1 ⟨rfl, hb⟩
 replace hf := hf.keep hb
 replace hr := hr.keep hb
 replace hX := hX.keep hb
 replace hR := hR.keep hb
 replace hb0 := fr_call hb0 hb
 clear hb hcX hcR hlX hlR
 have hcX := fun j => hX.cell j
 have hlX := hX.lt
 have hcR := fun j => hR.cell j
 have hlR := hR.lt
 go_wp2_with fail
 refine (hck _ hr).mono ?_
 rintro e' w1 ⟨rfl, hb⟩
 replace hf := hf.keep hb
 replace hr := hr.keep hb
 replace hX := hX.keep hb
 replace hR := hR.keep hb
 replace hb0 := fr_call hb0 hb
 clear hb hcX hcR hlX hlR
 have hcX := fun j => hX.cell j
 have hlX := hX.lt
 have hcR := fun j => hR.cell j
 have hlR := hR.lt
 go_wp2_with fail
 refine (hgu _ hf).mono ?_
 rintro e' w1 ⟨L, lc, rfl, hT, hb⟩
 have hTs := hT.ts
 replace hr := hr.keep hb
 replace hR := hR.keep hb
 replace hb0 := fr_call hb0 hb
 clear hb hcX hcR hlX hlR hX hT hf hif hck hgu
 have hfd := fun a b c w => run_list _ rfl a b c w
 go_wp2_with fail
 go_loopw [6, 24] (fun m i wr => ∃ k : Nat, k ≤ tn ∧ i = .int .i64 k ∧ m = .int .i64 (ruledN r (ts.take k) : Int) ∧ Below w1.heap.size w1 wr) (fun _ i _ => tn - (intOf i).toNat)
 case atStart => exact ⟨0, Nat.zero_le _, rfl, rfl, fr_refl _⟩
 case round =>
  obtain ⟨k, hk, rfl, rfl, hbel⟩ := hrel
  by_cases hlt : k < tn
  ·have hkl : k < ts.length := by rw [HTN.out]; exact hlt
   obtain ⟨ad, C, cc, rfl, hab, hcell, hrd⟩ := (hTs.keep hbel).at_ hkl
   obtain ⟨hlen, hth⟩ := HO.out _ (List.getElem_mem hkl)
   have HTK := Lib.hid (show ts.take (k + 1) = ts.take k ++ [ts[k]] from List.take_succ_eq_append_getElem hkl)
   have hrn := HRL.out k
   rw [List.length_take] at hrn
   generalize ts[k] = t at *
   have HTE := Lib.hid (pairs_teeth hth)
   have hpl := pairs_len t
   obtain ⟨tl, htl⟩ : ∃ z, t.length = z := ⟨_, rfl⟩
   rw [htl] at hcell hrd hlen hpl
   obtain ⟨pl, hpe⟩ : ∃ z, (pairsOf t).length = z := ⟨_, rfl⟩
   rw [hpe] at hpl
   have hp3 : 1 ≤ pl ∧ pl ≤ 3 := by omega
   have htr := train_any C tl cc t wr hrd (by omega)
   unfold RetP at htr
   rw [hpe] at htr
   have HPE := Lib.hid hpe
   obtain ⟨ru, hru⟩ : ∃ z, ruledN r (ts.take k) = z := ⟨_, rfl⟩
   rw [hru] at hrn ⊢
   have HRU := Lib.hid hru
   have z1 : IntKind.i64.wrap ((ru : Int) + 1) = (ru : Int) + 1 := IntWalk.i64_in _ (by omega)
   have i1 : 0 ≤ (k : Int) := by omega
   have i2 : (k : Int) < (tn : Int) := by omega
   obtain ⟨b, hb⟩ : ∃ b, fitsR r (sortT (pairsOf t)) = b := ⟨_, rfl⟩
   have HSB := Lib.hid (show ruledN r (ts.take (k + 1)) = if b = true then ru + 1 else ru from by rw [HTK.out, HSN2.out k t, hb, hru])
   have HFB := Lib.hid hb
   clear hrd hTs hth htl hpe hru hb hpl
   go_wp2_with fail
   refine htr.mono ?_
   rintro e' w2 ⟨A2, c2, rfl, hown, hb2⟩
   have hsr := sort_row hown hb2.size HPE.out hp3.1 (by omega) HTE.out
   clear hown htr
   go_wp2_with fail
   refine hsr.mono ?_
   rintro e' w3 ⟨rfl, hrs, hb3⟩
   have hb4 : Below wr.heap.size wr w3 := hb2.trans hb3
   have hb5 := fr_call hbel hb4
   have hR3 := hR.keep hb5
   have hr3 := hr.keep hb5
   have hcR := fun j => hR3.cell j
   have hlR := hR3.lt
   have hfi3 := hfi A2 (sortT (pairsOf t)) pl c2 w3 hrs (by rw [sort_len HTE.out]; exact HPE.out) hp3 (sort_teeth _) hr3
   rw [HFB.out] at hfi3
   clear hsr hrs hb2 hb3 hb4
   go_wp2_with fail
   refine hfi3.mono ?_
   rintro e' w6 ⟨rfl, hb6⟩
   have hb7 := fr_call hb5 hb6
   clear hcR hlR hfi3 hR3 hr3
   cases b
   ·go_wp2_with fail
    refine ⟨⟨k + 1, hlt, by go_num, by rw [HSB.out]; rfl, hb7⟩, ?_⟩
    simp [intOf]; omega
   ·go_wp2_with fail
    refine ⟨⟨k + 1, hlt, by go_num, by rw [HSB.out]; go_num, hb7⟩, ?_⟩
    simp [intOf]; omega
  ·obtain rfl : k = tn := by omega
   have hE : ruledN r (ts.take k) = ruledN r ts := by rw [List.take_of_length_le (by rw [HTN.out]; exact Nat.le_refl _)]
   rw [hE]
   clear hE
   go_wp2_with fail
   go_ret2
   exact ⟨rfl, fr_call hb0 hbel⟩
end Go.Proofs.YtfgghicdkcjdgaaGreatDoor
end

section
namespace Go.Proofs.YtfgghicdkcjdgaaGreatDoor
open Go.RowKit Go.Shelf
attribute [local go_sem] Oper.semAt_some

theorem app_rows0 {ops : Array Oper} {rest : List Oper} {o : Oper} {a : Act} {Q : Exit → Act → World → Prop} {w : World} {T E : TypeId} {z : Value} {k bytes : Nat} (hgd : o.guard = none) (s x : Operand)
  (ho : o.op = .call { callee := .builtin .append, args := #[s, x], argTypes := #[T, T] }) (hu : Tryz.prog.underlying T = some (.slice E)) (hinfo : (Tryz.prog.info? E).map (fun i => (i.zero, i.size, i.bytes)) = some (some z, k, bytes)) (hzk : z.cells.size = k) (hk : 0 < k) (hby : bytes ≤ 1000)
  (base : Nat) (hs : a.eval s = .slice none 0 0) (ad : Addr) (n c : Nat) (news : List (List Value)) (hx : a.eval x = .slice (some ad) n c) (hnl : news.length = n) (hrd : RdS w (some ad) k news) (hrl : ∀ r ∈ news, r.length = k) (h1 : ∀ r ∈ news, ∀ u ∈ r, u.oneCell' = true) (hn : n < 1000000) (hbase : base ≤ w.heap.size)
  (h : ∀ A c w', OwnS w' base E k (.slice A n c) news → w.grownBy w' none → wpList Tryz.prog ops Q rest (a.put o.dst (.slice A n c)) w') : wpList Tryz.prog ops Q (o :: rest) a w :=
 wpList_plain hgd fun _ hK => wp_app_rows s x ho hu hinfo hzk hk hby base (.slice none 0 0) [] hs (OwnS.nil _ _ _ _) ad n c news hx hnl hrd hrl h1 (by simpa using hn) hbase (fun A c w' h2 h3 => by
  have h4 := h A c w' (by simpa using h2) h3
  have e : ([] : List (List Value)).length + n = n := Nat.zero_add n
  rw [e]
  exact hK _ _ h4)
theorem holds_keep {W W' : World} {g : Nat} {d : Array Tw} (h : Sort.HoldsK twCells 2 W g 0 d) (hg : g < W.heap.size) (hb : Below W.heap.size W W') : Sort.HoldsK twCells 2 W' g 0 d := fun j hj => by
 obtain ⟨h1, h2⟩ := h j hj
 exact ⟨(World.cell?_of_block (hb.block g hg)).trans h1, (World.frozen?_of_block (hb.block g hg)).trans h2⟩
theorem below_cells {w : World} {g : Nat} (hg : w.heap.size ≤ g) : ∀ (vs : List Value) (o : Nat) (W : World), Below w.heap.size w W → Below w.heap.size w (W.setCells g o vs)
 | [], _, _, h => h
 | v :: r, o, W, h => below_cells hg r (o + 1) _ (h.grown (grown_set W ⟨g, o, none⟩ v) h.size (by intro k hk; cases hk; exact hg))
theorem swap_holds {W : World} {g i j : Nat} {d : Array Tw} (h : Sort.HoldsK twCells 2 W g 0 d) (hi : i < d.size) (hj : j < d.size) :
  Sort.HoldsK twCells 2 ((W.setCells g (i * 2) (twCells d[j]!)).setCells g (j * 2) (twCells d[i]!)) g 0 (Sort.swp d i j) := by
 have h1 := holds_setCells_c h (i * 2) (twCells d[j]!) (by rw [tw_len, Sort.size_flatK]; omega)
 have h2 := holds_setCells_c h1 (j * 2) (twCells d[i]!) (by rw [tw_len, Sort.size_setMany, Sort.size_flatK]; omega)
 rw [Sort.setMany_swp twCells 2 tw_len d i j hi hj, Nat.zero_add, Nat.zero_add] at h2
 exact h2
theorem holds_at {W : World} {g i : Nat} {d : Array Tw} (h : Sort.HoldsK twCells 2 W g 0 d) (hi : i < d.size) :
  (W.cell? ⟨g, i * 2, none⟩ = some (.int .i64 d[i]!.p.lo) ∧ W.cell? ⟨g, i * 2 + 1, none⟩ = some (.int .i64 d[i]!.p.hi)) ∧ W.frozen? ⟨g, i * 2, none⟩ = false ∧ W.frozen? ⟨g, i * 2 + 1, none⟩ = false := by
 have h0 := h.cell hi (show 0 < 2 by omega)
 have h1 := h.cell hi (show 1 < 2 by omega)
 rw [Nat.zero_add, Nat.add_zero] at h0
 rw [Nat.zero_add] at h1
 exact ⟨⟨h0.1, h1.1⟩, h0.2, h1.2⟩
set_option maxRecDepth 100000 in
set_option maxHeartbeats 16000000 in
theorem ordered_any (ad : Addr) (n c : Nat) (l : List Wh) (w : World) (hr : RdS w (some ad) 2 (l.map Wh.cells)) (hl : l.length = n) (h1 : 1 ≤ n) (hn : n ≤ 3) (ht : TeethP l) :
  Calls Tryz.prog 25 #[.slice (some ad) n c] w fun e w' => ∃ A' c', e = .returned (.slice A' n c') ∧ RdS w' A' 2 ((sortT l).map Wh.cells) ∧ Below w.heap.size w w' := by
 obtain ⟨d, hd⟩ : ∃ d, (toT l).toArray = d := ⟨_, rfl⟩
 have hds : d.size = n := by rw [← hd, List.size_toArray, toT_len ht, hl]
 have hdl : whsT d = l := by rw [← hd]; exact whsT_to ht
 have HF := Lib.hid (show ∀ dk : Array Tw, Sort.insOuter ltT 0 n n dk = Sort.insOuter ltT 0 n 0 d → sortT l = whsT dk from fun dk h => by
  rw [insOuter_stop _ _ _ _ _ (by omega), outer_zero] at h
  rw [sortT_eq, hd, toT_len ht, hl, h])
 have HL := Lib.hid hl
 have HD := Lib.hid hdl
 clear hd hdl hl ht
 go_enter Tryz.func25, Tryz.ntmps25
 go_upto_region 1 with (fail)
 go_wp2_with (at_builtin; go_must (refine app_rows0 rfl (.const (.slice none 0 0)) (.tmp 6) rfl Tryz.underlying26 info_pair rfl (by omega) (by omega) w.heap.size rfl ad n c (l.map Wh.cells) rfl (by rw [List.length_map]; exact HL.out) hr (by intro r hr; obtain ⟨p, _, rfl⟩ := List.mem_map.1 hr; rfl) (by intro r hr u hu; obtain ⟨p, _, rfl⟩ := List.mem_map.1 hr; simp only [Wh.cells, List.mem_cons, List.not_mem_nil, or_false] at hu; rcases hu with rfl | rfl <;> rfl) (by omega) (Nat.le_refl _) ?_); intro A2 c2 w2 hown hgr)
 have hbw : Below w.heap.size w w2 := (fr_refl w).grown hgr (Nat.le_refl _) (by intro k hk; cases hk)
 rw [← HD.out] at hown
 obtain ⟨g, rfl, hgw, hgl, -, hH⟩ := own_holds d hown h1
 clear hown hgr hr
 go_loopw [4] (fun t wr => ∃ (i : Nat) (dk : Array Tw), i ≤ n ∧ t = .int .i64 i ∧ dk.size = n ∧ Sort.HoldsK twCells 2 wr g 0 dk ∧ g < wr.heap.size ∧ Hid (Sort.insOuter ltT 0 n i dk = Sort.insOuter ltT 0 n 0 d) ∧ Below w.heap.size w wr) (fun t _ => n - (intOf t).toNat)
 case atStart => exact ⟨0, d, Nat.zero_le _, rfl, hds, hH, hgl, Lib.hid rfl, hbw⟩
 case round =>
  clear hH hgl hbw hds
  obtain ⟨i, dk, hi, rfl, hdk, hH, hgl, hout, hbw⟩ := hrel
  by_cases hlt : i < n
  ·have i2 : (i : Int) < (n : Int) := by omega
   have HOK := Lib.hid (show ∀ dj : Array Tw, dj = Sort.insInner ltT 0 i dk → Sort.insOuter ltT 0 n (i + 1) dj = Sort.insOuter ltT 0 n 0 d from fun dj e => by rw [← hout.out, insOuter_go _ _ _ _ _ hlt, e])
   go_wp2_with fail
   go_loopw [5] (fun t wr2 => ∃ (j : Nat) (dj : Array Tw), j ≤ i ∧ t = .int .i64 j ∧ dj.size = n ∧ Sort.HoldsK twCells 2 wr2 g 0 dj ∧ g < wr2.heap.size ∧ Hid (Sort.insInner ltT 0 j dj = Sort.insInner ltT 0 i dk) ∧ Below w.heap.size w wr2) (fun t _ => (intOf t).toNat)
   case atStart => exact ⟨i, dk, Nat.le_refl _, rfl, hdk, hH, hgl, Lib.hid rfl, hbw⟩
   case round =>
    clear hH hgl hbw hdk
    obtain ⟨j, dj, hj, rfl, hdj, hH, hgl, hin, hbw⟩ := hrel
    by_cases h0 : 0 < j
    ·obtain ⟨k, hk⟩ : ∃ k, j = k + 1 := ⟨j - 1, by omega⟩
     obtain ⟨⟨ca0, ca1⟩, fa0, fa1⟩ := holds_at hH (show j < dj.size by omega)
     obtain ⟨⟨cb0, cb1⟩, fb0, fb1⟩ := holds_at hH (show k < dj.size by omega)
     have z1 : IntKind.i64.wrap ((j : Int) - 1) = (k : Int) := by rw [IntWalk.i64_in _ (by omega)]; omega
     have q0 : decide ((0 : Int) < (j : Int)) = true := decide_eq_true (by omega)
     have q1 : (0 : Int) < (j : Int) := by omega
     have p1 : 0 ≤ (j : Int) := by omega
     have p2 : (j : Int) < (n : Int) := by omega
     have p3 : 0 ≤ (k : Int) := by omega
     have p4 : (k : Int) < (n : Int) := by omega
     have hgo := fun hb : ltT dj[j]! dj[k]! = true => insInner_go ltT 0 j dj h0 (by rw [show j - 1 = k by omega]; exact hb)
     have hstop := fun hb : ltT dj[j]! dj[k]! = false => insInner_stop ltT 0 j dj (Or.inr (by rw [show j - 1 = k by omega]; exact hb))
     rw [show j - 1 = k by omega] at hgo
     have HSW := Lib.hid (fun W (h : Sort.HoldsK twCells 2 W g 0 dj) => swap_holds h (show j < dj.size by omega) (show k < dj.size by omega))
     have hsz : (Sort.swp dj j k).size = n := by rw [Sort.size_swp]; exact hdj
     have HKJ := Lib.hid (show k < j by omega)
     have hki : k ≤ i := by omega
     have hbe : ∀ W, Calls Tryz.prog 81 #[.agg #[.int .i64 dj[j]!.p.lo, .int .i64 dj[j]!.p.hi], .agg #[.int .i64 dj[k]!.p.lo, .int .i64 dj[k]!.p.hi]] W fun e w' => e = .returned (.bool (ltT dj[j]! dj[k]!)) ∧ Below W.heap.size W w' := fun W => bef_any _ _ _ _ W
     clear hk
     obtain ⟨xa, hxa⟩ : ∃ x : Tw, dj[j]! = x := ⟨_, rfl⟩
     obtain ⟨xb, hxb⟩ : ∃ x : Tw, dj[k]! = x := ⟨_, rfl⟩
     rw [hxa] at ca0 ca1 hgo hstop hbe
     rw [hxb] at cb0 cb1 hgo hstop hbe
     simp only [hxa, hxb] at HSW
     have hkC := fun (W : World) (h : Sort.HoldsK twCells 2 W g 0 dj) => holds_at h (show j < dj.size by omega)
     have hkD := fun (W : World) (h : Sort.HoldsK twCells 2 W g 0 dj) => holds_at h (show k < dj.size by omega)
     rw [hxa] at hkC
     rw [hxb] at hkD
     clear hxa hxb
     obtain ⟨b, hb⟩ : ∃ b, ltT xa xb = b := ⟨_, rfl⟩
     rw [hb] at hgo hstop hbe
     have hcl : twCells xa = [.int .i64 xa.p.lo, .int .i64 xa.p.hi] ∧ twCells xb = [.int .i64 xb.p.lo, .int .i64 xb.p.hi] := ⟨rfl, rfl⟩
     rw [hcl.1, hcl.2] at HSW
     generalize xa.p.lo = a1 at *
     generalize xa.p.hi = a2 at *
     generalize xb.p.lo = b1 at *
     generalize xb.p.hi = b2 at *
     clear hb hcl
     have HH := Lib.hid (And.intro hH hgl)
     have HGW := Lib.hid hgw
     have hkS : ∀ W, Below wr.heap.size wr W → (W.cell? ⟨g, j * 2, none⟩ = some (.int .i64 a1) ∧ W.cell? ⟨g, j * 2 + 1, none⟩ = some (.int .i64 a2)) ∧ W.cell? ⟨g, k * 2, none⟩ = some (.int .i64 b1) ∧ W.cell? ⟨g, k * 2 + 1, none⟩ = some (.int .i64 b2) := fun W hb =>
      ⟨⟨(hb.cell (p := ⟨g, j * 2, none⟩) HH.out.2).trans ca0, (hb.cell (p := ⟨g, j * 2 + 1, none⟩) HH.out.2).trans ca1⟩, (hb.cell (p := ⟨g, k * 2, none⟩) HH.out.2).trans cb0, (hb.cell (p := ⟨g, k * 2 + 1, none⟩) HH.out.2).trans cb1⟩
     go_upto_region 6 with (fail)
     clear ca0 ca1 cb0 cb1 fa0 fa1 fb0 fb1 hH hgl
     refine wp_region_noPanic ?_
     have hbz := fr_drew (fr_refl wr)
     refine wp_region_held_drew (S := fun W => (W.cell? ⟨g, j * 2, none⟩ = some (.int .i64 a1) ∧ W.cell? ⟨g, j * 2 + 1, none⟩ = some (.int .i64 a2)) ∧ W.cell? ⟨g, k * 2, none⟩ = some (.int .i64 b1) ∧ W.cell? ⟨g, k * 2 + 1, none⟩ = some (.int .i64 b2)) (by kernel_rfl) (hkS _ hbz) (fun hHeld => ?_)
     generalize wr.drew = wz at hbz hHeld ⊢
     -- the region, step by step, in whatever order
     refine wpAnyH_take (i := 0) (oi := ⟨some 15, .move (.tmp 5), 3, "ref.go:307", #[], none⟩) (v := ?_) rfl (by kernel_rfl) (by kernel_rfl) (by kernel_rfl) (fun _ _ _ h => h) (Or.inl ⟨by rfl, fun W hSw => ?_⟩) hHeld ?_
     rotate_left
     ·(try dsimp only at hSw); go_simp; (try with_reducible rfl)
     (try simp only [Act.put, List.setIfInBounds_toArray, List.set_cons_zero, List.set_cons_succ])
     refine wpAnyH_take (i := 1) (oi := ⟨some 16, .binOp .gtr 3 (.tmp 15) (.const (.int .i64 0)) 3, 4, "ref.go:307", #[⟨0, .data⟩], none⟩) (v := ?_) rfl (by kernel_rfl) (by kernel_rfl) (by kernel_rfl) (fun _ _ _ h => h) (Or.inl ⟨by rfl, fun W hSw => ?_⟩) hHeld ?_
     rotate_left
     ·(try dsimp only at hSw); go_simp; (try with_reducible rfl)
     (try simp only [Act.put, List.setIfInBounds_toArray, List.set_cons_zero, List.set_cons_succ])
     refine wpAnyH_take (i := 2) (oi := ⟨some 17, .move (.tmp 16), 4, "ref.go:307", #[⟨1, .data⟩], none⟩) (v := ?_) rfl (by kernel_rfl) (by kernel_rfl) (by kernel_rfl) (fun _ _ _ h => h) (Or.inl ⟨by rfl, fun W hSw => ?_⟩) hHeld ?_
     rotate_left
     ·(try dsimp only at hSw); go_simp; (try with_reducible rfl)
     (try simp only [Act.put, List.setIfInBounds_toArray, List.set_cons_zero, List.set_cons_succ])
     refine wpAnyH_take (i := 3) (oi := ⟨some 18, .move (.tmp 3), 26, "ref.go:307", #[⟨2, .guard⟩], some (2, true)⟩) (v := ?_) rfl (by kernel_rfl) (by kernel_rfl) (by kernel_rfl) (fun _ _ _ h => h) (Or.inl ⟨by rfl, fun W hSw => ?_⟩) hHeld ?_
     rotate_left
     ·(try dsimp only at hSw); go_simp; (try with_reducible rfl)
     (try simp only [Act.put, List.setIfInBounds_toArray, List.set_cons_zero, List.set_cons_succ])
     refine wpAnyH_take (i := 4) (oi := ⟨some 19, .move (.tmp 5), 3, "ref.go:307", #[⟨2, .guard⟩], some (2, true)⟩) (v := ?_) rfl (by kernel_rfl) (by kernel_rfl) (by kernel_rfl) (fun _ _ _ h => h) (Or.inl ⟨by rfl, fun W hSw => ?_⟩) hHeld ?_
     rotate_left
     ·(try dsimp only at hSw); go_simp; (try with_reducible rfl)
     (try simp only [Act.put, List.setIfInBounds_toArray, List.set_cons_zero, List.set_cons_succ])
     refine wpAnyH_take (i := 5) (oi := ⟨some 20, .indexAddr 26 (.tmp 18) (.tmp 19), 0, "ref.go:307", #[⟨3, .data⟩, ⟨4, .data⟩, ⟨2, .guard⟩], some (2, true)⟩) (v := ?_) rfl (by kernel_rfl) (by kernel_rfl) (by kernel_rfl) (fun _ _ _ h => h) (Or.inl ⟨by rfl, fun W hSw => ?_⟩) hHeld ?_
     rotate_left
     ·(try dsimp only at hSw); go_simp; (try with_reducible rfl)
     (try simp only [Act.put, List.setIfInBounds_toArray, List.set_cons_zero, List.set_cons_succ])
     refine wpAnyH_take (i := 6) (oi := ⟨some 21, .load 98 (.tmp 20), 98, "ref.go:307", #[⟨5, .data⟩, ⟨2, .guard⟩], some (2, true)⟩) (v := ?_) rfl (by kernel_rfl) (by kernel_rfl) (by kernel_rfl) (fun _ _ _ h => h) (Or.inl ⟨by rfl, fun W hSw => ?_⟩) hHeld ?_
     rotate_left
     ·(try dsimp only at hSw); go_simp; (try with_reducible rfl)
     (try simp only [Act.put, List.setIfInBounds_toArray, List.set_cons_zero, List.set_cons_succ])
     refine wpAnyH_take (i := 7) (oi := ⟨some 22, .move (.tmp 3), 26, "ref.go:307", #[⟨2, .guard⟩], some (2, true)⟩) (v := ?_) rfl (by kernel_rfl) (by kernel_rfl) (by kernel_rfl) (fun _ _ _ h => h) (Or.inl ⟨by rfl, fun W hSw => ?_⟩) hHeld ?_
     rotate_left
     ·(try dsimp only at hSw); go_simp; (try with_reducible rfl)
     (try simp only [Act.put, List.setIfInBounds_toArray, List.set_cons_zero, List.set_cons_succ])
     refine wpAnyH_take (i := 8) (oi := ⟨some 23, .move (.tmp 5), 3, "ref.go:307", #[⟨2, .guard⟩], some (2, true)⟩) (v := ?_) rfl (by kernel_rfl) (by kernel_rfl) (by kernel_rfl) (fun _ _ _ h => h) (Or.inl ⟨by rfl, fun W hSw => ?_⟩) hHeld ?_
     rotate_left
     ·(try dsimp only at hSw); go_simp; (try with_reducible rfl)
     (try simp only [Act.put, List.setIfInBounds_toArray, List.set_cons_zero, List.set_cons_succ])
     refine wpAnyH_take (i := 9) (oi := ⟨some 24, .binOp .sub 3 (.tmp 23) (.const (.int .i64 1)) 3, 3, "ref.go:307", #[⟨8, .data⟩, ⟨2, .guard⟩], some (2, true)⟩) (v := ?_) rfl (by kernel_rfl) (by kernel_rfl) (by kernel_rfl) (fun _ _ _ h => h) (Or.inl ⟨by rfl, fun W hSw => ?_⟩) hHeld ?_
     rotate_left
     ·(try dsimp only at hSw); go_simp; (try with_reducible rfl)
     (try simp only [Act.put, List.setIfInBounds_toArray, List.set_cons_zero, List.set_cons_succ])
     refine wpAnyH_take (i := 10) (oi := ⟨some 25, .indexAddr 26 (.tmp 22) (.tmp 24), 0, "ref.go:307", #[⟨7, .data⟩, ⟨9, .data⟩, ⟨2, .guard⟩], some (2, true)⟩) (v := ?_) rfl (by kernel_rfl) (by kernel_rfl) (by kernel_rfl) (fun _ _ _ h => h) (Or.inl ⟨by rfl, fun W hSw => ?_⟩) hHeld ?_
     rotate_left
     ·(try dsimp only at hSw); go_simp; (try with_reducible rfl)
     (try simp only [Act.put, List.setIfInBounds_toArray, List.set_cons_zero, List.set_cons_succ])
     refine wpAnyH_take (i := 11) (oi := ⟨some 26, .load 98 (.tmp 25), 98, "ref.go:307", #[⟨10, .data⟩, ⟨2, .guard⟩], some (2, true)⟩) (v := ?_) rfl (by kernel_rfl) (by kernel_rfl) (by kernel_rfl) (fun _ _ _ h => h) (Or.inl ⟨by rfl, fun W hSw => ?_⟩) hHeld ?_
     rotate_left
     ·(try dsimp only at hSw); go_simp; (try with_reducible rfl)
     (try simp only [Act.put, List.setIfInBounds_toArray, List.set_cons_zero, List.set_cons_succ])
     refine wpAnyH_ready (rs := [12]) (by kernel_rfl) (by simp) ?_
     refine (AllReadyH.cons (o := ⟨some 27, .call { callee := .value (.func 81), args := #[.tmp 21, .tmp 26], argTypes := #[98, 98] }, 4, "ref.go:307", #[⟨6, .data⟩, ⟨11, .data⟩, ⟨2, .chain⟩, ⟨2, .guard⟩], some (2, true)⟩) rfl (fun K hK => ?_) AllReadyH.nil)
     rw [if_pos (by rfl)]
     go_simp
     refine (hbe _).mono ?_
     rintro e' wz ⟨rfl, hb3⟩
     replace hbz := fr_call hbz hb3
     refine hK.out _ _ (hkS _ hbz) (fun hHeld => ?_)
     clear hK K
     (try simp only [Act.put, List.setIfInBounds_toArray, List.set_cons_zero, List.set_cons_succ])
     refine wpAnyH_take (i := 13) (oi := ⟨some 28, .pick (.tmp 17) (.tmp 27) (.const (.bool false)), 4, "ref.go:307", #[⟨2, .data⟩, ⟨12, .data⟩], none⟩) (v := ?_) rfl (by kernel_rfl) (by kernel_rfl) (by kernel_rfl) (fun _ _ _ h => h) (Or.inl ⟨by rfl, fun W hSw => ?_⟩) hHeld ?_
     rotate_left
     ·(try dsimp only at hSw); go_simp; (try with_reducible rfl)
     (try simp only [Act.put, List.setIfInBounds_toArray, List.set_cons_zero, List.set_cons_succ])
     refine wpAnyH_done (by kernel_rfl) ?_ _
     refine NoPanic.normal ?_
     have hH2 := holds_keep HH.out.1 HH.out.2 hbz
     have hgl2 := Nat.lt_of_lt_of_le HH.out.2 hbz.size
     have hbw2 := fr_call hbw hbz
     clear hHeld hkS hbz hbe hbw
     cases b
     ·have HST := Lib.hid (HOK.out dj ((hstop rfl).symm.trans hin.out))
      clear hstop hgo hin
      go_wp2_with fail
      refine ⟨⟨i + 1, dj, hlt, by go_num, hdj, hH2, hgl2, HST, hbw2⟩, ?_⟩
      simp [intOf]; omega
     ·have HST := Lib.hid ((hgo rfl).symm.trans hin.out)
      obtain ⟨⟨ca0, ca1⟩, fa0, fa1⟩ := hkC wz hH2
      obtain ⟨⟨cb0, cb1⟩, fb0, fb1⟩ := hkD wz hH2
      have hs1 := HSW.out wz hH2
      have hbs := below_cells HGW.out [.int .i64 a1, .int .i64 a2] (k * 2) _ (below_cells HGW.out [.int .i64 b1, .int .i64 b2] (j * 2) wz hbw2)
      have hgs : g < ((wz.setCells g (j * 2) [.int .i64 b1, .int .i64 b2]).setCells g (k * 2) [.int .i64 a1, .int .i64 a2]).heap.size := by rw [Sort.size_setCells, Sort.size_setCells]; exact hgl2
      have HN := Lib.hid (And.intro (holds_keep hs1 hgs (fr_drew (fr_refl _))) (And.intro (show g < (World.drew ((wz.setCells g (j * 2) [.int .i64 b1, .int .i64 b2]).setCells g (k * 2) [.int .i64 a1, .int .i64 a2])).heap.size from hgs) (fr_call hbs (fr_drew (fr_refl _)))))
      have hkj := HKJ.out
      have n1 : ¬ j = k := by omega
      have n2 : ¬ k = j := by omega
      have n3 : ¬ j * 2 = k * 2 := by omega
      have n4 : ¬ k * 2 = j * 2 := by omega
      have n5 : ¬ j * 2 + 1 = k * 2 := by omega
      have n6 : ¬ k * 2 = j * 2 + 1 := by omega
      have n7 : ¬ k * 2 + 1 = j * 2 := by omega
      have n8 : ¬ j * 2 = k * 2 + 1 := by omega
      clear hstop hgo hin hs1 hbs hgs hH2 hbw2 hkj
      go_wp2_with fail
      go_region
      all_goals
       go_wp2_with fail
       refine ⟨⟨k, Sort.swp dj j k, hki, rfl, hsz, HN.out.1, HN.out.2.1, HST, HN.out.2.2⟩, ?_⟩
       have := HKJ.out
       simp [intOf]; omega
    ·obtain rfl : j = 0 := by omega
     have q0 : decide ((0 : Int) < ((0 : Nat) : Int)) = false := rfl
     have hin2 := hin.out
     rw [insInner_stop ltT 0 0 dj (Or.inl (Nat.le_refl _))] at hin2
     have HIN := Lib.hid (HOK.out dj hin2)
     clear hin2
     obtain ⟨wo, rfl⟩ : ∃ wo : World, wo = wr := ⟨_, rfl⟩
     go_wp2_with fail
     go_quiet (fail)
     go_wp2_with fail
     refine ⟨⟨i + 1, dj, hlt, by go_num, hdj, holds_keep hH hgl (fr_drewN (fr_refl _) nq), Nat.lt_of_lt_of_le hgl (fr_drewN (fr_refl _) nq).size, HIN, fr_drewN hbw nq⟩, ?_⟩
     simp [intOf]; omega
  ·obtain rfl : i = n := by omega
   have HFF := Lib.hid (HF.out dk hout.out)
   have hrd := holds_rd hH hgl
   go_wp2_with fail
   go_ret
   rw [HFF.out]
   exact ⟨_, _, rfl, hrd, hbw⟩
end Go.Proofs.YtfgghicdkcjdgaaGreatDoor
end

section
namespace Go.Proofs.YtfgghicdkcjdgaaGreatDoor
open Go.ChangeShapes Go.WideShapes Go.ChangeAt Go.WideMaps Go.WideElems Go.RowKit Go.Joins Go.Deep
set_option maxRecDepth 100000

section
variable {H : Type} {enc : TypeId × Value → H} {W : World} {spare : Nat → Bool} {held : Bool} {b : Nat}
theorem rule_cells {fuel : Nat} {cs : List Value} {x : DataW H × List MemPlace} (h : DataW.trod enc Tryz.prog W b spare held fuel 53 cs = some x) :
  ∃ (e0 e1 e2 e3 : Int) (V : Option Addr) (n k : Nat) (xs : List Int), cs = [.int .i64 e0, .int .i64 e1, .int .i64 e2, .int .i64 e3, .slice V n k] ∧ Rd W V n xs ∧ n ≤ 9223372036854775807 := by
 obtain ⟨xs, n, _, rfl, hl, hlen, hf⟩ := DataW.trod_struct Tryz.underlying53 h
 rw [show Tryz.prog.cellsOf 53 = 5 by kernel_rfl] at hl
 match xs, hlen with
 | [y0, y1, y2, y3, y4], _ =>
  have h0 : DataW.trod enc Tryz.prog W b spare held n 3 ((cs.drop 0).take (Tryz.prog.cellsOf 3)) = some y0 := hf 0 _ rfl
  have h1 : DataW.trod enc Tryz.prog W b spare held n 3 ((cs.drop 1).take (Tryz.prog.cellsOf 3)) = some y1 := hf 1 _ rfl
  have h2 : DataW.trod enc Tryz.prog W b spare held n 3 ((cs.drop 2).take (Tryz.prog.cellsOf 3)) = some y2 := hf 2 _ rfl
  have h3 : DataW.trod enc Tryz.prog W b spare held n 51 ((cs.drop 3).take (Tryz.prog.cellsOf 51)) = some y3 := hf 3 _ rfl
  have h4 : DataW.trod enc Tryz.prog W b spare held n 34 ((cs.drop 4).take (Tryz.prog.cellsOf 34)) = some y4 := hf 4 _ rfl
  rw [show Tryz.prog.cellsOf 3 = 1 by kernel_rfl] at h0 h1 h2
  rw [show Tryz.prog.cellsOf 51 = 1 by kernel_rfl] at h3
  rw [show Tryz.prog.cellsOf 34 = 1 by kernel_rfl] at h4
  match cs, hl with
  | [c0, c1, c2, c3, c4], _ =>
   obtain ⟨e0, he0, _, _⟩ := DataW.trod_int Tryz.underlying3 h0
   obtain ⟨e1, he1, _, _⟩ := DataW.trod_int Tryz.underlying3 h1
   obtain ⟨e2, he2, _, _⟩ := DataW.trod_int Tryz.underlying3 h2
   obtain ⟨e3, he3, _, _⟩ := DataW.trod_int Tryz.underlying51 h3
   obtain ⟨V, m, k, vs, he4, hr, hm⟩ := rd_open h4
   simp only [List.drop_zero, List.take_succ_cons, List.take_zero, List.drop_succ_cons, List.cons.injEq, and_true] at he0 he1 he2 he3 he4
   subst he0; subst he1; subst he2; subst he3; subst he4
   exact ⟨e0, e1, e2, e3, V, m, k, vs, rfl, hr, hm⟩
theorem rule_open {r : Reach} {b0 : Nat} {v : Value} {d : DataW H} {p : List MemPlace} (hv : Value.okWide Tryz.prog W r b0 53 v) (h : DataW.Trod enc Tryz.prog W b spare held 53 v d p) :
  ∃ (e0 e1 e2 e3 : Int) (V : Option Addr) (n k : Nat) (xs : List Int), v = .agg #[.int .i64 e0, .int .i64 e1, .int .i64 e2, .int .i64 e3, .slice V n k] ∧ Rd W V n xs ∧ n ≤ 9223372036854775807 := by
 obtain ⟨cs, rfl, hsz⟩ := okWide_struct Tryz.underlying53 hv
 obtain ⟨l⟩ := cs
 obtain ⟨fuel, hf⟩ := h
 obtain ⟨e0, e1, e2, e3, V, n, k, xs, e, hr, hn⟩ := rule_cells hf
 exact ⟨e0, e1, e2, e3, V, n, k, xs, by rw [show l = _ from e], hr, hn⟩
end
end Go.Proofs.YtfgghicdkcjdgaaGreatDoor
end
