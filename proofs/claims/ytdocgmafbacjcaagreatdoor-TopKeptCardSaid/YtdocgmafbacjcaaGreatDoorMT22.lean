/- Walk, package journeyman: Console (by gen_yp.py). Walks: the suite of the chapter's examples. Walk: the suite of the chapter's examples, whole. -/
import Derived.Test.YtdocgmafbacjcaaGreatDoorMT21
import Derived.Test.YtdocgmafbacjcaaGreatDoorMT12
import Derived.Test.YtdocgmafbacjcaaGreatDoorMT14
section
namespace Go.Proofs.YtdocgmafbacjcaaGreatDoor
open Go.RowKit Go.Shelf Dl
attribute [local go_sem] Oper.semAt_some

theorem str_add (a b : List UInt8) : (⟨a.toArray⟩ : ByteArray) ++ (⟨b.toArray⟩ : ByteArray) = ⟨(a ++ b).toArray⟩ := by
 apply ByteArray.ext
 simp [ByteArray.data_append]
theorem textL_take_len (os : List (List UInt8)) (k : Nat) : (textL (os.take k)).length ≤ (textL os).length := by
 have h : textL os = textL (os.take k) ++ textL (os.drop k) := by
  unfold textL
  rw [← List.flatMap_append, List.take_append_drop]
 rw [h, List.length_append]
 omega
set_option maxRecDepth 100000 in
set_option maxHeartbeats 16000000 in
theorem Console_ok (A1 A2 A3 A4 A5 A6 : Option Addr) (n1 c1 n2 c2 c3 n4 c4 n5 c5 n6 c6 wm br hr wg pc : Nat) (lim ep mn md ma yr : Int) (ls : List Lk) (hs : List Int) (tg : List (Int × Int)) (ho cy : List Int) (fe : List Feast) (ls0 os : List (List UInt8)) (w : World) (h : SuAt w A1 A2 A3 A4 A5 A6 n1 n2 n4 n5 n6 ls hs tg ho cy fe) (hok : SuOk n1 c1 n2 n4 n5 n6 wm br hr wg pc lim ep mn md ma yr ls hs tg ho cy fe) (hf1 : Fm A1 n1) (hf2 : Fm A2 n2) (hf3 : Fm A3 n2) (hf4 : Fm A4 n4) (hf5 : Fm A5 n5) (hf6 : Fm A6 n6) (hn2 : n2 ≤ 1000)
  (txt : List UInt8) (htx : textL ls0 = txt ++ [10]) (hls : ∀ x ∈ ls0, ∀ c ∈ x, c ≠ 10) (hlen : (textL ls0).length ≤ 1500) (hlo : ls0.length = os.length) (hlen2 : (textL os).length ≤ 1000000)
  (hans : ∀ g gs B1 B2 B3 B4 B5 B6 k1 k2 k3 k4 k5 k6 D dc W, DeskAt W g gs B1 B2 B3 B4 B5 B6 n1 k1 n2 k2 k3 n4 k4 n5 k5 n6 k6 wm br hr wg pc lim ep mn md ma yr D (longY cy yr) dc (.slice none 0 0) (.slice none 0 0) ls hs tg ho cy fe (feastsY ep cy mn md ma yr fe) (firstDay ep cy yr) → Below w.heap.size w W → ∀ (k : Nat) (x o : List UInt8), ls0[k]? = some x → os[k]? = some o → Calls Tryz.prog 86 #[.pointer (some ⟨g, 0, none⟩), .string ⟨x.toArray⟩] W fun e w' => e = .returned (.string ⟨o.toArray⟩) ∧ Below W.heap.size W w') :
  Calls Tryz.prog 26 #[.agg #[.slice A1 n1 c1, .slice A2 n2 c2, .slice A3 n2 c3, .int .i64 lim, .int .i64 wm, .slice A4 n4 c4, .int .i64 ep, .slice A5 n5 c5, .int .i64 mn, .int .i64 md, .int .i64 ma, .slice A6 n6 c6, .int .i64 yr, .int .i64 br, .int .i64 hr, .int .i64 wg, .int .i64 pc], .string ⟨(textL ls0).toArray⟩] w fun e w' => e = .returned (.tuple #[.string ⟨(textL os).toArray⟩, .int .i64 0]) ∧ Below w.heap.size w w' := by
 have hb0 := fr_alloc (fr_refl w) (.cells #[.slice A1 n1 c1, .slice A2 n2 c2, .slice A3 n2 c3, .int .i64 lim, .int .i64 wm, .slice A4 n4 c4, .int .i64 ep, .slice A5 n5 c5, .int .i64 mn, .int .i64 md, .int .i64 ma, .slice A6 n6 c6, .int .i64 yr, .int .i64 br, .int .i64 hr, .int .i64 wg, .int .i64 pc] 35)
 have hX := Blk.new w 35 #[.slice A1 n1 c1, .slice A2 n2 c2, .slice A3 n2 c3, .int .i64 lim, .int .i64 wm, .slice A4 n4 c4, .int .i64 ep, .slice A5 n5 c5, .int .i64 mn, .int .i64 md, .int .i64 ma, .slice A6 n6 c6, .int .i64 yr, .int .i64 br, .int .i64 hr, .int .i64 wg, .int .i64 pc]
 obtain ⟨w1, hw1⟩ : ∃ w1, w.alloc (.cells #[.slice A1 n1 c1, .slice A2 n2 c2, .slice A3 n2 c3, .int .i64 lim, .int .i64 wm, .slice A4 n4 c4, .int .i64 ep, .slice A5 n5 c5, .int .i64 mn, .int .i64 md, .int .i64 ma, .slice A6 n6 c6, .int .i64 yr, .int .i64 br, .int .i64 hr, .int .i64 wg, .int .i64 pc] 35) = w1 := ⟨_, rfl⟩
 rw [hw1] at hb0 hX
 have K1 := Open_ok A1 A2 A3 A4 A5 A6 n1 c1 n2 c2 c3 n4 c4 n5 c5 n6 c6 wm br hr wg pc lim ep mn md ma yr ls hs tg ho cy fe w1 (h.keep hb0) hok hf1 hf2 hf3 hf4 hf5 hf6 hn2
 have HA := Lib.hid hans
 have hsz : (⟨(textL ls0).toArray⟩ : ByteArray).size = (textL ls0).length := by show (textL ls0).toArray.size = _; simp
 obtain ⟨S, hS⟩ : ∃ S : ByteArray, ⟨(textL ls0).toArray⟩ = S := ⟨_, rfl⟩
 have hhs : ∀ W, Calls Tryz.prog 84 #[.string S, .string ⟨#[10]⟩] W fun e w' => e = .returned (.bool true) ∧ w' = W := fun W => by
  have := hasNl_is txt W (by rw [htx] at hlen; simp at hlen; omega)
  rw [← htx, hS] at this
  exact this
 rw [hS] at hsz ⊢
 have hne : (S.toList == ByteArray.toList ⟨#[]⟩) = false := by
  rw [← hS, ByteArray.toList_mk]
  show (textL ls0 == ByteArray.toList ⟨([] : List UInt8).toArray⟩) = false
  rw [ByteArray.toList_mk, htx]
  cases txt <;> rfl
 have hne2 : S.toList.isEmpty = false := by
  rw [← hS, ByteArray.toList_mk, htx]
  cases txt <;> rfl
 have i1 : (S.size : Int) ≤ 1500 := by omega
 have HS := Lib.hid hS
 have hs0 := hb0.size
 clear h hok hf1 hf2 hf3 hf4 hf5 hf6 hans hS htx
 refine (callsIn_wide (n := 6)).1 (callsIn_of_wp_marks Tryz.func26 rfl trivial ?_ rfl)
 simp only [Tryz.ntmps26, List.size_toArray, List.length_cons, List.length_nil, Nat.reduceAdd, Nat.reduceSub, Array.replicate_succ, Array.replicate_zero, List.push_toArray, List.append_toArray, List.nil_append, List.cons_append]
 refine wpIn_wide.2 ?_
 go_upto_region 1 with (fail)
 (try rw [hw1])
 clear hw1
 go_wp2_with (refine wpList_load_blk rfl _ _ rfl w.heap.size rfl _ _ hX Tryz.underlying35 rfl (by kernel_rfl) ?_)
 refine K1.mono ?_
 rintro e w2 ⟨g, gs, B1, B2, B3, B4, B5, B6, k1, k2, k3, k4, k5, k6, D, dc, rfl, hD, hgw, hb2⟩
 clear K1 hX
 go_upto_region 2 with (fail)
 have hb3 := fr_alloc (fr_refl w2) (.cells #[.pointer (some ⟨g, 0, none⟩)] 38)
 have hBd := Blk.new w2 38 #[.pointer (some ⟨g, 0, none⟩)]
 have hD3 := Lib.hid (hD.keep hb3)
 have hb03 := fr_call hb0 (fr_call hb2 hb3)
 obtain ⟨bd, hbd⟩ : ∃ q, w2.heap.size = q := ⟨_, rfl⟩
 rw [hbd] at hBd
 (try rw [hbd])
 clear hD hb2 hb3 hbd
 generalize w2.alloc (.cells #[.pointer (some ⟨g, 0, none⟩)] 38) = w3 at *
 go_wp2_with fail
 refine (hhs _).mono ?_
 rintro e w3 ⟨rfl, rfl⟩
 go_upto_region 9 with (fail)
 have hb4 := fr_alloc (fr_refl w3) (.cells #[.string ⟨#[]⟩] 9)
 have hBo := Blk.new w3 9 #[.string ⟨#[]⟩]
 have hs4 : (w3.alloc (.cells #[.string ⟨#[]⟩] 9)).heap.size = w3.heap.size + 1 := by simp
 generalize w3.alloc (.cells #[.string ⟨#[]⟩] 9) = w4 at *
 go_wp2_with fail
 refine (lines_is S w4).mono ?_
 rintro e w5 ⟨rfl, hBs, hs5, hb5⟩
 have hBo5 := hBo.keep hb5
 have hb35 := fr_call hb4 hb5
 clear hb4 hb5 hBo hhs hne hne2
 rw [hs4] at hBs hs5 ⊢
 have hs5b : w3.heap.size + 1 < w5.heap.size := by omega
 clear hs5 hs4
 have hlB := hBd.lt
 go_wp2_with fail
 refine (wpIn_wide (n := 6)).1 ?_
 refine wpIn_range_enter (gf := 152) rfl (enters_of Tryz.func152 (by kernel_rfl) rfl) (fun fn rec hst hpe hfn htm hpa has hbod => ?_)
 generalize hl : w5.heap.size + 1 = l at *
 obtain ⟨W1, hW1⟩ : ∃ W1, (w5.alloc (.deferred (some []))).alloc (.loop rec) = W1 := ⟨_, rfl⟩
 have hL1 : W1.heap[l]? = some (.loop rec) := by
  rw [← hW1, ← hl]; have := World.alloc_heap_new (w5.alloc (.deferred (some []))) (.loop rec); rwa [World.size_alloc] at this
 have hD1 : W1.heap[w5.heap.size]? = some (.deferred (some [])) := by
  rw [← hW1]; exact (Below.heap_alloc _ _ _ (by simp)).trans (World.alloc_heap_new w5 _)
 have hb51 : Below w5.heap.size w5 W1 := by rw [← hW1]; exact fr_alloc (fr_alloc (fr_refl _) _) _
 rw [hW1]
 have h0 : ConInv w3 w3.heap.size w5.heap.size l rec os 0 W1 := ⟨fr_call hb35 hb51, hBo5.keep hb51, hD1, hL1⟩
 have hY : ∀ (k : Nat) (x : List UInt8) (s : Value) W, ConInv w3 w3.heap.size w5.heap.size l rec os k W → ls0[k]? = some x → Blk W (w3.heap.size + 1) 9 #[s] → YieldAt Fence.wide 5 Tryz.prog l #[.string ⟨(x ++ [10]).toArray⟩] W fun e W' => e = .returned (.bool true) ∧ ConInv w3 w3.heap.size w5.heap.size l rec os (k + 1) W' ∧ Blk W' (w3.heap.size + 1) 9 #[s] := by
  intro k x s W hi hx hBsW
  have hy := run_yield (P := Tryz.prog) (args := #[.string ⟨(x ++ [10]).toArray⟩]) hi.lp (by rw [hpa]; rfl)
  rw [hfn, htm, hpa, has, hbod] at hy
  refine ⟨_, _, _, _, hy, roundIn_of_wpIn trivial ?_⟩
  clear hy
  gi_wp2
  refine ⟨_, run_beginRound hi.lp hst, ?_⟩
  have hiB := hi.put (by omega) (by omega) { rec with state := .busy }
  have hBsB : Blk (W.putObj l (.loop { rec with state := .busy })) (w3.heap.size + 1) 9 #[s] := hBsW.grown (grownBy_putObj' W l _) (fun e => Obj_cells_ne hBsW hi.lp rfl (by cases e; rfl))
  generalize W.putObj l (.loop { rec with state := .busy }) = WB at *
  have hrec : ({ rec with state := .ready, pending := none } : Loop) = rec := by
   cases rec
   simp only at hst hpe
   rw [hst, hpe]
  have fin : ∀ (WC : World) (a : Act), ConInv w3 w3.heap.size w5.heap.size l { rec with state := .busy } os (k + 1) WC → Blk WC (w3.heap.size + 1) 9 #[s] →
    roundPost Tryz.prog l (fun e W' => e = .returned (.bool true) ∧ ConInv w3 w3.heap.size w5.heap.size l rec os (k + 1) W' ∧ Blk W' (w3.heap.size + 1) 9 #[s]) .normal a WC := by
   intro WC a hi' hb'
   have h0 := hi'.put (by omega) (by omega) { { rec with state := .busy } with state := .ready, pending := none }
   refine ⟨_, _, run_endRound none hi'.lp, rfl, ?_, hb'.grown (grownBy_putObj' WC l _) (fun e => Obj_cells_ne hb' hi'.lp rfl (by cases e; rfl))⟩
   exact ⟨h0.fr, h0.o, h0.df, h0.lp.trans (congrArg some (congrArg Obj.loop hrec))⟩
  obtain ⟨rb, hrb⟩ : ∃ r : Loop, { rec with state := .busy } = r := ⟨_, rfl⟩
  rw [hrb] at hiB fin
  have hkl : k < ls0.length := (List.getElem?_eq_some_iff.1 hx).1
  obtain ⟨o, ho⟩ : ∃ o, os[k]? = some o := ⟨_, List.getElem?_eq_getElem (by omega)⟩
  have hxl : x.length ≤ 1000000 := by
   have h1 := textL_drop_len ls0 k
   rw [textL_drop ls0 k hkl, show ls0[k] = x from (List.getElem?_eq_some_iff.1 hx).2] at h1
   simp at h1
   omega
  have hout : textL (os.take (k + 1)) = textL (os.take k) ++ (o ++ [10]) := by
   have hko : k < os.length := by omega
   rw [List.take_succ_eq_append_getElem hko, show os[k] = o from (List.getElem?_eq_some_iff.1 ho).2]
   simp [textL]
  have hol := textL_take_len os (k + 1)
  rw [hout] at hol
  simp only [List.length_append, List.length_cons, List.length_nil] at hol
  have hC1 : (⟨o.toArray⟩ : ByteArray) ++ (⟨#[10]⟩ : ByteArray) = ⟨(o ++ [10]).toArray⟩ := str_add o [10]
  have hC2 := str_add (textL (os.take k)) (o ++ [10])
  have HO := Lib.hid hout
  have HC1 := Lib.hid hC1
  have HC2 := Lib.hid hC2
  clear hC1 hC2
  have hAn := fun WX (hb : Below w3.heap.size w3 WX) => HA.out g gs B1 B2 B3 B4 B5 B6 k1 k2 k3 k4 k5 k6 D dc WX (hD3.out.keep hb) (fr_call hb03 hb) k x o hx ho
  have hfB := hiB.fr
  have hoB := hiB.o
  have hdB := hiB.df
  have hlp := hiB.lp
  generalize textL (os.take k) = ot at *
  clear hi hiB hout hx ho hrec hst hpe hfn htm hpa has hbod hBsW hD1 hL1 hb51 hBo5 hBs h0 hW1 hrb
  gi_wp2
  have hbz := fr_drew (fr_refl WB)
  have hkS : ∀ W', Below WB.heap.size WB W' → W'.cell? ⟨bd, 0, none⟩ = some (.pointer (some ⟨g, 0, none⟩)) := fun W' hb => (hBd.keep (fr_call hfB hb)).cell 0
  have hBo := hoB.keep hbz
  refine wpIn_region_round (S := fun W' => W'.cell? ⟨bd, 0, none⟩ = some (.pointer (some ⟨g, 0, none⟩))) (by kernel_rfl) (fun ⟨_, _, h⟩ => h) (by kernel_rfl) (hkS _ hbz) (fun hHeld => ?_)
  generalize WB.drew = wz at hbz hHeld hBo ⊢
  -- the region, step by step, in whatever order
  refine tkH 1 ⟨some 32, .load 38 (.tmp 6), 38, "text.go:191", #[], none⟩ hHeld ?_
  refine tkH 2 ⟨some 33, .move (.tmp 9), 9, "text.go:191", #[], none⟩ hHeld ?_
  refine wpAnyH_ready (rs := [0, 3]) (by kernel_rfl) (by simp) ?_
  refine (AllReadyH.cons (o := ⟨some 31, .load 9 (.tmp 8), 9, "text.go:191", #[], none⟩) rfl (fun K hK => ?_) (AllReadyH.cons (o := ⟨some 34, .call { callee := .value (.func 87), args := #[.tmp 33, .const (.string { data := #[10] })], argTypes := #[9, 9] }, 9, "text.go:191", #[⟨2, .data⟩], none⟩) rfl (fun K hK => ?_) AllReadyH.nil))
  ·rw [if_pos (by rfl)]
   have hc5 := hBo.cell 0
   go_simp
   refine hK.out _ _ (hkS _ hbz) (fun hHeld => ?_)
   clear hK K
   (try simp only [Act.put, List.setIfInBounds_toArray, List.set_cons_zero, List.set_cons_succ])
   refine rdH 3 ⟨some 34, .call { callee := .value (.func 87), args := #[.tmp 33, .const (.string { data := #[10] })], argTypes := #[9, 9] }, 9, "text.go:191", #[⟨2, .data⟩], none⟩ fun K hK => ?_
   go_simp
   refine (trim_is x wz hxl).mono ?_
   rintro e wz ⟨rfl, rfl⟩
   refine hK.out _ _ (hkS _ hbz) (fun hHeld => ?_)
   clear hK K
   (try simp only [Act.put, List.setIfInBounds_toArray, List.set_cons_zero, List.set_cons_succ])
   refine rdH 4 ⟨some 35, .call { callee := .value (.func 86), args := #[.tmp 32, .tmp 34], argTypes := #[38, 9] }, 9, "text.go:191", #[⟨1, .data⟩, ⟨3, .data⟩, ⟨3, .chain⟩], none⟩ fun K hK => ?_
   go_simp
   refine (hAn wz (fr_call hfB hbz)).mono ?_
   rintro e wz ⟨rfl, hb1⟩
   replace hbz := fr_call hbz hb1
   replace hBo := hBo.keep hb1
   refine hK.out _ _ (hkS _ hbz) (fun hHeld => ?_)
   clear hK K
   (try simp only [Act.put, List.setIfInBounds_toArray, List.set_cons_zero, List.set_cons_succ])
   refine rdH 5 ⟨some 36, .binOp .add 9 (.tmp 35) (.const (.string { data := #[10] })) 9, 9, "text.go:191", #[⟨4, .data⟩], none⟩ fun K hK => ?_
   go_simp
   rw [if_neg (by omega), HC1.out]
   go_simp
   refine hK.out _ _ (hkS _ hbz) (fun hHeld => ?_)
   clear hK K
   (try simp only [Act.put, List.setIfInBounds_toArray, List.set_cons_zero, List.set_cons_succ])
   refine rdH 6 ⟨some 37, .binOp .add 9 (.tmp 31) (.tmp 36) 9, 9, "text.go:191", #[⟨0, .data⟩, ⟨5, .data⟩], none⟩ fun K hK => ?_
   go_simp
   rw [if_neg (by omega), HC2.out]
   go_simp
   refine hK.out _ _ (hkS _ hbz) (fun hHeld => ?_)
   clear hK K
   (try simp only [Act.put, List.setIfInBounds_toArray, List.set_cons_zero, List.set_cons_succ])
   refine rdH 7 ⟨none, .store 9 (.tmp 8) (.tmp 37), 0, "text.go:191", #[⟨6, .data⟩, ⟨4, .chain⟩, ⟨0, .phase⟩, ⟨1, .phase⟩, ⟨2, .phase⟩, ⟨3, .phase⟩, ⟨4, .phase⟩, ⟨5, .phase⟩, ⟨6, .phase⟩], none⟩ fun K hK => ?_
   have hcz := hBo.cell 0
   have hfz := hBo.frozen 0
   go_simp
   have hB3 := hBo.set_ 0 (.string ⟨(ot ++ (o ++ [10])).toArray⟩)
   have hgs := grown_set wz ⟨w3.heap.size, 0, none⟩ (.string ⟨(ot ++ (o ++ [10])).toArray⟩)
   refine hK.out _ _ (((hBd.keep (fr_call hfB hbz)).grown hgs (by simp; omega)).cell 0) (fun hHeld => ?_)
   clear hK K
   refine wpAnyH_done (by kernel_rfl) ?_ _
   have hDz := (hbz.block _ (Array.getElem?_eq_some_iff.1 hdB).1).trans hdB
   have hLz := (hbz.block _ (Array.getElem?_eq_some_iff.1 hlp).1).trans hlp
   have hDf := heap_setO hBo hDz rfl (.string ⟨(ot ++ (o ++ [10])).toArray⟩) (i := 0)
   have hLf := heap_setO hBo hLz rfl (.string ⟨(ot ++ (o ++ [10])).toArray⟩) (i := 0)
   have hBs3 := (hBsB.keep hbz).grown hgs (by simp)
   have hfr3 := (fr_call hfB hbz).grown hgs (fr_call hfB hbz).size (by intro k hk; cases hk; exact Nat.le_refl _)
   have hfinal := fun a => fin _ a ⟨hfr3, by rw [HO.out]; exact hB3, hDf, hLf⟩ hBs3
   gi_wp2
  ·rw [if_pos (by rfl)]
   go_simp
   refine (trim_is x wz hxl).mono ?_
   rintro e wz ⟨rfl, rfl⟩
   refine hK.out _ _ (hkS _ hbz) (fun hHeld => ?_)
   clear hK K
   (try simp only [Act.put, List.setIfInBounds_toArray, List.set_cons_zero, List.set_cons_succ])
   refine wpAnyH_ready (rs := [0, 4]) (by kernel_rfl) (by simp) ?_
   refine (AllReadyH.cons (o := ⟨some 31, .load 9 (.tmp 8), 9, "text.go:191", #[], none⟩) rfl (fun K hK => ?_) (AllReadyH.cons (o := ⟨some 35, .call { callee := .value (.func 86), args := #[.tmp 32, .tmp 34], argTypes := #[38, 9] }, 9, "text.go:191", #[⟨1, .data⟩, ⟨3, .data⟩, ⟨3, .chain⟩], none⟩) rfl (fun K hK => ?_) AllReadyH.nil))
   ·rw [if_pos (by rfl)]
    have hc5 := hBo.cell 0
    go_simp
    refine hK.out _ _ (hkS _ hbz) (fun hHeld => ?_)
    clear hK K
    (try simp only [Act.put, List.setIfInBounds_toArray, List.set_cons_zero, List.set_cons_succ])
    refine rdH 4 ⟨some 35, .call { callee := .value (.func 86), args := #[.tmp 32, .tmp 34], argTypes := #[38, 9] }, 9, "text.go:191", #[⟨1, .data⟩, ⟨3, .data⟩, ⟨3, .chain⟩], none⟩ fun K hK => ?_
    go_simp
    refine (hAn wz (fr_call hfB hbz)).mono ?_
    rintro e wz ⟨rfl, hb1⟩
    replace hbz := fr_call hbz hb1
    replace hBo := hBo.keep hb1
    refine hK.out _ _ (hkS _ hbz) (fun hHeld => ?_)
    clear hK K
    (try simp only [Act.put, List.setIfInBounds_toArray, List.set_cons_zero, List.set_cons_succ])
    refine rdH 5 ⟨some 36, .binOp .add 9 (.tmp 35) (.const (.string { data := #[10] })) 9, 9, "text.go:191", #[⟨4, .data⟩], none⟩ fun K hK => ?_
    go_simp
    rw [if_neg (by omega), HC1.out]
    go_simp
    refine hK.out _ _ (hkS _ hbz) (fun hHeld => ?_)
    clear hK K
    (try simp only [Act.put, List.setIfInBounds_toArray, List.set_cons_zero, List.set_cons_succ])
    refine rdH 6 ⟨some 37, .binOp .add 9 (.tmp 31) (.tmp 36) 9, 9, "text.go:191", #[⟨0, .data⟩, ⟨5, .data⟩], none⟩ fun K hK => ?_
    go_simp
    rw [if_neg (by omega), HC2.out]
    go_simp
    refine hK.out _ _ (hkS _ hbz) (fun hHeld => ?_)
    clear hK K
    (try simp only [Act.put, List.setIfInBounds_toArray, List.set_cons_zero, List.set_cons_succ])
    refine rdH 7 ⟨none, .store 9 (.tmp 8) (.tmp 37), 0, "text.go:191", #[⟨6, .data⟩, ⟨4, .chain⟩, ⟨0, .phase⟩, ⟨1, .phase⟩, ⟨2, .phase⟩, ⟨3, .phase⟩, ⟨4, .phase⟩, ⟨5, .phase⟩, ⟨6, .phase⟩], none⟩ fun K hK => ?_
    have hcz := hBo.cell 0
    have hfz := hBo.frozen 0
    go_simp
    have hB3 := hBo.set_ 0 (.string ⟨(ot ++ (o ++ [10])).toArray⟩)
    have hgs := grown_set wz ⟨w3.heap.size, 0, none⟩ (.string ⟨(ot ++ (o ++ [10])).toArray⟩)
    refine hK.out _ _ (((hBd.keep (fr_call hfB hbz)).grown hgs (by simp; omega)).cell 0) (fun hHeld => ?_)
    clear hK K
    refine wpAnyH_done (by kernel_rfl) ?_ _
    have hDz := (hbz.block _ (Array.getElem?_eq_some_iff.1 hdB).1).trans hdB
    have hLz := (hbz.block _ (Array.getElem?_eq_some_iff.1 hlp).1).trans hlp
    have hDf := heap_setO hBo hDz rfl (.string ⟨(ot ++ (o ++ [10])).toArray⟩) (i := 0)
    have hLf := heap_setO hBo hLz rfl (.string ⟨(ot ++ (o ++ [10])).toArray⟩) (i := 0)
    have hBs3 := (hBsB.keep hbz).grown hgs (by simp)
    have hfr3 := (fr_call hfB hbz).grown hgs (fr_call hfB hbz).size (by intro k hk; cases hk; exact Nat.le_refl _)
    have hfinal := fun a => fin _ a ⟨hfr3, by rw [HO.out]; exact hB3, hDf, hLf⟩ hBs3
    gi_wp2
   ·rw [if_pos (by rfl)]
    go_simp
    refine (hAn wz (fr_call hfB hbz)).mono ?_
    rintro e wz ⟨rfl, hb1⟩
    replace hbz := fr_call hbz hb1
    replace hBo := hBo.keep hb1
    refine hK.out _ _ (hkS _ hbz) (fun hHeld => ?_)
    clear hK K
    (try simp only [Act.put, List.setIfInBounds_toArray, List.set_cons_zero, List.set_cons_succ])
    refine wpAnyH_ready (rs := [0, 5]) (by kernel_rfl) (by simp) ?_
    refine (AllReadyH.cons (o := ⟨some 31, .load 9 (.tmp 8), 9, "text.go:191", #[], none⟩) rfl (fun K hK => ?_) (AllReadyH.cons (o := ⟨some 36, .binOp .add 9 (.tmp 35) (.const (.string { data := #[10] })) 9, 9, "text.go:191", #[⟨4, .data⟩], none⟩) rfl (fun K hK => ?_) AllReadyH.nil))
    ·rw [if_pos (by rfl)]
     have hc5 := hBo.cell 0
     go_simp
     refine hK.out _ _ (hkS _ hbz) (fun hHeld => ?_)
     clear hK K
     (try simp only [Act.put, List.setIfInBounds_toArray, List.set_cons_zero, List.set_cons_succ])
     refine rdH 5 ⟨some 36, .binOp .add 9 (.tmp 35) (.const (.string { data := #[10] })) 9, 9, "text.go:191", #[⟨4, .data⟩], none⟩ fun K hK => ?_
     go_simp
     rw [if_neg (by omega), HC1.out]
     go_simp
     refine hK.out _ _ (hkS _ hbz) (fun hHeld => ?_)
     clear hK K
     (try simp only [Act.put, List.setIfInBounds_toArray, List.set_cons_zero, List.set_cons_succ])
     refine rdH 6 ⟨some 37, .binOp .add 9 (.tmp 31) (.tmp 36) 9, 9, "text.go:191", #[⟨0, .data⟩, ⟨5, .data⟩], none⟩ fun K hK => ?_
     go_simp
     rw [if_neg (by omega), HC2.out]
     go_simp
     refine hK.out _ _ (hkS _ hbz) (fun hHeld => ?_)
     clear hK K
     (try simp only [Act.put, List.setIfInBounds_toArray, List.set_cons_zero, List.set_cons_succ])
     refine rdH 7 ⟨none, .store 9 (.tmp 8) (.tmp 37), 0, "text.go:191", #[⟨6, .data⟩, ⟨4, .chain⟩, ⟨0, .phase⟩, ⟨1, .phase⟩, ⟨2, .phase⟩, ⟨3, .phase⟩, ⟨4, .phase⟩, ⟨5, .phase⟩, ⟨6, .phase⟩], none⟩ fun K hK => ?_
     have hcz := hBo.cell 0
     have hfz := hBo.frozen 0
     go_simp
     have hB3 := hBo.set_ 0 (.string ⟨(ot ++ (o ++ [10])).toArray⟩)
     have hgs := grown_set wz ⟨w3.heap.size, 0, none⟩ (.string ⟨(ot ++ (o ++ [10])).toArray⟩)
     refine hK.out _ _ (((hBd.keep (fr_call hfB hbz)).grown hgs (by simp; omega)).cell 0) (fun hHeld => ?_)
     clear hK K
     refine wpAnyH_done (by kernel_rfl) ?_ _
     have hDz := (hbz.block _ (Array.getElem?_eq_some_iff.1 hdB).1).trans hdB
     have hLz := (hbz.block _ (Array.getElem?_eq_some_iff.1 hlp).1).trans hlp
     have hDf := heap_setO hBo hDz rfl (.string ⟨(ot ++ (o ++ [10])).toArray⟩) (i := 0)
     have hLf := heap_setO hBo hLz rfl (.string ⟨(ot ++ (o ++ [10])).toArray⟩) (i := 0)
     have hBs3 := (hBsB.keep hbz).grown hgs (by simp)
     have hfr3 := (fr_call hfB hbz).grown hgs (fr_call hfB hbz).size (by intro k hk; cases hk; exact Nat.le_refl _)
     have hfinal := fun a => fin _ a ⟨hfr3, by rw [HO.out]; exact hB3, hDf, hLf⟩ hBs3
     gi_wp2
    ·rw [if_pos (by rfl)]
     go_simp
     rw [if_neg (by omega), HC1.out]
     go_simp
     refine hK.out _ _ (hkS _ hbz) (fun hHeld => ?_)
     clear hK K
     (try simp only [Act.put, List.setIfInBounds_toArray, List.set_cons_zero, List.set_cons_succ])
     refine rdH 0 ⟨some 31, .load 9 (.tmp 8), 9, "text.go:191", #[], none⟩ fun K hK => ?_
     have hc5 := hBo.cell 0
     go_simp
     refine hK.out _ _ (hkS _ hbz) (fun hHeld => ?_)
     clear hK K
     (try simp only [Act.put, List.setIfInBounds_toArray, List.set_cons_zero, List.set_cons_succ])
     refine rdH 6 ⟨some 37, .binOp .add 9 (.tmp 31) (.tmp 36) 9, 9, "text.go:191", #[⟨0, .data⟩, ⟨5, .data⟩], none⟩ fun K hK => ?_
     go_simp
     rw [if_neg (by omega), HC2.out]
     go_simp
     refine hK.out _ _ (hkS _ hbz) (fun hHeld => ?_)
     clear hK K
     (try simp only [Act.put, List.setIfInBounds_toArray, List.set_cons_zero, List.set_cons_succ])
     refine rdH 7 ⟨none, .store 9 (.tmp 8) (.tmp 37), 0, "text.go:191", #[⟨6, .data⟩, ⟨4, .chain⟩, ⟨0, .phase⟩, ⟨1, .phase⟩, ⟨2, .phase⟩, ⟨3, .phase⟩, ⟨4, .phase⟩, ⟨5, .phase⟩, ⟨6, .phase⟩], none⟩ fun K hK => ?_
     have hcz := hBo.cell 0
     have hfz := hBo.frozen 0
     go_simp
     have hB3 := hBo.set_ 0 (.string ⟨(ot ++ (o ++ [10])).toArray⟩)
     have hgs := grown_set wz ⟨w3.heap.size, 0, none⟩ (.string ⟨(ot ++ (o ++ [10])).toArray⟩)
     refine hK.out _ _ (((hBd.keep (fr_call hfB hbz)).grown hgs (by simp; omega)).cell 0) (fun hHeld => ?_)
     clear hK K
     refine wpAnyH_done (by kernel_rfl) ?_ _
     have hDz := (hbz.block _ (Array.getElem?_eq_some_iff.1 hdB).1).trans hdB
     have hLz := (hbz.block _ (Array.getElem?_eq_some_iff.1 hlp).1).trans hlp
     have hDf := heap_setO hBo hDz rfl (.string ⟨(ot ++ (o ++ [10])).toArray⟩) (i := 0)
     have hLf := heap_setO hBo hLz rfl (.string ⟨(ot ++ (o ++ [10])).toArray⟩) (i := 0)
     have hBs3 := (hBsB.keep hbz).grown hgs (by simp)
     have hfr3 := (fr_call hfB hbz).grown hgs (fr_call hfB hbz).size (by intro k hk; cases hk; exact Nat.le_refl _)
     have hfinal := fun a => fin _ a ⟨hfr3, by rw [HO.out]; exact hB3, hDf, hLf⟩ hBs3
     gi_wp2
 refine CallsIn.mono (callsIn_wide.2 ((callsIn_wide (n := 6)).1 (lines1_in 5 l (w3.heap.size + 1) ls0 hls _ (by omega) (fun k W W' h hx => h.exc hx (by omega) (by omega) (by omega) (by omega)) hY W1 h0 (by rw [HS.out]; exact hBs.keep hb51)))) ?_
 rintro e W ⟨⟨v, rfl⟩, hi⟩
 have hi4 := hi.put (by omega) (by omega) { rec with state := .exhausted, pending := none }
 refine ⟨_, _, run_endLoop hi.lp (by rw [hst]; simp), ?_⟩
 rw [hpe]
 have hD4 := hi4.df
 have hF4 := fr_call hb03 hi4.fr
 have hO4 := hi4.o
 rw [hlo, List.take_length] at hO4
 have hcn := hO4.cell 0
 have hs45 := hi4.fr.size
 clear hi hi4 hY h0 hBs hBo5 hb51 hL1 hD1
 generalize W.putObj l (.loop { rec with state := .exhausted, pending := none }) = W4 at *
 go_wp2_with fail
 refine ⟨by simp, .inl ⟨_, _, rfl, run_takeDeferred hD4, ?_⟩⟩
 have hg6 := grownBy_putObj' W4 w5.heap.size (.deferred none)
 have hs03 := hb03.size
 exact ⟨_, results_tmp2 rfl _ _ _, rfl, hF4.grown hg6 hF4.size (by intro k hk; cases hk; omega)⟩
end Go.Proofs.YtdocgmafbacjcaaGreatDoor
end

section
namespace Go.Proofs.YtdocgmafbacjcaaGreatDoor
open Go.RowKit Go.Shelf

theorem rd_blk {w : World} {g : Nat} {xs : List Int} (h : Blk w g 3 (xs.map (Value.int .i64)).toArray) : Rd w (some ⟨g, 0, none⟩) xs.length xs := by
 refine ⟨rfl, fun hn => ⟨_, rfl, h.lt, fun j hj => ?_⟩⟩
 rw [add_lit, Nat.zero_add, h.cell, List.getElem?_toArray, List.getElem?_map, List.getElem?_eq_getElem hj]
 rfl
set_option maxHeartbeats 1000000 in
theorem pair_is (a b : Int) (w : World) : Calls Tryz.prog 159 #[.int .i64 a, .int .i64 b] w fun e w' => e = .returned (.agg #[.int .i64 a, .int .i64 b]) ∧ Below w.heap.size w w' := by
 go_enter Tryz.func159, Tryz.ntmps159
 go_wp2_with fail
 refine bodyPost_ret (results_blk1 rfl _ _ _ _ rfl (Blk.new w _ _) Tryz.underlying130 rfl (by kernel_rfl)) rfl ?_
 exact ⟨rfl, fr_alloc (fr_refl _) _⟩
def sLs : List Lk := [⟨0, ⟨10, 20⟩⟩, ⟨1, ⟨12, 18⟩⟩, ⟨1, ⟨15, 10⟩⟩]
def sHs : List Int := [2, 3]
def sTg : List (Int × Int) := [(1, 3), (1499, 2000)]
def sHo : List Int := [15, 21, 27]
def sCy : List Int := [4]
def sFe : List Feast := [⟨true, 0, 0, 0⟩, ⟨false, 1, 6, 0⟩]
set_option maxRecDepth 100000 in
set_option maxHeartbeats 4000000 in
theorem law9P_is (w : World) : Calls Tryz.prog 88 #[] w fun e w' => ∃ g1 g2, e = .returned (.agg #[.slice (some ⟨g1, 0, none⟩) 3 3, .slice (some ⟨g2, 0, none⟩) 2 2]) ∧ RdS w' (some ⟨g1, 0, none⟩) 3 (sLs.map Lk.cells) ∧ Rd w' (some ⟨g2, 0, none⟩) 2 sHs ∧ (w.heap.size ≤ g1 ∧ w.heap.size ≤ g2) ∧ Below w.heap.size w w' := by
 have hb0 := fr_alloc (fr_refl w) (.cells #[.slice none 0 0, .slice none 0 0] 25)
 have hZ := Blk.new w 25 #[.slice none 0 0, .slice none 0 0]
 obtain ⟨w1, hw1⟩ : ∃ w1, w.alloc (.cells #[.slice none 0 0, .slice none 0 0] 25) = w1 := ⟨_, rfl⟩
 rw [hw1] at hb0 hZ
 have hs0 := hb0.size
 go_enter Tryz.func88, Tryz.ntmps88
 go_upto_region 1 with (fail)
 (try rw [hw1])
 clear hw1
 go_wp2_with fail
 refine (pair_is _ _ _).mono ?_
 rintro e w2 ⟨rfl, hb2⟩
 go_wp2_with fail
 refine (pair_is _ _ _).mono ?_
 rintro e w3 ⟨rfl, hb3⟩
 replace hb3 := fr_call hb2 hb3
 go_wp2_with fail
 refine (pair_is _ _ _).mono ?_
 rintro e w4 ⟨rfl, hb4⟩
 replace hb4 := fr_call hb3 hb4
 have hZ4 := (hZ.keep hb4).alloc (.cells #[.int .i64 0, .int .i64 10, .int .i64 20, .int .i64 1, .int .i64 12, .int .i64 18, .int .i64 1, .int .i64 15, .int .i64 10] 132)
 replace hZ4 := hZ4.alloc (.cells #[.int .i64 2, .int .i64 3] 3)
 have hL : Blk ((w4.alloc (.cells #[.int .i64 0, .int .i64 10, .int .i64 20, .int .i64 1, .int .i64 12, .int .i64 18, .int .i64 1, .int .i64 15, .int .i64 10] 132)).alloc (.cells #[.int .i64 2, .int .i64 3] 3)) w4.heap.size 132 _ := (Blk.new w4 _ _).alloc _
 have hH : Blk ((w4.alloc (.cells #[.int .i64 0, .int .i64 10, .int .i64 20, .int .i64 1, .int .i64 12, .int .i64 18, .int .i64 1, .int .i64 15, .int .i64 10] 132)).alloc (.cells #[.int .i64 2, .int .i64 3] 3)) (w4.heap.size + 1) 3 _ := Blk.new_at _ _ (by simp)
 have hs4 := hb4.size
 go_wp2_with (refine wpList_store_blk rfl _ _ _ rfl w.heap.size 25 _ _ rfl rfl hZ4 rfl (by kernel_rfl) (by simp [Value.oneCell']) ?_; intro w6 hQ hgQ)
 refine bodyPost_ret (results_blk1 rfl _ _ _ _ rfl hQ Tryz.underlying25 rfl (by kernel_rfl)) rfl ?_
 have hlZ := hZ.lt
 have hL2 := hL.grown hgQ (by intro e; have := Option.some.inj e; omega)
 have hH2 := hH.grown hgQ (by intro e; have := Option.some.inj e; omega)
 have hb6 := fr_alloc (fr_alloc (fr_call hb0 hb4) (.cells #[.int .i64 0, .int .i64 10, .int .i64 20, .int .i64 1, .int .i64 12, .int .i64 18, .int .i64 1, .int .i64 15, .int .i64 10] 132)) (.cells #[.int .i64 2, .int .i64 3] 3)
 exact ⟨_, _, rfl, rdS_blk hL2 (by decide) rfl, rd_blk (xs := sHs) hH2, ⟨by omega, by omega⟩, hb6.grown hgQ hb6.size (by intro k hk; cases hk; exact Nat.le_refl _)⟩
set_option maxRecDepth 100000 in
set_option maxHeartbeats 4000000 in
theorem law2D_is (w : World) : Calls Tryz.prog 89 #[] w fun e w' => ∃ g, e = .returned (.agg #[.int .i64 40, .slice (some ⟨g, 0, none⟩) 3 3]) ∧ Rd w' (some ⟨g, 0, none⟩) 3 sHo ∧ w.heap.size ≤ g ∧ Below w.heap.size w w' := by
 go_enter Tryz.func89, Tryz.ntmps89
 go_wp2_with fail
 refine bodyPost_ret (results_blk1 rfl _ _ _ _ rfl ((Blk.new w _ _).alloc _) Tryz.underlying28 rfl (by kernel_rfl)) rfl ?_
 exact ⟨_, rfl, rd_blk (xs := sHo) (Blk.new_at _ _ (by simp)), by simp, fr_alloc (fr_alloc (fr_refl w) _) _⟩
set_option maxRecDepth 100000 in
set_option maxHeartbeats 4000000 in
theorem law6O_is (w : World) : Calls Tryz.prog 90 #[] w fun e w' => ∃ g, e = .returned (.agg #[.int .i64 0, .slice (some ⟨g, 0, none⟩) 1 1]) ∧ Rd w' (some ⟨g, 0, none⟩) 1 sCy ∧ w.heap.size ≤ g ∧ Below w.heap.size w w' := by
 go_enter Tryz.func90, Tryz.ntmps90
 go_wp2_with fail
 refine bodyPost_ret (results_blk1 rfl _ _ _ _ rfl ((Blk.new w _ _).alloc _) Tryz.underlying30 rfl (by kernel_rfl)) rfl ?_
 exact ⟨_, rfl, rd_blk (xs := sCy) (Blk.new_at _ _ (by simp)), by simp, fr_alloc (fr_alloc (fr_refl w) _) _⟩
set_option maxRecDepth 100000 in
set_option maxHeartbeats 4000000 in
theorem law6M_is (w : World) : Calls Tryz.prog 91 #[] w fun e w' => e = .returned (.agg #[.int .i64 59, .int .i64 2, .int .i64 0]) ∧ Below w.heap.size w w' := by
 go_enter Tryz.func91, Tryz.ntmps91
 go_wp2_with fail
 refine bodyPost_ret (results_blk1 rfl _ _ _ _ rfl (Blk.new w _ _) Tryz.underlying32 rfl (by kernel_rfl)) rfl ?_
 exact ⟨rfl, fr_alloc (fr_refl w) _⟩
end Go.Proofs.YtdocgmafbacjcaaGreatDoor
end

section
namespace Go.Proofs.YtdocgmafbacjcaaGreatDoor
open Go.RowKit Go.Shelf

set_option maxRecDepth 100000 in
set_option maxHeartbeats 8000000 in
theorem law10Suite_is (w : World) : Calls Tryz.prog 27 #[] w fun e w' => ∃ g1 g2 g3 g4 g5 g6, e = .returned (.agg #[.slice (some ⟨g1, 0, none⟩) 3 3, .slice (some ⟨g2, 0, none⟩) 2 2, .slice (some ⟨g3, 0, none⟩) 2 2, .int .i64 100, .int .i64 40, .slice (some ⟨g4, 0, none⟩) 3 3, .int .i64 0, .slice (some ⟨g5, 0, none⟩) 1 1, .int .i64 59, .int .i64 2, .int .i64 0, .slice (some ⟨g6, 0, none⟩) 2 2, .int .i64 1, .int .i64 3, .int .i64 6, .int .i64 4, .int .i64 10]) ∧ SuAt w' (some ⟨g1, 0, none⟩) (some ⟨g2, 0, none⟩) (some ⟨g3, 0, none⟩) (some ⟨g4, 0, none⟩) (some ⟨g5, 0, none⟩) (some ⟨g6, 0, none⟩) 3 2 3 1 2 sLs sHs sTg sHo sCy sFe ∧ Below w.heap.size w w' := by
 have hb0 := fr_alloc (fr_refl w) (.cells #[.slice none 0 0, .slice none 0 0, .slice none 0 0, .int .i64 0, .int .i64 0, .slice none 0 0, .int .i64 0, .slice none 0 0, .int .i64 0, .int .i64 0, .int .i64 0, .slice none 0 0, .int .i64 0, .int .i64 0, .int .i64 0, .int .i64 0, .int .i64 0] 35)
 have hZ := Blk.new w 35 #[.slice none 0 0, .slice none 0 0, .slice none 0 0, .int .i64 0, .int .i64 0, .slice none 0 0, .int .i64 0, .slice none 0 0, .int .i64 0, .int .i64 0, .int .i64 0, .slice none 0 0, .int .i64 0, .int .i64 0, .int .i64 0, .int .i64 0, .int .i64 0]
 obtain ⟨w1, hw1⟩ : ∃ w1, w.alloc (.cells #[.slice none 0 0, .slice none 0 0, .slice none 0 0, .int .i64 0, .int .i64 0, .slice none 0 0, .int .i64 0, .slice none 0 0, .int .i64 0, .int .i64 0, .int .i64 0, .slice none 0 0, .int .i64 0, .int .i64 0, .int .i64 0, .int .i64 0, .int .i64 0] 35) = w1 := ⟨_, rfl⟩
 rw [hw1] at hb0 hZ
 have hs0 := hb0.size
 have hlZ := hZ.lt
 go_enter Tryz.func27, Tryz.ntmps27
 go_upto_region 1 with (fail)
 (try rw [hw1])
 clear hw1
 go_wp2_with fail
 refine (law9P_is _).mono ?_
 rintro e w2 ⟨g1, g2, rfl, hr1, hr2, ⟨hg1, hg2⟩, hb2⟩
 have hs2 := hb2.size
 have hbT := fr_alloc (fr_refl w2) (.cells #[.int .i64 1, .int .i64 3, .int .i64 1499, .int .i64 2000] 52)
 have hT := Blk.new w2 52 #[.int .i64 1, .int .i64 3, .int .i64 1499, .int .i64 2000]
 go_wp2_with fail
 refine (law2D_is _).mono ?_
 rintro e w3 ⟨g4, rfl, hr4, hg4, hb3⟩
 simp only [World.size_alloc] at hg4
 replace hr1 := (hr1.keep hbT).keep hb3
 replace hr2 := (hr2.keep hbT).keep hb3
 replace hT := hT.keep hb3
 replace hb3 := fr_call hb2 (fr_call hbT hb3)
 have hs3 := hb3.size
 go_wp2_with fail
 refine (law6O_is _).mono ?_
 rintro e w4 ⟨g5, rfl, hr5, hg5, hb4⟩
 go_wp2_with fail
 refine (law6M_is _).mono ?_
 rintro e w5 ⟨rfl, hb5⟩
 replace hr5 := hr5.keep hb5
 replace hb4 := fr_call hb4 hb5
 replace hr1 := hr1.keep hb4
 replace hr2 := hr2.keep hb4
 replace hr4 := hr4.keep hb4
 replace hT := hT.keep hb4
 replace hb4 := fr_call hb3 hb4
 have hs5 := hb4.size
 have hbF := fr_alloc (fr_refl w5) (.cells #[.bool true, .int .i64 0, .int .i64 0, .int .i64 0, .bool false, .int .i64 1, .int .i64 6, .int .i64 0] 137)
 have hF := Blk.new w5 137 #[.bool true, .int .i64 0, .int .i64 0, .int .i64 0, .bool false, .int .i64 1, .int .i64 6, .int .i64 0]
 have hZ5 := (hZ.keep hb4).keep hbF
 replace hr1 := hr1.keep hbF
 replace hr2 := hr2.keep hbF
 replace hr4 := hr4.keep hbF
 replace hr5 := hr5.keep hbF
 replace hT := hT.keep hbF
 replace hb4 := fr_call hb4 hbF
 have hr3 : RdS _ (some ⟨w2.heap.size, 0, none⟩) 2 (sTg.map ptC) := rdS_blk hT (by decide) rfl
 have hr6 : RdS _ (some ⟨w5.heap.size, 0, none⟩) 4 (sFe.map Feast.row) := rdS_blk hF (by decide) rfl
 have hbt := fr_call hb0 hb4
 clear hT hF hbF hbT hb2 hb3 hb5
 go_wp2_with (refine wpList_store_blk rfl _ _ _ rfl w.heap.size 35 _ _ rfl rfl hZ5 rfl (by kernel_rfl) (by simp [Value.oneCell']) ?_; intro w7 hQ hgQ)
 refine bodyPost_ret (results_blk1 rfl _ _ _ _ rfl hQ Tryz.underlying35 rfl (by kernel_rfl)) rfl ?_
 exact ⟨g1, g2, w2.heap.size, g4, g5, w5.heap.size, rfl, ⟨hr1.far hgQ (by intro ad e; cases e; show g1 ≠ w.heap.size; omega), rfl, hr2.far hgQ (by intro ad e; cases e; show g2 ≠ w.heap.size; omega), hr3.far hgQ (by intro ad e; cases e; show w2.heap.size ≠ w.heap.size; omega), rfl, hr4.far hgQ (by intro ad e; cases e; show g4 ≠ w.heap.size; omega), hr5.far hgQ (by intro ad e; cases e; show g5 ≠ w.heap.size; omega), hr6.far hgQ (by intro ad e; cases e; show w5.heap.size ≠ w.heap.size; omega), rfl⟩, hbt.grown hgQ hbt.size (by intro k hk; cases hk; exact Nat.le_refl _)⟩
theorem sPieceOk : ShopOk sLs sHs := by
 refine ⟨by decide, by decide, ?_, ?_, ?_, ?_⟩
 ·intro i l h
  have hi : i < 3 := (List.getElem?_eq_some_iff.1 h).1
  have h3 : i = 0 ∨ i = 1 ∨ i = 2 := by omega
  rcases h3 with rfl | rfl | rfl <;> (cases h; decide)
 ·intro l hl
  simp only [sLs, List.mem_cons, List.not_mem_nil, or_false] at hl
  rcases hl with rfl | rfl | rfl <;> decide
 ·intro l hl
  simp only [sLs, List.mem_cons, List.not_mem_nil, or_false] at hl
  rcases hl with rfl | rfl | rfl <;> decide
 ·intro h hh
  simp only [sHs, List.mem_cons, List.not_mem_nil, or_false] at hh
  rcases hh with rfl | rfl <;> decide
theorem su_ok : SuOk 3 3 2 3 1 2 40 3 6 4 10 100 0 59 2 0 1 sLs sHs sTg sHo sCy sFe where
 piece := sPieceOk
 cap := by decide
 lim := by decide
 wm := by decide
 n4 := by decide
 ho := fun x hx => by
  simp only [sHo, List.mem_cons, List.not_mem_nil, or_false] at hx
  rcases hx with rfl | rfl | rfl <;> decide
 n5 := by decide
 cal := by decide
 moon := by decide
 n6 := by decide
 fe := by decide
 yr := by decide
 br := by decide
 hr := by decide
 wg := by decide
 pc := by decide
 tg := fun f hf => by
  simp only [sTg, List.mem_cons, List.not_mem_nil, or_false] at hf
  rcases hf with rfl | rfl <;> (unfold FrOk; decide)
end Go.Proofs.YtdocgmafbacjcaaGreatDoor
end
