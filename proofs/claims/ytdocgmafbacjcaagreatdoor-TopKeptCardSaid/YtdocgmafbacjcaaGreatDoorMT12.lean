/- Walk, package journeyman: the days of a suite's year. Walk, package journeyman: a desk is opened. Walk, package shop: what all arbors turn by. Plain: texts of lines, words and numbers; what is read of them. Plain: what strings.Split and strings.Cut give, as parts. Walks, package journeyman: words of text; what is given up with; 'try'. Walks, package journeyman: the forms of lines, and what a line has (by gen_yc.py). -/
import Derived.Test.YtdocgmafbacjcaaGreatDoorMT11
import Derived.Test.YtdocgmafbacjcaaGreatDoorMT3
import Derived.Lib.ItoaNum
import Derived.Lib.Join
import Derived.Lib.SplitLaws
import Derived.Lib.IndexMore
import Derived.Lib.LaidTab
import Derived.Sort.Grow
import Derived.Laws.RangeString
import Derived.Laws.RangeAny
import Derived.Defers
import Derived.Recover
import Derived.Laws.Pointers
import Derived.Laws.EntriesVeiled
import Derived.Outline
import Derived.Shelf.SlicesQ.Index
section
namespace Go.Proofs.YtdocgmafbacjcaaGreatDoor
open Go.RowKit Go.Shelf Dl

theorem firstN_bd (e : Int) (cs : List Int) (he : 0 ≤ e ∧ e ≤ 1000) : ∀ k : Nat, 0 ≤ firstN e cs k ∧ firstN e cs k ≤ 1000 + 366 * k
 | 0 => by unfold firstN; omega
 | k + 1 => by
  have ih := firstN_bd e cs he k
  have hy : yearLen cs (k : Int) = 366 ∨ yearLen cs (k : Int) = 365 := by unfold yearLen; split <;> omega
  have e1 : firstN e cs (k + 1) = firstN e cs k + yearLen cs (k : Int) := rfl
  omega
theorem first_bd {e : Int} {cs : List Int} {y : Int} (he : 0 ≤ e ∧ e ≤ 1000) (hy : 0 ≤ y ∧ y ≤ 4000) : 0 ≤ firstDay e cs y ∧ firstDay e cs y ≤ 1465000 := by
 have h := firstN_bd e cs he y.toNat
 unfold firstDay
 omega
theorem day_first (e : Int) (cs : List Int) (y : Int) : dayOf e cs ⟨y, 1, 1⟩ = firstDay e cs y := by
 unfold dayOf
 cases leapB cs y <;> (simp [cum]; try omega)
theorem day_last (e : Int) (cs : List Int) (y : Int) : dayOf e cs ⟨y, 12, 31⟩ = firstDay e cs y + yearLen cs y - 1 := by
 unfold dayOf yearLen
 cases leapB cs y <;> (simp [cum]; try omega)
/-- whether a day is a working day -/
def workB (fs : List Int) (n : Int) : Bool := !((n + 4) % 7 == 0) && !fs.contains n
def dayR (fs : List Int) (n : Int) : List Value := [.int .i64 n, .bool (workB fs n)]
def yearR (fs : List Int) (f : Int) (k : Nat) : List (List Value) := (List.range k).map (fun (i : Nat) => dayR fs (f + (i : Int)))
theorem yearR_succ (fs : List Int) (f : Int) (k : Nat) : yearR fs f (k + 1) = yearR fs f k ++ [dayR fs (f + (k : Int))] := by unfold yearR; rw [List.range_succ, List.map_append]; rfl
theorem yearR_len (fs : List Int) (f : Int) (k : Nat) : (yearR fs f k).length = k := by simp [yearR]
theorem info_day : (Tryz.prog.info? 176).map (fun i => (i.zero, i.size, i.bytes)) = some (some (.agg #[.int .i64 0, .bool false]), 2, 16) := by kernel_rfl
/-- the feasts of a suite's year -/
def feastsY (ep : Int) (cy : List Int) (mn md ma yr : Int) (fe : List Feast) : List Int := fe.map (feastDay ep cy mn md ma yr)
def longY (cy : List Int) (yr : Int) : Nat := (yearLen cy yr).toNat
set_option maxRecDepth 100000 in
set_option maxHeartbeats 16000000 in
theorem year_any (A1 A2 A3 A4 A5 A6 : Option Addr) (n1 c1 n2 c2 c3 n4 c4 n5 c5 n6 c6 wm br hr wg pc : Nat) (lim ep mn md ma yr : Int) (ls : List Lk) (hs : List Int) (tg : List (Int × Int)) (ho cy : List Int) (fe : List Feast) (w : World) (h : SuAt w A1 A2 A3 A4 A5 A6 n1 n2 n4 n5 n6 ls hs tg ho cy fe) (hcal : calOk ep cy = true) (hmoon : moonB mn md ma = true) (hfe : feastsB fe = true) (hyr : inB yr 0 4000 = true) (hbd : n5 ≤ 1000 ∧ n6 ≤ 1000) :
  Calls Tryz.prog 30 #[.agg #[.slice A1 n1 c1, .slice A2 n2 c2, .slice A3 n2 c3, .int .i64 lim, .int .i64 wm, .slice A4 n4 c4, .int .i64 ep, .slice A5 n5 c5, .int .i64 mn, .int .i64 md, .int .i64 ma, .slice A6 n6 c6, .int .i64 yr, .int .i64 br, .int .i64 hr, .int .i64 wg, .int .i64 pc]] w fun e w' => ∃ D dc, e = .returned (.slice D (longY cy yr) dc) ∧ OwnS w' w.heap.size 176 2 (.slice D (longY cy yr) dc) (yearR (feastsY ep cy mn md ma yr fe) (firstDay ep cy yr) (longY cy yr)) ∧ Below w.heap.size w w' := by
 have hb0 := fr_alloc (fr_refl w) (.cells #[.slice A1 n1 c1, .slice A2 n2 c2, .slice A3 n2 c3, .int .i64 lim, .int .i64 wm, .slice A4 n4 c4, .int .i64 ep, .slice A5 n5 c5, .int .i64 mn, .int .i64 md, .int .i64 ma, .slice A6 n6 c6, .int .i64 yr, .int .i64 br, .int .i64 hr, .int .i64 wg, .int .i64 pc] 35)
 have hX := Blk.new w 35 #[.slice A1 n1 c1, .slice A2 n2 c2, .slice A3 n2 c3, .int .i64 lim, .int .i64 wm, .slice A4 n4 c4, .int .i64 ep, .slice A5 n5 c5, .int .i64 mn, .int .i64 md, .int .i64 ma, .slice A6 n6 c6, .int .i64 yr, .int .i64 br, .int .i64 hr, .int .i64 wg, .int .i64 pc]
 obtain ⟨w1, hw1⟩ : ∃ w1, w.alloc (.cells #[.slice A1 n1 c1, .slice A2 n2 c2, .slice A3 n2 c3, .int .i64 lim, .int .i64 wm, .slice A4 n4 c4, .int .i64 ep, .slice A5 n5 c5, .int .i64 mn, .int .i64 md, .int .i64 ma, .slice A6 n6 c6, .int .i64 yr, .int .i64 br, .int .i64 hr, .int .i64 wg, .int .i64 pc] 35) = w1 := ⟨_, rfl⟩
 rw [hw1] at hb0 hX
 replace h := h.keep hb0
 have hcX := fun j => hX.cell j
 have hlX := hX.lt
 have hs0 := hb0.size
 have hy2 := inB_iff.1 hyr
 have hr1 : realB cy yr 1 1 = true := by
  unfold realB
  cases leapB cy yr <;> simp [inB, hy2, mlen] <;> omega
 have hr2 : realB cy yr 12 31 = true := by
  unfold realB
  cases leapB cy yr <;> simp [inB, hy2, mlen] <;> omega
 have K1 := fun W (hb : Below w1.heap.size w1 W) => Day_yes A5 n5 c5 cy ep yr 1 1 W (h.keep hb).r5 (by omega) hcal hr1
 have K2 := fun W (hb : Below w1.heap.size w1 W) => Day_yes A5 n5 c5 cy ep yr 12 31 W (h.keep hb).r5 (by omega) hcal hr2
 have K3 := fun W (hb : Below w1.heap.size w1 W) => Feasts_ok A5 A6 n5 c5 c6 cy ep mn md ma yr fe W (h.keep hb).r5 (by omega) (h.keep hb).r6 (by have := h.l6; omega) hcal hmoon hfe hyr
 rw [h.l6] at K3
 have hfl : (fe.map (feastDay ep cy mn md ma yr)).length = n6 := by rw [List.length_map]; exact h.l6
 rw [hfl] at K3
 rw [day_first] at K1
 rw [day_last] at K2
 have hep := (calOk_parts hcal).1
 have hn6 := hbd.2
 have hfb := first_bd (cs := cy) hep hy2
 have hyl : yearLen cy yr = (longY cy yr : Int) ∧ longY cy yr ≤ 366 ∧ 365 ≤ longY cy yr := by
  unfold longY yearLen
  split <;> omega
 rw [hyl.1] at K2
 have HY : Hid (yearR (feastsY ep cy mn md ma yr fe) (firstDay ep cy yr) = yearR (fe.map (feastDay ep cy mn md ma yr)) (firstDay ep cy yr)) := Lib.hid rfl
 obtain ⟨f, hf⟩ : ∃ f : Nat, firstDay ep cy yr = (f : Int) := ⟨(firstDay ep cy yr).toNat, by omega⟩
 rw [hf] at K1 K2 HY hfb
 obtain ⟨m, hm⟩ : ∃ m, longY cy yr = m := ⟨_, rfl⟩
 rw [hm] at K2 hyl
 have hn6 := hn6
 obtain ⟨fs, hfs⟩ : ∃ fs, fe.map (feastDay ep cy mn md ma yr) = fs := ⟨_, rfl⟩
 rw [hfs] at K3 HY
 have HF := Lib.hid hf
 have HM := Lib.hid hm
 have hfm : f ≤ 1465000 := by omega
 have hmm := hyl.2
 have z1 : IntKind.i64.wrap ((f : Int) + (m : Int) - 1 - (f : Int)) = (m : Int) - 1 := by rw [IntWalk.i64_in _ (by omega)]; omega
 have z2 : IntKind.i64.wrap ((m : Int) - 1 + 1) = (m : Int) := by rw [IntWalk.i64_in _ (by omega)]; omega
 have z3 : IntKind.i64.wrap (m : Int) = (m : Int) := IntWalk.i64_in _ (by omega)
 clear h hcal hmoon hfe hyr hy2 hr1 hr2 hep hfb hyl hf hm hfs hfl hbd
 go_enter Tryz.func30, Tryz.ntmps30
 go_upto_region 1 with (fail)
 (try rw [hw1])
 clear hw1
 go_wp2_with fail
 refine (K1 _ (fr_refl _)).mono ?_
 rintro e w2 ⟨rfl, hb2⟩
 clear K1 hcX
 have hX2 := hX.keep hb2
 have hcX := fun j => hX2.cell j
 have hlX2 := hX2.lt
 go_wp2_with fail
 refine (K2 _ hb2).mono ?_
 rintro e w3 ⟨rfl, hb3⟩
 replace hb3 := fr_call hb2 hb3
 clear K2 hcX
 have hX3 := hX.keep hb3
 have hcX := fun j => hX3.cell j
 have hlX3 := hX3.lt
 go_wp2_with fail
 refine (K3 _ hb3).mono ?_
 rintro e w4 ⟨F, fc, rfl, hF, hb4⟩
 replace hb4 := fr_call hb3 hb4
 clear K3 hcX hlX hlX2 hlX3 hX2 hX3 hX hb2 hb3
 have hs4 := hb4.size
 go_wp2_with fail
 go_loopw [9, 46] (fun v t wr => ∃ j : Nat, j ≤ m ∧ t = .int .i64 j ∧ OwnS wr w4.heap.size 176 2 v (yearR fs f j) ∧ Below w4.heap.size w4 wr) (fun _ t _ => m - (intOf t).toNat)
 case atStart => exact ⟨0, Nat.zero_le _, rfl, OwnS.nil _ _ _ _, fr_refl _⟩
 case round =>
  obtain ⟨j, hj, rfl, hown, hbr⟩ := hrel
  have hsr := hbr.size
  by_cases hlt : j < m
  ·have hFr := hF.keep hbr
   have i1 : (j : Int) < (m : Int) := by omega
   have y1 : IntKind.i64.wrap ((f : Int) + (j : Int)) = ((f + j : Nat) : Int) := by rw [IntWalk.i64_in _ (by omega)]; omega
   obtain ⟨p, hp⟩ : ∃ p, f + j = p := ⟨_, rfl⟩
   have hpb : p ≤ 1466000 := by omega
   have HS := Lib.hid (show yearR fs f (j + 1) = yearR fs f j ++ [dayR fs (p : Int)] from by rw [yearR_succ, ← hp]; rfl)
   rw [hp] at y1
   have y2 : IntKind.i64.wrap ((p : Int) + 4) = ((p + 4 : Nat) : Int) := by rw [IntWalk.i64_in _ (by omega)]; omega
   have y3 : ((p + 4 : Nat) : Int).tmod 7 = (((p + 4) % 7 : Nat) : Int) := rfl
   obtain ⟨q, hq⟩ : ∃ q, (p + 4) % 7 = q := ⟨_, rfl⟩
   obtain ⟨p4, hp4⟩ : ∃ p4, p + 4 = p4 := ⟨_, rfl⟩
   have hqb : q < 7 := by omega
   have y4 : IntKind.i64.wrap (q : Int) = (q : Int) := IntWalk.i64_in _ (by omega)
   have hwk : workB fs (p : Int) = (!(q == 0) && !fs.contains (p : Int)) := by
    unfold workB
    congr 2
    rw [show ((p : Int) + 4) % 7 = (q : Int) from by omega]
    cases q <;> rfl
   have HW := Lib.hid hwk
   rw [hq] at y3
   rw [hp4] at y2 y3
   clear hp hq hp4 hwk hF
   have fin : ∀ (b : Bool), workB fs (p : Int) = b → ∀ (A : Option Addr) (c : Nat) (w7 : World), OwnS w7 w4.heap.size 176 2 (.slice A (j + 1) c) (yearR fs f j ++ [[.int .i64 p, .bool b]]) → OwnS w7 w4.heap.size 176 2 (.slice A (j + 1) c) (yearR fs f (j + 1)) := fun b hb A c w7 ho => by
    rw [HS.out]
    unfold dayR
    rw [hb]
    exact ho
   have FIN := Lib.hid fin
   clear fin HS
   by_cases hq0 : q = 0
   ·have d0 : ((q : Int) != 0) = false := by rw [hq0]; rfl
    have hb0' : workB fs (p : Int) = false := by rw [HW.out, hq0]; rfl
    have HB := Lib.hid hb0'
    clear hq0 hb0' hFr
    go_wp2_with (at_builtin; go_must (refine app_row rfl (.tmp 52) (.tmp 65) rfl Tryz.underlying88 info_day rfl (by omega) (by omega) w4.heap.size _ _ rfl rfl hown (r := [.int .i64 p, .bool false]) rfl (by intro u hu; simp only [List.mem_cons, List.not_mem_nil, or_false] at hu; rcases hu with rfl | rfl <;> rfl) (by rw [yearR_len]; omega) hsr ?_); intro A1 k1 w7 hown7 hg7; rw [yearR_len] at hown7 ⊢)
    refine ⟨⟨j + 1, by omega, by go_num, FIN.out _ HB.out _ _ _ hown7, fr6 hbr _ hg7 hown.ge hsr⟩, ?_⟩
    simp [intOf]; omega
   ·have d0 : ((q : Int) != 0) = true := bne_iff_ne.2 (by omega)
    obtain ⟨b, hb⟩ : ∃ b, fs.contains (p : Int) = b := ⟨_, rfl⟩
    have hct := hasI_any F n6 fc fs (p : Int) wr hFr (by omega) b hb
    have hb0' : workB fs (p : Int) = !b := by rw [HW.out, hb, show (q == 0) = false from by simp [hq0]]; rfl
    have HB := Lib.hid hb0'
    clear hq0 hb0' hb
    go_wp2_with fail
    refine hct.mono ?_
    rintro e w6 ⟨rfl, rfl⟩
    clear hct
    go_wp2_with (at_builtin; go_must (refine app_row rfl (.tmp 52) (.tmp 65) rfl Tryz.underlying88 info_day rfl (by omega) (by omega) w4.heap.size _ _ rfl rfl hown (r := [.int .i64 p, .bool (!b)]) rfl (by intro u hu; simp only [List.mem_cons, List.not_mem_nil, or_false] at hu; rcases hu with rfl | rfl <;> rfl) (by rw [yearR_len]; omega) hsr ?_); intro A1 k1 w7 hown7 hg7; rw [yearR_len] at hown7 ⊢)
    refine ⟨⟨j + 1, by omega, by go_num, FIN.out _ HB.out _ _ _ hown7, fr6 hbr _ hg7 hown.ge hsr⟩, ?_⟩
    simp [intOf]; omega
  ·obtain rfl : j = m := by omega
   obtain ⟨D, dc, rfl⟩ := hown.form
   rw [yearR_len] at hown
   have HL := Lib.hid (show (yearR fs f j).length = j from yearR_len _ _ _)
   go_wp2_with fail
   go_ret
   rw [HL.out, HM.out, HF.out, HY.out]
   exact ⟨D, dc, rfl, own_baseR hown (by omega), fr_call hb0 (fr_call hb4 hbr)⟩
end Go.Proofs.YtdocgmafbacjcaaGreatDoor
end

section
namespace Go.Proofs.YtdocgmafbacjcaaGreatDoor
open Go.RowKit Go.Shelf Dl

theorem wpList_load_blk {P : Program} {ops : Array Oper} {rest : List Oper} {o : Oper} {a : Act} {w : World} {Q : Exit → Act → World → Prop} (hgd : o.guard = none) (ty : TypeId) (x : Operand) (ho : o.op = .load ty x)
  (g : Nat) (hx : a.eval x = .pointer (some ⟨g, 0, none⟩)) (t : TypeId) (cs : Array Value) (hB : Blk w g t cs) {d : TypeDesc} (hu : P.underlying ty = some d) (hd : (match d with | .struct _ | .array _ _ => true | _ => false) = true) (hi : (P.info? ty).map (·.size) = some cs.size)
  (h : wpList P ops Q rest (a.put o.dst (.agg cs)) w) : wpList P ops Q (o :: rest) a w := by
 refine wpList_plain hgd fun K hK' => ?_
 unfold Oper.wp
 unfold execOp
 simp only [ho, hx, Instr.loadAt, Instr.sureAddr, Sem.run_bind, Sem.run_pure, Result.andThen_ok, run_loadVar_row w g t ty cs (0, 0) d hB hu hd hi]
 exact hK' _ _ h
/-- a desk in memory -/
structure DeskAt (W : World) (g gs : Nat) (A1 A2 A3 A4 A5 A6 : Option Addr) (n1 c1 n2 c2 c3 n4 c4 n5 c5 n6 c6 wm br hr wg pc : Nat) (lim ep mn md ma yr : Int) (D : Option Addr) (m dc : Nat) (ev sv : Value) (ls : List Lk) (hs : List Int) (tg : List (Int × Int)) (ho cy : List Int) (fe : List Feast) (fs : List Int) (f : Int) : Prop where
 d : Blk W g 93 #[.pointer (some ⟨gs, 0, none⟩), .slice D m dc, ev, sv]
 s : Blk W gs 35 #[.slice A1 n1 c1, .slice A2 n2 c2, .slice A3 n2 c3, .int .i64 lim, .int .i64 wm, .slice A4 n4 c4, .int .i64 ep, .slice A5 n5 c5, .int .i64 mn, .int .i64 md, .int .i64 ma, .slice A6 n6 c6, .int .i64 yr, .int .i64 br, .int .i64 hr, .int .i64 wg, .int .i64 pc]
 r : SuAt W A1 A2 A3 A4 A5 A6 n1 n2 n4 n5 n6 ls hs tg ho cy fe
 fm : Fm A1 n1 ∧ Fm A2 n2 ∧ Fm A3 n2 ∧ Fm A4 n4 ∧ Fm A5 n5 ∧ Fm A6 n6
 cap : n1 ≤ c1
 days : RdS W D 2 (yearR fs f m)
theorem DeskAt.keep {W W' : World} {g gs : Nat} {A1 A2 A3 A4 A5 A6 : Option Addr} {n1 c1 n2 c2 c3 n4 c4 n5 c5 n6 c6 wm br hr wg pc : Nat} {lim ep mn md ma yr : Int} {D : Option Addr} {m dc : Nat} {ev sv : Value} {ls : List Lk} {hs : List Int} {tg : List (Int × Int)} {ho cy : List Int} {fe : List Feast} {fs : List Int} {f : Int} (h : DeskAt W g gs A1 A2 A3 A4 A5 A6 n1 c1 n2 c2 c3 n4 c4 n5 c5 n6 c6 wm br hr wg pc lim ep mn md ma yr D m dc ev sv ls hs tg ho cy fe fs f) (hb : Below W.heap.size W W') : DeskAt W' g gs A1 A2 A3 A4 A5 A6 n1 c1 n2 c2 c3 n4 c4 n5 c5 n6 c6 wm br hr wg pc lim ep mn md ma yr D m dc ev sv ls hs tg ho cy fe fs f :=
 ⟨h.d.keep hb, h.s.keep hb, h.r.keep hb, h.fm, h.cap, h.days.keep hb⟩
set_option maxRecDepth 100000 in
set_option maxHeartbeats 16000000 in
theorem Open_ok (A1 A2 A3 A4 A5 A6 : Option Addr) (n1 c1 n2 c2 c3 n4 c4 n5 c5 n6 c6 wm br hr wg pc : Nat) (lim ep mn md ma yr : Int) (ls : List Lk) (hs : List Int) (tg : List (Int × Int)) (ho cy : List Int) (fe : List Feast) (w : World) (h : SuAt w A1 A2 A3 A4 A5 A6 n1 n2 n4 n5 n6 ls hs tg ho cy fe) (hok : SuOk n1 c1 n2 n4 n5 n6 wm br hr wg pc lim ep mn md ma yr ls hs tg ho cy fe) (hf1 : Fm A1 n1) (hf2 : Fm A2 n2) (hf3 : Fm A3 n2) (hf4 : Fm A4 n4) (hf5 : Fm A5 n5) (hf6 : Fm A6 n6) (hn2 : n2 ≤ 1000) :
  Calls Tryz.prog 7 #[.agg #[.slice A1 n1 c1, .slice A2 n2 c2, .slice A3 n2 c3, .int .i64 lim, .int .i64 wm, .slice A4 n4 c4, .int .i64 ep, .slice A5 n5 c5, .int .i64 mn, .int .i64 md, .int .i64 ma, .slice A6 n6 c6, .int .i64 yr, .int .i64 br, .int .i64 hr, .int .i64 wg, .int .i64 pc]] w fun e w' => ∃ g gs B1 B2 B3 B4 B5 B6 k1 k2 k3 k4 k5 k6 D dc, e = .returned (.tuple #[.pointer (some ⟨g, 0, none⟩), .int .i64 0]) ∧ DeskAt w' g gs B1 B2 B3 B4 B5 B6 n1 k1 n2 k2 k3 n4 k4 n5 k5 n6 k6 wm br hr wg pc lim ep mn md ma yr D (longY cy yr) dc (.slice none 0 0) (.slice none 0 0) ls hs tg ho cy fe (feastsY ep cy mn md ma yr fe) (firstDay ep cy yr) ∧ w.heap.size ≤ g ∧ Below w.heap.size w w' := by
 have hb0 := fr_alloc (fr_refl w) (.cells #[.slice A1 n1 c1, .slice A2 n2 c2, .slice A3 n2 c3, .int .i64 lim, .int .i64 wm, .slice A4 n4 c4, .int .i64 ep, .slice A5 n5 c5, .int .i64 mn, .int .i64 md, .int .i64 ma, .slice A6 n6 c6, .int .i64 yr, .int .i64 br, .int .i64 hr, .int .i64 wg, .int .i64 pc] 35)
 have hX := Blk.new w 35 #[.slice A1 n1 c1, .slice A2 n2 c2, .slice A3 n2 c3, .int .i64 lim, .int .i64 wm, .slice A4 n4 c4, .int .i64 ep, .slice A5 n5 c5, .int .i64 mn, .int .i64 md, .int .i64 ma, .slice A6 n6 c6, .int .i64 yr, .int .i64 br, .int .i64 hr, .int .i64 wg, .int .i64 pc]
 obtain ⟨w1, hw1⟩ : ∃ w1, w.alloc (.cells #[.slice A1 n1 c1, .slice A2 n2 c2, .slice A3 n2 c3, .int .i64 lim, .int .i64 wm, .slice A4 n4 c4, .int .i64 ep, .slice A5 n5 c5, .int .i64 mn, .int .i64 md, .int .i64 ma, .slice A6 n6 c6, .int .i64 yr, .int .i64 br, .int .i64 hr, .int .i64 wg, .int .i64 pc] 35) = w1 := ⟨_, rfl⟩
 rw [hw1] at hb0 hX
 replace h := h.keep hb0
 have hs0 := hb0.size
 have hn1 : n1 ≤ 1000 := by have := hok.piece.n; have := h.l1; omega
 have hn4 : n4 ≤ 1000 := by have := hok.n4; omega
 have K1 := isSuite_yes A1 A2 A3 A4 A5 A6 n1 c1 n2 c2 c3 n4 c4 n5 c5 n6 c6 wm br hr wg pc lim ep mn md ma yr ls hs tg ho cy fe w1 h hok
 have K2 := fun W (hb : Below w1.heap.size w1 W) => copied_any A1 A2 A3 A4 A5 A6 n1 c1 n2 c2 c3 n4 c4 n5 c5 n6 c6 wm br hr wg pc lim ep mn md ma yr ls hs tg ho cy fe W (h.keep hb) hf1 hf2 hf3 hf4 hf5 hf6 ⟨hn1, hn2, hn4, hok.n5, hok.n6⟩
 have K3 := fun B1 B2 B3 B4 B5 B6 k1 k2 k3 k4 k5 k6 W hW => year_any B1 B2 B3 B4 B5 B6 n1 k1 n2 k2 k3 n4 k4 n5 k5 n6 k6 wm br hr wg pc lim ep mn md ma yr ls hs tg ho cy fe W hW hok.cal hok.moon hok.fe hok.yr ⟨hok.n5, hok.n6⟩
 clear h hok hf1 hf2 hf3 hf4 hf5 hf6 hn1 hn2 hn4
 go_enter Tryz.func7, Tryz.ntmps7
 go_upto_region 1 with (fail)
 (try rw [hw1])
 clear hw1
 go_wp2_with (refine wpList_load_blk rfl _ _ rfl w.heap.size rfl _ _ hX Tryz.underlying35 rfl (by kernel_rfl) ?_)
 refine K1.mono ?_
 rintro e w2 ⟨rfl, hb2⟩
 clear K1
 have hX2 := hX.keep hb2
 go_wp2_with (refine wpList_load_blk rfl _ _ rfl w.heap.size rfl _ _ hX2 Tryz.underlying35 rfl (by kernel_rfl) ?_)
 refine (K2 _ hb2).mono ?_
 rintro e w3 ⟨B1, B2, B3, B4, B5, B6, k1, k2, k3, k4, k5, k6, rfl, hS, hfm, hcap, hb3⟩
 replace hb3 := fr_call hb2 hb3
 have K4 := fun W hW => K3 B1 B2 B3 B4 B5 B6 k1 k2 k3 k4 k5 k6 W hW
 clear K2 K3 hX2 hb2
 go_upto_region 4 with (refine wpList_store_blk rfl _ _ _ rfl w3.heap.size 35 _ _ rfl rfl (Blk.new w3 _ _) rfl (by kernel_rfl) (by simp [Value.oneCell']) ?_; intro w4 hQ hgQ)
 have hb4 : Below w3.heap.size w3 w4 := (fr_alloc (fr_refl w3) _).grown hgQ (fr_alloc (fr_refl w3) _).size (by intro k hk; cases hk; exact Nat.le_refl _)
 have hS4 := hS.keep hb4
 have hs3 := hb3.size
 have hs4 := hb4.size
 clear hS hX
 go_wp2_with (refine wpList_load_blk rfl _ _ rfl w3.heap.size rfl _ _ hQ Tryz.underlying35 rfl (by kernel_rfl) ?_)
 refine (K4 _ hS4).mono ?_
 rintro e w5 ⟨D, dc, rfl, hD, hb5⟩
 have hQ5 := hQ.keep hb5
 have hS5 := hS4.keep hb5
 have hD5 := hD.rd
 have hbt := fr_call hb0 (fr_call hb3 (fr_call hb4 hb5))
 have hs5 := hbt.size
 clear K4 hD hQ hS4
 go_wp2_with fail
 go_ret2
 refine ⟨w5.heap.size, w3.heap.size, B1, B2, B3, B4, B5, B6, k1, k2, k3, k4, k5, k6, D, dc, rfl, ⟨Blk.new _ _ _, hQ5.alloc _, hS5.keep (fr_alloc (fr_refl _) _), hfm, hcap, hD5.keep (fr_alloc (fr_refl _) _)⟩, hs5, fr_alloc hbt _⟩
end Go.Proofs.YtdocgmafbacjcaaGreatDoor
end

section
namespace Go.Proofs.YtdocgmafbacjcaaGreatDoor
open Go.RowKit Go.Shelf

/-- what the first k arbors turn by -/
def ratesL (ls : List Lk) (k : Nat) : List (List Value) := [.int .i64 1, .int .i64 1] :: (List.range k).map (fun i => [.int .i64 (turnD (trainL ls (i + 1)) : Int), .int .i64 (turnV (trainL ls (i + 1)) : Int)])
theorem ratesL_len (ls : List Lk) (k : Nat) : (ratesL ls k).length = k + 1 := by simp [ratesL]
theorem ratesL_succ (ls : List Lk) (k : Nat) : ratesL ls (k + 1) = ratesL ls k ++ [[.int .i64 (turnD (trainL ls (k + 1)) : Int), .int .i64 (turnV (trainL ls (k + 1)) : Int)]] := by
 simp [ratesL, List.range_succ]
/-- their ways -/
def sensesL (ls : List Lk) (k : Nat) : List (List Value) := [.bool true] :: (List.range k).map (fun i => [.bool (((pathL ls (i + 1)).length : Int) % 2 == 0)])
theorem sensesL_len (ls : List Lk) (k : Nat) : (sensesL ls k).length = k + 1 := by simp [sensesL]
theorem sensesL_succ (ls : List Lk) (k : Nat) : sensesL ls (k + 1) = sensesL ls k ++ [[.bool (((pathL ls (k + 1)).length : Int) % 2 == 0)]] := by
 simp [sensesL, List.range_succ]
theorem info_frn : (Tryz.prog.info? 52).map (fun i => (i.zero, i.size, i.bytes)) = some (some (.agg #[.int .i64 0, .int .i64 0]), 2, 16) := by kernel_rfl
theorem info_bol : (Tryz.prog.info? 4).map (fun i => (i.zero, i.size, i.bytes)) = some (some (.bool false), 1, 1) := by kernel_rfl
section
variable {o : Oper} {a : Act} {w : World} {K : Act → World → Prop} {Q : Exit → Act → World → Prop}
theorem wp_build_bolc {b : Bool} (ho : o.op = .buildSlice 91 1 #[(0, .const (.bool b))])
  (h : ∀ g w', w.heap.size = g → Blk w' g 4 #[.bool b] → Below w.heap.size w w' → K (a.put o.dst (.slice (some ⟨g, 0, none⟩) 1 1)) w') : o.wp Tryz.prog a w K Q := by
 have h1 := h w.heap.size (w.alloc (.cells #[.bool b] 4)) rfl (Blk.new w _ _) (fr_alloc (fr_refl w) _)
 obtain ⟨dst, op, ty, pos, after, guard⟩ := o
 simp only at ho
 subst ho
 go_simp
 exact h1
end
/-- a new block is a row of its own -/
theorem OwnS.new1 {w : World} {g base k : Nat} {E : TypeId} {r : List Value} (hg : Blk w g E r.toArray) (hr : r.length = k) (hb : base ≤ g) : OwnS w base E k (.slice (some ⟨g, 0, none⟩) 1 1) [r] := by
 refine ⟨⟨by simp [hr], Or.inr ⟨g, 1, r.toArray, rfl, hb, hg, Nat.le_refl _, by unfold maxLen; omega, by simp [hr], ?_⟩⟩, fun q hq => ?_⟩
 ·simp [← hr]
 ·rw [List.mem_singleton.1 hq]; exact hr
set_option maxRecDepth 100000 in
set_option maxHeartbeats 16000000 in
theorem Rates_ok (A H : Option Addr) (n c m hc : Nat) (ls : List Lk) (hs : List Int) (w : World) (hr : RdS w A 3 (ls.map Lk.cells)) (hn : ls.length = n) (hh : Rd w H m hs) (hcap : n ≤ c) (hok : ShopOk ls hs) :
  Calls Tryz.prog 125 #[.agg #[.slice A n c, .slice H m hc]] w fun e w' => ∃ R rc S sc, e = .returned (.tuple #[.slice R (n + 1) rc, .slice S (n + 1) sc, .int .i64 0]) ∧ RdS w' R 2 (ratesL ls n) ∧ Below w.heap.size w w' := by
 have hb0 := fr_alloc (fr_refl w) (.cells #[.slice A n c, .slice H m hc] 25)
 have hX := Blk.new w 25 #[.slice A n c, .slice H m hc]
 obtain ⟨w1, hw1⟩ : ∃ w1, w.alloc (.cells #[.slice A n c, .slice H m hc] 25) = w1 := ⟨_, rfl⟩
 rw [hw1] at hb0 hX
 replace hr := hr.keep hb0
 replace hh := hh.keep hb0
 have hn5 : n ≤ 5 := by have := hok.n; omega
 have hpl : ∀ j, j < n → 1 ≤ (pathL ls (j + 1)).length ∧ (pathL ls (j + 1)).length ≤ 3 := fun j hj => by
  have he : ls[j]? = some ls[j] := List.getElem?_eq_getElem (by omega)
  have := hok.far _ (List.getElem_mem (show j < ls.length by omega))
  rw [pathL_succ hok.fr he, List.length_append]
  simp only [List.length_cons, List.length_nil]
  omega
 have hTP : ∀ j, j < n → TeethP (trainL ls (j + 1)) := fun j hj p hp => by
  obtain ⟨i, hi, rfl⟩ := List.mem_map.1 hp
  have h1 := pathL_mem hok.fr (j + 1) (by omega) i hi
  have he : ls[i]? = some ls[i] := List.getElem?_eq_getElem (by omega)
  have h2 := hok.teeth _ (List.getElem_mem (show i < ls.length by omega))
  unfold prAt
  rw [he]
  exact h2
 have hold : ∀ ad, A = some ad → ad.block < w1.heap.size := fun ad e => by
  obtain ⟨ad', e', hlt, _⟩ := hr (by rw [List.length_map, hn]; have := hok.n; omega)
  rw [e] at e'; cases e'; exact hlt
 have K1 := fun j (hj : j < n) W (hb : Below w1.heap.size w1 W) => trainOf_any A H n c m hc (j + 1) ls W (hr.keep hb) hn hok.fr (by omega) (by omega) (fun ad e => Nat.lt_of_lt_of_le (hold ad e) hb.size) (by have := hpl j hj; omega)
 have hy := sPiece_yes A H n c m hc ls hs w1 hr hn hh hcap hok
 have hcX := fun j => hX.cell j
 have hlX := hX.lt
 have hs0 := hb0.size
 clear hr hh hok hold
 have HN := Lib.hid hn
 clear hn
 go_enter Tryz.func125, Tryz.ntmps125
 go_upto_region 1 with (fail)
 (try rw [hw1])
 clear hw1
 go_wp2_with fail
 refine hy.mono ?_
 rintro e w2 ⟨rfl, hb2⟩
 have hX2 := hX.keep hb2
 have hs2 := hb2.size
 clear hy hcX
 have hcX := fun j => hX2.cell j
 have hbz : Below w2.heap.size w2 ((w2.alloc (.cells #[.int .i64 1, .int .i64 1] 52)).alloc (.cells #[.bool true] 4)) := fr_alloc (fr_alloc (fr_refl w2) _) _
 have hO1 : OwnS ((w2.alloc (.cells #[.int .i64 1, .int .i64 1] 52)).alloc (.cells #[.bool true] 4)) w2.heap.size 52 2 (.slice (some ⟨w2.heap.size, 0, none⟩) 1 1) (ratesL ls 0) := OwnS.new1 ((Blk.new w2 _ _).alloc _) rfl (Nat.le_refl _)
 have hO2 : OwnS ((w2.alloc (.cells #[.int .i64 1, .int .i64 1] 52)).alloc (.cells #[.bool true] 4)) w2.heap.size 4 1 (.slice (some ⟨w2.heap.size + 1, 0, none⟩) 1 1) (sensesL ls 0) := OwnS.new1 (Blk.new_at _ _ (by simp)) rfl (Nat.le_succ _)
 have hX3 := hX2.keep hbz
 have hsz := hbz.size
 go_upto_region 4 with (fail)
 generalize (w2.alloc (.cells #[.int .i64 1, .int .i64 1] 52)).alloc (.cells #[.bool true] 4) = wz at *
 clear hcX
 have hcX := fun j => hX3.cell j
 go_wp2_with fail
 clear hcX
 go_loopw [5, 6, 20] (fun u5 u6 u wr => ∃ (j : Nat) (A1 A2 : Option Addr) (c1 c2 : Nat), j ≤ n ∧ u = .int .i64 j ∧ u5 = .slice A1 (j + 1) c1 ∧ u6 = .slice A2 (j + 1) c2 ∧ OwnS wr w2.heap.size 52 2 (.slice A1 (j + 1) c1) (ratesL ls j) ∧ OwnS wr w2.heap.size 4 1 (.slice A2 (j + 1) c2) (sensesL ls j) ∧ Below w2.heap.size w2 wr) (fun _ _ u _ => n - (intOf u).toNat)
 case atStart => exact ⟨0, _, _, _, _, Nat.zero_le _, rfl, rfl, rfl, hO1, hO2, hbz⟩
 case round =>
  obtain ⟨j, A1, A2, c1, c2, hj, rfl, rfl, rfl, hO1, hO2, hbr⟩ := hrel
  clear hbz hX3 hsz
  have hXr := hX2.keep hbr
  have hcX := fun j => hXr.cell j
  have hsr := hbr.size
  by_cases hlt : j < n
  ·have i1 : (j : Int) < (n : Int) := by omega
   have i2 : IntKind.i64.wrap ((j : Int) + 1) = ((j + 1 : Nat) : Int) := by rw [IntWalk.i64_in _ (by omega)]; omega
   have hbw := fr_call hb2 hbr
   have k1 := K1 j hlt wr hbw
   obtain ⟨hp1, hp2⟩ := hpl j hlt
   have hTj := hTP j hlt
   have HR := Lib.hid (ratesL_succ ls j)
   have HS := Lib.hid (sensesL_succ ls j)
   have hll : (trainL ls (j + 1)).length = (pathL ls (j + 1)).length := by simp [trainL]
   obtain ⟨q, hq⟩ : ∃ q, (pathL ls (j + 1)).length = q := ⟨_, rfl⟩
   rw [hq] at hp1 hp2 HS hll
   generalize trainL ls (j + 1) = tl at *
   clear hpl hTP hq
   go_wp2_with fail
   refine k1.mono ?_
   rintro e w3 ⟨T, tc, rfl, hT, hb3⟩
   have hl3 := hll
   rw [hll] at hT ⊢
   go_wp2_with fail
   refine (tTurns_ok T q tc tl w3 hT.rd hl3 hp1 hp2 hTj).mono ?_
   rintro e w4 ⟨rfl, hb4⟩
   go_upto_region 8 with (refine wpList_store_blk rfl _ _ _ rfl w4.heap.size 52 _ _ rfl rfl (Blk.new w4 _ _) rfl (by kernel_rfl) (by simp [Value.oneCell']) ?_; intro w5 hQ hgQ)
   have hb5 : Below w4.heap.size w4 w5 := (fr_alloc (fr_refl w4) _).grown hgQ (fr_alloc (fr_refl w4) _).size (by intro k hk; cases hk; exact Nat.le_refl _)
   have hb35 := fr_call hb3 (fr_call hb4 hb5)
   have hbt := fr_call hbr hb35
   have hsz := hbt.size
   replace hO1 := hO1.keep hb35
   replace hO2 := hO2.keep hb35
   have hcX := fun j => hQ.cell j
   have hlQ := hQ.lt
   clear hT hb35 hb3 hb4 hb5 hgQ hXr k1
   obtain ⟨g1, rfl, hg1, _⟩ := hO1.addr (by rw [ratesL_len]; omega)
   obtain ⟨g2, rfl, hg2, _⟩ := hO2.addr (by rw [sensesL_len]; omega)
   obtain ⟨cs1, hh1⟩ := hO1.cellsOf g1 rfl
   obtain ⟨cs2, hh2⟩ := hO2.cellsOf g2 rfl
   have hg12 : g1 ≠ g2 := fun e => by subst e; rw [hh1] at hh2; cases hh2
   have hge1 := hO1.ge
   have hge2 := hO2.ge
   clear hh1 hh2
   go_wp2_with (at_builtin; first | (refine app_row rfl (.tmp 32) (.tmp 34) rfl Tryz.underlying26 info_frn rfl (by omega) (by omega) w2.heap.size _ _ rfl rfl hO1 (r := [.int .i64 (turnD tl : Int), .int .i64 (turnV tl : Int)]) rfl (by intro u hu; simp only [List.mem_cons, List.not_mem_nil, or_false] at hu; rcases hu with rfl | rfl <;> rfl) (by rw [ratesL_len]; omega) hsz ?_; intro A3 k3 w7 hO3 hg7; rw [ratesL_len] at hO3 ⊢; have hO4 := ownS_kept (hO2.keep (fr_alloc (fr_refl w5) _)) hg7 (by intro e; cases e; exact hg12 rfl); have hb7 := (fr_alloc hbt _).grown hg7 (fr_alloc hbt _).size hge1; have hsz7 := hb7.size; have hne8 : (Value.slice (some ⟨g2, 0, none⟩) (j + 1) c2).ownBlock ≠ (Value.slice A3 (j + 1 + 1) k3).ownBlock := (fun e => by obtain ⟨c3, h3⟩ := hO3.cellsOf g2 e.symm; obtain ⟨c4, h4⟩ := hO4.cellsOf g2 rfl; rw [h3] at h4; cases h4); clear hO1 hO2 hg7) | (refine app_row rfl (.tmp 36) (.tmp 38) rfl Tryz.underlying91 info_bol rfl (by omega) (by omega) w2.heap.size _ _ rfl rfl hO4 (r := [.bool ((q : Int) % 2 == 0)]) rfl (by intro u hu; simp only [List.mem_cons, List.not_mem_nil, or_false] at hu; rcases hu with rfl; rfl) (by rw [sensesL_len]; omega) hsz7 ?_; intro A4 k4 w8 hO5 hg8; rw [sensesL_len] at hO5 ⊢; have hO6 := ownS_kept (hO3.keep (fr_alloc (fr_refl w7) _)) hg8 hne8; have hb8 := (fr_alloc hb7 _).grown hg8 (fr_alloc hb7 _).size hge2))
   refine ⟨⟨j + 1, A3, A4, k3, k4, hlt, by go_num, rfl, rfl, by rw [HR.out]; exact hO6, by rw [HS.out]; exact hO5, hb8⟩, ?_⟩
   simp [intOf]; omega
  ·obtain rfl : j = n := by omega
   go_wp2_with fail
   go_ret3
   exact ⟨A1, c1, A2, c2, rfl, hO1.rd, fr_call hb0 (fr_call hb2 hbr)⟩
end Go.Proofs.YtdocgmafbacjcaaGreatDoor
end

section
namespace Go.Proofs.YtdocgmafbacjcaaGreatDoor

/- Parts between single bytes. -/
def pieces (c : UInt8) : List UInt8 → List (List UInt8)
 | [] => [[]]
 | x :: s => if x = c then [] :: pieces c s else (x :: (pieces c s).headD []) :: (pieces c s).tail
theorem pieces_len (c : UInt8) (s : List UInt8) : 1 ≤ (pieces c s).length ∧ (pieces c s).length ≤ s.length + 1 := by
 induction s with
 | nil => simp [pieces]
 | cons x s ih =>
  unfold pieces
  split
  ·simp only [List.length_cons]; omega
  ·simp only [List.length_cons, List.length_tail]; omega
/- Numbers. -/
def digB (c : UInt8) : Bool := decide (48 ≤ c.toNat) && decide (c.toNat ≤ 57)
def valGo (n : Int) (w : List UInt8) : Int := w.foldl (fun n c => 10 * n + ((c.toNat : Int) - 48)) n
def valOf (w : List UInt8) : Int := valGo 0 w
theorem valGo_app (n : Int) (a b : List UInt8) : valGo n (a ++ b) = valGo (valGo n a) b := by unfold valGo; rw [List.foldl_append]
theorem valGo_bounds : ∀ (w : List UInt8) (n : Int), 0 ≤ n → w.all digB = true → 0 ≤ valGo n w ∧ valGo n w < (n + 1) * 10 ^ w.length
 | [], n, h, _ => by simp [valGo]; omega
 | c :: w, n, h, hw => by
  simp only [List.all_cons, Bool.and_eq_true] at hw
  obtain ⟨h1, h2⟩ := hw
  unfold digB at h1
  simp only [Bool.and_eq_true, decide_eq_true_eq] at h1
  have hn : 0 ≤ 10 * n + ((c.toNat : Int) - 48) := by omega
  have ih := valGo_bounds w _ hn h2
  refine ⟨ih.1, Int.lt_of_lt_of_le ih.2 ?_⟩
  rw [List.length_cons, Int.pow_succ, Int.mul_comm (10 ^ w.length : Int) 10, ← Int.mul_assoc]
  refine Int.mul_le_mul_of_nonneg_right (by omega) (Int.pow_nonneg (by omega))
/- The sum of checks. -/
end Go.Proofs.YtdocgmafbacjcaaGreatDoor
end

section
namespace Go.Proofs.YtdocgmafbacjcaaGreatDoor

theorem index_eq (c : UInt8) (s : List UInt8) : Lib.index (c :: s) [c] = 0 := by rw [Lib.index]; simp [List.isPrefixOf]
theorem index_ne {b c : UInt8} (s : List UInt8) (h : b ≠ c) : Lib.index (b :: s) [c] = if Lib.index s [c] == -1 then -1 else Lib.index s [c] + 1 := by
 have hp : ([c] : List UInt8).isPrefixOf (b :: s) = false := by simp [List.isPrefixOf, Ne.symm h]
 rw [Lib.index, hp]
 simp
theorem splitK_pieces (c : UInt8) : ∀ (s : List UInt8), Lib.splitK [c] 0 (s.count c) s = pieces c s
 | [] => by simp [Lib.splitK, pieces]
 | b :: s => by
  have ih := splitK_pieces c s
  by_cases h : b = c
  ·subst h
   have hc : (b :: s).count b = s.count b + 1 := by simp
   rw [hc]
   unfold Lib.splitK
   rw [index_eq]
   simp only [pieces, if_true]
   simp
   exact ih
  ·have hc : (b :: s).count c = s.count c := List.count_cons_of_ne (by simpa using h)
   rw [hc]
   simp only [pieces]
   rw [if_neg h]
   cases hk : s.count c with
   | zero =>
    rw [hk] at ih
    unfold Lib.splitK at ih ⊢
    rw [← ih]
    rfl
   | succ k =>
    rw [hk] at ih
    unfold Lib.splitK at ih ⊢
    rw [index_ne s h]
    by_cases hm : Lib.index s [c] = -1
    ·rw [if_pos (beq_iff_eq.2 hm)] at ih
     rw [if_pos (beq_iff_eq.2 hm), if_pos (by decide), ← ih]
     rfl
    ·have hge := Lib.index_ge s [c]
     have hm' : ¬ (Lib.index s [c] == -1) = true := fun e => hm (beq_iff_eq.1 e)
     have hm2 : ¬ (Lib.index s [c] + 1 == -1) = true := fun e => by have := beq_iff_eq.1 e; omega
     rw [if_neg hm'] at ih
     rw [if_neg hm', if_neg hm2, ← ih]
     have e : (Lib.index s [c] + 1).toNat = (Lib.index s [c]).toNat + 1 := by omega
     rw [e]
     simp
theorem split_pieces (c : UInt8) (l : List UInt8) : (Lib.splitB ⟨#[c]⟩ 0 (Lib.countB ⟨l.toArray⟩ ⟨#[c]⟩) ⟨l.toArray⟩).map (·.data.toList) = pieces c l := by
 rw [Lib.splitB_data]
 have h1 : Lib.countB ⟨l.toArray⟩ ⟨#[c]⟩ = l.count c := by
  show Lib.count l [c] = _
  exact Lib.count_one c l
 rw [h1]
 exact splitK_pieces c l
theorem split_count (c : UInt8) (l : List UInt8) : Lib.countB ⟨l.toArray⟩ ⟨#[c]⟩ + 1 = (pieces c l).length := by
 rw [← split_pieces, List.length_map]
 exact (Lib.splitB_all ⟨#[c]⟩ (Nat.le_refl 1) 0 _ ⟨l.toArray⟩ rfl).symm
theorem split_cells (c : UInt8) (l : List UInt8) : (Lib.splitB ⟨#[c]⟩ 0 (Lib.countB ⟨l.toArray⟩ ⟨#[c]⟩) ⟨l.toArray⟩).map Value.string = (pieces c l).map (fun p => Value.string ⟨p.toArray⟩) := by
 rw [← split_pieces, List.map_map]
 refine List.map_congr_left fun x _ => ?_
 simp
end Go.Proofs.YtdocgmafbacjcaaGreatDoor
end

section
namespace Go.Proofs.YtdocgmafbacjcaaGreatDoor
open Go.RowKit Go.Shelf

/-- the library's table of powers of ten is as its text lays it -/
def TabP (w : World) : Prop := Lib.TabIs Tryz.prog w "internal/strconv.uint64pow10" .u64 Lib.pow10Tab
theorem TabP.keep {w w' : World} (h : TabP w) (hb : Below w.heap.size w w') : TabP w' := by
 unfold TabP Lib.TabIs World.var? at h ⊢
 cases hg : Tryz.prog.globalNamed "internal/strconv.uint64pow10" with
 | none => rw [hg] at h; cases h
 | some g =>
  rw [hg] at h
  simp only [Option.bind_some] at h ⊢
  have hlt : g < w.heap.size := by
   rcases Nat.lt_or_ge g w.heap.size with h' | h'
   ·exact h'
   ·rw [Array.getElem?_eq_none h'] at h; cases h
  rw [hb.block g hlt]
  exact h
theorem grow_fr (w : World) (k : Nat) (os : Array Obj) : Below w.heap.size w (Go.Sort.grow (w.drewN k) os) := by
 refine ⟨rfl, rfl, rfl, ?_, ?_⟩
 ·simp [Go.Sort.grow, World.drewN]
 ·intro i hi
  simp only [Go.Sort.grow, World.drewN]
  rw [Array.getElem?_append_left (by simpa using hi)]
theorem itoa_any (n : Int) (w : World) (h0 : 0 ≤ n) (h1 : n ≤ 9000000000000000000) (hT : TabP w) :
  Calls Tryz.prog 155 #[.int .i64 n] w fun e w' => e = .returned (.string ⟨(Lib.itoa n).toArray⟩) ∧ Below w.heap.size w w' :=
 (Tryz.strconv_Itoa n (by omega) (by omega) w hT).mono (fun e w' ⟨he, k, os, hw⟩ => ⟨he, by rw [hw]; exact grow_fr w k os⟩)
def strV (l : List UInt8) : Value := .string ⟨l.toArray⟩
theorem info_string : (Tryz.prog.info? 9).map (fun i => (i.zero, i.size, i.bytes)) = some (some (.string ⟨#[]⟩), 1, 16) := by kernel_rfl
/-- the longest string that the library's search takes in one: some number -/
def MaxP (w : World) : Prop := ∃ m : Int, w.cell? ⟨0, 0, none⟩ = some (.int .i64 m)
theorem MaxP.keep {w w' : World} (h : MaxP w) (hb : Below w.heap.size w w') : MaxP w' := by
 obtain ⟨m, hm⟩ := h
 exact ⟨m, (hb.cell (World.block_lt_of_cell? _ _ hm)).trans hm⟩
theorem split_is (c : UInt8) (l : List UInt8) (w : World) (hl : l.length ≤ 1000000) (hM : MaxP w) :
  Calls Tryz.prog 237 #[.string ⟨l.toArray⟩, .string ⟨#[c]⟩] w fun e w' => e = .returned (.slice (some ⟨w.heap.size, 0, none⟩) (pieces c l).length (pieces c l).length) ∧
   (∀ j p, (pieces c l)[j]? = some p → w'.cell? ⟨w.heap.size, j, none⟩ = some (strV p)) ∧ w'.heap.size = w.heap.size + 1 ∧ Below w.heap.size w w' := by
 obtain ⟨m, hm⟩ := hM
 have hs : (⟨l.toArray⟩ : ByteArray).size = l.length := by show l.toArray.size = _; simp
 refine (Tryz.strings_Split ⟨l.toArray⟩ ⟨#[c]⟩ m w (by rw [hs]; omega) hm (Nat.le_refl 1)).mono ?_
 rintro e w' ⟨rfl, rfl⟩
 rw [split_count]
 refine ⟨rfl, fun j p hp => ?_, by simp, fr_alloc (fr_refl w) _⟩
 rw [cell_new, split_cells, List.getElem?_toArray, List.getElem?_map, hp]
 rfl

theorem iter_fr (w : World) (s : ByteArray) (pos : Nat) : Below w.heap.size w (w.iter s pos) := fr_alloc (fr_refl w) _
theorem val_step (wd : List UInt8) (p : Nat) (b : UInt8) (h : wd[p]? = some b) : valOf (wd.take (p + 1)) = 10 * valOf (wd.take p) + ((b.toNat : Int) - 48) := by
 have hl : p < wd.length := (List.getElem?_eq_some_iff.1 h).1
 have hb : wd[p] = b := (List.getElem?_eq_some_iff.1 h).2
 rw [List.take_succ_eq_append_getElem hl, hb]
 unfold valOf
 rw [valGo_app]
 rfl
theorem val_small (wd : List UInt8) (p : Nat) (hp : p ≤ 5) (h : (wd.take p).all digB = true) : 0 ≤ valOf (wd.take p) ∧ valOf (wd.take p) ≤ 99999 := by
 have hb := valGo_bounds (wd.take p) 0 (Int.le_refl _) h
 have h5 : 10 ^ (wd.take p).length ≤ 100000 := Nat.le_trans (Nat.pow_le_pow_right (show 0 < 10 by omega) (by rw [List.length_take]; omega : (wd.take p).length ≤ 5)) (by decide)
 have e1 : ((10 ^ (wd.take p).length : Nat) : Int) = (10 : Int) ^ (wd.take p).length := by push_cast; rfl
 unfold valOf
 omega
theorem digB_iff (b : UInt8) : digB b = true ↔ 48 ≤ b.toNat ∧ b.toNat ≤ 57 := by unfold digB; simp
/-- what is given up with by 'none' -/
def jnoneV (why : ByteArray) : List PanicEntry := [{ v := .iface 193 (.agg #[.string why]), recovered := false }]
set_option maxHeartbeats 1000000 in
theorem jsure_yes (s : ByteArray) (w : World) : Calls Tryz.prog 239 #[.bool true, .string s] w fun e w' => e = .returned (.tuple #[]) ∧ w = w' := by
 go_enter Tryz.func239, Tryz.ntmps239
 go_wp2_with fail
 go_end0
 exact ⟨rfl, rfl⟩
set_option maxHeartbeats 1000000 in
theorem jsure_no (s : ByteArray) (w : World) : Calls Tryz.prog 239 #[.bool false, .string s] w fun e w' => e = .panicked (jnoneV s) ∧ w = w' := by
 unfold jnoneV
 go_enter Tryz.func239, Tryz.ntmps239
 go_wp2_with fail
 exact ⟨rfl, rfl, rfl⟩
set_option maxHeartbeats 1000000 in
theorem jtry1_idle (p : Addr) (w : World) :
  CallsD Tryz.prog 107 #[.pointer (some p)] .returning w fun e u' w' => e = .returned (.tuple #[]) ∧ u' = .returning ∧ w' = w := by
 refine callsD_of_wpS Tryz.func107 rfl fun c₀ cs hu => ?_
 simp only [Tryz.ntmps107, List.size_toArray, List.length_cons, List.length_nil, Nat.reduceAdd, Nat.reduceSub, Array.replicate_succ, Array.replicate_zero, List.push_toArray, List.append_toArray, List.nil_append, List.cons_append]
 apply wpS_seq
 apply wpS_region
 simp [wpOpsS, go_sem, recoverD, hu, Exit.thenS]
 refine wpS_of_wp ?_
 go_wp2
 cases c₀
 simp_all [bodyPostS, results, Tryz.results107]

set_option maxHeartbeats 1000000 in
theorem jtry1_none (p : Addr) (x : Int) (why : ByteArray) (older : List PanicEntry) (w : World) (hc : w.cell? p = some (.int .i64 x)) (hz : w.frozen? p = false) :
  CallsD Tryz.prog 107 #[.pointer (some p)] (.panicking ({ v := .iface 193 (.agg #[.string why]), recovered := false } :: older)) w fun e u' w' =>
   e = .returned (.tuple #[]) ∧ u' = .panicking ({ v := .iface 193 (.agg #[.string why]), recovered := true } :: older) ∧ w' = (w.alloc (.cells #[.string why] 193)).setCell p (.int .i64 4) := by
 refine callsD_of_wpS Tryz.func107 rfl fun c₀ cs hu => ?_
 simp only [Tryz.ntmps107, List.size_toArray, List.length_cons, List.length_nil, Nat.reduceAdd, Nat.reduceSub, Array.replicate_succ, Array.replicate_zero, List.push_toArray, List.append_toArray, List.nil_append, List.cons_append]
 apply wpS_seq
 apply wpS_region
 simp [wpOpsS, go_sem, recoverD, hu, Exit.thenS]
 have HU := Lib.hid hu
 clear hu
 have heq : ∀ w, (binOp .eql 20 (.iface 193 (.agg #[.string why])) .nilIface).run Tryz.prog w = .ok (.bool false) w := fun w => by kernel_rfl
 have hta : ∀ w, (Instr.typeAssert (.iface 193 (.agg #[.string why])) 20 193 true).run Tryz.prog w = .ok (.tuple #[.agg #[.string why], .bool true]) w := fun w => by kernel_rfl
 have htb : ∀ w, (Instr.typeAssert (.iface 193 (.agg #[.string why])) 20 107 true).run Tryz.prog w = .ok (.tuple #[.agg #[.nilIface], .bool false]) w := fun w => by kernel_rfl
 have hpl := World.block_lt_of_cell? w p hc
 have hA := fr_alloc (fr_refl w) (.cells #[.string why] 193)
 have hc2 := (hA.cell hpl).trans hc
 have hz2 := (hA.frozen hpl).trans hz
 clear hA
 refine wpS_of_wp ?_
 go_wp2
 have hu := HU.out
 cases c₀
 simp_all [bodyPostS, results, Tryz.results107]

set_option maxHeartbeats 1000000 in
theorem jtry_none_Parse (cap : Array Value) (R : World → Prop) (w : World) (why : ByteArray)
  (h : Calls Tryz.prog 214 cap (w.alloc (.cells #[.int .i64 0] 39)) fun e w' => e = .panicked (jnoneV why) ∧ R w' ∧ w'.cell? ⟨w.heap.size, 0, none⟩ = some (.int .i64 0) ∧ w'.frozen? ⟨w.heap.size, 0, none⟩ = false) :
  Calls Tryz.prog 34 #[.func (.func 214) #[] cap] w fun e w'' => e = .returned (.int .i64 4) ∧ ∃ w', R w' ∧ w'' = (w'.alloc (.cells #[.string why] 193)).setCell ⟨w.heap.size, 0, none⟩ (.int .i64 4) := by
 have hmf : ∀ (fn : Fn) (first cap : Array Value) (w : World), (Instr.makeFunc fn first cap).run Tryz.prog w = .ok (.func fn first cap) w := fun _ _ _ _ => rfl
 have H := Lib.hid h
 clear h
 go_enter_defers Tryz.func34, Tryz.ntmps34
 go_wp2_with fail
 refine (H.out).mono ?_
 rintro e w' ⟨rfl, hR, hc, hf⟩
 go_wp2
 refine leaves_cons (f := 107) (args := #[.pointer (some ⟨w.heap.size, 0, none⟩)]) (by simp) (by simp [go_sem]) ?_
 refine (jtry1_none ⟨w.heap.size, 0, none⟩ 0 why [] _ hc hf).mono ?_
 rintro e u' w'' ⟨rfl, rfl, rfl⟩
 have hpl := World.block_lt_of_cell? w' _ hc
 have hc2 := ((fr_alloc (fr_refl w') (.cells #[.string why] 193)).cell hpl).trans hc
 simp [Leaves, settle, results, Tryz.results34, go_sem, hc2]
 exact ⟨w', hR, rfl⟩
set_option maxHeartbeats 1000000 in
theorem jtry_ok_question (cap : Array Value) (R : World → Prop) (w : World)
  (h : Calls Tryz.prog 217 cap (w.alloc (.cells #[.int .i64 0] 39)) fun e w' => e = .returned (.tuple #[]) ∧ R w' ∧ w'.cell? ⟨w.heap.size, 0, none⟩ = some (.int .i64 0) ∧ w'.frozen? ⟨w.heap.size, 0, none⟩ = false) :
  Calls Tryz.prog 34 #[.func (.func 217) #[] cap] w fun e w'' => e = .returned (.int .i64 0) ∧ ∃ w', R w' ∧ w'' = w'.setCell ⟨w.heap.size, 0, none⟩ (.int .i64 0) := by
 have hmf : ∀ (fn : Fn) (first cap : Array Value) (w : World), (Instr.makeFunc fn first cap).run Tryz.prog w = .ok (.func fn first cap) w := fun _ _ _ _ => rfl
 have H := Lib.hid h
 clear h
 go_enter_defers Tryz.func34, Tryz.ntmps34
 go_wp2_with fail
 refine (H.out).mono ?_
 rintro e w' ⟨rfl, hR, hc, hf⟩
 go_wp2
 refine leaves_cons (f := 107) (args := #[.pointer (some ⟨w.heap.size, 0, none⟩)]) (by simp) (by simp [go_sem]) ?_
 refine (jtry1_idle ⟨w.heap.size, 0, none⟩ _).mono ?_
 rintro e u' w'' ⟨rfl, rfl, rfl⟩
 simp [Leaves, settle, results, Tryz.results34, go_sem, hc]
 exact ⟨w', hR, rfl⟩

end Go.Proofs.YtdocgmafbacjcaaGreatDoor
end

section
namespace Go.Proofs.YtdocgmafbacjcaaGreatDoor
open Go.RowKit Go.Shelf

abbrev Form := List UInt8 × Nat
def formC (f : Form) : List Value := [.string ⟨f.1.toArray⟩, .int .i64 f.2]
def eqF (x y : Form) : Bool := x.1 == y.1 && x.2 == y.2
def formsF : List Form := [([99, 117, 116], 1), ([99, 104, 97, 110, 103, 101], 3), ([111, 114, 100, 101, 114], 3), ([115, 101, 114, 118, 101], 2), ([115, 101, 116], 1), ([115, 116, 114, 105, 107, 101], 1)]
def asksF : List Form := [([104, 97, 110, 100, 115], 0), ([115, 116, 111, 99, 107], 0), ([111, 112, 101, 110], 0), ([112, 114, 105, 99, 101], 1), ([110, 101, 101, 100], 3), ([111, 102, 102], 2), ([119, 114, 111, 110, 103], 0), ([119, 111, 114, 107, 115], 1), ([100, 97, 116, 101], 1), ([99, 117, 116, 115], 1), ([99, 111, 105, 110, 115], 0), ([115, 116, 97, 110, 100, 115], 0)]
def formsV : Array Value := #[.string ⟨#[99, 117, 116]⟩, .int .i64 1, .string ⟨#[99, 104, 97, 110, 103, 101]⟩, .int .i64 3, .string ⟨#[111, 114, 100, 101, 114]⟩, .int .i64 3, .string ⟨#[115, 101, 114, 118, 101]⟩, .int .i64 2, .string ⟨#[115, 101, 116]⟩, .int .i64 1, .string ⟨#[115, 116, 114, 105, 107, 101]⟩, .int .i64 1]
def asksV : Array Value := #[.string ⟨#[104, 97, 110, 100, 115]⟩, .int .i64 0, .string ⟨#[115, 116, 111, 99, 107]⟩, .int .i64 0, .string ⟨#[111, 112, 101, 110]⟩, .int .i64 0, .string ⟨#[112, 114, 105, 99, 101]⟩, .int .i64 1, .string ⟨#[110, 101, 101, 100]⟩, .int .i64 3, .string ⟨#[111, 102, 102]⟩, .int .i64 2, .string ⟨#[119, 114, 111, 110, 103]⟩, .int .i64 0, .string ⟨#[119, 111, 114, 107, 115]⟩, .int .i64 1, .string ⟨#[100, 97, 116, 101]⟩, .int .i64 1, .string ⟨#[99, 117, 116, 115]⟩, .int .i64 1, .string ⟨#[99, 111, 105, 110, 115]⟩, .int .i64 0, .string ⟨#[115, 116, 97, 110, 100, 115]⟩, .int .i64 0]
def renFo : Go.Shelf.Ren := ⟨fun | 6 => 238 | n => n, fun | 22 => 281 | 24 => 121 | 3 => 3 | 4 => 4 | n => n, fun | n => n⟩
theorem laysFo : Go.Proofs.SlLaysQ.n6 Tryz.prog renFo := {
 mixed := by kernel_rfl
 f6 := ⟨ "slices.Index[[]tellurion/journeyman.form,tellurion/journeyman.form]", by decide, Tryz.func238.trans (congrArg some (by kernel_rfl))⟩
 t0 := Tryz.underlying0
 a0 := Tryz.isAgg0
 z0 := Tryz.sizeOf0
 v0 := Tryz.zeroValue0
 t3 := Tryz.underlying3
 a3 := Tryz.isAgg3
 z3 := Tryz.sizeOf3
 v3 := Tryz.zeroValue3
 t4 := Tryz.underlying4
 a4 := Tryz.isAgg4
 z4 := Tryz.sizeOf4
 v4 := Tryz.zeroValue4
 t22 := Tryz.underlying281
 a22 := Tryz.isAgg281
 z22 := Tryz.sizeOf281
 v22 := Tryz.zeroValue281 }
theorem eql_Fo : EqlAt Tryz.prog 121 (fun x => .agg (formC x).toArray) eqF := by
 refine ⟨fun x y w => ?_, .agg _ (by kernel_rfl)⟩
 obtain ⟨x, x2⟩ := x
 obtain ⟨a, b⟩ := y
 have h : (Op.equal 121 (.agg #[.string ⟨x.toArray⟩, .int .i64 x2]) (.agg #[.string ⟨a.toArray⟩, .int .i64 b])).run Tryz.prog w = .ok (if (!(x == a)) = true then false else if (!((x2 : Int) == (b : Int))) = true then false else true) w := by
  have hs : Tryz.prog.underlying 121 = some (.struct (Tryz.prog.fieldsOf 121)) := by kernel_rfl
  have hp : Tryz.prog.stoodInHeld 121 = false := by kernel_rfl
  unfold Op.equal Op.maxDepth
  rw [run_equalIn_struct w 9999 _ _ _ hs hp]
  simp [Program.fieldsOf, Tryz.underlying121, Op.eqFields, go_sem, ByteArray.toList_mk]
  by_cases h1 : x = a
  ·by_cases h2 : x2 = b
   ·simp [h1, h2]
   ·have h3 : ¬ (x2 : Int) = (b : Int) := by omega
    simp [h1, h3]
  ·simp [h1]
 have h2 : (binOp .eql 121 (.agg (formC (x, x2)).toArray) (.agg (formC (a, b)).toArray)).run Tryz.prog w = ((Op.equal 121 (.agg #[.string ⟨x.toArray⟩, .int .i64 x2]) (.agg #[.string ⟨a.toArray⟩, .int .i64 b])).run Tryz.prog w).andThen (fun b w => .ok (.bool b) w) := by
  simp [binOp, formC]
 rw [h2, h, Result.andThen_ok]
 unfold eqF
 by_cases h1 : x = a
 ·by_cases h2 : x2 = b
  ·simp [h1, h2]
  ·have h3 : ¬ (x2 : Int) = (b : Int) := by omega
   have h4 : (x2 == b) = false := by simp [h2]
   simp [h1, h3, h4]
 ·simp [h1]
theorem index_Fo (b off n c : Nat) (l : List Form) (x : Form) (w : World) (hr : RdS w (some ⟨b, off, none⟩) 2 (l.map formC)) (hn : n = l.length) (hl : l.length ≤ 1000) (k : Int) (hk : Lib.idxBy eqF l x = k) :
  Calls Tryz.prog 238 #[.slice (some ⟨b, off, none⟩) n c, .agg #[.string ⟨x.1.toArray⟩, .int .i64 x.2]] w fun e w' => e = .returned (.int .i64 k) ∧ Below w.heap.size w w' := by
 subst hn
 refine (AnyQ.slices_Index laysFo 2 Tryz.isAgg121 Tryz.sizeOf121 formC (fun x => rfl) eqF eql_Fo b off l.length c l x w (Nat.le_refl _) (by omega) ?_).mono ?_
 ·intro j hj i v hv
  obtain ⟨ad, e, _, _, hc⟩ := hr.at_ (i := j) (r := formC l[j]!) (by simp [hj])
  cases e
  have := hc i v hv
  rw [← this]
  unfold Addr.add
  by_cases h4 : j * 2 + i = 0
  ·rw [if_pos h4, Nat.add_assoc, h4]; rfl
  ·rw [if_neg h4, Nat.add_assoc]
 ·rintro e w' ⟨rfl, q, rfl⟩
  rw [List.take_length, hk]
  exact ⟨rfl, below_drewN_q ((Below.refl _ w).alloc (Nat.le_refl _) _) q⟩
set_option maxRecDepth 100000 in
set_option maxHeartbeats 4000000 in
theorem forms_is (w : World) : Calls Tryz.prog 104 #[] w fun e w' => e = .returned (.agg formsV) ∧ Below w.heap.size w w' := by
 unfold formsV
 go_enter Tryz.func104, Tryz.ntmps104
 go_wp2_with (refine wpList_store_blk rfl _ _ _ rfl w.heap.size 177 _ _ rfl rfl (Blk.new w _ _) rfl (by kernel_rfl) (by simp [Value.oneCell']) ?_; intro w1 hQ hgQ)
 refine bodyPost_ret (results_blk1 rfl _ _ _ _ rfl hQ Tryz.underlying177 rfl (by kernel_rfl)) rfl ⟨rfl, ?_⟩
 exact (fr_alloc (fr_refl w) _).grown hgQ (fr_alloc (fr_refl w) _).size (by intro k hk; cases hk; exact Nat.le_refl _)
set_option maxRecDepth 100000 in
set_option maxHeartbeats 4000000 in
theorem asks_is (w : World) : Calls Tryz.prog 53 #[] w fun e w' => e = .returned (.agg asksV) ∧ Below w.heap.size w w' := by
 unfold asksV
 go_enter Tryz.func53, Tryz.ntmps53
 go_wp2_with (refine wpList_store_blk rfl _ _ _ rfl w.heap.size 122 _ _ rfl rfl (Blk.new w _ _) rfl (by kernel_rfl) (by simp [Value.oneCell']) ?_; intro w1 hQ hgQ)
 refine bodyPost_ret (results_blk1 rfl _ _ _ _ rfl hQ Tryz.underlying122 rfl (by kernel_rfl)) rfl ⟨rfl, ?_⟩
 exact (fr_alloc (fr_refl w) _).grown hgQ (fr_alloc (fr_refl w) _).size (by intro k hk; cases hk; exact Nat.le_refl _)
end Go.Proofs.YtdocgmafbacjcaaGreatDoor
end
