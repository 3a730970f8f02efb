/- Walk: guess, Turns. Walk: guess, the order of lists of notes. Walk: guess, the iterator over what trains break. Walk: guess, Doubts. Walk, package train: the distance of fractions. Walk, package train: Nearer. Walk: guess, the iterator over the trains of guesses. -/
import Derived.Test.YtfgghicdkcjdgaaGreatDoorMG7
import Derived.Sort.CutIn
section
namespace Go.Proofs.YtfgghicdkcjdgaaGreatDoor
open Go.RowKit Go.Shelf
attribute [local go_sem] Oper.semAt_some

def MoFr (p : Int × Int) : Prop := Mo p.1 ∧ Mo p.2
theorem fracOf_mo {t : List Int} (h : (2 ≤ t.length ∧ t.length ≤ 6) ∧ TeethOk t) : MoFr (fracOf t) := by
 have hp := pr_facts (pairs_teeth h.2) (by rw [pairs_len]; omega)
 have h1 : turnD (pairsOf t) ≤ 100000000 := Nat.le_trans (Nat.div_le_self _ _) hp.2.1.2
 have h2 : turnV (pairsOf t) ≤ 100000000 := Nat.le_trans (Nat.div_le_self _ _) hp.2.2.2
 unfold MoFr Mo fracOf
 simp only
 omega
def ltLow (a b : Int × Int) : Bool := aboveB b.1 b.2 a.1 a.2
def ltHigh (a b : Int × Int) : Bool := aboveB a.1 a.2 b.1 b.2
theorem bet_high : BetF MoFr ltHigh 57 := fun x y W hx hy => above_is x.1 x.2 y.1 y.2 W hx.1 hx.2 hy.1 hy.2 _ rfl
set_option maxHeartbeats 1000000 in
theorem bet_low : BetF MoFr ltLow 56 := by
 intro x y W hx hy
 have hX := (Blk.new W 40 #[.int .i64 x.1, .int .i64 x.2]).alloc (.cells #[.int .i64 y.1, .int .i64 y.2] 40)
 have hb := fr_alloc (fr_alloc (fr_refl W) (.cells #[.int .i64 x.1, .int .i64 x.2] 40)) (.cells #[.int .i64 y.1, .int .i64 y.2] 40)
 have hcX := fun j => hX.cell j
 have hx1 := hx.1
 have hx2 := hx.2
 have hy1 := hy.1
 have hy2 := hy.2
 unfold encF
 clear hx hy
 go_enter Tryz.func56, Tryz.ntmps56
 go_wp2_with fail
 refine (above_is y.1 y.2 x.1 x.2 _ hy1 hy2 hx1 hx2 _ rfl).mono ?_
 rintro e w1 ⟨rfl, hb1⟩
 go_wp2_with fail
 go_ret
 exact ⟨rfl, fr_call hb hb1⟩
theorem results_blk_two1 {P : Program} {w : World} {fn : Func} {t t2 u : Tmp} {ty ty2 : TypeId} (h : fn.results = #[.cell t ty, .cell t2 ty2, .tmp u]) (tmps : Array Value) (g g2 : Nat) (bt bt2 : TypeId) (cs cs2 : Array Value)
  (hp : tmps.getD t undef = .pointer (some ⟨g, 0, none⟩)) (hp2 : tmps.getD t2 undef = .pointer (some ⟨g2, 0, none⟩)) (hB : Blk w g bt cs) (hB2 : Blk w g2 bt2 cs2)
  {d d2 : TypeDesc} (hu : P.underlying ty = some d) (hd : d.isRow = true) (hi : (P.info? ty).map (·.size) = some cs.size) (hu2 : P.underlying ty2 = some d2) (hd2 : d2.isRow = true) (hi2 : (P.info? ty2).map (·.size) = some cs2.size) :
  (results fn tmps).run P w = .ok (.tuple #[.agg cs, .agg cs2, tmps.getD u undef]) w := by
 have hr : w.rangeAt g 0 cs.toList := fun j v hv => by
  rw [Nat.zero_add, hB.cell]
  simpa using hv
 have hr2 : w.rangeAt g2 0 cs2.toList := fun j v hv => by
  rw [Nat.zero_add, hB2.cell]
  simpa using hv
 have h1 := run_loadVar_mid w g 0 ty cs.toList d hr hu hd (by simpa using hi)
 have h2 := run_loadVar_mid w g2 0 ty2 cs2.toList d2 hr2 hu2 hd2 (by simpa using hi2)
 have hp' : (tmps[t]?).getD undef = .pointer (some ⟨g, 0, none⟩) := by simpa using hp
 have hp2' : (tmps[t2]?).getD undef = .pointer (some ⟨g2, 0, none⟩) := by simpa using hp2
 rw [Array.toArray_toList] at h1 h2
 simp [results, h, hp', hp2', asAddr, h1, h2]
def RetTT (w : World) (k : Int) (p q : Int × Int) (e : Ending) (w' : World) : Prop := e = .returned (.tuple #[.agg (encF p), .agg (encF q), .int .i64 k]) ∧ Below w.heap.size w w'
def lowOf (ts : List (List Int)) : Int × Int := (bestL ltLow (ts.map fracOf)).getD (0, 0)
def highOf (ts : List (List Int)) : Int × Int := (bestL ltHigh (ts.map fracOf)).getD (0, 0)
def TurnPost (w : World) (ts : List (List Int)) (e : Ending) (w' : World) : Prop := if ts = [] then RetTT w 7 (0, 0) (0, 0) e w' else RetTT w 0 (lowOf ts) (highOf ts) e w'
theorem guess_okT {ws : List Wh} {ns : List Note} (hv : FindOk ws ns) : OkT (guessL ws ns) := fun t ht => by
 have hm : t ∈ allT ws := (List.mem_filter.1 ht).1
 have hf := (mem_allT _ _).1 hm
 have hl := hf.len
 have h2 := hv.two
 have h6 := hv.six
 exact ⟨⟨by omega, by omega⟩, fits_teeth hv.wh hf⟩
theorem guess_many {ws : List Wh} {ns : List Note} (hv : FindOk ws ns) : (guessL ws ns).length ≤ 46656 := Nat.le_trans (List.length_filter_le _ _) hv.many
theorem asked_nil (A N : Option Addr) (wc nc : Nat) (ws : List Wh) (ns : List Note) (w : World) (hf : FindAt w A N ws ns) (hv : FindOk ws ns) (h0 : guessL ws ns = []) :
  Calls Tryz.prog 53 #[.agg #[.slice A ws.length wc, .slice N ns.length nc], .bool true] w (RetN w 7) :=
 (asked_ok A N wc nc ws ns w hf hv).mono fun e w' h => by unfold AskB at h; rwa [if_pos h0] at h
theorem asked_some (A N : Option Addr) (wc nc : Nat) (ws : List Wh) (ns : List Note) (w : World) (hf : FindAt w A N ws ns) (hv : FindOk ws ns) (h0 : ¬ guessL ws ns = []) :
  Calls Tryz.prog 53 #[.agg #[.slice A ws.length wc, .slice N ns.length nc], .bool true] w (RetA w A N ws.length wc ns.length nc (guessL ws ns)) :=
 (asked_ok A N wc nc ws ns w hf hv).mono fun e w' h => by unfold AskB at h; rwa [if_neg h0] at h
set_option maxRecDepth 100000 in
set_option maxHeartbeats 8000000 in
theorem Turns_ok (A N : Option Addr) (wc nc : Nat) (ws : List Wh) (ns : List Note) (ts : List (List Int)) (hts : guessL ws ns = ts) (w : World) (hf : FindAt w A N ws ns) (hv : FindOk ws ns) :
  Calls Tryz.prog 12 #[.agg #[.slice A ws.length wc, .slice N ns.length nc]] w (TurnPost w ts) := by
 have hmf : ∀ (fn : Fn) (first cap : Array Value) (w : World), (Instr.makeFunc fn first cap).run Tryz.prog w = .ok (.func fn first cap) w := fun _ _ _ _ => rfl
 have hb0 := fr_alloc (fr_alloc (fr_alloc (fr_refl w) (.cells #[.slice A ws.length wc, .slice N ns.length nc] 25)) (.cells #[.int .i64 0, .int .i64 0] 40)) (.cells #[.int .i64 0, .int .i64 0] 40)
 have hX := ((Blk.new w 25 #[.slice A ws.length wc, .slice N ns.length nc]).alloc (.cells #[.int .i64 0, .int .i64 0] 40)).alloc (.cells #[.int .i64 0, .int .i64 0] 40)
 have hR1 : Blk (((w.alloc (.cells #[.slice A ws.length wc, .slice N ns.length nc] 25)).alloc (.cells #[.int .i64 0, .int .i64 0] 40)).alloc (.cells #[.int .i64 0, .int .i64 0] 40)) (w.heap.size + 1) 40 #[.int .i64 0, .int .i64 0] := (Blk.new_at _ _ (by simp)).alloc _
 have hR2 : Blk (((w.alloc (.cells #[.slice A ws.length wc, .slice N ns.length nc] 25)).alloc (.cells #[.int .i64 0, .int .i64 0] 40)).alloc (.cells #[.int .i64 0, .int .i64 0] 40)) (w.heap.size + 1 + 1) 40 #[.int .i64 0, .int .i64 0] := Blk.new_at _ _ (by simp)
 replace hf := hf.keep hb0
 have hcX := fun j => hX.cell j
 have hok := guess_okT hv
 have hmany := guess_many hv
 have hask0 := asked_nil A N wc nc ws ns _ hf hv
 have hask1 := asked_some A N wc nc ws ns _ hf hv
 rw [hts] at hok hmany hask0 hask1
 clear hts
 by_cases h0 : ts = []
 ·have hask := hask0 h0
  clear hask0 hask1
  have H0 := Lib.hid h0
  clear h0
  go_enter Tryz.func12, Tryz.ntmps12
  go_wp2_with fail
  refine hask.mono ?_
  rintro e w1 ⟨rfl, hb1⟩
  replace hR1 := hR1.keep hb1
  replace hR2 := hR2.keep hb1
  replace hb0 := fr_call hb0 hb1
  clear hcX
  have hbG := fr_alloc (fr_refl w1) (.cells #[.slice none 0 0, .slice none 0 0, .slice none 0 0] 93)
  replace hR1 := hR1.keep hbG
  replace hR2 := hR2.keep hbG
  replace hb0 := fr_call hb0 hbG
  go_wp2_with (first
   | (refine wpList_store_blk rfl _ _ _ rfl (w.heap.size + 1) 40 _ _ rfl rfl hR1 rfl (by kernel_rfl) (by simp [Value.oneCell']) ?_; intro W5 hR5 hg5; clear hR1; have hR6 := hR2.grown hg5 (by simp))
   | (refine wpList_store_blk rfl _ _ _ rfl (w.heap.size + 1 + 1) 40 _ _ rfl rfl hR6 rfl (by kernel_rfl) (by simp [Value.oneCell']) ?_; intro W6 hR7 hg6; have hR8 := hR5.grown hg6 (by simp)))
  refine bodyPost_ret (results_blk_two1 rfl _ _ _ _ _ _ _ rfl rfl hR8 hR7 Tryz.underlying40 rfl (by kernel_rfl) Tryz.underlying40 rfl (by kernel_rfl)) rfl ?_
  unfold TurnPost
  rw [if_pos H0.out]
  have hb5 := hb0.grown hg5 hb0.size (by intro k hk; cases hk; exact Nat.le_succ _)
  exact ⟨rfl, hb5.grown hg6 hb5.size (by intro k hk; cases hk; exact Nat.le_trans (Nat.le_succ _) (Nat.le_succ _))⟩
 ·have hask := hask1 h0
  clear hask0 hask1
  have H0 := Lib.hid h0
  clear h0
  go_enter Tryz.func12, Tryz.ntmps12
  go_wp2_with fail
  refine hask.mono ?_
  rintro e w1 ⟨L, lc, rfl, hL, hb1⟩
  clear hcX hask
  replace hR1 := hR1.keep hb1
  replace hR2 := hR2.keep hb1
  replace hb0 := fr_call hb0 hb1
  have hbG := fr_alloc (fr_refl w1) (.cells #[.slice A ws.length wc, .slice N ns.length nc, .slice L ts.length lc] 93)
  have hG := Blk.new w1 93 #[.slice A ws.length wc, .slice N ns.length nc, .slice L ts.length lc]
  replace hR1 := hR1.keep hbG
  replace hR2 := hR2.keep hbG
  replace hb0 := fr_call hb0 hbG
  have hT := (hL.ts).keep hbG
  go_wp2_with fail
  have hPm : ∀ x ∈ ts.map fracOf, MoFr x := fun x hx => by
   obtain ⟨t, ht, rfl⟩ := List.mem_map.1 hx
   exact fracOf_mo (hok t ht)
  obtain ⟨w3, hw3⟩ : ∃ w3, w1.alloc (.cells #[.slice A ws.length wc, .slice N ns.length nc, .slice L ts.length lc] 93) = w3 := ⟨_, rfl⟩
  have hlt3 : w1.heap.size < w3.heap.size := by rw [← hw3]; simp
  have hge1 := hb1.size
  rw [hw3] at hR1 hR2 hb0 hG hT ⊢
  clear hw3 hbG hb1 hL hX hf
  refine (best_low (.agg #[.slice A ws.length wc, .slice N ns.length nc, .slice L ts.length lc]) MoFr ltLow bet_low (ts.map fracOf) hPm w3 (fun l P J W hPx hbW hY hJ => turning_any A N L _ _ _ _ lc _ ts w3 hT hok rfl (by omega) l P J W hPx hbW (Nat.le_refl _) hY hJ)).mono ?_
  rintro e w4 ⟨rfl, hb4⟩
  obtain ⟨p, hp⟩ : ∃ p, (bestL ltLow (ts.map fracOf)).getD (0, 0) = p := ⟨_, rfl⟩
  have HP := Lib.hid (show lowOf ts = p from hp)
  rw [hp]
  clear hp
  replace hR1 := hR1.keep hb4
  replace hR2 := hR2.keep hb4
  replace hG := hG.keep hb4
  replace hT := hT.keep hb4
  replace hb0 := fr_call hb0 hb4
  have hge4 := hb4.size
  clear hb4
  have hbP := fr_alloc (fr_refl w4) (.cells #[.int .i64 p.1, .int .i64 p.2] 40)
  have hBP := Blk.new w4 40 #[.int .i64 p.1, .int .i64 p.2]
  replace hR1 := hR1.keep hbP
  replace hR2 := hR2.keep hbP
  replace hG := hG.keep hbP
  replace hT := hT.keep hbP
  replace hb0 := fr_call hb0 hbP
  have hcG := fun j => hG.cell j
  go_wp2_with fail
  obtain ⟨w5, hw5⟩ : ∃ w5, w4.alloc (.cells #[.int .i64 p.1, .int .i64 p.2] 40) = w5 := ⟨_, rfl⟩
  have hlt5 : w4.heap.size < w5.heap.size := by rw [← hw5]; simp
  rw [hw5] at hR1 hR2 hb0 hG hT hBP hcG ⊢
  clear hw5 hbP
  refine (best_high (.agg #[.slice A ws.length wc, .slice N ns.length nc, .slice L ts.length lc]) MoFr ltHigh bet_high (ts.map fracOf) hPm w5 (fun l P J W hPx hbW hY hJ => turning_any A N L _ _ _ _ lc _ ts w5 hT hok rfl (by omega) l P J W hPx hbW (Nat.le_refl _) hY hJ)).mono ?_
  rintro e w6 ⟨rfl, hb6⟩
  obtain ⟨q, hq⟩ : ∃ q, (bestL ltHigh (ts.map fracOf)).getD (0, 0) = q := ⟨_, rfl⟩
  have HQ := Lib.hid (show highOf ts = q from hq)
  rw [hq]
  clear hq
  clear hcG hG hT
  have hbQ := fr_alloc (fr_refl w6) (.cells #[.int .i64 q.1, .int .i64 q.2] 40)
  have hBQ := Blk.new w6 40 #[.int .i64 q.1, .int .i64 q.2]
  replace hR1 := (hR1.keep hb6).keep hbQ
  replace hR2 := (hR2.keep hb6).keep hbQ
  replace hBP := (hBP.keep hb6).keep hbQ
  replace hb0 := fr_call (fr_call hb0 hb6) hbQ
  have hge6 := hb6.size
  clear hb6
  go_wp2_with fail
  clear hbQ
  generalize w6.alloc (.cells #[.int .i64 q.1, .int .i64 q.2] 40) = w7 at *
  generalize w6.heap.size = bQ at *
  generalize w4.heap.size = bP at *
  have n1 : bP ≠ w.heap.size + 1 ∧ bP ≠ w.heap.size + 1 + 1 := by
   have := hge1
   simp only [World.size_alloc] at this
   omega
  have n2 : bQ ≠ w.heap.size + 1 ∧ bQ ≠ w.heap.size + 1 + 1 := by
   have := hge1
   simp only [World.size_alloc] at this
   omega
  clear hge1 hge4 hge6 hlt3 hlt5
  refine wp_region_noPanic ?_
  refine wp_region_held_drew (S := fun W => (∀ j, W.cell? ⟨bP, j, none⟩ = (#[.int .i64 p.1, .int .i64 p.2] : Array Value)[j]?) ∧ (∀ j, W.cell? ⟨bQ, j, none⟩ = (#[.int .i64 q.1, .int .i64 q.2] : Array Value)[j]?)) (by kernel_rfl) ⟨fun j => hBP.cell j, fun j => hBQ.cell j⟩ (fun hHeld => ?_)
  have hA1 := hR1.drew
  have hA2 := hR2.drew
  have hP7 := hBP.drew
  have hQ7 := hBQ.drew
  have hb7 := fr_call hb0 (fr_drew (fr_refl _))
  clear hR1 hR2 hBP hBQ hb0
  -- the region, step by step, in whatever order
  refine wpAnyH_take (i := 0) (oi := ⟨some 25, .load 40 (.tmp 7), 40, "guess.go:313", #[], none⟩) (v := ?_) rfl (by kernel_rfl) (by kernel_rfl) (by kernel_rfl) (fun _ _ _ h => h) (Or.inl ⟨by rfl, fun W hSw => ?_⟩) hHeld ?_
  rotate_left
  ·(try dsimp only at hSw); go_simp; (try with_reducible rfl)
  (try simp only [Act.put, List.setIfInBounds_toArray, List.set_cons_zero, List.set_cons_succ])
  refine wpAnyH_take (i := 1) (oi := ⟨some 26, .load 40 (.tmp 8), 40, "guess.go:313", #[⟨2, .gcOnly .lateStores⟩], none⟩) (v := ?_) rfl (by kernel_rfl) (by kernel_rfl) (by kernel_rfl) (fun _ _ _ h => h) (Or.inl ⟨by rfl, fun W hSw => ?_⟩) hHeld ?_
  rotate_left
  ·(try dsimp only at hSw); go_simp; (try with_reducible rfl)
  (try simp only [Act.put, List.setIfInBounds_toArray, List.set_cons_zero, List.set_cons_succ])
  refine wpAnyH_ready (rs := [2]) (by kernel_rfl) (by simp) ?_
  refine (AllReadyH.cons (o := ⟨none, .store 40 (.tmp 2) (.tmp 25), 0, "guess.go:313", #[⟨0, .data⟩, ⟨0, .phase⟩, ⟨1, .textOnly .lateStores⟩], none⟩) rfl (fun K hK => ?_) AllReadyH.nil)
  rw [if_pos (by rfl)]
  first | (refine wp_store_blk _ _ _ rfl (w.heap.size + 1) 40 _ _ rfl rfl hA1 rfl (by kernel_rfl) (by simp [Value.oneCell']) ?_) | (refine wp_store_blk _ _ _ rfl (w.heap.size + 1) 40 _ _ rfl rfl (hA1.grown hgb (by simp)) rfl (by kernel_rfl) (by simp [Value.oneCell']) ?_)
  intro Wa hCa hga
  (try replace hP7 := hP7.grown hga (by simpa using n1.1))
  (try replace hQ7 := hQ7.grown hga (by simpa using n2.1))
  (try replace hb7 := hb7.grown hga hb7.size (by intro k hk; cases hk; omega))
  refine hK.out _ _ (⟨fun j => hP7.cell j, fun j => hQ7.cell j⟩) (fun hHeld => ?_)
  clear hK K
  refine wpAnyH_ready (rs := [3]) (by kernel_rfl) (by simp) ?_
  refine (AllReadyH.cons (o := ⟨none, .store 40 (.tmp 3) (.tmp 26), 0, "guess.go:313", #[⟨1, .data⟩, ⟨2, .chain⟩, ⟨0, .phase⟩, ⟨1, .phase⟩, ⟨2, .phase⟩], none⟩) rfl (fun K hK => ?_) AllReadyH.nil)
  rw [if_pos (by rfl)]
  first | (refine wp_store_blk _ _ _ rfl (w.heap.size + 1 + 1) 40 _ _ rfl rfl hA2 rfl (by kernel_rfl) (by simp [Value.oneCell']) ?_) | (refine wp_store_blk _ _ _ rfl (w.heap.size + 1 + 1) 40 _ _ rfl rfl (hA2.grown hga (by simp)) rfl (by kernel_rfl) (by simp [Value.oneCell']) ?_)
  intro Wb hCb hgb
  (try replace hP7 := hP7.grown hgb (by simpa using n1.2))
  (try replace hQ7 := hQ7.grown hgb (by simpa using n2.2))
  (try replace hb7 := hb7.grown hgb hb7.size (by intro k hk; cases hk; omega))
  refine hK.out _ _ (⟨fun j => hP7.cell j, fun j => hQ7.cell j⟩) (fun hHeld => ?_)
  clear hK K
  refine wpAnyH_take (i := 4) (oi := ⟨some 4, .assign (.const (.int .i64 0)), 31, "guess.go:313", #[⟨3, .chain⟩, ⟨0, .phase⟩, ⟨1, .phase⟩, ⟨2, .phase⟩, ⟨3, .phase⟩], none⟩) (v := ?_) rfl (by kernel_rfl) (by kernel_rfl) (by kernel_rfl) (fun _ _ _ h => h) (Or.inl ⟨by rfl, fun W hSw => ?_⟩) hHeld ?_
  rotate_left
  ·(try dsimp only at hSw); go_simp; (try with_reducible rfl)
  (try simp only [Act.put, List.setIfInBounds_toArray, List.set_cons_zero, List.set_cons_succ])
  refine wpAnyH_done (by kernel_rfl) ?_ _
  refine NoPanic.normal ?_
  go_wp2_with fail
  first
  | (refine bodyPost_ret (results_blk_two1 rfl _ _ _ _ _ _ _ rfl rfl (hCa.grown hgb (by simp)) hCb Tryz.underlying40 rfl (by kernel_rfl) Tryz.underlying40 rfl (by kernel_rfl)) rfl ?_)
  | (refine bodyPost_ret (results_blk_two1 rfl _ _ _ _ _ _ _ rfl rfl hCa (hCb.grown hga (by simp)) Tryz.underlying40 rfl (by kernel_rfl) Tryz.underlying40 rfl (by kernel_rfl)) rfl ?_)
  unfold TurnPost
  rw [if_neg H0.out, HP.out, HQ.out]
  exact ⟨rfl, hb7⟩
end Go.Proofs.YtfgghicdkcjdgaaGreatDoor
end

section
namespace Go.Proofs.YtfgghicdkcjdgaaGreatDoor
open Go.RowKit Go.Shelf
attribute [local go_sem] Oper.semAt_some

def cmpI (x y : Int) : Int := if x < y then -1 else if y < x then 1 else 0
/-- the order of two lists of the same length -/
def cmpL : List Int → List Int → Int
 | x :: xs, y :: ys => if cmpI x y = 0 then cmpL xs ys else cmpI x y
 | _, _ => 0
set_option maxHeartbeats 400000 in
theorem isNaN_is (x : Int) (w : World) : Calls Tryz.prog 121 #[.int .i64 x] w fun e w' => e = .returned (.bool false) ∧ w = w' := by
 have hx : (x != x) = false := by simp
 go_enter Tryz.func121, Tryz.ntmps121
 go_wp2
 all_goals go_ret
 all_goals exact ⟨ret_bool (by simp), rfl⟩
set_option maxHeartbeats 1000000 in
theorem compare_is (x y : Int) (w : World) : Calls Tryz.prog 70 #[.int .i64 x, .int .i64 y] w fun e w' => e = .returned (.int .i64 (cmpI x y)) ∧ w = w' := by
 rcases Int.lt_trichotomy x y with h | h | h
 ·have hc : cmpI x y = -1 := by unfold cmpI; rw [if_pos h]
  have HC := Lib.hid hc
  clear hc
  go_enter Tryz.func70, Tryz.ntmps70
  go_wp2_with (go_at_call 121; refine (isNaN_is _ _).mono ?_; rintro e w' ⟨rfl, rfl⟩)
  go_ret
  exact ⟨by rw [HC.out]; rfl, rfl⟩
 ·have hc : cmpI x y = 0 := by unfold cmpI; rw [if_neg (by omega), if_neg (by omega)]
  have h1 : ¬ x < y := by omega
  have h2 : ¬ y < x := by omega
  have HC := Lib.hid hc
  clear hc h
  go_enter Tryz.func70, Tryz.ntmps70
  go_wp2_with (go_at_call 121; refine (isNaN_is _ _).mono ?_; rintro e w' ⟨rfl, rfl⟩)
  go_ret
  exact ⟨by rw [HC.out]; rfl, rfl⟩
 ·have hc : cmpI x y = 1 := by unfold cmpI; rw [if_neg (by omega), if_pos h]
  have h1 : ¬ x < y := by omega
  have HC := Lib.hid hc
  clear hc
  go_enter Tryz.func70, Tryz.ntmps70
  go_wp2_with (go_at_call 121; refine (isNaN_is _ _).mono ?_; rintro e w' ⟨rfl, rfl⟩)
  go_ret
  exact ⟨by rw [HC.out]; rfl, rfl⟩
theorem cmpL_drop {xs ys : List Int} {k : Nat} (hx : k < xs.length) (hy : k < ys.length) : cmpL (xs.drop k) (ys.drop k) = if cmpI xs[k] ys[k] = 0 then cmpL (xs.drop (k + 1)) (ys.drop (k + 1)) else cmpI xs[k] ys[k] := by
 rw [List.drop_eq_getElem_cons hx, List.drop_eq_getElem_cons hy]
 rfl
set_option maxRecDepth 100000 in
set_option maxHeartbeats 4000000 in
theorem Compare_any (A C : Option Addr) (n c d : Nat) (xs ys : List Int) (w : World) (hx : Rd w A n xs) (hy : Rd w C n ys) (hn : n ≤ 1000) :
  Calls Tryz.prog 88 #[.slice A n c, .slice C n d] w fun e w' => e = .returned (.int .i64 (cmpL xs ys)) ∧ w = w' := by
 have hlx := hx.len
 have hly := hy.len
 have HLX := Lib.hid hlx
 have HLY := Lib.hid hly
 clear hlx hly
 go_enter Tryz.func88, Tryz.ntmps88
 go_wp2
 go_loopw [11] (fun i wr => ∃ k : Nat, k ≤ n ∧ i = .int .i64 k ∧ w = wr ∧ cmpL (xs.drop k) (ys.drop k) = cmpL xs ys) (fun i _ => n - (intOf i).toNat)
 case atStart => exact ⟨0, Nat.zero_le _, rfl, rfl, by simp⟩
 case round =>
  obtain ⟨k, hk, rfl, rfl, hc⟩ := hrel
  by_cases hlt : k < n
  ·have hkx : k < xs.length := by have := HLX.out; omega
   have hky : k < ys.length := by have := HLY.out; omega
   rw [cmpL_drop hkx hky] at hc
   obtain ⟨ad, rfl, _, kx⟩ := hx.at_ hlt
   obtain ⟨ae, rfl, _, ky⟩ := hy.at_ hlt
   rw [List.getElem?_eq_getElem hkx] at kx
   rw [List.getElem?_eq_getElem hky] at ky
   simp only [Option.getD_some] at kx ky
   have h1 : ¬ n ≤ k := by omega
   clear hx hy
   by_cases h0 : cmpI xs[k] ys[k] = 0
   ·rw [if_pos h0] at hc
    have HC := Lib.hid hc
    have H0 := Lib.hid h0
    clear hc h0
    go_wp2_with (go_at_call 70; refine (compare_is _ _ _).mono ?_; rintro e w' ⟨rfl, rfl⟩; rw [H0.out])
    refine ⟨⟨k + 1, hlt, rfl, trivial, HC.out⟩, ?_⟩
    simp [intOf]; omega
   ·rw [if_neg h0] at hc
    have hb : (cmpI xs[k] ys[k] == 0) = false := by simpa using h0
    have HC := Lib.hid hc
    clear hc h0
    go_wp2_with (go_at_call 70; refine (compare_is _ _ _).mono ?_; rintro e w' ⟨rfl, rfl⟩)
    go_ret
    exact ⟨by rw [HC.out]; rfl, rfl⟩
  ·have h0 : cmpL xs ys = 0 := by
    rw [← hc, List.drop_eq_nil_of_le (by have := HLX.out; omega)]
    rfl
   have HC := Lib.hid h0
   clear hc h0
   go_wp2_with fail
   go_ret
   exact ⟨by rw [HC.out]; rfl, rfl⟩
def ltD (a b : List Int) : Bool := decide (a.length < b.length) || (decide (a.length = b.length) && decide (cmpL a b < 0))
set_option maxHeartbeats 1000000 in
theorem Doubts2_any (A C : Option Addr) (n m c d : Nat) (xs ys : List Int) (w : World) (hx : Rd w A n xs) (hy : Rd w C m ys) (hn : n ≤ 1000) (hm : m ≤ 1000) :
  Calls Tryz.prog 87 #[.slice A n c, .slice C m d] w fun e w' => e = .returned (.bool (ltD xs ys)) ∧ w = w' := by
 have hlx := hx.len
 have hly := hy.len
 rcases Nat.lt_trichotomy n m with h | h | h
 ·have hb : ltD xs ys = true := by unfold ltD; rw [hlx, hly]; simp [h]
  have HB := Lib.hid hb
  clear hb hlx hly
  go_enter Tryz.func87, Tryz.ntmps87
  go_wp2_with fail
  go_ret
  exact ⟨by rw [HB.out]; rfl, rfl⟩
 ·subst h
  have hb : ltD xs ys = decide (cmpL xs ys < 0) := by unfold ltD; rw [hlx, hly]; simp
  have HB := Lib.hid hb
  clear hb hlx hly
  go_enter Tryz.func87, Tryz.ntmps87
  go_wp2_with (go_at_call 88; refine (Compare_any A C n c d xs ys _ hx hy hn).mono ?_; rintro e w' ⟨rfl, rfl⟩)
  all_goals go_ret
  all_goals exact ⟨ret_bool (by simp [HB.out]), rfl⟩
 ·have hb : ltD xs ys = false := by
   unfold ltD
   rw [hlx, hly, decide_eq_false (by omega), decide_eq_false (by omega)]
   rfl
  have h1 : ¬ n < m := by omega
  have h2 : ((n : Int) == (m : Int)) = false := by rw [beq_eq_false_iff_ne]; omega
  have HB := Lib.hid hb
  clear hb hlx hly
  go_enter Tryz.func87, Tryz.ntmps87
  go_wp2_with fail
  go_ret
  exact ⟨by rw [HB.out]; rfl, rfl⟩
end Go.Proofs.YtfgghicdkcjdgaaGreatDoor
end

section
namespace Go.Proofs.YtfgghicdkcjdgaaGreatDoor
open Go.RowKit Go.Shelf
attribute [local go_sem] Oper.semAt_some

/-- a slice that reads as numbers, in a row of numbers -/
def OkI (W : World) (x : List Int) (v : Value) : Prop := ∃ A c, v = .slice A x.length c ∧ RdI W A x.length x
theorem enc_ints (B : Nat) : Enc 34 B OkI := ⟨fun _ _ _ h => let ⟨A, c, e, _⟩ := h; ⟨A, _, c, e⟩, fun _ _ _ _ h k => let ⟨A, c, e, hr⟩ := h; ⟨A, c, e, hr.keep k (by decide)⟩⟩
theorem roundIn_wide {n n' l l' : Nat} {f : FuncId} {tmps : Array Value} {assign body : Code} {w : World} {R : Ending → World → Prop} (h : RoundIn Fence.wide n Tryz.prog l f tmps assign body w R) : RoundIn (Fence.wide.inRound l') n' Tryz.prog l f tmps assign body w R := ⟨h.1, fun c cs _ => h.2 c cs (fun d hd => by cases hd)⟩
/-- what holds between two rounds -/
structure DInv (B : Nat) (w2 : World) (J : List (List Int) → World → Prop) (bY lD l l2 : Nat) (rec : Loop) (ns : List Note) (d : List (List Int)) (W : World) : Prop where
 kp : Keep B (tyF 34) w2 W
 y : Blk W bY 124 #[.func (.yield l) #[] #[]]
 j : J (d.map (breaksL ns)) W
 df : W.heap[lD]? = some (.deferred (some []))
 lp : W.heap[l2]? = some (.loop rec)
set_option maxRecDepth 100000 in
set_option maxHeartbeats 8000000 in
theorem Doubts1_any {H : Nat} (A N : Option Addr) (wc nc bf : Nat) (ws : List Wh) (ns : List Note) (w : World) (hf : FindAt w A N ws ns) (hv : FindOk ws ns) (hB : Blk w bf 25 #[.slice A ws.length wc, .slice N ns.length nc]) (l : Nat) (P : List Int → Prop) (J : List (List Int) → World → Prop) (W : World) (hP : ∀ t, Fits ws t → P (breaksL ns t))
  (hb : Below w.heap.size w W) (hH : H ≤ W.heap.size) (hY : ItY w.heap.size (tyF 34) H 5 l OkI P J) (hJ : J [] W) :
  Calls Tryz.prog 84 #[.func (.yield l) #[] #[], .pointer (some ⟨bf, 0, none⟩)] W fun e W' => e = .returned (.tuple #[]) ∧ J ((allT ws).map (breaksL ns)) W' ∧ Keep w.heap.size (tyF 34) W W' := by
 have hA : ∀ ad, A = some ad → ad.block < w.heap.size := hf.ws.oldA (by rw [List.length_map]; have := hv.two; omega)
 have hb0 := fr_alloc (fr_refl W) (.cells #[.func (.yield l) #[] #[]] 124)
 have hBy := Blk.new W 124 #[.func (.yield l) #[] #[]]
 have hB0 := hB.keep (fr_call hb hb0)
 have hcB := fun j => hB0.cell j
 have hJ0 := hY.below hJ hb0 hH
 refine (callsIn_wide (n := 6)).1 (callsIn_of_wp_marks Tryz.func84 rfl trivial ?_ rfl)
 simp only [Tryz.ntmps84, List.size_toArray, List.length_cons, List.length_nil, Nat.reduceAdd, Nat.reduceSub, Array.replicate_succ, Array.replicate_zero, List.push_toArray, List.append_toArray, List.nil_append, List.cons_append]
 refine wpIn_wide.2 ?_
 go_wp2_with fail
 refine (all_any A N ws.length wc ns.length nc _).mono ?_
 rintro e w2 ⟨rfl, hB2, hb2⟩
 replace hBy := hBy.keep hb2
 have hbw := fr_call (fr_call hb hb0) hb2
 have hJ2 := hY.below hJ0 hb2 (by rw [World.size_alloc]; omega)
 have hkW := (Keep.of_below hb0 (B := w.heap.size) (T := tyF 34)).then_below hb2
 have hsz := hb2.size
 simp only [World.size_alloc] at hB2 hsz ⊢
 clear hb2 hcB hB0 hJ0 hJ
 go_wp2_with fail
 refine (wpIn_wide (n := 6)).1 ?_
 refine wpIn_range_enter (gf := 127) rfl (enters_of Tryz.func127 (by kernel_rfl) rfl) (fun fn rec hst hpe hfn htm hpa has hbod => ?_)
 generalize hl : w2.heap.size + 1 = l2 at *
 obtain ⟨W1, hW1⟩ : ∃ W1, (w2.alloc (.deferred (some []))).alloc (.loop rec) = W1 := ⟨_, rfl⟩
 have hL1 : W1.heap[l2]? = some (.loop rec) := by
  rw [← hW1, ← hl]; have := World.alloc_heap_new (w2.alloc (.deferred (some []))) (.loop rec); rwa [World.size_alloc] at this
 have hD1 : W1.heap[w2.heap.size]? = some (.deferred (some [])) := by
  rw [← hW1]; exact (Below.heap_alloc _ _ _ (by simp)).trans (World.alloc_heap_new w2 _)
 have hb21 : Below w2.heap.size w2 W1 := by rw [← hW1]; exact fr_alloc (fr_alloc (fr_refl _) _) _
 rw [hW1]
 have hsw := hbw.size
 have hH2 : H ≤ w2.heap.size := by omega
 have h0 : DInv w.heap.size w2 J W.heap.size w2.heap.size l l2 rec ns [] W1 :=
  ⟨Keep.of_below hb21, hBy.keep hb21, hY.below hJ2 hb21 hH2, hD1, hL1⟩
 have hlH : w2.heap.size < l2 ∧ H < l2 := by omega
 have hmB : AllY w.heap.size (tyF 34) 5 l2 (allT ws).length ws (DInv w.heap.size w2 J W.heap.size w2.heap.size l l2 rec ns) := by
  refine ⟨by decide, by decide, by decide, by decide, fun d W3 W4 h hb34 => ⟨h.kp.then_below hb34, h.y.keep hb34, hY.below h.j hb34 (Nat.le_trans hH2 h.kp.size), (hb34.block _ (Array.getElem?_eq_some_iff.1 h.df).1).trans h.df, (hb34.block _ (Array.getElem?_eq_some_iff.1 h.lp).1).trans h.lp⟩, ?_⟩
  intro d t A' c V hi hr ht hd
  have hte := fits_teeth hv.wh ht
  have hy := run_yield (P := Tryz.prog) (args := #[.slice A' ws.length c]) hi.lp (by rw [hpa]; rfl)
  rw [hfn, htm, hpa, has, hbod] at hy
  refine ⟨_, _, _, _, hy, roundIn_of_wpIn trivial ?_⟩
  clear hy
  gi_wp2
  refine ⟨_, run_beginRound hi.lp hst, ?_⟩
  have hsV := hi.kp.size
  have hg2 := grownBy_putObj' V l2 (.loop { rec with state := .busy })
  have hkB : Keep w.heap.size (tyF 34) V (V.putObj l2 (.loop { rec with state := .busy })) := keep_put hi.lp rfl (by omega) _
  have hlow : Below H V (V.putObj l2 (.loop { rec with state := .busy })) := ((fr_refl V).mono (by omega)).grown hg2 (by omega) (by intro k hk; cases hk; omega)
  have hjB := hY.keep _ _ _ hi.j hlow hkB
  have hyB := hi.y.grown hg2 (fun e => Obj_cells_ne hi.y hi.lp rfl (by cases e; rfl))
  have hdB : (V.putObj l2 (.loop { rec with state := .busy })).heap[w2.heap.size]? = some (.deferred (some [])) := (World.putObj_heap_other (by omega)).trans hi.df
  have hpB : (V.putObj l2 (.loop { rec with state := .busy })).heap[l2]? = some (.loop { rec with state := .busy }) := World.putObj_heap_same (Array.getElem?_eq_some_iff.1 hi.lp).1
  have hrB := hr.keep hkB (by decide)
  have hkw := hi.kp.trans hkB
  have hrec : ({ rec with state := .ready, pending := none } : Loop) = rec := by
   cases rec
   simp only at hst hpe
   rw [hst, hpe]
  have hszB := hkB.size
  generalize V.putObj l2 (.loop { rec with state := .busy }) = WB at *
  have hwB : Below w.heap.size w WB := hkw.below hbw (Nat.le_refl _) (Nat.le_refl _)
  have hfB := hf.keep hwB
  have hBB := hB.keep hwB
  obtain ⟨rb, hrb⟩ : ∃ r : Loop, { rec with state := .busy } = r := ⟨_, rfl⟩
  rw [hrb] at hpB
  have hPt : P (breaksL ns t) := hP t ht
  have fin : ∀ (WC : World) (a : Act) (r : Loop), r = { rec with state := .busy } → DInv w.heap.size w2 J W.heap.size w2.heap.size l l2 r ns (d ++ [t]) WC → Keep w.heap.size (tyF 34) V WC →
    roundPost Tryz.prog l2 (fun e W' => e = .returned (.bool true) ∧ DInv w.heap.size w2 J W.heap.size w2.heap.size l l2 rec ns (d ++ [t]) W' ∧ Keep w.heap.size (tyF 34) V W') .normal a WC := by
   rintro WC a r rfl hi' hk'
   have hg3 := grownBy_putObj' WC l2 (.loop { { rec with state := .busy } with state := .ready, pending := none })
   have hk2 : Keep w.heap.size (tyF 34) WC (WC.putObj l2 (.loop { { rec with state := .busy } with state := .ready, pending := none })) := keep_put hi'.lp rfl (by omega) _
   have hsC := hi'.kp.size
   refine ⟨_, _, run_endRound none hi'.lp, rfl, ?_, hk'.trans hk2⟩
   exact ⟨hi'.kp.trans hk2, hi'.y.grown hg3 (fun e => Obj_cells_ne hi'.y hi'.lp rfl (by cases e; rfl)), hY.keep _ _ _ hi'.j (((fr_refl WC).mono (by omega)).grown hg3 (by omega) (by intro k hk; cases hk; omega)) hk2, (World.putObj_heap_other (by omega)).trans hi'.df, (World.putObj_heap_same (Array.getElem?_eq_some_iff.1 hi'.lp).1).trans (congrArg some (congrArg Obj.loop hrec))⟩
  have FIN := fun WC a => fin WC a rb hrb.symm
  clear fin hrec hrb hst hpe hi hr htm hpa has hbod hfn
  have hcB := fun j => hBB.cell j
  have hcY := hyB.cell 0
  gi_wp2
  gi_cut [12] from 7 (fun s12 wc => s12 = .bool false ∧ DInv w.heap.size w2 J W.heap.size w2.heap.size l l2 rb ns (d ++ [t]) wc ∧ Keep w.heap.size (tyF 34) V wc)
  case first =>
   have hdr := fr_drew (fr_refl WB)
   have hbr := breaks_any A' N A ws.length c wc nc ws.length t ns WB.drew (hrB.below hdr).1 (hfB.keep hdr).ns hv.six (by have := hv.eight; omega) hte hv.note
   gi_region_with (first
    | (refine ⟨trivial, ?_⟩; gi_at_call 52; refine CallsIn.mono (CallsIn.inRound l2 (callsIn_wide.2 hbr)) ?_; rintro e wC ⟨A1, c1, rfl, hr1, hbC⟩; have hcB2 := fun j => ((hBB.keep hdr).keep hbC).cell j; have hcY2 := ((hyB.keep hdr).keep hbC).cell 0; obtain ⟨fn2, tm2, as2, bo2, hy2, hR2⟩ := hY.yield (d.map (breaksL ns)) (breaksL ns t) (.slice A1 (breaksL ns t).length c1) wC (hY.below hjB (fr_call hdr hbC) (by omega)) hPt ⟨A1, c1, rfl, RdI.of_own hr1⟩)
    | (refine RoundIn.mono (roundIn_wide hR2) ?_; rintro e wY ⟨rfl, hJY, hkY⟩))
   all_goals
    gi_wp2
    gi_meet
    case rel =>
     have hbBC := fr_call hdr hbC
     have hszC := hbBC.size
     refine ⟨rfl, ⟨(hkw.then_below hbBC).trans hkY.k, hkY.k.blk (hyB.keep hbBC) (Or.inr (by decide)), by rw [List.map_append]; exact hJY, ?_, ?_⟩, (hkB.then_below hbBC).trans hkY.k⟩
     ·exact (hkY.hi w2.heap.size hH2 (Nat.lt_of_lt_of_le (Array.getElem?_eq_some_iff.1 hdB).1 hszC)).trans ((hbBC.block _ (Array.getElem?_eq_some_iff.1 hdB).1).trans hdB)
     ·have hlt := (Array.getElem?_eq_some_iff.1 hpB).1
      exact (hkY.hi l2 (by omega) (Nat.lt_of_lt_of_le hlt hszC)).trans ((hbBC.block _ hlt).trans hpB)
  case rest =>
   obtain ⟨rfl, hiC, hkC⟩ := hcut
   clear hcB hcY
   gi_wp2
   exact FIN _ _ hiC hkC
 refine CallsIn.mono (callsIn_wide.2 (all1_any w.heap.size 5 l2 (allT ws).length (tyF 34) ws _ hmB hv.mw (by have := hv.six; omega) A N wc ns.length nc _ W1 (hB2.keep hb21) ((hf.ws.keep hbw).keep hb21) hA h0 (Nat.le_refl _))) ?_
 rintro e V ⟨rfl, hi, hk⟩
 have hsV := hi.kp.size
 have hg4 := grownBy_putObj' V l2 (.loop { rec with state := .exhausted, pending := none })
 have hk4 : Keep w.heap.size (tyF 34) V (V.putObj l2 (.loop { rec with state := .exhausted, pending := none })) := keep_put hi.lp rfl (by omega) _
 have hj4 := hY.keep _ _ _ hi.j (((fr_refl V).mono (by omega)).grown hg4 (by omega) (by intro k hk; cases hk; omega)) hk4
 have hd4 : (V.putObj l2 (.loop { rec with state := .exhausted, pending := none })).heap[w2.heap.size]? = some (.deferred (some [])) := (World.putObj_heap_other (by omega)).trans hi.df
 refine ⟨_, _, run_endLoop hi.lp (by rw [hst]; simp), ?_⟩
 rw [hpe]
 have hkp := hi.kp.trans hk4
 have hs4 := hkp.size
 clear hi hk hk4 hmB h0
 generalize V.putObj l2 (.loop { rec with state := .exhausted, pending := none }) = W4 at *
 go_wp2_with fail
 have hg5 := grownBy_putObj' W4 w2.heap.size (.deferred none)
 have hk5 : Keep w.heap.size (tyF 34) W4 (W4.putObj w2.heap.size (.deferred none)) := keep_put hd4 rfl (by omega) _
 refine ⟨by simp, .inl ⟨_, _, rfl, run_takeDeferred hd4, ?_⟩⟩
 refine ⟨_, results_none rfl _ _ _, rfl, hY.keep _ _ _ hj4 (((fr_refl W4).mono (by omega)).grown hg5 (by omega) (by intro k hk; cases hk; omega)) hk5, (hkW.trans hkp).trans hk5⟩
end Go.Proofs.YtfgghicdkcjdgaaGreatDoor
end

section
namespace Go.Proofs.YtfgghicdkcjdgaaGreatDoor
open Go.RowKit Go.Shelf
attribute [local go_sem] Oper.semAt_some

/-- the fewest notes to doubt -/
def doubtsL (ws : List Wh) (ns : List Note) : List Int := (bestL ltD ((allT ws).map (breaksL ns))).getD []
/-- a list of numbers and an error -/
def RetD (w : World) (k : Int) (xs : List Int) (e : Ending) (w' : World) : Prop := ∃ A c, e = .returned (.tuple #[.slice A xs.length c, .int .i64 k]) ∧ Rd w' A xs.length xs ∧ Below w.heap.size w w'
theorem bet_doubts (w : World) : BetS (fun x : List Int => x.length ≤ 1000) OkI ltD 87 #[] w := by
 rintro x y v u W _ hx hy ⟨A, c, rfl, h1⟩ ⟨C, d, rfl, h2⟩
 refine (Doubts2_any A C _ _ c d x y W h1.1 h2.1 hx hy).mono ?_
 rintro e w' ⟨rfl, rfl⟩
 exact ⟨rfl, fr_refl _⟩
set_option maxRecDepth 100000 in
set_option maxHeartbeats 8000000 in
theorem Doubts_ok (A N : Option Addr) (wc nc : Nat) (ws : List Wh) (ns : List Note) (w : World) (hf : FindAt w A N ws ns) (hv : FindOk ws ns) :
  Calls Tryz.prog 32 #[.agg #[.slice A ws.length wc, .slice N ns.length nc]] w (RetD w 0 (doubtsL ws ns)) := by
 have hmf : ∀ (fn : Fn) (first cap : Array Value) (w : World), (Instr.makeFunc fn first cap).run Tryz.prog w = .ok (.func fn first cap) w := fun _ _ _ _ => rfl
 have hb0 := fr_alloc (fr_refl w) (.cells #[.slice A ws.length wc, .slice N ns.length nc] 25)
 have hX := Blk.new w 25 #[.slice A ws.length wc, .slice N ns.length nc]
 replace hf := hf.keep hb0
 have hs := hv.six
 have h8 := hv.eight
 go_enter Tryz.func32, Tryz.ntmps32
 go_wp2_with fail
 refine (isFind_is A N wc nc ws ns _ hf (by omega) (by omega) hv.mo true hv.find).mono ?_
 rintro e w1 ⟨rfl, hb1⟩
 replace hX := hX.keep hb1
 replace hf := hf.keep hb1
 replace hb0 := fr_call hb0 hb1
 go_wp2_with fail
 have hP : ∀ x ∈ (allT ws).map (breaksL ns), x.length ≤ 1000 := fun x hx => by
  obtain ⟨t, _, rfl⟩ := List.mem_map.1 hx
  have := brk_len ns t ns.length
  unfold breaksL
  omega
 refine (best_ints (.pointer (some ⟨w.heap.size, 0, none⟩)) (fun x => x.length ≤ 1000) OkI ltD ((allT ws).map (breaksL ns)) w1 (enc_ints _) (bet_doubts w1) hP (fun l P J W hPx hbW hY hJ => Doubts1_any A N wc nc w.heap.size ws ns w1 hf hv hX l P J W (fun t ht => hPx _ (List.mem_map.2 ⟨t, (mem_allT _ _).2 ht, rfl⟩)) hbW (Nat.le_refl _) hY hJ)).mono ?_
 rintro e w2 ⟨v, rfl, hO, hb2⟩
 obtain ⟨A2, c2, rfl, hr2⟩ : ∃ A2 c2, v = .slice A2 (doubtsL ws ns).length c2 ∧ Rd w2 A2 (doubtsL ws ns).length (doubtsL ws ns) := by
  unfold doubtsL
  cases hq : bestL ltD ((allT ws).map (breaksL ns)) with
  | none =>
   rw [hq] at hO
   exact ⟨none, 0, hO, Rd.nil_ _ _⟩
  | some y =>
   rw [hq] at hO
   obtain ⟨A2, c2, rfl, hr⟩ := hO
   exact ⟨A2, c2, rfl, hr.1⟩
 clear hO hP hX hf
 go_wp2_with fail
 go_ret2
 exact ⟨A2, c2, rfl, hr2, fr_call hb0 hb2⟩
end Go.Proofs.YtfgghicdkcjdgaaGreatDoor
end

section
namespace Go.Proofs.YtfgghicdkcjdgaaGreatDoor
open Go.RowKit Go.Shelf
attribute [local go_sem] Oper.semAt_some

theorem prL_top {xs : List Int} (h : ∀ x ∈ xs, 1 ≤ x ∧ x ≤ 60) : ∀ k, k ≤ xs.length → (prL xs k).natAbs ≤ 60 ^ k
 | 0, _ => by simp [prL]
 | k + 1, hk => by
  have h1 := prL_top h k (by omega)
  have h2 := h xs[k] (List.getElem_mem (by omega))
  unfold prL
  rw [List.getElem?_eq_getElem (by omega), Option.getD_some, Int.natAbs_mul, Nat.pow_succ]
  exact Nat.mul_le_mul h1 (by omega)
theorem turn_bd {ps : List Wh} (h : TeethP ps) (hn : ps.length ≤ 3) : (1 ≤ turnD ps ∧ turnD ps ≤ 216000) ∧ 1 ≤ turnV ps ∧ turnV ps ≤ 216000 := by
 have hp := pr_facts h (by omega)
 have hpow : (60 : Nat) ^ ps.length ≤ 216000 := Nat.le_trans (Nat.pow_le_pow_right (by omega) hn) (by decide)
 have h1 := prL_top (xs := losOf ps) (fun x hx => by obtain ⟨p, hp, rfl⟩ := List.mem_map.1 hx; have := (h p hp).1; omega) ps.length (by simp [losOf])
 have h2 := prL_top (xs := hisOf ps) (fun x hx => by obtain ⟨p, hp, rfl⟩ := List.mem_map.1 hx; have := (h p hp).2; omega) ps.length (by simp [hisOf])
 rw [hp.1.1] at h1
 rw [hp.1.2] at h2
 have hg1 : Nat.gcd (prD ps) (prV ps) ≤ prD ps := Nat.gcd_le_left _ hp.2.1.1
 have hg2 : Nat.gcd (prD ps) (prV ps) ≤ prV ps := Nat.gcd_le_right _ hp.2.2.1
 have hg0 : 0 < Nat.gcd (prD ps) (prV ps) := Nat.gcd_pos_of_pos_left _ hp.2.1.1
 have hd : turnD ps ≤ prD ps := Nat.div_le_self _ _
 have hv : turnV ps ≤ prV ps := Nat.div_le_self _ _
 have hd1 : 1 ≤ turnD ps := Nat.div_pos hg1 hg0
 have hv1 : 1 ≤ turnV ps := Nat.div_pos hg2 hg0
 omega
theorem abs_mul {a b : Int} {A B : Nat} (ha : a.natAbs ≤ A) (hb : b.natAbs ≤ B) : (a * b).natAbs ≤ A * B := by rw [Int.natAbs_mul]; exact Nat.mul_le_mul ha hb
def cmpF (x y : Int × Int) : Int := x.1 * y.2 - y.1 * x.2
set_option maxHeartbeats 1000000 in
theorem tcompare_is (x y : Int × Int) (w : World) (A B C D : Nat) (h1 : x.1.natAbs ≤ A) (h2 : x.2.natAbs ≤ B) (h3 : y.1.natAbs ≤ C) (h4 : y.2.natAbs ≤ D) (hAD : A * D ≤ 1000000000000000000) (hCB : C * B ≤ 1000000000000000000) :
  Calls Tryz.prog 71 #[.agg #[.int .i64 x.1, .int .i64 x.2], .agg #[.int .i64 y.1, .int .i64 y.2]] w fun e w' => e = .returned (.int .i64 (cmpF x y)) ∧ Below w.heap.size w w' := by
 have m1 := abs_mul h1 h4
 have m2 := abs_mul h3 h2
 have q1 : IntKind.i64.wrap (x.1 * y.2) = x.1 * y.2 := IntWalk.i64_in _ (by omega)
 have q2 : IntKind.i64.wrap (y.1 * x.2) = y.1 * x.2 := IntWalk.i64_in _ (by omega)
 have q3 : IntKind.i64.wrap (x.1 * y.2 - y.1 * x.2) = x.1 * y.2 - y.1 * x.2 := IntWalk.i64_in _ (by omega)
 have hX := (Blk.new w 40 #[.int .i64 x.1, .int .i64 x.2]).alloc (.cells #[.int .i64 y.1, .int .i64 y.2] 40)
 have hcX := fun j => hX.cell j
 clear h1 h2 h3 h4 hAD hCB m1 m2
 go_enter Tryz.func71, Tryz.ntmps71
 go_wp2_with fail
 go_ret
 exact ⟨by rw [cmpF]; rfl, fr_alloc (fr_alloc (fr_refl _) _) _⟩
def distF (x f : Int × Int) : Int × Int := (((cmpF x f).natAbs : Int), x.2)
theorem abs_max (n : Int) : (if n < -n then -n else n) = (n.natAbs : Int) := by split <;> omega
set_option maxHeartbeats 1000000 in
theorem distance_is (x f : Int × Int) (w : World) (h1 : x.1.natAbs ≤ 216000) (h2 : x.2.natAbs ≤ 216000) (h3 : f.1.natAbs ≤ 50000) (h4 : f.2.natAbs ≤ 50000) :
  Calls Tryz.prog 72 #[.agg #[.int .i64 x.1, .int .i64 x.2], .agg #[.int .i64 f.1, .int .i64 f.2]] w (RetF w (distF x f).1 (distF x f).2) := by
 have m1 := abs_mul h1 h4
 have m2 := abs_mul h3 h2
 have hn : (cmpF x f).natAbs ≤ 21600000000 := by unfold cmpF; omega
 have hb0 := fr_alloc (fr_alloc (fr_alloc (fr_refl w) (.cells #[.int .i64 x.1, .int .i64 x.2] 40)) (.cells #[.int .i64 f.1, .int .i64 f.2] 40)) (.cells #[.int .i64 0, .int .i64 0] 40)
 have hX := ((Blk.new w 40 #[.int .i64 x.1, .int .i64 x.2]).alloc (.cells #[.int .i64 f.1, .int .i64 f.2] 40)).alloc (.cells #[.int .i64 0, .int .i64 0] 40)
 have hF : Blk (((w.alloc (.cells #[.int .i64 x.1, .int .i64 x.2] 40)).alloc (.cells #[.int .i64 f.1, .int .i64 f.2] 40)).alloc (.cells #[.int .i64 0, .int .i64 0] 40)) (w.heap.size + 1) 40 #[.int .i64 f.1, .int .i64 f.2] := (Blk.new_at _ _ (by simp)).alloc _
 have hR : Blk (((w.alloc (.cells #[.int .i64 x.1, .int .i64 x.2] 40)).alloc (.cells #[.int .i64 f.1, .int .i64 f.2] 40)).alloc (.cells #[.int .i64 0, .int .i64 0] 40)) (w.heap.size + 1 + 1) 40 #[.int .i64 0, .int .i64 0] := Blk.new_at _ _ (by simp)
 have hcX := fun j => hX.cell j
 have hcF := fun j => hF.cell j
 have hc := tcompare_is x f (((w.alloc (.cells #[.int .i64 x.1, .int .i64 x.2] 40)).alloc (.cells #[.int .i64 f.1, .int .i64 f.2] 40)).alloc (.cells #[.int .i64 0, .int .i64 0] 40)) _ _ _ _ h1 h2 h3 h4 (by omega) (by omega)
 clear h1 h2 h3 h4 m1 m2
 go_enter Tryz.func72, Tryz.ntmps72
 go_wp2_with fail
 refine hc.mono ?_
 rintro e w1 ⟨rfl, hb1⟩
 clear hc hcX hcF
 obtain ⟨n, hnn⟩ : ∃ n, cmpF x f = n := ⟨_, rfl⟩
 have HN := Lib.hid hnn
 rw [hnn] at hn ⊢
 clear hnn
 have q1 : IntKind.i64.wrap (-n) = -n := IntWalk.i64_in _ (by omega)
 replace hX := hX.keep hb1
 replace hR := hR.keep hb1
 replace hb0 := fr_call hb0 hb1
 have hcX := fun j => hX.cell j
 clear hb1
 go_wp2_with (refine wpList_store_blk rfl _ _ _ rfl (w.heap.size + 1 + 1) 40 _ _ rfl rfl hR rfl (by kernel_rfl) (by simp [Value.oneCell']) ?_; intro W2 hR2 hg2)
 all_goals
  refine bodyPost_ret (results_blk1 rfl _ _ _ _ rfl hR2 Tryz.underlying40 rfl (by kernel_rfl)) rfl ?_
  refine ⟨?_, hb0.grown hg2 hb0.size (by intro k hk; cases hk; omega)⟩
  unfold distF
  rw [HN.out]
  simp only [abs_max]
end Go.Proofs.YtfgghicdkcjdgaaGreatDoor
end

section
namespace Go.Proofs.YtfgghicdkcjdgaaGreatDoor
open Go.RowKit Go.Shelf
attribute [local go_sem] Oper.semAt_some

def FracOk (f : Int × Int) : Prop := (0 ≤ f.1 ∧ f.1 ≤ 50000) ∧ 1 ≤ f.2 ∧ f.2 ≤ 50000
set_option maxHeartbeats 1000000 in
theorem tisFraction_yes (f : Int × Int) (w : World) (h : FracOk f) :
  Calls Tryz.prog 69 #[.agg #[.int .i64 f.1, .int .i64 f.2]] w fun e w' => e = .returned (.bool true) ∧ Below w.heap.size w w' := by
 have hX := Blk.new w 40 #[.int .i64 f.1, .int .i64 f.2]
 have hcX := fun j => hX.cell j
 have h1 : inB f.1 0 50000 = true := inB_yes h.1
 have h2 : inB f.2 1 50000 = true := inB_yes h.2
 clear h
 go_enter Tryz.func69, Tryz.ntmps69
 go_wp2_with fail
 refine (tin_is f.1 0 50000 _ true h1).mono ?_
 rintro e w' ⟨rfl, rfl⟩
 go_wp2_with fail
 refine (tin_is f.2 1 50000 _ true h2).mono ?_
 rintro e w' ⟨rfl, rfl⟩
 go_wp2_with fail
 go_ret
 exact ⟨rfl, fr_alloc (fr_refl _) _⟩
def fracP (p : List Wh) : Int × Int := ((turnD p : Int), (turnV p : Int))
/-- whether a train is nearer to a fraction than another -/
def nearI (f : Int × Int) (p q : List Wh) : Int := cmpI (cmpF (distF (fracP p) f) (distF (fracP q) f)) 0
theorem dist_bd {p : List Wh} {f : Int × Int} (h : TeethP p) (hn : p.length ≤ 3) (hf : FracOk f) : (distF (fracP p) f).1.natAbs ≤ 21600000000 ∧ (distF (fracP p) f).2.natAbs ≤ 216000 := by
 have hb := turn_bd h hn
 have h1 : (fracP p).1.natAbs ≤ 216000 := by unfold fracP; simp only; omega
 have h2 : (fracP p).2.natAbs ≤ 216000 := by unfold fracP; simp only; omega
 have m1 := abs_mul h1 (show f.2.natAbs ≤ 50000 by have := hf.2; omega)
 have m2 := abs_mul (show f.1.natAbs ≤ 50000 by have := hf.1; omega) h2
 constructor
 ·unfold distF cmpF
  simp only
  omega
 ·exact h2
set_option maxRecDepth 100000 in
set_option maxHeartbeats 8000000 in
theorem Nearer_ok (f : Int × Int) (A C : Option Addr) (n m c d : Nat) (p q : List Wh) (w : World) (hf : FracOk f) (hp : RdS w A 2 (p.map Wh.cells)) (hq : RdS w C 2 (q.map Wh.cells)) (hpl : p.length = n) (hql : q.length = m) (hn : 1 ≤ n ∧ n ≤ 3) (hm : 1 ≤ m ∧ m ≤ 3) (htp : TeethP p) (htq : TeethP q) :
  Calls Tryz.prog 23 #[.agg #[.int .i64 f.1, .int .i64 f.2], .slice A n c, .slice C m d] w fun e w' => e = .returned (.tuple #[.int .i64 (nearI f p q), .int .i64 0]) ∧ Below w.heap.size w w' := by
 have hb0 := fr_alloc (fr_refl w) (.cells #[.int .i64 f.1, .int .i64 f.2] 40)
 have hX := Blk.new w 40 #[.int .i64 f.1, .int .i64 f.2]
 have hcX0 := fun j => hX.cell j
 replace hp := hp.keep hb0
 replace hq := hq.keep hb0
 go_enter Tryz.func23, Tryz.ntmps23
 go_wp2_with fail
 refine (tisFraction_yes f _ hf).mono ?_
 rintro e w1 ⟨rfl, hb1⟩
 replace hX := hX.keep hb1
 replace hp := hp.keep hb1
 replace hq := hq.keep hb1
 replace hb0 := fr_call hb0 hb1
 go_wp2_with fail
 refine (isTrain_yes A n c p _ hp hpl hn.1 hn.2 htp).mono ?_
 rintro e w2 ⟨rfl, hb2⟩
 replace hX := hX.keep hb2
 replace hp := hp.keep hb2
 replace hq := hq.keep hb2
 replace hb0 := fr_call hb0 hb2
 go_wp2_with fail
 refine (isTrain_yes C m d q _ hq hql hm.1 hm.2 htq).mono ?_
 rintro e w3 ⟨rfl, hb3⟩
 replace hX := hX.keep hb3
 replace hp := hp.keep hb3
 replace hq := hq.keep hb3
 replace hb0 := fr_call hb0 hb3
 clear hcX0 hb1 hb2 hb3
 have hcX := fun j => hX.cell j
 go_wp2_with fail
 have hlX := hX.lt
 have hbp := turn_bd htp (by omega)
 have hbq := turn_bd htq (by omega)
 have hdp := dist_bd htp (by omega) hf
 have hdq := dist_bd htq (by omega) hf
 have hf1 : f.1.natAbs ≤ 50000 := by have := hf.1; omega
 have hf2 : f.2.natAbs ≤ 50000 := by have := hf.2; omega
 refine wp_region_noPanic ?_
 refine wp_region_held_drew (S := fun W => (∀ p : Addr, p.block < (w3).heap.size → W.cell? p = (w3).cell? p) ∧ Below (w3).heap.size (w3) W) (by kernel_rfl) ⟨fun _ _ => rfl, fr_drew (fr_refl _)⟩ (fun hHeld => ?_)
 -- the region, step by step, in whatever order
 refine wpAnyH_take (i := 0) (oi := ⟨some 21, .move (.tmp 1), 26, "train.go:134", #[], none⟩) (v := ?_) rfl (by kernel_rfl) (by kernel_rfl) (by kernel_rfl) (fun _ _ _ h => h) (Or.inl ⟨by rfl, fun W hSw => ?_⟩) hHeld ?_
 rotate_left
 ·(try dsimp only at hSw); go_simp; (try with_reducible rfl)
 (try simp only [Act.put, List.setIfInBounds_toArray, List.set_cons_zero, List.set_cons_succ])
 refine wpAnyH_take (i := 2) (oi := ⟨some 23, .load 40 (.tmp 3), 40, "train.go:134", #[], none⟩) (v := ?_) rfl (by kernel_rfl) (by kernel_rfl) (by kernel_rfl) (fun _ _ _ h => h) (Or.inl ⟨by rfl, fun W hSw => ?_⟩) hHeld ?_
 rotate_left
 ·(try dsimp only at hSw); go_simp; (try with_reducible rfl)
 (try simp only [Act.put, List.setIfInBounds_toArray, List.set_cons_zero, List.set_cons_succ])
 refine wpAnyH_take (i := 4) (oi := ⟨some 25, .move (.tmp 2), 26, "train.go:134", #[], none⟩) (v := ?_) rfl (by kernel_rfl) (by kernel_rfl) (by kernel_rfl) (fun _ _ _ h => h) (Or.inl ⟨by rfl, fun W hSw => ?_⟩) hHeld ?_
 rotate_left
 ·(try dsimp only at hSw); go_simp; (try with_reducible rfl)
 (try simp only [Act.put, List.setIfInBounds_toArray, List.set_cons_zero, List.set_cons_succ])
 refine wpAnyH_take (i := 6) (oi := ⟨some 27, .load 40 (.tmp 3), 40, "train.go:134", #[], none⟩) (v := ?_) rfl (by kernel_rfl) (by kernel_rfl) (by kernel_rfl) (fun _ _ _ h => h) (Or.inl ⟨by rfl, fun W hSw => ?_⟩) hHeld ?_
 rotate_left
 ·(try dsimp only at hSw); go_simp; (try with_reducible rfl)
 (try simp only [Act.put, List.setIfInBounds_toArray, List.set_cons_zero, List.set_cons_succ])
 refine wpAnyH_ready (rs := [1]) (by kernel_rfl) (by simp) ?_
 refine (AllReadyH.cons (o := ⟨some 22, .call { callee := .value (.func 59), args := #[.tmp 21], argTypes := #[26] }, 40, "train.go:134", #[⟨0, .data⟩], none⟩) rfl (fun K hK => ?_) AllReadyH.nil)
 rw [if_pos (by rfl)]
 go_simp
 refine (turns_any A n c p _ (hp.keep hHeld.2) hpl hn.2 htp).mono ?_
 rintro e' WA ⟨rfl, hbA⟩
 refine hK.out _ _ (kp_step hbA hHeld) (fun hHeld => ?_)
 clear hK K
 (try simp only [Act.put, List.setIfInBounds_toArray, List.set_cons_zero, List.set_cons_succ])
 refine wpAnyH_ready (rs := [3]) (by kernel_rfl) (by simp) ?_
 refine (AllReadyH.cons (o := ⟨some 24, .call { callee := .value (.func 72), args := #[.tmp 22, .tmp 23], argTypes := #[40, 40] }, 40, "train.go:134", #[⟨1, .data⟩, ⟨2, .data⟩, ⟨1, .chain⟩], none⟩) rfl (fun K hK => ?_) AllReadyH.nil)
 rw [if_pos (by rfl)]
 go_simp
 refine (distance_is (fracP p) f _ (by unfold fracP; simp only; omega) (by unfold fracP; simp only; omega) hf1 hf2).mono ?_
 rintro e' WB ⟨rfl, hbB⟩
 refine hK.out _ _ (kp_step hbB hHeld) (fun hHeld => ?_)
 clear hK K
 (try simp only [Act.put, List.setIfInBounds_toArray, List.set_cons_zero, List.set_cons_succ])
 refine wpAnyH_ready (rs := [5]) (by kernel_rfl) (by simp) ?_
 refine (AllReadyH.cons (o := ⟨some 26, .call { callee := .value (.func 59), args := #[.tmp 25], argTypes := #[26] }, 40, "train.go:134", #[⟨4, .data⟩, ⟨3, .chain⟩], none⟩) rfl (fun K hK => ?_) AllReadyH.nil)
 rw [if_pos (by rfl)]
 go_simp
 refine (turns_any C m d q _ (hq.keep hHeld.2) hql hm.2 htq).mono ?_
 rintro e' WC ⟨rfl, hbC⟩
 refine hK.out _ _ (kp_step hbC hHeld) (fun hHeld => ?_)
 clear hK K
 (try simp only [Act.put, List.setIfInBounds_toArray, List.set_cons_zero, List.set_cons_succ])
 refine wpAnyH_ready (rs := [7]) (by kernel_rfl) (by simp) ?_
 refine (AllReadyH.cons (o := ⟨some 28, .call { callee := .value (.func 72), args := #[.tmp 26, .tmp 27], argTypes := #[40, 40] }, 40, "train.go:134", #[⟨5, .data⟩, ⟨6, .data⟩, ⟨5, .chain⟩], none⟩) rfl (fun K hK => ?_) AllReadyH.nil)
 rw [if_pos (by rfl)]
 go_simp
 refine (distance_is (fracP q) f _ (by unfold fracP; simp only; omega) (by unfold fracP; simp only; omega) hf1 hf2).mono ?_
 rintro e' WD ⟨rfl, hbD⟩
 refine hK.out _ _ (kp_step hbD hHeld) (fun hHeld => ?_)
 clear hK K
 (try simp only [Act.put, List.setIfInBounds_toArray, List.set_cons_zero, List.set_cons_succ])
 refine wpAnyH_ready (rs := [8]) (by kernel_rfl) (by simp) ?_
 refine (AllReadyH.cons (o := ⟨some 29, .call { callee := .value (.func 71), args := #[.tmp 24, .tmp 28], argTypes := #[40, 40] }, 3, "train.go:134", #[⟨3, .data⟩, ⟨7, .data⟩, ⟨7, .chain⟩], none⟩) rfl (fun K hK => ?_) AllReadyH.nil)
 rw [if_pos (by rfl)]
 go_simp
 refine (tcompare_is (distF (fracP p) f) (distF (fracP q) f) _ _ _ _ _ hdp.1 hdp.2 hdq.1 hdq.2 (by omega) (by omega)).mono ?_
 rintro e' WE ⟨rfl, hbE⟩
 refine hK.out _ _ (kp_step hbE hHeld) (fun hHeld => ?_)
 clear hK K
 (try simp only [Act.put, List.setIfInBounds_toArray, List.set_cons_zero, List.set_cons_succ])
 refine wpAnyH_ready (rs := [9]) (by kernel_rfl) (by simp) ?_
 refine (AllReadyH.cons (o := ⟨some 30, .call { callee := .value (.func 70), args := #[.tmp 29, .const (.int .i64 0)], argTypes := #[3, 3] }, 3, "train.go:134", #[⟨8, .data⟩, ⟨8, .chain⟩], none⟩) rfl (fun K hK => ?_) AllReadyH.nil)
 rw [if_pos (by rfl)]
 go_simp
 refine (compare_is _ _ _).mono ?_
 rintro e' WF ⟨rfl, rfl⟩
 refine hK.out _ _ (hHeld) (fun hHeld => ?_)
 clear hK K
 (try simp only [Act.put, List.setIfInBounds_toArray, List.set_cons_zero, List.set_cons_succ])
 refine wpAnyH_take (i := 10) (oi := ⟨some 6, .assign (.tmp 30), 3, "train.go:134", #[⟨9, .data⟩, ⟨9, .chain⟩, ⟨0, .phase⟩, ⟨1, .phase⟩, ⟨2, .phase⟩, ⟨3, .phase⟩, ⟨4, .phase⟩, ⟨5, .phase⟩, ⟨6, .phase⟩, ⟨7, .phase⟩, ⟨8, .phase⟩, ⟨9, .phase⟩], none⟩) (v := ?_) rfl (by kernel_rfl) (by kernel_rfl) (by kernel_rfl) (fun _ _ _ h => h) (Or.inl ⟨by rfl, fun W hSw => ?_⟩) hHeld ?_
 rotate_left
 ·(try dsimp only at hSw); go_simp; (try with_reducible rfl)
 (try simp only [Act.put, List.setIfInBounds_toArray, List.set_cons_zero, List.set_cons_succ])
 refine wpAnyH_take (i := 11) (oi := ⟨some 7, .assign (.const (.int .i64 0)), 31, "train.go:134", #[⟨10, .chain⟩, ⟨0, .phase⟩, ⟨1, .phase⟩, ⟨2, .phase⟩, ⟨3, .phase⟩, ⟨4, .phase⟩, ⟨5, .phase⟩, ⟨6, .phase⟩, ⟨7, .phase⟩, ⟨8, .phase⟩, ⟨9, .phase⟩, ⟨10, .phase⟩], none⟩) (v := ?_) rfl (by kernel_rfl) (by kernel_rfl) (by kernel_rfl) (fun _ _ _ h => h) (Or.inl ⟨by rfl, fun W hSw => ?_⟩) hHeld ?_
 rotate_left
 ·(try dsimp only at hSw); go_simp; (try with_reducible rfl)
 (try simp only [Act.put, List.setIfInBounds_toArray, List.set_cons_zero, List.set_cons_succ])
 refine wpAnyH_done (by kernel_rfl) ?_ _
 refine NoPanic.normal ?_
 go_wp2_with fail
 go_ret2
 exact ⟨rfl, fr_call hb0 hHeld.2⟩
end Go.Proofs.YtfgghicdkcjdgaaGreatDoor
end

section
namespace Go.Proofs.YtfgghicdkcjdgaaGreatDoor
open Go.RowKit Go.Shelf
attribute [local go_sem] Oper.semAt_some

/-- a slice that reads as wheels, in a row of wheels -/
def OkP (W : World) (x : List Wh) (v : Value) : Prop := ∃ A c, v = .slice A x.length c ∧ RdP W A x
theorem enc_pairs (B : Nat) : Enc 26 B OkP := ⟨fun _ _ _ h => let ⟨A, c, e, _⟩ := h; ⟨A, _, c, e⟩, fun _ _ _ _ h k => let ⟨A, c, e, hr⟩ := h; ⟨A, c, e, hr.move k.size (fun _ _ _ ho => k.same _ _ ho (Or.inr ⟨_, _, _, rfl, by decide⟩))⟩⟩
def OkPs (x : List Wh) : Prop := (1 ≤ x.length ∧ x.length ≤ 3) ∧ TeethP x
def ltN (f : Int × Int) (p q : List Wh) : Bool := decide (nearI f p q < 0)
set_option maxHeartbeats 1000000 in
theorem bet_near (f : Int × Int) (hf : FracOk f) (bx : Nat) (w : World) (hX : Blk w bx 40 #[.int .i64 f.1, .int .i64 f.2]) : BetS OkPs OkP (ltN f) 65 #[.pointer (some ⟨bx, 0, none⟩)] w := by
 rintro x y v u W hb hx hy ⟨A, c, rfl, h1⟩ ⟨C, d, rfl, h2⟩
 replace hX := hX.keep hb
 have hcX := fun j => hX.cell j
 have hn := Nearer_ok f A C _ _ c d x y W hf h1.1 h2.1 rfl rfl hx.1 hy.1 hx.2 hy.2
 clear h1 h2 hx hy
 change Calls _ _ #[.slice A x.length c, .slice C y.length d, .pointer (some ⟨bx, 0, none⟩)] _ _
 go_enter Tryz.func65, Tryz.ntmps65
 go_wp2_with fail
 refine hn.mono ?_
 rintro e w1 ⟨rfl, hb1⟩
 go_wp2_with fail
 all_goals go_ret
 all_goals exact ⟨ret_bool (by simp [ltN]), hb1⟩
set_option maxRecDepth 100000 in
set_option maxHeartbeats 8000000 in
theorem Nearest1_any {T : TypeId → Bool} {H : Nat} (A N L : Option Addr) (bg nw wc nn nc lc n : Nat) (ts : List (List Int)) (w : World) (hG : Blk w bg 93 #[.slice A nw wc, .slice N nn nc, .slice L n lc]) (hT : TsAt w L ts) (hts : OkT ts) (hl : ts.length = n) (hn : n ≤ 50000) (l : Nat) (P : List Wh → Prop) (J : List (List Wh) → World → Prop) (W : World) (hP : ∀ x ∈ ts.map pairsOf, P x)
  (hb : Below w.heap.size w W) (hH : H ≤ W.heap.size) (hY : ItY w.heap.size T H 5 l OkP P J) (hJ : J [] W) :
  Calls Tryz.prog 62 #[.func (.yield l) #[] #[], .pointer (some ⟨bg, 0, none⟩)] W fun e W' => e = .returned (.tuple #[]) ∧ J (ts.map pairsOf) W' ∧ Keep w.heap.size T W W' := by
 have HL := Lib.hid hl
 clear hl
 refine (callsIn_wide (n := 6)).1 ?_
 refine callsIn_of_wp Tryz.func62 rfl trivial ?_ rfl
 simp only [Tryz.ntmps62, List.size_toArray, List.length_cons, List.length_nil, Nat.reduceAdd, Nat.reduceSub, Array.replicate_succ, Array.replicate_zero, List.push_toArray, List.append_toArray, List.nil_append, List.cons_append]
 have hX := hG.keep hb
 have hcX := fun j => hX.cell j
 gi_wp2
 gi_loopw [8] (fun p wr => ∃ k : Nat, k ≤ n ∧ p = .int .i64 k ∧ J ((ts.map pairsOf).take k) wr ∧ Keep w.heap.size T W wr) (fun p _ => n - (intOf p).toNat)
 case atStart => exact ⟨0, Nat.zero_le _, rfl, by simpa using hJ, Keep.refl _ _ _⟩
 case round =>
  obtain ⟨k, hk, rfl, hJk, hkk⟩ := hrel
  by_cases hlt : k < n
  ·have hkl : k < ts.length := by have := HL.out; omega
   have hbw := hkk.below hb (Nat.le_refl _) (Nat.le_refl _)
   obtain ⟨ad, A', c', rfl, hab, hc, hr⟩ := (hT.keep hbw).at_ hkl
   have hok := hts _ (List.getElem_mem hkl)
   have hb6 := hok.1.2
   clear hcX hX hG hJ hT hok hts
   gi_wp2
   refine ⟨trivial, ?_⟩
   refine CallsIn.mono (callsIn_wide.2 (train_any A' _ c' ts[k] wr hr (by omega))) ?_
   rintro e w1 ⟨A1, c1, rfl, ho1, hb1⟩
   have hJ1 := hY.below hJk hb1 (Nat.le_trans hH hkk.size)
   have hk1 := hkk.then_below hb1
   obtain ⟨fn, tmps, assign, body, hy, hR⟩ := hY.yield _ (pairsOf ts[k]) _ w1 hJ1 (hP _ (List.mem_map.2 ⟨_, List.getElem_mem hkl, rfl⟩)) ⟨A1, c1, rfl, RdP.of_own ho1⟩
   gi_wp2
   refine hR.mono ?_
   rintro e w2 ⟨rfl, hJ2, hk2⟩
   gi_wp2
   refine ⟨⟨k + 1, hlt, rfl, ?_, hk1.trans hk2.k⟩, ?_⟩
   ·rw [List.take_succ_eq_append_getElem (by simpa using hkl), List.getElem_map]
    exact hJ2
   ·simp [intOf]; omega
  ·have hkn : (ts.map pairsOf).take k = ts.map pairsOf := List.take_of_length_le (by have := HL.out; simp; omega)
   rw [hkn] at hJk
   gi_wp2
   go_end0
   exact ⟨rfl, hJk, hkk⟩
end Go.Proofs.YtfgghicdkcjdgaaGreatDoor
end
