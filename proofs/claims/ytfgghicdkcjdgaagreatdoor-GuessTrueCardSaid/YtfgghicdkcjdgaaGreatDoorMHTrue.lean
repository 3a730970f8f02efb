/- The law GuessTrue, walked (by gen_true.py). The statement of GuessTrue: for every input the law returns true, and the input reads behind the call as it did; the listed table is tied to the program's text. No condition of its own. -/
import Derived.Test.YtfgghicdkcjdgaaGreatDoorMG31
import Derived.Test.YtfgghicdkcjdgaaGreatDoorMG13
import Derived.Test.YtfgghicdkcjdgaaGreatDoorMG20
import Derived.Test.YtfgghicdkcjdgaaGreatDoorMG21
import Derived.Test.YtfgghicdkcjdgaaGreatDoorRows
import Derived.Test.YtfgghicdkcjdgaaGreatDoorCards
import Derived.Test.YtfgghicdkcjdgaaGreatDoorTie
import Derived.SevenTiedAt
section
namespace Go.Proofs.YtfgghicdkcjdgaaGreatDoor
open Go.RowKit Go.Shelf

set_option maxRecDepth 100000 in
set_option maxHeartbeats 16000000 in
theorem true_true (A N C : Option Addr) (c d i : Nat) (ws : List Wh) (ns : List Note) (x : List Wh) (w : World) (hf0 : FindAt w A N ws ns) (hx0 : RdS w C 2 (x.map Wh.cells)) (hT : TabP w) (hM : MaxP w) :
  Calls Tryz.prog 3 #[.agg #[.slice A ws.length c, .slice N ns.length d], .slice C x.length i] w fun e' w' => e' = .returned (.bool true) ∧ Below w.heap.size w w' := by
 have hf := hf0
 have hx := hx0
 have hfr := fr_alloc (fr_refl w) (.cells #[.slice A ws.length c, .slice N ns.length d] 25)
 have hX0 : Blk (w.alloc (.cells #[.slice A ws.length c, .slice N ns.length d] 25)) (w.heap.size) 25 #[.slice A ws.length c, .slice N ns.length d] := (Blk.new_at _ _ (by simp))
 replace hf := hf.keep hfr
 replace hx := hx.keep hfr
 have hc0 := fun j => hX0.cell j
 have hl0 := hX0.lt
 cases s1 : (decide ((ws.length : Int) ≤ 8) && decide ((ns.length : Int) ≤ 11))
 ·go_enter Tryz.func3, Tryz.ntmps3
  go_wp2_with fail
  refine (short_any A N ws.length ns.length c d _ _ s1).mono ?_
  rintro e' w1 ⟨rfl, hb⟩
  replace hfr := fr_call hfr hb
  replace hf := hf.keep hb
  replace hx := hx.keep hb
  replace hX0 := hX0.keep hb
  clear hb hc0
  have hc0 := fun j => hX0.cell j
  have hl0 := hX0.lt
  go_wp2_with fail
  refine (known_is _ (hT.keep hfr) (hM.keep hfr)).mono ?_
  rintro e' w1 ⟨rfl, hb⟩
  replace hfr := fr_call hfr hb
  clear hb
  go_wp2_with fail
  go_ret
  exact ⟨rfl, hfr⟩
 ·have s1a : ws.length ≤ 8 ∧ ns.length ≤ 11 := by simp at s1; omega
  by_cases k1 : x.length ≤ 5
  ·have k1b : ¬ (5 < (x.length : Int)) := by omega
   cases f1 : findB ws ns
   ·go_enter Tryz.func3, Tryz.ntmps3
    go_wp2_with fail
    refine (short_any A N ws.length ns.length c d _ _ s1).mono ?_
    rintro e' w1 ⟨rfl, hb⟩
    replace hfr := fr_call hfr hb
    replace hf := hf.keep hb
    replace hx := hx.keep hb
    replace hX0 := hX0.keep hb
    clear hb hc0
    have hc0 := fun j => hX0.cell j
    have hl0 := hX0.lt
    go_wp2_with fail
    refine (Find8_any A N ws.length ns.length c d ws ns _ hf rfl rfl (by omega) (by omega) _ f1).mono ?_
    rintro e' w1 ⟨rfl, hb⟩
    replace hfr := fr_call hfr hb
    replace hf := hf.keep hb
    replace hx := hx.keep hb
    replace hX0 := hX0.keep hb
    clear hb hc0
    have hc0 := fun j => hX0.cell j
    have hl0 := hX0.lt
    go_wp2_with fail
    refine (known_is _ (hT.keep hfr) (hM.keep hfr)).mono ?_
    rintro e' w1 ⟨rfl, hb⟩
    replace hfr := fr_call hfr hb
    clear hb
    go_wp2_with fail
    go_ret
    exact ⟨rfl, hfr⟩
   ·by_cases o1 : Fits ws (teethL x)
    ·have o1H := Lib.hid o1
     exact true_main A N C c d i ws ns x w hf0 hx0 hT hM s1 s1a k1 k1b f1 o1
    ·go_enter Tryz.func3, Tryz.ntmps3
     go_wp2_with fail
     refine (short_any A N ws.length ns.length c d _ _ s1).mono ?_
     rintro e' w1 ⟨rfl, hb⟩
     replace hfr := fr_call hfr hb
     replace hf := hf.keep hb
     replace hx := hx.keep hb
     replace hX0 := hX0.keep hb
     clear hb hc0
     have hc0 := fun j => hX0.cell j
     have hl0 := hX0.lt
     go_wp2_with fail
     refine (Find8_any A N ws.length ns.length c d ws ns _ hf rfl rfl (by omega) (by omega) _ f1).mono ?_
     rintro e' w1 ⟨rfl, hb⟩
     replace hfr := fr_call hfr hb
     replace hf := hf.keep hb
     replace hx := hx.keep hb
     replace hX0 := hX0.keep hb
     clear hb hc0
     have hc0 := fun j => hX0.cell j
     have hl0 := hX0.lt
     go_wp2_with fail
     refine (Own8_any A N C ws.length ns.length c d x.length i ws x _ hf.ws hx rfl (by omega) rfl (by omega) false (by simp [o1])).mono ?_
     rintro e' w1 ⟨rfl, hb⟩
     replace hfr := fr_call hfr hb
     replace hf := hf.keep hb
     replace hx := hx.keep hb
     replace hX0 := hX0.keep hb
     clear hb hc0
     have hc0 := fun j => hX0.cell j
     have hl0 := hX0.lt
     go_wp2_with fail
     refine (known_is _ (hT.keep hfr) (hM.keep hfr)).mono ?_
     rintro e' w1 ⟨rfl, hb⟩
     replace hfr := fr_call hfr hb
     clear hb
     go_wp2_with fail
     go_ret
     exact ⟨rfl, hfr⟩
  ·have k1b : 5 < (x.length : Int) := by omega
   go_enter Tryz.func3, Tryz.ntmps3
   go_wp2_with fail
   refine (short_any A N ws.length ns.length c d _ _ s1).mono ?_
   rintro e' w1 ⟨rfl, hb⟩
   replace hfr := fr_call hfr hb
   replace hf := hf.keep hb
   replace hx := hx.keep hb
   replace hX0 := hX0.keep hb
   clear hb hc0
   have hc0 := fun j => hX0.cell j
   have hl0 := hX0.lt
   go_wp2_with fail
   refine (known_is _ (hT.keep hfr) (hM.keep hfr)).mono ?_
   rintro e' w1 ⟨rfl, hb⟩
   replace hfr := fr_call hfr hb
   clear hb
   go_wp2_with fail
   go_ret
   exact ⟨rfl, hfr⟩
end Go.Proofs.YtfgghicdkcjdgaaGreatDoor
end

section
namespace Go.Proofs.YtfgghicdkcjdgaaGreatDoor.cGuessTrue
open Go.ChangeShapes Go.WideShapes Go.ChangeAt Go.WideMaps Go.WideElems Go.RowKit
set_option maxRecDepth 100000

theorem lifted (os : Os) (started : os.Started) (H : Type) (enc : TypeId × Value → H) :
  ReturnsInHanded {} Tryz.checked os 3 .any (fun w args => (Rows.guessTrueSpec.pre enc Tryz.prog Tryz.f3 [] false w args ∧ laidMetH Tryz.prog laidT w) ∧ sizedMet enc Tryz.prog Tryz.f3 (OpenSpec.ofChange Rows.guessTrueSpec) false w args)
   (Rows.guessTrueSpec.post enc Tryz.prog Tryz.f3 false true false false) := by
 refine change_and_shaped (C := Tryz.checked) (X := fun w _ => laidMetH Tryz.prog laidT w) (fun _ _ _ hh h => h.of_heap hh) own_none started (by kernel_rfl) Tryz.func3
  (ChangeSpec.witness_shaped (enc := enc) (C := Tryz.checked) (os := os) (X := fun w _ => laidMetH Tryz.prog laidT w) false (doorT os) #[.agg #[.slice none 0 0, .slice none 0 0], .slice none 0 0] 8 rfl (World.shaped_of_RefB (by kernel_rfl) (by kernel_rfl)) (by kernel_rfl) (by kernel_rfl) (by kernel_rfl) (doorT_met os _)) ?_
 intro W base args ds gs before hval0 hW hL hsh
 have hval : ∀ (j : Nat) t v, Tryz.f3.params[j]? = some t → args[j]? = some v → Value.okWide Tryz.prog W .any base t v := hval0
 have hW' := hW
 obtain ⟨p, q, hA0, _, _, _, _⟩ := hW
 have hA : DataW.TrodAll enc Tryz.prog W 0 (fun _ => true) true Tryz.f3.params.toList args.toList ds p := hA0
 rw [Tryz.params3] at hA hval
 clear hA0 hval0
 obtain ⟨v0, vs0, d0, ds0, p0, q0, hargs, rfl, rfl, h0, r0⟩ := trodAll_cons hA
 obtain ⟨v1, vs1, d1, ds1, p1, q1, rfl, rfl, rfl, h1, r1⟩ := trodAll_cons r0
 obtain ⟨rfl, rfl, rfl⟩ := trodAll_nil r1
 obtain rfl : args = #[v0, v1] := by cases args; simp_all
 obtain ⟨A0, N0, ws0, ns0, c0, m0, rfl, hf0, hn0, hm0⟩ := find_open (hval 0 25 v0 rfl rfl) h0
 obtain ⟨A1, x1, c1, rfl, hf1, hn1⟩ := train_open (hval 1 26 v1 rfl rfl) h1
 refine (true_true A0 N0 A1 c0 m0 c1 ws0 ns0 x1 W hf0 hf1 (tabT_of_laid hL) (maxP_of hsh)).mono fun e W' ⟨he, hb⟩ => ?_
 subst he
 exact ⟨_, rfl, law_post (by kernel_rfl) (by kernel_rfl) rfl hW' rfl rfl rfl hb⟩

theorem row_holds : Rows.GuessTrueSaid :=
 OpenClaim.holds_of_wide 3 Tryz.f3 rfl rfl rfl rfl rfl rfl rfl ⟨rfl, rfl, rfl, rfl, rfl⟩ rfl rfl rfl rfl rfl (by kernel_rfl) Tryz.func3 (by kernel_rfl)
  (of_decide_eq_true (by kernel_rfl)) (by unfold Func.isWrapper; rw [if_neg (of_decide_eq_false (by kernel_rfl))]; exact ⟨rfl, rfl⟩)
  (fun os started H enc _ => lifted os started H enc)

theorem card_holds : Rows.GuessTrueCardSaid :=
 Claim7.holds_tied_plain_at .later [] [.data, .data, .data, .data, .pinned] true _ _ row_holds (fun _ h => by cases h) (by kernel_rfl) (fun _ h => by cases h) guessTrue_row_tie rfl ⟨rfl, rfl⟩ (by kernel_rfl) rfl
  (fun f fn hf hfn => by
   obtain rfl : f = 3 := Option.some.inj ((show Tryz.prog.funcNamed "tellurion/tellurionlaw08.GuessTrue" = some 3 by kernel_rfl).symm.trans hf) |>.symm
   obtain rfl : fn = Tryz.f3 := (Option.some.inj (Tryz.func3.symm.trans hfn)).symm
   exact ⟨by kernel_rfl, fun j t ht => by
    rw [Tryz.params3] at ht
    have hm : t ∈ [25, 26] := by simpa using Array.mem_of_getElem? ht
    have hall : ([25, 26].all fun u => !Tryz.prog.wantsStandIn u) = true := by kernel_rfl
    exact (show Tryz.prog.wantsStandIn t = false by simpa using List.all_eq_true.1 hall t hm)⟩)
  (by kernel_rfl)
end Go.Proofs.YtfgghicdkcjdgaaGreatDoor.cGuessTrue
end
