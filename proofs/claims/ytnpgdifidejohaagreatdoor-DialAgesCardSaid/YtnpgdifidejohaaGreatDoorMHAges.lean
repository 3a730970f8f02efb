/- The laws of the moon's age: DialAges, DialMonths, walked. The statement of DialAges: for every input the law returns true, and the input reads behind the call as it did; the listed table is tied to the program's text. No condition of its own. -/
import Derived.Test.YtnpgdifidejohaaGreatDoorMEC
import Derived.Test.YtnpgdifidejohaaGreatDoorMD1
import Derived.Test.YtnpgdifidejohaaGreatDoorMD2
import Derived.Test.YtnpgdifidejohaaGreatDoorMB5
import Derived.Test.YtnpgdifidejohaaGreatDoorMF1
import Derived.Test.YtnpgdifidejohaaGreatDoorRows
import Derived.Test.YtnpgdifidejohaaGreatDoorCards
import Derived.Test.YtnpgdifidejohaaGreatDoorTie
import Derived.SevenTiedAt
section
namespace Go.Proofs.YtnpgdifidejohaaGreatDoor
open Go.RowKit Dl

set_option maxRecDepth 100000 in
set_option maxHeartbeats 4000000 in
theorem ages_true (num den add d : Int) (w : World) (hT : TabP w) :
    Calls Tryz.prog 11 #[.agg #[.int .i64 num, .int .i64 den, .int .i64 add], .int .i64 d] w fun e w' => e = .returned (.bool true) ∧ Below w.heap.size w w' := by
  have g1 := fr_alloc (fr_refl w) (.cells #[.int .i64 num, .int .i64 den, .int .i64 add] 65)
  cases hm : moonB num den add
  · go_enter Tryz.func11, Tryz.ntmps11
    go_wp2_with fail
    refine (Age_bad num den add d _ (Or.inl hm)).mono ?_
    rintro e w1 ⟨rfl, hb1⟩
    obtain ⟨hc_w1, hf_w1⟩ := bcell hb1
    have hz0_w1 : w.heap.size < w1.heap.size := Nat.lt_of_lt_of_le (by first | omega | (simp; done) | (simp; omega)) hb1.size
    go_wp2_with fail
    refine (rMoon_is _ _ _ _ _ hm).mono ?_
    rintro e w2 ⟨rfl, hb2⟩
    have hfr := fr_call (fr_call g1 hb1) hb2
    go_wp2_with fail
    refine (known_is _ (hT.keep hfr)).mono ?_
    rintro e w3 ⟨rfl, hb3⟩
    go_wp2_with fail
    go_ret
    exact ⟨rfl, fr_call hfr hb3⟩
  · cases hd : inB d 0 2000000
    · go_enter Tryz.func11, Tryz.ntmps11
      go_wp2_with fail
      refine (Age_bad num den add d _ (Or.inr hd)).mono ?_
      rintro e w1 ⟨rfl, hb1⟩
      obtain ⟨hc_w1, hf_w1⟩ := bcell hb1
      have hz0_w1 : w.heap.size < w1.heap.size := Nat.lt_of_lt_of_le (by first | omega | (simp; done) | (simp; omega)) hb1.size
      go_wp2_with fail
      refine (rMoon_is _ _ _ _ _ hm).mono ?_
      rintro e w2 ⟨rfl, hb2⟩
      have hfr := fr_call (fr_call g1 hb1) hb2
      go_wp2_with fail
      refine (rNumber_is _ _ _ hd).mono ?_
      rintro e w2' ⟨rfl, rfl⟩
      go_wp2_with fail
      refine (known_is _ (hT.keep hfr)).mono ?_
      rintro e w3 ⟨rfl, hb3⟩
      go_wp2_with fail
      go_ret
      exact ⟨rfl, fr_call hfr hb3⟩
    · have hd2 := inB_iff.1 hd
      have hag := ageOf num den add d
      go_enter Tryz.func11, Tryz.ntmps11
      go_wp2_with fail
      refine (Age_ok num den add d _ hm hd).mono ?_
      rintro e w1 ⟨rfl, hb1⟩
      obtain ⟨hc_w1, hf_w1⟩ := bcell hb1
      have hz0_w1 : w.heap.size < w1.heap.size := Nat.lt_of_lt_of_le (by first | omega | (simp; done) | (simp; omega)) hb1.size
      go_wp2_with fail
      refine (rMoon_is _ _ _ _ _ hm).mono ?_
      rintro e w2 ⟨rfl, hb2⟩
      obtain ⟨hc_w2, hf_w2⟩ := bcell hb2
      have hz0_w2 : w.heap.size < w2.heap.size := Nat.lt_of_lt_of_le (by first | omega | (simp; done) | (simp; omega)) hb2.size
      have hfr := fr_call (fr_call g1 hb1) hb2
      go_wp2_with fail
      refine (rNumber_is _ _ _ hd).mono ?_
      rintro e w2' ⟨rfl, rfl⟩
      go_wp2_with fail
      refine (rAge_any num den add d _ (moonB_ok hm) (by omega) (by omega)).mono ?_
      rintro e w3 ⟨rfl, hb3⟩
      replace hfr := fr_call hfr hb3
      go_wp2_with fail
      refine (known_is _ (hT.keep hfr)).mono ?_
      rintro e w4 ⟨rfl, hb4⟩
      go_wp2_with fail
      go_ret
      exact ⟨rfl, fr_call hfr hb4⟩
end Go.Proofs.YtnpgdifidejohaaGreatDoor
end

section
namespace Go.Proofs.YtnpgdifidejohaaGreatDoor.cDialAges
open Go.ChangeShapes Go.WideShapes Go.ChangeAt Go.WideMaps Go.WideElems Go.RowKit
set_option maxRecDepth 100000

theorem lifted (os : Os) (started : os.Started) (H : Type) (enc : TypeId × Value → H) :
    ReturnsInHanded {} Tryz.checked os 11 .any (fun w args => (Rows.dialAgesSpec.pre enc Tryz.prog Tryz.f11 [] false w args ∧ laidMetH Tryz.prog laidL w) ∧ sizedMet enc Tryz.prog Tryz.f11 (OpenSpec.ofChange Rows.dialAgesSpec) false w args)
      (Rows.dialAgesSpec.post enc Tryz.prog Tryz.f11 false true false false) := by
  refine returnsInHanded_of_change_and (C := Tryz.checked) (X := fun w _ => laidMetH Tryz.prog laidL w) (fun _ _ _ hh h => h.of_heap hh) own_none started (by kernel_rfl) Tryz.func11
    (ChangeSpec.witness_shaped (enc := enc) (C := Tryz.checked) (os := os) (X := fun w _ => laidMetH Tryz.prog laidL w) false (World.doorLaid Tryz.prog 24 os) #[.agg #[.int .i64 0, .int .i64 0, .int .i64 0], .int .i64 0] 8 rfl (World.shaped_of_RefB (by kernel_rfl) (by kernel_rfl)) (by kernel_rfl) (by kernel_rfl) (by kernel_rfl) (door_met os _)) ?_
  intro W base args ds gs before hval0 hW _ _ hL _
  have hval : ∀ (j : Nat) t v, Tryz.f11.params[j]? = some t → args[j]? = some v → Value.okWide Tryz.prog W .any base t v := hval0
  have hW' := hW
  obtain ⟨p, q, hA0, _, _, _, _⟩ := hW
  have hA : DataW.TrodAll enc Tryz.prog W 0 (fun _ => true) true Tryz.f11.params.toList args.toList ds p := hA0
  rw [Tryz.params11] at hA hval
  clear hA0 hval0
  obtain ⟨v0, vs0, d0, ds0, p0, q0, hargs, rfl, rfl, h0, r0⟩ := trodAll_cons hA
  obtain ⟨v1, vs1, d1, ds1, p1, q1, rfl, rfl, rfl, h1, r1⟩ := trodAll_cons r0
  obtain ⟨rfl, rfl, rfl⟩ := trodAll_nil r1
  obtain rfl : args = #[v0, v1] := by cases args; simp_all
  obtain ⟨x0, y0, z0, rfl⟩ := moon_open (hval 0 65 v0 rfl rfl) h0
  obtain ⟨x1, rfl, _, _, _⟩ := open_int Tryz.underlying3 (hval 1 3 v1 rfl rfl) h1
  refine (ages_true x0 y0 z0 x1 W (tab_of_laid hL)).mono fun e W' ⟨he, hb⟩ => ?_
  subst he
  exact ⟨_, rfl, law_post (by kernel_rfl) (by kernel_rfl) rfl hW' rfl rfl rfl hb⟩

theorem row_holds : Rows.DialAgesSaid :=
  OpenClaim.holds_of_wide 11 Tryz.f11 rfl rfl rfl rfl rfl rfl rfl ⟨rfl, rfl, rfl, rfl, rfl⟩ rfl rfl rfl rfl rfl (by kernel_rfl) Tryz.func11 (by kernel_rfl)
    (of_decide_eq_true (by kernel_rfl)) (by unfold Func.isWrapper; rw [if_neg (of_decide_eq_false (by kernel_rfl))]; exact ⟨rfl, rfl⟩)
    (fun os started H enc _ => lifted os started H enc)

theorem card_holds : Rows.DialAgesCardSaid :=
  Claim7.holds_tied_plain_at .later [] [.data, .data, .data] true _ _ row_holds (fun _ h => by cases h) (by kernel_rfl) (fun _ h => by cases h) dialAges_row_tie rfl ⟨rfl, rfl⟩ (by kernel_rfl) rfl
    (fun f fn hf hfn => by
      obtain rfl : f = 11 := Option.some.inj ((show Tryz.prog.funcNamed "tellurion/tellurionlaw06.DialAges" = some 11 by kernel_rfl).symm.trans hf) |>.symm
      obtain rfl : fn = Tryz.f11 := (Option.some.inj (Tryz.func11.symm.trans hfn)).symm
      exact ⟨by kernel_rfl, fun j t ht => by
        rw [Tryz.params11] at ht
        have hm : t ∈ [65, 3] := by simpa using Array.mem_of_getElem? ht
        have hall : ([65, 3].all fun u => !Tryz.prog.wantsStandIn u) = true := by kernel_rfl
        exact (show Tryz.prog.wantsStandIn t = false by simpa using List.all_eq_true.1 hall t hm)⟩)
    (by kernel_rfl)
end Go.Proofs.YtnpgdifidejohaaGreatDoor.cDialAges
end
