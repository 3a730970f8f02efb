/- The law of realms: DialDoubles, walked. -/
import Derived.Test.YtnppilaabobgiaaGreatDoorMEC
import Derived.Test.YtnppilaabobgiaaGreatDoorMB4
import Derived.Test.YtnppilaabobgiaaGreatDoorMBL
import Derived.Test.YtnppilaabobgiaaGreatDoorMB5
import Derived.Test.YtnppilaabobgiaaGreatDoorMD1
import Derived.Test.YtnppilaabobgiaaGreatDoorMD2
import Derived.Test.YtnppilaabobgiaaGreatDoorMD3
namespace Go.Proofs.YtnppilaabobgiaaGreatDoor
open Go.RowKit Dl

theorem realm_parts {e1 e2 last : Int} {c1 c2 : List Int} (h : realmOk e1 c1 e2 c2 last = true) : calOk e1 c1 = true ∧ calOk e2 c2 = true := by
  unfold realmOk at h
  simp only [Bool.and_eq_true] at h
  exact ⟨h.1.1, h.1.2⟩
theorem days_len (e1 : Int) (c1 : List Int) (e2 : Int) (c2 : List Int) (last y m d : Int) : (daysOf e1 c1 e2 c2 last y m d).length ≤ 9223372036854775807 := by
  unfold daysOf
  split <;> split <;> simp

set_option maxRecDepth 100000 in
set_option maxHeartbeats 8000000 in
theorem ltidy_is (A1 A2 : Option Addr) (n1 k1 n2 k2 : Nat) (e1 e2 l : Value) (w : World) (b : Bool) (hb : (decide ((n1 : Int) ≤ 5) && decide ((n2 : Int) ≤ 5)) = b) :
    Calls Tryz.prog 13 #[.agg #[e1, .slice A1 n1 k1, e2, .slice A2 n2 k2, l]] w fun e' w' => e' = .returned (.bool b) ∧ Below w.heap.size w w' := by
  subst hb
  have g1 := fr_alloc (fr_refl w) (.cells #[e1, .slice A1 n1 k1, e2, .slice A2 n2 k2, l] 26)
  have hX0 : Blk (w.alloc (.cells #[e1, .slice A1 n1 k1, e2, .slice A2 n2 k2, l] 26)) (w.heap.size) 26 #[e1, .slice A1 n1 k1, e2, .slice A2 n2 k2, l] := (Blk.new_at _ _ (by simp))
  cases h1 : decide ((n1 : Int) ≤ 5)
  · go_enter Tryz.func13, Tryz.ntmps13
    go_wp2_with fail
    have hfr := g1
    have hc0 := fun j => hX0.cell j
    have hl0 := hX0.lt
    refine (lshort_is A1 n1 k1 e1 _ false h1).mono ?_
    rintro e' w1 ⟨rfl, hb⟩
    replace hfr := fr_call hfr hb
    replace hX0 := hX0.keep hb
    replace hc0 := fun j => hX0.cell j
    replace hl0 := hX0.lt
    clear hb
    go_wp2_with fail
    go_ret
    exact ⟨rfl, hfr⟩
  · go_enter Tryz.func13, Tryz.ntmps13
    go_wp2_with fail
    have hfr := g1
    have hc0 := fun j => hX0.cell j
    have hl0 := hX0.lt
    refine (lshort_is A1 n1 k1 e1 _ true h1).mono ?_
    rintro e' w1 ⟨rfl, hb⟩
    replace hfr := fr_call hfr hb
    replace hX0 := hX0.keep hb
    replace hc0 := fun j => hX0.cell j
    replace hl0 := hX0.lt
    clear hb
    go_wp2_with fail
    refine (lshort_is A2 n2 k2 e2 _ _ rfl).mono ?_
    rintro e' w2 ⟨rfl, hb⟩
    replace hfr := fr_call hfr hb
    replace hX0 := hX0.keep hb
    replace hc0 := fun j => hX0.cell j
    replace hl0 := hX0.lt
    clear hb
    go_wp2_with fail
    go_ret
    exact ⟨rfl, hfr⟩

end Go.Proofs.YtnppilaabobgiaaGreatDoor
