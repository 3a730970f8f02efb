/- Walks: facts and questions as defined. Walks: the answers to questions about a year. -/
import Derived.Test.YthjblcboainknaaGreatDoorMP
import Derived.Test.YthjblcboainknaaGreatDoorMB1
import Derived.Test.YthjblcboainknaaGreatDoorMB6
import Derived.Test.YthjblcboainknaaGreatDoorProg
import Derived.WalkKit
import Derived.WalkSpells
import Derived.WalkLawsBesides
import Derived.LoopTactic
import Derived.Deep.LoopGhost
import Derived.Lib.Hide
import Derived.Deep.Draws
import Derived.Deep.QuietTactic
import Derived.BigQuiet
import Derived.Deep.RegionHeld3
import Derived.OwnWalk
import Derived.Laws.Rows
import Derived.Deep.DeepMust
import Derived.Defers
import Derived.Recover
import Derived.Laws.Pointers
import Derived.Laws.EntriesVeiled
import Derived.Outline
import Derived.Deep.MidRow
import Derived.RangeFuncNested
import Derived.RangeFuncBound
import Derived.OwnWalkIn
import Derived.TacticsInMore
import Derived.LoopIn
import Derived.Shelf.RegionOpen
import Derived.Sort.CutIn
import Derived.Deep.Cut
import Derived.Test.YthjblcboainknaaGreatDoorMB2
import Derived.Test.YthjblcboainknaaGreatDoorMB5
section
namespace Go.Proofs.YthjblcboainknaaGreatDoor
open Go.RowKit Dl

def Fact.row (f : Fact) : List Value := [.int .i64 f.k, .int .i64 f.m, .int .i64 f.d, .int .i64 f.v]
def datedB (f : Fact) : Bool := inB f.m 1 12 && inB f.d 1 31
def bareB (f : Fact) : Bool := f.m == 0 && f.d == 0
/-- is a fact as defined, but for its value -/
def kindB (f : Fact) (val : Int → Int → Bool) : Bool :=
 if f.k = 1 then datedB f && val 0 6 else if f.k = 2 then datedB f && val 0 29 else if f.k = 3 then datedB f && val 0 0 else if f.k = 4 then bareB f && val 1 19 else if f.k = 5 then bareB f && val 365 366 else false
def val_areFacts (f : Fact) (lo hi : Int) : Bool := inB f.v lo hi
def val_areQuestions (f : Fact) (_ _ : Int) : Bool := f.v == 0

set_option maxHeartbeats 2000000 in
theorem inner_areFacts (f : Fact) (p : Nat) (lo hi : Int) (w : World) (hp : Blk w p 69 #[.int .i64 f.k, .int .i64 f.m, .int .i64 f.d, .int .i64 f.v]) (b : Bool) (hb : val_areFacts f lo hi = b) :
  Calls Tryz.prog 77 #[.int .i64 lo, .int .i64 hi, .pointer (some ⟨p, 0, none⟩)] w fun e w' => e = .returned (.bool b) ∧ w = w' := by
 have hc := fun j => hp.cell j
 go_enter Tryz.func77, Tryz.ntmps77
 go_wp2_with fail
 refine (in_is _ _ _ _ _ hb).mono ?_
 rintro e w' ⟨rfl, rfl⟩
 go_wp2_with fail
 go_ret
 exact ⟨rfl, rfl⟩
set_option maxHeartbeats 2000000 in
theorem inner_areQuestions (f : Fact) (p : Nat) (lo hi : Int) (w : World) (hp : Blk w p 69 #[.int .i64 f.k, .int .i64 f.m, .int .i64 f.d, .int .i64 f.v]) (b : Bool) (hb : val_areQuestions f lo hi = b) :
  Calls Tryz.prog 97 #[.int .i64 lo, .int .i64 hi, .pointer (some ⟨p, 0, none⟩)] w fun e w' => e = .returned (.bool b) ∧ w = w' := by
 have hc := fun j => hp.cell j
 unfold val_areQuestions at hb
 go_enter Tryz.func97, Tryz.ntmps97
 go_wp2_with fail
 go_ret
 exact ⟨rfl, rfl⟩

set_option maxRecDepth 100000 in
set_option maxHeartbeats 8000000 in
theorem isFact_areFacts (k m d v : Int) (p : Nat) (w : World) (hp : Blk w p 69 #[.int .i64 k, .int .i64 m, .int .i64 d, .int .i64 v]) (b : Bool) (hb : kindB ⟨k, m, d, v⟩ (val_areFacts ⟨k, m, d, v⟩) = b) :
  Calls Tryz.prog 76 #[.agg #[.int .i64 k, .int .i64 m, .int .i64 d, .int .i64 v], .func (.func 77) #[] #[.pointer (some ⟨p, 0, none⟩)]] w fun e w' => e = .returned (.bool b) ∧ Below w.heap.size w w' := by
 have hp1 := hp.alloc (.cells #[.int .i64 k, .int .i64 m, .int .i64 d, .int .i64 v] 69)
 have g1 := fr_alloc (fr_refl w) (.cells #[.int .i64 k, .int .i64 m, .int .i64 d, .int .i64 v] 69)
 have hF := Blk.new w 69 #[.int .i64 k, .int .i64 m, .int .i64 d, .int .i64 v]
 have HI := fun (lo hi : Int) (b : Bool) => inner_areFacts ⟨k, m, d, v⟩ p lo hi _ hp1 b
 unfold kindB at hb
 simp only at hb
 generalize hdt : datedB ⟨k, m, d, v⟩ = dt at hb
 generalize hbr : bareB ⟨k, m, d, v⟩ = br at hb
 unfold datedB at hdt
 unfold bareB at hbr
 simp only at hdt hbr
 have HDT := Lib.hid hdt
 have HBR := Lib.hid hbr
 have HB := Lib.hid hb
 clear hdt hbr hb
 go_enter Tryz.func76, Tryz.ntmps76
 go_upto_region 1 with (fail)
 generalize w.alloc (.cells #[.int .i64 k, .int .i64 m, .int .i64 d, .int .i64 v] 69) = W at *
 generalize hb0 : w.heap.size = b0 at *
 have HB0 := Lib.hid hb0
 clear hb0
 have hc := fun j => hF.cell j
 go_cut [5] from 7 (fun s5 wc => s5 = .bool dt ∧ wc = W)
 case first =>
  have h := HDT.out
  cases hm : inB m 1 12
  ·go_wp2_with (refine (in_is _ _ _ _ _ hm).mono ?_; rintro e w' ⟨rfl, rfl⟩)
   go_meet
   case rel => exact ⟨by rw [← h, hm]; rfl, rfl⟩
  ·go_wp2_with fail
   refine (in_is _ _ _ _ _ hm).mono ?_
   rintro e w' ⟨rfl, rfl⟩
   go_wp2_with fail
   refine (in_is _ _ _ _ _ rfl).mono ?_
   rintro e w' ⟨rfl, rfl⟩
   go_wp2_with fail
   go_meet
   case rel => exact ⟨by rw [← h, hm]; rfl, rfl⟩
 case rest =>
  obtain ⟨rfl, rfl⟩ := hcut
  go_upto_region 2 with (fail)
  go_cut [6] from 15 (fun s6 wd => s6 = .bool br ∧ wd = wc)
  case first =>
   have h := HBR.out
   cases hm : (m == 0)
   ·go_wp2_with fail
    go_meet
    case rel => exact ⟨by rw [← h, hm]; rfl, rfl⟩
   ·go_wp2_with fail
    go_meet
    case rel => exact ⟨by rw [← h, hm]; rfl, rfl⟩
  case rest =>
   obtain ⟨rfl, rfl⟩ := hcut
   clear HDT HBR
   by_cases e1 : k = 1
   ·obtain rfl := e1
    cases dt
    ·go_wp2_with fail
     go_ret
     exact ⟨ret_bool (by have := HB.out; simpa using this), by rw [HB0.out]; exact g1⟩
    ·go_wp2_with fail
     refine (HI 0 6 _ rfl).mono ?_
     rintro e w' ⟨rfl, rfl⟩
     go_wp2_with fail
     go_ret
     exact ⟨ret_bool (by have := HB.out; simpa using this), by rw [HB0.out]; exact g1⟩
   by_cases e2 : k = 2
   ·obtain rfl := e2
    cases dt
    ·go_wp2_with fail
     go_ret
     exact ⟨ret_bool (by have := HB.out; simpa using this), by rw [HB0.out]; exact g1⟩
    ·go_wp2_with fail
     refine (HI 0 29 _ rfl).mono ?_
     rintro e w' ⟨rfl, rfl⟩
     go_wp2_with fail
     go_ret
     exact ⟨ret_bool (by have := HB.out; simpa using this), by rw [HB0.out]; exact g1⟩
   by_cases e3 : k = 3
   ·obtain rfl := e3
    cases dt
    ·go_wp2_with fail
     go_ret
     exact ⟨ret_bool (by have := HB.out; simpa using this), by rw [HB0.out]; exact g1⟩
    ·go_wp2_with fail
     refine (HI 0 0 _ rfl).mono ?_
     rintro e w' ⟨rfl, rfl⟩
     go_wp2_with fail
     go_ret
     exact ⟨ret_bool (by have := HB.out; simpa using this), by rw [HB0.out]; exact g1⟩
   by_cases e4 : k = 4
   ·obtain rfl := e4
    cases br
    ·go_wp2_with fail
     go_ret
     exact ⟨ret_bool (by have := HB.out; simpa using this), by rw [HB0.out]; exact g1⟩
    ·go_wp2_with fail
     refine (HI 1 19 _ rfl).mono ?_
     rintro e w' ⟨rfl, rfl⟩
     go_wp2_with fail
     go_ret
     exact ⟨ret_bool (by have := HB.out; simpa using this), by rw [HB0.out]; exact g1⟩
   by_cases e5 : k = 5
   ·obtain rfl := e5
    cases br
    ·go_wp2_with fail
     go_ret
     exact ⟨ret_bool (by have := HB.out; simpa using this), by rw [HB0.out]; exact g1⟩
    ·go_wp2_with fail
     refine (HI 365 366 _ rfl).mono ?_
     rintro e w' ⟨rfl, rfl⟩
     go_wp2_with fail
     go_ret
     exact ⟨ret_bool (by have := HB.out; simpa using this), by rw [HB0.out]; exact g1⟩
   have hr := HB.out
   rw [if_neg e1, if_neg e2, if_neg e3, if_neg e4, if_neg e5] at hr
   subst hr
   have q1 : (k == 1) = false := by simpa using e1
   have q2 : (k == 2) = false := by simpa using e2
   have q3 : (k == 3) = false := by simpa using e3
   have q4 : (k == 4) = false := by simpa using e4
   have q5 : (k == 5) = false := by simpa using e5
   clear e1 e2 e3 e4 e5
   go_wp2_with fail
   go_ret
   exact ⟨rfl, by rw [HB0.out]; exact g1⟩

set_option maxHeartbeats 2000000 in
theorem outer_areFacts (f : Fact) (w : World) (b : Bool) (hb : kindB f (val_areFacts f) = !b) :
  Calls Tryz.prog 75 #[.agg #[.int .i64 f.k, .int .i64 f.m, .int .i64 f.d, .int .i64 f.v]] w fun e w' => e = .returned (.bool b) ∧ Below w.heap.size w w' := by
 obtain ⟨k, m, d, v⟩ := f
 have hmf : ∀ (fn : Fn) (first cap : Array Value) (w : World), (Instr.makeFunc fn first cap).run Tryz.prog w = .ok (.func fn first cap) w := fun _ _ _ _ => rfl
 have h1 := isFact_areFacts k m d v w.heap.size _ (Blk.new w 69 #[.int .i64 k, .int .i64 m, .int .i64 d, .int .i64 v]) _ hb
 go_enter Tryz.func75, Tryz.ntmps75
 go_wp2_with fail
 refine h1.mono ?_
 rintro e w1 ⟨rfl, hb1⟩
 go_wp2_with fail
 go_ret
 exact ⟨ret_bool (by simp), fr_call (fr_alloc (fr_refl _) _) hb1⟩

def all_areFacts (l : List Fact) : Bool := l.all (fun f => kindB f (val_areFacts f))
set_option maxRecDepth 100000 in
set_option maxHeartbeats 2000000 in
theorem index_areFacts (A : Option Addr) (c : Nat) (l : List Fact) (w : World) (hr : RdS w A 4 (l.map Fact.row)) (hn : l.length ≤ 9223372036854775807) (b : Bool) (hb : all_areFacts l = b) :
  Calls Tryz.prog 103 #[.slice A l.length c, .func (.func 75) #[] #[]] w fun e' w' => ∃ k : Int, e' = .returned (.int .i64 k) ∧ ((b = true ∧ k = -1) ∨ (b = false ∧ 0 ≤ k)) ∧ Below w.heap.size w w' := by
 go_enter Tryz.func103, Tryz.ntmps103
 go_wp2
 generalize hlen : l.length = n at *
 have HL := Lib.hid hlen
 clear hlen
 go_loopw [8] (fun i wr => ∃ k : Nat, k ≤ n ∧ i = .int .i64 k ∧ (l.take k).all (fun f => kindB f (val_areFacts f)) = true ∧ Below w.heap.size w wr) (fun i _ => n - (intOf i).toNat)
 case atStart => exact ⟨0, Nat.zero_le _, rfl, by simp, fr_refl _⟩
 case round =>
  obtain ⟨k, hk, rfl, hall, hbel⟩ := hrel
  by_cases hlt : k < n
  ·have hkl : k < l.length := by have := HL.out; omega
   have hrow : (l.map Fact.row)[k]? = some (l[k].row) := by simp [hkl]
   obtain ⟨ad, rfl, hab, _, hc⟩ := (hr.keep hbel).at_ hrow
   have hq : ∀ j, ad.add (k * 4 + (j + 1)) = (ad.add (k * 4)).add (j + 1) := fun j => by
    unfold Addr.add; by_cases h0 : k * 4 = 0 <;> simp [h0, Nat.add_assoc]
   have hc0 : wr.cell? (ad.add (k * 4)) = some (.int .i64 l[k].k) := hc 0 _ rfl
   have hc1 : wr.cell? ⟨(ad.add (k * 4)).block, (ad.add (k * 4)).off + 1, none⟩ = _ := (congrArg wr.cell? (hq 0)).symm.trans (hc 1 _ rfl)
   have hc2 : wr.cell? ⟨(ad.add (k * 4)).block, (ad.add (k * 4)).off + 2, none⟩ = _ := (congrArg wr.cell? (hq 1)).symm.trans (hc 2 _ rfl)
   have hc3 : wr.cell? ⟨(ad.add (k * 4)).block, (ad.add (k * 4)).off + 3, none⟩ = _ := (congrArg wr.cell? (hq 2)).symm.trans (hc 3 _ rfl)
   clear hc hrow hr hq
   go_wp2_with fail
   cases hf : kindB l[k] (val_areFacts l[k])
   ·refine (outer_areFacts _ _ true (by simp [hf])).mono ?_
    rintro e w1 ⟨rfl, hb1⟩
    go_wp2_with fail
    go_ret
    refine ⟨k, rfl, Or.inr ⟨?_, by omega⟩, fr_call hbel hb1⟩
    rw [← hb]
    exact all_no hkl hf
   ·refine (outer_areFacts _ _ false (by simp [hf])).mono ?_
    rintro e w1 ⟨rfl, hb1⟩
    go_wp2_with fail
    refine ⟨⟨k + 1, hlt, rfl, all_step hkl hall hf, fr_call hbel hb1⟩, ?_⟩
    simp [intOf]; omega
  ·go_wp2_with fail
   go_ret
   refine ⟨-1, rfl, Or.inl ⟨?_, rfl⟩, hbel⟩
   rw [← hb]; unfold all_areFacts; rw [← List.take_of_length_le (l := l) (i := k) (by have := HL.out; omega)]; exact hall

set_option maxHeartbeats 2000000 in
theorem contains_areFacts (A : Option Addr) (c : Nat) (l : List Fact) (w : World) (hr : RdS w A 4 (l.map Fact.row)) (hn : l.length ≤ 9223372036854775807) (b : Bool) (hb : all_areFacts l = b) :
  Calls Tryz.prog 74 #[.slice A l.length c, .func (.func 75) #[] #[]] w fun e' w' => e' = .returned (.bool (!b)) ∧ Below w.heap.size w w' := by
 go_enter Tryz.func74, Tryz.ntmps74
 go_wp2_with fail
 refine (index_areFacts A c l w hr hn b hb).mono ?_
 rintro e w1 ⟨k, rfl, hk, hb1⟩
 go_wp2_with fail
 go_ret
 refine ⟨ret_bool ?_, hb1⟩
 rcases hk with ⟨rfl, rfl⟩ | ⟨rfl, hk⟩
 ·rfl
 ·simpa using hk
set_option maxRecDepth 100000 in
set_option maxHeartbeats 8000000 in
theorem isFact_areQuestions (k m d v : Int) (p : Nat) (w : World) (hp : Blk w p 69 #[.int .i64 k, .int .i64 m, .int .i64 d, .int .i64 v]) (b : Bool) (hb : kindB ⟨k, m, d, v⟩ (val_areQuestions ⟨k, m, d, v⟩) = b) :
  Calls Tryz.prog 76 #[.agg #[.int .i64 k, .int .i64 m, .int .i64 d, .int .i64 v], .func (.func 97) #[] #[.pointer (some ⟨p, 0, none⟩)]] w fun e w' => e = .returned (.bool b) ∧ Below w.heap.size w w' := by
 have hp1 := hp.alloc (.cells #[.int .i64 k, .int .i64 m, .int .i64 d, .int .i64 v] 69)
 have g1 := fr_alloc (fr_refl w) (.cells #[.int .i64 k, .int .i64 m, .int .i64 d, .int .i64 v] 69)
 have hF := Blk.new w 69 #[.int .i64 k, .int .i64 m, .int .i64 d, .int .i64 v]
 have HI := fun (lo hi : Int) (b : Bool) => inner_areQuestions ⟨k, m, d, v⟩ p lo hi _ hp1 b
 unfold kindB at hb
 simp only at hb
 generalize hdt : datedB ⟨k, m, d, v⟩ = dt at hb
 generalize hbr : bareB ⟨k, m, d, v⟩ = br at hb
 unfold datedB at hdt
 unfold bareB at hbr
 simp only at hdt hbr
 have HDT := Lib.hid hdt
 have HBR := Lib.hid hbr
 have HB := Lib.hid hb
 clear hdt hbr hb
 go_enter Tryz.func76, Tryz.ntmps76
 go_upto_region 1 with (fail)
 generalize w.alloc (.cells #[.int .i64 k, .int .i64 m, .int .i64 d, .int .i64 v] 69) = W at *
 generalize hb0 : w.heap.size = b0 at *
 have HB0 := Lib.hid hb0
 clear hb0
 have hc := fun j => hF.cell j
 go_cut [5] from 7 (fun s5 wc => s5 = .bool dt ∧ wc = W)
 case first =>
  have h := HDT.out
  cases hm : inB m 1 12
  ·go_wp2_with (refine (in_is _ _ _ _ _ hm).mono ?_; rintro e w' ⟨rfl, rfl⟩)
   go_meet
   case rel => exact ⟨by rw [← h, hm]; rfl, rfl⟩
  ·go_wp2_with fail
   refine (in_is _ _ _ _ _ hm).mono ?_
   rintro e w' ⟨rfl, rfl⟩
   go_wp2_with fail
   refine (in_is _ _ _ _ _ rfl).mono ?_
   rintro e w' ⟨rfl, rfl⟩
   go_wp2_with fail
   go_meet
   case rel => exact ⟨by rw [← h, hm]; rfl, rfl⟩
 case rest =>
  obtain ⟨rfl, rfl⟩ := hcut
  go_upto_region 2 with (fail)
  go_cut [6] from 15 (fun s6 wd => s6 = .bool br ∧ wd = wc)
  case first =>
   have h := HBR.out
   cases hm : (m == 0)
   ·go_wp2_with fail
    go_meet
    case rel => exact ⟨by rw [← h, hm]; rfl, rfl⟩
   ·go_wp2_with fail
    go_meet
    case rel => exact ⟨by rw [← h, hm]; rfl, rfl⟩
  case rest =>
   obtain ⟨rfl, rfl⟩ := hcut
   clear HDT HBR
   by_cases e1 : k = 1
   ·obtain rfl := e1
    cases dt
    ·go_wp2_with fail
     go_ret
     exact ⟨ret_bool (by have := HB.out; simpa using this), by rw [HB0.out]; exact g1⟩
    ·go_wp2_with fail
     refine (HI 0 6 _ rfl).mono ?_
     rintro e w' ⟨rfl, rfl⟩
     go_wp2_with fail
     go_ret
     exact ⟨ret_bool (by have := HB.out; simpa using this), by rw [HB0.out]; exact g1⟩
   by_cases e2 : k = 2
   ·obtain rfl := e2
    cases dt
    ·go_wp2_with fail
     go_ret
     exact ⟨ret_bool (by have := HB.out; simpa using this), by rw [HB0.out]; exact g1⟩
    ·go_wp2_with fail
     refine (HI 0 29 _ rfl).mono ?_
     rintro e w' ⟨rfl, rfl⟩
     go_wp2_with fail
     go_ret
     exact ⟨ret_bool (by have := HB.out; simpa using this), by rw [HB0.out]; exact g1⟩
   by_cases e3 : k = 3
   ·obtain rfl := e3
    cases dt
    ·go_wp2_with fail
     go_ret
     exact ⟨ret_bool (by have := HB.out; simpa using this), by rw [HB0.out]; exact g1⟩
    ·go_wp2_with fail
     refine (HI 0 0 _ rfl).mono ?_
     rintro e w' ⟨rfl, rfl⟩
     go_wp2_with fail
     go_ret
     exact ⟨ret_bool (by have := HB.out; simpa using this), by rw [HB0.out]; exact g1⟩
   by_cases e4 : k = 4
   ·obtain rfl := e4
    cases br
    ·go_wp2_with fail
     go_ret
     exact ⟨ret_bool (by have := HB.out; simpa using this), by rw [HB0.out]; exact g1⟩
    ·go_wp2_with fail
     refine (HI 1 19 _ rfl).mono ?_
     rintro e w' ⟨rfl, rfl⟩
     go_wp2_with fail
     go_ret
     exact ⟨ret_bool (by have := HB.out; simpa using this), by rw [HB0.out]; exact g1⟩
   by_cases e5 : k = 5
   ·obtain rfl := e5
    cases br
    ·go_wp2_with fail
     go_ret
     exact ⟨ret_bool (by have := HB.out; simpa using this), by rw [HB0.out]; exact g1⟩
    ·go_wp2_with fail
     refine (HI 365 366 _ rfl).mono ?_
     rintro e w' ⟨rfl, rfl⟩
     go_wp2_with fail
     go_ret
     exact ⟨ret_bool (by have := HB.out; simpa using this), by rw [HB0.out]; exact g1⟩
   have hr := HB.out
   rw [if_neg e1, if_neg e2, if_neg e3, if_neg e4, if_neg e5] at hr
   subst hr
   have q1 : (k == 1) = false := by simpa using e1
   have q2 : (k == 2) = false := by simpa using e2
   have q3 : (k == 3) = false := by simpa using e3
   have q4 : (k == 4) = false := by simpa using e4
   have q5 : (k == 5) = false := by simpa using e5
   clear e1 e2 e3 e4 e5
   go_wp2_with fail
   go_ret
   exact ⟨rfl, by rw [HB0.out]; exact g1⟩

set_option maxHeartbeats 2000000 in
theorem outer_areQuestions (f : Fact) (w : World) (b : Bool) (hb : kindB f (val_areQuestions f) = !b) :
  Calls Tryz.prog 96 #[.agg #[.int .i64 f.k, .int .i64 f.m, .int .i64 f.d, .int .i64 f.v]] w fun e w' => e = .returned (.bool b) ∧ Below w.heap.size w w' := by
 obtain ⟨k, m, d, v⟩ := f
 have hmf : ∀ (fn : Fn) (first cap : Array Value) (w : World), (Instr.makeFunc fn first cap).run Tryz.prog w = .ok (.func fn first cap) w := fun _ _ _ _ => rfl
 have h1 := isFact_areQuestions k m d v w.heap.size _ (Blk.new w 69 #[.int .i64 k, .int .i64 m, .int .i64 d, .int .i64 v]) _ hb
 go_enter Tryz.func96, Tryz.ntmps96
 go_wp2_with fail
 refine h1.mono ?_
 rintro e w1 ⟨rfl, hb1⟩
 go_wp2_with fail
 go_ret
 exact ⟨ret_bool (by simp), fr_call (fr_alloc (fr_refl _) _) hb1⟩

def all_areQuestions (l : List Fact) : Bool := l.all (fun f => kindB f (val_areQuestions f))
set_option maxRecDepth 100000 in
set_option maxHeartbeats 2000000 in
theorem index_areQuestions (A : Option Addr) (c : Nat) (l : List Fact) (w : World) (hr : RdS w A 4 (l.map Fact.row)) (hn : l.length ≤ 9223372036854775807) (b : Bool) (hb : all_areQuestions l = b) :
  Calls Tryz.prog 103 #[.slice A l.length c, .func (.func 96) #[] #[]] w fun e' w' => ∃ k : Int, e' = .returned (.int .i64 k) ∧ ((b = true ∧ k = -1) ∨ (b = false ∧ 0 ≤ k)) ∧ Below w.heap.size w w' := by
 go_enter Tryz.func103, Tryz.ntmps103
 go_wp2
 generalize hlen : l.length = n at *
 have HL := Lib.hid hlen
 clear hlen
 go_loopw [8] (fun i wr => ∃ k : Nat, k ≤ n ∧ i = .int .i64 k ∧ (l.take k).all (fun f => kindB f (val_areQuestions f)) = true ∧ Below w.heap.size w wr) (fun i _ => n - (intOf i).toNat)
 case atStart => exact ⟨0, Nat.zero_le _, rfl, by simp, fr_refl _⟩
 case round =>
  obtain ⟨k, hk, rfl, hall, hbel⟩ := hrel
  by_cases hlt : k < n
  ·have hkl : k < l.length := by have := HL.out; omega
   have hrow : (l.map Fact.row)[k]? = some (l[k].row) := by simp [hkl]
   obtain ⟨ad, rfl, hab, _, hc⟩ := (hr.keep hbel).at_ hrow
   have hq : ∀ j, ad.add (k * 4 + (j + 1)) = (ad.add (k * 4)).add (j + 1) := fun j => by
    unfold Addr.add; by_cases h0 : k * 4 = 0 <;> simp [h0, Nat.add_assoc]
   have hc0 : wr.cell? (ad.add (k * 4)) = some (.int .i64 l[k].k) := hc 0 _ rfl
   have hc1 : wr.cell? ⟨(ad.add (k * 4)).block, (ad.add (k * 4)).off + 1, none⟩ = _ := (congrArg wr.cell? (hq 0)).symm.trans (hc 1 _ rfl)
   have hc2 : wr.cell? ⟨(ad.add (k * 4)).block, (ad.add (k * 4)).off + 2, none⟩ = _ := (congrArg wr.cell? (hq 1)).symm.trans (hc 2 _ rfl)
   have hc3 : wr.cell? ⟨(ad.add (k * 4)).block, (ad.add (k * 4)).off + 3, none⟩ = _ := (congrArg wr.cell? (hq 2)).symm.trans (hc 3 _ rfl)
   clear hc hrow hr hq
   go_wp2_with fail
   cases hf : kindB l[k] (val_areQuestions l[k])
   ·refine (outer_areQuestions _ _ true (by simp [hf])).mono ?_
    rintro e w1 ⟨rfl, hb1⟩
    go_wp2_with fail
    go_ret
    refine ⟨k, rfl, Or.inr ⟨?_, by omega⟩, fr_call hbel hb1⟩
    rw [← hb]
    exact all_no hkl hf
   ·refine (outer_areQuestions _ _ false (by simp [hf])).mono ?_
    rintro e w1 ⟨rfl, hb1⟩
    go_wp2_with fail
    refine ⟨⟨k + 1, hlt, rfl, all_step hkl hall hf, fr_call hbel hb1⟩, ?_⟩
    simp [intOf]; omega
  ·go_wp2_with fail
   go_ret
   refine ⟨-1, rfl, Or.inl ⟨?_, rfl⟩, hbel⟩
   rw [← hb]; unfold all_areQuestions; rw [← List.take_of_length_le (l := l) (i := k) (by have := HL.out; omega)]; exact hall

set_option maxHeartbeats 2000000 in
theorem contains_areQuestions (A : Option Addr) (c : Nat) (l : List Fact) (w : World) (hr : RdS w A 4 (l.map Fact.row)) (hn : l.length ≤ 9223372036854775807) (b : Bool) (hb : all_areQuestions l = b) :
  Calls Tryz.prog 74 #[.slice A l.length c, .func (.func 96) #[] #[]] w fun e' w' => e' = .returned (.bool (!b)) ∧ Below w.heap.size w w' := by
 go_enter Tryz.func74, Tryz.ntmps74
 go_wp2_with fail
 refine (index_areQuestions A c l w hr hn b hb).mono ?_
 rintro e w1 ⟨k, rfl, hk, hb1⟩
 go_wp2_with fail
 go_ret
 refine ⟨ret_bool ?_, hb1⟩
 rcases hk with ⟨rfl, rfl⟩ | ⟨rfl, hk⟩
 ·rfl
 ·simpa using hk

def factsB (l : List Fact) : Bool := decide (l.length ≤ 6) && all_areFacts l
def asksB (l : List Fact) : Bool := inB (l.length : Int) 1 6 && all_areQuestions l
set_option maxHeartbeats 2000000 in
theorem areFacts_is (A : Option Addr) (c : Nat) (l : List Fact) (w : World) (hr : RdS w A 4 (l.map Fact.row)) (hn : l.length ≤ 9223372036854775807) :
  Calls Tryz.prog 37 #[.slice A l.length c] w fun e' w' => e' = .returned (.bool (factsB l)) ∧ Below w.heap.size w w' := by
 have h0 := contains_areFacts A c l w hr hn _ rfl
 unfold factsB
 generalize all_areFacts l = b at *
 by_cases h6 : l.length ≤ 6
 ·have h6' : decide (l.length ≤ 6) = true := by simpa using h6
  have h6i : decide ((l.length : Int) ≤ 6) = true := decide_eq_true (by omega)
  rw [h6', Bool.true_and]
  clear h6'
  go_enter Tryz.func37, Tryz.ntmps37
  go_wp2_with fail
  refine h0.mono ?_
  rintro e w1 ⟨rfl, hb1⟩
  go_wp2_with fail
  go_ret
  exact ⟨ret_bool (by simp), hb1⟩
 ·have h6' : decide (l.length ≤ 6) = false := by simpa using h6
  have h6i : decide ((l.length : Int) ≤ 6) = false := decide_eq_false (by omega)
  rw [h6', Bool.false_and]
  clear h6'
  go_enter Tryz.func37, Tryz.ntmps37
  go_wp2_with fail
  go_ret
  exact ⟨rfl, fr_refl _⟩
set_option maxHeartbeats 2000000 in
theorem areQuestions_is (A : Option Addr) (c : Nat) (l : List Fact) (w : World) (hr : RdS w A 4 (l.map Fact.row)) (hn : l.length ≤ 9223372036854775807) :
  Calls Tryz.prog 70 #[.slice A l.length c] w fun e' w' => e' = .returned (.bool (asksB l)) ∧ Below w.heap.size w w' := by
 have h0 := contains_areQuestions A c l w hr hn _ rfl
 unfold asksB
 generalize all_areQuestions l = b at *
 cases h6 : inB (l.length : Int) 1 6
 ·rw [Bool.false_and]
  go_enter Tryz.func70, Tryz.ntmps70
  go_wp2_with fail
  refine (in_is _ _ _ _ _ h6).mono ?_
  rintro e w1 ⟨rfl, rfl⟩
  go_wp2_with fail
  go_ret
  exact ⟨rfl, fr_refl _⟩
 ·rw [Bool.true_and]
  go_enter Tryz.func70, Tryz.ntmps70
  go_wp2_with fail
  refine (in_is _ _ _ _ _ h6).mono ?_
  rintro e w1 ⟨rfl, rfl⟩
  go_wp2_with fail
  refine h0.mono ?_
  rintro e w1 ⟨rfl, hb1⟩
  go_wp2_with fail
  go_ret
  exact ⟨ret_bool (by simp), hb1⟩
end Go.Proofs.YthjblcboainknaaGreatDoor
end

section
namespace Go.Proofs.YthjblcboainknaaGreatDoor
open Go.RowKit Dl

def ans1 (e : Int) (cs : List Int) (y m d : Int) : Int := if realB cs y m d = true then wkd (dayOf e cs ⟨y, m, d⟩) else -1
def ans2 (e : Int) (cs : List Int) (num den add y m d : Int) : Int := if realB cs y m d = true then ageOf num den add (dayOf e cs ⟨y, m, d⟩) else -1
def ans3 (e : Int) (cs : List Int) (num den add y m d : Int) : Int := if (realB cs y m d && (dayOf e cs ⟨y, m, d⟩ == easterDay e cs num den add y)) = true then 1 else 0
/-- the answer to a question about a year -/
def ansOf (e : Int) (cs : List Int) (num den add y : Int) (f : Fact) : Int :=
 if f.k = 1 then ans1 e cs y f.m f.d else if f.k = 2 then ans2 e cs num den add y f.m f.d else if f.k = 3 then ans3 e cs num den add y f.m f.d
 else if f.k = 4 then y % 19 + 1 else yearLen cs y
section
variable (e : Int) (cs : List Int) (num den add y m d v : Int)
theorem ansOf_1 : ansOf e cs num den add y ⟨1, m, d, v⟩ = ans1 e cs y m d := by simp [ansOf]
theorem ansOf_2 : ansOf e cs num den add y ⟨2, m, d, v⟩ = ans2 e cs num den add y m d := by simp [ansOf]
theorem ansOf_3 : ansOf e cs num den add y ⟨3, m, d, v⟩ = ans3 e cs num den add y m d := by simp [ansOf]
theorem ansOf_4 : ansOf e cs num den add y ⟨4, m, d, v⟩ = y % 19 + 1 := by simp [ansOf]
theorem ansOf_5 : ansOf e cs num den add y ⟨5, m, d, v⟩ = yearLen cs y := by simp [ansOf]
end

theorem real_range {cs : List Int} {y m d : Int} (h : realB cs y m d = true) : (0 ≤ y ∧ y ≤ 4000) ∧ (1 ≤ m ∧ m ≤ 12) ∧ (1 ≤ d ∧ d ≤ 31) := by
 obtain ⟨a1, a2, a3, a4, a5, a6⟩ := realB_iff.1 h
 have := mlen_pos (leapB cs y) m
 simp only at a1 a2 a3 a4 a5 a6
 omega
theorem day_range {e : Int} {cs : List Int} {y m d : Int} (he : 0 ≤ e ∧ e ≤ 1000) (h : realB cs y m d = true) : 0 ≤ dayOf e cs ⟨y, m, d⟩ ∧ dayOf e cs ⟨y, m, d⟩ ≤ 1500000 := by
 have h1 := dayOf_bounds (e := e) (realB_iff.1 h)
 obtain ⟨hy, _⟩ := real_range h
 simp only at h1
 have h2 := firstDay_bounds e cs y hy.1
 have h3 := firstDay_bounds e cs (y + 1) (by omega)
 omega

set_option maxRecDepth 100000 in
set_option maxHeartbeats 4000000 in
theorem on_real (A F : Option Addr) (n c fc : Nat) (cs : List Int) (e : Int) (m1 m2 m3 g : Value) (y k m d v : Int) (w : World) (hr : Rd w A n cs) (hn : n ≤ 3) (hpos : Cyc cs) (hF : Rd w F 4002 (firsts e cs)) (he : 0 ≤ e ∧ e ≤ 1000) (hreal : realB cs y m d = true) :
  Calls Tryz.prog 114 #[.agg #[.int .i64 e, .slice A n c, m1, m2, m3, .slice F 4002 fc, g, .int .i64 y], .agg #[.int .i64 k, .int .i64 m, .int .i64 d, .int .i64 v]] w fun e' w' =>
   e' = .returned (.tuple #[.int .i64 (dayOf e cs ⟨y, m, d⟩), .bool true]) ∧ Below w.heap.size w w' := by
 obtain ⟨ry, rm, rd⟩ := real_range hreal
 have g1 := fr_alloc (fr_alloc (fr_alloc (fr_refl w) (.cells #[.int .i64 e, .slice A n c, m1, m2, m3, .slice F 4002 fc, g, .int .i64 y] 113)) (.cells #[.int .i64 k, .int .i64 m, .int .i64 d, .int .i64 v] 69)) (.cells #[.int .i64 y, .int .i64 m, .int .i64 d] 50)
 have hB0 : Blk (((w.alloc (.cells #[.int .i64 e, .slice A n c, m1, m2, m3, .slice F 4002 fc, g, .int .i64 y] 113)).alloc (.cells #[.int .i64 k, .int .i64 m, .int .i64 d, .int .i64 v] 69)).alloc (.cells #[.int .i64 y, .int .i64 m, .int .i64 d] 50)) w.heap.size 113 #[.int .i64 e, .slice A n c, m1, m2, m3, .slice F 4002 fc, g, .int .i64 y] := ((Blk.new w _ _).alloc _).alloc _
 have hB2 : Blk (((w.alloc (.cells #[.int .i64 e, .slice A n c, m1, m2, m3, .slice F 4002 fc, g, .int .i64 y] 113)).alloc (.cells #[.int .i64 k, .int .i64 m, .int .i64 d, .int .i64 v] 69)).alloc (.cells #[.int .i64 y, .int .i64 m, .int .i64 d] 50)) (w.heap.size + 1 + 1) 50 #[.int .i64 y, .int .i64 m, .int .i64 d] := Blk.new_at _ _ (by simp)
 go_enter Tryz.func114, Tryz.ntmps114
 go_wp2_with fail
 refine (isDate_is A n c cs _ _ _ _ _ _ y m d _ (hr.keep g1) hn hpos _ hreal).mono ?_
 rintro e' w1 ⟨rfl, hb1⟩
 have hc0 := fun j => (hB0.keep hb1).cell j
 have hc2 := fun j => (hB2.keep hb1).cell j
 go_wp2_with fail
 refine (day_any A F n c fc cs e _ _ _ _ y m d _ ((hr.keep g1).keep hb1) hn hpos ((hF.keep g1).keep hb1) he ry rm rd).mono ?_
 rintro e' w2 ⟨rfl, hb2⟩
 go_wp2_with fail
 go_ret2
 exact ⟨rfl, fr_call (fr_call g1 hb1) hb2⟩

set_option maxRecDepth 100000 in
set_option maxHeartbeats 4000000 in
theorem on_unreal (A F : Option Addr) (n c fc : Nat) (cs : List Int) (e : Int) (m1 m2 m3 g : Value) (y k m d v : Int) (w : World) (hr : Rd w A n cs) (hn : n ≤ 3) (hpos : Cyc cs) (hreal : realB cs y m d = false) :
  Calls Tryz.prog 114 #[.agg #[.int .i64 e, .slice A n c, m1, m2, m3, .slice F 4002 fc, g, .int .i64 y], .agg #[.int .i64 k, .int .i64 m, .int .i64 d, .int .i64 v]] w fun e' w' =>
   e' = .returned (.tuple #[.int .i64 0, .bool false]) ∧ Below w.heap.size w w' := by
 have g1 := fr_alloc (fr_alloc (fr_alloc (fr_refl w) (.cells #[.int .i64 e, .slice A n c, m1, m2, m3, .slice F 4002 fc, g, .int .i64 y] 113)) (.cells #[.int .i64 k, .int .i64 m, .int .i64 d, .int .i64 v] 69)) (.cells #[.int .i64 y, .int .i64 m, .int .i64 d] 50)
 go_enter Tryz.func114, Tryz.ntmps114
 go_wp2_with fail
 refine (isDate_is A n c cs _ _ _ _ _ _ y m d _ (hr.keep g1) hn hpos _ hreal).mono ?_
 rintro e' w1 ⟨rfl, hb1⟩
 go_wp2_with fail
 go_ret2
 exact ⟨rfl, fr_call g1 hb1⟩

set_option maxRecDepth 100000 in
set_option maxHeartbeats 4000000 in
theorem askWeekday (A F : Option Addr) (n c fc : Nat) (cs : List Int) (e : Int) (m1 m2 m3 g : Value) (y k m d v : Int) (w : World) (hr : Rd w A n cs) (hn : n ≤ 3) (hpos : Cyc cs) (hF : Rd w F 4002 (firsts e cs)) (he : 0 ≤ e ∧ e ≤ 1000) :
  Calls Tryz.prog 98 #[.agg #[.int .i64 e, .slice A n c, m1, m2, m3, .slice F 4002 fc, g, .int .i64 y], .agg #[.int .i64 k, .int .i64 m, .int .i64 d, .int .i64 v]] w fun e' w' =>
   e' = .returned (.int .i64 (ans1 e cs y m d)) ∧ Below w.heap.size w w' := by
 have g1 := fr_alloc (fr_alloc (fr_refl w) (.cells #[.int .i64 e, .slice A n c, m1, m2, m3, .slice F 4002 fc, g, .int .i64 y] 113)) (.cells #[.int .i64 k, .int .i64 m, .int .i64 d, .int .i64 v] 69)
 unfold ans1
 cases hreal : realB cs y m d
 ·rw [if_neg (by simp)]
  go_enter Tryz.func98, Tryz.ntmps98
  go_wp2_with fail
  refine (on_unreal A F n c fc cs e _ _ _ _ y k m d v _ (hr.keep g1) hn hpos hreal).mono ?_
  rintro e' w1 ⟨rfl, hb1⟩
  go_wp2_with fail
  go_ret
  exact ⟨rfl, fr_call g1 hb1⟩
 ·rw [if_pos rfl]
  obtain ⟨hd1, hd2⟩ := day_range he hreal
  go_enter Tryz.func98, Tryz.ntmps98
  go_wp2_with fail
  refine (on_real A F n c fc cs e _ _ _ _ y k m d v _ (hr.keep g1) hn hpos (hF.keep g1) he hreal).mono ?_
  rintro e' w1 ⟨rfl, hb1⟩
  go_wp2_with fail
  refine (weekday_any _ _ (by omega) (by omega)).mono ?_
  rintro e' w2 ⟨rfl, rfl⟩
  go_wp2_with fail
  go_ret
  exact ⟨rfl, fr_call g1 hb1⟩

set_option maxRecDepth 100000 in
set_option maxHeartbeats 4000000 in
theorem askAge (A F : Option Addr) (n c fc : Nat) (cs : List Int) (e num den add : Int) (g : Value) (y k m d v : Int) (w : World) (hr : Rd w A n cs) (hn : n ≤ 3) (hpos : Cyc cs) (hF : Rd w F 4002 (firsts e cs)) (he : 0 ≤ e ∧ e ≤ 1000) (hm : MoonOk num den add) :
  Calls Tryz.prog 99 #[.agg #[.int .i64 e, .slice A n c, .int .i64 num, .int .i64 den, .int .i64 add, .slice F 4002 fc, g, .int .i64 y], .agg #[.int .i64 k, .int .i64 m, .int .i64 d, .int .i64 v]] w fun e' w' =>
   e' = .returned (.int .i64 (ans2 e cs num den add y m d)) ∧ Below w.heap.size w w' := by
 have g1 := fr_alloc (fr_alloc (fr_refl w) (.cells #[.int .i64 e, .slice A n c, .int .i64 num, .int .i64 den, .int .i64 add, .slice F 4002 fc, g, .int .i64 y] 113)) (.cells #[.int .i64 k, .int .i64 m, .int .i64 d, .int .i64 v] 69)
 have hB0 := (Blk.new w 113 #[.int .i64 e, .slice A n c, .int .i64 num, .int .i64 den, .int .i64 add, .slice F 4002 fc, g, .int .i64 y]).alloc (.cells #[.int .i64 k, .int .i64 m, .int .i64 d, .int .i64 v] 69)
 unfold ans2
 cases hreal : realB cs y m d
 ·rw [if_neg (by simp)]
  go_enter Tryz.func99, Tryz.ntmps99
  go_wp2_with fail
  refine (on_unreal A F n c fc cs e _ _ _ _ y k m d v _ (hr.keep g1) hn hpos hreal).mono ?_
  rintro e' w1 ⟨rfl, hb1⟩
  go_wp2_with fail
  go_ret
  exact ⟨rfl, fr_call g1 hb1⟩
 ·rw [if_pos rfl]
  obtain ⟨hd1, hd2⟩ := day_range he hreal
  go_enter Tryz.func99, Tryz.ntmps99
  go_wp2_with fail
  refine (on_real A F n c fc cs e _ _ _ _ y k m d v _ (hr.keep g1) hn hpos (hF.keep g1) he hreal).mono ?_
  rintro e' w1 ⟨rfl, hb1⟩
  have hc0 := fun j => (hB0.keep hb1).cell j
  go_wp2_with fail
  refine (age_any num den add _ _ hm (by omega) (by omega)).mono ?_
  rintro e' w2 ⟨rfl, hb2⟩
  go_wp2_with fail
  go_ret
  exact ⟨rfl, fr_call (fr_call g1 hb1) hb2⟩

set_option maxRecDepth 100000 in
set_option maxHeartbeats 4000000 in
theorem askFeast (A F : Option Addr) (n c fc M : Nat) (cs : List Int) (e num den add y k m d v : Int) (w : World) (hr : Rd w A n cs) (hn : n ≤ 3) (hpos : Cyc cs) (hF : Rd w F 4002 (firsts e cs)) (he : 0 ≤ e ∧ e ≤ 1000) (hm : MoonOk num den add) (hy : 0 ≤ y ∧ y ≤ 4000) (hE : EMap w M (easterDay e cs num den add)) :
  Calls Tryz.prog 100 #[.agg #[.int .i64 e, .slice A n c, .int .i64 num, .int .i64 den, .int .i64 add, .slice F 4002 fc, .map (some M), .int .i64 y], .agg #[.int .i64 k, .int .i64 m, .int .i64 d, .int .i64 v]] w fun e' w' =>
   e' = .returned (.int .i64 (ans3 e cs num den add y m d)) ∧ EMap w' M (easterDay e cs num den add) ∧ w.grownBy w' (some M) := by
 have g1 := fr_alloc (fr_alloc (fr_refl w) (.cells #[.int .i64 e, .slice A n c, .int .i64 num, .int .i64 den, .int .i64 add, .slice F 4002 fc, .map (some M), .int .i64 y] 113)) (.cells #[.int .i64 k, .int .i64 m, .int .i64 d, .int .i64 v] 69)
 have hB0 := (Blk.new w 113 #[.int .i64 e, .slice A n c, .int .i64 num, .int .i64 den, .int .i64 add, .slice F 4002 fc, .map (some M), .int .i64 y]).alloc (.cells #[.int .i64 k, .int .i64 m, .int .i64 d, .int .i64 v] 69)
 unfold ans3
 cases hreal : realB cs y m d
 ·rw [Bool.false_and, if_neg (by simp)]
  go_enter Tryz.func100, Tryz.ntmps100
  go_wp2_with fail
  refine (on_unreal A F n c fc cs e _ _ _ _ y k m d v _ (hr.keep g1) hn hpos hreal).mono ?_
  rintro e' w1 ⟨rfl, hb1⟩
  go_wp2_with fail
  go_ret
  have hfr := fr_call g1 hb1
  exact ⟨rfl, hE.keep hfr, grown_below (World.grownBy.refl w _) hfr⟩
 ·rw [Bool.true_and]
  cases hq : (dayOf e cs ⟨y, m, d⟩ == easterDay e cs num den add y)
  all_goals
   have HQ := Lib.hid hq
   clear hq
   go_enter Tryz.func100, Tryz.ntmps100
   go_wp2_with fail
   refine (on_real A F n c fc cs e _ _ _ _ y k m d v _ (hr.keep g1) hn hpos (hF.keep g1) he hreal).mono ?_
   rintro e' w1 ⟨rfl, hb1⟩
   have hc0 := fun j => (hB0.keep hb1).cell j
   go_wp2_with fail
   refine (sunday_any A F n c fc M cs e num den add y _ ((hr.keep g1).keep hb1) hn hpos ((hF.keep g1).keep hb1) he hm hy ((hE.keep g1).keep hb1)).mono ?_
   rintro e' w2 ⟨rfl, hE2, hg2⟩
   have hq := HQ.out
   clear hc0
   go_wp2_with fail
   go_ret
   exact ⟨rfl, hE2, below_grown (fr_call g1 hb1) hg2⟩

set_option maxRecDepth 100000 in
set_option maxHeartbeats 4000000 in
theorem askGolden (a0 a1 a2 a3 a4 a5 a6 : Value) (y k m d v : Int) (w : World) (hy : 0 ≤ y ∧ y ≤ 4000) :
  Calls Tryz.prog 101 #[.agg #[a0, a1, a2, a3, a4, a5, a6, .int .i64 y], .agg #[.int .i64 k, .int .i64 m, .int .i64 d, .int .i64 v]] w fun e' w' =>
   e' = .returned (.int .i64 (y % 19 + 1)) ∧ Below w.heap.size w w' := by
 obtain ⟨hy1, hy2⟩ := hy
 have h1 : y.tmod 19 = y % 19 := Int.tmod_eq_emod_of_nonneg (by omega)
 have h2 : IntKind.i64.wrap (y % 19) = y % 19 := IntWalk.i64_in _ (by omega)
 have h3 : IntKind.i64.wrap (y % 19 + 1) = y % 19 + 1 := IntWalk.i64_in _ (by omega)
 go_enter Tryz.func101, Tryz.ntmps101
 go_wp2_with fail
 go_ret
 exact ⟨rfl, fr_alloc (fr_alloc (fr_refl _) _) _⟩

set_option maxRecDepth 100000 in
set_option maxHeartbeats 4000000 in
theorem askLength (A : Option Addr) (n c : Nat) (cs : List Int) (e m1 m2 m3 f g : Value) (y k m d v : Int) (w : World) (hr : Rd w A n cs) (hn : n ≤ 3) (hpos : Cyc cs) (hy : 0 ≤ y ∧ y ≤ 4000) :
  Calls Tryz.prog 102 #[.agg #[e, .slice A n c, m1, m2, m3, f, g, .int .i64 y], .agg #[.int .i64 k, .int .i64 m, .int .i64 d, .int .i64 v]] w fun e' w' =>
   e' = .returned (.int .i64 (yearLen cs y)) ∧ Below w.heap.size w w' := by
 have g1 := fr_alloc (fr_alloc (fr_refl w) (.cells #[e, .slice A n c, m1, m2, m3, f, g, .int .i64 y] 113)) (.cells #[.int .i64 k, .int .i64 m, .int .i64 d, .int .i64 v] 69)
 go_enter Tryz.func102, Tryz.ntmps102
 go_wp2_with fail
 refine (days_any A n c cs _ _ _ _ _ _ y _ (hr.keep g1) hn hpos hy.1 (by omega)).mono ?_
 rintro e' w1 ⟨rfl, hb1⟩
 go_wp2_with fail
 go_ret
 exact ⟨rfl, fr_call g1 hb1⟩
end Go.Proofs.YthjblcboainknaaGreatDoor
end
