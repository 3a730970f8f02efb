/- Walks: what is given up with; the parts of a string; the numbers of a row. Walk: the numbers of a row. -/
import Derived.Test.YthjblcboainknaaGreatDoorMCR
import Derived.Test.YthjblcboainknaaGreatDoorMB3
import Derived.Test.YthjblcboainknaaGreatDoorMP2
import Derived.Laws.RangeString
import Derived.Laws.RangeAny
section
namespace Go.Proofs.YthjblcboainknaaGreatDoor
open Go.RowKit Dl

/-- the longest string that the library's search takes in one: some number -/
def MaxP (w : World) : Prop := ∃ m : Int, w.cell? ⟨1, 0, none⟩ = some (.int .i64 m)
theorem MaxP.keep {w w' : World} (h : MaxP w) (hb : Below w.heap.size w w') : MaxP w' := by
 obtain ⟨m, hm⟩ := h
 exact ⟨m, (hb.cell (World.block_lt_of_cell? _ _ hm)).trans hm⟩
/-- what gave up -/
def Gave (w : World) (e : Ending) (w' : World) : Prop := ∃ s, e = .panicked (noneV s) ∧ Below w.heap.size w w'
/-- a slice of strings -/
def RdT (w : World) (A : Option Addr) (n : Nat) (ps : List (List UInt8)) : Prop := ps.length = n ∧ ∀ j : Nat, ∀ p, ps[j]? = some p → ∃ ad, A = some ad ∧ ad.block < w.heap.size ∧ w.cell? (ad.add j) = some (strV p)
theorem RdT.keep {w w' : World} {A : Option Addr} {n : Nat} {ps : List (List UInt8)} (h : RdT w A n ps) (hb : Below w.heap.size w w') : RdT w' A n ps :=
 ⟨h.1, fun j p hp => by
  obtain ⟨ad, e, hlt, hc⟩ := h.2 j p hp
  exact ⟨ad, e, Nat.lt_of_lt_of_le hlt hb.size, (hb.cell (by rw [block_of_add]; exact hlt)).trans hc⟩⟩

set_option maxHeartbeats 1000000 in
theorem sure_yes (s : ByteArray) (w : World) : Calls Tryz.prog 85 #[.bool true, .string s] w fun e w' => e = .returned (.tuple #[]) ∧ w = w' := by
 go_enter Tryz.func85, Tryz.ntmps85
 go_wp2_with fail
 go_end0
 exact ⟨rfl, rfl⟩
set_option maxHeartbeats 1000000 in
theorem sure_no (s : ByteArray) (w : World) : Calls Tryz.prog 85 #[.bool false, .string s] w fun e w' => e = .panicked (noneV s) ∧ w = w' := by
 unfold noneV
 go_enter Tryz.func85, Tryz.ntmps85
 go_wp2_with fail
 exact ⟨rfl, rfl, rfl⟩

theorem split_is (c : UInt8) (l : List UInt8) (w : World) (hl : l.length ≤ 1000000) (hM : MaxP w) :
  Calls Tryz.prog 84 #[.string ⟨l.toArray⟩, .string ⟨#[c]⟩] w fun e w' => e = .returned (.slice (some ⟨w.heap.size, 0, none⟩) (pieces c l).length (pieces c l).length) ∧
   (∀ j p, (pieces c l)[j]? = some p → w'.cell? ⟨w.heap.size, j, none⟩ = some (strV p)) ∧ w'.heap.size = w.heap.size + 1 ∧ Below w.heap.size w w' := by
 obtain ⟨m, hm⟩ := hM
 have hs : (⟨l.toArray⟩ : ByteArray).size = l.length := by show l.toArray.size = _; simp
 refine (Tryz.strings_Split ⟨l.toArray⟩ ⟨#[c]⟩ m w (by rw [hs]; omega) hm (Nat.le_refl 1)).mono ?_
 rintro e w' ⟨rfl, rfl⟩
 rw [split_count]
 refine ⟨rfl, fun j p hp => ?_, by simp, fr_alloc (fr_refl w) _⟩
 rw [cell_new, split_cells, List.getElem?_toArray, List.getElem?_map, hp]
 rfl

/-- what told returns, or that it gives up -/
def ToldPost (l : List UInt8) (w : World) (e : Ending) (w' : World) : Prop :=
 (∃ xs A c, toldB l = some xs ∧ e = .returned (.slice A xs.length c) ∧ Rd w' A xs.length xs ∧ xs.length ≤ c ∧ Fresh w.heap.size A ∧ Below w.heap.size w w') ∨ (toldB l = none ∧ Gave w e w')
theorem nums_fail {ws : List (List UInt8)} {j : Nat} {wd : List UInt8} (h : ws[j]? = some wd) (hn : numB wd = none) : nums ws = none := by
 cases hx : nums ws with
 | none => rfl
 | some xs =>
  obtain ⟨hs, he⟩ := nums_some ws xs hx
  rw [he, List.getElem?_map] at h
  cases hj : xs[j]? with
  | none => rw [hj] at h; cases h
  | some x =>
   rw [hj] at h
   cases h
   rw [numB_itoa (hs x (List.mem_of_getElem? hj))] at hn
   cases hn
theorem numB_dig {wd : List UInt8} (h : wd.all digB = false) : numB wd = none := by
 unfold numB
 rw [if_neg]
 rintro ⟨_, _, h3, _⟩
 rw [h] at h3
 cases h3
theorem numB_long {wd : List UInt8} (h : 5 < wd.length) : numB wd = none := by
 unfold numB
 rw [if_neg]
 rintro ⟨_, h2, _, _⟩
 omega
theorem all_at {wd : List UInt8} {p : Nat} {b : UInt8} (h : wd[p]? = some b) (hb : digB b = false) : wd.all digB = false := by
 rw [List.all_eq_false]
 exact ⟨b, List.mem_of_getElem? h, by rw [hb]; simp⟩
theorem iter_fr (w : World) (s : ByteArray) (pos : Nat) : Below w.heap.size w (w.iter s pos) := fr_alloc (fr_refl w) _
theorem val_step (wd : List UInt8) (p : Nat) (b : UInt8) (h : wd[p]? = some b) : valOf (wd.take (p + 1)) = 10 * valOf (wd.take p) + ((b.toNat : Int) - 48) := by
 have hl : p < wd.length := (List.getElem?_eq_some_iff.1 h).1
 have hb : wd[p] = b := (List.getElem?_eq_some_iff.1 h).2
 rw [List.take_succ_eq_append_getElem hl, hb]
 unfold valOf
 rw [valGo_app]
 rfl
theorem val_small (wd : List UInt8) (p : Nat) (hp : p ≤ 5) (h : (wd.take p).all digB = true) : 0 ≤ valOf (wd.take p) ∧ valOf (wd.take p) ≤ 99999 := by
 have hb := valGo_bounds (wd.take p) 0 (Int.le_refl _) h
 have h5 : 10 ^ (wd.take p).length ≤ 100000 := Nat.le_trans (Nat.pow_le_pow_right (show 0 < 10 by omega) (by rw [List.length_take]; omega : (wd.take p).length ≤ 5)) (by decide)
 have e1 : ((10 ^ (wd.take p).length : Nat) : Int) = (10 : Int) ^ (wd.take p).length := by push_cast; rfl
 unfold valOf
 omega
end Go.Proofs.YthjblcboainknaaGreatDoor
end

section
namespace Go.Proofs.YthjblcboainknaaGreatDoor
open Go.RowKit Dl

theorem digB_iff (b : UInt8) : digB b = true ↔ 48 ≤ b.toNat ∧ b.toNat ≤ 57 := by unfold digB; simp

set_option maxRecDepth 100000 in
set_option maxHeartbeats 8000000 in
theorem told_any (l : List UInt8) (w : World) (hl : l.length ≤ 1000) (hM : MaxP w) (hT : TabP w) :
  Calls Tryz.prog 86 #[.string ⟨l.toArray⟩] w fun e w' => ToldPost l w e w' := by
 have hpl := pieces_len 32 l
 have hpf := pieces_form 32 l
 obtain ⟨ws, gws⟩ : ∃ ws, (pieces 32 l).tail = ws := ⟨_, rfl⟩
 obtain ⟨p0, gp0⟩ : ∃ p0, (pieces 32 l).headD [] = p0 := ⟨_, rfl⟩
 rw [gws, gp0] at hpf
 have HTO := Lib.hid (show toldB l = nums ws by unfold toldB; rw [gws])
 have hsp := split_is 32 l w (by omega) hM
 rw [hpf] at hpl hsp
 simp only [List.length_cons] at hpl hsp
 clear hpf gws gp0
 go_enter Tryz.func86, Tryz.ntmps86
 go_wp2_with fail
 refine hsp.mono ?_
 clear hsp
 rintro e' w1 ⟨rfl, hcell, hsz, hb1⟩
 have hT1 := hT.keep hb1
 have hcell2 : ∀ j p, ws[j]? = some p → w1.cell? ⟨w.heap.size, j + 1, none⟩ = some (strV p) := fun j p h => hcell (j + 1) p h
 have HC := Lib.hid hcell2
 have HSZ := Lib.hid hsz
 have hg1 : w.heap.size < w1.heap.size := by omega
 have HB1 := Lib.hid hb1
 clear hcell hcell2 hsz hb1
 by_cases h0 : ws = []
 ·subst h0
  go_wp2_with fail
  go_loopw [3, 13] (fun v i wx => v = .slice none 0 0 ∧ i = .int .i64 0 ∧ w1 = wx) (fun _ _ _ => 0)
  case atStart => exact ⟨rfl, rfl, rfl⟩
  case round =>
   obtain ⟨rfl, rfl, rfl⟩ := hrel
   go_wp2_with fail
   go_ret
   exact Or.inl ⟨[], none, 0, HTO.out, rfl, Rd.nil_ _ _, Nat.le_refl _, (fun ad h => by cases h), HB1.out⟩
 ·have hw1 : 1 ≤ ws.length := by
   cases ws with
   | nil => exact absurd rfl h0
   | cons _ _ => simp
  generalize hlen : ws.length = n at *
  have HL := Lib.hid hlen
  clear hlen h0
  go_wp2_with fail
  go_loopw [3, 13] (fun v i wr => ∃ (j : Nat) (xs : List Int), j ≤ n ∧ i = .int .i64 j ∧ nums (ws.take j) = some xs ∧ Own wr w1.heap.size v xs ∧ Below w1.heap.size w1 wr) (fun _ i _ => n - (intOf i).toNat)
  case atStart => exact ⟨0, [], Nat.zero_le _, rfl, rfl, Own.nil _ _, fr_refl _⟩
  case round =>
   obtain ⟨j, xs, hj, rfl, hnum, hown, hbel⟩ := hrel
   obtain ⟨B0, b0, rfl⟩ := hown.form
   have hxl : xs.length = j := by rw [nums_len hnum, List.length_take]; have := HL.out; omega
   have HN := Lib.hid hnum
   have HXL := Lib.hid hxl
   clear hnum hxl
   by_cases hlt : j < n
   ·obtain ⟨wd, hwd⟩ : ∃ wd, ws[j]? = some wd := ⟨_, List.getElem?_eq_getElem (by have := HL.out; omega)⟩
    have HW := Lib.hid hwd
    have hcw : wr.cell? ⟨w.heap.size, j + 1, none⟩ = some (.string ⟨wd.toArray⟩) := (hbel.cell (p := ⟨w.heap.size, j + 1, none⟩) hg1).trans (HC.out j wd hwd)
    have hcw2 : wr.cell? ⟨w.heap.size, 1 + j, none⟩ = some (.string ⟨wd.toArray⟩) := by rw [Nat.add_comm]; exact hcw
    have hgr : w.heap.size < wr.heap.size := Nat.lt_of_lt_of_le hg1 hbel.size
    have hji : (j : Int) < (n : Int) := by omega
    have hj0 : (0 : Int) ≤ (j : Int) := Int.natCast_nonneg j
    have hss : (⟨wd.toArray⟩ : ByteArray).size = wd.length := by show wd.toArray.size = _; simp
    have HSS := Lib.hid hss
    have HFAIL := Lib.hid (fun (hq : numB wd = none) => (show toldB l = none by rw [HTO.out]; exact nums_fail hwd hq))
    clear hwd hss
    go_wp2_with fail
    go_loopw [6] (fun nn wx => ∃ pos : Nat, pos ≤ wd.length ∧ wx = wr.iter ⟨wd.toArray⟩ pos ∧ nn = .int .i64 (valOf (wd.take pos)) ∧ (wd.take pos).all digB = true ∧ (0 < pos → wd.length ≤ 5)) (fun _ wx => wd.length - wx.iterPos wr.heap.size)
    case atStart => exact ⟨0, Nat.zero_le _, rfl, rfl, rfl, fun h => absurd h (by omega)⟩
    case round =>
     obtain ⟨pos, hpos, rfl, rfl, hall, hp5⟩ := hrel
     have HALL := Lib.hid hall
     have HP5 := Lib.hid hp5
     clear hall hp5
     by_cases hp : pos < wd.length
     ·obtain ⟨b, hb⟩ : ∃ b, wd[pos]? = some b := ⟨_, List.getElem?_eq_getElem hp⟩
      have hps : pos < (⟨wd.toArray⟩ : ByteArray).size := by rw [HSS.out]; exact hp
      have hbs : (⟨wd.toArray⟩ : ByteArray)[pos]'hps = b := by
       show wd.toArray[pos] = b
       simp
       exact (List.getElem?_eq_some_iff.1 hb).2
      have HB := Lib.hid hb
      by_cases ha : b.toNat < 128
      ·have hnx : ∀ ty, (Instr.next (.pointer (some ⟨wr.heap.size, 0, none⟩)) true ty).run Tryz.prog (wr.iter ⟨wd.toArray⟩ pos) = .ok (.tuple #[.bool true, .int .i64 pos, .int .i32 ((b.toNat : Nat) : Int)]) (wr.iter ⟨wd.toArray⟩ (pos + 1)) := fun ty => by
        have h := run_next_ascii (P := Tryz.prog) wr ⟨wd.toArray⟩ pos ty hps (by rw [hbs]; exact ha)
        rw [hbs] at h
        exact h
       clear hb hbs
       by_cases hd : digB b = true
       ·have hdd := (digB_iff b).1 hd
        have HD := Lib.hid hd
        clear hd
        obtain ⟨c, hc⟩ : ∃ c, b.toNat = c := ⟨_, rfl⟩
        rw [hc] at hdd ha hnx
        have HCB := Lib.hid hc
        clear hc
        obtain ⟨hd1, hd2⟩ := hdd
        have hd3 : (48 : Int) ≤ (c : Int) := by omega
        have hd4 : (c : Int) ≤ 57 := by omega
        by_cases h5 : wd.length ≤ 5
        ·have h5i : (wd.length : Int) ≤ 5 := by omega
         have hv := val_small wd pos (by omega) HALL.out
         have hst := val_step wd pos b HB.out
         rw [HCB.out] at hst
         have HST := Lib.hid hst
         clear hst
         obtain ⟨v, gv⟩ : ∃ v, valOf (wd.take pos) = v := ⟨_, rfl⟩
         rw [gv] at hv
         have GV := Lib.hid gv
         simp only [gv]
         clear gv
         obtain ⟨hv1, hv2⟩ := hv
         go_wp2_with fail
         refine (sure_yes _ _).mono ?_
         rintro e' w' ⟨rfl, rfl⟩
         go_wp2_with fail
         refine ⟨⟨pos + 1, by omega, rfl, ?_, ?_, fun _ => h5⟩, ?_⟩
         ·rw [HST.out, GV.out]
         ·rw [List.take_succ_eq_append_getElem hp, List.all_append, HALL.out]
          have := (List.getElem?_eq_some_iff.1 HB.out).2
          rw [this]
          simp [HD.out]
         ·simp
          omega
        ·have h5i : ¬ (wd.length : Int) ≤ 5 := by omega
         have h5d : decide ((wd.length : Int) ≤ 5) = false := decide_eq_false h5i
         go_wp2_with fail
         refine (sure_no _ _).mono ?_
         rintro e' w' ⟨rfl, rfl⟩
         exact ⟨rfl, Or.inr ⟨HFAIL.out (numB_long (by omega)), _, rfl, fr_call (fr_call HB1.out hbel) (iter_fr _ _ _)⟩⟩
       ·have hdf : digB b = false := by simpa using hd
        have HDF := Lib.hid (numB_dig (all_at HB.out hdf))
        have hdd : b.toNat < 48 ∨ 57 < b.toNat := by
         have := mt (digB_iff b).2 hd
         omega
        clear hd hdf
        obtain ⟨c, hc⟩ : ∃ c, b.toNat = c := ⟨_, rfl⟩
        rw [hc] at hdd ha hnx
        have HCB := Lib.hid hc
        clear hc
        rcases hdd with hd1 | hd1
        ·have hd3 : decide ((48 : Int) ≤ (c : Int)) = false := decide_eq_false (by omega)
         have hd4 : ¬ (48 : Int) ≤ (c : Int) := by omega
         go_wp2_with fail
         refine (sure_no _ _).mono ?_
         rintro e' w' ⟨rfl, rfl⟩
         exact ⟨rfl, Or.inr ⟨HFAIL.out HDF.out, _, rfl, fr_call (fr_call HB1.out hbel) (iter_fr _ _ _)⟩⟩
        ·have hd3 : (48 : Int) ≤ (c : Int) := by omega
         have hd4 : decide ((c : Int) ≤ 57) = false := decide_eq_false (by omega)
         go_wp2_with fail
         refine (sure_no _ _).mono ?_
         rintro e' w' ⟨rfl, rfl⟩
         exact ⟨rfl, Or.inr ⟨HFAIL.out HDF.out, _, rfl, fr_call (fr_call HB1.out hbel) (iter_fr _ _ _)⟩⟩
      ·have hdf : digB b = false := by
        unfold digB
        have : decide (b.toNat ≤ 57) = false := decide_eq_false (by omega)
        rw [this, Bool.and_false]
       have HDF := Lib.hid (numB_dig (all_at HB.out hdf))
       have hdh := decode_high ⟨wd.toArray⟩ pos hps (by rw [hbs]; omega)
       have hdl := decode_le ⟨wd.toArray⟩ pos
       have hnx : ∀ ty, (Instr.next (.pointer (some ⟨wr.heap.size, 0, none⟩)) true ty).run Tryz.prog (wr.iter ⟨wd.toArray⟩ pos) = _ := fun ty => run_next_any (P := Tryz.prog) wr ⟨wd.toArray⟩ pos ty hps
       clear hb hbs hdf
       generalize (Utf8.decode ⟨wd.toArray⟩ pos).2 = wdt at *
       generalize (Utf8.decode ⟨wd.toArray⟩ pos).1 = c at *
       have hd3 : (48 : Int) ≤ (c : Int) := by omega
       have hd4 : decide ((c : Int) ≤ 57) = false := decide_eq_false (by omega)
       go_wp2_with fail
       refine (sure_no _ _).mono ?_
       rintro e' w' ⟨rfl, rfl⟩
       exact ⟨rfl, Or.inr ⟨HFAIL.out HDF.out, _, rfl, fr_call (fr_call HB1.out hbel) (iter_fr _ _ _)⟩⟩
     ·obtain rfl : pos = wd.length := by omega
      generalize hpl2 : wd.length = pos at *
      have HPL := Lib.hid hpl2
      clear hpl2 hp hpos
      have hps : ¬ pos < (⟨wd.toArray⟩ : ByteArray).size := by rw [HSS.out]; omega
      have hnx : ∀ ty, (Instr.next (.pointer (some ⟨wr.heap.size, 0, none⟩)) true ty).run Tryz.prog (wr.iter ⟨wd.toArray⟩ pos) = _ := fun ty => run_next_end (P := Tryz.prog) wr ⟨wd.toArray⟩ pos ty hps
      have htk : wd.take pos = wd := List.take_of_length_le (by have := HPL.out; omega)
      have hall := HALL.out
      rw [htk] at hall ⊢
      have HT := Lib.hid htk
      clear htk
      have hbi := iter_fr wr ⟨wd.toArray⟩ pos
      have hownI := hown.keep hbi
      have hTI := (hT1.keep hbel).keep hbi
      have hbelI := fr_call hbel hbi
      by_cases hne : wd = []
      ·have HE := Lib.hid (show numB wd = none by rw [hne]; unfold numB; rw [if_neg (fun h => h.1 rfl)])
       have hq2 : (wd == ([] : List UInt8)) = true := by rw [hne]; rfl
       have hq1 : (wd == ByteArray.toList ⟨#[]⟩) = true := by
        show (wd == ByteArray.toList ⟨([] : List UInt8).toArray⟩) = true
        rw [ByteArray.toList_mk]
        exact hq2
       have hq3 : wd.isEmpty = true := by rw [hne]; rfl
       generalize valOf wd = v0 at *
       generalize wr.iter ⟨wd.toArray⟩ pos = wi at *
       clear hne hall
       go_wp2_with fail
       refine (sure_no _ _).mono ?_
       rintro e' w' ⟨rfl, rfl⟩
       exact ⟨rfl, Or.inr ⟨HFAIL.out HE.out, _, rfl, fr_call HB1.out hbelI⟩⟩
      ·have h5 := HP5.out (by have := HPL.out; cases wd with | nil => exact absurd rfl hne | cons _ _ => simp at this; omega)
       have hv := val_small wd pos h5 (by rw [HT.out]; exact hall)
       rw [HT.out] at hv
       obtain ⟨v, gv⟩ : ∃ v, valOf wd = v := ⟨_, rfl⟩
       rw [gv] at hv ⊢
       have GV := Lib.hid gv
       clear gv
       obtain ⟨hv1, hv2⟩ := hv
       generalize wr.iter ⟨wd.toArray⟩ pos = wi at *
       have HALL2 := Lib.hid hall
       have hq2 : (wd == ([] : List UInt8)) = false := by
        cases wd with
        | nil => exact absurd rfl hne
        | cons _ _ => rfl
       have hq1 : (wd == ByteArray.toList ⟨#[]⟩) = false := by
        show (wd == ByteArray.toList ⟨([] : List UInt8).toArray⟩) = false
        rw [ByteArray.toList_mk]
        exact hq2
       have hq3 : wd.isEmpty = false := by
        cases wd with
        | nil => exact absurd rfl hne
        | cons _ _ => rfl
       have HNE := Lib.hid hne
       clear hall hne
       go_wp2_with fail
       refine (itoa_any v _ hv1 (by omega) hTI).mono ?_
       rintro e' w2 ⟨rfl, hb2⟩
       obtain ⟨it, git⟩ : ∃ it, Lib.itoa v = it := ⟨_, rfl⟩
       rw [git]
       have GIT := Lib.hid git
       clear git
       have hown2 := hownI.keep hb2
       have hbel2 := fr_call hbelI hb2
       by_cases hit : it = wd
       ·subst hit
        go_wp2_with fail
        refine (sure_yes _ _).mono ?_
        rintro e' w' ⟨rfl, rfl⟩
        go_wp2_with (at_builtin; refine app_int rfl (.tmp 51) (.tmp 53) rfl w1.heap.size _ xs rfl rfl hown2 (by have := HXL.out; omega) hbel2.size ?_; intro B2 cap2 wC hown' hg)
        have ha := fr_alloc (fr_refl w2) (.cells #[.int .i64 v] 3)
        have hge := own_ge hown2
        refine ⟨⟨j + 1, xs ++ [v], by omega, by go_num, ?_, hown', (fr_call hbel2 ha).grown hg (fr_call hbel2 ha).size hge⟩, ?_⟩
        ·have hjl : j < ws.length := by have := HL.out; omega
         have hw := (List.getElem?_eq_some_iff.1 HW.out).2
         rw [List.take_succ_eq_append_getElem hjl, hw, nums_snoc, HN.out, ← GIT.out, numB_itoa ⟨hv1, hv2⟩]
        ·simp [intOf]; omega
       ·have hi1 : (it == wd) = false := beq_eq_false_iff_ne.2 hit
        have hi2 : decide (it = wd) = false := decide_eq_false hit
        go_wp2_with fail
        refine (sure_no _ _).mono ?_
        rintro e' w' ⟨rfl, rfl⟩
        refine ⟨rfl, Or.inr ⟨HFAIL.out ?_, _, rfl, fr_call HB1.out hbel2⟩⟩
        unfold numB
        rw [if_neg]
        rintro ⟨_, _, _, h4⟩
        rw [GV.out, GIT.out] at h4
        exact hit h4
   ·obtain rfl : j = n := by omega
    have hfin := HN.out
    rw [List.take_of_length_le (by have := HL.out; omega)] at hfin
    have HF := Lib.hid (HTO.out.trans hfin)
    have hcap := hown.cap
    have hfrs : Fresh w.heap.size B0 := fun ad h => by
     subst h
     have := own_ge hown ad.block (by simp [Value.ownBlock])
     omega
    clear hfin
    go_wp2_with fail
    go_ret
    exact Or.inl ⟨xs, B0, b0, HF.out, rfl, hown.rd, hcap, hfrs, fr_call HB1.out hbel⟩
end Go.Proofs.YthjblcboainknaaGreatDoor
end
