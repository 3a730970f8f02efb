/- Walk: Read. Walk: Read, all its ways. -/
import Derived.Test.YthjblcboainknaaGreatDoorMT3
import Derived.Test.YthjblcboainknaaGreatDoorMC3
import Derived.Test.YthjblcboainknaaGreatDoorMB2
section
namespace Go.Proofs.YthjblcboainknaaGreatDoor
open Go.RowKit Dl

theorem RdS.far {w w' : World} {A : Option Addr} {k g : Nat} {rows : List (List Value)} (h : RdS w A k rows) (hg : w.grownBy w' (some g)) (hne : ∀ ad, A = some ad → ad.block ≠ g) : RdS w' A k rows := fun hn => by
 obtain ⟨ad, e, hlt, hc⟩ := h hn
 exact ⟨ad, e, Nat.lt_of_lt_of_le hlt hg.size, fun i r hr => ⟨(hc i r hr).1, fun j v hv => (World.cell?_of_block (hg.block _ (by rw [block_of_add]; exact hlt) (by rw [block_of_add]; intro e'; cases e'; exact hne ad e rfl))).trans ((hc i r hr).2 j v hv)⟩⟩
theorem results_blk_two {P : Program} {w : World} {fn : Func} {t t2 u u2 : Tmp} {ty ty2 : TypeId} (h : fn.results = #[.cell t ty, .cell t2 ty2, .tmp u, .tmp u2]) (tmps : Array Value) (g g2 : Nat) (bt bt2 : TypeId) (cs cs2 : Array Value)
  (hp : tmps.getD t undef = .pointer (some ⟨g, 0, none⟩)) (hp2 : tmps.getD t2 undef = .pointer (some ⟨g2, 0, none⟩)) (hB : Blk w g bt cs) (hB2 : Blk w g2 bt2 cs2)
  {d d2 : TypeDesc} (hu : P.underlying ty = some d) (hd : d.isRow = true) (hi : (P.info? ty).map (·.size) = some cs.size) (hu2 : P.underlying ty2 = some d2) (hd2 : d2.isRow = true) (hi2 : (P.info? ty2).map (·.size) = some cs2.size) :
  (results fn tmps).run P w = .ok (.tuple #[.agg cs, .agg cs2, tmps.getD u undef, tmps.getD u2 undef]) w := by
 have hr : w.rangeAt g 0 cs.toList := fun j v hv => by
  rw [Nat.zero_add, hB.cell]
  simpa using hv
 have hr2 : w.rangeAt g2 0 cs2.toList := fun j v hv => by
  rw [Nat.zero_add, hB2.cell]
  simpa using hv
 have h1 := run_loadVar_mid w g 0 ty cs.toList d hr hu hd (by simpa using hi)
 have h2 := run_loadVar_mid w g2 0 ty2 cs2.toList d2 hr2 hu2 hd2 (by simpa using hi2)
 have hp' : (tmps[t]?).getD undef = .pointer (some ⟨g, 0, none⟩) := by simpa using hp
 have hp2' : (tmps[t2]?).getD undef = .pointer (some ⟨g2, 0, none⟩) := by simpa using hp2
 rw [Array.toArray_toList] at h1 h2
 simp [results, h, hp', hp2', asAddr, h1, h2]

set_option maxHeartbeats 1000000 in
theorem try_Read (cap : Array Value) (R1 R2 : World → Prop) (w : World)
  (h : Calls Tryz.prog 42 cap (w.alloc (.cells #[.int .i64 0] 31)) fun e w' => ((e = .returned (.tuple #[]) ∧ R1 w') ∨ (∃ why, e = .panicked (noneV why) ∧ R2 w')) ∧ w'.cell? ⟨w.heap.size, 0, none⟩ = some (.int .i64 0) ∧ w'.frozen? ⟨w.heap.size, 0, none⟩ = false) :
  Calls Tryz.prog 41 #[.func (.func 42) #[] cap] w fun e w'' => (e = .returned (.int .i64 0) ∧ ∃ w', R1 w' ∧ w'' = w'.setCell ⟨w.heap.size, 0, none⟩ (.int .i64 0)) ∨
   (e = .returned (.int .i64 4) ∧ ∃ why w', R2 w' ∧ w'' = (w'.alloc (.cells #[.string why] 129)).setCell ⟨w.heap.size, 0, none⟩ (.int .i64 4)) := by
 have hmf : ∀ (fn : Fn) (first cap : Array Value) (w : World), (Instr.makeFunc fn first cap).run Tryz.prog w = .ok (.func fn first cap) w := fun _ _ _ _ => rfl
 have H := Lib.hid h
 clear h
 go_enter_defers Tryz.func41, Tryz.ntmps41
 go_wp2_with fail
 refine (H.out).mono ?_
 rintro e w' ⟨hh, hc, hf⟩
 rcases hh with ⟨rfl, hR⟩ | ⟨why, rfl, hR⟩
 ·go_wp2
  refine leaves_cons (f := 83) (args := #[.pointer (some ⟨w.heap.size, 0, none⟩)]) (by simp) (by simp [go_sem]) ?_
  refine (try1_idle ⟨w.heap.size, 0, none⟩ _).mono ?_
  rintro e u' w'' ⟨rfl, rfl, rfl⟩
  simp [Leaves, settle, results, Tryz.results41, go_sem, hc]
  exact ⟨w', hR, rfl⟩
 ·go_wp2
  refine leaves_cons (f := 83) (args := #[.pointer (some ⟨w.heap.size, 0, none⟩)]) (by simp) (by simp [go_sem]) ?_
  refine (try1_none ⟨w.heap.size, 0, none⟩ 0 why [] _ hc hf).mono ?_
  rintro e u' w'' ⟨rfl, rfl, rfl⟩
  have hpl := World.block_lt_of_cell? w' _ hc
  have hc2 := ((fr_alloc (fr_refl w') (.cells #[.string why] 129)).cell hpl).trans hc
  simp [Leaves, settle, results, Tryz.results41, go_sem, hc2]
  exact ⟨why, w', hR, rfl⟩

def almV (a : Alm) (A : Option Addr) (c : Nat) (L : Option Addr) (lc : Nat) : Array Value := #[.int .i64 a.e, .slice A a.cs.length c, .int .i64 a.num, .int .i64 a.den, .int .i64 a.add, .slice L a.l.length lc]
def Read1R1 (s : List UInt8) (b1 : Nat) (w w' : World) : Prop := ∃ (a : Alm) (A : Option Addr) (c : Nat) (L : Option Addr) (lc : Nat), dread s = some a ∧ Blk w' b1 76 (almV a A c L lc) ∧ Rd w' A a.cs.length a.cs ∧ RdS w' L 4 (a.l.map Fact.row) ∧ Fresh w.heap.size A ∧ Fresh w.heap.size L ∧ (a.cs.length ≤ 400 ∧ a.l.length ≤ 400) ∧ w.grownBy w' (some b1)
def Read1R2 (s : List UInt8) (w w' : World) : Prop := dread s = none ∧ Below w.heap.size w w'
set_option maxRecDepth 100000 in
set_option maxHeartbeats 4000000 in
theorem Read1_any (s : List UInt8) (b0 b1 : Nat) (z : Array Value) (w : World) (hs : s.length ≤ 400) (hM : MaxP w) (hT : TabP w) (hB0 : Blk w b0 9 #[.string ⟨s.toArray⟩]) (hB1 : Blk w b1 76 z) (hz : z.size = 6) :
  Calls Tryz.prog 42 #[.pointer (some ⟨b0, 0, none⟩), .pointer (some ⟨b1, 0, none⟩)] w fun e w' =>
   (e = .returned (.tuple #[]) ∧ Read1R1 s b1 w w') ∨ (∃ why, e = .panicked (noneV why) ∧ Read1R2 s w w') := by
 have hc0 := hB0.cell 0
 simp only [List.getElem?_toArray, List.getElem?_cons_zero] at hc0
 have hl0 := hB0.lt
 go_enter Tryz.func42, Tryz.ntmps42
 go_wp2_with fail
 refine (parsed_any s _ hs hM hT).mono ?_
 rintro e' w1 hp
 rcases hp with ⟨a, A, c, L, lc, hd, rfl, hrA, hrL, hfA, hfL, hls, hb⟩ | ⟨hd, why, rfl, hb⟩
 ·have hB2 := hB1.keep hb
  have hl2 := hB1.lt
  have hd' := Lib.hid hd
  clear hd
  obtain ⟨ae, acs, anum, aden, aadd, al⟩ := a
  simp only at hrA hrL ⊢
  go_wp2_with (refine wpList_store_blk rfl _ _ _ rfl b1 76 _ _ rfl rfl hB2 (by rw [hz]; rfl) (by kernel_rfl) (by simp [Value.oneCell']) ?_; intro w2 hB3 hg3)
  go_end0
  refine Or.inl ⟨rfl, ⟨ae, acs, anum, aden, aadd, al⟩, A, c, L, lc, hd'.out, hB3, hrA.far hg3 (fun ad h => by have := hfA ad h; omega), hrL.far hg3 (fun ad h => by have := hfL ad h; omega), hfA, hfL, hls, below_grown hb hg3⟩
 ·exact ⟨rfl, Or.inr ⟨why, rfl, hd, hb⟩⟩
end Go.Proofs.YthjblcboainknaaGreatDoor
end

section
namespace Go.Proofs.YthjblcboainknaaGreatDoor
open Go.RowKit Dl

theorem set_grown (w : World) (g o : Nat) (v : Value) : w.grownBy (w.setCell ⟨g, o, none⟩ v) (some g) := ⟨rfl, rfl, rfl, by simp, fun i _ hn => Below.heap_setCell w ⟨g, o, none⟩ v i (by simpa using hn)⟩
def almB (a : Alm) : Bool := calOk a.e a.cs && moonB a.num a.den a.add && factsB a.l
/-- what Read returns with an error -/
def readE (k : Int) : Ending := .returned (.tuple #[.agg #[.int .i64 0, .slice none 0 0], .agg #[.int .i64 0, .int .i64 0, .int .i64 0], .slice none 0 0, .int .i64 k])
def ReadPost (s : List UInt8) (w : World) (e : Ending) (w' : World) : Prop :=
 Below w.heap.size w w' ∧ ((400 < s.length ∧ e = readE 3) ∨ (s.length ≤ 400 ∧ dread s = none ∧ e = readE 4) ∨ (s.length ≤ 400 ∧ ∃ a, dread s = some a ∧ almB a = false ∧ e = readE 2) ∨
  (s.length ≤ 400 ∧ ∃ (a : Alm) (A : Option Addr) (c : Nat) (L : Option Addr) (lc : Nat), dread s = some a ∧ almB a = true ∧
   e = .returned (.tuple #[.agg #[.int .i64 a.e, .slice A a.cs.length c], .agg #[.int .i64 a.num, .int .i64 a.den, .int .i64 a.add], .slice L a.l.length lc, .int .i64 0]) ∧ Rd w' A a.cs.length a.cs ∧ RdS w' L 4 (a.l.map Fact.row)))

set_option maxRecDepth 100000 in
set_option maxHeartbeats 16000000 in
theorem Read_any (s : List UInt8) (w : World) (hln : s.length ≤ 9223372036854775807) (hM : MaxP w) (hT : TabP w) :
  Calls Tryz.prog 13 #[.string ⟨s.toArray⟩] w fun e w' => ReadPost s w e w' := by
 have hmf : ∀ (fn : Fn) (first cap : Array Value) (w : World), (Instr.makeFunc fn first cap).run Tryz.prog w = .ok (.func fn first cap) w := fun _ _ _ _ => rfl
 have g3 := fr_alloc (fr_alloc (fr_alloc (fr_refl w) (.cells #[.string ⟨s.toArray⟩] 9)) (.cells #[.int .i64 0, .slice none 0 0] 24)) (.cells #[.int .i64 0, .int .i64 0, .int .i64 0] 26)
 have hS3 : Blk (((w.alloc (.cells #[.string ⟨s.toArray⟩] 9)).alloc (.cells #[.int .i64 0, .slice none 0 0] 24)).alloc (.cells #[.int .i64 0, .int .i64 0, .int .i64 0] 26)) w.heap.size 9 #[.string ⟨s.toArray⟩] := ((Blk.new w _ _).alloc _).alloc _
 have hC3 : Blk (((w.alloc (.cells #[.string ⟨s.toArray⟩] 9)).alloc (.cells #[.int .i64 0, .slice none 0 0] 24)).alloc (.cells #[.int .i64 0, .int .i64 0, .int .i64 0] 26)) (w.heap.size + 1) 24 #[.int .i64 0, .slice none 0 0] := (Blk.new_at _ _ (by simp)).alloc _
 have hM3 : Blk (((w.alloc (.cells #[.string ⟨s.toArray⟩] 9)).alloc (.cells #[.int .i64 0, .slice none 0 0] 24)).alloc (.cells #[.int .i64 0, .int .i64 0, .int .i64 0] 26)) (w.heap.size + 1 + 1) 26 #[.int .i64 0, .int .i64 0, .int .i64 0] := Blk.new_at _ _ (by simp)
 by_cases hlong : 400 < s.length
 ·have hd : decide ((400 : Int) < (s.length : Int)) = true := decide_eq_true (by omega)
  go_enter Tryz.func13, Tryz.ntmps13
  go_wp2_with (first | (refine wpList_store_blk rfl _ _ _ rfl (w.heap.size + 1) 24 _ _ rfl rfl hC3 rfl (by kernel_rfl) (by simp [Value.oneCell']) ?_; intro Wa hCa hga; have hMa := hM3.grown hga (by simp)) | (refine wpList_store_blk rfl _ _ _ rfl (w.heap.size + 1 + 1) 26 _ _ rfl rfl hMa rfl (by kernel_rfl) (by simp [Value.oneCell']) ?_; intro Wb hM5 hgb; have hC5 := hCa.grown hgb (by simp)))
  have hf5 : Below w.heap.size w Wb := ((g3).grown hga (g3).size (by intro k hk; cases hk; omega)).grown hgb ((g3).grown hga (g3).size (by intro k hk; cases hk; omega)).size (by intro k hk; cases hk; omega)
  refine bodyPost_ret (results_blk_two rfl _ _ _ _ _ _ _ rfl rfl hC5 hM5 Tryz.underlying24 rfl (by kernel_rfl) Tryz.underlying26 rfl (by kernel_rfl)) rfl ⟨hf5, Or.inl ⟨hlong, rfl⟩⟩
 ·have hd : decide ((400 : Int) < (s.length : Int)) = false := decide_eq_false (by omega)
  have hs4 : s.length ≤ 400 := by omega
  have ge := fr_alloc (fr_alloc g3 (.cells #[.int .i64 0, .slice none 0 0, .int .i64 0, .int .i64 0, .int .i64 0, .slice none 0 0] 76)) (.cells #[.int .i64 0] 31)
  have hSe := (hS3.alloc (.cells #[.int .i64 0, .slice none 0 0, .int .i64 0, .int .i64 0, .int .i64 0, .slice none 0 0] 76)).alloc (.cells #[.int .i64 0] 31)
  have hCe := (hC3.alloc (.cells #[.int .i64 0, .slice none 0 0, .int .i64 0, .int .i64 0, .int .i64 0, .slice none 0 0] 76)).alloc (.cells #[.int .i64 0] 31)
  have hMe := (hM3.alloc (.cells #[.int .i64 0, .slice none 0 0, .int .i64 0, .int .i64 0, .int .i64 0, .slice none 0 0] 76)).alloc (.cells #[.int .i64 0] 31)
  have hAe := (Blk.new_at (w := ((w.alloc (.cells #[.string ⟨s.toArray⟩] 9)).alloc (.cells #[.int .i64 0, .slice none 0 0] 24)).alloc (.cells #[.int .i64 0, .int .i64 0, .int .i64 0] 26)) (g := w.heap.size + 1 + 1 + 1) 76 #[.int .i64 0, .slice none 0 0, .int .i64 0, .int .i64 0, .int .i64 0, .slice none 0 0] (by simp)).alloc (.cells #[.int .i64 0] 31)
  have hEe := Blk.new ((((w.alloc (.cells #[.string ⟨s.toArray⟩] 9)).alloc (.cells #[.int .i64 0, .slice none 0 0] 24)).alloc (.cells #[.int .i64 0, .int .i64 0, .int .i64 0] 26)).alloc (.cells #[.int .i64 0, .slice none 0 0, .int .i64 0, .int .i64 0, .int .i64 0, .slice none 0 0] 76)) 31 #[.int .i64 0]
  go_enter Tryz.func13, Tryz.ntmps13
  go_wp2_with fail
  refine (try_Read _ (Read1R1 s (w.heap.size + 1 + 1 + 1) (((((w.alloc (.cells #[.string ⟨s.toArray⟩] 9)).alloc (.cells #[.int .i64 0, .slice none 0 0] 24)).alloc (.cells #[.int .i64 0, .int .i64 0, .int .i64 0] 26)).alloc (.cells #[.int .i64 0, .slice none 0 0, .int .i64 0, .int .i64 0, .int .i64 0, .slice none 0 0] 76)).alloc (.cells #[.int .i64 0] 31))) (Read1R2 s (((((w.alloc (.cells #[.string ⟨s.toArray⟩] 9)).alloc (.cells #[.int .i64 0, .slice none 0 0] 24)).alloc (.cells #[.int .i64 0, .int .i64 0, .int .i64 0] 26)).alloc (.cells #[.int .i64 0, .slice none 0 0, .int .i64 0, .int .i64 0, .int .i64 0, .slice none 0 0] 76)).alloc (.cells #[.int .i64 0] 31))) _ ?_).mono ?_
  ·refine (Read1_any s w.heap.size (w.heap.size + 1 + 1 + 1) _ _ hs4 (hM.keep ge) (hT.keep ge) hSe hAe rfl).mono ?_
   rintro e' W' hh
   have hE : Blk W' ((((w.alloc (.cells #[.string ⟨s.toArray⟩] 9)).alloc (.cells #[.int .i64 0, .slice none 0 0] 24)).alloc (.cells #[.int .i64 0, .int .i64 0, .int .i64 0] 26)).alloc (.cells #[.int .i64 0, .slice none 0 0, .int .i64 0, .int .i64 0, .int .i64 0, .slice none 0 0] 76)).heap.size 31 #[.int .i64 0] := by
    rcases hh with ⟨_, _, _, _, _, _, _, _, _, _, _, _, _, hgr⟩ | ⟨_, _, _, hb⟩
    ·exact hEe.grown hgr (by simp)
    ·exact hEe.keep hb
   exact ⟨hh, by rw [hE.cell]; rfl, hE.frozen 0⟩
  rintro e' w5 hh
  have hesz : ((((w.alloc (.cells #[.string ⟨s.toArray⟩] 9)).alloc (.cells #[.int .i64 0, .slice none 0 0] 24)).alloc (.cells #[.int .i64 0, .int .i64 0, .int .i64 0] 26)).alloc (.cells #[.int .i64 0, .slice none 0 0, .int .i64 0, .int .i64 0, .int .i64 0, .slice none 0 0] 76)).heap.size = w.heap.size + 1 + 1 + 1 + 1 := by simp
  rw [hesz] at hh
  have hwe : (((((w.alloc (.cells #[.string ⟨s.toArray⟩] 9)).alloc (.cells #[.int .i64 0, .slice none 0 0] 24)).alloc (.cells #[.int .i64 0, .int .i64 0, .int .i64 0] 26)).alloc (.cells #[.int .i64 0, .slice none 0 0, .int .i64 0, .int .i64 0, .int .i64 0, .slice none 0 0] 76)).alloc (.cells #[.int .i64 0] 31)).heap.size = w.heap.size + 1 + 1 + 1 + 1 + 1 := by simp
  generalize ((((w.alloc (.cells #[.string ⟨s.toArray⟩] 9)).alloc (.cells #[.int .i64 0, .slice none 0 0] 24)).alloc (.cells #[.int .i64 0, .int .i64 0, .int .i64 0] 26)).alloc (.cells #[.int .i64 0, .slice none 0 0, .int .i64 0, .int .i64 0, .int .i64 0, .slice none 0 0] 76)).alloc (.cells #[.int .i64 0] 31) = We at *
  clear hEe hAe hSe hesz
  rcases hh with ⟨rfl, w', hr1, hw5⟩ | ⟨rfl, why, w', ⟨hdn, hb⟩, hw5⟩
  ·obtain ⟨a, A, c, L, lc, hd, hB, hrA, hrL, hfA, hfL, ⟨hl1, hl2⟩, hgr⟩ := hr1
   have hg4 := set_grown w' (w.heap.size + 1 + 1 + 1 + 1) 0 (.int .i64 0)
   rw [← hw5] at hg4
   have hA4 : ∀ ad, A = some ad → ad.block ≠ w.heap.size + 1 + 1 + 1 + 1 := fun ad h => by have := hfA ad h; omega
   have hL4 : ∀ ad, L = some ad → ad.block ≠ w.heap.size + 1 + 1 + 1 + 1 := fun ad h => by have := hfL ad h; omega
   have hA1 : ∀ ad, A = some ad → ad.block ≠ w.heap.size + 1 := fun ad h => by have := hfA ad h; omega
   have hL1 : ∀ ad, L = some ad → ad.block ≠ w.heap.size + 1 := fun ad h => by have := hfL ad h; omega
   have hA2 : ∀ ad, A = some ad → ad.block ≠ w.heap.size + 1 + 1 := fun ad h => by have := hfA ad h; omega
   have hL2 : ∀ ad, L = some ad → ad.block ≠ w.heap.size + 1 + 1 := fun ad h => by have := hfL ad h; omega
   replace hrA := hrA.far hg4 hA4
   replace hrL := hrL.far hg4 hL4
   replace hB := hB.grown hg4 (by simp)
   have hC := (hCe.grown hgr (by simp)).grown hg4 (by simp)
   have hMn := (hMe.grown hgr (by simp)).grown hg4 (by simp)
   have hf5 : Below w.heap.size w w5 := ((ge).grown hgr (ge).size (by intro k hk; cases hk; omega)).grown hg4 ((ge).grown hgr (ge).size (by intro k hk; cases hk; omega)).size (by intro k hk; cases hk; omega)
   have hD := Lib.hid hd
   clear hd hg4 hgr hw5 hfA hfL hCe hMe hA4 hL4
   clear ge hM hT hmf
   obtain ⟨ae, acs, anum, aden, aadd, al⟩ := a
   simp only at hrA hrL hl1 hl2
   have hAlm : almB ⟨ae, acs, anum, aden, aadd, al⟩ = (calOk ae acs && moonB anum aden aadd && factsB al) := rfl
   have HAlm := Lib.hid hAlm
   clear hAlm
   have k0 : w5.cell? ⟨w.heap.size + 1 + 1 + 1, 0, none⟩ = some (.int .i64 ae) := by rw [hB.cell]; rfl
   have k1 : w5.cell? ⟨w.heap.size + 1 + 1 + 1, 1, none⟩ = some (.slice A acs.length c) := by rw [hB.cell]; rfl
   have k2 : w5.cell? ⟨w.heap.size + 1 + 1 + 1, 2, none⟩ = some (.int .i64 anum) := by rw [hB.cell]; rfl
   have k3 : w5.cell? ⟨w.heap.size + 1 + 1 + 1, 3, none⟩ = some (.int .i64 aden) := by rw [hB.cell]; rfl
   have k4 : w5.cell? ⟨w.heap.size + 1 + 1 + 1, 4, none⟩ = some (.int .i64 aadd) := by rw [hB.cell]; rfl
   have k5 : w5.cell? ⟨w.heap.size + 1 + 1 + 1, 5, none⟩ = some (.slice L al.length lc) := by rw [hB.cell]; rfl
   cases hok : calOk ae acs
   ·have hmb : True := trivial
    have hl : True := trivial
    go_wp2_with fail
    refine (isCalendar_is A acs.length c acs ae _ hrA (by omega) _ hok).mono ?_
    rintro e' w6 ⟨rfl, hb6⟩
    replace hB := hB.keep hb6
    replace hC := hC.keep hb6
    replace hMn := hMn.keep hb6
    replace hrA := hrA.keep hb6
    replace hrL := hrL.keep hb6
    replace hf5 := fr_call hf5 hb6
    clear k0 k1 k2 k3 k4 k5 hb6
    have k0 : w6.cell? ⟨w.heap.size + 1 + 1 + 1, 0, none⟩ = some (.int .i64 ae) := by rw [hB.cell]; rfl
    have k1 : w6.cell? ⟨w.heap.size + 1 + 1 + 1, 1, none⟩ = some (.slice A acs.length c) := by rw [hB.cell]; rfl
    have k2 : w6.cell? ⟨w.heap.size + 1 + 1 + 1, 2, none⟩ = some (.int .i64 anum) := by rw [hB.cell]; rfl
    have k3 : w6.cell? ⟨w.heap.size + 1 + 1 + 1, 3, none⟩ = some (.int .i64 aden) := by rw [hB.cell]; rfl
    have k4 : w6.cell? ⟨w.heap.size + 1 + 1 + 1, 4, none⟩ = some (.int .i64 aadd) := by rw [hB.cell]; rfl
    have k5 : w6.cell? ⟨w.heap.size + 1 + 1 + 1, 5, none⟩ = some (.slice L al.length lc) := by rw [hB.cell]; rfl
    go_wp2_with (first | (refine wpList_store_blk rfl _ _ _ rfl (w.heap.size + 1) 24 _ _ rfl rfl hC rfl (by kernel_rfl) (by simp [Value.oneCell']) ?_; intro Wa hCa hga; have hMa := hMn.grown hga (by simp)) | (refine wpList_store_blk rfl _ _ _ rfl (w.heap.size + 1 + 1) 26 _ _ rfl rfl hMa rfl (by kernel_rfl) (by simp [Value.oneCell']) ?_; intro Wb hM7 hgb; have hC7 := hCa.grown hgb (by simp)))
    have hf7 : Below w.heap.size w Wb := ((hf5).grown hga (hf5).size (by intro k hk; cases hk; omega)).grown hgb ((hf5).grown hga (hf5).size (by intro k hk; cases hk; omega)).size (by intro k hk; cases hk; omega)
    refine bodyPost_ret (results_blk_two rfl _ _ _ _ _ _ _ rfl rfl hC7 hM7 Tryz.underlying24 rfl (by kernel_rfl) Tryz.underlying26 rfl (by kernel_rfl)) rfl ⟨hf7, Or.inr (Or.inr (Or.inl ⟨hs4, _, hD.out, HAlm.out.trans (by rw [hok]; first | rfl | (rw [hmb]; first | rfl | (rw [hl]; rfl))), rfl⟩))⟩
   ·cases hmb : moonB anum aden aadd
    ·have hl : True := trivial
     go_wp2_with fail
     refine (isCalendar_is A acs.length c acs ae _ hrA (by omega) _ hok).mono ?_
     rintro e' w6 ⟨rfl, hb6⟩
     replace hB := hB.keep hb6
     replace hC := hC.keep hb6
     replace hMn := hMn.keep hb6
     replace hrA := hrA.keep hb6
     replace hrL := hrL.keep hb6
     replace hf5 := fr_call hf5 hb6
     clear k0 k1 k2 k3 k4 k5 hb6
     have k0 : w6.cell? ⟨w.heap.size + 1 + 1 + 1, 0, none⟩ = some (.int .i64 ae) := by rw [hB.cell]; rfl
     have k1 : w6.cell? ⟨w.heap.size + 1 + 1 + 1, 1, none⟩ = some (.slice A acs.length c) := by rw [hB.cell]; rfl
     have k2 : w6.cell? ⟨w.heap.size + 1 + 1 + 1, 2, none⟩ = some (.int .i64 anum) := by rw [hB.cell]; rfl
     have k3 : w6.cell? ⟨w.heap.size + 1 + 1 + 1, 3, none⟩ = some (.int .i64 aden) := by rw [hB.cell]; rfl
     have k4 : w6.cell? ⟨w.heap.size + 1 + 1 + 1, 4, none⟩ = some (.int .i64 aadd) := by rw [hB.cell]; rfl
     have k5 : w6.cell? ⟨w.heap.size + 1 + 1 + 1, 5, none⟩ = some (.slice L al.length lc) := by rw [hB.cell]; rfl
     go_wp2_with fail
     refine (isMoon_is _ _ _ _ _ hmb).mono ?_
     rintro e' w7 ⟨rfl, hb7⟩
     replace hB := hB.keep hb7
     replace hC := hC.keep hb7
     replace hMn := hMn.keep hb7
     replace hrA := hrA.keep hb7
     replace hrL := hrL.keep hb7
     replace hf5 := fr_call hf5 hb7
     clear k0 k1 k2 k3 k4 k5 hb7
     have k0 : w7.cell? ⟨w.heap.size + 1 + 1 + 1, 0, none⟩ = some (.int .i64 ae) := by rw [hB.cell]; rfl
     have k1 : w7.cell? ⟨w.heap.size + 1 + 1 + 1, 1, none⟩ = some (.slice A acs.length c) := by rw [hB.cell]; rfl
     have k2 : w7.cell? ⟨w.heap.size + 1 + 1 + 1, 2, none⟩ = some (.int .i64 anum) := by rw [hB.cell]; rfl
     have k3 : w7.cell? ⟨w.heap.size + 1 + 1 + 1, 3, none⟩ = some (.int .i64 aden) := by rw [hB.cell]; rfl
     have k4 : w7.cell? ⟨w.heap.size + 1 + 1 + 1, 4, none⟩ = some (.int .i64 aadd) := by rw [hB.cell]; rfl
     have k5 : w7.cell? ⟨w.heap.size + 1 + 1 + 1, 5, none⟩ = some (.slice L al.length lc) := by rw [hB.cell]; rfl
     go_wp2_with (first | (refine wpList_store_blk rfl _ _ _ rfl (w.heap.size + 1) 24 _ _ rfl rfl hC rfl (by kernel_rfl) (by simp [Value.oneCell']) ?_; intro Wa hCa hga; have hMa := hMn.grown hga (by simp)) | (refine wpList_store_blk rfl _ _ _ rfl (w.heap.size + 1 + 1) 26 _ _ rfl rfl hMa rfl (by kernel_rfl) (by simp [Value.oneCell']) ?_; intro Wb hM7 hgb; have hC7 := hCa.grown hgb (by simp)))
     have hf7 : Below w.heap.size w Wb := ((hf5).grown hga (hf5).size (by intro k hk; cases hk; omega)).grown hgb ((hf5).grown hga (hf5).size (by intro k hk; cases hk; omega)).size (by intro k hk; cases hk; omega)
     refine bodyPost_ret (results_blk_two rfl _ _ _ _ _ _ _ rfl rfl hC7 hM7 Tryz.underlying24 rfl (by kernel_rfl) Tryz.underlying26 rfl (by kernel_rfl)) rfl ⟨hf7, Or.inr (Or.inr (Or.inl ⟨hs4, _, hD.out, HAlm.out.trans (by rw [hok]; first | rfl | (rw [hmb]; first | rfl | (rw [hl]; rfl))), rfl⟩))⟩
    ·cases hl : factsB al
     ·have hkk : True := trivial
      go_wp2_with fail
      refine (isCalendar_is A acs.length c acs ae _ hrA (by omega) _ hok).mono ?_
      rintro e' w6 ⟨rfl, hb6⟩
      replace hB := hB.keep hb6
      replace hC := hC.keep hb6
      replace hMn := hMn.keep hb6
      replace hrA := hrA.keep hb6
      replace hrL := hrL.keep hb6
      replace hf5 := fr_call hf5 hb6
      clear k0 k1 k2 k3 k4 k5 hb6
      have k0 : w6.cell? ⟨w.heap.size + 1 + 1 + 1, 0, none⟩ = some (.int .i64 ae) := by rw [hB.cell]; rfl
      have k1 : w6.cell? ⟨w.heap.size + 1 + 1 + 1, 1, none⟩ = some (.slice A acs.length c) := by rw [hB.cell]; rfl
      have k2 : w6.cell? ⟨w.heap.size + 1 + 1 + 1, 2, none⟩ = some (.int .i64 anum) := by rw [hB.cell]; rfl
      have k3 : w6.cell? ⟨w.heap.size + 1 + 1 + 1, 3, none⟩ = some (.int .i64 aden) := by rw [hB.cell]; rfl
      have k4 : w6.cell? ⟨w.heap.size + 1 + 1 + 1, 4, none⟩ = some (.int .i64 aadd) := by rw [hB.cell]; rfl
      have k5 : w6.cell? ⟨w.heap.size + 1 + 1 + 1, 5, none⟩ = some (.slice L al.length lc) := by rw [hB.cell]; rfl
      go_wp2_with fail
      refine (isMoon_is _ _ _ _ _ hmb).mono ?_
      rintro e' w7 ⟨rfl, hb7⟩
      replace hB := hB.keep hb7
      replace hC := hC.keep hb7
      replace hMn := hMn.keep hb7
      replace hrA := hrA.keep hb7
      replace hrL := hrL.keep hb7
      replace hf5 := fr_call hf5 hb7
      clear k0 k1 k2 k3 k4 k5 hb7
      have k0 : w7.cell? ⟨w.heap.size + 1 + 1 + 1, 0, none⟩ = some (.int .i64 ae) := by rw [hB.cell]; rfl
      have k1 : w7.cell? ⟨w.heap.size + 1 + 1 + 1, 1, none⟩ = some (.slice A acs.length c) := by rw [hB.cell]; rfl
      have k2 : w7.cell? ⟨w.heap.size + 1 + 1 + 1, 2, none⟩ = some (.int .i64 anum) := by rw [hB.cell]; rfl
      have k3 : w7.cell? ⟨w.heap.size + 1 + 1 + 1, 3, none⟩ = some (.int .i64 aden) := by rw [hB.cell]; rfl
      have k4 : w7.cell? ⟨w.heap.size + 1 + 1 + 1, 4, none⟩ = some (.int .i64 aadd) := by rw [hB.cell]; rfl
      have k5 : w7.cell? ⟨w.heap.size + 1 + 1 + 1, 5, none⟩ = some (.slice L al.length lc) := by rw [hB.cell]; rfl
      go_wp2_with fail
      refine (areFacts_is L lc al _ hrL (by omega)).mono ?_
      rintro e' w8 ⟨rfl, hb8⟩
      rw [hl]
      replace hB := hB.keep hb8
      replace hC := hC.keep hb8
      replace hMn := hMn.keep hb8
      replace hrA := hrA.keep hb8
      replace hrL := hrL.keep hb8
      replace hf5 := fr_call hf5 hb8
      clear k0 k1 k2 k3 k4 k5 hb8
      have k0 : w8.cell? ⟨w.heap.size + 1 + 1 + 1, 0, none⟩ = some (.int .i64 ae) := by rw [hB.cell]; rfl
      have k1 : w8.cell? ⟨w.heap.size + 1 + 1 + 1, 1, none⟩ = some (.slice A acs.length c) := by rw [hB.cell]; rfl
      have k2 : w8.cell? ⟨w.heap.size + 1 + 1 + 1, 2, none⟩ = some (.int .i64 anum) := by rw [hB.cell]; rfl
      have k3 : w8.cell? ⟨w.heap.size + 1 + 1 + 1, 3, none⟩ = some (.int .i64 aden) := by rw [hB.cell]; rfl
      have k4 : w8.cell? ⟨w.heap.size + 1 + 1 + 1, 4, none⟩ = some (.int .i64 aadd) := by rw [hB.cell]; rfl
      have k5 : w8.cell? ⟨w.heap.size + 1 + 1 + 1, 5, none⟩ = some (.slice L al.length lc) := by rw [hB.cell]; rfl
      go_wp2_with (first | (refine wpList_store_blk rfl _ _ _ rfl (w.heap.size + 1) 24 _ _ rfl rfl hC rfl (by kernel_rfl) (by simp [Value.oneCell']) ?_; intro Wa hCa hga; have hMa := hMn.grown hga (by simp)) | (refine wpList_store_blk rfl _ _ _ rfl (w.heap.size + 1 + 1) 26 _ _ rfl rfl hMa rfl (by kernel_rfl) (by simp [Value.oneCell']) ?_; intro Wb hM7 hgb; have hC7 := hCa.grown hgb (by simp)))
      have hf7 : Below w.heap.size w Wb := ((hf5).grown hga (hf5).size (by intro k hk; cases hk; omega)).grown hgb ((hf5).grown hga (hf5).size (by intro k hk; cases hk; omega)).size (by intro k hk; cases hk; omega)
      refine bodyPost_ret (results_blk_two rfl _ _ _ _ _ _ _ rfl rfl hC7 hM7 Tryz.underlying24 rfl (by kernel_rfl) Tryz.underlying26 rfl (by kernel_rfl)) rfl ⟨hf7, Or.inr (Or.inr (Or.inl ⟨hs4, _, hD.out, HAlm.out.trans (by rw [hok]; first | rfl | (rw [hmb]; first | rfl | (rw [hl]; rfl))), rfl⟩))⟩
     ·have hkk : True := trivial
      go_wp2_with fail
      refine (isCalendar_is A acs.length c acs ae _ hrA (by omega) _ hok).mono ?_
      rintro e' w6 ⟨rfl, hb6⟩
      replace hB := hB.keep hb6
      replace hC := hC.keep hb6
      replace hMn := hMn.keep hb6
      replace hrA := hrA.keep hb6
      replace hrL := hrL.keep hb6
      replace hf5 := fr_call hf5 hb6
      clear k0 k1 k2 k3 k4 k5 hb6
      have k0 : w6.cell? ⟨w.heap.size + 1 + 1 + 1, 0, none⟩ = some (.int .i64 ae) := by rw [hB.cell]; rfl
      have k1 : w6.cell? ⟨w.heap.size + 1 + 1 + 1, 1, none⟩ = some (.slice A acs.length c) := by rw [hB.cell]; rfl
      have k2 : w6.cell? ⟨w.heap.size + 1 + 1 + 1, 2, none⟩ = some (.int .i64 anum) := by rw [hB.cell]; rfl
      have k3 : w6.cell? ⟨w.heap.size + 1 + 1 + 1, 3, none⟩ = some (.int .i64 aden) := by rw [hB.cell]; rfl
      have k4 : w6.cell? ⟨w.heap.size + 1 + 1 + 1, 4, none⟩ = some (.int .i64 aadd) := by rw [hB.cell]; rfl
      have k5 : w6.cell? ⟨w.heap.size + 1 + 1 + 1, 5, none⟩ = some (.slice L al.length lc) := by rw [hB.cell]; rfl
      go_wp2_with fail
      refine (isMoon_is _ _ _ _ _ hmb).mono ?_
      rintro e' w7 ⟨rfl, hb7⟩
      replace hB := hB.keep hb7
      replace hC := hC.keep hb7
      replace hMn := hMn.keep hb7
      replace hrA := hrA.keep hb7
      replace hrL := hrL.keep hb7
      replace hf5 := fr_call hf5 hb7
      clear k0 k1 k2 k3 k4 k5 hb7
      have k0 : w7.cell? ⟨w.heap.size + 1 + 1 + 1, 0, none⟩ = some (.int .i64 ae) := by rw [hB.cell]; rfl
      have k1 : w7.cell? ⟨w.heap.size + 1 + 1 + 1, 1, none⟩ = some (.slice A acs.length c) := by rw [hB.cell]; rfl
      have k2 : w7.cell? ⟨w.heap.size + 1 + 1 + 1, 2, none⟩ = some (.int .i64 anum) := by rw [hB.cell]; rfl
      have k3 : w7.cell? ⟨w.heap.size + 1 + 1 + 1, 3, none⟩ = some (.int .i64 aden) := by rw [hB.cell]; rfl
      have k4 : w7.cell? ⟨w.heap.size + 1 + 1 + 1, 4, none⟩ = some (.int .i64 aadd) := by rw [hB.cell]; rfl
      have k5 : w7.cell? ⟨w.heap.size + 1 + 1 + 1, 5, none⟩ = some (.slice L al.length lc) := by rw [hB.cell]; rfl
      go_wp2_with fail
      refine (areFacts_is L lc al _ hrL (by omega)).mono ?_
      rintro e' w8 ⟨rfl, hb8⟩
      rw [hl]
      replace hB := hB.keep hb8
      replace hC := hC.keep hb8
      replace hMn := hMn.keep hb8
      replace hrA := hrA.keep hb8
      replace hrL := hrL.keep hb8
      replace hf5 := fr_call hf5 hb8
      clear k0 k1 k2 k3 k4 k5 hb8
      have k0 : w8.cell? ⟨w.heap.size + 1 + 1 + 1, 0, none⟩ = some (.int .i64 ae) := by rw [hB.cell]; rfl
      have k1 : w8.cell? ⟨w.heap.size + 1 + 1 + 1, 1, none⟩ = some (.slice A acs.length c) := by rw [hB.cell]; rfl
      have k2 : w8.cell? ⟨w.heap.size + 1 + 1 + 1, 2, none⟩ = some (.int .i64 anum) := by rw [hB.cell]; rfl
      have k3 : w8.cell? ⟨w.heap.size + 1 + 1 + 1, 3, none⟩ = some (.int .i64 aden) := by rw [hB.cell]; rfl
      have k4 : w8.cell? ⟨w.heap.size + 1 + 1 + 1, 4, none⟩ = some (.int .i64 aadd) := by rw [hB.cell]; rfl
      have k5 : w8.cell? ⟨w.heap.size + 1 + 1 + 1, 5, none⟩ = some (.slice L al.length lc) := by rw [hB.cell]; rfl
      go_wp2_with fail
      refine wp_region_noPanic ?_
      refine wp_region_held_drew (S := fun W => (∀ i, i < 6 → W.cell? ⟨w.heap.size + 1 + 1 + 1, i, none⟩ = w8.cell? ⟨w.heap.size + 1 + 1 + 1, i, none⟩) ∧ Blk W (w.heap.size + 1 + 1 + 1) 76 (almV ⟨ae, acs, anum, aden, aadd, al⟩ A c L lc)) (by kernel_rfl) ⟨fun _ _ => rfl, hB.drew⟩ (fun hHeld => ?_)
      have hC8 := hC.drew
      have hM8 := hMn.drew
      have hne1 : ¬ w.heap.size + 1 + 1 = w.heap.size := by omega
      have hne2 : ¬ w.heap.size + 1 + 1 + 1 = w.heap.size := by omega
      -- the region, step by step, in whatever order
      refine wpAnyH_take (i := 0) (oi := ⟨some 38, .fieldAddr 76 (.tmp 6) 0, 0, "text.go:147", #[], none⟩) (v := ?_) rfl (by kernel_rfl) (by kernel_rfl) (by kernel_rfl) (fun _ _ _ h => h) (Or.inl ⟨by rfl, fun W hSw => ?_⟩) hHeld ?_
      rotate_left
      ·(try dsimp only at hSw); go_simp; (try with_reducible rfl)
      (try simp only [Act.put, List.setIfInBounds_toArray, List.set_cons_zero, List.set_cons_succ])
      refine wpAnyH_take (i := 1) (oi := ⟨some 39, .load 24 (.tmp 38), 24, "text.go:147", #[⟨0, .data⟩], none⟩) (v := ?_) rfl (by kernel_rfl) (by kernel_rfl) (by kernel_rfl) (fun _ _ _ h => h) (Or.inl ⟨by rfl, fun W hSw => ?_⟩) hHeld ?_
      rotate_left
      ·(try dsimp only at hSw); go_simp; (try with_reducible rfl)
      (try simp only [Act.put, List.setIfInBounds_toArray, List.set_cons_zero, List.set_cons_succ])
      refine wpAnyH_take (i := 2) (oi := ⟨some 40, .fieldAddr 76 (.tmp 6) 1, 0, "text.go:147", #[⟨6, .gcOnly .lateStores⟩], none⟩) (v := ?_) rfl (by kernel_rfl) (by kernel_rfl) (by kernel_rfl) (fun _ _ _ h => h) (Or.inl ⟨by rfl, fun W hSw => ?_⟩) hHeld ?_
      rotate_left
      ·(try dsimp only at hSw); go_simp; (try with_reducible rfl)
      (try simp only [Act.put, List.setIfInBounds_toArray, List.set_cons_zero, List.set_cons_succ])
      refine wpAnyH_take (i := 3) (oi := ⟨some 41, .load 26 (.tmp 40), 26, "text.go:147", #[⟨2, .data⟩, ⟨6, .gcOnly .lateStores⟩], none⟩) (v := ?_) rfl (by kernel_rfl) (by kernel_rfl) (by kernel_rfl) (fun _ _ _ h => h) (Or.inl ⟨by rfl, fun W hSw => ?_⟩) hHeld ?_
      rotate_left
      ·(try dsimp only at hSw); go_simp; (try with_reducible rfl)
      (try simp only [Act.put, List.setIfInBounds_toArray, List.set_cons_zero, List.set_cons_succ])
      refine wpAnyH_take (i := 4) (oi := ⟨some 42, .fieldAddr 76 (.tmp 6) 2, 0, "text.go:147", #[⟨7, .gcOnly .lateStores⟩], none⟩) (v := ?_) rfl (by kernel_rfl) (by kernel_rfl) (by kernel_rfl) (fun _ _ _ h => h) (Or.inl ⟨by rfl, fun W hSw => ?_⟩) hHeld ?_
      rotate_left
      ·(try dsimp only at hSw); go_simp; (try with_reducible rfl)
      (try simp only [Act.put, List.setIfInBounds_toArray, List.set_cons_zero, List.set_cons_succ])
      refine wpAnyH_take (i := 5) (oi := ⟨some 43, .load 27 (.tmp 42), 27, "text.go:147", #[⟨4, .data⟩, ⟨7, .gcOnly .lateStores⟩], none⟩) (v := ?_) rfl (by kernel_rfl) (by kernel_rfl) (by kernel_rfl) (fun _ _ _ h => h) (Or.inl ⟨by rfl, fun W hSw => ?_⟩) hHeld ?_
      rotate_left
      ·(try dsimp only at hSw); go_simp; (try with_reducible rfl)
      (try simp only [Act.put, List.setIfInBounds_toArray, List.set_cons_zero, List.set_cons_succ])
      refine wpAnyH_ready (rs := [6]) (by kernel_rfl) (by simp) ?_
      refine (AllReadyH.cons (o := ⟨none, .store 24 (.tmp 2) (.tmp 39), 0, "text.go:147", #[⟨1, .data⟩, ⟨0, .phase⟩, ⟨1, .phase⟩, ⟨2, .textOnly .lateStores⟩, ⟨3, .textOnly .lateStores⟩, ⟨4, .textOnly .lateStores⟩, ⟨5, .textOnly .lateStores⟩], none⟩) rfl (fun K hK => ?_) AllReadyH.nil)
      rw [if_pos (by rfl)]
      first | (refine wp_store_blk _ _ _ rfl (w.heap.size + 1) 24 _ _ rfl rfl hC8 rfl (by kernel_rfl) (by simp [Value.oneCell']) ?_) | (refine wp_store_blk _ _ _ rfl (w.heap.size + 1) 24 _ _ rfl rfl (hC8.grown hgb (by simp)) rfl (by kernel_rfl) (by simp [Value.oneCell']) ?_)
      intro Wa hCa hga
      refine hK.out _ _ (⟨fun i hi => by rw [(hHeld.2.grown hga (by intro e; injection e; omega)).cell, hB.cell], hHeld.2.grown hga (by intro e; injection e; omega)⟩) (fun hHeld => ?_)
      clear hK K
      refine wpAnyH_ready (rs := [7]) (by kernel_rfl) (by simp) ?_
      refine (AllReadyH.cons (o := ⟨none, .store 26 (.tmp 3) (.tmp 41), 0, "text.go:147", #[⟨3, .data⟩, ⟨6, .chain⟩, ⟨0, .phase⟩, ⟨1, .phase⟩, ⟨2, .phase⟩, ⟨3, .phase⟩, ⟨4, .textOnly .lateStores⟩, ⟨5, .textOnly .lateStores⟩, ⟨6, .phase⟩], none⟩) rfl (fun K hK => ?_) AllReadyH.nil)
      rw [if_pos (by rfl)]
      first | (refine wp_store_blk _ _ _ rfl (w.heap.size + 1 + 1) 26 _ _ rfl rfl hM8 rfl (by kernel_rfl) (by simp [Value.oneCell']) ?_) | (refine wp_store_blk _ _ _ rfl (w.heap.size + 1 + 1) 26 _ _ rfl rfl (hM8.grown hga (by simp)) rfl (by kernel_rfl) (by simp [Value.oneCell']) ?_)
      intro Wb hMb hgb
      refine hK.out _ _ (⟨fun i hi => by rw [(hHeld.2.grown hgb (by intro e; injection e; omega)).cell, hB.cell], hHeld.2.grown hgb (by intro e; injection e; omega)⟩) (fun hHeld => ?_)
      clear hK K
      refine wpAnyH_take (i := 8) (oi := ⟨some 4, .assign (.tmp 43), 27, "text.go:147", #[⟨5, .data⟩, ⟨7, .chain⟩, ⟨0, .phase⟩, ⟨1, .phase⟩, ⟨2, .phase⟩, ⟨3, .phase⟩, ⟨4, .phase⟩, ⟨5, .phase⟩, ⟨6, .phase⟩, ⟨7, .phase⟩], none⟩) (v := ?_) rfl (by kernel_rfl) (by kernel_rfl) (by kernel_rfl) (fun _ _ _ h => h) (Or.inl ⟨by rfl, fun W hSw => ?_⟩) hHeld ?_
      rotate_left
      ·(try dsimp only at hSw); go_simp; (try with_reducible rfl)
      (try simp only [Act.put, List.setIfInBounds_toArray, List.set_cons_zero, List.set_cons_succ])
      refine wpAnyH_take (i := 9) (oi := ⟨some 5, .assign (.const (.int .i64 0)), 31, "text.go:147", #[⟨8, .chain⟩, ⟨0, .phase⟩, ⟨1, .phase⟩, ⟨2, .phase⟩, ⟨3, .phase⟩, ⟨4, .phase⟩, ⟨5, .phase⟩, ⟨6, .phase⟩, ⟨7, .phase⟩, ⟨8, .phase⟩], none⟩) (v := ?_) rfl (by kernel_rfl) (by kernel_rfl) (by kernel_rfl) (fun _ _ _ h => h) (Or.inl ⟨by rfl, fun W hSw => ?_⟩) hHeld ?_
      rotate_left
      ·(try dsimp only at hSw); go_simp; (try with_reducible rfl)
      (try simp only [Act.put, List.setIfInBounds_toArray, List.set_cons_zero, List.set_cons_succ])
      refine wpAnyH_done (by kernel_rfl) ?_ _
      refine NoPanic.normal ?_
      go_wp2_with fail
      first
      | (exact bodyPost_ret (results_blk_two rfl _ _ _ _ _ _ _ rfl rfl (hCa.grown hgb (by intro e; injection e; omega)) hMb Tryz.underlying24 rfl (by kernel_rfl) Tryz.underlying26 rfl (by kernel_rfl)) rfl ⟨(((fr_call hf5 (fr_drew (fr_refl _))).grown hga (fr_call hf5 (fr_drew (fr_refl _))).size (by intro k hk; cases hk; omega)).grown hgb ((fr_call hf5 (fr_drew (fr_refl _))).grown hga (fr_call hf5 (fr_drew (fr_refl _))).size (by intro k hk; cases hk; omega)).size (by intro k hk; cases hk; omega)), Or.inr (Or.inr (Or.inr ⟨hs4, ⟨ae, acs, anum, aden, aadd, al⟩, A, c, L, lc, hD.out, HAlm.out.trans (by rw [hok, hmb, hl]; rfl), rfl, ((hrA.keep (fr_drew (fr_refl _))).far hga hA1).far hgb hA2, ((hrL.keep (fr_drew (fr_refl _))).far hga hL1).far hgb hL2⟩))⟩)
      | (exact bodyPost_ret (results_blk_two rfl _ _ _ _ _ _ _ rfl rfl hCa (hMb.grown hga (by intro e; injection e; omega)) Tryz.underlying24 rfl (by kernel_rfl) Tryz.underlying26 rfl (by kernel_rfl)) rfl ⟨(((fr_call hf5 (fr_drew (fr_refl _))).grown hgb (fr_call hf5 (fr_drew (fr_refl _))).size (by intro k hk; cases hk; omega)).grown hga ((fr_call hf5 (fr_drew (fr_refl _))).grown hgb (fr_call hf5 (fr_drew (fr_refl _))).size (by intro k hk; cases hk; omega)).size (by intro k hk; cases hk; omega)), Or.inr (Or.inr (Or.inr ⟨hs4, ⟨ae, acs, anum, aden, aadd, al⟩, A, c, L, lc, hD.out, HAlm.out.trans (by rw [hok, hmb, hl]; rfl), rfl, ((hrA.keep (fr_drew (fr_refl _))).far hgb hA2).far hga hA1, ((hrL.keep (fr_drew (fr_refl _))).far hgb hL2).far hga hL1⟩))⟩)
  ·have hf5 : Below w.heap.size w w5 := by
    rw [hw5]
    exact fr_set (fr_alloc (fr_call ge hb) _) (by show w.heap.size ≤ w.heap.size + 1 + 1 + 1 + 1; omega) _
   have hC5 := ((hCe.keep hb).alloc (.cells #[.string why] 129)).far (p := ⟨w.heap.size + 1 + 1 + 1 + 1, 0, none⟩) (by show ¬ _ = w.heap.size + 1 + 1 + 1 + 1; omega) (.int .i64 4)
   have hM5 := ((hMe.keep hb).alloc (.cells #[.string why] 129)).far (p := ⟨w.heap.size + 1 + 1 + 1 + 1, 0, none⟩) (by show ¬ _ = w.heap.size + 1 + 1 + 1 + 1; omega) (.int .i64 4)
   rw [← hw5] at hC5 hM5
   clear hw5 hb
   go_wp2_with (first | (refine wpList_store_blk rfl _ _ _ rfl (w.heap.size + 1) 24 _ _ rfl rfl hC5 rfl (by kernel_rfl) (by simp [Value.oneCell']) ?_; intro Wa hCa hga; have hMa := hM5.grown hga (by simp)) | (refine wpList_store_blk rfl _ _ _ rfl (w.heap.size + 1 + 1) 26 _ _ rfl rfl hMa rfl (by kernel_rfl) (by simp [Value.oneCell']) ?_; intro Wb hM7 hgb; have hC7 := hCa.grown hgb (by simp)))
   have hf7 : Below w.heap.size w Wb := ((hf5).grown hga (hf5).size (by intro k hk; cases hk; omega)).grown hgb ((hf5).grown hga (hf5).size (by intro k hk; cases hk; omega)).size (by intro k hk; cases hk; omega)
   refine bodyPost_ret (results_blk_two rfl _ _ _ _ _ _ _ rfl rfl hC7 hM7 Tryz.underlying24 rfl (by kernel_rfl) Tryz.underlying26 rfl (by kernel_rfl)) rfl ⟨hf7, Or.inr (Or.inl ⟨hs4, hdn, rfl⟩)⟩
end Go.Proofs.YthjblcboainknaaGreatDoor
end
