/- Walks: guess, Read and Print. The examples' contracts: what each call of known returns. The law's own helper: known (by gen_known.py). The frame of the laws of guesses: an input reads behind the call as it did; the listed tables; the library's longest search (by a script from FA and FD). -/
import Derived.Test.YtfgghicdkcjdgaaGreatDoorMG19
import Derived.Test.YtfgghicdkcjdgaaGreatDoorMG5
import Derived.Test.YtfgghicdkcjdgaaGreatDoorMG17
import Derived.Test.YtfgghicdkcjdgaaGreatDoorMG18
import Derived.Test.YtfgghicdkcjdgaaGreatDoorMG11
import Derived.Test.YtfgghicdkcjdgaaGreatDoorMG10
import Derived.Test.YtfgghicdkcjdgaaGreatDoorMG8
import Derived.Test.YtfgghicdkcjdgaaGreatDoorMG14
import Derived.Test.YtfgghicdkcjdgaaGreatDoorMG9
import Derived.Test.YtfgghicdkcjdgaaGreatDoorRows
import Derived.ProofKit
import Derived.LaidMore
import Derived.OpenShut
import Derived.Carry
import Derived.Stop.Joined
import Derived.Shelf.Vars
import Derived.HandedShaped
import Derived.Lib.LaidU8
section
namespace Go.Proofs.YtfgghicdkcjdgaaGreatDoor
open Go.RowKit Go.Shelf

set_option maxHeartbeats 1000000 in
theorem try_none_Read (cap : Array Value) (R : World → Prop) (w : World)
  (h : Calls Tryz.prog 94 cap (w.alloc (.cells #[.int .i64 0] 31)) fun e w' => ∃ why, e = .panicked (noneV why) ∧ R w' ∧ w'.cell? ⟨w.heap.size, 0, none⟩ = some (.int .i64 0) ∧ w'.frozen? ⟨w.heap.size, 0, none⟩ = false) :
  Calls Tryz.prog 47 #[.func (.func 94) #[] cap] w fun e w'' => e = .returned (.int .i64 4) ∧ ∃ w' why, R w' ∧ w'' = (w'.alloc (.cells #[.string why] 153)).setCell ⟨w.heap.size, 0, none⟩ (.int .i64 4) := by
 have hmf : ∀ (fn : Fn) (first cap : Array Value) (w : World), (Instr.makeFunc fn first cap).run Tryz.prog w = .ok (.func fn first cap) w := fun _ _ _ _ => rfl
 have H := Lib.hid h
 clear h
 go_enter_defers Tryz.func47, Tryz.ntmps47
 go_wp2_with fail
 refine (H.out).mono ?_
 rintro e w' ⟨why, rfl, hR, hc, hf⟩
 go_wp2
 refine leaves_cons (f := 107) (args := #[.pointer (some ⟨w.heap.size, 0, none⟩)]) (by simp) (by simp [go_sem]) ?_
 refine (try1_none ⟨w.heap.size, 0, none⟩ 0 why [] _ hc hf).mono ?_
 rintro e u' w'' ⟨rfl, rfl, rfl⟩
 have hpl := World.block_lt_of_cell? w' _ hc
 have hc2 := ((fr_alloc (fr_refl w') (.cells #[.string why] 153)).cell hpl).trans hc
 simp [Leaves, settle, results, Tryz.results47, go_sem, hc2]
 exact ⟨w', hR, why, rfl⟩
/-- what the function within Read does -/
def Read1P (l : List UInt8) (b1 : Nat) (w : World) (e : Ending) (w' : World) : Prop :=
 (∃ (ws : List Wh) (ns : List Note) (A N : Option Addr) (wc nc : Nat) (w1 : World), gread l = some (ws, ns) ∧ e = .returned (.tuple #[]) ∧ FindAt w1 A N ws ns ∧ (Fresh w.heap.size A ∧ Fresh w.heap.size N) ∧ Below w.heap.size w w1 ∧ Blk w' b1 25 #[.slice A ws.length wc, .slice N ns.length nc] ∧ w1.grownBy w' (some b1)) ∨ (gread l = none ∧ Gave w e w')
set_option maxHeartbeats 4000000 in
theorem Read1_any (l : List UInt8) (b0 b1 : Nat) (w : World) (hl : l.length ≤ 500) (hM : MaxP w) (hT : TabP w) (hB0 : Blk w b0 9 #[.string ⟨l.toArray⟩]) (hB1 : Blk w b1 25 #[.slice none 0 0, .slice none 0 0]) :
  Calls Tryz.prog 94 #[.pointer (some ⟨b0, 0, none⟩), .pointer (some ⟨b1, 0, none⟩)] w (Read1P l b1 w) := by
 have hc0 := hB0.cell 0
 have hp := parsed_any l w hl hM hT
 clear hB0
 go_enter Tryz.func94, Tryz.ntmps94
 go_wp2_with fail
 refine hp.mono ?_
 rintro e w1 (⟨ws, ns, A, N, wc, nc, hg, rfl, hf, hfr, hb⟩ | ⟨hg, s, rfl, hb⟩)
 ·have hB2 := hB1.keep hb
  have HG := Lib.hid hg
  clear hp hc0 hg
  go_wp2_with (refine wpList_store_blk rfl _ _ _ rfl b1 25 _ _ rfl rfl hB2 rfl (by kernel_rfl) (by simp [Value.oneCell']) ?_; intro W7 hR7 hg7)
  go_end0
  exact Or.inl ⟨ws, ns, A, N, wc, nc, w1, HG.out, rfl, hf, hfr, hb, hR7, hg7⟩
 ·have HG := Lib.hid hg
  clear hp hc0 hg
  go_wp2_with fail
  exact ⟨rfl, Or.inr ⟨HG.out, s, rfl, hb⟩⟩
/-- a find and an error are returned -/
def RetFd (w : World) (k : Int) (ws : List Wh) (ns : List Note) (e : Ending) (w' : World) : Prop := ∃ A N wc nc, e = .returned (.tuple #[.agg #[.slice A ws.length wc, .slice N ns.length nc], .int .i64 k]) ∧ FindAt w' A N ws ns ∧ Below w.heap.size w w'
theorem RetFd.zero {w w' : World} {k : Int} {e : Ending} (he : e = .returned (.tuple #[.agg #[.slice none 0 0, .slice none 0 0], .int .i64 k])) (hb : Below w.heap.size w w') : RetFd w k [] [] e w' :=
 ⟨none, none, 0, 0, he, ⟨fun hn => absurd hn (by simp), fun hn => absurd hn (by simp)⟩, hb⟩
theorem StSm.mo {ws : List Wh} {ns : List Note} (h : StSm (ws, ns)) : MoF ws ns := by
 refine ⟨fun s hs => ?_, fun n hn => ?_⟩
 ·have := h.1 s hs
  unfold WhSm Sm at this
  unfold MoW Mo
  omega
 ·have := h.2 n hn
  unfold NoteSm Sm at this
  unfold MoN Mo
  omega
set_option maxRecDepth 100000 in
set_option maxHeartbeats 8000000 in
theorem Read_long (l : List UInt8) (w : World) (hl : 500 < l.length) : Calls Tryz.prog 39 #[.string ⟨l.toArray⟩] w (RetFd w 3 [] []) := by
 have hb0 := fr_alloc (fr_alloc (fr_refl w) (.cells #[.string ⟨l.toArray⟩] 9)) (.cells #[.slice none 0 0, .slice none 0 0] 25)
 have hR : Blk ((w.alloc (.cells #[.string ⟨l.toArray⟩] 9)).alloc (.cells #[.slice none 0 0, .slice none 0 0] 25)) (w.heap.size + 1) 25 #[.slice none 0 0, .slice none 0 0] := Blk.new_at _ _ (by simp)
 have hlb : decide ((500 : Int) < (l.length : Int)) = true := decide_eq_true (by omega)
 go_enter Tryz.func39, Tryz.ntmps39
 go_wp2_with (refine wpList_store_blk rfl _ _ _ rfl (w.heap.size + 1) 25 _ _ rfl rfl hR rfl (by kernel_rfl) (by simp [Value.oneCell']) ?_; intro W7 hR7 hg7)
 refine bodyPost_ret (results_blk_tmp rfl _ _ _ _ rfl hR7 Tryz.underlying25 rfl (by kernel_rfl)) rfl ?_
 exact RetFd.zero rfl (hb0.grown hg7 hb0.size (by intro k hk; cases hk; exact Nat.le_succ _))
/-- where Read stands when it has taken what it needs -/
structure RWorld (l : List UInt8) (w w3 : World) : Prop where
 b : Below w.heap.size w w3
 s : Blk w3 w.heap.size 9 #[.string ⟨l.toArray⟩]
 r : Blk w3 (w.heap.size + 1) 25 #[.slice none 0 0, .slice none 0 0]
 f : Blk w3 (w.heap.size + 1 + 1) 25 #[.slice none 0 0, .slice none 0 0]
theorem rworld (l : List UInt8) (w : World) : RWorld l w (((w.alloc (.cells #[.string ⟨l.toArray⟩] 9)).alloc (.cells #[.slice none 0 0, .slice none 0 0] 25)).alloc (.cells #[.slice none 0 0, .slice none 0 0] 25)) :=
 ⟨fr_alloc (fr_alloc (fr_alloc (fr_refl w) _) _) _, ((Blk.new w _ _).alloc _).alloc _, (Blk.new_at _ _ (by simp)).alloc _, Blk.new_at _ _ (by simp)⟩
set_option maxRecDepth 100000 in
set_option maxHeartbeats 8000000 in
theorem Read_none (l : List UInt8) (w : World) (hl : l.length ≤ 500) (hM : MaxP w) (hT : TabP w) (hg : gread l = none) : Calls Tryz.prog 39 #[.string ⟨l.toArray⟩] w (RetFd w 4 [] []) := by
 have hmf : ∀ (fn : Fn) (first cap : Array Value) (w : World), (Instr.makeFunc fn first cap).run Tryz.prog w = .ok (.func fn first cap) w := fun _ _ _ _ => rfl
 have hlb : decide ((500 : Int) < (l.length : Int)) = false := decide_eq_false (by omega)
 have hW := rworld l w
 go_enter Tryz.func39, Tryz.ntmps39
 go_wp2_with fail
 generalize ((w.alloc (.cells #[.string ⟨l.toArray⟩] 9)).alloc (.cells #[.slice none 0 0, .slice none 0 0] 25)).alloc (.cells #[.slice none 0 0, .slice none 0 0] 25) = w3 at *
 have hbE := fr_alloc (fr_refl w3) (.cells #[.int .i64 0] 31)
 have hE := Blk.new w3 31 #[.int .i64 0]
 have hbw := fr_call hW.b hbE
 have h1 := Read1_any l w.heap.size (w.heap.size + 1 + 1) _ hl (hM.keep hbw) (hT.keep hbw) (hW.s.keep hbE) (hW.f.keep hbE)
 refine (try_none_Read #[.pointer (some ⟨w.heap.size, 0, none⟩), .pointer (some ⟨w.heap.size + 1 + 1, 0, none⟩)] (fun w' => Below (w3.heap.size + 1) (w3.alloc (.cells #[.int .i64 0] 31)) w') w3 ?_).mono ?_
 ·refine h1.mono ?_
  rintro e w' (⟨ws, ns, _, _, _, _, _, h2, _⟩ | ⟨_, s, rfl, hb⟩)
  ·rw [hg] at h2; cases h2
  ·rw [World.size_alloc] at hb
   refine ⟨s, rfl, hb, ?_, ?_⟩
   ·exact (hb.cell (p := ⟨w3.heap.size, 0, none⟩) (Nat.lt_succ_self _)).trans (hE.cell 0)
   ·exact (hb.frozen (p := ⟨w3.heap.size, 0, none⟩) (Nat.lt_succ_self _)).trans (hE.frozen 0)
 ·rintro e w'' ⟨rfl, w', why, hb, rfl⟩
  have hbF : Below w3.heap.size w3 ((w'.alloc (.cells #[.string why] 153)).setCell ⟨w3.heap.size, 0, none⟩ (.int .i64 4)) := by
   refine Below.setCell (p := ⟨w3.heap.size, 0, none⟩) ?_ (Nat.le_refl _) _
   exact fr_alloc (hbE.trans (hb.mono (Nat.le_succ _))) _
  have hR5 := hW.r.keep hbF
  have hbw5 := fr_call hW.b hbF
  clear h1 hg hlb
  generalize (w'.alloc (.cells #[.string why] 153)).setCell ⟨w3.heap.size, 0, none⟩ (.int .i64 4) = w5 at *
  go_wp2_with (refine wpList_store_blk rfl _ _ _ rfl (w.heap.size + 1) 25 _ _ rfl rfl hR5 rfl (by kernel_rfl) (by simp [Value.oneCell']) ?_; intro W7 hR7 hg7)
  refine bodyPost_ret (results_blk_tmp rfl _ _ _ _ rfl hR7 Tryz.underlying25 rfl (by kernel_rfl)) rfl ?_
  exact RetFd.zero rfl (hbw5.grown hg7 hbw5.size (by intro k hk; cases hk; exact Nat.le_succ _))
/-- what was read stands where Read has it -/
def ReadR (w w3 : World) (ws : List Wh) (ns : List Note) (w' : World) : Prop := ∃ A N wc nc, FindAt w' A N ws ns ∧ ((∀ ad, A = some ad → w3.heap.size < ad.block) ∧ (∀ ad, N = some ad → w3.heap.size < ad.block)) ∧ Blk w' (w.heap.size + 1 + 1) 25 #[.slice A ws.length wc, .slice N ns.length nc] ∧ w3.grownBy w' (some (w.heap.size + 1 + 1))
def ReadP (w : World) (ws : List Wh) (ns : List Note) (b : Bool) (e : Ending) (w' : World) : Prop := (b = true ∧ RetFd w 0 ws ns e w') ∨ (b = false ∧ RetFd w 2 [] [] e w')
set_option maxRecDepth 100000 in
set_option maxHeartbeats 8000000 in
theorem Read_some (l : List UInt8) (w : World) (hl : l.length ≤ 500) (hM : MaxP w) (hT : TabP w) (ws : List Wh) (ns : List Note) (hg : gread l = some (ws, ns)) (b : Bool) (hfb : findB ws ns = b) (hlen : ws.length + ns.length ≤ 1000) :
  Calls Tryz.prog 39 #[.string ⟨l.toArray⟩] w (ReadP w ws ns b) := by
 have hmf : ∀ (fn : Fn) (first cap : Array Value) (w : World), (Instr.makeFunc fn first cap).run Tryz.prog w = .ok (.func fn first cap) w := fun _ _ _ _ => rfl
 have hlb : decide ((500 : Int) < (l.length : Int)) = false := decide_eq_false (by omega)
 have hW := rworld l w
 have hsm := (gread_some hg).2
 go_enter Tryz.func39, Tryz.ntmps39
 go_wp2_with fail
 generalize ((w.alloc (.cells #[.string ⟨l.toArray⟩] 9)).alloc (.cells #[.slice none 0 0, .slice none 0 0] 25)).alloc (.cells #[.slice none 0 0, .slice none 0 0] 25) = w3 at *
 have hbE := fr_alloc (fr_refl w3) (.cells #[.int .i64 0] 31)
 have hE := Blk.new w3 31 #[.int .i64 0]
 have hbw := fr_call hW.b hbE
 have hflt := hW.f.lt
 have h1 := Read1_any l w.heap.size (w.heap.size + 1 + 1) _ hl (hM.keep hbw) (hT.keep hbw) (hW.s.keep hbE) (hW.f.keep hbE)
 refine (try_ok_Read #[.pointer (some ⟨w.heap.size, 0, none⟩), .pointer (some ⟨w.heap.size + 1 + 1, 0, none⟩)] (fun w' => ReadR w w3 ws ns w' ∧ Blk w' w3.heap.size 31 #[.int .i64 0]) w3 ?_).mono ?_
 ·refine h1.mono ?_
  rintro e w' (⟨ws', ns', A, N, wc, nc, w4, h2, rfl, hf, hfr, hb, hB, hgr⟩ | ⟨h2, _⟩)
  ·rw [hg] at h2
   cases h2
   rw [World.size_alloc] at hb hfr
   have hE4 := hE.keep (by rw [World.size_alloc]; exact hb)
   have hE5 := hE4.grown hgr (by simp; omega)
   have hA : ∀ ad, A = some ad → w3.heap.size < ad.block := fun ad e => hfr.1 ad e
   have hN : ∀ ad, N = some ad → w3.heap.size < ad.block := fun ad e => hfr.2 ad e
   refine ⟨rfl, ⟨⟨A, N, wc, nc, ⟨hf.ws.far hgr (fun ad e => by have := hA ad e; omega), hf.ns.far hgr (fun ad e => by have := hN ad e; omega)⟩, ⟨hA, hN⟩, hB, ?_⟩, hE5⟩, hE5.cell 0, hE5.frozen 0⟩
   have hb34 : Below w3.heap.size w3 w4 := hbE.trans (hb.mono (Nat.le_succ _))
   exact ⟨hgr.os.trans hb34.os, hgr.tape.trans hb34.tape, hgr.output.trans hb34.output, Nat.le_trans hb34.size hgr.size, fun k hk hne => (hgr.block k (Nat.lt_of_lt_of_le hk hb34.size) hne).trans (hb34.block k hk)⟩
  ·rw [hg] at h2; cases h2
 ·rintro e w'' ⟨rfl, w', ⟨⟨A, N, wc, nc, hf, hfr, hB, hgr⟩, hE'⟩, rfl⟩
  have hgs := grown_set w' ⟨w3.heap.size, 0, none⟩ (.int .i64 0)
  have hrlt := hW.r.lt
  have hf5 : FindAt (w'.setCell ⟨w3.heap.size, 0, none⟩ (.int .i64 0)) A N ws ns := ⟨hf.ws.far hgs (fun ad e => by have := hfr.1 ad e; show ad.block ≠ w3.heap.size; omega), hf.ns.far hgs (fun ad e => by have := hfr.2 ad e; show ad.block ≠ w3.heap.size; omega)⟩
  have hB5 := hB.far (p := ⟨w3.heap.size, 0, none⟩) (show ¬ w.heap.size + 1 + 1 = w3.heap.size by omega) (.int .i64 0)
  have hR5 := (hW.r.grown hgr (by simp)).far (p := ⟨w3.heap.size, 0, none⟩) (show ¬ w.heap.size + 1 = w3.heap.size by omega) (.int .i64 0)
  have hbx : Below w.heap.size w w' := hW.b.grown hgr hW.b.size (by intro k hk; cases hk; omega)
  have hbw5 : Below w.heap.size w (w'.setCell ⟨w3.heap.size, 0, none⟩ (.int .i64 0)) := hbx.setCell (by show w.heap.size ≤ w3.heap.size; exact hW.b.size) _
  have hfA : ∀ ad, A = some ad → ad.block ≠ w.heap.size + 1 := fun ad e => by have := hfr.1 ad e; omega
  have hfN : ∀ ad, N = some ad → ad.block ≠ w.heap.size + 1 := fun ad e => by have := hfr.2 ad e; omega
  have hMo := hsm.mo
  clear h1 hg hlb hB hf hE' hgs
  generalize w'.setCell ⟨w3.heap.size, 0, none⟩ (.int .i64 0) = w5 at *
  have hcB := fun j => hB5.cell j
  go_wp2_with fail
  refine (isFind_is A N wc nc ws ns w5 hf5 (by omega) (by omega) hMo b hfb).mono ?_
  rintro e w6 ⟨rfl, hb6⟩
  have hf6 := hf5.keep hb6
  have hB6 := hB5.keep hb6
  have hR6 := hR5.keep hb6
  have hbw6 := fr_call hbw5 hb6
  clear hcB
  have hcB := fun j => hB6.cell j
  cases b with
  | true =>
   go_wp2_with (refine wpList_store_blk rfl _ _ _ rfl (w.heap.size + 1) 25 _ _ rfl rfl hR6 rfl (by kernel_rfl) (by simp [Value.oneCell']) ?_; intro W7 hR7 hg7)
   refine bodyPost_ret (results_blk_tmp rfl _ _ _ _ rfl hR7 Tryz.underlying25 rfl (by kernel_rfl)) rfl ?_
   exact Or.inl ⟨rfl, A, N, wc, nc, rfl, ⟨hf6.ws.far hg7 hfA, hf6.ns.far hg7 hfN⟩, hbw6.grown hg7 hbw6.size (by intro k hk; cases hk; exact Nat.le_succ _)⟩
  | false =>
   go_wp2_with (refine wpList_store_blk rfl _ _ _ rfl (w.heap.size + 1) 25 _ _ rfl rfl hR6 rfl (by kernel_rfl) (by simp [Value.oneCell']) ?_; intro W7 hR7 hg7)
   refine bodyPost_ret (results_blk_tmp rfl _ _ _ _ rfl hR7 Tryz.underlying25 rfl (by kernel_rfl)) rfl ?_
   exact Or.inr ⟨rfl, RetFd.zero rfl (hbw6.grown hg7 hbw6.size (by intro k hk; cases hk; exact Nat.le_succ _))⟩
theorem FindOk.midW {ws : List Wh} {ns : List Note} (h : FindOk ws ns) : ∀ s ∈ ws, MidW s := fun s hs => by
 have := h.wh s hs
 unfold MidW
 omega
theorem noteB_mid {n : Note} {m : Int} (hm : 0 ≤ m ∧ m ≤ 1000) (h : noteB n m = true) : MidN n := by
 obtain ⟨k, a, b, lo, hi, ln, ld, mn, md⟩ := n
 unfold MidN noteXs
 unfold noteB at h
 simp only at h ⊢
 by_cases e1 : k = 1
 ·rw [if_pos e1] at h ⊢
  obtain ⟨h0, h⟩ := and_parts h
  obtain ⟨h1, h⟩ := and_parts h
  obtain ⟨h2, h⟩ := and_parts h
  obtain ⟨h3, h4⟩ := and_parts h
  have := inB_iff.1 h1; have := inB_iff.1 h2; have := inB_iff.1 h3; have := of_decide_eq_true h4
  refine ⟨by omega, fun x hx => ?_⟩
  simp only [List.mem_cons, List.not_mem_nil, or_false] at hx
  omega
 rw [if_neg e1] at h ⊢
 by_cases e2 : k = 2
 ·rw [if_pos e2] at h ⊢
  obtain ⟨h0, h⟩ := and_parts h
  obtain ⟨h1, h⟩ := and_parts h
  obtain ⟨h2, h⟩ := and_parts h
  obtain ⟨h3, h4⟩ := and_parts h
  have := inB_iff.1 h1; have := beq_iff_eq.1 h2; have := inB_iff.1 h3; have := of_decide_eq_true h4
  refine ⟨by omega, fun x hx => ?_⟩
  simp only [List.mem_cons, List.not_mem_nil, or_false] at hx
  omega
 rw [if_neg e2] at h ⊢
 by_cases e3 : k = 3
 ·rw [if_pos e3] at h ⊢
  obtain ⟨h0, h⟩ := and_parts h
  obtain ⟨h1, h⟩ := and_parts h
  obtain ⟨h2, h⟩ := and_parts h
  obtain ⟨h3, h⟩ := and_parts h
  obtain ⟨h4, _⟩ := and_parts h
  unfold fracB at h3 h4
  obtain ⟨h5, h6⟩ := and_parts h3
  obtain ⟨h7, h8⟩ := and_parts h4
  have := inB_iff.1 h1; have := of_decide_eq_true h2; have := inB_iff.1 h5; have := inB_iff.1 h6; have := inB_iff.1 h7; have := inB_iff.1 h8
  refine ⟨by omega, fun x hx => ?_⟩
  simp only [List.mem_cons, List.not_mem_nil, or_false] at hx
  omega
 rw [if_neg e3] at h ⊢
 by_cases e4 : k = 4
 ·rw [if_pos e4] at h
  obtain ⟨h9, h⟩ := and_parts h
  obtain ⟨h0, h⟩ := and_parts h
  obtain ⟨h1, h2⟩ := and_parts h
  have := inB_iff.1 h1; have := of_decide_eq_true h2
  refine ⟨by omega, fun x hx => ?_⟩
  simp only [List.mem_cons, List.not_mem_nil, or_false] at hx
  omega
 rw [if_neg e4] at h
 by_cases e5 : k = 5
 ·rw [if_pos e5] at h
  obtain ⟨h9, h⟩ := and_parts h
  obtain ⟨h0, h⟩ := and_parts h
  obtain ⟨h1, h2⟩ := and_parts h
  have := inB_iff.1 h1; have := inB_iff.1 h2
  refine ⟨by omega, fun x hx => ?_⟩
  simp only [List.mem_cons, List.not_mem_nil, or_false] at hx
  omega
 rw [if_neg e5] at h
 cases h
theorem FindOk.midN {ws : List Wh} {ns : List Note} (h : FindOk ws ns) : ∀ n ∈ ns, MidN n := fun n hn => noteB_mid (by have := h.six; omega) (h.note n hn)
def RetTx (w : World) (s : List UInt8) (k : Int) (e : Ending) (w' : World) : Prop := e = .returned (.tuple #[.string ⟨s.toArray⟩, .int .i64 k]) ∧ Below w.heap.size w w'
end Go.Proofs.YtfgghicdkcjdgaaGreatDoor
end

section
namespace Go.Proofs.YtfgghicdkcjdgaaGreatDoor
open Go.RowKit Go.Shelf

def psFl : List (List Wh) := [[⟨10, 32⟩, ⟨8, 20⟩], [⟨11, 31⟩, ⟨8, 22⟩], [⟨12, 30⟩, ⟨8, 24⟩]]
theorem ne_F : ¬ guessL wsF nsF = [] := by rw [gsF]; decide
theorem ne_G : ¬ guessL wsF nsG = [] := by rw [gsG]; decide
theorem kn_List (A N : Option Addr) (c m : Nat) (w : World) (hf : FindAt w A N wsF nsF) :
  Calls Tryz.prog 9 #[.agg #[.slice A wsF.length c, .slice N nsF.length m]] w fun e w' => ∃ L lc, e = .returned (.tuple #[.slice L 3 lc, .int .i64 0]) ∧ PsAt w' L psFl ∧ Below w.heap.size w w' := by
 refine (List_ok A N c m wsF nsF tsF gsF w hf okF).mono ?_
 intro e w' h
 unfold ListPost at h
 rw [if_neg (by decide)] at h
 obtain ⟨L, lc, rfl, h1, h2⟩ := h
 exact ⟨L, lc, rfl, h1, h2⟩
theorem kn_Breaks (A N C : Option Addr) (c m cc : Nat) (w : World) (hf : FindAt w A N wsF nsF) (hr : RdS w C 2 (([⟨10, 30⟩, ⟨8, 20⟩] : List Wh).map Wh.cells)) :
  Calls Tryz.prog 10 #[.agg #[.slice A wsF.length c, .slice N nsF.length m], .slice C 2 cc] w fun e w' => ∃ L lc, e = .returned (.tuple #[.slice L 1 lc, .int .i64 0]) ∧ Rd w' L 1 [0] ∧ Below w.heap.size w w' := by
 have h := Breaks_own A N C c m cc 2 wsF nsF [⟨10, 30⟩, ⟨8, 20⟩] w hf okF hr rfl (by unfold wsF; simp [teethL, Fits])
 rw [brF] at h
 exact h
theorem kn_Doubts (A N : Option Addr) (c m : Nat) (w : World) (hf : FindAt w A N wsF nsH) :
  Calls Tryz.prog 32 #[.agg #[.slice A wsF.length c, .slice N nsH.length m]] w fun e w' => ∃ L lc, e = .returned (.tuple #[.slice L 1 lc, .int .i64 0]) ∧ Rd w' L 1 [2] ∧ Below w.heap.size w w' := by
 have h := Doubts_ok A N c m wsF nsH w hf okH
 rw [dbH] at h
 exact h
theorem kn_Known (A N : Option Addr) (c m : Nat) (w : World) (hf : FindAt w A N wsF nsF) :
  Calls Tryz.prog 11 #[.agg #[.slice A wsF.length c, .slice N nsF.length m]] w fun e w' => ∃ L lc, e = .returned (.tuple #[.slice L wsF.length lc, .int .i64 0]) ∧ RdS w' L 2 (wsF.map Wh.cells) ∧ Below w.heap.size w w' := by
 have h := Known_some A N c m wsF nsF w hf okF tsF gsF (by decide)
 rw [show wsF.length = 4 from rfl, knF] at h
 exact h
theorem kn_Turns (A N : Option Addr) (c m : Nat) (w : World) (hf : FindAt w A N wsF nsF) :
  Calls Tryz.prog 12 #[.agg #[.slice A wsF.length c, .slice N nsF.length m]] w fun e w' => e = .returned (.tuple #[.agg #[.int .i64 1, .int .i64 8], .agg #[.int .i64 2, .int .i64 15], .int .i64 0]) ∧ Below w.heap.size w w' := by
 refine (Turns_ok A N c m wsF nsF tsF gsF w hf okF).mono ?_
 intro e w' h
 unfold TurnPost at h
 rw [if_neg (by decide)] at h
 unfold RetTT at h
 rw [loF, hiF] at h
 exact h
theorem kn_Sure (A N : Option Addr) (c m : Nat) (w : World) (hf : FindAt w A N wsF nsF) :
  Calls Tryz.prog 34 #[.agg #[.slice A wsF.length c, .slice N nsF.length m], .agg #[.int .i64 1, .int .i64 8]] w fun e w' => e = .returned (.tuple #[.int .i64 2, .int .i64 0]) ∧ Below w.heap.size w w' := by
 have h := Sure_some A N c m wsF nsF (1, 8) w hf okF (by decide) (by unfold FracOk; decide) ne_F
 rw [gsF, srF] at h
 exact h
theorem kn_Count (A N : Option Addr) (c m : Nat) (w : World) (hf : FindAt w A N wsF nsF) :
  Calls Tryz.prog 36 #[.agg #[.slice A wsF.length c, .slice N nsF.length m]] w fun e w' => e = .returned (.tuple #[.int .i64 0, .int .i64 1, .int .i64 0]) ∧ Below w.heap.size w w' := by
 have h := Count_some A N c m wsF nsF w hf okF tsF gsF (by decide)
 rw [ctF] at h
 exact h
theorem kn_Nearest (A N : Option Addr) (c m : Nat) (w : World) (hf : FindAt w A N wsF nsG) :
  Calls Tryz.prog 20 #[.agg #[.slice A wsF.length c, .slice N nsG.length m], .agg #[.int .i64 1, .int .i64 9]] w fun e w' => ∃ L lc, e = .returned (.tuple #[.slice L 2 lc, .int .i64 0]) ∧ RdS w' L 2 (([⟨10, 32⟩, ⟨8, 20⟩] : List Wh).map Wh.cells) ∧ Below w.heap.size w w' := by
 have h := Nearest_some A N c m wsF nsG (1, 9) w hf okG (by decide) (by unfold FracOk; decide) ne_G
 rw [gsG, neG] at h
 exact h
theorem kn_Alike (A N C M : Option Addr) (c m d n : Nat) (w : World) (hf : FindAt w A N wsF nsF) (hg : FindAt w C M wsF nsG) :
  Calls Tryz.prog 38 #[.agg #[.slice A wsF.length c, .slice N nsF.length m], .agg #[.slice C wsF.length d, .slice M nsG.length n]] w fun e w' => e = .returned (.tuple #[.agg #[.int .i64 1, .int .i64 4], .int .i64 0]) ∧ Below w.heap.size w w' := by
 refine (Alike_ok A N C M c m d n wsF wsF nsF nsG tsF tsG w hf okF hg okG gsF gsG).mono ?_
 intro e w' h
 unfold AlikePost at h
 rw [if_neg (by decide), if_neg (by decide)] at h
 unfold RetSp at h
 rw [alF] at h
 exact h
theorem kn_Read (w : World) (hM : MaxP w) (hT : TabP w) :
  Calls Tryz.prog 39 #[.string ⟨knB.toArray⟩] w fun e w' => ∃ A N wc nc, e = .returned (.tuple #[.agg #[.slice A wsK.length wc, .slice N nsK.length nc], .int .i64 0]) ∧ FindAt w' A N wsK nsK ∧ Below w.heap.size w w' := by
 refine (Read_some knB w (by decide) hM hT wsK nsK rdK true (by decide) (by decide)).mono ?_
 rintro e w' (⟨_, h⟩ | ⟨h, _⟩)
 ·exact h
 ·cases h
theorem kn_Print (A N : Option Addr) (wc nc : Nat) (w : World) (hf : FindAt w A N wsK nsK) :
  Calls Tryz.prog 45 #[.agg #[.slice A wsK.length wc, .slice N nsK.length nc]] w fun e w' => e = .returned (.string ⟨knB.toArray⟩) ∧ Below w.heap.size w w' := by
 have h := Print8_any A N wc nc wsK nsK w hf okK.midW okK.midN (by decide)
 rw [txK] at h
 exact h
theorem RdP.keep {w w' : World} {A : Option Addr} {p : List Wh} (h : RdP w A p) (hb : Below w.heap.size w w') : RdP w' A p := h.below hb
theorem psAt_blk3 {w : World} {g : Nat} {B1 B2 B3 : Option Addr} {d1 d2 d3 : Nat} {p1 p2 p3 : List Wh} (h : Blk w g 26 #[.slice B1 2 d1, .slice B2 2 d2, .slice B3 2 d3]) (l1 : p1.length = 2) (l2 : p2.length = 2) (l3 : p3.length = 2) (h1 : RdP w B1 p1) (h2 : RdP w B2 p2) (h3 : RdP w B3 p3) : PsAt w (some ⟨g, 0, none⟩) [p1, p2, p3] := by
 refine ⟨[.slice B1 2 d1, .slice B2 2 d2, .slice B3 2 d3], ?_, ?_⟩
 ·exact (ownS_blk (base := 0) (k := 1) (n := 3) (rows := [[.slice B1 2 d1], [.slice B2 2 d2], [.slice B3 2 d3]]) h (by simp) rfl (by omega) (Nat.zero_le _) (by omega)).rd
 ·have h0 : PsK w [] [] := ⟨rfl, fun i p hi => by simp at hi⟩
  exact ((h0.snoc l1 h1).snoc l2 h2).snoc l3 h3
theorem kn_Train (A : Option Addr) (c : Nat) (a b x y : Int) (w : World) (hr : Rd w A 4 [a, b, x, y]) :
  Calls Tryz.prog 31 #[.slice A 4 c] w fun e w' => ∃ B d, e = .returned (.slice B 2 d) ∧ RdP w' B [⟨a, b⟩, ⟨x, y⟩] ∧ Below w.heap.size w w' := by
 have h := Train8_any A 4 c [a, b, x, y] w hr (by omega)
 have e : pairsOf [a, b, x, y] = [⟨a, b⟩, ⟨x, y⟩] := by simp [pairsOf, pairK, List.range_succ]
 rw [e] at h
 refine h.mono ?_
 rintro e w' ⟨B, d, rfl, h1, h2⟩
 exact ⟨B, d, rfl, RdP.of_own h1, h2⟩
end Go.Proofs.YtfgghicdkcjdgaaGreatDoor
end

section
namespace Go.Proofs.YtfgghicdkcjdgaaGreatDoor
open Go.RowKit Go.Shelf

section
variable {o : Oper} {a : Act} {w : World} {K : Act → World → Prop} {Q : Exit → Act → World → Prop}
theorem wp_build4c {e1 e2 e3 e4 : Int} (ho : o.op = .buildSlice 34 4 #[(0, .const (.int .i64 e1)), (1, .const (.int .i64 e2)), (2, .const (.int .i64 e3)), (3, .const (.int .i64 e4))])
  (h : ∀ g w', Blk w' g 3 #[.int .i64 e1, .int .i64 e2, .int .i64 e3, .int .i64 e4] → Below w.heap.size w w' → w.heap.size ≤ g → K (a.put o.dst (.slice (some ⟨g, 0, none⟩) 4 4)) w') : o.wp Tryz.prog a w K Q := by
 have h1 := h w.heap.size (w.alloc (.cells #[.int .i64 e1, .int .i64 e2, .int .i64 e3, .int .i64 e4] 3)) (Blk.new w _ _) (fr_alloc (fr_refl w) _) (Nat.le_refl _)
 obtain ⟨dst, op, ty, pos, after, guard⟩ := o
 simp only at ho
 subst ho
 go_simp
 exact h1
end
set_option maxRecDepth 100000 in
set_option maxHeartbeats 16000000 in
theorem known_is (w : World) (hT : TabP w) (hM : MaxP w) : Calls Tryz.prog 8 #[] w fun e w' => e = .returned (.bool true) ∧ Below w.heap.size w w' := by
 have hf := fr_refl w
 go_enter Tryz.func8, Tryz.ntmps8
 go_wp2_with fail
 refine (F_any _).mono ?_
 rintro e w1 ⟨g1a, g1b, c1, m1, rfl, hfa1, -, -, hb⟩
 replace hf := fr_call hf hb
 clear hb 
 go_wp2_with fail
 refine (kn_List _ _ _ _ _ hfa1).mono ?_
 rintro e w2 ⟨L1, lc1, rfl, hL1, hb⟩
 replace hf := fr_call hf hb
 replace hfa1 := hfa1.keep hb
 clear hb hfa1
 go_wp2_with fail
 refine (F_any _).mono ?_
 rintro e w3 ⟨g2a, g2b, c2, m2, rfl, hfa2, -, -, hb⟩
 replace hf := fr_call hf hb
 replace hL1 := hL1.keep hb
 clear hb 
 go_wp2_with fail
 refine (kn_Train _ _ 10 30 8 20 _ (rd_of_blk (xs := [10, 30, 8, 20]) (Blk.new w3 _ _))).mono ?_
 rintro e w4 ⟨B, d, rfl, hB, hb⟩
 replace hb := fr_call (fr_alloc (fr_refl w3) _) hb
 replace hf := fr_call hf hb
 replace hL1 := hL1.keep hb
 replace hfa2 := hfa2.keep hb
 clear hb 
 go_wp2_with fail
 refine (kn_Breaks _ _ _ _ _ _ _ hfa2 hB.1).mono ?_
 rintro e w5 ⟨L3, lc3, rfl, hL3, hb⟩
 replace hf := fr_call hf hb
 replace hL1 := hL1.keep hb
 replace hfa2 := hfa2.keep hb
 replace hB := hB.keep hb
 clear hb hfa2 hB
 go_wp2_with fail
 refine (H_any _).mono ?_
 rintro e w6 ⟨g3a, g3b, c3, m3, rfl, hfa3, -, -, hb⟩
 replace hf := fr_call hf hb
 replace hL1 := hL1.keep hb
 replace hL3 := hL3.keep hb
 clear hb 
 go_wp2_with fail
 refine (kn_Doubts _ _ _ _ _ hfa3).mono ?_
 rintro e w7 ⟨L5, lc5, rfl, hL5, hb⟩
 replace hf := fr_call hf hb
 replace hL1 := hL1.keep hb
 replace hL3 := hL3.keep hb
 replace hfa3 := hfa3.keep hb
 clear hb hfa3
 go_wp2_with fail
 refine (F_any _).mono ?_
 rintro e w8 ⟨g4a, g4b, c4, m4, rfl, hfa4, -, -, hb⟩
 replace hf := fr_call hf hb
 replace hL1 := hL1.keep hb
 replace hL3 := hL3.keep hb
 replace hL5 := hL5.keep hb
 clear hb 
 go_wp2_with fail
 refine (kn_Known _ _ _ _ _ hfa4).mono ?_
 rintro e w9 ⟨L7, lc7, rfl, hL7, hb⟩
 replace hf := fr_call hf hb
 replace hL1 := hL1.keep hb
 replace hL3 := hL3.keep hb
 replace hL5 := hL5.keep hb
 replace hfa4 := hfa4.keep hb
 clear hb hfa4
 go_wp2_with fail
 refine (F_any _).mono ?_
 rintro e w10 ⟨g5a, g5b, c5, m5, rfl, hfa5, -, -, hb⟩
 replace hf := fr_call hf hb
 replace hL1 := hL1.keep hb
 replace hL3 := hL3.keep hb
 replace hL5 := hL5.keep hb
 replace hL7 := hL7.keep hb
 clear hb 
 go_wp2_with fail
 refine (kn_Turns _ _ _ _ _ hfa5).mono ?_
 rintro e w11 ⟨rfl, hb⟩
 replace hf := fr_call hf hb
 replace hL1 := hL1.keep hb
 replace hL3 := hL3.keep hb
 replace hL5 := hL5.keep hb
 replace hL7 := hL7.keep hb
 replace hfa5 := hfa5.keep hb
 clear hb hfa5
 have hlo := Blk.new w11 40 #[.int .i64 1, .int .i64 8]
 replace hlo := hlo.alloc (.cells #[.int .i64 2, .int .i64 15] 40)
 have hhi : Blk ((w11.alloc (.cells #[.int .i64 1, .int .i64 8] 40)).alloc (.cells #[.int .i64 2, .int .i64 15] 40)) (w11.heap.size + 1) 40 #[.int .i64 2, .int .i64 15] := Blk.new_at _ _ (by simp)
 have hb := fr_alloc (fr_alloc (fr_refl w11) (.cells #[.int .i64 1, .int .i64 8] 40)) (.cells #[.int .i64 2, .int .i64 15] 40)
 replace hf := fr_call hf hb
 replace hL1 := hL1.keep hb
 replace hL3 := hL3.keep hb
 replace hL5 := hL5.keep hb
 replace hL7 := hL7.keep hb
 clear hb
 go_wp2_with fail
 refine (F_any _).mono ?_
 rintro e w12 ⟨g6a, g6b, c6, m6, rfl, hfa6, -, -, hb⟩
 replace hf := fr_call hf hb
 replace hL1 := hL1.keep hb
 replace hL3 := hL3.keep hb
 replace hL5 := hL5.keep hb
 replace hL7 := hL7.keep hb
 replace hlo := hlo.keep hb
 replace hhi := hhi.keep hb
 clear hb 
 go_wp2_with fail
 refine (by_any _ _ _).mono ?_
 rintro e w13 ⟨rfl, hb⟩
 replace hf := fr_call hf hb
 replace hL1 := hL1.keep hb
 replace hL3 := hL3.keep hb
 replace hL5 := hL5.keep hb
 replace hL7 := hL7.keep hb
 replace hlo := hlo.keep hb
 replace hhi := hhi.keep hb
 replace hfa6 := hfa6.keep hb
 clear hb 
 go_wp2_with fail
 refine (kn_Sure _ _ _ _ _ hfa6).mono ?_
 rintro e w14 ⟨rfl, hb⟩
 replace hf := fr_call hf hb
 replace hL1 := hL1.keep hb
 replace hL3 := hL3.keep hb
 replace hL5 := hL5.keep hb
 replace hL7 := hL7.keep hb
 replace hlo := hlo.keep hb
 replace hhi := hhi.keep hb
 replace hfa6 := hfa6.keep hb
 clear hb hfa6
 go_wp2_with fail
 refine (F_any _).mono ?_
 rintro e w15 ⟨g7a, g7b, c7, m7, rfl, hfa7, -, -, hb⟩
 replace hf := fr_call hf hb
 replace hL1 := hL1.keep hb
 replace hL3 := hL3.keep hb
 replace hL5 := hL5.keep hb
 replace hL7 := hL7.keep hb
 replace hlo := hlo.keep hb
 replace hhi := hhi.keep hb
 clear hb 
 go_wp2_with fail
 refine (kn_Count _ _ _ _ _ hfa7).mono ?_
 rintro e w16 ⟨rfl, hb⟩
 replace hf := fr_call hf hb
 replace hL1 := hL1.keep hb
 replace hL3 := hL3.keep hb
 replace hL5 := hL5.keep hb
 replace hL7 := hL7.keep hb
 replace hlo := hlo.keep hb
 replace hhi := hhi.keep hb
 replace hfa7 := hfa7.keep hb
 clear hb hfa7
 go_wp2_with fail
 refine (G_any _).mono ?_
 rintro e w17 ⟨g8a, g8b, c8, m8, rfl, hfa8, -, -, hb⟩
 replace hf := fr_call hf hb
 replace hL1 := hL1.keep hb
 replace hL3 := hL3.keep hb
 replace hL5 := hL5.keep hb
 replace hL7 := hL7.keep hb
 replace hlo := hlo.keep hb
 replace hhi := hhi.keep hb
 clear hb 
 go_wp2_with fail
 refine (by_any _ _ _).mono ?_
 rintro e w18 ⟨rfl, hb⟩
 replace hf := fr_call hf hb
 replace hL1 := hL1.keep hb
 replace hL3 := hL3.keep hb
 replace hL5 := hL5.keep hb
 replace hL7 := hL7.keep hb
 replace hlo := hlo.keep hb
 replace hhi := hhi.keep hb
 replace hfa8 := hfa8.keep hb
 clear hb 
 go_wp2_with fail
 refine (kn_Nearest _ _ _ _ _ hfa8).mono ?_
 rintro e w19 ⟨L17, lc17, rfl, hL17, hb⟩
 replace hf := fr_call hf hb
 replace hL1 := hL1.keep hb
 replace hL3 := hL3.keep hb
 replace hL5 := hL5.keep hb
 replace hL7 := hL7.keep hb
 replace hlo := hlo.keep hb
 replace hhi := hhi.keep hb
 replace hfa8 := hfa8.keep hb
 clear hb hfa8
 go_wp2_with fail
 refine (F_any _).mono ?_
 rintro e w20 ⟨g9a, g9b, c9, m9, rfl, hfa9, -, -, hb⟩
 replace hf := fr_call hf hb
 replace hL1 := hL1.keep hb
 replace hL3 := hL3.keep hb
 replace hL5 := hL5.keep hb
 replace hL7 := hL7.keep hb
 replace hlo := hlo.keep hb
 replace hhi := hhi.keep hb
 replace hL17 := hL17.keep hb
 clear hb 
 go_wp2_with fail
 refine (G_any _).mono ?_
 rintro e w21 ⟨g10a, g10b, c10, m10, rfl, hfa10, -, -, hb⟩
 replace hf := fr_call hf hb
 replace hL1 := hL1.keep hb
 replace hL3 := hL3.keep hb
 replace hL5 := hL5.keep hb
 replace hL7 := hL7.keep hb
 replace hlo := hlo.keep hb
 replace hhi := hhi.keep hb
 replace hL17 := hL17.keep hb
 replace hfa9 := hfa9.keep hb
 clear hb 
 go_wp2_with fail
 refine (kn_Alike _ _ _ _ _ _ _ _ _ hfa9 hfa10).mono ?_
 rintro e w22 ⟨rfl, hb⟩
 replace hf := fr_call hf hb
 replace hL1 := hL1.keep hb
 replace hL3 := hL3.keep hb
 replace hL5 := hL5.keep hb
 replace hL7 := hL7.keep hb
 replace hlo := hlo.keep hb
 replace hhi := hhi.keep hb
 replace hL17 := hL17.keep hb
 replace hfa9 := hfa9.keep hb
 replace hfa10 := hfa10.keep hb
 clear hb hfa9 hfa10
 have hsp := Blk.new w22 47 #[.int .i64 1, .int .i64 4]
 have hb := fr_alloc (fr_refl w22) (.cells #[.int .i64 1, .int .i64 4] 47)
 replace hf := fr_call hf hb
 replace hL1 := hL1.keep hb
 replace hL3 := hL3.keep hb
 replace hL5 := hL5.keep hb
 replace hL7 := hL7.keep hb
 replace hlo := hlo.keep hb
 replace hhi := hhi.keep hb
 replace hL17 := hL17.keep hb
 clear hb
 go_wp2_with fail
 refine (kn_Read _ (hM.keep hf) (hT.keep hf)).mono ?_
 rintro e w23 ⟨AK, NK, wcK, ncK, rfl, hfK, hb⟩
 replace hf := fr_call hf hb
 replace hL1 := hL1.keep hb
 replace hL3 := hL3.keep hb
 replace hL5 := hL5.keep hb
 replace hL7 := hL7.keep hb
 replace hlo := hlo.keep hb
 replace hhi := hhi.keep hb
 replace hL17 := hL17.keep hb
 replace hsp := hsp.keep hb
 clear hb 
 have hfd := Blk.new w23 25 #[.slice AK wsK.length wcK, .slice NK nsK.length ncK]
 have hb := fr_alloc (fr_refl w23) (.cells #[.slice AK wsK.length wcK, .slice NK nsK.length ncK] 25)
 replace hf := fr_call hf hb
 replace hL1 := hL1.keep hb
 replace hL3 := hL3.keep hb
 replace hL5 := hL5.keep hb
 replace hL7 := hL7.keep hb
 replace hlo := hlo.keep hb
 replace hhi := hhi.keep hb
 replace hL17 := hL17.keep hb
 replace hsp := hsp.keep hb
 replace hfK := hfK.keep hb
 clear hb
 go_upto_region 13 with (fail)
 generalize w23.alloc (.cells #[.slice AK wsK.length wcK, .slice NK nsK.length ncK] 25) = wd at *
 have hbd := fr_refl wd
 go_wp2_with fail
 refine (kn_Train _ _ 10 32 8 20 _ (rd_of_blk (xs := [10, 32, 8, 20]) (Blk.new wd _ _))).mono ?_
 rintro e w24 ⟨B1, d1, rfl, hB1, hb⟩
 replace hb := fr_call (fr_alloc (fr_refl wd) _) hb
 replace hf := fr_call hf hb
 replace hL1 := hL1.keep hb
 replace hL3 := hL3.keep hb
 replace hL5 := hL5.keep hb
 replace hL7 := hL7.keep hb
 replace hlo := hlo.keep hb
 replace hhi := hhi.keep hb
 replace hL17 := hL17.keep hb
 replace hsp := hsp.keep hb
 replace hfK := hfK.keep hb
 replace hfd := hfd.keep hb
 clear hb 
 go_wp2_with fail
 refine (kn_Train _ _ 11 31 8 22 _ (rd_of_blk (xs := [11, 31, 8, 22]) (Blk.new w24 _ _))).mono ?_
 rintro e w25 ⟨B2, d2, rfl, hB2, hb⟩
 replace hb := fr_call (fr_alloc (fr_refl w24) _) hb
 replace hf := fr_call hf hb
 replace hL1 := hL1.keep hb
 replace hL3 := hL3.keep hb
 replace hL5 := hL5.keep hb
 replace hL7 := hL7.keep hb
 replace hlo := hlo.keep hb
 replace hhi := hhi.keep hb
 replace hL17 := hL17.keep hb
 replace hsp := hsp.keep hb
 replace hfK := hfK.keep hb
 replace hfd := hfd.keep hb
 replace hB1 := hB1.keep hb
 clear hb 
 go_wp2_with fail
 refine (kn_Train _ _ 12 30 8 24 _ (rd_of_blk (xs := [12, 30, 8, 24]) (Blk.new w25 _ _))).mono ?_
 rintro e w26 ⟨B3, d3, rfl, hB3, hb⟩
 replace hb := fr_call (fr_alloc (fr_refl w25) _) hb
 replace hf := fr_call hf hb
 replace hL1 := hL1.keep hb
 replace hL3 := hL3.keep hb
 replace hL5 := hL5.keep hb
 replace hL7 := hL7.keep hb
 replace hlo := hlo.keep hb
 replace hhi := hhi.keep hb
 replace hL17 := hL17.keep hb
 replace hsp := hsp.keep hb
 replace hfK := hfK.keep hb
 replace hfd := hfd.keep hb
 replace hB1 := hB1.keep hb
 replace hB2 := hB2.keep hb
 clear hb 
 have hb := fr_alloc (fr_refl w26) (.cells #[.slice B1 2 d1, .slice B2 2 d2, .slice B3 2 d3] 26)
 have hP3 := psAt_blk3 (Blk.new w26 26 #[.slice B1 2 d1, .slice B2 2 d2, .slice B3 2 d3]) rfl rfl rfl (hB1.keep hb) (hB2.keep hb) (hB3.keep hb)
 replace hf := fr_call hf hb
 replace hL1 := hL1.keep hb
 replace hL3 := hL3.keep hb
 replace hL5 := hL5.keep hb
 replace hL7 := hL7.keep hb
 replace hlo := hlo.keep hb
 replace hhi := hhi.keep hb
 replace hL17 := hL17.keep hb
 replace hsp := hsp.keep hb
 replace hfK := hfK.keep hb
 replace hfd := hfd.keep hb
 replace hB1 := hB1.keep hb
 replace hB2 := hB2.keep hb
 replace hB3 := hB3.keep hb
 have hdl : decide (psFl = [[⟨10, 32⟩, ⟨8, 20⟩], [⟨11, 31⟩, ⟨8, 22⟩], [⟨12, 30⟩, ⟨8, 24⟩]]) = true := decide_eq_true rfl
 have hsl := lists_any _ _ 3 3 lc1 3 psFl [[⟨10, 32⟩, ⟨8, 20⟩], [⟨11, 31⟩, ⟨8, 22⟩], [⟨12, 30⟩, ⟨8, 24⟩]] _ hL1 hP3 rfl rfl (by omega) (by omega) (by decide) (by decide)
 rw [hdl] at hsl
 clear hb hB1 hB2 hB3 hL1 hP3
 go_wp2_with fail
 refine (hsl).mono ?_
 rintro e w27 ⟨rfl, hb⟩
 replace hf := fr_call hf hb
 replace hL3 := hL3.keep hb
 replace hL5 := hL5.keep hb
 replace hL7 := hL7.keep hb
 replace hlo := hlo.keep hb
 replace hhi := hhi.keep hb
 replace hL17 := hL17.keep hb
 replace hsp := hsp.keep hb
 replace hfK := hfK.keep hb
 replace hfd := hfd.keep hb
 clear hb hdl hsl
 have hse := same_any _ _ 1 1 lc3 1 [0] [0] _ (hL3.keep (fr_alloc (fr_refl w27) (.cells #[.int .i64 0] 3))) (rd_of_blk (xs := [0]) (Blk.new w27 3 _)) (by omega) (by omega)
 rw [decide_eq_true rfl] at hse
 go_wp2_with fail
 refine (hse).mono ?_
 rintro e w28 ⟨rfl, hb⟩
 replace hb := fr_call (fr_alloc (fr_refl w27) _) hb
 replace hf := fr_call hf hb
 replace hL3 := hL3.keep hb
 replace hL5 := hL5.keep hb
 replace hL7 := hL7.keep hb
 replace hlo := hlo.keep hb
 replace hhi := hhi.keep hb
 replace hL17 := hL17.keep hb
 replace hsp := hsp.keep hb
 replace hfK := hfK.keep hb
 replace hfd := hfd.keep hb
 clear hb hse hL3
 have hse := same_any _ _ 1 1 lc5 1 [2] [2] _ (hL5.keep (fr_alloc (fr_refl w28) (.cells #[.int .i64 2] 3))) (rd_of_blk (xs := [2]) (Blk.new w28 3 _)) (by omega) (by omega)
 rw [decide_eq_true rfl] at hse
 go_wp2_with fail
 refine (hse).mono ?_
 rintro e w29 ⟨rfl, hb⟩
 replace hb := fr_call (fr_alloc (fr_refl w28) _) hb
 replace hf := fr_call hf hb
 replace hL5 := hL5.keep hb
 replace hL7 := hL7.keep hb
 replace hlo := hlo.keep hb
 replace hhi := hhi.keep hb
 replace hL17 := hL17.keep hb
 replace hsp := hsp.keep hb
 replace hfK := hfK.keep hb
 replace hfd := hfd.keep hb
 clear hb hse hL5
 go_wp2_with fail
 refine (F_any _).mono ?_
 rintro e w30 ⟨g11a, g11b, c11, m11, rfl, hfa11, -, -, hb⟩
 replace hf := fr_call hf hb
 replace hL7 := hL7.keep hb
 replace hlo := hlo.keep hb
 replace hhi := hhi.keep hb
 replace hL17 := hL17.keep hb
 replace hsp := hsp.keep hb
 replace hfK := hfK.keep hb
 replace hfd := hfd.keep hb
 clear hb 
 have hse := same_ref8.SameSpans _ _ wsF.length wsF.length lc7 c11 wsF wsF _ hL7 hfa11.ws rfl rfl (by decide) (by decide)
 rw [decide_eq_true rfl] at hse
 have hfld : ∀ (W : World), (Instr.field 25 (.agg #[.slice (some ⟨g11a, 0, none⟩) wsF.length c11, .slice (some ⟨g11b, 0, none⟩) nsF.length m11]) 0).run Tryz.prog W = .ok (.slice (some ⟨g11a, 0, none⟩) wsF.length c11) W := fun _ => by kernel_rfl
 go_wp2_with fail
 refine (hse).mono ?_
 rintro e w31 ⟨rfl, hb⟩
 replace hf := fr_call hf hb
 replace hL7 := hL7.keep hb
 replace hlo := hlo.keep hb
 replace hhi := hhi.keep hb
 replace hL17 := hL17.keep hb
 replace hsp := hsp.keep hb
 replace hfK := hfK.keep hb
 replace hfd := hfd.keep hb
 replace hfa11 := hfa11.keep hb
 clear hb hse hL7 hfa11 hfld
 go_upto_region 15 with (fail)
 have hc1 := fun j => hlo.cell j
 have hc2 := fun j => hhi.cell j
 have hc3 := fun j => hsp.cell j
 have hc4 := fun j => hfd.cell j
 have hl1 := hlo.lt
 have hl2 := hhi.lt
 have hl3 := hsp.lt
 have hl4 := hfd.lt
 clear hlo hhi hsp hfd
 generalize w31 = wz at *
 refine wp_region_noPanic ?_
 refine wp_region_held_drew (S := fun W => (∀ p : Addr, p.block < (wz).heap.size → W.cell? p = (wz).cell? p) ∧ Below (wz).heap.size (wz) W) (by kernel_rfl) ⟨fun _ _ => rfl, fr_drew (fr_refl _)⟩ (fun hHeld => ?_)
 -- the region, step by step
 refine wpAnyH_take (i := 0) (oi := ⟨some 146, .load 40 (.tmp 9), 40, "law.go:55", #[], none⟩) (v := ?_) rfl (by kernel_rfl) (by kernel_rfl) (by kernel_rfl) (fun _ _ _ h => h) (Or.inl ⟨by rfl, fun W hSw => ?_⟩) hHeld ?_
 rotate_left
 ·(try dsimp only at hSw); go_simp; (try with_reducible rfl)
 (try simp only [Act.put, List.setIfInBounds_toArray, List.set_cons_zero, List.set_cons_succ])
 refine wpAnyH_ready (rs := [1]) (by kernel_rfl) (by simp) ?_
 refine AllReadyH.cons (o := ⟨some 147, .call { callee := .value (.func 35), args := #[.const (.int .i64 1), .const (.int .i64 8)], argTypes := #[3, 3] }, 40, "law.go:55", #[], none⟩) rfl (fun K hK => ?_) AllReadyH.nil
 go_simp
 refine (by_any _ _ _).mono ?_
 rintro e WA ⟨rfl, hbA⟩
 refine hK.out _ _ (kp_step hbA hHeld) (fun hHeld => ?_)
 clear hK K
 (try simp only [Act.put, List.setIfInBounds_toArray, List.set_cons_zero, List.set_cons_succ])
 refine wpAnyH_take (i := 2) (oi := ⟨some 148, .binOp .eql 40 (.tmp 146) (.tmp 147) 40, 4, "law.go:55", #[⟨0, .data⟩, ⟨1, .data⟩], none⟩) (v := ?_) rfl (by kernel_rfl) (by kernel_rfl) (by kernel_rfl) (fun _ _ _ h => h) (Or.inl ⟨by rfl, fun W hSw => ?_⟩) hHeld ?_
 rotate_left
 ·(try dsimp only at hSw); go_simp; (try with_reducible rfl)
 (try simp only [Act.put, List.setIfInBounds_toArray, List.set_cons_zero, List.set_cons_succ])
 refine wpAnyH_take (i := 3) (oi := ⟨some 149, .move (.tmp 148), 4, "law.go:55", #[⟨2, .data⟩, ⟨1, .chain⟩], none⟩) (v := ?_) rfl (by kernel_rfl) (by kernel_rfl) (by kernel_rfl) (fun _ _ _ h => h) (Or.inl ⟨by rfl, fun W hSw => ?_⟩) hHeld ?_
 rotate_left
 ·(try dsimp only at hSw); go_simp; (try with_reducible rfl)
 (try simp only [Act.put, List.setIfInBounds_toArray, List.set_cons_zero, List.set_cons_succ])
 refine wpAnyH_take (i := 4) (oi := ⟨some 150, .load 40 (.tmp 10), 40, "law.go:55", #[⟨3, .guard⟩], some (3, true)⟩) (v := ?_) rfl (by kernel_rfl) (by kernel_rfl) (by kernel_rfl) (fun _ _ _ h => h) (Or.inl ⟨by rfl, fun W hSw => ?_⟩) hHeld ?_
 rotate_left
 ·(try dsimp only at hSw); go_simp; (try with_reducible rfl)
 (try simp only [Act.put, List.setIfInBounds_toArray, List.set_cons_zero, List.set_cons_succ])
 refine wpAnyH_ready (rs := [5]) (by kernel_rfl) (by simp) ?_
 refine AllReadyH.cons (o := ⟨some 151, .call { callee := .value (.func 35), args := #[.const (.int .i64 2), .const (.int .i64 15)], argTypes := #[3, 3] }, 40, "law.go:55", #[⟨3, .chain⟩, ⟨3, .guard⟩], some (3, true)⟩) rfl (fun K hK => ?_) AllReadyH.nil
 go_simp
 refine (by_any _ _ _).mono ?_
 rintro e WB ⟨rfl, hbB⟩
 refine hK.out _ _ (kp_step hbB hHeld) (fun hHeld => ?_)
 clear hK K
 (try simp only [Act.put, List.setIfInBounds_toArray, List.set_cons_zero, List.set_cons_succ])
 refine wpAnyH_take (i := 6) (oi := ⟨some 152, .binOp .eql 40 (.tmp 150) (.tmp 151) 40, 4, "law.go:55", #[⟨4, .data⟩, ⟨5, .data⟩, ⟨3, .guard⟩], some (3, true)⟩) (v := ?_) rfl (by kernel_rfl) (by kernel_rfl) (by kernel_rfl) (fun _ _ _ h => h) (Or.inl ⟨by rfl, fun W hSw => ?_⟩) hHeld ?_
 rotate_left
 ·(try dsimp only at hSw); go_simp; (try with_reducible rfl)
 (try simp only [Act.put, List.setIfInBounds_toArray, List.set_cons_zero, List.set_cons_succ])
 refine wpAnyH_take (i := 7) (oi := ⟨some 153, .pick (.tmp 149) (.tmp 152) (.const (.bool false)), 4, "law.go:55", #[⟨3, .data⟩, ⟨6, .data⟩], none⟩) (v := ?_) rfl (by kernel_rfl) (by kernel_rfl) (by kernel_rfl) (fun _ _ _ h => h) (Or.inl ⟨by rfl, fun W hSw => ?_⟩) hHeld ?_
 rotate_left
 ·(try dsimp only at hSw); go_simp; (try with_reducible rfl)
 (try simp only [Act.put, List.setIfInBounds_toArray, List.set_cons_zero, List.set_cons_succ])
 refine wpAnyH_take (i := 8) (oi := ⟨some 154, .move (.tmp 153), 4, "law.go:55", #[⟨7, .data⟩, ⟨5, .chain⟩], none⟩) (v := ?_) rfl (by kernel_rfl) (by kernel_rfl) (by kernel_rfl) (fun _ _ _ h => h) (Or.inl ⟨by rfl, fun W hSw => ?_⟩) hHeld ?_
 rotate_left
 ·(try dsimp only at hSw); go_simp; (try with_reducible rfl)
 (try simp only [Act.put, List.setIfInBounds_toArray, List.set_cons_zero, List.set_cons_succ])
 refine wpAnyH_take (i := 9) (oi := ⟨some 155, .move (.tmp 12), 75, "law.go:55", #[⟨8, .guard⟩], some (8, true)⟩) (v := ?_) rfl (by kernel_rfl) (by kernel_rfl) (by kernel_rfl) (fun _ _ _ h => h) (Or.inl ⟨by rfl, fun W hSw => ?_⟩) hHeld ?_
 rotate_left
 ·(try dsimp only at hSw); go_simp; (try with_reducible rfl)
 (try simp only [Act.put, List.setIfInBounds_toArray, List.set_cons_zero, List.set_cons_succ])
 refine wpAnyH_take (i := 10) (oi := ⟨some 156, .binOp .eql 75 (.tmp 155) (.const (.int .i64 2)) 75, 4, "law.go:55", #[⟨9, .data⟩, ⟨8, .guard⟩], some (8, true)⟩) (v := ?_) rfl (by kernel_rfl) (by kernel_rfl) (by kernel_rfl) (fun _ _ _ h => h) (Or.inl ⟨by rfl, fun W hSw => ?_⟩) hHeld ?_
 rotate_left
 ·(try dsimp only at hSw); go_simp; (try with_reducible rfl)
 (try simp only [Act.put, List.setIfInBounds_toArray, List.set_cons_zero, List.set_cons_succ])
 refine wpAnyH_take (i := 11) (oi := ⟨some 157, .pick (.tmp 154) (.tmp 156) (.const (.bool false)), 4, "law.go:55", #[⟨8, .data⟩, ⟨10, .data⟩], none⟩) (v := ?_) rfl (by kernel_rfl) (by kernel_rfl) (by kernel_rfl) (fun _ _ _ h => h) (Or.inl ⟨by rfl, fun W hSw => ?_⟩) hHeld ?_
 rotate_left
 ·(try dsimp only at hSw); go_simp; (try with_reducible rfl)
 (try simp only [Act.put, List.setIfInBounds_toArray, List.set_cons_zero, List.set_cons_succ])
 refine wpAnyH_take (i := 12) (oi := ⟨some 158, .move (.tmp 157), 4, "law.go:55", #[⟨11, .data⟩, ⟨8, .chain⟩], none⟩) (v := ?_) rfl (by kernel_rfl) (by kernel_rfl) (by kernel_rfl) (fun _ _ _ h => h) (Or.inl ⟨by rfl, fun W hSw => ?_⟩) hHeld ?_
 rotate_left
 ·(try dsimp only at hSw); go_simp; (try with_reducible rfl)
 (try simp only [Act.put, List.setIfInBounds_toArray, List.set_cons_zero, List.set_cons_succ])
 refine wpAnyH_take (i := 13) (oi := ⟨some 159, .move (.tmp 14), 3, "law.go:55", #[⟨12, .guard⟩], some (12, true)⟩) (v := ?_) rfl (by kernel_rfl) (by kernel_rfl) (by kernel_rfl) (fun _ _ _ h => h) (Or.inl ⟨by rfl, fun W hSw => ?_⟩) hHeld ?_
 rotate_left
 ·(try dsimp only at hSw); go_simp; (try with_reducible rfl)
 (try simp only [Act.put, List.setIfInBounds_toArray, List.set_cons_zero, List.set_cons_succ])
 refine wpAnyH_take (i := 14) (oi := ⟨some 160, .binOp .eql 3 (.tmp 159) (.const (.int .i64 0)) 3, 4, "law.go:55", #[⟨13, .data⟩, ⟨12, .guard⟩], some (12, true)⟩) (v := ?_) rfl (by kernel_rfl) (by kernel_rfl) (by kernel_rfl) (fun _ _ _ h => h) (Or.inl ⟨by rfl, fun W hSw => ?_⟩) hHeld ?_
 rotate_left
 ·(try dsimp only at hSw); go_simp; (try with_reducible rfl)
 (try simp only [Act.put, List.setIfInBounds_toArray, List.set_cons_zero, List.set_cons_succ])
 refine wpAnyH_take (i := 15) (oi := ⟨some 161, .pick (.tmp 158) (.tmp 160) (.const (.bool false)), 4, "law.go:55", #[⟨12, .data⟩, ⟨14, .data⟩], none⟩) (v := ?_) rfl (by kernel_rfl) (by kernel_rfl) (by kernel_rfl) (fun _ _ _ h => h) (Or.inl ⟨by rfl, fun W hSw => ?_⟩) hHeld ?_
 rotate_left
 ·(try dsimp only at hSw); go_simp; (try with_reducible rfl)
 (try simp only [Act.put, List.setIfInBounds_toArray, List.set_cons_zero, List.set_cons_succ])
 refine wpAnyH_take (i := 16) (oi := ⟨some 162, .move (.tmp 161), 4, "law.go:55", #[⟨15, .data⟩, ⟨12, .chain⟩], none⟩) (v := ?_) rfl (by kernel_rfl) (by kernel_rfl) (by kernel_rfl) (fun _ _ _ h => h) (Or.inl ⟨by rfl, fun W hSw => ?_⟩) hHeld ?_
 rotate_left
 ·(try dsimp only at hSw); go_simp; (try with_reducible rfl)
 (try simp only [Act.put, List.setIfInBounds_toArray, List.set_cons_zero, List.set_cons_succ])
 refine wpAnyH_take (i := 17) (oi := ⟨some 163, .move (.tmp 15), 3, "law.go:55", #[⟨16, .guard⟩], some (16, true)⟩) (v := ?_) rfl (by kernel_rfl) (by kernel_rfl) (by kernel_rfl) (fun _ _ _ h => h) (Or.inl ⟨by rfl, fun W hSw => ?_⟩) hHeld ?_
 rotate_left
 ·(try dsimp only at hSw); go_simp; (try with_reducible rfl)
 (try simp only [Act.put, List.setIfInBounds_toArray, List.set_cons_zero, List.set_cons_succ])
 refine wpAnyH_take (i := 18) (oi := ⟨some 164, .binOp .eql 3 (.tmp 163) (.const (.int .i64 1)) 3, 4, "law.go:55", #[⟨17, .data⟩, ⟨16, .guard⟩], some (16, true)⟩) (v := ?_) rfl (by kernel_rfl) (by kernel_rfl) (by kernel_rfl) (fun _ _ _ h => h) (Or.inl ⟨by rfl, fun W hSw => ?_⟩) hHeld ?_
 rotate_left
 ·(try dsimp only at hSw); go_simp; (try with_reducible rfl)
 (try simp only [Act.put, List.setIfInBounds_toArray, List.set_cons_zero, List.set_cons_succ])
 refine wpAnyH_take (i := 19) (oi := ⟨some 165, .pick (.tmp 162) (.tmp 164) (.const (.bool false)), 4, "law.go:55", #[⟨16, .data⟩, ⟨18, .data⟩], none⟩) (v := ?_) rfl (by kernel_rfl) (by kernel_rfl) (by kernel_rfl) (fun _ _ _ h => h) (Or.inl ⟨by rfl, fun W hSw => ?_⟩) hHeld ?_
 rotate_left
 ·(try dsimp only at hSw); go_simp; (try with_reducible rfl)
 (try simp only [Act.put, List.setIfInBounds_toArray, List.set_cons_zero, List.set_cons_succ])
 refine wpAnyH_take (i := 20) (oi := ⟨some 166, .move (.tmp 165), 4, "law.go:55", #[⟨19, .data⟩, ⟨16, .chain⟩], none⟩) (v := ?_) rfl (by kernel_rfl) (by kernel_rfl) (by kernel_rfl) (fun _ _ _ h => h) (Or.inl ⟨by rfl, fun W hSw => ?_⟩) hHeld ?_
 rotate_left
 ·(try dsimp only at hSw); go_simp; (try with_reducible rfl)
 (try simp only [Act.put, List.setIfInBounds_toArray, List.set_cons_zero, List.set_cons_succ])
 refine wpAnyH_take (i := 21) (oi := ⟨some 167, .move (.tmp 17), 26, "law.go:55", #[⟨20, .guard⟩], some (20, true)⟩) (v := ?_) rfl (by kernel_rfl) (by kernel_rfl) (by kernel_rfl) (fun _ _ _ h => h) (Or.inl ⟨by rfl, fun W hSw => ?_⟩) hHeld ?_
 rotate_left
 ·(try dsimp only at hSw); go_simp; (try with_reducible rfl)
 (try simp only [Act.put, List.setIfInBounds_toArray, List.set_cons_zero, List.set_cons_succ])
 refine wpAnyH_ready (rs := [22]) (by kernel_rfl) (by simp) ?_
 refine AllReadyH.cons (o := ⟨some 168, .buildSlice 34 4 #[(0, .const (.int .i64 10)), (1, .const (.int .i64 32)), (2, .const (.int .i64 8)), (3, .const (.int .i64 20))], 34, "law.go:55", #[⟨20, .guard⟩], some (20, true)⟩) rfl (fun K hK => ?_) AllReadyH.nil
 rw [if_pos (by rfl)]
 refine wp_build4c rfl ?_
 intro gX WX hX hbX hgX
 refine hK.out _ _ (kp_step hbX hHeld) (fun hHeld => ?_)
 clear hK K
 (try simp only [Act.put, List.setIfInBounds_toArray, List.set_cons_zero, List.set_cons_succ])
 refine wpAnyH_ready (rs := [23]) (by kernel_rfl) (by simp) ?_
 refine AllReadyH.cons (o := ⟨some 169, .call { callee := .value (.func 31), args := #[.tmp 168], argTypes := #[34] }, 26, "law.go:55", #[⟨22, .data⟩, ⟨20, .chain⟩, ⟨20, .guard⟩], some (20, true)⟩) rfl (fun K hK => ?_) AllReadyH.nil
 go_simp
 refine (kn_Train (some ⟨gX, 0, none⟩) 4 10 32 8 20 _ (rd_of_blk (xs := [10, 32, 8, 20]) hX)).mono ?_
 rintro e WC ⟨BT, dT, rfl, hBT, hbC⟩
 refine hK.out _ _ (kp_step hbC hHeld) (fun hHeld => ?_)
 clear hK K
 (try simp only [Act.put, List.setIfInBounds_toArray, List.set_cons_zero, List.set_cons_succ])
 refine wpAnyH_ready (rs := [24]) (by kernel_rfl) (by simp) ?_
 refine AllReadyH.cons (o := ⟨some 170, .call { callee := .value (.func 43), args := #[.tmp 167, .tmp 169], argTypes := #[26, 26] }, 4, "law.go:55", #[⟨21, .data⟩, ⟨23, .data⟩, ⟨23, .chain⟩, ⟨20, .guard⟩], some (20, true)⟩) rfl (fun K hK => ?_) AllReadyH.nil
 go_simp
 refine (same_ref1.SameTrains L17 BT 2 2 lc17 dT [⟨10, 32⟩, ⟨8, 20⟩] [⟨10, 32⟩, ⟨8, 20⟩] _ (hL17.keep hHeld.2) hBT.1 rfl rfl (by omega) (by omega)).mono ?_
 rw [decide_eq_true rfl]
 rintro e WD ⟨rfl, hbD⟩
 refine hK.out _ _ (kp_step hbD hHeld) (fun hHeld => ?_)
 clear hK K
 (try simp only [Act.put, List.setIfInBounds_toArray, List.set_cons_zero, List.set_cons_succ])
 refine wpAnyH_take (i := 25) (oi := ⟨some 171, .pick (.tmp 166) (.tmp 170) (.const (.bool false)), 4, "law.go:55", #[⟨20, .data⟩, ⟨24, .data⟩], none⟩) (v := ?_) rfl (by kernel_rfl) (by kernel_rfl) (by kernel_rfl) (fun _ _ _ h => h) (Or.inl ⟨by rfl, fun W hSw => ?_⟩) hHeld ?_
 rotate_left
 ·(try dsimp only at hSw); go_simp; (try with_reducible rfl)
 (try simp only [Act.put, List.setIfInBounds_toArray, List.set_cons_zero, List.set_cons_succ])
 refine wpAnyH_take (i := 26) (oi := ⟨some 172, .move (.tmp 171), 4, "law.go:55", #[⟨25, .data⟩, ⟨24, .chain⟩], none⟩) (v := ?_) rfl (by kernel_rfl) (by kernel_rfl) (by kernel_rfl) (fun _ _ _ h => h) (Or.inl ⟨by rfl, fun W hSw => ?_⟩) hHeld ?_
 rotate_left
 ·(try dsimp only at hSw); go_simp; (try with_reducible rfl)
 (try simp only [Act.put, List.setIfInBounds_toArray, List.set_cons_zero, List.set_cons_succ])
 refine wpAnyH_take (i := 27) (oi := ⟨some 173, .load 47 (.tmp 19), 47, "law.go:55", #[⟨26, .guard⟩], some (26, true)⟩) (v := ?_) rfl (by kernel_rfl) (by kernel_rfl) (by kernel_rfl) (fun _ _ _ h => h) (Or.inl ⟨by rfl, fun W hSw => ?_⟩) hHeld ?_
 rotate_left
 ·(try dsimp only at hSw); go_simp; (try with_reducible rfl)
 (try simp only [Act.put, List.setIfInBounds_toArray, List.set_cons_zero, List.set_cons_succ])
 refine wpAnyH_ready (rs := [28]) (by kernel_rfl) (by simp) ?_
 refine AllReadyH.cons (o := ⟨some 174, .call { callee := .value (.func 44), args := #[.const (.int .i64 1), .const (.int .i64 4)], argTypes := #[3, 3] }, 47, "law.go:55", #[⟨26, .chain⟩, ⟨26, .guard⟩], some (26, true)⟩) rfl (fun K hK => ?_) AllReadyH.nil
 go_simp
 refine (span_any _ _ _).mono ?_
 rintro e WE ⟨rfl, hbE⟩
 refine hK.out _ _ (kp_step hbE hHeld) (fun hHeld => ?_)
 clear hK K
 (try simp only [Act.put, List.setIfInBounds_toArray, List.set_cons_zero, List.set_cons_succ])
 refine wpAnyH_take (i := 29) (oi := ⟨some 175, .binOp .eql 47 (.tmp 173) (.tmp 174) 47, 4, "law.go:55", #[⟨27, .data⟩, ⟨28, .data⟩, ⟨26, .guard⟩], some (26, true)⟩) (v := ?_) rfl (by kernel_rfl) (by kernel_rfl) (by kernel_rfl) (fun _ _ _ h => h) (Or.inl ⟨by rfl, fun W hSw => ?_⟩) hHeld ?_
 rotate_left
 ·(try dsimp only at hSw); go_simp; (try with_reducible rfl)
 (try simp only [Act.put, List.setIfInBounds_toArray, List.set_cons_zero, List.set_cons_succ])
 refine wpAnyH_take (i := 30) (oi := ⟨some 176, .pick (.tmp 172) (.tmp 175) (.const (.bool false)), 4, "law.go:55", #[⟨26, .data⟩, ⟨29, .data⟩], none⟩) (v := ?_) rfl (by kernel_rfl) (by kernel_rfl) (by kernel_rfl) (fun _ _ _ h => h) (Or.inl ⟨by rfl, fun W hSw => ?_⟩) hHeld ?_
 rotate_left
 ·(try dsimp only at hSw); go_simp; (try with_reducible rfl)
 (try simp only [Act.put, List.setIfInBounds_toArray, List.set_cons_zero, List.set_cons_succ])
 refine wpAnyH_take (i := 31) (oi := ⟨some 177, .move (.tmp 176), 4, "law.go:55", #[⟨30, .data⟩, ⟨28, .chain⟩], none⟩) (v := ?_) rfl (by kernel_rfl) (by kernel_rfl) (by kernel_rfl) (fun _ _ _ h => h) (Or.inl ⟨by rfl, fun W hSw => ?_⟩) hHeld ?_
 rotate_left
 ·(try dsimp only at hSw); go_simp; (try with_reducible rfl)
 (try simp only [Act.put, List.setIfInBounds_toArray, List.set_cons_zero, List.set_cons_succ])
 refine wpAnyH_take (i := 32) (oi := ⟨some 178, .load 25 (.tmp 21), 25, "law.go:55", #[⟨31, .guard⟩], some (31, true)⟩) (v := ?_) rfl (by kernel_rfl) (by kernel_rfl) (by kernel_rfl) (fun _ _ _ h => h) (Or.inl ⟨by rfl, fun W hSw => ?_⟩) hHeld ?_
 rotate_left
 ·(try dsimp only at hSw); go_simp; (try with_reducible rfl)
 (try simp only [Act.put, List.setIfInBounds_toArray, List.set_cons_zero, List.set_cons_succ])
 refine wpAnyH_ready (rs := [33]) (by kernel_rfl) (by simp) ?_
 refine AllReadyH.cons (o := ⟨some 179, .call { callee := .value (.func 45), args := #[.tmp 178], argTypes := #[25] }, 9, "law.go:55", #[⟨32, .data⟩, ⟨31, .chain⟩, ⟨31, .guard⟩], some (31, true)⟩) rfl (fun K hK => ?_) AllReadyH.nil
 go_simp
 refine (kn_Print AK NK wcK ncK _ (hfK.keep hHeld.2)).mono ?_
 rintro e WF ⟨rfl, hbF⟩
 refine hK.out _ _ (kp_step hbF hHeld) (fun hHeld => ?_)
 clear hK K
 (try simp only [Act.put, List.setIfInBounds_toArray, List.set_cons_zero, List.set_cons_succ])
 refine wpAnyH_take (i := 34) (oi := ⟨some 180, .binOp .eql 9 (.tmp 179) (.const (.string { data := #[102, 105, 110, 100, 32, 50, 10, 119, 104, 101, 101, 108, 32, 52, 32, 52, 10, 119, 104, 101, 101, 108, 32, 52, 32, 52, 10, 115, 97, 109, 101, 32, 48, 32, 49, 10, 101, 110, 100, 32, 48, 53, 48, 10] })) 9, 4, "law.go:55", #[⟨33, .data⟩, ⟨31, .guard⟩], some (31, true)⟩) (v := ?_) rfl (by kernel_rfl) (by kernel_rfl) (by kernel_rfl) (fun _ _ _ h => h) (Or.inl ⟨by rfl, fun W hSw => ?_⟩) hHeld ?_
 rotate_left
 ·(try dsimp only at hSw); go_simp; (try with_reducible rfl)
 (try simp only [Act.put, List.setIfInBounds_toArray, List.set_cons_zero, List.set_cons_succ])
 refine wpAnyH_take (i := 35) (oi := ⟨some 181, .pick (.tmp 177) (.tmp 180) (.const (.bool false)), 4, "law.go:55", #[⟨31, .data⟩, ⟨34, .data⟩], none⟩) (v := ?_) rfl (by kernel_rfl) (by kernel_rfl) (by kernel_rfl) (fun _ _ _ h => h) (Or.inl ⟨by rfl, fun W hSw => ?_⟩) hHeld ?_
 rotate_left
 ·(try dsimp only at hSw); go_simp; (try with_reducible rfl)
 (try simp only [Act.put, List.setIfInBounds_toArray, List.set_cons_zero, List.set_cons_succ])
 refine wpAnyH_take (i := 36) (oi := ⟨some 0, .assign (.tmp 181), 4, "law.go:55", #[⟨35, .data⟩, ⟨33, .chain⟩, ⟨0, .phase⟩, ⟨1, .phase⟩, ⟨2, .phase⟩, ⟨3, .phase⟩, ⟨4, .phase⟩, ⟨5, .phase⟩, ⟨6, .phase⟩, ⟨7, .phase⟩, ⟨8, .phase⟩, ⟨9, .phase⟩, ⟨10, .phase⟩, ⟨11, .phase⟩, ⟨12, .phase⟩, ⟨13, .phase⟩, ⟨14, .phase⟩, ⟨15, .phase⟩, ⟨16, .phase⟩, ⟨17, .phase⟩, ⟨18, .phase⟩, ⟨19, .phase⟩, ⟨20, .phase⟩, ⟨21, .phase⟩, ⟨22, .phase⟩, ⟨23, .phase⟩, ⟨24, .phase⟩, ⟨25, .phase⟩, ⟨26, .phase⟩, ⟨27, .phase⟩, ⟨28, .phase⟩, ⟨29, .phase⟩, ⟨30, .phase⟩, ⟨31, .phase⟩, ⟨32, .phase⟩, ⟨33, .phase⟩, ⟨34, .phase⟩, ⟨35, .phase⟩], none⟩) (v := ?_) rfl (by kernel_rfl) (by kernel_rfl) (by kernel_rfl) (fun _ _ _ h => h) (Or.inl ⟨by rfl, fun W hSw => ?_⟩) hHeld ?_
 rotate_left
 ·(try dsimp only at hSw); go_simp; (try with_reducible rfl)
 (try simp only [Act.put, List.setIfInBounds_toArray, List.set_cons_zero])
 refine wpAnyH_done (by kernel_rfl) ?_ _
 refine NoPanic.normal ?_
 go_wp2_with fail
 go_ret
 exact ⟨rfl, fr_call hf hHeld.2⟩
end Go.Proofs.YtfgghicdkcjdgaaGreatDoor
end

section
namespace Go.Proofs.YtfgghicdkcjdgaaGreatDoor
open Go.ChangeShapes Go.WideShapes Go.ChangeAt Go.WideMaps Go.WideElems Go.RowKit

theorem own_none : ownKnob Tryz.prog.godebug = none := by kernel_rfl
theorem laid_out : laidOutB Tryz.prog = true := by kernel_rfl

theorem trodAll_stays {H : Type} {enc : TypeId × Value → H} {W W' : World} (hb : Below W.heap.size W W') (ts : List TypeId) : ∀ (vs : List Value) (ds : List (DataW H)) (ps : List MemPlace),
  (∀ t ∈ ts, Tryz.prog.readableRec t = true ∧ t < Tryz.prog.types.size) → (∀ p ∈ ps, p.block < W.heap.size) →
  DataW.TrodAll enc Tryz.prog W 0 (fun _ => true) true ts vs ds ps → DataW.TrodAll enc Tryz.prog W' 0 (fun b => decide (b < W.heap.size)) true ts vs ds ps := by
 induction ts with
 | nil =>
  intro vs ds ps _ _ h
  obtain ⟨rfl, rfl, rfl⟩ := trodAll_nil h
  exact trodAll_mk0
 | cons t ts ih =>
  intro vs ds ps hall hlt h
  obtain ⟨v, vs', d, ds', p, q, rfl, rfl, rfl, h0, hr⟩ := trodAll_cons h
  have ht := hall t (List.mem_cons_self ..)
  exact trodAll_cons_mk (Below.trod laid_out ht.1 ht.2 h0 hb (fun x hx => hlt x (List.mem_append_left _ hx)))
   (ih vs' ds' q (fun t' h' => hall t' (List.mem_cons_of_mem _ h')) (fun x hx => hlt x (List.mem_append_right _ hx)) hr)
noncomputable def tyOk (t : TypeId) : Bool := Tryz.prog.readableRec t && decide (t < Tryz.prog.types.size)
theorem tyOk_all {ts : List TypeId} (h : ts.all tyOk = true) : ∀ t ∈ ts, Tryz.prog.readableRec t = true ∧ t < Tryz.prog.types.size := fun t ht => by
 have := List.all_eq_true.1 h t ht
 unfold tyOk at this
 simp only [Bool.and_eq_true, decide_eq_true_eq] at this
 exact this

theorem law_post {H : Type} {enc : TypeId × Value → H} {f : Func} {s : ChangeSpec} (hpar : f.params.toList.all tyOk = true) (hrt : f.resultTypes = #[4]) (hvars : s.vars = [])
  {W W' : World} {args : Array Value} {ds gs : List (DataW H)} {before : List MemPlace} (hW : DataW.Whole enc Tryz.prog f.params.toList s.vars false W args.toList ds gs before)
  (hres : (s.fn H (ds ++ [])).results = [.lit (.bool true)]) (hargs : (s.fn H (ds ++ [])).args = ds) (hv : (s.fn H (ds ++ [])).vars = []) (hb : Below W.heap.size W W') :
  s.post enc Tryz.prog f false true false false W args (.bool true) W' := by
 have hlt := hW.lt
 have hW2 := hW
 obtain ⟨p, q, hA, hV, rfl, _, _⟩ := hW2
 have hq : gs = [] ∧ q = [] := by
  rw [hvars] at hV
  exact trodVars_none hV
 obtain ⟨rfl, rfl⟩ := hq
 refine ⟨ds, [], p ++ [], [], p, [], hW, ?_, ?_, ?_, hb.frame _, fun h => by cases h⟩
 ·rw [hres, hrt]
  exact trodAll_mk1 (shut_bool Tryz.underlying4 _)
 ·rw [hargs]
  exact trodAll_stays hb _ _ _ _ (tyOk_all hpar) (fun x hx => hlt x (by simpa using hx)) hA
 ·rw [hv, hvars]
  exact rfl

theorem gPow : Tryz.prog.globalNamed "internal/strconv.uint64pow10" = some 3 := by kernel_rfl
theorem tPow : (Tryz.prog.globals[3]?).map (·.type) = some 245 := by kernel_rfl
set_option maxRecDepth 100000

/-- the kit's wrap with a premise on the first world, the world's shape kept -/
theorem change_and_shaped {H : Type} {enc : TypeId × Value → H} {a : Assume} {C : Checked} {os : Os} {f : FuncId} {fn : Func} {s : ChangeSpec} {conds : List PathCond} {apart fresh handsOn again : Bool} {X : World → Array Value → Prop}
  (hX : ∀ (w w' : World) (args : Array Value), w.heap = w'.heap → X w args → X w' args)
  (own : ownKnob C.prog.godebug = none) (started : os.Started) (noInit : C.prog.inits.idxOf? f = none) (hfn : C.prog.funcs[f]? = some fn)
  (witness : ∃ (w : World) (tape : Tape) (i : Input), w.os = os ∧ (w.forCall tape i).Shaped C.prog ∧ i.vars = [] ∧ Input.okWide C.prog (w.forCall tape i) .any w.heap.size f i ∧
   ((s.pre enc C.prog fn conds apart (w.forCall tape i).memory i.args ∧ X (w.forCall tape i).memory i.args) ∧ sizedMet enc C.prog fn (OpenSpec.ofChange s) apart (w.forCall tape i).memory i.args) ∧ a.holds C.prog (lone (Frame.enter C.prog f i.args .normal) [] (w.forCall tape i)))
  (contract : ∀ (W : World) (base : Nat) (args : Array Value) (ds gs : List (DataW H)) (before : List MemPlace),
   (∀ (j : Nat) t v, fn.params[j]? = some t → args[j]? = some v → Value.okWide C.prog W .any base t v) →
   DataW.Whole enc C.prog fn.params.toList s.vars apart W args.toList ds gs before → X W args → W.ShapedOpen C.prog →
   Calls C.prog f args W fun e W' => ∃ v, e = .returned v ∧ s.post enc C.prog fn apart fresh handsOn again W args v W') :
  ReturnsInHanded a C os f .any (fun w args => (s.pre enc C.prog fn conds apart w args ∧ X w args) ∧ sizedMet enc C.prog fn (OpenSpec.ofChange s) apart w args) (s.post enc C.prog fn apart fresh handsOn again) := by
 refine returnsInHanded_of_calls own started noInit witness ?_
 intro w tape i _ hsh _ hok hpre _
 obtain ⟨_, _, _, fn', hfn', _, _, _, _, hval⟩ := hok
 have e : fn' = fn := Option.some.inj (hfn'.symm.trans hfn)
 subst e
 obtain ⟨⟨⟨ds, gs, before, hw, _⟩, hx⟩, _⟩ := hpre
 have hw' := DataW.Whole.of_heap (w' := w.forCall tape i) (by rfl) hw
 refine (contract (w.forCall tape i) w.heap.size i.args ds gs before hval hw' (hX _ _ _ (by rfl) hx) hsh).mono fun e W' ⟨v, he, hp⟩ => ?_
 subst he
 exact ChangeSpec.post_blind hp

theorem maxP_of {W : World} (h : W.ShapedOpen Tryz.prog) : MaxP W :=
 cell_of_shapedOpen_int (zero := #[.int .i64 0]) (t := 3) h (of_decide_eq_true (by kernel_rfl)) (by kernel_rfl) rfl (by kernel_rfl) (by kernel_rfl) Tryz.underlying3

/-- the variables that the rows of the texts list -/
def laidT : List (String × DataW Unit) := [("math/bits.deBruijn32tab", Rows.laid_math_bits_deBruijn32tab), ("math/bits.deBruijn64tab", Rows.laid_math_bits_deBruijn64tab), ("internal/strconv.uint64pow10", Rows.laid_internal_strconv_uint64pow10), ("unicode/utf8.acceptRanges", Rows.laid_unicode_utf8_acceptRanges), ("unicode/utf8.first", Rows.laid_unicode_utf8_first)]
/-- a start for the witness: the pinned table put into the door's world -/
noncomputable def doorT (os : Os) : World :=
 { World.doorLaid Tryz.prog 24 os with heap := (World.doorLaid Tryz.prog 24 os).heap.modify 1 fun
  | .cells _ t frozen => .cells (Lib.firstTab.map fun z => Value.int .u8 z).toArray t frozen
  | o => o }
theorem doorT_met (os : Os) (args : Array Value) : laidMetH Tryz.prog laidT ((doorT os).forCall (fun _ _ => 0) ⟨#[], args, []⟩).memory :=
 laidMetH_of_parts3 (fuel := 8) (laidMet_of_run' 8 (by kernel_rfl) (by kernel_rfl)) (by kernel_rfl) (by kernel_rfl)
theorem tabT_of_laid {W : World} (h : laidMetH Tryz.prog laidT W) : TabP W := by
 rw [MakeChecks.laidMetH_plain _ _ _ (by kernel_rfl)] at h
 obtain ⟨ps, ⟨g0, t0, cs0, f0, p0, q0, hg0, ht0, hv0, hd0, ⟨g1, t1, cs1, f1, p1, q1, hg1, ht1, hv1, hd1, ⟨g2, t2, cs2, f2, p2, q2, hg2, ht2, hv2, hd2, _, _⟩, _⟩, _⟩, _, _⟩ := h
 obtain rfl := Option.some.inj (gPow.symm.trans hg2)
 obtain rfl := Option.some.inj (tPow.symm.trans ht2)
 have hc := Lib.cells_of_tab (zs := Lib.pow10Tab) (k := .u64) Tryz.underlying245 Tryz.underlying189 (by kernel_rfl) (by kernel_rfl) hd2
 unfold TabP Lib.TabIs
 rw [hv2]
 rw [← hc]
end Go.Proofs.YtfgghicdkcjdgaaGreatDoor
end
