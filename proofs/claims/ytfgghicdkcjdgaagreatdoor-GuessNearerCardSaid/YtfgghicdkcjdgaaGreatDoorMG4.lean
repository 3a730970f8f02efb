/- Walk: all, as an iterator; how many trains there are. Walk: guess, the guesses of a find. Plain: what a valid find is. Walk: guess, the guesses of a find. Walk: Guesses, asked; the train of some teeth; the trains of all guesses. Walk: the train of some teeth. -/
import Derived.Test.YtfgghicdkcjdgaaGreatDoorMG3
import Derived.Laws.EntriesVeiled
section
namespace Go.Proofs.YtfgghicdkcjdgaaGreatDoor
open Go.RowKit Go.Shelf

theorem upTo_len {lo hi : Int} : (upTo lo hi).length = (hi + 1 - lo).toNat := by simp [upTo]
theorem allT_len : ∀ ws : List Wh, (∀ s ∈ ws, s.hi - s.lo ≤ 5) → (allT ws).length ≤ 6 ^ ws.length
 | [], _ => by simp [allT]
 | s :: ws, h => by
  have ih := allT_len ws (fun x hx => h x (List.mem_cons_of_mem _ hx))
  have hs := h s (List.mem_cons_self ..)
  unfold allT
  rw [List.length_flatMap, show (fun a => (List.map (fun t => a :: t) (allT ws)).length) = fun _ => (allT ws).length by funext i; simp, List.map_const', List.sum_replicate_nat, upTo_len, List.length_cons, Nat.pow_succ, Nat.mul_comm]
  exact Nat.mul_le_mul ih (by omega)
set_option maxRecDepth 100000 in
set_option maxHeartbeats 4000000 in
theorem all1_any (B m l M : Nat) (T : TypeId → Bool) (ws : List Wh) (J : List (List Int) → World → Prop) (hY : AllY B T m l M ws J) (hM : ∀ s ∈ ws, MoW s ∧ s.lo ≤ s.hi) (hlw : ws.length ≤ 100) (A N : Option Addr) (wc nn nc bf : Nat) (W : World)
  (hf : Blk W bf 25 #[.slice A ws.length wc, .slice N nn nc]) (hr : RdS W A 2 (ws.map Wh.cells)) (hold : ∀ ad, A = some ad → ad.block < B) (hJ : J [] W) (hlen : (allT ws).length ≤ M) :
  Calls Tryz.prog 127 #[.func (.yield l) #[] #[], .pointer (some ⟨bf, 0, none⟩)] W fun e W' => e = .returned (.tuple #[]) ∧ J (allT ws) W' ∧ Keep B T W W' := by
 have hmf : ∀ (fn : Fn) (first cap : Array Value) (w : World), (Instr.makeFunc fn first cap).run Tryz.prog w = .ok (.func fn first cap) w := fun _ _ _ _ => rfl
 have hb2 := fr_alloc (fr_alloc (fr_refl W) (.cells #[.func (.yield l) #[] #[]] 163)) (.cells #[.func (.func 128) #[] #[.pointer (some ⟨bf, 0, none⟩), .pointer (some ⟨W.heap.size, 0, none⟩), .pointer (some ⟨W.heap.size + 1, 0, none⟩)]] 163)
 have hV : AllV B l A N ws.length wc nn nc bf W.heap.size (W.heap.size + 1) ws _ := ⟨hf.keep hb2, (Blk.new W _ _).alloc _, Blk.new_at _ _ (by simp), hr.keep hb2, hold⟩
 have h1 := search_any B m l M T ws J hY hM hlw A N wc nn nc bf W.heap.size (W.heap.size + 1) ws.length [] 0 [] none 0 _ rfl (by omega) (Or.inr ⟨rfl, rfl⟩) (by simp [Fits]) hV (hY.keep _ _ _ hJ hb2) (RdI.nil_ _ _) (by simpa using hlen)
 have hk2 : Keep B T W _ := Keep.of_below hb2
 clear hV hJ hr hf
 go_enter Tryz.func127, Tryz.ntmps127
 go_wp2_with fail
 refine h1.mono ?_
 rintro e w1 ⟨rfl, hJ1, hk1⟩
 go_wp2_with fail
 go_end0
 exact ⟨rfl, by simpa using hJ1, hk2.trans hk1⟩
theorem all_any (A N : Option Addr) (nw wc nn nc : Nat) (w : World) :
  Calls Tryz.prog 85 #[.agg #[.slice A nw wc, .slice N nn nc]] w fun e w' => e = .returned (.func (.func 127) #[] #[.pointer (some ⟨w.heap.size, 0, none⟩)]) ∧ Blk w' w.heap.size 25 #[.slice A nw wc, .slice N nn nc] ∧ Below w.heap.size w w' := by
 have hmf : ∀ (fn : Fn) (first cap : Array Value) (w : World), (Instr.makeFunc fn first cap).run Tryz.prog w = .ok (.func fn first cap) w := fun _ _ _ _ => rfl
 go_enter Tryz.func85, Tryz.ntmps85
 go_wp2_with fail
 go_ret
 exact ⟨rfl, Blk.new w _ _, fr_alloc (fr_refl _) _⟩
end Go.Proofs.YtfgghicdkcjdgaaGreatDoor
end

section
namespace Go.Proofs.YtfgghicdkcjdgaaGreatDoor
open Go.RowKit Go.Shelf
attribute [local go_sem] Oper.semAt_some

/-- a row of the call's own of one-cell values -/
def OwnV (W : World) (base : Nat) (E : TypeId) (v : Value) (vs : List Value) : Prop := W.ownsRow base E 1 v vs.length vs
theorem OwnV.keep {W W' : World} {base : Nat} {E : TypeId} {v : Value} {vs : List Value} (h : OwnV W base E v vs) (hb : Below W.heap.size W W') : OwnV W' base E v vs := owns_keep h hb
theorem OwnV.ge {W : World} {base : Nat} {E : TypeId} {v : Value} {vs : List Value} (h : OwnV W base E v vs) : ∀ k, v.ownBlock = some k → base ≤ k := fun k hk => (World.ownsRow.lt h k hk).1
theorem OwnV.form {W : World} {base : Nat} {E : TypeId} {v : Value} {vs : List Value} (h : OwnV W base E v vs) : ∃ A c, v = .slice A vs.length c := by
 rcases h.2 with ⟨rfl, h0⟩ | ⟨g, cap, cur, rfl, _⟩
 ·exact ⟨none, 0, by rw [h0]⟩
 ·exact ⟨_, _, rfl⟩
theorem OwnV.cellsOf {W : World} {base : Nat} {E : TypeId} {v : Value} {vs : List Value} (h : OwnV W base E v vs) : ∀ k, v.ownBlock = some k → ∃ cs, W.heap[k]? = some (.cells cs E (0, 0)) := by
 intro k hk
 rcases h.2 with ⟨rfl, _⟩ | ⟨g, cap, cur, rfl, _, hh, _⟩
 ·simp [Value.ownBlock] at hk
 ·obtain rfl : g = k := by simpa [Value.ownBlock] using hk
  exact ⟨_, hh⟩
theorem flat_one : ∀ vs : List Value, (vs.map (fun v => [v])).flatten = vs
 | [] => rfl
 | v :: vs => by simp [flat_one vs]
theorem OwnV.rows {W : World} {base : Nat} {E : TypeId} {v : Value} {vs : List Value} (h : OwnV W base E v vs) : OwnS W base E 1 v (vs.map (fun v => [v])) :=
 ⟨by rw [List.length_map, flat_one]; exact h, fun r hr => by obtain ⟨x, _, rfl⟩ := List.mem_map.1 hr; rfl⟩
theorem OwnV.rd {W : World} {base : Nat} {E : TypeId} {A : Option Addr} {n c : Nat} {vs : List Value} (h : OwnV W base E (.slice A n c) vs) : RdS W A 1 (vs.map (fun v => [v])) := h.rows.rd
theorem Keep.grown {B : Nat} {T : TypeId → Bool} {W W' : World} {r : Option Nat} (hg : W.grownBy W' r) (h : ∀ k, r = some k → B ≤ k ∧ ∀ cs t fr, W.heap[k]? = some (.cells cs t fr) → T t = false) : Keep B T W W' :=
 ⟨hg.os, hg.tape, hg.output, hg.size, fun g o ho hs => (hg.block g (Array.getElem?_eq_some_iff.1 ho).1 (fun e => by
  obtain ⟨h1, h2⟩ := h g e.symm
  rcases hs with hs | ⟨cs, t, fr, rfl, ht⟩
  ·omega
  ·rw [h2 _ _ _ ho] at ht; cases ht)).trans ho⟩
/-- 'append(out, x)' of a value of one cell, in a fence -/
theorem app_val_in {F : Fence} {n : Nat} {ops : Array Oper} {rest : List Oper} {o : Oper} {a : Act} {Q : Exit → Act → World → Prop} {W : World} {T E : TypeId} {z : Value} {bytes : Nat} (hgd : o.guard = none) (s x : Operand)
  (ho : o.op = .call { callee := .builtin .append, args := #[s, x], argTypes := #[T, T] }) (hu : Tryz.prog.underlying T = some (.slice E)) (hinfo : (Tryz.prog.info? E).map (fun i => (i.zero, i.size, i.bytes)) = some (some z, 1, bytes)) (hzk : z.cells.size = 1) (hby : bytes ≤ 1000)
  (base : Nat) (v : Value) (vs : List Value) (u : Value) (hs : a.eval s = v) (hx : a.eval x = .slice (some ⟨W.heap.size, 0, none⟩) 1 1) (hown : OwnV W base E v vs) (hu1 : u.oneCell' = true) (hn : vs.length < 1000000) (hbase : base ≤ W.heap.size)
  (h : ∀ A c w', OwnV w' base E (.slice A (vs.length + 1) c) (vs ++ [u]) → (W.alloc (.cells #[u] E)).grownBy w' v.ownBlock → wpListIn F n Tryz.prog ops Q rest (a.put o.dst (.slice A (vs.length + 1) c)) w') :
  wpListIn F n Tryz.prog ops Q (o :: rest) a (W.alloc (.cells #[u] E)) := by
 obtain ⟨i0, hi, hz0, hz1, hz2⟩ := info_parts hinfo
 have hb : (vs.length + 1) * bytes ≤ 1000000 * 1000 := Nat.mul_le_mul (by omega) hby
 refine wpListIn_append_own _ hgd s x _ ho base _ i0 _ 1 bytes hu hi hz0 hz1 hz2 hzk (by omega) v _ _ hs (World.ownsRow.alloc hown _) ⟨W.heap.size, 0, none⟩ 1 1 [u] hx rfl ?_ (by simpa using hu1)
  (by unfold maxLen; omega) (by omega) (by simp; omega) ?_
 ·intro j y hj
  match j, hj with
  | 0, hj => simp at hj; subst hj; rw [add_lit, cell_new]; rfl
 ·intro v' w' hown' hg _
  have hown2 : OwnV w' base E v' (vs ++ [u]) := by
   unfold OwnV
   rw [List.length_append]
   exact hown'
  obtain ⟨A, c, rfl⟩ := hown2.form
  rw [List.length_append] at hown2 ⊢
  exact h A c w' hown2 hg
theorem info_teeth : (Tryz.prog.info? 96).map (fun i => (i.zero, i.size, i.bytes)) = some (some (.slice none 0 0), 1, 24) := by kernel_rfl
/-- the values read as the lists ts, in rows of numbers -/
def TsK (W : World) (vs : List Value) (ts : List (List Int)) : Prop := vs.length = ts.length ∧ ∀ (i : Nat) (t : List Int), ts[i]? = some t → ∃ A c, vs[i]? = some (Value.slice A t.length c) ∧ RdI W A t.length t
theorem TsK.keep {B : Nat} {T : TypeId → Bool} {W W' : World} {vs : List Value} {ts : List (List Int)} (h : TsK W vs ts) (k : Keep B T W W') (hT : T 3 = true) : TsK W' vs ts :=
 ⟨h.1, fun i t ht => let ⟨A, c, h1, h2⟩ := h.2 i t ht; ⟨A, c, h1, h2.keep k hT⟩⟩
theorem TsK.below {W W' : World} {vs : List Value} {ts : List (List Int)} (h : TsK W vs ts) (hb : Below W.heap.size W W') : TsK W' vs ts :=
 ⟨h.1, fun i t ht => let ⟨A, c, h1, h2⟩ := h.2 i t ht; ⟨A, c, h1, h2.below hb⟩⟩
theorem TsK.snoc {W : World} {vs : List Value} {ts : List (List Int)} (h : TsK W vs ts) {A : Option Addr} {n c : Nat} {t : List Int} (hr : RdI W A n t) : TsK W (vs ++ [Value.slice A n c]) (ts ++ [t]) := by
 have hn := hr.1.len
 refine ⟨by rw [List.length_append, List.length_append, h.1]; rfl, fun i t' ht => ?_⟩
 rcases Nat.lt_trichotomy i ts.length with hi | hi | hi
 ·rw [List.getElem?_append_left hi] at ht
  obtain ⟨A', c', h1, h2⟩ := h.2 i t' ht
  exact ⟨A', c', by rw [List.getElem?_append_left (by rw [h.1]; exact hi)]; exact h1, h2⟩
 ·subst hi
  rw [List.getElem?_append_right (Nat.le_refl _)] at ht
  simp only [Nat.sub_self, List.getElem?_cons_zero, Option.some.injEq] at ht
  subst ht
  subst hn
  exact ⟨A, c, by rw [List.getElem?_append_right (by rw [h.1]; exact Nat.le_refl _), h.1]; simp, hr⟩
 ·rw [List.getElem?_eq_none (by simp; omega)] at ht
  cases ht
/-- a list of trains in memory -/
structure TsAt (w : World) (L : Option Addr) (ts : List (List Int)) : Prop where
 ex : ∃ vs : List Value, vs.length = ts.length ∧ RdS w L 1 (vs.map (fun v => [v])) ∧ ∀ (i : Nat) (t : List Int), ts[i]? = some t → ∃ A c, vs[i]? = some (Value.slice A t.length c) ∧ Rd w A t.length t
theorem TsAt.keep {w w' : World} {L : Option Addr} {ts : List (List Int)} (h : TsAt w L ts) (hb : Below w.heap.size w w') : TsAt w' L ts :=
 let ⟨vs, h1, h2, h3⟩ := h.ex
 ⟨vs, h1, h2.keep hb, fun i t ht => let ⟨A, c, h4, h5⟩ := h3 i t ht; ⟨A, c, h4, h5.keep hb⟩⟩
/-- what the list of trains gives at a place -/
theorem TsAt.at_ {w : World} {L : Option Addr} {ts : List (List Int)} (h : TsAt w L ts) {i : Nat} (hi : i < ts.length) : ∃ ad A c, L = some ad ∧ ad.block < w.heap.size ∧ w.cell? (ad.add i) = some (.slice A ts[i].length c) ∧ Rd w A ts[i].length ts[i] := by
 obtain ⟨vs, h1, h2, h3⟩ := h.ex
 obtain ⟨A, c, h4, h5⟩ := h3 i ts[i] (List.getElem?_eq_getElem hi)
 obtain ⟨ad, e, hb, hc, _⟩ := h2.nth (i := i) (r := [.slice A ts[i].length c]) (by rw [List.getElem?_map, h4]; rfl)
 refine ⟨ad, A, c, e, hb, ?_, h5⟩
 have := hc _ rfl
 rwa [Nat.mul_one] at this
/-- the types of what the search of guesses does not touch -/
def tyG : TypeId → Bool := fun t => t != 93 && t != 96
theorem own_val_keep {W W' : World} {base : Nat} {E : TypeId} {v : Value} {vs : List Value} {r : Option Nat} (h : OwnV W base E v vs) (hg : W.grownBy W' r) (hr : v.ownBlock = none ∨ v.ownBlock ≠ r) : OwnV W' base E v vs := World.ownsRow.kept h hg hr
/-- a list of trains in rows of their own -/
def TsO (w : World) (base : Nat) (L : Option Addr) (n c : Nat) (ts : List (List Int)) : Prop := ∃ vs : List Value, OwnV w base 96 (.slice L n c) vs ∧ TsK w vs ts ∧ n = ts.length
theorem TsO.keep {w w' : World} {base n c : Nat} {L : Option Addr} {ts : List (List Int)} (h : TsO w base L n c ts) (hb : Below w.heap.size w w') : TsO w' base L n c ts :=
 let ⟨vs, h1, h2, h3⟩ := h; ⟨vs, h1.keep hb, h2.below hb, h3⟩
theorem TsO.ts {w : World} {base n c : Nat} {L : Option Addr} {ts : List (List Int)} (h : TsO w base L n c ts) : TsAt w L ts :=
 let ⟨vs, h1, h2, _⟩ := h; ⟨vs, h2.1, h1.rd, fun i t ht => let ⟨A', c', h3, h4⟩ := h2.2 i t ht; ⟨A', c', h3, h4.1⟩⟩
theorem TsO.mono {w : World} {base base' n c : Nat} {L : Option Addr} {ts : List (List Int)} (h : TsO w base L n c ts) (hb : base' ≤ base) : TsO w base' L n c ts := by
 obtain ⟨vs, h1, h2, h3⟩ := h
 refine ⟨vs, ⟨h1.1, ?_⟩, h2, h3⟩
 rcases h1.2 with h4 | ⟨g, cap, cur, h4, h5, h6⟩
 ·exact Or.inl h4
 ·exact Or.inr ⟨g, cap, cur, h4, by omega, h6⟩
theorem TsO.grown {w w' : World} {base n c g : Nat} {L : Option Addr} {ts : List (List Int)} {t : TypeId} {cs : Array Value} (h : TsO w base L n c ts) (hg : w.grownBy w' (some g)) (hB : Blk w g t cs) (h1 : t ≠ 96) (h2 : t ≠ 3) : TsO w' base L n c ts := by
 obtain ⟨vs, hO, hT, hn⟩ := h
 refine ⟨vs, own_val_keep hO hg (Or.inr (fun e => ?_)), ⟨hT.1, fun i x hx => ?_⟩, hn⟩
 ·obtain ⟨cs', hh⟩ := hO.cellsOf _ e
  unfold Blk at hB
  rw [hB] at hh
  cases hh
  exact h1 rfl
 ·obtain ⟨A', c', h3, h4⟩ := hT.2 i x hx
  exact ⟨A', c', h3, h4.grown hg hB h2⟩
end Go.Proofs.YtfgghicdkcjdgaaGreatDoor
end

section
namespace Go.Proofs.YtfgghicdkcjdgaaGreatDoor

theorem none_parts {n : Note} (h : noneB n = true) : n.ln = 0 ∧ n.ld = 0 ∧ n.mn = 0 ∧ n.md = 0 := by
 unfold noneB at h
 simp only [Bool.and_eq_true, beq_iff_eq] at h
 exact ⟨h.1.1, h.1.2, h.2.1, h.2.2⟩
theorem bare_parts {n : Note} (h : bareB n = true) : n.lo = 0 ∧ n.hi = 0 := by
 unfold bareB at h
 simpa only [Bool.and_eq_true, beq_iff_eq] using h
theorem note_mo {n : Note} {m : Int} (hm : 0 ≤ m ∧ m ≤ 1000) (h : noteB n m = true) : MoN n := by
 obtain ⟨k, a, b, lo, hi, ln, ld, mn, md⟩ := n
 unfold MoN Mo
 simp only
 unfold noteB at h
 simp only at h
 by_cases e1 : k = 1
 ·rw [if_pos e1] at h
  obtain ⟨h0, h⟩ := and_parts h
  obtain ⟨h1, h⟩ := and_parts h
  obtain ⟨h2, h⟩ := and_parts h
  obtain ⟨h3, h4⟩ := and_parts h
  have h0 := none_parts h0
  simp only at h0
  have := inB_iff.1 h1; have := inB_iff.1 h2; have := inB_iff.1 h3; have := of_decide_eq_true h4
  omega
 rw [if_neg e1] at h
 by_cases e2 : k = 2
 ·rw [if_pos e2] at h
  obtain ⟨h0, h⟩ := and_parts h
  obtain ⟨h1, h⟩ := and_parts h
  obtain ⟨h2, h⟩ := and_parts h
  obtain ⟨h3, h4⟩ := and_parts h
  have h0 := none_parts h0
  simp only at h0
  have := inB_iff.1 h1; have := beq_iff_eq.1 h2; have := inB_iff.1 h3; have := of_decide_eq_true h4
  omega
 rw [if_neg e2] at h
 by_cases e3 : k = 3
 ·rw [if_pos e3] at h
  obtain ⟨h0, h⟩ := and_parts h
  obtain ⟨h1, h⟩ := and_parts h
  obtain ⟨h2, h⟩ := and_parts h
  obtain ⟨h3, h⟩ := and_parts h
  obtain ⟨h4, _⟩ := and_parts h
  have h0 := bare_parts h0
  simp only at h0
  unfold fracB at h3 h4
  obtain ⟨h5, h6⟩ := and_parts h3
  obtain ⟨h7, h8⟩ := and_parts h4
  have := inB_iff.1 h1; have := of_decide_eq_true h2; have := inB_iff.1 h5; have := inB_iff.1 h6; have := inB_iff.1 h7; have := inB_iff.1 h8
  omega
 rw [if_neg e3] at h
 by_cases e4 : k = 4
 ·rw [if_pos e4] at h
  obtain ⟨h9, h⟩ := and_parts h
  obtain ⟨h0, h⟩ := and_parts h
  obtain ⟨h1, h2⟩ := and_parts h
  have h0 := bare_parts h0
  have h9 := none_parts h9
  simp only at h0 h9
  have := inB_iff.1 h1; have := of_decide_eq_true h2
  omega
 rw [if_neg e4] at h
 by_cases e5 : k = 5
 ·rw [if_pos e5] at h
  obtain ⟨h9, h⟩ := and_parts h
  obtain ⟨h0, h⟩ := and_parts h
  obtain ⟨h1, h2⟩ := and_parts h
  have h0 := bare_parts h0
  have h9 := none_parts h9
  simp only at h0 h9
  have := inB_iff.1 h1; have := inB_iff.1 h2
  omega
 rw [if_neg e5] at h
 cases h
/-- what a valid find is -/
structure FindOk (ws : List Wh) (ns : List Note) : Prop where
 even : ws.length % 2 = 0
 two : 2 ≤ ws.length
 six : ws.length ≤ 6
 eight : ns.length ≤ 8
 wh : ∀ s ∈ ws, 4 ≤ s.lo ∧ s.lo ≤ s.hi ∧ s.hi ≤ 60 ∧ s.hi - s.lo ≤ 5
 note : ∀ n ∈ ns, noteB n (ws.length : Int) = true
theorem find_ok {ws : List Wh} {ns : List Note} (h : findB ws ns = true) : FindOk ws ns := by
 unfold findB at h
 obtain ⟨h1, h⟩ := and_parts h
 obtain ⟨h2, h⟩ := and_parts h
 obtain ⟨h3, h⟩ := and_parts h
 obtain ⟨h4, h5⟩ := and_parts h
 have h1 := of_decide_eq_true h1
 have h2 := inB_iff.1 h2
 have h3 := of_decide_eq_true h3
 refine ⟨by omega, by omega, by omega, h3, fun s hs => ?_, fun n hn => List.all_eq_true.1 h5 n hn⟩
 have := List.all_eq_true.1 h4 s hs
 unfold whB teethB at this
 obtain ⟨a1, this⟩ := and_parts this
 obtain ⟨a2, a3⟩ := and_parts this
 have := inB_iff.1 a1; have := inB_iff.1 a2; have := inB_iff.1 a3
 omega
theorem FindOk.find {ws : List Wh} {ns : List Note} (h : FindOk ws ns) : findB ws ns = true := by
 have h1 := h.even
 have h2 := h.two
 have h3 := h.six
 unfold findB
 simp only [Bool.and_eq_true, decide_eq_true_eq, List.all_eq_true]
 refine ⟨by omega, inB_yes (by omega), h.eight, fun s hs => ?_, h.note⟩
 have := h.wh s hs
 unfold whB teethB
 simp only [Bool.and_eq_true]
 exact ⟨inB_yes (by omega), inB_yes (by omega), inB_yes (by omega)⟩
theorem FindOk.mo {ws : List Wh} {ns : List Note} (h : FindOk ws ns) : MoF ws ns :=
 ⟨fun s hs => by have := h.wh s hs; unfold MoW Mo; omega, fun n hn => note_mo (by have := h.six; omega) (h.note n hn)⟩
theorem FindOk.mw {ws : List Wh} {ns : List Note} (h : FindOk ws ns) : ∀ s ∈ ws, MoW s ∧ s.lo ≤ s.hi := fun s hs => ⟨h.mo.1 s hs, (h.wh s hs).2.1⟩
theorem FindOk.many {ws : List Wh} {ns : List Note} (h : FindOk ws ns) : (allT ws).length ≤ 46656 := by
 refine Nat.le_trans (allT_len ws (fun s hs => (h.wh s hs).2.2.2)) ?_
 exact Nat.le_trans (Nat.pow_le_pow_right (by decide) h.six) (by decide)
theorem fits_teeth : ∀ {ws : List Wh} {t : List Int}, (∀ s ∈ ws, 4 ≤ s.lo ∧ s.lo ≤ s.hi ∧ s.hi ≤ 60 ∧ s.hi - s.lo ≤ 5) → Fits ws t → TeethOk t
 | [], [], _, _ => fun x hx => absurd hx (by simp)
 | [], _ :: _, _, h => absurd h (by simp [Fits])
 | _ :: _, [], _, h => absurd h (by simp [Fits])
 | s :: ws, y :: t, hw, h => fun x hx => by
  rcases List.mem_cons.1 hx with rfl | hx
  ·have := hw s (List.mem_cons_self ..); have := h.1; omega
  ·exact fits_teeth (fun s hs => hw s (List.mem_cons_of_mem _ hs)) h.2 x hx
end Go.Proofs.YtfgghicdkcjdgaaGreatDoor
end

section
namespace Go.Proofs.YtfgghicdkcjdgaaGreatDoor
open Go.RowKit Go.Shelf
attribute [local go_sem] Oper.semAt_some

/-- what holds between two rounds of guess -/
structure GInv (B : Nat) (w2 : World) (br bg lD l : Nat) (rec : Loop) (A N : Option Addr) (nw wc nn nc : Nat) (ns : List Note) (d : List (List Int)) (W : World) : Prop where
 kp : Keep B tyG w2 W
 r : Blk W br 93 #[.slice none 0 0, .slice none 0 0, .slice none 0 0]
 g : ∃ v vs, Blk W bg 93 #[.slice A nw wc, .slice N nn nc, v] ∧ OwnV W B 96 v vs ∧ TsK W vs (d.filter (fun t => (breaksL ns t).isEmpty))
 df : W.heap[lD]? = some (.deferred (some []))
 lp : W.heap[l]? = some (.loop rec)
theorem GInv.below {B br bg lD l : Nat} {w2 W W' : World} {rec : Loop} {A N : Option Addr} {nw wc nn nc : Nat} {ns : List Note} {d : List (List Int)} (h : GInv B w2 br bg lD l rec A N nw wc nn nc ns d W) (hb : Below W.heap.size W W') : GInv B w2 br bg lD l rec A N nw wc nn nc ns d W' :=
 ⟨h.kp.then_below hb, h.r.keep hb, let ⟨v, vs, h1, h2, h3⟩ := h.g; ⟨v, vs, h1.keep hb, h2.keep hb, h3.below hb⟩, (hb.block _ (Array.getElem?_eq_some_iff.1 h.df).1).trans h.df, (hb.block _ (Array.getElem?_eq_some_iff.1 h.lp).1).trans h.lp⟩
theorem own_not_obj {W : World} {base l : Nat} {E : TypeId} {v : Value} {vs : List Value} {o : Obj} (h : OwnV W base E v vs) (hl : W.heap[l]? = some o) (ho : o.isCells = false) : v.ownBlock ≠ some l := by
 intro e
 obtain ⟨cs, hh⟩ := h.cellsOf l e
 rw [hh] at hl
 cases hl
 cases ho
theorem keep_put {B : Nat} {T : TypeId → Bool} {W : World} {l : Nat} {o : Obj} (hl : W.heap[l]? = some o) (ho : o.isCells = false) (hB : B ≤ l) (o' : Obj) : Keep B T W (W.putObj l o') :=
 Keep.grown (grownBy_putObj' W l o') (fun k e => by cases e; exact ⟨hB, fun cs t fr h => by rw [hl] at h; cases h; cases ho⟩)
theorem GInv.put {B br bg lD l : Nat} {w2 W : World} {rec : Loop} {A N : Option Addr} {nw wc nn nc : Nat} {ns : List Note} {d : List (List Int)} (h : GInv B w2 br bg lD l rec A N nw wc nn nc ns d W) (hB : B ≤ l) (hne : lD ≠ l) (r' : Loop) : GInv B w2 br bg lD l r' A N nw wc nn nc ns d (W.putObj l (.loop r')) := by
 have hg := grownBy_putObj' W l (.loop r')
 have hk : Keep B tyG W (W.putObj l (.loop r')) := keep_put h.lp rfl hB _
 refine ⟨h.kp.trans hk, h.r.grown hg (fun e => Obj_cells_ne h.r h.lp rfl (by cases e; rfl)), ?_, (World.putObj_heap_other hne).trans h.df, World.putObj_heap_same (Array.getElem?_eq_some_iff.1 h.lp).1⟩
 obtain ⟨v, vs, h1, h2, h3⟩ := h.g
 exact ⟨v, vs, h1.grown hg (fun e => Obj_cells_ne h1 h.lp rfl (by cases e; rfl)), own_val_keep h2 hg (Or.inr (own_not_obj h2 h.lp rfl)), h3.keep hk (by decide)⟩
theorem RdS.keepO {B : Nat} {T : TypeId → Bool} {w W W' : World} {A : Option Addr} {k : Nat} {rows : List (List Value)} (h0 : RdS w A k rows) (h : RdS W A k rows) (hk : Keep B T W W') (hB : w.heap.size ≤ B) : RdS W' A k rows := fun hn => by
 exact h.keepK hk (fun ad e => by have := h0.oldA hn ad e; omega) hn
theorem GInv.done {B br bg lD l : Nat} {w2 W : World} {rec : Loop} {A N : Option Addr} {nw wc nn nc : Nat} {ns : List Note} {d : List (List Int)} {t : List Int} (h : GInv B w2 br bg lD l rec A N nw wc nn nc ns d W) (ht : (breaksL ns t).isEmpty = false) : GInv B w2 br bg lD l rec A N nw wc nn nc ns (d ++ [t]) W :=
 ⟨h.kp, h.r, by rw [List.filter_append]; simpa [ht] using h.g, h.df, h.lp⟩
theorem heap_setO {W : World} {g l i : Nat} {t : TypeId} {cs : Array Value} {o : Obj} (hB : Blk W g t cs) (hl : W.heap[l]? = some o) (ho : o.isCells = false) (u : Value) : (W.setCell ⟨g, i, none⟩ u).heap[l]? = some o :=
 (Below.heap_setCell _ _ _ _ (fun e => Obj_cells_ne hB hl ho e.symm)).trans hl
theorem guessed_zero (w : World) : (zeroValue 93).run Tryz.prog w = .ok (.agg #[.slice none 0 0, .slice none 0 0, .slice none 0 0]) w := by kernel_rfl
/-- the find with its guesses is returned -/
def RetG (w : World) (A N : Option Addr) (nw wc nn nc : Nat) (ts : List (List Int)) (e : Ending) (w' : World) : Prop := ∃ L lc, e = .returned (.agg #[.slice A nw wc, .slice N nn nc, .slice L ts.length lc]) ∧ TsO w' w.heap.size L ts.length lc ts ∧ Below w.heap.size w w'
set_option maxRecDepth 100000 in
set_option maxHeartbeats 8000000 in
theorem guess_any (A N : Option Addr) (wc nc : Nat) (ws : List Wh) (ns : List Note) (w : World) (hf : FindAt w A N ws ns) (hv : FindOk ws ns) :
  Calls Tryz.prog 49 #[.agg #[.slice A ws.length wc, .slice N ns.length nc]] w (RetG w A N ws.length wc ns.length nc (guessL ws ns)) := by
 have hA : ∀ ad, A = some ad → ad.block < w.heap.size := hf.ws.oldA (by rw [List.length_map]; have := hv.two; omega)
 have hb3 := fr_alloc (fr_alloc (fr_alloc (fr_refl w) (.cells #[.slice A ws.length wc, .slice N ns.length nc] 25)) (.cells #[.slice none 0 0, .slice none 0 0, .slice none 0 0] 93)) (.cells #[.slice A ws.length wc, .slice N ns.length nc, .slice none 0 0] 93)
 have hBf : Blk (((w.alloc (.cells #[.slice A ws.length wc, .slice N ns.length nc] 25)).alloc (.cells #[.slice none 0 0, .slice none 0 0, .slice none 0 0] 93)).alloc (.cells #[.slice A ws.length wc, .slice N ns.length nc, .slice none 0 0] 93)) w.heap.size 25 #[.slice A ws.length wc, .slice N ns.length nc] := ((Blk.new w _ _).alloc _).alloc _
 have hBr : Blk (((w.alloc (.cells #[.slice A ws.length wc, .slice N ns.length nc] 25)).alloc (.cells #[.slice none 0 0, .slice none 0 0, .slice none 0 0] 93)).alloc (.cells #[.slice A ws.length wc, .slice N ns.length nc, .slice none 0 0] 93)) (w.heap.size + 1) 93 #[.slice none 0 0, .slice none 0 0, .slice none 0 0] := (Blk.new_at _ _ (by simp)).alloc _
 have hBg : Blk (((w.alloc (.cells #[.slice A ws.length wc, .slice N ns.length nc] 25)).alloc (.cells #[.slice none 0 0, .slice none 0 0, .slice none 0 0] 93)).alloc (.cells #[.slice A ws.length wc, .slice N ns.length nc, .slice none 0 0] 93)) (w.heap.size + 1 + 1) 93 #[.slice A ws.length wc, .slice N ns.length nc, .slice none 0 0] := Blk.new_at _ _ (by simp)
 refine (callsIn_wide (n := 6)).1 (callsIn_of_wp_marks Tryz.func49 rfl trivial ?_ rfl)
 simp only [Tryz.ntmps49, List.size_toArray, List.length_cons, List.length_nil, Nat.reduceAdd, Nat.reduceSub, Array.replicate_succ, Array.replicate_zero, List.push_toArray, List.append_toArray, List.nil_append, List.cons_append]
 refine wpIn_wide.2 ?_
 go_wp2_with fail
 refine (all_any A N ws.length wc ns.length nc _).mono ?_
 rintro e w2 ⟨rfl, hB2, hb2⟩
 replace hBf := hBf.keep hb2
 replace hBr := hBr.keep hb2
 replace hBg := hBg.keep hb2
 replace hb3 := fr_call hb3 hb2
 clear hb2
 simp only [World.size_alloc] at hB2 ⊢
 have hl2 := hB2.lt
 go_wp2_with fail
 refine (wpIn_wide (n := 6)).1 ?_
 refine wpIn_range_enter (gf := 127) rfl (enters_of Tryz.func127 (by kernel_rfl) rfl) (fun fn rec hst hpe hfn htm hpa has hbod => ?_)
 generalize hl : w2.heap.size + 1 = l at *
 obtain ⟨W1, hW1⟩ : ∃ W1, (w2.alloc (.deferred (some []))).alloc (.loop rec) = W1 := ⟨_, rfl⟩
 have hL1 : W1.heap[l]? = some (.loop rec) := by
  rw [← hW1, ← hl]; have := World.alloc_heap_new (w2.alloc (.deferred (some []))) (.loop rec); rwa [World.size_alloc] at this
 have hD1 : W1.heap[w2.heap.size]? = some (.deferred (some [])) := by
  rw [← hW1]; exact (Below.heap_alloc _ _ _ (by simp)).trans (World.alloc_heap_new w2 _)
 have hb21 : Below w2.heap.size w2 W1 := by rw [← hW1]; exact fr_alloc (fr_alloc (fr_refl _) _) _
 rw [hW1]
 have hsz := hb3.size
 have hfm := hv.mw
 have h0 : GInv w.heap.size w2 (w.heap.size + 1) (w.heap.size + 1 + 1) w2.heap.size l rec A N ws.length wc ns.length nc ns [] W1 :=
  ⟨Keep.of_below hb21, hBr.keep hb21, ⟨.slice none 0 0, [], hBg.keep hb21, World.ownsRow_nil _ _ _ _, rfl, fun i t ht => by simp at ht⟩, hD1, hL1⟩
 have hY : AllY w.heap.size tyG 5 l (allT ws).length ws (GInv w.heap.size w2 (w.heap.size + 1) (w.heap.size + 1 + 1) w2.heap.size l rec A N ws.length wc ns.length nc ns) := by
  refine ⟨by decide, by decide, by decide, by decide, fun d W W' h hb => h.below hb, ?_⟩
  intro d t A' c W hi hr ht hd
  have hte := fits_teeth hv.wh ht
  have hy := run_yield (P := Tryz.prog) (args := #[.slice A' ws.length c]) hi.lp (by rw [hpa]; rfl)
  rw [hfn, htm, hpa, has, hbod] at hy
  refine ⟨_, _, _, _, hy, roundIn_of_wpIn trivial ?_⟩
  clear hy
  gi_wp2
  refine ⟨_, run_beginRound hi.lp hst, ?_⟩
  have hkB : Keep w.heap.size tyG W (W.putObj l (.loop { rec with state := .busy })) := keep_put hi.lp rfl (by omega) _
  have hiB := hi.put (by omega) (by omega) { rec with state := .busy }
  have hrB := hr.keep hkB (by decide)
  have hsW := hi.kp.size
  generalize W.putObj l (.loop { rec with state := .busy }) = WB at *
  have hBfB := hiB.kp.blk hBf (Or.inr (by decide))
  have hfB : RdS WB N 9 (ns.map Note.cells) := RdS.keepO hf.ns (hf.ns.keep hb3) hiB.kp (Nat.le_refl _)
  have hcf := fun j => hBfB.cell j
  have hrec : ({ rec with state := .ready, pending := none } : Loop) = rec := by
   cases rec
   simp only at hst hpe
   rw [hst, hpe]
  have fin : ∀ (WC : World) (a : Act) (r : Loop), r = { rec with state := .busy } → GInv w.heap.size w2 (w.heap.size + 1) (w.heap.size + 1 + 1) w2.heap.size l r A N ws.length wc ns.length nc ns (d ++ [t]) WC → Keep w.heap.size tyG W WC →
    roundPost Tryz.prog l (fun e W' => e = .returned (.bool true) ∧ GInv w.heap.size w2 (w.heap.size + 1) (w.heap.size + 1 + 1) w2.heap.size l rec A N ws.length wc ns.length nc ns (d ++ [t]) W' ∧ Keep w.heap.size tyG W W') .normal a WC := by
   rintro WC a r rfl hi' hk'
   have h0 := hi'.put (by omega) (by omega) { { rec with state := .busy } with state := .ready, pending := none }
   have hk2 : Keep w.heap.size tyG WC (WC.putObj l (.loop { { rec with state := .busy } with state := .ready, pending := none })) := keep_put hi'.lp rfl (by omega) _
   refine ⟨_, _, run_endRound none hi'.lp, rfl, ?_, hk'.trans hk2⟩
   exact ⟨h0.kp, h0.r, h0.g, h0.df, h0.lp.trans (congrArg some (congrArg Obj.loop hrec))⟩
  obtain ⟨rb, hrb⟩ : ∃ r : Loop, { rec with state := .busy } = r := ⟨_, rfl⟩
  rw [hrb] at hiB
  have FIN := fun WC a => fin WC a rb hrb.symm
  have hdm : d.length < 46656 := Nat.lt_of_lt_of_le hd hv.many
  clear fin hrec hrb hst hpe hi htm hpa has hbod hfn hd hr
  gi_wp2
  refine ⟨trivial, ?_⟩
  refine CallsIn.mono (CallsIn.inRound l (callsIn_wide.2 (breaks_any A' N A ws.length c wc nc ws.length t ns WB hrB.1 hfB hv.six (by have := hv.eight; omega) hte hv.note))) ?_
  rintro e wC ⟨A1, c1, rfl, hr1, hbC⟩
  have hiC := hiB.below hbC
  have hkC := hkB.then_below hbC
  have hrC := hrB.below hbC
  clear hcf hiB hkB hrB
  cases hq : (breaksL ns t).isEmpty with
  | false =>
   have hz : (((breaksL ns t).length : Int) == 0) = false := by
    rw [beq_eq_false_iff_ne]
    intro e
    have : breaksL ns t = [] := List.eq_nil_of_length_eq_zero (by omega)
    rw [this] at hq; cases hq
   gi_wp2
   exact FIN _ _ (hiC.done hq) hkC
  | true =>
   have hz : (((breaksL ns t).length : Int) == 0) = true := by
    have : breaksL ns t = [] := by simpa using hq
    rw [this]; rfl
   obtain ⟨v, vs, hG, hO, hT⟩ := hiC.g
   have hvl : vs.length < 1000000 := by
    rw [hT.1]
    exact Nat.lt_of_le_of_lt (List.length_filter_le _ _) (by omega)
   have hsC := hiC.kp.size
   have hGne : v.ownBlock ≠ some (w.heap.size + 1 + 1) := fun e => by
    obtain ⟨cs, hh⟩ := hO.cellsOf _ e
    rw [hG] at hh
    cases hh
   have hRne : v.ownBlock ≠ some (w.heap.size + 1) := fun e => by
    obtain ⟨cs, hh⟩ := hO.cellsOf _ e
    rw [hiC.r] at hh
    cases hh
   have hcG := fun j => hG.cell j
   gi_wp2_with (refine app_val_in rfl (.tmp 16) (.tmp 18) rfl Tryz.underlying91 info_teeth rfl (by omega) w.heap.size v vs (.slice A' ws.length c) rfl rfl hO rfl hvl (by omega) ?_; intro L1 lc1 wE hO1 hg1; have hG1 := (hG.alloc (.cells #[.slice A' ws.length c] 96)).grown hg1 (Ne.symm hGne); have hcG1 := fun j => hG1.cell j; have hfG1 := fun j => hG1.frozen j)
   have hkE0 : Keep w.heap.size tyG wC (wC.alloc (.cells #[.slice A' ws.length c] 96)) := Keep.of_below (fr_alloc (fr_refl wC) _)
   have hkE : Keep w.heap.size tyG wC wE := hkE0.trans (Keep.grown hg1 (fun k e => by
    refine ⟨hO.ge k e, fun cs t fr h => ?_⟩
    obtain ⟨cs', hh⟩ := hO.cellsOf _ e
    have h2 := (Below.heap_alloc wC (.cells #[.slice A' ws.length c] 96) k (Array.getElem?_eq_some_iff.1 hh).1).trans hh
    rw [h2] at h
    cases h
    rfl))
   have hgs := grown_set wE ⟨w.heap.size + 1 + 1, 2, none⟩ (.slice L1 (vs.length + 1) lc1)
   have hkF : Keep w.heap.size tyG wE (wE.setCell ⟨w.heap.size + 1 + 1, 2, none⟩ (.slice L1 (vs.length + 1) lc1)) := Keep.grown hgs (fun k e => by cases e; exact ⟨Nat.le_trans (Nat.le_succ _) (Nat.le_succ _), fun cs t fr h => by rw [hG1] at h; cases h; rfl⟩)
   have hO1ne : (Value.slice L1 (vs.length + 1) lc1).ownBlock ≠ some (w.heap.size + 1 + 1) := fun e => by
    obtain ⟨cs, hh⟩ := hO1.cellsOf _ e
    rw [hG1] at hh
    cases hh
   have hTE := (hT.keep hkE (by decide)).snoc (c := c) (hrC.keep hkE (by decide))
   refine FIN _ _ ⟨(hiC.kp.trans hkE).trans hkF, ((hiC.r.alloc _).grown hg1 (Ne.symm hRne)).far (p := ⟨w.heap.size + 1 + 1, 2, none⟩) (by show ¬ _ = w.heap.size + 1 + 1; omega) _, ?_, ?_, ?_⟩ ((hkC.trans hkE).trans hkF)
   ·refine ⟨_, _, hG1.set_ 2 _, own_val_keep hO1 hgs (Or.inr (by simpa using hO1ne)), ?_⟩
    rw [List.filter_append, show [t].filter (fun t => (breaksL ns t).isEmpty) = [t] by simp [hq]]
    exact hTE.keep hkF (by decide)
   ·exact heap_setO hG1 ((hg1.block _ (by rw [World.size_alloc]; have := (Array.getElem?_eq_some_iff.1 hiC.df).1; omega) (Ne.symm (own_not_obj hO hiC.df rfl))).trans ((Below.heap_alloc wC _ _ (Array.getElem?_eq_some_iff.1 hiC.df).1).trans hiC.df)) rfl _
   ·exact heap_setO hG1 ((hg1.block _ (by rw [World.size_alloc]; have := (Array.getElem?_eq_some_iff.1 hiC.lp).1; omega) (Ne.symm (own_not_obj hO hiC.lp rfl))).trans ((Below.heap_alloc wC _ _ (Array.getElem?_eq_some_iff.1 hiC.lp).1).trans hiC.lp)) rfl _
 refine CallsIn.mono (callsIn_wide.2 (all1_any w.heap.size 5 l (allT ws).length tyG ws _ hY hfm (by have := hv.six; omega) A N wc ns.length nc _ W1 (hB2.keep hb21) ((hf.ws.keep hb3).keep hb21) hA h0 (Nat.le_refl _))) ?_
 rintro e W ⟨rfl, hi, hk⟩
 have hi4 := hi.put (by omega) (by omega) { rec with state := .exhausted, pending := none }
 refine ⟨_, _, run_endLoop hi.lp (by rw [hst]; simp), ?_⟩
 rw [hpe]
 obtain ⟨v, vs, hG4, hO4, hT4⟩ := hi4.g
 have hR4 := hi4.r
 have hF4 := hi4.kp.below hb3 (Nat.le_refl _) (Nat.le_refl _)
 have hD4 := hi4.df
 obtain ⟨L, lc, rfl⟩ := hO4.form
 clear hi hk hi4 hY h0 hBf hBr hBg
 generalize W.putObj l (.loop { rec with state := .exhausted, pending := none }) = W4 at *
 have hcG := fun j => hG4.cell j
 have HGL := Lib.hid (show (allT ws).filter (fun t => (breaksL ns t).isEmpty) = guessL ws ns from rfl)
 go_wp2_with (refine wpList_store_blk rfl _ _ _ rfl (w.heap.size + 1) 93 _ _ rfl rfl hR4 rfl (by kernel_rfl) (by simp [Value.oneCell']) ?_; intro W5 hR5 hg5; clear hcG)
 have hk5 : Keep w.heap.size tyG W4 W5 := Keep.grown hg5 (fun k e => by cases e; exact ⟨by omega, fun cs t fr h => by rw [hR4] at h; cases h; rfl⟩)
 have hO5 := own_val_keep hO4 hg5 (Or.inr (fun e => by
  obtain ⟨cs, hh⟩ := hO4.cellsOf _ e
  rw [hR4] at hh
  cases hh))
 have hT5 := hT4.keep hk5 (by decide)
 have hD5 := (hg5.block _ (Array.getElem?_eq_some_iff.1 hD4).1 (fun e => by have e := Option.some.inj e; omega)).trans hD4
 have hF5 := hk5.below hF4 (Nat.le_refl _) (Nat.le_refl _)
 refine ⟨by simp, .inl ⟨_, _, rfl, run_takeDeferred hD5, ?_⟩⟩
 have hk6 : Keep w.heap.size tyG W5 (W5.putObj w2.heap.size (.deferred none)) := keep_put hD5 rfl (by omega) _
 have hR6 := hR5.grown (grownBy_putObj' W5 w2.heap.size (.deferred none)) (fun e => Obj_cells_ne hR5 hD5 rfl (Option.some.inj e))
 refine ⟨_, results_blk1 rfl _ _ _ _ rfl hR6 Tryz.underlying93 rfl (by kernel_rfl), L, lc, ?_, ?_, hk6.below hF5 (Nat.le_refl _) (Nat.le_refl _)⟩
 ·rw [← HGL.out, ← hT4.1]
 ·rw [HGL.out] at hT5
  have hT6 := hT5.keep hk6 (by decide)
  have hO6 := own_val_keep hO5 (grownBy_putObj' W5 w2.heap.size (.deferred none)) (Or.inr (own_not_obj hO5 hD5 rfl))
  exact ⟨vs, by rw [← hT6.1]; exact hO6, hT6, rfl⟩
end Go.Proofs.YtfgghicdkcjdgaaGreatDoor
end

section
namespace Go.Proofs.YtfgghicdkcjdgaaGreatDoor
open Go.RowKit Go.Shelf

set_option maxRecDepth 100000 in
theorem run_list (T : TypeId) (hT : T = 93) (a b c : Value) (w : World) : (Instr.field T (.agg #[a, b, c]) 1).run Tryz.prog w = .ok c w := by subst hT; rfl
def RetE (w : World) (k n : Int) (e : Ending) (w' : World) : Prop := e = .returned (.tuple #[.int .i64 n, .int .i64 k]) ∧ Below w.heap.size w w'
set_option maxRecDepth 100000 in
set_option maxHeartbeats 4000000 in
theorem Guesses_ok (A N : Option Addr) (wc nc : Nat) (ws : List Wh) (ns : List Note) (w : World) (hf : FindAt w A N ws ns) (hv : FindOk ws ns) :
  Calls Tryz.prog 21 #[.agg #[.slice A ws.length wc, .slice N ns.length nc]] w (RetE w 0 ((guessL ws ns).length : Int)) := by
 have hb0 := fr_alloc (fr_refl w) (.cells #[.slice A ws.length wc, .slice N ns.length nc] 25)
 have hX := Blk.new w 25 #[.slice A ws.length wc, .slice N ns.length nc]
 replace hf := hf.keep hb0
 have hs := hv.six
 have h8 := hv.eight
 have hfd := fun a b c w => run_list _ rfl a b c w
 go_enter Tryz.func21, Tryz.ntmps21
 go_wp2_with fail
 refine (isFind_is A N wc nc ws ns _ hf (by omega) (by omega) hv.mo true hv.find).mono ?_
 rintro e w1 ⟨rfl, hb1⟩
 replace hX := hX.keep hb1
 replace hf := hf.keep hb1
 replace hb0 := fr_call hb0 hb1
 have hc := fun j => hX.cell j
 go_wp2_with fail
 refine (guess_any A N wc nc ws ns w1 hf hv).mono ?_
 rintro e w2 ⟨L, lc, rfl, hL, hb2⟩
 clear hc
 go_wp2_with fail
 go_ret2
 exact ⟨rfl, fr_call hb0 hb2⟩
/-- a find with its guesses, and an error, are returned -/
def RetA (w : World) (A N : Option Addr) (nw wc nn nc : Nat) (ts : List (List Int)) (e : Ending) (w' : World) : Prop := ∃ L lc, e = .returned (.tuple #[.agg #[.slice A nw wc, .slice N nn nc, .slice L ts.length lc], .int .i64 0]) ∧ TsO w' w.heap.size L ts.length lc ts ∧ Below w.heap.size w w'
def RetN (w : World) (k : Int) (e : Ending) (w' : World) : Prop := e = .returned (.tuple #[.agg #[.slice none 0 0, .slice none 0 0, .slice none 0 0], .int .i64 k]) ∧ Below w.heap.size w w'
def AskB (w : World) (A N : Option Addr) (nw wc nn nc : Nat) (ts : List (List Int)) (e : Ending) (w' : World) : Prop := if ts = [] then RetN w 7 e w' else RetA w A N nw wc nn nc ts e w'
set_option maxRecDepth 100000 in
set_option maxHeartbeats 8000000 in
theorem asked_ok (A N : Option Addr) (wc nc : Nat) (ws : List Wh) (ns : List Note) (w : World) (hf : FindAt w A N ws ns) (hv : FindOk ws ns) :
  Calls Tryz.prog 53 #[.agg #[.slice A ws.length wc, .slice N ns.length nc], .bool true] w (AskB w A N ws.length wc ns.length nc (guessL ws ns)) := by
 have hb0 := fr_alloc (fr_alloc (fr_refl w) (.cells #[.slice A ws.length wc, .slice N ns.length nc] 25)) (.cells #[.slice none 0 0, .slice none 0 0, .slice none 0 0] 93)
 have hX := (Blk.new w 25 #[.slice A ws.length wc, .slice N ns.length nc]).alloc (.cells #[.slice none 0 0, .slice none 0 0, .slice none 0 0] 93)
 have hR : Blk ((w.alloc (.cells #[.slice A ws.length wc, .slice N ns.length nc] 25)).alloc (.cells #[.slice none 0 0, .slice none 0 0, .slice none 0 0] 93)) (w.heap.size + 1) 93 #[.slice none 0 0, .slice none 0 0, .slice none 0 0] := Blk.new_at _ _ (by simp)
 replace hf := hf.keep hb0
 have hs := hv.six
 have h8 := hv.eight
 go_enter Tryz.func53, Tryz.ntmps53
 go_wp2_with fail
 refine (isFind_is A N wc nc ws ns _ hf (by omega) (by omega) hv.mo true hv.find).mono ?_
 rintro e w1 ⟨rfl, hb1⟩
 replace hX := hX.keep hb1
 replace hR := hR.keep hb1
 replace hf := hf.keep hb1
 replace hb0 := fr_call hb0 hb1
 have hc := fun j => hX.cell j
 go_wp2_with fail
 refine (guess_any A N wc nc ws ns w1 hf hv).mono ?_
 rintro e w2 ⟨L, lc, rfl, hL, hb2⟩
 clear hc
 replace hR := hR.keep hb2
 replace hb0 := fr_call hb0 hb2
 have hz0 := hR.lt
 have hG0 : Blk (w2.alloc (.cells #[.slice none 0 0, .slice none 0 0, .slice none 0 0] 93)) w2.heap.size 93 #[.slice none 0 0, .slice none 0 0, .slice none 0 0] := Blk.new _ _ _
 have hG1 : Blk (w2.alloc (.cells #[.slice A ws.length wc, .slice N ns.length nc, .slice L (guessL ws ns).length lc] 93)) w2.heap.size 93 #[.slice A ws.length wc, .slice N ns.length nc, .slice L (guessL ws ns).length lc] := Blk.new _ _ _
 have hb3 := fr_alloc (fr_refl w2) (.cells #[.slice A ws.length wc, .slice N ns.length nc, .slice L (guessL ws ns).length lc] 93)
 replace hR := hR.keep hb3
 replace hL := hL.keep hb3
 replace hb0 := fr_call hb0 hb3
 generalize hts : guessL ws ns = ts at *
 by_cases h0 : ts = []
 ·have hz : ((ts.length : Int) == 0) = true := by rw [h0]; rfl
  have H0 := Lib.hid h0
  clear h0 hts hG0
  go_wp2_with (refine wpList_store_blk rfl _ _ _ rfl (w.heap.size + 1) 93 _ _ rfl rfl hR rfl (by kernel_rfl) (by simp [Value.oneCell']) ?_; intro W5 hR5 hg5)
  refine bodyPost_ret (results_blk_tmp rfl _ _ _ _ rfl hR5 Tryz.underlying93 rfl (by kernel_rfl)) rfl ?_
  unfold AskB
  rw [if_pos H0.out]
  exact ⟨rfl, hb0.grown hg5 hb0.size (by intro k hk; cases hk; exact Nat.le_succ _)⟩
 ·have hne : ((ts.length : Int) == 0) = false := by
   rw [beq_eq_false_iff_ne]
   intro e
   exact h0 (List.eq_nil_of_length_eq_zero (by omega))
  have H0 := Lib.hid h0
  clear h0 hts hG0
  go_wp2_with (refine wpList_store_blk rfl _ _ _ rfl (w.heap.size + 1) 93 _ _ rfl rfl hR rfl (by kernel_rfl) (by simp [Value.oneCell']) ?_; intro W5 hR5 hg5)
  refine bodyPost_ret (results_blk_tmp rfl _ _ _ _ rfl hR5 Tryz.underlying93 rfl (by kernel_rfl)) rfl ?_
  unfold AskB
  rw [if_neg H0.out]
  refine ⟨L, lc, rfl, ?_, hb0.grown hg5 hb0.size (by intro k hk; cases hk; exact Nat.le_succ _)⟩
  exact (hL.mono (by have := hb1.size; simp only [World.size_alloc] at this; omega)).grown hg5 hR (by decide) (by decide)
end Go.Proofs.YtfgghicdkcjdgaaGreatDoor
end

section
namespace Go.Proofs.YtfgghicdkcjdgaaGreatDoor
open Go.RowKit Go.Shelf

section
variable {o : Oper} {a : Act} {w : World} {K : Act → World → Prop} {Q : Exit → Act → World → Prop}
theorem info_pair : (Tryz.prog.info? 98).map (fun i => (i.zero, i.size, i.bytes)) = some (some (.agg #[.int .i64 0, .int .i64 0]), 2, 16) := by kernel_rfl
theorem wp_build_pair {x : Nat} {d v : Int} (ho : o.op = .buildSlice 26 1 #[(0, .tmp x)]) (hx : a.tmps.getD x undef = .agg #[.int .i64 d, .int .i64 v])
  (h : ∀ g w', w.heap.size = g → Blk w' g 98 #[.int .i64 d, .int .i64 v] → Below w.heap.size w w' → K (a.put o.dst (.slice (some ⟨g, 0, none⟩) 1 1)) w') : o.wp Tryz.prog a w K Q := by
 have h1 := h w.heap.size (w.alloc (.cells #[.int .i64 d, .int .i64 v] 98)) rfl (Blk.new w _ _) (fr_alloc (fr_refl w) _)
 obtain ⟨dst, op, ty, pos, after, guard⟩ := o
 simp only at ho
 subst ho
 have hx' : a.tmps[x]?.getD undef = .agg #[.int .i64 d, .int .i64 v] := by simpa using hx
 go_simp
 exact h1
/-- 'append(s, x)' of a row of k cells -/
theorem wp_app_row {T E : TypeId} {z : Value} {k bytes : Nat} {r : List Value} (s x : Operand)
  (ho : o.op = .call { callee := .builtin .append, args := #[s, x], argTypes := #[T, T] }) (hu : Tryz.prog.underlying T = some (.slice E)) (hinfo : (Tryz.prog.info? E).map (fun i => (i.zero, i.size, i.bytes)) = some (some z, k, bytes)) (hzk : z.cells.size = k) (hk : 0 < k) (hby : bytes ≤ 1000)
  (base : Nat) (v : Value) (rows : List (List Value)) (hs : a.eval s = v) (hown : OwnS w base E k v rows) (g : Nat) (hx : a.eval x = .slice (some ⟨g, 0, none⟩) 1 1) (hg : Blk w g E r.toArray) (hrl : r.length = k) (h1 : ∀ u ∈ r, u.oneCell' = true) (hn : rows.length < 1000000) (hbase : base ≤ w.heap.size)
  (h : ∀ A c w', OwnS w' base E k (.slice A (rows.length + 1) c) (rows ++ [r]) → w.grownBy w' v.ownBlock → K (a.put o.dst (.slice A (rows.length + 1) c)) w') : o.wp Tryz.prog a w K Q := by
 obtain ⟨i0, hi, hz0, hz1, hz2⟩ := info_parts hinfo
 have hb : (rows.length + 1) * bytes ≤ 1000000 * 1000 := Nat.mul_le_mul (by omega) hby
 refine wp_append_own w s x _ ho base _ i0 _ k bytes hu hi hz0 hz1 hz2 hzk hk v _ _ hs hown.1 ⟨g, 0, none⟩ 1 1 r hx (by rw [hrl]; omega) ?_ h1
  (by unfold maxLen; omega) (by omega) hbase ?_
 ·intro j u hj
  rw [add_lit, Nat.zero_add, hg.cell]
  simpa using hj
 ·intro v' w' hown' hgr _
  have hown2 : OwnS w' base E k v' (rows ++ [r]) := by
   refine ⟨?_, fun q hq => ?_⟩
   ·rw [List.length_append, List.flatten_append]
    simpa using hown'
   ·rcases List.mem_append.1 hq with h2 | h2
    ·exact hown.2 q h2
    ·have : q = r := by simpa using h2
     rw [this]; exact hrl
  obtain ⟨A, c, rfl⟩ := hown2.form
  rw [List.length_append] at hown2 ⊢
  exact h A c w' hown2 hgr
end
/-- the pairs of some teeth, the first k of them -/
def pairK (t : List Int) (k : Nat) : List Wh := (List.range k).map (fun i => ⟨t[2 * i]?.getD 0, t[2 * i + 1]?.getD 0⟩)
theorem pairK_len (t : List Int) (k : Nat) : (pairK t k).length = k := by simp [pairK]
theorem pairK_succ (t : List Int) (k : Nat) : pairK t (k + 1) = pairK t k ++ [⟨t[2 * k]?.getD 0, t[2 * k + 1]?.getD 0⟩] := by simp [pairK, List.range_succ]
def pairsOf (t : List Int) : List Wh := pairK t (t.length / 2)
/-- a train in a row of its own is returned -/
def RetP (w : World) (ps : List Wh) (e : Ending) (w' : World) : Prop := ∃ A c, e = .returned (.slice A ps.length c) ∧ OwnS w' w.heap.size 98 2 (.slice A ps.length c) (ps.map Wh.cells) ∧ Below w.heap.size w w'
theorem ownS_ge {w : World} {base : Nat} {E : TypeId} {k : Nat} {v : Value} {rows : List (List Value)} (h : OwnS w base E k v rows) : ∀ i, v.ownBlock = some i → base ≤ i := h.ge
set_option maxRecDepth 100000 in
set_option maxHeartbeats 8000000 in
theorem train_any (A : Option Addr) (n c : Nat) (t : List Int) (w : World) (hr : Rd w A n t) (hn : n ≤ 1000) :
  Calls Tryz.prog 63 #[.slice A n c] w (RetP w (pairsOf t)) := by
 have hlen := Lib.hid hr.len
 have hq : (n : Int).tdiv 2 = ((n / 2 : Nat) : Int) := rfl
 go_enter Tryz.func63, Tryz.ntmps63
 go_wp2_with fail
 clear hq
 obtain ⟨m, hm⟩ : ∃ m, n / 2 = m := ⟨_, rfl⟩
 have hdm : (n : Int) / 2 = (m : Int) := by omega
 have HM := Lib.hid hm
 rw [hdm]
 have hm2 : 2 * m ≤ n := by omega
 clear hm hdm
 go_loopw [3, 8] (fun v i wr => ∃ k : Nat, k ≤ m ∧ i = .int .i64 k ∧ OwnS wr w.heap.size 98 2 v ((pairK t k).map Wh.cells) ∧ Below w.heap.size w wr) (fun _ i _ => m - (intOf i).toNat)
 case atStart => exact ⟨0, Nat.zero_le _, rfl, OwnS.nil _ _ _ _, fr_refl _⟩
 case round =>
  obtain ⟨k, hk, rfl, hown, hbel⟩ := hrel
  by_cases hlt : k < m
  ·have hsz := hbel.size
   obtain ⟨ad, rfl, hab, hw1⟩ := hr.at_ (show 2 * k < n by omega)
   obtain ⟨ad', e, _, hw2⟩ := hr.at_ (show 2 * k + 1 < n by omega)
   cases e
   have hc1 := (hbel.cell (p := ad.add (2 * k)) (by rw [block_of_add]; exact hab)).trans hw1
   have hc2 := (hbel.cell (p := ad.add (2 * k + 1)) (by rw [block_of_add]; exact hab)).trans hw2
   obtain ⟨q, hq⟩ : ∃ q, 2 * k = q := ⟨_, rfl⟩
   have HQ := Lib.hid hq
   rw [hq] at hc1 hc2 hw1 hw2
   have hix : 2 * (k : Int) = (q : Int) := by omega
   have hq1 : (q : Int) + 1 = ((q + 1 : Nat) : Int) := by omega
   obtain ⟨q', hq'⟩ : ∃ q', q + 1 = q' := ⟨_, rfl⟩
   have HQ' := Lib.hid hq'
   rw [hq'] at hc2 hw2 hq1
   have i5 : q' < n := by omega
   have q0 : IntKind.i64.wrap (q : Int) = (q : Int) := IntWalk.i64_in _ (by omega)
   have q2 : IntKind.i64.wrap (q' : Int) = (q' : Int) := IntWalk.i64_in _ (by omega)
   have i1 : 0 ≤ (q : Int) := by omega
   have i2 : (q : Int) < (n : Int) := by omega
   have i3 : 0 ≤ (q' : Int) := by omega
   have i4 : (q' : Int) < (n : Int) := by omega
   have hps := pairK_succ t k
   rw [hq, hq'] at hps
   have HPS := Lib.hid hps
   generalize t[q]?.getD 0 = x at *
   generalize t[q']?.getD 0 = y at *
   have hbz := fr_drew (fr_refl wr)
   have hownz := hown.keep hbz
   have HW1 := Lib.hid hw1
   have HW2 := Lib.hid hw2
   clear hq hq' hr hps hw1 hw2
   go_wp2_with fail
   refine wp_region_noPanic ?_
   refine wp_region_held_drew (S := fun W => W.cell? (ad.add q) = some (.int .i64 x) ∧ W.cell? (ad.add q') = some (.int .i64 y)) (by kernel_rfl) ⟨hc1, hc2⟩ (fun hHeld => ?_)
   generalize wr.drew = wz at hbz hHeld hownz ⊢
   -- the region, step by step, in whatever order
   refine wpAnyH_take (i := 0) (oi := ⟨some 11, .move (.tmp 3), 26, "guess.go:117", #[], none⟩) (v := ?_) rfl (by kernel_rfl) (by kernel_rfl) (by kernel_rfl) (fun _ _ _ h => h) (Or.inl ⟨by rfl, fun W hSw => ?_⟩) hHeld ?_
   rotate_left
   ·(try dsimp only at hSw); go_simp; (try with_reducible rfl)
   (try simp only [Act.put, List.setIfInBounds_toArray, List.set_cons_zero, List.set_cons_succ])
   refine wpAnyH_take (i := 1) (oi := ⟨some 12, .move (.tmp 0), 96, "guess.go:117", #[], none⟩) (v := ?_) rfl (by kernel_rfl) (by kernel_rfl) (by kernel_rfl) (fun _ _ _ h => h) (Or.inl ⟨by rfl, fun W hSw => ?_⟩) hHeld ?_
   rotate_left
   ·(try dsimp only at hSw); go_simp; (try with_reducible rfl)
   (try simp only [Act.put, List.setIfInBounds_toArray, List.set_cons_zero, List.set_cons_succ])
   refine wpAnyH_take (i := 2) (oi := ⟨some 13, .move (.tmp 4), 3, "guess.go:117", #[], none⟩) (v := ?_) rfl (by kernel_rfl) (by kernel_rfl) (by kernel_rfl) (fun _ _ _ h => h) (Or.inl ⟨by rfl, fun W hSw => ?_⟩) hHeld ?_
   rotate_left
   ·(try dsimp only at hSw); go_simp; (try with_reducible rfl)
   (try simp only [Act.put, List.setIfInBounds_toArray, List.set_cons_zero, List.set_cons_succ])
   refine wpAnyH_take (i := 3) (oi := ⟨some 14, .binOp .mul 3 (.const (.int .i64 2)) (.tmp 13) 3, 3, "guess.go:117", #[⟨2, .data⟩], none⟩) (v := ?_) rfl (by kernel_rfl) (by kernel_rfl) (by kernel_rfl) (fun _ _ _ h => h) (Or.inl ⟨by rfl, fun W hSw => ?_⟩) hHeld ?_
   rotate_left
   ·(try dsimp only at hSw); go_simp; (try with_reducible rfl)
   (try simp only [Act.put, List.setIfInBounds_toArray, List.set_cons_zero, List.set_cons_succ])
   refine wpAnyH_take (i := 4) (oi := ⟨some 15, .indexAddr 96 (.tmp 12) (.tmp 14), 0, "guess.go:117", #[⟨1, .data⟩, ⟨3, .data⟩], none⟩) (v := ?_) rfl (by kernel_rfl) (by kernel_rfl) (by kernel_rfl) (fun _ _ _ h => h) (Or.inl ⟨by rfl, fun W hSw => ?_⟩) hHeld ?_
   rotate_left
   ·(try dsimp only at hSw); go_simp; (try with_reducible rfl)
   (try simp only [Act.put, List.setIfInBounds_toArray, List.set_cons_zero, List.set_cons_succ])
   refine wpAnyH_take (i := 5) (oi := ⟨some 16, .load 3 (.tmp 15), 3, "guess.go:117", #[⟨4, .data⟩], none⟩) (v := ?_) rfl (by kernel_rfl) (by kernel_rfl) (by kernel_rfl) (fun _ _ _ h => h) (Or.inl ⟨by rfl, fun W hSw => ?_⟩) hHeld ?_
   rotate_left
   ·(try dsimp only at hSw); go_simp; (try with_reducible rfl)
   (try simp only [Act.put, List.setIfInBounds_toArray, List.set_cons_zero, List.set_cons_succ])
   refine wpAnyH_take (i := 6) (oi := ⟨some 17, .move (.tmp 0), 96, "guess.go:117", #[], none⟩) (v := ?_) rfl (by kernel_rfl) (by kernel_rfl) (by kernel_rfl) (fun _ _ _ h => h) (Or.inl ⟨by rfl, fun W hSw => ?_⟩) hHeld ?_
   rotate_left
   ·(try dsimp only at hSw); go_simp; (try with_reducible rfl)
   (try simp only [Act.put, List.setIfInBounds_toArray, List.set_cons_zero, List.set_cons_succ])
   refine wpAnyH_take (i := 7) (oi := ⟨some 18, .move (.tmp 4), 3, "guess.go:117", #[], none⟩) (v := ?_) rfl (by kernel_rfl) (by kernel_rfl) (by kernel_rfl) (fun _ _ _ h => h) (Or.inl ⟨by rfl, fun W hSw => ?_⟩) hHeld ?_
   rotate_left
   ·(try dsimp only at hSw); go_simp; (try with_reducible rfl)
   (try simp only [Act.put, List.setIfInBounds_toArray, List.set_cons_zero, List.set_cons_succ])
   refine wpAnyH_take (i := 8) (oi := ⟨some 19, .binOp .mul 3 (.const (.int .i64 2)) (.tmp 18) 3, 3, "guess.go:117", #[⟨7, .data⟩], none⟩) (v := ?_) rfl (by kernel_rfl) (by kernel_rfl) (by kernel_rfl) (fun _ _ _ h => h) (Or.inl ⟨by rfl, fun W hSw => ?_⟩) hHeld ?_
   rotate_left
   ·(try dsimp only at hSw); go_simp; (try with_reducible rfl)
   (try simp only [Act.put, List.setIfInBounds_toArray, List.set_cons_zero, List.set_cons_succ])
   refine wpAnyH_take (i := 9) (oi := ⟨some 20, .binOp .add 3 (.tmp 19) (.const (.int .i64 1)) 3, 3, "guess.go:117", #[⟨8, .data⟩], none⟩) (v := ?_) rfl (by kernel_rfl) (by kernel_rfl) (by kernel_rfl) (fun _ _ _ h => h) (Or.inl ⟨by rfl, fun W hSw => ?_⟩) hHeld ?_
   rotate_left
   ·(try dsimp only at hSw); go_simp; (try with_reducible rfl)
   (try simp only [Act.put, List.setIfInBounds_toArray, List.set_cons_zero, List.set_cons_succ])
   refine wpAnyH_take (i := 10) (oi := ⟨some 21, .indexAddr 96 (.tmp 17) (.tmp 20), 0, "guess.go:117", #[⟨6, .data⟩, ⟨9, .data⟩], none⟩) (v := ?_) rfl (by kernel_rfl) (by kernel_rfl) (by kernel_rfl) (fun _ _ _ h => h) (Or.inl ⟨by rfl, fun W hSw => ?_⟩) hHeld ?_
   rotate_left
   ·(try dsimp only at hSw); go_simp; (try with_reducible rfl)
   (try simp only [Act.put, List.setIfInBounds_toArray, List.set_cons_zero, List.set_cons_succ])
   refine wpAnyH_take (i := 11) (oi := ⟨some 22, .load 3 (.tmp 21), 3, "guess.go:117", #[⟨10, .data⟩], none⟩) (v := ?_) rfl (by kernel_rfl) (by kernel_rfl) (by kernel_rfl) (fun _ _ _ h => h) (Or.inl ⟨by rfl, fun W hSw => ?_⟩) hHeld ?_
   rotate_left
   ·(try dsimp only at hSw); go_simp; (try with_reducible rfl)
   (try simp only [Act.put, List.setIfInBounds_toArray, List.set_cons_zero, List.set_cons_succ])
   refine wpAnyH_take (i := 12) (oi := ⟨some 23, .build 98 #[(0, .tmp 16), (1, .tmp 22)], 98, "guess.go:117", #[⟨5, .data⟩, ⟨11, .data⟩], none⟩) (v := ?_) rfl (by kernel_rfl) (by kernel_rfl) (by kernel_rfl) (fun _ _ _ h => h) (Or.inl ⟨by rfl, fun W hSw => ?_⟩) hHeld ?_
   rotate_left
   ·(try dsimp only at hSw); go_simp; (try with_reducible rfl)
   (try simp only [Act.put, List.setIfInBounds_toArray, List.set_cons_zero, List.set_cons_succ])
   refine wpAnyH_ready (rs := [13]) (by kernel_rfl) (by simp) ?_
   refine (AllReadyH.cons (o := ⟨some 24, .buildSlice 26 1 #[(0, .tmp 23)], 26, "guess.go:117", #[⟨12, .data⟩], none⟩) rfl (fun K hK => ?_) AllReadyH.nil)
   rw [if_pos (by rfl)]
   refine wp_build_pair rfl rfl ?_
   intro g wz hgz hG hb1
   replace hbz := fr_call hbz hb1
   replace hownz := hownz.keep hb1
   refine hK.out _ _ (⟨(hbz.cell (p := ad.add q) (by rw [block_of_add]; omega)).trans hc1, (hbz.cell (p := ad.add q') (by rw [block_of_add]; omega)).trans hc2⟩) (fun hHeld => ?_)
   clear hK K
   (try simp only [Act.put, List.setIfInBounds_toArray, List.set_cons_zero, List.set_cons_succ])
   refine wpAnyH_ready (rs := [14]) (by kernel_rfl) (by simp) ?_
   refine (AllReadyH.cons (o := ⟨some 25, .call { callee := .builtin .append, args := #[.tmp 11, .tmp 24], argTypes := #[26, 26] }, 26, "guess.go:117", #[⟨0, .data⟩, ⟨13, .data⟩], none⟩) rfl (fun K hK => ?_) AllReadyH.nil)
   rw [if_pos (by rfl)]
   refine wp_app_row (.tmp 11) (.tmp 24) rfl Tryz.underlying26 info_pair rfl (by omega) (by omega) w.heap.size _ ((pairK t k).map Wh.cells) rfl hownz g rfl (r := Wh.cells ⟨x, y⟩) hG rfl (by intro u hu; simp only [Wh.cells, List.mem_cons, List.not_mem_nil, or_false] at hu; rcases hu with rfl | rfl <;> rfl) (by rw [List.length_map, pairK_len]; omega) (by have := hbz.size; omega) ?_
   intro A1 c1 wz hown1 hgr
   rw [List.length_map, pairK_len] at hown1 ⊢
   have hbf : Below w.heap.size w wz := (fr_call hbel hbz).grown hgr (by have := hbz.size; omega) hownz.ge
   refine hK.out _ _ (⟨(hbf.cell (p := ad.add q) (by rw [block_of_add]; exact hab)).trans HW1.out, (hbf.cell (p := ad.add q') (by rw [block_of_add]; exact hab)).trans HW2.out⟩) (fun hHeld => ?_)
   clear hK K
   (try simp only [Act.put, List.setIfInBounds_toArray, List.set_cons_zero, List.set_cons_succ])
   refine wpAnyH_take (i := 15) (oi := ⟨some 3, .assign (.tmp 25), 26, "guess.go:117", #[⟨14, .data⟩, ⟨14, .chain⟩, ⟨0, .phase⟩, ⟨1, .phase⟩, ⟨2, .phase⟩, ⟨3, .phase⟩, ⟨4, .phase⟩, ⟨5, .phase⟩, ⟨6, .phase⟩, ⟨7, .phase⟩, ⟨8, .phase⟩, ⟨9, .phase⟩, ⟨10, .phase⟩, ⟨11, .phase⟩, ⟨12, .phase⟩, ⟨13, .phase⟩, ⟨14, .phase⟩], none⟩) (v := ?_) rfl (by kernel_rfl) (by kernel_rfl) (by kernel_rfl) (fun _ _ _ h => h) (Or.inl ⟨by rfl, fun W hSw => ?_⟩) hHeld ?_
   rotate_left
   ·(try dsimp only at hSw); go_simp; (try with_reducible rfl)
   (try simp only [Act.put, List.setIfInBounds_toArray, List.set_cons_zero, List.set_cons_succ])
   refine wpAnyH_done (by kernel_rfl) ?_ _
   refine NoPanic.normal ?_
   go_wp2_with fail
   go_roundw
   case rel => exact ⟨k + 1, hlt, by go_num, by rw [HPS.out, List.map_append]; exact hown1, hbf⟩
   case measure => simp [intOf]; omega
  ·obtain rfl : k = m := by omega
   obtain ⟨A1, c1, rfl⟩ := hown.form
   have hps : pairsOf t = pairK t k := by unfold pairsOf; rw [hlen.out, HM.out]
   have HPS := Lib.hid hps
   clear hps
   go_wp2_with fail
   go_ret
   rw [HPS.out]
   rw [List.length_map] at hown ⊢
   exact ⟨A1, c1, rfl, hown, hbel⟩
end Go.Proofs.YtfgghicdkcjdgaaGreatDoor
end
