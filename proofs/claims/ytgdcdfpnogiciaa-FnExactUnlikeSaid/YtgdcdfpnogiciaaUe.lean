/-
  The program's Unlike: two maps of pages, two loops over them, the ids sorted.
-/
import Derived.Test.YtgdcdfpnogiciaaUd
import Derived.Maps.RangeWalk
import Derived.Deep.RegionHeld3
namespace Go.Proofs.Ytgdcdfpnogiciaa
open Go.RowKit Go.Maps Go.ChangeMaps Go.MapKept
set_option linter.unusedVariables false
set_option linter.unusedSimpArgs false

theorem ranges_same {H : Type} {P : Program} {k : TypeId} {R : Value → Option (DataW H × List MemPlace)} {w w' : World} {b r n : Nat} {D : DataW H} {left : Lit → Bool} {cnt : Nat} (h : w.ranges P k R b r n D left cnt) (h1 : w'.heap[b]? = w.heap[b]?) (h2 : w'.heap[r]? = w.heap[r]?) : w'.ranges P k R b r n D left cnt := by
  obtain ⟨es, clock, since, seen, c0, hb, F, hs, hD, hr, rest⟩ := h
  exact ⟨es, clock, since, seen, c0, h1.trans hb, F, hs, hD, h2.trans hr, rest⟩
theorem owns_size {H : Type} {P : Program} {k : TypeId} {R : Value → Option (DataW H × List MemPlace)} {w : World} {b n : Nat} {D : DataW H} (h : w.ownsMap P k R b n D) : Maps.size D ≤ n := by
  obtain ⟨es, clock, hb, F, hs, rfl⟩ := h
  have : Maps.size (DataW.map ((es.toList.map (Go.WideElems.rg P k R)).foldr DataW.insert [])) = es.size := by simp [Maps.size, length_sorted]
  omega
def VFits (L : List Value) (F : Int → Option Value) (D : DataW Unit) : Prop := ∀ i : Int, I64 i → has D (.int .i64 i) = (F i).isSome ∧ ∀ v, F i = some v → ∃ g : Nat, L[g]? = some v ∧ ∀ z, D.atKey (.int .i64 i) z = .lit (.int .i64 (g : Int))
theorem VMap.fits {P : Program} {k : TypeId} {w : World} {b n : Nat} {L : List Value} {F : Int → Option Value} (h : VMap P k w b n L F) : ∃ D : DataW Unit, w.ownsMap P k (RV L) b n D ∧ VFits L F D := h
theorem VFits.got {L : List Value} {F : Int → Option Value} {D : DataW Unit} (h : VFits L F D) {x : Int} (hi : I64 x) {v : Value} {y : DataW Unit × List MemPlace} (hv : RV L v = some y) (hat : ∀ zd, D.atKey (.int .i64 x) zd = y.1) : F x = some v := by
  obtain ⟨h1, h2⟩ := h x hi
  obtain ⟨g, hg, rfl⟩ := rv_inv hv
  cases q : F x with
  | none =>
    rw [q] at h1
    have a := hat (.lit (.bool true))
    rw [atKey_of_not_has h1] at a
    simp at a
  | some u =>
    obtain ⟨g', hg', ha⟩ := h2 u q
    have e := (ha (.lit (.bool true))).symm.trans (hat _)
    simp only [DataW.lit.injEq, Lit.int.injEq, true_and] at e
    have : g' = g := by omega
    rw [this, hg] at hg'
    exact hg'.symm
def strike (left : Lit → Bool) (x : Int) : Lit → Bool := fun z => left z && !z.sameKey (.int .i64 x)
theorem strike_int (left : Lit → Bool) (x y : Int) : strike left x (.int .i64 y) = (left (.int .i64 y) && !decide (y = x)) := by
  by_cases h : y = x <;> simp [strike, Lit.sameKey, h]
section
variable (S T : List TSlot)
def CollA (left : Lit → Bool) (O : List Int) : Prop := O.Nodup ∧ ∀ x, x ∈ O ↔ (I64 x ∧ (pgF S x).isSome = true ∧ pgF S x ≠ pgF T x ∧ left (.int .i64 x) = false)
def CollB (left : Lit → Bool) (O : List Int) : Prop := O.Nodup ∧ ∀ x, x ∈ O ↔ ((I64 x ∧ (pgF S x).isSome = true ∧ pgF S x ≠ pgF T x) ∨ (I64 x ∧ pgF S x = none ∧ (pgF T x).isSome = true ∧ left (.int .i64 x) = false))
variable {S T}
theorem collA_start {D : DataW Unit} (h : ∀ x, I64 x → has D (.int .i64 x) = (pgF S x).isSome) : CollA S T (has D) [] := ⟨List.nodup_nil, fun x => by
  constructor
  · intro hx; simp at hx
  · rintro ⟨h1, h2, _, h4⟩; rw [h x h1, h2] at h4; cases h4⟩
theorem collA_skip {left : Lit → Bool} {O : List Int} {x : Int} (h : CollA S T left O) (he : pgF S x = pgF T x) : CollA S T (strike left x) O := ⟨h.1, fun y => by
  rw [h.2 y, strike_int]
  by_cases e : y = x
  · subst e; simp [he]
  · simp [e]⟩
theorem nodup_snoc {O : List Int} {x : Int} (h : O.Nodup) (hx : x ∉ O) : (O ++ [x]).Nodup := by
  rw [List.nodup_append]
  exact ⟨h, by simp, fun a ha b hb => by simp at hb; subst hb; exact fun e => hx (e ▸ ha)⟩
theorem collA_add {left : Lit → Bool} {O : List Int} {x : Int} (h : CollA S T left O) (hl : left (.int .i64 x) = true) (hi : I64 x) (hs : (pgF S x).isSome = true) (hd : pgF S x ≠ pgF T x) : CollA S T (strike left x) (O ++ [x]) := by
  refine ⟨nodup_snoc h.1 fun hm => ?_, fun y => ?_⟩
  · have := ((h.2 x).1 hm).2.2.2; rw [hl] at this; cases this
  · rw [List.mem_append, h.2 y, strike_int]
    by_cases e : y = x
    · subst e; simp [hs, hd]; exact hi
    · simp [e]
theorem collA_end {left : Lit → Bool} {O : List Int} (h : CollA S T left O) (hl : ∀ kl, left kl = false) {D : DataW Unit} (hD : ∀ x, I64 x → has D (.int .i64 x) = (pgF T x).isSome) : CollB S T (has D) O := ⟨h.1, fun y => by
  rw [h.2 y]
  constructor
  · rintro ⟨h1, h2, h3, _⟩; exact .inl ⟨h1, h2, h3⟩
  · rintro (⟨h1, h2, h3⟩ | ⟨h1, _, h3, h4⟩)
    · exact ⟨h1, h2, h3, hl _⟩
    · rw [hD y h1, h3] at h4; cases h4⟩
theorem collB_skip {left : Lit → Bool} {O : List Int} {x : Int} (h : CollB S T left O) (he : (pgF S x).isSome = true) : CollB S T (strike left x) O := ⟨h.1, fun y => by
  rw [h.2 y, strike_int]
  by_cases e : y = x
  · subst e
    have : pgF S y ≠ none := fun e => by rw [e] at he; cases he
    simp [this]
  · simp [e]⟩
theorem collB_add {left : Lit → Bool} {O : List Int} {x : Int} (h : CollB S T left O) (hl : left (.int .i64 x) = true) (hi : I64 x) (hs : pgF S x = none) (ht : (pgF T x).isSome = true) : CollB S T (strike left x) (O ++ [x]) := by
  refine ⟨nodup_snoc h.1 fun hm => ?_, fun y => ?_⟩
  · rcases (h.2 x).1 hm with ⟨_, h2, _⟩ | ⟨_, _, _, h4⟩
    · rw [hs] at h2; cases h2
    · rw [hl] at h4; cases h4
  · rw [List.mem_append, h.2 y, strike_int]
    by_cases e : y = x
    · subst e; simp [hs, ht]; exact hi
    · simp [e]
theorem collB_end {left : Lit → Bool} {O : List Int} (h : CollB S T left O) (hl : ∀ kl, left kl = false) (hi : ∀ x p, (pgF S x = some p ∨ pgF T x = some p) → I64 x) (x : Int) : x ∈ O ↔ pgF S x ≠ pgF T x := by
  rw [h.2 x]
  constructor
  · rintro (⟨_, _, h3⟩ | ⟨_, h2, h3, _⟩)
    · exact h3
    · rw [h2]; intro e; rw [← e] at h3; cases h3
  · intro hd
    cases hs : pgF S x with
    | some p => exact .inl ⟨hi x p (.inl hs), rfl, by rw [← hs]; exact hd⟩
    | none =>
      cases ht : pgF T x with
      | some p => exact .inr ⟨hi x p (.inr ht), rfl, rfl, hl _⟩
      | none => rw [hs, ht] at hd; exact absurd rfl hd
end
theorem SlotsIn.up {w W : World} {A : Option Addr} {S : List TSlot} {f : PF} (h : SlotsIn w w.heap.size A S f) (u : Up w W) : SlotsIn W W.heap.size A S f := ⟨h.1, fun j hj => by
  obtain ⟨g, off, e, hg, q0, q1, q2, q3, q4, bi, hr⟩ := h.2 j hj
  have qq : ∀ o v, w.cell? ⟨g, o, none⟩ = some v → W.cell? ⟨g, o, none⟩ = some v := fun o v hv => (u.cell (p := ⟨g, o, none⟩) hg).trans hv
  have hz := u.size
  exact ⟨g, off, e, by omega, qq _ _ q0, qq _ _ q1, qq _ _ q2, qq _ _ q3, qq _ _ q4, bi, good_Page.wide (good_Page.keep hr (fun b _ hb => u.block b hb)) (Nat.le_refl _) hz⟩⟩
theorem VF_some {S : List TSlot} {f : PF} {x : Int} {v : Value} (h : VF S f (cameN S.length S.length) x = some v) : ∃ i, ∃ hi : i < S.length, v = pageTo S f i ∧ pgF S x = some S[i].2 := by
  rcases VF_all S f x with ⟨h1, _⟩ | ⟨i, hi, h1, h2⟩
  · rw [h1] at h; cases h
  · rw [h1] at h; cases h; exact ⟨i, hi, rfl, h2⟩
theorem VF_none {S : List TSlot} {f : PF} {x : Int} (h : VF S f (cameN S.length S.length) x = none) : pgF S x = none := by
  rcases VF_all S f x with ⟨_, h1⟩ | ⟨i, hi, h1, h2⟩
  · exact h1
  · rw [h1] at h; cases h
theorem VF_isSome (S : List TSlot) (f : PF) (x : Int) : (VF S f (cameN S.length S.length) x).isSome = (pgF S x).isSome := by
  rcases VF_all S f x with ⟨h1, h2⟩ | ⟨i, hi, h1, h2⟩ <;> rw [h1, h2] <;> rfl
theorem pgF_I64 {w : World} {n₁ : Nat} {A : Option Addr} {S : List TSlot} {f : PF} (h : SlotsIn w n₁ A S f) {x : Int} {p : TPage} (hp : pgF S x = some p) : I64 x := by
  obtain ⟨i, hi, e, _⟩ := pgF_some hp
  have := sAt_I64 h i
  rw [sAt_at hi, e] at this
  exact this
theorem pageVals_inv {S : List TSlot} {f : PF} (hf : ∀ j, S.length ≤ j → f j = ((none, 0), (none, 0), (none, 0))) {v : Value} (h : v ∈ pageVals S f) : ∃ c, v = pageTo S f c := by
  rcases List.mem_cons.1 h with e | h
  · refine ⟨S.length, ?_⟩
    have e2 : sAt S S.length = (0, false, [], [], []) := by simp [sAt]
    rw [e]
    simp only [pageTo, e2, hf S.length (Nat.le_refl _)]
    rfl
  · obtain ⟨j, _, rfl⟩ := List.mem_map.1 h
    exact ⟨j, rfl⟩
theorem zero_pageV (w : World) : (zeroValue 61).run Try.prog w = .ok (.agg #[.bool false, .slice none 0 0, .slice none 0 0, .slice none 0 0]) w := by kernel_rfl
theorem pageVals_head (S : List TSlot) (f : PF) : ∃ L', pageVals S f = .agg #[.bool false, .slice none 0 0, .slice none 0 0, .slice none 0 0] :: L' := ⟨_, rfl⟩
theorem wf_i64 {i : Int} (h : (Lit.int .i64 i).wf = true) : I64 i := by
  simp only [Lit.wf, Bool.and_eq_true, decide_eq_true_eq] at h
  exact ⟨h.1, h.2⟩
/-- Where a loop over a map stands. -/
structure LR (w : World) (b r n : Nat) (D : DataW Unit) (L : List Value) (b2 n2 : Nat) (L2 : List Value) (F2 : Int → Option Value) (left : Lit → Bool) (cnt : Nat) (O : List Int) (A : Option Addr) (d : Nat) (bl : List Nat) (wr : World) : Prop where
  rg : wr.ranges Try.prog 2 (RV L) b r n D left cnt
  ot : VMap Try.prog 2 wr b2 n2 L2 F2
  so : SO shI wr w.heap.size wr.heap.size A d O bl
  nd : bl.Nodup
  bk : ∀ y ∈ bl, y ≠ b ∧ y ≠ b2 ∧ y ≠ r
  lo : w.heap.size ≤ r
  up : Up w wr
section
variable {w wr : World} {b r n : Nat} {D : DataW Unit} {L : List Value} {b2 n2 : Nat} {L2 : List Value} {F2 : Int → Option Value} {left : Lit → Bool} {cnt : Nat} {O : List Int} {A : Option Addr} {d : Nat} {bl : List Nat}
theorem LR.ups {w' : World} (h : LR w b r n D L b2 n2 L2 F2 left cnt O A d bl wr) (u : Up wr w') : LR w b r n D L b2 n2 L2 F2 left cnt O A d bl w' :=
  ⟨ranges_same h.rg (u.block _ h.rg.owns.lt) (u.block _ h.rg.lt), h.ot.up u, h.so.up good_I u, h.nd, h.bk, h.lo, h.up.trans u⟩
theorem VMap.ne_iter (h : VMap Try.prog 2 wr b2 n2 L2 F2) (k : wr.ranges Try.prog 2 (RV L) b r n D left cnt) : b2 ≠ r := by
  obtain ⟨D', ⟨es, clock, hb, _⟩, _⟩ := h
  obtain ⟨_, _, _, _, _, _, _, _, _, hr, _⟩ := k
  rintro rfl
  rw [hb] at hr
  cases hr
theorem LR.next {w' : World} {left' : Lit → Bool} {cnt' : Nat} (h : LR w b r n D L b2 n2 L2 F2 left cnt O A d bl wr) (hrg : w'.ranges Try.prog 2 (RV L) b r n D left' cnt') (hg : wr.grownBy w' (some r)) : LR w b r n D L b2 n2 L2 F2 left' cnt' O A d bl w' := by
  have h2 := h.ot.ne_iter h.rg
  refine ⟨hrg, h.ot.same (hg.block b2 h.ot.lt (fun e => h2 (Option.some.inj e))), ?_, h.nd, h.bk, h.lo, ⟨hg.os.trans h.up.os, hg.tape.trans h.up.tape, hg.output.trans h.up.output, Nat.le_trans h.up.size hg.size, fun i hi => ?_⟩⟩
  · exact (h.so.keep good_I (fun y hy => hg.block y (h.so.in_ good_I y hy).2 (fun e => (h.bk y hy).2.2 (Option.some.inj e)))).wide good_I (Nat.le_refl _) hg.size
  · have := h.lo
    exact (hg.block i (by have := h.up.size; omega) (fun e => by have := Option.some.inj e; omega)).trans (h.up.block i hi)
theorem LR.app {w' : World} {O' : List Int} {A' : Option Addr} {d' : Nat} {bl' : List Nat} (h : LR w b r n D L b2 n2 L2 F2 left cnt O A d bl wr) (so : SO shI w' w.heap.size w'.heap.size A' d' O' bl') (nd : bl'.Nodup) (hm : ∀ y ∈ bl', y ∈ bl ∨ wr.heap.size ≤ y) (on : Only bl wr w') : LR w b r n D L b2 n2 L2 F2 left cnt O' A' d' bl' w' := by
  have l1 := h.rg.owns.lt
  have l2 := h.ot.lt
  have l3 := h.rg.lt
  refine ⟨ranges_same h.rg (on.block _ l1 (fun hm => (h.bk _ hm).1 rfl)) (on.block _ l3 (fun hm => (h.bk _ hm).2.2 rfl)), h.ot.same (on.block _ l2 (fun hm => (h.bk _ hm).2.1 rfl)), so, nd, fun y hy => ?_, h.lo, h.up.only on (fun y hy => (h.so.in_ good_I y hy).1)⟩
  rcases hm y hy with hy | hy
  · exact h.bk y hy
  · exact ⟨by omega, by omega, by omega⟩
end
end Go.Proofs.Ytgdcdfpnogiciaa
