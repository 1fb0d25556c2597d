/-
  Pages by their ids, by value: the map that firstSlots makes.
-/
import Derived.Test.YtgdcdfpnogiciaaUa
import Derived.Test.YtgdcdfpnogiciaaRows
import Derived.Test.YtgdcdfpnogiciaaBm
import Derived.Test.YtgdcdfpnogiciaaMid
import Derived.RangeFuncNested
import Derived.RangeFuncBound
import Derived.RangeFuncCalls
import Derived.RangeFuncLeaves
import Derived.Shelf.Abstract
import Derived.Shelf.RegionOpen
import Derived.WalkKit
import Derived.OwnWalkIn
import Derived.TacticsInMore
import Derived.LoopNIn
import Derived.LoopIn
namespace Go.Proofs.Ytgdcdfpnogiciaa
open Go.RowKit Go.Shelf Go.Maps Go.ChangeMaps Go.MapKept
attribute [local go_sem] Oper.semAt_some
set_option linter.unusedVariables false
set_option linter.unusedSimpArgs false

/-! ### A map whose elements are values of a list -/
open Classical in
/-- How a value of the list L reads here: its first place in L. -/
noncomputable def RV (L : List Value) (v : Value) : Option (DataW Unit × List MemPlace) := (L.findIdx? (fun u => decide (u = v))).map (fun (i : Nat) => ((DataW.lit (.int .i64 (i : Int)) : DataW Unit), ([] : List MemPlace)))
theorem rv_inv {L : List Value} {v : Value} {y : DataW Unit × List MemPlace} (h : RV L v = some y) : ∃ g : Nat, L[g]? = some v ∧ y = (.lit (.int .i64 (g : Int)), []) := by
  unfold RV at h
  obtain ⟨g, hg, rfl⟩ := Option.map_eq_some_iff.1 h
  obtain ⟨h1, h2, _⟩ := List.findIdx?_eq_some_iff_getElem.1 hg
  exact ⟨g, by rw [List.getElem?_eq_getElem h1]; simpa using h2, rfl⟩
theorem rv_at {L : List Value} {v : Value} {g : Nat} {ps : List MemPlace} (h : RV L v = some (.lit (.int .i64 (g : Int)), ps)) : L[g]? = some v := by
  obtain ⟨g', h1, h2⟩ := rv_inv h
  simp only [Prod.mk.injEq, DataW.lit.injEq, Lit.int.injEq, true_and] at h2
  have : g = g' := by omega
  rw [this]; exact h1
open Classical in
theorem rv_mem {L : List Value} {v : Value} (h : v ∈ L) : ∃ g : Nat, RV L v = some (.lit (.int .i64 (g : Int)), []) ∧ L[g]? = some v := by
  cases hf : L.findIdx? (fun u => decide (u = v)) with
  | none =>
    have := List.findIdx?_eq_none_iff.1 hf v h
    simp at this
  | some g =>
    have e : RV L v = some (.lit (.int .i64 (g : Int)), []) := by unfold RV; rw [hf]; rfl
    exact ⟨g, e, rv_at e⟩
theorem rv_head (z : Value) (L : List Value) : RV (z :: L) z = some (.lit (.int .i64 0), []) := by
  unfold RV
  rw [List.findIdx?_cons]
  simp
def VMap (P : Program) (k : TypeId) (w : World) (b n : Nat) (L : List Value) (F : Int → Option Value) : Prop :=
  ∃ D : DataW Unit, w.ownsMap P k (RV L) b n D ∧ ∀ i : Int, I64 i → has D (.int .i64 i) = (F i).isSome ∧ ∀ v, F i = some v → ∃ g : Nat, L[g]? = some v ∧ ∀ z, D.atKey (.int .i64 i) z = .lit (.int .i64 (g : Int))
section
variable {P : Program} {k e : TypeId} {w w' : World} {b n : Nat} {L : List Value} {F : Int → Option Value}
theorem VMap.made (w : World) : VMap P k (w.alloc (.map #[] 0)) w.heap.size 0 L (fun _ => none) :=
  ⟨.map [], World.ownsMap_made w P k _, fun i _ => ⟨rfl, fun v hv => by cases hv⟩⟩
theorem VMap.lt (h : VMap P k w b n L F) : b < w.heap.size := by obtain ⟨D, h, _⟩ := h; exact h.lt
theorem VMap.same (h : VMap P k w b n L F) (hk : w'.heap[b]? = w.heap[b]?) : VMap P k w' b n L F := by
  obtain ⟨D, ⟨es, clock, hb, F, hs, hD⟩, h2⟩ := h
  exact ⟨D, ⟨es, clock, hk.trans hb, F, hs, hD⟩, h2⟩
theorem VMap.up (h : VMap P k w b n L F) (u : Up w w') : VMap P k w' b n L F := h.same (u.block b h.lt)
theorem VMap.val {D : DataW Unit} {z : Value} (hL : L[0]? = some z) (hD : ∀ i : Int, I64 i → has D (.int .i64 i) = (F i).isSome ∧ ∀ v, F i = some v → ∃ g : Nat, L[g]? = some v ∧ ∀ z, D.atKey (.int .i64 i) z = .lit (.int .i64 (g : Int))) {i : Int} (hi : I64 i) {v : Value} {ps : List MemPlace} (hv : RV L v = some (D.atKey (.int .i64 i) (.lit (.int .i64 0)), ps)) : v = (F i).getD z := by
  obtain ⟨h1, h2⟩ := hD i hi
  cases q : F i with
  | none =>
    rw [q] at h1
    rw [atKey_of_not_has h1] at hv
    have := rv_at (g := 0) hv
    rw [hL] at this
    injection this with this
    exact this.symm
  | some u =>
    obtain ⟨g, hg, ha⟩ := h2 u q
    rw [ha] at hv
    have := rv_at hv
    rw [hg] at this
    injection this with this
    exact this.symm
theorem VMap.look_ok {t : TypeId} {z : Value} (h : VMap P k w b n L F) (hk : P.underlying k = some (.int .i64)) (ht : P.underlying t = some (.map k e)) (hz : (zeroValue e).run P w = .ok z w) (hL : ∃ L', L = z :: L') {i : Int} (hi : I64 i) :
    (Instr.lookup t (.map (some b)) (.int .i64 i) true).run P w = .ok (.tuple #[(F i).getD z, .bool (F i).isSome]) w := by
  obtain ⟨L', rfl⟩ := hL
  obtain ⟨D, ho, hf⟩ := h
  obtain ⟨v, ps, hrun, hv⟩ := ho.look_ok (int_keyed hk) ht hz (rv_head z L') (keyOf_int_mk hk (i64_wf hi))
  rw [hrun, (hf i hi).1, VMap.val (z := z) rfl hf hi hv]
theorem VMap.put {t : TypeId} (h : VMap P k w b n L F) (hk : P.underlying k = some (.int .i64)) (ht : P.underlying t = some (.map k e)) (hn : n < maxLen) {i : Int} (hi : I64 i) {v : Value} (hv : v ∈ L) :
    ∃ w', (Instr.mapUpdate t (.map (some b)) (.int .i64 i) v).run P w = .ok () w' ∧ VMap P k w' b (n + 1) L (fun j => if j = i then some v else F j) ∧ But b w w' := by
  obtain ⟨D, ho, hf⟩ := h
  have hm := ho.isMap
  obtain ⟨g, hg, hgL⟩ := rv_mem hv
  obtain ⟨w', hrun, ho', hgr⟩ := ho.store (int_keyed hk) ht hn (keyOf_int_mk hk (i64_wf hi)) hg
  refine ⟨w', hrun, ⟨_, ho', fun j hj => ?_⟩, but_of_turned hgr⟩
  by_cases e : j = i
  · subst e
    dsimp only
    rw [if_pos rfl]
    refine ⟨has_put_same hm (by simp [WideAt.IsKeyLit]) _, fun v' hv' => ?_⟩
    cases hv'
    exact ⟨g, hgL, fun z => atKey_put_same hm (by simp [WideAt.IsKeyLit]) _ _⟩
  · dsimp only
    rw [if_neg e, has_put_other (by simpa using e)]
    refine ⟨(hf j hj).1, fun v' hv' => ?_⟩
    obtain ⟨g', h1, h2⟩ := (hf j hj).2 v' hv'
    exact ⟨g', h1, fun z => by rw [atKey_put_other (by simpa using e)]; exact h2 z⟩
end

/-! ### Where the pages of a row of slots lie -/
abbrev PF : Type := Nat → (Option Addr × Nat) × (Option Addr × Nat) × (Option Addr × Nat)
def sAt (S : List TSlot) (j : Nat) : TSlot := S[j]?.getD (0, false, [], [], [])
theorem sAt_at {S : List TSlot} {j : Nat} (h : j < S.length) : sAt S j = S[j] := by simp [sAt, h]
def pvC (S : List TSlot) (f : PF) (j : Nat) : List Value := [.bool (sAt S j).2.1, .slice (f j).1.1 (sAt S j).2.2.1.length (f j).1.2, .slice (f j).2.1.1 (sAt S j).2.2.2.1.length (f j).2.1.2, .slice (f j).2.2.1 (sAt S j).2.2.2.2.length (f j).2.2.2]
def pv (S : List TSlot) (f : PF) (j : Nat) : Value := .agg (pvC S f j).toArray
/-- Row A of w holds the slots of S, with their slices where f says, in blocks below n₁. -/
def SlotsIn (w : World) (n₁ : Nat) (A : Option Addr) (S : List TSlot) (f : PF) : Prop := (∀ j, S.length ≤ j → f j = ((none, 0), (none, 0), (none, 0))) ∧ ∀ j, j < S.length → ∃ g off : Nat, A = some ⟨g, off, none⟩ ∧ g < n₁ ∧
  w.cell? ⟨g, off + j * 5, none⟩ = some (.int .i64 (sAt S j).1) ∧ w.cell? ⟨g, off + j * 5 + 1, none⟩ = some (.bool (sAt S j).2.1) ∧ w.cell? ⟨g, off + j * 5 + 2, none⟩ = some (.slice (f j).1.1 (sAt S j).2.2.1.length (f j).1.2) ∧
  w.cell? ⟨g, off + j * 5 + 3, none⟩ = some (.slice (f j).2.1.1 (sAt S j).2.2.2.1.length (f j).2.1.2) ∧ w.cell? ⟨g, off + j * 5 + 4, none⟩ = some (.slice (f j).2.2.1 (sAt S j).2.2.2.2.length (f j).2.2.2) ∧ I64 (sAt S j).1 ∧ shPage.rep w 0 n₁ (pvC S f j) (sAt S j).2
theorem slotsIn_ex {w : World} {A : Option Addr} {c : Nat} {S : List TSlot} (h : SRW shSlot w A c S) : ∃ f, SlotsIn w w.heap.size A S f := by
  have h1 : ∀ j, ∃ q : (Option Addr × Nat) × (Option Addr × Nat) × (Option Addr × Nat), (S.length ≤ j → q = ((none, 0), (none, 0), (none, 0))) ∧ (j < S.length → ∃ g off : Nat, A = some ⟨g, off, none⟩ ∧ g < w.heap.size ∧
      w.cell? ⟨g, off + j * 5, none⟩ = some (.int .i64 (sAt S j).1) ∧ w.cell? ⟨g, off + j * 5 + 1, none⟩ = some (.bool (sAt S j).2.1) ∧ w.cell? ⟨g, off + j * 5 + 2, none⟩ = some (.slice q.1.1 (sAt S j).2.2.1.length q.1.2) ∧
      w.cell? ⟨g, off + j * 5 + 3, none⟩ = some (.slice q.2.1.1 (sAt S j).2.2.2.1.length q.2.1.2) ∧ w.cell? ⟨g, off + j * 5 + 4, none⟩ = some (.slice q.2.2.1 (sAt S j).2.2.2.2.length q.2.2.2) ∧ I64 (sAt S j).1 ∧
      shPage.rep w 0 w.heap.size [.bool (sAt S j).2.1, .slice q.1.1 (sAt S j).2.2.1.length q.1.2, .slice q.2.1.1 (sAt S j).2.2.2.1.length q.2.1.2, .slice q.2.2.1 (sAt S j).2.2.2.2.length q.2.2.2] (sAt S j).2) := by
    intro j
    by_cases hj : j < S.length
    · obtain ⟨g, off, A2, c2, A3, c3, A4, c4, hA, _, hg, hc0, hc1, hc2, hc3, hc4, bi, b2, b3, b4, _⟩ := atSlot h hj
      refine ⟨((A2, c2), (A3, c3), (A4, c4)), fun hh => absurd hj (by omega), fun _ => ⟨g, off, hA, hg, ?_⟩⟩
      rw [sAt_at hj]
      exact ⟨hc0, hc1, hc2, hc3, hc4, bi, mkPage (x := S[j].2) b2 b3 b4⟩
    · exact ⟨((none, 0), (none, 0), (none, 0)), fun _ => rfl, fun hh => absurd hh hj⟩
  exact ⟨fun j => Classical.choose (h1 j), fun j hj => (Classical.choose_spec (h1 j)).1 hj, fun j hj => (Classical.choose_spec (h1 j)).2 hj⟩
theorem SlotsIn.av {w : World} {n₁ : Nat} {A : Option Addr} {S : List TSlot} {f : PF} (h : SlotsIn w n₁ A S f) {w' : World} (hk : Keeps 0 n₁ w w') (hn : n₁ ≤ w'.heap.size) {j : Nat} (hj : j < S.length) : AV shPage w' (pv S f j) S[j].2 := by
  obtain ⟨_, _, _, _, _, _, _, _, _, _, hr⟩ := h.2 j hj
  rw [← sAt_at hj]
  exact ⟨_, rfl, good_Page.wide (good_Page.keep hr hk) (Nat.le_refl _) hn⟩
/-- The values that the map may hold. -/
def pageVals (S : List TSlot) (f : PF) : List Value := .agg #[.bool false, .slice none 0 0, .slice none 0 0, .slice none 0 0] :: (List.range S.length).map (pv S f)
theorem pv_mem {S : List TSlot} {f : PF} (hf : ∀ j, S.length ≤ j → f j = ((none, 0), (none, 0), (none, 0))) (j : Nat) : pv S f j ∈ pageVals S f := by
  unfold pageVals
  by_cases h : j < S.length
  · exact List.mem_cons_of_mem _ (List.mem_map.2 ⟨j, List.mem_range.2 h, rfl⟩)
  · have e : sAt S j = (0, false, [], [], []) := by simp [sAt, List.getElem?_eq_none (show S.length ≤ j by omega)]
    have : pv S f j = .agg #[.bool false, .slice none 0 0, .slice none 0 0, .slice none 0 0] := by
      unfold pv pvC
      rw [e, hf j (by omega)]
      rfl
    rw [this]
    exact List.mem_cons_self
theorem sAt_I64 {w : World} {n₁ : Nat} {A : Option Addr} {S : List TSlot} {f : PF} (h : SlotsIn w n₁ A S f) (j : Nat) : I64 (sAt S j).1 := by
  by_cases hj : j < S.length
  · obtain ⟨_, _, _, _, _, _, _, _, _, bi, _⟩ := h.2 j hj
    exact bi
  · have e : sAt S j = (0, false, [], [], []) := by simp [sAt, List.getElem?_eq_none (show S.length ≤ j by omega)]
    rw [e]
    exact ⟨by decide, by decide⟩
/-- Places in the order in which Backward hands them on. -/
def cameN (n k : Nat) : List Nat := (List.range k).map (fun j => n - 1 - j)
theorem cameN_succ (n k : Nat) : cameN n (k + 1) = cameN n k ++ [n - 1 - k] := by simp [cameN, List.range_succ]
theorem cameN_len (n k : Nat) : (cameN n k).length = k := by simp [cameN]
/-- What the map holds behind these places. -/
def VF (S : List TSlot) (f : PF) : List Nat → Int → Option Value
  | [], _ => none
  | j :: js, id => match VF S f js id with
    | some v => some v
    | none => if (sAt S j).1 = id then some (pv S f j) else none
theorem VF_snoc (S : List TSlot) (f : PF) (j : Nat) (id : Int) : ∀ js : List Nat, VF S f (js ++ [j]) id = if id = (sAt S j).1 then some (pv S f j) else VF S f js id
  | [] => by
    by_cases e : id = (sAt S j).1
    · rw [if_pos e]; simp [VF, e]
    · have e' : ¬ (sAt S j).1 = id := fun h => e h.symm
      rw [if_neg e]; simp [VF, e']
  | i :: js => by
    have ih := VF_snoc S f j id js
    by_cases e : id = (sAt S j).1
    · rw [if_pos e] at ih ⊢
      simp only [List.cons_append, VF, ih]
    · rw [if_neg e] at ih ⊢
      simp only [List.cons_append, VF, ih]
/-- Behind all places: the first slot's page. -/
theorem VF_came (S : List TSlot) (f : PF) (id : Int) : ∀ k, k ≤ S.length → (VF S f (cameN S.length k) id = none ∧ ∀ j, S.length - k ≤ j → j < S.length → (sAt S j).1 ≠ id) ∨
    ∃ i, S.length - k ≤ i ∧ i < S.length ∧ VF S f (cameN S.length k) id = some (pv S f i) ∧ (sAt S i).1 = id ∧ ∀ j, S.length - k ≤ j → j < i → (sAt S j).1 ≠ id
  | 0, _ => .inl ⟨rfl, fun j h1 h2 => absurd h2 (by omega)⟩
  | k + 1, hk => by
    rw [cameN_succ, VF_snoc]
    by_cases e : id = (sAt S (S.length - 1 - k)).1
    · rw [if_pos e]
      exact .inr ⟨S.length - 1 - k, by omega, by omega, rfl, e.symm, fun j h1 h2 => absurd h2 (by omega)⟩
    · rw [if_neg e]
      have e' : ∀ j, S.length - (k + 1) ≤ j → ¬ S.length - k ≤ j → (sAt S j).1 ≠ id := fun j h1 h2 h3 => by
        obtain rfl : j = S.length - 1 - k := by omega
        exact e h3.symm
      rcases VF_came S f id k (by omega) with ⟨h1, h2⟩ | ⟨i, h1, h2, h3, h4, h5⟩
      · refine .inl ⟨h1, fun j hj hl => ?_⟩
        by_cases hc : S.length - k ≤ j
        · exact h2 j hc hl
        · exact e' j hj hc
      · refine .inr ⟨i, by omega, h2, h3, h4, fun j hj hl => ?_⟩
        by_cases hc : S.length - k ≤ j
        · exact h5 j hc hl
        · exact e' j hj hc
theorem VF_all (S : List TSlot) (f : PF) (id : Int) : (VF S f (cameN S.length S.length) id = none ∧ pgF S id = none) ∨ ∃ i, ∃ h : i < S.length, VF S f (cameN S.length S.length) id = some (pv S f i) ∧ pgF S id = some S[i].2 := by
  rcases VF_came S f id S.length (Nat.le_refl _) with ⟨h1, h2⟩ | ⟨i, _, h2, h3, h4, h5⟩
  · refine .inl ⟨h1, pgF_no S id fun j hj => ?_⟩
    rw [← sAt_at hj]
    exact h2 j (by omega) hj
  · have hf : FirstAt S id i := ⟨h2, by rw [← sAt_at h2]; exact h4, fun j hj hji => by rw [← sAt_at hj]; exact h5 j (by omega) hji⟩
    obtain ⟨_, hp⟩ := pgF_first S id i hf
    exact .inr ⟨i, h2, h3, hp⟩

/-! ### Worlds in which, below n₀, one map alone has turned -/
structure MKeep (n₀ mb : Nat) (w w' : World) : Prop where
  os : w'.os = w.os
  tape : w'.tape = w.tape
  output : w'.output = w.output
  size : w.heap.size ≤ w'.heap.size
  block : ∀ i, i < n₀ → i ≠ mb → w'.heap[i]? = w.heap[i]?
theorem MKeep.refl (n₀ mb : Nat) (w : World) : MKeep n₀ mb w w := ⟨rfl, rfl, rfl, Nat.le_refl _, fun _ _ _ => rfl⟩
theorem MKeep.trans {n₀ mb : Nat} {a b c : World} (h : MKeep n₀ mb a b) (k : MKeep n₀ mb b c) : MKeep n₀ mb a c :=
  ⟨k.os.trans h.os, k.tape.trans h.tape, k.output.trans h.output, Nat.le_trans h.size k.size, fun i hi hn => (k.block i hi hn).trans (h.block i hi hn)⟩
theorem MKeep.below {n₀ mb : Nat} {a b : World} (h : Below n₀ a b) : MKeep n₀ mb a b := ⟨h.os, h.tape, h.output, h.size, fun i hi _ => h.block i hi⟩
theorem MKeep.but {n₀ mb : Nat} {a b : World} (h : But mb a b) : MKeep n₀ mb a b := ⟨h.os, h.tape, h.output, by rw [h.size]; exact Nat.le_refl _, fun i _ hn => h.block i hn⟩
theorem MKeep.cell {n₀ mb : Nat} {a b : World} (h : MKeep n₀ mb a b) {p : Addr} (hp : p.block < n₀) (hm : p.block ≠ mb) : b.cell? p = a.cell? p := World.cell?_of_block (h.block p.block hp hm)
theorem MKeep.grown {n₀ mb : Nat} {a b c : World} {row : Option Nat} (h : MKeep n₀ mb a b) (hn : n₀ ≤ b.heap.size) (g : b.grownBy c row) (hr : ∀ r, row = some r → n₀ ≤ r) : MKeep n₀ mb a c :=
  ⟨g.os.trans h.os, g.tape.trans h.tape, g.output.trans h.output, Nat.le_trans h.size g.size, fun i hi hm => (g.block i (by omega) (fun e => by have := hr i e.symm; omega)).trans (h.block i hi hm)⟩
theorem mkeep_b {n₀ mb : Nat} {w : World} (hn : n₀ ≤ w.heap.size) (W : World) (l : Nat) (o o' : Obj) (hl : w.heap.size ≤ l) (h : W.heap[l]? = some o) (h1 : o.isCells = false) (h2 : o.isWalk = false) : MKeep n₀ mb W (W.putObj l o') :=
  MKeep.below (belowK_b (w := w) hn W l o o' hl h h1 h2)
theorem ownFrom_mkeep {β : Type} {n₀ mb B : Nat} {w₀ : World} (hn : n₀ ≤ w₀.heap.size) (hB : n₀ ≤ B) : OwnFrom B (fun (_ : β) W => MKeep n₀ mb w₀ W) :=
  fun s W W' row hs hg hr => hs.grown (Nat.le_trans hn hs.size) hg fun r e => Nat.le_trans hB (hr r e).1

set_option maxRecDepth 100000 in
set_option maxHeartbeats 4000000 in
/-- The closure of slices.Backward over slots, for every loop body that keeps what lay below n₀ but the map mb. -/
theorem backS1_in (F : Fence) (n : Nat) (h7 : F.fn 64) (hro : F.round = none) (hn : 1 ≤ n) (l Bs n₀ n₁ mb c : Nat) (A : Option Addr) (S : List TSlot) (f : PF) (hlen : S.length ≤ 9223372036854775807) (J Jx : List Nat → World → Prop)
    (hY : ∀ (pre : List Nat) (x : Nat) (W : World), J pre W → pre.length < S.length → YieldAt F (n - 1) Try.prog l #[.int .i64 (x : Int), .agg (.int .i64 (sAt S x).1 :: pvC S f x).toArray] W fun e W' =>
      (e = .returned (.bool true) ∧ J (pre ++ [x]) W' ∧ MKeep n₀ mb W W') ∨ (e = .returned (.bool false) ∧ Jx (pre ++ [x]) W'))
    (W : World) (hBs0 : Bs < n₀) (hBm : Bs ≠ mb) (hn1 : n₁ ≤ mb) (hn10 : n₁ ≤ n₀) (hBs : W.cell? ⟨Bs, 0, none⟩ = some (.slice A S.length c)) (hI : SlotsIn W n₁ A S f) (h0 : J [] W) :
    CallsIn F n Try.prog 64 #[.func (.yield l) #[] #[], .pointer (some ⟨Bs, 0, none⟩)] W fun e W' => (∃ v, e = .returned v) ∧
      ((∃ ys, ys = cameN S.length S.length ∧ J ys W') ∨ (∃ pre, (∃ k, k ≤ S.length ∧ pre = cameN S.length k) ∧ Jx pre W')) := by
  refine callsIn_of_wp Try.func64 rfl h7 ?_ hro
  simp only [Try.ntmps64, List.size_toArray, List.length_cons, List.length_nil, Nat.reduceAdd, Nat.reduceSub, Array.replicate_succ, Array.replicate_zero, List.push_toArray, List.append_toArray, List.nil_append, List.cons_append]
  have hwl : IntKind.i64.wrap ((S.length : Int) - 1) = (S.length : Int) - 1 := IntWalk.i64_in _ (by omega)
  gi_wp2
  gi_loopw [3] (fun i wr => ∃ (j : Nat) (z : Int), j ≤ S.length ∧ i = .int .i64 z ∧ z = (j : Int) - 1 ∧ J (cameN S.length (S.length - j)) wr ∧ MKeep n₀ mb W wr) (fun i _ => (intOf i + 1).toNat)
  case atStart => exact ⟨S.length, _, Nat.le_refl _, rfl, rfl, by rw [Nat.sub_self]; exact h0, MKeep.refl _ _ _⟩
  case round =>
    obtain ⟨j, z, hj, rfl, hz, hJs, hnx⟩ := hrel
    cases j with
    | zero =>
      have hz1 : ¬ (0 : Int) ≤ z := by omega
      clear hz
      gi_wp2
      go_end0
      rw [Nat.sub_zero] at hJs
      first | exact ⟨⟨_, rfl⟩, .inl ⟨_, rfl, hJs⟩⟩ | exact ⟨⟨_, rfl⟩, .inl hJs⟩
    | succ m =>
      obtain rfl : z = (m : Int) := by omega
      clear hz
      obtain ⟨b, off, rfl, hb, hc0, hc1, hc2, hc3, hc4, _, _⟩ := hI.2 m (by omega)
      have hcb := (hnx.cell (p := ⟨Bs, 0, none⟩) hBs0 hBm).trans hBs
      have hx0 := (hnx.cell (p := ⟨b, off + m * 5, none⟩) (by dsimp only; omega) (by dsimp only; omega)).trans hc0
      have hx1 := (hnx.cell (p := ⟨b, off + m * 5 + 1, none⟩) (by dsimp only; omega) (by dsimp only; omega)).trans hc1
      have hx2 := (hnx.cell (p := ⟨b, off + m * 5 + 2, none⟩) (by dsimp only; omega) (by dsimp only; omega)).trans hc2
      have hx3 := (hnx.cell (p := ⟨b, off + m * 5 + 3, none⟩) (by dsimp only; omega) (by dsimp only; omega)).trans hc3
      have hx4 := (hnx.cell (p := ⟨b, off + m * 5 + 4, none⟩) (by dsimp only; omega) (by dsimp only; omega)).trans hc4
      have hm0 : (0 : Int) ≤ (m : Int) := by omega
      have hm1 : (m : Int) < (S.length : Int) := by omega
      have hwm : IntKind.i64.wrap ((m : Int) - 1) = (m : Int) - 1 := IntWalk.i64_in _ (by omega)
      have he : cameN S.length (S.length - m) = cameN S.length (S.length - (m + 1)) ++ [m] := by
        have e1 : S.length - m = S.length - (m + 1) + 1 := by omega
        have e2 : S.length - 1 - (S.length - (m + 1)) = m := by omega
        rw [e1, cameN_succ, e2]
      have HE := Lib.hid he
      obtain ⟨fn, tmps, assign, body, hy, hR⟩ := hY _ m wr hJs (by rw [cameN_len]; omega)
      clear he hc0 hc1 hc2 hc3 hc4
      simp only [pvC] at hy
      gi_wp2
      refine hR.mono ?_
      rintro e W3 (⟨rfl, hJ3, hk3⟩ | ⟨rfl, hJx3⟩)
      · gi_wp2
        go_roundw
        case rel => exact ⟨m, _, by omega, rfl, by first | rfl | omega, by rw [HE.out]; exact hJ3, hnx.trans hk3⟩
        case measure => simp [intOf]
      · gi_wp2
        refine bodyPost_ret (results_none rfl _ _ _) rfl ?_
        exact ⟨⟨_, rfl⟩, .inr ⟨_, ⟨S.length - m, by omega, rfl⟩, by rw [HE.out]; exact hJx3⟩⟩
set_option maxHeartbeats 4000000 in
theorem backwardS_in (F : Fence) (n : Nat) (h5 : F.fn 46) (hro : F.round = none) (a : Option Addr) (len cap : Nat) (w : World) :
    CallsIn F n Try.prog 46 #[.slice a len cap] w fun e w' => e = .returned (.func (.func 64) #[] #[.pointer (some ⟨w.heap.size, 0, none⟩)]) ∧ w' = w.alloc (.cells #[.slice a len cap] 35) := by
  refine callsIn_of_wp Try.func46 rfl h5 ?_ hro
  simp only [Try.ntmps46, List.size_toArray, List.length_cons, List.length_nil, Nat.reduceAdd, Nat.reduceSub, Array.replicate_succ, Array.replicate_zero, List.push_toArray, List.append_toArray, List.nil_append, List.cons_append]
  gi_wp2
  go_ret
  exact ⟨rfl, rfl⟩
theorem backS_stops (F : Fence) (n : Nat) (h7 : F.fn 64) (hro : F.round = none) (hn : 1 ≤ n) (Bs n₀ n₁ mb c : Nat) (A : Option Addr) (S : List TSlot) (f : PF) (hlen : S.length ≤ 9223372036854775807) (w : World) (hBs : Bs < n₀) (hBm : Bs ≠ mb) (hn1 : n₁ ≤ mb) (hn10 : n₁ ≤ n₀) (hn₀ : n₀ ≤ w.heap.size) (hc : w.cell? ⟨Bs, 0, none⟩ = some (.slice A S.length c)) (hI : SlotsIn w n₁ A S f) :
    SeqStopsK F n Try.prog 64 #[.pointer (some ⟨Bs, 0, none⟩)] (fun x : Nat => #[.int .i64 (x : Int), .agg (.int .i64 (sAt S x).1 :: pvC S f x).toArray]) (MKeep n₀ mb) (fun ys => ys = cameN S.length S.length) (fun pre => ∃ k, k ≤ S.length ∧ pre = cameN S.length k) S.length w := fun l J Jx W hW _ _ hY h0 => by
  have hW' : Below n₀ w W := hW.mono hn₀
  have hIW : SlotsIn W n₁ A S f := ⟨hI.1, fun j hj => by
    obtain ⟨g, off, e, hg, q0, q1, q2, q3, q4, bi, hr⟩ := hI.2 j hj
    have qq : ∀ o v, w.cell? ⟨g, o, none⟩ = some v → W.cell? ⟨g, o, none⟩ = some v := fun o v hv => (hW'.cell (p := ⟨g, o, none⟩) (by dsimp only; omega)).trans hv
    exact ⟨g, off, e, hg, qq _ _ q0, qq _ _ q1, qq _ _ q2, qq _ _ q3, qq _ _ q4, bi, good_Page.keep hr (fun b _ hb => hW'.block b (by omega))⟩⟩
  exact backS1_in F n h7 hro hn l Bs n₀ n₁ mb c A S f hlen J Jx hY W hBs hBm hn1 hn10 ((hW'.cell (p := ⟨Bs, 0, none⟩) hBs).trans hc) hIW h0
end Go.Proofs.Ytgdcdfpnogiciaa
