/-
  append onto an empty slice: a new row that is owned. No program is named here.
-/
import Derived.Test.YtgdcdfpnogiciaaRep2
import Derived.Deep.AppendLies
namespace Go.Proofs.Ytgdcdfpnogiciaa
open Go.RowKit
set_option linter.unusedVariables false
set_option linter.unusedSimpArgs false

/-- Elements that hold no memory of their own. -/
structure Flat {α : Type} (s : Sh α) : Prop where
  own : ∀ {w lo hi cs x}, s.rep w lo hi cs x → ∀ w' lo' hi', s.own w' lo' hi' cs x []
theorem flat_I : Flat shI := ⟨fun h _ _ _ => ⟨h, rfl⟩⟩
theorem flat_B : Flat shB := ⟨fun h _ _ _ => ⟨h, rfl⟩⟩
theorem flat_S : Flat shS := ⟨fun h _ _ _ => ⟨h, rfl⟩⟩
theorem flat_P {α β : Type} {a : Sh α} {b : Sh β} (ha : Flat a) (hb : Flat b) : Flat (shP a b) := ⟨fun h _ _ _ => ⟨[], [], rfl, ha.own h.1 _ _ _, hb.own h.2 _ _ _⟩⟩

section
variable {P : Program} {α : Type} {s : Sh α} {w : World}
/-- The cells of a row, one after the other. -/
theorem row_cells (hg : Good s) {g off : Nat} {lo hi : Nat} {xs : List α} (h : ∀ i (h : i < xs.length), ∃ cs, ElemAt w g off s.size i cs ∧ s.rep w lo hi cs xs[i]) :
    ∃ news : List Value, news.length = xs.length * s.size ∧ (∀ j u, news[j]? = some u → w.cell? ((⟨g, off, none⟩ : Addr).add j) = some u) ∧
      ∀ i (h : i < xs.length), ∃ cs, cs.length = s.size ∧ (∀ j, j < s.size → news[i * s.size + j]? = cs[j]?) ∧ s.rep w lo hi cs xs[i] := by
  have hadd : ∀ j, (⟨g, off, none⟩ : Addr).add j = ⟨g, off + j, none⟩ := fun j => by unfold Addr.add; split <;> simp_all
  have hp := hg.pos
  have key : ∀ k, k < xs.length * s.size → ∃ u, w.cell? ⟨g, off + k, none⟩ = some u := by
    intro k hk
    have hi : k / s.size < xs.length := (Nat.div_lt_iff_lt_mul hp).2 hk
    obtain ⟨cs, hc, hr⟩ := h _ hi
    have hj : k % s.size < s.size := Nat.mod_lt _ hp
    have := hc.2 _ hj
    rw [Nat.mul_comm, Nat.div_add_mod] at this
    rw [this, List.getElem?_eq_getElem (by rw [hc.1]; exact hj)]
    exact ⟨_, rfl⟩
  refine ⟨(List.range (xs.length * s.size)).map (fun k => (w.cell? ⟨g, off + k, none⟩).getD (.bool false)), by simp, fun j u hu => ?_, fun i hi => ?_⟩
  · rw [List.getElem?_map] at hu
    by_cases hj : j < xs.length * s.size
    · rw [List.getElem?_range hj] at hu
      obtain ⟨v, hv⟩ := key j hj
      rw [hadd, hv]
      simpa [hv] using hu
    · rw [List.getElem?_eq_none (by simp; omega)] at hu
      cases hu
  · obtain ⟨cs, hc, hr⟩ := h i hi
    refine ⟨cs, hc.1, fun j hj => ?_, hr⟩
    have hlt : i * s.size + j < xs.length * s.size := by
      have := Nat.mul_le_mul_right s.size (Nat.succ_le_of_lt hi)
      rw [Nat.succ_mul] at this
      omega
    rw [List.getElem?_map, List.getElem?_range hlt]
    have := hc.2 j hj
    rw [List.getElem?_eq_getElem (by rw [hc.1]; exact hj)] at this ⊢
    simp [this]

/-- append onto an empty slice without room. -/
theorem run_app_new (hg : Good s) (hf : Flat s) (t ty e : TypeId) (i : TypeInfo) (z : Value) (ht : P.underlying t = some (.slice e)) (hi : P.info? e = some i) (hz : i.zero = some z) (hs : i.size = s.size) (hzs : z.cells.size = s.size)
    {b : Addr} {A : Option Addr} {c : Nat} {xs : List α} (h : SRW s w A c xs) (hb : xs.length * i.bytes ≤ 140737488355328) :
    ∃ D d bl w', (Builtin.append_ #[t, t] ty #[.slice (some b) 0 0, .slice A xs.length c]).run P w = .ok (.slice D xs.length d) w' ∧ SO s w' w.heap.size w'.heap.size D d xs bl ∧ bl.Nodup ∧ Up w w' := by
  have hc := h.1
  have hm := h.2.1
  rcases Nat.eq_zero_or_pos xs.length with h0 | hpos
  · obtain rfl := List.eq_nil_of_length_eq_zero h0
    refine ⟨some b, 0, [], w, ?_, ⟨Nat.le_refl _, Nat.zero_le _, .inl ⟨rfl, rfl, rfl⟩⟩, by simp, Up.refl _⟩
    cases A <;> simp [Builtin.append_, run_underlying ht, sizeOf, typeInfo, hi, Builtin.lenOf, Builtin.firstCells, loadCells, loadCellsFrom, storeCells]
  · obtain ⟨g, off, rfl, h1, h2, h3⟩ := h.2.2 hpos
    obtain ⟨news, hl, hn, hel⟩ := row_cells hg h3
    have hr := run_append_grow (P := P) w t ty e i z ht hi hz b 0 0 [] (by simp) (by simp) ⟨g, off, none⟩ xs.length c news (by rw [hs]; exact hl) hn (by omega) (by unfold maxLen at hm; omega) (growslice_fits (by omega) (by simpa using hb))
    simp only [Nat.zero_add] at hr
    have hge := grownCap_ge w xs.length 0 e
    have hcm : grownCap w xs.length 0 e ≤ maxLen := grownCap_le_maxLen w xs.length 0 e (by omega)
    refine ⟨_, _, [w.heap.size], _, hr, ⟨hge, hcm, .inr ⟨w.heap.size, 0, _, e, List.replicate xs.length [], rfl, Nat.le_refl _, by simp, heap_alloc_new w.drew _, ?_, by simp, by simp, fun k hk => ?_⟩⟩, by simp, (Up.refl w).drew.alloc _⟩
    · simp only [Array.empty_append, Array.size_append, size_zeroCells, hzs, List.size_toArray, hl]
      rw [← Nat.add_mul, Nat.zero_add]
      exact Nat.mul_le_mul_right _ (by omega)
    obtain ⟨cs, hcl, hcj, hrep⟩ := hel k hk
    refine ⟨cs, [], by simp [hk], hcl, fun j hj => ?_, hf.own hrep _ _ _⟩
    have hlt : k * s.size + j < xs.length * s.size := by
      have := Nat.mul_le_mul_right s.size (Nat.succ_le_of_lt hk)
      rw [Nat.succ_mul] at this
      omega
    rw [Nat.zero_add, ← hcj j hj]
    simp only [Array.empty_append, Array.getElem?_append]
    rw [if_pos (by simpa [hl] using hlt)]
    simp

theorem wp_app_new (hg : Good s) (hf : Flat s) {o : Oper} {a : Act} {K : Act → World → Prop} {Q : Exit → Act → World → Prop} (so x : Operand) (t e : TypeId)
    (ho : o.op = .call { callee := .builtin .append, args := #[so, x], argTypes := #[t, t] }) (i : TypeInfo) (z : Value) (ht : P.underlying t = some (.slice e)) (hi : P.info? e = some i) (hz : i.zero = some z) (hs : i.size = s.size) (hzs : z.cells.size = s.size)
    {b : Addr} {A : Option Addr} {c : Nat} {xs : List α} (hv : a.eval so = .slice (some b) 0 0) (hx : a.eval x = .slice A xs.length c) (h : SRW s w A c xs) (hb : xs.length * i.bytes ≤ 140737488355328)
    (k : ∀ D d bl w', SO s w' w.heap.size w'.heap.size D d xs bl → bl.Nodup → Up w w' → K (a.put o.dst (.slice D xs.length d)) w') : o.wp P a w K Q := by
  obtain ⟨D, d, bl, w', hr, h1, h2, h3⟩ := run_app_new (P := P) (w := w) hg hf t o.type e i z ht hi hz hs hzs (b := b) h hb
  unfold Oper.wp execOp
  simp only [ho, resolve, invoke, builtin, Sem.run_bind, Sem.run_pure, Result.andThen_ok, List.map_toArray, List.map_cons, List.map_nil, hv, hx, hr]
  exact k D d bl w' h1 h2 h3
theorem wpList_app_new (hg : Good s) (hf : Flat s) {ops : Array Oper} {rest : List Oper} {o : Oper} {a : Act} {Q : Exit → Act → World → Prop} (hgd : o.guard = none) (so x : Operand) (t e : TypeId)
    (ho : o.op = .call { callee := .builtin .append, args := #[so, x], argTypes := #[t, t] }) (i : TypeInfo) (z : Value) (ht : P.underlying t = some (.slice e)) (hi : P.info? e = some i) (hz : i.zero = some z) (hs : i.size = s.size) (hzs : z.cells.size = s.size)
    {b : Addr} {A : Option Addr} {c : Nat} {xs : List α} (hv : a.eval so = .slice (some b) 0 0) (hx : a.eval x = .slice A xs.length c) (h : SRW s w A c xs) (hb : xs.length * i.bytes ≤ 140737488355328)
    (k : ∀ D d bl w', SO s w' w.heap.size w'.heap.size D d xs bl → bl.Nodup → Up w w' → wpList P ops Q rest (a.put o.dst (.slice D xs.length d)) w') : wpList P ops Q (o :: rest) a w :=
  wpList_plain hgd fun _ hK => wp_app_new hg hf so x t e ho i z ht hi hz hs hzs hv hx h hb fun D d bl w' h1 h2 h3 => hK _ _ (k D d bl w' h1 h2 h3)
theorem step_app_new (hg : Good s) (hf : Flat s) {ops : Array Oper} {o : Oper} {a : Act} {K : Act → World → Prop} {Q : Exit → Act → World → Prop} {E : Prop} (hgd : o.guard = none) (so x : Operand) (t e : TypeId)
    (ho : o.op = .call { callee := .builtin .append, args := #[so, x], argTypes := #[t, t] }) (i : TypeInfo) (z : Value) (ht : P.underlying t = some (.slice e)) (hi : P.info? e = some i) (hz : i.zero = some z) (hs : i.size = s.size) (hzs : z.cells.size = s.size)
    {b : Addr} {A : Option Addr} {c : Nat} {xs : List α} (hv : a.eval so = .slice (some b) 0 0) (hx : a.eval x = .slice A xs.length c) (h : SRW s w A c xs) (hb : xs.length * i.bytes ≤ 140737488355328)
    (k : ∀ D d bl w', SO s w' w.heap.size w'.heap.size D d xs bl → bl.Nodup → Up w w' → K (a.put o.dst (.slice D xs.length d)) w') : if Region.wanted o (yielded ops a.tmps) = true then Oper.wp P o a w K Q else E := by
  have hw : Region.wanted o (yielded ops a.tmps) = true := by simp [Region.wanted, hgd]
  rw [if_pos hw]
  exact wp_app_new hg hf so x t e ho i z ht hi hz hs hzs hv hx h hb k
end
end Go.Proofs.Ytgdcdfpnogiciaa
