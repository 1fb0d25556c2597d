/-
  A row of bytes that began as a conversion of a string: its block may bear a mark behind its cells. Append of a string to it; back to a string.
-/
import Derived.Test.YtghphlfihakadaaGreatDoorPi
import Derived.Test.YtghphlfihakadaaGreatDoorRo
import Derived.Lib.ConvBytes
import Derived.Laws.IdiomStrings
namespace Go.Proofs.YtghphlfihakadaaGreatDoor
open Go.RowKit
set_option linter.unusedVariables false
set_option linter.unusedSimpArgs false

/-- The bytes l lie in a block that is no older than lo. -/
def Row8 (lo : Nat) (w : World) (A : Option Addr) (c : Nat) (l : List UInt8) : Prop :=
  l.length ≤ c ∧ c ≤ maxLen ∧ ∃ (g : Nat) (C : Array Value) (f1 f2 : Nat), A = some ⟨g, 0, none⟩ ∧ lo ≤ g ∧ w.heap[g]? = some (.cells C 5 (f1, f2)) ∧ (C.size ≤ f1 ∨ f2 = 0) ∧ c ≤ C.size ∧ ∀ j (h : j < l.length), C[j]? = some (.int .u8 (l[j].toNat : Int))
theorem Row8.up {lo : Nat} {w w' : World} {A : Option Addr} {c : Nat} {l : List UInt8} (h : Row8 lo w A c l) (u : Up w w') : Row8 lo w' A c l := by
  obtain ⟨h1, h2, g, C, f1, f2, hA, hl, hh, hf, hc, hb⟩ := h
  exact ⟨h1, h2, g, C, f1, f2, hA, hl, (u.block g (Array.getElem?_eq_some_iff.1 hh).1).trans hh, hf, hc, hb⟩
theorem bw_up (w : World) (e : TypeId) (s : ByteArray) : Up w (Lib.bytesWorld w e s) :=
  ⟨by simp [Lib.bytesWorld, World.freeze, World.alloc, World.drew, -World.alloc_eq, -World.drew_eq]; try split <;> rfl, by simp [Lib.bytesWorld, World.freeze, World.alloc, World.drew, -World.alloc_eq, -World.drew_eq]; try split <;> rfl, by simp [Lib.bytesWorld, World.freeze, World.alloc, World.drew, -World.alloc_eq, -World.drew_eq]; try split <;> rfl, by rw [Lib.bytesWorld_size]; omega, fun k hk => Lib.bytesWorld_at_old w e s k hk⟩
theorem row8_new (w : World) (s : ByteArray) (hs : s.size ≤ 1048576) : Row8 w.heap.size (Lib.bytesWorld w 5 s) (some ⟨w.heap.size, 0, none⟩) (grownCap w s.size 0 5) s.data.toList := by
  have hge := grownCap_ge w s.size 0 5
  have hle : grownCap w s.size 0 5 ≤ maxLen := grownCap_le_maxLen w s.size 0 5 (by unfold maxLen; omega)
  refine ⟨by rw [slen]; exact hge, hle, w.heap.size, _, _, _, rfl, Nat.le_refl _, Lib.bytesWorld_at_new w _ s, .inl (Nat.le_refl _), ?_, fun j hj => ?_⟩
  · have : s.data.size = s.size := rfl
    simp [Lib.bytesCells, this]; omega
  · rw [slen] at hj
    have : s.data.size = s.size := rfl
    simp [Lib.bytesCells, Array.getElem?_append, this, hj]
theorem Row8.run_app {lo : Nat} {w : World} {A : Option Addr} {c : Nat} {l : List UInt8} (h : Row8 lo w A c l) (s : ByteArray) (hlo : lo ≤ w.heap.size) (hb : l.length + s.size ≤ 1073741824) (ty : TypeId) :
    ∃ D d w', (Builtin.append_ #[85, 9] ty #[.slice A l.length c, .string s]).run Tryz.prog w = .ok (.slice D (l.length + s.size) d) w' ∧ Row8 lo w' D d (l ++ s.data.toList) ∧ Below lo w w' := by
  obtain ⟨i0, hi0, hz0, hz1, hz2⟩ := info_parts info_B8
  obtain ⟨h1, h2, g, C, f1, f2, rfl, hl, hh, hf, hc, hbb⟩ := h
  have hsrc : Src Tryz.prog i0.size 9 (.string s) s.size (byteCells s) w := by rw [hz1]; exact Src.ofString _ Tryz.underlying9 s
  have hbl : (byteCells s).length = s.size := by simp [byteCells, slen]
  have hcell : ∀ k, w.cell? ⟨g, k, none⟩ = C[k]? := fun k => by simp [World.cell?, hh]
  have hbc : ∀ j (hj : j < (byteCells s).length), (byteCells s)[j]? = some (.int .u8 ((s.data.toList[j]'(by rw [slen]; rw [hbl] at hj; exact hj)).toNat : Int)) := fun j hj => by
    rw [hbl] at hj
    simp [byteCells, slen, hj]
  by_cases hroom : l.length + s.size ≤ c
  · have hrun := run_append_room_src (P := Tryz.prog) w 85 9 ty 5 i0 Tryz.underlying85 hi0 g 0 l.length c (.string s) s.size (byteCells s) hsrc hroom
      (fun j hj => by
        rw [hbl] at hj
        rw [hcell, hz1, Array.getElem?_eq_getElem (by omega)]; rfl)
      (fun j hj => by
        rw [hbl] at hj
        simp only [World.frozen?, hh]
        rcases hf with hf | hf
        · have : ¬ (f1 ≤ l.length * i0.size + j) := by rw [hz1]; omega
          simp [this]
        · simp [hf])
    rw [hz1, setCells_eq] at hrun
    have hset : ∀ (cs : List Value) (W : World) (p : Nat) (D : Array Value), W.heap[g]? = some (.cells D 5 (f1, f2)) → (setCells W g p cs).heap[g]? = some (.cells (putCells D p cs) 5 (f1, f2)) := by
      intro cs
      induction cs with
      | nil => intro W p D hW; exact hW
      | cons x cs ih =>
        intro W p D hW
        refine ih _ _ _ ?_
        simp [World.setCell, Array.getElem?_modify, hW]
    have hbut := But.sets (g := g) (byteCells s) w (0 + l.length * 1)
    refine ⟨_, _, _, hrun, ⟨by simp [slen]; omega, h2, g, _, f1, f2, rfl, hl, hset _ _ _ _ hh, by rw [putCells_size]; exact hf, by rw [putCells_size]; exact hc, fun j hj => ?_⟩, ⟨hbut.os, hbut.tape, hbut.output, by rw [hbut.size]; exact Nat.le_refl _, fun k hk => hbut.block k (by omega)⟩⟩
    by_cases hjl : j < l.length
    · rw [putCells_far _ _ _ _ (.inl (by omega)), hbb j hjl, List.getElem_append_left hjl]
    · obtain ⟨q, rfl⟩ : ∃ q, j = l.length + q := ⟨j - l.length, by omega⟩
      have hq : q < (byteCells s).length := by rw [hbl]; simp [slen] at hj; omega
      have e := putCells_at (byteCells s) C (0 + l.length * 1) q (by rw [hbl]; omega) hq
      rw [show 0 + l.length * 1 + q = l.length + q by omega] at e
      rw [e, hbc q hq, List.getElem_append_right (by omega)]
      simp
  · have hgrow : c < l.length + s.size := by omega
    have hold : (Builtin.firstCells i0.size l.length (.slice (some ⟨g, 0, none⟩) l.length c)).run Tryz.prog w.drew = .ok (l.map fun b => Value.int .u8 (b.toNat : Int)).toArray w.drew := by
      rw [hz1]
      refine run_firstCells_some (P := Tryz.prog) w.drew 1 l.length ⟨g, 0, none⟩ l.length c _ (by simp) (fun j u hu => ?_)
      have hj : j < l.length := by simpa using (List.getElem?_eq_some_iff.1 hu).1
      have hadd : (⟨g, 0, none⟩ : Addr).add j = ⟨g, 0 + j, none⟩ := by unfold Addr.add; split <;> simp_all
      rw [hadd, Nat.zero_add]
      show w.cell? _ = _
      rw [hcell, hbb j hj, ← hu]
      simp [hj]
    have hrun := run_append_grow_src (P := Tryz.prog) w 85 9 ty 5 i0 _ Tryz.underlying85 hi0 hz0 (some ⟨g, 0, none⟩) l.length c _ hold (.string s) s.size (byteCells s) hsrc hgrow (by omega) (growslice_fits hgrow (by rw [hz2]; omega))
    have hge := grownCap_ge w (l.length + s.size) c 5
    have hcm : grownCap w (l.length + s.size) c 5 ≤ maxLen := grownCap_le_maxLen w _ c _ (by unfold maxLen; omega)
    have u1 : Up w (w.drew.alloc (.cells (((l.map fun b => Value.int .u8 (b.toNat : Int)) ++ byteCells s).toArray ++ Builtin.zeroCells (Value.int .u8 0).cells (grownCap w (l.length + s.size) c 5 - (l.length + s.size))) 5)) := (Up.refl w).drew.alloc _
    refine ⟨_, _, _, hrun, ⟨by simp [slen]; exact hge, hcm, w.heap.size, _, 0, 0, rfl, hlo, heap_alloc_new w.drew _, .inr rfl, ?_, fun j hj => ?_⟩, Below.mono u1 hlo⟩
    · simp only [Array.size_append, size_zeroCells, List.size_toArray, List.length_append, List.length_map, hbl, Value.cells]
      simp; omega
    · have hj' : j < l.length + s.size := by simpa [slen] using hj
      rw [Array.getElem?_append_left (by simp [hbl]; exact hj')]
      simp only [List.getElem?_toArray]
      by_cases hjl : j < l.length
      · rw [List.getElem?_append_left (by simpa using hjl), List.getElem_append_left hjl]
        simp [hjl]
      · rw [List.getElem?_append_right (by simp; omega), List.getElem_append_right (by omega)]
        rw [hbc _ (by rw [hbl, List.length_map]; omega)]
        simp
theorem wp_app8 {o : Oper} {a : Act} {K : Act → World → Prop} {Q : Exit → Act → World → Prop} (so x : Operand) {w : World}
    (ho : o.op = .call { callee := .builtin .append, args := #[so, x], argTypes := #[85, 9] })
    {lo : Nat} {A : Option Addr} {c : Nat} {l : List UInt8} {s : ByteArray} (hv : a.eval so = .slice A l.length c) (hx : a.eval x = .string s) (h : Row8 lo w A c l) (hlo : lo ≤ w.heap.size) (hb : l.length + s.size ≤ 1073741824)
    (k : ∀ D d w', Row8 lo w' D d (l ++ s.data.toList) → Below lo w w' → K (a.put o.dst (.slice D (l.length + s.size) d)) w') : o.wp Tryz.prog a w K Q := by
  obtain ⟨D, d, w', hr, h1, h2⟩ := h.run_app s hlo hb o.type
  unfold Oper.wp execOp
  simp only [ho, resolve, invoke, builtin, Sem.run_bind, Sem.run_pure, Result.andThen_ok, List.map_toArray, List.map_cons, List.map_nil, hv, hx, hr]
  exact k D d w' h1 h2
theorem wpList_app8 {ops : Array Oper} {rest : List Oper} {o : Oper} {a : Act} {Q : Exit → Act → World → Prop} (hgd : o.guard = none) (so x : Operand) {w : World}
    (ho : o.op = .call { callee := .builtin .append, args := #[so, x], argTypes := #[85, 9] })
    {lo : Nat} {A : Option Addr} {c : Nat} {l : List UInt8} {s : ByteArray} (hv : a.eval so = .slice A l.length c) (hx : a.eval x = .string s) (h : Row8 lo w A c l) (hlo : lo ≤ w.heap.size) (hb : l.length + s.size ≤ 1073741824)
    (k : ∀ D d w', Row8 lo w' D d (l ++ s.data.toList) → Below lo w w' → wpList Tryz.prog ops Q rest (a.put o.dst (.slice D (l.length + s.size) d)) w') : wpList Tryz.prog ops Q (o :: rest) a w :=
  wpList_plain hgd fun _ hK => wp_app8 so x ho hv hx h hlo hb fun D d w' h1 h2 => hK _ _ (k D d w' h1 h2)
theorem step_app8 {ops : Array Oper} {o : Oper} {a : Act} {K : Act → World → Prop} {Q : Exit → Act → World → Prop} {E : Prop} (hgd : o.guard = none) (so x : Operand) {w : World}
    (ho : o.op = .call { callee := .builtin .append, args := #[so, x], argTypes := #[85, 9] })
    {lo : Nat} {A : Option Addr} {c : Nat} {l : List UInt8} {s : ByteArray} (hv : a.eval so = .slice A l.length c) (hx : a.eval x = .string s) (h : Row8 lo w A c l) (hlo : lo ≤ w.heap.size) (hb : l.length + s.size ≤ 1073741824)
    (k : ∀ D d w', Row8 lo w' D d (l ++ s.data.toList) → Below lo w w' → K (a.put o.dst (.slice D (l.length + s.size) d)) w') : if Region.wanted o (yielded ops a.tmps) = true then Oper.wp Tryz.prog o a w K Q else E := by
  have hw : Region.wanted o (yielded ops a.tmps) = true := by simp [Region.wanted, hgd]
  rw [if_pos hw]
  exact wp_app8 so x ho hv hx h hlo hb k
theorem conv8 {lo : Nat} {w : World} {A : Option Addr} {c : Nat} {l : List UInt8} (h : Row8 lo w A c l) : (convert 85 9 (.slice A l.length c)).run Tryz.prog w = .ok (.string (bs l)) w := by
  obtain ⟨h1, h2, g, C, f1, f2, rfl, hl, hh, hf, hc, hbb⟩ := h
  refine run_convert_bytes_back (P := Tryz.prog) w 85 9 5 ⟨g, 0, none⟩ c l Tryz.underlying85 Tryz.underlying5 Tryz.underlying9 (fun j hj => ?_)
  have hadd : (⟨g, 0, none⟩ : Addr).add j = ⟨g, 0 + j, none⟩ := by unfold Addr.add; split <;> simp_all
  rw [hadd, Nat.zero_add]
  simp [World.cell?, hh, hbb j hj]
end Go.Proofs.YtghphlfihakadaaGreatDoor
