/-
  A row of integers sorted in its place.
-/
import Derived.Test.YtgdcdfpnogiciaaUs
import Derived.Test.YtgdcdfpnogiciaaShelf
import Derived.Sort.Grow
import Derived.Sort.Row
namespace Go.Proofs.Ytgdcdfpnogiciaa
open Go.RowKit
set_option linter.unusedVariables false
set_option linter.unusedSimpArgs false

theorem flat_nil (n : Nat) : (List.replicate n ([] : List Nat)).flatten = [] := by induction n with
  | zero => rfl
  | succ n ih => rw [List.replicate_succ, List.flatten_cons, ih]; rfl
theorem SO.I_open {w : World} {lo hi : Nat} {A : Option Addr} {c : Nat} {xs : List Int} {bl : List Nat} (h : SO shI w lo hi A c xs bl) (hp : 0 < xs.length) : ∃ (g off : Nat) (C : Array Value) (tid : TypeId), A = some ⟨g, off, none⟩ ∧ lo ≤ g ∧ g < hi ∧ Bk w g tid C ∧ off + c ≤ C.size ∧ bl = [g] ∧ (∀ i (hi : i < xs.length), C[off + i]? = some (.int .i64 xs[i])) ∧ ∀ x ∈ xs, I64 x := by
  rcases h.2.2 with ⟨rfl, _⟩ | ⟨g, off, C, tid, bls, rfl, h1, h2, hh, hcap, rfl, hbl, h3⟩
  · simp at hp
  · have hb : bls.flatten = [] := by
      refine List.flatten_eq_nil_iff.2 fun b hb => ?_
      obtain ⟨i, hi, rfl⟩ := List.getElem_of_mem hb
      obtain ⟨cs, b', e1, _, _, e4⟩ := h3 i (by omega)
      rw [List.getElem?_eq_getElem hi] at e1
      injection e1 with e1
      rw [e1, e4.2]
    have hcap' : off + c * 1 ≤ C.size := hcap
    refine ⟨g, off, C, tid, rfl, h1, h2, hh, by omega, by rw [hb], fun i hi => ?_, fun x hx => ?_⟩
    · obtain ⟨cs, b', e1, e2, e3, e4⟩ := h3 i hi
      obtain ⟨⟨rfl, _⟩, _⟩ := e4
      have := e3 0 (by decide)
      have e : off + (i * shI.size + 0) = off + i := by show off + (i * 1 + 0) = _; omega
      rw [e] at this
      exact this
    · obtain ⟨i, hi, rfl⟩ := List.getElem_of_mem hx
      obtain ⟨cs, b', e1, e2, e3, e4⟩ := h3 i hi
      exact ⟨e4.1.2.1, e4.1.2.2⟩
theorem SO.I_mk {w : World} {lo hi g off c : Nat} {C : Array Value} {tid : TypeId} {xs : List Int} (h1 : lo ≤ g) (h2 : g < hi) (hb : Bk w g tid C) (hcap : off + c ≤ C.size) (hl : xs.length ≤ c) (hc : c ≤ maxLen) (hx : ∀ i (hi : i < xs.length), C[off + i]? = some (.int .i64 xs[i])) (hi64 : ∀ x ∈ xs, I64 x) : SO shI w lo hi (some ⟨g, off, none⟩) c xs [g] := by
  refine ⟨hl, hc, .inr ⟨g, off, C, tid, List.replicate xs.length [], rfl, h1, h2, hb, ?_, ?_, by simp, fun i hi => ?_⟩⟩
  · show off + c * 1 ≤ _; omega
  · rw [flat_nil]
  · refine ⟨[.int .i64 xs[i]], [], by simp [hi], rfl, fun j hj => ?_, ⟨rfl, hi64 _ (List.getElem_mem hi)⟩, rfl⟩
    have hj' : j < 1 := hj
    obtain rfl : j = 0 := by omega
    have e : off + (i * shI.size + 0) = off + i := by show off + (i * 1 + 0) = _; omega
    rw [e, hx i hi]
    rfl
theorem bk_putRow {w : World} {g off : Nat} {tid : TypeId} {C : Array Value} (h : Bk w g tid C) (d : Array Int) (n : Nat) (os : Array Obj) : Bk (Sort.grow (Sort.putRow (Value.int .i64) (Sort.ahead w n) g off d) os) g tid (Sort.putCells (Value.int .i64) off d C) := by
  have hlt := h.lt
  unfold Bk at h ⊢
  have hw : (Sort.ahead w n).heap[g]? = some (.cells C tid (0, 0)) := h
  unfold Sort.grow Sort.putRow Sort.mapBlock
  rw [Array.getElem?_append_left (by simpa using hlt), Array.getElem?_modify, if_pos rfl, hw]
  rfl
theorem only_putRow (w : World) (g off : Nat) (d : Array Int) (n : Nat) (os : Array Obj) : Only [g] w (Sort.grow (Sort.putRow (Value.int .i64) (Sort.ahead w n) g off d) os) := by
  refine ⟨rfl, rfl, rfl, by simp [Sort.grow, Sort.putRow, Sort.mapBlock, Sort.ahead], fun k hk hn => ?_⟩
  have hkg : ¬ g = k := fun e => hn (by simp [e])
  unfold Sort.grow Sort.putRow Sort.mapBlock
  rw [Array.getElem?_append_left (by simpa using hk), Array.getElem?_modify, if_neg hkg]
  rfl
theorem putCells_row (d : List Int) (off : Nat) (C : Array Value) (i : Nat) (hi : i < d.length) (hC : off + i < C.size) : (Sort.putCells (Value.int .i64) off d.toArray C)[off + i]? = some (.int .i64 d[i]) := by
  unfold Sort.putCells
  rw [Array.getElem?_mapIdx, Array.getElem?_eq_getElem hC, Option.map_some, if_pos ⟨by omega, by simp; omega⟩, Nat.add_sub_cancel_left, getElem!_pos _ i (by simpa using hi)]
  simp
theorem so_putRow {w : World} {lo : Nat} {A : Option Addr} {c g off : Nat} {xs : List Int} {bl : List Nat} (h : SO shI w lo w.heap.size A c xs bl) (hp : 0 < xs.length) (hA : A = some ⟨g, off, none⟩) (d ys zs : List Int) (hd : d = ys ++ zs) (hdl : d.length = xs.length) (hy : ∀ y ∈ ys, I64 y) (n : Nat) (os : Array Obj) :
    SO shI (Sort.grow (Sort.putRow (Value.int .i64) (Sort.ahead w n) g off d.toArray) os) lo (Sort.grow (Sort.putRow (Value.int .i64) (Sort.ahead w n) g off d.toArray) os).heap.size A c ys bl ∧ Only bl w (Sort.grow (Sort.putRow (Value.int .i64) (Sort.ahead w n) g off d.toArray) os) := by
  obtain ⟨g', off', C, tid, hA', h1, h2, hb, hcap, rfl, hx, hi⟩ := h.I_open hp
  rw [hA] at hA'
  injection hA' with hA'
  injection hA' with e1 e2
  subst e1 e2 hA
  have hyl : ys.length ≤ d.length := by rw [hd]; simp
  have hon := only_putRow w g off d.toArray n os
  refine ⟨SO.I_mk h1 (Nat.lt_of_lt_of_le h2 hon.size) (bk_putRow hb d.toArray n os) (by simpa [Sort.putCells] using hcap) (Nat.le_trans (hdl ▸ hyl) h.1) h.2.1 (fun i hi' => ?_) hy, hon⟩
  rw [putCells_row d off C i (by omega) (by have := h.1; omega)]
  have : d[i]'(by omega) = ys[i] := by
    simp only [hd]
    rw [List.getElem_append_left hi']
  rw [this]
theorem so_holds {w : World} {lo : Nat} {A : Option Addr} {c g off : Nat} {xs : List Int} {bl : List Nat} (h : SO shI w lo w.heap.size A c xs bl) (hp : 0 < xs.length) (hA : A = some ⟨g, off, none⟩) : Sort.Holds (Value.int .i64) w g off xs.toArray ∧ g < w.heap.size := by
  obtain ⟨g', off', C, tid, hA', h1, h2, hb, hcap, rfl, hx, hi⟩ := h.I_open hp
  rw [hA] at hA'
  injection hA' with hA'
  injection hA' with e1 e2
  subst e1 e2
  refine ⟨fun j hj => ?_, hb.lt⟩
  have hj' : j < xs.length := by simpa using hj
  rw [hb.cell, hx j hj', hb.frozen, getElem!_pos _ j hj]
  simp
theorem c_SortI (xs : List Int) (n : Nat) (hn : n = xs.length) (A : Option Addr) (c lo : Nat) (bl : List Nat) (w : World) (h : SO shI w lo w.heap.size A c xs bl) (hl : xs.length ≤ 4194304) : Calls Try.prog 31 #[.slice A n c] w fun e w' => e = .returned (.tuple #[]) ∧ SO shI w' lo w'.heap.size A c (xs.mergeSort fun x y => decide (x ≤ y)) bl ∧ Only bl w w' := by
  subst hn
  rcases Nat.eq_zero_or_pos xs.length with h0 | hp
  · obtain rfl := List.eq_nil_of_length_eq_zero h0
    refine (Try.slices_Sort_int_none A c w).mono ?_
    rintro e w' ⟨rfl, rfl⟩
    exact ⟨rfl, by simpa using h, Only.refl _ _⟩
  · obtain ⟨g, off, C, tid, hA, _, _, _, _, _, _, hi⟩ := h.I_open hp
    obtain ⟨hH, hg⟩ := so_holds h hp hA
    subst hA
    refine (Try.slices_Sort_int g off c xs w hH hg (by omega)).mono ?_
    rintro e w' ⟨rfl, n, os, rfl⟩
    obtain ⟨h1, h2⟩ := so_putRow h hp rfl (xs.mergeSort fun x y => decide (x ≤ y)) (xs.mergeSort fun x y => decide (x ≤ y)) [] (by simp) (by simp) (fun y hy => hi y ((List.mergeSort_perm _ _).mem_iff.1 hy)) n os
    exact ⟨rfl, h1, h2⟩
end Go.Proofs.Ytgdcdfpnogiciaa
