/-
  A row of records, sorted: an owned list behind slices.SortFunc.
-/
import Derived.Test.YtehhgogmbpdpbaaGreatDoorM1G
import Derived.Test.YtehhgogmbpdpbaaGreatDoorM1Rt
import Derived.Test.YtehhgogmbpdpbaaGreatDoorM1A
import Derived.Shelf.GgSortFunc.InsertionK
namespace Go.Proofs.YtehhgogmbpdpbaaGreatDoor
open Go.RowKit Go.Shelf Go.Lib Go.Sort
set_option linter.unusedVariables false
set_option linter.unusedSimpArgs false

def encR (r : TRecord) : List Value := [.string r.1, .string r.2]
theorem encR_len (r : TRecord) : (encR r).length = 2 := rfl
theorem encR_one (r : TRecord) : ∀ v ∈ encR r, v.oneCell' = true := by
  intro v hv
  simp [encR] at hv
  rcases hv with rfl | rfl <;> rfl
theorem flat_cells {w : World} {lo hi : Nat} {olds : List Value} {xs : List TRecord} {bls : List (List Nat)} (h : Rowed shRecord w lo hi olds xs bls) : bls.flatten = [] ∧ (∀ i (hi : i < xs.length), olds[i * 2]? = some (.string xs[i].1) ∧ olds[i * 2 + 1]? = some (.string xs[i].2)) ∧ ∀ x ∈ xs, x.1.size ≤ maxLen ∧ x.2.size ≤ maxLen := by
  refine ⟨List.flatten_eq_nil_iff.2 fun b hb => ?_, fun i hi => ?_, fun x hx => ?_⟩
  · obtain ⟨i, hi, rfl⟩ := List.getElem_of_mem hb
    obtain ⟨cs, b', e1, _, _, e4⟩ := h.2.2 i (by rw [← h.1]; exact hi)
    rw [List.getElem?_eq_getElem hi] at e1
    injection e1 with e1
    rw [e1]
    exact (openORecord e4).2.1
  · obtain ⟨cs, b', e1, e2, e3, e4⟩ := h.2.2 i hi
    obtain ⟨rfl, _, _, _⟩ := openORecord e4
    exact ⟨e3 0 (by decide), e3 1 (by decide)⟩
  · obtain ⟨i, hi, rfl⟩ := List.getElem_of_mem hx
    obtain ⟨cs, b', e1, e2, e3, e4⟩ := h.2.2 i hi
    exact (openORecord e4).2.2
theorem rowed_recs {w : World} {lo hi : Nat} {d : List TRecord} (hd : ∀ x ∈ d, x.1.size ≤ maxLen ∧ x.2.size ≤ maxLen) : Rowed shRecord w lo hi (flatK encR 2 d.toArray).toList d (List.replicate d.length []) := by
  refine ⟨by simp, by simp [shRecord, shP, shS], fun i hi => ?_⟩
  obtain ⟨h1, h2⟩ := hd _ (List.getElem_mem hi)
  refine ⟨[.string d[i].1, .string d[i].2], [], by simp [hi], rfl, fun j hj => ?_, mkORecord h1 h2⟩
  have hj' : j < 2 := hj
  have hlt : i * 2 + j < d.toArray.size * 2 := by simp; omega
  have e : (flatK encR 2 d.toArray)[i * 2 + j]? = some ((encR d.toArray[(i * 2 + j) / 2]!)[(i * 2 + j) % 2]!) := by
    rw [← get_flatK encR 2 d.toArray _ hlt]
    rw [getElem!_pos _ _ (by rw [size_flatK]; exact hlt), Array.getElem?_eq_getElem]
  have e1 : (i * 2 + j) / 2 = i := by omega
  have e2 : (i * 2 + j) % 2 = j := by omega
  show (flatK encR 2 d.toArray).toList[i * 2 + j]? = _
  rw [Array.getElem?_toList, e, e1, e2, getElem!_pos _ i (by simpa using hi)]
  match j, hj' with
  | 0, _ => simp [encR]
  | 1, _ => simp [encR]
theorem holds_recs {w : World} {lo : Nat} {c g off : Nat} {xs : List TRecord} {bl : List Nat} (h : SO shRecord w lo w.heap.size (some ⟨g, off, none⟩) c xs bl) (hp : 0 < xs.length) : HoldsK encR 2 w g off xs.toArray ∧ g < w.heap.size := by
  rcases h.row with ⟨rfl, _⟩ | ⟨g', off', C, tid, bls, olds, hA, h1, h2, hb, hcap, rfl, hr, ho⟩
  · simp at hp
  injection hA with hA
  injection hA with e1 e2
  subst e1 e2
  obtain ⟨_, hx, _⟩ := flat_cells hr
  refine ⟨fun j hj => ?_, hb.lt⟩
  have hj' : j < xs.length * 2 := by simpa using hj
  have hi : j / 2 < xs.length := by omega
  obtain ⟨q1, q2⟩ := hx (j / 2) hi
  have hol : j < olds.length := by have := hr.2.1; simp [shRecord, shP, shS] at this; omega
  rw [hb.cell, hb.frozen, ho j hol]
  refine ⟨?_, rfl⟩
  rw [get_flatK encR 2 xs.toArray j (by simpa using hj'), getElem!_pos xs.toArray (j / 2) (by simpa using hi)]
  rcases Nat.mod_two_eq_zero_or_one j with hm | hm
  · have : j = j / 2 * 2 := by omega
    rw [hm]
    rw [← this] at q1
    rw [q1]
    simp [encR]
  · have : j = j / 2 * 2 + 1 := by omega
    rw [hm]
    rw [← this] at q2
    rw [q2]
    simp [encR]
theorem bk_putRowK {w : World} {g off : Nat} {tid : TypeId} {C : Array Value} (h : Bk w g tid C) (d : Array TRecord) (n : Nat) (os : Array Obj) : Bk (sortWorldK encR 2 w g off n d os) g tid (Sort.putCells id off (flatK encR 2 d) C) := by
  have hlt := h.lt
  unfold Bk at h ⊢
  have hw : (Sort.ahead w n).heap[g]? = some (.cells C tid (0, 0)) := h
  unfold sortWorldK putRowK grow putRow mapBlock
  rw [Array.getElem?_append_left (by simpa using hlt), Array.getElem?_modify, if_pos rfl, hw]
  rfl
theorem only_putRowK (w : World) (g off : Nat) (d : Array TRecord) (n : Nat) (os : Array Obj) : Only [g] w (sortWorldK encR 2 w g off n d os) := by
  refine ⟨rfl, rfl, rfl, by simp [sortWorldK, putRowK, grow, putRow, mapBlock, ahead], fun k hk hn => ?_⟩
  have hkg : ¬ g = k := fun e => hn (by simp [e])
  unfold sortWorldK putRowK grow putRow mapBlock
  rw [Array.getElem?_append_left (by simpa using hk), Array.getElem?_modify, if_neg hkg]
  rfl
theorem so_recs {w : World} {lo : Nat} {c g off : Nat} {xs : List TRecord} {bl : List Nat} (h : SO shRecord w lo w.heap.size (some ⟨g, off, none⟩) c xs bl) (hp : 0 < xs.length) (d : List TRecord) (hd : d.Perm xs) (n : Nat) (os : Array Obj) :
    SO shRecord (sortWorldK encR 2 w g off n d.toArray os) lo (sortWorldK encR 2 w g off n d.toArray os).heap.size (some ⟨g, off, none⟩) c d bl ∧ Only bl w (sortWorldK encR 2 w g off n d.toArray os) := by
  have hl := h.1
  have hc := h.2.1
  rcases h.row with ⟨rfl, _⟩ | ⟨g', off', C, tid, bls, olds, hA, h1, h2, hb, hcap, rfl, hr, ho⟩
  · simp at hp
  injection hA with hA
  injection hA with e1 e2
  subst e1 e2
  obtain ⟨hf, hx, hs⟩ := flat_cells hr
  have hon := only_putRowK w g off d.toArray n os
  have hdl := hd.length_eq
  have hcap' : off + c * 2 ≤ C.size := hcap
  rw [hf]
  have hso := SO.of_row (s := shRecord) (lo := lo) (hi := (sortWorldK encR 2 w g off n d.toArray os).heap.size) h1 (Nat.lt_of_lt_of_le h2 hon.size) (bk_putRowK hb d.toArray n os) (by simpa [Sort.putCells] using hcap) (by omega) hc (rowed_recs (w := sortWorldK encR 2 w g off n d.toArray os) (d := d) (fun x hx => hs x (hd.mem_iff.1 hx))) (fun j hj => by
    have hj' : j < d.length * 2 := by simpa using hj
    unfold Sort.putCells
    rw [Array.getElem?_mapIdx, Array.getElem?_eq_getElem (by omega), Option.map_some, if_pos ⟨by omega, by simp; omega⟩, Nat.add_sub_cancel_left, Array.getElem?_toList, getElem!_pos _ j (by simpa using hj'), Array.getElem?_eq_getElem]
    rfl)
  exact ⟨by simpa using hso, hon⟩
end Go.Proofs.YtehhgogmbpdpbaaGreatDoor
