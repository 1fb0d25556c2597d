/-
  Contracts of library functions that take a function value: slices.IndexFunc, slices.ContainsFunc.
-/
import Derived.Test.YtgdcdfpnogiciaaRows
import Derived.Test.YtgdcdfpnogiciaaTy
import Derived.Test.YtgdcdfpnogiciaaRep2
import Derived.Test.YtgdcdfpnogiciaaBas
namespace Go.Proofs.Ytgdcdfpnogiciaa
open Go.RowKit
set_option linter.unusedVariables false

theorem any_take_succ {α : Type} (p : α → Bool) (xs : List α) (k : Nat) (h : k < xs.length) : (xs.take (k + 1)).any p = ((xs.take k).any p || p xs[k]) := by
  rw [List.take_succ_eq_append_getElem h, List.any_append]; simp
theorem any_of_take {α : Type} (p : α → Bool) (xs : List α) (k : Nat) (h : (xs.take k).any p = true) : xs.any p = true := by
  rw [List.any_eq_true] at h ⊢
  obtain ⟨x, hx, hp⟩ := h
  exact ⟨x, List.mem_of_mem_take hx, hp⟩
theorem any_at {α : Type} (p : α → Bool) (xs : List α) (k : Nat) (h : k < xs.length) (hp : p xs[k] = true) : xs.any p = true := List.any_eq_true.2 ⟨_, List.getElem_mem h, hp⟩
theorem any_all {α : Type} (p : α → Bool) (xs : List α) (k : Nat) (h : (xs.take k).any p = false) (hk : xs.length ≤ k) : xs.any p = false := by rwa [List.take_of_length_le hk] at h

/-- What slices.IndexFunc gives. -/
def IdxP {α : Type} (p : α → Bool) (xs : List α) (w : World) (e : Ending) (w' : World) : Prop :=
  ∃ n : Int, e = .returned (.int .i64 n) ∧ Up w w' ∧ ((n = -1 ∧ xs.any p = false) ∨ ∃ i : Nat, n = i ∧ ∃ h : i < xs.length, p xs[i] = true ∧ (xs.take i).any p = false)
/-- What a call gives that returns a bool. -/
def BoolP (b : Bool) (w : World) (e : Ending) (w' : World) : Prop := e = .returned (.bool b) ∧ Up w w'






end Go.Proofs.Ytgdcdfpnogiciaa
