/-
  Results: a list and a number.
-/
import Derived.Test.YtehhgogmbpdpbaaGreatDoorM1A
namespace Go.Proofs.YtehhgogmbpdpbaaGreatDoor
open Go.RowKit
set_option linter.unusedVariables false

def ToLR {α : Type} (s : Sh α) (xs : List α) (n : Int) (w : World) (e : Ending) (w' : World) : Prop :=
  ∃ A c bl, e = .returned (.tuple #[.slice A xs.length c, .int .i64 n]) ∧ SO s w' w.heap.size w'.heap.size A c xs bl ∧ bl.Nodup ∧ Up w w'
def RpLR {α : Type} (s : Sh α) (xs : List α) (n : Int) (w : World) (e : Ending) (w' : World) : Prop :=
  ∃ A c, e = .returned (.tuple #[.slice A xs.length c, .int .i64 n]) ∧ SRW s w' A c xs ∧ Up w w'
theorem ToLR.rp {α : Type} {s : Sh α} (hg : Good s) {xs : List α} {n : Int} {w w' : World} {e : Ending} (h : ToLR s xs n w e w') : RpLR s xs n w e w' := by
  obtain ⟨A, c, bl, he, ho, _, hu⟩ := h
  exact ⟨A, c, he, SR.of_own hg ho, hu⟩
theorem RpLR.mk {α : Type} {s : Sh α} {xs ys : List α} {n m : Int} {w w' : World} {A : Option Addr} {c : Nat} (h1 : xs = ys) (h2 : n = m) (h : SRW s w' A c ys) (u : Up w w') : RpLR s xs n w (.returned (.tuple #[.slice A ys.length c, .int .i64 m])) w' := by subst h1; subst h2; exact ⟨A, c, rfl, h, u⟩
theorem ToLR.mk {α : Type} {s : Sh α} {xs ys : List α} {n m : Int} {w w' : World} {A : Option Addr} {c : Nat} {bl : List Nat} (h1 : xs = ys) (h2 : n = m) (h : SO s w' w.heap.size w'.heap.size A c ys bl) (nd : bl.Nodup) (u : Up w w') : ToLR s xs n w (.returned (.tuple #[.slice A ys.length c, .int .i64 m])) w' := by subst h1; subst h2; exact ⟨A, c, bl, rfl, h, nd, u⟩
end Go.Proofs.YtehhgogmbpdpbaaGreatDoor
