/-
  Texts: their test of equality is the equality.
-/
import Derived.Test.YtehhgogmbpdpbaaGreatDoorM1A
namespace Go.Proofs.YtehhgogmbpdpbaaGreatDoor
theorem bytes_beq (a b : ByteArray) : (a == b) = (a.data == b.data) := rfl
instance lawfulBytes : LawfulBEq ByteArray where
  eq_of_beq {a b} h := by rw [bytes_beq] at h; exact ByteArray.ext (eq_of_beq h)
  rfl {a} := by rw [bytes_beq]; exact beq_self_eq_true _
end Go.Proofs.YtehhgogmbpdpbaaGreatDoor
