/-
  DoChanges: both sides' contracts.
-/
import Derived.Test.YtanjmolgpkffoaaGreatDoorM2Kl
namespace Go.Proofs.YtanjmolgpkffoaaGreatDoor
open Go.RowKit
set_option linter.unusedVariables false
set_option linter.unusedSimpArgs false

theorem up5 {w w' : World} (u : Up w w') {a b c d e : Addr} {x y z t s : Value} (h : w.cell? a = some x ∧ w.cell? b = some y ∧ w.cell? c = some z ∧ w.cell? d = some t ∧ w.cell? e = some s) : w'.cell? a = some x ∧ w'.cell? b = some y ∧ w'.cell? c = some z ∧ w'.cell? d = some t ∧ w'.cell? e = some s :=
  ⟨(u.cell (cell_lt h.1)).trans h.1, (u.cell (cell_lt h.2.1)).trans h.2.1, (u.cell (cell_lt h.2.2.1)).trans h.2.2.1, (u.cell (cell_lt h.2.2.2.1)).trans h.2.2.2.1, (u.cell (cell_lt h.2.2.2.2)).trans h.2.2.2.2⟩
end Go.Proofs.YtanjmolgpkffoaaGreatDoor
