/-
  Trees of pages: what a right tree is (plain).
-/
import Derived.Test.YtehhgogmbpdpbaaGreatDoorM1Qs
import Derived.Test.YtehhgogmbpdpbaaGreatDoorM1I
namespace Go.Proofs.YtehhgogmbpdpbaaGreatDoor
open Go.RowKit
set_option linter.unusedVariables false
set_option linter.unusedSimpArgs false

def pgAt (x : TBtree) (id : Int) : Option TPage := (x.2.find? (fun s => s.1 == id)).map (·.2)
abbrev TWalk : Type := List Int × Option Nat
/-- The ids that are met: each once, and each is there. -/
def MetOk (x : TBtree) (l : List Int) : Prop := l.Nodup ∧ ∀ i ∈ l, ∃ p, pgAt x i = some p
end Go.Proofs.YtehhgogmbpdpbaaGreatDoor
