/-
  SlotsOk: the reference's.
-/
import Derived.Test.YtehhgogmbpdpbaaGreatDoorM1Qs
import Derived.Test.YtehhgogmbpdpbaaGreatDoorM1J
import Derived.Test.YtehhgogmbpdpbaaGreatDoorM1Le
namespace Go.Proofs.YtehhgogmbpdpbaaGreatDoor
open Go.RowKit
set_option linter.unusedVariables false
set_option linter.unusedSimpArgs false

end Go.Proofs.YtehhgogmbpdpbaaGreatDoor
