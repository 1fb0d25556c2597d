/-
  The tree of a list of records (plain; for BtTree and TreeIn).
-/
import Derived.Test.YtehhgogmbpdpbaaGreatDoorM1Wag
import Derived.Test.YtehhgogmbpdpbaaGreatDoorM1Pv
namespace Go.Proofs.YtehhgogmbpdpbaaGreatDoor
open Go.RowKit
set_option linter.unusedVariables false
set_option linter.unusedSimpArgs false

end Go.Proofs.YtehhgogmbpdpbaaGreatDoor
