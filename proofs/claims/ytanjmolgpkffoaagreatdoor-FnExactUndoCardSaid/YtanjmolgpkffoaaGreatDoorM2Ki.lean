/-
  ChangeOk; one change of a tree: both sides.
-/
import Derived.Test.YtanjmolgpkffoaaGreatDoorM2Kh
namespace Go.Proofs.YtanjmolgpkffoaaGreatDoor
open Go.RowKit
set_option linter.unusedVariables false
set_option linter.unusedSimpArgs false

end Go.Proofs.YtanjmolgpkffoaaGreatDoor
