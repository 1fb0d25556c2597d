/-
  DoChange: both sides' contracts.
-/
import Derived.Test.YtanjmolgpkffoaaGreatDoorM2Kj
namespace Go.Proofs.YtanjmolgpkffoaaGreatDoor
open Go.RowKit
set_option linter.unusedVariables false
set_option linter.unusedSimpArgs false

end Go.Proofs.YtanjmolgpkffoaaGreatDoor
