/-
  One change of a tree: both sides; DoChange.
-/
import Derived.Test.YtanjmolgpkffoaaGreatDoorM2Ki
namespace Go.Proofs.YtanjmolgpkffoaaGreatDoor
open Go.RowKit
set_option linter.unusedVariables false
set_option linter.unusedSimpArgs false

end Go.Proofs.YtanjmolgpkffoaaGreatDoor
