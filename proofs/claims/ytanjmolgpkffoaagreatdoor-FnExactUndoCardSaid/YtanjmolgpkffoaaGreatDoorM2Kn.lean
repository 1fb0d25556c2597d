/-
  DoChanges: the program's side.
-/
import Derived.Test.YtanjmolgpkffoaaGreatDoorM2Km
namespace Go.Proofs.YtanjmolgpkffoaaGreatDoor
open Go.RowKit
set_option linter.unusedVariables false
set_option linter.unusedSimpArgs false

end Go.Proofs.YtanjmolgpkffoaaGreatDoor
