/-
  BtAfter: the program's.
-/
import Derived.Test.YtmkpfjlbambhgaaGreatDoorM1Rx
namespace Go.Proofs.YtmkpfjlbambhgaaGreatDoor
open Go.RowKit
set_option linter.unusedVariables false
set_option linter.unusedSimpArgs false

end Go.Proofs.YtmkpfjlbambhgaaGreatDoor
