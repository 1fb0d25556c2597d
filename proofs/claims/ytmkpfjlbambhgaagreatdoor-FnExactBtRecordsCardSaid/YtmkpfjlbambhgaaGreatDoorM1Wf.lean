/-
  BtDepth: the reference's and the program's.
-/
import Derived.Test.YtmkpfjlbambhgaaGreatDoorM1Wd
namespace Go.Proofs.YtmkpfjlbambhgaaGreatDoor
open Go.RowKit
set_option linter.unusedVariables false
set_option linter.unusedSimpArgs false

end Go.Proofs.YtmkpfjlbambhgaaGreatDoor
