/-
  Contracts of the held helpers.
  NewBtree: the program's and the reference's give one tree in new memory.
-/
import Derived.Test.YtmkpfjlbambhgaaGreatDoorM1Lm
import Derived.Test.YtmkpfjlbambhgaaGreatDoorM1Le
namespace Go.Proofs.YtmkpfjlbambhgaaGreatDoor
open Go.RowKit
set_option linter.unusedVariables false
set_option linter.unusedSimpArgs false

end Go.Proofs.YtmkpfjlbambhgaaGreatDoor

namespace Go.Proofs.YtmkpfjlbambhgaaGreatDoor
open Go.RowKit
set_option linter.unusedVariables false

end Go.Proofs.YtmkpfjlbambhgaaGreatDoor
