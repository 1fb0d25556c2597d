/-
  BtAfter: the program's.
-/
import Derived.Test.YtpjcgglhlmifdaaGreatDoorM1Rx
namespace Go.Proofs.YtpjcgglhlmifdaaGreatDoor
open Go.RowKit
set_option linter.unusedVariables false
set_option linter.unusedSimpArgs false

end Go.Proofs.YtpjcgglhlmifdaaGreatDoor
