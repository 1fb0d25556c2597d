/-
  BtAfter: the reference's.
-/
import Derived.Test.YtpjcgglhlmifdaaGreatDoorM1Rh
namespace Go.Proofs.YtpjcgglhlmifdaaGreatDoor
open Go.RowKit
set_option linter.unusedVariables false
set_option linter.unusedSimpArgs false

end Go.Proofs.YtpjcgglhlmifdaaGreatDoor
