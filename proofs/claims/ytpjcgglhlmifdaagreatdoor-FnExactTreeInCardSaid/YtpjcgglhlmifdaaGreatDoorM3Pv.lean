/-
  PutNode: both sides' contracts.
-/
import Derived.Test.YtpjcgglhlmifdaaGreatDoorM3Pn
import Derived.Test.YtpjcgglhlmifdaaGreatDoorM3Po
import Derived.Test.YtpjcgglhlmifdaaGreatDoorM3Lm
namespace Go.Proofs.YtpjcgglhlmifdaaGreatDoor
open Go.RowKit
set_option linter.unusedVariables false
set_option linter.unusedSimpArgs false

end Go.Proofs.YtpjcgglhlmifdaaGreatDoor
