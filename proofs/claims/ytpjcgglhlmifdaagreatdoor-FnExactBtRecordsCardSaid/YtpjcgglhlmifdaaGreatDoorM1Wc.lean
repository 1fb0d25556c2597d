/-
  The way down to a key: the reference's search in a page, and its way.
-/
import Derived.Test.YtpjcgglhlmifdaaGreatDoorM1Wa
namespace Go.Proofs.YtpjcgglhlmifdaaGreatDoor
open Go.RowKit
set_option linter.unusedVariables false
set_option linter.unusedSimpArgs false

end Go.Proofs.YtpjcgglhlmifdaaGreatDoor
