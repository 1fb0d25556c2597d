/-
  Shared: the length of the common beginning of two strings; both sides.
  The reference's bytes and short texts: l15Byte, l19Text.
  The format of a page, in plain words.
-/
import Derived.Test.YtmkpfjlbambhgaaGreatDoorM1C
import Derived.Test.YtmkpfjlbambhgaaGreatDoorM1B
import Derived.BigQuiet
import Derived.Deep.QuietTactic
import Derived.Test.YtmkpfjlbambhgaaGreatDoorM1Qa
namespace Go.Proofs.YtmkpfjlbambhgaaGreatDoor
open Go.RowKit
set_option linter.unusedVariables false
set_option linter.unusedSimpArgs false

end Go.Proofs.YtmkpfjlbambhgaaGreatDoor

namespace Go.Proofs.YtmkpfjlbambhgaaGreatDoor
open Go.RowKit
set_option linter.unusedVariables false
set_option linter.unusedSimpArgs false

end Go.Proofs.YtmkpfjlbambhgaaGreatDoor

namespace Go.Proofs.YtmkpfjlbambhgaaGreatDoor
open Go.RowKit
set_option linter.unusedVariables false
set_option linter.unusedSimpArgs false

end Go.Proofs.YtmkpfjlbambhgaaGreatDoor
