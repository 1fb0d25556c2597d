/-
 The reference's ids put to their places: l00Put,l18Note.
-/
import Derived.Test.YthdnicfbnihoaaaGreatDoorM4Nq
import Derived.Test.YthdnicfbnihoaaaGreatDoorM4Fs
import Derived.Test.YthdnicfbnihoaaaGreatDoorM4K
namespace Go.Proofs.YthdnicfbnihoaaaGreatDoor
open Go.RowKit
set_option linter.unusedVariables false
set_option linter.unusedSimpArgs false
--@begin f{spec.l00Put}
end Go.Proofs.YthdnicfbnihoaaaGreatDoor
