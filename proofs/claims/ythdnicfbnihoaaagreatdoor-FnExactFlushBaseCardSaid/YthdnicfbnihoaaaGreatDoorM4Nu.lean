/-
 The notes of dirty pages at a pointer to a cache: the reference's and the program's.
-/
import Derived.Test.YthdnicfbnihoaaaGreatDoorM4Ns
import Derived.Test.YthdnicfbnihoaaaGreatDoorM4Nr
import Derived.Test.YthdnicfbnihoaaaGreatDoorM4Et
import Derived.Test.YthdnicfbnihoaaaGreatDoorShelf
namespace Go.Proofs.YthdnicfbnihoaaaGreatDoor
open Go.RowKit
set_option linter.unusedVariables false
set_option linter.unusedSimpArgs false
end Go.Proofs.YthdnicfbnihoaaaGreatDoor
