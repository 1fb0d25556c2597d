/-
 Ids put to their places,once: the reference's way and the program's way (sort,compact),in plain words.
-/
import Derived.Test.YthdnicfbnihoaaaGreatDoorM4Ck
import Derived.Lib.SlicesCompact
namespace Go.Proofs.YthdnicfbnihoaaaGreatDoor
open Go.RowKit
set_option linter.unusedVariables false
set_option linter.unusedSimpArgs false
end Go.Proofs.YthdnicfbnihoaaaGreatDoor
