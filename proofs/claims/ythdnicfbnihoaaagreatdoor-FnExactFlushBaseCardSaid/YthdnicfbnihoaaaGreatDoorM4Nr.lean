/-
 A sorted row,a compacted row: owned lists of integers behind slices.Sort and slices.Compact.
-/
import Derived.Test.YthdnicfbnihoaaaGreatDoorM4Fs
import Derived.Sort.Grow
import Derived.Sort.Row
namespace Go.Proofs.YthdnicfbnihoaaaGreatDoor
open Go.RowKit
set_option linter.unusedVariables false
set_option linter.unusedSimpArgs false
end Go.Proofs.YthdnicfbnihoaaaGreatDoor
