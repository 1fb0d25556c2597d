/-
 Shared: the length of the common beginning of two strings;both sides.
 The reference's bytes and short texts: l15Byte,l19Text.
 The format of a page,in plain words.
-/
import Derived.Test.YthdnicfbnihoaaaGreatDoorM4C
import Derived.Test.YthdnicfbnihoaaaGreatDoorM4B
import Derived.BigQuiet
import Derived.Deep.QuietTactic
import Derived.Test.YthdnicfbnihoaaaGreatDoorM4Qa
namespace Go.Proofs.YthdnicfbnihoaaaGreatDoor
open Go.RowKit
set_option linter.unusedVariables false
set_option linter.unusedSimpArgs false
end Go.Proofs.YthdnicfbnihoaaaGreatDoor
