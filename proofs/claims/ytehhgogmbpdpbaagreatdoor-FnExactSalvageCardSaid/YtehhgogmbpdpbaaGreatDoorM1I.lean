/-
  Shared: the length of the common beginning of two strings; both sides.
  The reference's bytes and short texts: l15Byte, l19Text.
  The format of a page, in plain words.
-/
import Derived.Test.YtehhgogmbpdpbaaGreatDoorM1C
import Derived.Test.YtehhgogmbpdpbaaGreatDoorM1B
import Derived.BigQuiet
import Derived.Deep.QuietTactic
import Derived.Test.YtehhgogmbpdpbaaGreatDoorM1Qa
namespace Go.Proofs.YtehhgogmbpdpbaaGreatDoor
open Go.RowKit
set_option linter.unusedVariables false
set_option linter.unusedSimpArgs false

end Go.Proofs.YtehhgogmbpdpbaaGreatDoor

namespace Go.Proofs.YtehhgogmbpdpbaaGreatDoor
open Go.RowKit
set_option linter.unusedVariables false
set_option linter.unusedSimpArgs false

end Go.Proofs.YtehhgogmbpdpbaaGreatDoor

namespace Go.Proofs.YtehhgogmbpdpbaaGreatDoor
open Go.RowKit
set_option linter.unusedVariables false
set_option linter.unusedSimpArgs false

theorem page_len {x : TPage} (h : pageB x = true) : x.2.1.length ≤ 6 := by
  rcases Nat.lt_or_ge 6 x.2.1.length with h6 | h6
  · rw [page_long (by omega)] at h; cases h
  · exact h6
end Go.Proofs.YtehhgogmbpdpbaaGreatDoor
