/-
  Six closed facts of the law FnExactSalvage: what its function reaches in the program, by the kernel.
-/
import Derived.Test.YtehhgogmbpdpbaaGreatDoorRows
import Derived.Test.YtehhgogmbpdpbaaGreatDoorCards
import Derived.Test.YtehhgogmbpdpbaaGreatDoorTie
import Derived.ProofKit
import Derived.JoinedOf
namespace Go.Proofs.YtehhgogmbpdpbaaGreatDoor.fnExactSalvageDone
open Go.Proofs.YtehhgogmbpdpbaaGreatDoor

set_option maxHeartbeats 16000000 in
theorem cf1 : laidOutB Tryz.prog = true := by kernel_rfl
set_option maxHeartbeats 16000000 in
theorem cf2 : mapsRowed Tryz.prog = true := by kernel_rfl
set_option maxHeartbeats 16000000 in
theorem cf3 : (Rows.fnExactSalvageRow.inPlace == Tryz.prog.inPlace 4) = true := by kernel_rfl
set_option maxHeartbeats 16000000 in
theorem cf4 : (Rows.fnExactSalvageRow.unfollowed == Tryz.prog.unfollowed 4) = true := by kernel_rfl
set_option maxHeartbeats 16000000 in
theorem cf5 : (Rows.fnExactSalvageRow.recurses == Tryz.prog.recurses 4) = true := by kernel_rfl
set_option maxHeartbeats 16000000 in
theorem cf6 : (Rows.fnExactSalvageRow.named == Tryz.prog.varsNamed 4) = true := by kernel_rfl
end Go.Proofs.YtehhgogmbpdpbaaGreatDoor.fnExactSalvageDone
