/-
  Six closed facts of the law FnExactImagesOf: what its function reaches in the program, by the kernel.
-/
import Derived.Test.YtehhgogmbpdpbaaGreatDoorRows
import Derived.Test.YtehhgogmbpdpbaaGreatDoorCards
import Derived.Test.YtehhgogmbpdpbaaGreatDoorTie
import Derived.ProofKit
import Derived.JoinedOf
namespace Go.Proofs.YtehhgogmbpdpbaaGreatDoor.fnExactImagesOfDone
open Go.Proofs.YtehhgogmbpdpbaaGreatDoor

set_option maxHeartbeats 16000000 in
theorem cf1 : laidOutB Tryz.prog = true := by kernel_rfl
set_option maxHeartbeats 16000000 in
theorem cf2 : mapsRowed Tryz.prog = true := by kernel_rfl
set_option maxHeartbeats 16000000 in
theorem cf3 : (Rows.fnExactImagesOfRow.inPlace == Tryz.prog.inPlace 3) = true := by kernel_rfl
set_option maxHeartbeats 16000000 in
theorem cf4 : (Rows.fnExactImagesOfRow.unfollowed == Tryz.prog.unfollowed 3) = true := by kernel_rfl
set_option maxHeartbeats 16000000 in
theorem cf5 : (Rows.fnExactImagesOfRow.recurses == Tryz.prog.recurses 3) = true := by kernel_rfl
set_option maxHeartbeats 16000000 in
theorem cf6 : (Rows.fnExactImagesOfRow.named == Tryz.prog.varsNamed 3) = true := by kernel_rfl
end Go.Proofs.YtehhgogmbpdpbaaGreatDoor.fnExactImagesOfDone
