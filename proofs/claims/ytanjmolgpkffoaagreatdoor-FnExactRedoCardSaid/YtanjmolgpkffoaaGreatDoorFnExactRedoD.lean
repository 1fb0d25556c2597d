/-
  Six closed facts of the law FnExactRedo: what its function reaches in the program, by the kernel.
-/
import Derived.Test.YtanjmolgpkffoaaGreatDoorRows
import Derived.Test.YtanjmolgpkffoaaGreatDoorCards
import Derived.Test.YtanjmolgpkffoaaGreatDoorTie
import Derived.ProofKit
import Derived.JoinedOf
namespace Go.Proofs.YtanjmolgpkffoaaGreatDoor.fnExactRedoDone
open Go.Proofs.YtanjmolgpkffoaaGreatDoor

set_option maxHeartbeats 16000000 in
theorem cf1 : laidOutB Tryz.prog = true := by kernel_rfl
set_option maxHeartbeats 16000000 in
theorem cf2 : mapsRowed Tryz.prog = true := by kernel_rfl
set_option maxHeartbeats 16000000 in
theorem cf3 : (Rows.fnExactRedoRow.inPlace == Tryz.prog.inPlace 8) = true := by kernel_rfl
set_option maxHeartbeats 16000000 in
theorem cf4 : (Rows.fnExactRedoRow.unfollowed == Tryz.prog.unfollowed 8) = true := by kernel_rfl
set_option maxHeartbeats 16000000 in
theorem cf5 : (Rows.fnExactRedoRow.recurses == Tryz.prog.recurses 8) = true := by kernel_rfl
set_option maxHeartbeats 16000000 in
theorem cf6 : (Rows.fnExactRedoRow.named == Tryz.prog.varsNamed 8) = true := by kernel_rfl
end Go.Proofs.YtanjmolgpkffoaaGreatDoor.fnExactRedoDone
