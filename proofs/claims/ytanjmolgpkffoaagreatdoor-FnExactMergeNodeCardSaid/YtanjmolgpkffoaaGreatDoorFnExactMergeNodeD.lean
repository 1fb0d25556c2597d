/-
  Six closed facts of the law FnExactMergeNode: what its function reaches in the program, by the kernel.
-/
import Derived.Test.YtanjmolgpkffoaaGreatDoorRows
import Derived.Test.YtanjmolgpkffoaaGreatDoorCards
import Derived.Test.YtanjmolgpkffoaaGreatDoorTie
import Derived.ProofKit
import Derived.JoinedOf
namespace Go.Proofs.YtanjmolgpkffoaaGreatDoor.fnExactMergeNodeDone
open Go.Proofs.YtanjmolgpkffoaaGreatDoor

set_option maxHeartbeats 16000000 in
theorem cf1 : laidOutB Tryz.prog = true := by kernel_rfl
set_option maxHeartbeats 16000000 in
theorem cf2 : mapsRowed Tryz.prog = true := by kernel_rfl
set_option maxHeartbeats 16000000 in
theorem cf3 : (Rows.fnExactMergeNodeRow.inPlace == Tryz.prog.inPlace 7) = true := by kernel_rfl
set_option maxHeartbeats 16000000 in
theorem cf4 : (Rows.fnExactMergeNodeRow.unfollowed == Tryz.prog.unfollowed 7) = true := by kernel_rfl
set_option maxHeartbeats 16000000 in
theorem cf5 : (Rows.fnExactMergeNodeRow.recurses == Tryz.prog.recurses 7) = true := by kernel_rfl
set_option maxHeartbeats 16000000 in
theorem cf6 : (Rows.fnExactMergeNodeRow.named == Tryz.prog.varsNamed 7) = true := by kernel_rfl
end Go.Proofs.YtanjmolgpkffoaaGreatDoor.fnExactMergeNodeDone
