/-
  Six closed facts of the law FnExactBtDepth: what its function reaches in the program, by the kernel.
-/
import Derived.Test.YtlifhbfomgbiaaaGreatDoorRows
import Derived.Test.YtlifhbfomgbiaaaGreatDoorCards
import Derived.Test.YtlifhbfomgbiaaaGreatDoorTie
import Derived.ProofKit
import Derived.JoinedOf
namespace Go.Proofs.YtlifhbfomgbiaaaGreatDoor.fnExactBtDepthDone
open Go.Proofs.YtlifhbfomgbiaaaGreatDoor

set_option maxHeartbeats 16000000 in
theorem cf1 : laidOutB Tryz.prog = true := by kernel_rfl
set_option maxHeartbeats 16000000 in
theorem cf2 : mapsRowed Tryz.prog = true := by kernel_rfl
set_option maxHeartbeats 16000000 in
theorem cf3 : (Rows.fnExactBtDepthRow.inPlace == Tryz.prog.inPlace 6) = true := by kernel_rfl
set_option maxHeartbeats 16000000 in
theorem cf4 : (Rows.fnExactBtDepthRow.unfollowed == Tryz.prog.unfollowed 6) = true := by kernel_rfl
set_option maxHeartbeats 16000000 in
theorem cf5 : (Rows.fnExactBtDepthRow.recurses == Tryz.prog.recurses 6) = true := by kernel_rfl
set_option maxHeartbeats 16000000 in
theorem cf6 : (Rows.fnExactBtDepthRow.named == Tryz.prog.varsNamed 6) = true := by kernel_rfl
end Go.Proofs.YtlifhbfomgbiaaaGreatDoor.fnExactBtDepthDone
