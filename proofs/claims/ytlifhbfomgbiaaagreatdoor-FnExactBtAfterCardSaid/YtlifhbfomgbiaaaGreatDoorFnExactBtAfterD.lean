/-
  Six closed facts of the law FnExactBtAfter: what its function reaches in the program, by the kernel.
-/
import Derived.Test.YtlifhbfomgbiaaaGreatDoorRows
import Derived.Test.YtlifhbfomgbiaaaGreatDoorCards
import Derived.Test.YtlifhbfomgbiaaaGreatDoorTie
import Derived.ProofKit
import Derived.JoinedOf
namespace Go.Proofs.YtlifhbfomgbiaaaGreatDoor.fnExactBtAfterDone
open Go.Proofs.YtlifhbfomgbiaaaGreatDoor

set_option maxHeartbeats 16000000 in
theorem cf1 : laidOutB Tryz.prog = true := by kernel_rfl
set_option maxHeartbeats 16000000 in
theorem cf2 : mapsRowed Tryz.prog = true := by kernel_rfl
set_option maxHeartbeats 16000000 in
theorem cf3 : (Rows.fnExactBtAfterRow.inPlace == Tryz.prog.inPlace 8) = true := by kernel_rfl
set_option maxHeartbeats 16000000 in
theorem cf4 : (Rows.fnExactBtAfterRow.unfollowed == Tryz.prog.unfollowed 8) = true := by kernel_rfl
set_option maxHeartbeats 16000000 in
theorem cf5 : (Rows.fnExactBtAfterRow.recurses == Tryz.prog.recurses 8) = true := by kernel_rfl
set_option maxHeartbeats 16000000 in
theorem cf6 : (Rows.fnExactBtAfterRow.named == Tryz.prog.varsNamed 8) = true := by kernel_rfl
end Go.Proofs.YtlifhbfomgbiaaaGreatDoor.fnExactBtAfterDone
