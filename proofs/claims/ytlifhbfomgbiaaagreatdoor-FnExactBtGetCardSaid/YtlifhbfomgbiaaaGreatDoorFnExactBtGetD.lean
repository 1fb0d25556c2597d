/-
  Six closed facts of the law FnExactBtGet: what its function reaches in the program, by the kernel.
-/
import Derived.Test.YtlifhbfomgbiaaaGreatDoorRows
import Derived.Test.YtlifhbfomgbiaaaGreatDoorCards
import Derived.Test.YtlifhbfomgbiaaaGreatDoorTie
import Derived.ProofKit
import Derived.JoinedOf
namespace Go.Proofs.YtlifhbfomgbiaaaGreatDoor.fnExactBtGetDone
open Go.Proofs.YtlifhbfomgbiaaaGreatDoor

set_option maxHeartbeats 16000000 in
theorem cf1 : laidOutB Tryz.prog = true := by kernel_rfl
set_option maxHeartbeats 16000000 in
theorem cf2 : mapsRowed Tryz.prog = true := by kernel_rfl
set_option maxHeartbeats 16000000 in
theorem cf3 : (Rows.fnExactBtGetRow.inPlace == Tryz.prog.inPlace 7) = true := by kernel_rfl
set_option maxHeartbeats 16000000 in
theorem cf4 : (Rows.fnExactBtGetRow.unfollowed == Tryz.prog.unfollowed 7) = true := by kernel_rfl
set_option maxHeartbeats 16000000 in
theorem cf5 : (Rows.fnExactBtGetRow.recurses == Tryz.prog.recurses 7) = true := by kernel_rfl
set_option maxHeartbeats 16000000 in
theorem cf6 : (Rows.fnExactBtGetRow.named == Tryz.prog.varsNamed 7) = true := by kernel_rfl
end Go.Proofs.YtlifhbfomgbiaaaGreatDoor.fnExactBtGetDone
