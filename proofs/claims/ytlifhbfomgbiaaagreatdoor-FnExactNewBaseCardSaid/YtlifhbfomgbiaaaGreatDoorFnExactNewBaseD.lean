/-
  Six closed facts of the law FnExactNewBase: what its function reaches in the program, by the kernel.
-/
import Derived.Test.YtlifhbfomgbiaaaGreatDoorRows
import Derived.Test.YtlifhbfomgbiaaaGreatDoorCards
import Derived.Test.YtlifhbfomgbiaaaGreatDoorTie
import Derived.ProofKit
import Derived.JoinedOf
namespace Go.Proofs.YtlifhbfomgbiaaaGreatDoor.fnExactNewBaseDone
open Go.Proofs.YtlifhbfomgbiaaaGreatDoor

set_option maxHeartbeats 16000000 in
theorem cf1 : laidOutB Tryz.prog = true := by kernel_rfl
set_option maxHeartbeats 16000000 in
theorem cf2 : mapsRowed Tryz.prog = true := by kernel_rfl
set_option maxHeartbeats 16000000 in
theorem cf3 : (Rows.fnExactNewBaseRow.inPlace == Tryz.prog.inPlace 4) = true := by kernel_rfl
set_option maxHeartbeats 16000000 in
theorem cf4 : (Rows.fnExactNewBaseRow.unfollowed == Tryz.prog.unfollowed 4) = true := by kernel_rfl
set_option maxHeartbeats 16000000 in
theorem cf5 : (Rows.fnExactNewBaseRow.recurses == Tryz.prog.recurses 4) = true := by kernel_rfl
set_option maxHeartbeats 16000000 in
theorem cf6 : (Rows.fnExactNewBaseRow.named == Tryz.prog.varsNamed 4) = true := by kernel_rfl
end Go.Proofs.YtlifhbfomgbiaaaGreatDoor.fnExactNewBaseDone
