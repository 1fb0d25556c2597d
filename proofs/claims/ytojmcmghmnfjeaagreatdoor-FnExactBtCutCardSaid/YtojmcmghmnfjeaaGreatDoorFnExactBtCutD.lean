/-
  Six closed facts of the law FnExactBtCut: what its function reaches in the program, by the kernel.
-/
import Derived.Test.YtojmcmghmnfjeaaGreatDoorRows
import Derived.Test.YtojmcmghmnfjeaaGreatDoorCards
import Derived.Test.YtojmcmghmnfjeaaGreatDoorTie
import Derived.ProofKit
import Derived.JoinedOf
namespace Go.Proofs.YtojmcmghmnfjeaaGreatDoor.fnExactBtCutDone
open Go.Proofs.YtojmcmghmnfjeaaGreatDoor

set_option maxHeartbeats 16000000 in
theorem cf1 : laidOutB Tryz.prog = true := by kernel_rfl
set_option maxHeartbeats 16000000 in
theorem cf2 : mapsRowed Tryz.prog = true := by kernel_rfl
set_option maxHeartbeats 16000000 in
theorem cf3 : (Rows.fnExactBtCutRow.inPlace == Tryz.prog.inPlace 3) = true := by kernel_rfl
set_option maxHeartbeats 16000000 in
theorem cf4 : (Rows.fnExactBtCutRow.unfollowed == Tryz.prog.unfollowed 3) = true := by kernel_rfl
set_option maxHeartbeats 16000000 in
theorem cf5 : (Rows.fnExactBtCutRow.recurses == Tryz.prog.recurses 3) = true := by kernel_rfl
set_option maxHeartbeats 16000000 in
theorem cf6 : (Rows.fnExactBtCutRow.named == Tryz.prog.varsNamed 3) = true := by kernel_rfl
end Go.Proofs.YtojmcmghmnfjeaaGreatDoor.fnExactBtCutDone
