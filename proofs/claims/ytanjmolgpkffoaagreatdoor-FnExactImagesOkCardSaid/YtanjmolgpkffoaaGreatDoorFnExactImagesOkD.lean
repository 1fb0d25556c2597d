/-
  Six closed facts of the law FnExactImagesOk: what its function reaches in the program, by the kernel.
-/
import Derived.Test.YtanjmolgpkffoaaGreatDoorRows
import Derived.Test.YtanjmolgpkffoaaGreatDoorCards
import Derived.Test.YtanjmolgpkffoaaGreatDoorTie
import Derived.ProofKit
import Derived.JoinedOf
namespace Go.Proofs.YtanjmolgpkffoaaGreatDoor.fnExactImagesOkDone
open Go.Proofs.YtanjmolgpkffoaaGreatDoor

set_option maxHeartbeats 16000000 in
theorem cf1 : laidOutB Tryz.prog = true := by kernel_rfl
set_option maxHeartbeats 16000000 in
theorem cf2 : mapsRowed Tryz.prog = true := by kernel_rfl
set_option maxHeartbeats 16000000 in
theorem cf3 : (Rows.fnExactImagesOkRow.inPlace == Tryz.prog.inPlace 4) = true := by kernel_rfl
set_option maxHeartbeats 16000000 in
theorem cf4 : (Rows.fnExactImagesOkRow.unfollowed == Tryz.prog.unfollowed 4) = true := by kernel_rfl
set_option maxHeartbeats 16000000 in
theorem cf5 : (Rows.fnExactImagesOkRow.recurses == Tryz.prog.recurses 4) = true := by kernel_rfl
set_option maxHeartbeats 16000000 in
theorem cf6 : (Rows.fnExactImagesOkRow.named == Tryz.prog.varsNamed 4) = true := by kernel_rfl
end Go.Proofs.YtanjmolgpkffoaaGreatDoor.fnExactImagesOkDone
