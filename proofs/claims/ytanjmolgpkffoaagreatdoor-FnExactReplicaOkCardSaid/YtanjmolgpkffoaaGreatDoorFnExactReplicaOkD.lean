/-
  Six closed facts of the law FnExactReplicaOk: what its function reaches in the program, by the kernel.
-/
import Derived.Test.YtanjmolgpkffoaaGreatDoorRows
import Derived.Test.YtanjmolgpkffoaaGreatDoorCards
import Derived.Test.YtanjmolgpkffoaaGreatDoorTie
import Derived.ProofKit
import Derived.JoinedOf
namespace Go.Proofs.YtanjmolgpkffoaaGreatDoor.fnExactReplicaOkDone
open Go.Proofs.YtanjmolgpkffoaaGreatDoor

set_option maxHeartbeats 16000000 in
theorem cf1 : laidOutB Tryz.prog = true := by kernel_rfl
set_option maxHeartbeats 16000000 in
theorem cf2 : mapsRowed Tryz.prog = true := by kernel_rfl
set_option maxHeartbeats 16000000 in
theorem cf3 : (Rows.fnExactReplicaOkRow.inPlace == Tryz.prog.inPlace 6) = true := by kernel_rfl
set_option maxHeartbeats 16000000 in
theorem cf4 : (Rows.fnExactReplicaOkRow.unfollowed == Tryz.prog.unfollowed 6) = true := by kernel_rfl
set_option maxHeartbeats 16000000 in
theorem cf5 : (Rows.fnExactReplicaOkRow.recurses == Tryz.prog.recurses 6) = true := by kernel_rfl
set_option maxHeartbeats 16000000 in
theorem cf6 : (Rows.fnExactReplicaOkRow.named == Tryz.prog.varsNamed 6) = true := by kernel_rfl
end Go.Proofs.YtanjmolgpkffoaaGreatDoor.fnExactReplicaOkDone
