/-
  Six closed facts of the law FnExactReached: what its function reaches in the program, by the kernel.
-/
import Derived.Test.YtpjcgglhlmifdaaGreatDoorRows
import Derived.Test.YtpjcgglhlmifdaaGreatDoorCards
import Derived.Test.YtpjcgglhlmifdaaGreatDoorTie
import Derived.ProofKit
import Derived.JoinedOf
namespace Go.Proofs.YtpjcgglhlmifdaaGreatDoor.fnExactReachedDone
open Go.Proofs.YtpjcgglhlmifdaaGreatDoor

set_option maxHeartbeats 16000000 in
theorem cf1 : laidOutB Tryz.prog = true := by kernel_rfl
set_option maxHeartbeats 16000000 in
theorem cf2 : mapsRowed Tryz.prog = true := by kernel_rfl
set_option maxHeartbeats 16000000 in
theorem cf3 : (Rows.fnExactReachedRow.inPlace == Tryz.prog.inPlace 5) = true := by kernel_rfl
set_option maxHeartbeats 16000000 in
theorem cf4 : (Rows.fnExactReachedRow.unfollowed == Tryz.prog.unfollowed 5) = true := by kernel_rfl
set_option maxHeartbeats 16000000 in
theorem cf5 : (Rows.fnExactReachedRow.recurses == Tryz.prog.recurses 5) = true := by kernel_rfl
set_option maxHeartbeats 16000000 in
theorem cf6 : (Rows.fnExactReachedRow.named == Tryz.prog.varsNamed 5) = true := by kernel_rfl
end Go.Proofs.YtpjcgglhlmifdaaGreatDoor.fnExactReachedDone
