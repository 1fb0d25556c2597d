/-
  Six closed facts of the law FnExactTreeIn: what its function reaches in the program, by the kernel.
-/
import Derived.Test.YtpjcgglhlmifdaaGreatDoorRows
import Derived.Test.YtpjcgglhlmifdaaGreatDoorCards
import Derived.Test.YtpjcgglhlmifdaaGreatDoorTie
import Derived.ProofKit
import Derived.JoinedOf
namespace Go.Proofs.YtpjcgglhlmifdaaGreatDoor.fnExactTreeInDone
open Go.Proofs.YtpjcgglhlmifdaaGreatDoor

set_option maxHeartbeats 16000000 in
theorem cf1 : laidOutB Tryz.prog = true := by kernel_rfl
set_option maxHeartbeats 16000000 in
theorem cf2 : mapsRowed Tryz.prog = true := by kernel_rfl
set_option maxHeartbeats 16000000 in
theorem cf3 : (Rows.fnExactTreeInRow.inPlace == Tryz.prog.inPlace 7) = true := by kernel_rfl
set_option maxHeartbeats 16000000 in
theorem cf4 : (Rows.fnExactTreeInRow.unfollowed == Tryz.prog.unfollowed 7) = true := by kernel_rfl
set_option maxHeartbeats 16000000 in
theorem cf5 : (Rows.fnExactTreeInRow.recurses == Tryz.prog.recurses 7) = true := by kernel_rfl
set_option maxHeartbeats 16000000 in
theorem cf6 : (Rows.fnExactTreeInRow.named == Tryz.prog.varsNamed 7) = true := by kernel_rfl
end Go.Proofs.YtpjcgglhlmifdaaGreatDoor.fnExactTreeInDone
