/-
  Six closed facts of the law FnExactSlotsOk: what its function reaches in the program, by the kernel.
-/
import Derived.Test.YtpjcgglhlmifdaaGreatDoorRows
import Derived.Test.YtpjcgglhlmifdaaGreatDoorCards
import Derived.Test.YtpjcgglhlmifdaaGreatDoorTie
import Derived.ProofKit
import Derived.JoinedOf
namespace Go.Proofs.YtpjcgglhlmifdaaGreatDoor.fnExactSlotsOkDone
open Go.Proofs.YtpjcgglhlmifdaaGreatDoor

set_option maxHeartbeats 16000000 in
theorem cf1 : laidOutB Tryz.prog = true := by kernel_rfl
set_option maxHeartbeats 16000000 in
theorem cf2 : mapsRowed Tryz.prog = true := by kernel_rfl
set_option maxHeartbeats 16000000 in
theorem cf3 : (Rows.fnExactSlotsOkRow.inPlace == Tryz.prog.inPlace 9) = true := by kernel_rfl
set_option maxHeartbeats 16000000 in
theorem cf4 : (Rows.fnExactSlotsOkRow.unfollowed == Tryz.prog.unfollowed 9) = true := by kernel_rfl
set_option maxHeartbeats 16000000 in
theorem cf5 : (Rows.fnExactSlotsOkRow.recurses == Tryz.prog.recurses 9) = true := by kernel_rfl
set_option maxHeartbeats 16000000 in
theorem cf6 : (Rows.fnExactSlotsOkRow.named == Tryz.prog.varsNamed 9) = true := by kernel_rfl
end Go.Proofs.YtpjcgglhlmifdaaGreatDoor.fnExactSlotsOkDone
