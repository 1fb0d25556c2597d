/-
  Six closed facts of the law FnExactBtRecords: what its function reaches in the program, by the kernel.
-/
import Derived.Test.YtpjcgglhlmifdaaGreatDoorRows
import Derived.Test.YtpjcgglhlmifdaaGreatDoorCards
import Derived.Test.YtpjcgglhlmifdaaGreatDoorTie
import Derived.ProofKit
import Derived.JoinedOf
namespace Go.Proofs.YtpjcgglhlmifdaaGreatDoor.fnExactBtRecordsDone
open Go.Proofs.YtpjcgglhlmifdaaGreatDoor

set_option maxHeartbeats 16000000 in
theorem cf1 : laidOutB Tryz.prog = true := by kernel_rfl
set_option maxHeartbeats 16000000 in
theorem cf2 : mapsRowed Tryz.prog = true := by kernel_rfl
set_option maxHeartbeats 16000000 in
theorem cf3 : (Rows.fnExactBtRecordsRow.inPlace == Tryz.prog.inPlace 3) = true := by kernel_rfl
set_option maxHeartbeats 16000000 in
theorem cf4 : (Rows.fnExactBtRecordsRow.unfollowed == Tryz.prog.unfollowed 3) = true := by kernel_rfl
set_option maxHeartbeats 16000000 in
theorem cf5 : (Rows.fnExactBtRecordsRow.recurses == Tryz.prog.recurses 3) = true := by kernel_rfl
set_option maxHeartbeats 16000000 in
theorem cf6 : (Rows.fnExactBtRecordsRow.named == Tryz.prog.varsNamed 3) = true := by kernel_rfl
end Go.Proofs.YtpjcgglhlmifdaaGreatDoor.fnExactBtRecordsDone
