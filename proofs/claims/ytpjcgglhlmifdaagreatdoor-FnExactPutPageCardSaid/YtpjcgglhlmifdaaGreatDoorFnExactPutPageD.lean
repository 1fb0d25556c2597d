/-
  Six closed facts of the law FnExactPutPage: what its function reaches in the program, by the kernel.
-/
import Derived.Test.YtpjcgglhlmifdaaGreatDoorRows
import Derived.Test.YtpjcgglhlmifdaaGreatDoorCards
import Derived.Test.YtpjcgglhlmifdaaGreatDoorTie
import Derived.ProofKit
import Derived.JoinedOf
namespace Go.Proofs.YtpjcgglhlmifdaaGreatDoor.fnExactPutPageDone
open Go.Proofs.YtpjcgglhlmifdaaGreatDoor

set_option maxHeartbeats 16000000 in
theorem cf1 : laidOutB Tryz.prog = true := by kernel_rfl
set_option maxHeartbeats 16000000 in
theorem cf2 : mapsRowed Tryz.prog = true := by kernel_rfl
set_option maxHeartbeats 16000000 in
theorem cf3 : (Rows.fnExactPutPageRow.inPlace == Tryz.prog.inPlace 8) = true := by kernel_rfl
set_option maxHeartbeats 16000000 in
theorem cf4 : (Rows.fnExactPutPageRow.unfollowed == Tryz.prog.unfollowed 8) = true := by kernel_rfl
set_option maxHeartbeats 16000000 in
theorem cf5 : (Rows.fnExactPutPageRow.recurses == Tryz.prog.recurses 8) = true := by kernel_rfl
set_option maxHeartbeats 16000000 in
theorem cf6 : (Rows.fnExactPutPageRow.named == Tryz.prog.varsNamed 8) = true := by kernel_rfl
end Go.Proofs.YtpjcgglhlmifdaaGreatDoor.fnExactPutPageDone
