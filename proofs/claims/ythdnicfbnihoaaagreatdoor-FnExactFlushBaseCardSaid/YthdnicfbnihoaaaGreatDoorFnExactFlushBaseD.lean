/-
 Six closed facts of the law FnExactFlushBase: what its function reaches in the program,by the kernel.
-/
import Derived.Test.YthdnicfbnihoaaaGreatDoorRows
import Derived.Test.YthdnicfbnihoaaaGreatDoorCards
import Derived.Test.YthdnicfbnihoaaaGreatDoorTie
import Derived.ProofKit
import Derived.JoinedOf
set_option maxHeartbeats 16000000
namespace Go.Proofs.YthdnicfbnihoaaaGreatDoor.fnExactFlushBaseDone
open Go.Proofs.YthdnicfbnihoaaaGreatDoor
theorem cf1:laidOutB Tryz.prog=true:=by kernel_rfl
theorem cf2:mapsRowed Tryz.prog=true:=by kernel_rfl
theorem cf3:(Rows.fnExactFlushBaseRow.inPlace == Tryz.prog.inPlace 3)=true:=by kernel_rfl
theorem cf4:(Rows.fnExactFlushBaseRow.unfollowed == Tryz.prog.unfollowed 3)=true:=by kernel_rfl
theorem cf5:(Rows.fnExactFlushBaseRow.recurses == Tryz.prog.recurses 3)=true:=by kernel_rfl
theorem cf6:(Rows.fnExactFlushBaseRow.named == Tryz.prog.varsNamed 3)=true:=by kernel_rfl
end Go.Proofs.YthdnicfbnihoaaaGreatDoor.fnExactFlushBaseDone
