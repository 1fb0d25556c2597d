/-
 FreeSlots: the program's and the reference's compute one function of a cache.
-/
import Derived.Test.YthdnicfbnihoaaaGreatDoorM4Ck
namespace Go.Proofs.YthdnicfbnihoaaaGreatDoor
open Go.RowKit
set_option linter.unusedVariables false
set_option linter.unusedSimpArgs false
theorem cinfo_I:(Tryz.prog.info? 2).map (fun i=>(i.zero,i.size,i.bytes))=some (some (.int .i64 0),1,8):=by kernel_rfl
end Go.Proofs.YthdnicfbnihoaaaGreatDoor
