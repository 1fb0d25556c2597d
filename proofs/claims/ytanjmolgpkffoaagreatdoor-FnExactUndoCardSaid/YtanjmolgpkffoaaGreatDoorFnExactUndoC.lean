/-
  Closed facts of the law FnExactUndo: of the program, its row and its harness, by the kernel.
-/
import Derived.Test.YtanjmolgpkffoaaGreatDoorRows
import Derived.Test.YtanjmolgpkffoaaGreatDoorCards
import Derived.Test.YtanjmolgpkffoaaGreatDoorTie
import Derived.Test.YtanjmolgpkffoaaGreatDoorFnExactUndoD
import Derived.ProofKit
import Derived.JoinedOf
namespace Go.Proofs.YtanjmolgpkffoaaGreatDoor.fnExactUndoDone
open Go.Proofs.YtanjmolgpkffoaaGreatDoor

set_option maxHeartbeats 16000000 in
theorem closed : joinedFacts Tryz.prog 9 Tryz.f9 Rows.fnExactUndoSpec Rows.fnExactUndoRow = true := by
  unfold joinedFacts
  repeat' (with_reducible refine Bool.and_eq_true_iff.2 ⟨?_, ?_⟩)
  all_goals (first | (with_reducible exact cf1) | (with_reducible exact cf2) | (with_reducible exact cf3) | (with_reducible exact cf4) | (with_reducible exact cf5) | (with_reducible exact cf6) | (as_aux_lemma => kernel_rfl))
theorem called : Tryz.prog.funcNamed Rows.fnExactUndoRow.func = some 9 := by kernel_rfl
theorem inst : Tryz.f9.isInstance Tryz.prog Rows.fnExactUndoRow.origin Rows.fnExactUndoRow.targs := of_decide_eq_true (by kernel_rfl)
theorem wrap : Tryz.f9.isWrapper Tryz.prog Rows.fnExactUndoRow.wrapper Rows.fnExactUndoRow.mainSum := by unfold Func.isWrapper; first | (rw [if_pos (by decide +kernel)]; kernel_rfl) | (rw [if_neg (by decide +kernel)]; exact ⟨rfl, rfl⟩)
end Go.Proofs.YtanjmolgpkffoaaGreatDoor.fnExactUndoDone
