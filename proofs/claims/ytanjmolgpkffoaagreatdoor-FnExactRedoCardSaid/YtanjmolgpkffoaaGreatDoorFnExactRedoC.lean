/-
  Closed facts of the law FnExactRedo: of the program, its row and its harness, by the kernel.
-/
import Derived.Test.YtanjmolgpkffoaaGreatDoorRows
import Derived.Test.YtanjmolgpkffoaaGreatDoorCards
import Derived.Test.YtanjmolgpkffoaaGreatDoorTie
import Derived.Test.YtanjmolgpkffoaaGreatDoorFnExactRedoD
import Derived.ProofKit
import Derived.JoinedOf
namespace Go.Proofs.YtanjmolgpkffoaaGreatDoor.fnExactRedoDone
open Go.Proofs.YtanjmolgpkffoaaGreatDoor

set_option maxHeartbeats 16000000 in
theorem closed : joinedFacts Tryz.prog 8 Tryz.f8 Rows.fnExactRedoSpec Rows.fnExactRedoRow = true := by
  unfold joinedFacts
  repeat' (with_reducible refine Bool.and_eq_true_iff.2 ⟨?_, ?_⟩)
  all_goals (first | (with_reducible exact cf1) | (with_reducible exact cf2) | (with_reducible exact cf3) | (with_reducible exact cf4) | (with_reducible exact cf5) | (with_reducible exact cf6) | (as_aux_lemma => kernel_rfl))
theorem called : Tryz.prog.funcNamed Rows.fnExactRedoRow.func = some 8 := by kernel_rfl
theorem inst : Tryz.f8.isInstance Tryz.prog Rows.fnExactRedoRow.origin Rows.fnExactRedoRow.targs := of_decide_eq_true (by kernel_rfl)
theorem wrap : Tryz.f8.isWrapper Tryz.prog Rows.fnExactRedoRow.wrapper Rows.fnExactRedoRow.mainSum := by unfold Func.isWrapper; first | (rw [if_pos (by decide +kernel)]; kernel_rfl) | (rw [if_neg (by decide +kernel)]; exact ⟨rfl, rfl⟩)
end Go.Proofs.YtanjmolgpkffoaaGreatDoor.fnExactRedoDone
