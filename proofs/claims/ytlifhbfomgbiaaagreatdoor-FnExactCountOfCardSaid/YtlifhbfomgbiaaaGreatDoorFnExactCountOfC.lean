/-
  Closed facts of the law FnExactCountOf: of the program, its row and its harness, by the kernel.
-/
import Derived.Test.YtlifhbfomgbiaaaGreatDoorRows
import Derived.Test.YtlifhbfomgbiaaaGreatDoorCards
import Derived.Test.YtlifhbfomgbiaaaGreatDoorTie
import Derived.ProofKit
import Derived.JoinedOf
namespace Go.Proofs.YtlifhbfomgbiaaaGreatDoor.fnExactCountOfDone
open Go.Proofs.YtlifhbfomgbiaaaGreatDoor

set_option maxHeartbeats 16000000 in
theorem closed : joinedFacts Tryz.prog 10 Tryz.f10 Rows.fnExactCountOfSpec Rows.fnExactCountOfRow = true := by
  unfold joinedFacts
  repeat' (with_reducible refine Bool.and_eq_true_iff.2 ⟨?_, ?_⟩)
  all_goals (as_aux_lemma => kernel_rfl)
theorem called : Tryz.prog.funcNamed Rows.fnExactCountOfRow.func = some 10 := by kernel_rfl
theorem inst : Tryz.f10.isInstance Tryz.prog Rows.fnExactCountOfRow.origin Rows.fnExactCountOfRow.targs := of_decide_eq_true (by kernel_rfl)
theorem wrap : Tryz.f10.isWrapper Tryz.prog Rows.fnExactCountOfRow.wrapper Rows.fnExactCountOfRow.mainSum := by unfold Func.isWrapper; first | (rw [if_pos (by decide +kernel)]; kernel_rfl) | (rw [if_neg (by decide +kernel)]; exact ⟨rfl, rfl⟩)
end Go.Proofs.YtlifhbfomgbiaaaGreatDoor.fnExactCountOfDone
