/-
  Closed facts of the law FnExactBtCut: of the program, its row and its harness, by the kernel.
-/
import Derived.Test.YtojmcmghmnfjeaaGreatDoorRows
import Derived.Test.YtojmcmghmnfjeaaGreatDoorCards
import Derived.Test.YtojmcmghmnfjeaaGreatDoorTie
import Derived.Test.YtojmcmghmnfjeaaGreatDoorFnExactBtCutD
import Derived.ProofKit
import Derived.JoinedOf
namespace Go.Proofs.YtojmcmghmnfjeaaGreatDoor.fnExactBtCutDone
open Go.Proofs.YtojmcmghmnfjeaaGreatDoor

set_option maxHeartbeats 16000000 in
theorem closed : joinedFacts Tryz.prog 3 Tryz.f3 Rows.fnExactBtCutSpec Rows.fnExactBtCutRow = true := by
  unfold joinedFacts
  repeat' (with_reducible refine Bool.and_eq_true_iff.2 ⟨?_, ?_⟩)
  all_goals (first | (with_reducible exact cf1) | (with_reducible exact cf2) | (with_reducible exact cf3) | (with_reducible exact cf4) | (with_reducible exact cf5) | (with_reducible exact cf6) | (as_aux_lemma => kernel_rfl))
theorem called : Tryz.prog.funcNamed Rows.fnExactBtCutRow.func = some 3 := by kernel_rfl
theorem inst : Tryz.f3.isInstance Tryz.prog Rows.fnExactBtCutRow.origin Rows.fnExactBtCutRow.targs := of_decide_eq_true (by kernel_rfl)
theorem wrap : Tryz.f3.isWrapper Tryz.prog Rows.fnExactBtCutRow.wrapper Rows.fnExactBtCutRow.mainSum := by unfold Func.isWrapper; first | (rw [if_pos (by decide +kernel)]; kernel_rfl) | (rw [if_neg (by decide +kernel)]; exact ⟨rfl, rfl⟩)
end Go.Proofs.YtojmcmghmnfjeaaGreatDoor.fnExactBtCutDone
