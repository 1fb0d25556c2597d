/-
  Closed facts of the law FnExactPutPage: of the program, its row and its harness, by the kernel.
-/
import Derived.Test.YtpjcgglhlmifdaaGreatDoorRows
import Derived.Test.YtpjcgglhlmifdaaGreatDoorCards
import Derived.Test.YtpjcgglhlmifdaaGreatDoorTie
import Derived.Test.YtpjcgglhlmifdaaGreatDoorFnExactPutPageD
import Derived.ProofKit
import Derived.JoinedOf
namespace Go.Proofs.YtpjcgglhlmifdaaGreatDoor.fnExactPutPageDone
open Go.Proofs.YtpjcgglhlmifdaaGreatDoor

set_option maxHeartbeats 16000000 in
theorem closed : joinedFacts Tryz.prog 8 Tryz.f8 Rows.fnExactPutPageSpec Rows.fnExactPutPageRow = true := by
  unfold joinedFacts
  repeat' (with_reducible refine Bool.and_eq_true_iff.2 ⟨?_, ?_⟩)
  all_goals (first | (with_reducible exact cf1) | (with_reducible exact cf2) | (with_reducible exact cf3) | (with_reducible exact cf4) | (with_reducible exact cf5) | (with_reducible exact cf6) | (as_aux_lemma => kernel_rfl))
theorem called : Tryz.prog.funcNamed Rows.fnExactPutPageRow.func = some 8 := by kernel_rfl
theorem inst : Tryz.f8.isInstance Tryz.prog Rows.fnExactPutPageRow.origin Rows.fnExactPutPageRow.targs := of_decide_eq_true (by kernel_rfl)
theorem wrap : Tryz.f8.isWrapper Tryz.prog Rows.fnExactPutPageRow.wrapper Rows.fnExactPutPageRow.mainSum := by unfold Func.isWrapper; first | (rw [if_pos (by decide +kernel)]; kernel_rfl) | (rw [if_neg (by decide +kernel)]; exact ⟨rfl, rfl⟩)
end Go.Proofs.YtpjcgglhlmifdaaGreatDoor.fnExactPutPageDone
