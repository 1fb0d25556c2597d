/-
  Closed facts of the law FnExactSalvage: of the program, its row and its harness, by the kernel.
-/
import Derived.Test.YtehhgogmbpdpbaaGreatDoorRows
import Derived.Test.YtehhgogmbpdpbaaGreatDoorCards
import Derived.Test.YtehhgogmbpdpbaaGreatDoorTie
import Derived.Test.YtehhgogmbpdpbaaGreatDoorFnExactSalvageD
import Derived.ProofKit
import Derived.JoinedOf
namespace Go.Proofs.YtehhgogmbpdpbaaGreatDoor.fnExactSalvageDone
open Go.Proofs.YtehhgogmbpdpbaaGreatDoor

set_option maxHeartbeats 16000000 in
theorem closed : joinedFacts Tryz.prog 4 Tryz.f4 Rows.fnExactSalvageSpec Rows.fnExactSalvageRow = true := by
  unfold joinedFacts
  repeat' (with_reducible refine Bool.and_eq_true_iff.2 ⟨?_, ?_⟩)
  all_goals (first | (with_reducible exact cf1) | (with_reducible exact cf2) | (with_reducible exact cf3) | (with_reducible exact cf4) | (with_reducible exact cf5) | (with_reducible exact cf6) | (as_aux_lemma => kernel_rfl))
theorem called : Tryz.prog.funcNamed Rows.fnExactSalvageRow.func = some 4 := by kernel_rfl
theorem inst : Tryz.f4.isInstance Tryz.prog Rows.fnExactSalvageRow.origin Rows.fnExactSalvageRow.targs := of_decide_eq_true (by kernel_rfl)
theorem wrap : Tryz.f4.isWrapper Tryz.prog Rows.fnExactSalvageRow.wrapper Rows.fnExactSalvageRow.mainSum := by unfold Func.isWrapper; first | (rw [if_pos (by decide +kernel)]; kernel_rfl) | (rw [if_neg (by decide +kernel)]; exact ⟨rfl, rfl⟩)
end Go.Proofs.YtehhgogmbpdpbaaGreatDoor.fnExactSalvageDone
