/-
  The law FnExactMergeNode holds: for every input the call returns true and its arguments read as before, the listed variables of the library holding what the program's text lays.
-/
import Derived.Test.YtanjmolgpkffoaaGreatDoorRows
import Derived.Test.YtanjmolgpkffoaaGreatDoorCards
import Derived.Test.YtanjmolgpkffoaaGreatDoorTie
import Derived.Test.YtanjmolgpkffoaaGreatDoorFnExactMergeNodeC
import Derived.Test.YtanjmolgpkffoaaGreatDoorM2FnExactMergeNodeW
import Derived.Test.YtanjmolgpkffoaaGreatDoorM2E
import Derived.WalkKit
import Derived.ProofKit
import Derived.OpenShut
import Derived.ShutString
import Derived.ChangeOld
import Derived.Below
import Derived.ChangeSame
import Derived.ChangeVars
import Derived.JoinedOf
import Derived.RowKit
import Derived.LaidLaws
import Derived.LaidHandle
import Derived.SevenTiedAt
import Derived.Stop.LaidErr
import Derived.Lib.LaidTab
import Derived.Deep.DeepLaidRun
import Derived.Test.YtanjmolgpkffoaaGreatDoorFnExactMergeNodeE
namespace Go.Proofs.YtanjmolgpkffoaaGreatDoor.fnExactMergeNodeDone
open Go.ChangeShapes Go.WideShapes Go.ChangeAt Go.RowKit Go.Proofs.YtanjmolgpkffoaaGreatDoor
open Go.ChangeMaps (open_string shut_string)
set_option linter.unusedVariables false

theorem proved : Rows.FnExactMergeNodeCardSaid :=
  Claim7.holds_tied_plain_at .later [] [.data, .data, .data, .data, .pinned] true (true, "d472b65b4bac326e2a6884771a7d79a0fc99ddac9757d3b7a5db1bbdd3a36863") false
    over (fun _ h => by cases h) (by as_aux_lemma => kernel_rfl) (fun _ h => by cases h) fnExactMergeNode_row_tie rfl ⟨rfl, rfl⟩ (by as_aux_lemma => kernel_rfl) rfl
    (fun f fn hf hfn => by
      obtain rfl : f = 7 := Option.some.inj ((show Tryz.prog.funcNamed "loop.example/g00874/laws.FnExactMergeNode" = some 7 by kernel_rfl).symm.trans hf) |>.symm
      obtain rfl : fn = Tryz.f7 := (Option.some.inj (Tryz.func7.symm.trans hfn)).symm
      exact ⟨by as_aux_lemma => kernel_rfl, fun j t ht => by
        rw [Tryz.params7] at ht
        have h3 : t = 9 ∨ t = 24 ∨ t = 25 := by
          match j, ht with
          | 0, ht => simp at ht; subst ht; simp
          | 1, ht => simp at ht; subst ht; simp
          | 2, ht => simp at ht; subst ht; simp
          | 3, ht => simp at ht; subst ht; simp
          | 4, ht => simp at ht; subst ht; simp
          | j + 5, ht => simp at ht
        rcases h3 with rfl | rfl | rfl
        · exact (show Tryz.prog.wantsStandIn 9 = false by kernel_rfl)
        · exact (show Tryz.prog.wantsStandIn 24 = false by kernel_rfl)
        · exact (show Tryz.prog.wantsStandIn 25 = false by kernel_rfl)⟩)
    (by as_aux_lemma => kernel_rfl)
end Go.Proofs.YtanjmolgpkffoaaGreatDoor.fnExactMergeNodeDone
