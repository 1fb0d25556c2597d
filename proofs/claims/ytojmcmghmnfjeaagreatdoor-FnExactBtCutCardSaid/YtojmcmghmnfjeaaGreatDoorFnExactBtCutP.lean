/-
  The law FnExactBtCut holds: for every input the call returns true and its arguments read as before, the listed variables of the library holding what the program's text lays.
-/
import Derived.Test.YtojmcmghmnfjeaaGreatDoorRows
import Derived.Test.YtojmcmghmnfjeaaGreatDoorCards
import Derived.Test.YtojmcmghmnfjeaaGreatDoorTie
import Derived.Test.YtojmcmghmnfjeaaGreatDoorFnExactBtCutC
import Derived.Test.YtojmcmghmnfjeaaGreatDoorM1FnExactBtCutW
import Derived.Test.YtojmcmghmnfjeaaGreatDoorM1E
import Derived.Test.YtojmcmghmnfjeaaGreatDoorM1D
import Derived.WalkKit
import Derived.ProofKit
import Derived.OpenShut
import Derived.ShutString
import Derived.ChangeOld
import Derived.Below
import Derived.ChangeSame
import Derived.ChangeVars
import Derived.JoinedOf
import Derived.RowKit
import Derived.LaidLaws
import Derived.LaidHandle
import Derived.SevenTiedAt
import Derived.Stop.LaidErr
import Derived.Lib.LaidTab
import Derived.Deep.DeepLaidRun
import Derived.Test.YtojmcmghmnfjeaaGreatDoorFnExactBtCutE
namespace Go.Proofs.YtojmcmghmnfjeaaGreatDoor.fnExactBtCutDone
open Go.ChangeShapes Go.WideShapes Go.ChangeAt Go.RowKit Go.Proofs.YtojmcmghmnfjeaaGreatDoor
open Go.ChangeMaps (open_string shut_string)
set_option linter.unusedVariables false

theorem proved : Rows.FnExactBtCutCardSaid :=
  Claim7.holds_tied_plain_at .later [] [.data, .data, .data, .data, .pinned] true (true, "7afb8481f0b0d6f56212e78adf9dc45455db093aad01604ba8eece4c442f204e") false
    over (fun _ h => by cases h) (by as_aux_lemma => kernel_rfl) (fun _ h => by cases h) fnExactBtCut_row_tie rfl ⟨rfl, rfl⟩ (by as_aux_lemma => kernel_rfl) rfl
    (fun f fn hf hfn => by
      obtain rfl : f = 3 := Option.some.inj ((show Tryz.prog.funcNamed "loop.example/g00874/laws.FnExactBtCut" = some 3 by kernel_rfl).symm.trans hf) |>.symm
      obtain rfl : fn = Tryz.f3 := (Option.some.inj (Tryz.func3.symm.trans hfn)).symm
      exact ⟨by as_aux_lemma => kernel_rfl, fun j t ht => by
        rw [Tryz.params3] at ht
        have h3 : t = 9 ∨ t = 24 := by
          match j, ht with
          | 0, ht => simp at ht; subst ht; simp
          | 1, ht => simp at ht; subst ht; simp
          | j + 2, ht => simp at ht
        rcases h3 with rfl | rfl
        · exact (show Tryz.prog.wantsStandIn 9 = false by kernel_rfl)
        · exact (show Tryz.prog.wantsStandIn 24 = false by kernel_rfl)⟩)
    (by as_aux_lemma => kernel_rfl)
end Go.Proofs.YtojmcmghmnfjeaaGreatDoor.fnExactBtCutDone
