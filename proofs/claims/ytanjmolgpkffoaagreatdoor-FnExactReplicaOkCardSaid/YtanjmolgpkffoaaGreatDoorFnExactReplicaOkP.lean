/-
  The law FnExactReplicaOk holds: for every input the call returns true and its arguments read as before, the listed variables of the library holding what the program's text lays.
-/
import Derived.Test.YtanjmolgpkffoaaGreatDoorRows
import Derived.Test.YtanjmolgpkffoaaGreatDoorCards
import Derived.Test.YtanjmolgpkffoaaGreatDoorTie
import Derived.Test.YtanjmolgpkffoaaGreatDoorFnExactReplicaOkC
import Derived.Test.YtanjmolgpkffoaaGreatDoorM1FnExactReplicaOkW
import Derived.Test.YtanjmolgpkffoaaGreatDoorM1E
import Derived.WalkKit
import Derived.ProofKit
import Derived.OpenShut
import Derived.ShutString
import Derived.ChangeOld
import Derived.Below
import Derived.ChangeSame
import Derived.ChangeVars
import Derived.JoinedOf
import Derived.RowKit
import Derived.LaidLaws
import Derived.LaidHandle
import Derived.SevenTiedAt
import Derived.Stop.LaidErr
import Derived.Lib.LaidTab
import Derived.Deep.DeepLaidRun
import Derived.Test.YtanjmolgpkffoaaGreatDoorFnExactReplicaOkE
namespace Go.Proofs.YtanjmolgpkffoaaGreatDoor.fnExactReplicaOkDone
open Go.ChangeShapes Go.WideShapes Go.ChangeAt Go.RowKit Go.Proofs.YtanjmolgpkffoaaGreatDoor
open Go.ChangeMaps (open_string shut_string)
set_option linter.unusedVariables false

theorem proved : Rows.FnExactReplicaOkCardSaid :=
  Claim7.holds_tied_plain_at .later [] [.data, .data, .data, .data, .pinned] true (true, "d472b65b4bac326e2a6884771a7d79a0fc99ddac9757d3b7a5db1bbdd3a36863") false
    over (fun _ h => by cases h) (by as_aux_lemma => kernel_rfl) (fun _ h => by cases h) fnExactReplicaOk_row_tie rfl ⟨rfl, rfl⟩ (by as_aux_lemma => kernel_rfl) rfl
    (fun f fn hf hfn => by
      obtain rfl : f = 6 := Option.some.inj ((show Tryz.prog.funcNamed "loop.example/g00874/laws.FnExactReplicaOk" = some 6 by kernel_rfl).symm.trans hf) |>.symm
      obtain rfl : fn = Tryz.f6 := (Option.some.inj (Tryz.func6.symm.trans hfn)).symm
      exact ⟨by as_aux_lemma => kernel_rfl, fun j t ht => by
        rw [Tryz.params6] at ht
        have h3 : t = 56 := by
          rcases j with _ | j
          · simp at ht; subst ht; simp
          · simp at ht
        rcases h3 with rfl
        · exact (show Tryz.prog.wantsStandIn 56 = false by kernel_rfl)⟩)
    (by as_aux_lemma => kernel_rfl)
end Go.Proofs.YtanjmolgpkffoaaGreatDoor.fnExactReplicaOkDone
