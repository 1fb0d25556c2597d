/-
 The law FnExactFlushBase holds: for every input the call returns true and its arguments read as before,the listed variables of the library holding what the program's text lays.
-/
import Derived.Test.YthdnicfbnihoaaaGreatDoorRows
import Derived.Test.YthdnicfbnihoaaaGreatDoorCards
import Derived.Test.YthdnicfbnihoaaaGreatDoorTie
import Derived.Test.YthdnicfbnihoaaaGreatDoorFnExactFlushBaseC
import Derived.Test.YthdnicfbnihoaaaGreatDoorM4FnExactFlushBaseW
import Derived.Test.YthdnicfbnihoaaaGreatDoorM4E
import Derived.Test.YthdnicfbnihoaaaGreatDoorM4D
import Derived.WalkKit
import Derived.ProofKit
import Derived.OpenShut
import Derived.ShutString
import Derived.ChangeOld
import Derived.Below
import Derived.ChangeSame
import Derived.ChangeVars
import Derived.JoinedOf
import Derived.RowKit
import Derived.LaidLaws
import Derived.LaidHandle
import Derived.SevenTiedAt
import Derived.Stop.LaidErr
import Derived.Lib.LaidTab
import Derived.Deep.DeepLaidRun
import Derived.Test.YthdnicfbnihoaaaGreatDoorFnExactFlushBaseE
namespace Go.Proofs.YthdnicfbnihoaaaGreatDoor.fnExactFlushBaseDone
open Go.ChangeShapes Go.WideShapes Go.ChangeAt Go.RowKit Go.Proofs.YthdnicfbnihoaaaGreatDoor
open Go.ChangeMaps (open_string shut_string)
set_option linter.unusedVariables false
theorem proved:Rows.FnExactFlushBaseCardSaid :=
 Claim7.holds_tied_plain_at .later [] [.data, .data, .data, .data, .pinned] true (true, "78127a86049999d951668f9755c99807e5887fd008ac57b47aa0dd7015f9a937") false
   over (fun _ h=>by cases h) (by as_aux_lemma=>kernel_rfl) (fun _ h=>by cases h) fnExactFlushBase_row_tie rfl ⟨rfl,rfl⟩ (by as_aux_lemma=>kernel_rfl) rfl
   (fun f fn hf hfn=>by
     obtain rfl : f = 3 := Option.some.inj ((show Tryz.prog.funcNamed "loop.example/g00874/laws.FnExactFlushBase" = some 3 by kernel_rfl).symm.trans hf) |>.symm
     obtain rfl:fn=Tryz.f3:=(Option.some.inj (Tryz.func3.symm.trans hfn)).symm
     exact ⟨by as_aux_lemma=>kernel_rfl,fun j t ht=>by
       rw [Tryz.params3] at ht
       have h3:t=38:=by
         rcases j with _ | j
         · simp at ht;subst ht;simp
         · simp at ht
       rcases h3 with rfl
       · exact (show Tryz.prog.wantsStandIn 38=false by kernel_rfl)⟩)
   (by as_aux_lemma=>kernel_rfl)
end Go.Proofs.YthdnicfbnihoaaaGreatDoor.fnExactFlushBaseDone
