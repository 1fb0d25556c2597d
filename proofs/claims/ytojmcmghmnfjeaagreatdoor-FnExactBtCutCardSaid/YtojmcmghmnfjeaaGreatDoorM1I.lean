/-
 Parts of the proof.
-/
import Derived.Test.YtojmcmghmnfjeaaGreatDoorM1Qag
namespace Go.Proofs.YtojmcmghmnfjeaaGreatDoor
open Go.RowKit
set_option linter.unusedVariables false
set_option linter.unusedSimpArgs false
theorem subKey_len {s:ByteArray} (h:subB s=true):(subKeyL s).length≤51:=by
 have h2:=subB_size h
 unfold subKeyL
 split
 ·rw [List.length_cons,beT_len];omega
 ·have:=escL_len s.data.toList
  rw [slen] at this
  simp;omega
theorem keys_len51 {l:List ByteArray} (h:∀x∈l,subB x=true):(l.flatMap subKeyL).length≤51*l.length:=by
 induction l with
 | nil=>simp
 | cons x l ih =>
  have h1:=subKey_len (h x List.mem_cons_self)
  have h3:=ih (fun y hy=>h y (List.mem_cons_of_mem _ hy))
  show (subKeyL x++l.flatMap subKeyL).length≤51*(l.length+1)
  rw [List.length_append];omega
theorem keyB_size {k:ByteArray} (h:keyB k=true):k.size≤213:=by
 have hl:=slen k
 unfold keyB at h
 cases hp:placeOf k with
 | none=>rw [hp] at h;cases h
 | some p =>
  unfold placeOf at hp
  split at hp
  ·rename_i hc
   obtain ⟨h1,h2⟩:=hc
   rw [Option.map_eq_some_iff] at hp
   obtain ⟨l,h3,_⟩:=hp
   obtain ⟨h4,h5⟩:=getSubs_some h3
   have h6:=subsP_of h4
   have h7:=keys_len51 (subs_all h6)
   rw [h5,List.length_drop] at h7
   have h8:=nameB_size h2
   have h9:=bs_size (headL k.data.toList)
   have:=h6.1
   omega
  ·cases hp
end Go.Proofs.YtojmcmghmnfjeaaGreatDoor
