/-
 The walks over a tree of pages,for all depths.
-/
import Derived.Test.YthdnicfbnihoaaaGreatDoorM4Bv
import Derived.Test.YthdnicfbnihoaaaGreatDoorM4Bz
namespace Go.Proofs.YthdnicfbnihoaaaGreatDoor
open Go.RowKit
set_option linter.unusedVariables false
theorem walkB_out {x:TBtree} {n:Nat} {id:Int} {far:Nat} {low high:ByteArray} {s:TWalk} (h:pgAt x id=none∨s.1.contains id=true):walkB x n id far low high s=none:=by
 cases n with
 | zero=>rfl
 | succ n =>
   unfold walkB
   cases hp:pgAt x id with
   | none=>rfl
   | some p =>
     dsimp only
     rcases h with h | h
     · rw [hp] at h;cases h
     · rw [if_pos h]
theorem c_walk {x:TBtree} (hs:SlotsP x.2) {lo hi tb sb wb:Nat}:∀n,WalkN x lo hi tb sb wb n
 | 0 => fun id D far low high s w hid hD R hl hfar hf=>by
   have ho:pgAt x id=none∨s.1.contains id=true:=by
     cases hp:pgAt x id with
     | none=>exact .inl rfl
     | some p=>exact .inr (metOk_full R.ok (by omega) hp)
   rw [walkB_out ho]
   exact walk_out hid R ho
 | n + 1=>fun id D far low high s w hid hD R hl hfar hf=>by
   cases hp:pgAt x id with
   | none=>rw [walkB_out (.inl hp)];exact walk_out hid R (.inl hp)
   | some p =>
     cases hc:s.1.contains id
     · exact walkPage hs (c_walk hs n) hid hD R hl hfar hf hp hc
     · rw [walkB_out (.inr hc)];exact walk_out hid R (.inr hc)
theorem downB_out {x:TBtree} {n:Nat} {id:Int} {far:Nat} {low high:ByteArray} {s:TWalk} (h:pgAt x id=none∨s.1.contains id=true∨n=0):walkB x n id far low high s=none:=by
 cases n with
 | zero=>rfl
 | succ n =>
   unfold walkB
   cases hp:pgAt x id with
   | none=>rfl
   | some p =>
     dsimp only
     rcases h with h | h | h
     · rw [hp] at h;cases h
     · rw [if_pos h]
     · cases h
theorem c_l16Down {x:TBtree} (hs:SlotsP x.2) (hr:I64 x.1) {lo wb:Nat} {A0:Option Addr} {c0:Nat}:∀n,DownN x lo wb A0 c0 n
 | 0=>fun id F far low high s M cM bl w hid hF R hf hf1=>by
   rw [downB_out (.inr (.inr rfl)),hF.out]
   exact down_out hs hr hid R (by omega) (.inr (.inr (by omega)))
 | n + 1=>fun id F far low high s M cM bl w hid hF R hf hf1=>by
   cases hp:pgAt x id with
   | none=>rw [downB_out (.inl hp),hF.out];exact down_out hs hr hid R (by omega) (.inl hp)
   | some p =>
     cases hc:s.1.contains id
     · exact down_in hs hr (c_l16Down hs hr n) hid hF R hf hf1 hp hc
     · rw [downB_out (.inr (.inl hc)),hF.out];exact down_out hs hr hid R (by omega) (.inr (.inl hc))
end Go.Proofs.YthdnicfbnihoaaaGreatDoor
