/-
 SlotsOk: the program's.
-/
import Derived.Test.YthdnicfbnihoaaaGreatDoorM4Qa
namespace Go.Proofs.YthdnicfbnihoaaaGreatDoor
open Go.RowKit
set_option linter.unusedVariables false
set_option linter.unusedSimpArgs false
def SlotsTo (l:List TSlot) (k:Nat):Prop:=∀i (h:i<l.length),i<k→inB l[i].1 1 64=true∧pageB l[i].2=true∧(0<i→(l[i - 1]'(by omega)).1<l[i].1)
def SlotsP (l:List TSlot):Prop:=∀i (h:i<l.length),inB l[i].1 1 64=true∧pageB l[i].2=true∧(0<i→(l[i - 1]'(by omega)).1<l[i].1)
instance (l:List TSlot):Decidable (SlotsP l):=by unfold SlotsP;infer_instance
def slotsB (l:List TSlot):Bool:=decide (SlotsP l)
theorem slotsB_t {l:List TSlot} (h:SlotsP l):slotsB l=true:=decide_eq_true h
theorem slotsB_f {l:List TSlot} (h:¬ SlotsP l):slotsB l=false:=decide_eq_false h
theorem slotsTo_one {l:List TSlot} (h:0<l.length) (h1:inB l[0].1 1 64=true) (h2:pageB l[0].2=true):SlotsTo l (0+1):=fun j hj hk=>by
 obtain rfl:j=0:=by omega
 exact ⟨h1,h2,fun hh=>absurd hh (by omega)⟩
theorem slotsTo_succ {l:List TSlot} {m:Nat} (hm:m+1<l.length) (h:SlotsTo l (m+1)) (h1:inB l[m+1].1 1 64=true) (h2:pageB l[m+1].2=true) (h3:l[m].1<l[m+1].1):SlotsTo l (m+1+1):=fun j hj hk=>by
 by_cases e:j=m+1
 · subst e;exact ⟨h1,h2,fun _=>h3⟩
 · exact h j hj (by omega)
theorem slots_ids {l:List TSlot} (h:SlotsP l):∀i (hi:i<l.length),(i:Int)+1≤l[i].1
 | 0,hi=>by have:=inB_t.1 (h 0 hi).1;omega
 | i+1,hi=>by
   have h1:=slots_ids h i (by omega)
   have h2:=(h (i+1) hi).2.2 (by omega)
   simp only [Nat.add_sub_cancel] at h2
   omega
theorem slots_len {l:List TSlot} (h:SlotsP l):l.length≤64:=by
 rcases Nat.eq_zero_or_pos l.length with h0 | hp
 · omega
 · have h1:=slots_ids h (l.length - 1) (by omega)
   have h2:=inB_t.1 (h (l.length - 1) (by omega)).1
   omega
theorem page_sz {x:TPage} (h:shPage.sz x≤1048576):∀s∈x.2.1,s.size≤1048576:=fun s hs=>by
 obtain ⟨i,hi,rfl⟩:=List.getElem_of_mem hs
 have e:shPage.sz x=0+((shL shS).sz x.2.1+((shL shS).sz x.2.2.1+(shL shI).sz x.2.2.2)):=rfl
 have h1:(shL shS).sz x.2.1≤1048576:=by omega
 exact sz_le shS x.2.1 hi h1
theorem slot_sz {x:TSlot} (h:shSlot.sz x≤1048576):shPage.sz x.2≤1048576:=by
 have e:shSlot.sz x=0+shPage.sz x.2:=rfl
 omega
end Go.Proofs.YthdnicfbnihoaaaGreatDoor
