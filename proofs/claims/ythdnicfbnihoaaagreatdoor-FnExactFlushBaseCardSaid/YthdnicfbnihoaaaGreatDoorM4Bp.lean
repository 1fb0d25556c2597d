/-
 Trees of pages: what a right tree is (plain).
-/
import Derived.Test.YthdnicfbnihoaaaGreatDoorM4Qs
import Derived.Test.YthdnicfbnihoaaaGreatDoorM4I
namespace Go.Proofs.YthdnicfbnihoaaaGreatDoor
open Go.RowKit
set_option linter.unusedVariables false
set_option linter.unusedSimpArgs false
def pgAt (x:TBtree) (id:Int):Option TPage:=(x.2.find? (fun s=>s.1 == id)).map (·.2)
abbrev TWalk:Type:=List Int × Option Nat
def badKey (lo hi k:ByteArray):Bool:=bytesLt k lo || (decide (hi≠⟨#[]⟩) && !bytesLt k hi)
def fillOf (p:TPage):Nat:=if p.1=true then p.2.1.length else p.2.2.2.length
def lowK (p:TPage) (lo:ByteArray) (k:Nat):ByteArray:=if 0<k then p.2.1.getD (k - 1) ⟨#[]⟩ else lo
def highK (p:TPage) (hi:ByteArray) (k:Nat):ByteArray:=if k<p.2.1.length then p.2.1.getD k ⟨#[]⟩ else hi
def kidsTo (f:Nat→TWalk→Option TWalk):Nat→TWalk→Option TWalk
 | 0,s=>some s
 | k+1,s=>match kidsTo f k s with
   | none=>none
   | some t=>f k t
def leafW (id:Int) (far:Nat) (s:TWalk):Option TWalk:=match s.2 with
 | none=>some (s.1++[id],some far)
 | some d=>if d=far then some (s.1++[id],some d) else none
def walkB (x:TBtree):Nat→Int→Nat→ByteArray→ByteArray→TWalk→Option TWalk
 | 0,_,_,_,_,_=>none
 | n + 1,id,far,lo,hi,s=>match pgAt x id with
   | none=>none
   | some p =>
     if s.1.contains id=true then none
     else if p.2.1.any (badKey lo hi)=true then none
     else if far≠1∧fillOf p<3 then none
     else if p.1=true then leafW id far s
     else kidsTo (fun k t=>walkB x n (p.2.2.2.getD k 0) (far+1) (lowK p lo k) (highK p hi k) t) p.2.2.2.length (s.1++[id],s.2)
def walkTop (x:TBtree):Option TWalk:=walkB x 64 x.1 1 ⟨#[]⟩ ⟨#[]⟩ ([],none)
def btreeB (x:TBtree):Bool:=slotsB x.2 && (match walkTop x with | none=>false | some s=>decide (s.1.length=x.2.length))
theorem kidsTo_none {f:Nat→TWalk→Option TWalk} {k m:Nat} {s:TWalk} (h:kidsTo f k s=none) (hm:k≤m):kidsTo f m s=none:=by
 induction m with
 | zero => obtain rfl:k=0:=by omega
           exact h
 | succ m ih =>
   by_cases e:k=m+1
   · subst e;exact h
   · unfold kidsTo;rw [ih (by omega)]
theorem kidsTo_succ {f:Nat→TWalk→Option TWalk} {k:Nat} {s t:TWalk} (h:kidsTo f k s=some t):kidsTo f (k+1) s=f k t:=by
 show (match kidsTo f k s with | none=>none | some t=>f k t)=_
 rw [h]
theorem slots_lt {l:List TSlot} (h:SlotsP l):∀i j (hj:j<l.length) (hij:i<j),(l[i]'(by omega)).1<l[j].1
 | i,j+1,hj,hij=>by
   have h2:=(h (j+1) hj).2.2 (by omega)
   simp only [Nat.add_sub_cancel] at h2
   by_cases e:i=j
   · subst e;exact h2
   · have h1:=slots_lt h i j (by omega) (by omega);omega
theorem pgAt_at {x:TBtree} (h:SlotsP x.2) {i:Nat} (hi:i<x.2.length):pgAt x x.2[i].1=some x.2[i].2:=by
 unfold pgAt
 have e:x.2.find? (fun s=>s.1 == x.2[i].1)=some x.2[i]:=by
   refine List.find?_eq_some_iff_append.2 ⟨by simp,x.2.take i,x.2.drop (i+1),?_,fun a ha=>?_⟩
   · rw [List.getElem_cons_drop,List.take_append_drop]
   · obtain ⟨j,hj,rfl⟩:=List.getElem_of_mem ha
     rw [List.length_take] at hj
     have:=slots_lt h j i hi (by omega)
     rw [List.getElem_take]
     simp
     omega
 rw [e];rfl
theorem pgAt_some {x:TBtree} {id:Int} {p:TPage} (h:pgAt x id=some p):∃i,∃hi:i<x.2.length,x.2[i]=(id,p):=by
 unfold pgAt at h
 obtain ⟨s,hs,rfl⟩:=Option.map_eq_some_iff.1 h
 have h1:=List.find?_some hs
 obtain ⟨i,hi,e⟩:=List.getElem_of_mem (List.mem_of_find?_eq_some hs)
 refine ⟨i,hi,?_⟩
 rw [e]
 have:s.1=id:=by simpa using h1
 rw [← this]
theorem pgAt_none {x:TBtree} {id:Int} (h:∀i (hi:i<x.2.length),x.2[i].1≠id):pgAt x id=none:=by
 unfold pgAt
 rw [List.find?_eq_none.2 (fun s hs=>by obtain ⟨i,hi,rfl⟩:=List.getElem_of_mem hs;simpa using h i hi)]
 rfl
theorem pgAt_ok {x:TBtree} (h:SlotsP x.2) {id:Int} {p:TPage} (hp:pgAt x id=some p):pageB p=true:=by
 obtain ⟨i,hi,e⟩:=pgAt_some hp
 have:=(h i hi).2.1
 rw [e] at this
 exact this
def MetOk (x:TBtree) (l:List Int):Prop:=l.Nodup∧∀i∈l,∃p,pgAt x i=some p
theorem metOk_nil (x:TBtree):MetOk x []:=⟨List.nodup_nil,by simp⟩
theorem metOk_snoc {x:TBtree} {l:List Int} {id:Int} {p:TPage} (h:MetOk x l) (hp:pgAt x id=some p) (hn:l.contains id=false):MetOk x (l++[id]):=by
 refine ⟨List.nodup_append.2 ⟨h.1,by simp,?_⟩,fun i hi=>?_⟩
 · rintro a ha b hb rfl
   obtain rfl:a=id:=by simpa using hb
   simp at hn
   exact hn ha
 · rcases List.mem_append.1 hi with h1 | h1
   · exact h.2 i h1
   · obtain rfl:i=id:=by simpa using h1
     exact ⟨p,hp⟩
theorem metOk_sub {x:TBtree} {l:List Int} (h:MetOk x l):l ⊆ x.2.map (·.1):=fun i hi=>by
 obtain ⟨p,hp⟩:=h.2 i hi
 obtain ⟨k,hk,e⟩:=pgAt_some hp
 exact List.mem_map.2 ⟨x.2[k],List.getElem_mem hk,by rw [e]⟩
theorem nodup_le:∀{l m:List Int},l.Nodup→l ⊆ m→l.length≤m.length
 | [],_,_,_=>Nat.zero_le _
 | a::l,m,h,hs=>by
   have ha:a∈m:=hs (List.mem_cons_self ..)
   have h1:=List.nodup_cons.1 h
   have h2:=nodup_le (l:=l) (m:=m.erase a) h1.2 (fun b hb=>(List.mem_erase_of_ne (by rintro rfl;exact h1.1 hb)).2 (hs (List.mem_cons_of_mem _ hb)))
   rw [List.length_erase_of_mem ha] at h2
   have:=List.length_pos_of_mem ha
   simp only [List.length_cons]
   omega
theorem metOk_len {x:TBtree} {l:List Int} (h:MetOk x l):l.length≤x.2.length:=by
 have:=nodup_le h.1 (metOk_sub h)
 rwa [List.length_map] at this
theorem metOk_full {x:TBtree} {l:List Int} (h:MetOk x l) (hl:x.2.length≤l.length) {id:Int} {p:TPage} (hp:pgAt x id=some p):l.contains id=true:=by
 cases hc:l.contains id
 · have:=metOk_len (metOk_snoc h hp hc)
   rw [List.length_append] at this
   simp at this
   omega
 · rfl
theorem keys_asc {l:List ByteArray} (h:KeysP l):∀i j (hj:j<l.length) (hij:i<j),bytesLt (l[i]'(by omega)) l[j]=true
 | i,j+1,hj,hij=>by
   have h2:=(h (j+1) hj).2 (by omega)
   simp only [Nat.add_sub_cancel] at h2
   by_cases e:i=j
   · subst e;exact h2
   · exact lo_bytes.tr _ _ _ (keys_asc h i j (by omega) (by omega)) h2
theorem badKeys_ends {l:List ByteArray} (h:KeysP l) (lo hi:ByteArray) (hn:0<l.length):l.any (badKey lo hi)=(bytesLt l[0] lo || (decide (hi≠⟨#[]⟩) && !bytesLt (l[l.length - 1]'(by omega)) hi)):=by
 rw [Bool.eq_iff_iff,List.any_eq_true]
 unfold badKey
 simp only [Bool.or_eq_true,Bool.and_eq_true,Bool.not_eq_true']
 constructor
 · rintro ⟨k,hk,hb⟩
   obtain ⟨i,hi',rfl⟩:=List.getElem_of_mem hk
   rcases hb with hb | ⟨h1,hb⟩
   · left
     by_cases e:i=0
     · subst e;exact hb
     · exact lo_bytes.tr _ _ _ (keys_asc h 0 i hi' (by omega)) hb
   · right
     refine ⟨h1,?_⟩
     by_cases e:i=l.length - 1
     · subst e;exact hb
     · cases hq:bytesLt (l[l.length - 1]'(by omega)) hi
       · rfl
       · rw [lo_bytes.tr _ _ _ (keys_asc h i (l.length - 1) (by omega) (by omega)) hq] at hb;cases hb
 · rintro (hb | ⟨h1,hb⟩)
   · exact ⟨l[0],List.getElem_mem _,.inl hb⟩
   · exact ⟨l[l.length - 1],List.getElem_mem _,.inr ⟨h1,hb⟩⟩
theorem fork_lens {p:TPage} (h:pageB p=true) (hl:p.1=false):p.2.1.length+1=p.2.2.2.length:=by
 unfold pageB at h
 simp only [Bool.and_eq_true] at h
 have h2:=h.2
 rw [if_neg (by rw [hl];decide)] at h2
 simp only [forkB,Bool.and_eq_true,decide_eq_true_eq] at h2
 have:=h2.1.1.2
 omega
end Go.Proofs.YthdnicfbnihoaaaGreatDoor
