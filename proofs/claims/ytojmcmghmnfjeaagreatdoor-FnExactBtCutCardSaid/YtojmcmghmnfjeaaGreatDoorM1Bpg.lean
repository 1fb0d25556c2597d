/-
 Parts of the proof.
-/
import Derived.Test.YtojmcmghmnfjeaaGreatDoorM1I
namespace Go.Proofs.YtojmcmghmnfjeaaGreatDoor
open Go.RowKit
set_option linter.unusedVariables false
set_option linter.unusedSimpArgs false
def pgAt (x:TBtree) (id:Int):Option TPage:=(x.2.find? (fun s=>s.1==id)).map (·.2)
abbrev TWalk:Type:=List Int×Option Nat
def badKey (lo hi k:ByteArray):Bool:=bytesLt k lo||(decide (hi≠⟨#[]⟩)&&!bytesLt k hi)
def fillOf (p:TPage):Nat:=if p.1=true then p.2.1.length else p.2.2.2.length
def lowK (p:TPage) (lo:ByteArray) (k:Nat):ByteArray:=if 0<k then p.2.1.getD (k-1) ⟨#[]⟩ else lo
def highK (p:TPage) (hi:ByteArray) (k:Nat):ByteArray:=if k<p.2.1.length then p.2.1.getD k ⟨#[]⟩ else hi
def kidsTo (f:Nat→TWalk→Option TWalk):Nat→TWalk→Option TWalk
 | 0,s=>some s
 | k+1,s=>match kidsTo f k s with
  | none=>none
  | some t=>f k t
def leafW (id:Int) (far:Nat) (s:TWalk):Option TWalk:=match s.2 with
 | none=>some (s.1++[id],some far)
 | some d=>if d=far then some (s.1++[id],some d) else none
def walkB (x:TBtree):Nat→Int→Nat→ByteArray→ByteArray→TWalk→Option TWalk
 | 0,_,_,_,_,_=>none
 | n+1,id,far,lo,hi,s=>match pgAt x id with
  | none=>none
  | some p =>
   if s.1.contains id=true then none
   else if p.2.1.any (badKey lo hi)=true then none
   else if far≠1∧fillOf p<3 then none
   else if p.1=true then leafW id far s
   else kidsTo (fun k t=>walkB x n (p.2.2.2.getD k 0) (far+1) (lowK p lo k) (highK p hi k) t) p.2.2.2.length (s.1++[id],s.2)
def walkTop (x:TBtree):Option TWalk:=walkB x 64 x.1 1 ⟨#[]⟩ ⟨#[]⟩ ([],none)
def btreeB (x:TBtree):Bool:=slotsB x.2&&(match walkTop x with | none=>false | some s=>decide (s.1.length=x.2.length))
theorem kidsTo_none {f:Nat→TWalk→Option TWalk} {k m:Nat} {s:TWalk} (h:kidsTo f k s=none) (hm:k≤m):kidsTo f m s=none:=by
 induction m with
 | zero => obtain rfl:k=0:=by omega
           exact h
 | succ m ih =>
  by_cases e:k=m+1
  ·subst e;exact h
  ·unfold kidsTo;rw [ih (by omega)]
theorem kidsTo_succ {f:Nat→TWalk→Option TWalk} {k:Nat} {s t:TWalk} (h:kidsTo f k s=some t):kidsTo f (k+1) s=f k t:=by
 show (match kidsTo f k s with | none=>none | some t=>f k t)=_
 rw [h]
theorem slots_lt {l:List TSlot} (h:SlotsP l):∀i j (hj:j<l.length) (hij:i<j),(l[i]'(by omega)).1<l[j].1
 | i,j+1,hj,hij=>by
  have h2:=(h (j+1) hj).2.2 (by omega)
  simp only [Nat.add_sub_cancel] at h2
  by_cases e:i=j
  ·subst e;exact h2
  ·have h1:=slots_lt h i j (by omega) (by omega);omega
theorem pgAt_at {x:TBtree} (h:SlotsP x.2) {i:Nat} (hi:i<x.2.length):pgAt x x.2[i].1=some x.2[i].2:=by
 unfold pgAt
 have e:x.2.find? (fun s=>s.1==x.2[i].1)=some x.2[i]:=by
  refine List.find?_eq_some_iff_append.2 ⟨by simp,x.2.take i,x.2.drop (i+1),?_,fun a ha=>?_⟩
  ·rw [List.getElem_cons_drop,List.take_append_drop]
  ·obtain ⟨j,hj,rfl⟩:=List.getElem_of_mem ha
   rw [List.length_take] at hj
   have:=slots_lt h j i hi (by omega)
   rw [List.getElem_take]
   simp
   omega
 rw [e];rfl
theorem pgAt_some {x:TBtree} {id:Int} {p:TPage} (h:pgAt x id=some p):∃i,∃hi:i<x.2.length,x.2[i]=(id,p):=by
 unfold pgAt at h
 obtain ⟨s,hs,rfl⟩:=Option.map_eq_some_iff.1 h
 have h1:=List.find?_some hs
 obtain ⟨i,hi,e⟩:=List.getElem_of_mem (List.mem_of_find?_eq_some hs)
 refine ⟨i,hi,?_⟩
 rw [e]
 have:s.1=id:=by simpa using h1
 rw [←this]
theorem pgAt_none {x:TBtree} {id:Int} (h:∀i (hi:i<x.2.length),x.2[i].1≠id):pgAt x id=none:=by
 unfold pgAt
 rw [List.find?_eq_none.2 (fun s hs=>by obtain ⟨i,hi,rfl⟩:=List.getElem_of_mem hs;simpa using h i hi)]
 rfl
theorem pgAt_ok {x:TBtree} (h:SlotsP x.2) {id:Int} {p:TPage} (hp:pgAt x id=some p):pageB p=true:=by
 obtain ⟨i,hi,e⟩:=pgAt_some hp
 have:=(h i hi).2.1
 rw [e] at this
 exact this
def MetOk (x:TBtree) (l:List Int):Prop:=l.Nodup∧∀i∈l,∃p,pgAt x i=some p
theorem metOk_nil (x:TBtree):MetOk x []:=⟨List.nodup_nil,by simp⟩
theorem metOk_snoc {x:TBtree} {l:List Int} {id:Int} {p:TPage} (h:MetOk x l) (hp:pgAt x id=some p) (hn:l.contains id=false):MetOk x (l++[id]):=by
 refine ⟨List.nodup_append.2 ⟨h.1,by simp,?_⟩,fun i hi=>?_⟩
 ·rintro a ha b hb rfl
  obtain rfl:a=id:=by simpa using hb
  simp at hn
  exact hn ha
 ·rcases List.mem_append.1 hi with h1 | h1
  ·exact h.2 i h1
  ·obtain rfl:i=id:=by simpa using h1
   exact ⟨p,hp⟩
theorem metOk_sub {x:TBtree} {l:List Int} (h:MetOk x l):l⊆x.2.map (·.1):=fun i hi=>by
 obtain ⟨p,hp⟩:=h.2 i hi
 obtain ⟨k,hk,e⟩:=pgAt_some hp
 exact List.mem_map.2 ⟨x.2[k],List.getElem_mem hk,by rw [e]⟩
theorem nodup_le:∀{l m:List Int},l.Nodup→l⊆m→l.length≤m.length
 | [],_,_,_=>Nat.zero_le _
 | a::l,m,h,hs=>by
  have ha:a∈m:=hs (List.mem_cons_self ..)
  have h1:=List.nodup_cons.1 h
  have h2:=nodup_le (l:=l) (m:=m.erase a) h1.2 (fun b hb=>(List.mem_erase_of_ne (by rintro rfl;exact h1.1 hb)).2 (hs (List.mem_cons_of_mem _ hb)))
  rw [List.length_erase_of_mem ha] at h2
  have:=List.length_pos_of_mem ha
  simp only [List.length_cons]
  omega
theorem metOk_len {x:TBtree} {l:List Int} (h:MetOk x l):l.length≤x.2.length:=by
 have:=nodup_le h.1 (metOk_sub h)
 rwa [List.length_map] at this
theorem metOk_full {x:TBtree} {l:List Int} (h:MetOk x l) (hl:x.2.length≤l.length) {id:Int} {p:TPage} (hp:pgAt x id=some p):l.contains id=true:=by
 cases hc:l.contains id
 ·have:=metOk_len (metOk_snoc h hp hc)
  rw [List.length_append] at this
  simp at this
  omega
 ·rfl
theorem kidsTo_inv {R:TWalk→TWalk→Prop} (hr:∀s,R s s) (ht:∀a b c,R a b→R b c→R a c) {f:Nat→TWalk→Option TWalk} {s:TWalk}:∀{m:Nat} {t:TWalk},(∀k,k<m→∀a b,R s a→f k a=some b→R a b)→kidsTo f m s=some t→R s t
 | 0,t,_,h=>by
  cases h;exact hr _
 | m+1,t,hf,h=>by
  unfold kidsTo at h
  cases e:kidsTo f m s with
  | none=>rw [e] at h;cases h
  | some u =>
   rw [e] at h
   have h1:=kidsTo_inv hr ht (fun k hk=>hf k (by omega)) e
   exact ht _ _ _ h1 (hf m (by omega) u t h1 h)
def Adds (x:TBtree) (s t:TWalk):Prop:=MetOk x s.1→(MetOk x t.1∧s.1 <+: t.1∧(∀d,t.2=some d→s.2≠some d→1≤d))
theorem walk_adds {x:TBtree}:∀{n:Nat} {id:Int} {far:Nat} {lo hi:ByteArray} {s t:TWalk},1≤far→walkB x n id far lo hi s=some t→Adds x s t
 | 0,_,_,_,_,_,_,_,h=>by cases h
 | n + 1, id,far,lo,hi,s,t,hfar,h=>by
  unfold walkB at h
  cases hp:pgAt x id with
  | none=>rw [hp] at h;cases h
  | some p =>
   rw [hp] at h
   dsimp only at h
   cases hc:s.1.contains id
   ·rw [hc,if_neg (by decide)] at h
    split at h
    ·cases h
    ·split at h
     ·cases h
     ·split at h
      ·intro hm
       have hm2:=metOk_snoc hm hp hc
       unfold leafW at h
       split at h
       ·cases h;exact ⟨hm2,List.prefix_append _ _,fun d hd _=>by cases hd;exact hfar⟩
       ·rename_i d hd
        split at h
        ·cases h;exact ⟨hm2,List.prefix_append _ _,fun d' hd' hne=>absurd (hd.trans hd') hne⟩
        ·cases h
      ·intro hm
       have hm2:=metOk_snoc hm hp hc
       have:=kidsTo_inv (R:=Adds x) (fun s hs=>⟨hs,List.prefix_refl _,fun d h1 h2=>absurd h1 h2⟩)
        (fun a b c h1 h2 hs=>by
         obtain ⟨q1,q2,q3⟩:=h1 hs
         obtain ⟨q4,q5,q6⟩:=h2 q1
         refine ⟨q4,q2.trans q5,fun d hd hne=>?_⟩
         by_cases e:b.2=some d
         ·exact q3 d e hne
         ·exact q6 d hd e)
        (fun k hk a b _ hb=>walk_adds (by omega) hb) h hm2
       exact ⟨this.1,(List.prefix_append _ _).trans this.2.1,this.2.2⟩
   ·rw [hc,if_pos rfl] at h
    cases h
theorem keys_asc {l:List ByteArray} (h:KeysP l):∀i j (hj:j<l.length) (hij:i<j),bytesLt (l[i]'(by omega)) l[j]=true
 | i,j+1,hj,hij=>by
  have h2:=(h (j+1) hj).2 (by omega)
  simp only [Nat.add_sub_cancel] at h2
  by_cases e:i=j
  ·subst e;exact h2
  ·exact lo_bytes.tr _ _ _ (keys_asc h i j (by omega) (by omega)) h2
theorem badKeys_ends {l:List ByteArray} (h:KeysP l) (lo hi:ByteArray) (hn:0<l.length):l.any (badKey lo hi)=(bytesLt l[0] lo||(decide (hi≠⟨#[]⟩)&&!bytesLt (l[l.length-1]'(by omega)) hi)):=by
 rw [Bool.eq_iff_iff,List.any_eq_true]
 unfold badKey
 simp only [Bool.or_eq_true,Bool.and_eq_true,Bool.not_eq_true']
 constructor
 ·rintro ⟨k,hk,hb⟩
  obtain ⟨i,hi',rfl⟩:=List.getElem_of_mem hk
  rcases hb with hb | ⟨h1,hb⟩
  ·left
   by_cases e:i=0
   ·subst e;exact hb
   ·exact lo_bytes.tr _ _ _ (keys_asc h 0 i hi' (by omega)) hb
  ·right
   refine ⟨h1,?_⟩
   by_cases e:i=l.length-1
   ·subst e;exact hb
   ·cases hq:bytesLt (l[l.length-1]'(by omega)) hi
    ·rfl
    ·rw [lo_bytes.tr _ _ _ (keys_asc h i (l.length-1) (by omega) (by omega)) hq] at hb;cases hb
 ·rintro (hb | ⟨h1,hb⟩)
  ·exact ⟨l[0],List.getElem_mem _,.inl hb⟩
  ·exact ⟨l[l.length-1],List.getElem_mem _,.inr ⟨h1,hb⟩⟩
theorem fork_lens {p:TPage} (h:pageB p=true) (hl:p.1=false):p.2.1.length+1=p.2.2.2.length:=by
 unfold pageB at h
 simp only [Bool.and_eq_true] at h
 have h2:=h.2
 rw [if_neg (by rw [hl];decide)] at h2
 simp only [forkB,Bool.and_eq_true,decide_eq_true_eq] at h2
 have:=h2.1.1.2
 omega
def Stands (x:TBtree):Nat→Int→Prop
 | 0,_=>False
 | n+1,id=>∃p,pgAt x id=some p∧(p.1=false→∀k,k<p.2.2.2.length→Stands x n (p.2.2.2.getD k 0))
theorem kidsTo_all {f:Nat→TWalk→Option TWalk} {s:TWalk}:∀{m:Nat} {t:TWalk},kidsTo f m s=some t→∀k,k<m→∃a b,f k a=some b
 | 0,_,_,k,hk=>absurd hk (by omega)
 | m+1,t,h,k,hk=>by
  unfold kidsTo at h
  cases e:kidsTo f m s with
  | none=>rw [e] at h;cases h
  | some u =>
   rw [e] at h
   by_cases q:k=m
   ·subst q;exact ⟨u,t,h⟩
   ·exact kidsTo_all e k (by omega)
theorem stands_of_walk {x:TBtree}:∀{n:Nat} {id:Int} {far:Nat} {lo hi:ByteArray} {s t:TWalk},walkB x n id far lo hi s=some t→Stands x n id
 | 0,_,_,_,_,_,_,h=>by cases h
 | n + 1,id,far,lo,hi,s,t,h=>by
  unfold walkB at h
  cases hp:pgAt x id with
  | none=>rw [hp] at h;cases h
  | some p =>
   rw [hp] at h
   dsimp only at h
   refine ⟨p,hp,fun hl k hk=>?_⟩
   split at h
   ·cases h
   ·split at h
    ·cases h
    ·split at h
     ·cases h
     ·rw [if_neg (by rw [hl];decide)] at h
      obtain ⟨a,b,hb⟩:=kidsTo_all h k hk
      exact stands_of_walk hb
theorem stands_root {x:TBtree} (h:btreeB x=true):Stands x 64 x.1:=by
 unfold btreeB at h
 simp only [Bool.and_eq_true] at h
 have h2:=h.2
 unfold walkTop at h2
 cases e:walkB x 64 x.1 1 ⟨#[]⟩ ⟨#[]⟩ ([],none) with
 | none=>rw [e] at h2;cases h2
 | some s=>exact stands_of_walk e
theorem slots_of_btree {x:TBtree} (h:btreeB x=true):SlotsP x.2:=by
 unfold btreeB at h
 simp only [Bool.and_eq_true] at h
 exact of_decide_eq_true h.1
def keyIdx (l:List ByteArray) (key:ByteArray):Nat:=(l.takeWhile (fun k=>bytesLt k key)).length
def keyHas (l:List ByteArray) (key:ByteArray):Bool:=decide (keyIdx l key<l.length)&&decide (l.getD (keyIdx l key) ⟨#[]⟩=key)
def findB (p:TPage) (key:ByteArray):Nat×Bool:=(if keyHas p.2.1 key=true∧p.1=false then keyIdx p.2.1 key+1 else keyIdx p.2.1 key,keyHas p.2.1 key)
def wayB (x:TBtree) (key:ByteArray):Nat→Int→List (Int×Nat)×Bool
 | 0,_=>([],false)
 | n+1,id=>match pgAt x id with
  | none=>([],false)
  | some p=>if p.1=true then ([(id,(findB p key).1)],(findB p key).2)
   else ((id,(findB p key).1)::(wayB x key n (p.2.2.2.getD (findB p key).1 0)).1,(wayB x key n (p.2.2.2.getD (findB p key).1 0)).2)
theorem keyIdx_le (l:List ByteArray) (key:ByteArray):keyIdx l key≤l.length:=(List.takeWhile_prefix _).length_le
theorem findB_lt {p:TPage} (h:pageB p=true) (hl:p.1=false) (key:ByteArray):(findB p key).1<p.2.2.2.length:=by
 have h1:=fork_lens h hl
 have h2:=keyIdx_le p.2.1 key
 unfold findB
 dsimp only
 split
 ·rename_i hh
  have:=hh.1
  unfold keyHas at this
  simp only [Bool.and_eq_true,decide_eq_true_eq] at this
  omega
 ·omega
theorem way_len {x:TBtree} {key:ByteArray} (hs:SlotsP x.2):∀{n:Nat} {id:Int},Stands x n id→0<(wayB x key n id).1.length∧(wayB x key n id).1.length≤n
 | 0,_,h=>h.elim
 | n+1,id,⟨p,hp,hk⟩=>by
  unfold wayB
  rw [hp]
  dsimp only
  cases hl:p.1
  ·have hlt:=findB_lt (pgAt_ok hs hp) hl key
   have:=way_len hs (key:=key) (hk hl _ hlt)
   rw [if_neg (by decide)]
   simp only [List.length_cons]
   omega
  ·rw [if_pos rfl]
   simp
theorem way_last {x:TBtree} {key:ByteArray} (hs:SlotsP x.2):∀{n:Nat} {id:Int},Stands x n id→∃l i p,(wayB x key n id).1=l++[(i,keyIdx p.2.1 key)]∧pgAt x i=some p∧p.1=true∧(wayB x key n id).2=keyHas p.2.1 key
 | 0,_,h=>h.elim
 | n+1,id,⟨p,hp,hk⟩=>by
  unfold wayB
  rw [hp]
  dsimp only
  cases hl:p.1
  ·have hlt:=findB_lt (pgAt_ok hs hp) hl key
   obtain ⟨l,i,q,h1,h2,h3,h4⟩:=way_last hs (key:=key) (hk hl _ hlt)
   rw [if_neg (by decide)]
   exact ⟨(id,(findB p key).1)::l,i,q,by rw [h1];rfl,h2,h3,h4⟩
  ·rw [if_pos rfl]
   refine ⟨[],id,p,?_,hp,hl,rfl⟩
   show [(id,(findB p key).1)]=[(id,keyIdx p.2.1 key)]
   unfold findB
   rw [if_neg (by rw [hl];simp)]
def getB (x:TBtree) (key:ByteArray):ByteArray×Bool:=if btreeB x=true then
    (match (wayB x key 64 x.1).1.getLast? with
     | none=>(⟨#[]⟩,false)
     | some s=>if (wayB x key 64 x.1).2=true then (((pgAt x s.1).getD default).2.2.1.getD s.2 ⟨#[]⟩,true) else (⟨#[]⟩,false))
 else (⟨#[]⟩,false)
def idsB (x:TBtree):Nat→Int→List Int
 | 0,_=>[]
 | n+1,id=>match pgAt x id with
  | none=>[]
  | some p=>id::(if p.1=true then [] else (List.range p.2.2.2.length).flatMap (fun k=>idsB x n (p.2.2.2.getD k 0)))
theorem kidsTo_ids {f:Nat→TWalk→Option TWalk} {g:Nat→List Int} (hf:∀k a b,f k a=some b→b.1=a.1++g k):∀{m:Nat} {s t:TWalk},kidsTo f m s=some t→t.1=s.1++(List.range m).flatMap g
 | 0,s,t,h=>by cases h;simp
 | m+1,s,t,h=>by
  unfold kidsTo at h
  cases e:kidsTo f m s with
  | none=>rw [e] at h;cases h
  | some u =>
   rw [e] at h
   rw [hf m u t h,kidsTo_ids hf e,List.range_succ,List.flatMap_append]
   simp
theorem walk_ids {x:TBtree}:∀{n:Nat} {id:Int} {far:Nat} {lo hi:ByteArray} {s t:TWalk},walkB x n id far lo hi s=some t→t.1=s.1++idsB x n id
 | 0,_,_,_,_,_,_,h=>by cases h
 | n + 1,id,far,lo,hi,s,t,h=>by
  unfold walkB at h
  unfold idsB
  cases hp:pgAt x id with
  | none=>rw [hp] at h;cases h
  | some p =>
   rw [hp] at h
   dsimp only at h ⊢
   split at h
   ·cases h
   ·split at h
    ·cases h
    ·split at h
     ·cases h
     ·split at h
      ·rename_i hl
       rw [if_pos hl]
       unfold leafW at h
       split at h
       ·cases h;rfl
       ·split at h
        ·cases h;rfl
        ·cases h
      ·rename_i hl
       rw [if_neg hl,kidsTo_ids (g:=fun k=>idsB x n (p.2.2.2.getD k 0)) (fun k a b hb=>walk_ids hb) h,List.append_assoc]
       rfl
def TallP (x:TBtree):Nat→Int→Nat→Prop
 | 0,_,_=>False
 | n+1,id,h=>∃p,pgAt x id=some p∧(p.1=true→h=0)∧(p.1=false→∃h',h=h'+1∧∀k,k<p.2.2.2.length→TallP x n (p.2.2.2.getD k 0) h'∧∃q,pgAt x (p.2.2.2.getD k 0)=some q∧3≤fillOf q)
theorem kidsTo_deep {c : Nat} {P : Nat→Nat→Prop} {f:Nat→TWalk→Option TWalk} (hf:∀k a b,f k a=some b→∃h,b.2=some (c+h)∧(∀d,a.2=some d→d=c+h)∧P k h):∀{m:Nat} {s t:TWalk},kidsTo f (m+1) s=some t→∃h,t.2=some (c+h)∧(∀d,s.2=some d→d=c+h)∧∀k,k<m+1→P k h
 | 0,s,t,h=>by
  have h1:f 0 s=some t:=h
  obtain ⟨q,a,b,r⟩:=hf 0 s t h1
  exact ⟨q, a, b, fun k hk => by obtain rfl:k=0:=by omega
                                 exact r⟩
 | m+1,s,t,h=>by
  unfold kidsTo at h
  cases e:kidsTo f (m+1) s with
  | none=>rw [e] at h;cases h
  | some u =>
   rw [e] at h
   obtain ⟨q,a,b,r⟩:=kidsTo_deep hf e
   obtain ⟨q2,a2,b2,r2⟩:=hf (m+1) u t h
   have hq:q2=q:=by have:=b2 _ a;omega
   subst hq
   exact ⟨q2,a2,b,fun k hk=>by
    by_cases e:k=m+1
    ·subst e;exact r2
    ·exact r k (by omega)⟩
theorem fork_two {p:TPage} (h:pageB p=true) (hl:p.1=false):2≤p.2.2.2.length∧p.2.2.2.length≤6:=by
 unfold pageB at h
 simp only [Bool.and_eq_true] at h
 have h2:=h.2
 rw [if_neg (by rw [hl];decide)] at h2
 simp only [forkB,Bool.and_eq_true] at h2
 have:=inB_t.1 h2.1.1.1
 omega
theorem walk_deep {x:TBtree} (hs:SlotsP x.2):∀{n:Nat} {id:Int} {far:Nat} {lo hi:ByteArray} {s t:TWalk},1≤far→walkB x n id far lo hi s=some t→∃h,t.2=some (far+h)∧(∀d,s.2=some d→d=far+h)∧TallP x n id h∧(far≠1→∃q,pgAt x id=some q∧3≤fillOf q)
 | 0,_,_,_,_,_,_,_,h=>by cases h
 | n + 1, id,far,lo,hi,s,t,hfar,h=>by
  unfold walkB at h
  cases hp:pgAt x id with
  | none=>rw [hp] at h;cases h
  | some p =>
   rw [hp] at h
   dsimp only at h
   split at h
   ·cases h
   ·split at h
    ·cases h
    ·split at h
     ·cases h
     ·rename_i hf
      have hfill:far≠1→∃q,some p=some q∧3≤fillOf q:=fun hne=>⟨p,rfl,by
       by_cases h3:fillOf p<3
       ·exact absurd ⟨hne,h3⟩ hf
       ·omega⟩
      split at h
      ·rename_i hl
       unfold leafW at h
       have ht:TallP x (n+1) id 0:=⟨p,hp,fun _=>rfl,fun hh=>by rw [hl] at hh;cases hh⟩
       split at h
       ·rename_i hd
        cases h
        exact ⟨0,rfl,fun d h1=>(by rw [hd] at h1;cases h1),ht,hfill⟩
       ·rename_i d hd
        split at h
        ·rename_i he
         cases h
         exact ⟨0,by rw [he];rfl,fun d' h1=>(by rw [hd] at h1;cases h1;omega),ht,hfill⟩
        ·cases h
      ·rename_i hl
       have hl':p.1=false:=by cases e:p.1 <;> simp_all
       obtain ⟨m,hm⟩:∃m,p.2.2.2.length=m+1:=⟨p.2.2.2.length-1,by have:=(fork_two (pgAt_ok hs hp) hl').1;omega⟩
       rw [hm] at h
       obtain ⟨q,a,b,r⟩:=kidsTo_deep (c:=far+1) (P:=fun k h=>TallP x n (p.2.2.2.getD k 0) h∧∃q,pgAt x (p.2.2.2.getD k 0)=some q∧3≤fillOf q) (fun k a b hb=>by
        obtain ⟨h,h1,h2,h3,h4⟩:=walk_deep hs (by omega) hb
        exact ⟨h,h1,h2,h3,h4 (by omega)⟩) h
       refine ⟨q+1,by rw [a];congr 1;omega,fun d hd=>(by have:=b d hd;omega),⟨p,hp,fun hh=>(by rw [hl'] at hh;cases hh),fun _=>⟨q,rfl,fun k hk=>r k (by omega)⟩⟩,hfill⟩
theorem flat_disj {g:Nat→List Int}:∀{m:Nat},((List.range m).flatMap g).Nodup→(∀a,a<m→(g a).Nodup)∧∀a b,a<m→b<m→a≠b→∀i,i∈g a→i∉g b
 | 0,_=>⟨fun a h=>absurd h (by omega),fun a b h=>absurd h (by omega)⟩
 | m + 1,h=>by
  rw [List.range_succ,List.flatMap_append] at h
  obtain ⟨h1,h2,h3⟩:=List.nodup_append.1 h
  obtain ⟨k1,k2⟩:=flat_disj h1
  have e:[m].flatMap g=g m:=by simp
  rw [e] at h2 h3
  refine ⟨fun a ha=>?_,fun a b ha hb hne i hi hib=>?_⟩
  ·by_cases q:a=m
   ·subst q;exact h2
   ·exact k1 a (by omega)
  ·by_cases q:a=m
   ·subst q
    exact h3 i (List.mem_flatMap.2 ⟨b,List.mem_range.2 (by omega),hib⟩) i hi rfl
   ·by_cases q':b=m
    ·subst q'
     exact h3 i (List.mem_flatMap.2 ⟨a,List.mem_range.2 (by omega),hi⟩) i hib rfl
    ·exact k2 a b (by omega) (by omega) hne i hi hib
theorem tree_of {x:TBtree} (h:btreeB x=true):∃d,TallP x 64 x.1 d∧(idsB x 64 x.1).Nodup:=by
 have hs:=slots_of_btree h
 unfold btreeB at h
 simp only [Bool.and_eq_true] at h
 have h2:=h.2
 unfold walkTop at h2
 cases e:walkB x 64 x.1 1 ⟨#[]⟩ ⟨#[]⟩ ([],none) with
 | none=>rw [e] at h2;cases h2
 | some s =>
  obtain ⟨d,_,_,hd,_⟩:=walk_deep hs (Nat.le_refl 1) e
  have h1:=walk_ids e
  have h3:=(walk_adds (Nat.le_refl 1) e (metOk_nil x)).1.1
  rw [h1] at h3
  exact ⟨d,hd,by simpa using h3⟩
theorem ids_self {x:TBtree} {n:Nat} {id:Int} {d:Nat} (h:TallP x n id d):id∈idsB x n id:=by
 cases n with
 | zero=>exact h.elim
 | succ n =>
  obtain ⟨p,hp,_⟩:=h
  unfold idsB
  rw [hp]
  exact List.mem_cons_self ..
theorem tree_leaf {x:TBtree} {n:Nat} {id:Int} {d:Nat} (h:TallP x n id d) {p:TPage} (hp:pgAt x id=some p):p.1=decide (d=0):=by
 cases n with
 | zero=>exact h.elim
 | succ n =>
  obtain ⟨q,hq,h1,h2⟩:=h
  rw [hp] at hq
  cases hq
  cases e:p.1
  ·obtain ⟨h',rfl,_⟩:=h2 e
   simp
  ·rw [h1 e];rfl
abbrev PgM:Type:=Int→Option TPage
def setM (m:PgM) (id:Int) (p:Option TPage):PgM:=fun j=>if j=id then p else m j
theorem setM_same (m:PgM) (id:Int) (p:Option TPage):setM m id p id=p:=if_pos rfl
theorem setM_other (m:PgM) {id j:Int} (p:Option TPage) (h:j≠id):setM m id p j=m j:=if_neg h
def poorP (p:TPage):Bool:=decide (fillOf p<3)
def richP (p:TPage):Bool:=decide (3<fillOf p)
def remAt {α:Type} (l:List α) (k:Nat):List α:=l.take k++l.drop (k+1)
theorem remAt_len {α:Type} (l:List α) {k:Nat} (h:k<l.length):(remAt l k).length=l.length-1:=by
 unfold remAt
 simp only [List.length_append,List.length_take,List.length_drop]
 omega
theorem remAt_mem {α:Type} {l:List α} {k:Nat} {a:α} (h:a∈remAt l k):a∈l:=by
 unfold remAt at h
 rcases List.mem_append.1 h with h | h
 ·exact List.mem_of_mem_take h
 ·exact List.mem_of_mem_drop h
def moveR (x y:TPage) (key:ByteArray):TPage×TPage×ByteArray :=
 if x.1=true then
  ((x.1,x.2.1.take (x.2.1.length-1),x.2.2.1.take (x.2.1.length-1),x.2.2.2),(y.1,x.2.1.getD (x.2.1.length-1) ⟨#[]⟩::y.2.1,x.2.2.1.getD (x.2.1.length-1) ⟨#[]⟩::y.2.2.1,y.2.2.2),x.2.1.getD (x.2.1.length-1) ⟨#[]⟩)
 else
  ((x.1,x.2.1.take (x.2.1.length-1),x.2.2.1,x.2.2.2.take x.2.1.length),(y.1,key::y.2.1,y.2.2.1,x.2.2.2.getD x.2.1.length 0::y.2.2.2),x.2.1.getD (x.2.1.length-1) ⟨#[]⟩)
def moveL (x y:TPage) (key:ByteArray):TPage×TPage×ByteArray :=
 if x.1=true then
  ((x.1,x.2.1++[y.2.1.getD 0 ⟨#[]⟩],x.2.2.1++[y.2.2.1.getD 0 ⟨#[]⟩],x.2.2.2),(y.1,y.2.1.drop 1,y.2.2.1.drop 1,y.2.2.2),y.2.1.getD 1 ⟨#[]⟩)
 else
  ((x.1,x.2.1++[key],x.2.2.1,x.2.2.2++[y.2.2.2.getD 0 0]),(y.1,y.2.1.drop 1,y.2.2.1,y.2.2.2.drop 1),y.2.1.getD 0 ⟨#[]⟩)
def joinP (x y:TPage) (key:ByteArray):TPage :=
 (x.1,(if x.1=true then x.2.1 else x.2.1++[key])++y.2.1,x.2.2.1++y.2.2.1,x.2.2.2++y.2.2.2)
structure Fine (p:TPage):Prop where
 leaf:p.1=true→p.2.2.1.length=p.2.1.length∧p.2.2.2=[]
 fork:p.1=false→p.2.2.2.length=p.2.1.length+1∧p.2.2.1=[]
 fill:fillOf p≤6
 keys:∀k∈p.2.1,k.size≤213
 vals:∀v∈p.2.2.1,v.size≤64
 kids:∀i∈p.2.2.2,1≤i∧i≤64
def AllFine (m:PgM):Prop:=∀j q,m j=some q→(1≤j∧j≤64)∧Fine q
theorem getD_mem {α:Type} {l:List α} {k:Nat} (d:α) (h:k<l.length):l.getD k d∈l:=by
 rw [List.getD_eq_getElem?_getD,List.getElem?_eq_getElem h]
 exact List.getElem_mem h
theorem fill_leaf {p:TPage} (h:p.1=true):fillOf p=p.2.1.length:=by unfold fillOf;rw [if_pos h]
theorem fill_fork {p:TPage} (h:p.1=false):fillOf p=p.2.2.2.length:=by unfold fillOf;rw [if_neg (by rw [h];decide)]
theorem moveR_fine {x y:TPage} {key:ByteArray} (hx:Fine x) (hy:Fine y) (he:x.1=y.1) (hr:3<fillOf x) (hp:fillOf y<3) (hk:key.size≤213) :
 Fine (moveR x y key).1∧Fine (moveR x y key).2.1∧(moveR x y key).2.2.size≤213:=by
 unfold moveR
 cases hl:x.1
 ·have hly:y.1=false:=he▸hl
  rw [fill_fork hl] at hr
  rw [fill_fork hly] at hp
  obtain ⟨a1,a2⟩:=hx.fork hl
  obtain ⟨b1,b2⟩:=hy.fork hly
  have c1:=hx.fill
  rw [fill_fork hl] at c1
  rw [if_neg (by decide)]
  refine ⟨⟨fun h=>(by cases h),fun _=>⟨by simp only [List.length_take];omega,a2⟩,?_,fun k hk=>hx.keys k (List.mem_of_mem_take hk),hx.vals,fun i hi=>hx.kids i (List.mem_of_mem_take hi)⟩,
   ⟨fun h=>(by rw [hly] at h;cases h),fun _=>⟨by simp only [List.length_cons];omega,b2⟩,?_,fun k hk=>?_,hy.vals,fun i hi=>?_⟩,hx.keys _ (getD_mem _ (by omega))⟩
  ·rw [fill_fork rfl];simp only [List.length_take];omega
  ·unfold fillOf;dsimp only;rw [if_neg (by rw [hly];decide)];simp only [List.length_cons];omega
  ·rcases List.mem_cons.1 hk with rfl | hk
   ·assumption
   ·exact hy.keys k hk
  ·rcases List.mem_cons.1 hi with rfl | hi
   ·exact hx.kids _ (getD_mem _ (by omega))
   ·exact hy.kids i hi
 ·have hly:y.1=true:=he▸hl
  rw [fill_leaf hl] at hr
  rw [fill_leaf hly] at hp
  obtain ⟨a1,a2⟩:=hx.leaf hl
  obtain ⟨b1,b2⟩:=hy.leaf hly
  have c1:=hx.fill
  rw [fill_leaf hl] at c1
  rw [if_pos rfl]
  refine ⟨⟨fun _=>⟨by simp only [List.length_take];omega,a2⟩,fun h=>(by cases h),?_,fun k hk=>hx.keys k (List.mem_of_mem_take hk),fun k hk=>hx.vals k (List.mem_of_mem_take hk),hx.kids⟩,
   ⟨fun _=>⟨by simp only [List.length_cons];omega,b2⟩,fun h=>(by rw [hly] at h;cases h),?_,fun k hk=>?_,fun k hk=>?_,hy.kids⟩,hx.keys _ (getD_mem _ (by omega))⟩
  ·rw [fill_leaf rfl];simp only [List.length_take];omega
  ·unfold fillOf;dsimp only;rw [if_pos hly];simp only [List.length_cons];omega
  ·rcases List.mem_cons.1 hk with rfl | hk
   ·exact hx.keys _ (getD_mem _ (by omega))
   ·exact hy.keys k hk
  ·rcases List.mem_cons.1 hk with rfl | hk
   ·exact hx.vals _ (getD_mem _ (by omega))
   ·exact hy.vals k hk
theorem moveL_fine {x y:TPage} {key:ByteArray} (hx:Fine x) (hy:Fine y) (he:x.1=y.1) (hr:3<fillOf y) (hp:fillOf x<3) (hk:key.size≤213) :
 Fine (moveL x y key).1∧Fine (moveL x y key).2.1∧(moveL x y key).2.2.size≤213:=by
 unfold moveL
 cases hl:x.1
 ·have hly:y.1=false:=he▸hl
  rw [fill_fork hly] at hr
  rw [fill_fork hl] at hp
  obtain ⟨a1,a2⟩:=hx.fork hl
  obtain ⟨b1,b2⟩:=hy.fork hly
  have c1:=hy.fill
  rw [fill_fork hly] at c1
  rw [if_neg (by decide)]
  refine ⟨⟨fun h=>(by cases h),fun _=>⟨by simp only [List.length_append,List.length_cons,List.length_nil];omega,a2⟩,?_,fun k hk=>?_,hx.vals,fun i hi=>?_⟩,
   ⟨fun h=>(by rw [hly] at h;cases h),fun _=>⟨by simp only [List.length_drop];omega,b2⟩,?_,fun k hk=>hy.keys k (List.mem_of_mem_drop hk),hy.vals,fun i hi=>hy.kids i (List.mem_of_mem_drop hi)⟩,hy.keys _ (getD_mem _ (by omega))⟩
  ·rw [fill_fork rfl];simp only [List.length_append,List.length_cons,List.length_nil];omega
  ·rcases List.mem_append.1 hk with hk | hk
   ·exact hx.keys k hk
   ·rw [List.mem_singleton.1 hk];assumption
  ·rcases List.mem_append.1 hi with hi | hi
   ·exact hx.kids i hi
   ·rw [List.mem_singleton.1 hi];exact hy.kids _ (getD_mem _ (by omega))
  ·unfold fillOf;dsimp only;rw [if_neg (by rw [hly];decide)];simp only [List.length_drop];omega
 ·have hly:y.1=true:=he▸hl
  rw [fill_leaf hly] at hr
  rw [fill_leaf hl] at hp
  obtain ⟨a1,a2⟩:=hx.leaf hl
  obtain ⟨b1,b2⟩:=hy.leaf hly
  have c1:=hy.fill
  rw [fill_leaf hly] at c1
  rw [if_pos rfl]
  refine ⟨⟨fun _=>⟨by simp only [List.length_append,List.length_cons,List.length_nil];omega,a2⟩,fun h=>(by cases h),?_,fun k hk=>?_,fun k hk=>?_,hx.kids⟩,
   ⟨fun _=>⟨by simp only [List.length_drop];omega,b2⟩,fun h=>(by rw [hly] at h;cases h),?_,fun k hk=>hy.keys k (List.mem_of_mem_drop hk),fun k hk=>hy.vals k (List.mem_of_mem_drop hk),hy.kids⟩,hy.keys _ (getD_mem _ (by omega))⟩
  ·rw [fill_leaf rfl];simp only [List.length_append,List.length_cons,List.length_nil];omega
  ·rcases List.mem_append.1 hk with hk | hk
   ·exact hx.keys k hk
   ·rw [List.mem_singleton.1 hk];exact hy.keys _ (getD_mem _ (by omega))
  ·rcases List.mem_append.1 hk with hk | hk
   ·exact hx.vals k hk
   ·rw [List.mem_singleton.1 hk];exact hy.vals _ (getD_mem _ (by omega))
  ·unfold fillOf;dsimp only;rw [if_pos hly];simp only [List.length_drop];omega
theorem joinP_fine {x y:TPage} {key:ByteArray} (hx:Fine x) (hy:Fine y) (he:x.1=y.1) (hf:fillOf x+fillOf y≤6) (hk:key.size≤213):Fine (joinP x y key):=by
 unfold joinP
 cases hl:x.1
 ·have hly:y.1=false:=he▸hl
  rw [fill_fork hl,fill_fork hly] at hf
  obtain ⟨a1,a2⟩:=hx.fork hl
  obtain ⟨b1,b2⟩:=hy.fork hly
  rw [if_neg (by decide)]
  refine ⟨fun h=>(by cases h),fun _=>⟨by simp only [List.length_append,List.length_cons,List.length_nil];omega,by rw [a2,b2];rfl⟩,?_,fun k hk=>?_,fun k hk=>?_,fun i hi=>?_⟩
  ·rw [fill_fork rfl];simp only [List.length_append];omega
  ·rcases List.mem_append.1 hk with hk | hk
   ·rcases List.mem_append.1 hk with hk | hk
    ·exact hx.keys k hk
    ·rw [List.mem_singleton.1 hk];assumption
   ·exact hy.keys k hk
  ·rcases List.mem_append.1 hk with hk | hk
   ·exact hx.vals k hk
   ·exact hy.vals k hk
  ·rcases List.mem_append.1 hi with hi | hi
   ·exact hx.kids i hi
   ·exact hy.kids i hi
 ·have hly:y.1=true:=he▸hl
  rw [fill_leaf hl,fill_leaf hly] at hf
  obtain ⟨a1,a2⟩:=hx.leaf hl
  obtain ⟨b1,b2⟩:=hy.leaf hly
  rw [if_pos rfl]
  refine ⟨fun _=>⟨by simp only [List.length_append];omega,by rw [a2,b2];rfl⟩,fun h=>(by cases h),?_,fun k hk=>?_,fun k hk=>?_,fun i hi=>?_⟩
  ·rw [fill_leaf rfl];simp only [List.length_append];omega
  ·rcases List.mem_append.1 hk with hk | hk
   ·exact hx.keys k hk
   ·exact hy.keys k hk
  ·rcases List.mem_append.1 hk with hk | hk
   ·exact hx.vals k hk
   ·exact hy.vals k hk
  ·rcases List.mem_append.1 hi with hi | hi
   ·exact hx.kids i hi
   ·exact hy.kids i hi
def refillP (m:PgM) (above:Int) (k:Nat) (up x y:TPage):PgM :=
 let i:=up.2.2.2.getD (k-1) 0
 let j:=up.2.2.2.getD (k-1+1) 0
 let key:=up.2.1.getD (k-1) ⟨#[]⟩
 if 0<k∧3<fillOf x then
  setM (setM (setM m j (some (moveR x y key).2.1)) i (some (moveR x y key).1)) above (some (up.1,up.2.1.set (k-1) (moveR x y key).2.2,up.2.2.1,up.2.2.2))
 else if k=0∧3<fillOf y then
  setM (setM (setM m j (some (moveL x y key).2.1)) i (some (moveL x y key).1)) above (some (up.1,up.2.1.set (k-1) (moveL x y key).2.2,up.2.2.1,up.2.2.2))
 else
  setM (setM (setM m j none) i (some (joinP x y key))) above (some (up.1,remAt up.2.1 (k-1),up.2.2.1,remAt up.2.2.2 (k-1+1)))
def refillM (m:PgM) (above:Int) (k:Nat):PgM :=
 match m above with
 | none=>m
 | some up=>match m (up.2.2.2.getD (k-1) 0),m (up.2.2.2.getD (k-1+1) 0) with
  | some x,some y=>refillP m above k up x y
  | _,_=>m
structure Refills (m:PgM) (above:Int) (k:Nat) (up x y:TPage):Prop where
 fine:AllFine m
 hup:m above=some up
 fork:up.1=false
 two:k-1+1<up.2.2.2.length
 at_:k<up.2.2.2.length
 hx:m (up.2.2.2.getD (k-1) 0)=some x
 hy:m (up.2.2.2.getD (k-1+1) 0)=some y
 ne1:up.2.2.2.getD (k-1) 0≠up.2.2.2.getD (k-1+1) 0
 ne2:up.2.2.2.getD (k-1) 0≠above
 ne3:up.2.2.2.getD (k-1+1) 0≠above
 same:x.1=y.1
 poor:(k=0→fillOf x<3)∧(0<k→fillOf y<3)
 some:2≤fillOf x∧2≤fillOf y
theorem Refills.eq {m:PgM} {above:Int} {k:Nat} {up x y:TPage} (h:Refills m above k up x y):refillM m above k=refillP m above k up x y:=by
 unfold refillM
 rw [h.hup]
 dsimp only
 rw [h.hx,h.hy]
theorem Refills.keyAt {m:PgM} {above:Int} {k:Nat} {up x y:TPage} (h:Refills m above k up x y):k-1<up.2.1.length:=by
 have h1:=((h.fine _ _ h.hup).2.fork h.fork).1
 have h2:=h.two
 omega
theorem setM_fine {m:PgM} (h:AllFine m) {id:Int} {p:Option TPage} (hp:∀q,p=some q→(1≤id∧id≤64)∧Fine q):AllFine (setM m id p):=fun j q hq=>by
 by_cases e:j=id
 ·subst e
  rw [setM_same] at hq
  exact hp q hq
 ·rw [setM_other _ _ e] at hq
  exact h j q hq
theorem set_key_fine {up:TPage} (h:Fine up) {k:Nat} {s:ByteArray} (hs:s.size≤213):Fine (up.1,up.2.1.set k s,up.2.2.1,up.2.2.2):=by
 refine ⟨fun hl=>?_,fun hl=>?_,?_,fun a ha=>?_,h.vals,h.kids⟩
 ·rw [List.length_set];exact h.leaf hl
 ·rw [List.length_set];exact h.fork hl
 ·have:=h.fill
  unfold fillOf at this ⊢
  rw [List.length_set]
  exact this
 ·rcases List.mem_or_eq_of_mem_set ha with ha | rfl
  ·exact h.keys a ha
  ·exact hs
theorem cut_up_fine {up:TPage} (h:Fine up) (hl:up.1=false) {k:Nat} (hk:k+1<up.2.2.2.length):Fine (up.1,remAt up.2.1 k,up.2.2.1,remAt up.2.2.2 (k+1)):=by
 obtain ⟨a1,a2⟩:=h.fork hl
 have h1:=remAt_len up.2.1 (k:=k) (by omega)
 have h2:=remAt_len up.2.2.2 (k:=k+1) hk
 have h3:=h.fill
 rw [fill_fork hl] at h3
 refine ⟨fun hh=>(by rw [hl] at hh;cases hh),fun _=>⟨by dsimp only;omega,a2⟩,?_,fun a ha=>h.keys a (remAt_mem ha),h.vals,fun a ha=>h.kids a (remAt_mem ha)⟩
 unfold fillOf
 dsimp only
 rw [if_neg (by rw [hl];decide)]
 omega
theorem refill_keeps {m:PgM} {above:Int} {k:Nat} {up x y:TPage} (h:Refills m above k up x y) (hs:(k=0→3≤fillOf y)∧(0<k→3≤fillOf x)) :
 AllFine (refillM m above k)∧(∀j,j≠above→j≠up.2.2.2.getD (k-1) 0→j≠up.2.2.2.getD (k-1+1) 0→refillM m above k j=m j) ∧
 ∃q,refillM m above k above=some q∧q.1=up.1∧fillOf q≤fillOf up∧fillOf up≤fillOf q+1:=by
 rw [h.eq]
 obtain ⟨hiU,hU⟩:=h.fine _ _ h.hup
 obtain ⟨hiX,hX⟩:=h.fine _ _ h.hx
 obtain ⟨hiY,hY⟩:=h.fine _ _ h.hy
 have hkey:=hU.keys _ (getD_mem ⟨#[]⟩ h.keyAt)
 unfold refillP
 dsimp only
 by_cases c1:0<k∧3<fillOf x
 ·rw [if_pos c1]
  obtain ⟨m1,m2,m3⟩:=moveR_fine hX hY h.same c1.2 (h.poor.2 c1.1) hkey
  refine ⟨setM_fine (setM_fine (setM_fine h.fine fun q hq=>?_) fun q hq=>?_) fun q hq=>?_,fun j j1 j2 j3=>?_,_,setM_same _ _ _,rfl,?_,?_⟩
  ·cases hq;exact ⟨hiY,m2⟩
  ·cases hq;exact ⟨hiX,m1⟩
  ·cases hq;exact ⟨hiU,set_key_fine hU m3⟩
  ·rw [setM_other _ _ j1,setM_other _ _ j2,setM_other _ _ j3]
  ·unfold fillOf;dsimp only;rw [h.fork];simp
  ·unfold fillOf;dsimp only;rw [h.fork];simp
 ·rw [if_neg c1]
  by_cases c2:k=0∧3<fillOf y
  ·rw [if_pos c2]
   obtain ⟨m1,m2,m3⟩:=moveL_fine hX hY h.same c2.2 (h.poor.1 c2.1) hkey
   refine ⟨setM_fine (setM_fine (setM_fine h.fine fun q hq=>?_) fun q hq=>?_) fun q hq=>?_,fun j j1 j2 j3=>?_,_,setM_same _ _ _,rfl,?_,?_⟩
   ·cases hq;exact ⟨hiY,m2⟩
   ·cases hq;exact ⟨hiX,m1⟩
   ·cases hq;exact ⟨hiU,set_key_fine hU m3⟩
   ·rw [setM_other _ _ j1,setM_other _ _ j2,setM_other _ _ j3]
   ·unfold fillOf;dsimp only;rw [h.fork];simp
   ·unfold fillOf;dsimp only;rw [h.fork];simp
  ·rw [if_neg c2]
   have hf:fillOf x+fillOf y≤6:=by
    have p1:=h.poor
    by_cases e:k=0
    ·have:=p1.1 e
     have:¬3<fillOf y:=fun hh=>c2 ⟨e,hh⟩
     omega
    ·have:=p1.2 (by omega)
     have:¬3<fillOf x:=fun hh=>c1 ⟨by omega,hh⟩
     omega
   refine ⟨setM_fine (setM_fine (setM_fine h.fine fun q hq=>?_) fun q hq=>?_) fun q hq=>?_,fun j j1 j2 j3=>?_,_,setM_same _ _ _,rfl,?_,?_⟩
   ·cases hq
   ·cases hq;exact ⟨hiX,joinP_fine hX hY h.same hf hkey⟩
   ·cases hq;exact ⟨hiU,cut_up_fine hU h.fork h.two⟩
   ·rw [setM_other _ _ j1,setM_other _ _ j2,setM_other _ _ j3]
   ·unfold fillOf
    dsimp only
    rw [h.fork,if_neg (by decide),if_neg (by decide),remAt_len _ h.two]
    omega
   ·unfold fillOf
    dsimp only
    rw [h.fork,if_neg (by decide),if_neg (by decide),remAt_len _ h.two]
    omega
def leafM (m:PgM) (id:Int) (k:Nat):PgM :=
 match m id with
 | some p=>setM m id (some (p.1,remAt p.2.1 k,remAt p.2.2.1 k,p.2.2.2))
 | none=>m
def stepM (m:PgM) (id:Int) (above:Int) (k:Nat):PgM :=
 match m id with
 | some p=>if poorP p=true then refillM m above k else m
 | none=>m
def cutR (m:PgM):List (Int×Nat)→PgM
 | []=>m
 | [s]=>leafM m s.1 s.2
 | s::t::rest=>stepM (cutR m (t::rest)) t.1 s.1 s.2
def WayOk (m:PgM):List (Int×Nat)→Prop
 | []=>False
 | [s]=>∃p,m s.1=some p∧p.1=true∧s.2<p.2.1.length∧AllFine m
 | s::t::rest=>WayOk m (t::rest)∧∃p,cutR m (t::rest) t.1=some p∧(∃up,m s.1=some up∧cutR m (t::rest) s.1=some up∧up.1=false∧s.2<up.2.2.2.length∧up.2.2.2.getD s.2 0=t.1)∧AllFine (cutR m (t::rest))∧(poorP p=true→∃up x y,Refills (cutR m (t::rest)) s.1 s.2 up x y)
theorem keysP_all {l:List ByteArray} (h:KeysP l):∀k∈l,keyB k=true:=fun k hk=>by
 obtain ⟨i,hi,rfl⟩:=List.getElem_of_mem hk
 exact (h i hi).1
theorem pageB_fine {p:TPage} (h:pageB p=true):Fine p:=by
 have hk:keysB p.2.1=true:=by unfold pageB at h;simp only [Bool.and_eq_true] at h;exact h.1
 have h2:=h
 unfold pageB at h2
 simp only [Bool.and_eq_true] at h2
 have h3:=h2.2
 have hks:∀k∈p.2.1,k.size≤213:=fun k hm=>keyB_size (keysP_all (of_decide_eq_true hk) k hm)
 cases hl:p.1
 ·rw [if_neg (by rw [hl];decide)] at h3
  have h4:=h3
  simp only [forkB,Bool.and_eq_true,decide_eq_true_eq,Bool.not_eq_true',List.any_eq_false] at h3
  obtain ⟨⟨⟨q1,q2⟩,q3⟩,q4⟩:=h3
  have q1':=inB_t.1 q1
  have q5:=List.eq_nil_of_length_eq_zero q3
  refine ⟨fun hh=>(by cases hl.symm.trans hh),fun _=>⟨by omega,q5⟩,?_,hks,fun v hv=>by rw [q5] at hv;simp at hv,fun i hi=>?_⟩
  ·rw [fill_fork hl];omega
  ·have h5:=q4 i hi
   unfold notKid at h5
   exact inB_t.1 (by simpa using h5)
 ·rw [if_pos hl] at h3
  simp only [leafB,longB,Bool.and_eq_true,decide_eq_true_eq,Bool.not_eq_true',List.any_eq_false] at h3
  obtain ⟨⟨⟨q1,q2⟩,q3⟩,q4⟩:=h3
  have q5:=List.eq_nil_of_length_eq_zero q4
  refine ⟨fun _=>⟨q2,q5⟩,fun hh=>(by cases hl.symm.trans hh),?_,hks,fun v hv=>?_,fun i hi=>by rw [q5] at hi;simp at hi⟩
  ·rw [fill_leaf hl];omega
  ·have h5:=q3 v hv
   exact Nat.le_of_not_lt (fun hh=>h5 (by first | exact decide_eq_true hh | exact hh))
theorem allFine_pgAt {x:TBtree} (hs:SlotsP x.2):AllFine (pgAt x):=fun j q hq=>by
 refine ⟨?_,pageB_fine (pgAt_ok hs hq)⟩
 obtain ⟨i,hi,e⟩:=pgAt_some hq
 have:=inB_t.1 (hs i hi).1
 rw [e] at this
 exact this
theorem cut_leaf_fine {p:TPage} (h:Fine p) (hl:p.1=true) {k:Nat} (hk:k<p.2.1.length):Fine (p.1,remAt p.2.1 k,remAt p.2.2.1 k,p.2.2.2):=by
 obtain ⟨a1,a2⟩:=h.leaf hl
 have h1:=remAt_len p.2.1 hk
 have h2:=remAt_len p.2.2.1 (k:=k) (by omega)
 have h3:=h.fill
 rw [fill_leaf hl] at h3
 refine ⟨fun _=>⟨by dsimp only;omega,a2⟩,fun hh=>(by rw [hl] at hh;cases hh),?_,fun a ha=>h.keys a (remAt_mem ha),fun a ha=>h.vals a (remAt_mem ha),h.kids⟩
 unfold fillOf
 dsimp only
 rw [if_pos hl]
 omega
structure Apart (x:TBtree) (n:Nat) (id:Int) (p:TPage) (h:Nat):Prop where
 tree:∀a,a<p.2.2.2.length→TallP x n (p.2.2.2.getD a 0) h∧∃q,pgAt x (p.2.2.2.getD a 0)=some q∧3≤fillOf q
 nd:∀a,a<p.2.2.2.length→(idsB x n (p.2.2.2.getD a 0)).Nodup
 top:∀a,a<p.2.2.2.length→id∉idsB x n (p.2.2.2.getD a 0)
 far:∀a b,a<p.2.2.2.length→b<p.2.2.2.length→a≠b→p.2.2.2.getD a 0∉idsB x n (p.2.2.2.getD b 0)
theorem Apart.ne {x:TBtree} {n:Nat} {id:Int} {p:TPage} {h:Nat} (k:Apart x n id p h) {a b:Nat} (ha:a<p.2.2.2.length) (hb:b<p.2.2.2.length) (hne:a≠b):p.2.2.2.getD a 0≠p.2.2.2.getD b 0:=fun e =>
 k.far a b ha hb hne (by rw [e];exact ids_self (k.tree b hb).1)
theorem Apart.neTop {x:TBtree} {n:Nat} {id:Int} {p:TPage} {h:Nat} (k:Apart x n id p h) {a:Nat} (ha:a<p.2.2.2.length):p.2.2.2.getD a 0≠id:=fun e =>
 k.top a ha (by have h1:=ids_self (k.tree a ha).1;rw [e] at h1 ⊢;exact h1)
theorem apart_of {x:TBtree} {n:Nat} {id:Int} {h:Nat} (hT:TallP x (n+1) id h) (hn:(idsB x (n+1) id).Nodup) {p:TPage} (hp:pgAt x id=some p) (hl:p.1=false):∃h',Apart x n id p h'∧∀j,j∉idsB x (n+1) id→j≠id∧∀a,a<p.2.2.2.length→j∉idsB x n (p.2.2.2.getD a 0):=by
 obtain ⟨p',hp',_,h1⟩:=hT
 rw [hp] at hp'
 cases hp'
 obtain ⟨h',rfl,hk⟩:=h1 hl
 have e:idsB x (n+1) id=id::(List.range p.2.2.2.length).flatMap (fun k=>idsB x n (p.2.2.2.getD k 0)):=by
  show (match pgAt x id with | none=>[] | some p=>id::(if p.1=true then [] else (List.range p.2.2.2.length).flatMap (fun k=>idsB x n (p.2.2.2.getD k 0))))=_
  rw [hp]
  dsimp only
  rw [if_neg (by rw [hl];decide)]
 rw [e] at hn ⊢
 obtain ⟨n1,n2⟩:=List.nodup_cons.1 hn
 obtain ⟨d1,d2⟩:=flat_disj n2
 have hm:∀a,a<p.2.2.2.length→∀i,i∈idsB x n (p.2.2.2.getD a 0)→i∈(List.range p.2.2.2.length).flatMap (fun k=>idsB x n (p.2.2.2.getD k 0)):=fun a ha i hi=>List.mem_flatMap.2 ⟨a,List.mem_range.2 ha,hi⟩
 refine ⟨h',⟨hk,d1,fun a ha hh=>n1 (hm a ha _ hh),fun a b ha hb hne=>d2 a b ha hb hne _ (ids_self (hk a ha).1)⟩,fun j hj=>⟨fun e=>hj (by rw [e];exact List.mem_cons_self ..),fun a ha hh=>hj (List.mem_cons_of_mem _ (hm a ha _ hh))⟩⟩
theorem refills_at {x:TBtree} {n:Nat} {id:Int} {p:TPage} {h:Nat} (hA:Apart x n id p h) (hpg:pageB p=true) (hl:p.1=false) {m:PgM} (hf:AllFine m) (hup:m id=some p) {k:Nat} (hk:k<p.2.2.2.length) {q q':TPage}
 (hq:pgAt x (p.2.2.2.getD k 0)=some q) (hq':m (p.2.2.2.getD k 0)=some q') (hfl:q'.1=q.1) (ho:∀a,a<p.2.2.2.length→a≠k→m (p.2.2.2.getD a 0)=pgAt x (p.2.2.2.getD a 0)) (hpo:fillOf q'<3) (hp2:2≤fillOf q') :
 ∃y z,Refills m id k p y z∧(k=0→3≤fillOf z)∧(0<k→3≤fillOf y):=by
 have h2:=(fork_two hpg hl).1
 have flag:∀a r,a<p.2.2.2.length→pgAt x (p.2.2.2.getD a 0)=some r→r.1=q.1:=fun a r ha hr=>by
  rw [tree_leaf (hA.tree a ha).1 hr,tree_leaf (hA.tree k hk).1 hq]
 by_cases e:k=0
 ·subst e
  obtain ⟨_,r,hr,h3⟩:=hA.tree 1 (by omega)
  exact ⟨q',r,⟨hf,hup,hl,by omega,hk,hq',(ho 1 (by omega) (by omega)).trans hr,hA.ne hk (by omega) (by omega),hA.neTop hk,hA.neTop (by omega),hfl.trans (flag 1 r (by omega) hr).symm,⟨fun _=>hpo,fun hh=>absurd hh (by omega)⟩,⟨hp2,by omega⟩⟩,fun _=>h3,fun hh=>absurd hh (by omega)⟩
 ·obtain ⟨_,r,hr,h3⟩:=hA.tree (k-1) (by omega)
  have ek:k-1+1=k:=by omega
  exact ⟨r,q',⟨hf,hup,hl,by omega,hk,(ho (k-1) (by omega) (by omega)).trans hr,by rw [ek];exact hq',hA.ne (by omega) (by omega) (by omega),hA.neTop (by omega),hA.neTop (by omega),(flag (k-1) r (by omega) hr).trans hfl.symm,⟨fun hh=>absurd hh e,fun _=>hpo⟩,⟨by omega,hp2⟩⟩,fun hh=>absurd hh e,fun _=>h3⟩
theorem cut_main {x:TBtree} (hs:SlotsP x.2) {key:ByteArray}:∀{n:Nat} {id:Int} {h:Nat},TallP x n id h→(idsB x n id).Nodup→(wayB x key n id).2=true →
 ∃p p' k rest,pgAt x id=some p∧(wayB x key n id).1=(id,k)::rest∧WayOk (pgAt x) (wayB x key n id).1∧AllFine (cutR (pgAt x) (wayB x key n id).1)∧(∀j,j∉idsB x n id→cutR (pgAt x) (wayB x key n id).1 j=pgAt x j)∧cutR (pgAt x) (wayB x key n id).1 id=some p'∧p'.1=p.1∧fillOf p'≤fillOf p∧fillOf p≤fillOf p'+1
 | 0,_,_,hT,_,_=>hT.elim
 | n+1,id,h,hT,hn,hw=>by
  have hT':=hT
  obtain ⟨p,hp,_,_⟩:=hT'
  have hpg:=pgAt_ok hs hp
  have hall:=allFine_pgAt hs
  cases hl:p.1
  ·have hlt:=findB_lt hpg hl key
   have ew:wayB x key (n+1) id=((id,(findB p key).1)::(wayB x key n (p.2.2.2.getD (findB p key).1 0)).1,(wayB x key n (p.2.2.2.getD (findB p key).1 0)).2):=by
    show (match pgAt x id with | none=>_ | some p=>_)=_
    rw [hp]
    dsimp only
    rw [if_neg (by rw [hl];decide)]
   obtain ⟨h',hA,hout⟩:=apart_of hT hn hp hl
   rw [ew] at hw ⊢
   dsimp only at hw ⊢
   generalize (findB p key).1=k at *
   obtain ⟨q,q',k1,rest,hq,hway,hok,hfine,ho,hq',hfl,hf1,hf2⟩:=cut_main hs (hA.tree k hlt).1 (hA.nd k hlt) hw
   rw [hway] at hok hfine ho hq' ⊢
   have hup:cutR (pgAt x) ((p.2.2.2.getD k 0,k1)::rest) id=some p:=(ho id (hA.top k hlt)).trans hp
   have hos:∀a,a<p.2.2.2.length→a≠k→cutR (pgAt x) ((p.2.2.2.getD k 0,k1)::rest) (p.2.2.2.getD a 0)=pgAt x (p.2.2.2.getD a 0):=fun a ha hne=>ho _ (hA.far a k ha hlt hne)
   have hq3:3≤fillOf q:=by
    obtain ⟨_,q0,hq0,h3⟩:=hA.tree k hlt
    rw [hq] at hq0
    cases hq0
    exact h3
   have hR:=fun (hpo:fillOf q'<3)=>refills_at hA hpg hl hfine hup hlt hq hq' hfl hos hpo (by omega)
   have hcut:cutR (pgAt x) ((id,k)::(p.2.2.2.getD k 0,k1)::rest)=stepM (cutR (pgAt x) ((p.2.2.2.getD k 0,k1)::rest)) (p.2.2.2.getD k 0) id k:=rfl
   have hstep:stepM (cutR (pgAt x) ((p.2.2.2.getD k 0,k1)::rest)) (p.2.2.2.getD k 0) id k=if poorP q'=true then refillM (cutR (pgAt x) ((p.2.2.2.getD k 0,k1)::rest)) id k else cutR (pgAt x) ((p.2.2.2.getD k 0,k1)::rest):=by
    unfold stepM
    rw [hq']
   rw [hcut,hstep]
   refine ⟨p,?_⟩
   have hW:WayOk (pgAt x) ((id,k)::(p.2.2.2.getD k 0,k1)::rest):=⟨hok,q',hq',⟨p,hp,hup,hl,hlt,rfl⟩,hfine,fun hpo=>by
    obtain ⟨y,z,hr,_⟩:=hR (of_decide_eq_true hpo)
    exact ⟨p,y,z,hr⟩⟩
   by_cases hpo:poorP q'=true
   ·rw [if_pos hpo]
    obtain ⟨y,z,hr,hs3⟩:=hR (of_decide_eq_true hpo)
    obtain ⟨r1,r2,p',r3,r4,r5,r6⟩:=refill_keeps hr hs3
    refine ⟨p',k,_,hp,rfl,hW,r1,fun j hj=>?_,r3,r4,r5,r6⟩
    obtain ⟨j1,j2⟩:=hout j hj
    have mk:∀a,a<p.2.2.2.length→j≠p.2.2.2.getD a 0:=fun a ha e=>j2 a ha (by rw [e];exact ids_self (hA.tree a ha).1)
    rw [r2 j j1 (mk _ (by omega)) (mk _ hr.two)]
    exact ho j (j2 k hlt)
   ·rw [if_neg hpo]
    exact ⟨p,k,_,hp,rfl,hW,hfine,fun j hj=>ho j ((hout j hj).2 k hlt),hup,rfl,Nat.le_refl _,Nat.le_succ _⟩
  ·have ew:wayB x key (n+1) id=([(id,(findB p key).1)],(findB p key).2):=by
    show (match pgAt x id with | none=>_ | some p=>_)=_
    rw [hp]
    dsimp only
    rw [if_pos hl]
   rw [ew] at hw ⊢
   dsimp only at hw ⊢
   have e1:(findB p key).1=keyIdx p.2.1 key:=by
    unfold findB
    rw [if_neg (by rw [hl];simp)]
   have hk:keyIdx p.2.1 key<p.2.1.length:=by
    have:keyHas p.2.1 key=true:=hw
    unfold keyHas at this
    simp only [Bool.and_eq_true,decide_eq_true_eq] at this
    exact this.1
   rw [e1]
   generalize keyIdx p.2.1 key=k at *
   have ec:cutR (pgAt x) [(id,k)]=setM (pgAt x) id (some (p.1,remAt p.2.1 k,remAt p.2.2.1 k,p.2.2.2)):=by
    show leafM _ _ _=_
    unfold leafM
    rw [hp]
   rw [ec]
   obtain ⟨hid,hF⟩:=hall _ _ hp
   refine ⟨p,_,k,[],hp,rfl,⟨p,hp,hl,hk,hall⟩,setM_fine hall (fun q hq=>by cases hq;exact ⟨hid,cut_leaf_fine hF hl hk⟩),fun j hj=>setM_other _ _ (fun e=>hj (by rw [e];exact ids_self hT)),setM_same _ _ _,rfl,?_,?_⟩
   ·unfold fillOf
    dsimp only
    rw [if_pos hl,if_pos hl,remAt_len _ hk]
    omega
   ·unfold fillOf
    dsimp only
    rw [if_pos hl,if_pos hl,remAt_len _ hk]
    omega
def rootM (m:PgM) (root:Int):PgM×Int :=
 match m root with
 | some p=>if p.1=false∧p.2.2.2.length=1 then (setM m root none,p.2.2.2.getD 0 0) else (m,root)
 | none=>(m,root)
def slotsM (m:PgM):List TSlot:=(List.range 64).filterMap (fun (i:Nat)=>(m ((i:Int)+1)).map (fun p=>(((i:Int)+1,p):TSlot)))
def cutM (x:TBtree) (key:ByteArray):PgM×Int:=rootM (cutR (pgAt x) (wayB x key 64 x.1).1) x.1
def btCut (x:TBtree) (key:ByteArray):TBtree:=if btreeB x=true∧keyB key=true∧(wayB x key 64 x.1).2=true then ((cutM x key).2,slotsM (cutM x key).1) else (0,[])
def btCutC (x:TBtree) (key:ByteArray):Int:=if btreeB x=true∧keyB key=true then (if (wayB x key 64 x.1).2=true then 0 else 3) else 1
def IdsP (l:List TSlot):Prop:=l.Pairwise (fun a b=>a.1<b.1)∧∀s∈l,1≤s.1∧s.1≤64
def atL (l:List TSlot):PgM:=fun id=>(l.find? (fun s=>s.1==id)).map (·.2)
theorem ids_of_slots {l:List TSlot} (h:SlotsP l):IdsP l:=by
 refine ⟨List.pairwise_iff_getElem.2 fun i j hi hj hij=>slots_lt h i j hj hij,fun s hs=>?_⟩
 obtain ⟨i,hi,rfl⟩:=List.getElem_of_mem hs
 exact inB_t.1 (h i hi).1
theorem atL_cons (a:TSlot) (l:List TSlot) (id:Int):atL (a::l) id=if a.1=id then some a.2 else atL l id:=by
 unfold atL
 rw [List.find?_cons]
 by_cases e:a.1=id
 ·rw [if_pos e];simp [e]
 ·rw [if_neg e]
  have:(a.1==id)=false:=by simp [e]
  rw [this]
theorem atL_mem {l:List TSlot} (h:IdsP l) {id:Int} {p:TPage}:atL l id=some p↔(id,p)∈l:=by
 induction l with
 | nil=>simp [atL]
 | cons a l ih =>
  obtain ⟨h1,h2⟩:=List.pairwise_cons.1 h.1
  have ih:=ih ⟨h2,fun s hs=>h.2 s (List.mem_cons_of_mem _ hs)⟩
  rw [atL_cons,List.mem_cons]
  by_cases e:a.1=id
  ·rw [if_pos e]
   constructor
   ·intro hh
    cases hh
    exact .inl (by rw [←e])
   ·rintro (hh | hh)
    ·rw [←hh]
    ·have:=h1 _ hh
     dsimp only at this
     omega
  ·rw [if_neg e,ih]
   constructor
   ·exact fun hh=>.inr hh
   ·rintro (hh | hh)
    ·exact absurd (by rw [←hh]) e
    ·exact hh
theorem ids_ext {l m:List TSlot} (hl:IdsP l) (hm:IdsP m) (h:∀id,atL l id=atL m id):l=m:=by
 have hmem:∀s:TSlot,s∈l↔s∈m:=fun s=>by rw [←atL_mem hl (id:=s.1) (p:=s.2),←atL_mem hm,h]
 clear h
 induction l generalizing m with
 | nil=>cases m with
  | nil=>rfl
  | cons b m=>have:=(hmem b).2 (by simp);simp at this
 | cons a l ih=>cases m with
  | nil=>have:=(hmem a).1 (by simp);simp at this
  | cons b m =>
   obtain ⟨l1,l2⟩:=List.pairwise_cons.1 hl.1
   obtain ⟨m1,m2⟩:=List.pairwise_cons.1 hm.1
   have e:a=b:=by
    rcases List.mem_cons.1 ((hmem a).1 (by simp)) with e | ha
    ·exact e
    ·rcases List.mem_cons.1 ((hmem b).2 (by simp)) with e | hb
     ·exact e.symm
     ·have:=m1 a ha
      have:=l1 b hb
      omega
   subst e
   rw [ih ⟨l2,fun s hs=>hl.2 s (List.mem_cons_of_mem _ hs)⟩ ⟨m2,fun s hs=>hm.2 s (List.mem_cons_of_mem _ hs)⟩ fun s=>?_]
   constructor
   ·intro hs
    rcases List.mem_cons.1 ((hmem s).1 (List.mem_cons_of_mem _ hs)) with e | hs'
    ·have:=l1 s hs
     rw [e] at this
     omega
    ·exact hs'
   ·intro hs
    rcases List.mem_cons.1 ((hmem s).2 (List.mem_cons_of_mem _ hs)) with e | hs'
    ·have:=m1 s hs
     rw [e] at this
     omega
    ·exact hs'
theorem ids_len {l:List TSlot} (h:IdsP l):l.length≤64:=by
 have h1:(l.map (·.1)).Nodup:=by
  refine List.pairwise_map.2 (h.1.imp fun {a b} hab=>?_)
  omega
 have h2:l.map (·.1)⊆(List.range 64).map (fun (i:Nat)=>(i:Int)+1):=fun i hi=>by
  obtain ⟨s,hs,rfl⟩:=List.mem_map.1 hi
  have:=h.2 s hs
  exact List.mem_map.2 ⟨(s.1-1).toNat,List.mem_range.2 (by omega),by omega⟩
 have h3:=nodup_le h1 h2
 simpa using h3
def setStep (id:Int) (p:TPage) (s:List TSlot×Bool) (a:TSlot):List TSlot×Bool :=
 let t:=if s.2=false∧id≤a.1 then (s.1++[(id,p)],true) else s
 if a.1≠id then (t.1++[a],t.2) else t
def setTo (id:Int) (p:TPage) (l:List TSlot):List TSlot×Bool:=l.foldl (setStep id p) ([],false)
def setL (id:Int) (p:TPage) (l:List TSlot):List TSlot:=if (setTo id p l).2=true then (setTo id p l).1 else (setTo id p l).1++[(id,p)]
def dropL (id:Int) (l:List TSlot):List TSlot:=l.filter (fun s=>decide (s.1≠id))
theorem setTo_snoc (id:Int) (p:TPage) (l:List TSlot) (a:TSlot):setTo id p (l++[a])=setStep id p (setTo id p l) a:=by unfold setTo;rw [List.foldl_append];rfl
theorem setStep_eq (id:Int) (p:TPage) (X:List TSlot) {a:TSlot} (d:a.1=id):setStep id p (X,false) a=(X++[(id,p)],true):=by unfold setStep;simp [d]
theorem setStep_gt (id:Int) (p:TPage) (X:List TSlot) {a:TSlot} (c:id≤a.1) (d:a.1≠id):setStep id p (X,false) a=(X++[(id,p)]++[a],true):=by unfold setStep;simp [c,d]
theorem setStep_lt (id:Int) (p:TPage) (X:List TSlot) {a:TSlot} (c:¬id≤a.1):setStep id p (X,false) a=(X++[a],false):=by
 have d:a.1≠id:=by omega
 unfold setStep;simp [c,d]
theorem setStep_on (id:Int) (p:TPage) (X:List TSlot) {a:TSlot} (d:a.1≠id):setStep id p (X,true) a=(X++[a],true):=by unfold setStep;simp [d]
theorem setStep_no (id:Int) (p:TPage) (X:List TSlot) {a:TSlot} (d:a.1=id):setStep id p (X,true) a=(X,true):=by unfold setStep;simp [d]
theorem setStep_len (id:Int) (p:TPage) (s:List TSlot×Bool) (a:TSlot):(setStep id p s a).1.length≤s.1.length+2:=by
 obtain ⟨X,b⟩:=s
 cases b
 ·by_cases c:id≤a.1
  ·by_cases d:a.1=id
   ·rw [setStep_eq _ _ _ d];simp
   ·rw [setStep_gt _ _ _ c d];simp
  ·rw [setStep_lt _ _ _ c];simp
 ·by_cases d:a.1=id
  ·rw [setStep_no _ _ _ d];simp
  ·rw [setStep_on _ _ _ d];simp
theorem setTo_take (id:Int) (p:TPage) {l:List TSlot} {i:Nat} (h:i<l.length):setTo id p (l.take (i+1))=setStep id p (setTo id p (l.take i)) l[i]:=by
 rw [List.take_succ_eq_append_getElem h,setTo_snoc]
theorem setTo_len (id:Int) (p:TPage) (l:List TSlot):∀i,i≤l.length→(setTo id p (l.take i)).1.length≤2*i
 | 0,_=>by simp [setTo]
 | i+1,h=>by
  have h1:=setTo_len id p l i (by omega)
  have h2:=setStep_len id p (setTo id p (l.take i)) l[i]
  rw [setTo_take id p (by omega)]
  omega
structure SetOk (id:Int) (p:TPage) (l:List TSlot) (s:List TSlot×Bool):Prop where
 no:s.2=false→s.1=l∧∀a∈l,a.1<id
 asc:s.2=true→s.1.Pairwise (fun a b=>a.1<b.1)∧(∀x,x∈s.1↔x=(id,p)∨(x∈l∧x.1≠id))∧∃b∈l,id≤b.1
theorem setStep_ok {id:Int} {p:TPage} {l:List TSlot} {a:TSlot} (h:(l++[a]).Pairwise (fun a b=>a.1<b.1)) {s:List TSlot×Bool} (ih:SetOk id p l s):SetOk id p (l++[a]) (setStep id p s a):=by
 obtain ⟨h1,_,h3⟩:=List.pairwise_append.1 h
 have hla:∀x∈l,x.1<a.1:=fun x hx=>h3 x hx a (by simp)
 obtain ⟨s1,s2⟩:=s
 cases s2
 ·obtain ⟨e,hlt⟩:=ih.no rfl
  dsimp only at e
  subst e
  by_cases c:id≤a.1
  ·by_cases d:a.1=id
   ·rw [setStep_eq _ _ _ d]
    refine ⟨fun hh=>(by cases hh),fun _=>⟨?_,fun x=>?_,a,by simp,c⟩⟩
    ·exact List.pairwise_append.2 ⟨h1,by simp,fun x hx y hy=>by
      rw [List.mem_singleton.1 hy];exact hlt x hx⟩
    ·simp only [List.mem_append,List.mem_singleton]
     constructor
     ·rintro (hx | hx)
      ·exact .inr ⟨.inl hx,by have:=hlt x hx;omega⟩
      ·exact .inl hx
     ·rintro (hx | ⟨hx | hx,hn⟩)
      ·exact .inr hx
      ·exact .inl hx
      ·rw [hx] at hn;exact absurd d hn
   ·rw [setStep_gt _ _ _ c d]
    refine ⟨fun hh=>(by cases hh),fun _=>⟨?_,fun x=>?_,a,by simp,c⟩⟩
    ·rw [List.append_assoc]
     refine List.pairwise_append.2 ⟨h1,?_,fun x hx y hy=>?_⟩
     ·simp
      omega
     ·simp only [List.mem_append,List.mem_singleton] at hy
      have:=hlt x hx
      rcases hy with rfl | rfl
      ·exact this
      ·exact hla x hx
    ·simp only [List.mem_append,List.mem_singleton]
     constructor
     ·rintro ((hx | hx) | hx)
      ·exact .inr ⟨.inl hx,by have:=hlt x hx;omega⟩
      ·exact .inl hx
      ·exact .inr ⟨.inr hx,by rw [hx];exact d⟩
     ·rintro (hx | ⟨hx | hx,hn⟩)
      ·exact .inl (.inr hx)
      ·exact .inl (.inl hx)
      ·exact .inr hx
  ·rw [setStep_lt _ _ _ c]
   exact ⟨fun _=>⟨rfl,fun x hx=>(by
    rcases List.mem_append.1 hx with hx | hx
    ·exact hlt x hx
    ·rw [List.mem_singleton.1 hx];omega)⟩,fun hh=>(by cases hh)⟩
 ·obtain ⟨h5,h6,b,hb,hib⟩:=ih.asc rfl
  dsimp only at h5 h6
  have hba:=hla b hb
  rw [setStep_on _ _ _ (by omega)]
  refine ⟨fun hh=>(by cases hh),fun _=>⟨?_,fun x=>?_,b,by simp [hb],hib⟩⟩
  ·refine List.pairwise_append.2 ⟨h5,by simp,fun x hx y hy=>?_⟩
   rw [List.mem_singleton.1 hy]
   rcases (h6 x).1 hx with e | ⟨hx,_⟩
   ·rw [e];dsimp only;omega
   ·exact hla x hx
  ·simp only [List.mem_append,List.mem_singleton]
   rw [h6]
   constructor
   ·rintro ((hx | ⟨hx,hn⟩) | hx)
    ·exact .inl hx
    ·exact .inr ⟨.inl hx,hn⟩
    ·exact .inr ⟨.inr hx,by rw [hx];omega⟩
   ·rintro (hx | ⟨hx | hx,hn⟩)
    ·exact .inl (.inl hx)
    ·exact .inl (.inr ⟨hx,hn⟩)
    ·exact .inr hx
theorem setFold_ok {id:Int} {p:TPage}:∀(m l:List TSlot) (s:List TSlot×Bool),(l++m).Pairwise (fun a b=>a.1<b.1)→SetOk id p l s→SetOk id p (l++m) (m.foldl (setStep id p) s)
 | [],l,s,_,h=>by simpa using h
 | a::m,l,s,hp,h=>by
  have e:l++a::m=(l++[a])++m:=by simp
  rw [e] at hp ⊢
  exact setFold_ok m (l++[a]) _ hp (setStep_ok (List.pairwise_append.1 hp).1 h)
theorem setTo_ok {id:Int} {p:TPage} {l:List TSlot} (h:l.Pairwise (fun a b=>a.1<b.1)):SetOk id p l (setTo id p l):=by
 have:=setFold_ok (id:=id) (p:=p) l [] ([],false) (by simpa using h) ⟨fun _=>⟨rfl,by simp⟩,fun hh=>(by cases hh)⟩
 exact this
theorem setL_mem {id:Int} {p:TPage} {l:List TSlot} (h:IdsP l) (h1:1≤id) (h2:id≤64):IdsP (setL id p l)∧∀x,x∈setL id p l↔x=(id,p)∨(x∈l∧x.1≠id):=by
 have ho:=setTo_ok (id:=id) (p:=p) h.1
 unfold setL
 cases e:(setTo id p l).2
 ·obtain ⟨q1,q2⟩:=ho.no e
  rw [if_neg (by decide),q1]
  have hm:∀x,x∈l++[(id,p)]↔x=(id,p)∨(x∈l∧x.1≠id):=fun x=>by
   simp only [List.mem_append,List.mem_singleton]
   constructor
   ·rintro (hx | hx)
    ·exact .inr ⟨hx,by have:=q2 x hx;omega⟩
    ·exact .inl hx
   ·rintro (hx | ⟨hx,_⟩)
    ·exact .inr hx
    ·exact .inl hx
  refine ⟨⟨List.pairwise_append.2 ⟨h.1,by simp,fun x hx y hy=>?_⟩,fun s hs=>?_⟩,hm⟩
  ·rw [List.mem_singleton.1 hy];exact q2 x hx
  ·rcases (hm s).1 hs with e | ⟨hs,_⟩
   ·rw [e];exact ⟨h1,h2⟩
   ·exact h.2 s hs
 ·obtain ⟨q1,q2,_⟩:=ho.asc e
  rw [if_pos rfl]
  refine ⟨⟨q1,fun s hs=>?_⟩,q2⟩
  rcases (q2 s).1 hs with e | ⟨hs,_⟩
  ·rw [e];exact ⟨h1,h2⟩
  ·exact h.2 s hs
theorem setL_at {id:Int} {p:TPage} {l:List TSlot} (h:IdsP l) (h1:1≤id) (h2:id≤64):atL (setL id p l)=setM (atL l) id (some p):=by
 obtain ⟨k1,k2⟩:=setL_mem (p:=p) h h1 h2
 funext j
 apply Option.ext
 intro q
 rw [atL_mem k1,k2]
 by_cases e:j=id
 ·subst e
  rw [setM_same]
  constructor
  ·rintro (hh | ⟨_,hh⟩)
   ·cases hh;rfl
   ·exact absurd rfl hh
  ·intro hh;cases hh;exact .inl rfl
 ·rw [setM_other _ _ e,atL_mem h]
  constructor
  ·rintro (hh | ⟨hh,_⟩)
   ·cases hh;exact absurd rfl e
   ·exact hh
  ·exact fun hh=>.inr ⟨hh,e⟩
theorem dropL_ids {l:List TSlot} (h:IdsP l) (id:Int):IdsP (dropL id l):=⟨h.1.filter _,fun s hs=>h.2 s (List.mem_filter.1 hs).1⟩
theorem dropL_at {l:List TSlot} (h:IdsP l) (id:Int):atL (dropL id l)=setM (atL l) id none:=by
 funext j
 apply Option.ext
 intro q
 rw [atL_mem (dropL_ids h id)]
 unfold dropL
 rw [List.mem_filter]
 by_cases e:j=id
 ·subst e
  rw [setM_same]
  simp
 ·rw [setM_other _ _ e,atL_mem h]
  simp [e]
theorem slotsM_mem (m:PgM) (s:TSlot):s∈slotsM m↔(1≤s.1∧s.1≤64)∧m s.1=some s.2:=by
 unfold slotsM
 rw [List.mem_filterMap]
 constructor
 ·rintro ⟨i,hi,e⟩
  rw [List.mem_range] at hi
  obtain ⟨p,hp,rfl⟩:=Option.map_eq_some_iff.1 e
  exact ⟨by dsimp only;omega,hp⟩
 ·rintro ⟨⟨h1,h2⟩,h3⟩
  refine ⟨(s.1-1).toNat,List.mem_range.2 (by omega),?_⟩
  have e:(((s.1-1).toNat:Nat):Int)+1=s.1:=by omega
  rw [e,h3]
  rfl
theorem slotsM_ids (m:PgM):IdsP (slotsM m):=by
 refine ⟨?_,fun s hs=>((slotsM_mem m s).1 hs).1⟩
 unfold slotsM
 rw [List.pairwise_filterMap]
 refine List.pairwise_lt_range.imp fun {a b} hab=>?_
 intro s hs t ht
 obtain ⟨p,_,rfl⟩:=Option.map_eq_some_iff.1 hs
 obtain ⟨q,_,rfl⟩:=Option.map_eq_some_iff.1 ht
 dsimp only
 omega
theorem slotsM_at {m:PgM} (h:AllFine m):atL (slotsM m)=m:=by
 funext j
 apply Option.ext
 intro q
 rw [atL_mem (slotsM_ids m),slotsM_mem]
 exact ⟨fun hh=>hh.2,fun hh=>⟨(h j q hh).1,hh⟩⟩
theorem ids_slotsM {l:List TSlot} (h:IdsP l) {m:PgM} (hm:AllFine m) (e:atL l=m):l=slotsM m:=ids_ext h (slotsM_ids m) fun id=>by rw [e,slotsM_at hm]
end Go.Proofs.YtojmcmghmnfjeaaGreatDoor
