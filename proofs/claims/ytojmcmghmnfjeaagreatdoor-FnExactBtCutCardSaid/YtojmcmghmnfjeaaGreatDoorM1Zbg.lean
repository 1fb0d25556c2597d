/-
 Parts of the proof.
-/
import Derived.Test.YtojmcmghmnfjeaaGreatDoorM1Zag
namespace Go.Proofs.YtojmcmghmnfjeaaGreatDoor
open Go.RowKit Go.Maps Go.ChangeMaps Go.MapKept
set_option linter.unusedVariables false
set_option linter.unusedSimpArgs false
structure PgR (w:World) (lo b:Nat) (C:Array Value) (p:TPage) (A1:Option Addr) (c1:Nat) (b1:List Nat) (A2:Option Addr) (c2:Nat) (b2:List Nat) (A3:Option Addr) (c3:Nat) (b3:List Nat):Prop where
 box:Bk w b 58 C
 s1:SO shS w lo w.heap.size A1 c1 p.2.1 b1
 s2:SO shS w lo w.heap.size A2 c2 p.2.2.1 b2
 s3:SO shI w lo w.heap.size A3 c3 p.2.2.2 b3
 nd:(b::(b1++b2++b3)).Nodup
 lo:lo≤b
abbrev pgC (p:TPage) (A1:Option Addr) (c1:Nat) (A2:Option Addr) (c2:Nat) (A3:Option Addr) (c3:Nat):Array Value:=#[.bool p.1,.slice A1 p.2.1.length c1,.slice A2 p.2.2.1.length c2,.slice A3 p.2.2.2.length c3]
def PgB (w:World) (lo b:Nat) (p:TPage) (bl:List Nat):Prop :=
 ∃A1 c1 b1 A2 c2 b2 A3 c3 b3,PgR w lo b (pgC p A1 c1 A2 c2 A3 c3) p A1 c1 b1 A2 c2 b2 A3 c3 b3∧bl=b::(b1++b2++b3)
section
variable {w w':World} {lo b:Nat} {C:Array Value} {p:TPage} {A1 A2 A3:Option Addr} {c1 c2 c3:Nat} {b1 b2 b3 gs:List Nat}
theorem PgR.in_ (h:PgR w lo b C p A1 c1 b1 A2 c2 b2 A3 c3 b3):∀q∈b::(b1++b2++b3),lo≤q∧q<w.heap.size:=fun q hq=>by
 rcases List.mem_cons.1 hq with rfl | hq
 ·exact ⟨h.lo,h.box.lt⟩
 ·rcases List.mem_append.1 hq with hq | hq
  ·rcases List.mem_append.1 hq with hq | hq
   ·exact h.s1.in_ good_S q hq
   ·exact h.s2.in_ good_S q hq
  ·exact h.s3.in_ good_I q hq
theorem PgR.only (h:PgR w lo b C p A1 c1 b1 A2 c2 b2 A3 c3 b3) (k:Only gs w w') (hn:∀q∈b::(b1++b2++b3),q∉gs):PgR w' lo b C p A1 c1 b1 A2 c2 b2 A3 c3 b3:=by
 have hin:=h.in_
 have m1:∀q∈b1,q∈b::(b1++b2++b3):=fun q hq=>by simp [hq]
 have m2:∀q∈b2,q∈b::(b1++b2++b3):=fun q hq=>by simp [hq]
 have m3:∀q∈b3,q∈b::(b1++b2++b3):=fun q hq=>by simp [hq]
 exact ⟨h.box.only k (hn b (by simp)),(h.s1.keep good_S fun q hq=>k.block q (hin q (m1 q hq)).2 (hn q (m1 q hq))).wide good_S (Nat.le_refl _) k.size,(h.s2.keep good_S fun q hq=>k.block q (hin q (m2 q hq)).2 (hn q (m2 q hq))).wide good_S (Nat.le_refl _) k.size,(h.s3.keep good_I fun q hq=>k.block q (hin q (m3 q hq)).2 (hn q (m3 q hq))).wide good_I (Nat.le_refl _) k.size,h.nd,h.lo⟩
theorem PgR.up (h:PgR w lo b C p A1 c1 b1 A2 c2 b2 A3 c3 b3) (u:Up w w'):PgR w' lo b C p A1 c1 b1 A2 c2 b2 A3 c3 b3:=h.only (gs:=[]) (Only.of_up u) (fun _ _=>by simp)
theorem PgR.set (h:PgR w lo b C p A1 c1 b1 A2 c2 b2 A3 c3 b3) (i:Nat) (v:Value):PgR (w.setCell ⟨b,i,none⟩ v) lo b (C.setIfInBounds i v) p A1 c1 b1 A2 c2 b2 A3 c3 b3:=by
 have bt:=But.set w b i v
 have hb:b∉b1++b2++b3:=(List.nodup_cons.1 h.nd).1
 have n1:∀q∈b1,q≠b:=fun q hq e=>hb (by simp [←e,hq])
 have n2:∀q∈b2,q≠b:=fun q hq e=>hb (by simp [←e,hq])
 have n3:∀q∈b3,q≠b:=fun q hq e=>hb (by simp [←e,hq])
 refine ⟨h.box.set i v,?_,?_,?_,h.nd,h.lo⟩
 ·rw [bt.size];exact h.s1.keep good_S fun q hq=>bt.block q (n1 q hq)
 ·rw [bt.size];exact h.s2.keep good_S fun q hq=>bt.block q (n2 q hq)
 ·rw [bt.size];exact h.s3.keep good_I fun q hq=>bt.block q (n3 q hq)
theorem far_nodup {b m:Nat} {a a' r:List Nat} (h:(b::(a++r)).Nodup) (ha:a'.Nodup) (hm:∀q∈a',q∈a∨m≤q) (hb:b<m) (hr:∀q∈r,q<m):(b::(a'++r)).Nodup:=by
 obtain ⟨h1,h2⟩:=List.nodup_cons.1 h
 obtain ⟨_,h3,h4⟩:=List.nodup_append.1 h2
 refine List.nodup_cons.2 ⟨fun hh=>?_,List.nodup_append.2 ⟨ha,h3,fun x hx y hy e=>?_⟩⟩
 ·rcases List.mem_append.1 hh with hh | hh
  ·rcases hm b hh with hh | hh
   ·exact h1 (List.mem_append_left _ hh)
   ·omega
  ·exact h1 (List.mem_append_right _ hh)
 ·subst e
  rcases hm x hx with hx | hx
  ·exact h4 x hx x hy rfl
  ·have:=hr x hy;omega
theorem nd_123 {b:Nat} {b1 b2 b3:List Nat} (h:(b::(b1++b2++b3)).Nodup):(b::(b1++(b2++b3))).Nodup∧(b::(b2++(b1++b3))).Nodup∧(b::(b3++(b1++b2))).Nodup:=by
 refine ⟨by rw [←List.append_assoc];exact h,?_,?_⟩
 ·refine (List.Perm.nodup_iff (List.Perm.cons _ ?_)).1 h
  rw [←List.append_assoc]
  exact List.Perm.append_right _ List.perm_append_comm
 ·exact (List.Perm.nodup_iff (List.Perm.cons _ List.perm_append_comm)).1 h
theorem nd_321 {b:Nat} {b1 b2 b3:List Nat}:((b::(b1++(b2++b3))).Nodup→(b::(b1++b2++b3)).Nodup)∧((b::(b2++(b1++b3))).Nodup→(b::(b1++b2++b3)).Nodup)∧((b::(b3++(b1++b2))).Nodup→(b::(b1++b2++b3)).Nodup):=by
 refine ⟨fun h=>by rw [List.append_assoc];exact h,fun h=>?_,fun h=>?_⟩
 ·refine (List.Perm.nodup_iff (List.Perm.cons _ ?_)).1 h
  rw [←List.append_assoc]
  exact List.Perm.append_right _ List.perm_append_comm
 ·exact (List.Perm.nodup_iff (List.Perm.cons _ List.perm_append_comm)).1 h
section
theorem PgR.row1 {D:Option Addr} {d:Nat} {ks:List ByteArray} {bl:List Nat} (h:PgR w lo b C p A1 c1 b1 A2 c2 b2 A3 c3 b3) (so:SO shS w' lo w'.heap.size D d ks bl) (nd:bl.Nodup) (hm:∀q∈bl,q∈b1∨w.heap.size≤q) (on:Only b1 w w'):PgR w' lo b C (p.1,ks,p.2.2.1,p.2.2.2) D d bl A2 c2 b2 A3 c3 b3:=by
 have hin:=h.in_
 obtain ⟨n1,_,_⟩:=nd_123 h.nd
 obtain ⟨k1,k2⟩:=List.nodup_cons.1 n1
 obtain ⟨_,_,k3⟩:=List.nodup_append.1 k2
 have f2:∀q∈b2,q∉b1:=fun q hq hh=>k3 q hh q (by simp [hq]) rfl
 have f3:∀q∈b3,q∉b1:=fun q hq hh=>k3 q hh q (by simp [hq]) rfl
 refine ⟨h.box.only on (fun hh=>k1 (by simp [hh])),so,(h.s2.keep good_S fun q hq=>on.block q (h.s2.in_ good_S q hq).2 (f2 q hq)).wide good_S (Nat.le_refl _) on.size,(h.s3.keep good_I fun q hq=>on.block q (h.s3.in_ good_I q hq).2 (f3 q hq)).wide good_I (Nat.le_refl _) on.size,nd_321.1 (far_nodup n1 nd hm h.box.lt fun q hq=>by rcases List.mem_append.1 hq with hq | hq <;> exact (hin q (by simp [hq])).2),h.lo⟩
theorem PgR.row2 {D:Option Addr} {d:Nat} {ks:List ByteArray} {bl:List Nat} (h:PgR w lo b C p A1 c1 b1 A2 c2 b2 A3 c3 b3) (so:SO shS w' lo w'.heap.size D d ks bl) (nd:bl.Nodup) (hm:∀q∈bl,q∈b2∨w.heap.size≤q) (on:Only b2 w w'):PgR w' lo b C (p.1,p.2.1,ks,p.2.2.2) A1 c1 b1 D d bl A3 c3 b3:=by
 have hin:=h.in_
 obtain ⟨_,n1,_⟩:=nd_123 h.nd
 obtain ⟨k1,k2⟩:=List.nodup_cons.1 n1
 obtain ⟨_,_,k3⟩:=List.nodup_append.1 k2
 have f2:∀q∈b1,q∉b2:=fun q hq hh=>k3 q hh q (by simp [hq]) rfl
 have f3:∀q∈b3,q∉b2:=fun q hq hh=>k3 q hh q (by simp [hq]) rfl
 refine ⟨h.box.only on (fun hh=>k1 (by simp [hh])),(h.s1.keep good_S fun q hq=>on.block q (h.s1.in_ good_S q hq).2 (f2 q hq)).wide good_S (Nat.le_refl _) on.size,so,(h.s3.keep good_I fun q hq=>on.block q (h.s3.in_ good_I q hq).2 (f3 q hq)).wide good_I (Nat.le_refl _) on.size,nd_321.2.1 (far_nodup n1 nd hm h.box.lt fun q hq=>by rcases List.mem_append.1 hq with hq | hq <;> exact (hin q (by simp [hq])).2),h.lo⟩
theorem PgR.row3 {D:Option Addr} {d:Nat} {ks:List Int} {bl:List Nat} (h:PgR w lo b C p A1 c1 b1 A2 c2 b2 A3 c3 b3) (so:SO shI w' lo w'.heap.size D d ks bl) (nd:bl.Nodup) (hm:∀q∈bl,q∈b3∨w.heap.size≤q) (on:Only b3 w w'):PgR w' lo b C (p.1,p.2.1,p.2.2.1,ks) A1 c1 b1 A2 c2 b2 D d bl:=by
 have hin:=h.in_
 obtain ⟨_,_,n1⟩:=nd_123 h.nd
 obtain ⟨k1,k2⟩:=List.nodup_cons.1 n1
 obtain ⟨_,_,k3⟩:=List.nodup_append.1 k2
 have f2:∀q∈b1,q∉b3:=fun q hq hh=>k3 q hh q (by simp [hq]) rfl
 have f3:∀q∈b2,q∉b3:=fun q hq hh=>k3 q hh q (by simp [hq]) rfl
 refine ⟨h.box.only on (fun hh=>k1 (by simp [hh])),(h.s1.keep good_S fun q hq=>on.block q (h.s1.in_ good_S q hq).2 (f2 q hq)).wide good_S (Nat.le_refl _) on.size,(h.s2.keep good_S fun q hq=>on.block q (h.s2.in_ good_S q hq).2 (f3 q hq)).wide good_S (Nat.le_refl _) on.size,so,nd_321.2.2 (far_nodup n1 nd hm h.box.lt fun q hq=>by rcases List.mem_append.1 hq with hq | hq <;> exact (hin q (by simp [hq])).2),h.lo⟩
theorem PgR.av (h:PgR w lo b C p A1 c1 b1 A2 c2 b2 A3 c3 b3) (hC:C=pgC p A1 c1 A2 c2 A3 c3):AV shPage w (.agg C) p :=
 ⟨[.bool p.1,.slice A1 p.2.1.length c1,.slice A2 p.2.2.1.length c2,.slice A3 p.2.2.2.length c3],by rw [hC],mkPage (SR.of_own good_S h.s1) (SR.of_own good_S h.s2) (SR.of_own good_I h.s3)⟩
end
theorem PgB.in_ {bl:List Nat} (h:PgB w lo b p bl):∀q∈bl,lo≤q∧q<w.heap.size:=by
 obtain ⟨_,_,_,_,_,_,_,_,_,h,rfl⟩:=h
 exact h.in_
theorem PgB.only {bl:List Nat} (h:PgB w lo b p bl) (k:Only gs w w') (hn:∀q∈bl,q∉gs):PgB w' lo b p bl:=by
 obtain ⟨_,_,_,_,_,_,_,_,_,h,rfl⟩:=h
 exact ⟨_,_,_,_,_,_,_,_,_,h.only k hn,rfl⟩
theorem PgB.up {bl:List Nat} (h:PgB w lo b p bl) (u:Up w w'):PgB w' lo b p bl:=h.only (gs:=[]) (Only.of_up u) (fun _ _=>by simp)
end
theorem PMap.ext {P:Program} {k:TypeId} {w:World} {b n:Nat} {f g:Int→Option Nat} (h:PMap P k w b n f) (e:∀i,f i=g i):PMap P k w b n g:=by
 have:f=g:=funext e
 rw [←this]
 exact h
theorem PMap.del {P:Program} {k e t:TypeId} {w:World} {b n:Nat} {f:Int→Option Nat} (h:PMap P k w b n f) (hk:P.underlying k=some (.int .i64)) (ht:P.underlying t=some (.map k e)) {i:Int} (hi:I64 i) (ty:TypeId) :
 ∃w',(Builtin.delete_ #[t,k] ty #[.map (some b),.int .i64 i]).run P w=.ok (.tuple #[]) w'∧PMap P k w' b n (fun j=>if j=i then none else f j)∧But b w w':=by
 obtain ⟨D,ho,hf⟩:=h
 obtain ⟨w',hrun,ho',hg⟩:=ho.drop (int_keyed hk) ht (keyOf_int_mk hk (i64_wf hi)) ty
 refine ⟨w',hrun,⟨_,ho',fun j hj=>?_⟩,but_of_turned hg⟩
 dsimp only
 by_cases e:j=i
 ·subst e
  rw [if_pos rfl,has_del_same]
  exact ⟨rfl,fun g' hg'=>by cases hg'⟩
 ·rw [if_neg e,has_del_other (by simpa using e)]
  refine ⟨(hf j hj).1,fun g' hg' z=>?_⟩
  rw [atKey_del_other (by simpa using e)]
  exact (hf j hj).2 g' hg' z
structure PagesO (w:World) (lo tb pb:Nat) (root:Int) (m:PgM) (f:Int→Nat) (B:Int→List Nat):Prop where
 tab:Bk w tb 89 #[.int .i64 root,.map (some pb)]
 map:∃n,PMap Tryz.prog 2 w pb n (fun id=>(m id).map (fun _=>f id))
 lo1:lo≤tb
 lo2:lo≤pb
 pg:∀id p,m id=some p→PgB w lo (f id) p (B id)
 ap:∀i j p q,m i=some p→m j=some q→i≠j→∀b∈B i,b∉B j
 nt:∀id p,m id=some p→tb∉B id∧pb∉B id
section
variable {w w':World} {lo tb pb:Nat} {root:Int} {m:PgM} {f:Int→Nat} {B:Int→List Nat} {gs:List Nat}
theorem PagesO.ne (h:PagesO w lo tb pb root m f B):tb≠pb:=by
 obtain ⟨n,hm⟩:=h.map
 exact hm.ne h.tab
theorem PagesO.only (h:PagesO w lo tb pb root m f B) (k:Only gs w w') (h1:tb∉gs) (h2:pb∉gs) (h3:∀id p,m id=some p→∀q∈B id,q∉gs):PagesO w' lo tb pb root m f B:=by
 obtain ⟨n,hm⟩:=h.map
 exact ⟨h.tab.only k h1,⟨n,hm.same (k.block pb hm.lt h2)⟩,h.lo1,h.lo2,fun id p hp=>(h.pg id p hp).only k (h3 id p hp),h.ap,h.nt⟩
theorem PagesO.up (h:PagesO w lo tb pb root m f B) (u:Up w w'):PagesO w' lo tb pb root m f B:=h.only (gs:=[]) (Only.of_up u) (by simp) (by simp) (fun _ _ _ _ _=>by simp)
theorem PagesO.ptr (h:PagesO w lo tb pb root m f B) {id:Int} {p:TPage} (hp:m id=some p):∃n,PMap Tryz.prog 2 w pb n (fun id=>(m id).map (fun _=>f id))∧ptrOf ((m id).map (fun _=>f id))=.pointer (some ⟨f id,0,none⟩):=by
 obtain ⟨n,hm⟩:=h.map
 exact ⟨n,hm,by rw [hp];rfl⟩
theorem PagesO.put2 (h:PagesO w lo tb pb root m f B) {i j:Int} (hij:i≠j) {x y x' y':TPage} (hx:m i=some x) (hy:m j=some y) {lx ly:List Nat} (on:Only (B i++B j) w w') (px:PgB w' lo (f i) x' lx) (py:PgB w' lo (f j) y' ly)
 (hxy:∀q∈lx,q∉ly) (hm:∀q∈lx++ly,q∈B i++B j∨w.heap.size≤q):PagesO w' lo tb pb root (setM (setM m j (some y')) i (some x')) f (fun k=>if k=i then lx else if k=j then ly else B k):=by
 obtain ⟨n,hmp⟩:=h.map
 have htl:=h.tab.lt
 have hpl:=hmp.lt
 have ti:=h.nt i x hx
 have tj:=h.nt j y hy
 have t1:tb∉B i++B j:=fun hh=>by
  rcases List.mem_append.1 hh with hh | hh
  ·exact ti.1 hh
  ·exact tj.1 hh
 have t2:pb∉B i++B j:=fun hh=>by
  rcases List.mem_append.1 hh with hh | hh
  ·exact ti.2 hh
  ·exact tj.2 hh
 have old:∀k p,k≠i→k≠j→m k=some p→∀q∈B k,q∉lx++ly:=fun k p k1 k2 hk q hq hh=>by
  rcases hm q hh with hh | hh
  ·rcases List.mem_append.1 hh with hh | hh
   ·exact h.ap k i p x hk hx k1 q hq hh
   ·exact h.ap k j p y hk hy k2 q hq hh
  ·have:=((h.pg k p hk).in_ q hq).2;omega
 have tn:∀q,q<w.heap.size→q∉B i++B j→q∉lx++ly:=fun q hq hn hh=>by
  rcases hm q hh with hh | hh
  ·exact hn hh
  ·omega
 have hji:¬j=i:=fun e=>hij e.symm
 refine ⟨h.tab.only on t1,⟨n,(hmp.same (on.block pb hpl t2)).ext fun k=>?_⟩,h.lo1,h.lo2,fun k p hk=>?_,fun a b p q ha hb hab z hz hz'=>?_,fun k p hk=>?_⟩
 ·by_cases e:k=i
  ·subst e;rw [setM_same,hx];rfl
  ·rw [setM_other _ _ e]
   by_cases e2:k=j
   ·subst e2;rw [setM_same,hy];rfl
   ·rw [setM_other _ _ e2]
 ·by_cases e:k=i
  ·subst e
   rw [setM_same] at hk
   cases hk
   rw [if_pos rfl];exact px
  ·rw [setM_other _ _ e] at hk
   rw [if_neg e]
   by_cases e2:k=j
   ·subst e2
    rw [setM_same] at hk
    cases hk
    rw [if_pos rfl];exact py
   ·rw [setM_other _ _ e2] at hk
    rw [if_neg e2]
    refine (h.pg k p hk).only on fun q hq hh=>?_
    rcases List.mem_append.1 hh with hh | hh
    ·exact h.ap k i p x hk hx e q hq hh
    ·exact h.ap k j p y hk hy e2 q hq hh
 ·by_cases ea:a=i
  ·subst ea
   rw [if_pos rfl] at hz
   have eb:¬b=a:=fun e=>hab e.symm
   rw [if_neg eb] at hz'
   by_cases eb2:b=j
   ·subst eb2
    rw [if_pos rfl] at hz'
    exact hxy z hz hz'
   ·rw [if_neg eb2] at hz'
    rw [setM_other _ _ eb,setM_other _ _ eb2] at hb
    exact old b q eb eb2 hb z hz' (List.mem_append_left _ hz)
  ·rw [if_neg ea] at hz
   rw [setM_other _ _ ea] at ha
   by_cases ea2:a=j
   ·subst ea2
    rw [if_pos rfl] at hz
    by_cases eb:b=i
    ·subst eb
     rw [if_pos rfl] at hz'
     exact hxy z hz' hz
    ·rw [if_neg eb] at hz'
     have eb2:¬b=a:=fun e=>hab e.symm
     rw [if_neg eb2] at hz'
     rw [setM_other _ _ eb,setM_other _ _ eb2] at hb
     exact old b q eb eb2 hb z hz' (List.mem_append_right _ hz)
   ·rw [if_neg ea2] at hz
    rw [setM_other _ _ ea2] at ha
    have ho:=old a p ea ea2 ha z hz
    by_cases eb:b=i
    ·subst eb
     rw [if_pos rfl] at hz'
     exact ho (List.mem_append_left _ hz')
    ·rw [if_neg eb] at hz'
     rw [setM_other _ _ eb] at hb
     by_cases eb2:b=j
     ·subst eb2
      rw [if_pos rfl] at hz'
      exact ho (List.mem_append_right _ hz')
     ·rw [if_neg eb2] at hz'
      rw [setM_other _ _ eb2] at hb
      exact h.ap a b p q ha hb hab z hz hz'
 ·by_cases e:k=i
  ·rw [if_pos e]
   exact ⟨fun hh=>tn tb htl t1 (List.mem_append_left _ hh),fun hh=>tn pb hpl t2 (List.mem_append_left _ hh)⟩
  ·rw [setM_other _ _ e] at hk
   rw [if_neg e]
   by_cases e2:k=j
   ·rw [if_pos e2]
    exact ⟨fun hh=>tn tb htl t1 (List.mem_append_right _ hh),fun hh=>tn pb hpl t2 (List.mem_append_right _ hh)⟩
   ·rw [setM_other _ _ e2] at hk
    rw [if_neg e2]
    exact h.nt k p hk
theorem PagesO.put (h:PagesO w lo tb pb root m f B) {i:Int} {x x':TPage} (hx:m i=some x) {lx:List Nat} (on:Only (B i) w w') (px:PgB w' lo (f i) x' lx) (hm:∀q∈lx,q∈B i∨w.heap.size≤q):PagesO w' lo tb pb root (setM m i (some x')) f (fun k=>if k=i then lx else B k):=by
 obtain ⟨n,hmp⟩:=h.map
 have htl:=h.tab.lt
 have hpl:=hmp.lt
 have ti:=h.nt i x hx
 have old:∀k p,k≠i→m k=some p→∀q∈B k,q∉lx:=fun k p k1 hk q hq hh=>by
  rcases hm q hh with hh | hh
  ·exact h.ap k i p x hk hx k1 q hq hh
  ·have:=((h.pg k p hk).in_ q hq).2;omega
 have tn:∀q,q<w.heap.size→q∉B i→q∉lx:=fun q hq hn hh=>by
  rcases hm q hh with hh | hh
  ·exact hn hh
  ·omega
 refine ⟨h.tab.only on ti.1,⟨n,(hmp.same (on.block pb hpl ti.2)).ext fun k=>?_⟩,h.lo1,h.lo2,fun k p hk=>?_,fun a b p q ha hb hab z hz hz'=>?_,fun k p hk=>?_⟩
 ·by_cases e:k=i
  ·subst e;rw [setM_same,hx];rfl
  ·rw [setM_other _ _ e]
 ·by_cases e:k=i
  ·subst e
   rw [setM_same] at hk
   cases hk
   rw [if_pos rfl];exact px
  ·rw [setM_other _ _ e] at hk
   rw [if_neg e]
   exact (h.pg k p hk).only on fun q hq hh=>h.ap k i p x hk hx e q hq hh
 ·by_cases ea:a=i
  ·subst ea
   rw [if_pos rfl] at hz
   have eb:¬b=a:=fun e=>hab e.symm
   rw [if_neg eb] at hz'
   rw [setM_other _ _ eb] at hb
   exact old b q eb hb z hz' hz
  ·rw [if_neg ea] at hz
   rw [setM_other _ _ ea] at ha
   by_cases eb:b=i
   ·subst eb
    rw [if_pos rfl] at hz'
    exact old a p ea ha z hz hz'
   ·rw [if_neg eb] at hz'
    rw [setM_other _ _ eb] at hb
    exact h.ap a b p q ha hb hab z hz hz'
 ·by_cases e:k=i
  ·rw [if_pos e]
   exact ⟨tn tb htl ti.1,tn pb hpl ti.2⟩
  ·rw [setM_other _ _ e] at hk
   rw [if_neg e]
   exact h.nt k p hk
theorem PagesO.del (h:PagesO w lo tb pb root m f B) {n:Nat} {g:Int→Option Nat} {i:Int} (hm:PMap Tryz.prog 2 w' pb n (fun j=>if j=i then none else (m j).map (fun _=>f j))) (bt:But pb w w'):PagesO w' lo tb pb root (setM m i none) f B:=by
 have hs:∀k p,setM m i none k=some p→m k=some p:=fun k p hk=>by
  by_cases e:k=i
  ·subst e;rw [setM_same] at hk;cases hk
  ·rwa [setM_other _ _ e] at hk
 refine ⟨h.tab.butM bt h.ne,⟨n,hm.ext fun k=>?_⟩,h.lo1,h.lo2,fun k p hk=>(h.pg k p (hs k p hk)).only (gs:=[pb]) ((Only.refl _ _).but bt (by simp)) (fun q hq hh=>(h.nt k p (hs k p hk)).2 (by rw [←List.mem_singleton.1 hh];exact hq)),fun a b p q ha hb=>h.ap a b p q (hs a p ha) (hs b q hb),fun k p hk=>h.nt k p (hs k p hk)⟩
 by_cases e:k=i
 ·subst e;rw [if_pos rfl,setM_same];rfl
 ·rw [if_neg e,setM_other _ _ e]
theorem PagesO.setRoot (h:PagesO w lo tb pb root m f B) (r:Int):PagesO (w.setCell ⟨tb,0,none⟩ (.int .i64 r)) lo tb pb r m f B:=by
 have bt:=But.set w tb 0 (.int .i64 r)
 obtain ⟨n,hm⟩:=h.map
 exact ⟨h.tab.set 0 _,⟨n,hm.but bt (fun e=>h.ne e.symm)⟩,h.lo1,h.lo2,fun k p hk=>(h.pg k p hk).only (gs:=[tb]) ((Only.refl _ _).but bt (by simp)) (fun q hq hh=>(h.nt k p hk).1 (by rw [←List.mem_singleton.1 hh];exact hq)),h.ap,h.nt⟩
end
theorem below_only {lo:Nat} {gs:List Nat} {w w':World} (k:Only gs w w') (hl:lo≤w.heap.size) (h:∀q∈gs,lo≤q):Below lo w w':=⟨k.os,k.tape,k.output,k.size,fun i hi=>k.block i (by omega) (fun hh=>by have:=h i hh;omega)⟩
theorem below_but {lo g:Nat} {w w':World} (k:But g w w') (h:lo≤g):Below lo w w':=⟨k.os,k.tape,k.output,Nat.le_of_eq k.size.symm,fun i hi=>k.block i (by omega)⟩
theorem below_up {lo:Nat} {w w':World} (u:Up w w') (hl:lo≤w.heap.size):Below lo w w':=Below.mono u hl
theorem up_below {w0 w w':World} (u:Up w0 w) (k:Below w0.heap.size w w'):Up w0 w':=Below.trans u k
end Go.Proofs.YtojmcmghmnfjeaaGreatDoor
namespace Go.Proofs.YtojmcmghmnfjeaaGreatDoor
open Go.RowKit
set_option linter.unusedVariables false
set_option linter.unusedSimpArgs false
theorem only_via {L b:List Nat} {w0 w w':World} (h:Only L w0 w) (k:Only b w w') (hb:∀q∈b,q∈L∨w0.heap.size≤q):Only L w0 w' :=
 ⟨k.os.trans h.os,k.tape.trans h.tape,k.output.trans h.output,Nat.le_trans h.size k.size,fun i hi hn=>(k.block i (Nat.lt_of_lt_of_le hi h.size) (fun hm=>by
  rcases hb i hm with e | e
  ·exact hn e
  ·omega)).trans (h.block i hi hn)⟩
structure PgT (w0:World) (L:List Nat) (w:World) (lo b:Nat) (C:Array Value) (p:TPage) (A1:Option Addr) (c1:Nat) (b1:List Nat) (A2:Option Addr) (c2:Nat) (b2:List Nat) (A3:Option Addr) (c3:Nat) (b3:List Nat):Prop where
 pg:PgR w lo b C p A1 c1 b1 A2 c2 b2 A3 c3 b3
 sub:∀q∈b::(b1++b2++b3),q∈L∨w0.heap.size≤q
 self:b∈L
 on:Only L w0 w
section
variable {w0 w w':World} {L:List Nat} {lo b:Nat} {C:Array Value} {p:TPage} {A1 A2 A3:Option Addr} {c1 c2 c3:Nat} {b1 b2 b3:List Nat}
theorem PgR.start (h:PgR w lo b C p A1 c1 b1 A2 c2 b2 A3 c3 b3):PgT w (b::(b1++b2++b3)) w lo b C p A1 c1 b1 A2 c2 b2 A3 c3 b3:=⟨h,fun q hq=>.inl hq,List.mem_cons_self ..,Only.refl _ _⟩
theorem PgT.up (h:PgT w0 L w lo b C p A1 c1 b1 A2 c2 b2 A3 c3 b3) (u:Up w w'):PgT w0 L w' lo b C p A1 c1 b1 A2 c2 b2 A3 c3 b3:=⟨h.pg.up u,h.sub,h.self,h.on.up u⟩
theorem PgT.set (h:PgT w0 L w lo b C p A1 c1 b1 A2 c2 b2 A3 c3 b3) (i:Nat) (v:Value):PgT w0 L (w.setCell ⟨b,i,none⟩ v) lo b (C.setIfInBounds i v) p A1 c1 b1 A2 c2 b2 A3 c3 b3:=⟨h.pg.set i v,h.sub,h.self,h.on.but (But.set w b i v) h.self⟩
section
theorem PgT.m1 (h:PgT w0 L w lo b C p A1 c1 b1 A2 c2 b2 A3 c3 b3):∀q∈b1,q∈L∨w0.heap.size≤q:=fun q hq=>h.sub q (by simp [hq])
theorem PgT.m2 (h:PgT w0 L w lo b C p A1 c1 b1 A2 c2 b2 A3 c3 b3):∀q∈b2,q∈L∨w0.heap.size≤q:=fun q hq=>h.sub q (by simp [hq])
theorem PgT.m3 (h:PgT w0 L w lo b C p A1 c1 b1 A2 c2 b2 A3 c3 b3):∀q∈b3,q∈L∨w0.heap.size≤q:=fun q hq=>h.sub q (by simp [hq])
theorem PgT.row1 {D:Option Addr} {d:Nat} {ks:List ByteArray} {bl:List Nat} (h:PgT w0 L w lo b C p A1 c1 b1 A2 c2 b2 A3 c3 b3) (so:SO shS w' lo w'.heap.size D d ks bl) (nd:bl.Nodup) (hm:∀q∈bl,q∈b1∨w.heap.size≤q) (on:Only b1 w w'):PgT w0 L w' lo b C (p.1,ks,p.2.2.1,p.2.2.2) D d bl A2 c2 b2 A3 c3 b3:=by
 refine ⟨h.pg.row1 so nd hm on,fun q hq=>?_,h.self,only_via h.on on h.m1⟩
 have hz:=h.on.size
 simp only [List.mem_cons,List.mem_append] at hq
 rcases hq with rfl | (hq | hq) | hq
 ·exact .inl h.self
 ·rcases hm q hq with hq | hq
  ·exact h.m1 q hq
  ·exact .inr (by omega)
 ·exact h.m2 q hq
 ·exact h.m3 q hq
theorem PgT.row2 {D:Option Addr} {d:Nat} {ks:List ByteArray} {bl:List Nat} (h:PgT w0 L w lo b C p A1 c1 b1 A2 c2 b2 A3 c3 b3) (so:SO shS w' lo w'.heap.size D d ks bl) (nd:bl.Nodup) (hm:∀q∈bl,q∈b2∨w.heap.size≤q) (on:Only b2 w w'):PgT w0 L w' lo b C (p.1,p.2.1,ks,p.2.2.2) A1 c1 b1 D d bl A3 c3 b3:=by
 refine ⟨h.pg.row2 so nd hm on,fun q hq=>?_,h.self,only_via h.on on h.m2⟩
 have hz:=h.on.size
 simp only [List.mem_cons,List.mem_append] at hq
 rcases hq with rfl | (hq | hq) | hq
 ·exact .inl h.self
 ·exact h.m1 q hq
 ·rcases hm q hq with hq | hq
  ·exact h.m2 q hq
  ·exact .inr (by omega)
 ·exact h.m3 q hq
theorem PgT.row3 {D:Option Addr} {d:Nat} {ks:List Int} {bl:List Nat} (h:PgT w0 L w lo b C p A1 c1 b1 A2 c2 b2 A3 c3 b3) (so:SO shI w' lo w'.heap.size D d ks bl) (nd:bl.Nodup) (hm:∀q∈bl,q∈b3∨w.heap.size≤q) (on:Only b3 w w'):PgT w0 L w' lo b C (p.1,p.2.1,p.2.2.1,ks) A1 c1 b1 A2 c2 b2 D d bl:=by
 refine ⟨h.pg.row3 so nd hm on,fun q hq=>?_,h.self,only_via h.on on h.m3⟩
 have hz:=h.on.size
 simp only [List.mem_cons,List.mem_append] at hq
 rcases hq with rfl | (hq | hq) | hq
 ·exact .inl h.self
 ·exact h.m1 q hq
 ·exact h.m2 q hq
 ·rcases hm q hq with hq | hq
  ·exact h.m3 q hq
  ·exact .inr (by omega)
theorem PgT.done (h:PgT w0 L w lo b C p A1 c1 b1 A2 c2 b2 A3 c3 b3) (hC:C=pgC p A1 c1 A2 c2 A3 c3):∃bl,PgB w lo b p bl∧(∀q∈bl,q∈L∨w0.heap.size≤q)∧Only L w0 w:=by
 subst hC
 exact ⟨_,⟨_,_,_,_,_,_,_,_,_,h.pg,rfl⟩,h.sub,h.on⟩
end
end
def Two (w0:World) (lo:Nat) (L:List Nat) (W:World) (bx:Nat) (x:TPage) (by_:Nat) (y:TPage):Prop :=
 ∃lx ly,PgB W lo bx x lx∧PgB W lo by_ y ly∧(∀q∈lx,q∉ly)∧(∀q∈lx++ly,q∈L∨w0.heap.size≤q)∧Only L w0 W
section
variable {w0 W W':World} {lo:Nat} {L:List Nat} {bx by_:Nat} {x y x' y':TPage} {lx ly:List Nat}
theorem Two.swap (h:Two w0 lo L W bx x by_ y):Two w0 lo L W by_ y bx x:=by
 obtain ⟨lx,ly,h1,h2,h3,h4,h5⟩:=h
 exact ⟨ly,lx,h2,h1,fun q hq hh=>h3 q hh hq,fun q hq=>h4 q (by simp at hq ⊢;exact hq.symm),h5⟩
theorem two_x (h1:PgB W lo bx x lx) (h2:PgB W lo by_ y ly) (h3:∀q∈lx,q∉ly) (h4:∀q∈lx++ly,q∈L∨w0.heap.size≤q) (h5:Only L w0 W)
 (h:∃bl,PgB W' lo bx x' bl∧(∀q∈bl,q∈lx∨W.heap.size≤q)∧Only lx W W'):Two w0 lo L W' bx x' by_ y:=by
 obtain ⟨lx',k1,k2,k3⟩:=h
 have hz:=h5.size
 refine ⟨lx',ly,k1,h2.only k3 (fun q hq hh=>h3 q hh hq),fun q hq hh=>?_,fun q hq=>?_,only_via h5 k3 (fun q hq=>h4 q (List.mem_append_left _ hq))⟩
 ·rcases k2 q hq with hq | hq
  ·exact h3 q hq hh
  ·have:=(h2.in_ q hh).2;omega
 ·rcases List.mem_append.1 hq with hq | hq
  ·rcases k2 q hq with hq | hq
   ·exact h4 q (List.mem_append_left _ hq)
   ·exact .inr (by omega)
  ·exact h4 q (List.mem_append_right _ hq)
theorem two_y (h1:PgB W lo bx x lx) (h2:PgB W lo by_ y ly) (h3:∀q∈lx,q∉ly) (h4:∀q∈lx++ly,q∈L∨w0.heap.size≤q) (h5:Only L w0 W)
 (h:∃bl,PgB W' lo by_ y' bl∧(∀q∈bl,q∈ly∨W.heap.size≤q)∧Only ly W W'):Two w0 lo L W' bx x by_ y' :=
 (two_x h2 h1 (fun q hq hh=>h3 q hh hq) (fun q hq=>h4 q (by simp at hq ⊢;exact hq.symm)) h5 h).swap
end
def RowG {α:Type} (s:Sh α) (gs:List Nat) (w:World) (A:Option Addr) (c:Nat) (xs:List α):Prop:=∀V,Only gs w V→SRW s V A c xs
theorem RowG.go {α:Type} {s:Sh α} {gs:List Nat} {w W:World} {A:Option Addr} {c:Nat} {xs:List α} (h:RowG s gs w A c xs) (k:Only gs w W):RowG s gs W A c xs:=fun V kv=>h V (k.trans kv)
theorem RowG.sr {α:Type} {s:Sh α} {gs:List Nat} {w:World} {A:Option Addr} {c:Nat} {xs:List α} (h:RowG s gs w A c xs):SRW s w A c xs:=h w (Only.refl _ _)
theorem RowG.p {α:Type} {s:Sh α} {gs:List Nat} {g:Nat} {w:World} {A:Option Addr} {c:Nat} {xs:List α} (h:RowG s gs w A c xs) (hg:g∈gs):RowP s g w A c xs:=fun V kv=>h V (kv.mono fun y hy=>by rw [List.mem_singleton.1 hy];exact hg)
theorem only_less {gs:List Nat} {g:Nat} {w V:World} (h:Only gs w V) (hg:∀q∈gs,q=g∨w.heap.size≤q):Only [g] w V:=⟨h.os,h.tape,h.output,h.size,fun k hk hn=>h.block k hk (fun hm=>by
 rcases hg k hm with e | e
 ·exact hn (by rw [e];exact List.mem_singleton.2 rfl)
 ·omega)⟩
theorem RowP.g {α:Type} {s:Sh α} {gs:List Nat} {g:Nat} {w:World} {A:Option Addr} {c:Nat} {xs:List α} (h:RowP s g w A c xs) (hg:∀q∈gs,q=g∨w.heap.size≤q):RowG s gs w A c xs:=fun V kv=>h V (only_less kv hg)
theorem RowG.of_own {α:Type} {s:Sh α} (hg:Good s) {gs:List Nat} {lo:Nat} {w:World} {A:Option Addr} {c:Nat} {xs:List α} {bl:List Nat} (h:SO s w lo w.heap.size A c xs bl) (hn:∀q∈bl,q∉gs):RowG s gs w A c xs:=fun V kv =>
 SR.wide hg ((h.keep hg (fun b hb=>kv.block b (h.in_ hg b hb).2 (hn b hb))).rep hg) (Nat.zero_le _) kv.size
structure Four (w W:World) (X Y Z1 Z2:Array Value):Prop where
 x:Bk W w.heap.size 58 X
 y:Bk W (w.heap.size+1) 58 Y
 z1:Bk W (w.heap.size+1+1) 58 Z1
 z2:Bk W (w.heap.size+1+1+1) 58 Z2
 up:Up w W
abbrev four (w:World) (g:Nat):List Nat:=[g,w.heap.size,w.heap.size+1,w.heap.size+1+1,w.heap.size+1+1+1]
theorem four_ok {w:World} {g:Nat}:∀q∈four w g,q=g∨w.heap.size≤q:=fun q hq=>by
 simp only [List.mem_cons,List.not_mem_nil,or_false] at hq
 omega
theorem four_far {w:World} {g lo:Nat} (hg:g<w.heap.size) (hlo:w.heap.size+4≤lo) {bl:List Nat} (h:∀q∈bl,lo≤q):∀q∈bl,q∉four w g:=fun q hq hm=>by
 have h1:=h q hq
 simp only [List.mem_cons,List.not_mem_nil,or_false] at hm
 omega
section
variable {w W W':World} {X Y Z1 Z2:Array Value}
theorem Four.goUp (h:Four w W X Y Z1 Z2) (u:Up W W'):Four w W' X Y Z1 Z2:=⟨h.x.up u,h.y.up u,h.z1.up u,h.z2.up u,h.up.trans u⟩
theorem Four.setX (h:Four w W X Y Z1 Z2) (i:Nat) (v:Value):Four w (W.setCell ⟨w.heap.size,i,none⟩ v) (X.setIfInBounds i v) Y Z1 Z2:=⟨h.x.set i v,h.y.far (by show _≠w.heap.size;omega) v,h.z1.far (by show _≠w.heap.size;omega) v,h.z2.far (by show _≠w.heap.size;omega) v,h.up.setCell (Nat.le_refl _) v⟩
theorem Four.setY (h:Four w W X Y Z1 Z2) (i:Nat) (v:Value):Four w (W.setCell ⟨w.heap.size+1,i,none⟩ v) X (Y.setIfInBounds i v) Z1 Z2:=⟨h.x.far (by show _≠w.heap.size+1;omega) v,h.y.set i v,h.z1.far (by show _≠w.heap.size+1;omega) v,h.z2.far (by show _≠w.heap.size+1;omega) v,h.up.setCell (by show w.heap.size≤w.heap.size+1;omega) v⟩
theorem four_set {w W:World} {g b:Nat} (hb:b∈four w g) (i:Nat) (v:Value):Only (four w g) W (W.setCell ⟨b,i,none⟩ v):=(Only.refl _ W).but (But.set W b i v) hb
end
theorem remAt_lastK {α:Type} (l:List α) {k:Nat} (h:l.length≤k+1):remAt l k=l.take k:=by
 unfold remAt
 rw [List.drop_eq_nil_of_le h,List.append_nil]
theorem getD_atY {α:Type} {l:List α} {k:Nat} (d:α) (h:k<l.length):l.getD k d=l[k]:=by
 rw [List.getD_eq_getElem?_getD,List.getElem?_eq_getElem h]
 rfl
theorem getD_eqY {α:Type} {l:List α} {k q:Nat} (d:α) (e:q=k) (h:k<l.length):l.getD q d=l[k]:=by
 subst e
 exact getD_atY d h
theorem four_start (w:World) (X Y Z1 Z2:Array Value):Four w ((((w.alloc (.cells X 58)).alloc (.cells Y 58)).alloc (.cells Z1 58)).alloc (.cells Z2 58)) X Y Z1 Z2:=by
 refine ⟨(((Bk.new w _ _).alloc _).alloc _).alloc _,?_,?_,?_,(((((Up.refl w).alloc _).alloc _).alloc _).alloc _)⟩
 ·have:=((Bk.new (w.alloc (.cells X 58)) 58 Y).alloc (.cells Z1 58)).alloc (.cells Z2 58)
  simpa using this
 ·have:=(Bk.new ((w.alloc (.cells X 58)).alloc (.cells Y 58)) 58 Z1).alloc (.cells Z2 58)
  simpa using this
 ·have:=Bk.new (((w.alloc (.cells X 58)).alloc (.cells Y 58)).alloc (.cells Z1 58)) 58 Z2
  simpa using this
theorem fillR_leaf {x y:TPage} {key:ByteArray} {m:Nat} (hl:x.1=true) (hv:x.2.2.1.length=x.2.1.length) (hm:m+1=x.2.1.length) (h1:m<x.2.1.length) (h2:m<x.2.2.1.length):moveR x y key=((x.1,remAt x.2.1 m,remAt x.2.2.1 m,x.2.2.2),(y.1,x.2.1[m]'h1::y.2.1,x.2.2.1[m]'h2::y.2.2.1,y.2.2.2),x.2.1[m]'h1):=by
 have e:x.2.1.length-1=m:=by omega
 unfold moveR
 rw [if_pos hl,e,remAt_lastK x.2.1 (by omega),remAt_lastK x.2.2.1 (by omega),getD_atY _ (by omega),getD_atY _ (by omega)]
theorem fillR_fork {x y:TPage} {key:ByteArray} {m q:Nat} (hl:x.1=false) (hv:x.2.2.2.length=x.2.1.length+1) (hm:m+1=x.2.1.length) (hq:m+1=q) (h1:m<x.2.1.length) (h2:q<x.2.2.2.length):moveR x y key=((x.1,remAt x.2.1 m,x.2.2.1,remAt x.2.2.2 q),(y.1,key::y.2.1,y.2.2.1,x.2.2.2[q]'h2::y.2.2.2),x.2.1[m]'h1):=by
 have e:x.2.1.length-1=m:=by omega
 have e2:x.2.1.length=q:=by omega
 unfold moveR
 rw [if_neg (by rw [hl];decide),e,remAt_lastK x.2.1 (by omega),remAt_lastK x.2.2.2 (by omega),getD_atY _ h1,show x.2.2.2.getD x.2.1.length 0=x.2.2.2[q] from getD_eqY _ e2 h2,e2]
def PW (g0:Nat) (w W:World) (x y:TPage):Prop:=∃(A1:Option Addr) (c1:Nat) (A2:Option Addr) (c2:Nat) (A3:Option Addr) (c3:Nat) (B1:Option Addr) (e1:Nat) (B2:Option Addr) (e2:Nat) (B3:Option Addr) (e3:Nat),Four w W #[.bool x.1,.slice A1 x.2.1.length c1,.slice A2 x.2.2.1.length c2,.slice A3 x.2.2.2.length c3] #[.bool y.1,.slice B1 y.2.1.length e1,.slice B2 y.2.2.1.length e2,.slice B3 y.2.2.2.length e3] #[.bool false,.slice none 0 0,.slice none 0 0,.slice none 0 0] #[.bool false,.slice none 0 0,.slice none 0 0,.slice none 0 0]∧RowG shS (four w g0) W A1 c1 x.2.1∧RowG shS (four w g0) W A2 c2 x.2.2.1∧RowG shI (four w g0) W A3 c3 x.2.2.2∧RowG shS (four w g0) W B1 e1 y.2.1∧RowG shS (four w g0) W B2 e2 y.2.2.1∧RowG shI (four w g0) W B3 e3 y.2.2.2∧w.heap.size+4≤W.heap.size
section
variable {g0:Nat} {w W w1:World} {x y:TPage} {A1:Option Addr} {c1:Nat} {A2:Option Addr} {c2:Nat} {A3:Option Addr} {c3:Nat} {B1:Option Addr} {e1:Nat} {B2:Option Addr} {e2:Nat} {B3:Option Addr} {e3:Nat}
theorem pw_x1 {ks:List ByteArray} {D:Option Addr} {d:Nat} {bl:List Nat} (hg0:g0<w.heap.size) (F:Four w W #[.bool x.1,.slice A1 x.2.1.length c1,.slice A2 x.2.2.1.length c2,.slice A3 x.2.2.2.length c3] #[.bool y.1,.slice B1 y.2.1.length e1,.slice B2 y.2.2.1.length e2,.slice B3 y.2.2.2.length e3] #[.bool false,.slice none 0 0,.slice none 0 0,.slice none 0 0] #[.bool false,.slice none 0 0,.slice none 0 0,.slice none 0 0]) (hq:RowG shS (four w g0) W A1 c1 x.2.1∧RowG shS (four w g0) W A2 c2 x.2.2.1∧RowG shI (four w g0) W A3 c3 x.2.2.2∧RowG shS (four w g0) W B1 e1 y.2.1∧RowG shS (four w g0) W B2 e2 y.2.2.1∧RowG shI (four w g0) W B3 e3 y.2.2.2) (zz:w.heap.size+4≤W.heap.size) (u:Up W w1) (so:SO shS w1 W.heap.size w1.heap.size D d ks bl):PW g0 w (w1.setCell ⟨w.heap.size,1,none⟩ (.slice D ks.length d)) (x.1,ks,x.2.2.1,x.2.2.2) y:=by
 obtain ⟨qx1,qx2,qx3,qy1,qy2,qy3⟩:=hq
 have k2:Only (four w g0) w1 (w1.setCell ⟨w.heap.size,1,none⟩ (.slice D ks.length d)):=four_set (by simp) 1 _
 have k:Only (four w g0) W (w1.setCell ⟨w.heap.size,1,none⟩ (.slice D ks.length d)):=(Only.of_up u).trans k2
 refine ⟨D,d,A2,c2,A3,c3,B1,e1,B2,e2,B3,e3,(F.goUp u).setX 1 _,(RowG.of_own good_S so (four_far hg0 zz (fun q hq=>(so.in_ good_S q hq).1))).go k2,qx2.go k,qx3.go k,qy1.go k,qy2.go k,qy3.go k,?_⟩
 rw [World.size_setCell]
 exact Nat.le_trans zz u.size
theorem pw_x2 {ks:List ByteArray} {D:Option Addr} {d:Nat} {bl:List Nat} (hg0:g0<w.heap.size) (F:Four w W #[.bool x.1,.slice A1 x.2.1.length c1,.slice A2 x.2.2.1.length c2,.slice A3 x.2.2.2.length c3] #[.bool y.1,.slice B1 y.2.1.length e1,.slice B2 y.2.2.1.length e2,.slice B3 y.2.2.2.length e3] #[.bool false,.slice none 0 0,.slice none 0 0,.slice none 0 0] #[.bool false,.slice none 0 0,.slice none 0 0,.slice none 0 0]) (hq:RowG shS (four w g0) W A1 c1 x.2.1∧RowG shS (four w g0) W A2 c2 x.2.2.1∧RowG shI (four w g0) W A3 c3 x.2.2.2∧RowG shS (four w g0) W B1 e1 y.2.1∧RowG shS (four w g0) W B2 e2 y.2.2.1∧RowG shI (four w g0) W B3 e3 y.2.2.2) (zz:w.heap.size+4≤W.heap.size) (u:Up W w1) (so:SO shS w1 W.heap.size w1.heap.size D d ks bl):PW g0 w (w1.setCell ⟨w.heap.size,2,none⟩ (.slice D ks.length d)) (x.1,x.2.1,ks,x.2.2.2) y:=by
 obtain ⟨qx1,qx2,qx3,qy1,qy2,qy3⟩:=hq
 have k2:Only (four w g0) w1 (w1.setCell ⟨w.heap.size,2,none⟩ (.slice D ks.length d)):=four_set (by simp) 2 _
 have k:Only (four w g0) W (w1.setCell ⟨w.heap.size,2,none⟩ (.slice D ks.length d)):=(Only.of_up u).trans k2
 refine ⟨A1,c1,D,d,A3,c3,B1,e1,B2,e2,B3,e3,(F.goUp u).setX 2 _,qx1.go k,(RowG.of_own good_S so (four_far hg0 zz (fun q hq=>(so.in_ good_S q hq).1))).go k2,qx3.go k,qy1.go k,qy2.go k,qy3.go k,?_⟩
 rw [World.size_setCell]
 exact Nat.le_trans zz u.size
theorem pw_x3 {ks:List Int} {D:Option Addr} {d:Nat} {bl:List Nat} (hg0:g0<w.heap.size) (F:Four w W #[.bool x.1,.slice A1 x.2.1.length c1,.slice A2 x.2.2.1.length c2,.slice A3 x.2.2.2.length c3] #[.bool y.1,.slice B1 y.2.1.length e1,.slice B2 y.2.2.1.length e2,.slice B3 y.2.2.2.length e3] #[.bool false,.slice none 0 0,.slice none 0 0,.slice none 0 0] #[.bool false,.slice none 0 0,.slice none 0 0,.slice none 0 0]) (hq:RowG shS (four w g0) W A1 c1 x.2.1∧RowG shS (four w g0) W A2 c2 x.2.2.1∧RowG shI (four w g0) W A3 c3 x.2.2.2∧RowG shS (four w g0) W B1 e1 y.2.1∧RowG shS (four w g0) W B2 e2 y.2.2.1∧RowG shI (four w g0) W B3 e3 y.2.2.2) (zz:w.heap.size+4≤W.heap.size) (u:Up W w1) (so:SO shI w1 W.heap.size w1.heap.size D d ks bl):PW g0 w (w1.setCell ⟨w.heap.size,3,none⟩ (.slice D ks.length d)) (x.1,x.2.1,x.2.2.1,ks) y:=by
 obtain ⟨qx1,qx2,qx3,qy1,qy2,qy3⟩:=hq
 have k2:Only (four w g0) w1 (w1.setCell ⟨w.heap.size,3,none⟩ (.slice D ks.length d)):=four_set (by simp) 3 _
 have k:Only (four w g0) W (w1.setCell ⟨w.heap.size,3,none⟩ (.slice D ks.length d)):=(Only.of_up u).trans k2
 refine ⟨A1,c1,A2,c2,D,d,B1,e1,B2,e2,B3,e3,(F.goUp u).setX 3 _,qx1.go k,qx2.go k,(RowG.of_own good_I so (four_far hg0 zz (fun q hq=>(so.in_ good_I q hq).1))).go k2,qy1.go k,qy2.go k,qy3.go k,?_⟩
 rw [World.size_setCell]
 exact Nat.le_trans zz u.size
theorem pw_y1 {ks:List ByteArray} {D:Option Addr} {d:Nat} {bl:List Nat} (hg0:g0<w.heap.size) (F:Four w W #[.bool x.1,.slice A1 x.2.1.length c1,.slice A2 x.2.2.1.length c2,.slice A3 x.2.2.2.length c3] #[.bool y.1,.slice B1 y.2.1.length e1,.slice B2 y.2.2.1.length e2,.slice B3 y.2.2.2.length e3] #[.bool false,.slice none 0 0,.slice none 0 0,.slice none 0 0] #[.bool false,.slice none 0 0,.slice none 0 0,.slice none 0 0]) (hq:RowG shS (four w g0) W A1 c1 x.2.1∧RowG shS (four w g0) W A2 c2 x.2.2.1∧RowG shI (four w g0) W A3 c3 x.2.2.2∧RowG shS (four w g0) W B1 e1 y.2.1∧RowG shS (four w g0) W B2 e2 y.2.2.1∧RowG shI (four w g0) W B3 e3 y.2.2.2) (zz:w.heap.size+4≤W.heap.size) (u:Up W w1) (so:SO shS w1 W.heap.size w1.heap.size D d ks bl):PW g0 w (w1.setCell ⟨w.heap.size+1,1,none⟩ (.slice D ks.length d)) x (y.1,ks,y.2.2.1,y.2.2.2):=by
 obtain ⟨qx1,qx2,qx3,qy1,qy2,qy3⟩:=hq
 have k2:Only (four w g0) w1 (w1.setCell ⟨w.heap.size+1,1,none⟩ (.slice D ks.length d)):=four_set (by simp) 1 _
 have k:Only (four w g0) W (w1.setCell ⟨w.heap.size+1,1,none⟩ (.slice D ks.length d)):=(Only.of_up u).trans k2
 refine ⟨A1,c1,A2,c2,A3,c3,D,d,B2,e2,B3,e3,(F.goUp u).setY 1 _,qx1.go k,qx2.go k,qx3.go k,(RowG.of_own good_S so (four_far hg0 zz (fun q hq=>(so.in_ good_S q hq).1))).go k2,qy2.go k,qy3.go k,?_⟩
 rw [World.size_setCell]
 exact Nat.le_trans zz u.size
theorem pw_y2 {ks:List ByteArray} {D:Option Addr} {d:Nat} {bl:List Nat} (hg0:g0<w.heap.size) (F:Four w W #[.bool x.1,.slice A1 x.2.1.length c1,.slice A2 x.2.2.1.length c2,.slice A3 x.2.2.2.length c3] #[.bool y.1,.slice B1 y.2.1.length e1,.slice B2 y.2.2.1.length e2,.slice B3 y.2.2.2.length e3] #[.bool false,.slice none 0 0,.slice none 0 0,.slice none 0 0] #[.bool false,.slice none 0 0,.slice none 0 0,.slice none 0 0]) (hq:RowG shS (four w g0) W A1 c1 x.2.1∧RowG shS (four w g0) W A2 c2 x.2.2.1∧RowG shI (four w g0) W A3 c3 x.2.2.2∧RowG shS (four w g0) W B1 e1 y.2.1∧RowG shS (four w g0) W B2 e2 y.2.2.1∧RowG shI (four w g0) W B3 e3 y.2.2.2) (zz:w.heap.size+4≤W.heap.size) (u:Up W w1) (so:SO shS w1 W.heap.size w1.heap.size D d ks bl):PW g0 w (w1.setCell ⟨w.heap.size+1,2,none⟩ (.slice D ks.length d)) x (y.1,y.2.1,ks,y.2.2.2):=by
 obtain ⟨qx1,qx2,qx3,qy1,qy2,qy3⟩:=hq
 have k2:Only (four w g0) w1 (w1.setCell ⟨w.heap.size+1,2,none⟩ (.slice D ks.length d)):=four_set (by simp) 2 _
 have k:Only (four w g0) W (w1.setCell ⟨w.heap.size+1,2,none⟩ (.slice D ks.length d)):=(Only.of_up u).trans k2
 refine ⟨A1,c1,A2,c2,A3,c3,B1,e1,D,d,B3,e3,(F.goUp u).setY 2 _,qx1.go k,qx2.go k,qx3.go k,qy1.go k,(RowG.of_own good_S so (four_far hg0 zz (fun q hq=>(so.in_ good_S q hq).1))).go k2,qy3.go k,?_⟩
 rw [World.size_setCell]
 exact Nat.le_trans zz u.size
theorem pw_y3 {ks:List Int} {D:Option Addr} {d:Nat} {bl:List Nat} (hg0:g0<w.heap.size) (F:Four w W #[.bool x.1,.slice A1 x.2.1.length c1,.slice A2 x.2.2.1.length c2,.slice A3 x.2.2.2.length c3] #[.bool y.1,.slice B1 y.2.1.length e1,.slice B2 y.2.2.1.length e2,.slice B3 y.2.2.2.length e3] #[.bool false,.slice none 0 0,.slice none 0 0,.slice none 0 0] #[.bool false,.slice none 0 0,.slice none 0 0,.slice none 0 0]) (hq:RowG shS (four w g0) W A1 c1 x.2.1∧RowG shS (four w g0) W A2 c2 x.2.2.1∧RowG shI (four w g0) W A3 c3 x.2.2.2∧RowG shS (four w g0) W B1 e1 y.2.1∧RowG shS (four w g0) W B2 e2 y.2.2.1∧RowG shI (four w g0) W B3 e3 y.2.2.2) (zz:w.heap.size+4≤W.heap.size) (u:Up W w1) (so:SO shI w1 W.heap.size w1.heap.size D d ks bl):PW g0 w (w1.setCell ⟨w.heap.size+1,3,none⟩ (.slice D ks.length d)) x (y.1,y.2.1,y.2.2.1,ks):=by
 obtain ⟨qx1,qx2,qx3,qy1,qy2,qy3⟩:=hq
 have k2:Only (four w g0) w1 (w1.setCell ⟨w.heap.size+1,3,none⟩ (.slice D ks.length d)):=four_set (by simp) 3 _
 have k:Only (four w g0) W (w1.setCell ⟨w.heap.size+1,3,none⟩ (.slice D ks.length d)):=(Only.of_up u).trans k2
 refine ⟨A1,c1,A2,c2,A3,c3,B1,e1,B2,e2,D,d,(F.goUp u).setY 3 _,qx1.go k,qx2.go k,qx3.go k,qy1.go k,qy2.go k,(RowG.of_own good_I so (four_far hg0 zz (fun q hq=>(so.in_ good_I q hq).1))).go k2,?_⟩
 rw [World.size_setCell]
 exact Nat.le_trans zz u.size
theorem RowG.cell0 {gs:List Nat} {gb ob c:Nat} {k:ByteArray} {l:List ByteArray} (h:RowG shS gs W (some ⟨gb,ob,none⟩) c (k::l)):∀V,Only gs W V→V.cell? ⟨gb,ob,none⟩=some (.string k):=fun V hv=>by
 obtain ⟨g,o,hA,_,_,hc,_⟩:=(h V hv).at_S (i:=0) (by simp)
 injection hA with hA
 injection hA with h1 h2 _
 subst h1 h2
 simpa using hc
end
end Go.Proofs.YtojmcmghmnfjeaaGreatDoor
