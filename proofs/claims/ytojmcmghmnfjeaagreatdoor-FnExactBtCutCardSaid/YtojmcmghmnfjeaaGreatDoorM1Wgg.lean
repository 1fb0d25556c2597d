/-
 Parts of the proof.
-/
import Derived.Test.YtojmcmghmnfjeaaGreatDoorM1Wdg
import Derived.Deep.LoopGhost
set_option maxHeartbeats 8000000
set_option maxRecDepth 100000
namespace Go.Proofs.YtojmcmghmnfjeaaGreatDoor
open Go.RowKit
set_option linter.unusedVariables false
set_option linter.unusedSimpArgs false
theorem c_cmpNaNS (a:ByteArray) (w:World):Calls Tryz.prog 143 #[.string a] w (fun e w'=>e=.returned (.bool false)∧w=w'):=by
 go_enter Tryz.func143,Tryz.ntmps143
 go_wp2_with fail
 go_ret
 exact ⟨by simp,rfl⟩
theorem c_slNaNS (a:ByteArray) (w:World):Calls Tryz.prog 114 #[.string a] w (fun e w'=>e=.returned (.bool false)∧w=w'):=by
 go_enter Tryz.func114,Tryz.ntmps114
 go_wp2_with fail
 go_ret
 exact ⟨by simp,rfl⟩
theorem c_cmpLessS (a b:ByteArray) (w:World):Calls Tryz.prog 113 #[.string a,.string b] w (fun e w'=>e=.returned (.bool (bytesLt a b))∧w=w'):=by
 have HR:Hid (bytesLt a b=Op.bytesLess a.toList b.toList):=Hd rfl
 generalize bytesLt a b=R at HR ⊢
 go_enter Tryz.func113,Tryz.ntmps113
 go_wp2_with fail
 refine (c_cmpNaNS a w).mono ?_
 rintro e w1 ⟨rfl,rfl⟩
 go_wp2_with fail
 go_ret
 exact ⟨by rw [HR.out];simp,rfl⟩
theorem keys_up {l:List ByteArray} (h:KeysP l) {key:ByteArray} {m a:Nat} (hm:m<l.length) (ha:a<l.length) (hma:m≤a) (hL:bytesLt l[m] key=false):bytesLt l[a] key=false:=by
 cases hq:bytesLt l[a] key
 ·rfl
 ·by_cases e:m=a
  ·subst e;rw [hL] at hq;cases hq
  ·rw [lo_bytes.tr _ _ _ (keys_asc h m a ha (by omega)) hq] at hL;cases hL
theorem keys_dn {l:List ByteArray} (h:KeysP l) {key:ByteArray} {m a:Nat} (hm:m<l.length) (ha:a<l.length) (hma:a≤m) (hL:bytesLt l[m] key=true):bytesLt l[a] key=true:=by
 by_cases e:a=m
 ·subst e;exact hL
 ·exact lo_bytes.tr _ _ _ (keys_asc h a m hm (by omega)) hL
theorem c_BinarySearchS (xs:List ByteArray) (hx:KeysP xs) (A:Option Addr) (c:Nat) (key:ByteArray) (w:World) (h:SRW shS w A c xs) (hn:xs.length≤1048576) :
 Calls Tryz.prog 83 #[.slice A xs.length c,.string key] w (fun e w'=>e=.returned (.tuple #[.int .i64 (keyIdx xs key:Int),.bool (keyHas xs key)])∧w=w'):=by
 have hlen:=h.len_le
 have HX:=Hd hx
 have HK:=Hd (fun k h1 h2 h3=>keyIdx_eq (l:=xs) (key:=key) (k:=k) h1 h2 h3)
 have HH:Hid (keyHas xs key=(decide (keyIdx xs key<xs.length)&&decide (xs.getD (keyIdx xs key) ⟨#[]⟩=key))):=Hd rfl
 generalize keyIdx xs key=r1 at HK HH ⊢
 generalize keyHas xs key=r2 at HH ⊢
 clear hx
 go_enter Tryz.func83,Tryz.ntmps83
 go_wp2_with fail
 go_loopw [7,8] (fun i j wr=>∃lo hi:Nat,lo≤hi∧hi≤xs.length∧i=.int .i64 lo∧j=.int .i64 hi∧Hid ((∀a (h:a<xs.length),a<lo→bytesLt xs[a] key=true)∧(∀a (h:a<xs.length),hi≤a→bytesLt xs[a] key=false))∧wr=w) (fun i j _=>(intOf j).toNat-(intOf i).toNat)
 case atStart=>exact ⟨0,xs.length,Nat.zero_le _,Nat.le_refl _,rfl,rfl,Hd ⟨fun a h ha=>absurd ha (by omega),fun a h ha=>absurd h (by omega)⟩,rfl⟩
 case round =>
  obtain ⟨lo,hi,hlh,hhl,rfl,rfl,HA,rfl⟩:=hrel
  by_cases hlt:lo<hi
  ·obtain ⟨m,hm⟩:∃m,m=(lo+hi) / 2:=⟨_,rfl⟩
   have hm1:lo≤m:=by omega
   have hm2:m<hi:=by omega
   have hml:m<xs.length:=by omega
   have hmi:((lo:Int)+(hi:Int)) / 2=(m:Int):=by omega
   clear hm
   obtain ⟨g,off,rfl,_,hgl,hc,_⟩:=h.at_S hml
   have CC:=Hd (c_cmpLessS xs[m] key wr)
   cases hL:bytesLt xs[m] key
   ·rw [hL] at CC
    have HN:Hid ((∀a (h:a<xs.length),a<lo→bytesLt xs[a] key=true)∧(∀a (h:a<xs.length),m≤a→bytesLt xs[a] key=false)):=Hd ⟨HA.out.1,fun a h ha=>keys_up HX.out hml h ha hL⟩
    clear hL
    go_wp2_with fail
    refine CC.out.mono ?_
    rintro e w1 ⟨rfl,rfl⟩
    go_wp2_with fail
    go_roundw
    case rel=>exact ⟨lo,m,by omega,by omega,rfl,rfl,HN,by first | rfl | trivial⟩
    case measure=>simp [intOf];omega
   ·rw [hL] at CC
    have HN:Hid ((∀a (h:a<xs.length),a<m+1→bytesLt xs[a] key=true)∧(∀a (h:a<xs.length),hi≤a→bytesLt xs[a] key=false)):=Hd ⟨fun a h ha=>keys_dn HX.out hml h (by omega) hL,HA.out.2⟩
    clear hL
    go_wp2_with fail
    refine CC.out.mono ?_
    rintro e w1 ⟨rfl,rfl⟩
    go_wp2_with fail
    go_roundw
    case rel=>exact ⟨m+1,hi,by omega,by omega,by go_num,rfl,HN,by first | rfl | trivial⟩
    case measure=>simp [intOf];omega
  ·obtain rfl:lo=hi:=by omega
   have HP:=Hd (HK.out lo hhl HA.out.1 (fun hq=>HA.out.2 lo hq (Nat.le_refl _)))
   clear hlt
   by_cases hlx:lo<xs.length
   ·obtain ⟨g,off,rfl,_,hgl,hc,_⟩:=h.at_S hlx
    have H2:=Hd (show r2=decide (xs[lo]=key) by rw [HH.out,HP.out,decide_eq_true hlx,getD_inW hlx ⟨#[]⟩,Bool.true_and])
    clear HH HK HA
    cases he:(xs[lo].toList==key.toList)
    ·have H3:=Hd (show r2=false by rw [H2.out];exact decide_eq_false (fun e=>by rw [e] at he;simp at he))
     have CN:=Hd (c_slNaNS xs[lo] wr)
     clear H2
     go_wp2_with fail
     refine CN.out.mono ?_
     rintro e w1 ⟨rfl,rfl⟩
     go_wp2_with fail
     refine bodyPost_ret (v:=.tuple #[.int .i64 (lo:Int),.bool false]) (by simp [results,Tryz.results83,go_sem]) rfl ?_
     exact ⟨by rw [HP.out,H3.out],rfl⟩
    ·have hee:xs[lo]=key:=ByteArray.ext (Array.toList_inj.1 (by have:=beq_iff_eq.1 he;rwa [ByteArray.toList_eq,ByteArray.toList_eq] at this))
     have H3:=Hd (show r2=true by rw [H2.out];exact decide_eq_true hee)
     clear H2 hee
     go_wp2_with fail
     refine bodyPost_ret (v:=.tuple #[.int .i64 (lo:Int),.bool true]) (by simp [results,Tryz.results83,go_sem]) rfl ?_
     exact ⟨by rw [HP.out,H3.out],rfl⟩
   ·have H3:=Hd (show r2=false by rw [HH.out,HP.out,decide_eq_false hlx];rfl)
    clear HH HK HA
    go_wp2_with fail
    refine bodyPost_ret (v:=.tuple #[.int .i64 (lo:Int),.bool false]) (by simp [results,Tryz.results83,go_sem]) rfl ?_
    exact ⟨by rw [HP.out,H3.out],rfl⟩
theorem c_find (v:Value) (p:TPage) (key:ByteArray) (w:World) (h:AV shPage w v p) (hp:pageB p=true):Calls Tryz.prog 47 #[v,.string key] w (RetV (.tuple #[.int .i64 ((findB p key).1:Int),.bool (findB p key).2]) w):=by
 obtain ⟨cs,rfl,h⟩:=h
 obtain ⟨A1,c1,A2,c2,A3,c3,rfl,b1,b2,b3⟩:=openPage h
 clear h
 have h6:=keys_le6 hp
 have kB:=Bk.new w 58 #[.bool p.1,.slice A1 p.2.1.length c1,.slice A2 p.2.2.1.length c2,.slice A3 p.2.2.2.length c3]
 have uu:Up w (w.alloc (.cells #[.bool p.1,.slice A1 p.2.1.length c1,.slice A2 p.2.2.1.length c2,.slice A3 p.2.2.2.length c3] 58)):=(Up.refl _).alloc _
 have CS:=Hd (c_BinarySearchS p.2.1 (page_keysP hp) A1 c1 key _ (b1.up good_S uu) (by omega))
 have hki:=keyIdx_le p.2.1 key
 have HF1:Hid ((findB p key).1=if keyHas p.2.1 key=true∧p.1=false then keyIdx p.2.1 key+1 else keyIdx p.2.1 key):=Hd rfl
 have HF2:Hid ((findB p key).2=keyHas p.2.1 key):=Hd rfl
 generalize (findB p key).1=r1 at HF1 ⊢
 generalize (findB p key).2=r2 at HF2 ⊢
 generalize keyIdx p.2.1 key=k at HF1 CS hki
 generalize keyHas p.2.1 key=b at HF1 HF2 CS
 have gB0:World.cell? _ ⟨w.heap.size,0,none⟩=some (.bool p.1):=kB.cell 0
 have gB1:World.cell? _ ⟨w.heap.size,1,none⟩=some (.slice A1 p.2.1.length c1):=kB.cell 1
 have hpN:=Hd hp
 clear hp
 go_enter Tryz.func47,Tryz.ntmps47
 go_wp2_with fail
 generalize (w.alloc (.cells #[.bool p.1,.slice A1 p.2.1.length c1,.slice A2 p.2.2.1.length c2,.slice A3 p.2.2.2.length c3] 58))=W0 at uu CS gB0 gB1 ⊢
 refine CS.out.mono ?_
 rintro e w1 ⟨rfl,rfl⟩
 clear kB gB1
 cases hl:p.1 <;> cases b
 ·rw [hl] at gB0
  have H1:=Hd (show r1=k by rw [HF1.out,hl];simp)
  have H2:=Hd (show r2=false from HF2.out)
  clear HF1 HF2 hl
  go_wp2_with fail
  refine bodyPost_ret (v:=.tuple #[.int .i64 ((k:Int)),.bool false]) (by simp [results,Tryz.results47,go_sem]) rfl ?_
  exact ⟨by rw [H1.out,H2.out],uu⟩
 ·rw [hl] at gB0
  have H1:=Hd (show r1=k+1 by rw [HF1.out,hl];simp)
  have H2:=Hd (show r2=true from HF2.out)
  clear HF1 HF2 hl
  go_wp2_with fail
  refine bodyPost_ret (v:=.tuple #[.int .i64 ((k:Int)+1),.bool true]) (by simp [results,Tryz.results47,go_sem]) rfl ?_
  exact ⟨by rw [H1.out,H2.out];rfl,uu⟩
 ·rw [hl] at gB0
  have H1:=Hd (show r1=k by rw [HF1.out,hl];simp)
  have H2:=Hd (show r2=false from HF2.out)
  clear HF1 HF2 hl
  go_wp2_with fail
  refine bodyPost_ret (v:=.tuple #[.int .i64 ((k:Int)),.bool false]) (by simp [results,Tryz.results47,go_sem]) rfl ?_
  exact ⟨by rw [H1.out,H2.out],uu⟩
 ·rw [hl] at gB0
  have H1:=Hd (show r1=k by rw [HF1.out,hl];simp)
  have H2:=Hd (show r2=true from HF2.out)
  clear HF1 HF2 hl
  go_wp2_with fail
  refine bodyPost_ret (v:=.tuple #[.int .i64 ((k:Int)),.bool true]) (by simp [results,Tryz.results47,go_sem]) rfl ?_
  exact ⟨by rw [H1.out,H2.out],uu⟩
theorem getLast_cons_ne {α:Type} {a:α} {l:List α} (h:0<l.length):(a::l).getLast?=l.getLast?:=by
 cases l with
 | nil=>simp at h
 | cons b l=>rw [List.getLast?_cons_cons]
def LeafP (x:TBtree) (key:ByteArray) (hi:Nat) (w:World) (e:Ending) (w':World):Prop :=
 ∃g id q,e=.returned (.pointer (some ⟨g,0,none⟩))∧Up w w'∧pgAt x id=some q∧q.1=true∧(wayB x key 64 x.1).1.getLast?=some (id,keyIdx q.2.1 key)∧(wayB x key 64 x.1).2=keyHas q.2.1 key∧∃cs,Bk w' g 58 cs.toArray∧shPage.rep w' 0 hi cs q
theorem c_leaf {x:TBtree} (hs:SlotsP x.2) (hst:Stands x 64 x.1) (hr:I64 x.1) (key:ByteArray) {lo hi tb:Nat} {w:World} (PR:PagesR w lo hi tb x) (hhi:hi≤w.heap.size) :
 Calls Tryz.prog 46 #[.pointer (some ⟨tb,0,none⟩),.string key] w (LeafP x key hi w):=by
 have PRN:=Hd PR
 have HS:=Hd hs
 have HST:=Hd hst
 obtain ⟨pb,n0,f,p1,p2,p3,p4,p5,p6,p7,p8⟩:=PR
 obtain ⟨pr,hpr⟩:∃pr,pgAt x x.1=some pr:=by
  have h:=hst
  obtain ⟨pr,hpr,_⟩:=h
  exact ⟨pr,hpr⟩
 obtain ⟨gr,csr,hfr,_,_,kgr,hrr⟩:=(p8 x.1).2 pr hpr
 have hlk:=fun m=>(p2.drewN m).look (t:=87) (e:=90) Tryz.underlying2 Tryz.underlying87 (zero_pagepW _) (i:=x.1) hr
 rw [hfr] at hlk
 simp only [ptrOf] at hlk
 have gt0:w.cell? ⟨tb,0,none⟩=some (.int .i64 x.1):=p1.cell 0
 have gt1:w.cell? ⟨tb,1,none⟩=some (.map (some pb)):=p1.cell 1
 have hprN:=Hd hpr
 have HPG:Hid (∀m,∃cs,Bk (w.drewN m) gr 58 cs.toArray∧shPage.rep (w.drewN m) 0 hi cs pr):=Hd (fun m=>⟨csr,kgr,good_Page.wide hrr (Nat.zero_le _) (Nat.le_refl _)⟩)
 clear p8 p2 p3 p4 p5 p6 p7 hpr hfr kgr hrr hs hst
 go_enter Tryz.func46,Tryz.ntmps46
 go_wp2_with fail
 go_quiet (fail)
 go_wp2_with fail
 clear hlk gt0 gt1
 go_loopg [5] 64 (fun n s5 wr=>∃(id:Int) (g:Nat) (p:TPage),s5=.pointer (some ⟨g,0,none⟩)∧Hid (Stands x n id)∧Hid (pgAt x id=some p)∧Hid ((wayB x key n id).1.getLast?=(wayB x key 64 x.1).1.getLast?∧(wayB x key n id).2=(wayB x key 64 x.1).2)∧Hid (∃cs,Bk wr g 58 cs.toArray∧shPage.rep wr 0 hi cs p)∧Up w wr)
 case atStart=>exact ⟨x.1,gr,pr,rfl,HST,hprN,Hd ⟨rfl,rfl⟩,Hd (HPG.out nq),(Up.refl w).drewN nq⟩
 case round =>
  obtain ⟨id,g,p,rfl,ST,HP,HL,HG,hu⟩:=hrel
  clear HPG hprN
  obtain ⟨n,rfl⟩:∃m,gk=m+1:=by
   cases gk with
   | zero=>exact ST.out.elim
   | succ m=>exact ⟨m,rfl⟩
  have hst:∃p',pgAt x id=some p'∧(p'.1=false→∀k,k<p'.2.2.2.length→Stands x n (p'.2.2.2.getD k 0)):=ST.out
  obtain ⟨p',hp',hkids⟩:=hst
  obtain rfl:p'=p:=by rw [HP.out] at hp';injection hp' with e;exact e.symm
  have hpb:=pgAt_ok HS.out hp'
  obtain ⟨cs,kg,hrep⟩:=HG.out
  obtain ⟨A1,c1,A2,c2,A3,c3,rfl,b1,b2,b3⟩:=openPage hrep
  have hz:=hu.size
  have gp0:wr.cell? ⟨g,0,none⟩=some (.bool p'.1):=kg.cell 0
  have gp1:wr.cell? ⟨g,1,none⟩=some (.slice A1 p'.2.1.length c1):=kg.cell 1
  have gp2:wr.cell? ⟨g,2,none⟩=some (.slice A2 p'.2.2.1.length c2):=kg.cell 2
  have gp3:wr.cell? ⟨g,3,none⟩=some (.slice A3 p'.2.2.2.length c3):=kg.cell 3
  have HW:=Hd (show wayB x key (n+1) id=(if p'.1=true then ([(id,(findB p' key).1)],(findB p' key).2) else ((id,(findB p' key).1)::(wayB x key n (p'.2.2.2.getD (findB p' key).1 0)).1,(wayB x key n (p'.2.2.2.getD (findB p' key).1 0)).2)) by
   rw [wayB,hp'])
  have CF:=Hd (c_find (.agg #[.bool p'.1,.slice A1 p'.2.1.length c1,.slice A2 p'.2.2.1.length c2,.slice A3 p'.2.2.2.length c3]) p' key wr ⟨_,rfl,good_Page.wide hrep (Nat.le_refl _) (by omega)⟩ hpb)
  cases hl:p'.1
  ·have hak:=findB_lt hpb hl key
   have ST2:=Hd (hkids hl _ hak)
   have HL2:=Hd (show (wayB x key n (p'.2.2.2.getD (findB p' key).1 0)).1.getLast?=(wayB x key 64 x.1).1.getLast?∧(wayB x key n (p'.2.2.2.getD (findB p' key).1 0)).2=(wayB x key 64 x.1).2 by
    have h1:=HL.out.1
    have h2:=HL.out.2
    rw [HW.out,if_neg (by rw [hl];decide)] at h1 h2
    dsimp only at h1 h2
    rw [getLast_cons_ne (way_len (key:=key) HS.out ST2.out).1] at h1
    exact ⟨h1,h2⟩)
   rw [getD_inW hak 0] at ST2 HL2
   have hki:=(kid_of_pageD hpb hl).2.1 _ hak
   have hk6:=(kid_of_pageD hpb hl).1
   generalize hfa:(findB p' key).1=a at CF hak ST2 HL2 hki
   generalize (findB p' key).2=b at CF
   clear hfa HW HL hkids hrep HG ST
   rw [hl] at gp0
   have hlN:=Hd hl
   obtain ⟨gk',ok,rfl,_,_,hck,_⟩:=b3.at_I hak
   have haki:(a:Int)<(p'.2.2.2.length:Int):=by omega
   have ha0:(0:Int)≤(a:Int):=by omega
   rw [hl] at CF
   clear hl
   go_wp2_with fail
   refine CF.out.mono ?_
   rintro e w1 ⟨rfl,u1⟩
   have hu1:=hu.trans u1
   have kg1:=kg.up u1
   have g3':w1.cell? ⟨g,3,none⟩=some (.slice (some ⟨gk',ok,none⟩) p'.2.2.2.length c3):=kg1.cell 3
   have hck1:w1.cell? _=_:=(u1.cell (cell_lt hck)).trans hck
   obtain ⟨p2',hp2'⟩:∃q,pgAt x p'.2.2.2[a]=some q:=by
    cases n with
    | zero=>exact ST2.out.elim
    | succ m =>
     have h:=ST2.out
     obtain ⟨q,hq,_⟩:=h
     exact ⟨q,hq⟩
   have PRr:=PRN.out.up hu1 hhi
   obtain ⟨pb',n0',f',q1,q2,q3,q4,q5,q6,q7,q8⟩:=PRr
   obtain ⟨g2,cs2,hf2,_,_,kg2,hr2⟩:=(q8 p'.2.2.2[a]).2 p2' hp2'
   have hlk:=fun m=>(q2.drewN m).look (t:=87) (e:=90) Tryz.underlying2 Tryz.underlying87 (zero_pagepW _) (i:=p'.2.2.2[a]) ⟨by omega,by omega⟩
   rw [hf2] at hlk
   simp only [ptrOf] at hlk
   have gt1:w1.cell? ⟨tb,1,none⟩=some (.map (some pb')):=q1.cell 1
   have HP2:=Hd hp2'
   have HG2:=Hd (show ∀m,∃cs,Bk (w1.drewN m) g2 58 cs.toArray∧shPage.rep (w1.drewN m) 0 hi cs p2' from fun m=>⟨cs2,kg2,good_Page.wide hr2 (Nat.zero_le _) (Nat.le_refl _)⟩)
   clear q8 q2 q3 q4 q5 q6 q7 hp2' hf2 kg2 hr2 hp' b1 b2 b3 gp0 gp1 gp2 gp3 hck CF
   go_wp2_with fail
   go_quiet (fail)
   go_wp2_with fail
   go_roundg n
   case rel=>exact ⟨p'.2.2.2[a],g2,p2',rfl,ST2,HP2,HL2,Hd (HG2.out nq),hu1.drewN nq⟩
   case measure=>omega
  ·rw [hl] at gp0
   have HE:=Hd (show (wayB x key 64 x.1).1.getLast?=some (id,keyIdx p'.2.1 key)∧(wayB x key 64 x.1).2=keyHas p'.2.1 key by
    have h1:=HL.out.1
    have h2:=HL.out.2
    rw [HW.out,if_pos hl] at h1 h2
    refine ⟨h1.symm.trans ?_,h2.symm⟩
    show some (id,(findB p' key).1)=_
    unfold findB
    rw [if_neg (by rw [hl];simp)])
   have HPp:=Hd (show pgAt x id=some p'∧p'.1=true from ⟨hp',hl⟩)
   have HR:=Hd (show ∃cs,Bk wr g 58 cs.toArray∧shPage.rep wr 0 hi cs p' from ⟨_,kg,hrep⟩)
   clear HW HL hkids hp' b1 b2 b3 hl gp1 gp2 gp3 CF hrep
   go_wp2_with fail
   refine bodyPost_ret (v:=.pointer (some ⟨g,0,none⟩)) (by simp [results,Tryz.results46,go_sem]) rfl ?_
   exact ⟨g,id,p',rfl,hu,HPp.out.1,HPp.out.2,HE.out.1,HE.out.2,HR.out⟩
end Go.Proofs.YtojmcmghmnfjeaaGreatDoor
