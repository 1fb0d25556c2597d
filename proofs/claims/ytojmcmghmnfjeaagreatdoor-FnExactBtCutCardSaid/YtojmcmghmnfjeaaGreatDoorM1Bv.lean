/-
 Parts of the proof.
-/
import Derived.Test.YtojmcmghmnfjeaaGreatDoorM1Wcg
set_option maxHeartbeats 16000000
set_option maxRecDepth 100000
namespace Go.Proofs.YtojmcmghmnfjeaaGreatDoor
open Go.RowKit
set_option linter.unusedVariables false
set_option linter.unusedSimpArgs false
def WalkN (x:TBtree) (lo hi tb sb wb n:Nat):Prop :=
 ∀ (id D:Int) (far:Nat) (low high:ByteArray) (s:TWalk) (w:World),I64 id→Hid (D=(far:Int)-1)→WalkR w lo hi tb sb wb x s→x.2.length≤n+s.1.length→((far=1∧id=x.1∧s.1=[])∨(2≤far∧x.1∈s.1))→n+far≤1000 →
  Calls Tryz.prog 43 #[.pointer (some ⟨wb,0,none⟩),.int .i64 id,.string low,.string high,.int .i64 D] w (WalkE (walkB x n id far low high s) lo hi tb sb wb x s w)
theorem walkB_in {x:TBtree} {n:Nat} {id:Int} {far:Nat} {low high:ByteArray} {s:TWalk} {p:TPage} (hp:pgAt x id=some p) (hc:s.1.contains id=false) :
 walkB x (n+1) id far low high s=if p.2.1.any (badKey low high)=true then none
  else if far≠1∧fillOf p<3 then none
  else if p.1=true then leafW id far s
  else kidsTo (fun k t=>walkB x n (p.2.2.2.getD k 0) (far+1) (lowK p low k) (highK p high k) t) p.2.2.2.length (s.1++[id],s.2):=by
 rw [walkB,hp]
 dsimp only
 rw [if_neg (by rw [hc];decide)]
theorem WalkR.added {w w':World} {lo hi tb sb wb:Nat} {x:TBtree} {s:TWalk} {id:Int} {p:TPage} (h:WalkR w lo hi tb sb wb x s) (hp:pgAt x id=some p) (hc:s.1.contains id=false) (ks:MSet Tryz.prog 2 4 w' sb (s.1++[id])) (b:But sb w w'):WalkR w' lo hi tb sb wb x (s.1++[id],s.2) :=
 ⟨h.pg.but b h.h1,h.h1,h.h2,h.h3,h.kw.butM b (fun e=>h.h3 e.symm),ks,metOk_snoc h.ok hp hc,h.dk⟩
theorem WalkR.depth {w:World} {lo hi tb sb wb:Nat} {x:TBtree} {s:TWalk} {far:Nat} {D:Int} (h:WalkR w lo hi tb sb wb x s) (hD:Hid (D=(far:Int)-1)) (hf:1≤far):WalkR (w.setCell ⟨wb,2,none⟩ (.int .i64 D)) lo hi tb sb wb x (s.1,some far):=by
 have b:=But.set w wb 2 (.int .i64 D)
 refine ⟨h.pg.but b h.h2,h.h1,h.h2,h.h3,?_,h.ks.but b h.h3,h.ok,fun d hd=>by cases hd;exact hf⟩
 have:=h.kw.set 2 (.int .i64 D)
 rw [hD.out] at this ⊢
 exact this
theorem WalkE.mk {r:Option TWalk} {b:Bool} {lo hi tb sb wb:Nat} {x:TBtree} {s:TWalk} {w w':World} (h1:Hid (r.isSome=b)) (h2:Only [sb,wb] w w') (h3:∀t,r=some t→WalkR w' lo hi tb sb wb x t∧s.1 <+: t.1):WalkE r lo hi tb sb wb x s w (.returned (.bool b)) w':=⟨by rw [h1.out],h2,h3⟩
theorem getD_at {α:Type} {l:List α} {k:Nat} (h:k<l.length) (d:α):l.getD k d=l[k]:=by simp [List.getD,List.getElem?_eq_getElem h]
theorem WalkE.no {lo hi tb sb wb:Nat} {x:TBtree} {s:TWalk} {w w':World} {e:Ending} (h:WalkE none lo hi tb sb wb x s w e w'):e=.returned (.bool false)∧Only [sb,wb] w w':=⟨h.1,h.2.1⟩
theorem WalkE.yes {t:TWalk} {lo hi tb sb wb:Nat} {x:TBtree} {s:TWalk} {w w':World} {e:Ending} (h:WalkE (some t) lo hi tb sb wb x s w e w'):e=.returned (.bool true)∧Only [sb,wb] w w'∧WalkR w' lo hi tb sb wb x t∧s.1 <+: t.1:=⟨h.1,h.2.1,h.2.2 t rfl⟩
theorem kid_of_page {p:TPage} (h:pageB p=true) (hl:p.1=false):p.2.2.2.length≤6∧(∀k (hk:k<p.2.2.2.length),1≤p.2.2.2[k]∧p.2.2.2[k]≤64)∧2≤p.2.2.2.length:=by
 unfold pageB at h
 simp only [Bool.and_eq_true] at h
 have h2:=h.2
 rw [if_neg (by rw [hl];decide)] at h2
 simp only [forkB,Bool.and_eq_true] at h2
 have h3:=inB_t.1 h2.1.1.1
 refine ⟨by omega,fun k hk=>?_,by omega⟩
 cases hb:inB p.2.2.2[k] 1 64
 ·rw [kid_t hk hb] at h2;exact absurd h2.2 (by decide)
 ·exact inB_t.1 hb
theorem walkPage {x:TBtree} (hs:SlotsP x.2) {lo hi tb sb wb n:Nat} (IH:WalkN x lo hi tb sb wb n) {id D:Int} {far:Nat} {low high:ByteArray} {s:TWalk} {w:World} {p:TPage} (hid:I64 id) (hD:Hid (D=(far:Int)-1)) (R:WalkR w lo hi tb sb wb x s) (hl:x.2.length≤n+1+s.1.length)
 (hfar:(far=1∧id=x.1∧s.1=[])∨(2≤far∧x.1∈s.1)) (hf1:n+1+far≤1000) (hp:pgAt x id=some p) (hc:s.1.contains id=false) :
 Calls Tryz.prog 43 #[.pointer (some ⟨wb,0,none⟩),.int .i64 id,.string low,.string high,.int .i64 D] w (WalkE (walkB x (n+1) id far low high s) lo hi tb sb wb x s w):=by
 have HW:=Hd (walkB_in (n:=n) (far:=far) (low:=low) (high:=high) hp hc)
 generalize walkB x (n+1) id far low high s=r at HW ⊢
 have hpb:=pgAt_ok hs hp
 have hroot:Hid (x.1∈s.1++[id]):=Hd (by
  rcases hfar with ⟨_,e,_⟩ | ⟨_,e⟩
  ·rw [e];simp
  ·exact List.mem_append_left _ e)
 have hne:far≠1→id≠x.1:=fun h e=>by
  rcases hfar with ⟨e1,_⟩ | ⟨_,e1⟩
  ·exact h e1
  ·rw [e] at hc
   simp at hc
   exact hc e1
 have heq:far=1→id=x.1:=fun h=>by
  rcases hfar with ⟨_,e1,_⟩ | ⟨e1,_⟩
  ·exact e1
  ·omega
 have hfp:1≤far:=by omega
 clear hfar
 have uu:Up w ((w.alloc (.cells #[.string low] 9)).alloc (.cells #[.string high] 9)):=((Up.refl _).alloc _).alloc _
 have R1:=R.up uu
 have kb1:Bk ((w.alloc (.cells #[.string low] 9)).alloc (.cells #[.string high] 9)) w.heap.size 9 #[.string low]:=(Bk.new w _ _).alloc _
 have kb2:Bk ((w.alloc (.cells #[.string low] 9)).alloc (.cells #[.string high] 9)) (w.heap.size+1) 9 #[.string high]:=by
  simpa using Bk.new (w.alloc (.cells #[.string low] 9)) 9 #[.string high]
 have hsw:sb<w.heap.size:=R.ks.lt
 have hww:wb<w.heap.size:=R.kw.lt
 have hR:=R1
 obtain ⟨pg,h1,h2,h3,kw,ks,ok,dk⟩:=R1
 obtain ⟨pb,n0,f,p1,p2,p3,p4,p5,p6,p7,p8⟩:=pg
 have g0:World.cell? _ ⟨wb,0,none⟩=some (.pointer (some ⟨tb,0,none⟩)):=kw.cell 0
 have g1:World.cell? _ ⟨wb,1,none⟩=some (.map (some sb)):=kw.cell 1
 have g2:World.cell? _ ⟨tb,1,none⟩=some (.map (some pb)):=p1.cell 1
 have hlk:=p2.look_ok (t:=87) (e:=90) Tryz.underlying2 Tryz.underlying87 (zero_pagep _) (i:=id) hid
 have hl2:=ks.look (t:=83) Tryz.underlying2 Tryz.underlying83 Tryz.underlying4 (zero_boolM _) (i:=id) hid
 obtain ⟨g,cs,hf,hg1,hg2,kg,hrep⟩:=(p8 id).2 p hp
 obtain ⟨A1,c1,A2,c2,A3,c3,hcs,b1,b2,b3⟩:=openPage hrep
 subst hcs
 have hlen64:=slots_len hs
 have hmet:s.1.length<maxLen:=by have:=metOk_len ok;unfold maxLen;omega
 obtain ⟨W3,hrun,ks3,bt⟩:=ks.add (t:=83) Tryz.underlying2 Tryz.underlying83 Tryz.underlying4 hmet (i:=id) hid hc
 have R3:=hR.added hp hc ks3 bt
 rw [hf] at hlk
 rw [hc] at hl2
 simp only [ptrOf,Option.isSome] at hlk
 have kg3:=kg.butM bt (show g≠sb by omega)
 have kt3:=p1.butM bt (show tb≠sb by omega)
 have b13:=good_S
 have q1:SR shS W3 (pb+1) hi A1 c1 p.2.1:=SR.keep good_S b1 (fun y h1 h2=>bt.block y (by omega))
 have q3:SR shI W3 (pb+1) hi A3 c3 p.2.2.2:=SR.keep good_I b3 (fun y h1 h2=>bt.block y (by omega))
 have kb13:=kb1.butM bt (show w.heap.size≠sb by omega)
 have kb23:=kb2.butM bt (show w.heap.size+1≠sb by omega)
 have o3:Only [sb,wb] w W3:=(Only.of_up uu).but bt (by simp)
 have z3:W3.heap.size=w.heap.size+2:=by rw [bt.size];simp
 have gp:World.cell? W3 ⟨g,1,none⟩=some (.slice A1 p.2.1.length c1):=kg3.cell 1
 have CF:=Hd (c_ContainsFuncString 77 #[.pointer (some ⟨w.heap.size,0,none⟩),.pointer (some ⟨w.heap.size+1,0,none⟩)] eg_walk1 (badKey low high) A1 c1 p.2.1 W3 (SR.wide good_S q1 (Nat.zero_le _) (by omega)) (fun W key _ hW=>by
  rw [show (#[Value.string key]++#[.pointer (some ⟨w.heap.size,0,none⟩),.pointer (some ⟨w.heap.size+1,0,none⟩)]:Array Value)=#[Value.string key,.pointer (some ⟨w.heap.size,0,none⟩),.pointer (some ⟨w.heap.size+1,0,none⟩)] by simp]
  exact c_walk1 _ _ low high key W ((kb13.up hW).cell 0) ((kb23.up hW).cell 0)))
 clear hR p8 p2 p1 p3 kw ks hrep b1 b2 b3 b13 hf kg ok dk R kb1 kb2 ks3 bt hmet
 have hcN:=Hd hc
 have hpN:=Hd hp
 have hsN:=Hd hs
 have hneN:=Hd hne
 have heqN:=Hd heq
 have hpbN:=Hd hpb
 clear hc hp hs hne heq hpb
 go_enter Tryz.func43,Tryz.ntmps43
 go_wp2_with fail
 refine CF.out.mono ?_
 rintro e w4 ⟨rfl,u4⟩
 have R4:=Hd (R3.up u4)
 have kg4:=kg3.up u4
 have kt4:=kt3.up u4
 have o4:=Hd (o3.up u4)
 have kb14:=kb13.up u4
 have kb24:=kb23.up u4
 have z4:=u4.size
 have q14:=Hd (SR.keep good_S q1 (u4.keeps (by omega)))
 have q34:=Hd (SR.keep good_I q3 (u4.keeps (by omega)))
 clear CF q1 q3 kg3 kb13 kb23 o3 R3 hlk hl2 hrun g0 g1 g2 gp kt3
 have g0:w4.cell? ⟨g,0,none⟩=some (.bool p.1):=kg4.cell 0
 have g1:w4.cell? ⟨g,1,none⟩=some (.slice A1 p.2.1.length c1):=kg4.cell 1
 have g3:w4.cell? ⟨g,3,none⟩=some (.slice A3 p.2.2.2.length c3):=kg4.cell 3
 have gw0:w4.cell? ⟨wb,0,none⟩=some (.pointer (some ⟨tb,0,none⟩)):=R4.out.kw.cell 0
 have gt0:w4.cell? ⟨tb,0,none⟩=some (.int .i64 x.1):=kt4.cell 0
 cases hb:p.2.1.any (badKey low high)
 ·have HW1:=Hd (show r=(if far≠1∧fillOf p<3 then none else if p.1=true then leafW id far s else kidsTo (fun k t=>walkB x n (p.2.2.2.getD k 0) (far+1) (lowK p low k) (highK p high k) t) p.2.2.2.length (s.1++[id],s.2)) by rw [HW.out,if_neg (by rw [hb];decide)])
  clear HW hb
  cases hl:p.1
  ·have HW2:=Hd (show r=(if far≠1∧p.2.2.2.length<3 then none else kidsTo (fun k t=>walkB x n (p.2.2.2.getD k 0) (far+1) (lowK p low k) (highK p high k) t) p.2.2.2.length (s.1++[id],s.2)) by
    rw [HW1.out,if_neg (show ¬p.1=true by rw [hl];decide)]
    unfold fillOf
    rw [if_neg (show ¬p.1=true by rw [hl];decide)])
   clear HW1
   rw [hl] at g0
   have hlN:=Hd hl
   clear hl
   by_cases hff:far≠1∧p.2.2.2.length<3
   ·have hi0:¬id=x.1:=hneN.out hff.1
    have hi1:(id==x.1)=false:=beq_eq_false_iff_ne.2 hi0
    have hi2:(id != x.1)=true:=by rw [bne,hi1];rfl
    have hi3:(p.2.2.2.length:Int)<3:=by omega
    have HR:=Hd (show r=none by rw [HW2.out,if_pos hff])
    clear HW2 hff
    go_wp2_with fail
    go_ret
    exact WalkE.mk (Hd (by rw [HR.out];rfl)) o4.out (fun t ht=>by rw [HR.out] at ht;cases ht)
   ·have HW3:=Hd (show r=kidsTo (fun k t=>walkB x n (p.2.2.2.getD k 0) (far+1) (lowK p low k) (highK p high k) t) p.2.2.2.length (s.1++[id],s.2) by rw [HW2.out,if_neg hff])
    clear HW2
    generalize hF:(fun k t=>walkB x n (p.2.2.2.getD k 0) (far+1) (lowK p low k) (highK p high k) t)=F at HW3
    have HF:=Hd (fun k t=>(congrFun (congrFun hF k) t).symm)
    clear hF
    have hD0:0≤D∧D≤1000:=by have:=hD.out;omega
    have hwD:IntKind.i64.wrap (D+1)=D+1:=IntWalk.i64_in _ (by omega)
    have hkl:=hpbN.out
    have hkid:=Hd (kid_of_page hkl hlN.out)
    have hfl:=fork_lens hkl hlN.out
    clear hkl
    have hk6:p.2.2.2.length≤6:=hkid.out.1
    have hor:(far=1)∨(far≠1∧¬p.2.2.2.length<3):=by
     by_cases e:far=1
     ·exact .inl e
     ·exact .inr ⟨e,fun h=>hff ⟨e,h⟩⟩
    clear hff
    rcases hor with hor | ⟨hor,hor2⟩
    ·have hi0:=heqN.out hor
     have hi1:(id==x.1)=true:=beq_iff_eq.2 hi0
     have hi2:(id != x.1)=false:=by rw [bne,hi1];rfl
     clear hi0 hor
     go_wp2_with fail
     go_loopw [103] (fun i wr=>∃(k:Nat) (t:TWalk),k≤p.2.2.2.length∧i=.int .i64 k∧Hid (kidsTo F k (s.1++[id],s.2)=some t)∧Hid (WalkR wr lo hi tb sb wb x t)∧Hid (s.1++[id] <+: t.1)∧Hid (Only [sb,wb] w wr)∧Hid (Only [sb,wb] w4 wr)) (fun i _=>p.2.2.2.length-(intOf i).toNat)
     case atStart=>exact ⟨0,(s.1++[id],s.2),Nat.zero_le _,rfl,Hd rfl,R4,Hd (List.prefix_refl _),o4,Hd (Only.refl _ _)⟩
     case round =>
      obtain ⟨k,t,hk,rfl,HK,RT,PT,OW,O4⟩:=hrel
      have kgr:=kg4.only O4.out (show g∉[sb,wb] by simp;omega)
      have kb1r:=kb14.only O4.out (show w.heap.size∉[sb,wb] by simp;omega)
      have kb2r:=kb24.only O4.out (show w.heap.size+1∉[sb,wb] by simp;omega)
      have keep:∀l,Keeps l hi w4 wr:=fun l y _ h2=>O4.out.block y (by omega) (by simp;omega)
      have q1r:=SR.keep good_S q14.out (keep _)
      have q3r:=SR.keep good_I q34.out (keep _)
      have g1r:wr.cell? ⟨g,1,none⟩=some (.slice A1 p.2.1.length c1):=kgr.cell 1
      have gb1:wr.cell? ⟨w.heap.size,0,none⟩=some (.string low):=kb1r.cell 0
      have gb2:wr.cell? ⟨w.heap.size+1,0,none⟩=some (.string high):=kb2r.cell 0
      clear g0 g1 g3 gw0 gt0 keep
      by_cases hlt:k<p.2.2.2.length
      ·obtain ⟨ga,oa,rfl,_,_,hc,hb1,hb2⟩:=q3r.at_I hlt
       have hkc:=hkid.out.2.1 k hlt
       have hlenT:x.2.length≤n+t.1.length:=by
        have:=PT.out.length_le
        rw [List.length_append] at this
        simp only [List.length_singleton] at this
        omega
       have hrt:x.1∈t.1:=PT.out.subset hroot.out
       have CALL:=Hd (fun W (uW:Up wr W)=>IH p.2.2.2[k] (D+1) (far+1) (lowK p low k) (highK p high k) t W ⟨by omega,by omega⟩ (Hd (by have:=hD.out;omega)) (RT.out.up uW) hlenT (.inr ⟨by omega,hrt⟩) (by omega))
       have HFk:=Hd (show F k t=walkB x n p.2.2.2[k] (far+1) (lowK p low k) (highK p high k) t by rw [HF.out k t,getD_at hlt])
       generalize walkB x n p.2.2.2[k] (far+1) (lowK p low k) (highK p high k) t=rk at CALL HFk
       clear hlenT hrt
       by_cases hk0:k=0
       ·subst hk0
        have e1:lowK p low 0=low:=if_neg (by omega)
        rw [e1] at CALL
        clear e1
        have hc':wr.cell? ⟨ga,oa,none⟩=some (.int .i64 p.2.2.2[0]):=by simpa using hc
        clear hc
        have h00:0<p.2.1.length:=by have:=hkid.out.2.2;omega
        have e2:highK p high 0=p.2.1[0]:=by unfold highK;rw [if_pos h00,getD_at h00]
        rw [e2] at CALL
        clear e2
        obtain ⟨gk,ok,rfl,_,_,hck,_⟩:=q1r.at_S h00
        have hck':wr.cell? ⟨gk,ok,none⟩=some (.string p.2.1[0]):=by simpa using hck
        clear hck
        have h00i:(0:Int)<(p.2.1.length:Int):=by omega
        have h00j:(0:Int)<(p.2.2.2.length:Int):=by omega
        go_wp2_with fail
        go_quiet (fail)
        go_wp2_with fail
        cases rk with
        | none =>
         refine (CALL.out _ ((Up.refl wr).drewN nq)).mono ?_
         rintro e w5 h5
         obtain ⟨rfl,on5⟩:=h5.no
         have HR:=Hd (show r=none by rw [HW3.out];exact kidsTo_none (k:=0+1) ((kidsTo_succ HK.out).trans HFk.out) (by omega))
         go_wp2_with fail
         go_ret
         exact WalkE.mk (Hd (by rw [HR.out];rfl)) ((OW.out.up ((Up.refl wr).drewN nq)).trans on5) (fun t ht=>by rw [HR.out] at ht;cases ht)
        | some t' =>
         refine (CALL.out _ ((Up.refl wr).drewN nq)).mono ?_
         rintro e w5 h5
         obtain ⟨rfl,on5,R5,P5⟩:=h5.yes
         have HN:=Hd ((kidsTo_succ HK.out).trans HFk.out)
         go_wp2_with fail
         go_roundw
         case rel=>exact ⟨0+1,t',by omega,by go_num,HN,Hd R5,Hd (PT.out.trans P5),Hd ((OW.out.up ((Up.refl wr).drewN nq)).trans on5),Hd ((O4.out.up ((Up.refl wr).drewN nq)).trans on5)⟩
         case measure=>simp [intOf];omega
       ·obtain ⟨m,rfl⟩:∃m,k=m+1:=⟨k-1,by omega⟩
        have hm:m<p.2.1.length:=by omega
        have e1:lowK p low (m+1)=p.2.1[m]:=by unfold lowK;rw [if_pos (by omega),Nat.add_sub_cancel,getD_at hm]
        rw [e1] at CALL
        clear e1
        obtain ⟨gk,ok,rfl,_,_,hck,_⟩:=q1r.at_S hm
        have hi0:(0:Int)≤(m:Int)+1:=by omega
        have hi2':(0:Int)<(m:Int)+1:=by omega
        have hi1':(m:Int)+1<(p.2.2.2.length:Int):=by omega
        have hwm:IntKind.i64.wrap (m:Int)=(m:Int):=IntWalk.i64_in _ (by omega)
        have hm0:(0:Int)≤(m:Int):=by omega
        have hm1:(m:Int)<(p.2.1.length:Int):=by omega
        by_cases hkl:m+1<p.2.1.length
        ·have e2:highK p high (m+1)=p.2.1[m+1]:=by unfold highK;rw [if_pos hkl,getD_at hkl]
         rw [e2] at CALL
         clear e2
         obtain ⟨gk',ok',hgo,_,_,hck2,_⟩:=q1r.at_S hkl
         injection hgo with hgo
         injection hgo with hg' ho' _
         subst hg' ho'
         have hkli:(m:Int)+1<(p.2.1.length:Int):=by omega
         go_wp2_with fail
         go_quiet (fail)
         go_wp2_with fail
         cases rk with
         | none =>
          refine (CALL.out _ ((Up.refl wr).drewN nq)).mono ?_
          rintro e w5 h5
          obtain ⟨rfl,on5⟩:=h5.no
          have HR:=Hd (show r=none by rw [HW3.out];exact kidsTo_none (k:=(m+1)+1) ((kidsTo_succ HK.out).trans HFk.out) (by omega))
          go_wp2_with fail
          go_ret
          exact WalkE.mk (Hd (by rw [HR.out];rfl)) ((OW.out.up ((Up.refl wr).drewN nq)).trans on5) (fun t ht=>by rw [HR.out] at ht;cases ht)
         | some t' =>
          refine (CALL.out _ ((Up.refl wr).drewN nq)).mono ?_
          rintro e w5 h5
          obtain ⟨rfl,on5,R5,P5⟩:=h5.yes
          have HN:=Hd ((kidsTo_succ HK.out).trans HFk.out)
          go_wp2_with fail
          go_roundw
          case rel=>exact ⟨(m+1)+1,t',by omega,by go_num,HN,Hd R5,Hd (PT.out.trans P5),Hd ((OW.out.up ((Up.refl wr).drewN nq)).trans on5),Hd ((O4.out.up ((Up.refl wr).drewN nq)).trans on5)⟩
          case measure=>simp [intOf];omega
        ·have e2:highK p high (m+1)=high:=if_neg hkl
         rw [e2] at CALL
         clear e2
         have hkli:¬(m:Int)+1<(p.2.1.length:Int):=by omega
         go_wp2_with fail
         go_quiet (fail)
         go_wp2_with fail
         cases rk with
         | none =>
          refine (CALL.out _ ((Up.refl wr).drewN nq)).mono ?_
          rintro e w5 h5
          obtain ⟨rfl,on5⟩:=h5.no
          have HR:=Hd (show r=none by rw [HW3.out];exact kidsTo_none (k:=(m+1)+1) ((kidsTo_succ HK.out).trans HFk.out) (by omega))
          go_wp2_with fail
          go_ret
          exact WalkE.mk (Hd (by rw [HR.out];rfl)) ((OW.out.up ((Up.refl wr).drewN nq)).trans on5) (fun t ht=>by rw [HR.out] at ht;cases ht)
         | some t' =>
          refine (CALL.out _ ((Up.refl wr).drewN nq)).mono ?_
          rintro e w5 h5
          obtain ⟨rfl,on5,R5,P5⟩:=h5.yes
          have HN:=Hd ((kidsTo_succ HK.out).trans HFk.out)
          go_wp2_with fail
          go_roundw
          case rel=>exact ⟨(m+1)+1,t',by omega,by go_num,HN,Hd R5,Hd (PT.out.trans P5),Hd ((OW.out.up ((Up.refl wr).drewN nq)).trans on5),Hd ((O4.out.up ((Up.refl wr).drewN nq)).trans on5)⟩
          case measure=>simp [intOf];omega
      ·obtain rfl:k=p.2.2.2.length:=by omega
       have HR:=Hd (show r=some t by rw [HW3.out,HK.out])
       have hend:¬(p.2.2.2.length:Int)<(p.2.2.2.length:Int):=by omega
       go_wp2_with fail
       go_ret
       exact WalkE.mk (Hd (by rw [HR.out];rfl)) OW.out (fun t' ht=>by rw [HR.out] at ht;cases ht;exact ⟨RT.out,(List.prefix_append _ _).trans PT.out⟩)
    ·have hi0:¬id=x.1:=hneN.out hor
     have hi1:(id==x.1)=false:=beq_eq_false_iff_ne.2 hi0
     have hi2:(id != x.1)=true:=by rw [bne,hi1];rfl
     have hi3:¬(p.2.2.2.length:Int)<3:=by omega
     clear hor hor2
     go_wp2_with fail
     go_loopw [103] (fun i wr=>∃(k:Nat) (t:TWalk),k≤p.2.2.2.length∧i=.int .i64 k∧Hid (kidsTo F k (s.1++[id],s.2)=some t)∧Hid (WalkR wr lo hi tb sb wb x t)∧Hid (s.1++[id] <+: t.1)∧Hid (Only [sb,wb] w wr)∧Hid (Only [sb,wb] w4 wr)) (fun i _=>p.2.2.2.length-(intOf i).toNat)
     case atStart=>exact ⟨0,(s.1++[id],s.2),Nat.zero_le _,rfl,Hd rfl,R4,Hd (List.prefix_refl _),o4,Hd (Only.refl _ _)⟩
     case round =>
      obtain ⟨k,t,hk,rfl,HK,RT,PT,OW,O4⟩:=hrel
      have kgr:=kg4.only O4.out (show g∉[sb,wb] by simp;omega)
      have kb1r:=kb14.only O4.out (show w.heap.size∉[sb,wb] by simp;omega)
      have kb2r:=kb24.only O4.out (show w.heap.size+1∉[sb,wb] by simp;omega)
      have keep:∀l,Keeps l hi w4 wr:=fun l y _ h2=>O4.out.block y (by omega) (by simp;omega)
      have q1r:=SR.keep good_S q14.out (keep _)
      have q3r:=SR.keep good_I q34.out (keep _)
      have g1r:wr.cell? ⟨g,1,none⟩=some (.slice A1 p.2.1.length c1):=kgr.cell 1
      have gb1:wr.cell? ⟨w.heap.size,0,none⟩=some (.string low):=kb1r.cell 0
      have gb2:wr.cell? ⟨w.heap.size+1,0,none⟩=some (.string high):=kb2r.cell 0
      clear g0 g1 g3 gw0 gt0 keep
      by_cases hlt:k<p.2.2.2.length
      ·obtain ⟨ga,oa,rfl,_,_,hc,hb1,hb2⟩:=q3r.at_I hlt
       have hkc:=hkid.out.2.1 k hlt
       have hlenT:x.2.length≤n+t.1.length:=by
        have:=PT.out.length_le
        rw [List.length_append] at this
        simp only [List.length_singleton] at this
        omega
       have hrt:x.1∈t.1:=PT.out.subset hroot.out
       have CALL:=Hd (fun W (uW:Up wr W)=>IH p.2.2.2[k] (D+1) (far+1) (lowK p low k) (highK p high k) t W ⟨by omega,by omega⟩ (Hd (by have:=hD.out;omega)) (RT.out.up uW) hlenT (.inr ⟨by omega,hrt⟩) (by omega))
       have HFk:=Hd (show F k t=walkB x n p.2.2.2[k] (far+1) (lowK p low k) (highK p high k) t by rw [HF.out k t,getD_at hlt])
       generalize walkB x n p.2.2.2[k] (far+1) (lowK p low k) (highK p high k) t=rk at CALL HFk
       clear hlenT hrt
       by_cases hk0:k=0
       ·subst hk0
        have e1:lowK p low 0=low:=if_neg (by omega)
        rw [e1] at CALL
        clear e1
        have hc':wr.cell? ⟨ga,oa,none⟩=some (.int .i64 p.2.2.2[0]):=by simpa using hc
        clear hc
        have h00:0<p.2.1.length:=by have:=hkid.out.2.2;omega
        have e2:highK p high 0=p.2.1[0]:=by unfold highK;rw [if_pos h00,getD_at h00]
        rw [e2] at CALL
        clear e2
        obtain ⟨gk,ok,rfl,_,_,hck,_⟩:=q1r.at_S h00
        have hck':wr.cell? ⟨gk,ok,none⟩=some (.string p.2.1[0]):=by simpa using hck
        clear hck
        have h00i:(0:Int)<(p.2.1.length:Int):=by omega
        have h00j:(0:Int)<(p.2.2.2.length:Int):=by omega
        go_wp2_with fail
        go_quiet (fail)
        go_wp2_with fail
        cases rk with
        | none =>
         refine (CALL.out _ ((Up.refl wr).drewN nq)).mono ?_
         rintro e w5 h5
         obtain ⟨rfl,on5⟩:=h5.no
         have HR:=Hd (show r=none by rw [HW3.out];exact kidsTo_none (k:=0+1) ((kidsTo_succ HK.out).trans HFk.out) (by omega))
         go_wp2_with fail
         go_ret
         exact WalkE.mk (Hd (by rw [HR.out];rfl)) ((OW.out.up ((Up.refl wr).drewN nq)).trans on5) (fun t ht=>by rw [HR.out] at ht;cases ht)
        | some t' =>
         refine (CALL.out _ ((Up.refl wr).drewN nq)).mono ?_
         rintro e w5 h5
         obtain ⟨rfl,on5,R5,P5⟩:=h5.yes
         have HN:=Hd ((kidsTo_succ HK.out).trans HFk.out)
         go_wp2_with fail
         go_roundw
         case rel=>exact ⟨0+1,t',by omega,by go_num,HN,Hd R5,Hd (PT.out.trans P5),Hd ((OW.out.up ((Up.refl wr).drewN nq)).trans on5),Hd ((O4.out.up ((Up.refl wr).drewN nq)).trans on5)⟩
         case measure=>simp [intOf];omega
       ·obtain ⟨m,rfl⟩:∃m,k=m+1:=⟨k-1,by omega⟩
        have hm:m<p.2.1.length:=by omega
        have e1:lowK p low (m+1)=p.2.1[m]:=by unfold lowK;rw [if_pos (by omega),Nat.add_sub_cancel,getD_at hm]
        rw [e1] at CALL
        clear e1
        obtain ⟨gk,ok,rfl,_,_,hck,_⟩:=q1r.at_S hm
        have hi0:(0:Int)≤(m:Int)+1:=by omega
        have hi2':(0:Int)<(m:Int)+1:=by omega
        have hi1':(m:Int)+1<(p.2.2.2.length:Int):=by omega
        have hwm:IntKind.i64.wrap (m:Int)=(m:Int):=IntWalk.i64_in _ (by omega)
        have hm0:(0:Int)≤(m:Int):=by omega
        have hm1:(m:Int)<(p.2.1.length:Int):=by omega
        by_cases hkl:m+1<p.2.1.length
        ·have e2:highK p high (m+1)=p.2.1[m+1]:=by unfold highK;rw [if_pos hkl,getD_at hkl]
         rw [e2] at CALL
         clear e2
         obtain ⟨gk',ok',hgo,_,_,hck2,_⟩:=q1r.at_S hkl
         injection hgo with hgo
         injection hgo with hg' ho' _
         subst hg' ho'
         have hkli:(m:Int)+1<(p.2.1.length:Int):=by omega
         go_wp2_with fail
         go_quiet (fail)
         go_wp2_with fail
         cases rk with
         | none =>
          refine (CALL.out _ ((Up.refl wr).drewN nq)).mono ?_
          rintro e w5 h5
          obtain ⟨rfl,on5⟩:=h5.no
          have HR:=Hd (show r=none by rw [HW3.out];exact kidsTo_none (k:=(m+1)+1) ((kidsTo_succ HK.out).trans HFk.out) (by omega))
          go_wp2_with fail
          go_ret
          exact WalkE.mk (Hd (by rw [HR.out];rfl)) ((OW.out.up ((Up.refl wr).drewN nq)).trans on5) (fun t ht=>by rw [HR.out] at ht;cases ht)
         | some t' =>
          refine (CALL.out _ ((Up.refl wr).drewN nq)).mono ?_
          rintro e w5 h5
          obtain ⟨rfl,on5,R5,P5⟩:=h5.yes
          have HN:=Hd ((kidsTo_succ HK.out).trans HFk.out)
          go_wp2_with fail
          go_roundw
          case rel=>exact ⟨(m+1)+1,t',by omega,by go_num,HN,Hd R5,Hd (PT.out.trans P5),Hd ((OW.out.up ((Up.refl wr).drewN nq)).trans on5),Hd ((O4.out.up ((Up.refl wr).drewN nq)).trans on5)⟩
          case measure=>simp [intOf];omega
        ·have e2:highK p high (m+1)=high:=if_neg hkl
         rw [e2] at CALL
         clear e2
         have hkli:¬(m:Int)+1<(p.2.1.length:Int):=by omega
         go_wp2_with fail
         go_quiet (fail)
         go_wp2_with fail
         cases rk with
         | none =>
          refine (CALL.out _ ((Up.refl wr).drewN nq)).mono ?_
          rintro e w5 h5
          obtain ⟨rfl,on5⟩:=h5.no
          have HR:=Hd (show r=none by rw [HW3.out];exact kidsTo_none (k:=(m+1)+1) ((kidsTo_succ HK.out).trans HFk.out) (by omega))
          go_wp2_with fail
          go_ret
          exact WalkE.mk (Hd (by rw [HR.out];rfl)) ((OW.out.up ((Up.refl wr).drewN nq)).trans on5) (fun t ht=>by rw [HR.out] at ht;cases ht)
         | some t' =>
          refine (CALL.out _ ((Up.refl wr).drewN nq)).mono ?_
          rintro e w5 h5
          obtain ⟨rfl,on5,R5,P5⟩:=h5.yes
          have HN:=Hd ((kidsTo_succ HK.out).trans HFk.out)
          go_wp2_with fail
          go_roundw
          case rel=>exact ⟨(m+1)+1,t',by omega,by go_num,HN,Hd R5,Hd (PT.out.trans P5),Hd ((OW.out.up ((Up.refl wr).drewN nq)).trans on5),Hd ((O4.out.up ((Up.refl wr).drewN nq)).trans on5)⟩
          case measure=>simp [intOf];omega
      ·obtain rfl:k=p.2.2.2.length:=by omega
       have HR:=Hd (show r=some t by rw [HW3.out,HK.out])
       have hend:¬(p.2.2.2.length:Int)<(p.2.2.2.length:Int):=by omega
       go_wp2_with fail
       go_ret
       exact WalkE.mk (Hd (by rw [HR.out];rfl)) OW.out (fun t' ht=>by rw [HR.out] at ht;cases ht;exact ⟨RT.out,(List.prefix_append _ _).trans PT.out⟩)
  ·have HW2:=Hd (show r=(if far≠1∧p.2.1.length<3 then none else leafW id far s) by
    rw [HW1.out,if_pos (show p.1=true from hl)]
    unfold fillOf
    rw [if_pos (show p.1=true from hl)])
   clear HW1
   rw [hl] at g0
   clear hl
   by_cases hff:far≠1∧p.2.1.length<3
   ·have hi0:¬id=x.1:=hneN.out hff.1
    have hi1:(id==x.1)=false:=beq_eq_false_iff_ne.2 hi0
    have hi2:(id != x.1)=true:=by rw [bne,hi1];rfl
    have hi3:(p.2.1.length:Int)<3:=by omega
    have HR:=Hd (show r=none by rw [HW2.out,if_pos hff])
    clear HW2 hff
    go_wp2_with fail
    go_ret
    exact WalkE.mk (Hd (by rw [HR.out];rfl)) o4.out (fun t ht=>by rw [HR.out] at ht;cases ht)
   ·have HW3:=Hd (show r=leafW id far s by rw [HW2.out,if_neg hff])
    clear HW2
    have hor:(far=1)∨(far≠1∧¬p.2.1.length<3):=by
     by_cases e:far=1
     ·exact .inl e
     ·exact .inr ⟨e,fun h=>hff ⟨e,h⟩⟩
    clear hff
    have fw2:=R4.out.kw.frozen 2
    cases hd:s.2 with
    | none =>
     have gw2:w4.cell? ⟨wb,2,none⟩=some (.int .i64 (-1)):=by have:=R4.out.kw.cell 2;rw [show (s.1++[id],s.2).2=none from hd] at this;exact this
     have HR:=Hd (show r=some (s.1++[id],some far) by rw [HW3.out];unfold leafW;rw [hd])
     have RE:=Hd (R4.out.depth hD hfp)
     have bE:=But.set w4 wb 2 (.int .i64 D)
     have oE:=Hd (o4.out.but bE (by simp))
     clear HW3 bE hd
     rcases hor with hor | ⟨hor,hor2⟩
     ·have hi0:=heqN.out hor
      have hi1:(id==x.1)=true:=beq_iff_eq.2 hi0
      have hi2:(id != x.1)=false:=by rw [bne,hi1];rfl
      clear hi0 hor
      go_wp2_with fail
      go_ret
      exact WalkE.mk (Hd (by rw [HR.out];simp)) oE.out (fun t ht=>by rw [HR.out] at ht;cases ht;exact ⟨RE.out,List.prefix_append _ _⟩)
     ·have hi0:¬id=x.1:=hneN.out hor
      have hi1:(id==x.1)=false:=beq_eq_false_iff_ne.2 hi0
      have hi2:(id != x.1)=true:=by rw [bne,hi1];rfl
      have hi3:¬(p.2.1.length:Int)<3:=by omega
      clear hor hor2
      go_wp2_with fail
      go_ret
      exact WalkE.mk (Hd (by rw [HR.out];simp)) oE.out (fun t ht=>by rw [HR.out] at ht;cases ht;exact ⟨RE.out,List.prefix_append _ _⟩)
    | some d =>
     obtain ⟨d',hd'⟩:∃d':Int,d'=(d:Int)-1:=⟨_,rfl⟩
     have gw2:w4.cell? ⟨wb,2,none⟩=some (.int .i64 d'):=by have:=R4.out.kw.cell 2;rw [show (s.1++[id],s.2).2=some d from hd] at this;rw [hd'];exact this
     have hd1:1≤d:=R4.out.dk d hd
     have hd0:¬d'<0:=by omega
     have HL:=Hd (show r=(if d=far then some (s.1++[id],some d) else none) by rw [HW3.out];unfold leafW;rw [hd])
     have RE:Hid (WalkR w4 lo hi tb sb wb x (s.1++[id],some d)):=Hd (by have:=R4.out;rw [hd] at this;exact this)
     have heqd:(d'==D)=decide (d=far):=by
      rw [Bool.eq_iff_iff,beq_iff_eq,decide_eq_true_eq,hd',hD.out]
      omega
     clear HW3 hd hd'
     by_cases hdf:d=far
     ·rw [decide_eq_true hdf] at heqd
      have heqd':d'=D:=by simpa using heqd
      have HR:=Hd (show r=some (s.1++[id],some d) by rw [HL.out,if_pos hdf])
      subst heqd'
      clear HL hdf heqd
      rcases hor with hor | ⟨hor,hor2⟩
      ·have hi0:=heqN.out hor
       have hi1:(id==x.1)=true:=beq_iff_eq.2 hi0
       have hi2:(id != x.1)=false:=by rw [bne,hi1];rfl
       clear hi0 hor
       go_wp2_with fail
       go_ret
       exact WalkE.mk (Hd (by rw [HR.out];simp)) o4.out (fun t ht=>by rw [HR.out] at ht;cases ht;exact ⟨RE.out,List.prefix_append _ _⟩)
      ·have hi0:¬id=x.1:=hneN.out hor
       have hi1:(id==x.1)=false:=beq_eq_false_iff_ne.2 hi0
       have hi2:(id != x.1)=true:=by rw [bne,hi1];rfl
       have hi3:¬(p.2.1.length:Int)<3:=by omega
       clear hor hor2
       go_wp2_with fail
       go_ret
       exact WalkE.mk (Hd (by rw [HR.out];simp)) o4.out (fun t ht=>by rw [HR.out] at ht;cases ht;exact ⟨RE.out,List.prefix_append _ _⟩)
     ·rw [decide_eq_false hdf] at heqd
      have HR:=Hd (show r=none by rw [HL.out,if_neg hdf])
      clear HL hdf
      rcases hor with hor | ⟨hor,hor2⟩
      ·have hi0:=heqN.out hor
       have hi1:(id==x.1)=true:=beq_iff_eq.2 hi0
       have hi2:(id != x.1)=false:=by rw [bne,hi1];rfl
       clear hi0 hor
       go_wp2_with fail
       go_ret
       exact WalkE.mk (Hd (by rw [HR.out];simp [heqd])) o4.out (fun t ht=>by rw [HR.out] at ht;cases ht)
      ·have hi0:¬id=x.1:=hneN.out hor
       have hi1:(id==x.1)=false:=beq_eq_false_iff_ne.2 hi0
       have hi2:(id != x.1)=true:=by rw [bne,hi1];rfl
       have hi3:¬(p.2.1.length:Int)<3:=by omega
       clear hor hor2
       go_wp2_with fail
       go_ret
       exact WalkE.mk (Hd (by rw [HR.out];simp [heqd])) o4.out (fun t ht=>by rw [HR.out] at ht;cases ht)
 ·have HR:=Hd (show r=none by rw [HW.out,if_pos hb])
  clear HW hb
  go_wp2_with fail
  go_ret
  exact WalkE.mk (Hd (by rw [HR.out];rfl)) o4.out (fun t ht=>by rw [HR.out] at ht;cases ht)
end Go.Proofs.YtojmcmghmnfjeaaGreatDoor
