/-
 Parts of the proof.
-/
import Derived.Test.YtojmcmghmnfjeaaGreatDoorM1Byg
set_option maxHeartbeats 16000000
set_option maxRecDepth 100000
namespace Go.Proofs.YtojmcmghmnfjeaaGreatDoor
open Go.RowKit
set_option linter.unusedVariables false
set_option linter.unusedSimpArgs false
def stepsOf (l:List (Int×Nat)):List TSeat:=l.map (fun s=>(s.1,(s.2:Int)))
def lenV:Value→Nat
 | .slice _ n _=>n
 | _=>0
def WayP (x:TBtree) (key:ByteArray) (w:World) (e:Ending) (w':World):Prop :=
 ∃D d bl,e=.returned (.tuple #[.slice D (wayB x key 64 x.1).1.length d,.bool (wayB x key 64 x.1).2])∧SO shSeat w' w.heap.size w'.heap.size D d (stepsOf (wayB x key 64 x.1).1) bl∧Up w w'
theorem getD_inW {α:Type} {l:List α} {k:Nat} (h:k<l.length) (d:α):l.getD k d=l[k]:=by simp [List.getD,List.getElem?_eq_getElem h]
theorem kid_rng {p:TPage} (h:pageB p=true) (hl:p.1=false) (k:Nat) (hk:k<p.2.2.2.length):I64 p.2.2.2[k]:=by
 have:=(kid_of_pageD h hl).2.1 k hk
 exact ⟨by omega,by omega⟩
theorem keys_le6 {p:TPage} (h:pageB p=true):p.2.1.length≤6:=by
 cases hl:p.1
 ·have:=fork_lens h hl
  have:=(kid_of_pageD h hl).1
  omega
 ·unfold pageB at h
  simp only [Bool.and_eq_true] at h
  have h2:=h.2
  rw [if_pos hl] at h2
  simp only [leafB,Bool.and_eq_true,decide_eq_true_eq] at h2
  exact h2.1.1.1
theorem cinfo_Step:(Tryz.prog.info? 73).map (fun i=>(i.zero,i.size,i.bytes))=some (some (.agg #[.int .i64 0,.int .i64 0]),2,16):=by kernel_rfl
theorem c_l16Way (v:Value) (y:TBtree) (key:ByteArray) (w:World) (h:AV shBtree w v y) (hs:SlotsP y.2) (hst:Stands y 64 y.1):Calls Tryz.prog 14 #[v,.string key] w (WayP y key w):=by
 obtain ⟨cs,rfl,h⟩:=h
 obtain ⟨r,x⟩:=y
 have ho:=openBtree h
 dsimp only at ho hs hst
 obtain ⟨A0,c0,rfl,br,b00⟩:=ho
 clear h
 obtain ⟨i0,hi0,hz0,hz1,hz2⟩:=info_parts cinfo_Step
 have HT:=Hd (way_len (key:=key) hs hst)
 obtain ⟨T,hTe⟩:∃T,T=(wayB (r,x) key 64 r).1.length:=⟨_,rfl⟩
 have HTE:=Hd hTe
 have hT64:T≤64:=by have:=HT.out.2;omega
 clear hTe
 have kb:=Bk.new w 28 #[.int .i64 r,.slice A0 x.length c0]
 have uu0:Up w (w.alloc (.cells #[.int .i64 r,.slice A0 x.length c0] 28)):=(Up.refl _).alloc _
 have gb0:(w.alloc (.cells #[.int .i64 r,.slice A0 x.length c0] 28)).cell? ⟨w.heap.size,0,none⟩=some (.int .i64 r):=kb.cell 0
 have hsN:=Hd hs
 have hstN:=Hd hst
 clear hs hst
 go_enter Tryz.func14,Tryz.ntmps14
 go_wp2_with fail
 have uu:Up w ((w.alloc (.cells #[.int .i64 r,.slice A0 x.length c0] 28)).alloc (.cells #[] 73)):=uu0.alloc _
 have kT:=kb.alloc (.cells #[] 73)
 clear kb uu0 gb0
 generalize ((w.alloc (.cells #[.int .i64 r,.slice A0 x.length c0] 28)).alloc (.cells #[] 73))=W0 at uu kT ⊢
 go_loopw [6,7] (fun s6 s7 wr=>∃(n:Nat) (id:Int) (l:List TSeat) (D:Option Addr) (d:Nat) (bl:List Nat),s6=.slice D l.length d∧s7=.int .i64 id∧I64 id∧SO shSeat wr (w.heap.size+1) wr.heap.size D d l bl∧bl.Nodup∧Hid (Stands (r,x) n id)∧n≤64∧Hid (l++stepsOf (wayB (r,x) key n id).1=stepsOf (wayB (r,x) key 64 r).1)∧Hid ((wayB (r,x) key n id).2=(wayB (r,x) key 64 r).2)∧Up w wr∧Bk wr w.heap.size 28 #[.int .i64 r,.slice A0 x.length c0]) (fun s6 _ _=>T-lenV s6)
 case atStart=>exact ⟨64,r,[],_,0,[],rfl,rfl,br,⟨Nat.le_refl _,Nat.zero_le _,.inl ⟨rfl,rfl,rfl⟩⟩,List.nodup_nil,hstN,Nat.le_refl _,Hd rfl,Hd rfl,uu,kT⟩
 case round =>
  obtain ⟨n,id,l,D,d,bl,rfl,rfl,hid,so,nd,ST,hn,HL,HH,hu,kTr⟩:=hrel
  clear kT uu
  obtain ⟨n,rfl⟩:∃m,n=m+1:=by
   cases n with
   | zero=>exact ST.out.elim
   | succ m=>exact ⟨m,rfl⟩
  obtain ⟨p,hp,hkids⟩:=ST.out
  have hpb:=pgAt_ok (x:=(r,x)) hsN.out hp
  have hlT:l.length<T:=by
   have h1:=congrArg List.length HL.out
   rw [List.length_append] at h1
   have h2:=(way_len (key:=key) hsN.out ST.out).1
   unfold stepsOf at h1
   rw [List.length_map,List.length_map] at h1
   have:=HTE.out
   omega
  have HW:=Hd (show wayB (r,x) key (n+1) id=(if p.1=true then ([(id,(findB p key).1)],(findB p key).2) else ((id,(findB p key).1)::(wayB (r,x) key n (p.2.2.2.getD (findB p key).1 0)).1,(wayB (r,x) key n (p.2.2.2.getD (findB p key).1 0)).2)) by
   rw [wayB,hp])
  have av:shBtree.rep wr 0 w.heap.size [.int .i64 r,.slice A0 x.length c0] (r,x):=mkBtree (x:=(r,x)) br (SR.keep good_Slot b00 (hu.keeps (Nat.le_refl _)))
  have CP:=Hd (c_l16Page _ (r,x) id p wr w.heap.size hu.size av hsN.out hp)
  have HFL:=Hd (fun (hl:p.1=false)=>findB_lt hpb hl key)
  have HKI:=Hd (keyIdx_le p.2.1 key)
  have hpN:=Hd hp
  have hkN:=Hd hkids
  have hpbN:=Hd hpb
  clear av hp hkids hpb ST
  have gb0:wr.cell? ⟨w.heap.size,0,none⟩=some (.int .i64 r):=kTr.cell 0
  have gb1:wr.cell? ⟨w.heap.size,1,none⟩=some (.slice A0 x.length c0):=kTr.cell 1
  go_upto_region 3 with fail
  go_wp2_with fail
  refine CP.out.mono ?_
  rintro e w1 ⟨cs,rfl,hr,u1⟩
  obtain ⟨A1,c1,A2,c2,A3,c3,rfl,b1,b2,b3⟩:=openPage hr
  clear CP gb0 gb1 hr
  go_upto_region 4 with fail
  have kP:=Bk.new w1 58 #[.bool p.1,.slice A1 p.2.1.length c1,.slice A2 p.2.2.1.length c2,.slice A3 p.2.2.2.length c3]
  have uP:Up w1 (w1.alloc (.cells #[.bool p.1,.slice A1 p.2.1.length c1,.slice A2 p.2.2.1.length c2,.slice A3 p.2.2.2.length c3] 58)):=(Up.refl _).alloc _
  have zP:(w1.alloc (.cells #[.bool p.1,.slice A1 p.2.1.length c1,.slice A2 p.2.2.1.length c2,.slice A3 p.2.2.2.length c3] 58)).heap.size=w1.heap.size+1:=by simp
  generalize (w1.alloc (.cells #[.bool p.1,.slice A1 p.2.1.length c1,.slice A2 p.2.2.1.length c2,.slice A3 p.2.2.2.length c3] 58))=WP at kP uP zP ⊢
  have hWs:w.heap.size≤w1.heap.size:=Nat.le_trans hu.size u1.size
  have b3k:=SR.keep good_I b3 (uP.keeps hWs)
  have CF:=Hd (c_l15Find _ p key WP ⟨_,rfl,good_Page.wide (mkPage (x:=p) (SR.keep good_S b1 (uP.keeps hWs)) (SR.keep good_S b2 (uP.keeps hWs)) b3k) (Nat.le_refl _) (by omega)⟩)
  have gp0:WP.cell? ⟨w1.heap.size,0,none⟩=some (.bool p.1):=kP.cell 0
  have gp1:WP.cell? ⟨w1.heap.size,1,none⟩=some (.slice A1 p.2.1.length c1):=kP.cell 1
  have gp2:WP.cell? ⟨w1.heap.size,2,none⟩=some (.slice A2 p.2.2.1.length c2):=kP.cell 2
  have gp3:WP.cell? ⟨w1.heap.size,3,none⟩=some (.slice A3 p.2.2.2.length c3):=kP.cell 3
  have z1:=u1.size
  generalize hfa:(findB p key).1=a at CF HW HFL
  generalize hfb:(findB p key).2=b at CF HW
  have ha64:(a:Int)≤9223372036854775807:=by
   have hk:=HKI.out
   have h6:=keys_le6 hpbN.out
   have:a≤keyIdx p.2.1 key+1:=by rw [←hfa];unfold findB;dsimp only;split <;> omega
   omega
  clear hfa hfb b1 b2 b3
  go_wp2_with fail
  refine CF.out.mono ?_
  rintro e w2 ⟨rfl,u2⟩
  have U2:=(u1.trans uP).trans u2
  have kq:=Bk.new w2 73 #[.int .i64 id,.int .i64 (a:Int)]
  have uq:=(Up.refl w2).alloc (.cells #[.int .i64 id,.int .i64 (a:Int)] 73)
  have ho:shSeat.own (w2.alloc (.cells #[.int .i64 id,.int .i64 (a:Int)] 73)) (w.heap.size+1) (w2.alloc (.cells #[.int .i64 id,.int .i64 (a:Int)] 73)).heap.size [.int .i64 id,.int .i64 (a:Int)] (id,(a:Int)) []:=mkOSeat (x:=(id,(a:Int))) hid ⟨by omega,ha64⟩
  have hx1:(l.length+1)*i0.bytes≤140737488355328:=by rw [hz2];omega
  have hx2:l.length+1≤maxLen:=by unfold maxLen;omega
  have kP2:=kP.up u2
  have hzW:=hu.size
  have hzT:=kTr.lt
  have hz2':=U2.size
  have hzq:(w2.alloc (.cells #[.int .i64 id,.int .i64 (a:Int)] 73)).heap.size=w2.heap.size+1:=by simp
  clear gp0 gp1 gp2 gp3 CF
  go_upto_region 6 with (first
   | (at_builtin
      refine wpList_app good_Seat rfl _ _ _ _ 73 rfl i0 _ Tryz.underlying38 hi0 hz0 hz1 (by rfl) (lo:=w.heap.size+1) (xs:=l) (ys:=[(id,(a:Int))]) (bl:=bl) (bs:=[[]]) (news:=[.int .i64 id,.int .i64 (a:Int)]) rfl rfl (so.up good_Seat (U2.trans uq)) (by simpa using nd) (Src.box (t:=73) Tryz.underlying38 kq (by simp [Value.oneCell']) (by rw [hz1];rfl)) (Rowed.one good_Seat ho) (by omega) hx1 hx2 ?_
      intro D9 d9 bl9 w9 hap
      obtain ⟨so9,nd9,mem9,on9⟩:=hap))
  have hin:=fun y (hy:y∈bl)=>(so.in_ good_Seat y hy)
  have kP9:=(kP2.up uq).only on9 (fun hm=>by have:=(hin _ hm).2;omega)
  have U9:Up w w9:=((hu.trans U2).trans uq).only on9 (fun y hy=>by have:=(hin y hy).1;omega)
  have kT9:=((kTr.up U2).up uq).only on9 (fun hm=>by have:=(hin _ hm).1;omega)
  have gp0:w9.cell? ⟨w1.heap.size,0,none⟩=some (.bool p.1):=kP9.cell 0
  have gp3:w9.cell? ⟨w1.heap.size,3,none⟩=some (.slice A3 p.2.2.2.length c3):=kP9.cell 3
  have hal:(l++[(id,(a:Int))]).length=l.length+1:=by simp
  have halN:=Hd hal
  clear hal
  cases hl:p.1
  ·rw [hl] at gp0
   have hak:=HFL.out hl
   have HL2:=Hd (show (l++[(id,(a:Int))])++stepsOf (wayB (r,x) key n (p.2.2.2.getD a 0)).1=stepsOf (wayB (r,x) key 64 r).1 by
    rw [←HL.out,HW.out,if_neg (by rw [hl];decide)]
    simp [stepsOf])
   have HH2:=Hd (show (wayB (r,x) key n (p.2.2.2.getD a 0)).2=(wayB (r,x) key 64 r).2 by
    rw [←HH.out,HW.out,if_neg (by rw [hl];decide)])
   have ST2:=Hd (hkN.out hl a hak)
   rw [getD_inW hak 0] at HL2 HH2 ST2
   have hI:=kid_rng hpbN.out hl a hak
   clear HL HH HW HFL hl
   have kp9:Keeps 0 w.heap.size WP w9:=fun y _ h2=>(on9.block y (by have:=u2.size;omega) (fun hm=>by have:=(hin _ hm).1;omega)).trans ((u2.trans uq).block y (by omega))
   have b9:=SR.keep good_I b3k kp9
   obtain ⟨gk,ok,rfl,_,_,hck,_⟩:=b9.at_I hak
   have haki:(a:Int)<(p.2.2.2.length:Int):=by omega
   have ha0:(0:Int)≤(a:Int):=by omega
   go_wp2_with fail
   go_roundw
   case rel=>exact ⟨n,p.2.2.2[a],l++[(id,(a:Int))],D9,d9,bl9,by rw [halN.out],rfl,hI,so9,nd9,ST2,by omega,HL2,HH2,U9,kT9⟩
   case measure=>simp [lenV];omega
  ·rw [hl] at gp0
   have HE1:=Hd (show (l++[(id,(a:Int))])=stepsOf (wayB (r,x) key 64 r).1 by
    rw [←HL.out,HW.out,if_pos hl]
    rfl)
   have HE2:=Hd (show b=(wayB (r,x) key 64 r).2 by rw [←HH.out,HW.out,if_pos hl])
   have HE3:=Hd (show l.length+1=(wayB (r,x) key 64 r).1.length by
    have:=congrArg List.length HE1.out
    unfold stepsOf at this
    rw [List.length_map,halN.out] at this
    exact this)
   clear HL HH HW HFL hl
   go_wp2_with fail
   refine bodyPost_ret (v:=.tuple #[.slice D9 (l.length+1) d9,.bool b]) (by simp [results,Tryz.results14,go_sem]) rfl ?_
   refine ⟨D9,d9,bl9,by rw [HE2.out,HE3.out],?_,U9⟩
   rw [←HE1.out]
   exact so9.wide good_Seat (by omega) (Nat.le_refl _)
theorem zero_pagepW (w:World):(zeroValue 90).run Tryz.prog w=.ok (.pointer none) w:=by kernel_rfl
theorem PMap.drewN {P:Program} {k:TypeId} {w:World} {b n:Nat} {f:Int→Option Nat} (h:PMap P k w b n f) (m:Nat):PMap P k (w.drewN m) b n f:=h
end Go.Proofs.YtojmcmghmnfjeaaGreatDoor
namespace Go.Proofs.YtojmcmghmnfjeaaGreatDoor
open Go.RowKit
set_option linter.unusedSimpArgs false
end Go.Proofs.YtojmcmghmnfjeaaGreatDoor
namespace Go.Proofs.YtojmcmghmnfjeaaGreatDoor
open Go.RowKit
set_option linter.unusedVariables false
set_option linter.unusedSimpArgs false
end Go.Proofs.YtojmcmghmnfjeaaGreatDoor
namespace Go.Proofs.YtojmcmghmnfjeaaGreatDoor
theorem bytes_beq (a b:ByteArray):(a==b)=(a.data==b.data):=rfl
instance lawfulBytes:LawfulBEq ByteArray where
 eq_of_beq {a b} h:=by rw [bytes_beq] at h;exact ByteArray.ext (eq_of_beq h)
 rfl {a}:=by rw [bytes_beq];exact beq_self_eq_true _
end Go.Proofs.YtojmcmghmnfjeaaGreatDoor
namespace Go.Proofs.YtojmcmghmnfjeaaGreatDoor
open Go.RowKit
set_option linter.unusedVariables false
set_option linter.unusedSimpArgs false
theorem flat_nilU (n:Nat):(List.replicate n ([]:List Nat)).flatten=[]:=by induction n <;> simp_all [List.replicate_succ]
end Go.Proofs.YtojmcmghmnfjeaaGreatDoor
