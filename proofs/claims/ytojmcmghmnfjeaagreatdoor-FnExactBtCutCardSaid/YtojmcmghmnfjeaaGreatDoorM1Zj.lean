/-
 Parts of the proof.
-/
import Derived.Test.YtojmcmghmnfjeaaGreatDoorM1Zl
set_option maxHeartbeats 32000000
set_option maxRecDepth 100000
namespace Go.Proofs.YtojmcmghmnfjeaaGreatDoor
open Go Go.RowKit
set_option linter.unusedVariables false
set_option linter.unusedSimpArgs false
theorem c_refillD {w:World} {lo tb pb:Nat} {root:Int} {m:PgM} {f:Int→Nat} {B:Int→List Nat} {above:Int} {k:Nat} {up x y:TPage} (PO:PagesO w lo tb pb root m f B) (hlo:lo≤w.heap.size) (R:Refills m above k up x y) (HC0:¬(0<k∧3<fillOf x)∧¬(k=0∧3<fillOf y)) :
 Calls Tryz.prog 86 #[.pointer (some ⟨tb,0,none⟩),.pointer (some ⟨f above,0,none⟩),.int .i64 (k:Int)] w (fun e w'=>e=.returned (.tuple #[])∧(∃B',PagesO w' lo tb pb root (refillP m above k up x y) f B')∧Below lo w w'):=by
 have hlo0:=hlo
 have HC:=Hd HC0
 clear HC0
 obtain ⟨i0,hi0,hz0,hz1,hz2⟩:=info_parts cinfo_StrZ
 obtain ⟨j0,hj0,hq0,hq1,hq2⟩:=info_parts cinfo_IntZ
 obtain ⟨hidU,fu⟩:=R.fine _ _ R.hup
 obtain ⟨hidX,fx⟩:=R.fine _ _ R.hx
 obtain ⟨hidY,fy⟩:=R.fine _ _ R.hy
 have hkl:=R.keyAt
 have htwo:=R.two
 have hat:=R.at_
 have hux:=R.hup
 have hmx:=R.hx
 have hmy:=R.hy
 have hn1:=R.ne1
 have hn2:=R.ne2
 have hn3:=R.ne3
 have hsm:=R.same
 have hpo:=R.poor
 have hso:=R.some
 have hfk:=R.fork
 obtain ⟨lu1,lu2,lu3⟩:=fine_lens fu
 obtain ⟨a,ha⟩:∃a,a=k-1:=⟨_,rfl⟩
 obtain ⟨b,hb⟩:∃b,b=k-1+1:=⟨_,rfl⟩
 obtain ⟨i,hi⟩:∃i,i=up.2.2.2.getD (k-1) 0:=⟨_,rfl⟩
 obtain ⟨j,hj⟩:∃j,j=up.2.2.2.getD (k-1+1) 0:=⟨_,rfl⟩
 obtain ⟨key,hkey⟩:∃key,key=up.2.1.getD (k-1) ⟨#[]⟩:=⟨_,rfl⟩
 have HR0:refillP m above k up x y=(if 0<k∧3<fillOf x then
  setM (setM (setM m j (some (moveR x y key).2.1)) i (some (moveR x y key).1)) above (some (up.1,up.2.1.set a (moveR x y key).2.2,up.2.2.1,up.2.2.2))
  else if k=0∧3<fillOf y then
   setM (setM (setM m j (some (moveL x y key).2.1)) i (some (moveL x y key).1)) above (some (up.1,up.2.1.set a (moveL x y key).2.2,up.2.2.1,up.2.2.2))
  else
   setM (setM (setM m j none) i (some (joinP x y key))) above (some (up.1,remAt up.2.1 a,up.2.2.1,remAt up.2.2.2 b))):=by
  rw [ha,hb,hi,hj,hkey]
  rfl
 obtain ⟨RF,hRF⟩:∃RF,RF=refillP m above k up x y:=⟨_,rfl⟩
 rw [←hRF] at HR0 ⊢
 clear hRF
 have HRF:=Hd HR0
 clear HR0
 rw [←hi] at hidX hmx hn1 hn2
 rw [←hj] at hidY hmy hn1 hn3
 rw [←ha] at hkl
 rw [←hb] at htwo
 have hal:a<up.2.2.2.length:=by omega
 have ei:up.2.2.2[a]=i:=by rw [hi,←ha,getD_inW hal]
 have ej:up.2.2.2[b]=j:=by rw [hj,←hb,getD_inW htwo]
 have ek:up.2.1[a]=key:=by rw [hkey,←ha,getD_inW hkl]
 obtain ⟨kk,hkk⟩:∃kk,kk=up.2.2.2[k]:=⟨_,rfl⟩
 have HK0:k=0→kk=i:=fun h=>by subst h;rw [hkk,←ei];simp only [ha]
 have HKP:0<k→kk=j:=fun h=>by
  have e:k=b:=by omega
  rw [hkk,←ej]
  simp only [e]
 have hkks:∃q,m kk=some q:=by
  rcases Nat.eq_zero_or_pos k with h | h
  ·exact ⟨x,by rw [HK0 h];exact hmx⟩
  ·exact ⟨y,by rw [HKP h];exact hmy⟩
 have hidK:1≤kk∧kk≤64:=by
  rcases Nat.eq_zero_or_pos k with h | h
  ·rw [HK0 h];exact hidX
  ·rw [HKP h];exact hidY
 have hkm:key.size≤maxLen:=by
  rw [←ek]
  exact Nat.le_trans (fu.keys _ (List.getElem_mem hkl)) (by unfold maxLen;omega)
 have hmr:=fun h:3<fillOf x=>fun h':0<k=>(moveR_fine (key:=key) fx fy hsm h (hpo.2 h') (by rw [←ek];exact fu.keys _ (List.getElem_mem hkl))).2.2
 have hml:=fun h:3<fillOf y=>fun h':k=0=>(moveL_fine (key:=key) fx fy hsm h (hpo.1 h') (by rw [←ek];exact fu.keys _ (List.getElem_mem hkl))).2.2
 have HAB:=Hd (And.intro ha hb)
 have hki:(k:Int)<(up.2.2.2.length:Int):=by omega
 have hk0:(0:Int)≤(k:Int):=by omega
 have hali:(a:Int)<(up.2.2.2.length:Int):=by omega
 have hbli:(b:Int)<(up.2.2.2.length:Int):=by omega
 have hkli:(a:Int)<(up.2.1.length:Int):=by omega
 have ha0:(0:Int)≤(a:Int):=by omega
 have hb0:(0:Int)≤(b:Int):=by omega
 have hw1:IntKind.i64.wrap ((k:Int)-1)=(k:Int)-1:=by rw [IntWalk.i64_in _ (by omega)]
 have hwm:max 0 ((k:Int)-1)=(a:Int):=by omega
 have hw2:IntKind.i64.wrap ((a:Int)+1)=(b:Int):=by rw [IntWalk.i64_in _ (by omega)];omega
 have hw3:IntKind.i64.wrap ((a:Int)+2)=(b:Int)+1:=by rw [IntWalk.i64_in _ (by omega)];omega
 have HE:=Hd (And.intro ei (And.intro ej ek))
 have HKK:=Hd hkk.symm
 have HPO0:=Hd hpo
 have HSO:=Hd hso
 have hkn:∀n:Nat,k<100:=fun _=>by omega
 clear hi hj hkey ei ej ek hkk R ha hb hpo hkn
 have hlk:∀n,(Instr.lookup 87 (.map (some pb)) (.int .i64 kk) false).run Tryz.prog (w.drewN n)=.ok (.pointer (some ⟨f kk,0,none⟩)) (w.drewN n):=fun n=>by
  obtain ⟨q,hq⟩:=hkks
  obtain ⟨_,hm,he⟩:=(PO.up ((Up.refl w).drewN n)).ptr hq
  rw [←he]
  exact hm.look (t:=87) (e:=90) Tryz.underlying2 Tryz.underlying87 (zero_pagepW _) (i:=kk) ⟨by omega,by omega⟩
 obtain ⟨U1,r1,u1_,U2,r2,u2_,U3,r3,u3_,pu,eBu⟩:=PO.pg above up hux
 obtain ⟨gk,ok,rfl,eu3,rk⟩:=pu.s3.addr1 one1_I (by omega)
 have gt1:w.cell? ⟨tb,1,none⟩=some (.map (some pb)):=PO.tab.cell 1
 have gu3:w.cell? ⟨f above,3,none⟩=some (.slice (some ⟨gk,ok,none⟩) up.2.2.2.length r3):=pu.box.cell 3
 have hck:w.cell? ⟨gk,ok+k,none⟩=some (.int .i64 kk):=by have h:=(rk.cell hat).1;rw [HKK.out] at h;exact h
 have POH:=Hd PO
 clear pu eu3 rk PO hkks eBu
 go_enter Tryz.func86,Tryz.ntmps86
 go_upto_region 0 with fail
 go_cut [6] (fun s wx=>s=.pointer (some ⟨f kk,0,none⟩)∧Up w wx)
 case first =>
  go_quiet (fail)
  go_wp2_with fail
  go_meet
  exact ⟨rfl,(Up.refl w).drewN _⟩
 clear gt1 gu3 hck hlk U1 r1 u1_ U2 r2 u2_ u3_ gk ok r3
 obtain ⟨rfl,hu⟩:=hcut
 have PO:=POH.out.up hu
 have HB:=Hd (show Below lo w wc from below_up hu hlo)
 replace hlo:lo≤wc.heap.size:=Nat.le_trans hlo hu.size
 clear POH hu
 obtain ⟨W1,hW1⟩:∃W1,W1=wc:=⟨_,rfl⟩
 rw [←hW1] at PO HB hlo ⊢
 clear hW1
 have hlki:∀n,(Instr.lookup 87 (.map (some pb)) (.int .i64 i) false).run Tryz.prog (W1.drewN n)=.ok (.pointer (some ⟨f i,0,none⟩)) (W1.drewN n):=fun n=>by
  obtain ⟨_,hm,he⟩:=(PO.up ((Up.refl W1).drewN n)).ptr hmx
  rw [←he]
  exact hm.look (t:=87) (e:=90) Tryz.underlying2 Tryz.underlying87 (zero_pagepW _) (i:=i) ⟨by omega,by omega⟩
 have hlkj:∀n,(Instr.lookup 87 (.map (some pb)) (.int .i64 j) false).run Tryz.prog (W1.drewN n)=.ok (.pointer (some ⟨f j,0,none⟩)) (W1.drewN n):=fun n=>by
  obtain ⟨_,hm,he⟩:=(PO.up ((Up.refl W1).drewN n)).ptr hmy
  rw [←he]
  exact hm.look (t:=87) (e:=90) Tryz.underlying2 Tryz.underlying87 (zero_pagepW _) (i:=j) ⟨by omega,by omega⟩
 obtain ⟨U1,r1,u1_,U2,r2,u2_,U3,r3,u3_,pu,eBu⟩:=PO.pg above up hux
 obtain ⟨gk,ok,rfl,eu3,rk⟩:=pu.s3.addr1 one1_I (by omega)
 have gt1:W1.cell? ⟨tb,1,none⟩=some (.map (some pb)):=PO.tab.cell 1
 have gu3:W1.cell? ⟨f above,3,none⟩=some (.slice (some ⟨gk,ok,none⟩) up.2.2.2.length r3):=pu.box.cell 3
 have hca:W1.cell? ⟨gk,ok+a,none⟩=some (.int .i64 i):=by have h:=(rk.cell hal).1;rw [HE.out.1] at h;exact h
 have hcb:W1.cell? ⟨gk,ok+b,none⟩=some (.int .i64 j):=by have h:=(rk.cell htwo).1;rw [HE.out.2.1] at h;exact h
 have POH:=Hd PO
 clear pu eu3 rk PO eBu
 go_upto_region 2 with fail
 go_cut [8,9] (fun s t wx=>s=.pointer (some ⟨f i,0,none⟩)∧t=.pointer (some ⟨f j,0,none⟩)∧Up W1 wx)
 case first =>
  go_quiet (fail)
  go_wp2_with fail
  go_meet
  exact ⟨rfl,rfl,(Up.refl W1).drewN _⟩
 clear gt1 gu3 hca hcb hlki hlkj U1 r1 u1_ U2 r2 u2_ u3_ gk ok r3
 obtain ⟨rfl,rfl,hu⟩:=hcut
 have PO:=POH.out.up hu
 replace HB:=Hd (below_trans HB.out (below_up hu hlo))
 replace hlo:lo≤wc.heap.size:=Nat.le_trans hlo hu.size
 clear POH hu
 obtain ⟨W2,hW2⟩:∃W2,W2=wc:=⟨_,rfl⟩
 rw [←hW2] at PO HB hlo ⊢
 clear hW2
 obtain ⟨q1,hq1e⟩:∃q1:Bool,q1=(decide (0<k)&&richP x):=⟨_,rfl⟩
 obtain ⟨q2,hq2e⟩:∃q2:Bool,q2=(decide (k=0)&&richP y):=⟨_,rfl⟩
 have CX:=Hd (c_rich lo (f i) x (B i) W2 (PO.pg i x hmx))
 have CY:=Hd (c_rich lo (f j) y (B j) W2 (PO.pg j y hmy))
 go_upto_region 8 with fail
 go_cut [142] (fun s wx=>s=.bool q1∧W2=wx)
 case first =>
  rcases Nat.eq_zero_or_pos k with hz | hz
  ·have e1:q1=false:=by rw [hq1e,hz];rfl
   have hk1:¬((0:Int)<(k:Int)):=by omega
   have E1:=Hd e1
   clear hz HK0 HKP hmr hml hq1e hq2e e1
   go_wp2_with fail
   go_meet
   exact ⟨by rw [E1.out],rfl⟩
  ·have e1:q1=richP x:=by rw [hq1e,decide_eq_true hz];rfl
   have hk1:(0:Int)<(k:Int):=by omega
   have E1:=Hd e1
   clear hz HK0 HKP hmr hml hq1e hq2e e1
   go_wp2_with (go_at_call 115;(with_reducible refine CX.out.mono ?_);rintro e w7 ⟨rfl,rfl⟩)
   go_meet
   exact ⟨by rw [E1.out],rfl⟩
 obtain ⟨rfl,rfl⟩:=hcut
 cases q1
 ·go_upto_region 10 with fail
  go_cut [2,165] (fun s2 s wx=>s2=.int .i64 (k:Int)∧s=.bool q2∧W2=wx)
  case first =>
   rcases Nat.eq_zero_or_pos k with hz | hz
   ·have e1:q2=richP y:=by rw [hq2e,hz];rfl
    have hk1:(k:Int)=0:=by omega
    have hk2:decide ((k:Int)=0)=true:=by rw [hk1];rfl
    have E1:=Hd e1
    clear hz HK0 HKP hmr hml hq1e hq2e e1
    go_wp2_with (go_at_call 115;(with_reducible refine CY.out.mono ?_);rintro e w7 ⟨rfl,rfl⟩)
    go_meet
    exact ⟨by rw [hk1],by rw [E1.out],rfl⟩
   ·have e1:q2=false:=by rw [hq2e,decide_eq_false (by omega)];rfl
    have hk1:¬((k:Int)=0):=by omega
    have E1:=Hd e1
    clear hz HK0 HKP hmr hml hq1e hq2e e1
    go_wp2_with fail
    go_meet
    exact ⟨rfl,by rw [E1.out],rfl⟩
  obtain ⟨rfl,rfl,rfl⟩:=hcut
  cases q2
  ·have hc1:¬(0<k∧3<fillOf x):=fun h=>by
    rw [decide_eq_true h.1,show richP x=true from decide_eq_true h.2] at hq1e
    cases hq1e
   have hc2:¬(k=0∧3<fillOf y):=fun h=>by
    rw [decide_eq_true h.1,show richP y=true from decide_eq_true h.2] at hq2e
    cases hq2e
   rw [if_neg hc1,if_neg hc2] at HRF
   have hba:(a:Int)+1=(b:Int):=by have:=HAB.out;omega
   have HBA:=Hd hba
   clear hba hc1 hc2 hmr hml HK0 HKP hq1e hq2e CX CY HPO0 HSO
   obtain ⟨lx1,lx2,lx3⟩:=fine_lens fx
   obtain ⟨ly1,ly2,ly3⟩:=fine_lens fy
   obtain ⟨ks,hks⟩:∃ks,ks=(if x.1=true then x.2.1 else x.2.1++[key]):=⟨_,rfl⟩
   have hkl7:ks.length≤7:=by
    rw [hks]
    split
    ·omega
    ·rw [List.length_append];simp;omega
   obtain ⟨m1,hm1⟩:∃m1,m1=setM m i (some (x.1,ks,x.2.2.1,x.2.2.2)):=⟨_,rfl⟩
   obtain ⟨fl,hfl⟩:∃fl,fl=x.1:=⟨_,rfl⟩
   have gx0:W2.cell? ⟨f i,0,none⟩=some (.bool fl):=by
    obtain ⟨A1,c1,a1,A2,c2,a2,A3,c3,a3,px,_⟩:=PO.pg i x hmx
    rw [hfl]
    exact px.box.cell 0
   have HKS:=Hd hks
   have HM1:=Hd hm1
   have HFL:=Hd hfl
   clear hks hm1 hfl
   go_upto_if 54 with (fail)
   clear gx0
   go_cut [] (fun wx=>∃B1,PagesO wx lo tb pb root m1 f B1∧Below lo w wx)
   case first =>
    cases fl
    ·have e2:ks=x.2.1++[key]:=by rw [HKS.out,←HFL.out];rfl
     subst e2
     have PO1:=PO
     obtain ⟨U1,r1,u1_,U2,r2,u2_,U3,r3,u3_,pu,eBu⟩:=PO1.pg above up hux
     obtain ⟨A1,c1,a1,A2,c2,a2,A3,c3,a3,px,eBx⟩:=PO1.pg i x hmx
     obtain ⟨gq,oq,rfl,eu1,rq⟩:=pu.s1.addr1 one1_S (by omega)
     have hca:W2.cell? ⟨gq,oq+a,none⟩=some (.string key):=by have h:=(rq.cell hkl).1;rw [HE.out.2.2] at h;exact h
     have hS0:∀V,Up W2 V→(V.cell? ⟨f i,1,none⟩=some (.slice A1 x.2.1.length c1)∧V.cell? ⟨f above,1,none⟩=some (.slice (some ⟨gq,oq,none⟩) up.2.1.length r1)∧V.cell? ⟨gq,oq+a,none⟩=some (.string key)):=fun V u=>⟨(px.box.up u).cell 1,(pu.box.up u).cell 1,(u.cell (cell_lt hca)).trans hca⟩
     have hbn:=(List.nodup_cons.1 px.nd).1
     have nX:∀q∈a1,q≠f i∧q≠f above∧q≠gq:=fun q hq=>by
      have hq2:q∈B i:=by rw [eBx];simp [hq]
      exact ⟨fun e=>hbn (by rw [←e];simp [hq]),fun e=>PO1.ap i above x up hmx hux hn2 q hq2 (by rw [eBu,e];exact List.mem_cons_self ..),fun e=>PO1.ap i above x up hmx hux hn2 q hq2 (by rw [eBu,e,eu1];simp)⟩
     have SKH:=Hd hS0
     have PXH:=Hd (And.intro px (And.intro eBx nX))
     have POH:=Hd PO1
     clear hS0 hbn nX px eBx PO1 PO pu eBu eu1 rq hca
     go_upto_region 4 with fail
     refine wp_region_U (fun W=>W.cell? ⟨f i,1,none⟩=some (.slice A1 x.2.1.length c1)∧W.cell? ⟨f above,1,none⟩=some (.slice (some ⟨gq,oq,none⟩) up.2.1.length r1)∧W.cell? ⟨gq,oq+a,none⟩=some (.string key)) 14 (by kernel_rfl) ?_
     have hS:(fun W:World=>W.cell? ⟨f i,1,none⟩=some (.slice A1 x.2.1.length c1)∧W.cell? ⟨f above,1,none⟩=some (.slice (some ⟨gq,oq,none⟩) up.2.1.length r1)∧W.cell? ⟨gq,oq+a,none⟩=some (.string key)) W2.drew:=SKH.out _ (Up.refl W2).drew
     try simp only [Act.put,sI,sZ,sS]
     refine tP 0 rfl (fun _ _ _ h=>h) hS ?_
     refine tP 1 rfl (fun _ _ _ h=>h) hS ?_
     refine tP 2 rfl (fun _ _ _ h=>h) hS ?_
     refine tP 3 rfl (fun _ _ _ h=>h) hS ?_
     refine tL 4 rfl (fun _ _ _ h=>h) hS ?_
     refine tP 5 rfl (fun _ _ _ h=>h) hS ?_
     refine tP 6 rfl (fun _ _ _ h=>h) hS ?_
     refine tP 7 rfl (fun _ _ _ h=>h) hS ?_
     refine tL 8 rfl (fun _ _ _ h=>h) hS ?_
     refine tP 9 rfl (fun _ _ _ h=>h) hS ?_
     refine tP 10 rfl (fun _ _ _ h=>h) hS ?_
     refine tL 11 rfl (fun _ _ _ h=>h) hS ?_
     refine rU [12] ?_
     refine AllReadyU.cons rfl (fun K hK=>?_) AllReadyU.nil
     go_simp
     have uA:Up W2 (W2.drew.alloc (.cells #[.string key] 9)):=(Up.refl W2).drew.alloc _
     have kb:Bk (W2.drew.alloc (.cells #[.string key] 9)) W2.heap.size 9 #[.string key]:=Bk.new W2.drew 9 #[.string key]
     refine hK.out _ _ (SKH.out _ uA) (fun hS=>?_)
     clear hK K
     try simp only [Act.put,sI,sZ,sS]
     refine rU [13] ?_
     refine AllReadyU.cons rfl (fun K hK=>?_) AllReadyU.nil
     have px:=PXH.out.1
     have eBx:=PXH.out.2.1
     have nX:=PXH.out.2.2
     have T0:=(PgR.start px).up uA
     have hb1:(x.2.1.length+[key].length)*i0.bytes≤140737488355328:=by rw [hz2];simp;omega
     have hb2:x.2.1.length+[key].length≤maxLen:=by simp;unfold maxLen;omega
     refine step_app good_S rfl _ _ _ _ 9 rfl i0 _ Tryz.underlying52 hi0 hz0 hz1 (by rfl) (lo:=lo) (xs:=x.2.1) (ys:=[key]) (A:=A1) (c:=c1) (bl:=a1) (bs:=[[]]) (news:=[.string key]) (v:=.slice (some ⟨W2.heap.size,0,none⟩) 1 1) (by go_simp) (by go_simp) T0.pg.s1 (by simpa using px.nd1.1) (Src.box (t:=9) (cs:=[.string key]) Tryz.underlying52 kb (by simp [Value.oneCell']) (by rw [hz1];rfl)) (Rowed.one good_S (show shS.own _ _ _ [.string key] (key) [] from ⟨⟨rfl,hkm⟩,rfl⟩)) (Nat.le_trans hlo uA.size) hb1 hb2 ?_
     intro D1 f1 bl1 w1 hap
     obtain ⟨so1,nd1,hm10,on1⟩:=hap
     have hm1:∀q∈bl1,q∈a1∨_≤q:=fun q hq=>(hm10 q hq).imp_left (fun h=>by simpa using h)
     clear hm10 hb1 hb2
     have T1:=T0.row1 so1 nd1 hm1 on1
     have hSn:=SKH.out _ uA
     have hS1:(w1.cell? ⟨f i,1,none⟩=some (.slice A1 x.2.1.length c1)∧w1.cell? ⟨f above,1,none⟩=some (.slice (some ⟨gq,oq,none⟩) up.2.1.length r1)∧w1.cell? ⟨gq,oq+a,none⟩=some (.string key)):=⟨(World.cell?_of_block (on1.block (f i) (cell_lt hSn.1) (fun h=>(nX _ h).1 rfl))).trans hSn.1,(World.cell?_of_block (on1.block (f above) (cell_lt hSn.2.1) (fun h=>(nX _ h).2.1 rfl))).trans hSn.2.1,(World.cell?_of_block (on1.block gq (cell_lt hSn.2.2) (fun h=>(nX _ h).2.2 rfl))).trans hSn.2.2⟩
     clear T0 so1 nd1 hm1 on1 kb hSn px nX
     simp only [List.length_cons,List.length_nil,Nat.zero_add]
     refine hK.out _ _ (hS1) (fun hS=>?_)
     clear hK K
     try simp only [Act.put,sI,sZ,sS]
     refine wpAnyU_line 2 (by as_aux_lemma=>kernel_rfl) rfl (by decide) ?_
     simp only [List.drop_succ_cons,List.drop_zero]
     have gq1:=T1.pg.box.cell 1
     have fq1:=T1.pg.box.frozen 1
     have T2:=(T1.set 1 (.slice D1 (x.2.1++[key]).length f1)).done (by rfl)
     refine Exists.elim (POH.out.put1 hmx eBx T2) (fun B3 hP3=>?_)
     have HF:=Hd (And.intro hP3.1 (below_trans HB.out (POH.out.bel1 hlo hmx hP3.2.2)))
     clear T1 T2 hP3 eBx hS
     simp only [List.length_append,List.length_cons,List.length_nil,Nat.zero_add] at HF
     go_wp2_with fail
     go_meet
     rw [HM1.out]
     exact ⟨B3,HF.out.1,HF.out.2⟩
    ·have e2:ks=x.2.1:=by rw [HKS.out,←HFL.out];rfl
     subst e2
     have e3:m1=m:=by rw [HM1.out];exact setM_self hmx
     have HF:=Hd (And.intro PO HB.out)
     have HE3:=Hd e3
     clear e3 PO
     go_wp2_with fail
     go_meet
     rw [HE3.out]
     exact ⟨B,HF.out.1,HF.out.2⟩
   obtain ⟨B1,PO1,HB1⟩:=hcut
   have hlo1:lo≤wc.heap.size:=Nat.le_trans hlo0 HB1.size
   clear PO HB hlo
   obtain ⟨W3,hW3⟩:∃W3,W3=wc:=⟨_,rfl⟩
   rw [←hW3] at PO1 HB1 hlo1 ⊢
   clear hW3
   have HB:=Hd HB1
   clear HB1
   have k1i:m1 i=some (x.1,ks,x.2.2.1,x.2.2.2):=by rw [HM1.out,setM_same]
   have k1j:m1 j=some y:=by rw [HM1.out,setM_other _ _ hn1.symm];exact hmy
   have k1u:m1 above=some up:=by rw [HM1.out,setM_other _ _ hn2.symm];exact hux
   go_upto_region 5 with fail
   refine ref_r5 (p:=(x.1,ks,x.2.2.1,x.2.2.2)) PO1 hlo1 k1i k1j hn1 hkl7 lx2 lx3 ly1 ly2 ly3 (fun c a1 a2 w0 h=>by first | exact h | (simp +zetaDelta only [Exit.inBlock,bodyPost] at h;cases h.2.1)) (Hd (fun _ _ _ _ _ _ _ _ _ _ _ _ _ _ _ _ _ _ _ _ _ _ _ _ _ _ _ _ _ _ _ _ _ _ _ _ w8 hP8 hB8=>?_))
   have hm:setM m i (some (joinP x y key))=setM m1 i (some (x.1,ks++y.2.1,x.2.2.1++y.2.2.1,x.2.2.2++y.2.2.2)):=by rw [HM1.out,setM_same2,HKS.out];rfl
   obtain ⟨B2,PO2⟩:=hP8
   dsimp only at PO2
   rw [←hm] at PO2
   clear hm
   have HB2:=below_trans HB.out hB8
   clear hB8 PO1
   have hlo2:lo≤w8.heap.size:=Nat.le_trans hlo0 HB2.size
   clear HB
   obtain ⟨W4,hW4⟩:∃W4,W4=w8:=⟨_,rfl⟩
   rw [←hW4] at PO2 HB2 hlo2 ⊢
   clear hW4
   have HB:=Hd HB2
   clear HB2
   obtain ⟨m2,hm2⟩:∃m2,m2=setM m i (some (joinP x y key)):=⟨_,rfl⟩
   rw [←hm2] at PO2
   have HM2:=Hd hm2
   clear hm2 k1i k1j k1u
   have k2u:m2 above=some up:=by rw [HM2.out,setM_other _ _ hn2.symm];exact hux
   have PO2d:=PO2.up (Up.refl W4).drew
   obtain ⟨U1,r1,u1_,U2,r2,u2_,U3,r3,u3_,pu,eBu⟩:=PO2d.pg above up k2u
   obtain ⟨gk,ok,rfl,eu3,rk⟩:=pu.s3.addr1 one1_I (by omega)
   have hcb:W4.drew.cell? ⟨gk,ok+b,none⟩=some (.int .i64 j):=by have h:=(rk.cell htwo).1;rw [HE.out.2.1] at h;exact h
   have hS0:W4.drew.cell? ⟨tb,1,none⟩=some (.map (some pb))∧W4.drew.cell? ⟨f above,3,none⟩=some (.slice (some ⟨gk,ok,none⟩) up.2.2.2.length r3)∧W4.drew.cell? ⟨gk,ok+b,none⟩=some (.int .i64 j):=⟨PO2d.tab.cell 1,pu.box.cell 3,hcb⟩
   obtain ⟨nm,hpm⟩:=PO2d.map
   obtain ⟨W5,hrun,hpm2,bt⟩:=hpm.del (t:=87) (e:=90) Tryz.underlying2 Tryz.underlying87 (i:=j) ⟨by omega,by omega⟩ 0
   have hpm3:PMap Tryz.prog 2 W5 pb nm (fun k=>if k=j then none else (m2 k).map (fun _=>f k)):=hpm2
   have PO3:PagesO W5 lo tb pb root (setM m2 j none) f B2:=PO2d.delZ hpm3 bt
   have hbb1:Below lo W4 W4.drew:=below_up (Up.refl W4).drew hlo2
   have hbb2:Below lo W4.drew W5:=below_but bt PO2.lo2
   have hbb3:Below lo w W5:=below_trans (below_trans HB.out hbb1) hbb2
   have HP3:=Hd (And.intro PO3 hbb3)
   clear hbb1 hbb2 hbb3
   clear PO3 hpm hpm2 hpm3 bt pu eBu eu3 rk hcb PO2 PO2d
   go_upto_region 6 with fail
   go_cut [] (fun wx=>∃B1,PagesO wx lo tb pb root (setM m2 j none) f B1∧Below lo w wx)
   case first =>
    refine wp_region_U (fun W=>W.cell? ⟨tb,1,none⟩=some (.map (some pb))∧W.cell? ⟨f above,3,none⟩=some (.slice (some ⟨gk,ok,none⟩) up.2.2.2.length r3)∧W.cell? ⟨gk,ok+b,none⟩=some (.int .i64 j)) 12 (by kernel_rfl) ?_
    have hS:(fun W:World=>W.cell? ⟨tb,1,none⟩=some (.map (some pb))∧W.cell? ⟨f above,3,none⟩=some (.slice (some ⟨gk,ok,none⟩) up.2.2.2.length r3)∧W.cell? ⟨gk,ok+b,none⟩=some (.int .i64 j)) W4.drew:=hS0
    try simp only [Act.put,sI,sZ,sS]
    refine tP 0 rfl (fun _ _ _ h=>h) hS ?_
    refine tP 1 rfl (fun _ _ _ h=>h) hS ?_
    refine tP 2 rfl (fun _ _ _ h=>h) hS ?_
    refine tL 3 rfl (fun _ _ _ h=>h) hS ?_
    refine tP 4 rfl (fun _ _ _ h=>h) hS ?_
    refine tP 5 rfl (fun _ _ _ h=>h) hS ?_
    refine tP 6 rfl (fun _ _ _ h=>h) hS ?_
    refine tL 7 rfl (fun _ _ _ h=>h) hS ?_
    refine tP 8 rfl (fun _ _ _ h=>h) hS ?_
    refine tP 9 rfl (fun _ _ _ h=>h) hS ?_
    refine tP 10 rfl (fun _ _ _ h=>h) hS ?_
    refine tL 11 rfl (fun _ _ _ h=>h) hS ?_
    refine wpAnyU_line 0 (by as_aux_lemma=>kernel_rfl) rfl (by decide) ?_
    simp only [List.drop_succ_cons,List.drop_zero]
    refine wpList_delete_run _ rfl _ _ _ _ rfl (.map (some pb)) (.int .i64 j) (by go_simp) (by go_simp) hrun ?_
    go_wp2_with fail
    go_meet
    exact ⟨_,HP3.out.1,HP3.out.2⟩
   clear hS0 hrun HP3
   obtain ⟨B3,PO3,HB3⟩:=hcut
   have hlo3:lo≤wc.heap.size:=Nat.le_trans hlo0 HB3.size
   clear HB W5
   obtain ⟨W6,hW6⟩:∃W6,W6=wc:=⟨_,rfl⟩
   rw [←hW6] at PO3 HB3 hlo3 ⊢
   clear hW6
   have HB:=Hd HB3
   clear HB3
   obtain ⟨m3,hm3⟩:∃m3,m3=setM m2 j none:=⟨_,rfl⟩
   rw [←hm3] at PO3
   have k3u:m3 above=some up:=by rw [hm3,setM_other _ _ hn3.symm];exact k2u
   have HM3:=Hd hm3
   clear hm3 k2u
   go_upto_region 7 with fail
   refine ref_r7 PO3 hlo3 k3u hkl htwo HBA hw2 hw3 ha0 hb0 (fun c a1 a2 w0 h=>by first | exact h | (simp +zetaDelta only [Exit.inBlock,bodyPost] at h;cases h.2.1)) (Hd (fun _ _ _ _ _ _ _ _ _ _ _ _ _ _ _ _ _ _ _ _ _ _ _ w9 hP hB=>?_))
   go_wp2_with fail
   refine bodyPost_end (v:=.tuple #[]) (by simp [results,Tryz.results86,go_sem]) rfl ?_
   obtain ⟨B4,PO4⟩:=hP
   refine ⟨rfl,⟨B4,?_⟩,below_trans HB.out hB⟩
   rw [HRF.out,setM_comm m hn1.symm,←HM2.out,←HM3.out]
   exact PO4
  ·exact absurd (by have h:=hq2e.symm;simpa [richP] using h) HC.out.2
 ·exact absurd (by have h:=hq1e.symm;simpa [richP] using h) (show ¬(0<k∧3<fillOf x) from HC.out.1)
theorem c_refill {w:World} {lo tb pb:Nat} {root:Int} {m:PgM} {f:Int→Nat} {B:Int→List Nat} {above:Int} {k:Nat} {up x y:TPage} (PO:PagesO w lo tb pb root m f B) (hlo:lo≤w.heap.size) (R:Refills m above k up x y) :
 Calls Tryz.prog 86 #[.pointer (some ⟨tb,0,none⟩),.pointer (some ⟨f above,0,none⟩),.int .i64 (k:Int)] w (fun e w'=>e=.returned (.tuple #[])∧(∃B',PagesO w' lo tb pb root (refillP m above k up x y) f B')∧Below lo w w'):=by
 by_cases h1:0<k∧3<fillOf x
 ·exact c_refillA PO hlo R h1
 ·by_cases h2:k=0∧3<fillOf y
  ·exact c_refillC PO hlo R h2
  ·exact c_refillD PO hlo R ⟨h1,h2⟩
end Go.Proofs.YtojmcmghmnfjeaaGreatDoor
