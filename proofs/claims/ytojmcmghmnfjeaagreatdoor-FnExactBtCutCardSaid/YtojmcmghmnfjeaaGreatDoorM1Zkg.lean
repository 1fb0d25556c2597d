/-
 Parts of the proof.
-/
import Derived.Test.YtojmcmghmnfjeaaGreatDoorM1Zj
set_option maxHeartbeats 16000000
set_option maxRecDepth 100000
namespace Go.Proofs.YtojmcmghmnfjeaaGreatDoor
open Go Go.RowKit
set_option linter.unusedVariables false
set_option linter.unusedSimpArgs false
theorem pg_way {x:TBtree} {key:ByteArray} {n:Nat} {id:Int} (hw:WayOk (pgAt x) (wayB x key (n+1) id).1):∃p,pgAt x id=some p:=by
 cases e:pgAt x id with
 | none =>
  unfold wayB at hw
  rw [e] at hw
  exact hw.elim
 | some p=>exact ⟨p,rfl⟩
theorem way_fork {x:TBtree} {key:ByteArray} {n:Nat} {id:Int} {p:TPage} {k:Nat} (hp:pgAt x id=some p) (hw:WayOk (pgAt x) ((id,k)::(wayB x key n (p.2.2.2.getD k 0)).1)) (hne:∃t rest,(wayB x key n (p.2.2.2.getD k 0)).1=t::rest) :
 WayOk (pgAt x) (wayB x key n (p.2.2.2.getD k 0)).1∧k<p.2.2.2.length∧∃q,cutR (pgAt x) (wayB x key n (p.2.2.2.getD k 0)).1 (p.2.2.2.getD k 0)=some q ∧
  cutR (pgAt x) ((id,k)::(wayB x key n (p.2.2.2.getD k 0)).1)=(if poorP q=true then refillM (cutR (pgAt x) (wayB x key n (p.2.2.2.getD k 0)).1) id k else cutR (pgAt x) (wayB x key n (p.2.2.2.getD k 0)).1) ∧
  (poorP q=true→∃up y z,Refills (cutR (pgAt x) (wayB x key n (p.2.2.2.getD k 0)).1) id k up y z):=by
 obtain ⟨t,rest,e⟩:=hne
 rw [e] at hw ⊢
 obtain ⟨h1,q,hq,⟨up,hup,_,_,hk,ht⟩,_,hr⟩:=hw
 rw [hp] at hup
 cases hup
 refine ⟨h1,hk,q,by rw [ht];exact hq,?_,hr⟩
 show stepM _ _ _ _=_
 unfold stepM
 rw [hq]
def CutP (lo tb pb:Nat) (root:Int) (m:PgM) (f:Int→Nat) (w:World) (e:Ending) (w':World):Prop:=e=.returned (.tuple #[])∧(∃B',PagesO w' lo tb pb root m f B')∧Below lo w w'
theorem c_cut {x:TBtree} (hs:SlotsP x.2) (key:ByteArray) (lo tb pb:Nat) (root:Int) (f:Int→Nat):∀(n:Nat) (id:Int) (hw:WayOk (pgAt x) (wayB x key n id).1) (w:World) (B:Int→List Nat) (PO:PagesO w lo tb pb root (pgAt x) f B) (hlo:lo≤w.heap.size),
 Calls Tryz.prog 48 #[.pointer (some ⟨tb,0,none⟩),.pointer (some ⟨f id,0,none⟩),.string key] w (CutP lo tb pb root (cutR (pgAt x) (wayB x key n id).1) f w)
 | 0,id,hw,w,B,PO,hlo=>hw.elim
 | n + 1,id,hw,w,B,PO,hlo=>by
  obtain ⟨p,hp⟩:=pg_way hw
  have hpb:=pgAt_ok hs hp
  have hfine:=pageB_fine hpb
  obtain ⟨lp1,lp2,lp3⟩:=fine_lens hfine
  have HW:(wayB x key (n+1) id).1=(if p.1=true then [(id,(findB p key).1)] else (id,(findB p key).1)::(wayB x key n (p.2.2.2.getD (findB p key).1 0)).1):=by
   rw [wayB,hp]
   dsimp only
   split <;> rfl
  rw [HW] at hw ⊢
  clear HW
  obtain ⟨U1,r1,a1,U2,r2,a2,U3,r3,a3,pu,eB⟩:=PO.pg id p hp
  have g0:w.cell? ⟨f id,0,none⟩=some (.bool p.1):=pu.box.cell 0
  have g1:w.cell? ⟨f id,1,none⟩=some (.slice U1 p.2.1.length r1):=pu.box.cell 1
  have g2:w.cell? ⟨f id,2,none⟩=some (.slice U2 p.2.2.1.length r2):=pu.box.cell 2
  have g3:w.cell? ⟨f id,3,none⟩=some (.slice U3 p.2.2.2.length r3):=pu.box.cell 3
  have CF:=Hd (c_find _ p key w (pu.av rfl) hpb)
  have hk7:(findB p key).1≤7:=by
   have h1:=keyIdx_le p.2.1 key
   unfold findB
   dsimp only
   split <;> omega
  generalize (findB p key).1=k at CF hw hk7 ⊢
  generalize (findB p key).2=b at CF
  have hk0:(0:Int)≤(k:Int):=by omega
  have hkw:IntKind.i64.wrap ((k:Int)+1)=(k:Int)+1:=by rw [IntWalk.i64_in _ (by omega)]
  have POH:=Hd PO
  cases hl:p.1
  ·rw [if_neg (by rw [hl];decide)] at hw
   rw [if_neg (by decide)]
   have hne:∃t rest,(wayB x key n (p.2.2.2.getD k 0)).1=t::rest:=by
    cases e:(wayB x key n (p.2.2.2.getD k 0)).1 with
    | nil =>
     rw [e] at hw
     obtain ⟨p0,hp0,h1,_⟩:=hw
     rw [hp] at hp0
     cases hp0
     rw [hl] at h1
     cases h1
    | cons t rest=>exact ⟨t,rest,rfl⟩
   obtain ⟨hw2,hkk,q,hq,hcut,hrf⟩:=way_fork hp hw hne
   rw [hcut]
   clear hcut hne hw
   have hki:(k:Int)<(p.2.2.2.length:Int):=by omega
   obtain ⟨kid,hkid⟩:∃kid,kid=p.2.2.2.getD k 0:=⟨_,rfl⟩
   rw [←hkid] at hw2 hq hrf ⊢
   have hkat:p.2.2.2[k]=kid:=by rw [hkid,getD_inW hkk]
   have hkr:=hfine.kids _ (List.getElem_mem hkk)
   rw [hkat] at hkr
   obtain ⟨pk,hpk⟩:∃pk,pgAt x kid=some pk:=by
    cases n with
    | zero=>exact hw2.elim
    | succ n=>exact pg_way hw2
   have IH:=Hd (fun V B' (P:PagesO V lo tb pb root (pgAt x) f B') (h:lo≤V.heap.size)=>c_cut hs key lo tb pb root f n kid hw2 V B' P h)
   obtain ⟨m1,hm1⟩:∃m1,m1=cutR (pgAt x) (wayB x key n kid).1:=⟨_,rfl⟩
   rw [←hm1] at hq hrf IH ⊢
   have HQ:=Hd hq
   have HRF:=Hd hrf
   obtain ⟨MR,hMR⟩:∃MR,MR=(if poorP q=true then refillM m1 id k else m1):=⟨_,rfl⟩
   rw [←hMR]
   have HMR:=Hd hMR
   have HL:=Hd hl
   obtain ⟨gk,ok,rfl,ek,rk⟩:=pu.s3.addr1 one1_I (by omega)
   have hck:w.cell? ⟨gk,ok+k,none⟩=some (.int .i64 kid):=by have h:=(rk.cell hkk).1;rw [hkat] at h;exact h
   have PUH:=Hd pu
   have HPK:=Hd hpk
   have gt1:w.cell? ⟨tb,1,none⟩=some (.map (some pb)):=PO.tab.cell 1
   have kT:=PO.tab
   clear hMR hm1 hq hrf hw2 hkid hkat rk ek pu hp hpb hfine hpk PO eB hl
   go_enter Tryz.func48,Tryz.ntmps48
   go_upto_region 1 with (go_at_call 47;(with_reducible refine CF.out.mono ?_);rintro e w1 ⟨rfl,u1⟩)
   have PO1:=POH.out.up u1
   have hlo1:lo≤w1.heap.size:=Nat.le_trans hlo u1.size
   have HB:=Hd (show Below lo w w1 from below_up u1 hlo)
   have pu1:=PUH.out.up u1
   have g0b:w1.cell? ⟨f id,0,none⟩=some (.bool false):=(u1.cell (cell_lt g0)).trans (g0.trans (by rw [HL.out]))
   have g3b:w1.cell? ⟨f id,3,none⟩=some (.slice (some ⟨gk,ok,none⟩) p.2.2.2.length r3):=(u1.cell (cell_lt g3)).trans g3
   have hckb:w1.cell? ⟨gk,ok+k,none⟩=some (.int .i64 kid):=(u1.cell (cell_lt hck)).trans hck
   have gtb:w1.cell? ⟨tb,1,none⟩=some (.map (some pb)):=(u1.cell (cell_lt gt1)).trans gt1
   have hlk:∀n,(Instr.lookup 87 (.map (some pb)) (.int .i64 kid) false).run Tryz.prog (w1.drewN n)=.ok (.pointer (some ⟨f kid,0,none⟩)) (w1.drewN n):=fun n=>by
    obtain ⟨_,hm,he⟩:=(PO1.up ((Up.refl w1).drewN n)).ptr HPK.out
    rw [←he]
    exact hm.look (t:=87) (e:=90) Tryz.underlying2 Tryz.underlying87 (zero_pagepW _) (i:=kid) ⟨by omega,by omega⟩
   have PO1H:=Hd PO1
   clear PO1 pu1 g0 g1 g2 g3 hck gt1 kT POH PUH
   go_upto_region 3 with fail
   go_cut [8] (fun s wx=>s=.pointer (some ⟨f kid,0,none⟩)∧Up w1 wx)
   case first =>
    go_quiet (fail)
    go_wp2_with fail
    go_meet
    exact ⟨rfl,(Up.refl w1).drewN _⟩
   clear g0b g3b hckb gtb hlk
   obtain ⟨rfl,hu⟩:=hcut
   have IH2:=Hd (IH.out wc B (PO1H.out.up hu) (Nat.le_trans hlo1 hu.size))
   have HB2:=Hd (below_trans HB.out (below_up hu hlo1))
   clear IH HB PO1H
   go_upto_region 5 with (go_at_call 48;(with_reducible refine IH2.out.mono ?_);rintro e w2 ⟨rfl,⟨B2,PO2⟩,hb2⟩)
   have HB3:=Hd (below_trans HB2.out hb2)
   have hlo2:lo≤w2.heap.size:=Nat.le_trans hlo HB3.out.size
   have CS:=Hd (c_small lo (f kid) q (B2 kid) w2 (PO2.pg kid q HQ.out))
   have PO2H:=Hd PO2
   clear IH2 HB2 hb2 PO2
   cases hpo:poorP q
   ·have HPO:=Hd hpo
    rw [hpo] at CS
    clear hpo
    go_wp2_with (go_at_call 85;(with_reducible refine CS.out.mono ?_);rintro e w7 ⟨rfl,rfl⟩)
    refine bodyPost_end (v:=.tuple #[]) (by simp [results,Tryz.results48,go_sem]) rfl ?_
    refine ⟨rfl,⟨B2,?_⟩,HB3.out⟩
    rw [HMR.out,if_neg (fun h=>by rw [HPO.out] at h;cases h)]
    exact PO2H.out
   ·obtain ⟨up,y,z,hR⟩:=HRF.out hpo
    have CR:=Hd (c_refill PO2H.out hlo2 hR)
    have HRE:=Hd hR.eq
    have HPO:=Hd hpo
    rw [hpo] at CS
    clear hR hpo
    go_wp2_with (first
     | (go_at_call 85;(with_reducible refine CS.out.mono ?_);rintro e w7 ⟨rfl,rfl⟩)
     | (go_at_call 86;(with_reducible refine CR.out.mono ?_);rintro e w8 ⟨rfl,⟨B3,PO3⟩,hb3⟩))
    refine bodyPost_end (v:=.tuple #[]) (by simp [results,Tryz.results48,go_sem]) rfl ?_
    refine ⟨rfl,⟨B3,?_⟩,below_trans HB3.out hb3⟩
    rw [HMR.out,if_pos HPO.out,HRE.out]
    exact PO3
  ·rw [if_pos hl] at hw
   rw [if_pos rfl]
   obtain ⟨p0,hp0,hlx,hkl,hafx⟩:=hw
   clear hlx hafx
   rw [hp] at hp0
   cases hp0
   have hvl:=(hfine.leaf hl).1
   have hkl2:k<p.2.2.1.length:=by omega
   have hki:(k:Int)<(p.2.1.length:Int):=by omega
   have HM:=Hd (show cutR (pgAt x) [(id,k)]=setM (pgAt x) id (some (p.1,remAt p.2.1 k,remAt p.2.2.1 k,p.2.2.2)) by
    show leafM _ _ _=_
    unfold leafM
    rw [hp])
   have HP:=Hd hp
   have HEB:=Hd eB
   have hbn:=(List.nodup_cons.1 pu.nd).1
   have PUH:=Hd pu
   have HL:=Hd hl
   clear pu eB hp hpb hfine hvl PO hl
   go_enter Tryz.func48,Tryz.ntmps48
   go_upto_region 1 with (go_at_call 47;(with_reducible refine CF.out.mono ?_);rintro e w1 ⟨rfl,u1⟩)
   have g0b:w1.cell? ⟨f id,0,none⟩=some (.bool true):=(u1.cell (cell_lt g0)).trans (g0.trans (by rw [HL.out]))
   go_upto_region 2 with fail
   have pu1:=PUH.out.up u1
   have PO1:=POH.out.up u1
   have hlo1:lo≤w1.heap.size:=Nat.le_trans hlo u1.size
   have HB:=Hd (show Below lo w w1 from below_up u1 hlo)
   have SK:∀V,Only (a1++a2) w1 V→(V.cell? ⟨f id,1,none⟩=some (.slice U1 p.2.1.length r1)∧V.cell? ⟨f id,2,none⟩=some (.slice U2 p.2.2.1.length r2)):=fun V k=>by
    have bx:=pu1.box.only k (fun h=>hbn (by rcases List.mem_append.1 h with h | h <;> simp [h]))
    exact ⟨bx.cell 1,bx.cell 2⟩
   have SKH:=Hd SK
   have PU1:=Hd pu1
   have PO1H:=Hd PO1
   clear SK pu1 PO1 hbn g0b
   refine wp_region_U (fun W=>W.cell? ⟨f id,1,none⟩=some (.slice U1 p.2.1.length r1)∧W.cell? ⟨f id,2,none⟩=some (.slice U2 p.2.2.1.length r2)) 18 (by kernel_rfl) ?_
   have hS:(fun W:World=>W.cell? ⟨f id,1,none⟩=some (.slice U1 p.2.1.length r1)∧W.cell? ⟨f id,2,none⟩=some (.slice U2 p.2.2.1.length r2)) w1.drew:=SKH.out _ (Only.of_up (Up.refl w1).drew)
   try simp only [Act.put,sI,sZ,sS]
   refine tP 0 rfl (fun _ _ _ h=>h) hS ?_
   refine tP 1 rfl (fun _ _ _ h=>h) hS ?_
   refine tP 2 rfl (fun _ _ _ h=>h) hS ?_
   refine tP 3 rfl (fun _ _ _ h=>h) hS ?_
   refine tP 4 rfl (fun _ _ _ h=>h) hS ?_
   refine tL 5 rfl (fun _ _ _ h=>h) hS ?_
   refine tP 6 rfl (fun _ _ _ h=>h) hS ?_
   refine tP 7 rfl (fun _ _ _ h=>h) hS ?_
   refine tP 8 rfl (fun _ _ _ h=>h) hS ?_
   refine tP 10 rfl (fun _ _ _ h=>h) hS ?_
   refine tP 11 rfl (fun _ _ _ h=>h) hS ?_
   refine tP 12 rfl (fun _ _ _ h=>h) hS ?_
   refine tL 13 rfl (fun _ _ _ h=>h) hS ?_
   refine tP 14 rfl (fun _ _ _ h=>h) hS ?_
   refine tP 15 rfl (fun _ _ _ h=>h) hS ?_
   refine tP 16 rfl (fun _ _ _ h=>h) hS ?_
   refine rU [9] ?_
   refine AllReadyU.cons rfl (fun K hK=>?_) AllReadyU.nil
   go_simp
   have T0:=(PgR.start PU1.out).up (Up.refl w1).drew
   refine (c_DeleteS hkl T0.pg.s1).mono ?_
   rintro e w2 ⟨D1,f1,bl1,rfl,so1,nd1,hm1,on1⟩
   have T1:=T0.row1 so1 nd1 hm1 on1
   have oc1:Only (a1++a2) w1 w2:=only_via (Only.of_up (Up.refl w1).drew) on1 (fun q hq=>.inl (List.mem_append_left _ hq))
   clear T0 so1 nd1 hm1 on1
   go_wp2_with fail
   refine hK.out _ _ (SKH.out _ oc1) (fun hS=>?_)
   clear hK K
   try simp only [Act.put,sI,sZ,sS]
   refine rU [17] ?_
   refine AllReadyU.cons rfl (fun K hK=>?_) AllReadyU.nil
   go_simp
   refine (c_DeleteS hkl2 T1.pg.s2).mono ?_
   rintro e w3 ⟨D2,f2,bl2,rfl,so2,nd2,hm2,on2⟩
   have T2:=T1.row2 so2 nd2 hm2 on2
   have oc2:Only (a1++a2) w1 w3:=only_via oc1 on2 (fun q hq=>.inl (List.mem_append_right _ hq))
   clear T1 so2 nd2 hm2 on2
   go_wp2_with fail
   refine hK.out _ _ (SKH.out _ oc2) (fun hS=>?_)
   clear hK K
   try simp only [Act.put,sI,sZ,sS]
   refine wpAnyU_line 5 (by as_aux_lemma=>kernel_rfl) rfl (by decide) ?_
   simp only [List.drop_succ_cons,List.drop_zero]
   have gq1:=T2.pg.box.cell 1
   have fq1:=T2.pg.box.frozen 1
   have T3:=T2.set 1 (.slice D1 (remAt p.2.1 k).length f1)
   have gq2:=T3.pg.box.cell 2
   have fq2:=T3.pg.box.frozen 2
   have T4:=(T3.set 2 (.slice D2 (remAt p.2.2.1 k).length f2)).done (by rfl)
   refine Exists.elim (PO1H.out.put1 HP.out HEB.out T4) (fun B4 hP4=>?_)
   have HF:=Hd (And.intro hP4.1 (below_trans HB.out (PO1H.out.bel1 hlo1 HP.out hP4.2.2)))
   clear T2 T3 T4 hP4 hS oc1 oc2
   go_wp2_with fail
   refine bodyPost_ret (v:=.tuple #[]) (by simp [results,Tryz.results48,go_sem]) rfl ?_
   refine ⟨rfl,⟨B4,?_⟩,HF.out.2⟩
   rw [HM.out]
   exact HF.out.1
theorem refillP_left {m:PgM} {above:Int} {k:Nat} {up x y:TPage} (h:Refills m above k up x y):∃q,refillP m above k up x y (up.2.2.2.getD (k-1) 0)=some q:=by
 have h2:=h.ne2
 unfold refillP
 split
 ·exact ⟨_,(setM_other _ _ h2).trans (setM_same _ _ _)⟩
 ·split
  ·exact ⟨_,(setM_other _ _ h2).trans (setM_same _ _ _)⟩
  ·exact ⟨_,(setM_other _ _ h2).trans (setM_same _ _ _)⟩
theorem cut_rest {x:TBtree} (hs:SlotsP x.2) {key:ByteArray} {n:Nat} {id:Int} {h:Nat} (hT:TallP x (n+1) id h) (hn:(idsB x (n+1) id).Nodup) (hw:(wayB x key (n+1) id).2=true) {p:TPage} (hp:pgAt x id=some p) (hl:p.1=false) :
 ∃i q,i≠id∧cutR (pgAt x) (wayB x key (n+1) id).1 i=some q:=by
 obtain ⟨_,_,_,_,_,_,hok,_,_,_,_,_,_⟩:=cut_main hs hT hn hw
 have hlt:=findB_lt (pgAt_ok hs hp) hl key
 have ew:wayB x key (n+1) id=((id,(findB p key).1)::(wayB x key n (p.2.2.2.getD (findB p key).1 0)).1,(wayB x key n (p.2.2.2.getD (findB p key).1 0)).2):=by
  show (match pgAt x id with | none=>_ | some p=>_)=_
  rw [hp]
  dsimp only
  rw [if_neg (by rw [hl];decide)]
 obtain ⟨h',hA,hout⟩:=apart_of hT hn hp hl
 rw [ew] at hw hok ⊢
 dsimp only at hw hok ⊢
 generalize (findB p key).1=k at *
 obtain ⟨q,q',k1,rest,hq,hway,_,_,_,hq',_,_,_⟩:=cut_main hs (hA.tree k hlt).1 (hA.nd k hlt) hw
 rw [hway] at hok hq' ⊢
 show ∃i q,i≠id∧stepM (cutR (pgAt x) ((p.2.2.2.getD k 0,k1)::rest)) (p.2.2.2.getD k 0) id k i=some q
 unfold stepM
 rw [hq']
 dsimp only
 by_cases hpo:poorP q'=true
 ·rw [if_pos hpo]
  obtain ⟨_,r,hr,_,_,hR⟩:=hok
  have hr':cutR (pgAt x) ((p.2.2.2.getD k 0,k1)::rest) (p.2.2.2.getD k 0)=some r:=hr
  rw [hq'] at hr'
  cases hr'
  obtain ⟨up,y,z,R⟩:=hR hpo
  have R':Refills (cutR (pgAt x) ((p.2.2.2.getD k 0,k1)::rest)) id k up y z:=R
  rw [R'.eq]
  obtain ⟨u,hu⟩:=refillP_left R'
  exact ⟨_,u,R'.ne2,hu⟩
 ·rw [if_neg hpo]
  exact ⟨_,q',hA.neTop hlt,hq'⟩
theorem cut_top {x:TBtree} (hb:btreeB x=true) {key:ByteArray} (hw:(wayB x key 64 x.1).2=true) :
 ∃p p',pgAt x x.1=some p∧WayOk (pgAt x) (wayB x key 64 x.1).1∧AllFine (cutR (pgAt x) (wayB x key 64 x.1).1)∧cutR (pgAt x) (wayB x key 64 x.1).1 x.1=some p'∧p'.1=p.1∧(p.1=false→1≤p'.2.2.2.length)∧(p.1=false→∃i q,i≠x.1∧cutR (pgAt x) (wayB x key 64 x.1).1 i=some q):=by
 have hs:=slots_of_btree hb
 obtain ⟨d,hT,hn⟩:=tree_of hb
 obtain ⟨p,p',k,rest,hp,hway,hok,hfine,_,hp',hfl,_,hf⟩:=cut_main hs hT hn hw
 refine ⟨p,p',hp,hok,hfine,hp',hfl,fun hl=>?_,fun hl=>cut_rest hs (n:=63) hT hn hw hp hl⟩
 have h2:=(fork_two (pgAt_ok hs hp) hl).1
 rw [fill_fork hl,fill_fork (hfl.trans hl)] at hf
 omega
theorem rootM_fine {m:PgM} (h:AllFine m) (root:Int):AllFine (rootM m root).1:=by
 unfold rootM
 split
 ·split
  ·exact setM_fine h (fun q hq=>by cases hq)
  ·exact h
 ·exact h
theorem cut_some {x:TBtree} (hb:btreeB x=true) {key:ByteArray} (hw:(wayB x key 64 x.1).2=true):AllFine (cutM x key).1∧∃i q,(cutM x key).1 i=some q:=by
 obtain ⟨p,p',hp,hok,hfine,hp',hfl,_,hrest⟩:=cut_top hb hw
 refine ⟨rootM_fine hfine _,?_⟩
 unfold cutM rootM
 rw [hp']
 dsimp only
 split
 ·rename_i hc
  obtain ⟨i,q,hi,hq⟩:=hrest (hfl.symm.trans hc.1)
  exact ⟨i,q,(setM_other _ _ hi).trans hq⟩
 ·exact ⟨_,_,hp'⟩
theorem cutM_root {x:TBtree} (hb:btreeB x=true) (hr:I64 x.1) {key:ByteArray} (hw:(wayB x key 64 x.1).2=true):I64 (cutM x key).2:=by
 obtain ⟨p,p',hp,hok,hfine,hp',hfl,h1,hrest⟩:=cut_top hb hw
 unfold cutM rootM
 rw [hp']
 dsimp only
 split
 ·rename_i hc
  have:=(hfine _ _ hp').2.kids _ (getD_mem 0 (by omega:0<p'.2.2.2.length))
  exact ⟨by omega,by omega⟩
 ·exact hr
theorem c_remove {x:TBtree} (hb:btreeB x=true) (hr:I64 x.1) (key:ByteArray) (hw:(wayB x key 64 x.1).2=true) {lo tb pb:Nat} {f:Int→Nat} {B:Int→List Nat} {w:World} (PO:PagesO w lo tb pb x.1 (pgAt x) f B) (hlo:lo≤w.heap.size) :
 Calls Tryz.prog 21 #[.pointer (some ⟨tb,0,none⟩),.string key] w (CutP lo tb pb (cutM x key).2 (cutM x key).1 f w):=by
 obtain ⟨p,p',hp,hok,hfine,hp',hfl,h1k,_⟩:=cut_top hb hw
 have hs:=slots_of_btree hb
 have HC:=Hd (show cutM x key=(if p'.1=false∧p'.2.2.2.length=1 then (setM (cutR (pgAt x) (wayB x key 64 x.1).1) x.1 none,p'.2.2.2.getD 0 0) else (cutR (pgAt x) (wayB x key 64 x.1).1,x.1)) by
  show rootM _ _=_
  unfold rootM
  rw [hp'])
 have CC:=Hd (fun V B' (P:PagesO V lo tb pb x.1 (pgAt x) f B') (h:lo≤V.heap.size)=>c_cut hs key lo tb pb x.1 f 64 x.1 hok V B' P h)
 obtain ⟨cm,hcm⟩:∃cm,cm=cutM x key:=⟨_,rfl⟩
 rw [←hcm] at HC ⊢
 clear hcm
 obtain ⟨m,hm⟩:∃m,m=cutR (pgAt x) (wayB x key 64 x.1).1:=⟨_,rfl⟩
 rw [←hm] at hfine hp' HC CC
 clear hm hok
 have hF:=(hfine _ _ hp').2
 have hid:=(hfine _ _ hp').1
 have HPM:=Hd hp'
 have H1K:=Hd (fun hl:p'.1=false=>h1k (hfl.symm.trans hl))
 have HFI:=Hd hF
 obtain ⟨lq1,lq2,lq3⟩:=fine_lens hF
 have hlk:∀n,(Instr.lookup 87 (.map (some pb)) (.int .i64 x.1) false).run Tryz.prog (w.drewN n)=.ok (.pointer (some ⟨f x.1,0,none⟩)) (w.drewN n):=fun n=>by
  obtain ⟨_,hm,he⟩:=(PO.up ((Up.refl w).drewN n)).ptr hp
  rw [←he]
  exact hm.look (t:=87) (e:=90) Tryz.underlying2 Tryz.underlying87 (zero_pagepW _) (i:=x.1) hr
 have gt0:w.cell? ⟨tb,0,none⟩=some (.int .i64 x.1):=PO.tab.cell 0
 have gt1:w.cell? ⟨tb,1,none⟩=some (.map (some pb)):=PO.tab.cell 1
 have POH:=Hd PO
 clear PO hp hfl h1k hp' hF hb hw hs hfine
 go_enter Tryz.func21,Tryz.ntmps21
 go_upto_region 0 with fail
 go_cut [4] (fun s wx=>s=.pointer (some ⟨f x.1,0,none⟩)∧Up w wx)
 case first =>
  go_quiet (fail)
  go_wp2_with fail
  go_meet
  exact ⟨rfl,(Up.refl w).drewN _⟩
 clear gt0 gt1 hlk
 obtain ⟨rfl,hu⟩:=hcut
 have C1:=Hd (CC.out wc B (POH.out.up hu) (Nat.le_trans hlo hu.size))
 have HB:=Hd (show Below lo w wc from below_up hu hlo)
 clear CC POH hu
 go_upto_region 2 with (go_at_call 48;(with_reducible refine C1.out.mono ?_);rintro e w2 ⟨rfl,⟨B2,PO2⟩,hb2⟩)
 have HB2:=Hd (below_trans HB.out hb2)
 have hlo2:lo≤w2.heap.size:=Nat.le_trans hlo HB2.out.size
 clear C1 HB hb2
 obtain ⟨A1,c1,a1,A2,c2,a2,A3,c3,a3,px,eBx⟩:=PO2.pg x.1 p' HPM.out
 have g0:w2.cell? ⟨f x.1,0,none⟩=some (.bool p'.1):=px.box.cell 0
 have g3:w2.cell? ⟨f x.1,3,none⟩=some (.slice A3 p'.2.2.2.length c3):=px.box.cell 3
 have POH:=Hd PO2
 clear px eBx PO2
 cases hl:p'.1
 ·have HL:=Hd hl
  rw [hl] at g0
  by_cases h1:p'.2.2.2.length=1
  ·have hd:decide (((p'.2.2.2.length:Nat):Int)=1)=true:=by rw [h1];rfl
   have H1:=Hd h1
   clear h1 hl
   obtain ⟨nl,hnl⟩:∃nl,nl=p'.2.2.2.length:=⟨_,rfl⟩
   rw [←hnl] at hd g3
   have HNL:=Hd hnl
   have hnl1:(nl:Int)=1:=of_decide_eq_true hd
   clear hnl hd
   go_upto_region 3 with fail
   clear g0 g3
   have POd:=POH.out.up (Up.refl w2).drew
   obtain ⟨nm,hpm⟩:=POd.map
   obtain ⟨W5,hrun,hpm2,bt⟩:=hpm.del (t:=87) (e:=90) Tryz.underlying2 Tryz.underlying87 (i:=x.1) hr 0
   have PO3:PagesO W5 lo tb pb x.1 (setM m x.1 none) f B2:=POd.delZ hpm2 bt
   have hbb:Below lo w W5:=below_trans (below_trans HB2.out (below_up (Up.refl w2).drew hlo2)) (below_but bt POH.out.lo2)
   have hnb:∀q∈B2 x.1,q∉[pb]:=fun q hq hh=>(POd.nt x.1 p' HPM.out).2 (by rw [←List.mem_singleton.1 hh];exact hq)
   obtain ⟨A1,c1,a1,A2,c2,a2,A3,c3,a3,px,eBx⟩:=POd.pg x.1 p' HPM.out
   have px5:=px.only ((Only.refl _ _).but bt (List.mem_singleton.2 rfl)) (by rw [←eBx];exact hnb)
   have hn3:0<p'.2.2.2.length:=by have:=H1.out;omega
   obtain ⟨gk,ok,rfl,ek,rk⟩:=px5.s3.addr1 one1_I hn3
   have hck:W5.cell? ⟨gk,ok+0,none⟩=some (.int .i64 (p'.2.2.2.getD 0 0)):=by rw [getD_inW hn3];exact (rk.cell hn3).1
   have g35:W5.cell? ⟨f x.1,3,none⟩=some (.slice (some ⟨gk,ok,none⟩) nl c3):=by rw [HNL.out];exact px5.box.cell 3
   obtain ⟨kid,hkid⟩:∃kid,kid=p'.2.2.2.getD 0 0:=⟨_,rfl⟩
   rw [←hkid] at hck
   have HKI:=Hd hkid
   have gtb:=PO3.tab.cell 0
   have ftb:=PO3.tab.frozen 0
   have HF:=Hd (And.intro (PO3.setRoot kid) (below_trans hbb (below_but (But.set W5 tb 0 (.int .i64 kid)) PO3.lo1)))
   have hS0:w2.drew.cell? ⟨tb,1,none⟩=some (.map (some pb))∧w2.drew.cell? ⟨tb,0,none⟩=some (.int .i64 x.1):=⟨POd.tab.cell 1,POd.tab.cell 0⟩
   clear PO3 hbb hnb px px5 ek rk hkid hpm hpm2 bt POd eBx hn3
   refine wp_region_U (fun W=>W.cell? ⟨tb,1,none⟩=some (.map (some pb))∧W.cell? ⟨tb,0,none⟩=some (.int .i64 x.1)) 8 (by kernel_rfl) ?_
   have hS:(fun W:World=>W.cell? ⟨tb,1,none⟩=some (.map (some pb))∧W.cell? ⟨tb,0,none⟩=some (.int .i64 x.1)) w2.drew:=hS0
   try simp only [Act.put,sI,sZ,sS]
   refine tP 0 rfl (fun _ _ _ h=>h) hS ?_
   refine tP 1 rfl (fun _ _ _ h=>h) hS ?_
   refine tP 2 rfl (fun _ _ _ h=>h) hS ?_
   refine tL 3 rfl (fun _ _ _ h=>h) hS ?_
   refine tP 4 rfl (fun _ _ _ h=>h) hS ?_
   refine tP 5 rfl (fun _ _ _ h=>h) hS ?_
   refine tP 6 rfl (fun _ _ _ h=>h) hS ?_
   refine tL 7 rfl (fun _ _ _ h=>h) hS ?_
   refine wpAnyU_line 0 (by as_aux_lemma=>kernel_rfl) rfl (by decide) ?_
   simp only [List.drop_succ_cons,List.drop_zero]
   refine wpList_delete_run _ rfl _ _ _ _ rfl (.map (some pb)) (.int .i64 x.1) (by go_simp) (by go_simp) hrun ?_
   clear hS hS0 hrun
   rw [Nat.add_zero] at hck
   go_wp2_with fail
   refine bodyPost_end (v:=.tuple #[]) (by simp [results,Tryz.results21,go_sem]) rfl ?_
   refine ⟨rfl,⟨B2,?_⟩,HF.out.2⟩
   rw [HC.out,if_pos ⟨HL.out,H1.out⟩]
   dsimp only
   rw [←HKI.out]
   exact HF.out.1
  ·have hd:decide (((p'.2.2.2.length:Nat):Int)=1)=false:=decide_eq_false (by omega)
   have hnl1:¬(((p'.2.2.2.length:Nat):Int)=1):=by omega
   have H1:=Hd h1
   clear h1 hl
   obtain ⟨nl,hnl⟩:∃nl,nl=p'.2.2.2.length:=⟨_,rfl⟩
   rw [←hnl] at hd g3 hnl1
   clear hnl
   go_wp2_with fail
   refine bodyPost_end (v:=.tuple #[]) (by simp [results,Tryz.results21,go_sem]) rfl ?_
   refine ⟨rfl,⟨B2,?_⟩,HB2.out⟩
   rw [HC.out,if_neg (fun h=>H1.out h.2)]
   exact POH.out
 ·have HL:=Hd hl
  rw [hl] at g0
  clear hl
  go_wp2_with fail
  refine bodyPost_end (v:=.tuple #[]) (by simp [results,Tryz.results21,go_sem]) rfl ?_
  refine ⟨rfl,⟨B2,?_⟩,HB2.out⟩
  rw [HC.out,if_neg (fun h=>by rw [HL.out] at h;cases h.1)]
  exact POH.out
end Go.Proofs.YtojmcmghmnfjeaaGreatDoor
