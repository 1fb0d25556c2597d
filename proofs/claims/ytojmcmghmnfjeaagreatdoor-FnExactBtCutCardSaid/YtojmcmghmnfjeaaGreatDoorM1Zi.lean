/-
 Parts of the proof.
-/
import Derived.Test.YtojmcmghmnfjeaaGreatDoorM1Zg
import Derived.Test.YtojmcmghmnfjeaaGreatDoorM1Wgg
set_option maxHeartbeats 32000000
set_option maxRecDepth 100000
namespace Go.Proofs.YtojmcmghmnfjeaaGreatDoor
open Go Go.RowKit
set_option linter.unusedVariables false
set_option linter.unusedSimpArgs false
theorem wpList_delete_run {P:Program} (w:World) {o:Oper} {a:Act} {ops:Array Oper} {rest:List Oper} {Q:Exit→Act→World→Prop} (hg:o.guard=none) (d x:Operand) (t k:TypeId)
 (ho:o.op=.call { callee:=.builtin .delete,args:=#[d,x],argTypes:=#[t,k] }) (v u:Value) (hd:a.eval d=v) (hx:a.eval x=u) {v':Value} {w':World}
 (hr:(Builtin.delete_ #[t,k] o.type #[v,u]).run P w=.ok v' w') (h:wpList P ops Q rest (a.put o.dst v') w'):wpList P ops Q (o::rest) a w :=
 wpList_plain hg fun _ hK=>by
  unfold Oper.wp execOp
  simp only [ho,resolve,invoke,builtin,Sem.run_bind,Sem.run_pure,Result.andThen_ok,List.map_toArray,List.map_cons,List.map_nil,hd,hx,hr]
  exact hK _ _ h
theorem setM_same2 (m:PgM) (i:Int) (p q:Option TPage):setM (setM m i p) i q=setM m i q:=by
 funext j
 unfold setM
 split <;> rfl
theorem setM_comm (m:PgM) {i j:Int} (h:i≠j) (p q:Option TPage):setM (setM m i p) j q=setM (setM m j q) i p:=by
 funext k
 unfold setM
 by_cases h1:k=i
 ·subst h1
  rw [if_neg h,if_pos rfl,if_pos rfl]
 ·rw [if_neg h1,if_neg h1]
theorem setM_self {m:PgM} {i:Int} {p:TPage} (h:m i=some p):setM m i (some p)=m:=by
 funext k
 unfold setM
 split
 ·rename_i e
  rw [e,h]
 ·rfl
theorem PagesO.two {w w':World} {lo tb pb:Nat} {root:Int} {m:PgM} {f:Int→Nat} {B:Int→List Nat} (h:PagesO w lo tb pb root m f B) {i j:Int} (hij:i≠j) {x y x' y':TPage} (hx:m i=some x) (hy:m j=some y) (T:Two w lo (B i++B j) w' (f i) x' (f j) y') :
 ∃B',PagesO w' lo tb pb root (setM (setM m j (some y')) i (some x')) f B'∧(∀k,k≠i→k≠j→B' k=B k)∧Only (B i++B j) w w':=by
 obtain ⟨lx,ly,h1,h2,h3,h4,h5⟩:=T
 exact ⟨_,h.put2 hij hx hy h5 h1 h2 h3 h4,fun k k1 k2=>by rw [if_neg k1,if_neg k2],h5⟩
theorem PagesO.bel {w w':World} {lo tb pb:Nat} {root:Int} {m:PgM} {f:Int→Nat} {B:Int→List Nat} (h:PagesO w lo tb pb root m f B) (hlo:lo≤w.heap.size) {i j:Int} {x y:TPage} (hx:m i=some x) (hy:m j=some y) (k:Only (B i++B j) w w'):Below lo w w' :=
 below_only k hlo fun q hq=>by
  rcases List.mem_append.1 hq with hq | hq
  ·exact ((h.pg i x hx).in_ q hq).1
  ·exact ((h.pg j y hy).in_ q hq).1
theorem PagesO.bel1 {w w':World} {lo tb pb:Nat} {root:Int} {m:PgM} {f:Int→Nat} {B:Int→List Nat} (h:PagesO w lo tb pb root m f B) (hlo:lo≤w.heap.size) {i:Int} {x:TPage} (hx:m i=some x) (k:Only (B i) w w'):Below lo w w' :=
 below_only k hlo fun q hq=>((h.pg i x hx).in_ q hq).1
theorem PgR.setKey {w:World} {lo b:Nat} {p:TPage} {A2 A3:Option Addr} {g off c1 c2 c3:Nat} {b1 b2 b3:List Nat} (h:PgR w lo b (pgC p (some ⟨g,off,none⟩) c1 A2 c2 A3 c3) p (some ⟨g,off,none⟩) c1 b1 A2 c2 b2 A3 c3 b3) {k:Nat} (hk:k<p.2.1.length) {s:ByteArray} (hs:s.size≤maxLen) :
 ∃bl,PgB (w.setCell ⟨g,off+k,none⟩ (.string s)) lo b (p.1,p.2.1.set k s,p.2.2.1,p.2.2.2) bl∧(∀q∈bl,q∈b::(b1++b2++b3)∨w.heap.size≤q)∧Only (b::(b1++b2++b3)) w (w.setCell ⟨g,off+k,none⟩ (.string s)):=by
 obtain ⟨s1,s2⟩:=h.s1.set1 one1_S hk hs
 have S1:=(PgR.start h).row1 s1 h.nd1.1 (fun q hq=>.inl hq) s2
 refine S1.done ?_
 simp [pgC]
theorem PagesO.put1 {w w':World} {lo tb pb:Nat} {root:Int} {m:PgM} {f:Int→Nat} {B:Int→List Nat} (h:PagesO w lo tb pb root m f B) {i:Int} {x x':TPage} {L:List Nat} (hx:m i=some x) (hL:B i=L) (T:∃bl,PgB w' lo (f i) x' bl∧(∀q∈bl,q∈L∨w.heap.size≤q)∧Only L w w') :
 ∃B',PagesO w' lo tb pb root (setM m i (some x')) f B'∧(∀k,k≠i→B' k=B k)∧Only (B i) w w':=by
 subst hL
 obtain ⟨lx,h1,h2,h3⟩:=T
 exact ⟨_,h.put hx h3 h1 h2,fun k k1=>if_neg k1,h3⟩
theorem PagesO.delZ {w w':World} {lo tb pb n:Nat} {root:Int} {m:PgM} {f:Int→Nat} {B:Int→List Nat} {i:Int} (h:PagesO w lo tb pb root m f B) (hm:PMap Tryz.prog 2 w' pb n (fun j=>if j=i then none else (m j).map (fun _=>f j))) (bt:But pb w w'):PagesO w' lo tb pb root (setM m i none) f B:=h.del (g:=fun _=>none) hm bt
theorem below_trans {lo:Nat} {a b c:World} (h:Below lo a b) (k:Below lo b c):Below lo a c:=Below.trans h k
theorem c_refillA {w:World} {lo tb pb:Nat} {root:Int} {m:PgM} {f:Int→Nat} {B:Int→List Nat} {above:Int} {k:Nat} {up x y:TPage} (PO:PagesO w lo tb pb root m f B) (hlo:lo≤w.heap.size) (R:Refills m above k up x y) (HC0:0<k∧3<fillOf x) :
 Calls Tryz.prog 86 #[.pointer (some ⟨tb,0,none⟩),.pointer (some ⟨f above,0,none⟩),.int .i64 (k:Int)] w (fun e w'=>e=.returned (.tuple #[])∧(∃B',PagesO w' lo tb pb root (refillP m above k up x y) f B')∧Below lo w w'):=by
 have hlo0:=hlo
 have HC:=Hd HC0
 clear HC0
 obtain ⟨i0,hi0,hz0,hz1,hz2⟩:=info_parts cinfo_StrZ
 obtain ⟨j0,hj0,hq0,hq1,hq2⟩:=info_parts cinfo_IntZ
 obtain ⟨hidU,fu⟩:=R.fine _ _ R.hup
 obtain ⟨hidX,fx⟩:=R.fine _ _ R.hx
 obtain ⟨hidY,fy⟩:=R.fine _ _ R.hy
 have hkl:=R.keyAt
 have htwo:=R.two
 have hat:=R.at_
 have hux:=R.hup
 have hmx:=R.hx
 have hmy:=R.hy
 have hn1:=R.ne1
 have hn2:=R.ne2
 have hn3:=R.ne3
 have hsm:=R.same
 have hpo:=R.poor
 have hso:=R.some
 have hfk:=R.fork
 obtain ⟨lu1,lu2,lu3⟩:=fine_lens fu
 obtain ⟨a,ha⟩:∃a,a=k-1:=⟨_,rfl⟩
 obtain ⟨b,hb⟩:∃b,b=k-1+1:=⟨_,rfl⟩
 obtain ⟨i,hi⟩:∃i,i=up.2.2.2.getD (k-1) 0:=⟨_,rfl⟩
 obtain ⟨j,hj⟩:∃j,j=up.2.2.2.getD (k-1+1) 0:=⟨_,rfl⟩
 obtain ⟨key,hkey⟩:∃key,key=up.2.1.getD (k-1) ⟨#[]⟩:=⟨_,rfl⟩
 have HR0:refillP m above k up x y=(if 0<k∧3<fillOf x then
  setM (setM (setM m j (some (moveR x y key).2.1)) i (some (moveR x y key).1)) above (some (up.1,up.2.1.set a (moveR x y key).2.2,up.2.2.1,up.2.2.2))
  else if k=0∧3<fillOf y then
   setM (setM (setM m j (some (moveL x y key).2.1)) i (some (moveL x y key).1)) above (some (up.1,up.2.1.set a (moveL x y key).2.2,up.2.2.1,up.2.2.2))
  else
   setM (setM (setM m j none) i (some (joinP x y key))) above (some (up.1,remAt up.2.1 a,up.2.2.1,remAt up.2.2.2 b))):=by
  rw [ha,hb,hi,hj,hkey]
  rfl
 obtain ⟨RF,hRF⟩:∃RF,RF=refillP m above k up x y:=⟨_,rfl⟩
 rw [←hRF] at HR0 ⊢
 clear hRF
 have HRF:=Hd HR0
 clear HR0
 rw [←hi] at hidX hmx hn1 hn2
 rw [←hj] at hidY hmy hn1 hn3
 rw [←ha] at hkl
 rw [←hb] at htwo
 have hal:a<up.2.2.2.length:=by omega
 have ei:up.2.2.2[a]=i:=by rw [hi,←ha,getD_inW hal]
 have ej:up.2.2.2[b]=j:=by rw [hj,←hb,getD_inW htwo]
 have ek:up.2.1[a]=key:=by rw [hkey,←ha,getD_inW hkl]
 obtain ⟨kk,hkk⟩:∃kk,kk=up.2.2.2[k]:=⟨_,rfl⟩
 have HK0:k=0→kk=i:=fun h=>by subst h;rw [hkk,←ei];simp only [ha]
 have HKP:0<k→kk=j:=fun h=>by
  have e:k=b:=by omega
  rw [hkk,←ej]
  simp only [e]
 have hkks:∃q,m kk=some q:=by
  rcases Nat.eq_zero_or_pos k with h | h
  ·exact ⟨x,by rw [HK0 h];exact hmx⟩
  ·exact ⟨y,by rw [HKP h];exact hmy⟩
 have hidK:1≤kk∧kk≤64:=by
  rcases Nat.eq_zero_or_pos k with h | h
  ·rw [HK0 h];exact hidX
  ·rw [HKP h];exact hidY
 have hkm:key.size≤maxLen:=by
  rw [←ek]
  exact Nat.le_trans (fu.keys _ (List.getElem_mem hkl)) (by unfold maxLen;omega)
 have hmr:=fun h:3<fillOf x=>fun h':0<k=>(moveR_fine (key:=key) fx fy hsm h (hpo.2 h') (by rw [←ek];exact fu.keys _ (List.getElem_mem hkl))).2.2
 have hml:=fun h:3<fillOf y=>fun h':k=0=>(moveL_fine (key:=key) fx fy hsm h (hpo.1 h') (by rw [←ek];exact fu.keys _ (List.getElem_mem hkl))).2.2
 have HAB:=Hd (And.intro ha hb)
 have hki:(k:Int)<(up.2.2.2.length:Int):=by omega
 have hk0:(0:Int)≤(k:Int):=by omega
 have hali:(a:Int)<(up.2.2.2.length:Int):=by omega
 have hbli:(b:Int)<(up.2.2.2.length:Int):=by omega
 have hkli:(a:Int)<(up.2.1.length:Int):=by omega
 have ha0:(0:Int)≤(a:Int):=by omega
 have hb0:(0:Int)≤(b:Int):=by omega
 have hw1:IntKind.i64.wrap ((k:Int)-1)=(k:Int)-1:=by rw [IntWalk.i64_in _ (by omega)]
 have hwm:max 0 ((k:Int)-1)=(a:Int):=by omega
 have hw2:IntKind.i64.wrap ((a:Int)+1)=(b:Int):=by rw [IntWalk.i64_in _ (by omega)];omega
 have hw3:IntKind.i64.wrap ((a:Int)+2)=(b:Int)+1:=by rw [IntWalk.i64_in _ (by omega)];omega
 have HE:=Hd (And.intro ei (And.intro ej ek))
 have HKK:=Hd hkk.symm
 have HPO0:=Hd hpo
 have HSO:=Hd hso
 have hkn:∀n:Nat,k<100:=fun _=>by omega
 clear hi hj hkey ei ej ek hkk R ha hb hpo hkn
 have hlk:∀n,(Instr.lookup 87 (.map (some pb)) (.int .i64 kk) false).run Tryz.prog (w.drewN n)=.ok (.pointer (some ⟨f kk,0,none⟩)) (w.drewN n):=fun n=>by
  obtain ⟨q,hq⟩:=hkks
  obtain ⟨_,hm,he⟩:=(PO.up ((Up.refl w).drewN n)).ptr hq
  rw [←he]
  exact hm.look (t:=87) (e:=90) Tryz.underlying2 Tryz.underlying87 (zero_pagepW _) (i:=kk) ⟨by omega,by omega⟩
 obtain ⟨U1,r1,u1_,U2,r2,u2_,U3,r3,u3_,pu,eBu⟩:=PO.pg above up hux
 obtain ⟨gk,ok,rfl,eu3,rk⟩:=pu.s3.addr1 one1_I (by omega)
 have gt1:w.cell? ⟨tb,1,none⟩=some (.map (some pb)):=PO.tab.cell 1
 have gu3:w.cell? ⟨f above,3,none⟩=some (.slice (some ⟨gk,ok,none⟩) up.2.2.2.length r3):=pu.box.cell 3
 have hck:w.cell? ⟨gk,ok+k,none⟩=some (.int .i64 kk):=by have h:=(rk.cell hat).1;rw [HKK.out] at h;exact h
 have POH:=Hd PO
 clear pu eu3 rk PO hkks eBu
 go_enter Tryz.func86,Tryz.ntmps86
 go_upto_region 0 with fail
 go_cut [6] (fun s wx=>s=.pointer (some ⟨f kk,0,none⟩)∧Up w wx)
 case first =>
  go_quiet (fail)
  go_wp2_with fail
  go_meet
  exact ⟨rfl,(Up.refl w).drewN _⟩
 clear gt1 gu3 hck hlk U1 r1 u1_ U2 r2 u2_ u3_ gk ok r3
 obtain ⟨rfl,hu⟩:=hcut
 have PO:=POH.out.up hu
 have HB:=Hd (show Below lo w wc from below_up hu hlo)
 replace hlo:lo≤wc.heap.size:=Nat.le_trans hlo hu.size
 clear POH hu
 obtain ⟨W1,hW1⟩:∃W1,W1=wc:=⟨_,rfl⟩
 rw [←hW1] at PO HB hlo ⊢
 clear hW1
 have hlki:∀n,(Instr.lookup 87 (.map (some pb)) (.int .i64 i) false).run Tryz.prog (W1.drewN n)=.ok (.pointer (some ⟨f i,0,none⟩)) (W1.drewN n):=fun n=>by
  obtain ⟨_,hm,he⟩:=(PO.up ((Up.refl W1).drewN n)).ptr hmx
  rw [←he]
  exact hm.look (t:=87) (e:=90) Tryz.underlying2 Tryz.underlying87 (zero_pagepW _) (i:=i) ⟨by omega,by omega⟩
 have hlkj:∀n,(Instr.lookup 87 (.map (some pb)) (.int .i64 j) false).run Tryz.prog (W1.drewN n)=.ok (.pointer (some ⟨f j,0,none⟩)) (W1.drewN n):=fun n=>by
  obtain ⟨_,hm,he⟩:=(PO.up ((Up.refl W1).drewN n)).ptr hmy
  rw [←he]
  exact hm.look (t:=87) (e:=90) Tryz.underlying2 Tryz.underlying87 (zero_pagepW _) (i:=j) ⟨by omega,by omega⟩
 obtain ⟨U1,r1,u1_,U2,r2,u2_,U3,r3,u3_,pu,eBu⟩:=PO.pg above up hux
 obtain ⟨gk,ok,rfl,eu3,rk⟩:=pu.s3.addr1 one1_I (by omega)
 have gt1:W1.cell? ⟨tb,1,none⟩=some (.map (some pb)):=PO.tab.cell 1
 have gu3:W1.cell? ⟨f above,3,none⟩=some (.slice (some ⟨gk,ok,none⟩) up.2.2.2.length r3):=pu.box.cell 3
 have hca:W1.cell? ⟨gk,ok+a,none⟩=some (.int .i64 i):=by have h:=(rk.cell hal).1;rw [HE.out.1] at h;exact h
 have hcb:W1.cell? ⟨gk,ok+b,none⟩=some (.int .i64 j):=by have h:=(rk.cell htwo).1;rw [HE.out.2.1] at h;exact h
 have POH:=Hd PO
 clear pu eu3 rk PO eBu
 go_upto_region 2 with fail
 go_cut [8,9] (fun s t wx=>s=.pointer (some ⟨f i,0,none⟩)∧t=.pointer (some ⟨f j,0,none⟩)∧Up W1 wx)
 case first =>
  go_quiet (fail)
  go_wp2_with fail
  go_meet
  exact ⟨rfl,rfl,(Up.refl W1).drewN _⟩
 clear gt1 gu3 hca hcb hlki hlkj U1 r1 u1_ U2 r2 u2_ u3_ gk ok r3
 obtain ⟨rfl,rfl,hu⟩:=hcut
 have PO:=POH.out.up hu
 replace HB:=Hd (below_trans HB.out (below_up hu hlo))
 replace hlo:lo≤wc.heap.size:=Nat.le_trans hlo hu.size
 clear POH hu
 obtain ⟨W2,hW2⟩:∃W2,W2=wc:=⟨_,rfl⟩
 rw [←hW2] at PO HB hlo ⊢
 clear hW2
 obtain ⟨q1,hq1e⟩:∃q1:Bool,q1=(decide (0<k)&&richP x):=⟨_,rfl⟩
 obtain ⟨q2,hq2e⟩:∃q2:Bool,q2=(decide (k=0)&&richP y):=⟨_,rfl⟩
 have CX:=Hd (c_rich lo (f i) x (B i) W2 (PO.pg i x hmx))
 have CY:=Hd (c_rich lo (f j) y (B j) W2 (PO.pg j y hmy))
 go_upto_region 8 with fail
 go_cut [142] (fun s wx=>s=.bool q1∧W2=wx)
 case first =>
  rcases Nat.eq_zero_or_pos k with hz | hz
  ·have e1:q1=false:=by rw [hq1e,hz];rfl
   have hk1:¬((0:Int)<(k:Int)):=by omega
   have E1:=Hd e1
   clear hz HK0 HKP hmr hml hq1e hq2e e1
   go_wp2_with fail
   go_meet
   exact ⟨by rw [E1.out],rfl⟩
  ·have e1:q1=richP x:=by rw [hq1e,decide_eq_true hz];rfl
   have hk1:(0:Int)<(k:Int):=by omega
   have E1:=Hd e1
   clear hz HK0 HKP hmr hml hq1e hq2e e1
   go_wp2_with (go_at_call 115;(with_reducible refine CX.out.mono ?_);rintro e w7 ⟨rfl,rfl⟩)
   go_meet
   exact ⟨by rw [E1.out],rfl⟩
 obtain ⟨rfl,rfl⟩:=hcut
 cases q1
 ·exfalso
  rw [decide_eq_true HC.out.1,show richP x=true from decide_eq_true HC.out.2] at hq1e
  cases hq1e
 ·have hc:=hq1e.symm
  simp only [Bool.and_eq_true,decide_eq_true_eq,richP] at hc
  have hsz:=hmr hc.2 hc.1
  have ekk:=(HKP hc.1).symm
  subst ekk
  have CF:=fun (V:World) (u:Up W2 V)=>c_fromLeft lo (f i) (f j) x y (B i) (B j) key V ((PO.pg i x hmx).up u) ((PO.pg j y hmy).up u) (PO.ap i j x y hmx hmy hn1) (Nat.le_trans hlo u.size) fx fy hsm hc.2 HSO.out.2 hkm
  have HIF:=Hd hc
  obtain ⟨M,hmv⟩:∃M,M=moveR x y key:=⟨_,rfl⟩
  rw [←hmv] at CF hsz
  have HMV:=Hd hmv
  clear hmv hmr hml HK0 HKP hq1e hq2e CX CY hc HPO0 HSO
  have PO1:=PO
  obtain ⟨U1,r1,u1_,U2,r2,u2_,U3,r3,u3_,pu,eBu⟩:=PO1.pg above up hux
  obtain ⟨gq,oq,rfl,eu1,rq⟩:=pu.s1.addr1 one1_S (by omega)
  obtain ⟨CC,tid,hbq,_,_⟩:=rq.blk
  have gu1:W2.cell? ⟨f above,1,none⟩=some (.slice (some ⟨gq,oq,none⟩) up.2.1.length r1):=pu.box.cell 1
  have hca:W2.cell? ⟨gq,oq+a,none⟩=some (.string key):=by have h:=(rq.cell hkl).1;rw [HE.out.2.2] at h;exact h
  have nB:∀q∈B i++B j,q∉f above::(u1_++u2_++u3_):=fun q hq hh=>by
   rw [←eBu] at hh
   rcases List.mem_append.1 hq with hq | hq
   ·exact PO.ap i above x up hmx hux hn2 q hq hh
   ·exact PO.ap j above y up hmy hux hn3 q hq hh
  have SK:∀V,Only (B i++B j) W2 V→(V.cell? ⟨f above,1,none⟩=some (.slice (some ⟨gq,oq,none⟩) up.2.1.length r1)∧V.cell? ⟨gq,oq+a,none⟩=some (.string key)):=fun V k=>⟨(pu.box.only k (fun h=>nB _ h (List.mem_cons_self ..))).cell 1,(World.cell?_of_block (k.block gq hbq.lt (fun h=>nB _ h (by rw [eu1];simp)))).trans hca⟩
  have SKH:=Hd SK
  have PUH:=Hd (And.intro pu (And.intro eBu (And.intro eu1 (And.intro nB hbq))))
  have POH:=Hd PO
  have CFH:=Hd (CF _ (Up.refl W2).drew)
  clear SK pu eBu eu1 nB hbq PO PO1 CF rq gu1 hca
  go_upto_region 9 with fail
  refine wp_region_U (fun W=>W.cell? ⟨f above,1,none⟩=some (.slice (some ⟨gq,oq,none⟩) up.2.1.length r1)∧W.cell? ⟨gq,oq+a,none⟩=some (.string key)) 15 (by kernel_rfl) ?_
  have hS:(fun W:World=>W.cell? ⟨f above,1,none⟩=some (.slice (some ⟨gq,oq,none⟩) up.2.1.length r1)∧W.cell? ⟨gq,oq+a,none⟩=some (.string key)) W2.drew:=SKH.out _ (Only.of_up (Up.refl W2).drew)
  try simp only [Act.put,sI,sZ,sS]
  refine tP 0 rfl (fun _ _ _ h=>h) hS ?_
  refine tP 1 rfl (fun _ _ _ h=>h) hS ?_
  refine tP 2 rfl (fun _ _ _ h=>h) hS ?_
  refine tL 3 rfl (fun _ _ _ h=>h) hS ?_
  refine tP 4 rfl (fun _ _ _ h=>h) hS ?_
  refine tP 5 rfl (fun _ _ _ h=>h) hS ?_
  refine tP 6 rfl (fun _ _ _ h=>h) hS ?_
  refine tP 7 rfl (fun _ _ _ h=>h) hS ?_
  refine tP 8 rfl (fun _ _ _ h=>h) hS ?_
  refine tP 9 rfl (fun _ _ _ h=>h) hS ?_
  refine tL 10 rfl (fun _ _ _ h=>h) hS ?_
  refine tP 11 rfl (fun _ _ _ h=>h) hS ?_
  refine tP 12 rfl (fun _ _ _ h=>h) hS ?_
  refine tL 13 rfl (fun _ _ _ h=>h) hS ?_
  refine rU [14] ?_
  refine AllReadyU.cons rfl (fun K hK=>?_) AllReadyU.nil
  go_simp
  refine CFH.out.mono ?_
  rintro e w1 ⟨rfl,T⟩
  have T0:Two W2 lo (B i++B j) w1 (f i) M.1 (f j) M.2.1:=by
   obtain ⟨lx,ly,h1,h2,h3,h4,h5⟩:=T
   exact ⟨lx,ly,h1,h2,h3,h4,⟨h5.os,h5.tape,h5.output,h5.size,h5.block⟩⟩
  obtain ⟨B2,PO2,hB2,on2⟩:=POH.out.two hn1 hmx hmy T0
  clear T T0 CFH
  go_wp2_with fail
  refine hK.out _ _ (SKH.out _ on2) (fun hS=>?_)
  clear hK K
  try simp only [Act.put,sI,sZ,sS]
  refine wpAnyU_line 1 (by as_aux_lemma=>kernel_rfl) rfl (by decide) ?_
  simp only [List.drop_succ_cons,List.drop_zero]
  obtain ⟨pu,eBu,eu1,nB,hbq⟩:=PUH.out
  have hb1:=hbq.only on2 (fun h=>nB _ h (by rw [eu1];simp))
  have gq1:w1.cell? ⟨gq,oq+a,none⟩=some (.string key):=hS.2
  have fq1:=hb1.frozen (oq+a)
  have gp1:w1.cell? ⟨f above,1,none⟩=some (.slice (some ⟨gq,oq,none⟩) up.2.1.length r1):=hS.1
  have pu1:=pu.only on2 (fun q hq hh=>nB q hh hq)
  have hsz2:M.2.2.size≤maxLen:=Nat.le_trans hsz (by unfold maxLen;omega)
  obtain ⟨B3,PO3,hB3,on3⟩:=PO2.put1 (i:=above) (x:=up) (by rw [setM_other _ _ hn2.symm,setM_other _ _ hn3.symm];exact hux) ((hB2 above hn2.symm hn3.symm).trans eBu) (pu1.setKey hkl hsz2)
  have hbe:=below_trans HB.out (below_trans (POH.out.bel hlo hmx hmy on2) (PO2.bel1 (Nat.le_trans hlo on2.size) (i:=above) (x:=up) (by rw [setM_other _ _ hn2.symm,setM_other _ _ hn3.symm];exact hux) on3))
  have HF:=Hd (And.intro PO3 hbe)
  clear pu eBu eu1 nB hbq hb1 pu1 PO2 PO3 hB2 hB3 on2 on3 hbe hS PUH POH SKH
  go_wp2_with fail
  refine bodyPost_end (v:=.tuple #[]) (by simp [results,Tryz.results86,go_sem]) rfl ?_
  refine ⟨rfl,⟨B3,?_⟩,HF.out.2⟩
  rw [HRF.out,if_pos HIF.out,←HMV.out]
  exact HF.out.1
theorem c_refillC {w:World} {lo tb pb:Nat} {root:Int} {m:PgM} {f:Int→Nat} {B:Int→List Nat} {above:Int} {k:Nat} {up x y:TPage} (PO:PagesO w lo tb pb root m f B) (hlo:lo≤w.heap.size) (R:Refills m above k up x y) (HC0:k=0∧3<fillOf y) :
 Calls Tryz.prog 86 #[.pointer (some ⟨tb,0,none⟩),.pointer (some ⟨f above,0,none⟩),.int .i64 (k:Int)] w (fun e w'=>e=.returned (.tuple #[])∧(∃B',PagesO w' lo tb pb root (refillP m above k up x y) f B')∧Below lo w w'):=by
 have hlo0:=hlo
 have HC:=Hd HC0
 clear HC0
 obtain ⟨i0,hi0,hz0,hz1,hz2⟩:=info_parts cinfo_StrZ
 obtain ⟨j0,hj0,hq0,hq1,hq2⟩:=info_parts cinfo_IntZ
 obtain ⟨hidU,fu⟩:=R.fine _ _ R.hup
 obtain ⟨hidX,fx⟩:=R.fine _ _ R.hx
 obtain ⟨hidY,fy⟩:=R.fine _ _ R.hy
 have hkl:=R.keyAt
 have htwo:=R.two
 have hat:=R.at_
 have hux:=R.hup
 have hmx:=R.hx
 have hmy:=R.hy
 have hn1:=R.ne1
 have hn2:=R.ne2
 have hn3:=R.ne3
 have hsm:=R.same
 have hpo:=R.poor
 have hso:=R.some
 have hfk:=R.fork
 obtain ⟨lu1,lu2,lu3⟩:=fine_lens fu
 obtain ⟨a,ha⟩:∃a,a=k-1:=⟨_,rfl⟩
 obtain ⟨b,hb⟩:∃b,b=k-1+1:=⟨_,rfl⟩
 obtain ⟨i,hi⟩:∃i,i=up.2.2.2.getD (k-1) 0:=⟨_,rfl⟩
 obtain ⟨j,hj⟩:∃j,j=up.2.2.2.getD (k-1+1) 0:=⟨_,rfl⟩
 obtain ⟨key,hkey⟩:∃key,key=up.2.1.getD (k-1) ⟨#[]⟩:=⟨_,rfl⟩
 have HR0:refillP m above k up x y=(if 0<k∧3<fillOf x then
  setM (setM (setM m j (some (moveR x y key).2.1)) i (some (moveR x y key).1)) above (some (up.1,up.2.1.set a (moveR x y key).2.2,up.2.2.1,up.2.2.2))
  else if k=0∧3<fillOf y then
   setM (setM (setM m j (some (moveL x y key).2.1)) i (some (moveL x y key).1)) above (some (up.1,up.2.1.set a (moveL x y key).2.2,up.2.2.1,up.2.2.2))
  else
   setM (setM (setM m j none) i (some (joinP x y key))) above (some (up.1,remAt up.2.1 a,up.2.2.1,remAt up.2.2.2 b))):=by
  rw [ha,hb,hi,hj,hkey]
  rfl
 obtain ⟨RF,hRF⟩:∃RF,RF=refillP m above k up x y:=⟨_,rfl⟩
 rw [←hRF] at HR0 ⊢
 clear hRF
 have HRF:=Hd HR0
 clear HR0
 rw [←hi] at hidX hmx hn1 hn2
 rw [←hj] at hidY hmy hn1 hn3
 rw [←ha] at hkl
 rw [←hb] at htwo
 have hal:a<up.2.2.2.length:=by omega
 have ei:up.2.2.2[a]=i:=by rw [hi,←ha,getD_inW hal]
 have ej:up.2.2.2[b]=j:=by rw [hj,←hb,getD_inW htwo]
 have ek:up.2.1[a]=key:=by rw [hkey,←ha,getD_inW hkl]
 obtain ⟨kk,hkk⟩:∃kk,kk=up.2.2.2[k]:=⟨_,rfl⟩
 have HK0:k=0→kk=i:=fun h=>by subst h;rw [hkk,←ei];simp only [ha]
 have HKP:0<k→kk=j:=fun h=>by
  have e:k=b:=by omega
  rw [hkk,←ej]
  simp only [e]
 have hkks:∃q,m kk=some q:=by
  rcases Nat.eq_zero_or_pos k with h | h
  ·exact ⟨x,by rw [HK0 h];exact hmx⟩
  ·exact ⟨y,by rw [HKP h];exact hmy⟩
 have hidK:1≤kk∧kk≤64:=by
  rcases Nat.eq_zero_or_pos k with h | h
  ·rw [HK0 h];exact hidX
  ·rw [HKP h];exact hidY
 have hkm:key.size≤maxLen:=by
  rw [←ek]
  exact Nat.le_trans (fu.keys _ (List.getElem_mem hkl)) (by unfold maxLen;omega)
 have hmr:=fun h:3<fillOf x=>fun h':0<k=>(moveR_fine (key:=key) fx fy hsm h (hpo.2 h') (by rw [←ek];exact fu.keys _ (List.getElem_mem hkl))).2.2
 have hml:=fun h:3<fillOf y=>fun h':k=0=>(moveL_fine (key:=key) fx fy hsm h (hpo.1 h') (by rw [←ek];exact fu.keys _ (List.getElem_mem hkl))).2.2
 have HAB:=Hd (And.intro ha hb)
 have hki:(k:Int)<(up.2.2.2.length:Int):=by omega
 have hk0:(0:Int)≤(k:Int):=by omega
 have hali:(a:Int)<(up.2.2.2.length:Int):=by omega
 have hbli:(b:Int)<(up.2.2.2.length:Int):=by omega
 have hkli:(a:Int)<(up.2.1.length:Int):=by omega
 have ha0:(0:Int)≤(a:Int):=by omega
 have hb0:(0:Int)≤(b:Int):=by omega
 have hw1:IntKind.i64.wrap ((k:Int)-1)=(k:Int)-1:=by rw [IntWalk.i64_in _ (by omega)]
 have hwm:max 0 ((k:Int)-1)=(a:Int):=by omega
 have hw2:IntKind.i64.wrap ((a:Int)+1)=(b:Int):=by rw [IntWalk.i64_in _ (by omega)];omega
 have hw3:IntKind.i64.wrap ((a:Int)+2)=(b:Int)+1:=by rw [IntWalk.i64_in _ (by omega)];omega
 have HE:=Hd (And.intro ei (And.intro ej ek))
 have HKK:=Hd hkk.symm
 have HPO0:=Hd hpo
 have HSO:=Hd hso
 have hkn:∀n:Nat,k<100:=fun _=>by omega
 clear hi hj hkey ei ej ek hkk R ha hb hpo hkn
 have hlk:∀n,(Instr.lookup 87 (.map (some pb)) (.int .i64 kk) false).run Tryz.prog (w.drewN n)=.ok (.pointer (some ⟨f kk,0,none⟩)) (w.drewN n):=fun n=>by
  obtain ⟨q,hq⟩:=hkks
  obtain ⟨_,hm,he⟩:=(PO.up ((Up.refl w).drewN n)).ptr hq
  rw [←he]
  exact hm.look (t:=87) (e:=90) Tryz.underlying2 Tryz.underlying87 (zero_pagepW _) (i:=kk) ⟨by omega,by omega⟩
 obtain ⟨U1,r1,u1_,U2,r2,u2_,U3,r3,u3_,pu,eBu⟩:=PO.pg above up hux
 obtain ⟨gk,ok,rfl,eu3,rk⟩:=pu.s3.addr1 one1_I (by omega)
 have gt1:w.cell? ⟨tb,1,none⟩=some (.map (some pb)):=PO.tab.cell 1
 have gu3:w.cell? ⟨f above,3,none⟩=some (.slice (some ⟨gk,ok,none⟩) up.2.2.2.length r3):=pu.box.cell 3
 have hck:w.cell? ⟨gk,ok+k,none⟩=some (.int .i64 kk):=by have h:=(rk.cell hat).1;rw [HKK.out] at h;exact h
 have POH:=Hd PO
 clear pu eu3 rk PO hkks eBu
 go_enter Tryz.func86,Tryz.ntmps86
 go_upto_region 0 with fail
 go_cut [6] (fun s wx=>s=.pointer (some ⟨f kk,0,none⟩)∧Up w wx)
 case first =>
  go_quiet (fail)
  go_wp2_with fail
  go_meet
  exact ⟨rfl,(Up.refl w).drewN _⟩
 clear gt1 gu3 hck hlk U1 r1 u1_ U2 r2 u2_ u3_ gk ok r3
 obtain ⟨rfl,hu⟩:=hcut
 have PO:=POH.out.up hu
 have HB:=Hd (show Below lo w wc from below_up hu hlo)
 replace hlo:lo≤wc.heap.size:=Nat.le_trans hlo hu.size
 clear POH hu
 obtain ⟨W1,hW1⟩:∃W1,W1=wc:=⟨_,rfl⟩
 rw [←hW1] at PO HB hlo ⊢
 clear hW1
 have hlki:∀n,(Instr.lookup 87 (.map (some pb)) (.int .i64 i) false).run Tryz.prog (W1.drewN n)=.ok (.pointer (some ⟨f i,0,none⟩)) (W1.drewN n):=fun n=>by
  obtain ⟨_,hm,he⟩:=(PO.up ((Up.refl W1).drewN n)).ptr hmx
  rw [←he]
  exact hm.look (t:=87) (e:=90) Tryz.underlying2 Tryz.underlying87 (zero_pagepW _) (i:=i) ⟨by omega,by omega⟩
 have hlkj:∀n,(Instr.lookup 87 (.map (some pb)) (.int .i64 j) false).run Tryz.prog (W1.drewN n)=.ok (.pointer (some ⟨f j,0,none⟩)) (W1.drewN n):=fun n=>by
  obtain ⟨_,hm,he⟩:=(PO.up ((Up.refl W1).drewN n)).ptr hmy
  rw [←he]
  exact hm.look (t:=87) (e:=90) Tryz.underlying2 Tryz.underlying87 (zero_pagepW _) (i:=j) ⟨by omega,by omega⟩
 obtain ⟨U1,r1,u1_,U2,r2,u2_,U3,r3,u3_,pu,eBu⟩:=PO.pg above up hux
 obtain ⟨gk,ok,rfl,eu3,rk⟩:=pu.s3.addr1 one1_I (by omega)
 have gt1:W1.cell? ⟨tb,1,none⟩=some (.map (some pb)):=PO.tab.cell 1
 have gu3:W1.cell? ⟨f above,3,none⟩=some (.slice (some ⟨gk,ok,none⟩) up.2.2.2.length r3):=pu.box.cell 3
 have hca:W1.cell? ⟨gk,ok+a,none⟩=some (.int .i64 i):=by have h:=(rk.cell hal).1;rw [HE.out.1] at h;exact h
 have hcb:W1.cell? ⟨gk,ok+b,none⟩=some (.int .i64 j):=by have h:=(rk.cell htwo).1;rw [HE.out.2.1] at h;exact h
 have POH:=Hd PO
 clear pu eu3 rk PO eBu
 go_upto_region 2 with fail
 go_cut [8,9] (fun s t wx=>s=.pointer (some ⟨f i,0,none⟩)∧t=.pointer (some ⟨f j,0,none⟩)∧Up W1 wx)
 case first =>
  go_quiet (fail)
  go_wp2_with fail
  go_meet
  exact ⟨rfl,rfl,(Up.refl W1).drewN _⟩
 clear gt1 gu3 hca hcb hlki hlkj U1 r1 u1_ U2 r2 u2_ u3_ gk ok r3
 obtain ⟨rfl,rfl,hu⟩:=hcut
 have PO:=POH.out.up hu
 replace HB:=Hd (below_trans HB.out (below_up hu hlo))
 replace hlo:lo≤wc.heap.size:=Nat.le_trans hlo hu.size
 clear POH hu
 obtain ⟨W2,hW2⟩:∃W2,W2=wc:=⟨_,rfl⟩
 rw [←hW2] at PO HB hlo ⊢
 clear hW2
 obtain ⟨q1,hq1e⟩:∃q1:Bool,q1=(decide (0<k)&&richP x):=⟨_,rfl⟩
 obtain ⟨q2,hq2e⟩:∃q2:Bool,q2=(decide (k=0)&&richP y):=⟨_,rfl⟩
 have CX:=Hd (c_rich lo (f i) x (B i) W2 (PO.pg i x hmx))
 have CY:=Hd (c_rich lo (f j) y (B j) W2 (PO.pg j y hmy))
 go_upto_region 8 with fail
 go_cut [142] (fun s wx=>s=.bool q1∧W2=wx)
 case first =>
  rcases Nat.eq_zero_or_pos k with hz | hz
  ·have e1:q1=false:=by rw [hq1e,hz];rfl
   have hk1:¬((0:Int)<(k:Int)):=by omega
   have E1:=Hd e1
   clear hz HK0 HKP hmr hml hq1e hq2e e1
   go_wp2_with fail
   go_meet
   exact ⟨by rw [E1.out],rfl⟩
  ·have e1:q1=richP x:=by rw [hq1e,decide_eq_true hz];rfl
   have hk1:(0:Int)<(k:Int):=by omega
   have E1:=Hd e1
   clear hz HK0 HKP hmr hml hq1e hq2e e1
   go_wp2_with (go_at_call 115;(with_reducible refine CX.out.mono ?_);rintro e w7 ⟨rfl,rfl⟩)
   go_meet
   exact ⟨by rw [E1.out],rfl⟩
 obtain ⟨rfl,rfl⟩:=hcut
 cases q1
 ·go_upto_region 10 with fail
  go_cut [2,165] (fun s2 s wx=>s2=.int .i64 (k:Int)∧s=.bool q2∧W2=wx)
  case first =>
   rcases Nat.eq_zero_or_pos k with hz | hz
   ·have e1:q2=richP y:=by rw [hq2e,hz];rfl
    have hk1:(k:Int)=0:=by omega
    have hk2:decide ((k:Int)=0)=true:=by rw [hk1];rfl
    have E1:=Hd e1
    clear hz HK0 HKP hmr hml hq1e hq2e e1
    go_wp2_with (go_at_call 115;(with_reducible refine CY.out.mono ?_);rintro e w7 ⟨rfl,rfl⟩)
    go_meet
    exact ⟨by rw [hk1],by rw [E1.out],rfl⟩
   ·have e1:q2=false:=by rw [hq2e,decide_eq_false (by omega)];rfl
    have hk1:¬((k:Int)=0):=by omega
    have E1:=Hd e1
    clear hz HK0 HKP hmr hml hq1e hq2e e1
    go_wp2_with fail
    go_meet
    exact ⟨rfl,by rw [E1.out],rfl⟩
  obtain ⟨rfl,rfl,rfl⟩:=hcut
  cases q2
  ·exfalso
   rw [decide_eq_true HC.out.1,show richP y=true from decide_eq_true HC.out.2] at hq2e
   cases hq2e
  ·have hc:=hq2e.symm
   simp only [Bool.and_eq_true,decide_eq_true_eq,richP] at hc
   have hsz:=hml hc.2 hc.1
   have ekk:=(HK0 hc.1).symm
   subst ekk
   have CF:=fun (V:World) (u:Up W2 V)=>c_fromRight lo (f i) (f j) x y (B i) (B j) key V ((PO.pg i x hmx).up u) ((PO.pg j y hmy).up u) (PO.ap i j x y hmx hmy hn1) (Nat.le_trans hlo u.size) fx fy hsm hc.2 HSO.out.1 hkm
   have HIF:=Hd hc
   obtain ⟨M,hmv⟩:∃M,M=moveL x y key:=⟨_,rfl⟩
   rw [←hmv] at CF hsz
   have HMV:=Hd hmv
   have HIN:=Hd (show ¬(0<k∧3<fillOf x) by omega)
   clear hmv hmr hml HK0 HKP hq1e hq2e CX CY hc HPO0 HSO
   have PO1:=PO
   obtain ⟨U1,r1,u1_,U2,r2,u2_,U3,r3,u3_,pu,eBu⟩:=PO1.pg above up hux
   obtain ⟨gq,oq,rfl,eu1,rq⟩:=pu.s1.addr1 one1_S (by omega)
   obtain ⟨CC,tid,hbq,_,_⟩:=rq.blk
   have gu1:W2.cell? ⟨f above,1,none⟩=some (.slice (some ⟨gq,oq,none⟩) up.2.1.length r1):=pu.box.cell 1
   have hca:W2.cell? ⟨gq,oq+a,none⟩=some (.string key):=by have h:=(rq.cell hkl).1;rw [HE.out.2.2] at h;exact h
   have nB:∀q∈B i++B j,q∉f above::(u1_++u2_++u3_):=fun q hq hh=>by
    rw [←eBu] at hh
    rcases List.mem_append.1 hq with hq | hq
    ·exact PO.ap i above x up hmx hux hn2 q hq hh
    ·exact PO.ap j above y up hmy hux hn3 q hq hh
   have SK:∀V,Only (B i++B j) W2 V→(V.cell? ⟨f above,1,none⟩=some (.slice (some ⟨gq,oq,none⟩) up.2.1.length r1)∧V.cell? ⟨gq,oq+a,none⟩=some (.string key)):=fun V k=>⟨(pu.box.only k (fun h=>nB _ h (List.mem_cons_self ..))).cell 1,(World.cell?_of_block (k.block gq hbq.lt (fun h=>nB _ h (by rw [eu1];simp)))).trans hca⟩
   have SKH:=Hd SK
   have PUH:=Hd (And.intro pu (And.intro eBu (And.intro eu1 (And.intro nB hbq))))
   have POH:=Hd PO
   have CFH:=Hd (CF _ (Up.refl W2).drew)
   clear SK pu eBu eu1 nB hbq PO PO1 CF rq gu1 hca
   go_upto_region 11 with fail
   refine wp_region_U (fun W=>W.cell? ⟨f above,1,none⟩=some (.slice (some ⟨gq,oq,none⟩) up.2.1.length r1)∧W.cell? ⟨gq,oq+a,none⟩=some (.string key)) 15 (by kernel_rfl) ?_
   have hS:(fun W:World=>W.cell? ⟨f above,1,none⟩=some (.slice (some ⟨gq,oq,none⟩) up.2.1.length r1)∧W.cell? ⟨gq,oq+a,none⟩=some (.string key)) W2.drew:=SKH.out _ (Only.of_up (Up.refl W2).drew)
   try simp only [Act.put,sI,sZ,sS]
   refine tP 0 rfl (fun _ _ _ h=>h) hS ?_
   refine tP 1 rfl (fun _ _ _ h=>h) hS ?_
   refine tP 2 rfl (fun _ _ _ h=>h) hS ?_
   refine tL 3 rfl (fun _ _ _ h=>h) hS ?_
   refine tP 4 rfl (fun _ _ _ h=>h) hS ?_
   refine tP 5 rfl (fun _ _ _ h=>h) hS ?_
   refine tP 6 rfl (fun _ _ _ h=>h) hS ?_
   refine tP 7 rfl (fun _ _ _ h=>h) hS ?_
   refine tP 8 rfl (fun _ _ _ h=>h) hS ?_
   refine tP 9 rfl (fun _ _ _ h=>h) hS ?_
   refine tL 10 rfl (fun _ _ _ h=>h) hS ?_
   refine tP 11 rfl (fun _ _ _ h=>h) hS ?_
   refine tP 12 rfl (fun _ _ _ h=>h) hS ?_
   refine tL 13 rfl (fun _ _ _ h=>h) hS ?_
   refine rU [14] ?_
   refine AllReadyU.cons rfl (fun K hK=>?_) AllReadyU.nil
   go_simp
   refine CFH.out.mono ?_
   rintro e w1 ⟨rfl,T⟩
   have T0:Two W2 lo (B i++B j) w1 (f i) M.1 (f j) M.2.1:=by
    obtain ⟨lx,ly,h1,h2,h3,h4,h5⟩:=T
    exact ⟨lx,ly,h1,h2,h3,h4,⟨h5.os,h5.tape,h5.output,h5.size,h5.block⟩⟩
   obtain ⟨B2,PO2,hB2,on2⟩:=POH.out.two hn1 hmx hmy T0
   clear T T0 CFH
   go_wp2_with fail
   refine hK.out _ _ (SKH.out _ on2) (fun hS=>?_)
   clear hK K
   try simp only [Act.put,sI,sZ,sS]
   refine wpAnyU_line 1 (by as_aux_lemma=>kernel_rfl) rfl (by decide) ?_
   simp only [List.drop_succ_cons,List.drop_zero]
   obtain ⟨pu,eBu,eu1,nB,hbq⟩:=PUH.out
   have hb1:=hbq.only on2 (fun h=>nB _ h (by rw [eu1];simp))
   have gq1:w1.cell? ⟨gq,oq+a,none⟩=some (.string key):=hS.2
   have fq1:=hb1.frozen (oq+a)
   have gp1:w1.cell? ⟨f above,1,none⟩=some (.slice (some ⟨gq,oq,none⟩) up.2.1.length r1):=hS.1
   have pu1:=pu.only on2 (fun q hq hh=>nB q hh hq)
   have hsz2:M.2.2.size≤maxLen:=Nat.le_trans hsz (by unfold maxLen;omega)
   obtain ⟨B3,PO3,hB3,on3⟩:=PO2.put1 (i:=above) (x:=up) (by rw [setM_other _ _ hn2.symm,setM_other _ _ hn3.symm];exact hux) ((hB2 above hn2.symm hn3.symm).trans eBu) (pu1.setKey hkl hsz2)
   have hbe:=below_trans HB.out (below_trans (POH.out.bel hlo hmx hmy on2) (PO2.bel1 (Nat.le_trans hlo on2.size) (i:=above) (x:=up) (by rw [setM_other _ _ hn2.symm,setM_other _ _ hn3.symm];exact hux) on3))
   have HF:=Hd (And.intro PO3 hbe)
   clear pu eBu eu1 nB hbq hb1 pu1 PO2 PO3 hB2 hB3 on2 on3 hbe hS PUH POH SKH
   go_wp2_with fail
   refine bodyPost_end (v:=.tuple #[]) (by simp [results,Tryz.results86,go_sem]) rfl ?_
   refine ⟨rfl,⟨B3,?_⟩,HF.out.2⟩
   rw [HRF.out,if_neg HIN.out,if_pos HIF.out,←HMV.out]
   exact HF.out.1
 ·exact absurd (by have h:=hq1e.symm;simpa [richP] using h) (show ¬(0<k∧3<fillOf x) from fun h=>by have:=HC.out.1;omega)
end Go.Proofs.YtojmcmghmnfjeaaGreatDoor
