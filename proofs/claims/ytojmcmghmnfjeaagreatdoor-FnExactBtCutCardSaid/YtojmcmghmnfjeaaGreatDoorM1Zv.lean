/-
 Parts of the proof.
-/
import Derived.Test.YtojmcmghmnfjeaaGreatDoorM1Zu
import Derived.Test.YtojmcmghmnfjeaaGreatDoorM1Yw
set_option maxHeartbeats 32000000
set_option maxRecDepth 100000
namespace Go.Proofs.YtojmcmghmnfjeaaGreatDoor
open Go Go.RowKit
set_option linter.unusedVariables false
set_option linter.unusedSimpArgs false
theorem PgK.cells {g:Nat} {w:World} {v:Value} {p:TPage} (h:PgK g w v p):∃(A1:Option Addr) (c1:Nat) (A2:Option Addr) (c2:Nat) (A3:Option Addr) (c3:Nat),v=.agg #[.bool p.1,.slice A1 p.2.1.length c1,.slice A2 p.2.2.1.length c2,.slice A3 p.2.2.2.length c3]:=by
 obtain ⟨A1,c1,A2,c2,A3,c3,hv,_⟩:=h.rows
 exact ⟨A1,c1,A2,c2,A3,c3,hv⟩
theorem PgN.cells {L:List Nat} {w:World} {C:Array Value} {p:TPage} (h:PgN L w (.agg C) p):∃(A1:Option Addr) (c1:Nat) (A2:Option Addr) (c2:Nat) (A3:Option Addr) (c3:Nat),C=#[.bool p.1,.slice A1 p.2.1.length c1,.slice A2 p.2.2.1.length c2,.slice A3 p.2.2.2.length c3]:=by
 obtain ⟨A1,c1,A2,c2,A3,c3,hv,_⟩:=h
 injection hv with hv
 exact ⟨A1,c1,A2,c2,A3,c3,hv⟩
theorem PgR.setKeyV {w:World} {lo b:Nat} {p:TPage} {A2 A3:Option Addr} {g off c1 c2 c3:Nat} {b1 b2 b3:List Nat} (h:PgR w lo b (pgC p (some ⟨g,off,none⟩) c1 A2 c2 A3 c3) p (some ⟨g,off,none⟩) c1 b1 A2 c2 b2 A3 c3 b3) (hb1:b1.Nodup) {k:Nat} (hk:k<p.2.1.length) {s:ByteArray} (hs:s.size≤maxLen) :
 PgR (w.setCell ⟨g,off+k,none⟩ (.string s)) lo b (pgC (p.1,p.2.1.set k s,p.2.2.1,p.2.2.2) (some ⟨g,off,none⟩) c1 A2 c2 A3 c3) (p.1,p.2.1.set k s,p.2.2.1,p.2.2.2) (some ⟨g,off,none⟩) c1 b1 A2 c2 b2 A3 c3 b3:=by
 obtain ⟨s1,s2⟩:=h.s1.set1 one1_S hk hs
 have S1:=(PgR.start h).row1 s1 hb1 (fun q hq=>.inl hq) s2
 have e:pgC (p.1,p.2.1.set k s,p.2.2.1,p.2.2.2) (some ⟨g,off,none⟩) c1 A2 c2 A3 c3=pgC p (some ⟨g,off,none⟩) c1 A2 c2 A3 c3:=by simp [pgC]
 rw [e]
 exact S1.pg
theorem PgR.k {w:World} {lo b:Nat} {C:Array Value} {p:TPage} {A1 A2 A3:Option Addr} {c1 c2 c3:Nat} {b1 b2 b3:List Nat} (h:PgR w lo b C p A1 c1 b1 A2 c2 b2 A3 c3 b3) {g:Nat} (hg:g<lo):PgK g w (.agg #[.bool p.1,.slice A1 p.2.1.length c1,.slice A2 p.2.2.1.length c2,.slice A3 p.2.2.2.length c3]) p:=by
 have hn:∀q∈b::(b1++b2++b3),q≠g:=fun q hq e=>by have:=(h.in_ q hq).1;omega
 exact PgK.of_rows (RowP.of_own good_S h.s1 fun hm=>hn g (by simp [hm]) rfl) (RowP.of_own good_S h.s2 fun hm=>hn g (by simp [hm]) rfl) (RowP.of_own good_I h.s3 fun hm=>hn g (by simp [hm]) rfl)
theorem PgR.onlyG {w w':World} {lo b:Nat} {C:Array Value} {p:TPage} {A1 A2 A3:Option Addr} {c1 c2 c3:Nat} {b1 b2 b3:List Nat} (h:PgR w lo b C p A1 c1 b1 A2 c2 b2 A3 c3 b3) {g:Nat} (hg:g<lo) (k:Only [g] w w'):PgR w' lo b C p A1 c1 b1 A2 c2 b2 A3 c3 b3 :=
 h.only k fun q hq hm=>by have:=(h.in_ q hq).1;have:=List.mem_singleton.1 hm;omega
theorem PgR.butF {w w':World} {lo b b':Nat} {C:Array Value} {p:TPage} {A1 A2 A3:Option Addr} {c1 c2 c3:Nat} {b1 b2 b3:List Nat} (h:PgR w lo b C p A1 c1 b1 A2 c2 b2 A3 c3 b3) (hb:∀q∈b::(b1++b2++b3),q≠b') (k:But b' w w'):PgR w' lo b C p A1 c1 b1 A2 c2 b2 A3 c3 b3 :=
 h.only (gs:=[b']) ((Only.refl _ _).but k (by simp)) fun q hq hm=>hb q hq (List.mem_singleton.1 hm)
theorem moveR_kids {x y:TPage} {key:ByteArray} (hx:Fine x) (hy:Fine y) (he:x.1=y.1) (hr:3<fillOf x) (h2:2≤fillOf y):(moveR x y key).1.2.2.2.length≠1∧(moveR x y key).2.1.2.2.2.length≠1:=by
 unfold moveR
 cases hl:x.1
 ·have hly:y.1=false:=he▸hl
  rw [fill_fork hl] at hr
  rw [fill_fork hly] at h2
  obtain ⟨a1,_⟩:=hx.fork hl
  rw [if_neg (by decide)]
  dsimp only
  rw [List.length_take,List.length_cons]
  omega
 ·have hly:y.1=true:=he▸hl
  rw [if_pos rfl]
  dsimp only
  rw [(hx.leaf hl).2,(hy.leaf hly).2]
  decide
theorem moveL_kids {x y:TPage} {key:ByteArray} (hx:Fine x) (hy:Fine y) (he:x.1=y.1) (hr:3<fillOf y) (h2:2≤fillOf x):(moveL x y key).1.2.2.2.length≠1∧(moveL x y key).2.1.2.2.2.length≠1:=by
 unfold moveL
 cases hl:x.1
 ·have hly:y.1=false:=he▸hl
  rw [fill_fork hly] at hr
  rw [fill_fork hl] at h2
  rw [if_neg (by decide)]
  dsimp only
  rw [List.length_append,List.length_drop]
  simp only [List.length_cons,List.length_nil]
  omega
 ·have hly:y.1=true:=he▸hl
  rw [if_pos rfl]
  dsimp only
  rw [(hx.leaf hl).2,(hy.leaf hly).2]
  decide
theorem three_sets {l:List TSlot} (h:IdsP l) {i j above:Int} {x y up:TPage} (hi:1≤i∧i≤64) (hj:1≤j∧j≤64) (ha:1≤above∧above≤64):IdsP (setL above up (setL i x (setL j y l)))∧atL (setL above up (setL i x (setL j y l)))=setM (setM (setM (atL l) j (some y)) i (some x)) above (some up):=by
 have h1:=(setL_mem (p:=y) h hj.1 hj.2).1
 have h2:=(setL_mem (p:=x) h1 hi.1 hi.2).1
 exact ⟨(setL_mem (p:=up) h2 ha.1 ha.2).1,by rw [setL_at h2 ha.1 ha.2,setL_at h1 hi.1 hi.2,setL_at h hj.1 hj.2]⟩
theorem drop_sets {l:List TSlot} (h:IdsP l) {i j above:Int} {x up:TPage} (hi:1≤i∧i≤64) (ha:1≤above∧above≤64):IdsP (setL above up (setL i x (dropL j l)))∧atL (setL above up (setL i x (dropL j l)))=setM (setM (setM (atL l) j none) i (some x)) above (some up):=by
 have h1:=dropL_ids h j
 have h2:=(setL_mem (p:=x) h1 hi.1 hi.2).1
 exact ⟨(setL_mem (p:=up) h2 ha.1 ha.2).1,by rw [setL_at h2 ha.1 ha.2,setL_at h1 hi.1 hi.2,dropL_at h]⟩
theorem only_new {gs:List Nat} {w a c:World} {b:Nat} (h:Only gs w a) (k:But b a c) (hb:w.heap.size≤b):Only gs w c:=⟨k.os.trans h.os,k.tape.trans h.tape,k.output.trans h.output,by rw [k.size];exact h.size,fun i hi hn=>(k.block i (by omega)).trans (h.block i hi hn)⟩
theorem RowK.butP {g b:Nat} {w w':World} {A:Option Addr} {c:Nat} {l:List TSlot} {t:TypeId} {C:Array Value} (h:RowK shSlot g w A c l) (k:Bk w b t C) (hC:IsPg C) (hb:b≠g) (bt:But b w w'):RowK shSlot g w' A c l:=by
 refine ⟨⟨h.1.1,h.1.2.1,fun hp=>?_⟩,h.2⟩
 obtain ⟨gb,off,hA,q1,q2,q3⟩:=h.1.2.2 hp
 have hgb:gb≠b:=by
  obtain ⟨cs,hc,hr⟩:=q3 0 hp
  obtain ⟨ds,rfl,_,_⟩:=page_kept hr
  intro e
  subst e
  have h4:=hc.2 0 (show 0<5 by decide)
  rw [k.cell] at h4
  exact hC.i _ _ h4
 refine ⟨gb,off,hA,q1,by rw [bt.size];exact q2,fun i hi=>?_⟩
 obtain ⟨cs,hc,hr⟩:=q3 i hi
 refine ⟨cs,⟨hc.1,fun j hj=>(World.cell?_of_block (bt.block gb hgb)).trans (hc.2 j hj)⟩,fun V kv=>?_⟩
 have hbl:=k.lt
 have hsz:=kv.size
 have hs2:=bt.size
 obtain ⟨V0,hV0⟩:∃V0:World,V0={ V with heap:=V.heap.setIfInBounds b (.cells C t (0,0)) }:=⟨_,rfl⟩
 have kb:Bk V0 b t C:=by
  unfold Bk
  rw [hV0]
  exact Array.getElem?_setIfInBounds_self_of_lt (by omega)
 have hne:∀i,i≠b→V0.heap[i]?=V.heap[i]?:=fun i hi=>by
  rw [hV0]
  exact Array.getElem?_setIfInBounds_ne (Ne.symm hi)
 have hz:V0.heap.size=V.heap.size:=by rw [hV0];simp
 have e1:V0.os=V.os:=by rw [hV0]
 have e2:V0.tape=V.tape:=by rw [hV0]
 have e3:V0.output=V.output:=by rw [hV0]
 have o0:Only [g] w V0:=⟨e1.trans (kv.os.trans bt.os),e2.trans (kv.tape.trans bt.tape),e3.trans (kv.output.trans bt.output),by omega,fun i hi hn=>by
  by_cases e:i=b
  ·subst e;exact kb.trans k.symm
  ·exact (hne i e).trans ((kv.block i (by omega) hn).trans (bt.block i e))⟩
 have o1:Only [b] V0 V:=⟨e1.symm,e2.symm,e3.symm,by omega,fun i hi hn=>(hne i (fun e=>hn (by simp [e]))).symm⟩
 obtain ⟨A2,c2,A3,c3,A4,c4,rfl,b0,s1,s2,s3⟩:=openSlot (hr V0 o0)
 exact mkSlot b0 (s1.outside repS_any (away_S s1 kb hC.t) o1) (s2.outside repS_any (away_S s2 kb hC.t) o1) (s3.outside repI_any (away_I s3 kb hC.i) o1)
theorem StR.butP {g b:Nat} {root:Int} {w w':World} {l:List TSlot} {t:TypeId} {C:Array Value} (h:StR w g root l) (k:Bk w b t C) (hC:IsPg C) (hb:b≠g) (bt:But b w w'):StR w' g root l:=by
 obtain ⟨A,c,h1,h2,h3⟩:=h
 exact ⟨A,c,h1.butM bt (Ne.symm hb),h2.butP k hC hb bt,h3⟩
def FillP (g:Nat) (root:Int) (m:PgM) (w:World) (e:Ending) (w':World):Prop:=e=.returned (.tuple #[])∧(∃l',StR w' g root l'∧IdsP l'∧atL l'=m)∧Only [g] w w'
theorem c_l16Fill {w:World} {g:Nat} {root:Int} {l:List TSlot} {above:Int} {k:Nat} {up x y:TPage} (hs:StR w g root l) (hl:IdsP l) (R:Refills (atL l) above k up x y) :
 Calls Tryz.prog 38 #[.pointer (some ⟨g,0,none⟩),.int .i64 above,.int .i64 (k:Int)] w (FillP g root (refillP (atL l) above k up x y) w):=by
 obtain ⟨i0,hi0,hz0,hz1,hz2⟩:=info_parts cinfo_StrY
 obtain ⟨hidU,fu⟩:=R.fine _ _ R.hup
 obtain ⟨hidX,fx⟩:=R.fine _ _ R.hx
 obtain ⟨hidY,fy⟩:=R.fine _ _ R.hy
 have hkl:=R.keyAt
 have htwo:=R.two
 have hat:=R.at_
 have hux:=R.hup
 have hmx:=R.hx
 have hmy:=R.hy
 have hn1:=R.ne1
 have hn2:=R.ne2
 have hn3:=R.ne3
 have hsm:=R.same
 have hpo:=R.poor
 have hso:=R.some
 obtain ⟨lu1,lu2,lu3⟩:=fine_lens fu
 obtain ⟨a,ha⟩:∃a,a=k-1:=⟨_,rfl⟩
 obtain ⟨b,hb⟩:∃b,b=k-1+1:=⟨_,rfl⟩
 obtain ⟨i,hi⟩:∃i,i=up.2.2.2.getD (k-1) 0:=⟨_,rfl⟩
 obtain ⟨j,hj⟩:∃j,j=up.2.2.2.getD (k-1+1) 0:=⟨_,rfl⟩
 obtain ⟨key,hkey⟩:∃key,key=up.2.1.getD (k-1) ⟨#[]⟩:=⟨_,rfl⟩
 have HR0:refillP (atL l) above k up x y=(if 0<k∧3<fillOf x then
  setM (setM (setM (atL l) j (some (moveR x y key).2.1)) i (some (moveR x y key).1)) above (some (up.1,up.2.1.set a (moveR x y key).2.2,up.2.2.1,up.2.2.2))
  else if k=0∧3<fillOf y then
   setM (setM (setM (atL l) j (some (moveL x y key).2.1)) i (some (moveL x y key).1)) above (some (up.1,up.2.1.set a (moveL x y key).2.2,up.2.2.1,up.2.2.2))
  else
   setM (setM (setM (atL l) j none) i (some (joinP x y key))) above (some (up.1,remAt up.2.1 a,up.2.2.1,remAt up.2.2.2 b))):=by
  rw [ha,hb,hi,hj,hkey]
  rfl
 obtain ⟨RF,hRF⟩:∃RF,RF=refillP (atL l) above k up x y:=⟨_,rfl⟩
 rw [←hRF] at HR0 ⊢
 clear hRF
 have HRF:=Hd HR0
 clear HR0
 rw [←hi] at hidX hmx hn1 hn2
 rw [←hj] at hidY hmy hn1 hn3
 rw [←ha] at hkl
 rw [←hb] at htwo
 have hal:a<up.2.2.2.length:=by omega
 have ei:up.2.2.2[a]=i:=by rw [hi,←ha,getD_inW hal]
 have ej:up.2.2.2[b]=j:=by rw [hj,←hb,getD_inW htwo]
 have ek:up.2.1[a]=key:=by rw [hkey,←ha,getD_inW hkl]
 have hkm:key.size≤maxLen:=by
  rw [←ek]
  exact Nat.le_trans (fu.keys _ (List.getElem_mem hkl)) (by unfold maxLen;omega)
 have hmr:=fun h:3<fillOf x=>fun h':0<k=>(moveR_fine (key:=key) fx fy hsm h (hpo.2 h') (by rw [←ek];exact fu.keys _ (List.getElem_mem hkl))).2.2
 have hml:=fun h:3<fillOf y=>fun h':k=0=>(moveL_fine (key:=key) fx fy hsm h (hpo.1 h') (by rw [←ek];exact fu.keys _ (List.getElem_mem hkl))).2.2
 have HSM:=Hd hsm
 have HAB:=Hd (And.intro ha hb)
 clear hsm
 have hk0:(0:Int)≤(k:Int):=by omega
 have hali:(a:Int)<(up.2.2.2.length:Int):=by omega
 have hbli:(b:Int)<(up.2.2.2.length:Int):=by omega
 have hkli:(a:Int)<(up.2.1.length:Int):=by omega
 have ha0:(0:Int)≤(a:Int):=by omega
 have hb0:(0:Int)≤(b:Int):=by omega
 have hw2:IntKind.i64.wrap ((a:Int)+1)=(b:Int):=by rw [IntWalk.i64_in _ (by omega)];omega
 have HE:=Hd (And.intro ei (And.intro ej ek))
 have HPO0:=Hd hpo
 have HSO:=Hd hso
 have HFI:=Hd (And.intro fu (And.intro fx fy))
 have HID:=Hd (And.intro hidX (And.intro hidY hidU))
 have HLI:=Hd hl
 have hII:I64 i:=⟨by omega,by omega⟩
 have hIJ:I64 j:=⟨by omega,by omega⟩
 have hIU:I64 above:=⟨by omega,by omega⟩
 have HST:=Hd hs
 have HLK:=Hd (And.intro hmx hmy)
 have hk8:(k:Int)<8:=by omega
 obtain ⟨A,c,kg,rk,hro⟩:=hs
 have hgl:g<w.heap.size:=kg.lt
 have gg0:w.cell? ⟨g,0,none⟩=some (.int .i64 root):=kg.cell 0
 have gg1:w.cell? ⟨g,1,none⟩=some (.slice A l.length c):=kg.cell 1
 have CP:=Hd (c_pageK root l A c above up g w rk hro hl hux)
 clear hi hj hkey ei ej ek R ha hb hpo hso hn1 hn2 hn3 hux hmx hmy hidX hidY hidU rk kg hl fu
 go_enter Tryz.func38,Tryz.ntmps38
 go_upto_region 1 with (first
  | (go_at_call 31;(with_reducible refine CP.out.mono ?_);rintro e w1 ⟨v,rfl,hv,u1⟩;have CO:=Hd (c_l16OwnPage v up w1 hv.av (fine_sz HFI.out.1)))
  | (go_at_call 34;(with_reducible refine CO.out.mono ?_);rintro e w2 ⟨cs,bl,rfl,so,nd,u2⟩;obtain ⟨U1,r1,a1,U2,r2,a2,U3,r3,a3,rfl,hbl,so1,so2,so3⟩:=openOPage so))
 have z1:=u1.size
 have z2:=u2.size
 have uB:Up w2 (w2.alloc (.cells #[.bool up.1,.slice U1 up.2.1.length r1,.slice U2 up.2.2.1.length r2,.slice U3 up.2.2.2.length r3] 58)):=(Up.refl w2).alloc _
 have uW:Up w (w2.alloc (.cells #[.bool up.1,.slice U1 up.2.1.length r1,.slice U2 up.2.2.1.length r2,.slice U3 up.2.2.2.length r3] 58)):=(u1.trans u2).trans uB
 have zB:(w2.alloc (.cells #[.bool up.1,.slice U1 up.2.1.length r1,.slice U2 up.2.2.1.length r2,.slice U3 up.2.2.2.length r3] 58)).heap.size=w2.heap.size+1:=by simp
 have hin:=good_Page.own_in so
 have pu:PgR (w2.alloc (.cells #[.bool up.1,.slice U1 up.2.1.length r1,.slice U2 up.2.2.1.length r2,.slice U3 up.2.2.2.length r3] 58)) w.heap.size w2.heap.size (pgC up U1 r1 U2 r2 U3 r3) up U1 r1 a1 U2 r2 a2 U3 r3 a3:=⟨Bk.new _ _ _,(so1.up good_S uB).wide good_S (by omega) (Nat.le_refl _),(so2.up good_S uB).wide good_S (by omega) (Nat.le_refl _),(so3.up good_I uB).wide good_I (by omega) (Nat.le_refl _),List.nodup_cons.2 ⟨fun hm=>(by have:=(hin _ (by rw [hbl];exact hm)).2;omega),by rw [←hbl];exact nd⟩,by omega⟩
 obtain ⟨W0,hW0⟩:∃W0,W0=(w2.alloc (.cells #[.bool up.1,.slice U1 up.2.1.length r1,.slice U2 up.2.2.1.length r2,.slice U3 up.2.2.2.length r3] 58)):=⟨_,rfl⟩
 rw [←hW0] at uW zB pu ⊢
 obtain ⟨b6,hb6⟩:∃b6,b6=w2.heap.size:=⟨_,rfl⟩
 rw [←hb6] at pu zB ⊢
 have z6:w.heap.size≤b6:=by omega
 have HBL:Hid (∀q∈b6::(a1++a2++a3),q<W0.heap.size):=Hd (fun q hq=>(pu.in_ q hq).2)
 have hnda:a1.Nodup:=by
  obtain ⟨n1,_,_⟩:=nd_123 pu.nd
  exact (List.nodup_append.1 (List.nodup_cons.1 n1).2).1
 have HND:=Hd hnda
 clear hW0 hb6 uB so so1 so2 so3 nd hin u1 u2 hv CO CP z1 z2 hbl hnda gg0 gg1
 obtain ⟨q,oq,rfl,ea1,rq⟩:=pu.s1.addr1 one1_S (by omega)
 obtain ⟨gk,ok,rfl,ea3,rk3⟩:=pu.s3.addr1 one1_I (by omega)
 have hqW:w.heap.size≤q∧q<W0.heap.size:=⟨rq.lo,rq.hi⟩
 have g63:W0.cell? ⟨b6,3,none⟩=some (.slice (some ⟨gk,ok,none⟩) up.2.2.2.length r3):=pu.box.cell 3
 have hca:W0.cell? ⟨gk,ok+a,none⟩=some (.int .i64 i):=by have h:=(rk3.cell hal).1;rw [HE.out.1] at h;exact h
 have hcb:W0.cell? ⟨gk,ok+b,none⟩=some (.int .i64 j):=by have h:=(rk3.cell htwo).1;rw [HE.out.2.1] at h;exact h
 have PUH:=Hd pu
 have UU0:=Hd uW
 clear pu uW rk3 ea3 rq ea1
 go_upto_if 22 with (fail)
 go_cut [2,7] (fun s2 s wx=>s2=.int .i64 (k:Int)∧s=.int .i64 (a:Int)∧W0=wx)
 case first =>
  rcases Nat.eq_zero_or_pos k with hz | hz
  ·have hk1:(k:Int)=0:=by omega
   have hk2:decide ((k:Int)=0)=true:=by rw [hk1];rfl
   have E1:=Hd (show (a:Int)=0 by have:=HAB.out.1;omega)
   have E2:=Hd hk1
   clear hz hmr hml
   go_wp2_with fail
   go_meet
   exact ⟨by rw [E2.out],by rw [E1.out],rfl⟩
  ·have hk1:¬((k:Int)=0):=by omega
   have hwk:IntKind.i64.wrap ((k:Int)-1)=(k:Int)-1:=by rw [IntWalk.i64_in _ (by omega)]
   have E3:=Hd (show (k:Int)-1=(a:Int) by have:=HAB.out.1;omega)
   clear hz hmr hml
   go_wp2_with fail
   go_meet
   exact ⟨rfl,by rw [E3.out],rfl⟩
 obtain ⟨rfl,rfl,rfl⟩:=hcut
 go_upto_region 4 with fail
 go_cut [8,9] (fun s t wx=>s=.int .i64 i∧t=.int .i64 j∧Up W0 wx)
 case first =>
  clear hmr hml
  go_quiet (fail)
  go_wp2_with fail
  go_meet
  exact ⟨rfl,rfl,(Up.refl W0).drewN _⟩
 clear g63 hca hcb
 obtain ⟨rfl,rfl,hu4⟩:=hcut
 go_upto_region 5 with fail
 refine fill_r5 (L:=[g,q,b6]) (HST.out.up (UU0.out.trans hu4)) HLI.out HLK.out.1 HLK.out.2 fx fy (fun z hz=>by have:=hu4.size;have:=UU0.out.size;have:=HBL.out b6 (List.mem_cons_self ..);simp only [List.mem_cons,List.not_mem_nil,or_false] at hz;omega) (Hd (fun _ _ _ _ _ _ _ _ _ _ _ _ b10 b11 C10 C11 w5 u5 hb10 hb11 hbn k10 q10 n10 k11 q11 n11=>?_))
 have hbn2:b11≠b10:=fun e=>hbn e.symm
 have hz4:=hu4.size
 have hf10:∀z∈b6::(a1++a2++a3),z≠b10:=fun z hz=>by have:=HBL.out z hz;omega
 have hf11:∀z∈b6::(a1++a2++a3),z≠b11:=fun z hz=>by have:=HBL.out z hz;omega
 have HF10:=Hd hf10
 have HF11:=Hd hf11
 have hw10:w.heap.size≤b10:=by have:=UU0.out.size;omega
 have hw11:w.heap.size≤b11:=by have:=UU0.out.size;omega
 have uu5:=UU0.out.trans (hu4.trans u5)
 have pu5:=PUH.out.up (hu4.trans u5)
 obtain ⟨X1,x1_,X2,x2_,X3,x3_,rfl⟩:=n10.cells
 obtain ⟨Y1,y1_,Y2,y2_,Y3,y3_,rfl⟩:=n11.cells
 clear hf10 hf11 hu4 u5 PUH UU0 q10 q11 hb10 hb11 hz4
 have CX:=Hd (c_l16Rich _ x w5 n10.av)
 have CY:=Hd (fun W (u:Up w5 W)=>c_l16Rich _ y W (n11.av.up good_Page u))
 obtain ⟨q1,hq1e⟩:∃q1:Bool,q1=(decide (0<k)&&richP x):=⟨_,rfl⟩
 obtain ⟨q2,hq2e⟩:∃q2:Bool,q2=(decide (k=0)&&richP y):=⟨_,rfl⟩
 have g61:w5.cell? ⟨b6,1,none⟩=some (.slice (some ⟨q,oq,none⟩) up.2.1.length r1):=pu5.box.cell 1
 have hck:w5.cell? ⟨q,oq+a,none⟩=some (.string key):=by
  obtain ⟨_,rq⟩:=pu5.s1.at1 one1_S (by omega)
  have h:=(rq.cell hkl).1
  rw [HE.out.2.2] at h
  exact h
 have gx0:w5.cell? ⟨b10,0,none⟩=some (.bool x.1):=k10.cell 0
 have gx1:w5.cell? ⟨b10,1,none⟩=some (.slice X1 x.2.1.length x1_):=k10.cell 1
 have gx2:w5.cell? ⟨b10,2,none⟩=some (.slice X2 x.2.2.1.length x2_):=k10.cell 2
 have gx3:w5.cell? ⟨b10,3,none⟩=some (.slice X3 x.2.2.2.length x3_):=k10.cell 3
 have gy0:w5.cell? ⟨b11,0,none⟩=some (.bool y.1):=k11.cell 0
 have gy1:w5.cell? ⟨b11,1,none⟩=some (.slice Y1 y.2.1.length y1_):=k11.cell 1
 have gy2:w5.cell? ⟨b11,2,none⟩=some (.slice Y2 y.2.2.1.length y2_):=k11.cell 2
 have gy3:w5.cell? ⟨b11,3,none⟩=some (.slice Y3 y.2.2.2.length y3_):=k11.cell 3
 have N10:=Hd n10
 have N11:=Hd n11
 have K10:=Hd k10
 have K11:=Hd k11
 have UU5:=Hd uu5
 have PU5:=Hd pu5
 clear n10 n11 k10 k11 uu5 pu5
 go_upto_region 11 with fail
 clear g61 hck
 go_cut [69] (fun s wx=>s=.bool q1∧Up w5 wx)
 case first =>
  rcases Nat.eq_zero_or_pos k with hz | hz
  ·have e1:q1=false:=by rw [hq1e,hz];rfl
   have hk1:¬((0:Int)<(k:Int)):=by omega
   have E1:=Hd e1
   clear hz hmr hml hq1e hq2e e1
   go_wp2_with fail
   go_meet
   exact ⟨by rw [E1.out],Up.refl _⟩
  ·have e1:q1=richP x:=by rw [hq1e,decide_eq_true hz];rfl
   have hk1:(0:Int)<(k:Int):=by omega
   have E1:=Hd e1
   clear hz hmr hml hq1e hq2e e1
   go_wp2_with (go_at_call 65;(with_reducible refine CX.out.mono ?_);rintro e w7 ⟨rfl,u7⟩)
   go_meet
   exact ⟨by rw [E1.out],u7⟩
 obtain ⟨rfl,u6⟩:=hcut
 have N10:=Hd (N10.out.up u6)
 have N11:=Hd (N11.out.up u6)
 have K10:=Hd (K10.out.up u6)
 have K11:=Hd (K11.out.up u6)
 have UU6:=Hd (UU5.out.trans u6)
 have PU6:=Hd (PU5.out.up u6)
 have CY:=Hd (CY.out wc u6)
 clear CX gx0 gx1 gx2 gx3 gy0 gy1 gy2 gy3 u6 UU5 PU5
 obtain ⟨W6,hW6⟩:∃W6,W6=wc:=⟨_,rfl⟩
 rw [←hW6] at N10 N11 K10 K11 UU6 PU6 CY ⊢
 clear hW6
 cases q1
 ·have gy0:W6.cell? ⟨b11,0,none⟩=some (.bool y.1):=K11.out.cell 0
  have gy1:W6.cell? ⟨b11,1,none⟩=some (.slice Y1 y.2.1.length y1_):=K11.out.cell 1
  have gy2:W6.cell? ⟨b11,2,none⟩=some (.slice Y2 y.2.2.1.length y2_):=K11.out.cell 2
  have gy3:W6.cell? ⟨b11,3,none⟩=some (.slice Y3 y.2.2.2.length y3_):=K11.out.cell 3
  go_upto_region 15 with fail
  go_cut [2,93] (fun s2 s wx=>s2=.int .i64 (k:Int)∧s=.bool q2∧Up W6 wx)
  case first =>
   rcases Nat.eq_zero_or_pos k with hz | hz
   ·have e1:q2=richP y:=by rw [hq2e,hz];rfl
    have hk1:(k:Int)=0:=by omega
    have hk2:decide ((k:Int)=0)=true:=by rw [hk1];rfl
    have E1:=Hd e1
    have E2:=Hd hk1
    clear hz hmr hml hq1e hq2e e1
    go_wp2_with (go_at_call 65;(with_reducible refine CY.out.mono ?_);rintro e w7 ⟨rfl,u7⟩)
    go_meet
    exact ⟨by rw [E2.out],by rw [E1.out],u7⟩
   ·have e1:q2=false:=by rw [hq2e,decide_eq_false (by omega)];rfl
    have hk1:¬((k:Int)=0):=by omega
    have E1:=Hd e1
    clear hz hmr hml hq1e hq2e e1
    go_wp2_with fail
    go_meet
    exact ⟨rfl,by rw [E1.out],Up.refl _⟩
  obtain ⟨rfl,rfl,u6⟩:=hcut
  have N10:=Hd (N10.out.up u6)
  have N11:=Hd (N11.out.up u6)
  have K10:=Hd (K10.out.up u6)
  have K11:=Hd (K11.out.up u6)
  have UU6:=Hd (UU6.out.trans u6)
  have PU6:=Hd (PU6.out.up u6)
  clear gy0 gy1 gy2 gy3 u6
  obtain ⟨W7,hW7⟩:∃W7,W7=wc:=⟨_,rfl⟩
  rw [←hW7] at N10 N11 K10 K11 UU6 PU6 ⊢
  clear hW7
  cases q2
  ·have HC:=Hd (And.intro (show ¬(0<k∧3<fillOf x) from fun h=>(by rw [decide_eq_true h.1,show richP x=true from decide_eq_true h.2] at hq1e;cases hq1e)) (show ¬(k=0∧3<fillOf y) from fun h=>(by rw [decide_eq_true h.1,show richP y=true from decide_eq_true h.2] at hq2e;cases hq2e)))
   have hsz2:=Hd HC.out
   clear hmr hml hq1e hq2e CY
   have gx0:W7.cell? ⟨b10,0,none⟩=some (.bool x.1):=K10.out.cell 0
   have gx1:W7.cell? ⟨b10,1,none⟩=some (.slice X1 x.2.1.length x1_):=K10.out.cell 1
   have gx2:W7.cell? ⟨b10,2,none⟩=some (.slice X2 x.2.2.1.length x2_):=K10.out.cell 2
   have gx3:W7.cell? ⟨b10,3,none⟩=some (.slice X3 x.2.2.2.length x3_):=K10.out.cell 3
   have gy0:W7.cell? ⟨b11,0,none⟩=some (.bool y.1):=K11.out.cell 0
   have gy1:W7.cell? ⟨b11,1,none⟩=some (.slice Y1 y.2.1.length y1_):=K11.out.cell 1
   have gy2:W7.cell? ⟨b11,2,none⟩=some (.slice Y2 y.2.2.1.length y2_):=K11.out.cell 2
   have gy3:W7.cell? ⟨b11,3,none⟩=some (.slice Y3 y.2.2.2.length y3_):=K11.out.cell 3
   have CJ:=Hd (c_l16Join g _ _ x y key W7 (Nat.lt_of_lt_of_le hgl UU6.out.size) (N10.out.k (by simp)) (N11.out.k (by simp)) fx fy hkm)
   obtain ⟨M,hM⟩:∃M,M=joinP x y key:=⟨_,rfl⟩
   rw [←hM] at CJ
   have HM:=Hd hM
   obtain ⟨mx0,mx1,mx2,mx3⟩:=M
   clear hM
   go_upto_region 8 with (go_at_call 68;(with_reducible refine CJ.out.mono ?_);rintro e w7 ⟨v1,rfl,hv1,u7⟩;obtain ⟨P1,p1_,P2,p2_,P3,p3_,rfl⟩:=hv1.cells;dsimp only at hv1;have kx7:=K10.out.up u7;have ex0:=kx7.cell 0;have ex1:=kx7.cell 1;have ex2:=kx7.cell 2;have ex3:=kx7.cell 3;have fx0:=kx7.frozen 0;have fx1:=kx7.frozen 1;have fx2:=kx7.frozen 2;have fx3:=kx7.frozen 3)
   have m1:PgN [g] w7 (.agg #[.bool mx0,.slice P1 mx1.length p1_,.slice P2 mx2.length p2_,.slice P3 mx3.length p3_]) (mx0,mx1,mx2,mx3):=PgN.of_k hv1
   have bt1:But b10 w7 ((((w7.setCell ⟨b10,0,none⟩ (.bool mx0)).setCell ⟨b10,1,none⟩ (.slice P1 mx1.length p1_)).setCell ⟨b10,2,none⟩ (.slice P2 mx2.length p2_)).setCell ⟨b10,3,none⟩ (.slice P3 mx3.length p3_)):=But.sets (g:=b10) [.bool mx0,.slice P1 mx1.length p1_,.slice P2 mx2.length p2_,.slice P3 mx3.length p3_] w7 0
   have kx8:Bk ((((w7.setCell ⟨b10,0,none⟩ (.bool mx0)).setCell ⟨b10,1,none⟩ (.slice P1 mx1.length p1_)).setCell ⟨b10,2,none⟩ (.slice P2 mx2.length p2_)).setCell ⟨b10,3,none⟩ (.slice P3 mx3.length p3_)) b10 58 #[.bool mx0,.slice P1 mx1.length p1_,.slice P2 mx2.length p2_,.slice P3 mx3.length p3_]:=kx7.setsL [.bool mx0,.slice P1 mx1.length p1_,.slice P2 mx2.length p2_,.slice P3 mx3.length p3_] 0
   have m1:=m1.butP kx7 (isPg ..) bt1
   have pu8:=(PU6.out.up u7).butF HF10.out bt1
   have uu8:=(UU6.out.trans u7).but bt1 hw10
   generalize ((((w7.setCell ⟨b10,0,none⟩ (.bool mx0)).setCell ⟨b10,1,none⟩ (.slice P1 mx1.length p1_)).setCell ⟨b10,2,none⟩ (.slice P2 mx2.length p2_)).setCell ⟨b10,3,none⟩ (.slice P3 mx3.length p3_))=W8 at bt1 kx8 m1 pu8 uu8 ⊢
   clear bt1 kx7 u7 hv1 ex0 ex1 ex2 ex3 gx0 gx1 gx2 gx3 gy0 gy1 gy2 gy3 CJ N10 N11 K10 K11 PU6 UU6 fx0 fx1 fx2 fx3
   have CD:=Hd (c_l16Drop g root l j W8 (HST.out.up uu8) (ids_len HLI.out) hIJ)
   go_upto_region 9 with (go_at_call 39;(with_reducible refine CD.out.mono ?_);rintro e w9 ⟨rfl,st9,on9⟩)
   have kx9:=kx8.only on9 (by simp;omega)
   have m9:=m1.go on9
   have pu9:=pu8.onlyG hgl on9
   have ON9:=(Only.of_up uu8).trans on9
   clear CD kx8 m1 pu8 uu8 on9
   have g61:w9.cell? ⟨b6,1,none⟩=some (.slice (some ⟨q,oq,none⟩) up.2.1.length r1):=pu9.box.cell 1
   have CM0:=c_l16Remove up.2.1 (some ⟨q,oq,none⟩) r1 a w9 (SR.of_own good_S pu9.s1) hkl (by omega)
   obtain ⟨ks,hks⟩:∃ks,ks=remAt up.2.1 a:=⟨_,rfl⟩
   rw [←hks] at CM0
   have HKS:=Hd hks
   have CM:=Hd CM0
   clear CM0 hks
   go_upto_region 10 with (go_at_call 35;(with_reducible refine CM.out.mono ?_);rintro e w10 ⟨D1,d1,bl1,rfl,so1,nd1,u10⟩;have pu10:=pu9.up u10;have gr1:=pu10.box.cell 1;have fr1:=pu10.box.frozen 1)
   have T1:=(PgR.start pu9).row1 (so1.wide good_S (Nat.le_trans pu9.lo (Nat.le_of_lt pu9.box.lt)) (Nat.le_refl _)) nd1 (fun z hz=>.inr (so1.in_ good_S z hz).1) (Only.of_up u10)
   have bt1:=But.set w10 b6 1 (.slice D1 ks.length d1)
   have T2:=T1.set 1 (.slice D1 ks.length d1)
   have hb106:b10≠b6:=fun e=>HF10.out b6 (by simp) e.symm
   have hb6g:b6≠g:=by omega
   have kx10:=(kx9.up u10).butM bt1 hb106
   have m10:=(m9.up u10).butP T1.pg.box (isPg ..) bt1
   have st10:=(st9.up u10).butP T1.pg.box (isPg ..) hb6g bt1
   have ON10:=only_new (ON9.up u10) bt1 z6
   clear pu10 gr1 fr1 g61 CM so1 nd1 T1 bt1 kx9 m9 st9 ON9 pu9 u10
   obtain ⟨W11,hW11⟩:∃W11,W11=(w10.setCell ⟨b6,1,none⟩ (.slice D1 ks.length d1)):=⟨_,rfl⟩
   rw [←hW11] at T2 kx10 m10 st10 ON10 ⊢
   clear hW11
   have pu11:PgR W11 w.heap.size b6 (pgC (up.1,ks,up.2.2.1,up.2.2.2) D1 d1 U2 r2 (some ⟨gk,ok,none⟩) r3) (up.1,ks,up.2.2.1,up.2.2.2) D1 d1 bl1 U2 r2 a2 (some ⟨gk,ok,none⟩) r3 a3:=T2.pg
   clear T2
   have g63:W11.cell? ⟨b6,3,none⟩=some (.slice (some ⟨gk,ok,none⟩) up.2.2.2.length r3):=pu11.box.cell 3
   have CM0:=c_l16RemoveId up.2.2.2 (some ⟨gk,ok,none⟩) r3 b W11 (SR.of_own good_I pu11.s3) htwo (by omega)
   obtain ⟨ids,hids⟩:∃ids,ids=remAt up.2.2.2 b:=⟨_,rfl⟩
   rw [←hids] at CM0
   have HIDS:=Hd hids
   have CM:=Hd CM0
   clear CM0 hids
   go_upto_region 19 with (go_at_call 69;(with_reducible refine CM.out.mono ?_);rintro e w12 ⟨D3,d3,bl3,rfl,so3,nd3,u12⟩;have pu12:=pu11.up u12;have gr3:=pu12.box.cell 3;have fr3:=pu12.box.frozen 3)
   have T1:=(PgR.start pu11).row3 (so3.wide good_I (Nat.le_trans pu11.lo (Nat.le_of_lt pu11.box.lt)) (Nat.le_refl _)) nd3 (fun z hz=>.inr (so3.in_ good_I z hz).1) (Only.of_up u12)
   have bt1:=But.set w12 b6 3 (.slice D3 ids.length d3)
   have T2:=T1.set 3 (.slice D3 ids.length d3)
   have kx12:=(kx10.up u12).butM bt1 hb106
   have m12:=(m10.up u12).butP T1.pg.box (isPg ..) bt1
   have st12:=(st10.up u12).butP T1.pg.box (isPg ..) hb6g bt1
   have ON12:=only_new (ON10.up u12) bt1 z6
   clear pu12 gr3 fr3 g63 CM so3 nd3 T1 bt1 kx10 m10 st10 ON10 pu11 u12
   obtain ⟨W13,hW13⟩:∃W13,W13=(w12.setCell ⟨b6,3,none⟩ (.slice D3 ids.length d3)):=⟨_,rfl⟩
   rw [←hW13] at T2 kx12 m12 st12 ON12 ⊢
   clear hW13
   have pu13:PgR W13 w.heap.size b6 (pgC (up.1,ks,up.2.2.1,ids) D1 d1 U2 r2 D3 d3) (up.1,ks,up.2.2.1,ids) D1 d1 bl1 U2 r2 a2 D3 d3 bl3:=T2.pg
   clear T2
   have MX:=m12.sub (L':=[g]) (by simp)
   have ha0:W13.cell? ⟨b10,0,none⟩=some (.bool mx0):=kx12.cell 0
   have ha1:W13.cell? ⟨b10,1,none⟩=some (.slice P1 mx1.length p1_):=kx12.cell 1
   have ha2:W13.cell? ⟨b10,2,none⟩=some (.slice P2 mx2.length p2_):=kx12.cell 2
   have ha3:W13.cell? ⟨b10,3,none⟩=some (.slice P3 mx3.length p3_):=kx12.cell 3
   have CS2:=Hd (c_l16Set g root (dropL j l) i (.agg #[.bool mx0,.slice P1 mx1.length p1_,.slice P2 mx2.length p2_,.slice P3 mx3.length p3_]) (mx0,mx1,mx2,mx3) W13 st12 (MX.k (by simp)) (ids_len (dropL_ids HLI.out j)) hII)
   go_upto_region 20 with (go_at_call 36;(with_reducible refine CS2.out.mono ?_);rintro e w11 ⟨rfl,st11,on11⟩)
   clear CS2
   have pu11:=pu13.onlyG hgl on11
   have hd0:w11.cell? ⟨b6,0,none⟩=some (.bool up.1):=pu11.box.cell 0
   have hd1:w11.cell? ⟨b6,1,none⟩=some (.slice D1 ks.length d1):=pu11.box.cell 1
   have hd2:w11.cell? ⟨b6,2,none⟩=some (.slice U2 up.2.2.1.length r2):=pu11.box.cell 2
   have hd3:w11.cell? ⟨b6,3,none⟩=some (.slice D3 ids.length d3):=pu11.box.cell 3
   have CS3:=Hd (c_l16Set g root (setL i (mx0,mx1,mx2,mx3) (dropL j l)) above (.agg #[.bool up.1,.slice D1 ks.length d1,.slice U2 up.2.2.1.length r2,.slice D3 ids.length d3]) (up.1,ks,up.2.2.1,ids) w11 st11 (pu11.k hgl) (ids_len (setL_mem (dropL_ids HLI.out j) HID.out.1.1 HID.out.1.2).1) hIU)
   have ON:=Hd (ON12.trans on11)
   clear pu11 st11 on11
   go_wp2_with (go_at_call 36;(with_reducible refine CS3.out.mono ?_);rintro e w15 ⟨rfl,st15,on15⟩)
   refine bodyPost_end (v:=.tuple #[]) (by simp [results,Tryz.results38,go_sem]) rfl ?_
   obtain ⟨t1,t2⟩:=drop_sets (x:=(mx0,mx1,mx2,mx3)) (up:=(up.1,ks,up.2.2.1,ids)) (j:=j) HLI.out HID.out.1 HID.out.2.2
   refine ⟨rfl,⟨_,st15,t1,?_⟩,ON.out.trans on15⟩
   rw [t2,HRF.out,if_neg HC.out.1,if_neg HC.out.2,←HM.out,HKS.out,HIDS.out]
  ·have HC:=Hd (show k=0∧3<fillOf y by
    have h:=hq2e.symm
    simp only [Bool.and_eq_true,decide_eq_true_eq,richP] at h
    exact h)
   have hsz:=hml HC.out.2 HC.out.1
   have hkids:=moveL_kids (key:=key) fx fy HSM.out HC.out.2 HSO.out.1
   have CR:=Hd (c_l16Left q _ _ x y key W7 (by have:=UU6.out.size;have:=(PU6.out.s1.in_ good_S q (by obtain ⟨e,_⟩:=PU6.out.s1.at1 one1_S (by omega);rw [e];simp)).2;omega) (N10.out.k (by simp)) (N11.out.k (by simp)) fx fy HSM.out HC.out.2 HSO.out.1 hkm)
   obtain ⟨M,hM⟩:∃M,M=moveL x y key:=⟨_,rfl⟩
   rw [←hM] at CR hsz hkids
   have HM:=Hd hM
   have HKD:=Hd hkids
   obtain ⟨⟨mx0,mx1,mx2,mx3⟩,⟨my0,my1,my2,my3⟩,ms⟩:=M
   dsimp only at hsz
   clear hM hmr hml hq1e hq2e CY hkids
   have gx0:W7.cell? ⟨b10,0,none⟩=some (.bool x.1):=K10.out.cell 0
   have gx1:W7.cell? ⟨b10,1,none⟩=some (.slice X1 x.2.1.length x1_):=K10.out.cell 1
   have gx2:W7.cell? ⟨b10,2,none⟩=some (.slice X2 x.2.2.1.length x2_):=K10.out.cell 2
   have gx3:W7.cell? ⟨b10,3,none⟩=some (.slice X3 x.2.2.2.length x3_):=K10.out.cell 3
   have gy0:W7.cell? ⟨b11,0,none⟩=some (.bool y.1):=K11.out.cell 0
   have gy1:W7.cell? ⟨b11,1,none⟩=some (.slice Y1 y.2.1.length y1_):=K11.out.cell 1
   have gy2:W7.cell? ⟨b11,2,none⟩=some (.slice Y2 y.2.2.1.length y2_):=K11.out.cell 2
   have gy3:W7.cell? ⟨b11,3,none⟩=some (.slice Y3 y.2.2.2.length y3_):=K11.out.cell 3
   go_upto_region 17 with (go_at_call 67;(with_reducible refine CR.out.mono ?_);rintro e w7 ⟨v1,v2,rfl,hv1,hv2,u7⟩;obtain ⟨P1,p1_,P2,p2_,P3,p3_,rfl⟩:=hv1.cells;obtain ⟨Q1,q1_,Q2,q2_,Q3,q3_,rfl⟩:=hv2.cells;dsimp only at hv1 hv2;have kx7:=K10.out.up u7;have ky7:=K11.out.up u7;have ex0:=kx7.cell 0;have ex1:=kx7.cell 1;have ex2:=kx7.cell 2;have ex3:=kx7.cell 3;have ey0:=ky7.cell 0;have ey1:=ky7.cell 1;have ey2:=ky7.cell 2;have ey3:=ky7.cell 3;have fx0:=kx7.frozen 0;have fx1:=kx7.frozen 1;have fx2:=kx7.frozen 2;have fx3:=kx7.frozen 3;have fy0:=ky7.frozen 0;have fy1:=ky7.frozen 1;have fy2:=ky7.frozen 2;have fy3:=ky7.frozen 3)
   have kg7:=(HST.out.up (UU6.out.trans u7))
   obtain ⟨A9,c9,kg9,_,_⟩:=kg7
   have m1:PgN [g,q] w7 (.agg #[.bool mx0,.slice P1 mx1.length p1_,.slice P2 mx2.length p2_,.slice P3 mx3.length p3_]) (mx0,mx1,mx2,mx3):=(PgN.of_k hv1).tree kg9 (tree_noText _ _ _ _) (tree_noInts _ _ _ _) HKD.out.1
   have m2:PgN [g,q] w7 (.agg #[.bool my0,.slice Q1 my1.length q1_,.slice Q2 my2.length q2_,.slice Q3 my3.length q3_]) (my0,my1,my2,my3):=(PgN.of_k hv2).tree kg9 (tree_noText _ _ _ _) (tree_noInts _ _ _ _) HKD.out.2
   have bt1:But b10 w7 ((((w7.setCell ⟨b10,0,none⟩ (.bool mx0)).setCell ⟨b10,1,none⟩ (.slice P1 mx1.length p1_)).setCell ⟨b10,2,none⟩ (.slice P2 mx2.length p2_)).setCell ⟨b10,3,none⟩ (.slice P3 mx3.length p3_)):=But.sets (g:=b10) [.bool mx0,.slice P1 mx1.length p1_,.slice P2 mx2.length p2_,.slice P3 mx3.length p3_] w7 0
   have kx8:Bk ((((w7.setCell ⟨b10,0,none⟩ (.bool mx0)).setCell ⟨b10,1,none⟩ (.slice P1 mx1.length p1_)).setCell ⟨b10,2,none⟩ (.slice P2 mx2.length p2_)).setCell ⟨b10,3,none⟩ (.slice P3 mx3.length p3_)) b10 58 #[.bool mx0,.slice P1 mx1.length p1_,.slice P2 mx2.length p2_,.slice P3 mx3.length p3_]:=kx7.setsL [.bool mx0,.slice P1 mx1.length p1_,.slice P2 mx2.length p2_,.slice P3 mx3.length p3_] 0
   have bt2:But b11 ((((w7.setCell ⟨b10,0,none⟩ (.bool mx0)).setCell ⟨b10,1,none⟩ (.slice P1 mx1.length p1_)).setCell ⟨b10,2,none⟩ (.slice P2 mx2.length p2_)).setCell ⟨b10,3,none⟩ (.slice P3 mx3.length p3_)) ((((((((w7.setCell ⟨b10,0,none⟩ (.bool mx0)).setCell ⟨b10,1,none⟩ (.slice P1 mx1.length p1_)).setCell ⟨b10,2,none⟩ (.slice P2 mx2.length p2_)).setCell ⟨b10,3,none⟩ (.slice P3 mx3.length p3_)).setCell ⟨b11,0,none⟩ (.bool my0)).setCell ⟨b11,1,none⟩ (.slice Q1 my1.length q1_)).setCell ⟨b11,2,none⟩ (.slice Q2 my2.length q2_)).setCell ⟨b11,3,none⟩ (.slice Q3 my3.length q3_)):=But.sets (g:=b11) [.bool my0,.slice Q1 my1.length q1_,.slice Q2 my2.length q2_,.slice Q3 my3.length q3_] _ 0
   have ky8:Bk ((((((((w7.setCell ⟨b10,0,none⟩ (.bool mx0)).setCell ⟨b10,1,none⟩ (.slice P1 mx1.length p1_)).setCell ⟨b10,2,none⟩ (.slice P2 mx2.length p2_)).setCell ⟨b10,3,none⟩ (.slice P3 mx3.length p3_)).setCell ⟨b11,0,none⟩ (.bool my0)).setCell ⟨b11,1,none⟩ (.slice Q1 my1.length q1_)).setCell ⟨b11,2,none⟩ (.slice Q2 my2.length q2_)).setCell ⟨b11,3,none⟩ (.slice Q3 my3.length q3_)) b11 58 #[.bool my0,.slice Q1 my1.length q1_,.slice Q2 my2.length q2_,.slice Q3 my3.length q3_]:=(ky7.butM bt1 hbn2).setsL [.bool my0,.slice Q1 my1.length q1_,.slice Q2 my2.length q2_,.slice Q3 my3.length q3_] 0
   have kx9:=kx8.butM bt2 hbn
   have m1:=(m1.butP kx7 (isPg ..) bt1).butP (ky7.butM bt1 hbn2) (isPg ..) bt2
   have m2:=(m2.butP kx7 (isPg ..) bt1).butP (ky7.butM bt1 hbn2) (isPg ..) bt2
   have pu8:=((PU6.out.up u7).butF HF10.out bt1).butF HF11.out bt2
   have uu8:=((UU6.out.trans u7).but bt1 hw10).but bt2 hw11
   generalize ((((((((w7.setCell ⟨b10,0,none⟩ (.bool mx0)).setCell ⟨b10,1,none⟩ (.slice P1 mx1.length p1_)).setCell ⟨b10,2,none⟩ (.slice P2 mx2.length p2_)).setCell ⟨b10,3,none⟩ (.slice P3 mx3.length p3_)).setCell ⟨b11,0,none⟩ (.bool my0)).setCell ⟨b11,1,none⟩ (.slice Q1 my1.length q1_)).setCell ⟨b11,2,none⟩ (.slice Q2 my2.length q2_)).setCell ⟨b11,3,none⟩ (.slice Q3 my3.length q3_))=W8 at bt2 ky8 kx9 m1 m2 pu8 uu8 ⊢
   clear bt1 bt2 kx8 kx7 ky7 u7 hv1 hv2 ex0 ex1 ex2 ex3 ey0 ey1 ey2 ey3 gx0 gx1 gx2 gx3 gy0 gy1 gy2 gy3 CR kg9 N10 N11 K10 K11 PU6 UU6 fx0 fx1 fx2 fx3 fy0 fy1 fy2 fy3
   have g61:W8.cell? ⟨b6,1,none⟩=some (.slice (some ⟨q,oq,none⟩) up.2.1.length r1):=pu8.box.cell 1
   obtain ⟨ea1,rq⟩:=pu8.s1.at1 one1_S (by omega)
   have hqc:=(rq.cell hkl).1
   have hqf:=(rq.cell hkl).2
   have hsz2:ms.size≤maxLen:=Nat.le_trans hsz (by unfold maxLen;omega)
   have pu9:=pu8.setKeyV HND.out hkl hsz2
   obtain ⟨ks,hks⟩:∃ks,ks=up.2.1.set a ms:=⟨_,rfl⟩
   rw [←hks] at pu9
   have HKS:=Hd hks
   clear hks
   have on9:Only [g,q] W8 (W8.setCell ⟨q,oq+a,none⟩ (.string ms)):=(Only.refl _ _).but (But.set W8 q (oq+a) (.string ms)) (by simp)
   have bt9:=But.set W8 q (oq+a) (.string ms)
   have hq10:b10≠q:=fun e=>HF10.out q (by rw [ea1];simp) e.symm
   have hq11:b11≠q:=fun e=>HF11.out q (by rw [ea1];simp) e.symm
   have M1:=Hd ((m1.go on9).sub (L':=[g]) (by simp))
   have M2:=Hd ((m2.go on9).sub (L':=[g]) (by simp))
   have KX:=Hd (kx9.butM bt9 hq10)
   have KY:=Hd (ky8.butM bt9 hq11)
   have PU9:=Hd pu9
   have UU9:=Hd (uu8.but bt9 hqW.1)
   clear on9 m1 m2 kx9 ky8 pu8 pu9 uu8 bt9 rq hq10 hq11
   go_upto_region 18 with fail
   clear g61 hqc hqf
   obtain ⟨W9,hW9⟩:∃W9,W9=(W8.setCell ⟨q,oq+a,none⟩ (.string ms)):=⟨_,rfl⟩
   rw [←hW9] at M1 M2 KX KY PU9 UU9 ⊢
   clear hW9
   have gb0:W9.cell? ⟨b11,0,none⟩=some (.bool my0):=KY.out.cell 0
   have gb1:W9.cell? ⟨b11,1,none⟩=some (.slice Q1 my1.length q1_):=KY.out.cell 1
   have gb2:W9.cell? ⟨b11,2,none⟩=some (.slice Q2 my2.length q2_):=KY.out.cell 2
   have gb3:W9.cell? ⟨b11,3,none⟩=some (.slice Q3 my3.length q3_):=KY.out.cell 3
   have CS1:=Hd (c_l16Set g root l j (.agg #[.bool my0,.slice Q1 my1.length q1_,.slice Q2 my2.length q2_,.slice Q3 my3.length q3_]) (my0,my1,my2,my3) W9 (HST.out.up UU9.out) (M2.out.k (by simp)) (ids_len HLI.out) hIJ)
   go_upto_region 19 with (go_at_call 36;(with_reducible refine CS1.out.mono ?_);rintro e w10 ⟨rfl,st10,on10⟩)
   have KX2:=KX.out.only on10 (by simp;omega)
   have MX:=M1.out.go on10
   have PU10:=PU9.out.onlyG hgl on10
   have ON10:=(Only.of_up UU9.out).trans on10
   clear CS1 gb0 gb1 gb2 gb3 M1 M2 KX KY PU9 UU9
   have ha0:w10.cell? ⟨b10,0,none⟩=some (.bool mx0):=KX2.cell 0
   have ha1:w10.cell? ⟨b10,1,none⟩=some (.slice P1 mx1.length p1_):=KX2.cell 1
   have ha2:w10.cell? ⟨b10,2,none⟩=some (.slice P2 mx2.length p2_):=KX2.cell 2
   have ha3:w10.cell? ⟨b10,3,none⟩=some (.slice P3 mx3.length p3_):=KX2.cell 3
   have CS2:=Hd (c_l16Set g root (setL j (my0,my1,my2,my3) l) i (.agg #[.bool mx0,.slice P1 mx1.length p1_,.slice P2 mx2.length p2_,.slice P3 mx3.length p3_]) (mx0,mx1,mx2,mx3) w10 st10 (MX.k (by simp)) (ids_len (setL_mem HLI.out HID.out.2.1.1 HID.out.2.1.2).1) hII)
   go_upto_region 20 with (go_at_call 36;(with_reducible refine CS2.out.mono ?_);rintro e w11 ⟨rfl,st11,on11⟩)
   clear CS2
   have pu11:=PU10.onlyG hgl on11
   have hd0:w11.cell? ⟨b6,0,none⟩=some (.bool up.1):=pu11.box.cell 0
   have hd1:w11.cell? ⟨b6,1,none⟩=some (.slice (some ⟨q,oq,none⟩) ks.length r1):=pu11.box.cell 1
   have hd2:w11.cell? ⟨b6,2,none⟩=some (.slice U2 up.2.2.1.length r2):=pu11.box.cell 2
   have hd3:w11.cell? ⟨b6,3,none⟩=some (.slice (some ⟨gk,ok,none⟩) up.2.2.2.length r3):=pu11.box.cell 3
   have CS3:=Hd (c_l16Set g root (setL i (mx0,mx1,mx2,mx3) (setL j (my0,my1,my2,my3) l)) above (.agg #[.bool up.1,.slice (some ⟨q,oq,none⟩) ks.length r1,.slice U2 up.2.2.1.length r2,.slice (some ⟨gk,ok,none⟩) up.2.2.2.length r3]) (up.1,ks,up.2.2.1,up.2.2.2) w11 st11 (pu11.k hgl) (ids_len (setL_mem (setL_mem HLI.out HID.out.2.1.1 HID.out.2.1.2).1 HID.out.1.1 HID.out.1.2).1) hIU)
   have ON:=Hd (ON10.trans on11)
   clear pu11 st11 on11
   go_wp2_with (go_at_call 36;(with_reducible refine CS3.out.mono ?_);rintro e w12 ⟨rfl,st12,on12⟩)
   refine bodyPost_end (v:=.tuple #[]) (by simp [results,Tryz.results38,go_sem]) rfl ?_
   obtain ⟨t1,t2⟩:=three_sets (x:=(mx0,mx1,mx2,mx3)) (y:=(my0,my1,my2,my3)) (up:=(up.1,ks,up.2.2.1,up.2.2.2)) HLI.out HID.out.1 HID.out.2.1 HID.out.2.2
   refine ⟨rfl,⟨_,st12,t1,?_⟩,ON.out.trans on12⟩
   rw [t2,HRF.out,if_neg (fun h=>by have:=h.1;have:=HC.out.1;omega),if_pos HC.out,←HM.out,HKS.out]
 ·have HC:=Hd (show 0<k∧3<fillOf x by
   have h:=hq1e.symm
   simp only [Bool.and_eq_true,decide_eq_true_eq,richP] at h
   exact h)
  have hsz:=hmr HC.out.2 HC.out.1
  have hkids:=moveR_kids (key:=key) fx fy HSM.out HC.out.2 HSO.out.2
  have CR:=Hd (c_l16Right q _ _ x y key W6 (by have:=UU6.out.size;have:=(PU6.out.s1.in_ good_S q (by obtain ⟨e,_⟩:=PU6.out.s1.at1 one1_S (by omega);rw [e];simp)).2;omega) (N10.out.k (by simp)) (N11.out.k (by simp)) fx fy HSM.out HC.out.2 HSO.out.2 hkm)
  obtain ⟨M,hM⟩:∃M,M=moveR x y key:=⟨_,rfl⟩
  rw [←hM] at CR hsz hkids
  have HM:=Hd hM
  have HKD:=Hd hkids
  obtain ⟨⟨mx0,mx1,mx2,mx3⟩,⟨my0,my1,my2,my3⟩,ms⟩:=M
  dsimp only at hsz
  clear hM hmr hml hq1e hq2e CY hkids
  have gx0:W6.cell? ⟨b10,0,none⟩=some (.bool x.1):=K10.out.cell 0
  have gx1:W6.cell? ⟨b10,1,none⟩=some (.slice X1 x.2.1.length x1_):=K10.out.cell 1
  have gx2:W6.cell? ⟨b10,2,none⟩=some (.slice X2 x.2.2.1.length x2_):=K10.out.cell 2
  have gx3:W6.cell? ⟨b10,3,none⟩=some (.slice X3 x.2.2.2.length x3_):=K10.out.cell 3
  have gy0:W6.cell? ⟨b11,0,none⟩=some (.bool y.1):=K11.out.cell 0
  have gy1:W6.cell? ⟨b11,1,none⟩=some (.slice Y1 y.2.1.length y1_):=K11.out.cell 1
  have gy2:W6.cell? ⟨b11,2,none⟩=some (.slice Y2 y.2.2.1.length y2_):=K11.out.cell 2
  have gy3:W6.cell? ⟨b11,3,none⟩=some (.slice Y3 y.2.2.2.length y3_):=K11.out.cell 3
  go_upto_region 13 with (go_at_call 66;(with_reducible refine CR.out.mono ?_);rintro e w7 ⟨v1,v2,rfl,hv1,hv2,u7⟩;obtain ⟨P1,p1_,P2,p2_,P3,p3_,rfl⟩:=hv1.cells;obtain ⟨Q1,q1_,Q2,q2_,Q3,q3_,rfl⟩:=hv2.cells;dsimp only at hv1 hv2;have kx7:=K10.out.up u7;have ky7:=K11.out.up u7;have ex0:=kx7.cell 0;have ex1:=kx7.cell 1;have ex2:=kx7.cell 2;have ex3:=kx7.cell 3;have ey0:=ky7.cell 0;have ey1:=ky7.cell 1;have ey2:=ky7.cell 2;have ey3:=ky7.cell 3;have fx0:=kx7.frozen 0;have fx1:=kx7.frozen 1;have fx2:=kx7.frozen 2;have fx3:=kx7.frozen 3;have fy0:=ky7.frozen 0;have fy1:=ky7.frozen 1;have fy2:=ky7.frozen 2;have fy3:=ky7.frozen 3)
  have kg7:=(HST.out.up (UU6.out.trans u7))
  obtain ⟨A9,c9,kg9,_,_⟩:=kg7
  have m1:PgN [g,q] w7 (.agg #[.bool mx0,.slice P1 mx1.length p1_,.slice P2 mx2.length p2_,.slice P3 mx3.length p3_]) (mx0,mx1,mx2,mx3):=(PgN.of_k hv1).tree kg9 (tree_noText _ _ _ _) (tree_noInts _ _ _ _) HKD.out.1
  have m2:PgN [g,q] w7 (.agg #[.bool my0,.slice Q1 my1.length q1_,.slice Q2 my2.length q2_,.slice Q3 my3.length q3_]) (my0,my1,my2,my3):=(PgN.of_k hv2).tree kg9 (tree_noText _ _ _ _) (tree_noInts _ _ _ _) HKD.out.2
  have bt1:But b10 w7 ((((w7.setCell ⟨b10,0,none⟩ (.bool mx0)).setCell ⟨b10,1,none⟩ (.slice P1 mx1.length p1_)).setCell ⟨b10,2,none⟩ (.slice P2 mx2.length p2_)).setCell ⟨b10,3,none⟩ (.slice P3 mx3.length p3_)):=But.sets (g:=b10) [.bool mx0,.slice P1 mx1.length p1_,.slice P2 mx2.length p2_,.slice P3 mx3.length p3_] w7 0
  have kx8:Bk ((((w7.setCell ⟨b10,0,none⟩ (.bool mx0)).setCell ⟨b10,1,none⟩ (.slice P1 mx1.length p1_)).setCell ⟨b10,2,none⟩ (.slice P2 mx2.length p2_)).setCell ⟨b10,3,none⟩ (.slice P3 mx3.length p3_)) b10 58 #[.bool mx0,.slice P1 mx1.length p1_,.slice P2 mx2.length p2_,.slice P3 mx3.length p3_]:=kx7.setsL [.bool mx0,.slice P1 mx1.length p1_,.slice P2 mx2.length p2_,.slice P3 mx3.length p3_] 0
  have bt2:But b11 ((((w7.setCell ⟨b10,0,none⟩ (.bool mx0)).setCell ⟨b10,1,none⟩ (.slice P1 mx1.length p1_)).setCell ⟨b10,2,none⟩ (.slice P2 mx2.length p2_)).setCell ⟨b10,3,none⟩ (.slice P3 mx3.length p3_)) ((((((((w7.setCell ⟨b10,0,none⟩ (.bool mx0)).setCell ⟨b10,1,none⟩ (.slice P1 mx1.length p1_)).setCell ⟨b10,2,none⟩ (.slice P2 mx2.length p2_)).setCell ⟨b10,3,none⟩ (.slice P3 mx3.length p3_)).setCell ⟨b11,0,none⟩ (.bool my0)).setCell ⟨b11,1,none⟩ (.slice Q1 my1.length q1_)).setCell ⟨b11,2,none⟩ (.slice Q2 my2.length q2_)).setCell ⟨b11,3,none⟩ (.slice Q3 my3.length q3_)):=But.sets (g:=b11) [.bool my0,.slice Q1 my1.length q1_,.slice Q2 my2.length q2_,.slice Q3 my3.length q3_] _ 0
  have ky8:Bk ((((((((w7.setCell ⟨b10,0,none⟩ (.bool mx0)).setCell ⟨b10,1,none⟩ (.slice P1 mx1.length p1_)).setCell ⟨b10,2,none⟩ (.slice P2 mx2.length p2_)).setCell ⟨b10,3,none⟩ (.slice P3 mx3.length p3_)).setCell ⟨b11,0,none⟩ (.bool my0)).setCell ⟨b11,1,none⟩ (.slice Q1 my1.length q1_)).setCell ⟨b11,2,none⟩ (.slice Q2 my2.length q2_)).setCell ⟨b11,3,none⟩ (.slice Q3 my3.length q3_)) b11 58 #[.bool my0,.slice Q1 my1.length q1_,.slice Q2 my2.length q2_,.slice Q3 my3.length q3_]:=(ky7.butM bt1 hbn2).setsL [.bool my0,.slice Q1 my1.length q1_,.slice Q2 my2.length q2_,.slice Q3 my3.length q3_] 0
  have kx9:=kx8.butM bt2 hbn
  have m1:=(m1.butP kx7 (isPg ..) bt1).butP (ky7.butM bt1 hbn2) (isPg ..) bt2
  have m2:=(m2.butP kx7 (isPg ..) bt1).butP (ky7.butM bt1 hbn2) (isPg ..) bt2
  have pu8:=((PU6.out.up u7).butF HF10.out bt1).butF HF11.out bt2
  have uu8:=((UU6.out.trans u7).but bt1 hw10).but bt2 hw11
  generalize ((((((((w7.setCell ⟨b10,0,none⟩ (.bool mx0)).setCell ⟨b10,1,none⟩ (.slice P1 mx1.length p1_)).setCell ⟨b10,2,none⟩ (.slice P2 mx2.length p2_)).setCell ⟨b10,3,none⟩ (.slice P3 mx3.length p3_)).setCell ⟨b11,0,none⟩ (.bool my0)).setCell ⟨b11,1,none⟩ (.slice Q1 my1.length q1_)).setCell ⟨b11,2,none⟩ (.slice Q2 my2.length q2_)).setCell ⟨b11,3,none⟩ (.slice Q3 my3.length q3_))=W8 at bt2 ky8 kx9 m1 m2 pu8 uu8 ⊢
  clear bt1 bt2 kx8 kx7 ky7 u7 hv1 hv2 ex0 ex1 ex2 ex3 ey0 ey1 ey2 ey3 gx0 gx1 gx2 gx3 gy0 gy1 gy2 gy3 CR kg9 N10 N11 K10 K11 PU6 UU6 fx0 fx1 fx2 fx3 fy0 fy1 fy2 fy3
  have g61:W8.cell? ⟨b6,1,none⟩=some (.slice (some ⟨q,oq,none⟩) up.2.1.length r1):=pu8.box.cell 1
  obtain ⟨ea1,rq⟩:=pu8.s1.at1 one1_S (by omega)
  have hqc:=(rq.cell hkl).1
  have hqf:=(rq.cell hkl).2
  have hsz2:ms.size≤maxLen:=Nat.le_trans hsz (by unfold maxLen;omega)
  have pu9:=pu8.setKeyV HND.out hkl hsz2
  obtain ⟨ks,hks⟩:∃ks,ks=up.2.1.set a ms:=⟨_,rfl⟩
  rw [←hks] at pu9
  have HKS:=Hd hks
  clear hks
  have on9:Only [g,q] W8 (W8.setCell ⟨q,oq+a,none⟩ (.string ms)):=(Only.refl _ _).but (But.set W8 q (oq+a) (.string ms)) (by simp)
  have bt9:=But.set W8 q (oq+a) (.string ms)
  have hq10:b10≠q:=fun e=>HF10.out q (by rw [ea1];simp) e.symm
  have hq11:b11≠q:=fun e=>HF11.out q (by rw [ea1];simp) e.symm
  have M1:=Hd ((m1.go on9).sub (L':=[g]) (by simp))
  have M2:=Hd ((m2.go on9).sub (L':=[g]) (by simp))
  have KX:=Hd (kx9.butM bt9 hq10)
  have KY:=Hd (ky8.butM bt9 hq11)
  have PU9:=Hd pu9
  have UU9:=Hd (uu8.but bt9 hqW.1)
  clear on9 m1 m2 kx9 ky8 pu8 pu9 uu8 bt9 rq hq10 hq11
  go_upto_region 14 with fail
  clear g61 hqc hqf
  obtain ⟨W9,hW9⟩:∃W9,W9=(W8.setCell ⟨q,oq+a,none⟩ (.string ms)):=⟨_,rfl⟩
  rw [←hW9] at M1 M2 KX KY PU9 UU9 ⊢
  clear hW9
  have gb0:W9.cell? ⟨b11,0,none⟩=some (.bool my0):=KY.out.cell 0
  have gb1:W9.cell? ⟨b11,1,none⟩=some (.slice Q1 my1.length q1_):=KY.out.cell 1
  have gb2:W9.cell? ⟨b11,2,none⟩=some (.slice Q2 my2.length q2_):=KY.out.cell 2
  have gb3:W9.cell? ⟨b11,3,none⟩=some (.slice Q3 my3.length q3_):=KY.out.cell 3
  have CS1:=Hd (c_l16Set g root l j (.agg #[.bool my0,.slice Q1 my1.length q1_,.slice Q2 my2.length q2_,.slice Q3 my3.length q3_]) (my0,my1,my2,my3) W9 (HST.out.up UU9.out) (M2.out.k (by simp)) (ids_len HLI.out) hIJ)
  go_upto_region 19 with (go_at_call 36;(with_reducible refine CS1.out.mono ?_);rintro e w10 ⟨rfl,st10,on10⟩)
  have KX2:=KX.out.only on10 (by simp;omega)
  have MX:=M1.out.go on10
  have PU10:=PU9.out.onlyG hgl on10
  have ON10:=(Only.of_up UU9.out).trans on10
  clear CS1 gb0 gb1 gb2 gb3 M1 M2 KX KY PU9 UU9
  have ha0:w10.cell? ⟨b10,0,none⟩=some (.bool mx0):=KX2.cell 0
  have ha1:w10.cell? ⟨b10,1,none⟩=some (.slice P1 mx1.length p1_):=KX2.cell 1
  have ha2:w10.cell? ⟨b10,2,none⟩=some (.slice P2 mx2.length p2_):=KX2.cell 2
  have ha3:w10.cell? ⟨b10,3,none⟩=some (.slice P3 mx3.length p3_):=KX2.cell 3
  have CS2:=Hd (c_l16Set g root (setL j (my0,my1,my2,my3) l) i (.agg #[.bool mx0,.slice P1 mx1.length p1_,.slice P2 mx2.length p2_,.slice P3 mx3.length p3_]) (mx0,mx1,mx2,mx3) w10 st10 (MX.k (by simp)) (ids_len (setL_mem HLI.out HID.out.2.1.1 HID.out.2.1.2).1) hII)
  go_upto_region 20 with (go_at_call 36;(with_reducible refine CS2.out.mono ?_);rintro e w11 ⟨rfl,st11,on11⟩)
  clear CS2
  have pu11:=PU10.onlyG hgl on11
  have hd0:w11.cell? ⟨b6,0,none⟩=some (.bool up.1):=pu11.box.cell 0
  have hd1:w11.cell? ⟨b6,1,none⟩=some (.slice (some ⟨q,oq,none⟩) ks.length r1):=pu11.box.cell 1
  have hd2:w11.cell? ⟨b6,2,none⟩=some (.slice U2 up.2.2.1.length r2):=pu11.box.cell 2
  have hd3:w11.cell? ⟨b6,3,none⟩=some (.slice (some ⟨gk,ok,none⟩) up.2.2.2.length r3):=pu11.box.cell 3
  have CS3:=Hd (c_l16Set g root (setL i (mx0,mx1,mx2,mx3) (setL j (my0,my1,my2,my3) l)) above (.agg #[.bool up.1,.slice (some ⟨q,oq,none⟩) ks.length r1,.slice U2 up.2.2.1.length r2,.slice (some ⟨gk,ok,none⟩) up.2.2.2.length r3]) (up.1,ks,up.2.2.1,up.2.2.2) w11 st11 (pu11.k hgl) (ids_len (setL_mem (setL_mem HLI.out HID.out.2.1.1 HID.out.2.1.2).1 HID.out.1.1 HID.out.1.2).1) hIU)
  have ON:=Hd (ON10.trans on11)
  clear pu11 st11 on11
  go_wp2_with (go_at_call 36;(with_reducible refine CS3.out.mono ?_);rintro e w12 ⟨rfl,st12,on12⟩)
  refine bodyPost_end (v:=.tuple #[]) (by simp [results,Tryz.results38,go_sem]) rfl ?_
  obtain ⟨t1,t2⟩:=three_sets (x:=(mx0,mx1,mx2,mx3)) (y:=(my0,my1,my2,my3)) (up:=(up.1,ks,up.2.2.1,up.2.2.2)) HLI.out HID.out.1 HID.out.2.1 HID.out.2.2
  refine ⟨rfl,⟨_,st12,t1,?_⟩,ON.out.trans on12⟩
  rw [t2,HRF.out,if_pos HC.out,←HM.out,HKS.out]
end Go.Proofs.YtojmcmghmnfjeaaGreatDoor
