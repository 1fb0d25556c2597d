/-
 Parts of the proof.
-/
import Derived.Test.YtojmcmghmnfjeaaGreatDoorM1Zv
import Derived.Test.YtojmcmghmnfjeaaGreatDoorM1Zkg
set_option maxHeartbeats 32000000
set_option maxRecDepth 100000
namespace Go.Proofs.YtojmcmghmnfjeaaGreatDoor
open Go Go.RowKit
set_option linter.unusedVariables false
set_option linter.unusedSimpArgs false
theorem way_drop {m:PgM}:∀{wl:List (Int×Nat)},WayOk m wl→∀k,k<wl.length→WayOk m (wl.drop k)
 | [],h,_,_=>h.elim
 | [s],h,k,hk=>by
  obtain rfl:k=0:=by simpa using hk
  exact h
 | s::t::rest,h,0,_=>h
 | s::t::rest,h,k+1,hk=>way_drop h.1 k (by simpa using hk)
theorem way_step {m:PgM} {wl:List (Int×Nat)} (h:WayOk m wl) {j k:Nat} (hjk:k=j+1) (hk:k<wl.length) (hj:j<wl.length):∃p,cutR m (wl.drop k) (wl[k]'hk).1=some p∧AllFine (cutR m (wl.drop k)) ∧
 cutR m (wl.drop j)=(if poorP p=true then refillM (cutR m (wl.drop k)) (wl[j]'hj).1 (wl[j]'hj).2 else cutR m (wl.drop k))∧(poorP p=true→∃up x y,Refills (cutR m (wl.drop k)) (wl[j]'hj).1 (wl[j]'hj).2 up x y):=by
 subst hjk
 have h1:=way_drop h j hj
 have e1:wl.drop j=wl[j]'hj::wl.drop (j+1):=List.drop_eq_getElem_cons hj
 have e2:wl.drop (j+1)=wl[j+1]'hk::wl.drop (j+1+1):=List.drop_eq_getElem_cons hk
 rw [e1,e2] at h1
 obtain ⟨_,p,hp,_,hf,hR⟩:=h1
 rw [←e2] at hp hf hR
 refine ⟨p,hp,hf,?_,hR⟩
 have e3:cutR m (wl.drop j)=stepM (cutR m (wl.drop (j+1))) (wl[j+1]'hk).1 (wl[j]'hj).1 (wl[j]'hj).2:=by
  rw [e1,e2]
  rfl
 rw [e3]
 unfold stepM
 rw [hp]
theorem way_endP {m:PgM} {wl:List (Int×Nat)} (h:WayOk m wl):0<wl.length∧∀q (hq:q<wl.length),q+1=wl.length→∃p,m (wl[q]'hq).1=some p∧p.1=true∧(wl[q]'hq).2<p.2.1.length∧AllFine m∧cutR m (wl.drop q)=setM m (wl[q]'hq).1 (some (p.1,remAt p.2.1 (wl[q]'hq).2,remAt p.2.2.1 (wl[q]'hq).2,p.2.2.2)):=by
 have hn:0<wl.length:=by
  cases wl with
  | nil=>exact h.elim
  | cons=>simp
 refine ⟨hn,fun q hq hq1=>?_⟩
 have h1:=way_drop h q hq
 have e:wl.drop q=[wl[q]'hq]:=by
  rw [List.drop_eq_getElem_cons hq,List.drop_eq_nil_of_le (by omega)]
 rw [e] at h1 ⊢
 obtain ⟨p,hp,hl,hk,hf⟩:=h1
 refine ⟨p,hp,hl,hk,hf,?_⟩
 show leafM _ _ _=_
 unfold leafM
 rw [hp]
theorem StR.setRoot {w:World} {g:Nat} {root:Int} {l:List TSlot} (h:StR w g root l) {r:Int} (hr:I64 r):StR (w.setCell ⟨g,0,none⟩ (.int .i64 r)) g r l:=by
 obtain ⟨A,c,h1,h2,_⟩:=h
 exact ⟨A,c,h1.set 0 (.int .i64 r),h2.go good_Slot ((Only.refl _ _).but (But.set w g 0 _) (by simp)),hr⟩
theorem slots_butZ {b:Nat} {w w':World} {A:Option Addr} {c:Nat} {l:List TSlot} {t:TypeId} (hr:SRW shSlot w A c l) (k:Bk w b t #[.int .i64 0,.slice none 0 0]) (hl:∀s∈l,1≤s.1∧∀i∈s.2.2.2.2,1≤i) (bt:But b w w'):SRW shSlot w' A c l:=by
 have hI:∀(i:Nat) (n:Int),(#[Value.int .i64 0,Value.slice none 0 0]:Array Value)[i]?=some (Value.int .i64 n)→n≤0:=fun i n hh=>by
  match i,hh with
  | 0,hh=>simp at hh;omega
  | 1,hh=>simp at hh
  | n+2,hh=>simp at hh
 refine ⟨hr.1,hr.2.1,fun hp=>?_⟩
 obtain ⟨gb,off,hA,q1,q2,q3⟩:=hr.2.2 hp
 have hgb:gb≠b:=by
  obtain ⟨cs,hc,hrr⟩:=q3 0 hp
  obtain ⟨A2,c2,A3,c3,A4,c4,rfl,_⟩:=openSlot hrr
  intro e
  subst e
  have h4:=hc.2 0 (show 0<5 by decide)
  rw [k.cell] at h4
  have h5:=hI _ _ h4
  have h6:=(hl _ (List.getElem_mem hp)).1
  omega
 refine ⟨gb,off,hA,q1,by rw [bt.size];exact q2,fun i hi=>?_⟩
 obtain ⟨cs,hc,hrr⟩:=q3 i hi
 refine ⟨cs,⟨hc.1,fun j hj=>(World.cell?_of_block (bt.block gb hgb)).trans (hc.2 j hj)⟩,?_⟩
 obtain ⟨A2,c2,A3,c3,A4,c4,rfl,b0,s1,s2,s3⟩:=openSlot hrr
 have o1:Only [b] w w':=(Only.refl _ _).but bt (by simp)
 refine mkSlot b0 (s1.outside repS_any (away_S s1 k (tree_noText _ _ _ _)) o1) (s2.outside repS_any (away_S s2 k (tree_noText _ _ _ _)) o1) (s3.outside repI_any (fun hp3 a ha hm=>?_) o1)
 obtain ⟨g3,o3,hA3,_,_,r3⟩:=s3.2.2 hp3
 rw [hA3] at ha
 injection ha with ha
 subst ha
 have e:g3=b:=List.mem_singleton.1 hm
 subst e
 obtain ⟨cs3,hc3,hr3⟩:=r3 0 hp3
 obtain ⟨rfl,_⟩:=(show cs3=[.int .i64 (l[i].2.2.2.2[0]'hp3)]∧_ from hr3)
 have h4:=hc3.2 0 (by decide)
 rw [k.cell] at h4
 have h5:=hI _ _ h4
 have h6:=(hl _ (List.getElem_mem hi)).2 _ (List.getElem_mem hp3)
 omega
theorem fine_low {m:PgM} (hf:AllFine m) {l:List TSlot} (hl:IdsP l) (h:atL l=m):∀s∈l,1≤s.1∧∀i∈s.2.2.2.2,1≤i:=fun s hs=>by
 have h1:=(atL_mem hl (id:=s.1) (p:=s.2)).2 hs
 rw [h] at h1
 obtain ⟨h2,h3⟩:=hf _ _ h1
 exact ⟨h2.1,fun i hi=>(h3.kids i hi).1⟩
theorem RowK.butZ {g b:Nat} {w w':World} {A:Option Addr} {c:Nat} {l:List TSlot} {t:TypeId} (h:RowK shSlot g w A c l) (k:Bk w b t #[.int .i64 0,.slice none 0 0]) (hl:∀s∈l,1≤s.1∧∀i∈s.2.2.2.2,1≤i) (bt:But b w w'):SRW shSlot w' A c l:=slots_butZ h.sr k hl bt
theorem PgK.row3 {g:Nat} {w:World} {f:Bool} {A1 A2 A3:Option Addr} {n1 c1 n2 c2 n3 c3:Nat} {p:TPage} (h:PgK g w (.agg #[.bool f,.slice A1 n1 c1,.slice A2 n2 c2,.slice A3 n3 c3]) p):SRW shI w A3 c3 p.2.2.2:=by
 obtain ⟨B1,d1,B2,d2,B3,d3,e,_,_,r3⟩:=h.rows
 simp only [Value.agg.injEq,Array.mk.injEq,List.cons.injEq,Value.slice.injEq,and_true] at e
 obtain ⟨_,_,_,rfl,_,rfl⟩:=e
 exact r3.sr
def WayC (wl:List (Int×Nat)) (w:World) (e:Ending) (w':World):Prop :=
 ∃ gw ow d,e=.returned (.tuple #[.slice (some ⟨gw,ow,none⟩) wl.length d,.bool true])∧w.heap.size≤gw∧gw<w'.heap.size ∧
  (∀W':World,W'.heap[gw]?=w'.heap[gw]?→∀k (hk:k<wl.length),W'.cell? ⟨gw,ow+k*2,none⟩=some (.int .i64 (wl[k]'hk).1)∧W'.cell? ⟨gw,ow+k*2+1,none⟩=some (.int .i64 ((wl[k]'hk).2:Int))∧I64 (wl[k]'hk).1)∧Up w w'
theorem c_wayC (v:Value) (y:TBtree) (key:ByteArray) (w:World) (h:AV shBtree w v y) (hs:SlotsP y.2) (hst:Stands y 64 y.1) (hway:(wayB y key 64 y.1).2=true) (hpos:0<(wayB y key 64 y.1).1.length):Calls Tryz.prog 14 #[v,.string key] w (WayC (wayB y key 64 y.1).1 w):=by
 refine (c_l16Way v y key w h hs hst).mono ?_
 rintro e w' ⟨D,d,bl,rfl,so,u⟩
 rw [hway]
 generalize (wayB y key 64 y.1).1=wl at so hpos ⊢
 have hl:(stepsOf wl).length=wl.length:=by simp [stepsOf]
 rcases so.2.2 with ⟨h0,_⟩ | ⟨gw,ow,C,tid,bls,rfl,hlo,hhi,hb,_,_,_,_⟩
 ·rw [h0] at hl
  simp at hl
  omega
 have sr:=SR.of_own good_Seat so
 refine ⟨gw,ow,d,rfl,hlo,hhi,fun W' hW k hk=>?_,u⟩
 obtain ⟨g',o',hA,_,_,c1,c2,i1,_,_⟩:=atSeat sr (i:=k) (by omega)
 injection hA with hA
 injection hA with e1 e2 _
 subst e1 e2
 have ek:(stepsOf wl)[k]'(by omega)=((wl[k]'hk).1,((wl[k]'hk).2:Int)):=by simp [stepsOf]
 rw [ek] at c1 c2 i1
 exact ⟨(World.cell?_of_block hW).trans c1,(World.cell?_of_block hW).trans c2,i1⟩
theorem c_l16Cut (v:Value) (y:TBtree) (key:ByteArray) (w:World) (h:AV shBtree w v y) (hn:shBtree.sz y≤1048576) (hb:btreeB y=true) (hway:(wayB y key 64 y.1).2=true) :
 Calls Tryz.prog 15 #[v,.string key] w (RpV shBtree ((cutM y key).2,slotsM (cutM y key).1) w):=by
 have hv:=h
 obtain ⟨cs,rfl,h⟩:=h
 obtain ⟨r,x⟩:=y
 have ho:=openBtree h
 dsimp only at ho
 obtain ⟨A0,c0,rfl,br,b00⟩:=ho
 clear h
 obtain ⟨p0,p1,hp0,hok,hfine,hp1,hfl,h1k,_⟩:=cut_top hb hway
 have hs:=slots_of_btree hb
 have hst:=stands_root hb
 have hids:=ids_of_slots hs
 have hcs:=cut_some hb hway
 have hokA:WayOk (atL x) (wayB (r,x) key 64 r).1:=hok
 have hwe:=way_endP hokA
 have HM:=Hd (show cutM (r,x) key=(if p1.1=false∧p1.2.2.2.length=1 then (setM (cutR (atL x) (wayB (r,x) key 64 r).1) r none,p1.2.2.2.getD 0 0) else (cutR (atL x) (wayB (r,x) key 64 r).1,r)) by
  show rootM _ _=_
  unfold rootM
  dsimp only at hp1
  rw [hp1]
  rfl)
 have HCS:=Hd hcs
 generalize cutM (r,x) key=CM at HM HCS ⊢
 have HV:=Hd hv
 have CWY:=Hd (fun (V:World) (D:Option Addr) (d:Nat) (hav:AV shBtree V (.agg #[.int .i64 r,.slice D x.length d]) (r,x))=>(show Calls Tryz.prog 14 #[.agg #[.int .i64 r,.slice D x.length d],.string key] V (WayC (wayB (r,x) key 64 r).1 V) from c_wayC _ (r,x) key V hav hs hst hway hwe.1))
 have HOK:=Hd (show WayOk (atL x) (wayB (r,x) key 64 r).1 from hok)
 have HWE:=Hd hwe
 have HFI:=Hd (show AllFine (cutR (atL x) (wayB (r,x) key 64 r).1) from hfine)
 have HP1:=Hd (show cutR (atL x) (wayB (r,x) key 64 r).1 r=some p1 from hp1)
 have HL64:=Hd (show (wayB (r,x) key 64 r).1.length≤64 from (way_len (key:=key) hs hst).2)
 have HID:=Hd hids
 have H1K:=Hd (fun hl:p1.1=false=>h1k (hfl.symm.trans hl))
 clear hp0 hok hokA hfine hp1 hfl h1k hs hst hids hcs hwe hb hway hv
 generalize (wayB (r,x) key 64 r).1=wl at HM CWY HOK HWE HFI HP1 HL64
 have kT:Bk ((w.alloc (.cells #[.int .i64 r,.slice A0 x.length c0] 28)).alloc (.cells #[.int .i64 0,.slice none 0 0] 28)) w.heap.size 28 #[.int .i64 r,.slice A0 x.length c0]:=(Bk.new w 28 #[.int .i64 r,.slice A0 x.length c0]).alloc _
 have kR:Bk ((w.alloc (.cells #[.int .i64 r,.slice A0 x.length c0] 28)).alloc (.cells #[.int .i64 0,.slice none 0 0] 28)) (w.heap.size+1) 28 #[.int .i64 0,.slice none 0 0]:=by
  simpa using Bk.new (w.alloc (.cells #[.int .i64 r,.slice A0 x.length c0] 28)) 28 #[.int .i64 0,.slice none 0 0]
 have uu:Up w ((w.alloc (.cells #[.int .i64 r,.slice A0 x.length c0] 28)).alloc (.cells #[.int .i64 0,.slice none 0 0] 28)):=((Up.refl w).alloc _).alloc _
 have CO:=Hd (c_l16Own _ (r,x) _ (HV.out.up good_Btree uu) hn)
 have g0:World.cell? _ ⟨w.heap.size,0,none⟩=some (.int .i64 r):=kT.cell 0
 have g1:World.cell? _ ⟨w.heap.size,1,none⟩=some (.slice A0 x.length c0):=kT.cell 1
 go_enter Tryz.func15,Tryz.ntmps15
 go_upto_region 2 with (go_at_call 33;(with_reducible refine CO.out.mono ?_);rintro e w1 ⟨cs1,bl1,rfl,ow1,nd1,u1⟩;obtain ⟨D,d,_,rfl,hbl,_,so1⟩:=openOBtree ow1)
 have z1:=u1.size
 have z0:=kR.lt
 have uB:Up w1 (w1.alloc (.cells #[.int .i64 r,.slice D x.length d] 28)):=(Up.refl w1).alloc _
 have st1:StR (w1.alloc (.cells #[.int .i64 r,.slice D x.length d] 28)) w1.heap.size r x:=⟨D,d,Bk.new _ _ _,RowK.of_own good_Slot (so1.up good_Slot uB) (fun hm=>by have:=(so1.in_ good_Slot _ hm).2;omega),br⟩
 have k4:=(kR.up u1).up uB
 have uu1:=(uu.trans u1).trans uB
 have hg4:w.heap.size+1<w1.heap.size:=by omega
 clear CO g0 g1 kT kR uu u1 ow1 so1 nd1 hbl z1 z0 uB HV b00
 obtain ⟨W1,hW1⟩:∃W1,W1=(w1.alloc (.cells #[.int .i64 r,.slice D x.length d] 28)):=⟨_,rfl⟩
 rw [←hW1] at st1 k4 uu1 ⊢
 clear hW1
 obtain ⟨g,hg⟩:∃g,g=w1.heap.size:=⟨_,rfl⟩
 rw [←hg] at st1 hg4 ⊢
 clear hg
 obtain ⟨A1,c1,kg1,rk1,_⟩:=id st1
 have CW:=Hd (CWY.out W1 A1 c1 ⟨[.int .i64 r,.slice A1 x.length c1],rfl,mkBtree (x:=(r,x)) br rk1.sr⟩)
 have g0:W1.cell? ⟨g,0,none⟩=some (.int .i64 r):=kg1.cell 0
 have g1:W1.cell? ⟨g,1,none⟩=some (.slice A1 x.length c1):=kg1.cell 1
 have hgW:g<W1.heap.size:=kg1.lt
 clear CWY kg1 rk1
 go_upto_region 3 with (go_at_call 14;(with_reducible refine CW.out.mono ?_);rintro e w2 ⟨gw,ow,d2,rfl,hgw1,hgw2,hwc,u2⟩)
 have hn0:=HWE.out.1
 obtain ⟨q,hq⟩:∃q,wl.length=q+1:=⟨wl.length-1,by omega⟩
 obtain ⟨n,hnl⟩:∃n,n=wl.length:=⟨_,rfl⟩
 rw [←hnl]
 have HN:=Hd (And.intro hnl hq)
 have WC:=Hd hwc
 have hql:q<wl.length:=by omega
 obtain ⟨pl,hpl,hll,hlk,haf,hcut⟩:=HWE.out.2 q hql hq.symm
 obtain ⟨gl0,gl1,hil⟩:=hwc w2 rfl q hql
 obtain ⟨lid,hlid⟩:∃lid,lid=(wl[q]'hql).1:=⟨_,rfl⟩
 obtain ⟨lat,hlat⟩:∃lat,lat=(wl[q]'hql).2:=⟨_,rfl⟩
 rw [←hlid] at gl0 hil hpl hcut
 rw [←hlat] at gl1 hlk hcut
 have hidL:=(haf _ _ hpl).1
 have fpl:=(haf _ _ hpl).2
 have hvl:lat<pl.2.2.1.length:=by rw [(fpl.leaf hll).1];exact hlk
 obtain ⟨ll1,ll2,ll3⟩:=fine_lens fpl
 clear hll
 have HCUT:=Hd hcut
 have hn64:n≤64:=by have:=HL64.out;omega
 have hq0:(0:Int)≤(q:Int):=by omega
 have hqn:(q:Int)<(n:Int):=by omega
 have hnq:(n:Int)-1=(q:Int):=by omega
 have hwq:IntKind.i64.wrap (q:Int)=(q:Int):=by rw [IntWalk.i64_in _ (by omega)]
 have hwn:IntKind.i64.wrap ((n:Int)-1)=(q:Int):=by rw [IntWalk.i64_in _ (by omega)];omega
 have hgwg:gw≠g:=by omega
 have st2:=st1.up u2
 have k42:=k4.up u2
 have uu2:=uu1.trans u2
 have NQ:=Hd (And.intro hnq (And.intro hwq hwn))
 clear hcut hnl hq hwc CW g0 g1 st1 k4 uu1 haf hn0 hlid hlat
 go_upto_region 4 with fail
 clear gl0 gl1 hnq hwq hwn
 have uC:Up w2 (w2.alloc (.cells #[.int .i64 lid,.int .i64 (lat:Int)] 73)):=(Up.refl w2).alloc _
 have k8:Bk (w2.alloc (.cells #[.int .i64 lid,.int .i64 (lat:Int)] 73)) w2.heap.size 73 #[.int .i64 lid,.int .i64 (lat:Int)]:=Bk.new _ _ _
 have wb3:(w2.alloc (.cells #[.int .i64 lid,.int .i64 (lat:Int)] 73)).heap[gw]?=w2.heap[gw]?:=uC.block gw hgw2
 have st3:=st2.up uC
 have k43:=k42.up uC
 have uu3:=uu2.trans uC
 have zg2:g<w2.heap.size:=by have:=u2.size;omega
 obtain ⟨W3,hW3⟩:∃W3,W3=(w2.alloc (.cells #[.int .i64 lid,.int .i64 (lat:Int)] 73)):=⟨_,rfl⟩
 rw [←hW3] at k8 wb3 st3 k43 uu3 ⊢
 obtain ⟨b8,hb8⟩:∃b8,b8=w2.heap.size:=⟨_,rfl⟩
 rw [←hb8] at k8 ⊢
 have hg8:g<b8:=by omega
 have hgw8:gw<b8:=by omega
 clear hW3 hb8 uC st2 k42 uu2 u2 zg2 hgw2 hgW
 -- R4
 obtain ⟨A3,c3,kg3,rk3,_⟩:=id st3
 have CPG:=Hd (c_pageK r x A3 c3 lid pl g W3 rk3 br HID.out hpl)
 have gg0:W3.cell? ⟨g,0,none⟩=some (.int .i64 r):=kg3.cell 0
 have gg1:W3.cell? ⟨g,1,none⟩=some (.slice A3 x.length c3):=kg3.cell 1
 have gm0:W3.cell? ⟨b8,0,none⟩=some (.int .i64 lid):=k8.cell 0
 have szl:=fine_sz fpl
 have hWE:=Hd (And.intro hpl fpl)
 have z83:=k8.lt
 clear kg3 rk3 hpl fpl
 go_upto_region 5 with (first
  | (go_at_call 31;(with_reducible refine CPG.out.mono ?_);rintro e w4 ⟨v4,rfl,hv4,u4⟩;have COP:=Hd (c_l16OwnPage v4 pl w4 hv4.av szl))
  | (go_at_call 34;(with_reducible refine COP.out.mono ?_);rintro e w5 ⟨cs5,bl5,rfl,ow5,nd5,u5⟩;obtain ⟨U1,r1,a1,U2,r2,a2,U3,r3,a3,rfl,hbl5,so1,so2,so3⟩:=openOPage ow5))
 have z4:=u4.size
 have z5:=u5.size
 have uB:Up w5 (w5.alloc (.cells #[.bool pl.1,.slice U1 pl.2.1.length r1,.slice U2 pl.2.2.1.length r2,.slice U3 pl.2.2.2.length r3] 58)):=(Up.refl w5).alloc _
 have uD:=(u4.trans u5).trans uB
 have hin:=good_Page.own_in ow5
 have pu:PgR (w5.alloc (.cells #[.bool pl.1,.slice U1 pl.2.1.length r1,.slice U2 pl.2.2.1.length r2,.slice U3 pl.2.2.2.length r3] 58)) W3.heap.size w5.heap.size (pgC pl U1 r1 U2 r2 U3 r3) pl U1 r1 a1 U2 r2 a2 U3 r3 a3:=⟨Bk.new _ _ _,(so1.up good_S uB).wide good_S (by omega) (Nat.le_refl _),(so2.up good_S uB).wide good_S (by omega) (Nat.le_refl _),(so3.up good_I uB).wide good_I (by omega) (Nat.le_refl _),List.nodup_cons.2 ⟨fun hm=>(by have:=(hin _ (by rw [hbl5];exact hm)).2;omega),by rw [←hbl5];exact nd5⟩,by omega⟩
 have st5:=st3.up uD
 have k45:=k43.up uD
 have k85:=k8.up uD
 have uu5:=uu3.trans uD
 have wb5:=(uD.block gw (by omega)).trans wb3
 obtain ⟨W5,hW5⟩:∃W5,W5=(w5.alloc (.cells #[.bool pl.1,.slice U1 pl.2.1.length r1,.slice U2 pl.2.2.1.length r2,.slice U3 pl.2.2.2.length r3] 58)):=⟨_,rfl⟩
 rw [←hW5] at pu st5 k45 k85 uu5 wb5 ⊢
 obtain ⟨b9,hb9⟩:∃b9,b9=w5.heap.size:=⟨_,rfl⟩
 rw [←hb9] at pu ⊢
 have h89:b8<b9:=by omega
 have hz3:g<W3.heap.size:=by omega
 clear hW5 hb9 uB uD u4 u5 hv4 so1 so2 so3 ow5 nd5 hbl5 hin z4 z5 CPG COP gg0 gg1 gm0 st3 k43 k8 uu3 wb3 z83
 -- R5
 have g91:W5.cell? ⟨b9,1,none⟩=some (.slice U1 pl.2.1.length r1):=pu.box.cell 1
 have gm1:W5.cell? ⟨b8,1,none⟩=some (.int .i64 (lat:Int)):=k85.cell 1
 have CM0:=c_l16Remove pl.2.1 U1 r1 lat W5 (SR.of_own good_S pu.s1) hlk (by omega)
 obtain ⟨ks,hks⟩:∃ks,ks=remAt pl.2.1 lat:=⟨_,rfl⟩
 rw [←hks] at CM0
 have HKS:=Hd hks
 have CM:=Hd CM0
 have hb9g:b9≠g:=by omega
 have hb98:b8≠b9:=by omega
 have hb9w:gw≠b9:=by omega
 have hb94:w.heap.size+1≠b9:=by omega
 clear CM0 hks
 go_upto_region 6 with (go_at_call 35;(with_reducible refine CM.out.mono ?_);rintro e w6 ⟨D1,d1,bl1,rfl,so1,nd1,u6⟩;have pu6:=pu.up u6;have gr1:=pu6.box.cell 1;have fr1:=pu6.box.frozen 1)
 have T1:=(PgR.start pu).row1 (so1.wide good_S (Nat.le_trans pu.lo (Nat.le_of_lt pu.box.lt)) (Nat.le_refl _)) nd1 (fun z hz=>.inr (so1.in_ good_S z hz).1) (Only.of_up u6)
 have bt1:=But.set w6 b9 1 (.slice D1 ks.length d1)
 have T2:=T1.set 1 (.slice D1 ks.length d1)
 have st6:=(st5.up u6).butP T1.pg.box (isPg ..) hb9g bt1
 have k46:=(k45.up u6).butM bt1 hb94
 have k86:=(k85.up u6).butM bt1 hb98
 have uu6:=(uu5.trans u6).but bt1 (by omega)
 have wb6:=(bt1.block gw hb9w).trans ((u6.block gw (Nat.lt_trans (Nat.lt_trans hgw8 h89) pu.box.lt)).trans wb5)
 clear pu6 gr1 fr1 g91 gm1 CM so1 nd1 T1 bt1 st5 k45 k85 uu5 wb5 pu u6
 obtain ⟨W6,hW6⟩:∃W6,W6=(w6.setCell ⟨b9,1,none⟩ (.slice D1 ks.length d1)):=⟨_,rfl⟩
 rw [←hW6] at T2 st6 k46 k86 uu6 wb6 ⊢
 have pu6:PgR W6 W3.heap.size b9 (pgC (pl.1,ks,pl.2.2.1,pl.2.2.2) D1 d1 U2 r2 U3 r3) (pl.1,ks,pl.2.2.1,pl.2.2.2) D1 d1 bl1 U2 r2 a2 U3 r3 a3:=T2.pg
 clear hW6 T2
 -- R6
 have g92:W6.cell? ⟨b9,2,none⟩=some (.slice U2 pl.2.2.1.length r2):=pu6.box.cell 2
 have gm1:W6.cell? ⟨b8,1,none⟩=some (.int .i64 (lat:Int)):=k86.cell 1
 have CM0:=c_l16Remove pl.2.2.1 U2 r2 lat W6 (SR.of_own good_S pu6.s2) hvl (by omega)
 obtain ⟨vs,hvs⟩:∃vs,vs=remAt pl.2.2.1 lat:=⟨_,rfl⟩
 rw [←hvs] at CM0
 have HVS:=Hd hvs
 have CM:=Hd CM0
 clear CM0 hvs
 go_upto_region 7 with (go_at_call 35;(with_reducible refine CM.out.mono ?_);rintro e w7 ⟨D2,d2_,bl2,rfl,so2,nd2,u7⟩;have pu7:=pu6.up u7;have gr2:=pu7.box.cell 2;have fr2:=pu7.box.frozen 2)
 have T1:=(PgR.start pu6).row2 (so2.wide good_S (Nat.le_trans pu6.lo (Nat.le_of_lt pu6.box.lt)) (Nat.le_refl _)) nd2 (fun z hz=>.inr (so2.in_ good_S z hz).1) (Only.of_up u7)
 have bt1:=But.set w7 b9 2 (.slice D2 vs.length d2_)
 have T2:=T1.set 2 (.slice D2 vs.length d2_)
 have st7:=(st6.up u7).butP T1.pg.box (isPg ..) hb9g bt1
 have k47:=(k46.up u7).butM bt1 hb94
 have k87:=(k86.up u7).butM bt1 hb98
 have uu7:=(uu6.trans u7).but bt1 (by omega)
 have wb7:=(bt1.block gw hb9w).trans ((u7.block gw (Nat.lt_trans (Nat.lt_trans hgw8 h89) pu6.box.lt)).trans wb6)
 clear pu7 gr2 fr2 g92 gm1 CM so2 nd2 T1 bt1 st6 k46 k86 uu6 wb6 pu6 u7
 obtain ⟨W7,hW7⟩:∃W7,W7=(w7.setCell ⟨b9,2,none⟩ (.slice D2 vs.length d2_)):=⟨_,rfl⟩
 rw [←hW7] at T2 st7 k47 k87 uu7 wb7 ⊢
 have pu7:PgR W7 W3.heap.size b9 (pgC (pl.1,ks,vs,pl.2.2.2) D1 d1 D2 d2_ U3 r3) (pl.1,ks,vs,pl.2.2.2) D1 d1 bl1 D2 d2_ bl2 U3 r3 a3:=T2.pg
 clear hW7 T2
 -- R7
 have ha0:W7.cell? ⟨b9,0,none⟩=some (.bool pl.1):=pu7.box.cell 0
 have ha1:W7.cell? ⟨b9,1,none⟩=some (.slice D1 ks.length d1):=pu7.box.cell 1
 have ha2:W7.cell? ⟨b9,2,none⟩=some (.slice D2 vs.length d2_):=pu7.box.cell 2
 have ha3:W7.cell? ⟨b9,3,none⟩=some (.slice U3 pl.2.2.2.length r3):=pu7.box.cell 3
 have gm0:W7.cell? ⟨b8,0,none⟩=some (.int .i64 lid):=k87.cell 0
 have CS:=Hd (c_l16Set g r x lid (.agg #[.bool pl.1,.slice D1 ks.length d1,.slice D2 vs.length d2_,.slice U3 pl.2.2.2.length r3]) (pl.1,ks,vs,pl.2.2.2) W7 st7 (pu7.k hz3) (ids_len HID.out) hil)
 have HS1:=setL_mem (p:=(pl.1,ks,vs,pl.2.2.2)) HID.out hidL.1 hidL.2
 have HA1:atL (setL lid (pl.1,ks,vs,pl.2.2.2) x)=cutR (atL x) (wl.drop q):=by
  rw [setL_at HID.out hidL.1 hidL.2,HCUT.out,HKS.out,HVS.out]
 have HS:=Hd (And.intro HS1.1 HA1)
 clear HS1 HA1 pu7
 go_upto_region 8 with (go_at_call 36;(with_reducible refine CS.out.mono ?_);rintro e w8 ⟨rfl,st8,on8⟩)
 have k48:=k47.only on8 (by simp;omega)
 have uu8:Up w w8:=Up.only uu7 on8 fun z hz=>by have:=List.mem_singleton.1 hz;omega
 have wb8:=(on8.block gw (by have:=k87.lt;omega) (by simp;omega)).trans wb7
 have SL:=Hd (show StR w8 g r (setL lid (pl.1,ks,vs,pl.2.2.2) x)∧IdsP (setL lid (pl.1,ks,vs,pl.2.2.2) x)∧atL (setL lid (pl.1,ks,vs,pl.2.2.2) x)=cutR (atL x) (wl.drop q) from ⟨st8,HS.out.1,HS.out.2⟩)
 have hgw8':gw<w8.heap.size:=by have:=k87.lt;have:=on8.size;omega
 have hg8':g<w8.heap.size:=by have:=k87.lt;have:=on8.size;omega
 clear CS HS ha0 ha1 ha2 ha3 gm0 st7 k47 k87 uu7 wb7 on8 st8 hvl hlk ll1 ll2 ll3 szl hWE hidL hil HKS HVS HCUT
 have hnq:=NQ.out.1
 have hwq:=NQ.out.2.1
 have hwn:=NQ.out.2.2
 go_wp2_with fail
 clear hnq hwq hwn
 go_loopw [10] (fun s wr=>∃(k:Nat) (l':List TSlot),s=.int .i64 (k:Int)∧k<n∧Hid (StR wr g r l'∧IdsP l'∧atL l'=cutR (atL x) (wl.drop k))∧Hid (Only [g] w8 wr)) (fun s _=>(intOf s).toNat)
 case atStart=>exact ⟨q,_,rfl,by omega,SL,Hd (Only.refl _ _)⟩
 case round =>
  obtain ⟨k,l',rfl,hk,S,O⟩:=hrel
  have hkl:k<wl.length:=by have:=HN.out.1;omega
  have WCr:∀W',Only [g] w8 W'→∀k (hk:k<wl.length),W'.cell? ⟨gw,ow+k*2,none⟩=some (.int .i64 (wl[k]'hk).1)∧W'.cell? ⟨gw,ow+k*2+1,none⟩=some (.int .i64 ((wl[k]'hk).2:Int))∧I64 (wl[k]'hk).1:=fun W' o=>WC.out W' ((o.block gw hgw8' (by simp;omega)).trans wb8)
  have WR:=Hd WCr
  clear WCr SL
  have hk0:(0:Int)≤(k:Int):=by omega
  have hk64:(k:Int)<64:=by omega
  obtain ⟨A,c,kg,rk,_⟩:=id S.out.1
  have g0:wr.cell? ⟨g,0,none⟩=some (.int .i64 r):=kg.cell 0
  have g1:wr.cell? ⟨g,1,none⟩=some (.slice A l'.length c):=kg.cell 1
  by_cases h0:0<k
  ·obtain ⟨j,hj⟩:∃j,k=j+1:=⟨k-1,by omega⟩
   have hjl:j<wl.length:=by omega
   obtain ⟨p,hp,hfk,hstep,hR⟩:=way_step HOK.out hj hkl hjl
   obtain ⟨sid,hsid⟩:∃sid,sid=(wl[j]'hjl).1:=⟨_,rfl⟩
   obtain ⟨sat,hsat⟩:∃sat,sat=(wl[j]'hjl).2:=⟨_,rfl⟩
   have HJC:=Hd (fun (W':World) (o:Only [g] w8 W')=>WR.out W' o j hjl)
   rw [←hsid,←hsat] at hstep hR HJC
   obtain ⟨ck0,_,hikk⟩:=WR.out wr O.out k hkl
   obtain ⟨tid,htid⟩:∃tid,tid=(wl[k]'hkl).1:=⟨_,rfl⟩
   rw [←htid] at ck0 hp hikk
   have hk1:(0:Int)<(k:Int):=by omega
   have hkn:(k:Int)<(n:Int):=by omega
   have hjn:(j:Int)<(n:Int):=by omega
   have hj0:(0:Int)≤(j:Int):=by omega
   have HSTEP:=Hd hstep
   have HR:=Hd hR
   have KJ:=Hd hj
   have CPK:=Hd (fun W (u:Up wr W)=>c_pageK r l' A c tid p g W (rk.go good_Slot (only_up u)) br S.out.2.1 (by rw [S.out.2.2];exact hp))
   have HC:=Hd (fun (W':World) (u:Up wr W')=>show W'.cell? ⟨g,0,none⟩=some (.int .i64 r)∧W'.cell? ⟨g,1,none⟩=some (.slice A l'.length c)∧W'.cell? ⟨gw,ow+k*2,none⟩=some (.int .i64 tid) from ⟨(u.cell (cell_lt g0)).trans g0,(u.cell (cell_lt g1)).trans g1,(u.cell (cell_lt ck0)).trans ck0⟩)
   have U0:Up wr wr:=Up.refl wr
   clear g0 g1 ck0 hp hfk hstep hR htid kg rk h0 hsid hsat
   clear hj
   go_upto_region 11 with fail
   go_cut [61] (fun s wx=>s=.bool (poorP p)∧Up wr wx)
   case first =>
    go_region_held3 (fun W:World=>W.cell? ⟨g,0,none⟩=some (.int .i64 r)∧W.cell? ⟨g,1,none⟩=some (.slice A l'.length c)∧W.cell? ⟨gw,ow+k*2,none⟩=some (.int .i64 tid))
     (first | with_reducible exact HC.out _ U0.drew | with_reducible exact HC.out _ ua | with_reducible exact HC.out _ ub)
     (first
      | (go_at_call 31;(with_reducible refine (CPK.out _ U0.drew).mono ?_);rintro e wa ⟨va,rfl,hva,ua'⟩;have ua:=U0.drew.trans ua';have CPO:=Hd (c_l16Poor va p wa hva.av))
      | (go_at_call 37;(with_reducible refine CPO.out.mono ?_);rintro e wb ⟨rfl,ub'⟩;have ub:=ua.trans ub'))
    go_wp2_with fail
    go_meet
    exact ⟨rfl,ub⟩
   obtain ⟨rfl,hu⟩:=hcut
   clear HC U0 CPK
   have stc:=S.out.1.up hu
   have oc:=O.out.up hu
   cases hpo:poorP p
   ·have HS2:=Hd (show StR wc g r l'∧IdsP l'∧atL l'=cutR (atL x) (wl.drop j) from ⟨stc,S.out.2.1,by rw [HSTEP.out,if_neg (by rw [hpo];decide)];exact S.out.2.2⟩)
    have HO2:=Hd oc
    have hkj:(k:Int)-1=(j:Int):=by have:=KJ.out;omega
    have HKJ:=Hd hkj
    clear stc oc hpo HSTEP HR hkj
    go_wp2_with fail
    go_roundw
    case rel=>exact ⟨j,l',by rw [←HKJ.out] <;> go_num,by omega,HS2,HO2⟩
    case measure=>have:=HKJ.out;simp [intOf];omega
   ·obtain ⟨up,xx,yy,hRf⟩:=HR.out hpo
    rw [←S.out.2.2] at hRf
    have HS2:=Hd (fun (W:World) (l2:List TSlot) (h1:StR W g r l2) (h2:IdsP l2) (h3:atL l2=refillP (atL l') sid sat up xx yy)=>show StR W g r l2∧IdsP l2∧atL l2=cutR (atL x) (wl.drop j) from ⟨h1,h2,by rw [HSTEP.out,if_pos hpo,←S.out.2.2,hRf.eq];exact h3⟩)
    have CFL:=Hd (fun W (u:Up wc W)=>c_l16Fill (stc.up u) S.out.2.1 hRf)
    have HJ2:=Hd (fun (W':World) (o:Only [g] wc W')=>HJC.out W' (oc.trans o))
    obtain ⟨_,_,hisid⟩:=HJC.out wc oc
    have HOC:=Hd oc
    have hkj:(k:Int)-1=(j:Int):=by have:=KJ.out;omega
    have hwj:IntKind.i64.wrap (j:Int)=(j:Int):=by rw [IntWalk.i64_in _ (by omega)]
    have HKJ:=Hd hkj
    have o0:Only [g] wc wc.drew:=Only.of_up (Up.refl wc).drew
    have u0:Up wc wc.drew:=(Up.refl wc).drew
    clear stc oc hpo HSTEP HR HJC hRf
    go_upto_region 12 with fail
    go_region_held3 (fun W:World=>W.cell? ⟨gw,ow+j*2,none⟩=some (.int .i64 sid)∧W.cell? ⟨gw,ow+j*2+1,none⟩=some (.int .i64 (sat:Int)))
     (first | (have q0:=HJ2.out _ o0;with_reducible exact ⟨q0.1,q0.2.1⟩) | (have q0:=HJ2.out _ oa;with_reducible exact ⟨q0.1,q0.2.1⟩))
     (first | (go_at_call 38;(with_reducible refine (CFL.out _ u0).mono ?_);rintro e wa ⟨rfl,⟨l2,s1,s2,s3⟩,oa'⟩;have oa:=o0.trans oa'))
    have HS3:=Hd (HS2.out _ _ s1 s2 s3)
    have HO2:=Hd (HOC.out.trans oa)
    clear HS2 CFL HJ2 s1 s2 s3 oa o0 u0 hkj hwj
    go_wp2_with fail
    go_roundw
    case rel=>exact ⟨j,l2,by rw [←HKJ.out] <;> go_num,by omega,HS3,HO2⟩
    case measure=>have:=HKJ.out;simp [intOf];omega
  ·obtain rfl:k=0:=by omega
   have S:=Hd (show StR wr g r l'∧IdsP l'∧atL l'=cutR (atL x) wl from ⟨S.out.1,S.out.2.1,by rw [S.out.2.2,List.drop_zero]⟩)
   have CPR:=Hd (c_pageK r l' A c r p1 g wr rk br S.out.2.1 (by rw [S.out.2.2];exact HP1.out))
   have hF1:=(HFI.out _ _ HP1.out).2
   obtain ⟨le1,le2,le3⟩:=fine_lens hF1
   have HF1:=Hd hF1
   clear h0 kg rk hF1 hk hkl WR
   go_upto_region 14 with (go_at_call 31;(with_reducible refine CPR.out.mono ?_);rintro e w9 ⟨v9,rfl,hv9,u9⟩;obtain ⟨X1,x1_,X2,x2_,X3,x3_,rfl⟩:=hv9.cells)
   have uE:Up w9 (w9.alloc (.cells #[.bool p1.1,.slice X1 p1.2.1.length x1_,.slice X2 p1.2.2.1.length x2_,.slice X3 p1.2.2.2.length x3_] 58)):=(Up.refl w9).alloc _
   have kE:Bk (w9.alloc (.cells #[.bool p1.1,.slice X1 p1.2.1.length x1_,.slice X2 p1.2.2.1.length x2_,.slice X3 p1.2.2.2.length x3_] 58)) w9.heap.size 58 #[.bool p1.1,.slice X1 p1.2.1.length x1_,.slice X2 p1.2.2.1.length x2_,.slice X3 p1.2.2.2.length x3_]:=Bk.new _ _ _
   have hvE:=hv9.go (only_up uE)
   have stE:=(S.out.1.up u9).up uE
   have onE:=(O.out.up u9).up uE
   have zE:g<w9.heap.size:=by have:=u9.size;have:=O.out.size;omega
   obtain ⟨WE,hWE2⟩:∃WE,WE=(w9.alloc (.cells #[.bool p1.1,.slice X1 p1.2.1.length x1_,.slice X2 p1.2.2.1.length x2_,.slice X3 p1.2.2.2.length x3_] 58)):=⟨_,rfl⟩
   rw [←hWE2] at kE hvE stE onE ⊢
   obtain ⟨b11,hb11⟩:∃b11,b11=w9.heap.size:=⟨_,rfl⟩
   rw [←hb11] at kE zE ⊢
   have ge0:WE.cell? ⟨b11,0,none⟩=some (.bool p1.1):=kE.cell 0
   obtain ⟨nl,hnl⟩:∃nl,nl=p1.2.2.2.length:=⟨_,rfl⟩
   have ge3:WE.cell? ⟨b11,3,none⟩=some (.slice X3 nl x3_):=by rw [hnl];exact kE.cell 3
   have HNL:=Hd hnl
   have KE:=Hd kE
   have VE:=Hd hvE
   have SE:=Hd (And.intro stE S.out.2)
   have OE:=Hd onE
   obtain ⟨AE,cE,kgE,_,_⟩:=stE
   have gg0:WE.cell? ⟨g,0,none⟩=some (.int .i64 r):=kgE.cell 0
   clear hWE2 hb11 uE kE hvE onE hnl CPR hv9 u9 S O kgE g0 g1
   rw [HNL.out.symm] at le3
   cases hl:p1.1
   ·have HL:=Hd hl
    rw [hl] at ge0
    by_cases h1:nl=1
    ·have hnl1:(nl:Int)=1:=by omega
     have hd:decide ((nl:Int)=1)=true:=by rw [hnl1];rfl
     have H1:=Hd h1
     have HCM:=Hd (show CM=(setM (cutR (atL x) wl) r none,p1.2.2.2.getD 0 0) by rw [HM.out,if_pos ⟨hl,by rw [←HNL.out];exact h1⟩])
     have CD:=Hd (c_l16Drop g r l' r WE SE.out.1 (ids_len SE.out.2.1) br)
     have hpos:0<p1.2.2.2.length:=by rw [←HNL.out];omega
     clear hl h1 hd
     go_upto_region 16 with (go_at_call 39;(with_reducible refine CD.out.mono ?_);rintro e w10 ⟨rfl,st10,on10⟩)
     clear ge0 ge3 gg0 CD
     have kE10:=KE.out.only on10 (by simp;omega)
     have ge3:w10.cell? ⟨b11,3,none⟩=some (.slice X3 nl x3_):=by rw [HNL.out];exact kE10.cell 3
     obtain ⟨gk,ok,rfl,_,_,hck,hik⟩:=(VE.out.go on10).row3.at_I hpos
     obtain ⟨kid,hkid⟩:∃kid,kid=p1.2.2.2[0]'hpos:=⟨_,rfl⟩
     rw [←hkid] at hck hik
     rw [Nat.add_zero] at hck
     have HKD:=Hd (show kid=p1.2.2.2.getD 0 0 by rw [getD_inW hpos];exact hkid)
     have on11:=OE.out.trans on10
     have st11:=st10.setRoot hik
     obtain ⟨_,_,kg10,_,_⟩:=st10
     have gg0:=kg10.cell 0
     have fg0:=kg10.frozen 0
     have bt11:=But.set w10 g 0 (.int .i64 kid)
     have on12:=on11.but bt11 (List.mem_singleton.2 rfl)
     clear hkid kE10 kg10 on11 on10 bt11 hpos VE KE
     go_upto_region 17 with fail
     clear gg0 fg0 hck ge3
     obtain ⟨W16,hW16⟩:∃W16,W16=w10.setCell ⟨g,0,none⟩ (.int .i64 kid):=⟨_,rfl⟩
     rw [←hW16] at st11 on12 ⊢
     clear hW16
     have hid2:=dropL_ids SE.out.2.1 r
     have hat2:atL (dropL r l')=CM.1:=by rw [dropL_at SE.out.2.1,SE.out.2.2,HCM.out]
     have hl2:=ids_slotsM hid2 HCS.out.1 hat2
     have lowF:=fine_low HCS.out.1 hid2 hat2
     obtain ⟨AF,cF,kgF,rkF,hIF⟩:=st11
     rw [hl2] at kgF rkF lowF
     have hrt:CM.2=kid:=by rw [HCM.out,HKD.out]
     have k4F:=k48.only on12 (by simp;omega)
     have uF:Up w W16:=Up.only uu8 on12 fun z hz=>by have:=List.mem_singleton.1 hz;omega
     have gg0:World.cell? W16 ⟨g,0,none⟩=some (.int .i64 kid):=kgF.cell 0
     have gg1:World.cell? W16 ⟨g,1,none⟩=some (.slice AF (slotsM CM.1).length cF):=kgF.cell 1
     have gz0:=k4F.cell 0
     have gz1:=k4F.cell 1
     have fz0:=k4F.frozen 0
     have fz1:=k4F.frozen 1
     have LOW:=Hd lowF
     have HRT:=Hd hrt
     clear hl2 lowF hrt
     go_wp2_with fail
     have btF:But (w.heap.size+1) W16 ((W16.setCell ⟨w.heap.size+1,0,none⟩ (.int .i64 kid)).setCell ⟨w.heap.size+1,1,none⟩ (.slice AF (slotsM CM.1).length cF)):=But.sets (g:=w.heap.size+1) [.int .i64 kid,.slice AF (slotsM CM.1).length cF] W16 0
     have kz:Bk ((W16.setCell ⟨w.heap.size+1,0,none⟩ (.int .i64 kid)).setCell ⟨w.heap.size+1,1,none⟩ (.slice AF (slotsM CM.1).length cF)) (w.heap.size+1) 28 #[.int .i64 kid,.slice AF (slotsM CM.1).length cF]:=by
      simpa using (k4F.set 0 (.int .i64 kid)).set 1 (.slice AF (slotsM CM.1).length cF)
     refine bodyPost_ret (results_bk kz _ _ Tryz.results15 rfl Tryz.underlying28 rfl (by kernel_rfl)) rfl ?_
     rw [HRT.out]
     exact ⟨[.int .i64 kid,.slice AF (slotsM CM.1).length cF],rfl,mkBtree (x:=(kid,slotsM CM.1)) hIF (rkF.butZ k4F LOW.out btF),uF.but btF (by omega)⟩
    ·have hnl1:¬((nl:Int)=1):=by omega
     have hd:decide ((nl:Int)=1)=false:=decide_eq_false hnl1
     have HCM:=Hd (show CM=(cutR (atL x) wl,r) by rw [HM.out,if_neg (fun h=>h1 (by rw [HNL.out];exact h.2))])
     clear hl h1
     go_upto_region 17 with fail
     clear ge0 ge3 gg0 hd hnl1 KE VE
     have hat2:atL l'=CM.1:=by rw [SE.out.2.2,HCM.out]
     have hid2:=SE.out.2.1
     have st11:=SE.out.1
     have on12:=OE.out
     have hl2:=ids_slotsM hid2 HCS.out.1 hat2
     have lowF:=fine_low HCS.out.1 hid2 hat2
     obtain ⟨AF,cF,kgF,rkF,hIF⟩:=st11
     rw [hl2] at kgF rkF lowF
     have hrt:CM.2=r:=by rw [HCM.out]
     have k4F:=k48.only on12 (by simp;omega)
     have uF:Up w WE:=Up.only uu8 on12 fun z hz=>by have:=List.mem_singleton.1 hz;omega
     have gg0:World.cell? WE ⟨g,0,none⟩=some (.int .i64 r):=kgF.cell 0
     have gg1:World.cell? WE ⟨g,1,none⟩=some (.slice AF (slotsM CM.1).length cF):=kgF.cell 1
     have gz0:=k4F.cell 0
     have gz1:=k4F.cell 1
     have fz0:=k4F.frozen 0
     have fz1:=k4F.frozen 1
     have LOW:=Hd lowF
     have HRT:=Hd hrt
     clear hl2 lowF hrt
     go_wp2_with fail
     have btF:But (w.heap.size+1) WE ((WE.setCell ⟨w.heap.size+1,0,none⟩ (.int .i64 r)).setCell ⟨w.heap.size+1,1,none⟩ (.slice AF (slotsM CM.1).length cF)):=But.sets (g:=w.heap.size+1) [.int .i64 r,.slice AF (slotsM CM.1).length cF] WE 0
     have kz:Bk ((WE.setCell ⟨w.heap.size+1,0,none⟩ (.int .i64 r)).setCell ⟨w.heap.size+1,1,none⟩ (.slice AF (slotsM CM.1).length cF)) (w.heap.size+1) 28 #[.int .i64 r,.slice AF (slotsM CM.1).length cF]:=by
      simpa using (k4F.set 0 (.int .i64 r)).set 1 (.slice AF (slotsM CM.1).length cF)
     refine bodyPost_ret (results_bk kz _ _ Tryz.results15 rfl Tryz.underlying28 rfl (by kernel_rfl)) rfl ?_
     rw [HRT.out]
     exact ⟨[.int .i64 r,.slice AF (slotsM CM.1).length cF],rfl,mkBtree (x:=(r,slotsM CM.1)) hIF (rkF.butZ k4F LOW.out btF),uF.but btF (by omega)⟩
   ·have HL:=Hd hl
    rw [hl] at ge0
    have HCM:=Hd (show CM=(cutR (atL x) wl,r) by rw [HM.out,if_neg (fun h=>by rw [hl] at h;cases h.1)])
    clear hl
    go_upto_region 17 with fail
    clear ge0 ge3 gg0 KE VE
    have hat2:atL l'=CM.1:=by rw [SE.out.2.2,HCM.out]
    have hid2:=SE.out.2.1
    have st11:=SE.out.1
    have on12:=OE.out
    have hl2:=ids_slotsM hid2 HCS.out.1 hat2
    have lowF:=fine_low HCS.out.1 hid2 hat2
    obtain ⟨AF,cF,kgF,rkF,hIF⟩:=st11
    rw [hl2] at kgF rkF lowF
    have hrt:CM.2=r:=by rw [HCM.out]
    have k4F:=k48.only on12 (by simp;omega)
    have uF:Up w WE:=Up.only uu8 on12 fun z hz=>by have:=List.mem_singleton.1 hz;omega
    have gg0:World.cell? WE ⟨g,0,none⟩=some (.int .i64 r):=kgF.cell 0
    have gg1:World.cell? WE ⟨g,1,none⟩=some (.slice AF (slotsM CM.1).length cF):=kgF.cell 1
    have gz0:=k4F.cell 0
    have gz1:=k4F.cell 1
    have fz0:=k4F.frozen 0
    have fz1:=k4F.frozen 1
    have LOW:=Hd lowF
    have HRT:=Hd hrt
    clear hl2 lowF hrt
    go_wp2_with fail
    have btF:But (w.heap.size+1) WE ((WE.setCell ⟨w.heap.size+1,0,none⟩ (.int .i64 r)).setCell ⟨w.heap.size+1,1,none⟩ (.slice AF (slotsM CM.1).length cF)):=But.sets (g:=w.heap.size+1) [.int .i64 r,.slice AF (slotsM CM.1).length cF] WE 0
    have kz:Bk ((WE.setCell ⟨w.heap.size+1,0,none⟩ (.int .i64 r)).setCell ⟨w.heap.size+1,1,none⟩ (.slice AF (slotsM CM.1).length cF)) (w.heap.size+1) 28 #[.int .i64 r,.slice AF (slotsM CM.1).length cF]:=by
     simpa using (k4F.set 0 (.int .i64 r)).set 1 (.slice AF (slotsM CM.1).length cF)
    refine bodyPost_ret (results_bk kz _ _ Tryz.results15 rfl Tryz.underlying28 rfl (by kernel_rfl)) rfl ?_
    rw [HRT.out]
    exact ⟨[.int .i64 r,.slice AF (slotsM CM.1).length cF],rfl,mkBtree (x:=(r,slotsM CM.1)) hIF (rkF.butZ k4F LOW.out btF),uF.but btF (by omega)⟩
end Go.Proofs.YtojmcmghmnfjeaaGreatDoor
