/-
 Parts of the proof.
-/
import Derived.Test.YtojmcmghmnfjeaaGreatDoorM1Zn
import Derived.Test.YtojmcmghmnfjeaaGreatDoorM1Zx
set_option maxHeartbeats 16000000
set_option maxRecDepth 100000
namespace Go.Proofs.YtojmcmghmnfjeaaGreatDoor
open Go.RowKit
set_option linter.unusedVariables false
set_option linter.unusedSimpArgs false
theorem getB_eq {x:TBtree} {key:ByteArray} {id:Int} {i:Nat} {q:TPage} {b:Bool} (h:btreeB x=true) (h1:(wayB x key 64 x.1).1.getLast?=some (id,i)) (h2:(wayB x key 64 x.1).2=b) (hq:pgAt x id=some q):getB x key=if b=true then (q.2.2.1.getD i ⟨#[]⟩,true) else (⟨#[]⟩,false):=by
 unfold getB
 rw [if_pos h,h1,h2]
 dsimp only
 rw [hq]
 rfl
theorem leaf_vals {p:TPage} (h:pageB p=true) (hl:p.1=true):p.2.2.1.length=p.2.1.length:=by
 unfold pageB at h
 simp only [Bool.and_eq_true] at h
 have h2:=h.2
 rw [if_pos hl] at h2
 simp only [leafB,Bool.and_eq_true,decide_eq_true_eq] at h2
 exact h2.1.1.2
theorem keyHas_lt {l:List ByteArray} {key:ByteArray} (h:keyHas l key=true):keyIdx l key<l.length:=by
 unfold keyHas at h
 simp only [Bool.and_eq_true,decide_eq_true_eq] at h
 exact h.1
theorem c_get1 {x:TBtree} (hb:btreeB x=true) (hr:I64 x.1) (key:ByteArray) {lo hi tb:Nat} {w:World} (PR:PagesR w lo hi tb x) (hhi:hi≤w.heap.size) :
 Calls Tryz.prog 20 #[.pointer (some ⟨tb,0,none⟩),.string key] w (RetV (.tuple #[.string (getB x key).1,.bool (getB x key).2]) w):=by
 have hs:=slots_of_btree hb
 have CL:=Hd (c_leaf hs (stands_root hb) hr key PR hhi)
 have HG:=Hd (fun id i q b=>getB_eq (x:=x) (key:=key) (id:=id) (i:=i) (q:=q) (b:=b) hb)
 have HS:=Hd hs
 generalize getB x key=R at HG ⊢
 clear PR hb hs
 go_enter Tryz.func20,Tryz.ntmps20
 go_wp2_with fail
 refine CL.out.mono ?_
 rintro e w1 ⟨g,id,q,rfl,u1,hp,hl,h1,h2,cs,kg,hrep⟩
 have hpb:=pgAt_ok HS.out hp
 obtain ⟨A1,c1,A2,c2,A3,c3,rfl,b1,b2,b3⟩:=openPage hrep
 have hz:=u1.size
 have gp0:w1.cell? ⟨g,0,none⟩=some (.bool q.1):=kg.cell 0
 have gp1:w1.cell? ⟨g,1,none⟩=some (.slice A1 q.2.1.length c1):=kg.cell 1
 have gp2:w1.cell? ⟨g,2,none⟩=some (.slice A2 q.2.2.1.length c2):=kg.cell 2
 have gp3:w1.cell? ⟨g,3,none⟩=some (.slice A3 q.2.2.2.length c3):=kg.cell 3
 have CF:=Hd (c_find (.agg #[.bool q.1,.slice A1 q.2.1.length c1,.slice A2 q.2.2.1.length c2,.slice A3 q.2.2.2.length c3]) q key w1 ⟨_,rfl,good_Page.wide hrep (Nat.le_refl _) (by omega)⟩ hpb)
 have HR:=Hd (HG.out id (keyIdx q.2.1 key) q (keyHas q.2.1 key) h1 h2 hp)
 have hfb:findB q key=(keyIdx q.2.1 key,keyHas q.2.1 key):=by unfold findB;rw [if_neg (by rw [hl];simp)]
 rw [hfb] at CF
 have hvl:=leaf_vals hpb hl
 have HLT:=Hd (fun h=>hvl▸keyHas_lt (l:=q.2.1) (key:=key) h)
 generalize keyIdx q.2.1 key=k at CF HR HLT
 generalize keyHas q.2.1 key=b at CF HR HLT
 have hpbN:=Hd hpb
 rw [hl] at CF gp0
 clear hrep CL HG h1 h2 hp hfb hvl hpb hl
 go_wp2_with fail
 refine CF.out.mono ?_
 rintro e w2 ⟨rfl,u2⟩
 have kg2:=kg.up u2
 have gp2':w2.cell? ⟨g,2,none⟩=some (.slice A2 q.2.2.1.length c2):=kg2.cell 2
 clear gp0 gp1 gp2 gp3 CF
 cases b
 ·have HE:=Hd (show R=(⟨#[]⟩,false) from HR.out)
  clear HR
  go_wp2_with fail
  refine bodyPost_ret (v:=.tuple #[.string ⟨#[]⟩,.bool false]) (by simp [results,Tryz.results20,go_sem]) rfl ?_
  exact ⟨by rw [HE.out],u1.trans u2⟩
 ·have hk:=HLT.out rfl
  have HE:=Hd (show R=(q.2.2.1[k],true) from HR.out.trans (by rw [if_pos rfl,getD_inW hk]))
  obtain ⟨gk,ok,rfl,_,_,hck,_⟩:=(SR.keep good_S b2 (u2.keeps (by omega)):SR shS w2 0 hi A2 c2 q.2.2.1).at_S hk
  have hki:(k:Int)<(q.2.2.1.length:Int):=by omega
  have hk0:(0:Int)≤(k:Int):=by omega
  clear HR HLT
  go_wp2_with fail
  refine bodyPost_ret (v:=.tuple #[.string q.2.2.1[k],.bool true]) (by simp [results,Tryz.results20,go_sem]) rfl ?_
  exact ⟨by rw [HE.out],u1.trans u2⟩
end Go.Proofs.YtojmcmghmnfjeaaGreatDoor
namespace Go.Proofs.YtojmcmghmnfjeaaGreatDoor
open Go Go.RowKit
set_option linter.unusedVariables false
set_option linter.unusedSimpArgs false
theorem getB_has {x:TBtree} {key:ByteArray} (hb:btreeB x=true):(getB x key).2=(wayB x key 64 x.1).2:=by
 obtain ⟨l,i,q,hw1,hpq,hql,hw2⟩:=way_last (key:=key) (slots_of_btree hb) (stands_root hb)
 have e:(wayB x key 64 x.1).1.getLast?=some (i,keyIdx q.2.1 key):=by
  rw [hw1,List.getLast?_append]
  rfl
 unfold getB
 rw [if_pos hb,e]
 dsimp only
 cases (wayB x key 64 x.1).2 <;> simp
theorem btCut_form {x:TBtree} {key:ByteArray} (h:¬(btreeB x=true∧keyB key=true)):btCut x key=(0,[])∧btCutC x key=1:=by
 unfold btCut btCutC
 exact ⟨if_neg fun hh=>h ⟨hh.1,hh.2.1⟩,if_neg h⟩
theorem btCut_none {x:TBtree} {key:ByteArray} (hb:btreeB x=true) (hk:keyB key=true) (hw:(wayB x key 64 x.1).2=false):btCut x key=(0,[])∧btCutC x key=3:=by
 unfold btCut btCutC
 refine ⟨if_neg fun hh=>?_,?_⟩
 ·rw [hw] at hh;cases hh.2.2
 ·rw [if_pos ⟨hb,hk⟩,if_neg (by rw [hw];decide)]
theorem btCut_done {x:TBtree} {key:ByteArray} (hb:btreeB x=true) (hk:keyB key=true) (hw:(wayB x key 64 x.1).2=true):btCut x key=((cutM x key).2,slotsM (cutM x key).1)∧btCutC x key=0:=by
 unfold btCut btCutC
 exact ⟨if_pos ⟨hb,hk,hw⟩,by rw [if_pos ⟨hb,hk⟩,if_pos hw]⟩
theorem toR_zeroB {w w':World} {y:TBtree} {n c:Int} (h:Hid (y=(0,[])∧n=c)) (u:Up w w'):ToR shBtree y n w (.returned (.tuple #[.agg #[.int .i64 0,.slice none 0 0],.int .i64 c])) w':=by
 rw [h.out.1,h.out.2]
 exact ⟨[.int .i64 0,.slice none 0 0],[],rfl,asmBtree (x0:=0) (x1:=[]) ⟨by decide,by decide⟩ (SO.nil _ _ _),List.nodup_nil,u⟩
theorem ci_BtCut (v:Value) (y:TBtree) (key:ByteArray) (w:World) (h:AV shBtree w v y) (hn:shBtree.sz y≤1048576) (hk:key.size≤9223372036854775807) (hks:key.size≤1048576) (htab:Tab w) (hm:MaxL w):Calls Tryz.prog 7 #[v,.string key] w (ToR shBtree (btCut y key) (btCutC y key) w):=by
 have hv:=h
 obtain ⟨cs,rfl,h⟩:=h
 obtain ⟨r,x⟩:=y
 have ho:=openBtree h
 dsimp only at ho
 obtain ⟨A0,c0,rfl,br,b00⟩:=ho
 clear h hk
 have uu:Up w ((w.alloc (.cells #[.int .i64 r,.slice A0 x.length c0] 28)).alloc (.cells #[.int .i64 0,.slice none 0 0] 28)):=((Up.refl w).alloc _).alloc _
 have kT:Bk ((w.alloc (.cells #[.int .i64 r,.slice A0 x.length c0] 28)).alloc (.cells #[.int .i64 0,.slice none 0 0] 28)) w.heap.size 28 #[.int .i64 r,.slice A0 x.length c0]:=(Bk.new w 28 #[.int .i64 r,.slice A0 x.length c0]).alloc _
 have kR:Bk ((w.alloc (.cells #[.int .i64 r,.slice A0 x.length c0] 28)).alloc (.cells #[.int .i64 0,.slice none 0 0] 28)) (w.heap.size+1) 28 #[.int .i64 0,.slice none 0 0]:=by
  simpa using Bk.new (w.alloc (.cells #[.int .i64 r,.slice A0 x.length c0] 28)) 28 #[.int .i64 0,.slice none 0 0]
 have CB:=Hd (ci_BtreeOk _ (r,x) _ (hv.up good_Btree uu) hn (tab_up htab uu) (maxL_up hm uu))
 have g0:World.cell? _ ⟨w.heap.size,0,none⟩=some (.int .i64 r):=kT.cell 0
 have g1:World.cell? _ ⟨w.heap.size,1,none⟩=some (.slice A0 x.length c0):=kT.cell 1
 have HF:=Hd (fun hh=>btCut_form (x:=(r,x)) (key:=key) hh)
 have HN:=Hd (fun hb hk hw=>btCut_none (x:=(r,x)) (key:=key) hb hk hw)
 have HD:=Hd (fun hb hk hw=>btCut_done (x:=(r,x)) (key:=key) hb hk hw)
 generalize btCut (r,x) key=R at HF HN HD ⊢
 generalize btCutC (r,x) key=C at HF HN HD ⊢
 go_enter Tryz.func7,Tryz.ntmps7
 go_wp2_with fail
 refine CB.out.mono ?_
 rintro e w1 ⟨rfl,u1⟩
 have k1:=kT.up u1
 have r1:=kR.up u1
 have v1:=uu.trans u1
 clear CB g0 g1 kT kR
 cases hb:btreeB (r,x)
 ·have HE:=Hd (HF.out (fun h=>by rw [hb] at h;cases h.1))
  have gz0:=r1.cell 0
  have gz1:=r1.cell 1
  have fz0:=r1.frozen 0
  have fz1:=r1.frozen 1
  clear HF HN HD hb
  go_wp2_with fail
  have kz:Bk ((w1.setCell ⟨w.heap.size+1,0,none⟩ (.int .i64 0)).setCell ⟨w.heap.size+1,1,none⟩ (.slice none 0 0)) (w.heap.size+1) 28 #[.int .i64 0,.slice none 0 0]:=by
   simpa using (r1.set 0 (.int .i64 0)).set 1 (.slice none 0 0)
  refine bodyPost_ret (results_bk2 kz _ _ _ Tryz.results7 rfl rfl Tryz.underlying28 rfl (by kernel_rfl)) rfl ?_
  exact toR_zeroB HE (v1.sets (g:=w.heap.size+1) (by omega) 0 [.int .i64 0,.slice none 0 0])
 ·have HB:=Hd hb
  have CK:=Hd (c_isKey key w1 hks (tab_up htab v1) (maxL_up hm v1))
  clear hb
  go_wp2_with fail
  refine CK.out.mono ?_
  rintro e w2 ⟨rfl,u2⟩
  have k2:=k1.up u2
  have r2:=r1.up u2
  have v2:=v1.trans u2
  clear CK k1 r1
  cases hk:keyB key
  ·have HE:=Hd (HF.out (fun h=>by rw [hk] at h;cases h.2))
   have gz0:=r2.cell 0
   have gz1:=r2.cell 1
   have fz0:=r2.frozen 0
   have fz1:=r2.frozen 1
   clear HF HN HD hk
   go_wp2_with fail
   have kz:Bk ((w2.setCell ⟨w.heap.size+1,0,none⟩ (.int .i64 0)).setCell ⟨w.heap.size+1,1,none⟩ (.slice none 0 0)) (w.heap.size+1) 28 #[.int .i64 0,.slice none 0 0]:=by
    simpa using (r2.set 0 (.int .i64 0)).set 1 (.slice none 0 0)
   refine bodyPost_ret (results_bk2 kz _ _ _ Tryz.results7 rfl rfl Tryz.underlying28 rfl (by kernel_rfl)) rfl ?_
   exact toR_zeroB HE (v2.sets (g:=w.heap.size+1) (by omega) 0 [.int .i64 0,.slice none 0 0])
  ·have HK:=Hd hk
   have CP:=Hd (c_pagesOfO _ (r,x) w2 (hv.up good_Btree v2) (slots_of_btree HB.out) hn)
   have g0:w2.cell? ⟨w.heap.size,0,none⟩=some (.int .i64 r):=k2.cell 0
   have g1:w2.cell? ⟨w.heap.size,1,none⟩=some (.slice A0 x.length c0):=k2.cell 1
   clear hk HF
   go_wp2_with fail
   refine CP.out.mono ?_
   rintro e w3 ⟨tb,pb,f,B,rfl,PO,PR,u3⟩
   have CG:=Hd (c_get1 HB.out br key PR (Nat.le_refl _))
   have HGW:=Hd (getB_has (key:=key) HB.out)
   have POH:=Hd PO
   generalize getB (r,x) key=G at CG HGW
   clear CP PO PR g0 g1
   go_wp2_with fail
   refine CG.out.mono ?_
   rintro e w4 ⟨rfl,u4⟩
   have r4:=(r2.up u3).up u4
   have v4:=(v2.trans u3).trans u4
   clear CG
   cases hG:G.2
   ·have HE:=Hd (HN.out HB.out HK.out (by rw [←HGW.out,hG]))
    have gz0:=r4.cell 0
    have gz1:=r4.cell 1
    have fz0:=r4.frozen 0
    have fz1:=r4.frozen 1
    clear HN HD hG
    go_wp2_with fail
    have kz:Bk ((w4.setCell ⟨w.heap.size+1,0,none⟩ (.int .i64 0)).setCell ⟨w.heap.size+1,1,none⟩ (.slice none 0 0)) (w.heap.size+1) 28 #[.int .i64 0,.slice none 0 0]:=by
     simpa using (r4.set 0 (.int .i64 0)).set 1 (.slice none 0 0)
    refine bodyPost_ret (results_bk2 kz _ _ _ Tryz.results7 rfl rfl Tryz.underlying28 rfl (by kernel_rfl)) rfl ?_
    exact toR_zeroB HE (v4.sets (g:=w.heap.size+1) (by omega) 0 [.int .i64 0,.slice none 0 0])
   ·have hway:(wayB (r,x) key 64 r).2=true:=by rw [←HGW.out,hG]
    have HE:=Hd (HD.out HB.out HK.out hway)
    have CS:=Hd (cut_some HB.out hway)
    have HR:=Hd (cutM_root HB.out br hway)
    have CR:=Hd (c_remove (x:=(r,x)) HB.out br key hway (POH.out.up u4) (Nat.le_trans u3.size u4.size))
    generalize cutM (r,x) key=M at HE CS HR CR
    clear HN HD hG hway POH
    go_wp2_with fail
    refine CR.out.mono ?_
    rintro e w5 ⟨rfl,⟨B5,PO5⟩,hb5⟩
    have u5:Up w2 w5:=up_below (u3.trans u4) hb5
    have CT:=Hd (c_tree PO5 CS.out.1 CS.out.2 HR.out)
    have r5:=r2.up u5
    have v5:=v2.trans u5
    clear CR PO5 hb5 u3 u4 r4 v4
    go_wp2_with fail
    refine CT.out.mono ?_
    rintro e w6 ⟨cs6,bl6,rfl,ow6,nd6,u6⟩
    obtain ⟨Z,z,_,rfl,_,_⟩:=openOBtree ow6
    have r6:=r5.up u6
    have gz0:=r6.cell 0
    have gz1:=r6.cell 1
    have fz0:=r6.frozen 0
    have fz1:=r6.frozen 1
    have hsz:=r5.lt
    dsimp only at ow6
    clear CT
    go_wp2_with fail
    have bt:But (w.heap.size+1) w6 ((w6.setCell ⟨w.heap.size+1,0,none⟩ (.int .i64 M.2)).setCell ⟨w.heap.size+1,1,none⟩ (.slice Z (slotsM M.1).length z)):=But.sets (g:=w.heap.size+1) [.int .i64 M.2,.slice Z (slotsM M.1).length z] w6 0
    have kz:Bk ((w6.setCell ⟨w.heap.size+1,0,none⟩ (.int .i64 M.2)).setCell ⟨w.heap.size+1,1,none⟩ (.slice Z (slotsM M.1).length z)) (w.heap.size+1) 28 #[.int .i64 M.2,.slice Z (slotsM M.1).length z]:=by
     simpa using (r6.set 0 (.int .i64 M.2)).set 1 (.slice Z (slotsM M.1).length z)
    have hvz:=v5.size
    refine bodyPost_ret (results_bk2 kz _ _ _ Tryz.results7 rfl rfl Tryz.underlying28 rfl (by kernel_rfl)) rfl ?_
    refine toR_eq (Hd HE.out.1) (Hd HE.out.2) ⟨_,bl6,rfl,good_Btree.own_wide (own_but good_Btree ow6 bt hsz) hvz (Nat.le_refl _),nd6,(v5.trans u6).but bt (by omega)⟩
end Go.Proofs.YtojmcmghmnfjeaaGreatDoor
namespace Go.Proofs.YtojmcmghmnfjeaaGreatDoor
open Go.RowKit
set_option linter.unusedVariables false
set_option linter.unusedSimpArgs false
end Go.Proofs.YtojmcmghmnfjeaaGreatDoor
namespace Go.Proofs.YtojmcmghmnfjeaaGreatDoor
open Go Go.RowKit
set_option linter.unusedVariables false
set_option linter.unusedSimpArgs false
theorem rpR_zeroB {w w':World} {y:TBtree} {n c:Int} (h:Hid (y=(0,[])∧n=c)) (u:Up w w'):RpR shBtree y n w (.returned (.tuple #[.agg #[.int .i64 0,.slice none 0 0],.int .i64 c])) w':=(toR_zeroB h u).rp good_Btree
theorem c_l16Key (key:ByteArray) (w:World) (hs:key.size≤1048576):Calls Tryz.prog 13 #[.string key] w (RetV (.bool (keyB key)) w):=by
 unfold keyB
 go_enter Tryz.func13,Tryz.ntmps13
 go_wp2_with fail
 refine (c_specKeyPlace key _ hs).mono ?_
 rintro e w1 ⟨u1,A,c,h⟩
 cases hp:placeOf key with
 | none =>
  rw [hp] at h
  obtain ⟨rfl,_⟩:=h
  go_wp2_with fail
  go_ret
  exact ⟨by rw [hp];rfl,u1⟩
 | some p =>
  rw [hp] at h
  obtain ⟨rfl,_⟩:=h
  go_wp2_with fail
  go_ret
  exact ⟨by rw [hp];rfl,u1⟩
theorem cs_BtCut (v:Value) (y:TBtree) (key:ByteArray) (w:World) (h:AV shBtree w v y) (hn:shBtree.sz y≤1048576) (hk:key.size≤9223372036854775807) (hks:key.size≤1048576):Calls Tryz.prog 5 #[v,.string key] w (RpR shBtree (btCut y key) (btCutC y key) w):=by
 have hv:=h
 obtain ⟨cs,rfl,h⟩:=h
 obtain ⟨r,x⟩:=y
 have ho:=openBtree h
 dsimp only at ho
 obtain ⟨A0,c0,rfl,br,b00⟩:=ho
 clear h hk
 have uu:Up w ((w.alloc (.cells #[.int .i64 r,.slice A0 x.length c0] 28)).alloc (.cells #[.int .i64 0,.slice none 0 0] 28)):=((Up.refl w).alloc _).alloc _
 have kT:Bk ((w.alloc (.cells #[.int .i64 r,.slice A0 x.length c0] 28)).alloc (.cells #[.int .i64 0,.slice none 0 0] 28)) w.heap.size 28 #[.int .i64 r,.slice A0 x.length c0]:=(Bk.new w 28 #[.int .i64 r,.slice A0 x.length c0]).alloc _
 have kR:Bk ((w.alloc (.cells #[.int .i64 r,.slice A0 x.length c0] 28)).alloc (.cells #[.int .i64 0,.slice none 0 0] 28)) (w.heap.size+1) 28 #[.int .i64 0,.slice none 0 0]:=by
  simpa using Bk.new (w.alloc (.cells #[.int .i64 r,.slice A0 x.length c0] 28)) 28 #[.int .i64 0,.slice none 0 0]
 have CB:=Hd (cs_BtreeOk _ (r,x) _ (hv.up good_Btree uu) hn)
 have g0:World.cell? _ ⟨w.heap.size,0,none⟩=some (.int .i64 r):=kT.cell 0
 have g1:World.cell? _ ⟨w.heap.size,1,none⟩=some (.slice A0 x.length c0):=kT.cell 1
 have HF:=Hd (fun hh=>btCut_form (x:=(r,x)) (key:=key) hh)
 have HN:=Hd (fun hb hk hw=>btCut_none (x:=(r,x)) (key:=key) hb hk hw)
 have HD:=Hd (fun hb hk hw=>btCut_done (x:=(r,x)) (key:=key) hb hk hw)
 generalize btCut (r,x) key=R at HF HN HD ⊢
 generalize btCutC (r,x) key=C at HF HN HD ⊢
 go_enter Tryz.func5,Tryz.ntmps5
 go_wp2_with fail
 refine CB.out.mono ?_
 rintro e w1 ⟨rfl,u1⟩
 have k1:=kT.up u1
 have r1:=kR.up u1
 have v1:=uu.trans u1
 clear CB g0 g1 kT kR
 cases hb:btreeB (r,x)
 ·have HE:=Hd (HF.out (fun h=>by rw [hb] at h;cases h.1))
  have gz0:=r1.cell 0
  have gz1:=r1.cell 1
  have fz0:=r1.frozen 0
  have fz1:=r1.frozen 1
  clear HF HN HD hb
  go_wp2_with fail
  have kz:Bk ((w1.setCell ⟨w.heap.size+1,0,none⟩ (.int .i64 0)).setCell ⟨w.heap.size+1,1,none⟩ (.slice none 0 0)) (w.heap.size+1) 28 #[.int .i64 0,.slice none 0 0]:=by
   simpa using (r1.set 0 (.int .i64 0)).set 1 (.slice none 0 0)
  refine bodyPost_ret (results_bk2 kz _ _ _ Tryz.results5 rfl rfl Tryz.underlying28 rfl (by kernel_rfl)) rfl ?_
  exact rpR_zeroB HE (v1.sets (g:=w.heap.size+1) (by omega) 0 [.int .i64 0,.slice none 0 0])
 ·have HB:=Hd hb
  have CK:=Hd (c_l16Key key w1 hks)
  clear hb
  go_wp2_with fail
  refine CK.out.mono ?_
  rintro e w2 ⟨rfl,u2⟩
  have k2:=k1.up u2
  have r2:=r1.up u2
  have v2:=v1.trans u2
  clear CK k1 r1
  cases hk:keyB key
  ·have HE:=Hd (HF.out (fun h=>by rw [hk] at h;cases h.2))
   have gz0:=r2.cell 0
   have gz1:=r2.cell 1
   have fz0:=r2.frozen 0
   have fz1:=r2.frozen 1
   clear HF HN HD hk
   go_wp2_with fail
   have kz:Bk ((w2.setCell ⟨w.heap.size+1,0,none⟩ (.int .i64 0)).setCell ⟨w.heap.size+1,1,none⟩ (.slice none 0 0)) (w.heap.size+1) 28 #[.int .i64 0,.slice none 0 0]:=by
    simpa using (r2.set 0 (.int .i64 0)).set 1 (.slice none 0 0)
   refine bodyPost_ret (results_bk2 kz _ _ _ Tryz.results5 rfl rfl Tryz.underlying28 rfl (by kernel_rfl)) rfl ?_
   exact rpR_zeroB HE (v2.sets (g:=w.heap.size+1) (by omega) 0 [.int .i64 0,.slice none 0 0])
  ·have HK:=Hd hk
   have CW:=Hd (c_l16Way _ (r,x) key w2 (hv.up good_Btree v2) (slots_of_btree HB.out) (stands_root HB.out))
   have g0:w2.cell? ⟨w.heap.size,0,none⟩=some (.int .i64 r):=k2.cell 0
   have g1:w2.cell? ⟨w.heap.size,1,none⟩=some (.slice A0 x.length c0):=k2.cell 1
   have CC:=Hd (fun W (u:Up w W) (hw:(wayB (r,x) key 64 r).2=true)=>c_l16Cut _ (r,x) key W (hv.up good_Btree u) hn HB.out hw)
   have HN2:=Hd (show (wayB (r,x) key 64 r).2=false→_ from fun hw=>HN.out HB.out HK.out hw)
   have HD2:=Hd (show (wayB (r,x) key 64 r).2=true→_ from fun hw=>HD.out HB.out HK.out hw)
   clear hk HF HN HD
   go_wp2_with fail
   refine CW.out.mono ?_
   rintro e w3 ⟨D,d,bl,he,so,u3⟩
   dsimp only at he
   generalize (wayB (r,x) key 64 r).1.length=L at he
   cases hw:(wayB (r,x) key 64 r).2
   ·rw [hw] at he
    subst he
    have HE:=Hd (HN2.out hw)
    have r3:=r2.up u3
    have v3:=v2.trans u3
    have gz0:=r3.cell 0
    have gz1:=r3.cell 1
    have fz0:=r3.frozen 0
    have fz1:=r3.frozen 1
    clear HN2 HD2 CC CW so hw g0 g1
    go_wp2_with fail
    have kz:Bk ((w3.setCell ⟨w.heap.size+1,0,none⟩ (.int .i64 0)).setCell ⟨w.heap.size+1,1,none⟩ (.slice none 0 0)) (w.heap.size+1) 28 #[.int .i64 0,.slice none 0 0]:=by
     simpa using (r3.set 0 (.int .i64 0)).set 1 (.slice none 0 0)
    refine bodyPost_ret (results_bk2 kz _ _ _ Tryz.results5 rfl rfl Tryz.underlying28 rfl (by kernel_rfl)) rfl ?_
    exact rpR_zeroB HE (v3.sets (g:=w.heap.size+1) (by omega) 0 [.int .i64 0,.slice none 0 0])
   ·rw [hw] at he
    subst he
    have HE:=Hd (HD2.out hw)
    have r3:=r2.up u3
    have k3:=k2.up u3
    have v3:=v2.trans u3
    have CC3:=Hd (CC.out w3 v3 hw)
    have HCS:=Hd (cut_some HB.out hw)
    have g0':w3.cell? ⟨w.heap.size,0,none⟩=some (.int .i64 r):=k3.cell 0
    have g1':w3.cell? ⟨w.heap.size,1,none⟩=some (.slice A0 x.length c0):=k3.cell 1
    generalize cutM (r,x) key=M at HE CC3 HCS
    clear HN2 HD2 CC CW so hw g0 g1
    go_wp2_with fail
    refine CC3.out.mono ?_
    rintro e w4 ⟨cs4,rfl,rp4,u4⟩
    obtain ⟨Z,z,rfl,hZ,sr4⟩:=openBtree rp4
    have r4:=r3.up u4
    have v4:=v3.trans u4
    have gz0:=r4.cell 0
    have gz1:=r4.cell 1
    have fz0:=r4.frozen 0
    have fz1:=r4.frozen 1
    dsimp only at sr4 hZ
    have LOW:=Hd (fine_low HCS.out.1 (slotsM_ids M.1) (slotsM_at HCS.out.1))
    clear CC3 rp4 g0' g1' HCS
    go_wp2_with fail
    have bt:But (w.heap.size+1) w4 ((w4.setCell ⟨w.heap.size+1,0,none⟩ (.int .i64 M.2)).setCell ⟨w.heap.size+1,1,none⟩ (.slice Z (slotsM M.1).length z)):=But.sets (g:=w.heap.size+1) [.int .i64 M.2,.slice Z (slotsM M.1).length z] w4 0
    have kz:Bk ((w4.setCell ⟨w.heap.size+1,0,none⟩ (.int .i64 M.2)).setCell ⟨w.heap.size+1,1,none⟩ (.slice Z (slotsM M.1).length z)) (w.heap.size+1) 28 #[.int .i64 M.2,.slice Z (slotsM M.1).length z]:=by
     simpa using (r4.set 0 (.int .i64 M.2)).set 1 (.slice Z (slotsM M.1).length z)
    refine bodyPost_ret (results_bk2 kz _ _ _ Tryz.results5 rfl rfl Tryz.underlying28 rfl (by kernel_rfl)) rfl ?_
    rw [HE.out.1,HE.out.2]
    exact ⟨[.int .i64 M.2,.slice Z (slotsM M.1).length z],rfl,mkBtree (x:=(M.2,slotsM M.1)) hZ (slots_butZ sr4 r4 LOW.out bt),v4.but bt (by omega)⟩
theorem cnt_slots (x:List TSlot):(mkL mmSlot).cnt x≤3*(shL shSlot).sz x:=by
 show (x.map mmSlot.cnt).sum≤3*(x.length+(x.map shSlot.sz).sum)
 induction x with
 | nil=>simp
 | cons n x ih =>
  have h1:mmSlot.cnt n=1+(1+((n.2.2.1.map mkS.cnt).sum+((n.2.2.2.1.map mkS.cnt).sum+(n.2.2.2.2.map mkI.cnt).sum))):=rfl
  have h2:shSlot.sz n=0+(0+((n.2.2.1.length+(n.2.2.1.map shS.sz).sum)+((n.2.2.2.1.length+(n.2.2.2.1.map shS.sz).sum)+(n.2.2.2.2.length+(n.2.2.2.2.map shI.sz).sum)))):=rfl
  have hS:∀l:List ByteArray,(l.map mkS.cnt).sum=l.length:=fun l=>by
   induction l with
   | nil=>rfl
   | cons a l ih=>simp only [List.map_cons,List.sum_cons,List.length_cons,ih];show 1+l.length=_;omega
  have hI:∀l:List Int,(l.map mkI.cnt).sum=l.length:=fun l=>by
   induction l with
   | nil=>rfl
   | cons a l ih=>simp only [List.map_cons,List.sum_cons,List.length_cons,ih];show 1+l.length=_;omega
  have e1:=hS n.2.2.1
  have e2:=hS n.2.2.2.1
  have e3:=hI n.2.2.2.2
  simp only [List.map_cons,List.sum_cons,List.length_cons]
  omega
theorem cnt_Btree (x:TBtree) (hn:shBtree.sz x≤1048576):mmTBtree.cnt x≤4194304:=by
 have h:=cnt_slots x.2
 have e:shBtree.sz x=0+(shL shSlot).sz x.2:=rfl
 have e2:mmTBtree.cnt x=0+(mkL mmSlot).cnt x.2:=rfl
 omega
theorem cnt_fine {p:TPage} (h:Fine p) (i:Int):mmSlot.cnt (i,p)≤20:=by
 have h1:mmSlot.cnt (i,p)=1+(1+((p.2.1.map mkS.cnt).sum+((p.2.2.1.map mkS.cnt).sum+(p.2.2.2.map mkI.cnt).sum))):=rfl
 have hS:∀l:List ByteArray,(l.map mkS.cnt).sum=l.length:=fun l=>by
  induction l with
  | nil=>rfl
  | cons a l ih=>simp only [List.map_cons,List.sum_cons,List.length_cons,ih];show 1+l.length=_;omega
 have hI:∀l:List Int,(l.map mkI.cnt).sum=l.length:=fun l=>by
  induction l with
  | nil=>rfl
  | cons a l ih=>simp only [List.map_cons,List.sum_cons,List.length_cons,ih];show 1+l.length=_;omega
 have e1:=hS p.2.1
 have e2:=hS p.2.2.1
 have e3:=hI p.2.2.2
 obtain ⟨l1,l2,l3⟩:=fine_lens h
 omega
theorem cnt_finesB {l:List TSlot} (h:∀s∈l,Fine s.2):(l.map mmSlot.cnt).sum≤20*l.length:=by
 induction l with
 | nil=>simp
 | cons a l ih =>
  have h1:=cnt_fine (h a (List.mem_cons_self ..)) a.1
  have h2:=ih (fun s hs=>h s (List.mem_cons_of_mem _ hs))
  have h3:mmSlot.cnt a≤20:=h1
  simp only [List.map_cons,List.sum_cons,List.length_cons]
  omega
theorem cbg_BtCut (x:TBtree) (hn:shBtree.sz x≤1048576) (key:ByteArray) (hk:key.size≤1048576):(1:Int)+(mmTBtree.cnt (btCut x key):Nat)≤1000000000:=by
 have e2:∀y:TBtree,mmTBtree.cnt y=0+(y.2.map mmSlot.cnt).sum:=fun _=>rfl
 rw [e2]
 by_cases hc:btreeB x=true∧keyB key=true∧(wayB x key 64 x.1).2=true
 ·have e:btCut x key=((cutM x key).2,slotsM (cutM x key).1):=if_pos hc
  rw [e]
  dsimp only
  have hf:=(cut_some hc.1 hc.2.2).1
  have h1:=cnt_finesB (l:=slotsM (cutM x key).1) fun s hs=>(hf _ _ ((slotsM_mem _ s).1 hs).2).2
  have h2:=ids_len (slotsM_ids (cutM x key).1)
  omega
 ·have e:btCut x key=(0,[]):=if_neg hc
  rw [e]
  decide
end Go.Proofs.YtojmcmghmnfjeaaGreatDoor
