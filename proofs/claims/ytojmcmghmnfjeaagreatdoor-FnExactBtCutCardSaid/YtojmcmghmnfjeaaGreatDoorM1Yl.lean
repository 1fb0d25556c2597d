/-
 Parts of the proof.
-/
import Derived.Test.YtojmcmghmnfjeaaGreatDoorM1Yhg
import Derived.Test.YtojmcmghmnfjeaaGreatDoorM1Bmg
set_option maxHeartbeats 8000000
set_option maxRecDepth 100000
namespace Go.Proofs.YtojmcmghmnfjeaaGreatDoor
open Go.RowKit
set_option linter.unusedVariables false
set_option linter.unusedSimpArgs false
theorem cinfo_IY:(Tryz.prog.info? 2).map (fun i=>(i.zero,i.size,i.bytes))=some (some (.int .i64 0),1,8):=by kernel_rfl
theorem c_l00OwnZ (xs:List Int) (A:Option Addr) (c:Nat) (w:World) (h:SRW shI w A c xs) (hn:xs.length≤1048576):Calls Tryz.prog 64 #[.slice A xs.length c] w (ToL shI xs w):=by
 obtain ⟨i0,hi0,hz0,hz1,hz2⟩:=info_parts cinfo_IY
 go_enter Tryz.func64,Tryz.ntmps64
 go_wp2_with (at_builtin;refine wpList_app_new good_I flat_I rfl _ _ _ 2 rfl i0 _ Tryz.underlying53 hi0 hz0 hz1 (by rfl) rfl rfl (h.up good_I ((Up.refl w).alloc _)) (by rw [hz2];omega) ?_;intro D d bl w1 hso hnd hu)
 go_ret
 exact ⟨D,d,bl,rfl,hso.wide good_I (by simp) (Nat.le_refl _),hnd,((Up.refl w).alloc _).trans hu⟩
theorem c_l16OwnPage (v:Value) (x:TPage) (w:World) (h:AV shPage w v x) (hn:shPage.sz x≤1048576):Calls Tryz.prog 34 #[v] w (ToV shPage x w):=by
 obtain ⟨cs,rfl,h⟩:=h
 obtain ⟨A1,c1,A2,c2,A3,c3,rfl,b1,b2,b3⟩:=openPage h
 clear h
 have e:shPage.sz x=0+((shL shS).sz x.2.1+((shL shS).sz x.2.2.1+(shL shI).sz x.2.2.2)):=rfl
 have e1:(shL shS).sz x.2.1=x.2.1.length+(x.2.1.map shS.sz).sum:=rfl
 have e2:(shL shS).sz x.2.2.1=x.2.2.1.length+(x.2.2.1.map shS.sz).sum:=rfl
 have e3:(shL shI).sz x.2.2.2=x.2.2.2.length+(x.2.2.2.map shI.sz).sum:=rfl
 have n1:x.2.1.length≤1048576:=by omega
 have n2:x.2.2.1.length≤1048576:=by omega
 have n3:x.2.2.2.length≤1048576:=by omega
 clear e e1 e2 e3 hn
 have ka:=(Bk.new w 58 #[.bool x.1,.slice A1 x.2.1.length c1,.slice A2 x.2.2.1.length c2,.slice A3 x.2.2.2.length c3]).alloc (.cells #[.bool false,.slice none 0 0,.slice none 0 0,.slice none 0 0] 58)
 have kr:Bk ((w.alloc (.cells #[.bool x.1,.slice A1 x.2.1.length c1,.slice A2 x.2.2.1.length c2,.slice A3 x.2.2.2.length c3] 58)).alloc (.cells #[.bool false,.slice none 0 0,.slice none 0 0,.slice none 0 0] 58)) (w.heap.size+1) 58 #[.bool false,.slice none 0 0,.slice none 0 0,.slice none 0 0]:=by
  simpa using Bk.new (w.alloc (.cells #[.bool x.1,.slice A1 x.2.1.length c1,.slice A2 x.2.2.1.length c2,.slice A3 x.2.2.2.length c3] 58)) 58 #[.bool false,.slice none 0 0,.slice none 0 0,.slice none 0 0]
 have uu:Up w ((w.alloc (.cells #[.bool x.1,.slice A1 x.2.1.length c1,.slice A2 x.2.2.1.length c2,.slice A3 x.2.2.2.length c3] 58)).alloc (.cells #[.bool false,.slice none 0 0,.slice none 0 0,.slice none 0 0] 58)):=((Up.refl _).alloc _).alloc _
 have zz:w.heap.size+1+1≤((w.alloc (.cells #[.bool x.1,.slice A1 x.2.1.length c1,.slice A2 x.2.2.1.length c2,.slice A3 x.2.2.2.length c3] 58)).alloc (.cells #[.bool false,.slice none 0 0,.slice none 0 0,.slice none 0 0] 58)).heap.size:=by simp
 go_enter Tryz.func34,Tryz.ntmps34
 go_wp2_with fail
 generalize ((w.alloc (.cells #[.bool x.1,.slice A1 x.2.1.length c1,.slice A2 x.2.2.1.length c2,.slice A3 x.2.2.2.length c3] 58)).alloc (.cells #[.bool false,.slice none 0 0,.slice none 0 0,.slice none 0 0] 58))=W0 at ka kr uu zz ⊢
 replace ka:=ka.drew
 replace kr:=kr.drew
 replace uu:=uu.drew
 have zd:W0.drew.heap.size=W0.heap.size:=rfl
 go_region_held3 (fun W=>W.cell? ⟨w.heap.size,0,none⟩=some (.bool x.1)∧W.cell? ⟨w.heap.size,1,none⟩=some (.slice A1 x.2.1.length c1)∧W.cell? ⟨w.heap.size,2,none⟩=some (.slice A2 x.2.2.1.length c2)∧W.cell? ⟨w.heap.size,3,none⟩=some (.slice A3 x.2.2.2.length c3))
  (first
   | (have q0:World.cell? _ ⟨w.heap.size,0,none⟩=some (.bool x.1):=ka.cell 0;have q1:World.cell? _ ⟨w.heap.size,1,none⟩=some (.slice A1 x.2.1.length c1):=ka.cell 1;have q2:World.cell? _ ⟨w.heap.size,2,none⟩=some (.slice A2 x.2.2.1.length c2):=ka.cell 2;have q3:World.cell? _ ⟨w.heap.size,3,none⟩=some (.slice A3 x.2.2.2.length c3):=ka.cell 3;with_reducible exact ⟨q0,q1,q2,q3⟩)
   | (replace ka:=((((ka.far (p:=⟨w.heap.size+1,0,none⟩) (by dsimp only;omega) (.bool x.1)).far (p:=⟨w.heap.size+1,1,none⟩) (by dsimp only;omega) (.slice D1 x.2.1.length d1)).far (p:=⟨w.heap.size+1,2,none⟩) (by dsimp only;omega) (.slice D2 x.2.2.1.length d2)).far (p:=⟨w.heap.size+1,3,none⟩) (by dsimp only;omega) (.slice D3 x.2.2.2.length d3));have q0:World.cell? _ ⟨w.heap.size,0,none⟩=some (.bool x.1):=ka.cell 0;have q1:World.cell? _ ⟨w.heap.size,1,none⟩=some (.slice A1 x.2.1.length c1):=ka.cell 1;have q2:World.cell? _ ⟨w.heap.size,2,none⟩=some (.slice A2 x.2.2.1.length c2):=ka.cell 2;have q3:World.cell? _ ⟨w.heap.size,3,none⟩=some (.slice A3 x.2.2.2.length c3):=ka.cell 3;with_reducible exact ⟨q0,q1,q2,q3⟩))
  (first
   | (go_at_call_of 63 A1;(with_reducible refine (c_l03Subs x.2.1 A1 c1 _ (b1.up good_S uu) n1).mono ?_);rintro e w1 ⟨D1,d1,bl1,rfl,o1,nd1,u1⟩;replace ka:=ka.up u1;replace kr:=kr.up u1;replace uu:=uu.trans u1;have z1:=u1.size)
   | (go_at_call_of 63 A2;(with_reducible refine (c_l03Subs x.2.2.1 A2 c2 _ (b2.up good_S uu) n2).mono ?_);rintro e w2 ⟨D2,d2,bl2,rfl,o2,nd2,u2⟩;replace ka:=ka.up u2;replace kr:=kr.up u2;replace uu:=uu.trans u2;have z2:=u2.size)
   | (go_at_call_of 64 A3;(with_reducible refine (c_l00OwnZ x.2.2.2 A3 c3 _ (b3.up good_I uu) n3).mono ?_);rintro e w3 ⟨D3,d3,bl3,rfl,o3,nd3,u3⟩;replace ka:=ka.up u3;replace kr:=kr.up u3;replace uu:=uu.trans u3;have z3:=u3.size;have gr0:w3.cell? ⟨w.heap.size+1,0,none⟩=some (.bool false):=kr.cell 0;have fr0:=kr.frozen 0;have gr1:w3.cell? ⟨w.heap.size+1,1,none⟩=some (.slice none 0 0):=kr.cell 1;have fr1:=kr.frozen 1;have gr2:w3.cell? ⟨w.heap.size+1,2,none⟩=some (.slice none 0 0):=kr.cell 2;have fr2:=kr.frozen 2;have gr3:w3.cell? ⟨w.heap.size+1,3,none⟩=some (.slice none 0 0):=kr.cell 3;have fr3:=kr.frozen 3))
 have bt:But (w.heap.size+1) w3 ((((w3.setCell ⟨w.heap.size+1,0,none⟩ (.bool x.1)).setCell ⟨w.heap.size+1,1,none⟩ (.slice D1 x.2.1.length d1)).setCell ⟨w.heap.size+1,2,none⟩ (.slice D2 x.2.2.1.length d2)).setCell ⟨w.heap.size+1,3,none⟩ (.slice D3 x.2.2.2.length d3)):=But.sets (g:=w.heap.size+1) [.bool x.1,.slice D1 x.2.1.length d1,.slice D2 x.2.2.1.length d2,.slice D3 x.2.2.2.length d3] w3 0
 have krE:Bk ((((w3.setCell ⟨w.heap.size+1,0,none⟩ (.bool x.1)).setCell ⟨w.heap.size+1,1,none⟩ (.slice D1 x.2.1.length d1)).setCell ⟨w.heap.size+1,2,none⟩ (.slice D2 x.2.2.1.length d2)).setCell ⟨w.heap.size+1,3,none⟩ (.slice D3 x.2.2.2.length d3)) (w.heap.size+1) 58 #[.bool x.1,.slice D1 x.2.1.length d1,.slice D2 x.2.2.1.length d2,.slice D3 x.2.2.2.length d3]:=kr.setsL [.bool x.1,.slice D1 x.2.1.length d1,.slice D2 x.2.2.1.length d2,.slice D3 x.2.2.2.length d3] 0
 generalize ((((w3.setCell ⟨w.heap.size+1,0,none⟩ (.bool x.1)).setCell ⟨w.heap.size+1,1,none⟩ (.slice D1 x.2.1.length d1)).setCell ⟨w.heap.size+1,2,none⟩ (.slice D2 x.2.2.1.length d2)).setCell ⟨w.heap.size+1,3,none⟩ (.slice D3 x.2.2.2.length d3))=W4 at bt krE ⊢
 clear gr0 fr0 gr1 fr1 gr2 fr2 gr3 fr3
 go_wp2_with fail
 refine bodyPost_ret (results_bk krE _ _ Tryz.results34 rfl Tryz.underlying58 rfl (by kernel_rfl)) rfl ?_
 have m1:bl1.Nodup∧∀b∈bl1,b<w1.heap.size:=⟨nd1,fun b hb=>(o1.in_ good_S b hb).2⟩
 have m2:=nd_snocB m1 nd2 (o2.in_ good_S) z2
 have m3:=nd_snocB m2 nd3 (o3.in_ good_I) z3
 have p1:=(((o1.up good_S u2).up good_S u3).but good_S bt (by omega)).wide good_S (lo':=w.heap.size) (by omega) (Nat.le_refl _)
 have p2:=((o2.up good_S u3).but good_S bt (by omega)).wide good_S (lo':=w.heap.size) (by omega) (Nat.le_refl _)
 have p3:=(o3.but good_I bt (by omega)).wide good_I (lo':=w.heap.size) (by omega) (Nat.le_refl _)
 exact ⟨_,_,rfl,asmPage (x0:=x.1) p1 p2 p3,m3.1,uu.but bt (by omega)⟩
theorem up5 {w w':World} (u:Up w w') {a b c d e:Addr} {x y z r s:Value} (h:w.cell? a=some x∧w.cell? b=some y∧w.cell? c=some z∧w.cell? d=some r∧w.cell? e=some s):w'.cell? a=some x∧w'.cell? b=some y∧w'.cell? c=some z∧w'.cell? d=some r∧w'.cell? e=some s :=
 ⟨(u.cell (cell_lt h.1)).trans h.1,(u.cell (cell_lt h.2.1)).trans h.2.1,(u.cell (cell_lt h.2.2.1)).trans h.2.2.1,(u.cell (cell_lt h.2.2.2.1)).trans h.2.2.2.1,(u.cell (cell_lt h.2.2.2.2)).trans h.2.2.2.2⟩
theorem c_l16Own (v:Value) (y:TBtree) (w:World) (h:AV shBtree w v y) (hn:shBtree.sz y≤1048576):Calls Tryz.prog 33 #[v] w (ToV shBtree y w):=by
 obtain ⟨i0,hi0,hz0,hz1,hz2⟩:=info_parts cinfo_SlotO
 obtain ⟨cs,rfl,h⟩:=h
 obtain ⟨r,x⟩:=y
 have ho:=openBtree h
 dsimp only at ho
 obtain ⟨A0,c0,rfl,br,b00⟩:=ho
 clear h
 have hlen:=b00.len_le
 have hnx:(shL shSlot).sz x≤1048576:=by
  have e:shBtree.sz (r,x)=0+(shL shSlot).sz x:=rfl
  omega
 have hxl:x.length≤1048576:=by
  have e:(shL shSlot).sz x=x.length+(x.map shSlot.sz).sum:=rfl
  omega
 have HL:=Hd (slot_szs hnx)
 clear hn hnx
 have vv0:Up w (((w.alloc (.cells #[.int .i64 r,.slice A0 x.length c0] 28)).alloc (.cells #[.int .i64 0,.slice none 0 0] 28)).alloc (.cells #[.int .i64 r,.slice none 0 0] 28)):=(((Up.refl _).alloc _).alloc _).alloc _
 obtain ⟨W0,hW0⟩:∃W0,W0=(((w.alloc (.cells #[.int .i64 r,.slice A0 x.length c0] 28)).alloc (.cells #[.int .i64 0,.slice none 0 0] 28)).alloc (.cells #[.int .i64 r,.slice none 0 0] 28)):=⟨_,rfl⟩
 have hs0:W0.heap.size=w.heap.size+3:=by rw [hW0];simp
 have jb0:Bk W0 w.heap.size 28 #[.int .i64 r,.slice A0 x.length c0]:=by
  rw [hW0]
  exact ((Bk.new w _ _).alloc _).alloc _
 have jr0:Bk W0 (w.heap.size+1) 28 #[.int .i64 0,.slice none 0 0]:=by
  rw [hW0]
  have:=(Bk.new (w.alloc (.cells #[.int .i64 r,.slice A0 x.length c0] 28)) 28 #[.int .i64 0,.slice none 0 0]).alloc (.cells #[.int .i64 r,.slice none 0 0] 28)
  simpa using this
 have jo0:Bk W0 (w.heap.size+1+1) 28 #[.int .i64 r,.slice none 0 0]:=by
  rw [hW0]
  have:=Bk.new ((w.alloc (.cells #[.int .i64 r,.slice A0 x.length c0] 28)).alloc (.cells #[.int .i64 0,.slice none 0 0] 28)) 28 #[.int .i64 r,.slice none 0 0]
  simpa using this
 go_enter Tryz.func33,Tryz.ntmps33
 go_wp2_with fail
 rw [←hW0]
 rw [←hW0] at vv0
 clear hW0
 go_loopw [4] (fun i wr=>∃(k:Nat) (D:Option Addr) (d:Nat) (bl:List Nat),k≤x.length∧i=.int .i64 k∧Bk wr w.heap.size 28 #[.int .i64 r,.slice A0 x.length c0]∧Bk wr (w.heap.size+1) 28 #[.int .i64 0,.slice none 0 0]∧Bk wr (w.heap.size+1+1) 28 #[.int .i64 r,.slice D k d]∧SO shSlot wr (w.heap.size+3) wr.heap.size D d (x.take k) bl∧bl.Nodup∧Up w wr∧w.heap.size+3≤wr.heap.size) (fun i _=>x.length-(intOf i).toNat)
 case atStart=>exact ⟨0,none,0,[],Nat.zero_le _,rfl,jb0,jr0,jo0,by simpa using SO.nil _ _ _,by simp,vv0,by omega⟩
 case round =>
  obtain ⟨k,D,d,bl,hk,rfl,kb,kr,ko,so,nd,hu,hsz⟩:=hrel
  by_cases hlt:k<x.length
  ·have hl:=HL.out k hlt
   obtain ⟨g,off,A2,c2,A3,c3,A4,c4,rfl,_,hgl,hc0,hc1,hc2,hc3,hc4,b0,b2,b3,b4,_⟩:=atSlot b00 hlt
   have HTK:Hid (x.take (k+1)=x.take k++[x[k]]):=List.take_succ_eq_append_getElem hlt
   have htk:(x.take k).length=k:=by rw [List.length_take];omega
   obtain ⟨X,hX⟩:∃X,X=x.take k:=⟨_,rfl⟩
   rw [←hX] at so htk HTK
   clear hX
   obtain ⟨⟨x0,x1,x2,x3,x4⟩,hxk⟩:∃q,q=x[k]:=⟨_,rfl⟩
   rw [←hxk] at hl hc0 hc1 hc2 hc3 hc4 b0 b2 b3 b4 HTK
   have HXK:=Hd hxk
   clear hxk
   dsimp only at hl hc0 hc1 hc2 hc3 hc4 b0 b2 b3 b4
   have av:∀W,Up wr W→AV shPage W (.agg #[.bool x1,.slice A2 x2.length c2,.slice A3 x3.length c3,.slice A4 x4.length c4]) (x1,x2,x3,x4):=fun W hW=>⟨_,rfl,mkPage (x:=(x1,x2,x3,x4)) (b2.up good_S (hu.trans hW)) (b3.up good_S (hu.trans hW)) (b4.up good_I (hu.trans hW))⟩
   have hc5:=Hd (⟨hc0,hc1,hc2,hc3,hc4⟩:w.cell? ⟨g,off+k*5,none⟩=some (.int .i64 x0)∧w.cell? ⟨g,off+k*5+1,none⟩=some (.bool x1)∧w.cell? ⟨g,off+k*5+2,none⟩=some (.slice A2 x2.length c2)∧w.cell? ⟨g,off+k*5+3,none⟩=some (.slice A3 x3.length c3)∧w.cell? ⟨g,off+k*5+4,none⟩=some (.slice A4 x4.length c4))
   have gB:=kb.cell 1
   clear hc0 hc1 hc2 hc3 hc4
   have ur:Up wr wr.drew:=(Up.refl wr).drew
   have hx1:(X.length+1)*i0.bytes≤140737488355328:=by rw [hz2];omega
   have hx2:X.length+1≤maxLen:=by unfold maxLen;omega
   have hin:=so.in_ good_Slot
   have hnd:∀be:List Nat,be.Nodup→(∀y∈be,wr.heap.size≤y)→(bl++[be].flatten).Nodup:=fun be h1 h2=>by
    simpa using nodup_two (m:=wr.heap.size) nd h1 (fun y hy=>(hin y hy).2) h2
   have hgo:w.heap.size+1+1∉bl:=fun hm=>by have:=(hin _ hm).1;omega
   have hgr:w.heap.size+1∉bl:=fun hm=>by have:=(hin _ hm).1;omega
   have hgb:w.heap.size∉bl:=fun hm=>by have:=(hin _ hm).1;omega
   have SOH:=Hd so
   clear so nd
   go_wp2_with fail
   clear gB
   have kbd:=kb.drew
   have kod:=ko.drew
   have krd:=kr.drew
   have hud:=hu.drew
   refine wp_region_held_drew (S:=fun W=>W.cell? ⟨w.heap.size,1,none⟩=some (.slice (some ⟨g,off,none⟩) x.length c0)∧W.cell? ⟨g,off+k*5,none⟩=some (.int .i64 x0)∧W.cell? ⟨g,off+k*5+1,none⟩=some (.bool x1)∧W.cell? ⟨g,off+k*5+2,none⟩=some (.slice A2 x2.length c2)∧W.cell? ⟨g,off+k*5+3,none⟩=some (.slice A3 x3.length c3)∧W.cell? ⟨g,off+k*5+4,none⟩=some (.slice A4 x4.length c4)) (by kernel_rfl) ⟨kbd.cell 1,up5 hud hc5.out⟩ (fun hH=>?_)
   refine wpAnyH_take (i:=0) (v:=.pointer (some ⟨w.heap.size+1+1,1,none⟩)) rfl (by kernel_rfl) (by kernel_rfl) (by kernel_rfl) (fun _ _ _ h=>h) (Or.inl ⟨by rfl,?_⟩) (by assumption) ?_
   ·intro W hSW
    obtain ⟨hs0,hs1,hs2,hs3,hs4,hs5⟩:=hSW
    go_simp
    try with_reducible rfl
   try simp only [Act.put,List.getElem_toArray,List.getElem_cons_succ,List.getElem_cons_zero,sI,sZ,sS]
   refine wpAnyH_take (i:=2) (v:=.pointer (some ⟨w.heap.size,1,none⟩)) rfl (by kernel_rfl) (by kernel_rfl) (by kernel_rfl) (fun _ _ _ h=>h) (Or.inl ⟨by rfl,?_⟩) (by assumption) ?_
   ·intro W hSW
    obtain ⟨hs0,hs1,hs2,hs3,hs4,hs5⟩:=hSW
    go_simp
    try with_reducible rfl
   try simp only [Act.put,List.getElem_toArray,List.getElem_cons_succ,List.getElem_cons_zero,sI,sZ,sS]
   refine wpAnyH_take (i:=3) (v:=.slice (some ⟨g,off,none⟩) x.length c0) rfl (by kernel_rfl) (by kernel_rfl) (by kernel_rfl) (fun _ _ _ h=>h) (Or.inl ⟨by rfl,?_⟩) (by assumption) ?_
   ·intro W hSW
    obtain ⟨hs0,hs1,hs2,hs3,hs4,hs5⟩:=hSW
    go_simp
    try with_reducible rfl
   try simp only [Act.put,List.getElem_toArray,List.getElem_cons_succ,List.getElem_cons_zero,sI,sZ,sS]
   refine wpAnyH_take (i:=4) (v:=.int .i64 (k:Int)) rfl (by kernel_rfl) (by kernel_rfl) (by kernel_rfl) (fun _ _ _ h=>h) (Or.inl ⟨by rfl,?_⟩) (by assumption) ?_
   ·intro W hSW
    obtain ⟨hs0,hs1,hs2,hs3,hs4,hs5⟩:=hSW
    go_simp
    try with_reducible rfl
   try simp only [Act.put,List.getElem_toArray,List.getElem_cons_succ,List.getElem_cons_zero,sI,sZ,sS]
   refine wpAnyH_take (i:=5) (v:=.pointer (some ⟨g,off+k*5,none⟩)) rfl (by kernel_rfl) (by kernel_rfl) (by kernel_rfl) (fun _ _ _ h=>h) (Or.inl ⟨by rfl,?_⟩) (by assumption) ?_
   ·intro W hSW
    obtain ⟨hs0,hs1,hs2,hs3,hs4,hs5⟩:=hSW
    go_simp
    try with_reducible rfl
   try simp only [Act.put,List.getElem_toArray,List.getElem_cons_succ,List.getElem_cons_zero,sI,sZ,sS]
   refine wpAnyH_take (i:=6) (v:=.pointer (some ⟨g,off+k*5,none⟩)) rfl (by kernel_rfl) (by kernel_rfl) (by kernel_rfl) (fun _ _ _ h=>h) (Or.inl ⟨by rfl,?_⟩) (by assumption) ?_
   ·intro W hSW
    obtain ⟨hs0,hs1,hs2,hs3,hs4,hs5⟩:=hSW
    go_simp
    try with_reducible rfl
   try simp only [Act.put,List.getElem_toArray,List.getElem_cons_succ,List.getElem_cons_zero,sI,sZ,sS]
   refine wpAnyH_take (i:=7) (v:=.int .i64 x0) rfl (by kernel_rfl) (by kernel_rfl) (by kernel_rfl) (fun _ _ _ h=>h) (Or.inl ⟨by rfl,?_⟩) (by assumption) ?_
   ·intro W hSW
    obtain ⟨hs0,hs1,hs2,hs3,hs4,hs5⟩:=hSW
    go_simp
    try with_reducible rfl
   try simp only [Act.put,List.getElem_toArray,List.getElem_cons_succ,List.getElem_cons_zero,sI,sZ,sS]
   refine wpAnyH_take (i:=8) (v:=.pointer (some ⟨w.heap.size,1,none⟩)) rfl (by kernel_rfl) (by kernel_rfl) (by kernel_rfl) (fun _ _ _ h=>h) (Or.inl ⟨by rfl,?_⟩) (by assumption) ?_
   ·intro W hSW
    obtain ⟨hs0,hs1,hs2,hs3,hs4,hs5⟩:=hSW
    go_simp
    try with_reducible rfl
   try simp only [Act.put,List.getElem_toArray,List.getElem_cons_succ,List.getElem_cons_zero,sI,sZ,sS]
   refine wpAnyH_take (i:=9) (v:=.slice (some ⟨g,off,none⟩) x.length c0) rfl (by kernel_rfl) (by kernel_rfl) (by kernel_rfl) (fun _ _ _ h=>h) (Or.inl ⟨by rfl,?_⟩) (by assumption) ?_
   ·intro W hSW
    obtain ⟨hs0,hs1,hs2,hs3,hs4,hs5⟩:=hSW
    go_simp
    try with_reducible rfl
   try simp only [Act.put,List.getElem_toArray,List.getElem_cons_succ,List.getElem_cons_zero,sI,sZ,sS]
   refine wpAnyH_take (i:=10) (v:=.int .i64 (k:Int)) rfl (by kernel_rfl) (by kernel_rfl) (by kernel_rfl) (fun _ _ _ h=>h) (Or.inl ⟨by rfl,?_⟩) (by assumption) ?_
   ·intro W hSW
    obtain ⟨hs0,hs1,hs2,hs3,hs4,hs5⟩:=hSW
    go_simp
    try with_reducible rfl
   try simp only [Act.put,List.getElem_toArray,List.getElem_cons_succ,List.getElem_cons_zero,sI,sZ,sS]
   refine wpAnyH_take (i:=11) (v:=.pointer (some ⟨g,off+k*5,none⟩)) rfl (by kernel_rfl) (by kernel_rfl) (by kernel_rfl) (fun _ _ _ h=>h) (Or.inl ⟨by rfl,?_⟩) (by assumption) ?_
   ·intro W hSW
    obtain ⟨hs0,hs1,hs2,hs3,hs4,hs5⟩:=hSW
    go_simp
    try with_reducible rfl
   try simp only [Act.put,List.getElem_toArray,List.getElem_cons_succ,List.getElem_cons_zero,sI,sZ,sS]
   refine wpAnyH_take (i:=12) (v:=.pointer (some ⟨g,off+k*5+1,none⟩)) rfl (by kernel_rfl) (by kernel_rfl) (by kernel_rfl) (fun _ _ _ h=>h) (Or.inl ⟨by rfl,?_⟩) (by assumption) ?_
   ·intro W hSW
    obtain ⟨hs0,hs1,hs2,hs3,hs4,hs5⟩:=hSW
    go_simp
    try with_reducible rfl
   try simp only [Act.put,List.getElem_toArray,List.getElem_cons_succ,List.getElem_cons_zero,sI,sZ,sS]
   refine wpAnyH_take (i:=13) (v:=.agg #[.bool x1,.slice A2 x2.length c2,.slice A3 x3.length c3,.slice A4 x4.length c4]) rfl (by kernel_rfl) (by kernel_rfl) (by kernel_rfl) (fun _ _ _ h=>h) (Or.inl ⟨by rfl,?_⟩) (by assumption) ?_
   ·intro W hSW
    obtain ⟨hs0,hs1,hs2,hs3,hs4,hs5⟩:=hSW
    go_simp
    try with_reducible rfl
   try simp only [Act.put,List.getElem_toArray,List.getElem_cons_succ,List.getElem_cons_zero,sI,sZ,sS]
   refine wpAnyH_ready (rs:=[1,14]) (by kernel_rfl) (by simp) ?_
   refine AllReadyH.cons rfl (fun KK hK=>?_) (AllReadyH.cons rfl (fun KK hK=>?_) AllReadyH.nil)
   ·have gO:=kod.cell 1
    go_simp
    clear gO
    refine hK.out _ _ ⟨kbd.cell 1,up5 hud hc5.out⟩ (fun hH=>?_)
    clear hK KK
    try simp only [Act.put,List.getElem_toArray,List.getElem_cons_succ,List.getElem_cons_zero,sI,sZ,sS]
    refine wpAnyH_ready (rs:=[14]) (by kernel_rfl) (by simp) ?_
    refine AllReadyH.cons rfl (fun KK hK=>?_) AllReadyH.nil
    go_simp
    refine (c_l16OwnPage _ (x1,x2,x3,x4) _ (av _ ur) hl).mono ?_
    rintro e w1 ⟨csn,bln,rfl,on,ndn,un⟩
    obtain ⟨E2,e2,_,E3,e3,_,E4,e4,_,rfl,_,_,_,_⟩:=openOPage on
    have uu1:Up wr w1:=ur.trans un
    have uw1:Up w w1:=hu.trans uu1
    have ko1:=kod.up un
    have kr1:=krd.up un
    have kb1:=kbd.up un
    go_wp2_with fail
    refine hK.out _ _ ⟨kb1.cell 1,up5 uw1 hc5.out⟩ (fun hH=>?_)
    clear hK KK
    try simp only [Act.put,List.getElem_toArray,List.getElem_cons_succ,List.getElem_cons_zero,sI,sZ,sS]
    refine wpAnyH_take (i:=15) (v:=.agg #[.int .i64 x0,.bool x1,.slice E2 x2.length e2,.slice E3 x3.length e3,.slice E4 x4.length e4]) rfl (by kernel_rfl) (by kernel_rfl) (by kernel_rfl) (fun _ _ _ h=>h) (Or.inl ⟨by rfl,?_⟩) (by assumption) ?_
    ·intro W hSW
     obtain ⟨hs0,hs1,hs2,hs3,hs4,hs5⟩:=hSW
     go_simp
     try with_reducible rfl
    try simp only [Act.put,List.getElem_toArray,List.getElem_cons_succ,List.getElem_cons_zero,sI,sZ,sS]
    refine wpAnyH_ready (rs:=[16]) (by kernel_rfl) (by simp) ?_
    refine AllReadyH.cons rfl (fun KK hK=>?_) AllReadyH.nil
    go_simp
    obtain ⟨W2,hW2⟩:∃W2,W2=w1.alloc (.cells #[.int .i64 x0,.bool x1,.slice E2 x2.length e2,.slice E3 x3.length e3,.slice E4 x4.length e4] 60):=⟨_,rfl⟩
    have u2:Up w1 W2:=by rw [hW2];exact (Up.refl _).alloc _
    have kq2:Bk W2 w1.heap.size 60 #[.int .i64 x0,.bool x1,.slice E2 x2.length e2,.slice E3 x3.length e3,.slice E4 x4.length e4]:=by rw [hW2];exact Bk.new _ _ _
    rw [←hW2]
    clear hW2
    have kbA:=kb1.up u2
    have koA:=ko1.up u2
    have krA:=kr1.up u2
    refine hK.out _ _ ⟨kbA.cell 1,up5 (uw1.trans u2) hc5.out⟩ (fun hH=>?_)
    clear hK KK
    try simp only [Act.put,List.getElem_toArray,List.getElem_cons_succ,List.getElem_cons_zero,sI,sZ,sS]
    refine wpAnyH_ready (rs:=[17]) (by kernel_rfl) (by simp) ?_
    refine AllReadyH.cons rfl (fun KK hK=>?_) AllReadyH.nil
    have sA:=SOH.out.up good_Slot (uu1.trans u2)
    have hsA:w.heap.size+3≤W2.heap.size:=Nat.le_trans hsz (uu1.trans u2).size
    have roA:Rowed shSlot W2 (w.heap.size+3) W2.heap.size [.int .i64 x0,.bool x1,.slice E2 x2.length e2,.slice E3 x3.length e3,.slice E4 x4.length e4] [(x0,x1,x2,x3,x4)] [bln]:=Rowed.one good_Slot (asmSlot b0 (good_Page.own_wide (own_up good_Page on u2) (Nat.le_trans hsz (by simp)) (Nat.le_refl _)))
    have nbA:=hnd _ ndn (fun y hy=>Nat.le_trans (by simp) (good_Page.own_in on y hy).1)
    refine step_app good_Slot rfl _ _ _ _ 60 rfl i0 _ Tryz.underlying26 hi0 hz0 hz1 (by rfl) (lo:=w.heap.size+3) (xs:=X) (ys:=[(x0,x1,x2,x3,x4)]) (bl:=bl) (bs:=[bln]) (news:=[.int .i64 x0,.bool x1,.slice E2 x2.length e2,.slice E3 x3.length e3,.slice E4 x4.length e4]) (by rw [htk];rfl) rfl sA nbA (Src.box (t:=60) (cs:=[.int .i64 x0,.bool x1,.slice E2 x2.length e2,.slice E3 x3.length e3,.slice E4 x4.length e4]) Tryz.underlying26 kq2 (by simp [Value.oneCell']) (by rw [hz1];rfl)) roA hsA hx1 hx2 ?_
    intro D' d' bl' w3 hap
    obtain ⟨so2,nd2,mem2,on2⟩:=hap
    have kb3:=kbA.only on2 hgb
    have ko3:=koA.only on2 hgo
    have kr3:=krA.only on2 hgr
    have hs3:w.heap.size+3≤w3.heap.size:=Nat.le_trans hsA on2.size
    have uw3:Up w w3:=Up.only (uw1.trans u2) on2 (fun y hy=>by have:=(hin y hy).1;omega)
    refine hK.out _ _ ⟨kb3.cell 1,up5 uw3 hc5.out⟩ (fun hH=>?_)
    clear hK KK
    try simp only [Act.put,List.getElem_toArray,List.getElem_cons_succ,List.getElem_cons_zero,sI,sZ,sS]
    refine wpAnyH_take (i:=18) (v:=.pointer (some ⟨w.heap.size+1+1,1,none⟩)) rfl (by kernel_rfl) (by kernel_rfl) (by kernel_rfl) (fun _ _ _ h=>h) (Or.inl ⟨by rfl,?_⟩) (by assumption) ?_
    ·intro W hSW
     obtain ⟨hs0,hs1,hs2,hs3,hs4,hs5⟩:=hSW
     go_simp
     try with_reducible rfl
    try simp only [Act.put,List.getElem_toArray,List.getElem_cons_succ,List.getElem_cons_zero,sI,sZ,sS]
    refine wpAnyH_ready (rs:=[19]) (by kernel_rfl) (by simp) ?_
    refine AllReadyH.cons rfl (fun KK hK=>?_) AllReadyH.nil
    have gO3:=ko3.cell 1
    have fO3:=ko3.frozen 1
    go_simp
    have uF:Up w (w3.setCell ⟨w.heap.size+1+1,1,none⟩ (.slice D' (k+1) d')):=uw3.setCell (by simp;omega) _
    have kbF:Bk (w3.setCell ⟨w.heap.size+1+1,1,none⟩ (.slice D' (k+1) d')) w.heap.size 28 #[.int .i64 r,.slice (some ⟨g,off,none⟩) x.length c0]:=kb3.far (by dsimp only;omega) _
    have krF:Bk (w3.setCell ⟨w.heap.size+1+1,1,none⟩ (.slice D' (k+1) d')) (w.heap.size+1) 28 #[.int .i64 0,.slice none 0 0]:=kr3.far (by dsimp only;omega) _
    have koF:Bk (w3.setCell ⟨w.heap.size+1+1,1,none⟩ (.slice D' (k+1) d')) (w.heap.size+1+1) 28 #[.int .i64 r,.slice D' (k+1) d']:=by simpa using ko3.set 1 (.slice D' (k+1) d')
    have soF:=so2.set good_Slot (w.heap.size+1+1) 1 [.slice D' (k+1) d'] (by omega)
    have hsF:w.heap.size+3≤(w3.setCell ⟨w.heap.size+1+1,1,none⟩ (.slice D' (k+1) d')).heap.size:=by simpa [World.setCell] using hs3
    have soF':SO shSlot (w3.setCell ⟨w.heap.size+1+1,1,none⟩ (.slice D' (k+1) d')) (w.heap.size+3) (w3.setCell ⟨w.heap.size+1+1,1,none⟩ (.slice D' (k+1) d')).heap.size D' d' (X++[(x0,x1,x2,x3,x4)]) bl':=soF
    generalize w3.setCell ⟨w.heap.size+1+1,1,none⟩ (.slice D' (k+1) d')=WF at uF kbF krF koF hsF soF' ⊢
    refine hK.out _ _ ⟨kbF.cell 1,up5 uF hc5.out⟩ (fun hH=>?_)
    clear hK KK
    try simp only [Act.put,List.getElem_toArray,List.getElem_cons_succ,List.getElem_cons_zero,sI,sZ,sS]
    refine wpAnyH_done (by kernel_rfl) ?_ _
    clear hc5
    go_wp2_with fail
    go_roundw
    case rel =>
     refine ⟨k+1,D',d',bl',by omega,by go_num,kbF,krF,koF,?_,nd2,uF,hsF⟩
     rw [HTK.out]
     exact soF'
    case measure=>simp [intOf];omega
   ·go_simp
    refine (c_l16OwnPage _ (x1,x2,x3,x4) _ (av _ ur) hl).mono ?_
    rintro e w1 ⟨csn,bln,rfl,on,ndn,un⟩
    obtain ⟨E2,e2,_,E3,e3,_,E4,e4,_,rfl,_,_,_,_⟩:=openOPage on
    have uu1:Up wr w1:=ur.trans un
    have uw1:Up w w1:=hu.trans uu1
    have ko1:=kod.up un
    have kr1:=krd.up un
    have kb1:=kbd.up un
    go_wp2_with fail
    refine hK.out _ _ ⟨kb1.cell 1,up5 uw1 hc5.out⟩ (fun hH=>?_)
    clear hK KK
    try simp only [Act.put,List.getElem_toArray,List.getElem_cons_succ,List.getElem_cons_zero,sI,sZ,sS]
    refine wpAnyH_take (i:=15) (v:=.agg #[.int .i64 x0,.bool x1,.slice E2 x2.length e2,.slice E3 x3.length e3,.slice E4 x4.length e4]) rfl (by kernel_rfl) (by kernel_rfl) (by kernel_rfl) (fun _ _ _ h=>h) (Or.inl ⟨by rfl,?_⟩) (by assumption) ?_
    ·intro W hSW
     obtain ⟨hs0,hs1,hs2,hs3,hs4,hs5⟩:=hSW
     go_simp
     try with_reducible rfl
    try simp only [Act.put,List.getElem_toArray,List.getElem_cons_succ,List.getElem_cons_zero,sI,sZ,sS]
    refine wpAnyH_ready (rs:=[1,16]) (by kernel_rfl) (by simp) ?_
    refine AllReadyH.cons rfl (fun KK hK=>?_) (AllReadyH.cons rfl (fun KK hK=>?_) AllReadyH.nil)
    ·have gO:=ko1.cell 1
     go_simp
     clear gO
     refine hK.out _ _ ⟨kb1.cell 1,up5 uw1 hc5.out⟩ (fun hH=>?_)
     clear hK KK
     try simp only [Act.put,List.getElem_toArray,List.getElem_cons_succ,List.getElem_cons_zero,sI,sZ,sS]
     refine wpAnyH_ready (rs:=[16]) (by kernel_rfl) (by simp) ?_
     refine AllReadyH.cons rfl (fun KK hK=>?_) AllReadyH.nil
     go_simp
     obtain ⟨W2,hW2⟩:∃W2,W2=w1.alloc (.cells #[.int .i64 x0,.bool x1,.slice E2 x2.length e2,.slice E3 x3.length e3,.slice E4 x4.length e4] 60):=⟨_,rfl⟩
     have u2:Up w1 W2:=by rw [hW2];exact (Up.refl _).alloc _
     have kq2:Bk W2 w1.heap.size 60 #[.int .i64 x0,.bool x1,.slice E2 x2.length e2,.slice E3 x3.length e3,.slice E4 x4.length e4]:=by rw [hW2];exact Bk.new _ _ _
     rw [←hW2]
     clear hW2
     have kbA:=kb1.up u2
     have koA:=ko1.up u2
     have krA:=kr1.up u2
     refine hK.out _ _ ⟨kbA.cell 1,up5 (uw1.trans u2) hc5.out⟩ (fun hH=>?_)
     clear hK KK
     try simp only [Act.put,List.getElem_toArray,List.getElem_cons_succ,List.getElem_cons_zero,sI,sZ,sS]
     refine wpAnyH_ready (rs:=[17]) (by kernel_rfl) (by simp) ?_
     refine AllReadyH.cons rfl (fun KK hK=>?_) AllReadyH.nil
     have sA:=SOH.out.up good_Slot (uu1.trans u2)
     have hsA:w.heap.size+3≤W2.heap.size:=Nat.le_trans hsz (uu1.trans u2).size
     have roA:Rowed shSlot W2 (w.heap.size+3) W2.heap.size [.int .i64 x0,.bool x1,.slice E2 x2.length e2,.slice E3 x3.length e3,.slice E4 x4.length e4] [(x0,x1,x2,x3,x4)] [bln]:=Rowed.one good_Slot (asmSlot b0 (good_Page.own_wide (own_up good_Page on u2) (Nat.le_trans hsz (by simp)) (Nat.le_refl _)))
     have nbA:=hnd _ ndn (fun y hy=>Nat.le_trans (by simp) (good_Page.own_in on y hy).1)
     refine step_app good_Slot rfl _ _ _ _ 60 rfl i0 _ Tryz.underlying26 hi0 hz0 hz1 (by rfl) (lo:=w.heap.size+3) (xs:=X) (ys:=[(x0,x1,x2,x3,x4)]) (bl:=bl) (bs:=[bln]) (news:=[.int .i64 x0,.bool x1,.slice E2 x2.length e2,.slice E3 x3.length e3,.slice E4 x4.length e4]) (by rw [htk];rfl) rfl sA nbA (Src.box (t:=60) (cs:=[.int .i64 x0,.bool x1,.slice E2 x2.length e2,.slice E3 x3.length e3,.slice E4 x4.length e4]) Tryz.underlying26 kq2 (by simp [Value.oneCell']) (by rw [hz1];rfl)) roA hsA hx1 hx2 ?_
     intro D' d' bl' w3 hap
     obtain ⟨so2,nd2,mem2,on2⟩:=hap
     have kb3:=kbA.only on2 hgb
     have ko3:=koA.only on2 hgo
     have kr3:=krA.only on2 hgr
     have hs3:w.heap.size+3≤w3.heap.size:=Nat.le_trans hsA on2.size
     have uw3:Up w w3:=Up.only (uw1.trans u2) on2 (fun y hy=>by have:=(hin y hy).1;omega)
     refine hK.out _ _ ⟨kb3.cell 1,up5 uw3 hc5.out⟩ (fun hH=>?_)
     clear hK KK
     try simp only [Act.put,List.getElem_toArray,List.getElem_cons_succ,List.getElem_cons_zero,sI,sZ,sS]
     refine wpAnyH_take (i:=18) (v:=.pointer (some ⟨w.heap.size+1+1,1,none⟩)) rfl (by kernel_rfl) (by kernel_rfl) (by kernel_rfl) (fun _ _ _ h=>h) (Or.inl ⟨by rfl,?_⟩) (by assumption) ?_
     ·intro W hSW
      obtain ⟨hs0,hs1,hs2,hs3,hs4,hs5⟩:=hSW
      go_simp
      try with_reducible rfl
     try simp only [Act.put,List.getElem_toArray,List.getElem_cons_succ,List.getElem_cons_zero,sI,sZ,sS]
     refine wpAnyH_ready (rs:=[19]) (by kernel_rfl) (by simp) ?_
     refine AllReadyH.cons rfl (fun KK hK=>?_) AllReadyH.nil
     have gO3:=ko3.cell 1
     have fO3:=ko3.frozen 1
     go_simp
     have uF:Up w (w3.setCell ⟨w.heap.size+1+1,1,none⟩ (.slice D' (k+1) d')):=uw3.setCell (by simp;omega) _
     have kbF:Bk (w3.setCell ⟨w.heap.size+1+1,1,none⟩ (.slice D' (k+1) d')) w.heap.size 28 #[.int .i64 r,.slice (some ⟨g,off,none⟩) x.length c0]:=kb3.far (by dsimp only;omega) _
     have krF:Bk (w3.setCell ⟨w.heap.size+1+1,1,none⟩ (.slice D' (k+1) d')) (w.heap.size+1) 28 #[.int .i64 0,.slice none 0 0]:=kr3.far (by dsimp only;omega) _
     have koF:Bk (w3.setCell ⟨w.heap.size+1+1,1,none⟩ (.slice D' (k+1) d')) (w.heap.size+1+1) 28 #[.int .i64 r,.slice D' (k+1) d']:=by simpa using ko3.set 1 (.slice D' (k+1) d')
     have soF:=so2.set good_Slot (w.heap.size+1+1) 1 [.slice D' (k+1) d'] (by omega)
     have hsF:w.heap.size+3≤(w3.setCell ⟨w.heap.size+1+1,1,none⟩ (.slice D' (k+1) d')).heap.size:=by simpa [World.setCell] using hs3
     have soF':SO shSlot (w3.setCell ⟨w.heap.size+1+1,1,none⟩ (.slice D' (k+1) d')) (w.heap.size+3) (w3.setCell ⟨w.heap.size+1+1,1,none⟩ (.slice D' (k+1) d')).heap.size D' d' (X++[(x0,x1,x2,x3,x4)]) bl':=soF
     generalize w3.setCell ⟨w.heap.size+1+1,1,none⟩ (.slice D' (k+1) d')=WF at uF kbF krF koF hsF soF' ⊢
     refine hK.out _ _ ⟨kbF.cell 1,up5 uF hc5.out⟩ (fun hH=>?_)
     clear hK KK
     try simp only [Act.put,List.getElem_toArray,List.getElem_cons_succ,List.getElem_cons_zero,sI,sZ,sS]
     refine wpAnyH_done (by kernel_rfl) ?_ _
     clear hc5
     go_wp2_with fail
     go_roundw
     case rel =>
      refine ⟨k+1,D',d',bl',by omega,by go_num,kbF,krF,koF,?_,nd2,uF,hsF⟩
      rw [HTK.out]
      exact soF'
     case measure=>simp [intOf];omega
    ·go_simp
     obtain ⟨W2,hW2⟩:∃W2,W2=w1.alloc (.cells #[.int .i64 x0,.bool x1,.slice E2 x2.length e2,.slice E3 x3.length e3,.slice E4 x4.length e4] 60):=⟨_,rfl⟩
     have u2:Up w1 W2:=by rw [hW2];exact (Up.refl _).alloc _
     have kq2:Bk W2 w1.heap.size 60 #[.int .i64 x0,.bool x1,.slice E2 x2.length e2,.slice E3 x3.length e3,.slice E4 x4.length e4]:=by rw [hW2];exact Bk.new _ _ _
     rw [←hW2]
     clear hW2
     have kbA:=kb1.up u2
     have koA:=ko1.up u2
     have krA:=kr1.up u2
     refine hK.out _ _ ⟨kbA.cell 1,up5 (uw1.trans u2) hc5.out⟩ (fun hH=>?_)
     clear hK KK
     try simp only [Act.put,List.getElem_toArray,List.getElem_cons_succ,List.getElem_cons_zero,sI,sZ,sS]
     refine wpAnyH_ready (rs:=[1]) (by kernel_rfl) (by simp) ?_
     refine AllReadyH.cons rfl (fun KK hK=>?_) AllReadyH.nil
     have gO:=koA.cell 1
     go_simp
     clear gO
     refine hK.out _ _ ⟨kbA.cell 1,up5 (uw1.trans u2) hc5.out⟩ (fun hH=>?_)
     clear hK KK
     try simp only [Act.put,List.getElem_toArray,List.getElem_cons_succ,List.getElem_cons_zero,sI,sZ,sS]
     refine wpAnyH_ready (rs:=[17]) (by kernel_rfl) (by simp) ?_
     refine AllReadyH.cons rfl (fun KK hK=>?_) AllReadyH.nil
     have sA:=SOH.out.up good_Slot (uu1.trans u2)
     have hsA:w.heap.size+3≤W2.heap.size:=Nat.le_trans hsz (uu1.trans u2).size
     have roA:Rowed shSlot W2 (w.heap.size+3) W2.heap.size [.int .i64 x0,.bool x1,.slice E2 x2.length e2,.slice E3 x3.length e3,.slice E4 x4.length e4] [(x0,x1,x2,x3,x4)] [bln]:=Rowed.one good_Slot (asmSlot b0 (good_Page.own_wide (own_up good_Page on u2) (Nat.le_trans hsz (by simp)) (Nat.le_refl _)))
     have nbA:=hnd _ ndn (fun y hy=>Nat.le_trans (by simp) (good_Page.own_in on y hy).1)
     refine step_app good_Slot rfl _ _ _ _ 60 rfl i0 _ Tryz.underlying26 hi0 hz0 hz1 (by rfl) (lo:=w.heap.size+3) (xs:=X) (ys:=[(x0,x1,x2,x3,x4)]) (bl:=bl) (bs:=[bln]) (news:=[.int .i64 x0,.bool x1,.slice E2 x2.length e2,.slice E3 x3.length e3,.slice E4 x4.length e4]) (by rw [htk];rfl) rfl sA nbA (Src.box (t:=60) (cs:=[.int .i64 x0,.bool x1,.slice E2 x2.length e2,.slice E3 x3.length e3,.slice E4 x4.length e4]) Tryz.underlying26 kq2 (by simp [Value.oneCell']) (by rw [hz1];rfl)) roA hsA hx1 hx2 ?_
     intro D' d' bl' w3 hap
     obtain ⟨so2,nd2,mem2,on2⟩:=hap
     have kb3:=kbA.only on2 hgb
     have ko3:=koA.only on2 hgo
     have kr3:=krA.only on2 hgr
     have hs3:w.heap.size+3≤w3.heap.size:=Nat.le_trans hsA on2.size
     have uw3:Up w w3:=Up.only (uw1.trans u2) on2 (fun y hy=>by have:=(hin y hy).1;omega)
     refine hK.out _ _ ⟨kb3.cell 1,up5 uw3 hc5.out⟩ (fun hH=>?_)
     clear hK KK
     try simp only [Act.put,List.getElem_toArray,List.getElem_cons_succ,List.getElem_cons_zero,sI,sZ,sS]
     refine wpAnyH_take (i:=18) (v:=.pointer (some ⟨w.heap.size+1+1,1,none⟩)) rfl (by kernel_rfl) (by kernel_rfl) (by kernel_rfl) (fun _ _ _ h=>h) (Or.inl ⟨by rfl,?_⟩) (by assumption) ?_
     ·intro W hSW
      obtain ⟨hs0,hs1,hs2,hs3,hs4,hs5⟩:=hSW
      go_simp
      try with_reducible rfl
     try simp only [Act.put,List.getElem_toArray,List.getElem_cons_succ,List.getElem_cons_zero,sI,sZ,sS]
     refine wpAnyH_ready (rs:=[19]) (by kernel_rfl) (by simp) ?_
     refine AllReadyH.cons rfl (fun KK hK=>?_) AllReadyH.nil
     have gO3:=ko3.cell 1
     have fO3:=ko3.frozen 1
     go_simp
     have uF:Up w (w3.setCell ⟨w.heap.size+1+1,1,none⟩ (.slice D' (k+1) d')):=uw3.setCell (by simp;omega) _
     have kbF:Bk (w3.setCell ⟨w.heap.size+1+1,1,none⟩ (.slice D' (k+1) d')) w.heap.size 28 #[.int .i64 r,.slice (some ⟨g,off,none⟩) x.length c0]:=kb3.far (by dsimp only;omega) _
     have krF:Bk (w3.setCell ⟨w.heap.size+1+1,1,none⟩ (.slice D' (k+1) d')) (w.heap.size+1) 28 #[.int .i64 0,.slice none 0 0]:=kr3.far (by dsimp only;omega) _
     have koF:Bk (w3.setCell ⟨w.heap.size+1+1,1,none⟩ (.slice D' (k+1) d')) (w.heap.size+1+1) 28 #[.int .i64 r,.slice D' (k+1) d']:=by simpa using ko3.set 1 (.slice D' (k+1) d')
     have soF:=so2.set good_Slot (w.heap.size+1+1) 1 [.slice D' (k+1) d'] (by omega)
     have hsF:w.heap.size+3≤(w3.setCell ⟨w.heap.size+1+1,1,none⟩ (.slice D' (k+1) d')).heap.size:=by simpa [World.setCell] using hs3
     have soF':SO shSlot (w3.setCell ⟨w.heap.size+1+1,1,none⟩ (.slice D' (k+1) d')) (w.heap.size+3) (w3.setCell ⟨w.heap.size+1+1,1,none⟩ (.slice D' (k+1) d')).heap.size D' d' (X++[(x0,x1,x2,x3,x4)]) bl':=soF
     generalize w3.setCell ⟨w.heap.size+1+1,1,none⟩ (.slice D' (k+1) d')=WF at uF kbF krF koF hsF soF' ⊢
     refine hK.out _ _ ⟨kbF.cell 1,up5 uF hc5.out⟩ (fun hH=>?_)
     clear hK KK
     try simp only [Act.put,List.getElem_toArray,List.getElem_cons_succ,List.getElem_cons_zero,sI,sZ,sS]
     refine wpAnyH_done (by kernel_rfl) ?_ _
     clear hc5
     go_wp2_with fail
     go_roundw
     case rel =>
      refine ⟨k+1,D',d',bl',by omega,by go_num,kbF,krF,koF,?_,nd2,uF,hsF⟩
      rw [HTK.out]
      exact soF'
     case measure=>simp [intOf];omega
  ·obtain rfl:k=x.length:=by omega
   rw [List.take_length] at so
   have gB:=kb.cell 1
   have gO:=ko.cell 1
   have gO0:=ko.cell 0
   have gR:=kr.cell 1
   have gR0:=kr.cell 0
   have fR:=kr.frozen 1
   have fR0:=kr.frozen 0
   go_wp2_with fail
   have hz:=(so.set good_Slot (w.heap.size+1) 0 [.int .i64 r,.slice D x.length d] (by omega)).wide good_Slot (lo':=w.heap.size) (by omega) (Nat.le_refl _)
   refine bodyPost_ret (v:=.agg #[.int .i64 r,.slice D x.length d]) (by simp [results,Tryz.results33,go_sem,gR,gR0]) rfl ?_
   exact ⟨[.int .i64 r,.slice D x.length d],bl,rfl,asmBtree br hz,nd,hu.sets (g:=w.heap.size+1) (by omega) 0 [.int .i64 r,.slice D x.length d]⟩
end Go.Proofs.YtojmcmghmnfjeaaGreatDoor
