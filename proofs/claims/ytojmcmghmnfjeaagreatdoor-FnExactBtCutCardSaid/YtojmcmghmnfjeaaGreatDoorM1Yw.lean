/-
 Parts of the proof.
-/
import Derived.Test.YtojmcmghmnfjeaaGreatDoorM1Yu
set_option maxHeartbeats 16000000
set_option maxRecDepth 100000
namespace Go.Proofs.YtojmcmghmnfjeaaGreatDoor
open Go.RowKit
set_option linter.unusedVariables false
set_option linter.unusedSimpArgs false
theorem remAt_zeroW {α:Type} (l:List α):remAt l 0=l.drop 1:=rfl
theorem drop_oneW {α:Type} {l:List α} (h:1<l.length):l.drop 1=l[1]::l.drop 2:=List.drop_eq_getElem_cons h
theorem fillL_leaf {x y:TPage} {key:ByteArray} (hl:x.1=true) (h0:0<y.2.1.length) (h1:1<y.2.1.length) (hv:0<y.2.2.1.length):moveL x y key=((x.1,x.2.1++[y.2.1[0]'h0],x.2.2.1++[y.2.2.1[0]'hv],x.2.2.2),(y.1,y.2.1[1]'h1::y.2.1.drop 2,remAt y.2.2.1 0,y.2.2.2),y.2.1[1]'h1):=by
 unfold moveL
 rw [if_pos hl,getD_atY _ h0,getD_atY _ h1,getD_atY _ hv,drop_oneW h1,remAt_zeroW]
theorem fillL_fork {x y:TPage} {key:ByteArray} (hl:x.1=false) (h0:0<y.2.1.length) (hv:0<y.2.2.2.length):moveL x y key=((x.1,x.2.1++[key],x.2.2.1,x.2.2.2++[y.2.2.2[0]'hv]),(y.1,remAt y.2.1 0,y.2.2.1,remAt y.2.2.2 0),y.2.1[0]'h0):=by
 unfold moveL
 rw [if_neg (by rw [hl];decide),getD_atY _ h0,getD_atY _ hv,remAt_zeroW,remAt_zeroW]
theorem rowG_headS {gs:List Nat} {W:World} {gb ob c:Nat} {l:List ByteArray} (h:RowG shS gs W (some ⟨gb,ob,none⟩) c l) (hl:0<l.length):∀V,Only gs W V→V.cell? ⟨gb,ob,none⟩=some (.string (l[0]'hl)):=fun V hv=>by
 obtain ⟨g,o,hA,_,_,hc,_⟩:=(h V hv).at_S (i:=0) hl
 injection hA with hA
 injection hA with h1 h2 _
 subst h1 h2
 simpa using hc
theorem rowG_headI {gs:List Nat} {W:World} {gb ob c:Nat} {l:List Int} (h:RowG shI gs W (some ⟨gb,ob,none⟩) c l) (hl:0<l.length):∀V,Only gs W V→V.cell? ⟨gb,ob,none⟩=some (.int .i64 (l[0]'hl)):=fun V hv=>by
 obtain ⟨g,o,hA,_,_,hc,_⟩:=(h V hv).at_I (i:=0) hl
 injection hA with hA
 injection hA with h1 h2 _
 subst h1 h2
 simpa using hc
theorem c_l16Left (g0:Nat) (vx vy:Value) (x y:TPage) (key:ByteArray) (w:World) (hg0:g0<w.heap.size) (hx:PgK g0 w vx x) (hy:PgK g0 w vy y) (fx:Fine x) (fy:Fine y) (he:x.1=y.1) (hr:3<fillOf y) (hx2:2≤fillOf x) (hk:key.size≤maxLen) :
 Calls Tryz.prog 67 #[vx,vy,.string key] w (fun e w'=>∃v1 v2,e=.returned (.tuple #[v1,v2,.string (moveL x y key).2.2])∧PgK g0 w' v1 (moveL x y key).1∧PgK g0 w' v2 (moveL x y key).2.1∧Up w w'):=by
 obtain ⟨i0,hi0,hz0,hz1,hz2⟩:=info_parts cinfo_StrY
 obtain ⟨j0,hj0,hy0_,hy1_,hy2_⟩:=info_parts cinfo_IntY
 obtain ⟨A1,c1,A2,c2,A3,c3,rfl,rx1,rx2,rx3⟩:=hx.rows
 obtain ⟨B1,e1,B2,e2,B3,e3,rfl,ry1,ry2,ry3⟩:=hy.rows
 obtain ⟨lx1,lx2,lx3⟩:=fine_lens fx
 obtain ⟨ly1,ly2,ly3⟩:=fine_lens fy
 obtain ⟨W0,hW0⟩:∃W0,W0=((((w.alloc (.cells #[.bool x.1,.slice A1 x.2.1.length c1,.slice A2 x.2.2.1.length c2,.slice A3 x.2.2.2.length c3] 58)).alloc (.cells #[.bool y.1,.slice B1 y.2.1.length e1,.slice B2 y.2.2.1.length e2,.slice B3 y.2.2.2.length e3] 58)).alloc (.cells #[.bool false,.slice none 0 0,.slice none 0 0,.slice none 0 0] 58)).alloc (.cells #[.bool false,.slice none 0 0,.slice none 0 0,.slice none 0 0] 58)):=⟨_,rfl⟩
 have F0:Four w W0 #[.bool x.1,.slice A1 x.2.1.length c1,.slice A2 x.2.2.1.length c2,.slice A3 x.2.2.2.length c3] #[.bool y.1,.slice B1 y.2.1.length e1,.slice B2 y.2.2.1.length e2,.slice B3 y.2.2.2.length e3] #[.bool false,.slice none 0 0,.slice none 0 0,.slice none 0 0] #[.bool false,.slice none 0 0,.slice none 0 0,.slice none 0 0]:=by rw [hW0];exact four_start w _ _ _ _
 have P0:PW g0 w W0 x y:=⟨A1,c1,A2,c2,A3,c3,B1,e1,B2,e2,B3,e3,F0,(rx1.g (gs:=four w g0) four_ok).go (Only.of_up F0.up),(rx2.g (gs:=four w g0) four_ok).go (Only.of_up F0.up),(rx3.g (gs:=four w g0) four_ok).go (Only.of_up F0.up),(ry1.g (gs:=four w g0) four_ok).go (Only.of_up F0.up),(ry2.g (gs:=four w g0) four_ok).go (Only.of_up F0.up),(ry3.g (gs:=four w g0) four_ok).go (Only.of_up F0.up),by rw [hW0];simp⟩
 have gx1:W0.cell? ⟨w.heap.size,1,none⟩=some (.slice A1 x.2.1.length c1):=F0.x.cell 1
 have gx0:W0.cell? ⟨w.heap.size,0,none⟩=some (.bool x.1):=F0.x.cell 0
 clear rx1 rx2 rx3 ry1 ry2 ry3 hx hy
 cases hl:x.1
 ·have hly:y.1=false:=he▸hl
  rw [fill_fork hly] at hr
  rw [fill_fork hl] at hx2
  obtain ⟨hvx,hix⟩:=fx.fork hl
  obtain ⟨hvy,hiy⟩:=fy.fork hly
  have hk0:0<y.2.1.length:=by omega
  have hv0:0<y.2.2.2.length:=by omega
  have HM:=Hd (fillL_fork (x:=x) (key:=key) hl hk0 hv0)
  have hki:(0:Int)<(y.2.1.length:Int):=by omega
  have hvi:(0:Int)<(y.2.2.2.length:Int):=by omega
  have hkm:I64 y.2.2.2[0]:=by
   obtain ⟨_,_,_,_,_,_,_,_,_,_,_,_,F,q1,q2,q3,q4,q5,q6,_⟩:=P0
   obtain ⟨_,_,_,_,_,_,h⟩:=q6.sr.at_I hv0
   exact h
  rw [hl] at hW0 gx0
  have HL:=Hd (And.intro hl (And.intro hly (And.intro hvx (And.intro hvy (And.intro hix hiy)))))
  clear he hr fx fy hl hly hvx hvy hix hiy F0
  go_enter Tryz.func67,Tryz.ntmps67
  go_upto_region 1 with fail
  rw [←hW0]
  clear hW0
  have HP:=P0
  clear P0
  go_upto_region 7 with fail
  clear gx0 gx1
  go_cut [9] (fun s wx=>s=.string y.2.1[0]∧PW g0 w wx x y)
  case first =>
   have HP0:=Hd HP
   obtain ⟨A1,c1,A2,c2,A3,c3,B1,e1,B2,e2,B3,e3,F,qx1,qx2,qx3,qy1,qy2,qy3,zz⟩:=HP
   obtain ⟨ga,oa,hA,_,_,hck,hsk⟩:=qy1.sr.at_S (i:=0) hk0
   subst hA
   clear hck
   have hck:=rowG_headS qy1 hk0 _ (Only.refl _ _)
   have gy1:W0.cell? ⟨w.heap.size+1,1,none⟩=some (.slice (some ⟨ga,oa,none⟩) y.2.1.length e1):=F.y.cell 1
   clear qx1 qx2 qx3 qy1 qy2 qy3
   go_wp2_with fail
   go_meet
   exact ⟨rfl,HP0.out⟩
  clear HP
  obtain ⟨rfl,HP⟩:=hcut
  have hke:=hk
  go_upto_region 8 with fail
  go_cut [] (fun wx=>PW g0 w wx (x.1,x.2.1++[key],x.2.2.1,x.2.2.2) (y.1,y.2.1,y.2.2.1,y.2.2.2))
  case first =>
   obtain ⟨A1,c1,A2,c2,A3,c3,B1,e1,B2,e2,B3,e3,F,qx1,qx2,qx3,qy1,qy2,qy3,zz⟩:=HP
   try dsimp only at F qx1 qx2 qx3 qy1 qy2 qy3
   have gx1:wc.cell? ⟨w.heap.size,1,none⟩=some (.slice A1 (x.2.1).length c1):=F.x.cell 1
   have HSR:=Hd qx1
   have CIa:=Hd (c_l03Subs x.2.1 A1 c1 wc (HSR.out.sr.up good_S (Up.refl wc)) (by omega))
   have CIb:=Hd (c_l03Subs x.2.1 A1 c1 (wc.alloc (.cells #[.string key] 9)) (HSR.out.sr.up good_S ((Up.refl wc).alloc (.cells #[.string key] 9))) (by omega))
   have HQ:=Hd (And.intro qx1 (And.intro qx2 (And.intro qx3 (And.intro qy1 (And.intro qy2 qy3)))))
   clear qx1 qx2 qx3 qy1 qy2 qy3
   have hb1:((x.2.1).length+[key].length)*i0.bytes≤140737488355328:=by rw [hz2];simp;omega
   have hb2:(x.2.1).length+[key].length≤maxLen:=by simp;unfold maxLen;omega
   go_wp2_with (first
    | (go_at_call 63;(with_reducible refine CIa.out.mono ?_);rintro e w1 ⟨D4,d4,bl4,rfl,so4,nd4,u4⟩)
    | (at_builtin;(have kB:Bk _ _ 9 #[.string key]:=Bk.new w1 9 #[.string key];have uN:Up wc _:=((Up.refl wc).trans u4).alloc (.cells #[.string key] 9);have soN:=so4.up good_S ((Up.refl w1).alloc (.cells #[.string key] 9));refine wpList_app good_S rfl _ _ _ _ 9 rfl i0 _ Tryz.underlying52 hi0 hz0 hz1 (by rfl) (lo:=wc.heap.size) (xs:=x.2.1) (ys:=[key]) (bl:=bl4) (bs:=[[]]) (news:=[.string key]) rfl rfl soN (by simpa using nd4) (Src.box (t:=9) (cs:=[.string key]) Tryz.underlying52 kB (by simp [Value.oneCell']) (by rw [hz1];rfl)) (Rowed.one good_S (show shS.own _ _ _ [.string key] (key) [] from ⟨⟨rfl,hke⟩,rfl⟩)) uN.size hb1 hb2 ?_;intro D5 d5 bl5 w5 hap;obtain ⟨so5,nd5,mem5,on5⟩:=hap;have u5:Up wc w5:=Up.only uN on5 (fun b hb=>(soN.in_ good_S b hb).1);have F5:=F.goUp u5;have gq:w5.cell? ⟨w.heap.size,1,none⟩=some (.slice A1 (x.2.1).length c1):=F5.x.cell 1;have fq:=F5.x.frozen 1)))
   all_goals ((try go_wp2_with fail);go_meet;have key:∀n,n=(x.2.1++[key]).length→PW g0 w (w5.setCell ⟨w.heap.size,1,none⟩ (.slice D5 n d5)) (x.1,x.2.1++[key],x.2.2.1,x.2.2.2) (y.1,y.2.1,y.2.2.1,y.2.2.2):=(fun n hn=>by rw [hn];exact pw_x1 (x:=(x.1,x.2.1,x.2.2.1,x.2.2.2)) (y:=(y.1,y.2.1,y.2.2.1,y.2.2.2)) hg0 F HQ.out zz u5 so5);exact key _ (by simp))
  clear HP
  have HP:=hcut
  clear hcut
  clear hke
  have hke:=hkm
  go_upto_region 9 with fail
  go_cut [] (fun wx=>PW g0 w wx (x.1,x.2.1++[key],x.2.2.1,x.2.2.2++[y.2.2.2[0]]) (y.1,y.2.1,y.2.2.1,y.2.2.2))
  case first =>
   obtain ⟨A1,c1,A2,c2,A3,c3,B1,e1,B2,e2,B3,e3,F,qx1,qx2,qx3,qy1,qy2,qy3,zz⟩:=HP
   try dsimp only at F qx1 qx2 qx3 qy1 qy2 qy3
   obtain ⟨ga,oa,hA,_,_,hck,hsk1,hsk2⟩:=qy3.sr.at_I (i:=0) hv0
   subst hA
   clear hck
   have rc:=rowG_headI qy3 hv0
   have hck:=rc _ (Only.refl _ _)
   have RC:=Hd rc
   clear rc
   have gy3:wc.cell? ⟨w.heap.size+1,3,none⟩=some (.slice (some ⟨ga,oa,none⟩) (y.2.2.2).length e3):=F.y.cell 3
   have gx3:wc.cell? ⟨w.heap.size,3,none⟩=some (.slice A3 (x.2.2.2).length c3):=F.x.cell 3
   have HSR:=Hd qx3
   have CIa:=Hd (c_l00OwnZ x.2.2.2 A3 c3 wc.drew (HSR.out.sr.up good_I (Up.refl wc).drew) (by omega))
   have CIb:=Hd (c_l00OwnZ x.2.2.2 A3 c3 (wc.drew.alloc (.cells #[.int .i64 y.2.2.2[0]] 2)) (HSR.out.sr.up good_I ((Up.refl wc).drew.alloc (.cells #[.int .i64 y.2.2.2[0]] 2))) (by omega))
   have HQ:=Hd (And.intro qx1 (And.intro qx2 (And.intro qx3 (And.intro qy1 (And.intro qy2 qy3)))))
   clear qx1 qx2 qx3 qy1 qy2 qy3
   have hb1:((x.2.2.2).length+[y.2.2.2[0]].length)*j0.bytes≤140737488355328:=by rw [hy2_];simp;omega
   have hb2:(x.2.2.2).length+[y.2.2.2[0]].length≤maxLen:=by simp;unfold maxLen;omega
   have SK:∀V,Up wc V→(V.cell? ⟨w.heap.size+1,3,none⟩=some (.slice (some ⟨ga,oa,none⟩) (y.2.2.2).length e3)∧V.cell? ⟨ga,oa,none⟩=some (.int .i64 y.2.2.2[0])):=fun V u=>⟨(F.goUp u).y.cell 3,RC.out V (Only.of_up u)⟩
   have SKs:∀V v,Up wc V→((V.setCell ⟨w.heap.size,3,none⟩ v).cell? ⟨w.heap.size+1,3,none⟩=some (.slice (some ⟨ga,oa,none⟩) (y.2.2.2).length e3)∧(V.setCell ⟨w.heap.size,3,none⟩ v).cell? ⟨ga,oa,none⟩=some (.int .i64 y.2.2.2[0])):=fun V v u=>⟨((F.goUp u).setX 3 v).y.cell 3,RC.out _ ((Only.of_up u).but (But.set V w.heap.size 3 v) (by simp))⟩
   have SKH:=Hd SK
   have SKT:=Hd SKs
   clear SK SKs
   have gxb:(wc.alloc (.cells #[.int .i64 y.2.2.2[0]] 2)).cell? ⟨w.heap.size,3,none⟩=some (.slice A3 (x.2.2.2).length c3):=(F.goUp ((Up.refl wc).alloc (.cells #[.int .i64 y.2.2.2[0]] 2))).x.cell 3
   have CIc:=Hd (c_l00OwnZ x.2.2.2 A3 c3 ((wc.alloc (.cells #[.int .i64 y.2.2.2[0]] 2)).drew) (HSR.out.sr.up good_I ((Up.refl wc).alloc (.cells #[.int .i64 y.2.2.2[0]] 2)).drew) (by omega))
   have SKU:=Hd (fun (V:World) (u:Up wc V)=>(show V.cell? ⟨w.heap.size,3,none⟩=some (.slice A3 (x.2.2.2).length c3)∧V.cell? ⟨w.heap.size+1,3,none⟩=some (.slice (some ⟨ga,oa,none⟩) (y.2.2.2).length e3)∧V.cell? ⟨ga,oa,none⟩=some (.int .i64 y.2.2.2[0]) from ⟨(F.goUp u).x.cell 3,SKH.out V u⟩))
   refine wp_region_U (fun W=>W.cell? ⟨w.heap.size,3,none⟩=some (.slice A3 (x.2.2.2).length c3)∧W.cell? ⟨w.heap.size+1,3,none⟩=some (.slice (some ⟨ga,oa,none⟩) (y.2.2.2).length e3)∧W.cell? ⟨ga,oa,none⟩=some (.int .i64 y.2.2.2[0])) 9 (by kernel_rfl) ?_
   have hS:(fun W:World=>W.cell? ⟨w.heap.size,3,none⟩=some (.slice A3 (x.2.2.2).length c3)∧W.cell? ⟨w.heap.size+1,3,none⟩=some (.slice (some ⟨ga,oa,none⟩) (y.2.2.2).length e3)∧W.cell? ⟨ga,oa,none⟩=some (.int .i64 y.2.2.2[0])) wc.drew:=SKU.out _ (Up.refl wc).drew
   try simp only [Act.put,sI,sZ,sS]
   refine tP 0 rfl (fun _ _ _ h=>h) hS ?_
   refine tL 1 rfl (fun _ _ _ h=>h) hS ?_
   refine tP 3 rfl (fun _ _ _ h=>h) hS ?_
   refine tL 4 rfl (fun _ _ _ h=>h) hS ?_
   refine tP 5 rfl (fun _ _ _ h=>h) hS ?_
   refine tL 6 rfl (fun _ _ _ h=>h) hS ?_
   refine rU [2,7] ?_
   refine AllReadyU.cons rfl (fun K hK=>?_) ?_
   ·go_simp
    refine (c_l00OwnZ x.2.2.2 A3 c3 wc.drew (HSR.out.sr.up good_I ((Up.refl wc).drew)) (by omega)).mono ?_
    rintro e w1 ⟨D4,d4,bl4,rfl,so4,nd4,u4⟩
    have uC:Up wc w1:=((Up.refl wc).drew).trans u4
    have so0:SO shI w1 wc.heap.size w1.heap.size D4 d4 x.2.2.2 bl4:=so4
    clear so4
    go_wp2_with fail
    refine hK.out _ _ (SKU.out _ uC) (fun hS=>?_)
    clear hK K
    try simp only [Act.put,sI,sZ,sS]
    refine rU [7] ?_
    refine AllReadyU.cons rfl (fun K hK=>?_) AllReadyU.nil
    go_simp
    have kB:Bk (w1.alloc (.cells #[.int .i64 y.2.2.2[0]] 2)) (w1.heap.size) 2 #[.int .i64 y.2.2.2[0]]:=Bk.new w1 2 #[.int .i64 y.2.2.2[0]]
    replace so0:=so0.up good_I ((Up.refl w1).alloc (.cells #[.int .i64 y.2.2.2[0]] 2))
    replace uC:=uC.alloc (.cells #[.int .i64 y.2.2.2[0]] 2)
    refine hK.out _ _ (SKU.out _ uC) (fun hS=>?_)
    clear hK K
    try simp only [Act.put,sI,sZ,sS]
    refine rU [8] ?_
    refine AllReadyU.cons rfl (fun K hK=>?_) AllReadyU.nil
    refine step_app good_I rfl _ _ _ _ 2 rfl j0 _ Tryz.underlying53 hj0 hy0_ hy1_ (by rfl) (lo:=wc.heap.size) (xs:=x.2.2.2) (ys:=[y.2.2.2[0]]) (bl:=bl4) (bs:=[[]]) (news:=[.int .i64 y.2.2.2[0]]) rfl rfl so0 (by simpa using nd4) (Src.box (t:=2) (cs:=[.int .i64 y.2.2.2[0]]) Tryz.underlying53 kB (by simp [Value.oneCell']) (by rw [hy1_];rfl)) (Rowed.one good_I (show shI.own _ _ _ [.int .i64 y.2.2.2[0]] (y.2.2.2[0]) [] from ⟨⟨rfl,hke⟩,rfl⟩)) uC.size hb1 hb2 ?_
    intro D5 d5 bl5 w5 hap
    obtain ⟨so5,nd5,mem5,on5⟩:=hap
    have u5:Up wc w5:=Up.only uC on5 (fun b hb=>(so0.in_ good_I b hb).1)
    have F5:=F.goUp u5
    have gq:w5.cell? ⟨w.heap.size,3,none⟩=some (.slice A3 (x.2.2.2).length c3):=F5.x.cell 3
    have fq:=F5.x.frozen 3
    refine hK.out _ _ (SKU.out _ u5) (fun hS=>?_)
    clear hK K
    try simp only [Act.put,sI,sZ,sS]
    refine wpAnyU_line 1 (by as_aux_lemma=>kernel_rfl) rfl (by decide) ?_
    simp only [List.drop_succ_cons,List.drop_zero]
    go_wp2_with fail
    go_meet
    have key:∀n,n=(x.2.2.2++[y.2.2.2[0]]).length→PW g0 w (w5.setCell ⟨w.heap.size,3,none⟩ (.slice D5 n d5)) (x.1,x.2.1++[key],x.2.2.1,x.2.2.2++[y.2.2.2[0]]) (y.1,y.2.1,y.2.2.1,y.2.2.2):=(fun n hn=>by rw [hn];exact pw_x3 (x:=(x.1,x.2.1++[key],x.2.2.1,x.2.2.2)) (y:=(y.1,y.2.1,y.2.2.1,y.2.2.2)) hg0 F HQ.out zz u5 so5)
    exact key _ (by simp)
   refine AllReadyU.cons rfl (fun K hK=>?_) AllReadyU.nil
   go_simp
   have kB:Bk (wc.drew.alloc (.cells #[.int .i64 y.2.2.2[0]] 2)) (wc.heap.size) 2 #[.int .i64 y.2.2.2[0]]:=Bk.new wc.drew 2 #[.int .i64 y.2.2.2[0]]
   have uA:Up wc (wc.drew.alloc (.cells #[.int .i64 y.2.2.2[0]] 2)):=(Up.refl wc).drew.alloc (.cells #[.int .i64 y.2.2.2[0]] 2)
   refine hK.out _ _ (SKU.out _ uA) (fun hS=>?_)
   clear hK K
   try simp only [Act.put,sI,sZ,sS]
   refine rU [2] ?_
   refine AllReadyU.cons rfl (fun K hK=>?_) AllReadyU.nil
   go_simp
   refine (c_l00OwnZ x.2.2.2 A3 c3 (wc.drew.alloc (.cells #[.int .i64 y.2.2.2[0]] 2)) (HSR.out.sr.up good_I (uA)) (by omega)).mono ?_
   rintro e w1 ⟨D4,d4,bl4,rfl,so4,nd4,u4⟩
   have uC:Up wc w1:=(uA).trans u4
   have so0:SO shI w1 wc.heap.size w1.heap.size D4 d4 x.2.2.2 bl4:=so4.wide good_I (show wc.heap.size≤(wc.drew.alloc (.cells #[.int .i64 y.2.2.2[0]] 2)).heap.size from ((Up.refl wc).drew.alloc _).size) (Nat.le_refl _)
   replace kB:=kB.up u4
   clear so4
   go_wp2_with fail
   refine hK.out _ _ (SKU.out _ uC) (fun hS=>?_)
   clear hK K
   try simp only [Act.put,sI,sZ,sS]
   refine rU [8] ?_
   refine AllReadyU.cons rfl (fun K hK=>?_) AllReadyU.nil
   refine step_app good_I rfl _ _ _ _ 2 rfl j0 _ Tryz.underlying53 hj0 hy0_ hy1_ (by rfl) (lo:=wc.heap.size) (xs:=x.2.2.2) (ys:=[y.2.2.2[0]]) (bl:=bl4) (bs:=[[]]) (news:=[.int .i64 y.2.2.2[0]]) rfl rfl so0 (by simpa using nd4) (Src.box (t:=2) (cs:=[.int .i64 y.2.2.2[0]]) Tryz.underlying53 kB (by simp [Value.oneCell']) (by rw [hy1_];rfl)) (Rowed.one good_I (show shI.own _ _ _ [.int .i64 y.2.2.2[0]] (y.2.2.2[0]) [] from ⟨⟨rfl,hke⟩,rfl⟩)) uC.size hb1 hb2 ?_
   intro D5 d5 bl5 w5 hap
   obtain ⟨so5,nd5,mem5,on5⟩:=hap
   have u5:Up wc w5:=Up.only uC on5 (fun b hb=>(so0.in_ good_I b hb).1)
   have F5:=F.goUp u5
   have gq:w5.cell? ⟨w.heap.size,3,none⟩=some (.slice A3 (x.2.2.2).length c3):=F5.x.cell 3
   have fq:=F5.x.frozen 3
   refine hK.out _ _ (SKU.out _ u5) (fun hS=>?_)
   clear hK K
   try simp only [Act.put,sI,sZ,sS]
   refine wpAnyU_line 1 (by as_aux_lemma=>kernel_rfl) rfl (by decide) ?_
   simp only [List.drop_succ_cons,List.drop_zero]
   go_wp2_with fail
   go_meet
   have key:∀n,n=(x.2.2.2++[y.2.2.2[0]]).length→PW g0 w (w5.setCell ⟨w.heap.size,3,none⟩ (.slice D5 n d5)) (x.1,x.2.1++[key],x.2.2.1,x.2.2.2++[y.2.2.2[0]]) (y.1,y.2.1,y.2.2.1,y.2.2.2):=(fun n hn=>by rw [hn];exact pw_x3 (x:=(x.1,x.2.1++[key],x.2.2.1,x.2.2.2)) (y:=(y.1,y.2.1,y.2.2.1,y.2.2.2)) hg0 F HQ.out zz u5 so5)
   exact key _ (by simp)
  clear HP
  have HP:=hcut
  clear hcut
  go_upto_region 10 with fail
  go_cut [] (fun wx=>PW g0 w wx (x.1,x.2.1++[key],x.2.2.1,x.2.2.2++[y.2.2.2[0]]) (y.1,remAt y.2.1 0,y.2.2.1,y.2.2.2))
  case first =>
   obtain ⟨A1,c1,A2,c2,A3,c3,B1,e1,B2,e2,B3,e3,F,qx1,qx2,qx3,qy1,qy2,qy3,zz⟩:=HP
   try dsimp only at F qx1 qx2 qx3 qy1 qy2 qy3
   have gy1:wc.cell? ⟨w.heap.size+1,1,none⟩=some (.slice B1 (y.2.1).length e1):=F.y.cell 1
   have CI:=Hd ((show Calls Tryz.prog 35 #[.slice B1 (y.2.1).length e1,.int .i64 0] wc (ToL shS (remAt y.2.1 0) wc) from c_l16Remove y.2.1 B1 e1 0 wc qy1.sr hk0 (by omega)))
   have HQ:=Hd (And.intro qx1 (And.intro qx2 (And.intro qx3 (And.intro qy1 (And.intro qy2 qy3)))))
   clear qx1 qx2 qx3 qy1 qy2 qy3
   go_wp2_with (go_at_call 35;(with_reducible refine CI.out.mono ?_);rintro e w1 ⟨D4,d4,bl4,rfl,so4,nd4,u4⟩;have F1:=F.goUp (u4);have gq:w1.cell? ⟨w.heap.size+1,1,none⟩=some (.slice B1 (y.2.1).length e1):=F1.y.cell 1;have fq:=F1.y.frozen 1)
   all_goals ((try go_wp2_with fail);go_meet;exact pw_y1 (x:=(x.1,x.2.1++[key],x.2.2.1,x.2.2.2++[y.2.2.2[0]])) (y:=(y.1,y.2.1,y.2.2.1,y.2.2.2)) hg0 F HQ.out zz (u4) so4)
  clear HP
  have HP:=hcut
  clear hcut
  go_upto_region 11 with fail
  go_cut [] (fun wx=>PW g0 w wx (x.1,x.2.1++[key],x.2.2.1,x.2.2.2++[y.2.2.2[0]]) (y.1,remAt y.2.1 0,y.2.2.1,remAt y.2.2.2 0))
  case first =>
   obtain ⟨A1,c1,A2,c2,A3,c3,B1,e1,B2,e2,B3,e3,F,qx1,qx2,qx3,qy1,qy2,qy3,zz⟩:=HP
   try dsimp only at F qx1 qx2 qx3 qy1 qy2 qy3
   have gy3:wc.cell? ⟨w.heap.size+1,3,none⟩=some (.slice B3 (y.2.2.2).length e3):=F.y.cell 3
   have CI:=Hd ((show Calls Tryz.prog 69 #[.slice B3 (y.2.2.2).length e3,.int .i64 0] wc (ToL shI (remAt y.2.2.2 0) wc) from c_l16RemoveId y.2.2.2 B3 e3 0 wc qy3.sr hv0 (by omega)))
   have HQ:=Hd (And.intro qx1 (And.intro qx2 (And.intro qx3 (And.intro qy1 (And.intro qy2 qy3)))))
   clear qx1 qx2 qx3 qy1 qy2 qy3
   go_wp2_with (go_at_call 69;(with_reducible refine CI.out.mono ?_);rintro e w1 ⟨D4,d4,bl4,rfl,so4,nd4,u4⟩;have F1:=F.goUp (u4);have gq:w1.cell? ⟨w.heap.size+1,3,none⟩=some (.slice B3 (y.2.2.2).length e3):=F1.y.cell 3;have fq:=F1.y.frozen 3)
   all_goals ((try go_wp2_with fail);go_meet;exact pw_y3 (x:=(x.1,x.2.1++[key],x.2.2.1,x.2.2.2++[y.2.2.2[0]])) (y:=(y.1,remAt y.2.1 0,y.2.2.1,y.2.2.2)) hg0 F HQ.out zz (u4) so4)
  clear HP
  have HP:=hcut
  clear hcut
  go_upto_region 12 with fail
  obtain ⟨A1,c1,A2,c2,A3,c3,B1,e1,B2,e2,B3,e3,F,qx1,qx2,qx3,qy1,qy2,qy3,zz⟩:=HP
  dsimp only at F qx1 qx2 qx3 qy1 qy2 qy3
  obtain ⟨X1,hX1⟩:∃X1,X1=x.2.1++[key]:=⟨_,rfl⟩
  rw [←hX1] at F qx1
  obtain ⟨X2,hX2⟩:∃X2,X2=x.2.2.1:=⟨_,rfl⟩
  rw [←hX2] at F qx2
  obtain ⟨X3,hX3⟩:∃X3,X3=x.2.2.2++[y.2.2.2[0]]:=⟨_,rfl⟩
  rw [←hX3] at F qx3
  obtain ⟨Y1,hY1⟩:∃Y1,Y1=remAt y.2.1 0:=⟨_,rfl⟩
  rw [←hY1] at F qy1
  obtain ⟨Y2,hY2⟩:∃Y2,Y2=y.2.2.1:=⟨_,rfl⟩
  rw [←hY2] at F qy2
  obtain ⟨Y3,hY3⟩:∃Y3,Y3=remAt y.2.2.2 0:=⟨_,rfl⟩
  rw [←hY3] at F qy3
  have HQ:=Hd (And.intro qx1 (And.intro qx2 (And.intro qx3 (And.intro qy1 (And.intro qy2 qy3)))))
  have HE:=Hd (And.intro hX1 (And.intro hX2 (And.intro hX3 (And.intro hY1 (And.intro hY2 hY3)))))
  clear qx1 qx2 qx3 qy1 qy2 qy3 hX1 hX2 hX3 hY1 hY2 hY3
  go_cut [8] (fun s wx=>s=.string y.2.1[0]∧Bk wx (w.heap.size+1+1) 58 #[.bool x.1,.slice A1 X1.length c1,.slice A2 X2.length c2,.slice A3 X3.length c3]∧Bk wx (w.heap.size+1+1+1) 58 #[.bool y.1,.slice B1 Y1.length e1,.slice B2 Y2.length e2,.slice B3 Y3.length e3]∧Only (four w g0) wc wx∧Up w wx)
  case first =>
   have F1:=F
   have o0:=Only.refl (four w g0) wc
   have bt1:=But.sets (g:=w.heap.size+1+1) [.bool x.1,.slice A1 X1.length c1,.slice A2 X2.length c2,.slice A3 X3.length c3] wc 0
   have o1:=o0.but bt1 (by simp)
   have kz1:=F1.z1.setsL [.bool x.1,.slice A1 X1.length c1,.slice A2 X2.length c2,.slice A3 X3.length c3] 0
   have kx1:=F1.x.butM bt1 (by omega)
   have ky1:=F1.y.butM bt1 (by omega)
   have kz2:=F1.z2.butM bt1 (by omega)
   have bt2:=But.sets (g:=w.heap.size+1+1+1) [.bool y.1,.slice B1 Y1.length e1,.slice B2 Y2.length e2,.slice B3 Y3.length e3] ((((wc.setCell ⟨w.heap.size+1+1,0,none⟩ (.bool x.1)).setCell ⟨w.heap.size+1+1,1,none⟩ (.slice A1 X1.length c1)).setCell ⟨w.heap.size+1+1,2,none⟩ (.slice A2 X2.length c2)).setCell ⟨w.heap.size+1+1,3,none⟩ (.slice A3 X3.length c3)) 0
   have o2:=o1.but bt2 (by simp)
   have ez2:=kz2.setsL [.bool y.1,.slice B1 Y1.length e1,.slice B2 Y2.length e2,.slice B3 Y3.length e3] 0
   have ez1:=kz1.butM bt2 (by omega)
   have kx2:=kx1.butM bt2 (by omega)
   have ky2:=ky1.butM bt2 (by omega)
   have uE:=(F1.up.but bt1 (by omega)).but bt2 (by omega)
   have d0:(fun W:World=>W.cell? ⟨w.heap.size,0,none⟩=some (.bool x.1)∧W.cell? ⟨w.heap.size,1,none⟩=some (.slice A1 X1.length c1)∧W.cell? ⟨w.heap.size,2,none⟩=some (.slice A2 X2.length c2)∧W.cell? ⟨w.heap.size,3,none⟩=some (.slice A3 X3.length c3)∧W.cell? ⟨w.heap.size+1,0,none⟩=some (.bool y.1)∧W.cell? ⟨w.heap.size+1,1,none⟩=some (.slice B1 Y1.length e1)∧W.cell? ⟨w.heap.size+1,2,none⟩=some (.slice B2 Y2.length e2)∧W.cell? ⟨w.heap.size+1,3,none⟩=some (.slice B3 Y3.length e3)) wc.drew:=⟨F1.x.drew.cell 0,F1.x.drew.cell 1,F1.x.drew.cell 2,F1.x.drew.cell 3,F1.y.drew.cell 0,F1.y.drew.cell 1,F1.y.drew.cell 2,F1.y.drew.cell 3⟩
   have d1:(fun W:World=>W.cell? ⟨w.heap.size,0,none⟩=some (.bool x.1)∧W.cell? ⟨w.heap.size,1,none⟩=some (.slice A1 X1.length c1)∧W.cell? ⟨w.heap.size,2,none⟩=some (.slice A2 X2.length c2)∧W.cell? ⟨w.heap.size,3,none⟩=some (.slice A3 X3.length c3)∧W.cell? ⟨w.heap.size+1,0,none⟩=some (.bool y.1)∧W.cell? ⟨w.heap.size+1,1,none⟩=some (.slice B1 Y1.length e1)∧W.cell? ⟨w.heap.size+1,2,none⟩=some (.slice B2 Y2.length e2)∧W.cell? ⟨w.heap.size+1,3,none⟩=some (.slice B3 Y3.length e3)) ((((wc.setCell ⟨w.heap.size+1+1,0,none⟩ (.bool x.1)).setCell ⟨w.heap.size+1+1,1,none⟩ (.slice A1 X1.length c1)).setCell ⟨w.heap.size+1+1,2,none⟩ (.slice A2 X2.length c2)).setCell ⟨w.heap.size+1+1,3,none⟩ (.slice A3 X3.length c3)).drew:=⟨kx1.drew.cell 0,kx1.drew.cell 1,kx1.drew.cell 2,kx1.drew.cell 3,ky1.drew.cell 0,ky1.drew.cell 1,ky1.drew.cell 2,ky1.drew.cell 3⟩
   have d2:(fun W:World=>W.cell? ⟨w.heap.size,0,none⟩=some (.bool x.1)∧W.cell? ⟨w.heap.size,1,none⟩=some (.slice A1 X1.length c1)∧W.cell? ⟨w.heap.size,2,none⟩=some (.slice A2 X2.length c2)∧W.cell? ⟨w.heap.size,3,none⟩=some (.slice A3 X3.length c3)∧W.cell? ⟨w.heap.size+1,0,none⟩=some (.bool y.1)∧W.cell? ⟨w.heap.size+1,1,none⟩=some (.slice B1 Y1.length e1)∧W.cell? ⟨w.heap.size+1,2,none⟩=some (.slice B2 Y2.length e2)∧W.cell? ⟨w.heap.size+1,3,none⟩=some (.slice B3 Y3.length e3)) ((((((((wc.setCell ⟨w.heap.size+1+1,0,none⟩ (.bool x.1)).setCell ⟨w.heap.size+1+1,1,none⟩ (.slice A1 X1.length c1)).setCell ⟨w.heap.size+1+1,2,none⟩ (.slice A2 X2.length c2)).setCell ⟨w.heap.size+1+1,3,none⟩ (.slice A3 X3.length c3)).setCell ⟨w.heap.size+1+1+1,0,none⟩ (.bool y.1)).setCell ⟨w.heap.size+1+1+1,1,none⟩ (.slice B1 Y1.length e1)).setCell ⟨w.heap.size+1+1+1,2,none⟩ (.slice B2 Y2.length e2)).setCell ⟨w.heap.size+1+1+1,3,none⟩ (.slice B3 Y3.length e3)).drew:=⟨kx2.drew.cell 0,kx2.drew.cell 1,kx2.drew.cell 2,kx2.drew.cell 3,ky2.drew.cell 0,ky2.drew.cell 1,ky2.drew.cell 2,ky2.drew.cell 3⟩
   have pe0:wc.cell? ⟨w.heap.size+1+1,0,none⟩=some (.bool false):=F1.z1.cell 0
   have pg0:wc.frozen? ⟨w.heap.size+1+1,0,none⟩=false:=F1.z1.frozen 0
   have pe1:wc.cell? ⟨w.heap.size+1+1,1,none⟩=some (.slice none 0 0):=F1.z1.cell 1
   have pg1:wc.frozen? ⟨w.heap.size+1+1,1,none⟩=false:=F1.z1.frozen 1
   have pe2:wc.cell? ⟨w.heap.size+1+1,2,none⟩=some (.slice none 0 0):=F1.z1.cell 2
   have pg2:wc.frozen? ⟨w.heap.size+1+1,2,none⟩=false:=F1.z1.frozen 2
   have pe3:wc.cell? ⟨w.heap.size+1+1,3,none⟩=some (.slice none 0 0):=F1.z1.cell 3
   have pg3:wc.frozen? ⟨w.heap.size+1+1,3,none⟩=false:=F1.z1.frozen 3
   have qe0:wc.cell? ⟨w.heap.size+1+1+1,0,none⟩=some (.bool false):=F1.z2.cell 0
   have qg0:wc.frozen? ⟨w.heap.size+1+1+1,0,none⟩=false:=F1.z2.frozen 0
   have qe1:wc.cell? ⟨w.heap.size+1+1+1,1,none⟩=some (.slice none 0 0):=F1.z2.cell 1
   have qg1:wc.frozen? ⟨w.heap.size+1+1+1,1,none⟩=false:=F1.z2.frozen 1
   have qe2:wc.cell? ⟨w.heap.size+1+1+1,2,none⟩=some (.slice none 0 0):=F1.z2.cell 2
   have qg2:wc.frozen? ⟨w.heap.size+1+1+1,2,none⟩=false:=F1.z2.frozen 2
   have qe3:wc.cell? ⟨w.heap.size+1+1+1,3,none⟩=some (.slice none 0 0):=F1.z2.cell 3
   have qg3:wc.frozen? ⟨w.heap.size+1+1+1,3,none⟩=false:=F1.z2.frozen 3
   have E0:=Hd d0
   have E1:=Hd d1
   have E2:=Hd d2
   have EZ:=Hd (And.intro ez1 (And.intro ez2 (And.intro o2 uE)))
   clear d0 d1 d2 ez1 ez2 o2 uE F
   clear F1 kx1 ky1 kz1 kz2 kx2 ky2 bt1 bt2 o0 o1
   go_region_held3 (fun W=>W.cell? ⟨w.heap.size,0,none⟩=some (.bool x.1)∧W.cell? ⟨w.heap.size,1,none⟩=some (.slice A1 X1.length c1)∧W.cell? ⟨w.heap.size,2,none⟩=some (.slice A2 X2.length c2)∧W.cell? ⟨w.heap.size,3,none⟩=some (.slice A3 X3.length c3)∧W.cell? ⟨w.heap.size+1,0,none⟩=some (.bool y.1)∧W.cell? ⟨w.heap.size+1,1,none⟩=some (.slice B1 Y1.length e1)∧W.cell? ⟨w.heap.size+1,2,none⟩=some (.slice B2 Y2.length e2)∧W.cell? ⟨w.heap.size+1,3,none⟩=some (.slice B3 Y3.length e3))
    (with_reducible first | exact E0.out | exact E1.out | exact E2.out)
    (fail)
   all_goals (go_wp2_with fail;go_meet;obtain ⟨ez1,ez2,o2,uE⟩:=EZ.out;exact ⟨rfl,ez1.drew,ez2.drew,o2.up (Up.refl _).drew,uE.drew⟩)
  obtain ⟨rfl,rz1,rz2,ko,uE⟩:=hcut
  go_wp2_with fail
  refine bodyPost_ret (results_bkk rz1 rz2 _ _ _ _ Tryz.results67 rfl rfl rfl Tryz.underlying58 rfl (by kernel_rfl) (by kernel_rfl)) rfl ?_
  obtain ⟨qx1,qx2,qx3,qy1,qy2,qy3⟩:=HQ.out
  obtain ⟨hX1,hX2,hX3,hY1,hY2,hY3⟩:=HE.out
  have mg:g0∈four w g0:=by simp
  refine ⟨_,_,by rw [HM.out];rfl,?_,?_,uE⟩
  ·rw [HM.out]
   dsimp only
   rw [←hX1,←hX2,←hX3]
   exact PgK.of_rows (p:=(x.1,X1,X2,X3)) ((qx1.go ko).p mg) ((qx2.go ko).p mg) ((qx3.go ko).p mg)
  ·rw [HM.out]
   dsimp only
   rw [←hY1,←hY2,←hY3]
   exact PgK.of_rows (p:=(y.1,Y1,Y2,Y3)) ((qy1.go ko).p mg) ((qy2.go ko).p mg) ((qy3.go ko).p mg)
 ·have hly:y.1=true:=he▸hl
  rw [fill_leaf hly] at hr
  rw [fill_leaf hl] at hx2
  obtain ⟨hvx,hix⟩:=fx.leaf hl
  obtain ⟨hvy,hiy⟩:=fy.leaf hly
  have hk0:0<y.2.1.length:=by omega
  have hk1:1<y.2.1.length:=by omega
  have hv0:0<y.2.2.1.length:=by omega
  have HM0:=fillL_leaf (x:=x) (key:=key) hl hk0 hk1 hv0
  obtain ⟨r2,hr2⟩:∃r2,r2=y.2.1.drop 2:=⟨_,rfl⟩
  rw [←hr2] at HM0
  have HM:=Hd HM0
  clear HM0
  have HR2:=Hd hr2
  clear hr2
  have hki:(0:Int)<(y.2.1.length:Int):=by omega
  have hvi:(0:Int)<(y.2.2.1.length:Int):=by omega
  have hkm:y.2.1[0].size≤maxLen:=by
   obtain ⟨_,_,_,_,_,_,_,_,_,_,_,_,F,q1,q2,q3,q4,q5,q6,_⟩:=P0
   obtain ⟨_,_,_,_,_,_,h⟩:=q4.sr.at_S hk0
   unfold maxLen;omega
  have hvm:y.2.2.1[0].size≤maxLen:=by
   obtain ⟨_,_,_,_,_,_,_,_,_,_,_,_,F,q1,q2,q3,q4,q5,q6,_⟩:=P0
   obtain ⟨_,_,_,_,_,_,h⟩:=q5.sr.at_S hv0
   unfold maxLen;omega
  rw [hl] at hW0 gx0
  have HL:=Hd (And.intro hl (And.intro hly (And.intro hvx (And.intro hvy (And.intro hix hiy)))))
  clear he hr fx fy hl hly hvx hvy hix hiy F0
  go_enter Tryz.func67,Tryz.ntmps67
  go_upto_region 1 with fail
  rw [←hW0]
  clear hW0
  have HP:=P0
  clear P0
  go_upto_region 2 with fail
  clear gx0 gx1
  obtain ⟨wc,hwc⟩:∃wc,wc=W0:=⟨_,rfl⟩
  rw [←hwc] at HP ⊢
  clear hwc
  have hke:=hkm
  go_upto_region 2 with fail
  go_cut [] (fun wx=>PW g0 w wx (x.1,x.2.1++[y.2.1[0]],x.2.2.1,x.2.2.2) (y.1,y.2.1,y.2.2.1,y.2.2.2))
  case first =>
   obtain ⟨A1,c1,A2,c2,A3,c3,B1,e1,B2,e2,B3,e3,F,qx1,qx2,qx3,qy1,qy2,qy3,zz⟩:=HP
   try dsimp only at F qx1 qx2 qx3 qy1 qy2 qy3
   obtain ⟨ga,oa,hA,_,_,hck,hsk⟩:=qy1.sr.at_S (i:=0) hk0
   subst hA
   clear hck
   have rc:=rowG_headS qy1 hk0
   have hck:=rc _ (Only.refl _ _)
   have RC:=Hd rc
   clear rc
   have gy1:wc.cell? ⟨w.heap.size+1,1,none⟩=some (.slice (some ⟨ga,oa,none⟩) (y.2.1).length e1):=F.y.cell 1
   have gx1:wc.cell? ⟨w.heap.size,1,none⟩=some (.slice A1 (x.2.1).length c1):=F.x.cell 1
   have HSR:=Hd qx1
   have CIa:=Hd (c_l03Subs x.2.1 A1 c1 wc.drew (HSR.out.sr.up good_S (Up.refl wc).drew) (by omega))
   have CIb:=Hd (c_l03Subs x.2.1 A1 c1 (wc.drew.alloc (.cells #[.string y.2.1[0]] 9)) (HSR.out.sr.up good_S ((Up.refl wc).drew.alloc (.cells #[.string y.2.1[0]] 9))) (by omega))
   have HQ:=Hd (And.intro qx1 (And.intro qx2 (And.intro qx3 (And.intro qy1 (And.intro qy2 qy3)))))
   clear qx1 qx2 qx3 qy1 qy2 qy3
   have hb1:((x.2.1).length+[y.2.1[0]].length)*i0.bytes≤140737488355328:=by rw [hz2];simp;omega
   have hb2:(x.2.1).length+[y.2.1[0]].length≤maxLen:=by simp;unfold maxLen;omega
   have SK:∀V,Up wc V→(V.cell? ⟨w.heap.size+1,1,none⟩=some (.slice (some ⟨ga,oa,none⟩) (y.2.1).length e1)∧V.cell? ⟨ga,oa,none⟩=some (.string y.2.1[0])):=fun V u=>⟨(F.goUp u).y.cell 1,RC.out V (Only.of_up u)⟩
   have SKs:∀V v,Up wc V→((V.setCell ⟨w.heap.size,1,none⟩ v).cell? ⟨w.heap.size+1,1,none⟩=some (.slice (some ⟨ga,oa,none⟩) (y.2.1).length e1)∧(V.setCell ⟨w.heap.size,1,none⟩ v).cell? ⟨ga,oa,none⟩=some (.string y.2.1[0])):=fun V v u=>⟨((F.goUp u).setX 1 v).y.cell 1,RC.out _ ((Only.of_up u).but (But.set V w.heap.size 1 v) (by simp))⟩
   have SKH:=Hd SK
   have SKT:=Hd SKs
   clear SK SKs
   have gxb:(wc.alloc (.cells #[.string y.2.1[0]] 9)).cell? ⟨w.heap.size,1,none⟩=some (.slice A1 (x.2.1).length c1):=(F.goUp ((Up.refl wc).alloc (.cells #[.string y.2.1[0]] 9))).x.cell 1
   have CIc:=Hd (c_l03Subs x.2.1 A1 c1 ((wc.alloc (.cells #[.string y.2.1[0]] 9)).drew) (HSR.out.sr.up good_S ((Up.refl wc).alloc (.cells #[.string y.2.1[0]] 9)).drew) (by omega))
   have SKU:=Hd (fun (V:World) (u:Up wc V)=>(show V.cell? ⟨w.heap.size,1,none⟩=some (.slice A1 (x.2.1).length c1)∧V.cell? ⟨w.heap.size+1,1,none⟩=some (.slice (some ⟨ga,oa,none⟩) (y.2.1).length e1)∧V.cell? ⟨ga,oa,none⟩=some (.string y.2.1[0]) from ⟨(F.goUp u).x.cell 1,SKH.out V u⟩))
   refine wp_region_U (fun W=>W.cell? ⟨w.heap.size,1,none⟩=some (.slice A1 (x.2.1).length c1)∧W.cell? ⟨w.heap.size+1,1,none⟩=some (.slice (some ⟨ga,oa,none⟩) (y.2.1).length e1)∧W.cell? ⟨ga,oa,none⟩=some (.string y.2.1[0])) 9 (by kernel_rfl) ?_
   have hS:(fun W:World=>W.cell? ⟨w.heap.size,1,none⟩=some (.slice A1 (x.2.1).length c1)∧W.cell? ⟨w.heap.size+1,1,none⟩=some (.slice (some ⟨ga,oa,none⟩) (y.2.1).length e1)∧W.cell? ⟨ga,oa,none⟩=some (.string y.2.1[0])) wc.drew:=SKU.out _ (Up.refl wc).drew
   try simp only [Act.put,sI,sZ,sS]
   refine tP 0 rfl (fun _ _ _ h=>h) hS ?_
   refine tL 1 rfl (fun _ _ _ h=>h) hS ?_
   refine tP 3 rfl (fun _ _ _ h=>h) hS ?_
   refine tL 4 rfl (fun _ _ _ h=>h) hS ?_
   refine tP 5 rfl (fun _ _ _ h=>h) hS ?_
   refine tL 6 rfl (fun _ _ _ h=>h) hS ?_
   refine rU [2,7] ?_
   refine AllReadyU.cons rfl (fun K hK=>?_) ?_
   ·go_simp
    refine (c_l03Subs x.2.1 A1 c1 wc.drew (HSR.out.sr.up good_S ((Up.refl wc).drew)) (by omega)).mono ?_
    rintro e w1 ⟨D4,d4,bl4,rfl,so4,nd4,u4⟩
    have uC:Up wc w1:=((Up.refl wc).drew).trans u4
    have so0:SO shS w1 wc.heap.size w1.heap.size D4 d4 x.2.1 bl4:=so4
    clear so4
    go_wp2_with fail
    refine hK.out _ _ (SKU.out _ uC) (fun hS=>?_)
    clear hK K
    try simp only [Act.put,sI,sZ,sS]
    refine rU [7] ?_
    refine AllReadyU.cons rfl (fun K hK=>?_) AllReadyU.nil
    go_simp
    have kB:Bk (w1.alloc (.cells #[.string y.2.1[0]] 9)) (w1.heap.size) 9 #[.string y.2.1[0]]:=Bk.new w1 9 #[.string y.2.1[0]]
    replace so0:=so0.up good_S ((Up.refl w1).alloc (.cells #[.string y.2.1[0]] 9))
    replace uC:=uC.alloc (.cells #[.string y.2.1[0]] 9)
    refine hK.out _ _ (SKU.out _ uC) (fun hS=>?_)
    clear hK K
    try simp only [Act.put,sI,sZ,sS]
    refine rU [8] ?_
    refine AllReadyU.cons rfl (fun K hK=>?_) AllReadyU.nil
    refine step_app good_S rfl _ _ _ _ 9 rfl i0 _ Tryz.underlying52 hi0 hz0 hz1 (by rfl) (lo:=wc.heap.size) (xs:=x.2.1) (ys:=[y.2.1[0]]) (bl:=bl4) (bs:=[[]]) (news:=[.string y.2.1[0]]) rfl rfl so0 (by simpa using nd4) (Src.box (t:=9) (cs:=[.string y.2.1[0]]) Tryz.underlying52 kB (by simp [Value.oneCell']) (by rw [hz1];rfl)) (Rowed.one good_S (show shS.own _ _ _ [.string y.2.1[0]] (y.2.1[0]) [] from ⟨⟨rfl,hke⟩,rfl⟩)) uC.size hb1 hb2 ?_
    intro D5 d5 bl5 w5 hap
    obtain ⟨so5,nd5,mem5,on5⟩:=hap
    have u5:Up wc w5:=Up.only uC on5 (fun b hb=>(so0.in_ good_S b hb).1)
    have F5:=F.goUp u5
    have gq:w5.cell? ⟨w.heap.size,1,none⟩=some (.slice A1 (x.2.1).length c1):=F5.x.cell 1
    have fq:=F5.x.frozen 1
    refine hK.out _ _ (SKU.out _ u5) (fun hS=>?_)
    clear hK K
    try simp only [Act.put,sI,sZ,sS]
    refine wpAnyU_line 1 (by as_aux_lemma=>kernel_rfl) rfl (by decide) ?_
    simp only [List.drop_succ_cons,List.drop_zero]
    go_wp2_with fail
    go_meet
    have key:∀n,n=(x.2.1++[y.2.1[0]]).length→PW g0 w (w5.setCell ⟨w.heap.size,1,none⟩ (.slice D5 n d5)) (x.1,x.2.1++[y.2.1[0]],x.2.2.1,x.2.2.2) (y.1,y.2.1,y.2.2.1,y.2.2.2):=(fun n hn=>by rw [hn];exact pw_x1 (x:=(x.1,x.2.1,x.2.2.1,x.2.2.2)) (y:=(y.1,y.2.1,y.2.2.1,y.2.2.2)) hg0 F HQ.out zz u5 so5)
    exact key _ (by simp)
   refine AllReadyU.cons rfl (fun K hK=>?_) AllReadyU.nil
   go_simp
   have kB:Bk (wc.drew.alloc (.cells #[.string y.2.1[0]] 9)) (wc.heap.size) 9 #[.string y.2.1[0]]:=Bk.new wc.drew 9 #[.string y.2.1[0]]
   have uA:Up wc (wc.drew.alloc (.cells #[.string y.2.1[0]] 9)):=(Up.refl wc).drew.alloc (.cells #[.string y.2.1[0]] 9)
   refine hK.out _ _ (SKU.out _ uA) (fun hS=>?_)
   clear hK K
   try simp only [Act.put,sI,sZ,sS]
   refine rU [2] ?_
   refine AllReadyU.cons rfl (fun K hK=>?_) AllReadyU.nil
   go_simp
   refine (c_l03Subs x.2.1 A1 c1 (wc.drew.alloc (.cells #[.string y.2.1[0]] 9)) (HSR.out.sr.up good_S (uA)) (by omega)).mono ?_
   rintro e w1 ⟨D4,d4,bl4,rfl,so4,nd4,u4⟩
   have uC:Up wc w1:=(uA).trans u4
   have so0:SO shS w1 wc.heap.size w1.heap.size D4 d4 x.2.1 bl4:=so4.wide good_S (show wc.heap.size≤(wc.drew.alloc (.cells #[.string y.2.1[0]] 9)).heap.size from ((Up.refl wc).drew.alloc _).size) (Nat.le_refl _)
   replace kB:=kB.up u4
   clear so4
   go_wp2_with fail
   refine hK.out _ _ (SKU.out _ uC) (fun hS=>?_)
   clear hK K
   try simp only [Act.put,sI,sZ,sS]
   refine rU [8] ?_
   refine AllReadyU.cons rfl (fun K hK=>?_) AllReadyU.nil
   refine step_app good_S rfl _ _ _ _ 9 rfl i0 _ Tryz.underlying52 hi0 hz0 hz1 (by rfl) (lo:=wc.heap.size) (xs:=x.2.1) (ys:=[y.2.1[0]]) (bl:=bl4) (bs:=[[]]) (news:=[.string y.2.1[0]]) rfl rfl so0 (by simpa using nd4) (Src.box (t:=9) (cs:=[.string y.2.1[0]]) Tryz.underlying52 kB (by simp [Value.oneCell']) (by rw [hz1];rfl)) (Rowed.one good_S (show shS.own _ _ _ [.string y.2.1[0]] (y.2.1[0]) [] from ⟨⟨rfl,hke⟩,rfl⟩)) uC.size hb1 hb2 ?_
   intro D5 d5 bl5 w5 hap
   obtain ⟨so5,nd5,mem5,on5⟩:=hap
   have u5:Up wc w5:=Up.only uC on5 (fun b hb=>(so0.in_ good_S b hb).1)
   have F5:=F.goUp u5
   have gq:w5.cell? ⟨w.heap.size,1,none⟩=some (.slice A1 (x.2.1).length c1):=F5.x.cell 1
   have fq:=F5.x.frozen 1
   refine hK.out _ _ (SKU.out _ u5) (fun hS=>?_)
   clear hK K
   try simp only [Act.put,sI,sZ,sS]
   refine wpAnyU_line 1 (by as_aux_lemma=>kernel_rfl) rfl (by decide) ?_
   simp only [List.drop_succ_cons,List.drop_zero]
   go_wp2_with fail
   go_meet
   have key:∀n,n=(x.2.1++[y.2.1[0]]).length→PW g0 w (w5.setCell ⟨w.heap.size,1,none⟩ (.slice D5 n d5)) (x.1,x.2.1++[y.2.1[0]],x.2.2.1,x.2.2.2) (y.1,y.2.1,y.2.2.1,y.2.2.2):=(fun n hn=>by rw [hn];exact pw_x1 (x:=(x.1,x.2.1,x.2.2.1,x.2.2.2)) (y:=(y.1,y.2.1,y.2.2.1,y.2.2.2)) hg0 F HQ.out zz u5 so5)
   exact key _ (by simp)
  clear HP
  have HP:=hcut
  clear hcut
  clear hke
  have hke:=hvm
  go_upto_region 3 with fail
  go_cut [] (fun wx=>PW g0 w wx (x.1,x.2.1++[y.2.1[0]],x.2.2.1++[y.2.2.1[0]],x.2.2.2) (y.1,y.2.1,y.2.2.1,y.2.2.2))
  case first =>
   obtain ⟨A1,c1,A2,c2,A3,c3,B1,e1,B2,e2,B3,e3,F,qx1,qx2,qx3,qy1,qy2,qy3,zz⟩:=HP
   try dsimp only at F qx1 qx2 qx3 qy1 qy2 qy3
   obtain ⟨ga,oa,hA,_,_,hck,hsk⟩:=qy2.sr.at_S (i:=0) hv0
   subst hA
   clear hck
   have rc:=rowG_headS qy2 hv0
   have hck:=rc _ (Only.refl _ _)
   have RC:=Hd rc
   clear rc
   have gy2:wc.cell? ⟨w.heap.size+1,2,none⟩=some (.slice (some ⟨ga,oa,none⟩) (y.2.2.1).length e2):=F.y.cell 2
   have gx2:wc.cell? ⟨w.heap.size,2,none⟩=some (.slice A2 (x.2.2.1).length c2):=F.x.cell 2
   have HSR:=Hd qx2
   have CIa:=Hd (c_l03Subs x.2.2.1 A2 c2 wc.drew (HSR.out.sr.up good_S (Up.refl wc).drew) (by omega))
   have CIb:=Hd (c_l03Subs x.2.2.1 A2 c2 (wc.drew.alloc (.cells #[.string y.2.2.1[0]] 9)) (HSR.out.sr.up good_S ((Up.refl wc).drew.alloc (.cells #[.string y.2.2.1[0]] 9))) (by omega))
   have HQ:=Hd (And.intro qx1 (And.intro qx2 (And.intro qx3 (And.intro qy1 (And.intro qy2 qy3)))))
   clear qx1 qx2 qx3 qy1 qy2 qy3
   have hb1:((x.2.2.1).length+[y.2.2.1[0]].length)*i0.bytes≤140737488355328:=by rw [hz2];simp;omega
   have hb2:(x.2.2.1).length+[y.2.2.1[0]].length≤maxLen:=by simp;unfold maxLen;omega
   have SK:∀V,Up wc V→(V.cell? ⟨w.heap.size+1,2,none⟩=some (.slice (some ⟨ga,oa,none⟩) (y.2.2.1).length e2)∧V.cell? ⟨ga,oa,none⟩=some (.string y.2.2.1[0])):=fun V u=>⟨(F.goUp u).y.cell 2,RC.out V (Only.of_up u)⟩
   have SKs:∀V v,Up wc V→((V.setCell ⟨w.heap.size,2,none⟩ v).cell? ⟨w.heap.size+1,2,none⟩=some (.slice (some ⟨ga,oa,none⟩) (y.2.2.1).length e2)∧(V.setCell ⟨w.heap.size,2,none⟩ v).cell? ⟨ga,oa,none⟩=some (.string y.2.2.1[0])):=fun V v u=>⟨((F.goUp u).setX 2 v).y.cell 2,RC.out _ ((Only.of_up u).but (But.set V w.heap.size 2 v) (by simp))⟩
   have SKH:=Hd SK
   have SKT:=Hd SKs
   clear SK SKs
   have gxb:(wc.alloc (.cells #[.string y.2.2.1[0]] 9)).cell? ⟨w.heap.size,2,none⟩=some (.slice A2 (x.2.2.1).length c2):=(F.goUp ((Up.refl wc).alloc (.cells #[.string y.2.2.1[0]] 9))).x.cell 2
   have CIc:=Hd (c_l03Subs x.2.2.1 A2 c2 ((wc.alloc (.cells #[.string y.2.2.1[0]] 9)).drew) (HSR.out.sr.up good_S ((Up.refl wc).alloc (.cells #[.string y.2.2.1[0]] 9)).drew) (by omega))
   have SKU:=Hd (fun (V:World) (u:Up wc V)=>(show V.cell? ⟨w.heap.size,2,none⟩=some (.slice A2 (x.2.2.1).length c2)∧V.cell? ⟨w.heap.size+1,2,none⟩=some (.slice (some ⟨ga,oa,none⟩) (y.2.2.1).length e2)∧V.cell? ⟨ga,oa,none⟩=some (.string y.2.2.1[0]) from ⟨(F.goUp u).x.cell 2,SKH.out V u⟩))
   refine wp_region_U (fun W=>W.cell? ⟨w.heap.size,2,none⟩=some (.slice A2 (x.2.2.1).length c2)∧W.cell? ⟨w.heap.size+1,2,none⟩=some (.slice (some ⟨ga,oa,none⟩) (y.2.2.1).length e2)∧W.cell? ⟨ga,oa,none⟩=some (.string y.2.2.1[0])) 9 (by kernel_rfl) ?_
   have hS:(fun W:World=>W.cell? ⟨w.heap.size,2,none⟩=some (.slice A2 (x.2.2.1).length c2)∧W.cell? ⟨w.heap.size+1,2,none⟩=some (.slice (some ⟨ga,oa,none⟩) (y.2.2.1).length e2)∧W.cell? ⟨ga,oa,none⟩=some (.string y.2.2.1[0])) wc.drew:=SKU.out _ (Up.refl wc).drew
   try simp only [Act.put,sI,sZ,sS]
   refine tP 0 rfl (fun _ _ _ h=>h) hS ?_
   refine tL 1 rfl (fun _ _ _ h=>h) hS ?_
   refine tP 3 rfl (fun _ _ _ h=>h) hS ?_
   refine tL 4 rfl (fun _ _ _ h=>h) hS ?_
   refine tP 5 rfl (fun _ _ _ h=>h) hS ?_
   refine tL 6 rfl (fun _ _ _ h=>h) hS ?_
   refine rU [2,7] ?_
   refine AllReadyU.cons rfl (fun K hK=>?_) ?_
   ·go_simp
    refine (c_l03Subs x.2.2.1 A2 c2 wc.drew (HSR.out.sr.up good_S ((Up.refl wc).drew)) (by omega)).mono ?_
    rintro e w1 ⟨D4,d4,bl4,rfl,so4,nd4,u4⟩
    have uC:Up wc w1:=((Up.refl wc).drew).trans u4
    have so0:SO shS w1 wc.heap.size w1.heap.size D4 d4 x.2.2.1 bl4:=so4
    clear so4
    go_wp2_with fail
    refine hK.out _ _ (SKU.out _ uC) (fun hS=>?_)
    clear hK K
    try simp only [Act.put,sI,sZ,sS]
    refine rU [7] ?_
    refine AllReadyU.cons rfl (fun K hK=>?_) AllReadyU.nil
    go_simp
    have kB:Bk (w1.alloc (.cells #[.string y.2.2.1[0]] 9)) (w1.heap.size) 9 #[.string y.2.2.1[0]]:=Bk.new w1 9 #[.string y.2.2.1[0]]
    replace so0:=so0.up good_S ((Up.refl w1).alloc (.cells #[.string y.2.2.1[0]] 9))
    replace uC:=uC.alloc (.cells #[.string y.2.2.1[0]] 9)
    refine hK.out _ _ (SKU.out _ uC) (fun hS=>?_)
    clear hK K
    try simp only [Act.put,sI,sZ,sS]
    refine rU [8] ?_
    refine AllReadyU.cons rfl (fun K hK=>?_) AllReadyU.nil
    refine step_app good_S rfl _ _ _ _ 9 rfl i0 _ Tryz.underlying52 hi0 hz0 hz1 (by rfl) (lo:=wc.heap.size) (xs:=x.2.2.1) (ys:=[y.2.2.1[0]]) (bl:=bl4) (bs:=[[]]) (news:=[.string y.2.2.1[0]]) rfl rfl so0 (by simpa using nd4) (Src.box (t:=9) (cs:=[.string y.2.2.1[0]]) Tryz.underlying52 kB (by simp [Value.oneCell']) (by rw [hz1];rfl)) (Rowed.one good_S (show shS.own _ _ _ [.string y.2.2.1[0]] (y.2.2.1[0]) [] from ⟨⟨rfl,hke⟩,rfl⟩)) uC.size hb1 hb2 ?_
    intro D5 d5 bl5 w5 hap
    obtain ⟨so5,nd5,mem5,on5⟩:=hap
    have u5:Up wc w5:=Up.only uC on5 (fun b hb=>(so0.in_ good_S b hb).1)
    have F5:=F.goUp u5
    have gq:w5.cell? ⟨w.heap.size,2,none⟩=some (.slice A2 (x.2.2.1).length c2):=F5.x.cell 2
    have fq:=F5.x.frozen 2
    refine hK.out _ _ (SKU.out _ u5) (fun hS=>?_)
    clear hK K
    try simp only [Act.put,sI,sZ,sS]
    refine wpAnyU_line 1 (by as_aux_lemma=>kernel_rfl) rfl (by decide) ?_
    simp only [List.drop_succ_cons,List.drop_zero]
    go_wp2_with fail
    go_meet
    have key:∀n,n=(x.2.2.1++[y.2.2.1[0]]).length→PW g0 w (w5.setCell ⟨w.heap.size,2,none⟩ (.slice D5 n d5)) (x.1,x.2.1++[y.2.1[0]],x.2.2.1++[y.2.2.1[0]],x.2.2.2) (y.1,y.2.1,y.2.2.1,y.2.2.2):=(fun n hn=>by rw [hn];exact pw_x2 (x:=(x.1,x.2.1++[y.2.1[0]],x.2.2.1,x.2.2.2)) (y:=(y.1,y.2.1,y.2.2.1,y.2.2.2)) hg0 F HQ.out zz u5 so5)
    exact key _ (by simp)
   refine AllReadyU.cons rfl (fun K hK=>?_) AllReadyU.nil
   go_simp
   have kB:Bk (wc.drew.alloc (.cells #[.string y.2.2.1[0]] 9)) (wc.heap.size) 9 #[.string y.2.2.1[0]]:=Bk.new wc.drew 9 #[.string y.2.2.1[0]]
   have uA:Up wc (wc.drew.alloc (.cells #[.string y.2.2.1[0]] 9)):=(Up.refl wc).drew.alloc (.cells #[.string y.2.2.1[0]] 9)
   refine hK.out _ _ (SKU.out _ uA) (fun hS=>?_)
   clear hK K
   try simp only [Act.put,sI,sZ,sS]
   refine rU [2] ?_
   refine AllReadyU.cons rfl (fun K hK=>?_) AllReadyU.nil
   go_simp
   refine (c_l03Subs x.2.2.1 A2 c2 (wc.drew.alloc (.cells #[.string y.2.2.1[0]] 9)) (HSR.out.sr.up good_S (uA)) (by omega)).mono ?_
   rintro e w1 ⟨D4,d4,bl4,rfl,so4,nd4,u4⟩
   have uC:Up wc w1:=(uA).trans u4
   have so0:SO shS w1 wc.heap.size w1.heap.size D4 d4 x.2.2.1 bl4:=so4.wide good_S (show wc.heap.size≤(wc.drew.alloc (.cells #[.string y.2.2.1[0]] 9)).heap.size from ((Up.refl wc).drew.alloc _).size) (Nat.le_refl _)
   replace kB:=kB.up u4
   clear so4
   go_wp2_with fail
   refine hK.out _ _ (SKU.out _ uC) (fun hS=>?_)
   clear hK K
   try simp only [Act.put,sI,sZ,sS]
   refine rU [8] ?_
   refine AllReadyU.cons rfl (fun K hK=>?_) AllReadyU.nil
   refine step_app good_S rfl _ _ _ _ 9 rfl i0 _ Tryz.underlying52 hi0 hz0 hz1 (by rfl) (lo:=wc.heap.size) (xs:=x.2.2.1) (ys:=[y.2.2.1[0]]) (bl:=bl4) (bs:=[[]]) (news:=[.string y.2.2.1[0]]) rfl rfl so0 (by simpa using nd4) (Src.box (t:=9) (cs:=[.string y.2.2.1[0]]) Tryz.underlying52 kB (by simp [Value.oneCell']) (by rw [hz1];rfl)) (Rowed.one good_S (show shS.own _ _ _ [.string y.2.2.1[0]] (y.2.2.1[0]) [] from ⟨⟨rfl,hke⟩,rfl⟩)) uC.size hb1 hb2 ?_
   intro D5 d5 bl5 w5 hap
   obtain ⟨so5,nd5,mem5,on5⟩:=hap
   have u5:Up wc w5:=Up.only uC on5 (fun b hb=>(so0.in_ good_S b hb).1)
   have F5:=F.goUp u5
   have gq:w5.cell? ⟨w.heap.size,2,none⟩=some (.slice A2 (x.2.2.1).length c2):=F5.x.cell 2
   have fq:=F5.x.frozen 2
   refine hK.out _ _ (SKU.out _ u5) (fun hS=>?_)
   clear hK K
   try simp only [Act.put,sI,sZ,sS]
   refine wpAnyU_line 1 (by as_aux_lemma=>kernel_rfl) rfl (by decide) ?_
   simp only [List.drop_succ_cons,List.drop_zero]
   go_wp2_with fail
   go_meet
   have key:∀n,n=(x.2.2.1++[y.2.2.1[0]]).length→PW g0 w (w5.setCell ⟨w.heap.size,2,none⟩ (.slice D5 n d5)) (x.1,x.2.1++[y.2.1[0]],x.2.2.1++[y.2.2.1[0]],x.2.2.2) (y.1,y.2.1,y.2.2.1,y.2.2.2):=(fun n hn=>by rw [hn];exact pw_x2 (x:=(x.1,x.2.1++[y.2.1[0]],x.2.2.1,x.2.2.2)) (y:=(y.1,y.2.1,y.2.2.1,y.2.2.2)) hg0 F HQ.out zz u5 so5)
   exact key _ (by simp)
  clear HP
  have HP:=hcut
  clear hcut
  go_upto_region 4 with fail
  go_cut [] (fun wx=>PW g0 w wx (x.1,x.2.1++[y.2.1[0]],x.2.2.1++[y.2.2.1[0]],x.2.2.2) (y.1,y.2.1[1]::r2,y.2.2.1,y.2.2.2))
  case first =>
   obtain ⟨A1,c1,A2,c2,A3,c3,B1,e1,B2,e2,B3,e3,F,qx1,qx2,qx3,qy1,qy2,qy3,zz⟩:=HP
   try dsimp only at F qx1 qx2 qx3 qy1 qy2 qy3
   have gy1:wc.cell? ⟨w.heap.size+1,1,none⟩=some (.slice B1 (y.2.1).length e1):=F.y.cell 1
   have CI:=Hd ((show Calls Tryz.prog 35 #[.slice B1 y.2.1.length e1,.int .i64 0] wc (ToL shS (y.2.1[1]::r2) wc) from by rw [HR2.out,←drop_oneW hk1];exact c_l16Remove y.2.1 B1 e1 0 wc qy1.sr hk0 (by omega)))
   have HQ:=Hd (And.intro qx1 (And.intro qx2 (And.intro qx3 (And.intro qy1 (And.intro qy2 qy3)))))
   clear qx1 qx2 qx3 qy1 qy2 qy3
   go_wp2_with (go_at_call 35;(with_reducible refine CI.out.mono ?_);rintro e w1 ⟨D4,d4,bl4,rfl,so4,nd4,u4⟩;have F1:=F.goUp (u4);have gq:w1.cell? ⟨w.heap.size+1,1,none⟩=some (.slice B1 (y.2.1).length e1):=F1.y.cell 1;have fq:=F1.y.frozen 1)
   all_goals ((try go_wp2_with fail);go_meet;exact pw_y1 (x:=(x.1,x.2.1++[y.2.1[0]],x.2.2.1++[y.2.2.1[0]],x.2.2.2)) (y:=(y.1,y.2.1,y.2.2.1,y.2.2.2)) hg0 F HQ.out zz (u4) so4)
  clear HP
  have HP:=hcut
  clear hcut
  go_upto_region 5 with fail
  go_cut [] (fun wx=>PW g0 w wx (x.1,x.2.1++[y.2.1[0]],x.2.2.1++[y.2.2.1[0]],x.2.2.2) (y.1,y.2.1[1]::r2,remAt y.2.2.1 0,y.2.2.2))
  case first =>
   obtain ⟨A1,c1,A2,c2,A3,c3,B1,e1,B2,e2,B3,e3,F,qx1,qx2,qx3,qy1,qy2,qy3,zz⟩:=HP
   try dsimp only at F qx1 qx2 qx3 qy1 qy2 qy3
   have gy2:wc.cell? ⟨w.heap.size+1,2,none⟩=some (.slice B2 (y.2.2.1).length e2):=F.y.cell 2
   have CI:=Hd ((show Calls Tryz.prog 35 #[.slice B2 (y.2.2.1).length e2,.int .i64 0] wc (ToL shS (remAt y.2.2.1 0) wc) from c_l16Remove y.2.2.1 B2 e2 0 wc qy2.sr hv0 (by omega)))
   have HQ:=Hd (And.intro qx1 (And.intro qx2 (And.intro qx3 (And.intro qy1 (And.intro qy2 qy3)))))
   clear qx1 qx2 qx3 qy1 qy2 qy3
   go_wp2_with (go_at_call 35;(with_reducible refine CI.out.mono ?_);rintro e w1 ⟨D4,d4,bl4,rfl,so4,nd4,u4⟩;have F1:=F.goUp (u4);have gq:w1.cell? ⟨w.heap.size+1,2,none⟩=some (.slice B2 (y.2.2.1).length e2):=F1.y.cell 2;have fq:=F1.y.frozen 2)
   all_goals ((try go_wp2_with fail);go_meet;exact pw_y2 (x:=(x.1,x.2.1++[y.2.1[0]],x.2.2.1++[y.2.2.1[0]],x.2.2.2)) (y:=(y.1,y.2.1[1]::r2,y.2.2.1,y.2.2.2)) hg0 F HQ.out zz (u4) so4)
  clear HP
  have HP:=hcut
  clear hcut
  go_upto_region 6 with fail
  obtain ⟨A1,c1,A2,c2,A3,c3,B1,e1,B2,e2,B3,e3,F,qx1,qx2,qx3,qy1,qy2,qy3,zz⟩:=HP
  dsimp only at F qx1 qx2 qx3 qy1 qy2 qy3
  obtain ⟨gb,ob,hB,_,_,_,_⟩:=qy1.sr.at_S (i:=0) (Nat.succ_pos _)
  subst hB
  have rc:=qy1.cell0
  have hy1p:0<(y.2.1[1]::r2).length:=Nat.succ_pos _
  obtain ⟨X1,hX1⟩:∃X1,X1=x.2.1++[y.2.1[0]]:=⟨_,rfl⟩
  rw [←hX1] at F qx1
  obtain ⟨X2,hX2⟩:∃X2,X2=x.2.2.1++[y.2.2.1[0]]:=⟨_,rfl⟩
  rw [←hX2] at F qx2
  obtain ⟨X3,hX3⟩:∃X3,X3=x.2.2.2:=⟨_,rfl⟩
  rw [←hX3] at F qx3
  obtain ⟨Y1,hY1⟩:∃Y1,Y1=y.2.1[1]::r2:=⟨_,rfl⟩
  rw [←hY1] at F qy1 hy1p
  obtain ⟨Y2,hY2⟩:∃Y2,Y2=remAt y.2.2.1 0:=⟨_,rfl⟩
  rw [←hY2] at F qy2
  obtain ⟨Y3,hY3⟩:∃Y3,Y3=y.2.2.2:=⟨_,rfl⟩
  rw [←hY3] at F qy3
  have hy1i:(0:Int)<(Y1.length:Int):=by omega
  have HQ:=Hd (And.intro qx1 (And.intro qx2 (And.intro qx3 (And.intro qy1 (And.intro qy2 qy3)))))
  have HE:=Hd (And.intro hX1 (And.intro hX2 (And.intro hX3 (And.intro hY1 (And.intro hY2 hY3)))))
  clear qx1 qx2 qx3 qy1 qy2 qy3 hX1 hX2 hX3 hY1 hY2 hY3
  go_cut [8] (fun s wx=>s=.string y.2.1[1]∧Bk wx (w.heap.size+1+1) 58 #[.bool x.1,.slice A1 X1.length c1,.slice A2 X2.length c2,.slice A3 X3.length c3]∧Bk wx (w.heap.size+1+1+1) 58 #[.bool y.1,.slice (some ⟨gb,ob,none⟩) Y1.length e1,.slice B2 Y2.length e2,.slice B3 Y3.length e3]∧Only (four w g0) wc wx∧Up w wx)
  case first =>
   have F1:=F
   have o0:=Only.refl (four w g0) wc
   have bt1:=But.sets (g:=w.heap.size+1+1) [.bool x.1,.slice A1 X1.length c1,.slice A2 X2.length c2,.slice A3 X3.length c3] wc 0
   have o1:=o0.but bt1 (by simp)
   have kz1:=F1.z1.setsL [.bool x.1,.slice A1 X1.length c1,.slice A2 X2.length c2,.slice A3 X3.length c3] 0
   have kx1:=F1.x.butM bt1 (by omega)
   have ky1:=F1.y.butM bt1 (by omega)
   have kz2:=F1.z2.butM bt1 (by omega)
   have bt2:=But.sets (g:=w.heap.size+1+1+1) [.bool y.1,.slice (some ⟨gb,ob,none⟩) Y1.length e1,.slice B2 Y2.length e2,.slice B3 Y3.length e3] ((((wc.setCell ⟨w.heap.size+1+1,0,none⟩ (.bool x.1)).setCell ⟨w.heap.size+1+1,1,none⟩ (.slice A1 X1.length c1)).setCell ⟨w.heap.size+1+1,2,none⟩ (.slice A2 X2.length c2)).setCell ⟨w.heap.size+1+1,3,none⟩ (.slice A3 X3.length c3)) 0
   have o2:=o1.but bt2 (by simp)
   have ez2:=kz2.setsL [.bool y.1,.slice (some ⟨gb,ob,none⟩) Y1.length e1,.slice B2 Y2.length e2,.slice B3 Y3.length e3] 0
   have ez1:=kz1.butM bt2 (by omega)
   have kx2:=kx1.butM bt2 (by omega)
   have ky2:=ky1.butM bt2 (by omega)
   have uE:=(F1.up.but bt1 (by omega)).but bt2 (by omega)
   have d0:(fun W:World=>W.cell? ⟨w.heap.size,0,none⟩=some (.bool x.1)∧W.cell? ⟨w.heap.size,1,none⟩=some (.slice A1 X1.length c1)∧W.cell? ⟨w.heap.size,2,none⟩=some (.slice A2 X2.length c2)∧W.cell? ⟨w.heap.size,3,none⟩=some (.slice A3 X3.length c3)∧W.cell? ⟨w.heap.size+1,0,none⟩=some (.bool y.1)∧W.cell? ⟨w.heap.size+1,1,none⟩=some (.slice (some ⟨gb,ob,none⟩) Y1.length e1)∧W.cell? ⟨w.heap.size+1,2,none⟩=some (.slice B2 Y2.length e2)∧W.cell? ⟨w.heap.size+1,3,none⟩=some (.slice B3 Y3.length e3)∧W.cell? ⟨gb,ob,none⟩=some (.string y.2.1[1])) wc.drew:=⟨F1.x.drew.cell 0,F1.x.drew.cell 1,F1.x.drew.cell 2,F1.x.drew.cell 3,F1.y.drew.cell 0,F1.y.drew.cell 1,F1.y.drew.cell 2,F1.y.drew.cell 3,rc _ (o0.up (Up.refl _).drew)⟩
   have d1:(fun W:World=>W.cell? ⟨w.heap.size,0,none⟩=some (.bool x.1)∧W.cell? ⟨w.heap.size,1,none⟩=some (.slice A1 X1.length c1)∧W.cell? ⟨w.heap.size,2,none⟩=some (.slice A2 X2.length c2)∧W.cell? ⟨w.heap.size,3,none⟩=some (.slice A3 X3.length c3)∧W.cell? ⟨w.heap.size+1,0,none⟩=some (.bool y.1)∧W.cell? ⟨w.heap.size+1,1,none⟩=some (.slice (some ⟨gb,ob,none⟩) Y1.length e1)∧W.cell? ⟨w.heap.size+1,2,none⟩=some (.slice B2 Y2.length e2)∧W.cell? ⟨w.heap.size+1,3,none⟩=some (.slice B3 Y3.length e3)∧W.cell? ⟨gb,ob,none⟩=some (.string y.2.1[1])) ((((wc.setCell ⟨w.heap.size+1+1,0,none⟩ (.bool x.1)).setCell ⟨w.heap.size+1+1,1,none⟩ (.slice A1 X1.length c1)).setCell ⟨w.heap.size+1+1,2,none⟩ (.slice A2 X2.length c2)).setCell ⟨w.heap.size+1+1,3,none⟩ (.slice A3 X3.length c3)).drew:=⟨kx1.drew.cell 0,kx1.drew.cell 1,kx1.drew.cell 2,kx1.drew.cell 3,ky1.drew.cell 0,ky1.drew.cell 1,ky1.drew.cell 2,ky1.drew.cell 3,rc _ (o1.up (Up.refl _).drew)⟩
   have d2:(fun W:World=>W.cell? ⟨w.heap.size,0,none⟩=some (.bool x.1)∧W.cell? ⟨w.heap.size,1,none⟩=some (.slice A1 X1.length c1)∧W.cell? ⟨w.heap.size,2,none⟩=some (.slice A2 X2.length c2)∧W.cell? ⟨w.heap.size,3,none⟩=some (.slice A3 X3.length c3)∧W.cell? ⟨w.heap.size+1,0,none⟩=some (.bool y.1)∧W.cell? ⟨w.heap.size+1,1,none⟩=some (.slice (some ⟨gb,ob,none⟩) Y1.length e1)∧W.cell? ⟨w.heap.size+1,2,none⟩=some (.slice B2 Y2.length e2)∧W.cell? ⟨w.heap.size+1,3,none⟩=some (.slice B3 Y3.length e3)∧W.cell? ⟨gb,ob,none⟩=some (.string y.2.1[1])) ((((((((wc.setCell ⟨w.heap.size+1+1,0,none⟩ (.bool x.1)).setCell ⟨w.heap.size+1+1,1,none⟩ (.slice A1 X1.length c1)).setCell ⟨w.heap.size+1+1,2,none⟩ (.slice A2 X2.length c2)).setCell ⟨w.heap.size+1+1,3,none⟩ (.slice A3 X3.length c3)).setCell ⟨w.heap.size+1+1+1,0,none⟩ (.bool y.1)).setCell ⟨w.heap.size+1+1+1,1,none⟩ (.slice (some ⟨gb,ob,none⟩) Y1.length e1)).setCell ⟨w.heap.size+1+1+1,2,none⟩ (.slice B2 Y2.length e2)).setCell ⟨w.heap.size+1+1+1,3,none⟩ (.slice B3 Y3.length e3)).drew:=⟨kx2.drew.cell 0,kx2.drew.cell 1,kx2.drew.cell 2,kx2.drew.cell 3,ky2.drew.cell 0,ky2.drew.cell 1,ky2.drew.cell 2,ky2.drew.cell 3,rc _ (o2.up (Up.refl _).drew)⟩
   have pe0:wc.cell? ⟨w.heap.size+1+1,0,none⟩=some (.bool false):=F1.z1.cell 0
   have pg0:wc.frozen? ⟨w.heap.size+1+1,0,none⟩=false:=F1.z1.frozen 0
   have pe1:wc.cell? ⟨w.heap.size+1+1,1,none⟩=some (.slice none 0 0):=F1.z1.cell 1
   have pg1:wc.frozen? ⟨w.heap.size+1+1,1,none⟩=false:=F1.z1.frozen 1
   have pe2:wc.cell? ⟨w.heap.size+1+1,2,none⟩=some (.slice none 0 0):=F1.z1.cell 2
   have pg2:wc.frozen? ⟨w.heap.size+1+1,2,none⟩=false:=F1.z1.frozen 2
   have pe3:wc.cell? ⟨w.heap.size+1+1,3,none⟩=some (.slice none 0 0):=F1.z1.cell 3
   have pg3:wc.frozen? ⟨w.heap.size+1+1,3,none⟩=false:=F1.z1.frozen 3
   have qe0:wc.cell? ⟨w.heap.size+1+1+1,0,none⟩=some (.bool false):=F1.z2.cell 0
   have qg0:wc.frozen? ⟨w.heap.size+1+1+1,0,none⟩=false:=F1.z2.frozen 0
   have qe1:wc.cell? ⟨w.heap.size+1+1+1,1,none⟩=some (.slice none 0 0):=F1.z2.cell 1
   have qg1:wc.frozen? ⟨w.heap.size+1+1+1,1,none⟩=false:=F1.z2.frozen 1
   have qe2:wc.cell? ⟨w.heap.size+1+1+1,2,none⟩=some (.slice none 0 0):=F1.z2.cell 2
   have qg2:wc.frozen? ⟨w.heap.size+1+1+1,2,none⟩=false:=F1.z2.frozen 2
   have qe3:wc.cell? ⟨w.heap.size+1+1+1,3,none⟩=some (.slice none 0 0):=F1.z2.cell 3
   have qg3:wc.frozen? ⟨w.heap.size+1+1+1,3,none⟩=false:=F1.z2.frozen 3
   have E0:=Hd d0
   have E1:=Hd d1
   have E2:=Hd d2
   have EZ:=Hd (And.intro ez1 (And.intro ez2 (And.intro o2 uE)))
   clear d0 d1 d2 ez1 ez2 o2 uE F
   clear F1 kx1 ky1 kz1 kz2 kx2 ky2 bt1 bt2 o0 o1
   go_region_held3 (fun W=>W.cell? ⟨w.heap.size,0,none⟩=some (.bool x.1)∧W.cell? ⟨w.heap.size,1,none⟩=some (.slice A1 X1.length c1)∧W.cell? ⟨w.heap.size,2,none⟩=some (.slice A2 X2.length c2)∧W.cell? ⟨w.heap.size,3,none⟩=some (.slice A3 X3.length c3)∧W.cell? ⟨w.heap.size+1,0,none⟩=some (.bool y.1)∧W.cell? ⟨w.heap.size+1,1,none⟩=some (.slice (some ⟨gb,ob,none⟩) Y1.length e1)∧W.cell? ⟨w.heap.size+1,2,none⟩=some (.slice B2 Y2.length e2)∧W.cell? ⟨w.heap.size+1,3,none⟩=some (.slice B3 Y3.length e3)∧W.cell? ⟨gb,ob,none⟩=some (.string y.2.1[1]))
    (with_reducible first | exact E0.out | exact E1.out | exact E2.out)
    (fail)
   all_goals (go_wp2_with fail;go_meet;obtain ⟨ez1,ez2,o2,uE⟩:=EZ.out;exact ⟨rfl,ez1.drew,ez2.drew,o2.up (Up.refl _).drew,uE.drew⟩)
  obtain ⟨rfl,rz1,rz2,ko,uE⟩:=hcut
  go_wp2_with fail
  refine bodyPost_ret (results_bkk rz1 rz2 _ _ _ _ Tryz.results67 rfl rfl rfl Tryz.underlying58 rfl (by kernel_rfl) (by kernel_rfl)) rfl ?_
  obtain ⟨qx1,qx2,qx3,qy1,qy2,qy3⟩:=HQ.out
  obtain ⟨hX1,hX2,hX3,hY1,hY2,hY3⟩:=HE.out
  have mg:g0∈four w g0:=by simp
  refine ⟨_,_,by rw [HM.out];rfl,?_,?_,uE⟩
  ·rw [HM.out]
   dsimp only
   rw [←hX1,←hX2,←hX3]
   exact PgK.of_rows (p:=(x.1,X1,X2,X3)) ((qx1.go ko).p mg) ((qx2.go ko).p mg) ((qx3.go ko).p mg)
  ·rw [HM.out]
   dsimp only
   rw [←hY1,←hY2,←hY3]
   exact PgK.of_rows (p:=(y.1,Y1,Y2,Y3)) ((qy1.go ko).p mg) ((qy2.go ko).p mg) ((qy3.go ko).p mg)
end Go.Proofs.YtojmcmghmnfjeaaGreatDoor
