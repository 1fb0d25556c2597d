/-
 Parts of the proof.
-/
import Derived.Test.YtojmcmghmnfjeaaGreatDoorM1Zbg
set_option maxHeartbeats 16000000
set_option maxRecDepth 100000
namespace Go.Proofs.YtojmcmghmnfjeaaGreatDoor
open Go.RowKit
set_option linter.unusedVariables false
set_option linter.unusedSimpArgs false
theorem c_l16Right (g0:Nat) (vx vy:Value) (x y:TPage) (key:ByteArray) (w:World) (hg0:g0<w.heap.size) (hx:PgK g0 w vx x) (hy:PgK g0 w vy y) (fx:Fine x) (fy:Fine y) (he:x.1=y.1) (hr:3<fillOf x) (hy2:2≤fillOf y) (hk:key.size≤maxLen) :
 Calls Tryz.prog 66 #[vx,vy,.string key] w (fun e w'=>∃v1 v2,e=.returned (.tuple #[v1,v2,.string (moveR x y key).2.2])∧PgK g0 w' v1 (moveR x y key).1∧PgK g0 w' v2 (moveR x y key).2.1∧Up w w'):=by
 obtain ⟨A1,c1,A2,c2,A3,c3,rfl,rx1,rx2,rx3⟩:=hx.rows
 obtain ⟨B1,e1,B2,e2,B3,e3,rfl,ry1,ry2,ry3⟩:=hy.rows
 obtain ⟨lx1,lx2,lx3⟩:=fine_lens fx
 obtain ⟨ly1,ly2,ly3⟩:=fine_lens fy
 obtain ⟨W0,hW0⟩:∃W0,W0=((((w.alloc (.cells #[.bool x.1,.slice A1 x.2.1.length c1,.slice A2 x.2.2.1.length c2,.slice A3 x.2.2.2.length c3] 58)).alloc (.cells #[.bool y.1,.slice B1 y.2.1.length e1,.slice B2 y.2.2.1.length e2,.slice B3 y.2.2.2.length e3] 58)).alloc (.cells #[.bool false,.slice none 0 0,.slice none 0 0,.slice none 0 0] 58)).alloc (.cells #[.bool false,.slice none 0 0,.slice none 0 0,.slice none 0 0] 58)):=⟨_,rfl⟩
 have F0:Four w W0 #[.bool x.1,.slice A1 x.2.1.length c1,.slice A2 x.2.2.1.length c2,.slice A3 x.2.2.2.length c3] #[.bool y.1,.slice B1 y.2.1.length e1,.slice B2 y.2.2.1.length e2,.slice B3 y.2.2.2.length e3] #[.bool false,.slice none 0 0,.slice none 0 0,.slice none 0 0] #[.bool false,.slice none 0 0,.slice none 0 0,.slice none 0 0]:=by rw [hW0];exact four_start w _ _ _ _
 have P0:PW g0 w W0 x y:=⟨A1,c1,A2,c2,A3,c3,B1,e1,B2,e2,B3,e3,F0,(rx1.g (gs:=four w g0) four_ok).go (Only.of_up F0.up),(rx2.g (gs:=four w g0) four_ok).go (Only.of_up F0.up),(rx3.g (gs:=four w g0) four_ok).go (Only.of_up F0.up),(ry1.g (gs:=four w g0) four_ok).go (Only.of_up F0.up),(ry2.g (gs:=four w g0) four_ok).go (Only.of_up F0.up),(ry3.g (gs:=four w g0) four_ok).go (Only.of_up F0.up),by rw [hW0];simp⟩
 have gx1:W0.cell? ⟨w.heap.size,1,none⟩=some (.slice A1 x.2.1.length c1):=F0.x.cell 1
 have gx0:W0.cell? ⟨w.heap.size,0,none⟩=some (.bool x.1):=F0.x.cell 0
 clear rx1 rx2 rx3 ry1 ry2 ry3 hx hy
 cases hl:x.1
 ·have hly:y.1=false:=he▸hl
  rw [fill_fork hl] at hr
  rw [fill_fork hly] at hy2
  obtain ⟨hvx,hix⟩:=fx.fork hl
  obtain ⟨hvy,hiy⟩:=fy.fork hly
  obtain ⟨m,hm⟩:∃m,m+1=x.2.1.length:=⟨x.2.1.length-1,by omega⟩
  obtain ⟨q,hq⟩:∃q,m+1=q:=⟨_,rfl⟩
  have hw1:IntKind.i64.wrap ((x.2.1.length:Int)-1)=(m:Int):=by rw [IntWalk.i64_in _ (by omega)];omega
  have hw2:IntKind.i64.wrap ((m:Int)+1)=(q:Int):=by rw [IntWalk.i64_in _ (by omega)];omega
  have hm1:m<x.2.1.length:=by omega
  have hm3:q<x.2.2.2.length:=by omega
  have HM:=Hd (fillR_fork (y:=y) (key:=key) hl (by omega) hm hq hm1 hm3)
  have hmi1:(m:Int)<(x.2.1.length:Int):=by omega
  have hmi3:(q:Int)<(x.2.2.2.length:Int):=by omega
  have hmi0:(0:Int)≤(m:Int):=by omega
  have hqi0:(0:Int)≤(q:Int):=by omega
  have hy10:0<y.2.1.length:=by omega
  have hy30:0<y.2.2.2.length:=by omega
  have hkm:I64 x.2.2.2[q]:=by
   obtain ⟨_,_,_,_,_,_,_,_,_,_,_,_,F,q1,q2,q3,_⟩:=P0
   obtain ⟨_,_,_,_,_,_,h⟩:=q3.sr.at_I hm3
   exact h
  rw [hl] at hW0 gx0
  have HL:=Hd (And.intro hl (And.intro hly (And.intro hvx (And.intro hvy (And.intro hix (And.intro hiy (And.intro hm hq)))))))
  clear hm hq he hr fx fy hl hly hvx hvy hix hiy F0
  go_enter Tryz.func66,Tryz.ntmps66
  go_upto_region 1 with fail
  rw [←hW0]
  clear hW0
  have HP:=P0
  clear P0
  go_upto_region 8 with fail
  clear gx0 gx1
  go_cut [10] (fun s wx=>s=.string x.2.1[m]∧PW g0 w wx x y)
  case first =>
   have HP0:=Hd HP
   obtain ⟨A1,c1,A2,c2,A3,c3,B1,e1,B2,e2,B3,e3,F,qx1,qx2,qx3,qy1,qy2,qy3,zz⟩:=HP
   obtain ⟨ga,oa,hA,_,_,hck,hsk⟩:=qx1.sr.at_S hm1
   subst hA
   have gx1:W0.cell? ⟨w.heap.size,1,none⟩=some (.slice (some ⟨ga,oa,none⟩) x.2.1.length c1):=F.x.cell 1
   clear qx1 qx2 qx3 qy1 qy2 qy3
   go_wp2_with fail
   go_meet
   exact ⟨rfl,HP0.out⟩
  clear HP
  obtain ⟨rfl,HP⟩:=hcut
  go_upto_region 9 with fail
  go_cut [] (fun wx=>PW g0 w wx (x.1,x.2.1,x.2.2.1,x.2.2.2) (y.1,key::y.2.1,y.2.2.1,y.2.2.2))
  case first =>
   obtain ⟨A1,c1,A2,c2,A3,c3,B1,e1,B2,e2,B3,e3,F,qx1,qx2,qx3,qy1,qy2,qy3,zz⟩:=HP
   try dsimp only at F qx1 qx2 qx3 qy1 qy2 qy3
   have gy1:wc.cell? ⟨w.heap.size+1,1,none⟩=some (.slice B1 (y.2.1).length e1):=F.y.cell 1
   have CI:=Hd (c_l16Insert0 y.2.1 B1 e1 key wc qy1.sr hy10 (by omega) hk)
   have HQ:=Hd (And.intro qx1 (And.intro qx2 (And.intro qx3 (And.intro qy1 (And.intro qy2 qy3)))))
   clear qx1 qx2 qx3 qy1 qy2 qy3
   go_wp2_with (go_at_call 99;(with_reducible refine CI.out.mono ?_);rintro e w1 ⟨D4,d4,bl4,rfl,so4,nd4,u4⟩;have F1:=F.goUp (u4);have gq:w1.cell? ⟨w.heap.size+1,1,none⟩=some (.slice B1 (y.2.1).length e1):=F1.y.cell 1;have fq:=F1.y.frozen 1)
   all_goals ((try go_wp2_with fail);go_meet;exact pw_y1 (x:=(x.1,x.2.1,x.2.2.1,x.2.2.2)) (y:=(y.1,y.2.1,y.2.2.1,y.2.2.2)) hg0 F HQ.out zz (u4) so4)
  clear HP
  have HP:=hcut
  clear hcut
  go_upto_region 10 with fail
  go_cut [] (fun wx=>PW g0 w wx (x.1,x.2.1,x.2.2.1,x.2.2.2) (y.1,key::y.2.1,y.2.2.1,x.2.2.2[q]::y.2.2.2))
  case first =>
   obtain ⟨A1,c1,A2,c2,A3,c3,B1,e1,B2,e2,B3,e3,F,qx1,qx2,qx3,qy1,qy2,qy3,zz⟩:=HP
   try dsimp only at F qx1 qx2 qx3 qy1 qy2 qy3
   obtain ⟨ga,oa,hA,_,_,hck,hsk1,hsk2⟩:=qx3.sr.at_I hm3
   subst hA
   have gx3:wc.cell? ⟨w.heap.size,3,none⟩=some (.slice (some ⟨ga,oa,none⟩) (x.2.2.2).length c3):=F.x.cell 3
   have gy3:wc.cell? ⟨w.heap.size+1,3,none⟩=some (.slice B3 (y.2.2.2).length e3):=F.y.cell 3
   have CI:=Hd (c_l16InsertId0 y.2.2.2 B3 e3 x.2.2.2[q] wc.drew (qy3.sr.up good_I (Up.refl wc).drew) hy30 (by omega) hkm)
   have HQ:=Hd (And.intro qx1 (And.intro qx2 (And.intro qx3 (And.intro qy1 (And.intro qy2 qy3)))))
   clear qx1 qx2 qx3 qy1 qy2 qy3
   go_region_with (go_at_call 100;(with_reducible refine CI.out.mono ?_);rintro e w1 ⟨D4,d4,bl4,rfl,so4,nd4,u4⟩;have F1:=F.goUp ((Up.refl wc).drew.trans u4);have gq:w1.cell? ⟨w.heap.size+1,3,none⟩=some (.slice B3 (y.2.2.2).length e3):=F1.y.cell 3;have fq:=F1.y.frozen 3)
   all_goals ((try go_wp2_with fail);go_meet;exact pw_y3 (x:=(x.1,x.2.1,x.2.2.1,x.2.2.2)) (y:=(y.1,key::y.2.1,y.2.2.1,y.2.2.2)) hg0 F HQ.out zz ((Up.refl wc).drew.trans u4) so4)
  clear HP
  have HP:=hcut
  clear hcut
  go_upto_region 11 with fail
  go_cut [] (fun wx=>PW g0 w wx (x.1,remAt x.2.1 m,x.2.2.1,x.2.2.2) (y.1,key::y.2.1,y.2.2.1,x.2.2.2[q]::y.2.2.2))
  case first =>
   obtain ⟨A1,c1,A2,c2,A3,c3,B1,e1,B2,e2,B3,e3,F,qx1,qx2,qx3,qy1,qy2,qy3,zz⟩:=HP
   try dsimp only at F qx1 qx2 qx3 qy1 qy2 qy3
   have gx1:wc.cell? ⟨w.heap.size,1,none⟩=some (.slice A1 (x.2.1).length c1):=F.x.cell 1
   have CI:=Hd (c_l16Remove x.2.1 A1 c1 m wc qx1.sr hm1 (by omega))
   have HQ:=Hd (And.intro qx1 (And.intro qx2 (And.intro qx3 (And.intro qy1 (And.intro qy2 qy3)))))
   clear qx1 qx2 qx3 qy1 qy2 qy3
   go_wp2_with (go_at_call 35;(with_reducible refine CI.out.mono ?_);rintro e w1 ⟨D4,d4,bl4,rfl,so4,nd4,u4⟩;have F1:=F.goUp (u4);have gq:w1.cell? ⟨w.heap.size,1,none⟩=some (.slice A1 (x.2.1).length c1):=F1.x.cell 1;have fq:=F1.x.frozen 1)
   all_goals ((try go_wp2_with fail);go_meet;exact pw_x1 (x:=(x.1,x.2.1,x.2.2.1,x.2.2.2)) (y:=(y.1,key::y.2.1,y.2.2.1,x.2.2.2[q]::y.2.2.2)) hg0 F HQ.out zz (u4) so4)
  clear HP
  have HP:=hcut
  clear hcut
  go_upto_region 12 with fail
  go_cut [] (fun wx=>PW g0 w wx (x.1,remAt x.2.1 m,x.2.2.1,remAt x.2.2.2 q) (y.1,key::y.2.1,y.2.2.1,x.2.2.2[q]::y.2.2.2))
  case first =>
   obtain ⟨A1,c1,A2,c2,A3,c3,B1,e1,B2,e2,B3,e3,F,qx1,qx2,qx3,qy1,qy2,qy3,zz⟩:=HP
   try dsimp only at F qx1 qx2 qx3 qy1 qy2 qy3
   have gx3:wc.cell? ⟨w.heap.size,3,none⟩=some (.slice A3 (x.2.2.2).length c3):=F.x.cell 3
   have CI:=Hd (c_l16RemoveId x.2.2.2 A3 c3 q wc qx3.sr hm3 (by omega))
   have HQ:=Hd (And.intro qx1 (And.intro qx2 (And.intro qx3 (And.intro qy1 (And.intro qy2 qy3)))))
   clear qx1 qx2 qx3 qy1 qy2 qy3
   go_wp2_with (go_at_call 69;(with_reducible refine CI.out.mono ?_);rintro e w1 ⟨D4,d4,bl4,rfl,so4,nd4,u4⟩;have F1:=F.goUp (u4);have gq:w1.cell? ⟨w.heap.size,3,none⟩=some (.slice A3 (x.2.2.2).length c3):=F1.x.cell 3;have fq:=F1.x.frozen 3)
   all_goals ((try go_wp2_with fail);go_meet;exact pw_x3 (x:=(x.1,remAt x.2.1 m,x.2.2.1,x.2.2.2)) (y:=(y.1,key::y.2.1,y.2.2.1,x.2.2.2[q]::y.2.2.2)) hg0 F HQ.out zz (u4) so4)
  clear HP
  have HP:=hcut
  clear hcut
  go_upto_region 13 with fail
  obtain ⟨A1,c1,A2,c2,A3,c3,B1,e1,B2,e2,B3,e3,F,qx1,qx2,qx3,qy1,qy2,qy3,zz⟩:=HP
  dsimp only at F qx1 qx2 qx3 qy1 qy2 qy3
  obtain ⟨X1,hX1⟩:∃X1,X1=remAt x.2.1 m:=⟨_,rfl⟩
  rw [←hX1] at F qx1
  obtain ⟨X2,hX2⟩:∃X2,X2=x.2.2.1:=⟨_,rfl⟩
  rw [←hX2] at F qx2
  obtain ⟨X3,hX3⟩:∃X3,X3=remAt x.2.2.2 q:=⟨_,rfl⟩
  rw [←hX3] at F qx3
  obtain ⟨Y1,hY1⟩:∃Y1,Y1=key::y.2.1:=⟨_,rfl⟩
  rw [←hY1] at F qy1
  obtain ⟨Y2,hY2⟩:∃Y2,Y2=y.2.2.1:=⟨_,rfl⟩
  rw [←hY2] at F qy2
  obtain ⟨Y3,hY3⟩:∃Y3,Y3=x.2.2.2[q]::y.2.2.2:=⟨_,rfl⟩
  rw [←hY3] at F qy3
  have HQ:=Hd (And.intro qx1 (And.intro qx2 (And.intro qx3 (And.intro qy1 (And.intro qy2 qy3)))))
  have HE:=Hd (And.intro hX1 (And.intro hX2 (And.intro hX3 (And.intro hY1 (And.intro hY2 hY3)))))
  clear qx1 qx2 qx3 qy1 qy2 qy3 hX1 hX2 hX3 hY1 hY2 hY3
  go_cut [8] (fun s wx=>s=.string x.2.1[m]∧Bk wx (w.heap.size+1+1) 58 #[.bool x.1,.slice A1 X1.length c1,.slice A2 X2.length c2,.slice A3 X3.length c3]∧Bk wx (w.heap.size+1+1+1) 58 #[.bool y.1,.slice B1 Y1.length e1,.slice B2 Y2.length e2,.slice B3 Y3.length e3]∧Only (four w g0) wc wx∧Up w wx)
  case first =>
   have F1:=F
   have o0:=Only.refl (four w g0) wc
   have bt1:=But.sets (g:=w.heap.size+1+1) [.bool x.1,.slice A1 X1.length c1,.slice A2 X2.length c2,.slice A3 X3.length c3] wc 0
   have o1:=o0.but bt1 (by simp)
   have kz1:=F1.z1.setsL [.bool x.1,.slice A1 X1.length c1,.slice A2 X2.length c2,.slice A3 X3.length c3] 0
   have kx1:=F1.x.butM bt1 (by omega)
   have ky1:=F1.y.butM bt1 (by omega)
   have kz2:=F1.z2.butM bt1 (by omega)
   have bt2:=But.sets (g:=w.heap.size+1+1+1) [.bool y.1,.slice B1 Y1.length e1,.slice B2 Y2.length e2,.slice B3 Y3.length e3] ((((wc.setCell ⟨w.heap.size+1+1,0,none⟩ (.bool x.1)).setCell ⟨w.heap.size+1+1,1,none⟩ (.slice A1 X1.length c1)).setCell ⟨w.heap.size+1+1,2,none⟩ (.slice A2 X2.length c2)).setCell ⟨w.heap.size+1+1,3,none⟩ (.slice A3 X3.length c3)) 0
   have o2:=o1.but bt2 (by simp)
   have ez2:=kz2.setsL [.bool y.1,.slice B1 Y1.length e1,.slice B2 Y2.length e2,.slice B3 Y3.length e3] 0
   have ez1:=kz1.butM bt2 (by omega)
   have kx2:=kx1.butM bt2 (by omega)
   have ky2:=ky1.butM bt2 (by omega)
   have uE:=(F1.up.but bt1 (by omega)).but bt2 (by omega)
   have d0:(fun W:World=>W.cell? ⟨w.heap.size,0,none⟩=some (.bool x.1)∧W.cell? ⟨w.heap.size,1,none⟩=some (.slice A1 X1.length c1)∧W.cell? ⟨w.heap.size,2,none⟩=some (.slice A2 X2.length c2)∧W.cell? ⟨w.heap.size,3,none⟩=some (.slice A3 X3.length c3)∧W.cell? ⟨w.heap.size+1,0,none⟩=some (.bool y.1)∧W.cell? ⟨w.heap.size+1,1,none⟩=some (.slice B1 Y1.length e1)∧W.cell? ⟨w.heap.size+1,2,none⟩=some (.slice B2 Y2.length e2)∧W.cell? ⟨w.heap.size+1,3,none⟩=some (.slice B3 Y3.length e3)) wc.drew:=⟨F1.x.drew.cell 0,F1.x.drew.cell 1,F1.x.drew.cell 2,F1.x.drew.cell 3,F1.y.drew.cell 0,F1.y.drew.cell 1,F1.y.drew.cell 2,F1.y.drew.cell 3⟩
   have d1:(fun W:World=>W.cell? ⟨w.heap.size,0,none⟩=some (.bool x.1)∧W.cell? ⟨w.heap.size,1,none⟩=some (.slice A1 X1.length c1)∧W.cell? ⟨w.heap.size,2,none⟩=some (.slice A2 X2.length c2)∧W.cell? ⟨w.heap.size,3,none⟩=some (.slice A3 X3.length c3)∧W.cell? ⟨w.heap.size+1,0,none⟩=some (.bool y.1)∧W.cell? ⟨w.heap.size+1,1,none⟩=some (.slice B1 Y1.length e1)∧W.cell? ⟨w.heap.size+1,2,none⟩=some (.slice B2 Y2.length e2)∧W.cell? ⟨w.heap.size+1,3,none⟩=some (.slice B3 Y3.length e3)) ((((wc.setCell ⟨w.heap.size+1+1,0,none⟩ (.bool x.1)).setCell ⟨w.heap.size+1+1,1,none⟩ (.slice A1 X1.length c1)).setCell ⟨w.heap.size+1+1,2,none⟩ (.slice A2 X2.length c2)).setCell ⟨w.heap.size+1+1,3,none⟩ (.slice A3 X3.length c3)).drew:=⟨kx1.drew.cell 0,kx1.drew.cell 1,kx1.drew.cell 2,kx1.drew.cell 3,ky1.drew.cell 0,ky1.drew.cell 1,ky1.drew.cell 2,ky1.drew.cell 3⟩
   have d2:(fun W:World=>W.cell? ⟨w.heap.size,0,none⟩=some (.bool x.1)∧W.cell? ⟨w.heap.size,1,none⟩=some (.slice A1 X1.length c1)∧W.cell? ⟨w.heap.size,2,none⟩=some (.slice A2 X2.length c2)∧W.cell? ⟨w.heap.size,3,none⟩=some (.slice A3 X3.length c3)∧W.cell? ⟨w.heap.size+1,0,none⟩=some (.bool y.1)∧W.cell? ⟨w.heap.size+1,1,none⟩=some (.slice B1 Y1.length e1)∧W.cell? ⟨w.heap.size+1,2,none⟩=some (.slice B2 Y2.length e2)∧W.cell? ⟨w.heap.size+1,3,none⟩=some (.slice B3 Y3.length e3)) ((((((((wc.setCell ⟨w.heap.size+1+1,0,none⟩ (.bool x.1)).setCell ⟨w.heap.size+1+1,1,none⟩ (.slice A1 X1.length c1)).setCell ⟨w.heap.size+1+1,2,none⟩ (.slice A2 X2.length c2)).setCell ⟨w.heap.size+1+1,3,none⟩ (.slice A3 X3.length c3)).setCell ⟨w.heap.size+1+1+1,0,none⟩ (.bool y.1)).setCell ⟨w.heap.size+1+1+1,1,none⟩ (.slice B1 Y1.length e1)).setCell ⟨w.heap.size+1+1+1,2,none⟩ (.slice B2 Y2.length e2)).setCell ⟨w.heap.size+1+1+1,3,none⟩ (.slice B3 Y3.length e3)).drew:=⟨kx2.drew.cell 0,kx2.drew.cell 1,kx2.drew.cell 2,kx2.drew.cell 3,ky2.drew.cell 0,ky2.drew.cell 1,ky2.drew.cell 2,ky2.drew.cell 3⟩
   have pe0:wc.cell? ⟨w.heap.size+1+1,0,none⟩=some (.bool false):=F1.z1.cell 0
   have pg0:wc.frozen? ⟨w.heap.size+1+1,0,none⟩=false:=F1.z1.frozen 0
   have pe1:wc.cell? ⟨w.heap.size+1+1,1,none⟩=some (.slice none 0 0):=F1.z1.cell 1
   have pg1:wc.frozen? ⟨w.heap.size+1+1,1,none⟩=false:=F1.z1.frozen 1
   have pe2:wc.cell? ⟨w.heap.size+1+1,2,none⟩=some (.slice none 0 0):=F1.z1.cell 2
   have pg2:wc.frozen? ⟨w.heap.size+1+1,2,none⟩=false:=F1.z1.frozen 2
   have pe3:wc.cell? ⟨w.heap.size+1+1,3,none⟩=some (.slice none 0 0):=F1.z1.cell 3
   have pg3:wc.frozen? ⟨w.heap.size+1+1,3,none⟩=false:=F1.z1.frozen 3
   have qe0:wc.cell? ⟨w.heap.size+1+1+1,0,none⟩=some (.bool false):=F1.z2.cell 0
   have qg0:wc.frozen? ⟨w.heap.size+1+1+1,0,none⟩=false:=F1.z2.frozen 0
   have qe1:wc.cell? ⟨w.heap.size+1+1+1,1,none⟩=some (.slice none 0 0):=F1.z2.cell 1
   have qg1:wc.frozen? ⟨w.heap.size+1+1+1,1,none⟩=false:=F1.z2.frozen 1
   have qe2:wc.cell? ⟨w.heap.size+1+1+1,2,none⟩=some (.slice none 0 0):=F1.z2.cell 2
   have qg2:wc.frozen? ⟨w.heap.size+1+1+1,2,none⟩=false:=F1.z2.frozen 2
   have qe3:wc.cell? ⟨w.heap.size+1+1+1,3,none⟩=some (.slice none 0 0):=F1.z2.cell 3
   have qg3:wc.frozen? ⟨w.heap.size+1+1+1,3,none⟩=false:=F1.z2.frozen 3
   have E0:=Hd d0
   have E1:=Hd d1
   have E2:=Hd d2
   have EZ:=Hd (And.intro ez1 (And.intro ez2 (And.intro o2 uE)))
   clear d0 d1 d2 ez1 ez2 o2 uE F
   clear F1 kx1 ky1 kz1 kz2 kx2 ky2 bt1 bt2 o0 o1
   go_region_held3 (fun W=>W.cell? ⟨w.heap.size,0,none⟩=some (.bool x.1)∧W.cell? ⟨w.heap.size,1,none⟩=some (.slice A1 X1.length c1)∧W.cell? ⟨w.heap.size,2,none⟩=some (.slice A2 X2.length c2)∧W.cell? ⟨w.heap.size,3,none⟩=some (.slice A3 X3.length c3)∧W.cell? ⟨w.heap.size+1,0,none⟩=some (.bool y.1)∧W.cell? ⟨w.heap.size+1,1,none⟩=some (.slice B1 Y1.length e1)∧W.cell? ⟨w.heap.size+1,2,none⟩=some (.slice B2 Y2.length e2)∧W.cell? ⟨w.heap.size+1,3,none⟩=some (.slice B3 Y3.length e3))
    (with_reducible first | exact E0.out | exact E1.out | exact E2.out)
    (fail)
   all_goals (go_wp2_with fail;go_meet;obtain ⟨ez1,ez2,o2,uE⟩:=EZ.out;exact ⟨rfl,ez1.drew,ez2.drew,o2.up (Up.refl _).drew,uE.drew⟩)
  obtain ⟨rfl,rz1,rz2,ko,uE⟩:=hcut
  go_wp2_with fail
  refine bodyPost_ret (results_bkk rz1 rz2 _ _ _ _ Tryz.results66 rfl rfl rfl Tryz.underlying58 rfl (by kernel_rfl) (by kernel_rfl)) rfl ?_
  obtain ⟨qx1,qx2,qx3,qy1,qy2,qy3⟩:=HQ.out
  obtain ⟨hX1,hX2,hX3,hY1,hY2,hY3⟩:=HE.out
  have mg:g0∈four w g0:=by simp
  refine ⟨_,_,by rw [HM.out];rfl,?_,?_,uE⟩
  ·rw [HM.out]
   dsimp only
   rw [←hX1,←hX2,←hX3]
   exact PgK.of_rows (p:=(x.1,X1,X2,X3)) ((qx1.go ko).p mg) ((qx2.go ko).p mg) ((qx3.go ko).p mg)
  ·rw [HM.out]
   dsimp only
   rw [←hY1,←hY2,←hY3]
   exact PgK.of_rows (p:=(y.1,Y1,Y2,Y3)) ((qy1.go ko).p mg) ((qy2.go ko).p mg) ((qy3.go ko).p mg)
 ·have hly:y.1=true:=he▸hl
  rw [fill_leaf hl] at hr
  rw [fill_leaf hly] at hy2
  obtain ⟨hvx,hix⟩:=fx.leaf hl
  obtain ⟨hvy,hiy⟩:=fy.leaf hly
  obtain ⟨m,hm⟩:∃m,m+1=x.2.1.length:=⟨x.2.1.length-1,by omega⟩
  have hw1:IntKind.i64.wrap ((x.2.1.length:Int)-1)=(m:Int):=by rw [IntWalk.i64_in _ (by omega)];omega
  have hm1:m<x.2.1.length:=by omega
  have hm2:m<x.2.2.1.length:=by omega
  have HM:=Hd (fillR_leaf (y:=y) (key:=key) hl hvx hm hm1 hm2)
  have hmi1:(m:Int)<(x.2.1.length:Int):=by omega
  have hmi2:(m:Int)<(x.2.2.1.length:Int):=by omega
  have hmi0:(0:Int)≤(m:Int):=by omega
  have hy20:0<y.2.2.1.length:=by omega
  have hkm:x.2.1[m].size≤maxLen:=by
   obtain ⟨_,_,_,_,_,_,_,_,_,_,_,_,F,q1,q2,_⟩:=P0
   obtain ⟨_,_,_,_,_,_,h⟩:=q1.sr.at_S hm1
   unfold maxLen;omega
  have hvm:x.2.2.1[m].size≤maxLen:=by
   obtain ⟨_,_,_,_,_,_,_,_,_,_,_,_,F,q1,q2,_⟩:=P0
   obtain ⟨_,_,_,_,_,_,h⟩:=q2.sr.at_S hm2
   unfold maxLen;omega
  rw [hl] at hW0 gx0
  have HL:=Hd (And.intro hl (And.intro hly (And.intro hvx (And.intro hvy (And.intro hix (And.intro hiy hm))))))
  clear hm he hr fx fy hl hly hvx hvy hix hiy F0
  go_enter Tryz.func66,Tryz.ntmps66
  go_upto_region 1 with fail
  rw [←hW0]
  clear hW0
  have HP:=P0
  clear P0
  go_upto_region 3 with fail
  clear gx0 gx1
  go_cut [] (fun wx=>PW g0 w wx (x.1,x.2.1,x.2.2.1,x.2.2.2) (y.1,x.2.1[m]::y.2.1,y.2.2.1,y.2.2.2))
  case first =>
   obtain ⟨A1,c1,A2,c2,A3,c3,B1,e1,B2,e2,B3,e3,F,qx1,qx2,qx3,qy1,qy2,qy3,zz⟩:=HP
   try dsimp only at F qx1 qx2 qx3 qy1 qy2 qy3
   obtain ⟨ga,oa,hA,_,_,hck,hsk⟩:=qx1.sr.at_S hm1
   subst hA
   have gx1:W0.cell? ⟨w.heap.size,1,none⟩=some (.slice (some ⟨ga,oa,none⟩) (x.2.1).length c1):=F.x.cell 1
   have gy1:W0.cell? ⟨w.heap.size+1,1,none⟩=some (.slice B1 (y.2.1).length e1):=F.y.cell 1
   have CI:=Hd (c_l16Insert0 y.2.1 B1 e1 x.2.1[m] W0.drew (qy1.sr.up good_S (Up.refl W0).drew) (by omega) (by omega) hkm)
   have HQ:=Hd (And.intro qx1 (And.intro qx2 (And.intro qx3 (And.intro qy1 (And.intro qy2 qy3)))))
   clear qx1 qx2 qx3 qy1 qy2 qy3
   go_region_with (go_at_call 99;(with_reducible refine CI.out.mono ?_);rintro e w1 ⟨D4,d4,bl4,rfl,so4,nd4,u4⟩;have F1:=F.goUp ((Up.refl W0).drew.trans u4);have gq:w1.cell? ⟨w.heap.size+1,1,none⟩=some (.slice B1 (y.2.1).length e1):=F1.y.cell 1;have fq:=F1.y.frozen 1)
   all_goals ((try go_wp2_with fail);go_meet;exact pw_y1 (x:=(x.1,x.2.1,x.2.2.1,x.2.2.2)) (y:=(y.1,y.2.1,y.2.2.1,y.2.2.2)) hg0 F HQ.out zz ((Up.refl W0).drew.trans u4) so4)
  clear HP
  have HP:=hcut
  clear hcut
  go_upto_region 4 with fail
  go_cut [] (fun wx=>PW g0 w wx (x.1,x.2.1,x.2.2.1,x.2.2.2) (y.1,x.2.1[m]::y.2.1,x.2.2.1[m]::y.2.2.1,y.2.2.2))
  case first =>
   obtain ⟨A1,c1,A2,c2,A3,c3,B1,e1,B2,e2,B3,e3,F,qx1,qx2,qx3,qy1,qy2,qy3,zz⟩:=HP
   try dsimp only at F qx1 qx2 qx3 qy1 qy2 qy3
   obtain ⟨ga,oa,hA,_,_,hck,hsk⟩:=qx2.sr.at_S hm2
   subst hA
   have gx2:wc.cell? ⟨w.heap.size,2,none⟩=some (.slice (some ⟨ga,oa,none⟩) (x.2.2.1).length c2):=F.x.cell 2
   have gy2:wc.cell? ⟨w.heap.size+1,2,none⟩=some (.slice B2 (y.2.2.1).length e2):=F.y.cell 2
   have CI:=Hd (c_l16Insert0 y.2.2.1 B2 e2 x.2.2.1[m] wc.drew (qy2.sr.up good_S (Up.refl wc).drew) hy20 (by omega) hvm)
   have HQ:=Hd (And.intro qx1 (And.intro qx2 (And.intro qx3 (And.intro qy1 (And.intro qy2 qy3)))))
   clear qx1 qx2 qx3 qy1 qy2 qy3
   go_region_with (go_at_call 99;(with_reducible refine CI.out.mono ?_);rintro e w1 ⟨D4,d4,bl4,rfl,so4,nd4,u4⟩;have F1:=F.goUp ((Up.refl wc).drew.trans u4);have gq:w1.cell? ⟨w.heap.size+1,2,none⟩=some (.slice B2 (y.2.2.1).length e2):=F1.y.cell 2;have fq:=F1.y.frozen 2)
   all_goals ((try go_wp2_with fail);go_meet;exact pw_y2 (x:=(x.1,x.2.1,x.2.2.1,x.2.2.2)) (y:=(y.1,x.2.1[m]::y.2.1,y.2.2.1,y.2.2.2)) hg0 F HQ.out zz ((Up.refl wc).drew.trans u4) so4)
  clear HP
  have HP:=hcut
  clear hcut
  go_upto_region 5 with fail
  go_cut [] (fun wx=>PW g0 w wx (x.1,remAt x.2.1 m,x.2.2.1,x.2.2.2) (y.1,x.2.1[m]::y.2.1,x.2.2.1[m]::y.2.2.1,y.2.2.2))
  case first =>
   obtain ⟨A1,c1,A2,c2,A3,c3,B1,e1,B2,e2,B3,e3,F,qx1,qx2,qx3,qy1,qy2,qy3,zz⟩:=HP
   try dsimp only at F qx1 qx2 qx3 qy1 qy2 qy3
   have gx1:wc.cell? ⟨w.heap.size,1,none⟩=some (.slice A1 (x.2.1).length c1):=F.x.cell 1
   have CI:=Hd (c_l16Remove x.2.1 A1 c1 m wc qx1.sr hm1 (by omega))
   have HQ:=Hd (And.intro qx1 (And.intro qx2 (And.intro qx3 (And.intro qy1 (And.intro qy2 qy3)))))
   clear qx1 qx2 qx3 qy1 qy2 qy3
   go_wp2_with (go_at_call 35;(with_reducible refine CI.out.mono ?_);rintro e w1 ⟨D4,d4,bl4,rfl,so4,nd4,u4⟩;have F1:=F.goUp (u4);have gq:w1.cell? ⟨w.heap.size,1,none⟩=some (.slice A1 (x.2.1).length c1):=F1.x.cell 1;have fq:=F1.x.frozen 1)
   all_goals ((try go_wp2_with fail);go_meet;exact pw_x1 (x:=(x.1,x.2.1,x.2.2.1,x.2.2.2)) (y:=(y.1,x.2.1[m]::y.2.1,x.2.2.1[m]::y.2.2.1,y.2.2.2)) hg0 F HQ.out zz (u4) so4)
  clear HP
  have HP:=hcut
  clear hcut
  go_upto_region 6 with fail
  go_cut [] (fun wx=>PW g0 w wx (x.1,remAt x.2.1 m,remAt x.2.2.1 m,x.2.2.2) (y.1,x.2.1[m]::y.2.1,x.2.2.1[m]::y.2.2.1,y.2.2.2))
  case first =>
   obtain ⟨A1,c1,A2,c2,A3,c3,B1,e1,B2,e2,B3,e3,F,qx1,qx2,qx3,qy1,qy2,qy3,zz⟩:=HP
   try dsimp only at F qx1 qx2 qx3 qy1 qy2 qy3
   have gx2:wc.cell? ⟨w.heap.size,2,none⟩=some (.slice A2 (x.2.2.1).length c2):=F.x.cell 2
   have CI:=Hd (c_l16Remove x.2.2.1 A2 c2 m wc qx2.sr hm2 (by omega))
   have HQ:=Hd (And.intro qx1 (And.intro qx2 (And.intro qx3 (And.intro qy1 (And.intro qy2 qy3)))))
   clear qx1 qx2 qx3 qy1 qy2 qy3
   go_wp2_with (go_at_call 35;(with_reducible refine CI.out.mono ?_);rintro e w1 ⟨D4,d4,bl4,rfl,so4,nd4,u4⟩;have F1:=F.goUp (u4);have gq:w1.cell? ⟨w.heap.size,2,none⟩=some (.slice A2 (x.2.2.1).length c2):=F1.x.cell 2;have fq:=F1.x.frozen 2)
   all_goals ((try go_wp2_with fail);go_meet;exact pw_x2 (x:=(x.1,remAt x.2.1 m,x.2.2.1,x.2.2.2)) (y:=(y.1,x.2.1[m]::y.2.1,x.2.2.1[m]::y.2.2.1,y.2.2.2)) hg0 F HQ.out zz (u4) so4)
  clear HP
  have HP:=hcut
  clear hcut
  go_upto_region 7 with fail
  obtain ⟨A1,c1,A2,c2,A3,c3,B1,e1,B2,e2,B3,e3,F,qx1,qx2,qx3,qy1,qy2,qy3,zz⟩:=HP
  dsimp only at F qx1 qx2 qx3 qy1 qy2 qy3
  obtain ⟨gb,ob,hB,_,_,_,_⟩:=qy1.sr.at_S (i:=0) (Nat.succ_pos _)
  subst hB
  have rc:=qy1.cell0
  have hy1p:0<(x.2.1[m]::y.2.1).length:=Nat.succ_pos _
  obtain ⟨X1,hX1⟩:∃X1,X1=remAt x.2.1 m:=⟨_,rfl⟩
  rw [←hX1] at F qx1
  obtain ⟨X2,hX2⟩:∃X2,X2=remAt x.2.2.1 m:=⟨_,rfl⟩
  rw [←hX2] at F qx2
  obtain ⟨X3,hX3⟩:∃X3,X3=x.2.2.2:=⟨_,rfl⟩
  rw [←hX3] at F qx3
  obtain ⟨Y1,hY1⟩:∃Y1,Y1=x.2.1[m]::y.2.1:=⟨_,rfl⟩
  rw [←hY1] at F qy1 hy1p
  obtain ⟨Y2,hY2⟩:∃Y2,Y2=x.2.2.1[m]::y.2.2.1:=⟨_,rfl⟩
  rw [←hY2] at F qy2
  obtain ⟨Y3,hY3⟩:∃Y3,Y3=y.2.2.2:=⟨_,rfl⟩
  rw [←hY3] at F qy3
  have hy1i:(0:Int)<(Y1.length:Int):=by omega
  have HQ:=Hd (And.intro qx1 (And.intro qx2 (And.intro qx3 (And.intro qy1 (And.intro qy2 qy3)))))
  have HE:=Hd (And.intro hX1 (And.intro hX2 (And.intro hX3 (And.intro hY1 (And.intro hY2 hY3)))))
  clear qx1 qx2 qx3 qy1 qy2 qy3 hX1 hX2 hX3 hY1 hY2 hY3
  go_cut [8] (fun s wx=>s=.string x.2.1[m]∧Bk wx (w.heap.size+1+1) 58 #[.bool x.1,.slice A1 X1.length c1,.slice A2 X2.length c2,.slice A3 X3.length c3]∧Bk wx (w.heap.size+1+1+1) 58 #[.bool y.1,.slice (some ⟨gb,ob,none⟩) Y1.length e1,.slice B2 Y2.length e2,.slice B3 Y3.length e3]∧Only (four w g0) wc wx∧Up w wx)
  case first =>
   have F1:=F
   have o0:=Only.refl (four w g0) wc
   have bt1:=But.sets (g:=w.heap.size+1+1) [.bool x.1,.slice A1 X1.length c1,.slice A2 X2.length c2,.slice A3 X3.length c3] wc 0
   have o1:=o0.but bt1 (by simp)
   have kz1:=F1.z1.setsL [.bool x.1,.slice A1 X1.length c1,.slice A2 X2.length c2,.slice A3 X3.length c3] 0
   have kx1:=F1.x.butM bt1 (by omega)
   have ky1:=F1.y.butM bt1 (by omega)
   have kz2:=F1.z2.butM bt1 (by omega)
   have bt2:=But.sets (g:=w.heap.size+1+1+1) [.bool y.1,.slice (some ⟨gb,ob,none⟩) Y1.length e1,.slice B2 Y2.length e2,.slice B3 Y3.length e3] ((((wc.setCell ⟨w.heap.size+1+1,0,none⟩ (.bool x.1)).setCell ⟨w.heap.size+1+1,1,none⟩ (.slice A1 X1.length c1)).setCell ⟨w.heap.size+1+1,2,none⟩ (.slice A2 X2.length c2)).setCell ⟨w.heap.size+1+1,3,none⟩ (.slice A3 X3.length c3)) 0
   have o2:=o1.but bt2 (by simp)
   have ez2:=kz2.setsL [.bool y.1,.slice (some ⟨gb,ob,none⟩) Y1.length e1,.slice B2 Y2.length e2,.slice B3 Y3.length e3] 0
   have ez1:=kz1.butM bt2 (by omega)
   have kx2:=kx1.butM bt2 (by omega)
   have ky2:=ky1.butM bt2 (by omega)
   have uE:=(F1.up.but bt1 (by omega)).but bt2 (by omega)
   have d0:(fun W:World=>W.cell? ⟨w.heap.size,0,none⟩=some (.bool x.1)∧W.cell? ⟨w.heap.size,1,none⟩=some (.slice A1 X1.length c1)∧W.cell? ⟨w.heap.size,2,none⟩=some (.slice A2 X2.length c2)∧W.cell? ⟨w.heap.size,3,none⟩=some (.slice A3 X3.length c3)∧W.cell? ⟨w.heap.size+1,0,none⟩=some (.bool y.1)∧W.cell? ⟨w.heap.size+1,1,none⟩=some (.slice (some ⟨gb,ob,none⟩) Y1.length e1)∧W.cell? ⟨w.heap.size+1,2,none⟩=some (.slice B2 Y2.length e2)∧W.cell? ⟨w.heap.size+1,3,none⟩=some (.slice B3 Y3.length e3)∧W.cell? ⟨gb,ob,none⟩=some (.string x.2.1[m])) wc.drew:=⟨F1.x.drew.cell 0,F1.x.drew.cell 1,F1.x.drew.cell 2,F1.x.drew.cell 3,F1.y.drew.cell 0,F1.y.drew.cell 1,F1.y.drew.cell 2,F1.y.drew.cell 3,rc _ (o0.up (Up.refl _).drew)⟩
   have d1:(fun W:World=>W.cell? ⟨w.heap.size,0,none⟩=some (.bool x.1)∧W.cell? ⟨w.heap.size,1,none⟩=some (.slice A1 X1.length c1)∧W.cell? ⟨w.heap.size,2,none⟩=some (.slice A2 X2.length c2)∧W.cell? ⟨w.heap.size,3,none⟩=some (.slice A3 X3.length c3)∧W.cell? ⟨w.heap.size+1,0,none⟩=some (.bool y.1)∧W.cell? ⟨w.heap.size+1,1,none⟩=some (.slice (some ⟨gb,ob,none⟩) Y1.length e1)∧W.cell? ⟨w.heap.size+1,2,none⟩=some (.slice B2 Y2.length e2)∧W.cell? ⟨w.heap.size+1,3,none⟩=some (.slice B3 Y3.length e3)∧W.cell? ⟨gb,ob,none⟩=some (.string x.2.1[m])) ((((wc.setCell ⟨w.heap.size+1+1,0,none⟩ (.bool x.1)).setCell ⟨w.heap.size+1+1,1,none⟩ (.slice A1 X1.length c1)).setCell ⟨w.heap.size+1+1,2,none⟩ (.slice A2 X2.length c2)).setCell ⟨w.heap.size+1+1,3,none⟩ (.slice A3 X3.length c3)).drew:=⟨kx1.drew.cell 0,kx1.drew.cell 1,kx1.drew.cell 2,kx1.drew.cell 3,ky1.drew.cell 0,ky1.drew.cell 1,ky1.drew.cell 2,ky1.drew.cell 3,rc _ (o1.up (Up.refl _).drew)⟩
   have d2:(fun W:World=>W.cell? ⟨w.heap.size,0,none⟩=some (.bool x.1)∧W.cell? ⟨w.heap.size,1,none⟩=some (.slice A1 X1.length c1)∧W.cell? ⟨w.heap.size,2,none⟩=some (.slice A2 X2.length c2)∧W.cell? ⟨w.heap.size,3,none⟩=some (.slice A3 X3.length c3)∧W.cell? ⟨w.heap.size+1,0,none⟩=some (.bool y.1)∧W.cell? ⟨w.heap.size+1,1,none⟩=some (.slice (some ⟨gb,ob,none⟩) Y1.length e1)∧W.cell? ⟨w.heap.size+1,2,none⟩=some (.slice B2 Y2.length e2)∧W.cell? ⟨w.heap.size+1,3,none⟩=some (.slice B3 Y3.length e3)∧W.cell? ⟨gb,ob,none⟩=some (.string x.2.1[m])) ((((((((wc.setCell ⟨w.heap.size+1+1,0,none⟩ (.bool x.1)).setCell ⟨w.heap.size+1+1,1,none⟩ (.slice A1 X1.length c1)).setCell ⟨w.heap.size+1+1,2,none⟩ (.slice A2 X2.length c2)).setCell ⟨w.heap.size+1+1,3,none⟩ (.slice A3 X3.length c3)).setCell ⟨w.heap.size+1+1+1,0,none⟩ (.bool y.1)).setCell ⟨w.heap.size+1+1+1,1,none⟩ (.slice (some ⟨gb,ob,none⟩) Y1.length e1)).setCell ⟨w.heap.size+1+1+1,2,none⟩ (.slice B2 Y2.length e2)).setCell ⟨w.heap.size+1+1+1,3,none⟩ (.slice B3 Y3.length e3)).drew:=⟨kx2.drew.cell 0,kx2.drew.cell 1,kx2.drew.cell 2,kx2.drew.cell 3,ky2.drew.cell 0,ky2.drew.cell 1,ky2.drew.cell 2,ky2.drew.cell 3,rc _ (o2.up (Up.refl _).drew)⟩
   have pe0:wc.cell? ⟨w.heap.size+1+1,0,none⟩=some (.bool false):=F1.z1.cell 0
   have pg0:wc.frozen? ⟨w.heap.size+1+1,0,none⟩=false:=F1.z1.frozen 0
   have pe1:wc.cell? ⟨w.heap.size+1+1,1,none⟩=some (.slice none 0 0):=F1.z1.cell 1
   have pg1:wc.frozen? ⟨w.heap.size+1+1,1,none⟩=false:=F1.z1.frozen 1
   have pe2:wc.cell? ⟨w.heap.size+1+1,2,none⟩=some (.slice none 0 0):=F1.z1.cell 2
   have pg2:wc.frozen? ⟨w.heap.size+1+1,2,none⟩=false:=F1.z1.frozen 2
   have pe3:wc.cell? ⟨w.heap.size+1+1,3,none⟩=some (.slice none 0 0):=F1.z1.cell 3
   have pg3:wc.frozen? ⟨w.heap.size+1+1,3,none⟩=false:=F1.z1.frozen 3
   have qe0:wc.cell? ⟨w.heap.size+1+1+1,0,none⟩=some (.bool false):=F1.z2.cell 0
   have qg0:wc.frozen? ⟨w.heap.size+1+1+1,0,none⟩=false:=F1.z2.frozen 0
   have qe1:wc.cell? ⟨w.heap.size+1+1+1,1,none⟩=some (.slice none 0 0):=F1.z2.cell 1
   have qg1:wc.frozen? ⟨w.heap.size+1+1+1,1,none⟩=false:=F1.z2.frozen 1
   have qe2:wc.cell? ⟨w.heap.size+1+1+1,2,none⟩=some (.slice none 0 0):=F1.z2.cell 2
   have qg2:wc.frozen? ⟨w.heap.size+1+1+1,2,none⟩=false:=F1.z2.frozen 2
   have qe3:wc.cell? ⟨w.heap.size+1+1+1,3,none⟩=some (.slice none 0 0):=F1.z2.cell 3
   have qg3:wc.frozen? ⟨w.heap.size+1+1+1,3,none⟩=false:=F1.z2.frozen 3
   have E0:=Hd d0
   have E1:=Hd d1
   have E2:=Hd d2
   have EZ:=Hd (And.intro ez1 (And.intro ez2 (And.intro o2 uE)))
   clear d0 d1 d2 ez1 ez2 o2 uE F
   clear F1 kx1 ky1 kz1 kz2 kx2 ky2 bt1 bt2 o0 o1
   go_region_held3 (fun W=>W.cell? ⟨w.heap.size,0,none⟩=some (.bool x.1)∧W.cell? ⟨w.heap.size,1,none⟩=some (.slice A1 X1.length c1)∧W.cell? ⟨w.heap.size,2,none⟩=some (.slice A2 X2.length c2)∧W.cell? ⟨w.heap.size,3,none⟩=some (.slice A3 X3.length c3)∧W.cell? ⟨w.heap.size+1,0,none⟩=some (.bool y.1)∧W.cell? ⟨w.heap.size+1,1,none⟩=some (.slice (some ⟨gb,ob,none⟩) Y1.length e1)∧W.cell? ⟨w.heap.size+1,2,none⟩=some (.slice B2 Y2.length e2)∧W.cell? ⟨w.heap.size+1,3,none⟩=some (.slice B3 Y3.length e3)∧W.cell? ⟨gb,ob,none⟩=some (.string x.2.1[m]))
    (with_reducible first | exact E0.out | exact E1.out | exact E2.out)
    (fail)
   all_goals (go_wp2_with fail;go_meet;obtain ⟨ez1,ez2,o2,uE⟩:=EZ.out;exact ⟨rfl,ez1.drew,ez2.drew,o2.up (Up.refl _).drew,uE.drew⟩)
  obtain ⟨rfl,rz1,rz2,ko,uE⟩:=hcut
  go_wp2_with fail
  refine bodyPost_ret (results_bkk rz1 rz2 _ _ _ _ Tryz.results66 rfl rfl rfl Tryz.underlying58 rfl (by kernel_rfl) (by kernel_rfl)) rfl ?_
  obtain ⟨qx1,qx2,qx3,qy1,qy2,qy3⟩:=HQ.out
  obtain ⟨hX1,hX2,hX3,hY1,hY2,hY3⟩:=HE.out
  have mg:g0∈four w g0:=by simp
  refine ⟨_,_,by rw [HM.out];rfl,?_,?_,uE⟩
  ·rw [HM.out]
   dsimp only
   rw [←hX1,←hX2,←hX3]
   exact PgK.of_rows (p:=(x.1,X1,X2,X3)) ((qx1.go ko).p mg) ((qx2.go ko).p mg) ((qx3.go ko).p mg)
  ·rw [HM.out]
   dsimp only
   rw [←hY1,←hY2,←hY3]
   exact PgK.of_rows (p:=(y.1,Y1,Y2,Y3)) ((qy1.go ko).p mg) ((qy2.go ko).p mg) ((qy3.go ko).p mg)
end Go.Proofs.YtojmcmghmnfjeaaGreatDoor
