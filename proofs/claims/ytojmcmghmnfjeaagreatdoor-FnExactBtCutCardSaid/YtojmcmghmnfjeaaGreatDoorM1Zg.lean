/-
 Parts of the proof.
-/
import Derived.Test.YtojmcmghmnfjeaaGreatDoorM1Zf
set_option maxHeartbeats 16000000
set_option maxRecDepth 100000
namespace Go.Proofs.YtojmcmghmnfjeaaGreatDoor
open Go Go.RowKit
set_option linter.unusedVariables false
set_option linter.unusedSimpArgs false
theorem moveL_leafZ {x y:TPage} {key:ByteArray} (hl:x.1=true) (h0:0<y.2.1.length) (h1:1<y.2.1.length) (hv:0<y.2.2.1.length):moveL x y key=((x.1,x.2.1++[y.2.1[0]'h0],x.2.2.1++[y.2.2.1[0]'hv],x.2.2.2),(y.1,y.2.1.drop 1,y.2.2.1.drop 1,y.2.2.2),y.2.1[1]'h1):=by
 unfold moveL
 rw [if_pos hl,getD_atY _ h0,getD_atY _ h1,getD_atY _ hv]
theorem moveL_forkZ {x y:TPage} {key:ByteArray} (hl:x.1=false) (h0:0<y.2.1.length) (hv:0<y.2.2.2.length):moveL x y key=((x.1,x.2.1++[key],x.2.2.1,x.2.2.2++[y.2.2.2[0]'hv]),(y.1,y.2.1.drop 1,y.2.2.1,y.2.2.2.drop 1),y.2.1[0]'h0):=by
 unfold moveL
 rw [if_neg (by rw [hl];decide),getD_atY _ h0,getD_atY _ hv]
theorem c_fromRight (lo bx by_:Nat) (x y:TPage) (lx ly:List Nat) (key:ByteArray) (w:World) (hx:PgB w lo bx x lx) (hy:PgB w lo by_ y ly) (hxy:∀q∈lx,q∉ly) (hlo:lo≤w.heap.size) (fx:Fine x) (fy:Fine y) (he:x.1=y.1) (hr:3<fillOf y) (h2:2≤fillOf x) (hk:key.size≤maxLen) :
 Calls Tryz.prog 117 #[.pointer (some ⟨bx,0,none⟩),.pointer (some ⟨by_,0,none⟩),.string key] w (fun e w'=>e=.returned (.string (moveL x y key).2.2)∧Two w lo (lx++ly) w' bx (moveL x y key).1 by_ (moveL x y key).2.1):=by
 obtain ⟨lx1,lx2,lx3⟩:=fine_lens fx
 obtain ⟨ly1,ly2,ly3⟩:=fine_lens fy
 have T0:Two w lo (lx++ly) w bx x by_ y:=⟨lx,ly,hx,hy,hxy,fun q hq=>.inl hq,Only.refl _ _⟩
 generalize lx++ly=L at T0 ⊢
 clear hx hy hxy lx ly
 obtain ⟨i0,hi0,hz0,hz1,hz2⟩:=info_parts cinfo_StrZ
 obtain ⟨j0,hj0,hq0,hq1,hq2⟩:=info_parts cinfo_IntZ
 cases hl:x.1
 ·have hly:y.1=false:=he▸hl
  rw [fill_fork hly] at hr
  rw [fill_fork hl] at h2
  obtain ⟨hvx,hix⟩:=fx.fork hl
  obtain ⟨hvy,hiy⟩:=fy.fork hly
  have hk0:0<y.2.1.length:=by omega
  have hk1:1<y.2.1.length:=by omega
  have hv0:0<y.2.2.2.length:=by omega
  have hk0i:(0:Int)<(y.2.1.length:Int):=by omega
  have hk1i:(1:Int)≤(y.2.1.length:Int):=by omega
  have hv3:1<y.2.2.2.length:=by omega
  have hv0i:(0:Int)<(y.2.2.2.length:Int):=by omega
  have hv1i:(1:Int)≤(y.2.2.2.length:Int):=by omega
  have hkm:y.2.1[0].size≤maxLen:=Nat.le_trans (fy.keys _ (List.getElem_mem hk0)) (by unfold maxLen;omega)
  have hvm:I64 y.2.2.2[0]:=by
   have:=fy.kids _ (List.getElem_mem hv0)
   exact ⟨by omega,by omega⟩
  have HM:=Hd (moveL_forkZ (x:=x) (key:=key) hl hk0 hv0)
  obtain ⟨lx,ly,hxB,hyB,hxy,hsub,hon⟩:=T0
  have hxB0:=hxB
  obtain ⟨A1,c1,a1,A2,c2,a2,A3,c3,a3,px,rfl⟩:=hxB
  have hyB0:=hyB
  obtain ⟨B1,e1,d1,B2,e2,d2,B3,e3,d3,py,rfl⟩:=hyB
  obtain ⟨gb,ob,rfl,eb,rb⟩:=py.s1.addr1 one1_S (by omega)
  have hcb:=rb.len
  have hce:¬(e1=1):=by omega
  have hcb1:(1:Int)≤(e1:Int):=by omega
  have hcb2:(y.2.1.length:Int)≤(e1:Int):=by omega
  have hck:w.cell? ⟨gb,ob,none⟩=some (.string y.2.1[0]):=(rb.cell (k:=0) hk0).1
  have gy1:w.cell? ⟨by_,1,none⟩=some (.slice (some ⟨gb,ob,none⟩) y.2.1.length e1):=py.box.cell 1
  have fy1:=py.box.frozen 1
  have hbx:bx≠by_:=fun e=>hxy bx (List.mem_cons_self ..) (by rw [e];exact List.mem_cons_self ..)
  have HP:=two_y hxB0 hyB0 hxy hsub hon (py.drop1 (m:=y.2.1.length-1) (d:=e1-1) (by omega) rfl)
  have gx0b:(w.setCell ⟨by_,1,none⟩ (.slice (some ⟨gb,ob+1,none⟩) (y.2.1.length-1) (e1-1))).cell? ⟨bx,0,none⟩=some (.bool false):=by have h:(w.setCell ⟨by_,1,none⟩ (.slice (some ⟨gb,ob+1,none⟩) (y.2.1.length-1) (e1-1))).cell? ⟨bx,0,none⟩=some (.bool x.1):=(px.box.far (p:=⟨by_,1,none⟩) hbx _).cell 0;rw [hl] at h;exact h
  have HL:=Hd (And.intro hl (And.intro hly (And.intro hvx (And.intro hvy (And.intro hix hiy)))))
  clear px py hxB0 hyB0 hxy hsub hon he hl hly hvx hvy hix hiy rb hr h2 fx fy
  go_enter Tryz.func117,Tryz.ntmps117
  go_upto_region 7 with fail
  generalize (w.setCell ⟨by_,1,none⟩ (.slice (some ⟨gb,ob+1,none⟩) (y.2.1.length-1) (e1-1)))=W1 at HP gx0b ⊢
  clear gx0b gy1 fy1 hck eb hcb hce hcb1 hcb2 hbx
  go_cut [] (fun wx=>Two w lo L wx bx (x.1,(x.2.1++[key]),x.2.2.1,(x.2.2.2++[y.2.2.2[0]])) by_ (y.1,(y.2.1.drop 1),y.2.2.1,y.2.2.2))
  case first =>
   obtain ⟨wc,hwc⟩:∃wc,wc=W1:=⟨_,rfl⟩
   rw [←hwc] at HP ⊢
   clear hwc
   obtain ⟨lx,ly,hxB,hyB,hxy,hsub,hon⟩:=HP
   have hxB0:=hxB
   obtain ⟨A1,c1,a1,A2,c2,a2,A3,c3,a3,px,rfl⟩:=hxB
   have hyB0:=hyB
   obtain ⟨B1,e1,d1,B2,e2,d2,B3,e3,d3,py,rfl⟩:=hyB
   obtain ⟨ga,oa,rfl,ea,ra⟩:=py.s3.addr1 one1_I (by show 0<y.2.2.2.length;omega)
   have hck:wc.cell? ⟨ga,oa,none⟩=some (.int .i64 y.2.2.2[0]):=(ra.cell (k:=0) hv0).1
   have hin:=px.in_
   have hbn:=(List.nodup_cons.1 px.nd).1
   have mm:∀q∈a1++a3,q∈bx::(a1++a2++a3):=fun q hq=>by rcases List.mem_append.1 hq with hq | hq <;> simp [hq]
   have mn:∀q∈a1++a3,q≠bx:=fun q hq e=>hbn (by rw [←e];rcases List.mem_append.1 hq with hq | hq <;> simp [hq])
   have mo:∀q∈a1++a3,q≠by_∧q≠ga:=fun q hq=>⟨fun e=>hxy q (mm q hq) (by rw [e];exact List.mem_cons_self ..),fun e=>hxy q (mm q hq) (by rw [e,ea];simp)⟩
   have SK:∀V,Only (a1++a3) wc V→(V.cell? ⟨bx,1,none⟩=some (.slice A1 x.2.1.length c1)∧V.cell? ⟨bx,3,none⟩=some (.slice A3 x.2.2.2.length c3)∧V.cell? ⟨by_,3,none⟩=some (.slice (some ⟨ga,oa,none⟩) y.2.2.2.length e3)∧V.cell? ⟨ga,oa,none⟩=some (.int .i64 y.2.2.2[0])):=fun V k=>⟨(px.box.only k (fun h=>mn _ h rfl)).cell 1,(px.box.only k (fun h=>mn _ h rfl)).cell 3,(py.box.only k (fun h=>(mo _ h).1 rfl)).cell 3,(World.cell?_of_block (k.block ga (cell_lt hck) (fun h=>(mo _ h).2 rfl))).trans hck⟩
   have SKH:=Hd SK
   have PT:=Hd px
   have hd1:∀q∈a1,q<wc.heap.size:=fun q hq=>(hin q (mm q (List.mem_append_left _ hq))).2
   have hd2:∀q∈a3,q<wc.heap.size:=fun q hq=>(hin q (mm q (List.mem_append_right _ hq))).2
   have hlw:lo≤wc.heap.size:=Nat.le_trans hlo hon.size
   have HA:=Hd (And.intro hxB0 (And.intro hyB0 (And.intro hxy (And.intro hsub hon))))
   clear hxB0 hyB0 hxy hsub hon px py hck hin hbn mm mn mo ra SK
   refine wp_region_U (fun W=>W.cell? ⟨bx,1,none⟩=some (.slice A1 x.2.1.length c1)∧W.cell? ⟨bx,3,none⟩=some (.slice A3 x.2.2.2.length c3)∧W.cell? ⟨by_,3,none⟩=some (.slice (some ⟨ga,oa,none⟩) y.2.2.2.length e3)∧W.cell? ⟨ga,oa,none⟩=some (.int .i64 y.2.2.2[0])) 21 (by kernel_rfl) ?_
   have hS:(fun W:World=>W.cell? ⟨bx,1,none⟩=some (.slice A1 x.2.1.length c1)∧W.cell? ⟨bx,3,none⟩=some (.slice A3 x.2.2.2.length c3)∧W.cell? ⟨by_,3,none⟩=some (.slice (some ⟨ga,oa,none⟩) y.2.2.2.length e3)∧W.cell? ⟨ga,oa,none⟩=some (.int .i64 y.2.2.2[0])) wc.drew:=SKH.out _ (Only.of_up (Up.refl wc).drew)
   try simp only [Act.put,sI,sZ,sS]
   refine tP 0 rfl (fun _ _ _ h=>h) hS ?_
   refine tP 1 rfl (fun _ _ _ h=>h) hS ?_
   refine tP 2 rfl (fun _ _ _ h=>h) hS ?_
   refine tP 3 rfl (fun _ _ _ h=>h) hS ?_
   refine tP 4 rfl (fun _ _ _ h=>h) hS ?_
   refine tL 5 rfl (fun _ _ _ h=>h) hS ?_
   refine tP 6 rfl (fun _ _ _ h=>h) hS ?_
   refine tP 9 rfl (fun _ _ _ h=>h) hS ?_
   refine tP 10 rfl (fun _ _ _ h=>h) hS ?_
   refine tP 11 rfl (fun _ _ _ h=>h) hS ?_
   refine tL 12 rfl (fun _ _ _ h=>h) hS ?_
   refine tP 13 rfl (fun _ _ _ h=>h) hS ?_
   refine tP 14 rfl (fun _ _ _ h=>h) hS ?_
   refine tP 15 rfl (fun _ _ _ h=>h) hS ?_
   refine tL 16 rfl (fun _ _ _ h=>h) hS ?_
   refine tP 17 rfl (fun _ _ _ h=>h) hS ?_
   refine tL 18 rfl (fun _ _ _ h=>h) hS ?_
   refine rU [7,19] ?_
   refine AllReadyU.cons rfl (fun K hK=>?_) ?_
   ·go_simp
    have ua1:Up wc.drew (wc.drew.alloc (.cells #[.string key] 9)):=(Up.refl _).alloc _
    have kb1:Bk (wc.drew.alloc (.cells #[.string key] 9)) (wc.heap.size) 9 #[.string key]:=Bk.new wc.drew 9 #[.string key]
    have uc1:Up wc (wc.drew.alloc (.cells #[.string key] 9)):=((Up.refl wc).drew).trans ua1
    have oc:Only (a1++a3) wc (wc.drew.alloc (.cells #[.string key] 9)):=Only.of_up uc1
    have zz1:wc.heap.size≤wc.drew.heap.size:=((Up.refl wc).drew).size
    refine hK.out _ _ (SKH.out _ oc) (fun hS=>?_)
    clear hK K
    try simp only [Act.put,sI,sZ,sS]
    refine rU [8,19] ?_
    refine AllReadyU.cons rfl (fun K hK=>?_) ?_
    ·have T0y:=(PgR.start PT.out).up (uc1)
     have hb1:(x.2.1.length+[key].length)*i0.bytes≤140737488355328:=by rw [hz2];simp;omega
     have hb2:x.2.1.length+[key].length≤maxLen:=by simp;unfold maxLen;omega
     refine step_app good_S rfl _ _ _ _ 9 rfl i0 _ Tryz.underlying52 hi0 hz0 hz1 (by rfl) (lo:=lo) (xs:=x.2.1) (ys:=[key]) (bl:=a1) (bs:=[[]]) (news:=[.string key]) rfl rfl T0y.pg.s1 (by simpa using PT.out.nd1.1) (Src.box (t:=9) (cs:=[.string key]) Tryz.underlying52 kb1 (by simp [Value.oneCell']) (by rw [hz1];rfl)) (Rowed.one good_S (show shS.own _ _ _ [.string key] (key) [] from ⟨⟨rfl,hk⟩,rfl⟩)) (Nat.le_trans hlw (uc1).size) hb1 hb2 ?_
     intro D1 f1 bl1 w1 hap
     obtain ⟨so1,nd1,hm10,on1⟩:=hap
     have hm1:∀q∈bl1,q∈a1∨_≤q:=fun q hq=>(hm10 q hq).imp_left (fun h=>by simpa using h)
     clear hm10 hb1 hb2
     simp only [List.length_cons,List.length_nil,Nat.zero_add]
     have T1:=T0y.row1 so1 nd1 hm1 on1
     replace oc:Only (a1++a3) wc w1:=only_via oc on1 (fun q hq=>.inl (List.mem_append_left _ hq))
     have zw1:wc.heap.size≤w1.heap.size:=T1.on.size
     clear T0y so1 nd1 hm1 on1 kb1
     refine hK.out _ _ (SKH.out _ oc) (fun hS=>?_)
     clear hK K
     try simp only [Act.put,sI,sZ,sS]
     refine rU [19] ?_
     refine AllReadyU.cons rfl (fun K hK=>?_) AllReadyU.nil
     go_simp
     have ua2:Up w1 (w1.alloc (.cells #[.int .i64 y.2.2.2[0]] 2)):=(Up.refl _).alloc _
     have kb2:Bk (w1.alloc (.cells #[.int .i64 y.2.2.2[0]] 2)) (w1.heap.size) 2 #[.int .i64 y.2.2.2[0]]:=Bk.new w1 2 #[.int .i64 y.2.2.2[0]]
     replace T1:=T1.up ua2
     replace oc:=oc.up ua2
     have zz2:wc.heap.size≤w1.heap.size:=zw1
     refine hK.out _ _ (SKH.out _ oc) (fun hS=>?_)
     clear hK K
     try simp only [Act.put,sI,sZ,sS]
     refine rU [20] ?_
     refine AllReadyU.cons rfl (fun K hK=>?_) AllReadyU.nil
     have hb1:(x.2.2.2.length+[y.2.2.2[0]].length)*j0.bytes≤140737488355328:=by rw [hq2];simp;omega
     have hb2:x.2.2.2.length+[y.2.2.2[0]].length≤maxLen:=by simp;unfold maxLen;omega
     refine step_app good_I rfl _ _ _ _ 2 rfl j0 _ Tryz.underlying53 hj0 hq0 hq1 (by rfl) (lo:=lo) (xs:=x.2.2.2) (ys:=[y.2.2.2[0]]) (bl:=a3) (bs:=[[]]) (news:=[.int .i64 y.2.2.2[0]]) rfl rfl T1.pg.s3 (by simpa using PT.out.nd1.2.2) (Src.box (t:=2) (cs:=[.int .i64 y.2.2.2[0]]) Tryz.underlying53 kb2 (by simp [Value.oneCell']) (by rw [hq1];rfl)) (Rowed.one good_I (show shI.own _ _ _ [.int .i64 y.2.2.2[0]] (y.2.2.2[0]) [] from ⟨⟨rfl,hvm⟩,rfl⟩)) (Nat.le_trans hlw T1.on.size) hb1 hb2 ?_
     intro D2 f2 bl2 w2 hap
     obtain ⟨so2,nd2,hm20,on2⟩:=hap
     have hm2:∀q∈bl2,q∈a3∨_≤q:=fun q hq=>(hm20 q hq).imp_left (fun h=>by simpa using h)
     clear hm20 hb1 hb2
     simp only [List.length_cons,List.length_nil,Nat.zero_add]
     have T2:=T1.row3 so2 nd2 hm2 on2
     have oc2:Only (a1++a3) wc w2:=only_via oc on2 (fun q hq=>.inl (List.mem_append_right _ hq))
     clear T1 so2 nd2 hm2 on2 kb2
     refine hK.out _ _ (SKH.out _ oc2) (fun hS=>?_)
     clear hK K
     try simp only [Act.put,sI,sZ,sS]
     refine wpAnyU_line 5 (by as_aux_lemma=>kernel_rfl) rfl (by decide) ?_
     simp only [List.drop_succ_cons,List.drop_zero]
     have gq1:=T2.pg.box.cell 1
     have fq1:=T2.pg.box.frozen 1
     have T3:=T2.set 1 (.slice D1 (x.2.1++[key]).length f1)
     have gq2:=T3.pg.box.cell 3
     have fq2:=T3.pg.box.frozen 3
     have T4:=(T3.set 3 (.slice D2 (x.2.2.2++[y.2.2.2[0]]).length f2)).done (by rfl)
     clear T2 T3 hS
     simp only [List.length_cons,List.length_append,List.length_nil,Nat.zero_add] at gq1 fq1 gq2 fq2 T4
     go_wp2_with fail
     go_meet
     obtain ⟨q1,q2,q3,q4,q5⟩:=HA.out
     exact two_x q1 q2 q3 q4 q5 T4
    refine AllReadyU.cons rfl (fun K hK=>?_) AllReadyU.nil
    go_simp
    have ua2:Up (wc.drew.alloc (.cells #[.string key] 9)) ((wc.drew.alloc (.cells #[.string key] 9)).alloc (.cells #[.int .i64 y.2.2.2[0]] 2)):=(Up.refl _).alloc _
    have kb2:Bk ((wc.drew.alloc (.cells #[.string key] 9)).alloc (.cells #[.int .i64 y.2.2.2[0]] 2)) (wc.heap.size+1) 2 #[.int .i64 y.2.2.2[0]]:=by simpa using Bk.new (wc.drew.alloc (.cells #[.string key] 9)) 2 #[.int .i64 y.2.2.2[0]]
    replace kb1:=kb1.up ua2
    have uc2:Up wc ((wc.drew.alloc (.cells #[.string key] 9)).alloc (.cells #[.int .i64 y.2.2.2[0]] 2)):=(uc1).trans ua2
    have oc:Only (a1++a3) wc ((wc.drew.alloc (.cells #[.string key] 9)).alloc (.cells #[.int .i64 y.2.2.2[0]] 2)):=Only.of_up uc2
    have zz2:wc.heap.size≤(wc.drew.alloc (.cells #[.string key] 9)).heap.size:=(uc1).size
    refine hK.out _ _ (SKH.out _ oc) (fun hS=>?_)
    clear hK K
    try simp only [Act.put,sI,sZ,sS]
    refine rU [8] ?_
    refine AllReadyU.cons rfl (fun K hK=>?_) AllReadyU.nil
    have T0y:=(PgR.start PT.out).up (uc2)
    have hb1:(x.2.1.length+[key].length)*i0.bytes≤140737488355328:=by rw [hz2];simp;omega
    have hb2:x.2.1.length+[key].length≤maxLen:=by simp;unfold maxLen;omega
    refine step_app good_S rfl _ _ _ _ 9 rfl i0 _ Tryz.underlying52 hi0 hz0 hz1 (by rfl) (lo:=lo) (xs:=x.2.1) (ys:=[key]) (bl:=a1) (bs:=[[]]) (news:=[.string key]) rfl rfl T0y.pg.s1 (by simpa using PT.out.nd1.1) (Src.box (t:=9) (cs:=[.string key]) Tryz.underlying52 kb1 (by simp [Value.oneCell']) (by rw [hz1];rfl)) (Rowed.one good_S (show shS.own _ _ _ [.string key] (key) [] from ⟨⟨rfl,hk⟩,rfl⟩)) (Nat.le_trans hlw (uc2).size) hb1 hb2 ?_
    intro D1 f1 bl1 w1 hap
    obtain ⟨so1,nd1,hm10,on1⟩:=hap
    have hm1:∀q∈bl1,q∈a1∨_≤q:=fun q hq=>(hm10 q hq).imp_left (fun h=>by simpa using h)
    clear hm10 hb1 hb2
    simp only [List.length_cons,List.length_nil,Nat.zero_add]
    have T1:=T0y.row1 so1 nd1 hm1 on1
    replace oc:Only (a1++a3) wc w1:=only_via oc on1 (fun q hq=>.inl (List.mem_append_left _ hq))
    replace kb2:=kb2.only on1 (fun hh=>by have:=hd1 _ hh;omega)
    have zw1:wc.heap.size≤w1.heap.size:=T1.on.size
    clear T0y so1 nd1 hm1 on1 kb1
    refine hK.out _ _ (SKH.out _ oc) (fun hS=>?_)
    clear hK K
    try simp only [Act.put,sI,sZ,sS]
    refine rU [20] ?_
    refine AllReadyU.cons rfl (fun K hK=>?_) AllReadyU.nil
    have hb1:(x.2.2.2.length+[y.2.2.2[0]].length)*j0.bytes≤140737488355328:=by rw [hq2];simp;omega
    have hb2:x.2.2.2.length+[y.2.2.2[0]].length≤maxLen:=by simp;unfold maxLen;omega
    refine step_app good_I rfl _ _ _ _ 2 rfl j0 _ Tryz.underlying53 hj0 hq0 hq1 (by rfl) (lo:=lo) (xs:=x.2.2.2) (ys:=[y.2.2.2[0]]) (bl:=a3) (bs:=[[]]) (news:=[.int .i64 y.2.2.2[0]]) rfl rfl T1.pg.s3 (by simpa using PT.out.nd1.2.2) (Src.box (t:=2) (cs:=[.int .i64 y.2.2.2[0]]) Tryz.underlying53 kb2 (by simp [Value.oneCell']) (by rw [hq1];rfl)) (Rowed.one good_I (show shI.own _ _ _ [.int .i64 y.2.2.2[0]] (y.2.2.2[0]) [] from ⟨⟨rfl,hvm⟩,rfl⟩)) (Nat.le_trans hlw T1.on.size) hb1 hb2 ?_
    intro D2 f2 bl2 w2 hap
    obtain ⟨so2,nd2,hm20,on2⟩:=hap
    have hm2:∀q∈bl2,q∈a3∨_≤q:=fun q hq=>(hm20 q hq).imp_left (fun h=>by simpa using h)
    clear hm20 hb1 hb2
    simp only [List.length_cons,List.length_nil,Nat.zero_add]
    have T2:=T1.row3 so2 nd2 hm2 on2
    have oc2:Only (a1++a3) wc w2:=only_via oc on2 (fun q hq=>.inl (List.mem_append_right _ hq))
    clear T1 so2 nd2 hm2 on2 kb2
    refine hK.out _ _ (SKH.out _ oc2) (fun hS=>?_)
    clear hK K
    try simp only [Act.put,sI,sZ,sS]
    refine wpAnyU_line 5 (by as_aux_lemma=>kernel_rfl) rfl (by decide) ?_
    simp only [List.drop_succ_cons,List.drop_zero]
    have gq1:=T2.pg.box.cell 1
    have fq1:=T2.pg.box.frozen 1
    have T3:=T2.set 1 (.slice D1 (x.2.1++[key]).length f1)
    have gq2:=T3.pg.box.cell 3
    have fq2:=T3.pg.box.frozen 3
    have T4:=(T3.set 3 (.slice D2 (x.2.2.2++[y.2.2.2[0]]).length f2)).done (by rfl)
    clear T2 T3 hS
    simp only [List.length_cons,List.length_append,List.length_nil,Nat.zero_add] at gq1 fq1 gq2 fq2 T4
    go_wp2_with fail
    go_meet
    obtain ⟨q1,q2,q3,q4,q5⟩:=HA.out
    exact two_x q1 q2 q3 q4 q5 T4
   refine AllReadyU.cons rfl (fun K hK=>?_) AllReadyU.nil
   go_simp
   have ua2:Up wc.drew (wc.drew.alloc (.cells #[.int .i64 y.2.2.2[0]] 2)):=(Up.refl _).alloc _
   have kb2:Bk (wc.drew.alloc (.cells #[.int .i64 y.2.2.2[0]] 2)) (wc.heap.size) 2 #[.int .i64 y.2.2.2[0]]:=Bk.new wc.drew 2 #[.int .i64 y.2.2.2[0]]
   have uc2:Up wc (wc.drew.alloc (.cells #[.int .i64 y.2.2.2[0]] 2)):=((Up.refl wc).drew).trans ua2
   have oc:Only (a1++a3) wc (wc.drew.alloc (.cells #[.int .i64 y.2.2.2[0]] 2)):=Only.of_up uc2
   have zz2:wc.heap.size≤wc.drew.heap.size:=((Up.refl wc).drew).size
   refine hK.out _ _ (SKH.out _ oc) (fun hS=>?_)
   clear hK K
   try simp only [Act.put,sI,sZ,sS]
   refine rU [7] ?_
   refine AllReadyU.cons rfl (fun K hK=>?_) AllReadyU.nil
   go_simp
   have ua1:Up (wc.drew.alloc (.cells #[.int .i64 y.2.2.2[0]] 2)) ((wc.drew.alloc (.cells #[.int .i64 y.2.2.2[0]] 2)).alloc (.cells #[.string key] 9)):=(Up.refl _).alloc _
   have kb1:Bk ((wc.drew.alloc (.cells #[.int .i64 y.2.2.2[0]] 2)).alloc (.cells #[.string key] 9)) (wc.heap.size+1) 9 #[.string key]:=by simpa using Bk.new (wc.drew.alloc (.cells #[.int .i64 y.2.2.2[0]] 2)) 9 #[.string key]
   replace kb2:=kb2.up ua1
   have uc1:Up wc ((wc.drew.alloc (.cells #[.int .i64 y.2.2.2[0]] 2)).alloc (.cells #[.string key] 9)):=(uc2).trans ua1
   have oc:Only (a1++a3) wc ((wc.drew.alloc (.cells #[.int .i64 y.2.2.2[0]] 2)).alloc (.cells #[.string key] 9)):=Only.of_up uc1
   have zz1:wc.heap.size≤(wc.drew.alloc (.cells #[.int .i64 y.2.2.2[0]] 2)).heap.size:=(uc2).size
   refine hK.out _ _ (SKH.out _ oc) (fun hS=>?_)
   clear hK K
   try simp only [Act.put,sI,sZ,sS]
   refine rU [8] ?_
   refine AllReadyU.cons rfl (fun K hK=>?_) AllReadyU.nil
   have T0y:=(PgR.start PT.out).up (uc1)
   have hb1:(x.2.1.length+[key].length)*i0.bytes≤140737488355328:=by rw [hz2];simp;omega
   have hb2:x.2.1.length+[key].length≤maxLen:=by simp;unfold maxLen;omega
   refine step_app good_S rfl _ _ _ _ 9 rfl i0 _ Tryz.underlying52 hi0 hz0 hz1 (by rfl) (lo:=lo) (xs:=x.2.1) (ys:=[key]) (bl:=a1) (bs:=[[]]) (news:=[.string key]) rfl rfl T0y.pg.s1 (by simpa using PT.out.nd1.1) (Src.box (t:=9) (cs:=[.string key]) Tryz.underlying52 kb1 (by simp [Value.oneCell']) (by rw [hz1];rfl)) (Rowed.one good_S (show shS.own _ _ _ [.string key] (key) [] from ⟨⟨rfl,hk⟩,rfl⟩)) (Nat.le_trans hlw (uc1).size) hb1 hb2 ?_
   intro D1 f1 bl1 w1 hap
   obtain ⟨so1,nd1,hm10,on1⟩:=hap
   have hm1:∀q∈bl1,q∈a1∨_≤q:=fun q hq=>(hm10 q hq).imp_left (fun h=>by simpa using h)
   clear hm10 hb1 hb2
   simp only [List.length_cons,List.length_nil,Nat.zero_add]
   have T1:=T0y.row1 so1 nd1 hm1 on1
   replace oc:Only (a1++a3) wc w1:=only_via oc on1 (fun q hq=>.inl (List.mem_append_left _ hq))
   replace kb2:=kb2.only on1 (fun hh=>by have:=hd1 _ hh;omega)
   have zw1:wc.heap.size≤w1.heap.size:=T1.on.size
   clear T0y so1 nd1 hm1 on1 kb1
   refine hK.out _ _ (SKH.out _ oc) (fun hS=>?_)
   clear hK K
   try simp only [Act.put,sI,sZ,sS]
   refine rU [20] ?_
   refine AllReadyU.cons rfl (fun K hK=>?_) AllReadyU.nil
   have hb1:(x.2.2.2.length+[y.2.2.2[0]].length)*j0.bytes≤140737488355328:=by rw [hq2];simp;omega
   have hb2:x.2.2.2.length+[y.2.2.2[0]].length≤maxLen:=by simp;unfold maxLen;omega
   refine step_app good_I rfl _ _ _ _ 2 rfl j0 _ Tryz.underlying53 hj0 hq0 hq1 (by rfl) (lo:=lo) (xs:=x.2.2.2) (ys:=[y.2.2.2[0]]) (bl:=a3) (bs:=[[]]) (news:=[.int .i64 y.2.2.2[0]]) rfl rfl T1.pg.s3 (by simpa using PT.out.nd1.2.2) (Src.box (t:=2) (cs:=[.int .i64 y.2.2.2[0]]) Tryz.underlying53 kb2 (by simp [Value.oneCell']) (by rw [hq1];rfl)) (Rowed.one good_I (show shI.own _ _ _ [.int .i64 y.2.2.2[0]] (y.2.2.2[0]) [] from ⟨⟨rfl,hvm⟩,rfl⟩)) (Nat.le_trans hlw T1.on.size) hb1 hb2 ?_
   intro D2 f2 bl2 w2 hap
   obtain ⟨so2,nd2,hm20,on2⟩:=hap
   have hm2:∀q∈bl2,q∈a3∨_≤q:=fun q hq=>(hm20 q hq).imp_left (fun h=>by simpa using h)
   clear hm20 hb1 hb2
   simp only [List.length_cons,List.length_nil,Nat.zero_add]
   have T2:=T1.row3 so2 nd2 hm2 on2
   have oc2:Only (a1++a3) wc w2:=only_via oc on2 (fun q hq=>.inl (List.mem_append_right _ hq))
   clear T1 so2 nd2 hm2 on2 kb2
   refine hK.out _ _ (SKH.out _ oc2) (fun hS=>?_)
   clear hK K
   try simp only [Act.put,sI,sZ,sS]
   refine wpAnyU_line 5 (by as_aux_lemma=>kernel_rfl) rfl (by decide) ?_
   simp only [List.drop_succ_cons,List.drop_zero]
   have gq1:=T2.pg.box.cell 1
   have fq1:=T2.pg.box.frozen 1
   have T3:=T2.set 1 (.slice D1 (x.2.1++[key]).length f1)
   have gq2:=T3.pg.box.cell 3
   have fq2:=T3.pg.box.frozen 3
   have T4:=(T3.set 3 (.slice D2 (x.2.2.2++[y.2.2.2[0]]).length f2)).done (by rfl)
   clear T2 T3 hS
   simp only [List.length_cons,List.length_append,List.length_nil,Nat.zero_add] at gq1 fq1 gq2 fq2 T4
   go_wp2_with fail
   go_meet
   obtain ⟨q1,q2,q3,q4,q5⟩:=HA.out
   exact two_x q1 q2 q3 q4 q5 T4
  clear HP
  have HP:=hcut
  clear hcut
  obtain ⟨lx,ly,hxB,hyB,hxy,hsub,hon⟩:=HP
  have hxB0:=hxB
  obtain ⟨A1,c1,a1,A2,c2,a2,A3,c3,a3,px,rfl⟩:=hxB
  have hyB0:=hyB
  obtain ⟨B1,e1,d1,B2,e2,d2,B3,e3,d3,py,rfl⟩:=hyB
  obtain ⟨gb,ob,rfl,eb,rb⟩:=py.s3.addr1 one1_I (by show 0<y.2.2.2.length;omega)
  have hcb:y.2.2.2.length≤e3:=rb.len
  have hcb0:1<y.2.2.2.length:=hv3
  have hce:¬(e3=1):=by omega
  have hcb1:(1:Int)≤(e3:Int):=by omega
  have hcb2:(y.2.2.2.length:Int)≤(e3:Int):=by omega
  have gy2:wc.cell? ⟨by_,3,none⟩=some (.slice (some ⟨gb,ob,none⟩) y.2.2.2.length e3):=py.box.cell 3
  have fy2:=py.box.frozen 3
  have HF0:=two_y hxB0 hyB0 hxy hsub hon (py.drop3 (m:=y.2.2.2.length-1) (d:=e3-1) (by show y.2.2.2.length-1+1=y.2.2.2.length;omega) rfl)
  clear px py hxB0 hyB0 hxy hsub hon rb eb
  have HF:=Hd HF0
  clear HF0
  go_wp2_with fail
  go_ret
  rw [HM.out]
  exact ⟨rfl,HF.out⟩
 ·have hly:y.1=true:=he▸hl
  rw [fill_leaf hly] at hr
  rw [fill_leaf hl] at h2
  obtain ⟨hvx,hix⟩:=fx.leaf hl
  obtain ⟨hvy,hiy⟩:=fy.leaf hly
  have hk0:0<y.2.1.length:=by omega
  have hk1:1<y.2.1.length:=by omega
  have hv0:0<y.2.2.1.length:=by omega
  have hk0i:(0:Int)<(y.2.1.length:Int):=by omega
  have hk1i:(1:Int)≤(y.2.1.length:Int):=by omega
  have hv3:1<y.2.2.1.length:=by omega
  have hv0i:(0:Int)<(y.2.2.1.length:Int):=by omega
  have hv1i:(1:Int)≤(y.2.2.1.length:Int):=by omega
  have hkm:y.2.1[0].size≤maxLen:=Nat.le_trans (fy.keys _ (List.getElem_mem hk0)) (by unfold maxLen;omega)
  have hvm:y.2.2.1[0].size≤maxLen:=Nat.le_trans (fy.vals _ (List.getElem_mem hv0)) (by unfold maxLen;omega)
  have HM:=Hd (moveL_leafZ (x:=x) (key:=key) hl hk0 hk1 hv0)
  obtain ⟨lx,ly,hxB,hyB,hxy,hsub,hon⟩:=T0
  have hxB0:=hxB
  obtain ⟨A1,c1,a1,A2,c2,a2,A3,c3,a3,px,rfl⟩:=hxB
  have hyB0:=hyB
  obtain ⟨B1,e1,d1,B2,e2,d2,B3,e3,d3,py,rfl⟩:=hyB
  obtain ⟨gb,ob,rfl,eb,rb⟩:=py.s1.addr1 one1_S (by omega)
  have hcb:=rb.len
  have hce:¬(e1=1):=by omega
  have hcb1:(1:Int)≤(e1:Int):=by omega
  have hcb2:(y.2.1.length:Int)≤(e1:Int):=by omega
  have hck:w.cell? ⟨gb,ob,none⟩=some (.string y.2.1[0]):=(rb.cell (k:=0) hk0).1
  have gy1:w.cell? ⟨by_,1,none⟩=some (.slice (some ⟨gb,ob,none⟩) y.2.1.length e1):=py.box.cell 1
  have fy1:=py.box.frozen 1
  have hbx:bx≠by_:=fun e=>hxy bx (List.mem_cons_self ..) (by rw [e];exact List.mem_cons_self ..)
  have HP:=two_y hxB0 hyB0 hxy hsub hon (py.drop1 (m:=y.2.1.length-1) (d:=e1-1) (by omega) rfl)
  have gx0b:(w.setCell ⟨by_,1,none⟩ (.slice (some ⟨gb,ob+1,none⟩) (y.2.1.length-1) (e1-1))).cell? ⟨bx,0,none⟩=some (.bool true):=by have h:(w.setCell ⟨by_,1,none⟩ (.slice (some ⟨gb,ob+1,none⟩) (y.2.1.length-1) (e1-1))).cell? ⟨bx,0,none⟩=some (.bool x.1):=(px.box.far (p:=⟨by_,1,none⟩) hbx _).cell 0;rw [hl] at h;exact h
  have HL:=Hd (And.intro hl (And.intro hly (And.intro hvx (And.intro hvy (And.intro hix hiy)))))
  clear px py hxB0 hyB0 hxy hsub hon he hl hly hvx hvy hix hiy rb hr h2 fx fy
  go_enter Tryz.func117,Tryz.ntmps117
  go_upto_region 4 with fail
  generalize (w.setCell ⟨by_,1,none⟩ (.slice (some ⟨gb,ob+1,none⟩) (y.2.1.length-1) (e1-1)))=W1 at HP gx0b ⊢
  clear gx0b gy1 fy1 hck eb hcb hce hcb1 hcb2 hbx
  go_cut [] (fun wx=>Two w lo L wx bx (x.1,(x.2.1++[y.2.1[0]]),(x.2.2.1++[y.2.2.1[0]]),x.2.2.2) by_ (y.1,(y.2.1.drop 1),y.2.2.1,y.2.2.2))
  case first =>
   obtain ⟨wc,hwc⟩:∃wc,wc=W1:=⟨_,rfl⟩
   rw [←hwc] at HP ⊢
   clear hwc
   obtain ⟨lx,ly,hxB,hyB,hxy,hsub,hon⟩:=HP
   have hxB0:=hxB
   obtain ⟨A1,c1,a1,A2,c2,a2,A3,c3,a3,px,rfl⟩:=hxB
   have hyB0:=hyB
   obtain ⟨B1,e1,d1,B2,e2,d2,B3,e3,d3,py,rfl⟩:=hyB
   obtain ⟨ga,oa,rfl,ea,ra⟩:=py.s2.addr1 one1_S (by show 0<y.2.2.1.length;omega)
   have hck:wc.cell? ⟨ga,oa,none⟩=some (.string y.2.2.1[0]):=(ra.cell (k:=0) hv0).1
   have hin:=px.in_
   have hbn:=(List.nodup_cons.1 px.nd).1
   have mm:∀q∈a1++a2,q∈bx::(a1++a2++a3):=fun q hq=>by rcases List.mem_append.1 hq with hq | hq <;> simp [hq]
   have mn:∀q∈a1++a2,q≠bx:=fun q hq e=>hbn (by rw [←e];rcases List.mem_append.1 hq with hq | hq <;> simp [hq])
   have mo:∀q∈a1++a2,q≠by_∧q≠ga:=fun q hq=>⟨fun e=>hxy q (mm q hq) (by rw [e];exact List.mem_cons_self ..),fun e=>hxy q (mm q hq) (by rw [e,ea];simp)⟩
   have SK:∀V,Only (a1++a2) wc V→(V.cell? ⟨bx,1,none⟩=some (.slice A1 x.2.1.length c1)∧V.cell? ⟨bx,2,none⟩=some (.slice A2 x.2.2.1.length c2)∧V.cell? ⟨by_,2,none⟩=some (.slice (some ⟨ga,oa,none⟩) y.2.2.1.length e2)∧V.cell? ⟨ga,oa,none⟩=some (.string y.2.2.1[0])):=fun V k=>⟨(px.box.only k (fun h=>mn _ h rfl)).cell 1,(px.box.only k (fun h=>mn _ h rfl)).cell 2,(py.box.only k (fun h=>(mo _ h).1 rfl)).cell 2,(World.cell?_of_block (k.block ga (cell_lt hck) (fun h=>(mo _ h).2 rfl))).trans hck⟩
   have SKH:=Hd SK
   have PT:=Hd px
   have hd1:∀q∈a1,q<wc.heap.size:=fun q hq=>(hin q (mm q (List.mem_append_left _ hq))).2
   have hd2:∀q∈a2,q<wc.heap.size:=fun q hq=>(hin q (mm q (List.mem_append_right _ hq))).2
   have hlw:lo≤wc.heap.size:=Nat.le_trans hlo hon.size
   have HA:=Hd (And.intro hxB0 (And.intro hyB0 (And.intro hxy (And.intro hsub hon))))
   clear hxB0 hyB0 hxy hsub hon px py hck hin hbn mm mn mo ra SK
   refine wp_region_U (fun W=>W.cell? ⟨bx,1,none⟩=some (.slice A1 x.2.1.length c1)∧W.cell? ⟨bx,2,none⟩=some (.slice A2 x.2.2.1.length c2)∧W.cell? ⟨by_,2,none⟩=some (.slice (some ⟨ga,oa,none⟩) y.2.2.1.length e2)∧W.cell? ⟨ga,oa,none⟩=some (.string y.2.2.1[0])) 21 (by kernel_rfl) ?_
   have hS:(fun W:World=>W.cell? ⟨bx,1,none⟩=some (.slice A1 x.2.1.length c1)∧W.cell? ⟨bx,2,none⟩=some (.slice A2 x.2.2.1.length c2)∧W.cell? ⟨by_,2,none⟩=some (.slice (some ⟨ga,oa,none⟩) y.2.2.1.length e2)∧W.cell? ⟨ga,oa,none⟩=some (.string y.2.2.1[0])) wc.drew:=SKH.out _ (Only.of_up (Up.refl wc).drew)
   try simp only [Act.put,sI,sZ,sS]
   refine tP 0 rfl (fun _ _ _ h=>h) hS ?_
   refine tP 1 rfl (fun _ _ _ h=>h) hS ?_
   refine tP 2 rfl (fun _ _ _ h=>h) hS ?_
   refine tP 3 rfl (fun _ _ _ h=>h) hS ?_
   refine tP 4 rfl (fun _ _ _ h=>h) hS ?_
   refine tL 5 rfl (fun _ _ _ h=>h) hS ?_
   refine tP 6 rfl (fun _ _ _ h=>h) hS ?_
   refine tP 9 rfl (fun _ _ _ h=>h) hS ?_
   refine tP 10 rfl (fun _ _ _ h=>h) hS ?_
   refine tP 11 rfl (fun _ _ _ h=>h) hS ?_
   refine tL 12 rfl (fun _ _ _ h=>h) hS ?_
   refine tP 13 rfl (fun _ _ _ h=>h) hS ?_
   refine tP 14 rfl (fun _ _ _ h=>h) hS ?_
   refine tP 15 rfl (fun _ _ _ h=>h) hS ?_
   refine tL 16 rfl (fun _ _ _ h=>h) hS ?_
   refine tP 17 rfl (fun _ _ _ h=>h) hS ?_
   refine tL 18 rfl (fun _ _ _ h=>h) hS ?_
   refine rU [7,19] ?_
   refine AllReadyU.cons rfl (fun K hK=>?_) ?_
   ·go_simp
    have ua1:Up wc.drew (wc.drew.alloc (.cells #[.string y.2.1[0]] 9)):=(Up.refl _).alloc _
    have kb1:Bk (wc.drew.alloc (.cells #[.string y.2.1[0]] 9)) (wc.heap.size) 9 #[.string y.2.1[0]]:=Bk.new wc.drew 9 #[.string y.2.1[0]]
    have uc1:Up wc (wc.drew.alloc (.cells #[.string y.2.1[0]] 9)):=((Up.refl wc).drew).trans ua1
    have oc:Only (a1++a2) wc (wc.drew.alloc (.cells #[.string y.2.1[0]] 9)):=Only.of_up uc1
    have zz1:wc.heap.size≤wc.drew.heap.size:=((Up.refl wc).drew).size
    refine hK.out _ _ (SKH.out _ oc) (fun hS=>?_)
    clear hK K
    try simp only [Act.put,sI,sZ,sS]
    refine rU [8,19] ?_
    refine AllReadyU.cons rfl (fun K hK=>?_) ?_
    ·have T0y:=(PgR.start PT.out).up (uc1)
     have hb1:(x.2.1.length+[y.2.1[0]].length)*i0.bytes≤140737488355328:=by rw [hz2];simp;omega
     have hb2:x.2.1.length+[y.2.1[0]].length≤maxLen:=by simp;unfold maxLen;omega
     refine step_app good_S rfl _ _ _ _ 9 rfl i0 _ Tryz.underlying52 hi0 hz0 hz1 (by rfl) (lo:=lo) (xs:=x.2.1) (ys:=[y.2.1[0]]) (bl:=a1) (bs:=[[]]) (news:=[.string y.2.1[0]]) rfl rfl T0y.pg.s1 (by simpa using PT.out.nd1.1) (Src.box (t:=9) (cs:=[.string y.2.1[0]]) Tryz.underlying52 kb1 (by simp [Value.oneCell']) (by rw [hz1];rfl)) (Rowed.one good_S (show shS.own _ _ _ [.string y.2.1[0]] (y.2.1[0]) [] from ⟨⟨rfl,hkm⟩,rfl⟩)) (Nat.le_trans hlw (uc1).size) hb1 hb2 ?_
     intro D1 f1 bl1 w1 hap
     obtain ⟨so1,nd1,hm10,on1⟩:=hap
     have hm1:∀q∈bl1,q∈a1∨_≤q:=fun q hq=>(hm10 q hq).imp_left (fun h=>by simpa using h)
     clear hm10 hb1 hb2
     simp only [List.length_cons,List.length_nil,Nat.zero_add]
     have T1:=T0y.row1 so1 nd1 hm1 on1
     replace oc:Only (a1++a2) wc w1:=only_via oc on1 (fun q hq=>.inl (List.mem_append_left _ hq))
     have zw1:wc.heap.size≤w1.heap.size:=T1.on.size
     clear T0y so1 nd1 hm1 on1 kb1
     refine hK.out _ _ (SKH.out _ oc) (fun hS=>?_)
     clear hK K
     try simp only [Act.put,sI,sZ,sS]
     refine rU [19] ?_
     refine AllReadyU.cons rfl (fun K hK=>?_) AllReadyU.nil
     go_simp
     have ua2:Up w1 (w1.alloc (.cells #[.string y.2.2.1[0]] 9)):=(Up.refl _).alloc _
     have kb2:Bk (w1.alloc (.cells #[.string y.2.2.1[0]] 9)) (w1.heap.size) 9 #[.string y.2.2.1[0]]:=Bk.new w1 9 #[.string y.2.2.1[0]]
     replace T1:=T1.up ua2
     replace oc:=oc.up ua2
     have zz2:wc.heap.size≤w1.heap.size:=zw1
     refine hK.out _ _ (SKH.out _ oc) (fun hS=>?_)
     clear hK K
     try simp only [Act.put,sI,sZ,sS]
     refine rU [20] ?_
     refine AllReadyU.cons rfl (fun K hK=>?_) AllReadyU.nil
     have hb1:(x.2.2.1.length+[y.2.2.1[0]].length)*i0.bytes≤140737488355328:=by rw [hz2];simp;omega
     have hb2:x.2.2.1.length+[y.2.2.1[0]].length≤maxLen:=by simp;unfold maxLen;omega
     refine step_app good_S rfl _ _ _ _ 9 rfl i0 _ Tryz.underlying52 hi0 hz0 hz1 (by rfl) (lo:=lo) (xs:=x.2.2.1) (ys:=[y.2.2.1[0]]) (bl:=a2) (bs:=[[]]) (news:=[.string y.2.2.1[0]]) rfl rfl T1.pg.s2 (by simpa using PT.out.nd1.2.1) (Src.box (t:=9) (cs:=[.string y.2.2.1[0]]) Tryz.underlying52 kb2 (by simp [Value.oneCell']) (by rw [hz1];rfl)) (Rowed.one good_S (show shS.own _ _ _ [.string y.2.2.1[0]] (y.2.2.1[0]) [] from ⟨⟨rfl,hvm⟩,rfl⟩)) (Nat.le_trans hlw T1.on.size) hb1 hb2 ?_
     intro D2 f2 bl2 w2 hap
     obtain ⟨so2,nd2,hm20,on2⟩:=hap
     have hm2:∀q∈bl2,q∈a2∨_≤q:=fun q hq=>(hm20 q hq).imp_left (fun h=>by simpa using h)
     clear hm20 hb1 hb2
     simp only [List.length_cons,List.length_nil,Nat.zero_add]
     have T2:=T1.row2 so2 nd2 hm2 on2
     have oc2:Only (a1++a2) wc w2:=only_via oc on2 (fun q hq=>.inl (List.mem_append_right _ hq))
     clear T1 so2 nd2 hm2 on2 kb2
     refine hK.out _ _ (SKH.out _ oc2) (fun hS=>?_)
     clear hK K
     try simp only [Act.put,sI,sZ,sS]
     refine wpAnyU_line 5 (by as_aux_lemma=>kernel_rfl) rfl (by decide) ?_
     simp only [List.drop_succ_cons,List.drop_zero]
     have gq1:=T2.pg.box.cell 1
     have fq1:=T2.pg.box.frozen 1
     have T3:=T2.set 1 (.slice D1 (x.2.1++[y.2.1[0]]).length f1)
     have gq2:=T3.pg.box.cell 2
     have fq2:=T3.pg.box.frozen 2
     have T4:=(T3.set 2 (.slice D2 (x.2.2.1++[y.2.2.1[0]]).length f2)).done (by rfl)
     clear T2 T3 hS
     simp only [List.length_cons,List.length_append,List.length_nil,Nat.zero_add] at gq1 fq1 gq2 fq2 T4
     go_wp2_with fail
     go_meet
     obtain ⟨q1,q2,q3,q4,q5⟩:=HA.out
     exact two_x q1 q2 q3 q4 q5 T4
    refine AllReadyU.cons rfl (fun K hK=>?_) AllReadyU.nil
    go_simp
    have ua2:Up (wc.drew.alloc (.cells #[.string y.2.1[0]] 9)) ((wc.drew.alloc (.cells #[.string y.2.1[0]] 9)).alloc (.cells #[.string y.2.2.1[0]] 9)):=(Up.refl _).alloc _
    have kb2:Bk ((wc.drew.alloc (.cells #[.string y.2.1[0]] 9)).alloc (.cells #[.string y.2.2.1[0]] 9)) (wc.heap.size+1) 9 #[.string y.2.2.1[0]]:=by simpa using Bk.new (wc.drew.alloc (.cells #[.string y.2.1[0]] 9)) 9 #[.string y.2.2.1[0]]
    replace kb1:=kb1.up ua2
    have uc2:Up wc ((wc.drew.alloc (.cells #[.string y.2.1[0]] 9)).alloc (.cells #[.string y.2.2.1[0]] 9)):=(uc1).trans ua2
    have oc:Only (a1++a2) wc ((wc.drew.alloc (.cells #[.string y.2.1[0]] 9)).alloc (.cells #[.string y.2.2.1[0]] 9)):=Only.of_up uc2
    have zz2:wc.heap.size≤(wc.drew.alloc (.cells #[.string y.2.1[0]] 9)).heap.size:=(uc1).size
    refine hK.out _ _ (SKH.out _ oc) (fun hS=>?_)
    clear hK K
    try simp only [Act.put,sI,sZ,sS]
    refine rU [8] ?_
    refine AllReadyU.cons rfl (fun K hK=>?_) AllReadyU.nil
    have T0y:=(PgR.start PT.out).up (uc2)
    have hb1:(x.2.1.length+[y.2.1[0]].length)*i0.bytes≤140737488355328:=by rw [hz2];simp;omega
    have hb2:x.2.1.length+[y.2.1[0]].length≤maxLen:=by simp;unfold maxLen;omega
    refine step_app good_S rfl _ _ _ _ 9 rfl i0 _ Tryz.underlying52 hi0 hz0 hz1 (by rfl) (lo:=lo) (xs:=x.2.1) (ys:=[y.2.1[0]]) (bl:=a1) (bs:=[[]]) (news:=[.string y.2.1[0]]) rfl rfl T0y.pg.s1 (by simpa using PT.out.nd1.1) (Src.box (t:=9) (cs:=[.string y.2.1[0]]) Tryz.underlying52 kb1 (by simp [Value.oneCell']) (by rw [hz1];rfl)) (Rowed.one good_S (show shS.own _ _ _ [.string y.2.1[0]] (y.2.1[0]) [] from ⟨⟨rfl,hkm⟩,rfl⟩)) (Nat.le_trans hlw (uc2).size) hb1 hb2 ?_
    intro D1 f1 bl1 w1 hap
    obtain ⟨so1,nd1,hm10,on1⟩:=hap
    have hm1:∀q∈bl1,q∈a1∨_≤q:=fun q hq=>(hm10 q hq).imp_left (fun h=>by simpa using h)
    clear hm10 hb1 hb2
    simp only [List.length_cons,List.length_nil,Nat.zero_add]
    have T1:=T0y.row1 so1 nd1 hm1 on1
    replace oc:Only (a1++a2) wc w1:=only_via oc on1 (fun q hq=>.inl (List.mem_append_left _ hq))
    replace kb2:=kb2.only on1 (fun hh=>by have:=hd1 _ hh;omega)
    have zw1:wc.heap.size≤w1.heap.size:=T1.on.size
    clear T0y so1 nd1 hm1 on1 kb1
    refine hK.out _ _ (SKH.out _ oc) (fun hS=>?_)
    clear hK K
    try simp only [Act.put,sI,sZ,sS]
    refine rU [20] ?_
    refine AllReadyU.cons rfl (fun K hK=>?_) AllReadyU.nil
    have hb1:(x.2.2.1.length+[y.2.2.1[0]].length)*i0.bytes≤140737488355328:=by rw [hz2];simp;omega
    have hb2:x.2.2.1.length+[y.2.2.1[0]].length≤maxLen:=by simp;unfold maxLen;omega
    refine step_app good_S rfl _ _ _ _ 9 rfl i0 _ Tryz.underlying52 hi0 hz0 hz1 (by rfl) (lo:=lo) (xs:=x.2.2.1) (ys:=[y.2.2.1[0]]) (bl:=a2) (bs:=[[]]) (news:=[.string y.2.2.1[0]]) rfl rfl T1.pg.s2 (by simpa using PT.out.nd1.2.1) (Src.box (t:=9) (cs:=[.string y.2.2.1[0]]) Tryz.underlying52 kb2 (by simp [Value.oneCell']) (by rw [hz1];rfl)) (Rowed.one good_S (show shS.own _ _ _ [.string y.2.2.1[0]] (y.2.2.1[0]) [] from ⟨⟨rfl,hvm⟩,rfl⟩)) (Nat.le_trans hlw T1.on.size) hb1 hb2 ?_
    intro D2 f2 bl2 w2 hap
    obtain ⟨so2,nd2,hm20,on2⟩:=hap
    have hm2:∀q∈bl2,q∈a2∨_≤q:=fun q hq=>(hm20 q hq).imp_left (fun h=>by simpa using h)
    clear hm20 hb1 hb2
    simp only [List.length_cons,List.length_nil,Nat.zero_add]
    have T2:=T1.row2 so2 nd2 hm2 on2
    have oc2:Only (a1++a2) wc w2:=only_via oc on2 (fun q hq=>.inl (List.mem_append_right _ hq))
    clear T1 so2 nd2 hm2 on2 kb2
    refine hK.out _ _ (SKH.out _ oc2) (fun hS=>?_)
    clear hK K
    try simp only [Act.put,sI,sZ,sS]
    refine wpAnyU_line 5 (by as_aux_lemma=>kernel_rfl) rfl (by decide) ?_
    simp only [List.drop_succ_cons,List.drop_zero]
    have gq1:=T2.pg.box.cell 1
    have fq1:=T2.pg.box.frozen 1
    have T3:=T2.set 1 (.slice D1 (x.2.1++[y.2.1[0]]).length f1)
    have gq2:=T3.pg.box.cell 2
    have fq2:=T3.pg.box.frozen 2
    have T4:=(T3.set 2 (.slice D2 (x.2.2.1++[y.2.2.1[0]]).length f2)).done (by rfl)
    clear T2 T3 hS
    simp only [List.length_cons,List.length_append,List.length_nil,Nat.zero_add] at gq1 fq1 gq2 fq2 T4
    go_wp2_with fail
    go_meet
    obtain ⟨q1,q2,q3,q4,q5⟩:=HA.out
    exact two_x q1 q2 q3 q4 q5 T4
   refine AllReadyU.cons rfl (fun K hK=>?_) AllReadyU.nil
   go_simp
   have ua2:Up wc.drew (wc.drew.alloc (.cells #[.string y.2.2.1[0]] 9)):=(Up.refl _).alloc _
   have kb2:Bk (wc.drew.alloc (.cells #[.string y.2.2.1[0]] 9)) (wc.heap.size) 9 #[.string y.2.2.1[0]]:=Bk.new wc.drew 9 #[.string y.2.2.1[0]]
   have uc2:Up wc (wc.drew.alloc (.cells #[.string y.2.2.1[0]] 9)):=((Up.refl wc).drew).trans ua2
   have oc:Only (a1++a2) wc (wc.drew.alloc (.cells #[.string y.2.2.1[0]] 9)):=Only.of_up uc2
   have zz2:wc.heap.size≤wc.drew.heap.size:=((Up.refl wc).drew).size
   refine hK.out _ _ (SKH.out _ oc) (fun hS=>?_)
   clear hK K
   try simp only [Act.put,sI,sZ,sS]
   refine rU [7] ?_
   refine AllReadyU.cons rfl (fun K hK=>?_) AllReadyU.nil
   go_simp
   have ua1:Up (wc.drew.alloc (.cells #[.string y.2.2.1[0]] 9)) ((wc.drew.alloc (.cells #[.string y.2.2.1[0]] 9)).alloc (.cells #[.string y.2.1[0]] 9)):=(Up.refl _).alloc _
   have kb1:Bk ((wc.drew.alloc (.cells #[.string y.2.2.1[0]] 9)).alloc (.cells #[.string y.2.1[0]] 9)) (wc.heap.size+1) 9 #[.string y.2.1[0]]:=by simpa using Bk.new (wc.drew.alloc (.cells #[.string y.2.2.1[0]] 9)) 9 #[.string y.2.1[0]]
   replace kb2:=kb2.up ua1
   have uc1:Up wc ((wc.drew.alloc (.cells #[.string y.2.2.1[0]] 9)).alloc (.cells #[.string y.2.1[0]] 9)):=(uc2).trans ua1
   have oc:Only (a1++a2) wc ((wc.drew.alloc (.cells #[.string y.2.2.1[0]] 9)).alloc (.cells #[.string y.2.1[0]] 9)):=Only.of_up uc1
   have zz1:wc.heap.size≤(wc.drew.alloc (.cells #[.string y.2.2.1[0]] 9)).heap.size:=(uc2).size
   refine hK.out _ _ (SKH.out _ oc) (fun hS=>?_)
   clear hK K
   try simp only [Act.put,sI,sZ,sS]
   refine rU [8] ?_
   refine AllReadyU.cons rfl (fun K hK=>?_) AllReadyU.nil
   have T0y:=(PgR.start PT.out).up (uc1)
   have hb1:(x.2.1.length+[y.2.1[0]].length)*i0.bytes≤140737488355328:=by rw [hz2];simp;omega
   have hb2:x.2.1.length+[y.2.1[0]].length≤maxLen:=by simp;unfold maxLen;omega
   refine step_app good_S rfl _ _ _ _ 9 rfl i0 _ Tryz.underlying52 hi0 hz0 hz1 (by rfl) (lo:=lo) (xs:=x.2.1) (ys:=[y.2.1[0]]) (bl:=a1) (bs:=[[]]) (news:=[.string y.2.1[0]]) rfl rfl T0y.pg.s1 (by simpa using PT.out.nd1.1) (Src.box (t:=9) (cs:=[.string y.2.1[0]]) Tryz.underlying52 kb1 (by simp [Value.oneCell']) (by rw [hz1];rfl)) (Rowed.one good_S (show shS.own _ _ _ [.string y.2.1[0]] (y.2.1[0]) [] from ⟨⟨rfl,hkm⟩,rfl⟩)) (Nat.le_trans hlw (uc1).size) hb1 hb2 ?_
   intro D1 f1 bl1 w1 hap
   obtain ⟨so1,nd1,hm10,on1⟩:=hap
   have hm1:∀q∈bl1,q∈a1∨_≤q:=fun q hq=>(hm10 q hq).imp_left (fun h=>by simpa using h)
   clear hm10 hb1 hb2
   simp only [List.length_cons,List.length_nil,Nat.zero_add]
   have T1:=T0y.row1 so1 nd1 hm1 on1
   replace oc:Only (a1++a2) wc w1:=only_via oc on1 (fun q hq=>.inl (List.mem_append_left _ hq))
   replace kb2:=kb2.only on1 (fun hh=>by have:=hd1 _ hh;omega)
   have zw1:wc.heap.size≤w1.heap.size:=T1.on.size
   clear T0y so1 nd1 hm1 on1 kb1
   refine hK.out _ _ (SKH.out _ oc) (fun hS=>?_)
   clear hK K
   try simp only [Act.put,sI,sZ,sS]
   refine rU [20] ?_
   refine AllReadyU.cons rfl (fun K hK=>?_) AllReadyU.nil
   have hb1:(x.2.2.1.length+[y.2.2.1[0]].length)*i0.bytes≤140737488355328:=by rw [hz2];simp;omega
   have hb2:x.2.2.1.length+[y.2.2.1[0]].length≤maxLen:=by simp;unfold maxLen;omega
   refine step_app good_S rfl _ _ _ _ 9 rfl i0 _ Tryz.underlying52 hi0 hz0 hz1 (by rfl) (lo:=lo) (xs:=x.2.2.1) (ys:=[y.2.2.1[0]]) (bl:=a2) (bs:=[[]]) (news:=[.string y.2.2.1[0]]) rfl rfl T1.pg.s2 (by simpa using PT.out.nd1.2.1) (Src.box (t:=9) (cs:=[.string y.2.2.1[0]]) Tryz.underlying52 kb2 (by simp [Value.oneCell']) (by rw [hz1];rfl)) (Rowed.one good_S (show shS.own _ _ _ [.string y.2.2.1[0]] (y.2.2.1[0]) [] from ⟨⟨rfl,hvm⟩,rfl⟩)) (Nat.le_trans hlw T1.on.size) hb1 hb2 ?_
   intro D2 f2 bl2 w2 hap
   obtain ⟨so2,nd2,hm20,on2⟩:=hap
   have hm2:∀q∈bl2,q∈a2∨_≤q:=fun q hq=>(hm20 q hq).imp_left (fun h=>by simpa using h)
   clear hm20 hb1 hb2
   simp only [List.length_cons,List.length_nil,Nat.zero_add]
   have T2:=T1.row2 so2 nd2 hm2 on2
   have oc2:Only (a1++a2) wc w2:=only_via oc on2 (fun q hq=>.inl (List.mem_append_right _ hq))
   clear T1 so2 nd2 hm2 on2 kb2
   refine hK.out _ _ (SKH.out _ oc2) (fun hS=>?_)
   clear hK K
   try simp only [Act.put,sI,sZ,sS]
   refine wpAnyU_line 5 (by as_aux_lemma=>kernel_rfl) rfl (by decide) ?_
   simp only [List.drop_succ_cons,List.drop_zero]
   have gq1:=T2.pg.box.cell 1
   have fq1:=T2.pg.box.frozen 1
   have T3:=T2.set 1 (.slice D1 (x.2.1++[y.2.1[0]]).length f1)
   have gq2:=T3.pg.box.cell 2
   have fq2:=T3.pg.box.frozen 2
   have T4:=(T3.set 2 (.slice D2 (x.2.2.1++[y.2.2.1[0]]).length f2)).done (by rfl)
   clear T2 T3 hS
   simp only [List.length_cons,List.length_append,List.length_nil,Nat.zero_add] at gq1 fq1 gq2 fq2 T4
   go_wp2_with fail
   go_meet
   obtain ⟨q1,q2,q3,q4,q5⟩:=HA.out
   exact two_x q1 q2 q3 q4 q5 T4
  clear HP
  have HP:=hcut
  clear hcut
  obtain ⟨lx,ly,hxB,hyB,hxy,hsub,hon⟩:=HP
  have hxB0:=hxB
  obtain ⟨A1,c1,a1,A2,c2,a2,A3,c3,a3,px,rfl⟩:=hxB
  have hyB0:=hyB
  obtain ⟨B1,e1,d1,B2,e2,d2,B3,e3,d3,py,rfl⟩:=hyB
  obtain ⟨gb,ob,rfl,eb,rb⟩:=py.s2.addr1 one1_S (by show 0<y.2.2.1.length;omega)
  have hcb:y.2.2.1.length≤e2:=rb.len
  have hcb0:1<y.2.2.1.length:=hv3
  have hce:¬(e2=1):=by omega
  have hcb1:(1:Int)≤(e2:Int):=by omega
  have hcb2:(y.2.2.1.length:Int)≤(e2:Int):=by omega
  have gy2:wc.cell? ⟨by_,2,none⟩=some (.slice (some ⟨gb,ob,none⟩) y.2.2.1.length e2):=py.box.cell 2
  have fy2:=py.box.frozen 2
  have HF0:=two_y hxB0 hyB0 hxy hsub hon (py.drop2 (m:=y.2.2.1.length-1) (d:=e2-1) (by show y.2.2.1.length-1+1=y.2.2.1.length;omega) rfl)
  clear px py hxB0 hyB0 hxy hsub hon rb eb
  go_upto_region 6 with fail
  generalize (wc.setCell ⟨by_,2,none⟩ (.slice (some ⟨gb,ob+1,none⟩) (y.2.2.1.length-1) (e2-1)))=W5 at HF0 ⊢
  have HF:=Hd HF0
  clear gy2 fy2
  obtain ⟨lx,ly,hxB,hyB,hxy,hsub,hon⟩:=HF0
  obtain ⟨B1,e1,d1,B2,e2,d2,B3,e3,d3,py,rfl⟩:=hyB
  obtain ⟨gb,ob,rfl,eb,rb⟩:=py.s1.addr1 one1_S (by show 0<(y.2.1.drop 1).length;rw [List.length_drop];omega)
  have hld:(y.2.1.drop 1).length=y.2.1.length-1:=by rw [List.length_drop]
  have gy1:W5.cell? ⟨by_,1,none⟩=some (.slice (some ⟨gb,ob,none⟩) (y.2.1.drop 1).length e1):=py.box.cell 1
  rw [hld] at gy1
  have hck0:=(rb.cell (k:=0) (by show 0<(y.2.1.drop 1).length;rw [List.length_drop];omega)).1
  have hck:W5.cell? ⟨gb,ob,none⟩=some (.string y.2.1[1]):=by simpa using hck0
  have hkz:(0:Int)<((y.2.1.length-1:Nat):Int):=by omega
  clear hck0 rb py hxB hxy hsub hon eb hld
  go_wp2_with fail
  go_ret
  rw [HM.out]
  exact ⟨rfl,HF.out⟩
end Go.Proofs.YtojmcmghmnfjeaaGreatDoor
