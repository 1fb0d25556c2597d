/-
 Parts of the proof.
-/
import Derived.Test.YtojmcmghmnfjeaaGreatDoorM1Zeg
set_option maxHeartbeats 16000000
set_option maxRecDepth 100000
namespace Go.Proofs.YtojmcmghmnfjeaaGreatDoor
open Go Go.RowKit
set_option linter.unusedVariables false
set_option linter.unusedSimpArgs false
theorem SO.len1 {α:Type} {s:Sh α} {w:World} {lo hi:Nat} {A:Option Addr} {c:Nat} {xs:List α} {bl:List Nat} (h:SO s w lo hi A c xs bl):xs.length≤9223372036854775807:=by
 have h1:=h.1
 have h2:=h.2.1
 unfold maxLen at h2
 omega
theorem PgR.nd1 {w:World} {lo b:Nat} {C:Array Value} {p:TPage} {A1 A2 A3:Option Addr} {c1 c2 c3:Nat} {b1 b2 b3:List Nat} (h:PgR w lo b C p A1 c1 b1 A2 c2 b2 A3 c3 b3):b1.Nodup∧b2.Nodup∧b3.Nodup:=by
 obtain ⟨_,h1⟩:=List.nodup_cons.1 h.nd
 obtain ⟨h2,h3,_⟩:=List.nodup_append.1 h1
 obtain ⟨h4,h5,_⟩:=List.nodup_append.1 h2
 exact ⟨h4,h5,h3⟩
theorem PgR.cut1 {w:World} {lo b:Nat} {p:TPage} {A1 A2 A3:Option Addr} {c1 c2 c3:Nat} {b1 b2 b3:List Nat} (h:PgR w lo b (pgC p A1 c1 A2 c2 A3 c3) p A1 c1 b1 A2 c2 b2 A3 c3 b3) {m:Nat} (hm:m≤p.2.1.length) :
 ∃bl,PgB (w.setCell ⟨b,1,none⟩ (.slice A1 m c1)) lo b (p.1,p.2.1.take m,p.2.2.1,p.2.2.2) bl∧(∀q∈bl,q∈b::(b1++b2++b3)∨w.heap.size≤q)∧Only (b::(b1++b2++b3)) w (w.setCell ⟨b,1,none⟩ (.slice A1 m c1)):=by
 have hl:m=(p.2.1.take m).length:=by rw [List.length_take];omega
 have S1:=((PgR.start h).row1 (h.s1.take1 one1_S m) h.nd1.1 (fun q hq=>.inl hq) (Only.refl _ _)).set 1 (.slice A1 m c1)
 refine S1.done ?_
 conv=>lhs;rw [hl]
 simp
theorem PgR.cut2 {w:World} {lo b:Nat} {p:TPage} {A1 A2 A3:Option Addr} {c1 c2 c3:Nat} {b1 b2 b3:List Nat} (h:PgR w lo b (pgC p A1 c1 A2 c2 A3 c3) p A1 c1 b1 A2 c2 b2 A3 c3 b3) {m:Nat} (hm:m≤p.2.2.1.length) :
 ∃bl,PgB (w.setCell ⟨b,2,none⟩ (.slice A2 m c2)) lo b (p.1,p.2.1,p.2.2.1.take m,p.2.2.2) bl∧(∀q∈bl,q∈b::(b1++b2++b3)∨w.heap.size≤q)∧Only (b::(b1++b2++b3)) w (w.setCell ⟨b,2,none⟩ (.slice A2 m c2)):=by
 have hl:m=(p.2.2.1.take m).length:=by rw [List.length_take];omega
 have S1:=((PgR.start h).row2 (h.s2.take1 one1_S m) h.nd1.2.1 (fun q hq=>.inl hq) (Only.refl _ _)).set 2 (.slice A2 m c2)
 refine S1.done ?_
 conv=>lhs;rw [hl]
 simp
theorem PgR.cut3 {w:World} {lo b:Nat} {p:TPage} {A1 A2 A3:Option Addr} {c1 c2 c3:Nat} {b1 b2 b3:List Nat} (h:PgR w lo b (pgC p A1 c1 A2 c2 A3 c3) p A1 c1 b1 A2 c2 b2 A3 c3 b3) {m:Nat} (hm:m≤p.2.2.2.length) :
 ∃bl,PgB (w.setCell ⟨b,3,none⟩ (.slice A3 m c3)) lo b (p.1,p.2.1,p.2.2.1,p.2.2.2.take m) bl∧(∀q∈bl,q∈b::(b1++b2++b3)∨w.heap.size≤q)∧Only (b::(b1++b2++b3)) w (w.setCell ⟨b,3,none⟩ (.slice A3 m c3)):=by
 have hl:m=(p.2.2.2.take m).length:=by rw [List.length_take];omega
 have S1:=((PgR.start h).row3 (h.s3.take1 one1_I m) h.nd1.2.2 (fun q hq=>.inl hq) (Only.refl _ _)).set 3 (.slice A3 m c3)
 refine S1.done ?_
 conv=>lhs;rw [hl]
 simp
theorem PgR.drop1 {w:World} {lo b:Nat} {p:TPage} {A2 A3:Option Addr} {g off c1 c2 c3:Nat} {b1 b2 b3:List Nat} (h:PgR w lo b (pgC p (some ⟨g,off,none⟩) c1 A2 c2 A3 c3) p (some ⟨g,off,none⟩) c1 b1 A2 c2 b2 A3 c3 b3) {m d:Nat} (hm:m+1=p.2.1.length) (hd:d=c1-1) :
 ∃bl,PgB (w.setCell ⟨b,1,none⟩ (.slice (some ⟨g,off+1,none⟩) m d)) lo b (p.1,p.2.1.drop 1,p.2.2.1,p.2.2.2) bl∧(∀q∈bl,q∈b::(b1++b2++b3)∨w.heap.size≤q)∧Only (b::(b1++b2++b3)) w (w.setCell ⟨b,1,none⟩ (.slice (some ⟨g,off+1,none⟩) m d)):=by
 subst hd
 have hl:m=(p.2.1.drop 1).length:=by rw [List.length_drop];omega
 have S1:=((PgR.start h).row1 (h.s1.drop1 one1_S (by omega)) h.nd1.1 (fun q hq=>.inl hq) (Only.refl _ _)).set 1 (.slice (some ⟨g,off+1,none⟩) m (c1-1))
 refine S1.done ?_
 conv=>lhs;rw [hl]
 simp
theorem PgR.drop2 {w:World} {lo b:Nat} {p:TPage} {A1 A3:Option Addr} {g off c1 c2 c3:Nat} {b1 b2 b3:List Nat} (h:PgR w lo b (pgC p A1 c1 (some ⟨g,off,none⟩) c2 A3 c3) p A1 c1 b1 (some ⟨g,off,none⟩) c2 b2 A3 c3 b3) {m d:Nat} (hm:m+1=p.2.2.1.length) (hd:d=c2-1) :
 ∃bl,PgB (w.setCell ⟨b,2,none⟩ (.slice (some ⟨g,off+1,none⟩) m d)) lo b (p.1,p.2.1,p.2.2.1.drop 1,p.2.2.2) bl∧(∀q∈bl,q∈b::(b1++b2++b3)∨w.heap.size≤q)∧Only (b::(b1++b2++b3)) w (w.setCell ⟨b,2,none⟩ (.slice (some ⟨g,off+1,none⟩) m d)):=by
 subst hd
 have hl:m=(p.2.2.1.drop 1).length:=by rw [List.length_drop];omega
 have S1:=((PgR.start h).row2 (h.s2.drop1 one1_S (by omega)) h.nd1.2.1 (fun q hq=>.inl hq) (Only.refl _ _)).set 2 (.slice (some ⟨g,off+1,none⟩) m (c2-1))
 refine S1.done ?_
 conv=>lhs;rw [hl]
 simp
theorem PgR.drop3 {w:World} {lo b:Nat} {p:TPage} {A1 A2:Option Addr} {g off c1 c2 c3:Nat} {b1 b2 b3:List Nat} (h:PgR w lo b (pgC p A1 c1 A2 c2 (some ⟨g,off,none⟩) c3) p A1 c1 b1 A2 c2 b2 (some ⟨g,off,none⟩) c3 b3) {m d:Nat} (hm:m+1=p.2.2.2.length) (hd:d=c3-1) :
 ∃bl,PgB (w.setCell ⟨b,3,none⟩ (.slice (some ⟨g,off+1,none⟩) m d)) lo b (p.1,p.2.1,p.2.2.1,p.2.2.2.drop 1) bl∧(∀q∈bl,q∈b::(b1++b2++b3)∨w.heap.size≤q)∧Only (b::(b1++b2++b3)) w (w.setCell ⟨b,3,none⟩ (.slice (some ⟨g,off+1,none⟩) m d)):=by
 subst hd
 have hl:m=(p.2.2.2.drop 1).length:=by rw [List.length_drop];omega
 have S1:=((PgR.start h).row3 (h.s3.drop1 one1_I (by omega)) h.nd1.2.2 (fun q hq=>.inl hq) (Only.refl _ _)).set 3 (.slice (some ⟨g,off+1,none⟩) m (c3-1))
 refine S1.done ?_
 conv=>lhs;rw [hl]
 simp
theorem c_small (lo b:Nat) (p:TPage) (bl:List Nat) (w:World) (h:PgB w lo b p bl):Calls Tryz.prog 85 #[.pointer (some ⟨b,0,none⟩)] w (fun e w'=>e=.returned (.bool (poorP p))∧w=w'):=by
 obtain ⟨A1,c1,b1,A2,c2,b2,A3,c3,b3,h,rfl⟩:=h
 have l1:=h.s1.len1
 have l3:=h.s3.len1
 have g0:w.cell? ⟨b,0,none⟩=some (.bool p.1):=h.box.cell 0
 have g1:w.cell? ⟨b,1,none⟩=some (.slice A1 p.2.1.length c1):=h.box.cell 1
 have g3:w.cell? ⟨b,3,none⟩=some (.slice A3 p.2.2.2.length c3):=h.box.cell 3
 clear h
 cases hl:p.1
 ·have e:poorP p=decide ((p.2.2.2.length:Int)<3):=by
   unfold poorP
   rw [fill_fork hl,decide_eq_decide]
   omega
  rw [hl] at g0
  have HE:=Hd e
  clear e hl
  go_enter Tryz.func85,Tryz.ntmps85
  go_wp2_with fail
  go_ret
  exact ⟨by rw [HE.out];first | done | rfl,rfl⟩
 ·have e:poorP p=decide ((p.2.1.length:Int)<3):=by
   unfold poorP
   rw [fill_leaf hl,decide_eq_decide]
   omega
  rw [hl] at g0
  have HE:=Hd e
  clear e hl
  go_enter Tryz.func85,Tryz.ntmps85
  go_wp2_with fail
  go_ret
  exact ⟨by rw [HE.out];first | done | rfl,rfl⟩
theorem c_rich (lo b:Nat) (p:TPage) (bl:List Nat) (w:World) (h:PgB w lo b p bl):Calls Tryz.prog 115 #[.pointer (some ⟨b,0,none⟩)] w (fun e w'=>e=.returned (.bool (richP p))∧w=w'):=by
 obtain ⟨A1,c1,b1,A2,c2,b2,A3,c3,b3,h,rfl⟩:=h
 have l1:=h.s1.len1
 have l3:=h.s3.len1
 have g0:w.cell? ⟨b,0,none⟩=some (.bool p.1):=h.box.cell 0
 have g1:w.cell? ⟨b,1,none⟩=some (.slice A1 p.2.1.length c1):=h.box.cell 1
 have g3:w.cell? ⟨b,3,none⟩=some (.slice A3 p.2.2.2.length c3):=h.box.cell 3
 clear h
 cases hl:p.1
 ·have e:richP p=decide (3<(p.2.2.2.length:Int)):=by
   unfold richP
   rw [fill_fork hl,decide_eq_decide]
   omega
  rw [hl] at g0
  have HE:=Hd e
  clear e hl
  go_enter Tryz.func115,Tryz.ntmps115
  go_wp2_with fail
  go_ret
  exact ⟨by rw [HE.out];first | done | rfl,rfl⟩
 ·have e:richP p=decide (3<(p.2.1.length:Int)):=by
   unfold richP
   rw [fill_leaf hl,decide_eq_decide]
   omega
  rw [hl] at g0
  have HE:=Hd e
  clear e hl
  go_enter Tryz.func115,Tryz.ntmps115
  go_wp2_with fail
  go_ret
  exact ⟨by rw [HE.out];first | done | rfl,rfl⟩
theorem c_fromLeft (lo bx by_:Nat) (x y:TPage) (lx ly:List Nat) (key:ByteArray) (w:World) (hx:PgB w lo bx x lx) (hy:PgB w lo by_ y ly) (hxy:∀q∈lx,q∉ly) (hlo:lo≤w.heap.size) (fx:Fine x) (fy:Fine y) (he:x.1=y.1) (hr:3<fillOf x) (h2:2≤fillOf y) (hk:key.size≤maxLen) :
 Calls Tryz.prog 116 #[.pointer (some ⟨bx,0,none⟩),.pointer (some ⟨by_,0,none⟩),.string key] w (fun e w'=>e=.returned (.string (moveR x y key).2.2)∧Two w lo (lx++ly) w' bx (moveR x y key).1 by_ (moveR x y key).2.1):=by
 obtain ⟨lx1,lx2,lx3⟩:=fine_lens fx
 obtain ⟨ly1,ly2,ly3⟩:=fine_lens fy
 have T0:Two w lo (lx++ly) w bx x by_ y:=⟨lx,ly,hx,hy,hxy,fun q hq=>.inl hq,Only.refl _ _⟩
 generalize lx++ly=L at T0 ⊢
 clear hx hy hxy lx ly
 cases hl:x.1
 ·have hly:y.1=false:=he▸hl
  rw [fill_fork hl] at hr
  rw [fill_fork hly] at h2
  obtain ⟨hvx,hix⟩:=fx.fork hl
  obtain ⟨hvy,hiy⟩:=fy.fork hly
  obtain ⟨m,hm⟩:∃m,m+1=x.2.1.length:=⟨x.2.1.length-1,by omega⟩
  obtain ⟨n,hn⟩:∃n,m+1=n:=⟨_,rfl⟩
  have hm1:m<x.2.1.length:=by omega
  have hm2:n<x.2.2.2.length:=by omega
  have hm1i:(m:Int)<(x.2.1.length:Int):=by omega
  have hm2i:(n:Int)<(x.2.2.2.length:Int):=by omega
  have hm0:(0:Int)≤(m:Int):=by omega
  have hn0:(0:Int)≤(n:Int):=by omega
  have hmw:IntKind.i64.wrap ((x.2.1.length:Int)-1)=(m:Int):=by rw [IntWalk.i64_in _ (by omega)];omega
  have hnw:IntKind.i64.wrap ((m:Int)+1)=(n:Int):=by rw [IntWalk.i64_in _ (by omega)];omega
  have hv1:key.size≤maxLen:=hk
  have hv2:I64 x.2.2.2[n]:=by
   have:=fx.kids _ (List.getElem_mem hm2)
   exact ⟨by omega,by omega⟩
  have hks0:0<y.2.1.length:=by omega
  have hvs0:0<y.2.2.2.length:=by omega
  have HM0:=fillR_fork (y:=y) (key:=key) hl (by omega) hm hn hm1 hm2
  rw [remAt_lastK _ (by omega),remAt_lastK _ (by omega)] at HM0
  have HM:=Hd HM0
  clear HM0
  obtain ⟨lx,ly,hxB,hyB,hxy,hsub,hon⟩:=T0
  have hxB0:=hxB
  obtain ⟨A1,c1,a1,A2,c2,a2,A3,c3,a3,px,rfl⟩:=hxB
  have hyB0:=hyB
  obtain ⟨B1,e1,d1,B2,e2,d2,B3,e3,d3,py,rfl⟩:=hyB
  obtain ⟨ga,oa,rfl,ea,ra⟩:=px.s1.addr1 one1_S (by omega)
  have hca:(m:Int)≤(c1:Int):=by have:=ra.len;omega
  have hck:w.cell? ⟨ga,oa+m,none⟩=some (.string x.2.1[m]):=(ra.cell hm1).1
  have gx0:w.cell? ⟨bx,0,none⟩=some (.bool false):=by have h:w.cell? ⟨bx,0,none⟩=some (.bool x.1):=px.box.cell 0;rw [hl] at h;exact h
  have gx1:w.cell? ⟨bx,1,none⟩=some (.slice (some ⟨ga,oa,none⟩) x.2.1.length c1):=px.box.cell 1
  have fx1:=px.box.frozen 1
  have HP:=two_x hxB0 hyB0 hxy hsub hon (px.cut1 (Nat.le_of_lt hm1))
  have gx0b:(w.setCell ⟨bx,1,none⟩ (.slice (some ⟨ga,oa,none⟩) m c1)).cell? ⟨bx,0,none⟩=some (.bool false):=by have h:(w.setCell ⟨bx,1,none⟩ (.slice (some ⟨ga,oa,none⟩) m c1)).cell? ⟨bx,0,none⟩=some (.bool x.1):=(px.box.set 1 (.slice (some ⟨ga,oa,none⟩) m c1)).cell 0;rw [hl] at h;exact h
  have HL:=Hd (And.intro hl (And.intro hly (And.intro hvx (And.intro hvy (And.intro hix (And.intro hiy hm))))))
  clear px py hxB0 hyB0 hxy hsub hon he hl hly hvx hvy hix hiy ra hr h2 fx fy hm hn
  go_enter Tryz.func116,Tryz.ntmps116
  go_upto_region 8 with fail
  generalize (w.setCell ⟨bx,1,none⟩ (.slice (some ⟨ga,oa,none⟩) m c1))=W1 at HP gx0b ⊢
  clear gx0 gx0b gx1 fx1 hck ea hca
  go_cut [] (fun wx=>Two w lo L wx bx (x.1,(x.2.1.take m),x.2.2.1,x.2.2.2) by_ (y.1,(key::y.2.1),y.2.2.1,(x.2.2.2[n]::y.2.2.2)))
  case first =>
   obtain ⟨wc,hwc⟩:∃wc,wc=W1:=⟨_,rfl⟩
   rw [←hwc] at HP ⊢
   clear hwc
   obtain ⟨lx,ly,hxB,hyB,hxy,hsub,hon⟩:=HP
   have hxB0:=hxB
   obtain ⟨A1,c1,a1,A2,c2,a2,A3,c3,a3,px,rfl⟩:=hxB
   have hyB0:=hyB
   obtain ⟨B1,e1,d1,B2,e2,d2,B3,e3,d3,py,rfl⟩:=hyB
   obtain ⟨ga,oa,rfl,ea,ra⟩:=px.s3.addr1 one1_I (by show 0<x.2.2.2.length;omega)
   have hck:wc.cell? ⟨ga,oa+n,none⟩=some (.int .i64 x.2.2.2[n]):=(ra.cell (k:=n) hm2).1
   have hin:=py.in_
   have hbn:=(List.nodup_cons.1 py.nd).1
   have mm:∀q∈d1++d3,q∈by_::(d1++d2++d3):=fun q hq=>by rcases List.mem_append.1 hq with hq | hq <;> simp [hq]
   have mn:∀q∈d1++d3,q≠by_:=fun q hq e=>hbn (by rw [←e];rcases List.mem_append.1 hq with hq | hq <;> simp [hq])
   have mo:∀q∈d1++d3,q≠bx∧q≠ga:=fun q hq=>⟨fun e=>hxy q (by rw [e];exact List.mem_cons_self ..) (mm q hq),fun e=>hxy q (by rw [e,ea];simp) (mm q hq)⟩
   have SK:∀V,Only (d1++d3) wc V→(V.cell? ⟨by_,1,none⟩=some (.slice B1 y.2.1.length e1)∧V.cell? ⟨by_,3,none⟩=some (.slice B3 y.2.2.2.length e3)∧V.cell? ⟨bx,3,none⟩=some (.slice (some ⟨ga,oa,none⟩) x.2.2.2.length c3)∧V.cell? ⟨ga,oa+n,none⟩=some (.int .i64 x.2.2.2[n])):=fun V k=>⟨(py.box.only k (fun h=>mn _ h rfl)).cell 1,(py.box.only k (fun h=>mn _ h rfl)).cell 3,(px.box.only k (fun h=>(mo _ h).1 rfl)).cell 3,(World.cell?_of_block (k.block ga (cell_lt hck) (fun h=>(mo _ h).2 rfl))).trans hck⟩
   have SKH:=Hd SK
   have PT:=Hd py
   have hd1:∀q∈d1,q<wc.heap.size:=fun q hq=>(hin q (mm q (List.mem_append_left _ hq))).2
   have hd2:∀q∈d3,q<wc.heap.size:=fun q hq=>(hin q (mm q (List.mem_append_right _ hq))).2
   have hlw:lo≤wc.heap.size:=Nat.le_trans hlo hon.size
   have HA:=Hd (And.intro hxB0 (And.intro hyB0 (And.intro hxy (And.intro hsub hon))))
   clear hxB0 hyB0 hxy hsub hon px py hck hin hbn mm mn mo ra SK
   refine wp_region_U (fun W=>W.cell? ⟨by_,1,none⟩=some (.slice B1 y.2.1.length e1)∧W.cell? ⟨by_,3,none⟩=some (.slice B3 y.2.2.2.length e3)∧W.cell? ⟨bx,3,none⟩=some (.slice (some ⟨ga,oa,none⟩) x.2.2.2.length c3)∧W.cell? ⟨ga,oa+n,none⟩=some (.int .i64 x.2.2.2[n])) 23 (by kernel_rfl) ?_
   have hS:(fun W:World=>W.cell? ⟨by_,1,none⟩=some (.slice B1 y.2.1.length e1)∧W.cell? ⟨by_,3,none⟩=some (.slice B3 y.2.2.2.length e3)∧W.cell? ⟨bx,3,none⟩=some (.slice (some ⟨ga,oa,none⟩) x.2.2.2.length c3)∧W.cell? ⟨ga,oa+n,none⟩=some (.int .i64 x.2.2.2[n])) wc.drew:=SKH.out _ (Only.of_up (Up.refl wc).drew)
   try simp only [Act.put,sI,sZ,sS]
   refine tP 0 rfl (fun _ _ _ h=>h) hS ?_
   refine tP 1 rfl (fun _ _ _ h=>h) hS ?_
   refine tP 2 rfl (fun _ _ _ h=>h) hS ?_
   refine tP 3 rfl (fun _ _ _ h=>h) hS ?_
   refine tP 4 rfl (fun _ _ _ h=>h) hS ?_
   refine tL 5 rfl (fun _ _ _ h=>h) hS ?_
   refine tP 6 rfl (fun _ _ _ h=>h) hS ?_
   refine tP 9 rfl (fun _ _ _ h=>h) hS ?_
   refine tP 10 rfl (fun _ _ _ h=>h) hS ?_
   refine tP 11 rfl (fun _ _ _ h=>h) hS ?_
   refine tL 12 rfl (fun _ _ _ h=>h) hS ?_
   refine tP 13 rfl (fun _ _ _ h=>h) hS ?_
   refine tP 14 rfl (fun _ _ _ h=>h) hS ?_
   refine tP 15 rfl (fun _ _ _ h=>h) hS ?_
   refine tL 16 rfl (fun _ _ _ h=>h) hS ?_
   refine tP 17 rfl (fun _ _ _ h=>h) hS ?_
   refine tP 18 rfl (fun _ _ _ h=>h) hS ?_
   refine tP 19 rfl (fun _ _ _ h=>h) hS ?_
   refine tL 20 rfl (fun _ _ _ h=>h) hS ?_
   refine rU [7,21] ?_
   refine AllReadyU.cons rfl (fun K hK=>?_) ?_
   ·go_simp
    have ua1:Up wc.drew (wc.drew.alloc (.cells #[.string key] 9)):=(Up.refl _).alloc _
    have kb1:Bk (wc.drew.alloc (.cells #[.string key] 9)) (wc.heap.size) 9 #[.string key]:=Bk.new wc.drew 9 #[.string key]
    have uc1:Up wc (wc.drew.alloc (.cells #[.string key] 9)):=((Up.refl wc).drew).trans ua1
    have oc:Only (d1++d3) wc (wc.drew.alloc (.cells #[.string key] 9)):=Only.of_up uc1
    have zz1:wc.heap.size≤wc.drew.heap.size:=((Up.refl wc).drew).size
    refine hK.out _ _ (SKH.out _ oc) (fun hS=>?_)
    clear hK K
    try simp only [Act.put,sI,sZ,sS]
    refine rU [8,21] ?_
    refine AllReadyU.cons rfl (fun K hK=>?_) ?_
    ·go_simp
     have T0y:=(PgR.start PT.out).up (uc1)
     refine (c_InsertS0 (lo:=lo) (bl:=d1) (by omega) hks0 T0y.pg.s1 kb1 hv1 (fun hh=>by have:=hd1 _ hh;omega) (Nat.le_trans hlw (uc1).size)).mono ?_
     rintro e w1 ⟨D1,f1,bl1,rfl,so1,nd1,hm1,on1⟩
     have T1:=T0y.row1 so1 nd1 hm1 on1
     replace oc:Only (d1++d3) wc w1:=only_via oc on1 (fun q hq=>.inl (List.mem_append_left _ hq))
     have zw1:wc.heap.size≤w1.heap.size:=T1.on.size
     clear T0y so1 nd1 hm1 on1 kb1
     go_wp2_with fail
     refine hK.out _ _ (SKH.out _ oc) (fun hS=>?_)
     clear hK K
     try simp only [Act.put,sI,sZ,sS]
     refine rU [21] ?_
     refine AllReadyU.cons rfl (fun K hK=>?_) AllReadyU.nil
     go_simp
     have ua2:Up w1 (w1.alloc (.cells #[.int .i64 x.2.2.2[n]] 2)):=(Up.refl _).alloc _
     have kb2:Bk (w1.alloc (.cells #[.int .i64 x.2.2.2[n]] 2)) (w1.heap.size) 2 #[.int .i64 x.2.2.2[n]]:=Bk.new w1 2 #[.int .i64 x.2.2.2[n]]
     replace T1:=T1.up ua2
     replace oc:=oc.up ua2
     have zz2:wc.heap.size≤w1.heap.size:=zw1
     refine hK.out _ _ (SKH.out _ oc) (fun hS=>?_)
     clear hK K
     try simp only [Act.put,sI,sZ,sS]
     refine rU [22] ?_
     refine AllReadyU.cons rfl (fun K hK=>?_) AllReadyU.nil
     go_simp
     refine (c_InsertI0 (lo:=lo) (bl:=d3) (by omega) hvs0 T1.pg.s3 kb2 hv2 (fun hh=>by have:=hd2 _ hh;omega) (Nat.le_trans hlw T1.on.size)).mono ?_
     rintro e w2 ⟨D2,f2,bl2,rfl,so2,nd2,hm2,on2⟩
     have T2:=T1.row3 so2 nd2 hm2 on2
     have oc2:Only (d1++d3) wc w2:=only_via oc on2 (fun q hq=>.inl (List.mem_append_right _ hq))
     clear T1 so2 nd2 hm2 on2 kb2
     go_wp2_with fail
     refine hK.out _ _ (SKH.out _ oc2) (fun hS=>?_)
     clear hK K
     try simp only [Act.put,sI,sZ,sS]
     refine wpAnyU_line 5 (by as_aux_lemma=>kernel_rfl) rfl (by decide) ?_
     simp only [List.drop_succ_cons,List.drop_zero]
     have gq1:=T2.pg.box.cell 1
     have fq1:=T2.pg.box.frozen 1
     have T3:=T2.set 1 (.slice D1 (key::y.2.1).length f1)
     have gq2:=T3.pg.box.cell 3
     have fq2:=T3.pg.box.frozen 3
     have T4:=(T3.set 3 (.slice D2 (x.2.2.2[n]::y.2.2.2).length f2)).done (by rfl)
     clear T2 T3 hS
     simp only [List.length_cons,List.length_append,List.length_nil] at gq1 fq1 gq2 fq2 T4
     go_wp2_with fail
     go_meet
     obtain ⟨q1,q2,q3,q4,q5⟩:=HA.out
     exact two_y q1 q2 q3 q4 q5 T4
    refine AllReadyU.cons rfl (fun K hK=>?_) AllReadyU.nil
    go_simp
    have ua2:Up (wc.drew.alloc (.cells #[.string key] 9)) ((wc.drew.alloc (.cells #[.string key] 9)).alloc (.cells #[.int .i64 x.2.2.2[n]] 2)):=(Up.refl _).alloc _
    have kb2:Bk ((wc.drew.alloc (.cells #[.string key] 9)).alloc (.cells #[.int .i64 x.2.2.2[n]] 2)) (wc.heap.size+1) 2 #[.int .i64 x.2.2.2[n]]:=by simpa using Bk.new (wc.drew.alloc (.cells #[.string key] 9)) 2 #[.int .i64 x.2.2.2[n]]
    replace kb1:=kb1.up ua2
    have uc2:Up wc ((wc.drew.alloc (.cells #[.string key] 9)).alloc (.cells #[.int .i64 x.2.2.2[n]] 2)):=(uc1).trans ua2
    have oc:Only (d1++d3) wc ((wc.drew.alloc (.cells #[.string key] 9)).alloc (.cells #[.int .i64 x.2.2.2[n]] 2)):=Only.of_up uc2
    have zz2:wc.heap.size≤(wc.drew.alloc (.cells #[.string key] 9)).heap.size:=(uc1).size
    refine hK.out _ _ (SKH.out _ oc) (fun hS=>?_)
    clear hK K
    try simp only [Act.put,sI,sZ,sS]
    refine rU [8] ?_
    refine AllReadyU.cons rfl (fun K hK=>?_) AllReadyU.nil
    go_simp
    have T0y:=(PgR.start PT.out).up (uc2)
    refine (c_InsertS0 (lo:=lo) (bl:=d1) (by omega) hks0 T0y.pg.s1 kb1 hv1 (fun hh=>by have:=hd1 _ hh;omega) (Nat.le_trans hlw (uc2).size)).mono ?_
    rintro e w1 ⟨D1,f1,bl1,rfl,so1,nd1,hm1,on1⟩
    have T1:=T0y.row1 so1 nd1 hm1 on1
    replace oc:Only (d1++d3) wc w1:=only_via oc on1 (fun q hq=>.inl (List.mem_append_left _ hq))
    replace kb2:=kb2.only on1 (fun hh=>by have:=hd1 _ hh;omega)
    have zw1:wc.heap.size≤w1.heap.size:=T1.on.size
    clear T0y so1 nd1 hm1 on1 kb1
    go_wp2_with fail
    refine hK.out _ _ (SKH.out _ oc) (fun hS=>?_)
    clear hK K
    try simp only [Act.put,sI,sZ,sS]
    refine rU [22] ?_
    refine AllReadyU.cons rfl (fun K hK=>?_) AllReadyU.nil
    go_simp
    refine (c_InsertI0 (lo:=lo) (bl:=d3) (by omega) hvs0 T1.pg.s3 kb2 hv2 (fun hh=>by have:=hd2 _ hh;omega) (Nat.le_trans hlw T1.on.size)).mono ?_
    rintro e w2 ⟨D2,f2,bl2,rfl,so2,nd2,hm2,on2⟩
    have T2:=T1.row3 so2 nd2 hm2 on2
    have oc2:Only (d1++d3) wc w2:=only_via oc on2 (fun q hq=>.inl (List.mem_append_right _ hq))
    clear T1 so2 nd2 hm2 on2 kb2
    go_wp2_with fail
    refine hK.out _ _ (SKH.out _ oc2) (fun hS=>?_)
    clear hK K
    try simp only [Act.put,sI,sZ,sS]
    refine wpAnyU_line 5 (by as_aux_lemma=>kernel_rfl) rfl (by decide) ?_
    simp only [List.drop_succ_cons,List.drop_zero]
    have gq1:=T2.pg.box.cell 1
    have fq1:=T2.pg.box.frozen 1
    have T3:=T2.set 1 (.slice D1 (key::y.2.1).length f1)
    have gq2:=T3.pg.box.cell 3
    have fq2:=T3.pg.box.frozen 3
    have T4:=(T3.set 3 (.slice D2 (x.2.2.2[n]::y.2.2.2).length f2)).done (by rfl)
    clear T2 T3 hS
    simp only [List.length_cons,List.length_append,List.length_nil] at gq1 fq1 gq2 fq2 T4
    go_wp2_with fail
    go_meet
    obtain ⟨q1,q2,q3,q4,q5⟩:=HA.out
    exact two_y q1 q2 q3 q4 q5 T4
   refine AllReadyU.cons rfl (fun K hK=>?_) AllReadyU.nil
   go_simp
   have ua2:Up wc.drew (wc.drew.alloc (.cells #[.int .i64 x.2.2.2[n]] 2)):=(Up.refl _).alloc _
   have kb2:Bk (wc.drew.alloc (.cells #[.int .i64 x.2.2.2[n]] 2)) (wc.heap.size) 2 #[.int .i64 x.2.2.2[n]]:=Bk.new wc.drew 2 #[.int .i64 x.2.2.2[n]]
   have uc2:Up wc (wc.drew.alloc (.cells #[.int .i64 x.2.2.2[n]] 2)):=((Up.refl wc).drew).trans ua2
   have oc:Only (d1++d3) wc (wc.drew.alloc (.cells #[.int .i64 x.2.2.2[n]] 2)):=Only.of_up uc2
   have zz2:wc.heap.size≤wc.drew.heap.size:=((Up.refl wc).drew).size
   refine hK.out _ _ (SKH.out _ oc) (fun hS=>?_)
   clear hK K
   try simp only [Act.put,sI,sZ,sS]
   refine rU [7] ?_
   refine AllReadyU.cons rfl (fun K hK=>?_) AllReadyU.nil
   go_simp
   have ua1:Up (wc.drew.alloc (.cells #[.int .i64 x.2.2.2[n]] 2)) ((wc.drew.alloc (.cells #[.int .i64 x.2.2.2[n]] 2)).alloc (.cells #[.string key] 9)):=(Up.refl _).alloc _
   have kb1:Bk ((wc.drew.alloc (.cells #[.int .i64 x.2.2.2[n]] 2)).alloc (.cells #[.string key] 9)) (wc.heap.size+1) 9 #[.string key]:=by simpa using Bk.new (wc.drew.alloc (.cells #[.int .i64 x.2.2.2[n]] 2)) 9 #[.string key]
   replace kb2:=kb2.up ua1
   have uc1:Up wc ((wc.drew.alloc (.cells #[.int .i64 x.2.2.2[n]] 2)).alloc (.cells #[.string key] 9)):=(uc2).trans ua1
   have oc:Only (d1++d3) wc ((wc.drew.alloc (.cells #[.int .i64 x.2.2.2[n]] 2)).alloc (.cells #[.string key] 9)):=Only.of_up uc1
   have zz1:wc.heap.size≤(wc.drew.alloc (.cells #[.int .i64 x.2.2.2[n]] 2)).heap.size:=(uc2).size
   refine hK.out _ _ (SKH.out _ oc) (fun hS=>?_)
   clear hK K
   try simp only [Act.put,sI,sZ,sS]
   refine rU [8] ?_
   refine AllReadyU.cons rfl (fun K hK=>?_) AllReadyU.nil
   go_simp
   have T0y:=(PgR.start PT.out).up (uc1)
   refine (c_InsertS0 (lo:=lo) (bl:=d1) (by omega) hks0 T0y.pg.s1 kb1 hv1 (fun hh=>by have:=hd1 _ hh;omega) (Nat.le_trans hlw (uc1).size)).mono ?_
   rintro e w1 ⟨D1,f1,bl1,rfl,so1,nd1,hm1,on1⟩
   have T1:=T0y.row1 so1 nd1 hm1 on1
   replace oc:Only (d1++d3) wc w1:=only_via oc on1 (fun q hq=>.inl (List.mem_append_left _ hq))
   replace kb2:=kb2.only on1 (fun hh=>by have:=hd1 _ hh;omega)
   have zw1:wc.heap.size≤w1.heap.size:=T1.on.size
   clear T0y so1 nd1 hm1 on1 kb1
   go_wp2_with fail
   refine hK.out _ _ (SKH.out _ oc) (fun hS=>?_)
   clear hK K
   try simp only [Act.put,sI,sZ,sS]
   refine rU [22] ?_
   refine AllReadyU.cons rfl (fun K hK=>?_) AllReadyU.nil
   go_simp
   refine (c_InsertI0 (lo:=lo) (bl:=d3) (by omega) hvs0 T1.pg.s3 kb2 hv2 (fun hh=>by have:=hd2 _ hh;omega) (Nat.le_trans hlw T1.on.size)).mono ?_
   rintro e w2 ⟨D2,f2,bl2,rfl,so2,nd2,hm2,on2⟩
   have T2:=T1.row3 so2 nd2 hm2 on2
   have oc2:Only (d1++d3) wc w2:=only_via oc on2 (fun q hq=>.inl (List.mem_append_right _ hq))
   clear T1 so2 nd2 hm2 on2 kb2
   go_wp2_with fail
   refine hK.out _ _ (SKH.out _ oc2) (fun hS=>?_)
   clear hK K
   try simp only [Act.put,sI,sZ,sS]
   refine wpAnyU_line 5 (by as_aux_lemma=>kernel_rfl) rfl (by decide) ?_
   simp only [List.drop_succ_cons,List.drop_zero]
   have gq1:=T2.pg.box.cell 1
   have fq1:=T2.pg.box.frozen 1
   have T3:=T2.set 1 (.slice D1 (key::y.2.1).length f1)
   have gq2:=T3.pg.box.cell 3
   have fq2:=T3.pg.box.frozen 3
   have T4:=(T3.set 3 (.slice D2 (x.2.2.2[n]::y.2.2.2).length f2)).done (by rfl)
   clear T2 T3 hS
   simp only [List.length_cons,List.length_append,List.length_nil] at gq1 fq1 gq2 fq2 T4
   go_wp2_with fail
   go_meet
   obtain ⟨q1,q2,q3,q4,q5⟩:=HA.out
   exact two_y q1 q2 q3 q4 q5 T4
  clear HP
  have HP:=hcut
  clear hcut
  obtain ⟨lx,ly,hxB,hyB,hxy,hsub,hon⟩:=HP
  have hxB0:=hxB
  obtain ⟨A1,c1,a1,A2,c2,a2,A3,c3,a3,px,rfl⟩:=hxB
  have hyB0:=hyB
  obtain ⟨B1,e1,d1,B2,e2,d2,B3,e3,d3,py,rfl⟩:=hyB
  have gx2:wc.cell? ⟨bx,3,none⟩=some (.slice A3 x.2.2.2.length c3):=px.box.cell 3
  have fx2:=px.box.frozen 3
  have hcb:(n:Int)≤(c3:Int):=by have h1:x.2.2.2.length≤c3:=px.s3.1;omega
  have HF:=Hd (two_x hxB0 hyB0 hxy hsub hon (px.cut3 (m:=n) (by show n≤x.2.2.2.length;omega)))
  clear px py hxB0 hyB0 hxy hsub hon
  go_wp2_with fail
  go_ret
  rw [HM.out]
  exact ⟨rfl,HF.out⟩
 ·have hly:y.1=true:=he▸hl
  rw [fill_leaf hl] at hr
  rw [fill_leaf hly] at h2
  obtain ⟨hvx,hix⟩:=fx.leaf hl
  obtain ⟨hvy,hiy⟩:=fy.leaf hly
  obtain ⟨m,hm⟩:∃m,m+1=x.2.1.length:=⟨x.2.1.length-1,by omega⟩
  have hm1:m<x.2.1.length:=by omega
  have hm2:m<x.2.2.1.length:=by omega
  have hm1i:(m:Int)<(x.2.1.length:Int):=by omega
  have hm2i:(m:Int)<(x.2.2.1.length:Int):=by omega
  have hm0:(0:Int)≤(m:Int):=by omega
  have hmw:IntKind.i64.wrap ((x.2.1.length:Int)-1)=(m:Int):=by rw [IntWalk.i64_in _ (by omega)];omega
  have hv1:x.2.1[m].size≤maxLen:=Nat.le_trans (fx.keys _ (List.getElem_mem hm1)) (by unfold maxLen;omega)
  have hv2:x.2.2.1[m].size≤maxLen:=Nat.le_trans (fx.vals _ (List.getElem_mem hm2)) (by unfold maxLen;omega)
  have hks0:0<y.2.1.length:=by omega
  have hvs0:0<y.2.2.1.length:=by omega
  have HM0:=fillR_leaf (y:=y) (key:=key) hl hvx hm hm1 hm2
  rw [remAt_lastK _ (by omega),remAt_lastK _ (by omega)] at HM0
  have HM:=Hd HM0
  clear HM0
  obtain ⟨lx,ly,hxB,hyB,hxy,hsub,hon⟩:=T0
  have hxB0:=hxB
  obtain ⟨A1,c1,a1,A2,c2,a2,A3,c3,a3,px,rfl⟩:=hxB
  have hyB0:=hyB
  obtain ⟨B1,e1,d1,B2,e2,d2,B3,e3,d3,py,rfl⟩:=hyB
  obtain ⟨ga,oa,rfl,ea,ra⟩:=px.s1.addr1 one1_S (by omega)
  have hca:(m:Int)≤(c1:Int):=by have:=ra.len;omega
  have hck:w.cell? ⟨ga,oa+m,none⟩=some (.string x.2.1[m]):=(ra.cell hm1).1
  have gx0:w.cell? ⟨bx,0,none⟩=some (.bool true):=by have h:w.cell? ⟨bx,0,none⟩=some (.bool x.1):=px.box.cell 0;rw [hl] at h;exact h
  have gx1:w.cell? ⟨bx,1,none⟩=some (.slice (some ⟨ga,oa,none⟩) x.2.1.length c1):=px.box.cell 1
  have fx1:=px.box.frozen 1
  have HP:=two_x hxB0 hyB0 hxy hsub hon (px.cut1 (Nat.le_of_lt hm1))
  have gx0b:(w.setCell ⟨bx,1,none⟩ (.slice (some ⟨ga,oa,none⟩) m c1)).cell? ⟨bx,0,none⟩=some (.bool true):=by have h:(w.setCell ⟨bx,1,none⟩ (.slice (some ⟨ga,oa,none⟩) m c1)).cell? ⟨bx,0,none⟩=some (.bool x.1):=(px.box.set 1 (.slice (some ⟨ga,oa,none⟩) m c1)).cell 0;rw [hl] at h;exact h
  have HL:=Hd (And.intro hl (And.intro hly (And.intro hvx (And.intro hvy (And.intro hix (And.intro hiy hm))))))
  clear px py hxB0 hyB0 hxy hsub hon he hl hly hvx hvy hix hiy ra hr h2 fx fy hm
  go_enter Tryz.func116,Tryz.ntmps116
  go_upto_region 5 with fail
  generalize (w.setCell ⟨bx,1,none⟩ (.slice (some ⟨ga,oa,none⟩) m c1))=W1 at HP gx0b ⊢
  clear gx0 gx0b gx1 fx1 hck ea hca
  go_cut [] (fun wx=>Two w lo L wx bx (x.1,(x.2.1.take m),x.2.2.1,x.2.2.2) by_ (y.1,(x.2.1[m]::y.2.1),(x.2.2.1[m]::y.2.2.1),y.2.2.2))
  case first =>
   obtain ⟨wc,hwc⟩:∃wc,wc=W1:=⟨_,rfl⟩
   rw [←hwc] at HP ⊢
   clear hwc
   obtain ⟨lx,ly,hxB,hyB,hxy,hsub,hon⟩:=HP
   have hxB0:=hxB
   obtain ⟨A1,c1,a1,A2,c2,a2,A3,c3,a3,px,rfl⟩:=hxB
   have hyB0:=hyB
   obtain ⟨B1,e1,d1,B2,e2,d2,B3,e3,d3,py,rfl⟩:=hyB
   obtain ⟨ga,oa,rfl,ea,ra⟩:=px.s2.addr1 one1_S (by show 0<x.2.2.1.length;omega)
   have hck:wc.cell? ⟨ga,oa+m,none⟩=some (.string x.2.2.1[m]):=(ra.cell (k:=m) hm2).1
   have hin:=py.in_
   have hbn:=(List.nodup_cons.1 py.nd).1
   have mm:∀q∈d1++d2,q∈by_::(d1++d2++d3):=fun q hq=>by rcases List.mem_append.1 hq with hq | hq <;> simp [hq]
   have mn:∀q∈d1++d2,q≠by_:=fun q hq e=>hbn (by rw [←e];rcases List.mem_append.1 hq with hq | hq <;> simp [hq])
   have mo:∀q∈d1++d2,q≠bx∧q≠ga:=fun q hq=>⟨fun e=>hxy q (by rw [e];exact List.mem_cons_self ..) (mm q hq),fun e=>hxy q (by rw [e,ea];simp) (mm q hq)⟩
   have SK:∀V,Only (d1++d2) wc V→(V.cell? ⟨by_,1,none⟩=some (.slice B1 y.2.1.length e1)∧V.cell? ⟨by_,2,none⟩=some (.slice B2 y.2.2.1.length e2)∧V.cell? ⟨bx,2,none⟩=some (.slice (some ⟨ga,oa,none⟩) x.2.2.1.length c2)∧V.cell? ⟨ga,oa+m,none⟩=some (.string x.2.2.1[m])):=fun V k=>⟨(py.box.only k (fun h=>mn _ h rfl)).cell 1,(py.box.only k (fun h=>mn _ h rfl)).cell 2,(px.box.only k (fun h=>(mo _ h).1 rfl)).cell 2,(World.cell?_of_block (k.block ga (cell_lt hck) (fun h=>(mo _ h).2 rfl))).trans hck⟩
   have SKH:=Hd SK
   have PT:=Hd py
   have hd1:∀q∈d1,q<wc.heap.size:=fun q hq=>(hin q (mm q (List.mem_append_left _ hq))).2
   have hd2:∀q∈d2,q<wc.heap.size:=fun q hq=>(hin q (mm q (List.mem_append_right _ hq))).2
   have hlw:lo≤wc.heap.size:=Nat.le_trans hlo hon.size
   have HA:=Hd (And.intro hxB0 (And.intro hyB0 (And.intro hxy (And.intro hsub hon))))
   clear hxB0 hyB0 hxy hsub hon px py hck hin hbn mm mn mo ra SK
   refine wp_region_U (fun W=>W.cell? ⟨by_,1,none⟩=some (.slice B1 y.2.1.length e1)∧W.cell? ⟨by_,2,none⟩=some (.slice B2 y.2.2.1.length e2)∧W.cell? ⟨bx,2,none⟩=some (.slice (some ⟨ga,oa,none⟩) x.2.2.1.length c2)∧W.cell? ⟨ga,oa+m,none⟩=some (.string x.2.2.1[m])) 22 (by kernel_rfl) ?_
   have hS:(fun W:World=>W.cell? ⟨by_,1,none⟩=some (.slice B1 y.2.1.length e1)∧W.cell? ⟨by_,2,none⟩=some (.slice B2 y.2.2.1.length e2)∧W.cell? ⟨bx,2,none⟩=some (.slice (some ⟨ga,oa,none⟩) x.2.2.1.length c2)∧W.cell? ⟨ga,oa+m,none⟩=some (.string x.2.2.1[m])) wc.drew:=SKH.out _ (Only.of_up (Up.refl wc).drew)
   try simp only [Act.put,sI,sZ,sS]
   refine tP 0 rfl (fun _ _ _ h=>h) hS ?_
   refine tP 1 rfl (fun _ _ _ h=>h) hS ?_
   refine tP 2 rfl (fun _ _ _ h=>h) hS ?_
   refine tP 3 rfl (fun _ _ _ h=>h) hS ?_
   refine tP 4 rfl (fun _ _ _ h=>h) hS ?_
   refine tL 5 rfl (fun _ _ _ h=>h) hS ?_
   refine tP 6 rfl (fun _ _ _ h=>h) hS ?_
   refine tP 9 rfl (fun _ _ _ h=>h) hS ?_
   refine tP 10 rfl (fun _ _ _ h=>h) hS ?_
   refine tP 11 rfl (fun _ _ _ h=>h) hS ?_
   refine tL 12 rfl (fun _ _ _ h=>h) hS ?_
   refine tP 13 rfl (fun _ _ _ h=>h) hS ?_
   refine tP 14 rfl (fun _ _ _ h=>h) hS ?_
   refine tP 15 rfl (fun _ _ _ h=>h) hS ?_
   refine tL 16 rfl (fun _ _ _ h=>h) hS ?_
   refine tP 17 rfl (fun _ _ _ h=>h) hS ?_
   refine tP 18 rfl (fun _ _ _ h=>h) hS ?_
   refine tL 19 rfl (fun _ _ _ h=>h) hS ?_
   refine rU [7,20] ?_
   refine AllReadyU.cons rfl (fun K hK=>?_) ?_
   ·go_simp
    have ua1:Up wc.drew (wc.drew.alloc (.cells #[.string x.2.1[m]] 9)):=(Up.refl _).alloc _
    have kb1:Bk (wc.drew.alloc (.cells #[.string x.2.1[m]] 9)) (wc.heap.size) 9 #[.string x.2.1[m]]:=Bk.new wc.drew 9 #[.string x.2.1[m]]
    have uc1:Up wc (wc.drew.alloc (.cells #[.string x.2.1[m]] 9)):=((Up.refl wc).drew).trans ua1
    have oc:Only (d1++d2) wc (wc.drew.alloc (.cells #[.string x.2.1[m]] 9)):=Only.of_up uc1
    have zz1:wc.heap.size≤wc.drew.heap.size:=((Up.refl wc).drew).size
    refine hK.out _ _ (SKH.out _ oc) (fun hS=>?_)
    clear hK K
    try simp only [Act.put,sI,sZ,sS]
    refine rU [8,20] ?_
    refine AllReadyU.cons rfl (fun K hK=>?_) ?_
    ·go_simp
     have T0y:=(PgR.start PT.out).up (uc1)
     refine (c_InsertS0 (lo:=lo) (bl:=d1) (by omega) hks0 T0y.pg.s1 kb1 hv1 (fun hh=>by have:=hd1 _ hh;omega) (Nat.le_trans hlw (uc1).size)).mono ?_
     rintro e w1 ⟨D1,f1,bl1,rfl,so1,nd1,hm1,on1⟩
     have T1:=T0y.row1 so1 nd1 hm1 on1
     replace oc:Only (d1++d2) wc w1:=only_via oc on1 (fun q hq=>.inl (List.mem_append_left _ hq))
     have zw1:wc.heap.size≤w1.heap.size:=T1.on.size
     clear T0y so1 nd1 hm1 on1 kb1
     go_wp2_with fail
     refine hK.out _ _ (SKH.out _ oc) (fun hS=>?_)
     clear hK K
     try simp only [Act.put,sI,sZ,sS]
     refine rU [20] ?_
     refine AllReadyU.cons rfl (fun K hK=>?_) AllReadyU.nil
     go_simp
     have ua2:Up w1 (w1.alloc (.cells #[.string x.2.2.1[m]] 9)):=(Up.refl _).alloc _
     have kb2:Bk (w1.alloc (.cells #[.string x.2.2.1[m]] 9)) (w1.heap.size) 9 #[.string x.2.2.1[m]]:=Bk.new w1 9 #[.string x.2.2.1[m]]
     replace T1:=T1.up ua2
     replace oc:=oc.up ua2
     have zz2:wc.heap.size≤w1.heap.size:=zw1
     refine hK.out _ _ (SKH.out _ oc) (fun hS=>?_)
     clear hK K
     try simp only [Act.put,sI,sZ,sS]
     refine rU [21] ?_
     refine AllReadyU.cons rfl (fun K hK=>?_) AllReadyU.nil
     go_simp
     refine (c_InsertS0 (lo:=lo) (bl:=d2) (by omega) hvs0 T1.pg.s2 kb2 hv2 (fun hh=>by have:=hd2 _ hh;omega) (Nat.le_trans hlw T1.on.size)).mono ?_
     rintro e w2 ⟨D2,f2,bl2,rfl,so2,nd2,hm2,on2⟩
     have T2:=T1.row2 so2 nd2 hm2 on2
     have oc2:Only (d1++d2) wc w2:=only_via oc on2 (fun q hq=>.inl (List.mem_append_right _ hq))
     clear T1 so2 nd2 hm2 on2 kb2
     go_wp2_with fail
     refine hK.out _ _ (SKH.out _ oc2) (fun hS=>?_)
     clear hK K
     try simp only [Act.put,sI,sZ,sS]
     refine wpAnyU_line 5 (by as_aux_lemma=>kernel_rfl) rfl (by decide) ?_
     simp only [List.drop_succ_cons,List.drop_zero]
     have gq1:=T2.pg.box.cell 1
     have fq1:=T2.pg.box.frozen 1
     have T3:=T2.set 1 (.slice D1 (x.2.1[m]::y.2.1).length f1)
     have gq2:=T3.pg.box.cell 2
     have fq2:=T3.pg.box.frozen 2
     have T4:=(T3.set 2 (.slice D2 (x.2.2.1[m]::y.2.2.1).length f2)).done (by rfl)
     clear T2 T3 hS
     simp only [List.length_cons,List.length_append,List.length_nil] at gq1 fq1 gq2 fq2 T4
     go_wp2_with fail
     go_meet
     obtain ⟨q1,q2,q3,q4,q5⟩:=HA.out
     exact two_y q1 q2 q3 q4 q5 T4
    refine AllReadyU.cons rfl (fun K hK=>?_) AllReadyU.nil
    go_simp
    have ua2:Up (wc.drew.alloc (.cells #[.string x.2.1[m]] 9)) ((wc.drew.alloc (.cells #[.string x.2.1[m]] 9)).alloc (.cells #[.string x.2.2.1[m]] 9)):=(Up.refl _).alloc _
    have kb2:Bk ((wc.drew.alloc (.cells #[.string x.2.1[m]] 9)).alloc (.cells #[.string x.2.2.1[m]] 9)) (wc.heap.size+1) 9 #[.string x.2.2.1[m]]:=by simpa using Bk.new (wc.drew.alloc (.cells #[.string x.2.1[m]] 9)) 9 #[.string x.2.2.1[m]]
    replace kb1:=kb1.up ua2
    have uc2:Up wc ((wc.drew.alloc (.cells #[.string x.2.1[m]] 9)).alloc (.cells #[.string x.2.2.1[m]] 9)):=(uc1).trans ua2
    have oc:Only (d1++d2) wc ((wc.drew.alloc (.cells #[.string x.2.1[m]] 9)).alloc (.cells #[.string x.2.2.1[m]] 9)):=Only.of_up uc2
    have zz2:wc.heap.size≤(wc.drew.alloc (.cells #[.string x.2.1[m]] 9)).heap.size:=(uc1).size
    refine hK.out _ _ (SKH.out _ oc) (fun hS=>?_)
    clear hK K
    try simp only [Act.put,sI,sZ,sS]
    refine rU [8] ?_
    refine AllReadyU.cons rfl (fun K hK=>?_) AllReadyU.nil
    go_simp
    have T0y:=(PgR.start PT.out).up (uc2)
    refine (c_InsertS0 (lo:=lo) (bl:=d1) (by omega) hks0 T0y.pg.s1 kb1 hv1 (fun hh=>by have:=hd1 _ hh;omega) (Nat.le_trans hlw (uc2).size)).mono ?_
    rintro e w1 ⟨D1,f1,bl1,rfl,so1,nd1,hm1,on1⟩
    have T1:=T0y.row1 so1 nd1 hm1 on1
    replace oc:Only (d1++d2) wc w1:=only_via oc on1 (fun q hq=>.inl (List.mem_append_left _ hq))
    replace kb2:=kb2.only on1 (fun hh=>by have:=hd1 _ hh;omega)
    have zw1:wc.heap.size≤w1.heap.size:=T1.on.size
    clear T0y so1 nd1 hm1 on1 kb1
    go_wp2_with fail
    refine hK.out _ _ (SKH.out _ oc) (fun hS=>?_)
    clear hK K
    try simp only [Act.put,sI,sZ,sS]
    refine rU [21] ?_
    refine AllReadyU.cons rfl (fun K hK=>?_) AllReadyU.nil
    go_simp
    refine (c_InsertS0 (lo:=lo) (bl:=d2) (by omega) hvs0 T1.pg.s2 kb2 hv2 (fun hh=>by have:=hd2 _ hh;omega) (Nat.le_trans hlw T1.on.size)).mono ?_
    rintro e w2 ⟨D2,f2,bl2,rfl,so2,nd2,hm2,on2⟩
    have T2:=T1.row2 so2 nd2 hm2 on2
    have oc2:Only (d1++d2) wc w2:=only_via oc on2 (fun q hq=>.inl (List.mem_append_right _ hq))
    clear T1 so2 nd2 hm2 on2 kb2
    go_wp2_with fail
    refine hK.out _ _ (SKH.out _ oc2) (fun hS=>?_)
    clear hK K
    try simp only [Act.put,sI,sZ,sS]
    refine wpAnyU_line 5 (by as_aux_lemma=>kernel_rfl) rfl (by decide) ?_
    simp only [List.drop_succ_cons,List.drop_zero]
    have gq1:=T2.pg.box.cell 1
    have fq1:=T2.pg.box.frozen 1
    have T3:=T2.set 1 (.slice D1 (x.2.1[m]::y.2.1).length f1)
    have gq2:=T3.pg.box.cell 2
    have fq2:=T3.pg.box.frozen 2
    have T4:=(T3.set 2 (.slice D2 (x.2.2.1[m]::y.2.2.1).length f2)).done (by rfl)
    clear T2 T3 hS
    simp only [List.length_cons,List.length_append,List.length_nil] at gq1 fq1 gq2 fq2 T4
    go_wp2_with fail
    go_meet
    obtain ⟨q1,q2,q3,q4,q5⟩:=HA.out
    exact two_y q1 q2 q3 q4 q5 T4
   refine AllReadyU.cons rfl (fun K hK=>?_) AllReadyU.nil
   go_simp
   have ua2:Up wc.drew (wc.drew.alloc (.cells #[.string x.2.2.1[m]] 9)):=(Up.refl _).alloc _
   have kb2:Bk (wc.drew.alloc (.cells #[.string x.2.2.1[m]] 9)) (wc.heap.size) 9 #[.string x.2.2.1[m]]:=Bk.new wc.drew 9 #[.string x.2.2.1[m]]
   have uc2:Up wc (wc.drew.alloc (.cells #[.string x.2.2.1[m]] 9)):=((Up.refl wc).drew).trans ua2
   have oc:Only (d1++d2) wc (wc.drew.alloc (.cells #[.string x.2.2.1[m]] 9)):=Only.of_up uc2
   have zz2:wc.heap.size≤wc.drew.heap.size:=((Up.refl wc).drew).size
   refine hK.out _ _ (SKH.out _ oc) (fun hS=>?_)
   clear hK K
   try simp only [Act.put,sI,sZ,sS]
   refine rU [7] ?_
   refine AllReadyU.cons rfl (fun K hK=>?_) AllReadyU.nil
   go_simp
   have ua1:Up (wc.drew.alloc (.cells #[.string x.2.2.1[m]] 9)) ((wc.drew.alloc (.cells #[.string x.2.2.1[m]] 9)).alloc (.cells #[.string x.2.1[m]] 9)):=(Up.refl _).alloc _
   have kb1:Bk ((wc.drew.alloc (.cells #[.string x.2.2.1[m]] 9)).alloc (.cells #[.string x.2.1[m]] 9)) (wc.heap.size+1) 9 #[.string x.2.1[m]]:=by simpa using Bk.new (wc.drew.alloc (.cells #[.string x.2.2.1[m]] 9)) 9 #[.string x.2.1[m]]
   replace kb2:=kb2.up ua1
   have uc1:Up wc ((wc.drew.alloc (.cells #[.string x.2.2.1[m]] 9)).alloc (.cells #[.string x.2.1[m]] 9)):=(uc2).trans ua1
   have oc:Only (d1++d2) wc ((wc.drew.alloc (.cells #[.string x.2.2.1[m]] 9)).alloc (.cells #[.string x.2.1[m]] 9)):=Only.of_up uc1
   have zz1:wc.heap.size≤(wc.drew.alloc (.cells #[.string x.2.2.1[m]] 9)).heap.size:=(uc2).size
   refine hK.out _ _ (SKH.out _ oc) (fun hS=>?_)
   clear hK K
   try simp only [Act.put,sI,sZ,sS]
   refine rU [8] ?_
   refine AllReadyU.cons rfl (fun K hK=>?_) AllReadyU.nil
   go_simp
   have T0y:=(PgR.start PT.out).up (uc1)
   refine (c_InsertS0 (lo:=lo) (bl:=d1) (by omega) hks0 T0y.pg.s1 kb1 hv1 (fun hh=>by have:=hd1 _ hh;omega) (Nat.le_trans hlw (uc1).size)).mono ?_
   rintro e w1 ⟨D1,f1,bl1,rfl,so1,nd1,hm1,on1⟩
   have T1:=T0y.row1 so1 nd1 hm1 on1
   replace oc:Only (d1++d2) wc w1:=only_via oc on1 (fun q hq=>.inl (List.mem_append_left _ hq))
   replace kb2:=kb2.only on1 (fun hh=>by have:=hd1 _ hh;omega)
   have zw1:wc.heap.size≤w1.heap.size:=T1.on.size
   clear T0y so1 nd1 hm1 on1 kb1
   go_wp2_with fail
   refine hK.out _ _ (SKH.out _ oc) (fun hS=>?_)
   clear hK K
   try simp only [Act.put,sI,sZ,sS]
   refine rU [21] ?_
   refine AllReadyU.cons rfl (fun K hK=>?_) AllReadyU.nil
   go_simp
   refine (c_InsertS0 (lo:=lo) (bl:=d2) (by omega) hvs0 T1.pg.s2 kb2 hv2 (fun hh=>by have:=hd2 _ hh;omega) (Nat.le_trans hlw T1.on.size)).mono ?_
   rintro e w2 ⟨D2,f2,bl2,rfl,so2,nd2,hm2,on2⟩
   have T2:=T1.row2 so2 nd2 hm2 on2
   have oc2:Only (d1++d2) wc w2:=only_via oc on2 (fun q hq=>.inl (List.mem_append_right _ hq))
   clear T1 so2 nd2 hm2 on2 kb2
   go_wp2_with fail
   refine hK.out _ _ (SKH.out _ oc2) (fun hS=>?_)
   clear hK K
   try simp only [Act.put,sI,sZ,sS]
   refine wpAnyU_line 5 (by as_aux_lemma=>kernel_rfl) rfl (by decide) ?_
   simp only [List.drop_succ_cons,List.drop_zero]
   have gq1:=T2.pg.box.cell 1
   have fq1:=T2.pg.box.frozen 1
   have T3:=T2.set 1 (.slice D1 (x.2.1[m]::y.2.1).length f1)
   have gq2:=T3.pg.box.cell 2
   have fq2:=T3.pg.box.frozen 2
   have T4:=(T3.set 2 (.slice D2 (x.2.2.1[m]::y.2.2.1).length f2)).done (by rfl)
   clear T2 T3 hS
   simp only [List.length_cons,List.length_append,List.length_nil] at gq1 fq1 gq2 fq2 T4
   go_wp2_with fail
   go_meet
   obtain ⟨q1,q2,q3,q4,q5⟩:=HA.out
   exact two_y q1 q2 q3 q4 q5 T4
  clear HP
  have HP:=hcut
  clear hcut
  obtain ⟨lx,ly,hxB,hyB,hxy,hsub,hon⟩:=HP
  have hxB0:=hxB
  obtain ⟨A1,c1,a1,A2,c2,a2,A3,c3,a3,px,rfl⟩:=hxB
  have hyB0:=hyB
  obtain ⟨B1,e1,d1,B2,e2,d2,B3,e3,d3,py,rfl⟩:=hyB
  have gx2:wc.cell? ⟨bx,2,none⟩=some (.slice A2 x.2.2.1.length c2):=px.box.cell 2
  have fx2:=px.box.frozen 2
  have hcb:(m:Int)≤(c2:Int):=by have h1:x.2.2.1.length≤c2:=px.s2.1;omega
  have HF:=Hd (two_x hxB0 hyB0 hxy hsub hon (px.cut2 (m:=m) (by show m≤x.2.2.1.length;omega)))
  clear px py hxB0 hyB0 hxy hsub hon
  go_wp2_with fail
  go_ret
  rw [HM.out]
  exact ⟨rfl,HF.out⟩
end Go.Proofs.YtojmcmghmnfjeaaGreatDoor
