/-
 Parts of the proof.
-/
import Derived.Test.YtojmcmghmnfjeaaGreatDoorM1Yig
set_option maxHeartbeats 16000000
set_option maxRecDepth 100000
namespace Go.Proofs.YtojmcmghmnfjeaaGreatDoor
open Go.RowKit
set_option linter.unusedVariables false
set_option linter.unusedSimpArgs false
theorem fine_lens {p:TPage} (h:Fine p):p.2.1.length≤6∧p.2.2.1.length≤6∧p.2.2.2.length≤6:=by
 have h3:=h.fill
 cases hl:p.1
 ·obtain ⟨a,b⟩:=h.fork hl
  rw [fill_fork hl] at h3
  rw [b]
  exact ⟨by omega,by simp,h3⟩
 ·obtain ⟨a,b⟩:=h.leaf hl
  rw [fill_leaf hl] at h3
  rw [b]
  exact ⟨h3,by omega,by simp⟩
theorem sum_sizes {M:Nat}:∀{l:List ByteArray},(∀k∈l,k.size≤M)→(l.map shS.sz).sum≤M*l.length
 | [],_=>by simp
 | a::l,h=>by
  have h1:=h a (by simp)
  have h2:=sum_sizes (M:=M) (l:=l) (fun k hk=>h k (by simp [hk]))
  have e:shS.sz a=a.size:=rfl
  simp only [List.map_cons,List.sum_cons,List.length_cons,Nat.mul_succ,e]
  omega
theorem sum_ints:∀{l:List Int},(l.map shI.sz).sum=0
 | []=>rfl
 | a::l=>by
  have e:shI.sz a=0:=rfl
  simp only [List.map_cons,List.sum_cons,e,sum_ints]
theorem fine_sz {p:TPage} (h:Fine p):shPage.sz p≤1048576:=by
 obtain ⟨h1,h2,h3⟩:=fine_lens h
 have e:shPage.sz p=0+((p.2.1.length+(p.2.1.map shS.sz).sum)+((p.2.2.1.length+(p.2.2.1.map shS.sz).sum)+(p.2.2.2.length+(p.2.2.2.map shI.sz).sum))):=rfl
 have s1:=sum_sizes h.keys
 have s2:=sum_sizes h.vals
 have s3:=sum_ints (l:=p.2.2.2)
 have q1:213*p.2.1.length≤213*6:=Nat.mul_le_mul_left _ h1
 have q2:64*p.2.2.1.length≤64*6:=Nat.mul_le_mul_left _ h2
 omega
theorem so_far {α:Type} {s:Sh α} (hg:Good s) {lo B i:Nat} {W Wm w':World} {D:Option Addr} {d:Nat} {xs:List α} {bl bl1:List Nat} (h:SO s W lo W.heap.size D d xs bl) (u:Up W Wm) (on:Only bl1 Wm w') (hd:∀q∈bl,q∉bl1) (hB:B∉bl) (v:Value):SO s (w'.setCell ⟨B,i,none⟩ v) lo (w'.setCell ⟨B,i,none⟩ v).heap.size D d xs bl:=by
 have hs:(w'.setCell ⟨B,i,none⟩ v).heap.size=w'.heap.size:=(But.set w' B i v).size
 have h1:=h.up hg u
 have h2:=(h1.keep hg (w':=w'.setCell ⟨B,i,none⟩ v) (fun q hq=>((But.set w' B i v).block q (fun e=>hB (e▸hq))).trans (on.block q (h1.in_ hg q hq).2 (hd q hq))))
 exact h2.wide hg (Nat.le_refl _) (by rw [hs];exact on.size)
theorem so_near {α:Type} {s:Sh α} (hg:Good s) {lo B i:Nat} {w':World} {D:Option Addr} {d:Nat} {xs:List α} {bl:List Nat} (h:SO s w' lo w'.heap.size D d xs bl) (hB:B∉bl) (v:Value):SO s (w'.setCell ⟨B,i,none⟩ v) lo (w'.setCell ⟨B,i,none⟩ v).heap.size D d xs bl:=by
 have hs:(w'.setCell ⟨B,i,none⟩ v).heap.size=w'.heap.size:=(But.set w' B i v).size
 have h2:=h.keep hg (w':=w'.setCell ⟨B,i,none⟩ v) (fun q hq=>(But.set w' B i v).block q (fun e=>hB (e▸hq)))
 rw [hs]
 exact h2
structure JoinS (w:World) (lo B:Nat) (CX CY CZ:Array Value) (W:World) (f:Bool) (ks vs:List ByteArray) (is:List Int) (D1:Option Addr) (d1:Nat) (bl1:List Nat) (D2:Option Addr) (d2:Nat) (bl2:List Nat) (D3:Option Addr) (d3:Nat) (bl3:List Nat):Prop where
 x:Bk W w.heap.size 58 CX
 y:Bk W (w.heap.size+1) 58 CY
 z:Bk W (w.heap.size+1+1) 58 CZ
 b:Bk W B 58 #[.bool f,.slice D1 ks.length d1,.slice D2 vs.length d2,.slice D3 is.length d3]
 s1:SO shS W lo W.heap.size D1 d1 ks bl1
 s2:SO shS W lo W.heap.size D2 d2 vs bl2
 s3:SO shI W lo W.heap.size D3 d3 is bl3
 nd:(bl1++bl2++bl3).Nodup
 nb:B∉bl1∧B∉bl2∧B∉bl3
 lo1:w.heap.size+3≤lo
 lo2:lo≤B
 up:Up w W
theorem nd_one {a b c a':List Nat} {m:Nat} (h:(a++b++c).Nodup) (ha:a'.Nodup) (hm:∀q∈a',q∈a∨m≤q) (hb:∀q∈b,q<m) (hc:∀q∈c,q<m):(a'++b++c).Nodup:=by
 obtain ⟨h1,h2,h3⟩:=List.nodup_append.1 h
 obtain ⟨h4,h5,h6⟩:=List.nodup_append.1 h1
 refine List.nodup_append.2 ⟨List.nodup_append.2 ⟨ha,h5,?_⟩,h2,?_⟩
 ·rintro q hq r hr rfl
  rcases hm q hq with e | e
  ·exact h6 q e q hr rfl
  ·have:=hb q hr;omega
 ·rintro q hq r hr rfl
  rcases List.mem_append.1 hq with hq | hq
  ·rcases hm q hq with e | e
   ·exact h3 q (List.mem_append_left _ e) q hr rfl
   ·have:=hc q hr;omega
  ·exact h3 q (List.mem_append_right _ hq) q hr rfl
theorem nd_turn {a b c:List Nat} (h:(a++b++c).Nodup):(b++a++c).Nodup∧(c++a++b).Nodup:=by
 refine ⟨(List.Perm.append_right c List.perm_append_comm).nodup_iff.1 h,?_⟩
 have:(a++b++c).Perm (c++a++b):=by
  rw [List.append_assoc c a b]
  exact List.perm_append_comm
 exact this.nodup_iff.1 h
section
variable {w W Wm w':World} {lo B:Nat} {CX CY CZ:Array Value} {f:Bool} {ks vs ys:List ByteArray} {is js:List Int} {D1 D2 D3 D':Option Addr} {d1 d2 d3 d':Nat} {bl1 bl2 bl3 bl':List Nat} {m:Nat}
theorem JoinS.box (h:JoinS w lo B CX CY CZ W f ks vs is D1 d1 bl1 D2 d2 bl2 D3 d3 bl3) {bl:List Nat} (u:Up W Wm) (on:Only bl Wm w') (hlo:∀q∈bl,lo≤q) (hB:B∉bl) {i:Nat} {v:Value} :
 Bk (w'.setCell ⟨B,i,none⟩ v) w.heap.size 58 CX∧Bk (w'.setCell ⟨B,i,none⟩ v) (w.heap.size+1) 58 CY∧Bk (w'.setCell ⟨B,i,none⟩ v) (w.heap.size+1+1) 58 CZ∧Up w (w'.setCell ⟨B,i,none⟩ v):=by
 have l1:=h.lo1
 have l2:=h.lo2
 have no:∀q,q<lo→q∉bl:=fun q hq hh=>by have:=hlo q hh;omega
 exact ⟨((h.x.up u).only on (no _ (by omega))).far (by show _≠B;omega) v,((h.y.up u).only on (no _ (by omega))).far (by show _≠B;omega) v,((h.z.up u).only on (no _ (by omega))).far (by show _≠B;omega) v,(Up.only (h.up.trans u) on (fun q hq=>by have:=hlo q hq;omega)).setCell (by show w.heap.size≤B;omega) v⟩
theorem JoinS.app1 (h:JoinS w lo B CX CY CZ W f ks vs is D1 d1 bl1 D2 d2 bl2 D3 d3 bl3) (u:Up W Wm) (hap:AppP shS Wm lo ks ys bl1 (List.replicate m []) D' d' bl' w'):JoinS w lo B CX CY CZ (w'.setCell ⟨B,1,none⟩ (.slice D' (ks.length+ys.length) d')) f (ks++ys) vs is D' d' bl' D2 d2 bl2 D3 d3 bl3:=by
 obtain ⟨so,nd,mem,on⟩:=hap
 have hm:∀q∈bl',q∈bl1∨Wm.heap.size≤q:=fun q hq=>by simpa [flat_nilU] using mem q hq
 have hb:=(h.b.up u).lt
 obtain ⟨n1,n2,n3⟩:=h.nb
 obtain ⟨x1,y1,z1,up1⟩:=h.box (i:=1) (v:=.slice D' (ks.length+ys.length) d') u on (fun q hq=>(h.s1.in_ good_S q hq).1) n1
 obtain ⟨p1,p2,p3⟩:=List.nodup_append.1 h.nd
 obtain ⟨_,_,p6⟩:=List.nodup_append.1 p1
 have nB:B∉bl':=fun hh=>by rcases hm B hh with e | e;exact n1 e;omega
 refine ⟨x1,y1,z1,?_,so_near good_S so nB _,so_far good_S h.s2 u on (fun q hq hh=>p6 q hh q hq rfl) n2 _,so_far good_I h.s3 u on (fun q hq hh=>p3 q (List.mem_append_left _ hh) q hq rfl) n3 _,nd_one (m:=Wm.heap.size) h.nd nd hm (fun q hq=>Nat.lt_of_lt_of_le (h.s2.in_ good_S q hq).2 u.size) (fun q hq=>Nat.lt_of_lt_of_le (h.s3.in_ good_I q hq).2 u.size),⟨nB,n2,n3⟩,h.lo1,h.lo2,up1⟩
 rw [List.length_append]
 exact ((h.b.up u).only on n1).set 1 _
theorem JoinS.app2 (h:JoinS w lo B CX CY CZ W f ks vs is D1 d1 bl1 D2 d2 bl2 D3 d3 bl3) (u:Up W Wm) (hap:AppP shS Wm lo vs ys bl2 (List.replicate m []) D' d' bl' w'):JoinS w lo B CX CY CZ (w'.setCell ⟨B,2,none⟩ (.slice D' (vs.length+ys.length) d')) f ks (vs++ys) is D1 d1 bl1 D' d' bl' D3 d3 bl3:=by
 obtain ⟨so,nd,mem,on⟩:=hap
 have hm:∀q∈bl',q∈bl2∨Wm.heap.size≤q:=fun q hq=>by simpa [flat_nilU] using mem q hq
 have hb:=(h.b.up u).lt
 obtain ⟨n1,n2,n3⟩:=h.nb
 obtain ⟨x1,y1,z1,up1⟩:=h.box (i:=2) (v:=.slice D' (vs.length+ys.length) d') u on (fun q hq=>(h.s2.in_ good_S q hq).1) n2
 obtain ⟨p1,p2,p3⟩:=List.nodup_append.1 h.nd
 obtain ⟨_,_,p6⟩:=List.nodup_append.1 p1
 have nB:B∉bl':=fun hh=>by rcases hm B hh with e | e;exact n2 e;omega
 refine ⟨x1,y1,z1,?_,so_far good_S h.s1 u on (fun q hq hh=>p6 q hq q hh rfl) n1 _,so_near good_S so nB _,so_far good_I h.s3 u on (fun q hq hh=>p3 q (List.mem_append_right _ hh) q hq rfl) n3 _,(nd_turn (nd_one (m:=Wm.heap.size) (nd_turn h.nd).1 nd hm (fun q hq=>Nat.lt_of_lt_of_le (h.s1.in_ good_S q hq).2 u.size) (fun q hq=>Nat.lt_of_lt_of_le (h.s3.in_ good_I q hq).2 u.size))).1,⟨n1,nB,n3⟩,h.lo1,h.lo2,up1⟩
 rw [List.length_append]
 exact ((h.b.up u).only on n2).set 2 _
theorem JoinS.app3 (h:JoinS w lo B CX CY CZ W f ks vs is D1 d1 bl1 D2 d2 bl2 D3 d3 bl3) (u:Up W Wm) (hap:AppP shI Wm lo is js bl3 (List.replicate m []) D' d' bl' w'):JoinS w lo B CX CY CZ (w'.setCell ⟨B,3,none⟩ (.slice D' (is.length+js.length) d')) f ks vs (is++js) D1 d1 bl1 D2 d2 bl2 D' d' bl':=by
 obtain ⟨so,nd,mem,on⟩:=hap
 have hm:∀q∈bl',q∈bl3∨Wm.heap.size≤q:=fun q hq=>by simpa [flat_nilU] using mem q hq
 have hb:=(h.b.up u).lt
 obtain ⟨n1,n2,n3⟩:=h.nb
 obtain ⟨x1,y1,z1,up1⟩:=h.box (i:=3) (v:=.slice D' (is.length+js.length) d') u on (fun q hq=>(h.s3.in_ good_I q hq).1) n3
 obtain ⟨p1,p2,p3⟩:=List.nodup_append.1 h.nd
 have nB:B∉bl':=fun hh=>by rcases hm B hh with e | e;exact n3 e;omega
 have q1:=nd_one (m:=Wm.heap.size) (nd_turn h.nd).2 nd hm (fun q hq=>Nat.lt_of_lt_of_le (h.s1.in_ good_S q hq).2 u.size) (fun q hq=>Nat.lt_of_lt_of_le (h.s2.in_ good_S q hq).2 u.size)
 refine ⟨x1,y1,z1,?_,so_far good_S h.s1 u on (fun q hq hh=>p3 q (List.mem_append_left _ hq) q hh rfl) n1 _,so_far good_S h.s2 u on (fun q hq hh=>p3 q (List.mem_append_right _ hq) q hh rfl) n2 _,so_near good_I so nB _,?_,⟨n1,n2,nB⟩,h.lo1,h.lo2,up1⟩
 ·rw [List.length_append]
  exact ((h.b.up u).only on n3).set 3 _
 ·have:(bl'++bl1++bl2).Perm (bl1++bl2++bl'):=by rw [List.append_assoc];exact List.perm_append_comm
  exact this.nodup_iff.1 q1
end
theorem c_l16Join (g0:Nat) (vx vy:Value) (x y:TPage) (key:ByteArray) (w:World) (hg0:g0<w.heap.size) (hx:PgK g0 w vx x) (hy:PgK g0 w vy y) (fx:Fine x) (fy:Fine y) (hk:key.size≤maxLen) :
 Calls Tryz.prog 68 #[vx,vy,.string key] w (fun e w'=>∃v,e=.returned v∧PgK g0 w' v (joinP x y key)∧Up w w'):=by
 obtain ⟨i0,hi0,hz0,hz1,hz2⟩:=info_parts cinfo_StrY
 obtain ⟨j0,hj0,hy0,hy1,hy2⟩:=info_parts cinfo_IntY
 obtain ⟨A1,c1,A2,c2,A3,c3,rfl,rx1,rx2,rx3⟩:=hx.rows
 obtain ⟨B1,e1,B2,e2,B3,e3,rfl,ry1,ry2,ry3⟩:=hy.rows
 obtain ⟨lx1,lx2,lx3⟩:=fine_lens fx
 obtain ⟨ly1,ly2,ly3⟩:=fine_lens fy
 have CO:=Hd (fun W (u:Up w W)=>c_l16OwnPage (.agg #[.bool x.1,.slice A1 x.2.1.length c1,.slice A2 x.2.2.1.length c2,.slice A3 x.2.2.2.length c3]) x W (hx.go (only_up u)).av (fine_sz fx))
 have RY:=Hd (⟨ry1.sr,ry2.sr,ry3.sr⟩:SRW shS w B1 e1 y.2.1∧SRW shS w B2 e2 y.2.2.1∧SRW shI w B3 e3 y.2.2.2)
 clear rx1 rx2 rx3 ry1 ry2 ry3 hx hy fx fy
 obtain ⟨W0,hW0⟩:∃W0,W0=(((w.alloc (.cells #[.bool x.1,.slice A1 x.2.1.length c1,.slice A2 x.2.2.1.length c2,.slice A3 x.2.2.2.length c3] 58)).alloc (.cells #[.bool y.1,.slice B1 y.2.1.length e1,.slice B2 y.2.2.1.length e2,.slice B3 y.2.2.2.length e3] 58)).alloc (.cells #[.bool false,.slice none 0 0,.slice none 0 0,.slice none 0 0] 58)):=⟨_,rfl⟩
 have u0:Up w W0:=by rw [hW0];exact (((Up.refl w).alloc _).alloc _).alloc _
 have kx0:Bk W0 w.heap.size 58 #[.bool x.1,.slice A1 x.2.1.length c1,.slice A2 x.2.2.1.length c2,.slice A3 x.2.2.2.length c3]:=by rw [hW0];exact ((Bk.new w _ _).alloc _).alloc _
 have ky0:Bk W0 (w.heap.size+1) 58 #[.bool y.1,.slice B1 y.2.1.length e1,.slice B2 y.2.2.1.length e2,.slice B3 y.2.2.2.length e3]:=by
  rw [hW0]
  have:=(Bk.new (w.alloc (.cells #[.bool x.1,.slice A1 x.2.1.length c1,.slice A2 x.2.2.1.length c2,.slice A3 x.2.2.2.length c3] 58)) 58 #[.bool y.1,.slice B1 y.2.1.length e1,.slice B2 y.2.2.1.length e2,.slice B3 y.2.2.2.length e3]).alloc (.cells #[.bool false,.slice none 0 0,.slice none 0 0,.slice none 0 0] 58)
  simpa using this
 have kr0:Bk W0 (w.heap.size+1+1) 58 #[.bool false,.slice none 0 0,.slice none 0 0,.slice none 0 0]:=by
  rw [hW0]
  have:=Bk.new ((w.alloc (.cells #[.bool x.1,.slice A1 x.2.1.length c1,.slice A2 x.2.2.1.length c2,.slice A3 x.2.2.2.length c3] 58)).alloc (.cells #[.bool y.1,.slice B1 y.2.1.length e1,.slice B2 y.2.2.1.length e2,.slice B3 y.2.2.2.length e3] 58)) 58 #[.bool false,.slice none 0 0,.slice none 0 0,.slice none 0 0]
  simpa using this
 have z0:w.heap.size+3≤W0.heap.size:=by rw [hW0];simp
 go_enter Tryz.func68,Tryz.ntmps68
 go_upto_region 1 with fail
 rw [←hW0]
 clear hW0
 have gx0:W0.cell? ⟨w.heap.size,0,none⟩=some (.bool x.1):=kx0.cell 0
 have gx1:W0.cell? ⟨w.heap.size,1,none⟩=some (.slice A1 x.2.1.length c1):=kx0.cell 1
 have gx2:W0.cell? ⟨w.heap.size,2,none⟩=some (.slice A2 x.2.2.1.length c2):=kx0.cell 2
 have gx3:W0.cell? ⟨w.heap.size,3,none⟩=some (.slice A3 x.2.2.2.length c3):=kx0.cell 3
 go_upto_region 2 with (go_at_call 34;(with_reducible refine (CO.out _ u0).mono ?_);rintro e w1 ⟨cs,bl,rfl,ow,nd,u1⟩;obtain ⟨D1,d1,bl1,D2,d2,bl2,D3,d3,bl3,rfl,rfl,so1,so2,so3⟩:=openOPage ow)
 have z1:=u1.size
 have hlo1:∀q∈bl1,q<w1.heap.size:=fun q hq=>(so1.in_ good_S q hq).2
 have hlo2:∀q∈bl2,q<w1.heap.size:=fun q hq=>(so2.in_ good_S q hq).2
 have hlo3:∀q∈bl3,q<w1.heap.size:=fun q hq=>(so3.in_ good_I q hq).2
 have uA:Up w1 (w1.alloc (.cells #[.bool x.1,.slice D1 x.2.1.length d1,.slice D2 x.2.2.1.length d2,.slice D3 x.2.2.2.length d3] 58)):=(Up.refl w1).alloc _
 have J:JoinS w W0.heap.size w1.heap.size #[.bool x.1,.slice A1 x.2.1.length c1,.slice A2 x.2.2.1.length c2,.slice A3 x.2.2.2.length c3] #[.bool y.1,.slice B1 y.2.1.length e1,.slice B2 y.2.2.1.length e2,.slice B3 y.2.2.2.length e3] #[.bool false,.slice none 0 0,.slice none 0 0,.slice none 0 0] (w1.alloc (.cells #[.bool x.1,.slice D1 x.2.1.length d1,.slice D2 x.2.2.1.length d2,.slice D3 x.2.2.2.length d3] 58)) x.1 x.2.1 x.2.2.1 x.2.2.2 D1 d1 bl1 D2 d2 bl2 D3 d3 bl3 :=
  ⟨(kx0.up u1).alloc _,(ky0.up u1).alloc _,(kr0.up u1).alloc _,Bk.new _ _ _,so1.up good_S uA,so2.up good_S uA,so3.up good_I uA,nd,⟨fun hh=>by have:=hlo1 _ hh;omega,fun hh=>by have:=hlo2 _ hh;omega,fun hh=>by have:=hlo3 _ hh;omega⟩,z0,z1,(u0.trans u1).trans uA⟩
 generalize (w1.alloc (.cells #[.bool x.1,.slice D1 x.2.1.length d1,.slice D2 x.2.2.1.length d2,.slice D3 x.2.2.2.length d3] 58))=W1 at J ⊢
 have hBz:=Nat.lt_of_lt_of_le (show w.heap.size+2<W0.heap.size by omega) z1
 obtain ⟨B,hB⟩:∃B,B=w1.heap.size:=⟨_,rfl⟩
 rw [←hB] at J hBz ⊢
 obtain ⟨lo,hlo⟩:∃lo,lo=W0.heap.size:=⟨_,rfl⟩
 rw [←hlo] at J
 clear hlo hB hlo1 hlo2 hlo3 uA so1 so2 so3 ow nd kx0 ky0 kr0 gx0 gx1 gx2 gx3 u0 u1 z0 z1 CO
 obtain ⟨K,hK⟩:∃K,K=(if x.1=true then x.2.1 else x.2.1++[key]):=⟨_,rfl⟩
 have HJ:Hid (joinP x y key=(x.1,K++y.2.1,x.2.2.1++y.2.2.1,x.2.2.2++y.2.2.2)):=Hd (by rw [hK];rfl)
 have hw2:w.heap.size+1+1≠B:=by omega
 have hw1:w.heap.size+1≠B:=by omega
 have hw0:w.heap.size≠B:=by omega
 cases hl:x.1
 ·have gx0:W1.cell? ⟨w.heap.size,0,none⟩=some (.bool false):=by have:=J.x.cell 0;rw [hl] at this;exact this
  rw [hl] at hK HJ
  rw [if_neg (by decide)] at hK
  subst hK
  have HLF:=Hd hl
  clear hl
  go_upto_region 3 with fail
  have gB1:W1.cell? ⟨B,1,none⟩=some (.slice D1 x.2.1.length d1):=J.b.cell 1
  have uK:Up W1 (W1.alloc (.cells #[.string key] 9)):=(Up.refl _).alloc _
  have kK:=Bk.new W1 9 #[.string key]
  have hlW:lo≤(W1.alloc (.cells #[.string key] 9)).heap.size:=Nat.le_trans (Nat.le_of_lt (Nat.lt_of_le_of_lt J.lo2 J.b.lt)) uK.size
  have ho:shS.own (W1.alloc (.cells #[.string key] 9)) lo (W1.alloc (.cells #[.string key] 9)).heap.size [.string key] key []:=⟨⟨rfl,hk⟩,rfl⟩
  have sK:=J.s1.up good_S uK
  have ndr:(bl1++(List.replicate 1 ([]:List Nat)).flatten).Nodup:=by rw [flat_nilU,List.append_nil];exact (List.nodup_append.1 (List.nodup_append.1 J.nd).1).1
  go_upto_region 4 with (at_builtin;refine wpList_app good_S rfl _ _ _ _ 9 rfl i0 _ Tryz.underlying52 hi0 hz0 hz1 (by rfl) (lo:=lo) (xs:=x.2.1) (ys:=[key]) (bl:=bl1) (bs:=List.replicate 1 []) (news:=[.string key]) rfl rfl sK ndr (Src.box (t:=9) Tryz.underlying52 kK (by simp [Value.oneCell']) (by rw [hz1];rfl)) (Rowed.one good_S ho) hlW (by rw [hz2];simp;omega) (by simp;unfold maxLen;omega) ?_;intro Dn dn bln wn hap;have kq:=(J.b.up uK).only hap.2.2.2 J.nb.1;have gq:=kq.cell 1;have fq:=kq.frozen 1)
  have J1:=J.app1 uK hap
  clear gB1 ndr hlW gq fq kq hap J gx0 kK sK ho
  change JoinS w lo B _ _ _ (World.setCell wn ⟨B,1,none⟩ (.slice Dn (x.2.1.length+1) dn)) _ _ _ _ _ _ _ _ _ _ _ _ _ at J1
  generalize (World.setCell wn ⟨B,1,none⟩ (.slice Dn (x.2.1.length+1) dn))=WJ1 at J1 ⊢
  obtain ⟨Kn,hKn⟩:∃Kn,Kn=x.2.1++[key]:=⟨_,rfl⟩
  have hKl:Kn.length=x.2.1.length+1:=by rw [hKn];simp
  have HKL:Kn.length≤7:=by omega
  rw [←hKn] at J1 HJ
  clear hKn hKl
  have gB1:WJ1.cell? ⟨B,1,none⟩=some (.slice Dn (Kn).length dn):=J1.b.cell 1
  have gY1:WJ1.cell? ⟨w.heap.size+1,1,none⟩=some (.slice B1 y.2.1.length e1):=J1.y.cell 1
  obtain ⟨news,hsrc,hrw⟩:=(RY.out.1.up good_S J1.up).src (lo:=lo) (hi:=WJ1.heap.size) good_S flat_S (e':=9) (tx:=52) Tryz.underlying52 (n:=i0.size) hz1
  have ndr:(bln++(List.replicate y.2.1.length ([]:List Nat)).flatten).Nodup:=by rw [flat_nilU,List.append_nil];exact (List.nodup_append.1 (List.nodup_append.1 J1.nd).1).1
  have hlW:lo≤WJ1.heap.size:=Nat.le_of_lt (Nat.lt_of_le_of_lt J1.lo2 J1.b.lt)
  go_upto_region 5 with (at_builtin;refine wpList_app good_S rfl _ _ _ _ 9 rfl i0 _ Tryz.underlying52 hi0 hz0 hz1 (by rfl) (lo:=lo) (xs:=Kn) (ys:=y.2.1) (bl:=bln) (bs:=List.replicate y.2.1.length []) (news:=news) rfl rfl J1.s1 ndr hsrc hrw hlW (by rw [hz2];omega) (by unfold maxLen;omega) ?_;intro D4n d4n bl4n wn hap;have kq:=J1.b.only hap.2.2.2 J1.nb.1;have gq:=kq.cell 1;have fq:=kq.frozen 1)
  have J4:=J1.app1 (Up.refl _) hap
  clear gB1 gY1 hsrc hrw ndr hlW gq fq kq hap J1
  generalize (World.setCell wn ⟨B,1,none⟩ (.slice D4n ((Kn).length+y.2.1.length) d4n))=WJ4 at J4 ⊢
  have gB2:WJ4.cell? ⟨B,2,none⟩=some (.slice D2 (x.2.2.1).length d2):=J4.b.cell 2
  have gY2:WJ4.cell? ⟨w.heap.size+1,2,none⟩=some (.slice B2 y.2.2.1.length e2):=J4.y.cell 2
  obtain ⟨news,hsrc,hrw⟩:=(RY.out.2.1.up good_S J4.up).src (lo:=lo) (hi:=WJ4.heap.size) good_S flat_S (e':=9) (tx:=52) Tryz.underlying52 (n:=i0.size) hz1
  have ndr:(bl2++(List.replicate y.2.2.1.length ([]:List Nat)).flatten).Nodup:=by rw [flat_nilU,List.append_nil];exact (List.nodup_append.1 (List.nodup_append.1 J4.nd).1).2.1
  have hlW:lo≤WJ4.heap.size:=Nat.le_of_lt (Nat.lt_of_le_of_lt J4.lo2 J4.b.lt)
  go_upto_region 6 with (at_builtin;refine wpList_app good_S rfl _ _ _ _ 9 rfl i0 _ Tryz.underlying52 hi0 hz0 hz1 (by rfl) (lo:=lo) (xs:=x.2.2.1) (ys:=y.2.2.1) (bl:=bl2) (bs:=List.replicate y.2.2.1.length []) (news:=news) rfl rfl J4.s2 ndr hsrc hrw hlW (by rw [hz2];omega) (by unfold maxLen;omega) ?_;intro D5n d5n bl5n wn hap;have kq:=J4.b.only hap.2.2.2 J4.nb.2.1;have gq:=kq.cell 2;have fq:=kq.frozen 2)
  have J5:=J4.app2 (Up.refl _) hap
  clear gB2 gY2 hsrc hrw ndr hlW gq fq kq hap J4
  generalize (World.setCell wn ⟨B,2,none⟩ (.slice D5n ((x.2.2.1).length+y.2.2.1.length) d5n))=WJ5 at J5 ⊢
  have gB3:WJ5.cell? ⟨B,3,none⟩=some (.slice D3 (x.2.2.2).length d3):=J5.b.cell 3
  have gY3:WJ5.cell? ⟨w.heap.size+1,3,none⟩=some (.slice B3 y.2.2.2.length e3):=J5.y.cell 3
  obtain ⟨news,hsrc,hrw⟩:=(RY.out.2.2.up good_I J5.up).src (lo:=lo) (hi:=WJ5.heap.size) good_I flat_I (e':=2) (tx:=53) Tryz.underlying53 (n:=j0.size) hy1
  have ndr:(bl3++(List.replicate y.2.2.2.length ([]:List Nat)).flatten).Nodup:=by rw [flat_nilU,List.append_nil];exact (List.nodup_append.1 J5.nd).2.1
  have hlW:lo≤WJ5.heap.size:=Nat.le_of_lt (Nat.lt_of_le_of_lt J5.lo2 J5.b.lt)
  go_upto_region 7 with (at_builtin;refine wpList_app good_I rfl _ _ _ _ 2 rfl j0 _ Tryz.underlying53 hj0 hy0 hy1 (by rfl) (lo:=lo) (xs:=x.2.2.2) (ys:=y.2.2.2) (bl:=bl3) (bs:=List.replicate y.2.2.2.length []) (news:=news) rfl rfl J5.s3 ndr hsrc hrw hlW (by rw [hy2];omega) (by unfold maxLen;omega) ?_;intro D6n d6n bl6n wn hap;have kq:=J5.b.only hap.2.2.2 J5.nb.2.2;have gq:=kq.cell 3;have fq:=kq.frozen 3)
  have J6:=J5.app3 (Up.refl _) hap
  clear gB3 gY3 hsrc hrw ndr hlW gq fq kq hap J5
  generalize (World.setCell wn ⟨B,3,none⟩ (.slice D6n ((x.2.2.2).length+y.2.2.2.length) d6n))=WJ6 at J6 ⊢
  have gB0:WJ6.cell? ⟨B,0,none⟩=some (.bool false):=by have:=J6.b.cell 0;rw [HLF.out] at this;exact this
  have gB1:WJ6.cell? ⟨B,1,none⟩=some (.slice D4n (Kn++y.2.1).length d4n):=J6.b.cell 1
  have gB2:WJ6.cell? ⟨B,2,none⟩=some (.slice D5n (x.2.2.1++y.2.2.1).length d5n):=J6.b.cell 2
  have gB3:WJ6.cell? ⟨B,3,none⟩=some (.slice D6n (x.2.2.2++y.2.2.2).length d6n):=J6.b.cell 3
  have gz0:WJ6.cell? ⟨w.heap.size+1+1,0,none⟩=some (.bool false):=J6.z.cell 0
  have gz1:WJ6.cell? ⟨w.heap.size+1+1,1,none⟩=some (.slice none 0 0):=J6.z.cell 1
  have gz2:WJ6.cell? ⟨w.heap.size+1+1,2,none⟩=some (.slice none 0 0):=J6.z.cell 2
  have gz3:WJ6.cell? ⟨w.heap.size+1+1,3,none⟩=some (.slice none 0 0):=J6.z.cell 3
  have fz0:=J6.z.frozen 0
  have fz1:=J6.z.frozen 1
  have fz2:=J6.z.frozen 2
  have fz3:=J6.z.frozen 3
  obtain ⟨L1,hL1⟩:∃L1,L1=(Kn++y.2.1):=⟨_,rfl⟩
  obtain ⟨L2,hL2⟩:∃L2,L2=(x.2.2.1++y.2.2.1):=⟨_,rfl⟩
  obtain ⟨L3,hL3⟩:∃L3,L3=(x.2.2.2++y.2.2.2):=⟨_,rfl⟩
  rw [←hL1,←hL2,←hL3] at J6 HJ
  rw [←hL1] at gB1
  rw [←hL2] at gB2
  rw [←hL3] at gB3
  clear hL1 hL2 hL3
  go_upto_region 8 with fail
  have krE:Bk ((((WJ6.setCell ⟨w.heap.size+1+1,0,none⟩ (.bool false)).setCell ⟨w.heap.size+1+1,1,none⟩ (.slice D4n L1.length d4n)).setCell ⟨w.heap.size+1+1,2,none⟩ (.slice D5n L2.length d5n)).setCell ⟨w.heap.size+1+1,3,none⟩ (.slice D6n L3.length d6n)) (w.heap.size+1+1) 58 #[.bool false,.slice D4n L1.length d4n,.slice D5n L2.length d5n,.slice D6n L3.length d6n]:=J6.z.setsL [.bool false,.slice D4n L1.length d4n,.slice D5n L2.length d5n,.slice D6n L3.length d6n] 0
  have bt:But (w.heap.size+1+1) WJ6 ((((WJ6.setCell ⟨w.heap.size+1+1,0,none⟩ (.bool false)).setCell ⟨w.heap.size+1+1,1,none⟩ (.slice D4n L1.length d4n)).setCell ⟨w.heap.size+1+1,2,none⟩ (.slice D5n L2.length d5n)).setCell ⟨w.heap.size+1+1,3,none⟩ (.slice D6n L3.length d6n)):=But.sets (g:=w.heap.size+1+1) [.bool false,.slice D4n L1.length d4n,.slice D5n L2.length d5n,.slice D6n L3.length d6n] WJ6 0
  generalize ((((WJ6.setCell ⟨w.heap.size+1+1,0,none⟩ (.bool false)).setCell ⟨w.heap.size+1+1,1,none⟩ (.slice D4n L1.length d4n)).setCell ⟨w.heap.size+1+1,2,none⟩ (.slice D5n L2.length d5n)).setCell ⟨w.heap.size+1+1,3,none⟩ (.slice D6n L3.length d6n))=W4 at bt krE ⊢
  refine bodyPost_ret (results_bk krE _ _ Tryz.results68 rfl Tryz.underlying58 rfl (by kernel_rfl)) rfl ?_
  have hl1:=J6.lo1
  refine ⟨_,rfl,?_,J6.up.but bt (by omega)⟩
  rw [HJ.out]
  exact PgK.of_rows (p:=(false,L1,L2,L3)) (RowP.of_own good_S (J6.s1.but good_S bt (by omega)) (fun hh=>by have:=(J6.s1.in_ good_S g0 hh).1;omega)) (RowP.of_own good_S (J6.s2.but good_S bt (by omega)) (fun hh=>by have:=(J6.s2.in_ good_S g0 hh).1;omega)) (RowP.of_own good_I (J6.s3.but good_I bt (by omega)) (fun hh=>by have:=(J6.s3.in_ good_I g0 hh).1;omega))
 ·have gx0:W1.cell? ⟨w.heap.size,0,none⟩=some (.bool true):=by have:=J.x.cell 0;rw [hl] at this;exact this
  rw [hl] at hK HJ
  rw [if_pos rfl] at hK
  subst hK
  have HLF:=Hd hl
  clear hl
  go_upto_region 4 with fail
  have gB1:W1.cell? ⟨B,1,none⟩=some (.slice D1 (x.2.1).length d1):=J.b.cell 1
  have gY1:W1.cell? ⟨w.heap.size+1,1,none⟩=some (.slice B1 y.2.1.length e1):=J.y.cell 1
  obtain ⟨news,hsrc,hrw⟩:=(RY.out.1.up good_S J.up).src (lo:=lo) (hi:=W1.heap.size) good_S flat_S (e':=9) (tx:=52) Tryz.underlying52 (n:=i0.size) hz1
  have ndr:(bl1++(List.replicate y.2.1.length ([]:List Nat)).flatten).Nodup:=by rw [flat_nilU,List.append_nil];exact (List.nodup_append.1 (List.nodup_append.1 J.nd).1).1
  have hlW:lo≤W1.heap.size:=Nat.le_of_lt (Nat.lt_of_le_of_lt J.lo2 J.b.lt)
  go_upto_region 5 with (at_builtin;refine wpList_app good_S rfl _ _ _ _ 9 rfl i0 _ Tryz.underlying52 hi0 hz0 hz1 (by rfl) (lo:=lo) (xs:=x.2.1) (ys:=y.2.1) (bl:=bl1) (bs:=List.replicate y.2.1.length []) (news:=news) rfl rfl J.s1 ndr hsrc hrw hlW (by rw [hz2];omega) (by unfold maxLen;omega) ?_;intro D4n d4n bl4n wn hap;have kq:=J.b.only hap.2.2.2 J.nb.1;have gq:=kq.cell 1;have fq:=kq.frozen 1)
  have J4:=J.app1 (Up.refl _) hap
  clear gB1 gY1 hsrc hrw ndr hlW gq fq kq hap J
  generalize (World.setCell wn ⟨B,1,none⟩ (.slice D4n ((x.2.1).length+y.2.1.length) d4n))=WJ4 at J4 ⊢
  have gB2:WJ4.cell? ⟨B,2,none⟩=some (.slice D2 (x.2.2.1).length d2):=J4.b.cell 2
  have gY2:WJ4.cell? ⟨w.heap.size+1,2,none⟩=some (.slice B2 y.2.2.1.length e2):=J4.y.cell 2
  obtain ⟨news,hsrc,hrw⟩:=(RY.out.2.1.up good_S J4.up).src (lo:=lo) (hi:=WJ4.heap.size) good_S flat_S (e':=9) (tx:=52) Tryz.underlying52 (n:=i0.size) hz1
  have ndr:(bl2++(List.replicate y.2.2.1.length ([]:List Nat)).flatten).Nodup:=by rw [flat_nilU,List.append_nil];exact (List.nodup_append.1 (List.nodup_append.1 J4.nd).1).2.1
  have hlW:lo≤WJ4.heap.size:=Nat.le_of_lt (Nat.lt_of_le_of_lt J4.lo2 J4.b.lt)
  go_upto_region 6 with (at_builtin;refine wpList_app good_S rfl _ _ _ _ 9 rfl i0 _ Tryz.underlying52 hi0 hz0 hz1 (by rfl) (lo:=lo) (xs:=x.2.2.1) (ys:=y.2.2.1) (bl:=bl2) (bs:=List.replicate y.2.2.1.length []) (news:=news) rfl rfl J4.s2 ndr hsrc hrw hlW (by rw [hz2];omega) (by unfold maxLen;omega) ?_;intro D5n d5n bl5n wn hap;have kq:=J4.b.only hap.2.2.2 J4.nb.2.1;have gq:=kq.cell 2;have fq:=kq.frozen 2)
  have J5:=J4.app2 (Up.refl _) hap
  clear gB2 gY2 hsrc hrw ndr hlW gq fq kq hap J4
  generalize (World.setCell wn ⟨B,2,none⟩ (.slice D5n ((x.2.2.1).length+y.2.2.1.length) d5n))=WJ5 at J5 ⊢
  have gB3:WJ5.cell? ⟨B,3,none⟩=some (.slice D3 (x.2.2.2).length d3):=J5.b.cell 3
  have gY3:WJ5.cell? ⟨w.heap.size+1,3,none⟩=some (.slice B3 y.2.2.2.length e3):=J5.y.cell 3
  obtain ⟨news,hsrc,hrw⟩:=(RY.out.2.2.up good_I J5.up).src (lo:=lo) (hi:=WJ5.heap.size) good_I flat_I (e':=2) (tx:=53) Tryz.underlying53 (n:=j0.size) hy1
  have ndr:(bl3++(List.replicate y.2.2.2.length ([]:List Nat)).flatten).Nodup:=by rw [flat_nilU,List.append_nil];exact (List.nodup_append.1 J5.nd).2.1
  have hlW:lo≤WJ5.heap.size:=Nat.le_of_lt (Nat.lt_of_le_of_lt J5.lo2 J5.b.lt)
  go_upto_region 7 with (at_builtin;refine wpList_app good_I rfl _ _ _ _ 2 rfl j0 _ Tryz.underlying53 hj0 hy0 hy1 (by rfl) (lo:=lo) (xs:=x.2.2.2) (ys:=y.2.2.2) (bl:=bl3) (bs:=List.replicate y.2.2.2.length []) (news:=news) rfl rfl J5.s3 ndr hsrc hrw hlW (by rw [hy2];omega) (by unfold maxLen;omega) ?_;intro D6n d6n bl6n wn hap;have kq:=J5.b.only hap.2.2.2 J5.nb.2.2;have gq:=kq.cell 3;have fq:=kq.frozen 3)
  have J6:=J5.app3 (Up.refl _) hap
  clear gB3 gY3 hsrc hrw ndr hlW gq fq kq hap J5
  generalize (World.setCell wn ⟨B,3,none⟩ (.slice D6n ((x.2.2.2).length+y.2.2.2.length) d6n))=WJ6 at J6 ⊢
  have gB0:WJ6.cell? ⟨B,0,none⟩=some (.bool true):=by have:=J6.b.cell 0;rw [HLF.out] at this;exact this
  have gB1:WJ6.cell? ⟨B,1,none⟩=some (.slice D4n (x.2.1++y.2.1).length d4n):=J6.b.cell 1
  have gB2:WJ6.cell? ⟨B,2,none⟩=some (.slice D5n (x.2.2.1++y.2.2.1).length d5n):=J6.b.cell 2
  have gB3:WJ6.cell? ⟨B,3,none⟩=some (.slice D6n (x.2.2.2++y.2.2.2).length d6n):=J6.b.cell 3
  have gz0:WJ6.cell? ⟨w.heap.size+1+1,0,none⟩=some (.bool false):=J6.z.cell 0
  have gz1:WJ6.cell? ⟨w.heap.size+1+1,1,none⟩=some (.slice none 0 0):=J6.z.cell 1
  have gz2:WJ6.cell? ⟨w.heap.size+1+1,2,none⟩=some (.slice none 0 0):=J6.z.cell 2
  have gz3:WJ6.cell? ⟨w.heap.size+1+1,3,none⟩=some (.slice none 0 0):=J6.z.cell 3
  have fz0:=J6.z.frozen 0
  have fz1:=J6.z.frozen 1
  have fz2:=J6.z.frozen 2
  have fz3:=J6.z.frozen 3
  obtain ⟨L1,hL1⟩:∃L1,L1=(x.2.1++y.2.1):=⟨_,rfl⟩
  obtain ⟨L2,hL2⟩:∃L2,L2=(x.2.2.1++y.2.2.1):=⟨_,rfl⟩
  obtain ⟨L3,hL3⟩:∃L3,L3=(x.2.2.2++y.2.2.2):=⟨_,rfl⟩
  rw [←hL1,←hL2,←hL3] at J6 HJ
  rw [←hL1] at gB1
  rw [←hL2] at gB2
  rw [←hL3] at gB3
  clear hL1 hL2 hL3
  go_upto_region 8 with fail
  have krE:Bk ((((WJ6.setCell ⟨w.heap.size+1+1,0,none⟩ (.bool true)).setCell ⟨w.heap.size+1+1,1,none⟩ (.slice D4n L1.length d4n)).setCell ⟨w.heap.size+1+1,2,none⟩ (.slice D5n L2.length d5n)).setCell ⟨w.heap.size+1+1,3,none⟩ (.slice D6n L3.length d6n)) (w.heap.size+1+1) 58 #[.bool true,.slice D4n L1.length d4n,.slice D5n L2.length d5n,.slice D6n L3.length d6n]:=J6.z.setsL [.bool true,.slice D4n L1.length d4n,.slice D5n L2.length d5n,.slice D6n L3.length d6n] 0
  have bt:But (w.heap.size+1+1) WJ6 ((((WJ6.setCell ⟨w.heap.size+1+1,0,none⟩ (.bool true)).setCell ⟨w.heap.size+1+1,1,none⟩ (.slice D4n L1.length d4n)).setCell ⟨w.heap.size+1+1,2,none⟩ (.slice D5n L2.length d5n)).setCell ⟨w.heap.size+1+1,3,none⟩ (.slice D6n L3.length d6n)):=But.sets (g:=w.heap.size+1+1) [.bool true,.slice D4n L1.length d4n,.slice D5n L2.length d5n,.slice D6n L3.length d6n] WJ6 0
  generalize ((((WJ6.setCell ⟨w.heap.size+1+1,0,none⟩ (.bool true)).setCell ⟨w.heap.size+1+1,1,none⟩ (.slice D4n L1.length d4n)).setCell ⟨w.heap.size+1+1,2,none⟩ (.slice D5n L2.length d5n)).setCell ⟨w.heap.size+1+1,3,none⟩ (.slice D6n L3.length d6n))=W4 at bt krE ⊢
  refine bodyPost_ret (results_bk krE _ _ Tryz.results68 rfl Tryz.underlying58 rfl (by kernel_rfl)) rfl ?_
  have hl1:=J6.lo1
  refine ⟨_,rfl,?_,J6.up.but bt (by omega)⟩
  rw [HJ.out]
  exact PgK.of_rows (p:=(true,L1,L2,L3)) (RowP.of_own good_S (J6.s1.but good_S bt (by omega)) (fun hh=>by have:=(J6.s1.in_ good_S g0 hh).1;omega)) (RowP.of_own good_S (J6.s2.but good_S bt (by omega)) (fun hh=>by have:=(J6.s2.in_ good_S g0 hh).1;omega)) (RowP.of_own good_I (J6.s3.but good_I bt (by omega)) (fun hh=>by have:=(J6.s3.in_ good_I g0 hh).1;omega))
end Go.Proofs.YtojmcmghmnfjeaaGreatDoor
