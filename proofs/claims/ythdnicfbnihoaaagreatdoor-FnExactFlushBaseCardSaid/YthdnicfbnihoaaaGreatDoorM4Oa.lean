/-
 Copies of a B-tree: the program's copyBtree.
-/
import Derived.Test.YthdnicfbnihoaaaGreatDoorM4H
import Derived.Test.YthdnicfbnihoaaaGreatDoorM4Bq
import Derived.Test.YthdnicfbnihoaaaGreatDoorM4J
import Derived.Deep.RegionHeld3
set_option maxHeartbeats 8000000
set_option maxRecDepth 100000
namespace Go.Proofs.YthdnicfbnihoaaaGreatDoor
open Go.RowKit
set_option linter.unusedVariables false
set_option linter.unusedSimpArgs false
theorem cinfo_SlotO:(Tryz.prog.info? 114).map (fun i=>(i.zero,i.size,i.bytes))=some (some (.agg #[.int .i64 0,.bool false,.slice none 0 0,.slice none 0 0,.slice none 0 0]),5,88):=by kernel_rfl
theorem slot_szs {x:List TSlot} (hnx:(shL shSlot).sz x≤1048576) (i:Nat) (hi:i<x.length):shPage.sz x[i].2≤1048576:=slot_sz (sz_le shSlot x hi hnx)
theorem c_copyBtree (v:Value) (y:TBtree) (w:World) (h:AV shBtree w v y) (hn:shBtree.sz y≤1048576):Calls Tryz.prog 53 #[v] w (ToV shBtree y w):=by
 obtain ⟨i0,hi0,hz0,hz1,hz2⟩:=info_parts cinfo_SlotO
 obtain ⟨cs,rfl,h⟩:=h
 obtain ⟨r,x⟩:=y
 have ho:=openBtree h
 dsimp only at ho
 obtain ⟨A0,c0,rfl,br,b00⟩:=ho
 clear h
 have hlen:=b00.len_le
 have hnx:(shL shSlot).sz x≤1048576:=by
   have e:shBtree.sz (r,x)=0+(shL shSlot).sz x:=rfl
   omega
 have hxl:x.length≤1048576:=by
   have e:(shL shSlot).sz x=x.length+(x.map shSlot.sz).sum:=rfl
   omega
 have HL:=Lib.hid (slot_szs hnx)
 clear hn hnx
 have vv0:Up w (((w.alloc (.cells #[.int .i64 r,.slice A0 x.length c0] 42)).alloc (.cells #[.int .i64 0,.slice none 0 0] 42)).alloc (.cells #[.int .i64 r,.slice none 0 0] 42)):=(((Up.refl _).alloc _).alloc _).alloc _
 obtain ⟨W0,hW0⟩:∃W0,W0=(((w.alloc (.cells #[.int .i64 r,.slice A0 x.length c0] 42)).alloc (.cells #[.int .i64 0,.slice none 0 0] 42)).alloc (.cells #[.int .i64 r,.slice none 0 0] 42)):=⟨_,rfl⟩
 have hs0:W0.heap.size=w.heap.size+3:=by rw [hW0];simp
 have jr0:Bk W0 (w.heap.size+1) 42 #[.int .i64 0,.slice none 0 0]:=by
   rw [hW0]
   have:=(Bk.new (w.alloc (.cells #[.int .i64 r,.slice A0 x.length c0] 42)) 42 #[.int .i64 0,.slice none 0 0]).alloc (.cells #[.int .i64 r,.slice none 0 0] 42)
   simpa using this
 have jo0:Bk W0 (w.heap.size+1+1) 42 #[.int .i64 r,.slice none 0 0]:=by
   rw [hW0]
   have:=Bk.new ((w.alloc (.cells #[.int .i64 r,.slice A0 x.length c0] 42)).alloc (.cells #[.int .i64 0,.slice none 0 0] 42)) 42 #[.int .i64 r,.slice none 0 0]
   simpa using this
 go_enter Tryz.func53,Tryz.ntmps53
 go_wp2_with fail
 rw [← hW0]
 rw [← hW0] at vv0
 clear hW0
 go_loopw [12] (fun i wr=>∃(k:Nat) (D:Option Addr) (d:Nat) (bl:List Nat),k≤x.length∧i=.int .i64 k∧Bk wr (w.heap.size+1) 42 #[.int .i64 0,.slice none 0 0]∧Bk wr (w.heap.size+1+1) 42 #[.int .i64 r,.slice D k d]∧SO shSlot wr (w.heap.size+3) wr.heap.size D d (x.take k) bl∧bl.Nodup∧Up w wr∧w.heap.size+3≤wr.heap.size) (fun i _=>x.length - (intOf i).toNat)
 case atStart=>exact ⟨0,none,0,[],Nat.zero_le _,rfl,jr0,jo0,by simpa using SO.nil _ _ _,by simp,vv0,by omega⟩
 case round =>
   obtain ⟨k,D,d,bl,hk,rfl,kr,ko,so,nd,hu,hsz⟩:=hrel
   by_cases hlt:k<x.length
   · have hl:=HL.out k hlt
     obtain ⟨g,off,A2,c2,A3,c3,A4,c4,rfl,_,hgl,hc0,hc1,hc2,hc3,hc4,b0,b2,b3,b4,_⟩:=atSlot (b00.up good_Slot hu) hlt
     have HTK:Hid (x.take (k+1)=x.take k++[x[k]]):=List.take_succ_eq_append_getElem hlt
     have htk:(x.take k).length=k:=by rw [List.length_take];omega
     obtain ⟨X,hX⟩:∃X,X=x.take k:=⟨_,rfl⟩
     rw [← hX] at so htk HTK
     clear hX
     obtain ⟨⟨x0,x1,x2,x3,x4⟩,hxk⟩:∃q,q=x[k]:=⟨_,rfl⟩
     rw [← hxk] at hl hc0 hc1 hc2 hc3 hc4 b0 b2 b3 b4 HTK
     have HXK:=Lib.hid hxk
     clear hxk
     dsimp only at hl hc0 hc1 hc2 hc3 hc4 b0 b2 b3 b4
     have av:∀W,Up wr W→AV shPage W (.agg #[.bool x1,.slice A2 x2.length c2,.slice A3 x3.length c3,.slice A4 x4.length c4]) (x1,x2,x3,x4):=fun W hW=>⟨_,rfl,mkPage (x:=(x1,x2,x3,x4)) (b2.up good_S hW) (b3.up good_S hW) (b4.up good_I hW)⟩
     have kn0:Bk (wr.alloc (.cells #[.int .i64 x0,.bool x1,.slice A2 x2.length c2,.slice A3 x3.length c3,.slice A4 x4.length c4] 114)) wr.heap.size 114 #[.int .i64 x0,.bool x1,.slice A2 x2.length c2,.slice A3 x3.length c3,.slice A4 x4.length c4]:=Bk.new _ _ _
     have ko0:=ko.alloc (.cells #[.int .i64 x0,.bool x1,.slice A2 x2.length c2,.slice A3 x3.length c3,.slice A4 x4.length c4] 114)
     have kr0:=kr.alloc (.cells #[.int .i64 x0,.bool x1,.slice A2 x2.length c2,.slice A3 x3.length c3,.slice A4 x4.length c4] 114)
     have uq:Up wr (wr.alloc (.cells #[.int .i64 x0,.bool x1,.slice A2 x2.length c2,.slice A3 x3.length c3,.slice A4 x4.length c4] 114)).drew:=((Up.refl wr).alloc _).drew
     have hx1:(X.length+1)*i0.bytes≤140737488355328:=by rw [hz2];omega
     have hx2:X.length+1≤maxLen:=by unfold maxLen;omega
     have gN0:=kn0.cell 0
     have gN1:=kn0.cell 1
     have gN2:=kn0.cell 2
     have gN3:=kn0.cell 3
     have gN4:=kn0.cell 4
     have gO:=ko0.cell 1
     have fO:=ko0.frozen 1
     have hin:=so.in_ good_Slot
     have hnd:∀be:List Nat,be.Nodup→(∀y∈be,wr.heap.size≤y)→(bl++[be].flatten).Nodup:=fun be h1 h2=>by
       simpa using nodup_two (m:=wr.heap.size) nd h1 (fun y hy=>(hin y hy).2) h2
     have hgo:w.heap.size+1+1 ∉ bl:=fun hm=>by have:=(hin _ hm).1;omega
     have hgr:w.heap.size+1 ∉ bl:=fun hm=>by have:=(hin _ hm).1;omega
     have hgn:wr.heap.size ∉ bl:=fun hm=>by have:=(hin _ hm).2;omega
     have SOH:=Lib.hid so
     clear so nd
     go_wp2_with fail
     go_region_law
       (first
         | (go_simp
            go_at_call 106
            (with_reducible refine (c_copyPage _ (x1,x2,x3,x4) _ (av _ uq) hl).mono ?_)
            rintro e w1 ⟨csn,bln,rfl,on,ndn,un⟩
            obtain ⟨E2,e2,_,E3,e3,_,E4,e4,_,rfl,_,_,_,_⟩:=openOPage on
            have ko1:=ko0.drew.up un
            have kn1:=kn0.drew.up un
            have kr1:=kr0.drew.up un
            have gO1:=ko1.cell 1
            have gM0:=kn1.cell 0
            have gO1b:=(ko1.alloc (.cells #[.int .i64 x0,.bool x1,.slice E2 x2.length e2,.slice E3 x3.length e3,.slice E4 x4.length e4] 114)).cell 1
            have nb:=hnd _ ndn (fun y hy=>Nat.le_trans (by simp) (good_Page.own_in on y hy).1)
            have ro:∀W,Up w1 W→Rowed shSlot W (w.heap.size+3) W.heap.size [.int .i64 x0,.bool x1,.slice E2 x2.length e2,.slice E3 x3.length e3,.slice E4 x4.length e4] [(x0,x1,x2,x3,x4)] [bln]:=fun W hW=>Rowed.one good_Slot (asmSlot b0 (good_Page.own_wide (own_up good_Page on hW) (Nat.le_trans hsz (by simp)) (Nat.le_refl _)))
            have s1:∀W,Up w1 W→SO shSlot W (w.heap.size+3) W.heap.size D d X bl:=fun W hW=>SOH.out.up good_Slot ((uq.trans un).trans hW)
            have hs1:∀W,Up w1 W→w.heap.size+3≤W.heap.size:=fun W hW=>Nat.le_trans hsz ((uq.trans un).trans hW).size)
         | (refine step_app good_Slot rfl _ _ _ _ 114 rfl i0 _ Tryz.underlying40 hi0 hz0 hz1 (by rfl) (lo:=w.heap.size+3) (xs:=X) (ys:=[(x0,x1,x2,x3,x4)]) (bl:=bl) (bs:=[bln]) (news:=[.int .i64 x0,.bool x1,.slice E2 x2.length e2,.slice E3 x3.length e3,.slice E4 x4.length e4]) (by rw [htk];rfl) rfl (s1 _ ((Up.refl w1).alloc _)) nb (Src.box (t:=114) (cs:=[.int .i64 x0,.bool x1,.slice E2 x2.length e2,.slice E3 x3.length e3,.slice E4 x4.length e4]) Tryz.underlying40 (Bk.new w1 114 #[.int .i64 x0,.bool x1,.slice E2 x2.length e2,.slice E3 x3.length e3,.slice E4 x4.length e4]) (by simp [Value.oneCell']) (by rw [hz1];rfl)) (ro _ ((Up.refl w1).alloc _)) (hs1 _ ((Up.refl w1).alloc _)) hx1 hx2 ?_
            intro D' d' bl' w2 hap
            obtain ⟨so2,nd2,mem2,on2⟩:=hap
            have ko2:=(ko1.alloc (.cells #[.int .i64 x0,.bool x1,.slice E2 x2.length e2,.slice E3 x3.length e3,.slice E4 x4.length e4] 114)).only on2 hgo
            have kr2:=(kr1.alloc (.cells #[.int .i64 x0,.bool x1,.slice E2 x2.length e2,.slice E3 x3.length e3,.slice E4 x4.length e4] 114)).only on2 hgr
            have kn2:=(kn1.alloc (.cells #[.int .i64 x0,.bool x1,.slice E2 x2.length e2,.slice E3 x3.length e3,.slice E4 x4.length e4] 114)).only on2 hgn
            have gO2:=ko2.cell 1
            have fO2:=ko2.frozen 1))
     all_goals
       go_wp2_with fail
       have hs2:w.heap.size+3≤w2.heap.size:=Nat.le_trans (hs1 _ ((Up.refl w1).alloc _)) on2.size
       have hu2:Up w w2:=Up.only (((hu.trans uq).trans un).alloc (.cells #[.int .i64 x0,.bool x1,.slice E2 x2.length e2,.slice E3 x3.length e3,.slice E4 x4.length e4] 114)) on2 (fun y hy=>by have:=(hin y hy).1;omega)
       go_roundw
       case rel =>
         refine ⟨k+1,D',d',bl',by omega,by go_num,kr2.far (by simp) _,by simpa using ko2.set 1 (.slice D' (k+1) d'),?_,nd2,hu2.setCell (by simp;omega) _,by simpa [World.setCell] using hs2⟩
         rw [HTK.out]
         exact so2.set good_Slot (w.heap.size+1+1) 1 [.slice D' (k+1) d'] (by omega)
       case measure=>simp [intOf];omega
   · obtain rfl:k=x.length:=by omega
     rw [List.take_length] at so
     have gO:=ko.cell 1
     have gO0:=ko.cell 0
     have gR:=kr.cell 1
     have gR0:=kr.cell 0
     have fR:=kr.frozen 1
     have fR0:=kr.frozen 0
     go_wp2_with fail
     have hz:=(so.set good_Slot (w.heap.size+1) 0 [.int .i64 r,.slice D x.length d] (by omega)).wide good_Slot (lo':=w.heap.size) (by omega) (Nat.le_refl _)
     refine bodyPost_ret (v:=.agg #[.int .i64 r,.slice D x.length d]) (by simp [results,Tryz.results53,go_sem,gR,gR0]) rfl ?_
     exact ⟨[.int .i64 r,.slice D x.length d],bl,rfl,asmBtree br hz,nd,hu.sets (g:=w.heap.size+1) (by omega) 0 [.int .i64 r,.slice D x.length d]⟩
end Go.Proofs.YthdnicfbnihoaaaGreatDoor
