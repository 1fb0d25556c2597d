/-
 Parts of the proof.
-/
import Derived.Test.YtojmcmghmnfjeaaGreatDoorM1Ygg
set_option maxHeartbeats 16000000
set_option maxRecDepth 100000
namespace Go.Proofs.YtojmcmghmnfjeaaGreatDoor
open Go.RowKit
set_option linter.unusedVariables false
set_option linter.unusedSimpArgs false
theorem ids_inj {l:List TSlot} (h:IdsP l) {i k:Nat} (hi:i<l.length) (hk:k<l.length) (e:l[i].1=l[k].1):i=k:=by
 rcases Nat.lt_trichotomy i k with q | q | q
 ·have:=List.pairwise_iff_getElem.1 h.1 i k hi hk q;omega
 ·exact q
 ·have:=List.pairwise_iff_getElem.1 h.1 k i hk hi q;omega
theorem atL_some {l:List TSlot} {id:Int} {p:TPage} (h:atL l id=some p):∃i,∃hi:i<l.length,l[i]=(id,p):=pgAt_some (x:=(0,l)) h
theorem c_pageK (r:Int) (x:List TSlot) (A0:Option Addr) (c0:Nat) (id:Int) (p:TPage) (g0:Nat) (w:World) (hk:RowK shSlot g0 w A0 c0 x) (br:I64 r) (hs:IdsP x) (hp:atL x id=some p):Calls Tryz.prog 31 #[.agg #[.int .i64 r,.slice A0 x.length c0],.int .i64 id] w (fun e w'=>∃v,e=.returned v∧PgK g0 w' v p∧Up w w'):=by
 have b00:=hk.sr
 have hl64:=ids_len hs
 have kb:=(Bk.new w 28 #[.int .i64 r,.slice A0 x.length c0]).alloc (.cells #[.bool false,.slice none 0 0,.slice none 0 0,.slice none 0 0] 58)
 have kr:Bk ((w.alloc (.cells #[.int .i64 r,.slice A0 x.length c0] 28)).alloc (.cells #[.bool false,.slice none 0 0,.slice none 0 0,.slice none 0 0] 58)) (w.heap.size+1) 58 #[.bool false,.slice none 0 0,.slice none 0 0,.slice none 0 0]:=by
  simpa using Bk.new (w.alloc (.cells #[.int .i64 r,.slice A0 x.length c0] 28)) 58 #[.bool false,.slice none 0 0,.slice none 0 0,.slice none 0 0]
 have uu:Up w ((w.alloc (.cells #[.int .i64 r,.slice A0 x.length c0] 28)).alloc (.cells #[.bool false,.slice none 0 0,.slice none 0 0,.slice none 0 0] 58)):=((Up.refl _).alloc _).alloc _
 have zz:((w.alloc (.cells #[.int .i64 r,.slice A0 x.length c0] 28)).alloc (.cells #[.bool false,.slice none 0 0,.slice none 0 0,.slice none 0 0] 58)).heap.size=w.heap.size+2:=by simp
 go_enter Tryz.func31,Tryz.ntmps31
 go_wp2_with fail
 generalize ((w.alloc (.cells #[.int .i64 r,.slice A0 x.length c0] 28)).alloc (.cells #[.bool false,.slice none 0 0,.slice none 0 0,.slice none 0 0] 58))=W0 at kb kr uu zz ⊢
 have hb0:=b00.up good_Slot uu
 replace kb:=kb.drew
 replace kr:=kr.drew
 have CA:=Hd (fun W (u:Up W0 W)=>c_l16At (.agg #[.int .i64 r,.slice A0 x.length c0]) (r,x) id W ⟨_,rfl,mkBtree (x:=(r,x)) br (hb0.up good_Slot u)⟩)
 obtain ⟨i,hi,hie⟩:=atL_some hp
 have hid1:x[i].1=id:=by rw [hie]
 have hpe:p=x[i].2:=by rw [hie]
 obtain ⟨g,off,cs,hA,hgne,hgl,hcs,hcr⟩:=hk.at_ hi
 obtain ⟨A2,c2,A3,c3,A4,c4,hcse,_,_,_,_⟩:=openSlot (hcr w (Only.refl _ _))
 obtain ⟨ds,hds,_,hdr⟩:=page_kept hcr
 subst hcse
 rw [←hpe] at hcs hdr hds
 have hde:ds=[.bool p.1,.slice A2 p.2.1.length c2,.slice A3 p.2.2.1.length c3,.slice A4 p.2.2.2.length c4]:=by
  injection hds with _ hds
  exact hds.symm
 subst hde
 have hc1:w.cell? ⟨g,off+i*5+1,none⟩=some (.bool p.1):=hcs.2 1 (by decide)
 have hc2:w.cell? ⟨g,off+i*5+2,none⟩=some (.slice A2 p.2.1.length c2):=hcs.2 2 (by decide)
 have hc3:w.cell? ⟨g,off+i*5+3,none⟩=some (.slice A3 p.2.2.1.length c3):=hcs.2 3 (by decide)
 have hc4:w.cell? ⟨g,off+i*5+4,none⟩=some (.slice A4 p.2.2.2.length c4):=hcs.2 4 (by decide)
 subst hA
 have HI:=Hd (fun k (hk:k<x.length) (e:x[k].1=id)=>ids_inj hs hk hi (e.trans hid1.symm))
 have HN:=Hd (fun (h:∀k (hk:k<x.length),x[k].1≠id)=>h i hi hid1)
 have HDR:=Hd hdr
 clear hp hs hie hid1 hpe hcs hcr hds hdr hk b00 hb0
 have hgw:w.heap.size+1≠g:=by omega
 replace hc1:W0.drew.cell? _=_:=(uu.cell (cell_lt hc1)).trans hc1
 replace hc2:W0.drew.cell? _=_:=(uu.cell (cell_lt hc2)).trans hc2
 replace hc3:W0.drew.cell? _=_:=(uu.cell (cell_lt hc3)).trans hc3
 replace hc4:W0.drew.cell? _=_:=(uu.cell (cell_lt hc4)).trans hc4
 go_region_held3 (fun W=>W.cell? ⟨w.heap.size,0,none⟩=some (.int .i64 r)∧W.cell? ⟨w.heap.size,1,none⟩=some (.slice (some ⟨g,off,none⟩) x.length c0)∧W.cell? ⟨g,off+i*5+1,none⟩=some (.bool p.1)∧W.cell? ⟨g,off+i*5+2,none⟩=some (.slice A2 p.2.1.length c2)∧W.cell? ⟨g,off+i*5+3,none⟩=some (.slice A3 p.2.2.1.length c3)∧W.cell? ⟨g,off+i*5+4,none⟩=some (.slice A4 p.2.2.2.length c4))
  (first | (have q0:World.cell? _ ⟨w.heap.size,0,none⟩=some (.int .i64 r):=kb.cell 0;have q1:World.cell? _ ⟨w.heap.size,1,none⟩=some (.slice (some ⟨g,off,none⟩) x.length c0):=kb.cell 1;have q2:World.cell? _ ⟨g,off+i*5+1,none⟩=some (.bool p.1):=hc1;have q3:World.cell? _ ⟨g,off+i*5+2,none⟩=some (.slice A2 p.2.1.length c2):=hc2;have q4:World.cell? _ ⟨g,off+i*5+3,none⟩=some (.slice A3 p.2.2.1.length c3):=hc3;have q5:World.cell? _ ⟨g,off+i*5+4,none⟩=some (.slice A4 p.2.2.2.length c4):=hc4;with_reducible exact ⟨q0,q1,q2,q3,q4,q5⟩) | (have q0:World.cell? _ ⟨w.heap.size,0,none⟩=some (.int .i64 r):=kb.cell 0;have q1:World.cell? _ ⟨w.heap.size,1,none⟩=some (.slice (some ⟨g,off,none⟩) x.length c0):=kb.cell 1;have q2:World.cell? _ ⟨g,off+i*5+1,none⟩=some (.bool p.1):=hd1;have q3:World.cell? _ ⟨g,off+i*5+2,none⟩=some (.slice A2 p.2.1.length c2):=hd2;have q4:World.cell? _ ⟨g,off+i*5+3,none⟩=some (.slice A3 p.2.2.1.length c3):=hd3;have q5:World.cell? _ ⟨g,off+i*5+4,none⟩=some (.slice A4 p.2.2.2.length c4):=hd4;with_reducible exact ⟨q0,q1,q2,q3,q4,q5⟩) | (have q0:World.cell? _ ⟨w.heap.size,0,none⟩=some (.int .i64 r):=(far4 (g:=w.heap.size+1) (a:=⟨w.heap.size,0,none⟩) (by dsimp only;omega) (.bool p.1) (.slice A2 p.2.1.length c2) (.slice A3 p.2.2.1.length c3) (.slice A4 p.2.2.2.length c4)).trans (kb.cell 0);have q1:World.cell? _ ⟨w.heap.size,1,none⟩=some (.slice (some ⟨g,off,none⟩) x.length c0):=(far4 (g:=w.heap.size+1) (a:=⟨w.heap.size,1,none⟩) (by dsimp only;omega) (.bool p.1) (.slice A2 p.2.1.length c2) (.slice A3 p.2.2.1.length c3) (.slice A4 p.2.2.2.length c4)).trans (kb.cell 1);have q2:World.cell? _ ⟨g,off+i*5+1,none⟩=some (.bool p.1):=(far4 (g:=w.heap.size+1) (a:=⟨g,off+i*5+1,none⟩) (by dsimp only;omega) (.bool p.1) (.slice A2 p.2.1.length c2) (.slice A3 p.2.2.1.length c3) (.slice A4 p.2.2.2.length c4)).trans (hd1);have q3:World.cell? _ ⟨g,off+i*5+2,none⟩=some (.slice A2 p.2.1.length c2):=(far4 (g:=w.heap.size+1) (a:=⟨g,off+i*5+2,none⟩) (by dsimp only;omega) (.bool p.1) (.slice A2 p.2.1.length c2) (.slice A3 p.2.2.1.length c3) (.slice A4 p.2.2.2.length c4)).trans (hd2);have q4:World.cell? _ ⟨g,off+i*5+3,none⟩=some (.slice A3 p.2.2.1.length c3):=(far4 (g:=w.heap.size+1) (a:=⟨g,off+i*5+3,none⟩) (by dsimp only;omega) (.bool p.1) (.slice A2 p.2.1.length c2) (.slice A3 p.2.2.1.length c3) (.slice A4 p.2.2.2.length c4)).trans (hd3);have q5:World.cell? _ ⟨g,off+i*5+4,none⟩=some (.slice A4 p.2.2.2.length c4):=(far4 (g:=w.heap.size+1) (a:=⟨g,off+i*5+4,none⟩) (by dsimp only;omega) (.bool p.1) (.slice A2 p.2.1.length c2) (.slice A3 p.2.2.1.length c3) (.slice A4 p.2.2.2.length c4)).trans (hd4);with_reducible exact ⟨q0,q1,q2,q3,q4,q5⟩))
  (first
   | (go_at_call 59
      refine (CA.out _ (Up.refl W0).drew).mono ?_
      rintro e w1 ⟨n,rfl,u1,hn⟩
      replace kb:=kb.up u1
      replace kr:=kr.up u1
      have uF:=uu.drew.trans u1
      have z1:=u1.size
      have hni:n=(i:Int):=by
       rcases hn with ⟨_,hn⟩ | ⟨k,hk,e,he⟩
       ·exact (HN.out hn).elim
       ·rw [e,HI.out k hk he]
      subst hni
      clear hn
      have uH:=(Up.refl W0).drew.trans u1
      have hd1:w1.cell? _=_:=(u1.cell (cell_lt hc1)).trans hc1
      have hd2:w1.cell? _=_:=(u1.cell (cell_lt hc2)).trans hc2
      have hd3:w1.cell? _=_:=(u1.cell (cell_lt hc3)).trans hc3
      have hd4:w1.cell? _=_:=(u1.cell (cell_lt hc4)).trans hc4
      have gr0:w1.cell? ⟨w.heap.size+1,0,none⟩=some (.bool false):=kr.cell 0
      have fr0:=kr.frozen 0
      have gr1:w1.cell? ⟨w.heap.size+1,1,none⟩=some (.slice none 0 0):=kr.cell 1
      have fr1:=kr.frozen 1
      have gr2:w1.cell? ⟨w.heap.size+1,2,none⟩=some (.slice none 0 0):=kr.cell 2
      have fr2:=kr.frozen 2
      have gr3:w1.cell? ⟨w.heap.size+1,3,none⟩=some (.slice none 0 0):=kr.cell 3
      have fr3:=kr.frozen 3))
 have bt:But (w.heap.size+1) w1 ((((w1.setCell ⟨w.heap.size+1,0,none⟩ (.bool p.1)).setCell ⟨w.heap.size+1,1,none⟩ (.slice A2 p.2.1.length c2)).setCell ⟨w.heap.size+1,2,none⟩ (.slice A3 p.2.2.1.length c3)).setCell ⟨w.heap.size+1,3,none⟩ (.slice A4 p.2.2.2.length c4)):=But.sets (g:=w.heap.size+1) [.bool p.1,.slice A2 p.2.1.length c2,.slice A3 p.2.2.1.length c3,.slice A4 p.2.2.2.length c4] w1 0
 have krE:Bk ((((w1.setCell ⟨w.heap.size+1,0,none⟩ (.bool p.1)).setCell ⟨w.heap.size+1,1,none⟩ (.slice A2 p.2.1.length c2)).setCell ⟨w.heap.size+1,2,none⟩ (.slice A3 p.2.2.1.length c3)).setCell ⟨w.heap.size+1,3,none⟩ (.slice A4 p.2.2.2.length c4)) (w.heap.size+1) 58 #[.bool p.1,.slice A2 p.2.1.length c2,.slice A3 p.2.2.1.length c3,.slice A4 p.2.2.2.length c4]:=kr.setsL [.bool p.1,.slice A2 p.2.1.length c2,.slice A3 p.2.2.1.length c3,.slice A4 p.2.2.2.length c4] 0
 generalize ((((w1.setCell ⟨w.heap.size+1,0,none⟩ (.bool p.1)).setCell ⟨w.heap.size+1,1,none⟩ (.slice A2 p.2.1.length c2)).setCell ⟨w.heap.size+1,2,none⟩ (.slice A3 p.2.2.1.length c3)).setCell ⟨w.heap.size+1,3,none⟩ (.slice A4 p.2.2.2.length c4))=W4 at bt krE ⊢
 clear gr0 fr0 gr1 fr1 gr2 fr2 gr3 fr3
 go_wp2_with fail
 refine bodyPost_ret (results_bk krE _ _ Tryz.results31 rfl Tryz.underlying58 rfl (by kernel_rfl)) rfl ?_
 have u4:=uF.but bt (by omega)
 exact ⟨_,rfl,⟨_,rfl,kept_go HDR.out (only_up u4)⟩,u4⟩
theorem c_l16Poor (v:Value) (p:TPage) (w:World) (h:AV shPage w v p):Calls Tryz.prog 37 #[v] w (RetV (.bool (poorP p)) w):=by
 obtain ⟨cs,rfl,h⟩:=h
 obtain ⟨A1,c1,A2,c2,A3,c3,rfl,b1,b2,b3⟩:=openPage h
 have l1:=b1.len_le
 have l3:=b3.len_le
 have uu:Up w (w.alloc (.cells #[.bool p.1,.slice A1 p.2.1.length c1,.slice A2 p.2.2.1.length c2,.slice A3 p.2.2.2.length c3] 58)):=(Up.refl w).alloc _
 cases hl:p.1
 ·have e:poorP p=decide ((p.2.2.2.length:Int)<3):=by
   unfold poorP
   rw [fill_fork hl,decide_eq_decide]
   omega
  rw [hl] at uu
  have HE:=Hd e
  clear e hl h b1 b2 b3
  go_enter Tryz.func37,Tryz.ntmps37
  go_wp2_with fail
  go_ret
  exact ⟨by rw [HE.out];first | done | rfl,uu⟩
 ·have e:poorP p=decide ((p.2.1.length:Int)<3):=by
   unfold poorP
   rw [fill_leaf hl,decide_eq_decide]
   omega
  rw [hl] at uu
  have HE:=Hd e
  clear e hl h b1 b2 b3
  cases hq:decide ((p.2.1.length:Int)<3)
  all_goals
   rw [hq] at HE
   simp only [decide_eq_true_eq,decide_eq_false_iff_not] at hq
   go_enter Tryz.func37,Tryz.ntmps37
   go_wp2_with fail
   go_ret
   exact ⟨by rw [HE.out];first | done | rfl,uu⟩
theorem c_l16Rich (v:Value) (p:TPage) (w:World) (h:AV shPage w v p):Calls Tryz.prog 65 #[v] w (RetV (.bool (richP p)) w):=by
 obtain ⟨cs,rfl,h⟩:=h
 obtain ⟨A1,c1,A2,c2,A3,c3,rfl,b1,b2,b3⟩:=openPage h
 have l1:=b1.len_le
 have l3:=b3.len_le
 have uu:Up w (w.alloc (.cells #[.bool p.1,.slice A1 p.2.1.length c1,.slice A2 p.2.2.1.length c2,.slice A3 p.2.2.2.length c3] 58)):=(Up.refl w).alloc _
 cases hl:p.1
 ·have e:richP p=decide (3<(p.2.2.2.length:Int)):=by
   unfold richP
   rw [fill_fork hl,decide_eq_decide]
   omega
  rw [hl] at uu
  have HE:=Hd e
  clear e hl h b1 b2 b3
  go_enter Tryz.func65,Tryz.ntmps65
  go_wp2_with fail
  go_ret
  exact ⟨by rw [HE.out];first | done | rfl,uu⟩
 ·have e:richP p=decide (3<(p.2.1.length:Int)):=by
   unfold richP
   rw [fill_leaf hl,decide_eq_decide]
   omega
  rw [hl] at uu
  have HE:=Hd e
  clear e hl h b1 b2 b3
  cases hq:decide (3<(p.2.1.length:Int))
  all_goals
   rw [hq] at HE
   simp only [decide_eq_true_eq,decide_eq_false_iff_not] at hq
   go_enter Tryz.func65,Tryz.ntmps65
   go_wp2_with fail
   go_ret
   exact ⟨by rw [HE.out];first | done | rfl,uu⟩
theorem cinfo_SlotY:(Tryz.prog.info? 60).map (fun i=>(i.zero,i.size,i.bytes))=some (some (.agg #[.int .i64 0,.bool false,.slice none 0 0,.slice none 0 0,.slice none 0 0]),5,88):=by kernel_rfl
theorem setCell_only {g i:Nat} {w W:World} (u:Up w W) (v:Value):Only [g] w (W.setCell ⟨g,i,none⟩ v):=(only_up u).but (But.set W g i v) (by simp)
theorem wpList_appSlot {ops:Array Oper} {rest:List Oper} {o:Oper} {a:Act} {Q:Exit→Act→World→Prop} (hgd:o.guard=none) (so x:Operand)
 (ho:o.op=.call { callee:=.builtin .append,args:=#[so,x],argTypes:=#[26,26] })
 {g:Nat} {w0 W:World} {lo B n:Nat} {D:Option Addr} {d:Nat} {X:List TSlot} {bl:List Nat} {y:TSlot} {cs:List Value}
 (hv:a.eval so=.slice D n d) (hn:n=X.length) (hx:a.eval x=.slice (some ⟨B,0,none⟩) 1 1) (hB:B=W.heap.size)
 (h:SO (shKept g w0 shSlot) W lo W.heap.size D d X bl) (nd:bl.Nodup) (hlo:lo≤W.heap.size) (hl:X.length≤1000) (hk:∀V,Only [g] w0 V→shSlot.rep V 0 V.heap.size cs y)
 (k:∀D' d' bl' w',SO (shKept g w0 shSlot) w' lo w'.heap.size D' d' (X++[y]) bl'→bl'.Nodup→Only bl (W.alloc (.cells cs.toArray 60)) w'→wpList Tryz.prog ops Q rest (a.put o.dst (.slice D' (n+1) d')) w') :
 wpList Tryz.prog ops Q (o::rest) a (W.alloc (.cells cs.toArray 60)):=by
 obtain ⟨i0,hi0,hz0,hz1,hz2⟩:=info_parts cinfo_SlotY
 subst hn hB
 have uA:Up W (W.alloc (.cells cs.toArray 60)):=(Up.refl W).alloc _
 have hg:=good_Kept (g:=g) (w0:=w0) good_Slot
 have hlen:cs.length=5:=good_Slot.len (hk w0 (Only.refl _ _))
 have hone:∀u∈cs,u.oneCell'=true:=good_Slot.one (hk w0 (Only.refl _ _))
 refine wpList_app hg hgd so x _ _ 60 ho i0 _ Tryz.underlying26 hi0 hz0 hz1 (by rfl) (lo:=lo) (xs:=X) (ys:=[y]) (bl:=bl) (bs:=[[]]) (news:=cs) hv hx (h.up hg uA) (by simpa using nd) (Src.box (t:=60) (cs:=cs) Tryz.underlying26 (Bk.new W 60 cs.toArray) hone (by rw [hz1];exact hlen)) (Rowed.one hg ⟨hk,rfl⟩) (Nat.le_trans hlo uA.size) (by rw [hz2];simp;omega) (by simp;unfold maxLen;omega) ?_
 intro D' d' bl' w' hap
 obtain ⟨so2,nd2,mem2,on2⟩:=hap
 exact k D' d' bl' w' so2 nd2 on2
theorem row5 {w w':World} (u:Up w w') {a b c d e:Addr} {x y z r s:Value} (h:w.cell? a=some x∧w.cell? b=some y∧w.cell? c=some z∧w.cell? d=some r∧w.cell? e=some s):w'.cell? a=some x∧w'.cell? b=some y∧w'.cell? c=some z∧w'.cell? d=some r∧w'.cell? e=some s :=
 ⟨(u.cell (cell_lt h.1)).trans h.1,(u.cell (cell_lt h.2.1)).trans h.2.1,(u.cell (cell_lt h.2.2.1)).trans h.2.2.1,(u.cell (cell_lt h.2.2.2.1)).trans h.2.2.2.1,(u.cell (cell_lt h.2.2.2.2)).trans h.2.2.2.2⟩
theorem c_l16Set (g:Nat) (root:Int) (l:List TSlot) (id:Int) (v:Value) (p:TPage) (w:World) (hs:StR w g root l) (hp:PgK g w v p) (hl:l.length≤64) (hid:I64 id) :
 Calls Tryz.prog 36 #[.pointer (some ⟨g,0,none⟩),.int .i64 id,v] w (fun e w'=>e=.returned (.tuple #[])∧StR w' g root (setL id p l)∧Only [g] w w'):=by
 obtain ⟨A,c,kg,hk,hroot⟩:=hs
 obtain ⟨cs,rfl,hp⟩:=hp
 obtain ⟨A1,c1,A2,c2,A3,c3,rfl,_,_,_⟩:=openPage (hp w (Only.refl _ _))
 have hgl:=kg.lt
 have HY:=Hd (slot_kept (id:=id) (p:=p) hid hp)
 have HK:=Hd hk
 have hcl:=hk.1.1
 have hcm:=hk.1.2.1
 have HS1:=Hd (fun (i:Nat) (hi:i<l.length)=>setTo_take id p hi)
 have HSL:=Hd (fun (i:Nat) (hi:i≤l.length)=>setTo_len id p l i hi)
 have HSE:Hid (setTo id p (l.take l.length)=setTo id p l):=Hd (by rw [List.take_length])
 have HS0:Hid (setTo id p (l.take 0)=([],false)):=Hd (by rw [List.take_zero];rfl)
 have HFIN:Hid (setL id p l=if (setTo id p l).2=true then (setTo id p l).1 else (setTo id p l).1++[(id,p)]):=Hd rfl
 generalize setL id p l=R at *
 obtain ⟨F,hF⟩:∃F:Nat→List TSlot×Bool,F=fun i=>setTo id p (l.take i):=⟨_,rfl⟩
 have HF1:Hid (∀i (hi:i<l.length),F (i+1)=setStep id p (F i) l[i]):=Hd (fun i hi=>by rw [hF];exact HS1.out i hi)
 have HFL:Hid (∀i,i≤l.length→(F i).1.length≤2*i):=Hd (fun i hi=>by rw [hF];exact HSL.out i hi)
 have HF0:Hid (F 0=([],false)):=Hd (by rw [hF];exact HS0.out)
 have HFE:Hid (R=if (F l.length).2=true then (F l.length).1 else (F l.length).1++[(id,p)]):=Hd (by subst hF;dsimp only;simp only [List.take_length];exact HFIN.out)
 clear hF HS1 HSL HSE HS0 HFIN hk hp
 have kp0:=(Bk.new w 58 #[.bool p.1,.slice A1 p.2.1.length c1,.slice A2 p.2.2.1.length c2,.slice A3 p.2.2.2.length c3]).alloc (.cells #[] 60)
 have uu0:Up w ((w.alloc (.cells #[.bool p.1,.slice A1 p.2.1.length c1,.slice A2 p.2.2.1.length c2,.slice A3 p.2.2.2.length c3] 58)).alloc (.cells #[] 60)):=((Up.refl w).alloc _).alloc _
 have zz0:((w.alloc (.cells #[.bool p.1,.slice A1 p.2.1.length c1,.slice A2 p.2.2.1.length c2,.slice A3 p.2.2.2.length c3] 58)).alloc (.cells #[] 60)).heap.size=w.heap.size+2:=by simp
 go_enter Tryz.func36,Tryz.ntmps36
 go_wp2_with fail
 generalize ((w.alloc (.cells #[.bool p.1,.slice A1 p.2.1.length c1,.slice A2 p.2.2.1.length c2,.slice A3 p.2.2.2.length c3] 58)).alloc (.cells #[] 60))=W1 at kp0 uu0 zz0 ⊢
 have zz1:w.heap.size+2≤W1.heap.size:=Nat.le_of_eq zz0.symm
 replace zz0:W1.heap.size≤w.heap.size+2:=Nat.le_of_eq zz0
 go_loopw [6,7,8] (fun o dn iv wr=>∃(i:Nat) (D:Option Addr) (d:Nat) (bl:List Nat),i≤l.length∧iv=.int .i64 i∧o=.slice D (F i).1.length d∧dn=.bool (F i).2∧SO (shKept g w shSlot) wr (w.heap.size+2) wr.heap.size D d (F i).1 bl∧bl.Nodup∧Up W1 wr) (fun _ _ iv _=>l.length-(intOf iv).toNat)
 case atStart=>exact ⟨0,_,0,[],Nat.zero_le _,rfl,by rw [HF0.out];rfl,by rw [HF0.out],by rw [HF0.out];exact ⟨Nat.le_refl _,Nat.zero_le _,.inl ⟨rfl,rfl,rfl⟩⟩,List.nodup_nil,Up.refl _⟩
 case round =>
  obtain ⟨i,D,d,bl,hi,rfl,rfl,rfl,so,nd,hu⟩:=hrel
  have uw:=uu0.trans hu
  have kgr:=kg.up uw
  have gg1:wr.cell? ⟨g,1,none⟩=some (.slice A l.length c):=kgr.cell 1
  have kpr:=kp0.up hu
  have gp0:wr.cell? ⟨w.heap.size,0,none⟩=some (.bool p.1):=kpr.cell 0
  have gp1:wr.cell? ⟨w.heap.size,1,none⟩=some (.slice A1 p.2.1.length c1):=kpr.cell 1
  have gp2:wr.cell? ⟨w.heap.size,2,none⟩=some (.slice A2 p.2.2.1.length c2):=kpr.cell 2
  have gp3:wr.cell? ⟨w.heap.size,3,none⟩=some (.slice A3 p.2.2.2.length c3):=kpr.cell 3
  have hin:=so.in_ (good_Kept good_Slot)
  have hlo:w.heap.size+2≤wr.heap.size:=by have:=hu.size;omega
  have hli:=HFL.out i hi
  have hFi:=HF1.out i
  obtain ⟨⟨X,b⟩,hX⟩:∃q,q=F i:=⟨_,rfl⟩
  rw [←hX] at so hli hFi ⊢
  have HX:=Hd hX
  clear hX
  dsimp only at so hli ⊢
  by_cases hlt:i<l.length
  ·have hFi:=Hd (hFi hlt)
   obtain ⟨ga,oa,cs,hA,hgne,hga,hcs,hcr⟩:=HK.out.at_ hlt
   obtain ⟨B1,e1,B2,e2,B3,e3,hcse,hia,_,_,_⟩:=openSlot (hcr w (Only.refl _ _))
   subst hcse hA
   have H5:=Hd (⟨hcs.2 0 (by decide),hcs.2 1 (by decide),hcs.2 2 (by decide),hcs.2 3 (by decide),hcs.2 4 (by decide)⟩:w.cell? ⟨ga,oa+i*5,none⟩=some (.int .i64 l[i].1)∧w.cell? ⟨ga,oa+i*5+1,none⟩=some (.bool l[i].2.1)∧w.cell? ⟨ga,oa+i*5+2,none⟩=some (.slice B1 l[i].2.2.1.length e1)∧w.cell? ⟨ga,oa+i*5+3,none⟩=some (.slice B2 l[i].2.2.2.1.length e2)∧w.cell? ⟨ga,oa+i*5+4,none⟩=some (.slice B3 l[i].2.2.2.2.length e3))
   have HA:=Hd hcr
   obtain ⟨y,hy⟩:∃y,y=l[i]:=⟨_,rfl⟩
   rw [←hy] at hFi H5 HA hia
   clear hy hcs hcr gg1
   have gg1_wr:wr.cell? ⟨g,1,none⟩=some (.slice (some ⟨ga,oa,none⟩) l.length c):=(kg.up uw).cell 1
   have f_wr:=row5 uw H5.out
   obtain ⟨f0_wr,f1_wr,f2_wr,f3_wr,f4_wr⟩:=f_wr
   have hlo_wr:=hlo
   have HXF:=Hd (fun (q:List TSlot×Bool) (hq:setStep id p (X,b) y=q)=>(hFi.out.trans hq:F (i+1)=q))
   clear hFi
   cases b
   ·by_cases c1':id≤y.1
    ·by_cases d1':y.1=id
     ·have HN:=Hd (HXF.out _ (setStep_eq id p X d1'))
      have hne:(y.1 != id)=false:=by simp [d1']
      have HD:=Hd d1'
      clear d1' HXF
      go_wp2_with (first
       | (at_builtin
          refine wpList_appSlot rfl _ _ rfl (g:=g) (w0:=w) (lo:=w.heap.size+2) (X:=X) (bl:=bl) (y:=(id,p)) (cs:=[.int .i64 id,.bool p.1,.slice A1 p.2.1.length c1,.slice A2 p.2.2.1.length c2,.slice A3 p.2.2.2.length c3]) rfl (by first | rfl | simp) rfl rfl so nd hlo_wr (by omega) HY.out ?_
          intro Da da bla wa soa nda ona
          have uWa:Up W1 wa:=Up.only (hu.alloc _) ona (fun q hq=>by have:=(fun q hq=>(hin q hq).1) q hq;omega)
          have uwa:=uu0.trans uWa
          have hinA:∀q∈bla,w.heap.size+2≤q:=fun q hq=>(soa.in_ (good_Kept good_Slot) q hq).1
          have hlo_wa:w.heap.size+2≤wa.heap.size:=by have:=uWa.size;omega
          have gg1_wa:wa.cell? ⟨g,1,none⟩=some (.slice (some ⟨ga,oa,none⟩) l.length c):=(kg.up uwa).cell 1
          have f_wa:=row5 uwa H5.out
          obtain ⟨f0_wa,f1_wa,f2_wa,f3_wa,f4_wa⟩:=f_wa))
      go_roundw
      case rel=>exact ⟨i+1,Da,da,bla,by omega,by go_num,by rw [HN.out];first | rfl | simp,by rw [HN.out],by rw [HN.out];exact soa,nda,uWa⟩
      case measure=>simp [intOf];omega
     ·have HN:=Hd (HXF.out _ (setStep_gt id p X c1' d1'))
      have hne:(y.1 != id)=true:=by simp [d1']
      have HD:=Hd d1'
      clear d1' HXF
      go_wp2_with (first
       | (at_builtin
          refine wpList_appSlot rfl _ _ rfl (g:=g) (w0:=w) (lo:=w.heap.size+2) (X:=X) (bl:=bl) (y:=(id,p)) (cs:=[.int .i64 id,.bool p.1,.slice A1 p.2.1.length c1,.slice A2 p.2.2.1.length c2,.slice A3 p.2.2.2.length c3]) rfl (by first | rfl | simp) rfl rfl so nd hlo_wr (by omega) HY.out ?_
          intro Da da bla wa soa nda ona
          have uWa:Up W1 wa:=Up.only (hu.alloc _) ona (fun q hq=>by have:=(fun q hq=>(hin q hq).1) q hq;omega)
          have uwa:=uu0.trans uWa
          have hinA:∀q∈bla,w.heap.size+2≤q:=fun q hq=>(soa.in_ (good_Kept good_Slot) q hq).1
          have hlo_wa:w.heap.size+2≤wa.heap.size:=by have:=uWa.size;omega
          have gg1_wa:wa.cell? ⟨g,1,none⟩=some (.slice (some ⟨ga,oa,none⟩) l.length c):=(kg.up uwa).cell 1
          have f_wa:=row5 uwa H5.out
          obtain ⟨f0_wa,f1_wa,f2_wa,f3_wa,f4_wa⟩:=f_wa)
       | (at_builtin
          refine wpList_appSlot rfl _ _ rfl (g:=g) (w0:=w) (lo:=w.heap.size+2) (X:=X++[(id,p)]) (bl:=bla) (y:=y) (cs:=[.int .i64 y.1,.bool y.2.1,.slice B1 y.2.2.1.length e1,.slice B2 y.2.2.2.1.length e2,.slice B3 y.2.2.2.2.length e3]) rfl (by first | rfl | simp) rfl rfl soa nda hlo_wa (by simp;omega) HA.out ?_
          intro Db db blb wb sob ndb onb
          have uWb:Up W1 wb:=Up.only (uWa.alloc _) onb (fun q hq=>by have:=hinA q hq;omega)
          have uwb:=uu0.trans uWb))
      go_roundw
      case rel=>exact ⟨i+1,Db,db,blb,by omega,by go_num,by rw [HN.out];first | rfl | simp,by rw [HN.out],by rw [HN.out];exact sob,ndb,uWb⟩
      case measure=>simp [intOf];omega
    ·have HN:=Hd (HXF.out _ (setStep_lt id p X c1'))
     have d1':y.1≠id:=by omega
     have hne:(y.1 != id)=true:=by simp [d1']
     have HD:=Hd d1'
     clear d1' HXF
     go_wp2_with (first
      | (at_builtin
         refine wpList_appSlot rfl _ _ rfl (g:=g) (w0:=w) (lo:=w.heap.size+2) (X:=X) (bl:=bl) (y:=y) (cs:=[.int .i64 y.1,.bool y.2.1,.slice B1 y.2.2.1.length e1,.slice B2 y.2.2.2.1.length e2,.slice B3 y.2.2.2.2.length e3]) rfl (by first | rfl | simp) rfl rfl so nd hlo_wr (by omega) HA.out ?_
         intro Db db blb wb sob ndb onb
         have uWb:Up W1 wb:=Up.only (hu.alloc _) onb (fun q hq=>by have:=(fun q hq=>(hin q hq).1) q hq;omega)
         have uwb:=uu0.trans uWb))
     go_roundw
     case rel=>exact ⟨i+1,Db,db,blb,by omega,by go_num,by rw [HN.out];first | rfl | simp,by rw [HN.out],by rw [HN.out];exact sob,ndb,uWb⟩
     case measure=>simp [intOf];omega
   ·by_cases d1':y.1=id
    ·have HN:=Hd (HXF.out _ (setStep_no id p X d1'))
     have hne:(y.1 != id)=false:=by simp [d1']
     have HD:=Hd d1'
     clear d1' HXF
     go_wp2_with fail
     go_roundw
     case rel=>exact ⟨i+1,D,d,bl,by omega,by go_num,by rw [HN.out],by rw [HN.out],by rw [HN.out];exact so,nd,hu⟩
     case measure=>simp [intOf];omega
    ·have HN:=Hd (HXF.out _ (setStep_on id p X d1'))
     have hne:(y.1 != id)=true:=by simp [d1']
     have HD:=Hd d1'
     clear d1' HXF
     go_wp2_with (first
      | (at_builtin
         refine wpList_appSlot rfl _ _ rfl (g:=g) (w0:=w) (lo:=w.heap.size+2) (X:=X) (bl:=bl) (y:=y) (cs:=[.int .i64 y.1,.bool y.2.1,.slice B1 y.2.2.1.length e1,.slice B2 y.2.2.2.1.length e2,.slice B3 y.2.2.2.2.length e3]) rfl (by first | rfl | simp) rfl rfl so nd hlo_wr (by omega) HA.out ?_
         intro Db db blb wb sob ndb onb
         have uWb:Up W1 wb:=Up.only (hu.alloc _) onb (fun q hq=>by have:=(fun q hq=>(hin q hq).1) q hq;omega)
         have uwb:=uu0.trans uWb))
     go_roundw
     case rel=>exact ⟨i+1,Db,db,blb,by omega,by go_num,by rw [HN.out];first | rfl | simp,by rw [HN.out],by rw [HN.out];exact sob,ndb,uWb⟩
     case measure=>simp [intOf];omega
  ·obtain rfl:i=l.length:=by omega
   clear hlt
   have HR:=Hd (show R=if b=true then X else X++[(id,p)] by rw [HFE.out,←HX.out])
   have hgb:∀q∈bl,q≠g:=fun q hq e=>by have:=(hin q hq).1;omega
   have hlo_wr:=hlo
   cases b
   ·have HRN:Hid (R=X++[(id,p)]):=Hd (by rw [HR.out];rfl)
    clear HR
    go_wp2_with (first
     | (at_builtin
        refine wpList_appSlot rfl _ _ rfl (g:=g) (w0:=w) (lo:=w.heap.size+2) (X:=X) (bl:=bl) (y:=(id,p)) (cs:=[.int .i64 id,.bool p.1,.slice A1 p.2.1.length c1,.slice A2 p.2.2.1.length c2,.slice A3 p.2.2.2.length c3]) rfl (by first | rfl | simp) rfl rfl so nd hlo_wr (by omega) HY.out ?_
        intro Da da bla wa soa nda ona
        have uWa:Up W1 wa:=Up.only (hu.alloc _) ona (fun q hq=>by have:=(fun q hq=>(hin q hq).1) q hq;omega)
        have uwa:=uu0.trans uWa
        have kga:=kg.up uwa
        have gga1:wa.cell? ⟨g,1,none⟩=some (.slice A l.length c):=kga.cell 1
        have gfa1:=kga.frozen 1))
    refine bodyPost_end (v:=.tuple #[]) (by simp [results,Tryz.results36,go_sem]) rfl ?_
    have hon:=setCell_only (g:=g) (i:=1) uwa (.slice Da (X.length+1) da)
    have hgba:g∉bla:=fun hq=>by have:=(soa.in_ (good_Kept good_Slot) g hq).1;omega
    refine ⟨rfl,⟨Da,da,?_,?_,hroot⟩,hon⟩
    ·rw [HRN.out,List.length_append]
     exact kga.set 1 _
    ·rw [HRN.out]
     exact (RowK.of_kept good_Slot soa (only_up uwa) hgba).go good_Slot (setCell_only (Up.refl wa) _)
   ·have HRN:Hid (R=X):=Hd (by rw [HR.out];rfl)
    clear HR
    have gfr1:=kgr.frozen 1
    go_wp2_with fail
    refine bodyPost_end (v:=.tuple #[]) (by simp [results,Tryz.results36,go_sem]) rfl ?_
    have hon:=setCell_only (g:=g) (i:=1) uw (.slice D X.length d)
    have hgba:g∉bl:=fun hq=>hgb g hq rfl
    refine ⟨rfl,⟨D,d,?_,?_,hroot⟩,hon⟩
    ·rw [HRN.out]
     exact kgr.set 1 _
    ·rw [HRN.out]
     exact (RowK.of_kept good_Slot so (only_up uw) hgba).go good_Slot (setCell_only (Up.refl wr) _)
theorem dropL_yes (id:Int) {l:List TSlot} {i:Nat} (hi:i<l.length) (h:l[i].1≠id):dropL id (l.take (i+1))=dropL id (l.take i)++[l[i]]:=by
 unfold dropL
 rw [List.take_succ_eq_append_getElem hi,List.filter_append]
 simp [h]
theorem dropL_no (id:Int) {l:List TSlot} {i:Nat} (hi:i<l.length) (h:l[i].1=id):dropL id (l.take (i+1))=dropL id (l.take i):=by
 unfold dropL
 rw [List.take_succ_eq_append_getElem hi,List.filter_append]
 simp [h]
theorem dropL_len (id:Int) (l:List TSlot):(dropL id l).length≤l.length:=List.length_filter_le _ _
theorem c_l16Drop (g:Nat) (root:Int) (l:List TSlot) (id:Int) (w:World) (hs:StR w g root l) (hl:l.length≤64) (hid:I64 id) :
 Calls Tryz.prog 39 #[.pointer (some ⟨g,0,none⟩),.int .i64 id] w (fun e w'=>e=.returned (.tuple #[])∧StR w' g root (dropL id l)∧Only [g] w w'):=by
 obtain ⟨A,c,kg,hk,hroot⟩:=hs
 have hgl:=kg.lt
 have HK:=Hd hk
 have hcl:=hk.1.1
 have hcm:=hk.1.2.1
 obtain ⟨F,hF⟩:∃F:Nat→List TSlot,F=fun i=>dropL id (l.take i):=⟨_,rfl⟩
 have HFY:Hid (∀i (hi:i<l.length),l[i].1≠id→F (i+1)=F i++[l[i]]):=Hd (fun i hi h=>by rw [hF];exact dropL_yes id hi h)
 have HFN:Hid (∀i (hi:i<l.length),l[i].1=id→F (i+1)=F i):=Hd (fun i hi h=>by rw [hF];exact dropL_no id hi h)
 have HFL:Hid (∀i,i≤l.length→(F i).length≤i):=Hd (fun i hi=>by
  rw [hF]
  have:=dropL_len id (l.take i)
  rw [List.length_take] at this
  dsimp only
  omega)
 have HF0:Hid (F 0=[]):=Hd (by rw [hF];rfl)
 have HFE:Hid (dropL id l=F l.length):=Hd (by subst hF;simp only [List.take_length])
 generalize dropL id l=R at *
 clear hF hk
 have uu0:Up w (w.alloc (.cells #[] 60)):=(Up.refl w).alloc _
 have zz0:(w.alloc (.cells #[] 60)).heap.size=w.heap.size+1:=by simp
 go_enter Tryz.func39,Tryz.ntmps39
 go_wp2_with fail
 generalize (w.alloc (.cells #[] 60))=W1 at uu0 zz0 ⊢
 have zz1:w.heap.size+1≤W1.heap.size:=Nat.le_of_eq zz0.symm
 replace zz0:W1.heap.size≤w.heap.size+1:=Nat.le_of_eq zz0
 go_loopw [4,5] (fun o iv wr=>∃(i:Nat) (D:Option Addr) (d:Nat) (bl:List Nat),i≤l.length∧iv=.int .i64 i∧o=.slice D (F i).length d∧SO (shKept g w shSlot) wr (w.heap.size+1) wr.heap.size D d (F i) bl∧bl.Nodup∧Up W1 wr) (fun _ iv _=>l.length-(intOf iv).toNat)
 case atStart=>exact ⟨0,_,0,[],Nat.zero_le _,rfl,by rw [HF0.out];rfl,by rw [HF0.out];exact ⟨Nat.le_refl _,Nat.zero_le _,.inl ⟨rfl,rfl,rfl⟩⟩,List.nodup_nil,Up.refl _⟩
 case round =>
  obtain ⟨i,D,d,bl,hi,rfl,rfl,so,nd,hu⟩:=hrel
  have uw:=uu0.trans hu
  have kgr:=kg.up uw
  have gg1:wr.cell? ⟨g,1,none⟩=some (.slice A l.length c):=kgr.cell 1
  have hin:=so.in_ (good_Kept good_Slot)
  have hlo:w.heap.size+1≤wr.heap.size:=by have:=hu.size;omega
  have hli:=HFL.out i hi
  obtain ⟨X,hX⟩:∃q,q=F i:=⟨_,rfl⟩
  have HX:=Hd hX
  rw [←hX] at so hli ⊢
  clear hX
  by_cases hlt:i<l.length
  ·have hfy:=HFY.out i hlt
   have hfn:=HFN.out i hlt
   obtain ⟨ga,oa,cs,hA,hgne,hga,hcs,hcr⟩:=HK.out.at_ hlt
   obtain ⟨B1,e1,B2,e2,B3,e3,hcse,hia,_,_,_⟩:=openSlot (hcr w (Only.refl _ _))
   subst hcse hA
   have H5:=Hd (⟨hcs.2 0 (by decide),hcs.2 1 (by decide),hcs.2 2 (by decide),hcs.2 3 (by decide),hcs.2 4 (by decide)⟩:w.cell? ⟨ga,oa+i*5,none⟩=some (.int .i64 l[i].1)∧w.cell? ⟨ga,oa+i*5+1,none⟩=some (.bool l[i].2.1)∧w.cell? ⟨ga,oa+i*5+2,none⟩=some (.slice B1 l[i].2.2.1.length e1)∧w.cell? ⟨ga,oa+i*5+3,none⟩=some (.slice B2 l[i].2.2.2.1.length e2)∧w.cell? ⟨ga,oa+i*5+4,none⟩=some (.slice B3 l[i].2.2.2.2.length e3))
   have HA:=Hd hcr
   obtain ⟨y,hy⟩:∃y,y=l[i]:=⟨_,rfl⟩
   rw [←hy,←HX.out] at hfy
   rw [←hy,←HX.out] at hfn
   rw [←hy] at H5 HA hia
   have HFY2:=Hd hfy
   have HFN2:=Hd hfn
   clear hy hcs hcr gg1 hfy hfn
   have gg1_wr:wr.cell? ⟨g,1,none⟩=some (.slice (some ⟨ga,oa,none⟩) l.length c):=(kg.up uw).cell 1
   have f_wr:=row5 uw H5.out
   obtain ⟨f0_wr,f1_wr,f2_wr,f3_wr,f4_wr⟩:=f_wr
   by_cases d1':y.1=id
   ·have HN:=Hd (HFN2.out d1')
    have hne:(y.1 != id)=false:=by simp [d1']
    clear d1'
    go_wp2_with fail
    go_roundw
    case rel=>exact ⟨i+1,D,d,bl,by omega,by go_num,by rw [HN.out],by rw [HN.out];exact so,nd,hu⟩
    case measure=>simp [intOf];omega
   ·have HN:=Hd (HFY2.out d1')
    have hne:(y.1 != id)=true:=by simp [d1']
    clear d1'
    go_wp2_with (first
     | (at_builtin
        refine wpList_appSlot rfl _ _ rfl (g:=g) (w0:=w) (lo:=w.heap.size+1) (X:=X) (bl:=bl) (y:=y) (cs:=[.int .i64 y.1,.bool y.2.1,.slice B1 y.2.2.1.length e1,.slice B2 y.2.2.2.1.length e2,.slice B3 y.2.2.2.2.length e3]) rfl (by first | rfl | simp) rfl rfl so nd hlo (by omega) HA.out ?_
        intro Db db blb wb sob ndb onb
        have uWb:Up W1 wb:=Up.only (hu.alloc _) onb (fun q hq=>by have:=(hin q hq).1;omega)))
    go_roundw
    case rel=>exact ⟨i+1,Db,db,blb,by omega,by go_num,by rw [HN.out];first | rfl | simp,by rw [HN.out];exact sob,ndb,uWb⟩
    case measure=>simp [intOf];omega
  ·obtain rfl:i=l.length:=by omega
   clear hlt
   have HR:=Hd (show R=X by rw [HFE.out,←HX.out])
   have gfr1:=kgr.frozen 1
   go_wp2_with fail
   refine bodyPost_end (v:=.tuple #[]) (by simp [results,Tryz.results39,go_sem]) rfl ?_
   have hon:=setCell_only (g:=g) (i:=1) uw (.slice D X.length d)
   have hgba:g∉bl:=fun hq=>by have:=(hin g hq).1;omega
   refine ⟨rfl,⟨D,d,?_,?_,hroot⟩,hon⟩
   ·rw [HR.out]
    exact kgr.set 1 _
   ·rw [HR.out]
    exact (RowK.of_kept good_Slot so (only_up uw) hgba).go good_Slot (setCell_only (Up.refl wr) _)
end Go.Proofs.YtojmcmghmnfjeaaGreatDoor
