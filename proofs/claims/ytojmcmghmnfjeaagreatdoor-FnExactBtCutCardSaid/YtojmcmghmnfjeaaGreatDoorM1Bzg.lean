/-
 Parts of the proof.
-/
import Derived.Test.YtojmcmghmnfjeaaGreatDoorM1Bv
set_option maxHeartbeats 16000000
set_option maxRecDepth 100000
namespace Go.Proofs.YtojmcmghmnfjeaaGreatDoor
open Go.RowKit
set_option linter.unusedVariables false
set_option linter.unusedSimpArgs false
theorem cinfo_I64d:(Tryz.prog.info? 2).map (fun i=>(i.zero,i.size,i.bytes))=some (some (.int .i64 0),1,8):=by kernel_rfl
def DownN (x:TBtree) (lo wb:Nat) (A0:Option Addr) (c0 n:Nat):Prop :=
 ∀ (id F:Int) (far:Nat) (low high:ByteArray) (s:TWalk) (M:Option Addr) (cM:Nat) (bl:List Nat) (w:World),I64 id→Hid (F=(far:Int))→DownR w lo wb A0 c0 x s M cM bl→n+far=65→1≤far →
  Calls Tryz.prog 29 #[.pointer (some ⟨wb,0,none⟩),.int .i64 id,.int .i64 F,.string low,.string high] w (DownE (walkB x n id far low high s) lo wb A0 c0 x s bl w)
theorem downB_in {x:TBtree} {n:Nat} {id:Int} {far:Nat} {low high:ByteArray} {s:TWalk} {p:TPage} (hp:pgAt x id=some p) (hc:s.1.contains id=false) :
 walkB x (n+1) id far low high s=if p.2.1.any (badKey low high)=true then none
  else if far≠1∧fillOf p<3 then none
  else if p.1=true then leafW id far s
  else kidsTo (fun k t=>walkB x n (p.2.2.2.getD k 0) (far+1) (lowK p low k) (highK p high k) t) p.2.2.2.length (s.1++[id],s.2):=by
 rw [walkB,hp]
 dsimp only
 rw [if_neg (by rw [hc];decide)]
theorem DownE.mk {r:Option TWalk} {b:Bool} {lo wb:Nat} {A0:Option Addr} {c0:Nat} {x:TBtree} {s:TWalk} {bl:List Nat} {w w':World} (h1:Hid (r.isSome=b)) (h2:Only (wb::bl) w w') (h3:∀t,r=some t→∃M cM bl',DownR w' lo wb A0 c0 x t M cM bl'∧(∀y∈bl',y∈bl∨w.heap.size≤y)):DownE r lo wb A0 c0 x s bl w (.returned (.bool b)) w':=⟨by rw [h1.out],h2,h3⟩
theorem DownE.no {lo wb:Nat} {A0:Option Addr} {c0:Nat} {x:TBtree} {s:TWalk} {bl:List Nat} {w w':World} {e:Ending} (h:DownE none lo wb A0 c0 x s bl w e w'):e=.returned (.bool false)∧Only (wb::bl) w w':=⟨h.1,h.2.1⟩
theorem DownE.yes {t:TWalk} {lo wb:Nat} {A0:Option Addr} {c0:Nat} {x:TBtree} {s:TWalk} {bl:List Nat} {w w':World} {e:Ending} (h:DownE (some t) lo wb A0 c0 x s bl w e w'):e=.returned (.bool true)∧Only (wb::bl) w w'∧∃M cM bl',DownR w' lo wb A0 c0 x t M cM bl'∧(∀y∈bl',y∈bl∨w.heap.size≤y):=⟨h.1,h.2.1,h.2.2 t rfl⟩
theorem SO.butD {α:Type} {s:Sh α} (hg:Good s) {w w':World} {lo g:Nat} {A:Option Addr} {c:Nat} {xs:List α} {bl:List Nat} (h:SO s w lo w.heap.size A c xs bl) (b:But g w w') (hn:g∉bl):SO s w' lo w'.heap.size A c xs bl:=by
 rw [b.size]
 exact h.keep hg (fun x hx=>b.block x (fun e=>hn (e▸hx)))
theorem DownR.depth {w:World} {lo wb:Nat} {A0:Option Addr} {c0:Nat} {x:TBtree} {s:TWalk} {M:Option Addr} {cM:Nat} {bl:List Nat} {far:Nat} {F:Int} (h:DownR w lo wb A0 c0 x s M cM bl) (hF:Hid (F=(far:Int))) (hf:1≤far):DownR (w.setCell ⟨wb,3,none⟩ (.int .i64 F)) lo wb A0 c0 x (s.1,some far) M cM bl:=by
 have b:=But.set w wb 3 (.int .i64 F)
 refine ⟨SR.keep good_Slot h.sl (fun y _ h2=>b.block y (by have:=h.h1;omega)),h.h1,?_,h.so.butD good_I b h.hb,h.nd,h.hb,h.ok,fun d hd=>by cases hd;exact hf⟩
 have:=h.kw.set 3 (.int .i64 F)
 rw [hF.out] at this ⊢
 exact this
theorem DownR.added {w w9:World} {lo wb:Nat} {A0:Option Addr} {c0:Nat} {x:TBtree} {s:TWalk} {M:Option Addr} {cM:Nat} {bl:List Nat} {id:Int} {p:TPage} {D:Option Addr} {d:Nat} {bl':List Nat} (h:DownR w lo wb A0 c0 x s M cM bl) (hp:pgAt x id=some p) (hc:s.1.contains id=false)
 (so:SO shI w9 lo w9.heap.size D d (s.1++[id]) bl') (nd:bl'.Nodup) (mem:∀y∈bl',y∈bl∨w.heap.size≤y) (on:Only bl w w9) {V:Value} (hV:V=.slice D (s.1++[id]).length d) :
 DownR (w9.setCell ⟨wb,2,none⟩ V) lo wb A0 c0 x (s.1++[id],s.2) D d bl':=by
 have b:=But.set w9 wb 2 V
 have hbn:wb∉bl':=fun hm=>by
  rcases mem _ hm with h1 | h1
  ·exact h.hb h1
  ·have:=h.kw.lt;omega
 refine ⟨SR.keep good_Slot (SR.keep good_Slot h.sl (fun y _ h2=>on.block y (by have:=h.h1;have:=h.kw.lt;omega) (fun hm=>by have:=(h.so.in_ good_I y hm).1;omega))) (fun y _ h2=>b.block y (by have:=h.h1;omega)),h.h1,?_,so.butD good_I b hbn,nd,hbn,metOk_snoc h.ok hp hc,h.dk⟩
 have:=(h.kw.only on h.hb).set 2 V
 rw [hV] at this ⊢
 exact this
theorem kid_of_pageD {p:TPage} (h:pageB p=true) (hl:p.1=false):p.2.2.2.length≤6∧(∀k (hk:k<p.2.2.2.length),1≤p.2.2.2[k]∧p.2.2.2[k]≤64)∧2≤p.2.2.2.length:=by
 unfold pageB at h
 simp only [Bool.and_eq_true] at h
 have h2:=h.2
 rw [if_neg (by rw [hl];decide)] at h2
 simp only [forkB,Bool.and_eq_true] at h2
 have h3:=inB_t.1 h2.1.1.1
 refine ⟨by omega,fun k hk=>?_,by omega⟩
 cases hb:inB p.2.2.2[k] 1 64
 ·rw [kid_t hk hb] at h2;exact absurd h2.2 (by decide)
 ·exact inB_t.1 hb
theorem getD_in {α:Type} {l:List α} {k:Nat} (h:k<l.length) (d:α):l.getD k d=l[k]:=by simp [List.getD,List.getElem?_eq_getElem h]
theorem page_keysP {p:TPage} (h:pageB p=true):KeysP p.2.1:=by
 unfold pageB at h
 simp only [Bool.and_eq_true] at h
 exact of_decide_eq_true h.1
theorem down_in {x:TBtree} {lo wb:Nat} {A0:Option Addr} {c0 n:Nat} (hs:SlotsP x.2) (hr:I64 x.1) (IH:DownN x lo wb A0 c0 n) {id F:Int} {far:Nat} {low high:ByteArray} {s:TWalk} {M:Option Addr} {cM:Nat} {bl:List Nat} {w:World} {p:TPage} (hid:I64 id) (hF:Hid (F=(far:Int))) (R:DownR w lo wb A0 c0 x s M cM bl) (hf:n+1+far=65) (hf1:1≤far)
 (hp:pgAt x id=some p) (hc:s.1.contains id=false) :
 Calls Tryz.prog 29 #[.pointer (some ⟨wb,0,none⟩),.int .i64 id,.int .i64 F,.string low,.string high] w (DownE (walkB x (n+1) id far low high s) lo wb A0 c0 x s bl w):=by
 obtain ⟨i0,hi0,hz0,hz1,hz2⟩:=info_parts cinfo_I64d
 have HW:=Hd (downB_in (n:=n) (far:=far) (low:=low) (high:=high) hp hc)
 generalize walkB x (n+1) id far low high s=r at HW ⊢
 have hpb:=pgAt_ok hs hp
 have sw:SRW shSlot w A0 c0 x.2:=SR.wide good_Slot R.sl (Nat.le_refl _) (by have:=R.kw.lt;have:=R.h1;omega)
 have ca:=Hd (c_l16At (.agg #[.int .i64 x.1,.slice A0 x.2.length c0]) x id w ⟨_,rfl,mkBtree (x:=x) hr sw⟩)
 have hlen64:=slots_len hs
 have hF0:1≤F∧F≤64:=by have:=hF.out;omega
 have hF64:¬(64:Int)<F:=by omega
 have hmet:=metOk_len R.ok
 have g0:World.cell? _ ⟨wb,0,none⟩=some (.int .i64 x.1):=R.kw.cell 0
 have g1:World.cell? _ ⟨wb,1,none⟩=some (.slice A0 x.2.length c0):=R.kw.cell 1
 go_enter Tryz.func29,Tryz.ntmps29
 go_wp2_with fail
 refine ca.out.mono ?_
 rintro e w1 ⟨m,rfl,u1,hm⟩
 rcases hm with ⟨rfl,hm⟩ | ⟨i,hi,rfl,hm⟩
 ·exact absurd (pgAt_none hm) (by rw [hp];simp)
 have hpe:p=x.2[i].2:=by
  have:=pgAt_at hs hi
  rw [hm,hp] at this
  injection this
 have R1:=R.up u1
 have sm:SRW shI w1 M cM s.1:=SR.of_own good_I R1.so
 have ch:=Hd (c_l00Has s.1 M cM id w1 sm)
 rw [hc] at ch
 have g2:World.cell? _ ⟨wb,2,none⟩=some (.slice M s.1.length cM):=R1.kw.cell 2
 have hin:¬(i:Int)<0:=by omega
 clear g0 g1
 go_wp2_with fail
 refine ch.out.mono ?_
 rintro e w2 ⟨rfl,rfl⟩
 clear ch ca
 have kq:=Bk.new w1 2 #[.int .i64 id]
 have uq:=(Up.refl w1).alloc (.cells #[.int .i64 id] 2)
 have ho:shI.own (w1.alloc (.cells #[.int .i64 id] 2)) lo (w1.alloc (.cells #[.int .i64 id] 2)).heap.size [.int .i64 id] id []:=⟨⟨rfl,hid.1,hid.2⟩,rfl⟩
 have hx1:(s.1.length+1)*i0.bytes≤140737488355328:=by rw [hz2];omega
 have hx2:s.1.length+1≤maxLen:=by unfold maxLen;omega
 have Rq:=R1.up uq
 have hlo:lo≤(w1.alloc (.cells #[.int .i64 id] 2)).heap.size:=by have:=Rq.kw.lt;have:=Rq.h1;omega
 have R0N:=Hd R
 have hmN:=Hd hm
 have hpeN:=Hd hpe
 have hpN:=Hd hp
 have hcN:=Hd hc
 have hpbN:=Hd hpb
 clear hm hmet R hpe hp hc hpb
 go_upto_region 5 with (first
  | (at_builtin
     refine wpList_app good_I rfl _ _ _ _ 2 rfl i0 _ Tryz.underlying53 hi0 hz0 hz1 (by rfl) (lo:=lo) (xs:=s.1) (ys:=[id]) (bl:=bl) (bs:=[[]]) (news:=[.int .i64 id]) rfl rfl Rq.so (by simpa using Rq.nd) (Src.box (t:=2) Tryz.underlying53 kq (by simp [Value.oneCell']) (by rw [hz1];rfl)) (Rowed.one good_I ho) hlo hx1 hx2 ?_
     intro D d bl' w9 hap
     obtain ⟨so9,nd9,mem9,on9⟩:=hap
     have kw9:=Rq.kw.only on9 Rq.hb
     have gw2:w9.cell? ⟨wb,2,none⟩=some (.slice M s.1.length cM):=kw9.cell 2
     have fw2:=kw9.frozen 2))
 have RA:=Rq.added hpN.out hcN.out so9 nd9 (fun y hy=>by simpa using mem9 y hy) on9 (V:=.slice D (s.1.length+1) d) (by simp)
 have oA:=Hd (((Only.of_up (bl:=wb::bl) (u1.trans uq)).trans (on9.mono (fun y hy=>List.mem_cons_of_mem _ hy))).but (But.set w9 wb 2 (.slice D (s.1.length+1) d)) (List.mem_cons_self ..))
 have memA:=Hd (show ∀y∈bl',y∈bl∨w.heap.size≤y from fun y hy=>by
  rcases mem9 y hy with h | h
  ·exact .inl (by simpa using h)
  ·exact .inr (Nat.le_trans (u1.trans uq).size h))
 clear so9 nd9 mem9 on9 kw9 gw2 fw2 kq uq ho hx1 hx2 Rq hlo R1 sm g2 hin i0 hi0 hz0 hz1 hz2
 generalize w9.setCell ⟨wb,2,none⟩ (.slice D (s.1.length+1) d)=W9 at RA oA ⊢
 have zA:=oA.out.size
 obtain ⟨g,off,A2,c2,A3,c3,A4,c4,hA,_,hgl,hc0,hc1,hc2,hc3,hc4,b0,b2,b3,b4,_⟩:=atSlot RA.sl hi
 rw [←hpeN.out] at hc1 hc2 hc3 hc4 b2 b3 b4
 subst hA
 have ga1:W9.cell? ⟨wb,1,none⟩=some (.slice (some ⟨g,off,none⟩) x.2.length c0):=RA.kw.cell 1
 go_upto_region 6 with fail
 have uP:Up W9 (W9.alloc (.cells #[.bool p.1,.slice A2 p.2.1.length c2,.slice A3 p.2.2.1.length c3,.slice A4 p.2.2.2.length c4] 58)):=(Up.refl _).alloc _
 have kB:=Bk.new W9 58 #[.bool p.1,.slice A2 p.2.1.length c2,.slice A3 p.2.2.1.length c3,.slice A4 p.2.2.2.length c4]
 have zP:(W9.alloc (.cells #[.bool p.1,.slice A2 p.2.1.length c2,.slice A3 p.2.2.1.length c3,.slice A4 p.2.2.2.length c4] 58)).heap.size=W9.heap.size+1:=by simp
 generalize (W9.alloc (.cells #[.bool p.1,.slice A2 p.2.1.length c2,.slice A3 p.2.2.1.length c3,.slice A4 p.2.2.2.length c4] 58))=WP at uP kB zP ⊢
 have RP:=RA.up uP
 have oP:=Hd (oA.out.up uP)
 have hloP:lo≤W9.heap.size:=by have:=RA.kw.lt;have:=RA.h1;omega
 have bk2:=SR.keep good_S b2 (uP.keeps hloP)
 have bk4:=SR.keep good_I b4 (uP.keeps hloP)
 have hbB:W9.heap.size∉bl':=fun hm=>by have:=(RA.so.in_ good_I _ hm).2;omega
 have hwB:W9.heap.size≠wb:=by have:=RA.kw.lt;omega
 have RAso:=Hd (fun y (hy:y∈bl')=>(RA.so.in_ good_I y hy).2)
 clear hc0 hc1 hc2 hc3 hc4 b0 b2 b3 b4 ga1 RA oA
 have gB0:WP.cell? ⟨W9.heap.size,0,none⟩=some (.bool p.1):=kB.cell 0
 have gB1:WP.cell? ⟨W9.heap.size,1,none⟩=some (.slice A2 p.2.1.length c2):=kB.cell 1
 have gB3:WP.cell? ⟨W9.heap.size,3,none⟩=some (.slice A4 p.2.2.2.length c4):=kB.cell 3
 have hKP:=Hd (page_keysP hpbN.out)
 have hln:=bk2.len_le
 go_upto_region 7 with fail
 go_cut [82] (fun t wx=>t=.bool (p.2.1.any (badKey low high))∧WP=wx)
 case first =>
  by_cases hk0:p.2.1.length=0
  ·have hk0i:¬(0:Int)<(p.2.1.length:Int):=by omega
   have HB:=Hd (show p.2.1.any (badKey low high)=false by rw [List.eq_nil_of_length_eq_zero hk0];rfl)
   clear hk0
   go_wp2_with fail
   go_meet
   exact ⟨by rw [HB.out],rfl⟩
  ·have h0:0<p.2.1.length:=by omega
   have h0i:(0:Int)<(p.2.1.length:Int):=by omega
   have HB:=Hd (badKeys_ends hKP.out low high h0)
   obtain ⟨gk,ok,rfl,_,_,hck,_⟩:=bk2.at_S h0
   have hck0:WP.cell? ⟨gk,ok,none⟩=some (.string p.2.1[0]):=by simpa using hck
   clear hck
   have hh:∀b,high.toList.isEmpty=b→decide (high≠⟨#[]⟩)=!b:=fun b h=>by
    subst h
    by_cases e:high=⟨#[]⟩
    ·subst e;simp [ByteArray.toList_eq]
    ·rw [decide_eq_true e]
     cases q:high.toList.isEmpty
     ·rfl
     ·exfalso
      rw [List.isEmpty_iff,ByteArray.toList_eq] at q
      exact e (ByteArray.ext (Array.toList_inj.1 q))
   cases ha:bytesLt p.2.1[0] low
   ·have ha':Op.bytesLess p.2.1[0].toList low.toList=false:=ha
    cases he:high.toList.isEmpty
    ·have hd:=Hd (hh _ he)
     obtain ⟨l,hl⟩:∃l,l=p.2.1.length-1:=⟨_,rfl⟩
     have hll:l<p.2.1.length:=by omega
     have hwl:IntKind.i64.wrap ((p.2.1.length:Int)-1)=(l:Int):=by rw [IntWalk.i64_in _ (by omega)];omega
     obtain ⟨gk',ok',hgo,_,_,hckl,_⟩:=bk2.at_S hll
     injection hgo with hgo
     injection hgo with hg' ho' _
     subst hg' ho'
     have hl0:(0:Int)≤(l:Int):=by omega
     have hl1:(l:Int)<(p.2.1.length:Int):=by omega
     have HBl:=Hd (show p.2.1.any (badKey low high)=!bytesLt p.2.1[l] high by
      rw [HB.out,ha,hd.out]
      simp only [hl,Bool.false_or,Bool.not_false,Bool.true_and])
     clear HB hl hh ha
     cases hb:bytesLt p.2.1[l] high
     ·have hb':Op.bytesLess p.2.1[l].toList high.toList=false:=hb
      have HBf:=Hd (HBl.out.trans (by rw [hb]))
      clear hb HBl
      go_wp2_with fail
      go_meet
      exact ⟨by rw [HBf.out];rfl,rfl⟩
     ·have hb':Op.bytesLess p.2.1[l].toList high.toList=true:=hb
      have HBf:=Hd (HBl.out.trans (by rw [hb]))
      clear hb HBl
      go_wp2_with fail
      go_meet
      exact ⟨by rw [HBf.out];rfl,rfl⟩
    ·have HBf:=Hd (HB.out.trans (by rw [ha,hh _ he];rfl:_=false))
     clear HB hh ha
     go_wp2_with fail
     go_meet
     exact ⟨by rw [HBf.out],rfl⟩
   ·have ha':Op.bytesLess p.2.1[0].toList low.toList=true:=ha
    have HBf:=Hd (HB.out.trans (by rw [ha];rfl:_=true))
    clear HB hh ha
    go_wp2_with fail
    go_meet
    exact ⟨by rw [HBf.out],rfl⟩
 obtain ⟨rfl,rfl⟩:=hcut
 cases hb:p.2.1.any (badKey low high)
 ·have HW1 := Hd (show r=(if far≠1∧fillOf p<3 then none else if p.1=true then leafW id far s else kidsTo (fun k t=>walkB x n (p.2.2.2.getD k 0) (far+1) (lowK p low k) (highK p high k) t) p.2.2.2.length (s.1++[id],s.2)) by rw [HW.out,if_neg (by rw [hb];decide)])
  clear HW hb
  cases hl:p.1
  ·have HW2:=Hd (show r=(if far≠1∧p.2.2.2.length<3 then none else kidsTo (fun k t=>walkB x n (p.2.2.2.getD k 0) (far+1) (lowK p low k) (highK p high k) t) p.2.2.2.length (s.1++[id],s.2)) by
    rw [HW1.out,if_neg (show ¬p.1=true by rw [hl];decide)]
    unfold fillOf
    rw [if_neg (show ¬p.1=true by rw [hl];decide)])
   clear HW1
   rw [hl] at gB0
   have hlN:=Hd hl
   clear hl
   go_upto_region 13 with fail
   go_cut [117] (fun t wx=>t=.bool (decide (far≠1∧p.2.2.2.length<3))∧WP=wx)
   case first =>
    by_cases hf2:far=1
    ·have hF1:¬(1:Int)<F:=by have:=hF.out;omega
     have HQ:=Hd (show decide (far≠1∧p.2.2.2.length<3)=false from decide_eq_false (fun h=>h.1 hf2))
     clear hf2
     go_wp2_with fail
     go_meet
     exact ⟨by rw [HQ.out],rfl⟩
    ·have hF1:(1:Int)<F:=by have:=hF.out;omega
     by_cases hk3:p.2.2.2.length<3
     ·have hk3i:(p.2.2.2.length:Int)<3:=by omega
      have HQ:=Hd (show decide (far≠1∧p.2.2.2.length<3)=true from decide_eq_true ⟨hf2,hk3⟩)
      clear hf2
      go_wp2_with fail
      go_meet
      exact ⟨by rw [HQ.out],rfl⟩
     ·have hk3i:¬(p.2.2.2.length:Int)<3:=by omega
      have HQ:=Hd (show decide (far≠1∧p.2.2.2.length<3)=false from decide_eq_false (fun h=>hk3 h.2))
      clear hf2
      go_wp2_with fail
      go_meet
      exact ⟨by rw [HQ.out],rfl⟩
   obtain ⟨rfl,rfl⟩:=hcut
   by_cases hff:far≠1∧p.2.2.2.length<3
   ·rw [decide_eq_true hff]
    have HR:=Hd (show r=none by rw [HW2.out,if_pos hff])
    clear HW2 hff
    go_wp2_with fail
    go_ret
    exact DownE.mk (Hd (by rw [HR.out];rfl)) oP.out (fun t ht=>by rw [HR.out] at ht;cases ht)
   ·rw [decide_eq_false hff]
    have HW3:=Hd (show r=kidsTo (fun k t=>walkB x n (p.2.2.2.getD k 0) (far+1) (lowK p low k) (highK p high k) t) p.2.2.2.length (s.1++[id],s.2) by rw [HW2.out,if_neg hff])
    clear HW2 hff
    generalize hF':(fun k t=>walkB x n (p.2.2.2.getD k 0) (far+1) (lowK p low k) (highK p high k) t)=G at HW3
    have HG:=Hd (fun k t=>(congrFun (congrFun hF' k) t).symm)
    clear hF'
    have hwD:IntKind.i64.wrap (F+1)=F+1:=IntWalk.i64_in _ (by omega)
    have hkid:=Hd (kid_of_pageD hpbN.out hlN.out)
    have hfl:=fork_lens hpbN.out hlN.out
    have hk6:p.2.2.2.length≤6:=hkid.out.1
    go_wp2_with fail
    go_loopw [14] (fun i wr=>∃(k:Nat) (t:TWalk) (M1:Option Addr) (cM1:Nat) (bl1:List Nat),k≤p.2.2.2.length∧i=.int .i64 k∧Hid (kidsTo G k (s.1++[id],s.2)=some t)∧Hid (DownR wr lo wb (some ⟨g,off,none⟩) c0 x t M1 cM1 bl1)∧Hid (∀y∈bl1,y∈bl'∨WP.heap.size≤y)∧Hid (Only (wb::bl) w wr)∧Hid (Only (wb::bl') WP wr)) (fun i _=>p.2.2.2.length-(intOf i).toNat)
    case atStart=>exact ⟨0,(s.1++[id],s.2),D,d,bl',Nat.zero_le _,rfl,Hd rfl,Hd RP,Hd (fun y hy=>.inl hy),oP,Hd (Only.refl _ _)⟩
    case round =>
     obtain ⟨k,t,M1,cM1,bl1,hk,rfl,HK,RT,MT,OW,OP⟩:=hrel
     have kBr:=kB.only OP.out (show W9.heap.size∉wb::bl' by simp;exact ⟨hwB,hbB⟩)
     have keep:Keeps 0 lo WP wr:=fun y _ h2=>OP.out.block y (by omega) (by
      intro hm
      rcases List.mem_cons.1 hm with h | h
      ·have:=RP.h1;omega
      ·have:=(RP.so.in_ good_I y h).1;omega)
     have q1r:=SR.keep good_S bk2 keep
     have q3r:=SR.keep good_I bk4 keep
     have g1r:wr.cell? ⟨W9.heap.size,1,none⟩=some (.slice A2 p.2.1.length c2):=kBr.cell 1
     have g3r:wr.cell? ⟨W9.heap.size,3,none⟩=some (.slice A4 p.2.2.2.length c4):=kBr.cell 3
     clear gB0 gB1 gB3 keep
     by_cases hlt:k<p.2.2.2.length
     ·obtain ⟨ga,oa,rfl,_,_,hc,hb1,hb2⟩:=q3r.at_I hlt
      have hkc:=hkid.out.2.1 k hlt
      have CALL:=Hd (IH p.2.2.2[k] (F+1) (far+1) (lowK p low k) (highK p high k) t M1 cM1 bl1 wr ⟨by omega,by omega⟩ (Hd (by have:=hF.out;omega)) RT.out (by omega) (by omega))
      have HFk:=Hd (show G k t=walkB x n p.2.2.2[k] (far+1) (lowK p low k) (highK p high k) t by rw [HG.out k t,getD_in hlt])
      generalize walkB x n p.2.2.2[k] (far+1) (lowK p low k) (highK p high k) t=rk at CALL HFk
      by_cases hk0:k=0
      ·subst hk0
       have e1:lowK p low 0=low:=if_neg (by omega)
       rw [e1] at CALL
       clear e1
       have hc':wr.cell? ⟨ga,oa,none⟩=some (.int .i64 p.2.2.2[0]):=by simpa using hc
       clear hc
       have h00:0<p.2.1.length:=by have:=hkid.out.2.2;omega
       have e2:highK p high 0=p.2.1[0]:=by unfold highK;rw [if_pos h00,getD_in h00]
       rw [e2] at CALL
       clear e2
       obtain ⟨gk,ok,rfl,_,_,hck,_⟩:=q1r.at_S h00
       have hck':wr.cell? ⟨gk,ok,none⟩=some (.string p.2.1[0]):=by simpa using hck
       clear hck
       have h00i:(0:Int)<(p.2.1.length:Int):=by omega
       have h00j:(0:Int)<(p.2.2.2.length:Int):=by omega
       go_wp2_with fail
       have hO1:=Hd (show ∀y∈wb::bl1,y∈wb::bl∨w.heap.size≤y from fun y hy=>by
        rcases List.mem_cons.1 hy with h | h
        ·exact .inl (by rw [h];exact List.mem_cons_self ..)
        ·rcases MT.out y h with h2 | h2
         ·rcases memA.out y h2 with h3 | h3
          ·exact .inl (List.mem_cons_of_mem _ h3)
          ·exact .inr h3
         ·exact .inr (by omega))
       have hO2:=Hd (show ∀y∈wb::bl1,y∈wb::bl'∨WP.heap.size≤y from fun y hy=>by
        rcases List.mem_cons.1 hy with h | h
        ·exact .inl (by rw [h];exact List.mem_cons_self ..)
        ·rcases MT.out y h with h2 | h2
         ·exact .inl (List.mem_cons_of_mem _ h2)
         ·exact .inr h2)
       cases rk with
       | none =>
        refine CALL.out.mono ?_
        rintro e w5 h5
        obtain ⟨rfl,on5⟩:=h5.no
        have HR:=Hd (show r=none by rw [HW3.out];exact kidsTo_none (k:=0+1) ((kidsTo_succ HK.out).trans HFk.out) (by omega))
        go_wp2_with fail
        go_ret
        exact DownE.mk (Hd (by rw [HR.out];rfl)) (OW.out.then on5 hO1.out) (fun t ht=>by rw [HR.out] at ht;cases ht)
       | some t' =>
        refine CALL.out.mono ?_
        rintro e w5 h5
        obtain ⟨rfl,on5,M2,cM2,bl2,R5,hb5⟩:=h5.yes
        have HN:=Hd ((kidsTo_succ HK.out).trans HFk.out)
        have hz5:=OP.out.size
        have MT2:=Hd (show ∀y∈bl2,y∈bl'∨WP.heap.size≤y from fun y hy=>by
         rcases hb5 y hy with h | h
         ·exact MT.out y h
         ·exact .inr (by omega))
        clear hb5
        go_wp2_with fail
        go_roundw
        case rel=>exact ⟨0+1,t',M2,cM2,bl2,by omega,by go_num,HN,Hd R5,MT2,Hd (OW.out.then on5 hO1.out),Hd (OP.out.then on5 hO2.out)⟩
        case measure=>simp [intOf];omega
      ·obtain ⟨m,rfl⟩:∃m,k=m+1:=⟨k-1,by omega⟩
       have hm:m<p.2.1.length:=by omega
       have e1:lowK p low (m+1)=p.2.1[m]:=by unfold lowK;rw [if_pos (by omega),Nat.add_sub_cancel,getD_in hm]
       rw [e1] at CALL
       clear e1
       obtain ⟨gk,ok,rfl,_,_,hck,_⟩:=q1r.at_S hm
       have hi0:(0:Int)≤(m:Int)+1:=by omega
       have hi2':(0:Int)<(m:Int)+1:=by omega
       have hi1':(m:Int)+1<(p.2.2.2.length:Int):=by omega
       have hwm:IntKind.i64.wrap (m:Int)=(m:Int):=IntWalk.i64_in _ (by omega)
       have hm0:(0:Int)≤(m:Int):=by omega
       have hm1:(m:Int)<(p.2.1.length:Int):=by omega
       by_cases hkl:m+1<p.2.1.length
       ·have e2:highK p high (m+1)=p.2.1[m+1]:=by unfold highK;rw [if_pos hkl,getD_in hkl]
        rw [e2] at CALL
        clear e2
        obtain ⟨gk',ok',hgo,_,_,hck2,_⟩:=q1r.at_S hkl
        injection hgo with hgo
        injection hgo with hg' ho' _
        subst hg' ho'
        have hkli:(m:Int)+1<(p.2.1.length:Int):=by omega
        go_wp2_with fail
        have hO1:=Hd (show ∀y∈wb::bl1,y∈wb::bl∨w.heap.size≤y from fun y hy=>by
         rcases List.mem_cons.1 hy with h | h
         ·exact .inl (by rw [h];exact List.mem_cons_self ..)
         ·rcases MT.out y h with h2 | h2
          ·rcases memA.out y h2 with h3 | h3
           ·exact .inl (List.mem_cons_of_mem _ h3)
           ·exact .inr h3
          ·exact .inr (by omega))
        have hO2:=Hd (show ∀y∈wb::bl1,y∈wb::bl'∨WP.heap.size≤y from fun y hy=>by
         rcases List.mem_cons.1 hy with h | h
         ·exact .inl (by rw [h];exact List.mem_cons_self ..)
         ·rcases MT.out y h with h2 | h2
          ·exact .inl (List.mem_cons_of_mem _ h2)
          ·exact .inr h2)
        cases rk with
        | none =>
         refine CALL.out.mono ?_
         rintro e w5 h5
         obtain ⟨rfl,on5⟩:=h5.no
         have HR:=Hd (show r=none by rw [HW3.out];exact kidsTo_none (k:=(m+1)+1) ((kidsTo_succ HK.out).trans HFk.out) (by omega))
         go_wp2_with fail
         go_ret
         exact DownE.mk (Hd (by rw [HR.out];rfl)) (OW.out.then on5 hO1.out) (fun t ht=>by rw [HR.out] at ht;cases ht)
        | some t' =>
         refine CALL.out.mono ?_
         rintro e w5 h5
         obtain ⟨rfl,on5,M2,cM2,bl2,R5,hb5⟩:=h5.yes
         have HN:=Hd ((kidsTo_succ HK.out).trans HFk.out)
         have hz5:=OP.out.size
         have MT2:=Hd (show ∀y∈bl2,y∈bl'∨WP.heap.size≤y from fun y hy=>by
          rcases hb5 y hy with h | h
          ·exact MT.out y h
          ·exact .inr (by omega))
         clear hb5
         go_wp2_with fail
         go_roundw
         case rel=>exact ⟨(m+1)+1,t',M2,cM2,bl2,by omega,by go_num,HN,Hd R5,MT2,Hd (OW.out.then on5 hO1.out),Hd (OP.out.then on5 hO2.out)⟩
         case measure=>simp [intOf];omega
       ·have e2:highK p high (m+1)=high:=if_neg hkl
        rw [e2] at CALL
        clear e2
        have hkli:¬(m:Int)+1<(p.2.1.length:Int):=by omega
        go_wp2_with fail
        have hO1:=Hd (show ∀y∈wb::bl1,y∈wb::bl∨w.heap.size≤y from fun y hy=>by
         rcases List.mem_cons.1 hy with h | h
         ·exact .inl (by rw [h];exact List.mem_cons_self ..)
         ·rcases MT.out y h with h2 | h2
          ·rcases memA.out y h2 with h3 | h3
           ·exact .inl (List.mem_cons_of_mem _ h3)
           ·exact .inr h3
          ·exact .inr (by omega))
        have hO2:=Hd (show ∀y∈wb::bl1,y∈wb::bl'∨WP.heap.size≤y from fun y hy=>by
         rcases List.mem_cons.1 hy with h | h
         ·exact .inl (by rw [h];exact List.mem_cons_self ..)
         ·rcases MT.out y h with h2 | h2
          ·exact .inl (List.mem_cons_of_mem _ h2)
          ·exact .inr h2)
        cases rk with
        | none =>
         refine CALL.out.mono ?_
         rintro e w5 h5
         obtain ⟨rfl,on5⟩:=h5.no
         have HR:=Hd (show r=none by rw [HW3.out];exact kidsTo_none (k:=(m+1)+1) ((kidsTo_succ HK.out).trans HFk.out) (by omega))
         go_wp2_with fail
         go_ret
         exact DownE.mk (Hd (by rw [HR.out];rfl)) (OW.out.then on5 hO1.out) (fun t ht=>by rw [HR.out] at ht;cases ht)
        | some t' =>
         refine CALL.out.mono ?_
         rintro e w5 h5
         obtain ⟨rfl,on5,M2,cM2,bl2,R5,hb5⟩:=h5.yes
         have HN:=Hd ((kidsTo_succ HK.out).trans HFk.out)
         have hz5:=OP.out.size
         have MT2:=Hd (show ∀y∈bl2,y∈bl'∨WP.heap.size≤y from fun y hy=>by
          rcases hb5 y hy with h | h
          ·exact MT.out y h
          ·exact .inr (by omega))
         clear hb5
         go_wp2_with fail
         go_roundw
         case rel=>exact ⟨(m+1)+1,t',M2,cM2,bl2,by omega,by go_num,HN,Hd R5,MT2,Hd (OW.out.then on5 hO1.out),Hd (OP.out.then on5 hO2.out)⟩
         case measure=>simp [intOf];omega
     ·obtain rfl:k=p.2.2.2.length:=by omega
      have HR:=Hd (show r=some t by rw [HW3.out,HK.out])
      have hend:¬(p.2.2.2.length:Int)<(p.2.2.2.length:Int):=by omega
      go_wp2_with fail
      go_ret
      exact DownE.mk (Hd (by rw [HR.out];rfl)) OW.out (fun t' ht=>by
       rw [HR.out] at ht
       cases ht
       refine ⟨M1,cM1,bl1,RT.out,fun y hy=>?_⟩
       rcases MT.out y hy with h | h
       ·exact memA.out y h
       ·exact .inr (by omega))
  ·have HW2:=Hd (show r=(if far≠1∧p.2.1.length<3 then none else leafW id far s) by
    rw [HW1.out,if_pos (show p.1=true from hl)]
    unfold fillOf
    rw [if_pos (show p.1=true from hl)])
   clear HW1
   rw [hl] at gB0
   clear hl
   have fw3:=RP.kw.frozen 3
   obtain ⟨L,hL⟩:∃L:Int,L=(p.2.1.length:Int):=⟨_,rfl⟩
   cases hd:s.2 with
   | none =>
    have gw3:WP.cell? ⟨wb,3,none⟩=some (.int .i64 0):=by have:=RP.kw.cell 3;rw [show (s.1++[id],s.2).2=none from hd] at this;exact this
    have RE:=Hd (RP.depth hF hf1)
    have bE:=But.set WP wb 3 (.int .i64 F)
    have oE:=Hd (oP.out.but bE (List.mem_cons_self ..))
    have kB':Bk _ _ _ _:=(bE.block _ hwB).trans kB
    have gB1':=kB'.cell 1
    clear bE
    by_cases hff:far≠1∧p.2.1.length<3
    ·have HR:=Hd (show r=none by rw [HW2.out,if_pos hff])
     have hq1:(F==1)=false:=beq_eq_false_iff_ne.2 (by have:=hF.out;have:=hff.1;omega)
     have hq1':¬F=1:=by have:=hF.out;have:=hff.1;omega
     have hq2:¬(3:Int)≤(p.2.1.length:Int):=by have:=hff.2;omega
     clear HW2 hff hd
     go_wp2_with fail
     go_ret
     exact DownE.mk (Hd (by rw [HR.out];rfl)) oE.out (fun t ht=>by rw [HR.out] at ht;cases ht)
    ·have HR:=Hd (show r=some (s.1++[id],some far) by rw [HW2.out,if_neg hff];unfold leafW;rw [hd])
     clear HW2 hd
     by_cases hf2:far=1
     ·have hq1:(F==1)=true:=beq_iff_eq.2 (by have:=hF.out;omega)
      clear hff hf2
      go_wp2_with fail
      go_ret
      exact DownE.mk (Hd (by rw [HR.out];rfl)) oE.out (fun t ht=>by rw [HR.out] at ht;cases ht;exact ⟨_,_,_,RE.out,memA.out⟩)
     ·have hq1:(F==1)=false:=beq_eq_false_iff_ne.2 (by have:=hF.out;omega)
      have hq1':¬F=1:=by have:=hF.out;omega
      have hq2:(3:Int)≤(p.2.1.length:Int):=by
       have:¬p.2.1.length<3:=fun h=>hff ⟨hf2,h⟩
       omega
      clear hff hf2
      go_wp2_with fail
      go_ret
      exact DownE.mk (Hd (by rw [HR.out];rfl)) oE.out (fun t ht=>by rw [HR.out] at ht;cases ht;exact ⟨_,_,_,RE.out,memA.out⟩)
   | some e =>
    obtain ⟨e',he'⟩:∃e':Int,e'=(e:Int):=⟨_,rfl⟩
    have gw3:WP.cell? ⟨wb,3,none⟩=some (.int .i64 e'):=by have:=RP.kw.cell 3;rw [show (s.1++[id],s.2).2=some e from hd] at this;rw [he'];exact this
    have he1:1≤e:=RP.dk e hd
    have hz1:(e'==0)=false:=beq_eq_false_iff_ne.2 (by omega)
    have hz2:¬e'=0:=by omega
    have RE:Hid (DownR WP lo wb (some ⟨g,off,none⟩) c0 x (s.1++[id],some e) D d bl'):=Hd (by have:=RP;rw [hd] at this;exact this)
    have HL:=Hd (show r=(if far≠1∧p.2.1.length<3 then none else if e=far then some (s.1++[id],some e) else none) by rw [HW2.out];unfold leafW;rw [hd])
    clear HW2 hd
    by_cases hef:e=far
    ·have hq3:(e'==F)=true:=beq_iff_eq.2 (by have:=hF.out;omega)
     by_cases hff:far≠1∧p.2.1.length<3
     ·have HR:=Hd (show r=none by rw [HL.out,if_pos hff])
      have hq1:(F==1)=false:=beq_eq_false_iff_ne.2 (by have:=hF.out;have:=hff.1;omega)
      have hq1':¬F=1:=by have:=hF.out;have:=hff.1;omega
      have hq2:¬(3:Int)≤(p.2.1.length:Int):=by have:=hff.2;omega
      clear HL hff hef he'
      go_wp2_with fail
      go_ret
      exact DownE.mk (Hd (by rw [HR.out];rfl)) oP.out (fun t ht=>by rw [HR.out] at ht;cases ht)
     ·have HR:=Hd (show r=some (s.1++[id],some e) by rw [HL.out,if_neg hff,if_pos hef])
      by_cases hf2:far=1
      ·have hq1:(F==1)=true:=beq_iff_eq.2 (by have:=hF.out;omega)
       clear HL hff hef he' hf2
       go_wp2_with fail
       go_ret
       exact DownE.mk (Hd (by rw [HR.out];rfl)) oP.out (fun t ht=>by rw [HR.out] at ht;cases ht;exact ⟨_,_,_,RE.out,memA.out⟩)
      ·have hq1:(F==1)=false:=beq_eq_false_iff_ne.2 (by have:=hF.out;omega)
       have hq1':¬F=1:=by have:=hF.out;omega
       have hq2:(3:Int)≤(p.2.1.length:Int):=by
        have:¬p.2.1.length<3:=fun h=>hff ⟨hf2,h⟩
        omega
       clear HL hff hef he' hf2
       go_wp2_with fail
       go_ret
       exact DownE.mk (Hd (by rw [HR.out];rfl)) oP.out (fun t ht=>by rw [HR.out] at ht;cases ht;exact ⟨_,_,_,RE.out,memA.out⟩)
    ·have hq3:(e'==F)=false:=beq_eq_false_iff_ne.2 (by have:=hF.out;omega)
     have hq3':¬e'=F:=by have:=hF.out;omega
     have HR:=Hd (show r=none by rw [HL.out,if_neg hef];split <;> rfl)
     clear HL hef he'
     go_wp2_with fail
     go_ret
     exact DownE.mk (Hd (by rw [HR.out];rfl)) oP.out (fun t ht=>by rw [HR.out] at ht;cases ht)
 ·have HR:=Hd (show r=none by rw [HW.out,if_pos hb])
  clear HW hb
  go_wp2_with fail
  go_ret
  exact DownE.mk (Hd (by rw [HR.out];rfl)) oP.out (fun t ht=>by rw [HR.out] at ht;cases ht)
end Go.Proofs.YtojmcmghmnfjeaaGreatDoor
namespace Go.Proofs.YtojmcmghmnfjeaaGreatDoor
open Go.RowKit
set_option linter.unusedVariables false
theorem walkB_out {x:TBtree} {n:Nat} {id:Int} {far:Nat} {low high:ByteArray} {s:TWalk} (h:pgAt x id=none∨s.1.contains id=true):walkB x n id far low high s=none:=by
 cases n with
 | zero=>rfl
 | succ n =>
  unfold walkB
  cases hp:pgAt x id with
  | none=>rfl
  | some p =>
   dsimp only
   rcases h with h | h
   ·rw [hp] at h;cases h
   ·rw [if_pos h]
theorem c_walk {x:TBtree} (hs:SlotsP x.2) {lo hi tb sb wb:Nat}:∀n,WalkN x lo hi tb sb wb n
 | 0=>fun id D far low high s w hid hD R hl hfar hf=>by
  have ho:pgAt x id=none∨s.1.contains id=true:=by
   cases hp:pgAt x id with
   | none=>exact .inl rfl
   | some p=>exact .inr (metOk_full R.ok (by omega) hp)
  rw [walkB_out ho]
  exact walk_out hid R ho
 | n+1=>fun id D far low high s w hid hD R hl hfar hf=>by
  cases hp:pgAt x id with
  | none=>rw [walkB_out (.inl hp)];exact walk_out hid R (.inl hp)
  | some p =>
   cases hc:s.1.contains id
   ·exact walkPage hs (c_walk hs n) hid hD R hl hfar hf hp hc
   ·rw [walkB_out (.inr hc)];exact walk_out hid R (.inr hc)
theorem downB_out {x:TBtree} {n:Nat} {id:Int} {far:Nat} {low high:ByteArray} {s:TWalk} (h:pgAt x id=none∨s.1.contains id=true∨n=0):walkB x n id far low high s=none:=by
 cases n with
 | zero=>rfl
 | succ n =>
  unfold walkB
  cases hp:pgAt x id with
  | none=>rfl
  | some p =>
   dsimp only
   rcases h with h | h | h
   ·rw [hp] at h;cases h
   ·rw [if_pos h]
   ·cases h
theorem c_l16Down {x:TBtree} (hs:SlotsP x.2) (hr:I64 x.1) {lo wb:Nat} {A0:Option Addr} {c0:Nat}:∀n,DownN x lo wb A0 c0 n
 | 0=>fun id F far low high s M cM bl w hid hF R hf hf1=>by
  rw [downB_out (.inr (.inr rfl)),hF.out]
  exact down_out hs hr hid R (by omega) (.inr (.inr (by omega)))
 | n+1=>fun id F far low high s M cM bl w hid hF R hf hf1=>by
  cases hp:pgAt x id with
  | none=>rw [downB_out (.inl hp),hF.out];exact down_out hs hr hid R (by omega) (.inl hp)
  | some p =>
   cases hc:s.1.contains id
   ·exact down_in hs hr (c_l16Down hs hr n) hid hF R hf hf1 hp hc
   ·rw [downB_out (.inr (.inl hc)),hF.out];exact down_out hs hr hid R (by omega) (.inr (.inl hc))
end Go.Proofs.YtojmcmghmnfjeaaGreatDoor
