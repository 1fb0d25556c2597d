/-
 Parts of the proof.
-/
import Derived.Test.YtojmcmghmnfjeaaGreatDoorM1Bzg
set_option maxHeartbeats 16000000
set_option maxRecDepth 100000
namespace Go.Proofs.YtojmcmghmnfjeaaGreatDoor
open Go.RowKit
set_option linter.unusedVariables false
set_option linter.unusedSimpArgs false
theorem btreeB_f {x:TBtree} (h:¬SlotsP x.2):btreeB x=false:=by unfold btreeB;rw [slotsB_f h];rfl
theorem btreeB_ok {x:TBtree} (h:SlotsP x.2):btreeB x=(match walkTop x with | none=>false | some s=>decide (s.1.length=x.2.length)):=by unfold btreeB;rw [slotsB_t h];rfl
theorem c_implBtreeOk (v:Value) (y:TBtree) (w:World) (h:AV shBtree w v y) (hn:shBtree.sz y≤1048576) (htab:Tab w) (hm:MaxL w) :
 Calls Tryz.prog 17 #[v] w (RetV (.bool (btreeB y)) w):=by
 obtain ⟨cs,rfl,h⟩:=h
 obtain ⟨r,x⟩:=y
 have ho:=openBtree h
 dsimp only at ho
 obtain ⟨A0,c0,rfl,br,b00⟩:=ho
 clear h
 have hlen:=b00.len_le
 have hnx:(shL shSlot).sz x≤1048576:=by
  have e:shBtree.sz (r,x)=0+(shL shSlot).sz x:=rfl
  omega
 have hnB:=Hd hn
 have HSZ:=Hd (fun (i:Nat) (hi:i<x.length)=>sz_le shSlot x hi hnx)
 clear hn hnx
 have HF:=Hd (fun (hh:¬SlotsP x)=>btreeB_f (x:=(r,x)) hh)
 have HLN:=Hd (fun (hh:SlotsP x)=>slots_len hh)
 show Calls _ _ _ _ (RetV (.bool (btreeB (r,x))) w)
 have HB:=Hd (fun (hh:SlotsP x)=>btreeB_ok (x:=(r,x)) hh)
 generalize btreeB (r,x)=R at HF HB ⊢
 have kT0:=Bk.new w 28 #[.int .i64 r,.slice A0 x.length c0]
 have uu0:Up w (w.alloc (.cells #[.int .i64 r,.slice A0 x.length c0] 28)):=(Up.refl w).alloc _
 have gT:(w.alloc (.cells #[.int .i64 r,.slice A0 x.length c0] 28)).cell? ⟨w.heap.size,1,none⟩=some (.slice A0 x.length c0):=kT0.cell 1
 go_enter Tryz.func17,Tryz.ntmps17
 go_wp2_with fail
 clear gT
 go_loopw [9] (fun i wr=>∃k:Nat,k≤x.length∧i=.int .i64 k∧Hid (SlotsTo x k)∧Up (w.alloc (.cells #[.int .i64 r,.slice A0 x.length c0] 28)) wr) (fun i _=>x.length-(intOf i).toNat)
 case atStart=>exact ⟨0,Nat.zero_le _,rfl,Hd (fun i h hi=>absurd hi (by omega)),Up.refl _⟩
 case round =>
  obtain ⟨k,hk,rfl,HA,hu⟩:=hrel
  have kT:=kT0.up hu
  have gT:wr.cell? ⟨w.heap.size,1,none⟩=some (.slice A0 x.length c0):=kT.cell 1
  by_cases hlt:k<x.length
  ·obtain ⟨g,off,A2,c2,A3,c3,A4,c4,hA,_,hgl,hc0,hc1,hc2,hc3,hc4,b0,b2,b3,b4,_⟩:=atSlot (b00.up good_Slot (uu0.trans hu)) hlt
   have pv:∀W,Up wr W→AV shPage W (.agg #[.bool x[k].2.1,.slice A2 x[k].2.2.1.length c2,.slice A3 x[k].2.2.2.1.length c3,.slice A4 x[k].2.2.2.2.length c4]) x[k].2:=fun W hW=>⟨_,rfl,mkPage (x:=x[k].2) (b2.up good_S hW) (b3.up good_S hW) (b4.up good_I hW)⟩
   have cp:=fun W (hW:Up wr W)=>c_PageOk (.agg #[.bool x[k].2.1,.slice A2 x[k].2.2.1.length c2,.slice A3 x[k].2.2.2.1.length c3,.slice A4 x[k].2.2.2.2.length c4]) x[k].2 W (pv W hW) (page_sz (slot_sz (HSZ.out k hlt))) (tab_up htab ((uu0.trans hu).trans hW)) (maxL_up hm ((uu0.trans hu).trans hW))
   have kb:=Bk.new wr 60 #[.int .i64 x[k].1,.bool x[k].2.1,.slice A2 x[k].2.2.1.length c2,.slice A3 x[k].2.2.2.1.length c3,.slice A4 x[k].2.2.2.2.length c4]
   have uA:Up wr (wr.alloc (.cells #[.int .i64 x[k].1,.bool x[k].2.1,.slice A2 x[k].2.2.1.length c2,.slice A3 x[k].2.2.2.1.length c3,.slice A4 x[k].2.2.2.2.length c4] 60)):=(Up.refl wr).alloc _
   subst hA
   cases hin:inB x[k].1 1 64
   ·have HE:=Hd (HF.out fun hh=>by have:=(hh k hlt).1;rw [hin] at this;cases this)
    have CP:=Hd cp
    clear cp pv HF HLN
    go_wp2_with fail
    generalize hW:(wr.alloc (.cells #[.int .i64 x[k].1,.bool x[k].2.1,.slice A2 x[k].2.2.1.length c2,.slice A3 x[k].2.2.2.1.length c3,.slice A4 x[k].2.2.2.2.length c4] 60))=W0 at *
    have t0:=fun t:UpT W0=>cell_up t (kb.cell 0:W0.cell? ⟨wr.heap.size,0,none⟩=some (.int .i64 x[k].1))
    have t1:=fun t:UpT W0=>cell_up t (kb.cell 1:W0.cell? ⟨wr.heap.size,1,none⟩=some (.bool x[k].2.1))
    have t2:=fun t:UpT W0=>cell_up t (kb.cell 2:W0.cell? ⟨wr.heap.size,2,none⟩=some (.slice A2 x[k].2.2.1.length c2))
    have t3:=fun t:UpT W0=>cell_up t (kb.cell 3:W0.cell? ⟨wr.heap.size,3,none⟩=some (.slice A3 x[k].2.2.2.1.length c3))
    have t4:=fun t:UpT W0=>cell_up t (kb.cell 4:W0.cell? ⟨wr.heap.size,4,none⟩=some (.slice A4 x[k].2.2.2.2.length c4))
    have t5:=fun t:UpT W0=>cell_up t ((kT.up uA).cell 1:W0.cell? ⟨w.heap.size,1,none⟩=some (.slice (some ⟨g,off,none⟩) x.length c0))
    clear hW
    refine wp_region_up (by kernel_rfl) (by kernel_rfl) ?_
    repeat (go_big_quiet_step ((first | (go_at_call 41;exact up_bools (within_any _ _ _ _) hin (UpT.up _)) | (go_at_call 42;exact up_call (CP.out _ (uA.trans (UpT.up _))) (UpT.up _)))))
    refine wpQuiet_nil ?_
    rintro _ ⟨⟨w1,u1⟩,rfl⟩
    go_wp2_with fail
    refine bodyPost_ret (v:=.bool false) (by simp [results,Tryz.results17,go_sem]) rfl ?_
    exact ⟨by rw [HE.out],((uu0.trans hu).trans uA).trans u1⟩
   ·by_cases hk0:k=0
    ·subst hk0
     have gt0:¬(0:Int)<((0:Nat):Int):=by omega
     simp only [Nat.zero_mul,Nat.add_zero] at hc0 hc1 hc2 hc3 hc4
     cases hpg:pageB x[0].2
     ·have HE:=Hd (HF.out fun hh=>by have:=(hh (0) hlt).2.1;rw [hpg] at this;cases this)
      rw [hpg] at cp
      have CP:=Hd cp
      clear cp pv HF HLN hpg
      go_wp2_with fail
      generalize hW:(wr.alloc (.cells #[.int .i64 x[0].1,.bool x[0].2.1,.slice A2 x[0].2.2.1.length c2,.slice A3 x[0].2.2.2.1.length c3,.slice A4 x[0].2.2.2.2.length c4] 60))=W0 at *
      have t0:=fun t:UpT W0=>cell_up t (kb.cell 0:W0.cell? ⟨wr.heap.size,0,none⟩=some (.int .i64 x[0].1))
      have t1:=fun t:UpT W0=>cell_up t (kb.cell 1:W0.cell? ⟨wr.heap.size,1,none⟩=some (.bool x[0].2.1))
      have t2:=fun t:UpT W0=>cell_up t (kb.cell 2:W0.cell? ⟨wr.heap.size,2,none⟩=some (.slice A2 x[0].2.2.1.length c2))
      have t3:=fun t:UpT W0=>cell_up t (kb.cell 3:W0.cell? ⟨wr.heap.size,3,none⟩=some (.slice A3 x[0].2.2.2.1.length c3))
      have t4:=fun t:UpT W0=>cell_up t (kb.cell 4:W0.cell? ⟨wr.heap.size,4,none⟩=some (.slice A4 x[0].2.2.2.2.length c4))
      have t5:=fun t:UpT W0=>cell_up t ((kT.up uA).cell 1:W0.cell? ⟨w.heap.size,1,none⟩=some (.slice (some ⟨g,off,none⟩) x.length c0))
      clear hW
      refine wp_region_up (by kernel_rfl) (by kernel_rfl) ?_
      repeat (go_big_quiet_step ((first | (go_at_call 41;exact up_bools (within_any _ _ _ _) hin (UpT.up _)) | (go_at_call 42;exact up_call (CP.out _ (uA.trans (UpT.up _))) (UpT.up _)))))
      refine wpQuiet_nil ?_
      rintro _ ⟨⟨w1,u1⟩,rfl⟩
      go_wp2_with fail
      refine bodyPost_ret (v:=.bool false) (by simp [results,Tryz.results17,go_sem]) rfl ?_
      exact ⟨by rw [HE.out],((uu0.trans hu).trans uA).trans u1⟩
     ·have HN:=Hd (slotsTo_one hlt hin hpg)
      rw [hpg] at cp
      have CP:=Hd cp
      clear cp pv HF HLN hpg
      go_wp2_with fail
      generalize hW:(wr.alloc (.cells #[.int .i64 x[0].1,.bool x[0].2.1,.slice A2 x[0].2.2.1.length c2,.slice A3 x[0].2.2.2.1.length c3,.slice A4 x[0].2.2.2.2.length c4] 60))=W0 at *
      have t0:=fun t:UpT W0=>cell_up t (kb.cell 0:W0.cell? ⟨wr.heap.size,0,none⟩=some (.int .i64 x[0].1))
      have t1:=fun t:UpT W0=>cell_up t (kb.cell 1:W0.cell? ⟨wr.heap.size,1,none⟩=some (.bool x[0].2.1))
      have t2:=fun t:UpT W0=>cell_up t (kb.cell 2:W0.cell? ⟨wr.heap.size,2,none⟩=some (.slice A2 x[0].2.2.1.length c2))
      have t3:=fun t:UpT W0=>cell_up t (kb.cell 3:W0.cell? ⟨wr.heap.size,3,none⟩=some (.slice A3 x[0].2.2.2.1.length c3))
      have t4:=fun t:UpT W0=>cell_up t (kb.cell 4:W0.cell? ⟨wr.heap.size,4,none⟩=some (.slice A4 x[0].2.2.2.2.length c4))
      have t5:=fun t:UpT W0=>cell_up t ((kT.up uA).cell 1:W0.cell? ⟨w.heap.size,1,none⟩=some (.slice (some ⟨g,off,none⟩) x.length c0))
      clear hW
      refine wp_region_up (by kernel_rfl) (by kernel_rfl) ?_
      repeat (go_big_quiet_step ((first | (go_at_call 41;exact up_bools (within_any _ _ _ _) hin (UpT.up _)) | (go_at_call 42;exact up_call (CP.out _ (uA.trans (UpT.up _))) (UpT.up _)))))
      refine wpQuiet_nil ?_
      rintro _ ⟨⟨w1,u1⟩,rfl⟩
      go_wp2_with fail
      go_roundw
      case rel=>exact ⟨0+1,by omega,by go_num,HN,(hu.trans uA).trans u1⟩
      case measure=>simp [intOf];omega
    ·obtain ⟨p,rfl⟩:∃p,k=p+1:=⟨k-1,by omega⟩
     have hlp:p<x.length:=by omega
     obtain ⟨g',off',A5,c5,A6,c6,A7,c7,hA',_,_,hp0,_,_,_,_,d0,_,_,_,_⟩:=atSlot (b00.up good_Slot (uu0.trans hu)) hlp
     simp only [Option.some.injEq,Addr.mk.injEq,and_true] at hA'
     obtain ⟨rfl,rfl⟩:=hA'
     have hsub:IntKind.i64.wrap ((p:Int)+1-1)=(p:Int):=by rw [IntWalk.i64_in _ (by omega)];omega
     have gt0:(0:Int)<(p:Int)+1:=by omega
     by_cases hL:x[p].1<x[p+1].1
     ·have hq:decide (x[p+1].1≤x[p].1)=false:=decide_eq_false (by omega)
      cases hpg:pageB x[p+1].2
      ·have HE:=Hd (HF.out fun hh=>by have:=(hh (p+1) hlt).2.1;rw [hpg] at this;cases this)
       rw [hpg] at cp
       have CP:=Hd cp
       clear cp pv HF HLN hpg
       go_wp2_with fail
       generalize hW:(wr.alloc (.cells #[.int .i64 x[p+1].1,.bool x[p+1].2.1,.slice A2 x[p+1].2.2.1.length c2,.slice A3 x[p+1].2.2.2.1.length c3,.slice A4 x[p+1].2.2.2.2.length c4] 60))=W0 at *
       have t0:=fun t:UpT W0=>cell_up t (kb.cell 0:W0.cell? ⟨wr.heap.size,0,none⟩=some (.int .i64 x[p+1].1))
       have t1:=fun t:UpT W0=>cell_up t (kb.cell 1:W0.cell? ⟨wr.heap.size,1,none⟩=some (.bool x[p+1].2.1))
       have t2:=fun t:UpT W0=>cell_up t (kb.cell 2:W0.cell? ⟨wr.heap.size,2,none⟩=some (.slice A2 x[p+1].2.2.1.length c2))
       have t3:=fun t:UpT W0=>cell_up t (kb.cell 3:W0.cell? ⟨wr.heap.size,3,none⟩=some (.slice A3 x[p+1].2.2.2.1.length c3))
       have t4:=fun t:UpT W0=>cell_up t (kb.cell 4:W0.cell? ⟨wr.heap.size,4,none⟩=some (.slice A4 x[p+1].2.2.2.2.length c4))
       have t5:=fun t:UpT W0=>cell_up t ((kT.up uA).cell 1:W0.cell? ⟨w.heap.size,1,none⟩=some (.slice (some ⟨g,off,none⟩) x.length c0))
       have t8:=fun t:UpT W0=>cell_up t ((uA.cell (cell_lt hp0)).trans hp0)
       clear hW
       refine wp_region_up (by kernel_rfl) (by kernel_rfl) ?_
       repeat (go_big_quiet_step ((first | (go_at_call 41;exact up_bools (within_any _ _ _ _) hin (UpT.up _)) | (go_at_call 42;exact up_call (CP.out _ (uA.trans (UpT.up _))) (UpT.up _)))))
       refine wpQuiet_nil ?_
       rintro _ ⟨⟨w1,u1⟩,rfl⟩
       go_wp2_with fail
       refine bodyPost_ret (v:=.bool false) (by simp [results,Tryz.results17,go_sem]) rfl ?_
       exact ⟨by rw [HE.out],((uu0.trans hu).trans uA).trans u1⟩
      ·have HN:=Hd (slotsTo_succ hlt HA.out hin hpg hL)
       rw [hpg] at cp
       have CP:=Hd cp
       clear cp pv HF HLN hpg
       go_wp2_with fail
       generalize hW:(wr.alloc (.cells #[.int .i64 x[p+1].1,.bool x[p+1].2.1,.slice A2 x[p+1].2.2.1.length c2,.slice A3 x[p+1].2.2.2.1.length c3,.slice A4 x[p+1].2.2.2.2.length c4] 60))=W0 at *
       have t0:=fun t:UpT W0=>cell_up t (kb.cell 0:W0.cell? ⟨wr.heap.size,0,none⟩=some (.int .i64 x[p+1].1))
       have t1:=fun t:UpT W0=>cell_up t (kb.cell 1:W0.cell? ⟨wr.heap.size,1,none⟩=some (.bool x[p+1].2.1))
       have t2:=fun t:UpT W0=>cell_up t (kb.cell 2:W0.cell? ⟨wr.heap.size,2,none⟩=some (.slice A2 x[p+1].2.2.1.length c2))
       have t3:=fun t:UpT W0=>cell_up t (kb.cell 3:W0.cell? ⟨wr.heap.size,3,none⟩=some (.slice A3 x[p+1].2.2.2.1.length c3))
       have t4:=fun t:UpT W0=>cell_up t (kb.cell 4:W0.cell? ⟨wr.heap.size,4,none⟩=some (.slice A4 x[p+1].2.2.2.2.length c4))
       have t5:=fun t:UpT W0=>cell_up t ((kT.up uA).cell 1:W0.cell? ⟨w.heap.size,1,none⟩=some (.slice (some ⟨g,off,none⟩) x.length c0))
       have t8:=fun t:UpT W0=>cell_up t ((uA.cell (cell_lt hp0)).trans hp0)
       clear hW
       refine wp_region_up (by kernel_rfl) (by kernel_rfl) ?_
       repeat (go_big_quiet_step ((first | (go_at_call 41;exact up_bools (within_any _ _ _ _) hin (UpT.up _)) | (go_at_call 42;exact up_call (CP.out _ (uA.trans (UpT.up _))) (UpT.up _)))))
       refine wpQuiet_nil ?_
       rintro _ ⟨⟨w1,u1⟩,rfl⟩
       go_wp2_with fail
       go_roundw
       case rel=>exact ⟨p+1+1,by omega,by go_num,HN,(hu.trans uA).trans u1⟩
       case measure=>simp [intOf];omega
     ·have HE:=Hd (HF.out fun hh=>by have:=(hh (p+1) hlt).2.2 (by omega);simp only [Nat.add_sub_cancel] at this;omega)
      have hq:decide (x[p+1].1≤x[p].1)=true:=decide_eq_true (by omega)
      cases hpg:pageB x[p+1].2
      ·rw [hpg] at cp
       have CP:=Hd cp
       clear cp pv HF HLN hpg
       go_wp2_with fail
       generalize hW:(wr.alloc (.cells #[.int .i64 x[p+1].1,.bool x[p+1].2.1,.slice A2 x[p+1].2.2.1.length c2,.slice A3 x[p+1].2.2.2.1.length c3,.slice A4 x[p+1].2.2.2.2.length c4] 60))=W0 at *
       have t0:=fun t:UpT W0=>cell_up t (kb.cell 0:W0.cell? ⟨wr.heap.size,0,none⟩=some (.int .i64 x[p+1].1))
       have t1:=fun t:UpT W0=>cell_up t (kb.cell 1:W0.cell? ⟨wr.heap.size,1,none⟩=some (.bool x[p+1].2.1))
       have t2:=fun t:UpT W0=>cell_up t (kb.cell 2:W0.cell? ⟨wr.heap.size,2,none⟩=some (.slice A2 x[p+1].2.2.1.length c2))
       have t3:=fun t:UpT W0=>cell_up t (kb.cell 3:W0.cell? ⟨wr.heap.size,3,none⟩=some (.slice A3 x[p+1].2.2.2.1.length c3))
       have t4:=fun t:UpT W0=>cell_up t (kb.cell 4:W0.cell? ⟨wr.heap.size,4,none⟩=some (.slice A4 x[p+1].2.2.2.2.length c4))
       have t5:=fun t:UpT W0=>cell_up t ((kT.up uA).cell 1:W0.cell? ⟨w.heap.size,1,none⟩=some (.slice (some ⟨g,off,none⟩) x.length c0))
       have t8:=fun t:UpT W0=>cell_up t ((uA.cell (cell_lt hp0)).trans hp0)
       clear hW
       refine wp_region_up (by kernel_rfl) (by kernel_rfl) ?_
       repeat (go_big_quiet_step ((first | (go_at_call 41;exact up_bools (within_any _ _ _ _) hin (UpT.up _)) | (go_at_call 42;exact up_call (CP.out _ (uA.trans (UpT.up _))) (UpT.up _)))))
       refine wpQuiet_nil ?_
       rintro _ ⟨⟨w1,u1⟩,rfl⟩
       go_wp2_with fail
       refine bodyPost_ret (v:=.bool false) (by simp [results,Tryz.results17,go_sem]) rfl ?_
       exact ⟨by rw [HE.out],((uu0.trans hu).trans uA).trans u1⟩
      ·rw [hpg] at cp
       have CP:=Hd cp
       clear cp pv HF HLN hpg
       go_wp2_with fail
       generalize hW:(wr.alloc (.cells #[.int .i64 x[p+1].1,.bool x[p+1].2.1,.slice A2 x[p+1].2.2.1.length c2,.slice A3 x[p+1].2.2.2.1.length c3,.slice A4 x[p+1].2.2.2.2.length c4] 60))=W0 at *
       have t0:=fun t:UpT W0=>cell_up t (kb.cell 0:W0.cell? ⟨wr.heap.size,0,none⟩=some (.int .i64 x[p+1].1))
       have t1:=fun t:UpT W0=>cell_up t (kb.cell 1:W0.cell? ⟨wr.heap.size,1,none⟩=some (.bool x[p+1].2.1))
       have t2:=fun t:UpT W0=>cell_up t (kb.cell 2:W0.cell? ⟨wr.heap.size,2,none⟩=some (.slice A2 x[p+1].2.2.1.length c2))
       have t3:=fun t:UpT W0=>cell_up t (kb.cell 3:W0.cell? ⟨wr.heap.size,3,none⟩=some (.slice A3 x[p+1].2.2.2.1.length c3))
       have t4:=fun t:UpT W0=>cell_up t (kb.cell 4:W0.cell? ⟨wr.heap.size,4,none⟩=some (.slice A4 x[p+1].2.2.2.2.length c4))
       have t5:=fun t:UpT W0=>cell_up t ((kT.up uA).cell 1:W0.cell? ⟨w.heap.size,1,none⟩=some (.slice (some ⟨g,off,none⟩) x.length c0))
       have t8:=fun t:UpT W0=>cell_up t ((uA.cell (cell_lt hp0)).trans hp0)
       clear hW
       refine wp_region_up (by kernel_rfl) (by kernel_rfl) ?_
       repeat (go_big_quiet_step ((first | (go_at_call 41;exact up_bools (within_any _ _ _ _) hin (UpT.up _)) | (go_at_call 42;exact up_call (CP.out _ (uA.trans (UpT.up _))) (UpT.up _)))))
       refine wpQuiet_nil ?_
       rintro _ ⟨⟨w1,u1⟩,rfl⟩
       go_wp2_with fail
       refine bodyPost_ret (v:=.bool false) (by simp [results,Tryz.results17,go_sem]) rfl ?_
       exact ⟨by rw [HE.out],((uu0.trans hu).trans uA).trans u1⟩
  ·obtain rfl:k=x.length:=by omega
   have HS:=Hd (show SlotsP x from fun i h=>HA.out i h h)
   have HR:=Hd (HB.out HS.out)
   have hl64:=slots_len HS.out
   clear HF HB HLN HA
   have av:AV shBtree wr (.agg #[.int .i64 r,.slice A0 x.length c0]) (r,x):=⟨_,rfl,mkBtree (x:=(r,x)) br (b00.up good_Slot (uu0.trans hu))⟩
   have gT0:wr.cell? ⟨w.heap.size,0,none⟩=some (.int .i64 r):=kT.cell 0
   have CP:=Hd (c_pagesOf _ (r,x) wr av HS.out hnB.out)
   clear av
   have hmm:=@run_makeMap Tryz.prog
   go_wp2_with fail
   refine CP.out.mono ?_
   rintro e w1 ⟨tb,rfl,PR,u1⟩
   clear CP gT gT0
   go_wp2_with fail
   clear hmm
   have uW:Up w1 ((w1.alloc (.map #[] 0)).alloc (.cells #[.pointer (some ⟨tb,0,none⟩),.map (some w1.heap.size),.int .i64 (-1)] 85)):=((Up.refl _).alloc _).alloc _
   have kw:Bk ((w1.alloc (.map #[] 0)).alloc (.cells #[.pointer (some ⟨tb,0,none⟩),.map (some w1.heap.size),.int .i64 (-1)] 85)) (w1.heap.size+1) 85 #[.pointer (some ⟨tb,0,none⟩),.map (some w1.heap.size),.int .i64 (-1)]:=by
    simpa using Bk.new (w1.alloc (.map #[] 0)) 85 #[.pointer (some ⟨tb,0,none⟩),.map (some w1.heap.size),.int .i64 (-1)]
   have ks:MSet Tryz.prog 2 4 ((w1.alloc (.map #[] 0)).alloc (.cells #[.pointer (some ⟨tb,0,none⟩),.map (some w1.heap.size),.int .i64 (-1)] 85)) w1.heap.size []:=(MSet.made (P:=Tryz.prog) (k:=2) (e:=4) w1).up ((Up.refl _).alloc _)
   generalize ((w1.alloc (.map #[] 0)).alloc (.cells #[.pointer (some ⟨tb,0,none⟩),.map (some w1.heap.size),.int .i64 (-1)] 85))=W2 at uW kw ks ⊢
   have WR:WalkR W2 wr.heap.size w1.heap.size tb w1.heap.size (w1.heap.size+1) (r,x) ([],none):=⟨PR.up uW (Nat.le_refl _),Nat.le_refl _,by omega,by omega,kw,ks,metOk_nil _,fun d hd=>by cases hd⟩
   have CW:=Hd (c_walk (x:=(r,x)) HS.out 64 r 0 1 ⟨#[]⟩ ⟨#[]⟩ ([],none) W2.drew br (Hd rfl) (WR.up (Up.refl W2).drew) (by simp;omega) (.inl ⟨rfl,rfl,rfl⟩) (by omega))
   have kT2:=(kT.up u1).up uW
   have z1:=u1.size
   have zr:=kT.lt
   have gT0:W2.cell? ⟨w.heap.size,0,none⟩=some (.int .i64 r):=kT2.cell 0
   have gw1:W2.cell? ⟨w1.heap.size+1,1,none⟩=some (.map (some w1.heap.size)):=kw.cell 1
   have U2:=((uu0.trans hu).trans u1).trans uW
   have zw:=(uu0.trans hu).size
   clear PR kw ks WR
   cases hwt:walkTop (r,x) with
   | none =>
    rw [show walkB (r,x) 64 r 1 ⟨#[]⟩ ⟨#[]⟩ ([],none)=none from hwt] at CW
    have HE:=Hd (show R=false by rw [HR.out,hwt])
    clear HR hwt
    refine wp_region_any (by kernel_rfl) ?_
    change wpAny _ _ _ _ _ _ _ (World.drew _)
    refine wpAny_take (i:=0) (v:=.pointer (some ⟨w1.heap.size+1,0,none⟩)) rfl (by kernel_rfl) (by kernel_rfl) (by kernel_rfl) (fun _ _ _ h=>h) (Or.inl ⟨by rfl,fun W=>by go_simp⟩) ?_
    try simp only [Act.put,sI,sZ,sS]
    refine wpAny_take (i:=1) (v:=.pointer (some ⟨w.heap.size,0,none⟩)) rfl (by kernel_rfl) (by kernel_rfl) (by kernel_rfl) (fun _ _ _ h=>h) (Or.inl ⟨by rfl,fun W=>by go_simp⟩) ?_
    try simp only [Act.put,sI,sZ,sS]
    refine wpAny_ready (rs:=[2]) (by kernel_rfl) (by simp) ?_
    refine AllReady.cons rfl (fun K hK=>?_) AllReady.nil
    go_simp
    refine hK _ _ ?_
    clear hK K
    refine wpAny_ready (rs:=[3]) (by kernel_rfl) (by simp) ?_
    refine AllReady.cons rfl (fun K hK=>?_) AllReady.nil
    go_simp
    go_wp2_with (go_at_call 43;refine CW.out.mono ?_;rintro e w5 h5;obtain ⟨rfl,on5⟩:=h5.no)
    refine wpAny_take (i:=4) (v:=.bool false) rfl (by kernel_rfl) (by kernel_rfl) (by kernel_rfl) (fun _ _ _ h=>h) (Or.inl ⟨by rfl,fun W=>by go_simp⟩) ?_
    try simp only [Act.put,sI,sZ,sS]
    refine wpAny_take (i:=5) (v:=undef) rfl (by kernel_rfl) (by kernel_rfl) (by kernel_rfl) (fun _ _ _ h=>h) (Or.inr ⟨by kernel_rfl,rfl⟩) ?_
    try simp only [Act.put,sI,sZ,sS]
    refine wpAny_take (i:=6) (v:=undef) rfl (by kernel_rfl) (by kernel_rfl) (by kernel_rfl) (fun _ _ _ h=>h) (Or.inr ⟨by kernel_rfl,rfl⟩) ?_
    try simp only [Act.put,sI,sZ,sS]
    refine wpAny_take (i:=7) (v:=undef) rfl (by kernel_rfl) (by kernel_rfl) (by kernel_rfl) (fun _ _ _ h=>h) (Or.inr ⟨by kernel_rfl,rfl⟩) ?_
    try simp only [Act.put,sI,sZ,sS]
    refine wpAny_take (i:=8) (v:=undef) rfl (by kernel_rfl) (by kernel_rfl) (by kernel_rfl) (fun _ _ _ h=>h) (Or.inr ⟨by kernel_rfl,rfl⟩) ?_
    try simp only [Act.put,sI,sZ,sS]
    refine wpAny_take (i:=10) (v:=undef) rfl (by kernel_rfl) (by kernel_rfl) (by kernel_rfl) (fun _ _ _ h=>h) (Or.inr ⟨by kernel_rfl,rfl⟩) ?_
    try simp only [Act.put,sI,sZ,sS]
    refine wpAny_take (i:=11) (v:=undef) rfl (by kernel_rfl) (by kernel_rfl) (by kernel_rfl) (fun _ _ _ h=>h) (Or.inr ⟨by kernel_rfl,rfl⟩) ?_
    try simp only [Act.put,sI,sZ,sS]
    refine wpAny_take (i:=12) (v:=undef) rfl (by kernel_rfl) (by kernel_rfl) (by kernel_rfl) (fun _ _ _ h=>h) (Or.inr ⟨by kernel_rfl,rfl⟩) ?_
    try simp only [Act.put,sI,sZ,sS]
    refine wpAny_ready (rs:=[9]) (by kernel_rfl) (by simp) ?_
    refine AllReady.cons rfl (fun K hK=>?_) AllReady.nil
    rw [if_neg (by rw [show Region.wanted _ _=false by kernel_rfl];decide)]
    refine hK _ _ ?_
    clear hK K
    try simp only [Act.put,sI,sZ,sS]
    refine wpAny_take (i:=13) (v:=undef) rfl (by kernel_rfl) (by kernel_rfl) (by kernel_rfl) (fun _ _ _ h=>h) (Or.inr ⟨by kernel_rfl,rfl⟩) ?_
    try simp only [Act.put,sI,sZ,sS]
    refine wpAny_take (i:=14) (v:=.bool false) rfl (by kernel_rfl) (by kernel_rfl) (by kernel_rfl) (fun _ _ _ h=>h) (Or.inl ⟨by rfl,fun W=>by go_simp⟩) ?_
    try simp only [Act.put,sI,sZ,sS]
    refine wpAny_take (i:=15) (v:=.bool false) rfl (by kernel_rfl) (by kernel_rfl) (by kernel_rfl) (fun _ _ _ h=>h) (Or.inl ⟨by rfl,fun W=>by go_simp⟩) ?_
    try simp only [Act.put,sI,sZ,sS]
    simp only [Act.put,List.getElem_toArray,List.getElem_cons_succ,List.getElem_cons_zero,sI,sZ,sS]
    refine wpAny_done (by kernel_rfl) ?_ _
    go_wp2_with fail
    all_goals (refine bodyPost_ret (v:=.bool false) (by simp [results,Tryz.results17,go_sem]) rfl ?_)
    all_goals (exact ⟨by rw [HE.out],U2.drew.only on5 (by simp;omega)⟩)
   | some t =>
    rw [show walkB (r,x) 64 r 1 ⟨#[]⟩ ⟨#[]⟩ ([],none)=some t from hwt] at CW
    have HE:=Hd (show R=decide (t.1.length=x.length) by rw [HR.out,hwt])
    clear HR hwt
    by_cases hq:t.1.length=x.length
    ·have hq1:((t.1.length:Int)==(x.length:Int))=true:=beq_iff_eq.2 (by omega)
     have HE':=Hd (show R=true by rw [HE.out,decide_eq_true hq])
     have hqN:=Hd hq
     clear HE hq
     go_region_with (go_at_call 43;refine CW.out.mono ?_;rintro e w5 h5;obtain ⟨rfl,on5,R5,_⟩:=h5.yes;have kT5:=(kT2.drew).only on5 (show w.heap.size∉[w1.heap.size,w1.heap.size+1] by simp;omega);have gT5:w5.cell? ⟨w.heap.size,1,none⟩=some (.slice A0 x.length c0):=kT5.cell 1;have gw5:w5.cell? ⟨w1.heap.size+1,1,none⟩=some (.map (some w1.heap.size)):=R5.kw.cell 1;have hlen5:=R5.ks.len (t:=83) Tryz.underlying83)
     all_goals (go_wp2_with fail)
     all_goals (refine bodyPost_ret (v:=.bool true) (by simp [results,Tryz.results17,go_sem]) rfl ?_)
     all_goals (exact ⟨by rw [HE'.out],U2.drew.only on5 (by simp;omega)⟩)
    ·have hq1:((t.1.length:Int)==(x.length:Int))=false:=beq_eq_false_iff_ne.2 (by omega)
     have hq2:¬(t.1.length:Int)=(x.length:Int):=by omega
     have HE':=Hd (show R=false by rw [HE.out,decide_eq_false hq])
     clear HE
     go_region_with (go_at_call 43;refine CW.out.mono ?_;rintro e w5 h5;obtain ⟨rfl,on5,R5,_⟩:=h5.yes;have kT5:=(kT2.drew).only on5 (show w.heap.size∉[w1.heap.size,w1.heap.size+1] by simp;omega);have gT5:w5.cell? ⟨w.heap.size,1,none⟩=some (.slice A0 x.length c0):=kT5.cell 1;have gw5:w5.cell? ⟨w1.heap.size+1,1,none⟩=some (.map (some w1.heap.size)):=R5.kw.cell 1;have hlen5:=R5.ks.len (t:=83) Tryz.underlying83)
     all_goals (go_wp2_with fail)
     all_goals (refine bodyPost_ret (v:=.bool false) (by simp [results,Tryz.results17,go_sem]) rfl ?_)
     all_goals (exact ⟨by rw [HE'.out],U2.drew.only on5 (by simp;omega)⟩)
theorem c_specBtreeOk (v:Value) (y:TBtree) (w:World) (h:AV shBtree w v y) (hn:shBtree.sz y≤1048576) :
 Calls Tryz.prog 12 #[v] w (RetV (.bool (btreeB y)) w):=by
 obtain ⟨cs,rfl,h⟩:=h
 obtain ⟨r,x⟩:=y
 have ho:=openBtree h
 dsimp only at ho
 obtain ⟨A0,c0,rfl,br,b00⟩:=ho
 clear h
 have hlen:=b00.len_le
 have hnx:(shL shSlot).sz x≤1048576:=by
  have e:shBtree.sz (r,x)=0+(shL shSlot).sz x:=rfl
  omega
 have hnB:=Hd hn
 have HSZ:=Hd (fun (i:Nat) (hi:i<x.length)=>sz_le shSlot x hi hnx)
 clear hn hnx
 have HF:=Hd (fun (hh:¬SlotsP x)=>btreeB_f (x:=(r,x)) hh)
 have HLN:=Hd (fun (hh:SlotsP x)=>slots_len hh)
 show Calls _ _ _ _ (RetV (.bool (btreeB (r,x))) w)
 have HB:=Hd (fun (hh:SlotsP x)=>btreeB_ok (x:=(r,x)) hh)
 generalize btreeB (r,x)=R at HF HB ⊢
 have kT0:=Bk.new w 28 #[.int .i64 r,.slice A0 x.length c0]
 have uu0:Up w (w.alloc (.cells #[.int .i64 r,.slice A0 x.length c0] 28)):=(Up.refl w).alloc _
 have gT:(w.alloc (.cells #[.int .i64 r,.slice A0 x.length c0] 28)).cell? ⟨w.heap.size,1,none⟩=some (.slice A0 x.length c0):=kT0.cell 1
 by_cases h64:64<x.length
 ·have HE:=Hd (HF.out (fun hh=>by have:=HLN.out hh;omega))
  have h64i:¬(x.length:Int)≤64:=by omega
  have h64j:(64:Int)<(x.length:Int):=by omega
  clear HF HB HLN h64
  go_enter Tryz.func12,Tryz.ntmps12
  go_wp2_with fail
  refine bodyPost_ret (v:=.bool false) (by simp [results,Tryz.results12,go_sem]) rfl ?_
  exact ⟨by rw [HE.out],uu0⟩
 have h64i:¬(64:Int)<(x.length:Int):=by omega
 go_enter Tryz.func12,Tryz.ntmps12
 go_wp2_with fail
 clear gT h64i
 go_loopw [3] (fun i wr=>∃k:Nat,k≤x.length∧i=.int .i64 k∧Hid (SlotsTo x k)∧Up (w.alloc (.cells #[.int .i64 r,.slice A0 x.length c0] 28)) wr) (fun i _=>x.length-(intOf i).toNat)
 case atStart=>exact ⟨0,Nat.zero_le _,rfl,Hd (fun i h hi=>absurd hi (by omega)),Up.refl _⟩
 case round =>
  obtain ⟨k,hk,rfl,HA,hu⟩:=hrel
  have kT:=kT0.up hu
  have gT:wr.cell? ⟨w.heap.size,1,none⟩=some (.slice A0 x.length c0):=kT.cell 1
  by_cases hlt:k<x.length
  ·obtain ⟨g,off,A2,c2,A3,c3,A4,c4,hA,_,hgl,hc0,hc1,hc2,hc3,hc4,b0,b2,b3,b4,_⟩:=atSlot (b00.up good_Slot (uu0.trans hu)) hlt
   have pv:∀W,Up wr W→AV shPage W (.agg #[.bool x[k].2.1,.slice A2 x[k].2.2.1.length c2,.slice A3 x[k].2.2.2.1.length c3,.slice A4 x[k].2.2.2.2.length c4]) x[k].2:=fun W hW=>⟨_,rfl,mkPage (x:=x[k].2) (b2.up good_S hW) (b3.up good_S hW) (b4.up good_I hW)⟩
   have cp:=fun W (hW:Up wr W)=>c_specPageOk (.agg #[.bool x[k].2.1,.slice A2 x[k].2.2.1.length c2,.slice A3 x[k].2.2.2.1.length c3,.slice A4 x[k].2.2.2.2.length c4]) x[k].2 W (pv W hW) (page_sz (slot_sz (HSZ.out k hlt)))
   have kb:=Bk.new wr 60 #[.int .i64 x[k].1,.bool x[k].2.1,.slice A2 x[k].2.2.1.length c2,.slice A3 x[k].2.2.2.1.length c3,.slice A4 x[k].2.2.2.2.length c4]
   have uA:Up wr (wr.alloc (.cells #[.int .i64 x[k].1,.bool x[k].2.1,.slice A2 x[k].2.2.1.length c2,.slice A3 x[k].2.2.2.1.length c3,.slice A4 x[k].2.2.2.2.length c4] 60)):=(Up.refl wr).alloc _
   subst hA
   cases hin:inB x[k].1 1 64
   ·have HE:=Hd (HF.out fun hh=>by have:=(hh k hlt).1;rw [hin] at this;cases this)
    have CP:=Hd cp
    clear cp pv HF HLN
    go_wp2_with fail
    generalize hW:(wr.alloc (.cells #[.int .i64 x[k].1,.bool x[k].2.1,.slice A2 x[k].2.2.1.length c2,.slice A3 x[k].2.2.2.1.length c3,.slice A4 x[k].2.2.2.2.length c4] 60))=W0 at *
    have t0:=fun t:UpT W0=>cell_up t (kb.cell 0:W0.cell? ⟨wr.heap.size,0,none⟩=some (.int .i64 x[k].1))
    have t1:=fun t:UpT W0=>cell_up t (kb.cell 1:W0.cell? ⟨wr.heap.size,1,none⟩=some (.bool x[k].2.1))
    have t2:=fun t:UpT W0=>cell_up t (kb.cell 2:W0.cell? ⟨wr.heap.size,2,none⟩=some (.slice A2 x[k].2.2.1.length c2))
    have t3:=fun t:UpT W0=>cell_up t (kb.cell 3:W0.cell? ⟨wr.heap.size,3,none⟩=some (.slice A3 x[k].2.2.2.1.length c3))
    have t4:=fun t:UpT W0=>cell_up t (kb.cell 4:W0.cell? ⟨wr.heap.size,4,none⟩=some (.slice A4 x[k].2.2.2.2.length c4))
    have t5:=fun t:UpT W0=>cell_up t ((kT.up uA).cell 1:W0.cell? ⟨w.heap.size,1,none⟩=some (.slice (some ⟨g,off,none⟩) x.length c0))
    clear hW
    refine wp_region_up (by kernel_rfl) (by kernel_rfl) ?_
    repeat (go_big_quiet_step ((first | (go_at_call 27;exact up_bools (in_any _ _ _ _) hin (UpT.up _)) | (go_at_call 28;exact up_call (CP.out _ (uA.trans (UpT.up _))) (UpT.up _)))))
    refine wpQuiet_nil ?_
    rintro _ ⟨⟨w1,u1⟩,rfl⟩
    go_wp2_with fail
    refine bodyPost_ret (v:=.bool false) (by simp [results,Tryz.results12,go_sem]) rfl ?_
    exact ⟨by rw [HE.out],((uu0.trans hu).trans uA).trans u1⟩
   ·by_cases hk0:k=0
    ·subst hk0
     have gt0:¬(0:Int)<((0:Nat):Int):=by omega
     simp only [Nat.zero_mul,Nat.add_zero] at hc0 hc1 hc2 hc3 hc4
     cases hpg:pageB x[0].2
     ·have HE:=Hd (HF.out fun hh=>by have:=(hh (0) hlt).2.1;rw [hpg] at this;cases this)
      rw [hpg] at cp
      have CP:=Hd cp
      clear cp pv HF HLN hpg
      go_wp2_with fail
      generalize hW:(wr.alloc (.cells #[.int .i64 x[0].1,.bool x[0].2.1,.slice A2 x[0].2.2.1.length c2,.slice A3 x[0].2.2.2.1.length c3,.slice A4 x[0].2.2.2.2.length c4] 60))=W0 at *
      have t0:=fun t:UpT W0=>cell_up t (kb.cell 0:W0.cell? ⟨wr.heap.size,0,none⟩=some (.int .i64 x[0].1))
      have t1:=fun t:UpT W0=>cell_up t (kb.cell 1:W0.cell? ⟨wr.heap.size,1,none⟩=some (.bool x[0].2.1))
      have t2:=fun t:UpT W0=>cell_up t (kb.cell 2:W0.cell? ⟨wr.heap.size,2,none⟩=some (.slice A2 x[0].2.2.1.length c2))
      have t3:=fun t:UpT W0=>cell_up t (kb.cell 3:W0.cell? ⟨wr.heap.size,3,none⟩=some (.slice A3 x[0].2.2.2.1.length c3))
      have t4:=fun t:UpT W0=>cell_up t (kb.cell 4:W0.cell? ⟨wr.heap.size,4,none⟩=some (.slice A4 x[0].2.2.2.2.length c4))
      have t5:=fun t:UpT W0=>cell_up t ((kT.up uA).cell 1:W0.cell? ⟨w.heap.size,1,none⟩=some (.slice (some ⟨g,off,none⟩) x.length c0))
      clear hW
      refine wp_region_up (by kernel_rfl) (by kernel_rfl) ?_
      repeat (go_big_quiet_step ((first | (go_at_call 27;exact up_bools (in_any _ _ _ _) hin (UpT.up _)) | (go_at_call 28;exact up_call (CP.out _ (uA.trans (UpT.up _))) (UpT.up _)))))
      refine wpQuiet_nil ?_
      rintro _ ⟨⟨w1,u1⟩,rfl⟩
      go_wp2_with fail
      refine bodyPost_ret (v:=.bool false) (by simp [results,Tryz.results12,go_sem]) rfl ?_
      exact ⟨by rw [HE.out],((uu0.trans hu).trans uA).trans u1⟩
     ·have HN:=Hd (slotsTo_one hlt hin hpg)
      rw [hpg] at cp
      have CP:=Hd cp
      clear cp pv HF HLN hpg
      go_wp2_with fail
      generalize hW:(wr.alloc (.cells #[.int .i64 x[0].1,.bool x[0].2.1,.slice A2 x[0].2.2.1.length c2,.slice A3 x[0].2.2.2.1.length c3,.slice A4 x[0].2.2.2.2.length c4] 60))=W0 at *
      have t0:=fun t:UpT W0=>cell_up t (kb.cell 0:W0.cell? ⟨wr.heap.size,0,none⟩=some (.int .i64 x[0].1))
      have t1:=fun t:UpT W0=>cell_up t (kb.cell 1:W0.cell? ⟨wr.heap.size,1,none⟩=some (.bool x[0].2.1))
      have t2:=fun t:UpT W0=>cell_up t (kb.cell 2:W0.cell? ⟨wr.heap.size,2,none⟩=some (.slice A2 x[0].2.2.1.length c2))
      have t3:=fun t:UpT W0=>cell_up t (kb.cell 3:W0.cell? ⟨wr.heap.size,3,none⟩=some (.slice A3 x[0].2.2.2.1.length c3))
      have t4:=fun t:UpT W0=>cell_up t (kb.cell 4:W0.cell? ⟨wr.heap.size,4,none⟩=some (.slice A4 x[0].2.2.2.2.length c4))
      have t5:=fun t:UpT W0=>cell_up t ((kT.up uA).cell 1:W0.cell? ⟨w.heap.size,1,none⟩=some (.slice (some ⟨g,off,none⟩) x.length c0))
      clear hW
      refine wp_region_up (by kernel_rfl) (by kernel_rfl) ?_
      repeat (go_big_quiet_step ((first | (go_at_call 27;exact up_bools (in_any _ _ _ _) hin (UpT.up _)) | (go_at_call 28;exact up_call (CP.out _ (uA.trans (UpT.up _))) (UpT.up _)))))
      refine wpQuiet_nil ?_
      rintro _ ⟨⟨w1,u1⟩,rfl⟩
      go_wp2_with fail
      go_roundw
      case rel=>exact ⟨0+1,by omega,by go_num,HN,(hu.trans uA).trans u1⟩
      case measure=>simp [intOf];omega
    ·obtain ⟨p,rfl⟩:∃p,k=p+1:=⟨k-1,by omega⟩
     have hlp:p<x.length:=by omega
     obtain ⟨g',off',A5,c5,A6,c6,A7,c7,hA',_,_,hp0,_,_,_,_,d0,_,_,_,_⟩:=atSlot (b00.up good_Slot (uu0.trans hu)) hlp
     simp only [Option.some.injEq,Addr.mk.injEq,and_true] at hA'
     obtain ⟨rfl,rfl⟩:=hA'
     have hsub:IntKind.i64.wrap ((p:Int)+1-1)=(p:Int):=by rw [IntWalk.i64_in _ (by omega)];omega
     have gt0:(0:Int)<(p:Int)+1:=by omega
     by_cases hL:x[p].1<x[p+1].1
     ·have hq:decide (x[p+1].1≤x[p].1)=false:=decide_eq_false (by omega)
      cases hpg:pageB x[p+1].2
      ·have HE:=Hd (HF.out fun hh=>by have:=(hh (p+1) hlt).2.1;rw [hpg] at this;cases this)
       rw [hpg] at cp
       have CP:=Hd cp
       clear cp pv HF HLN hpg
       go_wp2_with fail
       generalize hW:(wr.alloc (.cells #[.int .i64 x[p+1].1,.bool x[p+1].2.1,.slice A2 x[p+1].2.2.1.length c2,.slice A3 x[p+1].2.2.2.1.length c3,.slice A4 x[p+1].2.2.2.2.length c4] 60))=W0 at *
       have t0:=fun t:UpT W0=>cell_up t (kb.cell 0:W0.cell? ⟨wr.heap.size,0,none⟩=some (.int .i64 x[p+1].1))
       have t1:=fun t:UpT W0=>cell_up t (kb.cell 1:W0.cell? ⟨wr.heap.size,1,none⟩=some (.bool x[p+1].2.1))
       have t2:=fun t:UpT W0=>cell_up t (kb.cell 2:W0.cell? ⟨wr.heap.size,2,none⟩=some (.slice A2 x[p+1].2.2.1.length c2))
       have t3:=fun t:UpT W0=>cell_up t (kb.cell 3:W0.cell? ⟨wr.heap.size,3,none⟩=some (.slice A3 x[p+1].2.2.2.1.length c3))
       have t4:=fun t:UpT W0=>cell_up t (kb.cell 4:W0.cell? ⟨wr.heap.size,4,none⟩=some (.slice A4 x[p+1].2.2.2.2.length c4))
       have t5:=fun t:UpT W0=>cell_up t ((kT.up uA).cell 1:W0.cell? ⟨w.heap.size,1,none⟩=some (.slice (some ⟨g,off,none⟩) x.length c0))
       have t8:=fun t:UpT W0=>cell_up t ((uA.cell (cell_lt hp0)).trans hp0)
       clear hW
       refine wp_region_up (by kernel_rfl) (by kernel_rfl) ?_
       repeat (go_big_quiet_step ((first | (go_at_call 27;exact up_bools (in_any _ _ _ _) hin (UpT.up _)) | (go_at_call 28;exact up_call (CP.out _ (uA.trans (UpT.up _))) (UpT.up _)))))
       refine wpQuiet_nil ?_
       rintro _ ⟨⟨w1,u1⟩,rfl⟩
       go_wp2_with fail
       refine bodyPost_ret (v:=.bool false) (by simp [results,Tryz.results12,go_sem]) rfl ?_
       exact ⟨by rw [HE.out],((uu0.trans hu).trans uA).trans u1⟩
      ·have HN:=Hd (slotsTo_succ hlt HA.out hin hpg hL)
       rw [hpg] at cp
       have CP:=Hd cp
       clear cp pv HF HLN hpg
       go_wp2_with fail
       generalize hW:(wr.alloc (.cells #[.int .i64 x[p+1].1,.bool x[p+1].2.1,.slice A2 x[p+1].2.2.1.length c2,.slice A3 x[p+1].2.2.2.1.length c3,.slice A4 x[p+1].2.2.2.2.length c4] 60))=W0 at *
       have t0:=fun t:UpT W0=>cell_up t (kb.cell 0:W0.cell? ⟨wr.heap.size,0,none⟩=some (.int .i64 x[p+1].1))
       have t1:=fun t:UpT W0=>cell_up t (kb.cell 1:W0.cell? ⟨wr.heap.size,1,none⟩=some (.bool x[p+1].2.1))
       have t2:=fun t:UpT W0=>cell_up t (kb.cell 2:W0.cell? ⟨wr.heap.size,2,none⟩=some (.slice A2 x[p+1].2.2.1.length c2))
       have t3:=fun t:UpT W0=>cell_up t (kb.cell 3:W0.cell? ⟨wr.heap.size,3,none⟩=some (.slice A3 x[p+1].2.2.2.1.length c3))
       have t4:=fun t:UpT W0=>cell_up t (kb.cell 4:W0.cell? ⟨wr.heap.size,4,none⟩=some (.slice A4 x[p+1].2.2.2.2.length c4))
       have t5:=fun t:UpT W0=>cell_up t ((kT.up uA).cell 1:W0.cell? ⟨w.heap.size,1,none⟩=some (.slice (some ⟨g,off,none⟩) x.length c0))
       have t8:=fun t:UpT W0=>cell_up t ((uA.cell (cell_lt hp0)).trans hp0)
       clear hW
       refine wp_region_up (by kernel_rfl) (by kernel_rfl) ?_
       repeat (go_big_quiet_step ((first | (go_at_call 27;exact up_bools (in_any _ _ _ _) hin (UpT.up _)) | (go_at_call 28;exact up_call (CP.out _ (uA.trans (UpT.up _))) (UpT.up _)))))
       refine wpQuiet_nil ?_
       rintro _ ⟨⟨w1,u1⟩,rfl⟩
       go_wp2_with fail
       go_roundw
       case rel=>exact ⟨p+1+1,by omega,by go_num,HN,(hu.trans uA).trans u1⟩
       case measure=>simp [intOf];omega
     ·have HE:=Hd (HF.out fun hh=>by have:=(hh (p+1) hlt).2.2 (by omega);simp only [Nat.add_sub_cancel] at this;omega)
      have hq:decide (x[p+1].1≤x[p].1)=true:=decide_eq_true (by omega)
      have CP:=Hd cp
      clear cp pv HF HLN
      go_wp2_with fail
      generalize hW:(wr.alloc (.cells #[.int .i64 x[p+1].1,.bool x[p+1].2.1,.slice A2 x[p+1].2.2.1.length c2,.slice A3 x[p+1].2.2.2.1.length c3,.slice A4 x[p+1].2.2.2.2.length c4] 60))=W0 at *
      have t0:=fun t:UpT W0=>cell_up t (kb.cell 0:W0.cell? ⟨wr.heap.size,0,none⟩=some (.int .i64 x[p+1].1))
      have t1:=fun t:UpT W0=>cell_up t (kb.cell 1:W0.cell? ⟨wr.heap.size,1,none⟩=some (.bool x[p+1].2.1))
      have t2:=fun t:UpT W0=>cell_up t (kb.cell 2:W0.cell? ⟨wr.heap.size,2,none⟩=some (.slice A2 x[p+1].2.2.1.length c2))
      have t3:=fun t:UpT W0=>cell_up t (kb.cell 3:W0.cell? ⟨wr.heap.size,3,none⟩=some (.slice A3 x[p+1].2.2.2.1.length c3))
      have t4:=fun t:UpT W0=>cell_up t (kb.cell 4:W0.cell? ⟨wr.heap.size,4,none⟩=some (.slice A4 x[p+1].2.2.2.2.length c4))
      have t5:=fun t:UpT W0=>cell_up t ((kT.up uA).cell 1:W0.cell? ⟨w.heap.size,1,none⟩=some (.slice (some ⟨g,off,none⟩) x.length c0))
      have t8:=fun t:UpT W0=>cell_up t ((uA.cell (cell_lt hp0)).trans hp0)
      clear hW
      refine wp_region_up (by kernel_rfl) (by kernel_rfl) ?_
      repeat (go_big_quiet_step ((first | (go_at_call 27;exact up_bools (in_any _ _ _ _) hin (UpT.up _)) | (go_at_call 28;exact up_call (CP.out _ (uA.trans (UpT.up _))) (UpT.up _)))))
      refine wpQuiet_nil ?_
      rintro _ ⟨⟨w1,u1⟩,rfl⟩
      go_wp2_with fail
      refine bodyPost_ret (v:=.bool false) (by simp [results,Tryz.results12,go_sem]) rfl ?_
      exact ⟨by rw [HE.out],((uu0.trans hu).trans uA).trans u1⟩
  ·obtain rfl:k=x.length:=by omega
   have HS:=Hd (show SlotsP x from fun i h=>HA.out i h h)
   have HR:=Hd (HB.out HS.out)
   clear HF HB HLN HA
   have gT0:wr.cell? ⟨w.heap.size,0,none⟩=some (.int .i64 r):=kT.cell 0
   have kw:=Bk.new wr 65 #[.int .i64 r,.slice A0 x.length c0,.slice none 0 0,.int .i64 0]
   have uW:Up wr (wr.alloc (.cells #[.int .i64 r,.slice A0 x.length c0,.slice none 0 0,.int .i64 0] 65)):=(Up.refl _).alloc _
   have bw:=b00.up good_Slot (uu0.trans hu)
   have DR:DownR (wr.alloc (.cells #[.int .i64 r,.slice A0 x.length c0,.slice none 0 0,.int .i64 0] 65)) wr.heap.size wr.heap.size A0 c0 (r,x) ([],none) none 0 []:=⟨SR.keep good_Slot bw (uW.keeps (Nat.le_refl _)),Nat.le_refl _,kw,SO.nil _ _ _,List.nodup_nil,by simp,metOk_nil _,fun d hd=>by cases hd⟩
   have kT2:=kT.up uW
   have zr:=kT.lt
   have U2:=(uu0.trans hu).trans uW
   have zw:=(uu0.trans hu).size
   clear hlt
   go_wp2_with fail
   clear gT gT0
   generalize (wr.alloc (.cells #[.int .i64 r,.slice A0 x.length c0,.slice none 0 0,.int .i64 0] 65))=W2 at uW DR kT2 kw U2 ⊢
   have CW:=Hd (c_l16Down (x:=(r,x)) HS.out br 64 r 1 1 ⟨#[]⟩ ⟨#[]⟩ ([],none) none 0 [] W2.drew br (Hd rfl) (DR.up (Up.refl W2).drew) (by omega) (by omega))
   have gT0:W2.cell? ⟨w.heap.size,0,none⟩=some (.int .i64 r):=kT2.cell 0
   clear DR kw
   cases hwt:walkTop (r,x) with
   | none =>
    rw [show walkB (r,x) 64 r 1 ⟨#[]⟩ ⟨#[]⟩ ([],none)=none from hwt] at CW
    have HE':=Hd (show R=false by rw [HR.out,hwt])
    clear HR hwt
    refine wp_region_any (by kernel_rfl) ?_
    change wpAny _ _ _ _ _ _ _ (World.drew _)
    refine wpAny_take (i:=0) (v:=.pointer (some ⟨wr.heap.size,0,none⟩)) rfl (by kernel_rfl) (by kernel_rfl) (by kernel_rfl) (fun _ _ _ h=>h) (Or.inl ⟨by rfl,fun W=>by go_simp⟩) ?_
    try simp only [Act.put,sI,sZ,sS]
    refine wpAny_take (i:=1) (v:=.pointer (some ⟨w.heap.size,0,none⟩)) rfl (by kernel_rfl) (by kernel_rfl) (by kernel_rfl) (fun _ _ _ h=>h) (Or.inl ⟨by rfl,fun W=>by go_simp⟩) ?_
    try simp only [Act.put,sI,sZ,sS]
    refine wpAny_ready (rs:=[2]) (by kernel_rfl) (by simp) ?_
    refine AllReady.cons rfl (fun K hK=>?_) AllReady.nil
    go_simp
    refine hK _ _ ?_
    clear hK K
    refine wpAny_ready (rs:=[3]) (by kernel_rfl) (by simp) ?_
    refine AllReady.cons rfl (fun K hK=>?_) AllReady.nil
    go_simp
    go_wp2_with (go_at_call 29;refine CW.out.mono ?_;rintro e w5 h5;obtain ⟨rfl,on5⟩:=h5.no)
    refine wpAny_take (i:=4) (v:=.bool false) rfl (by kernel_rfl) (by kernel_rfl) (by kernel_rfl) (fun _ _ _ h=>h) (Or.inl ⟨by rfl,fun W=>by go_simp⟩) ?_
    try simp only [Act.put,sI,sZ,sS]
    refine wpAny_take (i:=5) (v:=undef) rfl (by kernel_rfl) (by kernel_rfl) (by kernel_rfl) (fun _ _ _ h=>h) (Or.inr ⟨by kernel_rfl,rfl⟩) ?_
    try simp only [Act.put,sI,sZ,sS]
    refine wpAny_take (i:=6) (v:=undef) rfl (by kernel_rfl) (by kernel_rfl) (by kernel_rfl) (fun _ _ _ h=>h) (Or.inr ⟨by kernel_rfl,rfl⟩) ?_
    try simp only [Act.put,sI,sZ,sS]
    refine wpAny_take (i:=7) (v:=undef) rfl (by kernel_rfl) (by kernel_rfl) (by kernel_rfl) (fun _ _ _ h=>h) (Or.inr ⟨by kernel_rfl,rfl⟩) ?_
    try simp only [Act.put,sI,sZ,sS]
    refine wpAny_take (i:=8) (v:=undef) rfl (by kernel_rfl) (by kernel_rfl) (by kernel_rfl) (fun _ _ _ h=>h) (Or.inr ⟨by kernel_rfl,rfl⟩) ?_
    try simp only [Act.put,sI,sZ,sS]
    refine wpAny_take (i:=10) (v:=undef) rfl (by kernel_rfl) (by kernel_rfl) (by kernel_rfl) (fun _ _ _ h=>h) (Or.inr ⟨by kernel_rfl,rfl⟩) ?_
    try simp only [Act.put,sI,sZ,sS]
    refine wpAny_take (i:=11) (v:=undef) rfl (by kernel_rfl) (by kernel_rfl) (by kernel_rfl) (fun _ _ _ h=>h) (Or.inr ⟨by kernel_rfl,rfl⟩) ?_
    try simp only [Act.put,sI,sZ,sS]
    refine wpAny_take (i:=12) (v:=undef) rfl (by kernel_rfl) (by kernel_rfl) (by kernel_rfl) (fun _ _ _ h=>h) (Or.inr ⟨by kernel_rfl,rfl⟩) ?_
    try simp only [Act.put,sI,sZ,sS]
    refine wpAny_ready (rs:=[9]) (by kernel_rfl) (by simp) ?_
    refine AllReady.cons rfl (fun K hK=>?_) AllReady.nil
    rw [if_neg (by rw [show Region.wanted _ _=false by kernel_rfl];decide)]
    refine hK _ _ ?_
    clear hK K
    try simp only [Act.put,sI,sZ,sS]
    refine wpAny_take (i:=13) (v:=undef) rfl (by kernel_rfl) (by kernel_rfl) (by kernel_rfl) (fun _ _ _ h=>h) (Or.inr ⟨by kernel_rfl,rfl⟩) ?_
    try simp only [Act.put,sI,sZ,sS]
    refine wpAny_take (i:=14) (v:=.bool false) rfl (by kernel_rfl) (by kernel_rfl) (by kernel_rfl) (fun _ _ _ h=>h) (Or.inl ⟨by rfl,fun W=>by go_simp⟩) ?_
    try simp only [Act.put,sI,sZ,sS]
    refine wpAny_take (i:=15) (v:=.bool false) rfl (by kernel_rfl) (by kernel_rfl) (by kernel_rfl) (fun _ _ _ h=>h) (Or.inl ⟨by rfl,fun W=>by go_simp⟩) ?_
    try simp only [Act.put,sI,sZ,sS]
    simp only [Act.put,List.getElem_toArray,List.getElem_cons_succ,List.getElem_cons_zero,sI,sZ,sS]
    refine wpAny_done (by kernel_rfl) ?_ _
    go_wp2_with fail
    all_goals (refine bodyPost_ret (v:=.bool false) (by simp [results,Tryz.results12,go_sem]) rfl ?_)
    all_goals (exact ⟨by rw [HE'.out],U2.drew.only on5 (by simp;omega)⟩)
   | some t =>
    rw [show walkB (r,x) 64 r 1 ⟨#[]⟩ ⟨#[]⟩ ([],none)=some t from hwt] at CW
    have HE:=Hd (show R=decide (t.1.length=x.length) by rw [HR.out,hwt])
    clear HR hwt
    by_cases hq:t.1.length=x.length
    ·have hq1:((t.1.length:Int)==(x.length:Int))=true:=beq_iff_eq.2 (by omega)
     have HE':=Hd (show R=true by rw [HE.out,decide_eq_true hq])
     clear HE hq
     first | (go_region_with (go_at_call 29;refine CW.out.mono ?_;rintro e w5 h5;obtain ⟨rfl,on5,M5,cM5,bl5,R5,_⟩:=h5.yes;have kT5:=(kT2.drew).only on5 (show w.heap.size∉[wr.heap.size] by simp;omega);have gT5:w5.cell? ⟨w.heap.size,1,none⟩=some (.slice A0 x.length c0):=kT5.cell 1;have gw5:w5.cell? ⟨wr.heap.size,2,none⟩=some (.slice M5 t.1.length cM5):=R5.kw.cell 2)) | fail
     all_goals (go_wp2_with fail)
     all_goals (refine bodyPost_ret (v:=.bool true) (by simp [results,Tryz.results12,go_sem]) rfl ?_)
     all_goals (exact ⟨by rw [HE'.out],U2.drew.only on5 (by simp;omega)⟩)
    ·have hq1:((t.1.length:Int)==(x.length:Int))=false:=beq_eq_false_iff_ne.2 (by omega)
     have hq2:¬(t.1.length:Int)=(x.length:Int):=by omega
     have HE':=Hd (show R=false by rw [HE.out,decide_eq_false hq])
     clear HE
     first | (go_region_with (go_at_call 29;refine CW.out.mono ?_;rintro e w5 h5;obtain ⟨rfl,on5,M5,cM5,bl5,R5,_⟩:=h5.yes;have kT5:=(kT2.drew).only on5 (show w.heap.size∉[wr.heap.size] by simp;omega);have gT5:w5.cell? ⟨w.heap.size,1,none⟩=some (.slice A0 x.length c0):=kT5.cell 1;have gw5:w5.cell? ⟨wr.heap.size,2,none⟩=some (.slice M5 t.1.length cM5):=R5.kw.cell 2)) | fail
     all_goals (go_wp2_with fail)
     all_goals (refine bodyPost_ret (v:=.bool false) (by simp [results,Tryz.results12,go_sem]) rfl ?_)
     all_goals (exact ⟨by rw [HE'.out],U2.drew.only on5 (by simp;omega)⟩)
theorem cs_BtreeOk (v:Value) (y:TBtree) (w:World) (h:AV shBtree w v y) (hn:shBtree.sz y≤1048576):Calls Tryz.prog 12 #[v] w (RetV (.bool (btreeB y)) w):=c_specBtreeOk v y w h hn
theorem ci_BtreeOk (v:Value) (y:TBtree) (w:World) (h:AV shBtree w v y) (hn:shBtree.sz y≤1048576) (htab:Tab w) (hm:MaxL w):Calls Tryz.prog 17 #[v] w (RetV (.bool (btreeB y)) w):=c_implBtreeOk v y w h hn htab hm
end Go.Proofs.YtojmcmghmnfjeaaGreatDoor
