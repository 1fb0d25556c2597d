/-
 Parts of the proof.
-/
import Derived.Test.YtojmcmghmnfjeaaGreatDoorM1Wdg
import Derived.Test.YtojmcmghmnfjeaaGreatDoorM1Yl
set_option maxHeartbeats 4000000
set_option maxRecDepth 100000
namespace Go.Proofs.YtojmcmghmnfjeaaGreatDoor
open Go.RowKit
set_option linter.unusedVariables false
set_option linter.unusedSimpArgs false
theorem cinfo_StrY:(Tryz.prog.info? 9).map (fun i=>(i.zero,i.size,i.bytes))=some (some (.string ⟨#[]⟩),1,16):=by kernel_rfl
theorem cinfo_IntY:(Tryz.prog.info? 2).map (fun i=>(i.zero,i.size,i.bytes))=some (some (.int .i64 0),1,8):=by kernel_rfl
theorem c_l16Remove (xs:List ByteArray) (A:Option Addr) (c at_:Nat) (w:World) (h:SRW shS w A c xs) (hat:at_<xs.length) (hl:xs.length≤1000):Calls Tryz.prog 35 #[.slice A xs.length c,.int .i64 at_] w (ToL shS (remAt xs at_) w):=by
 obtain ⟨i0,hi0,hz0,hz1,hz2⟩:=info_parts cinfo_StrY
 have hcl:=h.1
 have hcm:=h.2.1
 obtain ⟨g,off,hA,_,hg,_⟩:=h.2.2 (by omega)
 subst hA
 obtain ⟨b,hb⟩:∃b,b=at_+1:=⟨_,rfl⟩
 have hw1:IntKind.i64.wrap ((at_:Int)+1)=(b:Int):=by rw [IntWalk.i64_in _ (by omega)];omega
 have hle1:(b:Int)≤xs.length:=by omega
 have hle1n:b≤xs.length:=by omega
 have hle2:(xs.length:Int)≤c:=by omega
 have hle0:(at_:Int)≤c:=by omega
 have hge0:(0:Int)≤at_:=by omega
 have hgeb:(0:Int)≤b:=by omega
 obtain ⟨X1,hX1⟩:∃X1,X1=xs.take at_:=⟨_,rfl⟩
 obtain ⟨X2,hX2⟩:∃X2,X2=xs.drop b:=⟨_,rfl⟩
 have HR:Hid (remAt xs at_=X1++X2):=Hd (by rw [hX1,hX2,hb];rfl)
 have hX1l:X1.length=at_:=by rw [hX1,List.length_take];omega
 have hX2l:X2.length=xs.length-b:=by rw [hX2,List.length_drop]
 have HX1:=Hd hX1
 have HX2:=Hd hX2
 have uE:Up w (w.alloc (.cells #[] 9)):=(Up.refl w).alloc _
 have uF:Up w ((w.alloc (.cells #[] 9)).drew):=((Up.refl w).alloc _).drew
 have uD:Up w (w.drew.alloc (.cells #[] 9)):=(Up.refl w).drew.alloc _
 have sr1:∀W,Up w W→SRW shS W (some ⟨g,off,none⟩) c X1:=fun W u=>by rw [HX1.out];exact SR.take (h.up good_S u) (by omega)
 have hb1:X1.length*i0.bytes≤140737488355328:=by rw [hz2,hX1l];omega
 have hb3:(X1.length+X2.length)*i0.bytes≤140737488355328:=by rw [hz2,hX1l,hX2l];omega
 have hm3:X1.length+X2.length≤maxLen:=by rw [hX1l,hX2l];unfold maxLen;omega
 have HS:=Hd h
 clear hX1 hX2 h hb
 by_cases hck:c=b
 ·subst hck
  have sr2:∀W,Up w W→SRW shS W (some ⟨g,off,none⟩) 0 X2:=fun W u=>by have e:X2=[]:=List.eq_nil_of_length_eq_zero (by omega);rw [e];exact SR.dropAll (by omega)
  go_enter Tryz.func35,Tryz.ntmps35
  go_wp2_with fail
  go_region_held3 (fun W=>True) (trivial)
   (first
    | (refine step_app_new good_S flat_S rfl _ _ _ 9 rfl i0 _ Tryz.underlying52 hi0 hz0 hz1 (by rfl) rfl (by rw [hX1l];rfl) (sr1 _ (by first | with_reducible exact uD | with_reducible exact uE | with_reducible exact uF)) hb1 ?_
       intro D1 d1 bl1 w3 so1 nd1 u3
       have uw3:Up w w3:=by first | with_reducible exact uD.trans u3 | with_reducible exact uE.trans u3 | with_reducible exact uF.trans u3
       have hin1:∀y∈bl1,w.heap.size≤y:=fun y hy=>by have h1:=(so1.in_ good_S y hy).1;have h2:=uD.size;have h3:=uE.size;have h4:=uF.size;omega
       have so1':=so1.wide good_S (lo':=w.heap.size) (by first | with_reducible exact uD.size | with_reducible exact uE.size | with_reducible exact uF.size) (Nat.le_refl _)
       obtain ⟨news,hsrc,hrw⟩:=(sr2 w3 uw3).src (lo:=w.heap.size) (hi:=w3.heap.size) good_S flat_S (e':=9) (tx:=52) Tryz.underlying52 (n:=i0.size) hz1
       have nd1':(bl1++(List.replicate X2.length ([]:List Nat)).flatten).Nodup:=by simpa [flat_nilU] using nd1)
    | (refine step_app good_S rfl _ _ _ _ 9 rfl i0 _ Tryz.underlying52 hi0 hz0 hz1 (by rfl) (lo:=w.heap.size) (xs:=X1) (ys:=X2) (bl:=bl1) (bs:=List.replicate X2.length []) (news:=news) (by rw [hX1l];rfl) (by first | (rw [hX2l];rfl) | (rw [show X2.length=0 by omega];rfl)) so1' nd1' hsrc hrw uw3.size hb3 hm3 ?_
       intro D2 d2 bl2 w4 hap
       obtain ⟨so2,nd2,mem2,on2⟩:=hap
       have uw4:Up w w4:=Up.only uw3 on2 (fun y hy=>hin1 y hy)))
  all_goals
   go_wp2_with fail
   go_ret
   have key:∀n,n=(X1++X2).length→ToL shS (X1++X2) w (.returned (.slice D2 n d2)) w4:=fun n hn=>by rw [hn];exact ⟨D2,d2,bl2,rfl,so2,nd2,uw4⟩
   rw [HR.out]
   exact key _ (by simp [hX1l,hX2l] <;> omega)
 ·have sr2:∀W,Up w W→SRW shS W (some ⟨g,off+b,none⟩) (c-b) X2:=fun W u=>by have q:=(HS.out.up good_S u).dropN (a:=b) hle1n;have e:b*shS.size=b:=Nat.mul_one b;rw [e] at q;rw [HX2.out];exact q
  go_enter Tryz.func35,Tryz.ntmps35
  go_wp2_with fail
  go_region_held3 (fun W=>True) (trivial)
   (first
    | (refine step_app_new good_S flat_S rfl _ _ _ 9 rfl i0 _ Tryz.underlying52 hi0 hz0 hz1 (by rfl) rfl (by rw [hX1l];rfl) (sr1 _ (by first | with_reducible exact uD | with_reducible exact uE | with_reducible exact uF)) hb1 ?_
       intro D1 d1 bl1 w3 so1 nd1 u3
       have uw3:Up w w3:=by first | with_reducible exact uD.trans u3 | with_reducible exact uE.trans u3 | with_reducible exact uF.trans u3
       have hin1:∀y∈bl1,w.heap.size≤y:=fun y hy=>by have h1:=(so1.in_ good_S y hy).1;have h2:=uD.size;have h3:=uE.size;have h4:=uF.size;omega
       have so1':=so1.wide good_S (lo':=w.heap.size) (by first | with_reducible exact uD.size | with_reducible exact uE.size | with_reducible exact uF.size) (Nat.le_refl _)
       obtain ⟨news,hsrc,hrw⟩:=(sr2 w3 uw3).src (lo:=w.heap.size) (hi:=w3.heap.size) good_S flat_S (e':=9) (tx:=52) Tryz.underlying52 (n:=i0.size) hz1
       have nd1':(bl1++(List.replicate X2.length ([]:List Nat)).flatten).Nodup:=by simpa [flat_nilU] using nd1)
    | (refine step_app good_S rfl _ _ _ _ 9 rfl i0 _ Tryz.underlying52 hi0 hz0 hz1 (by rfl) (lo:=w.heap.size) (xs:=X1) (ys:=X2) (bl:=bl1) (bs:=List.replicate X2.length []) (news:=news) (by rw [hX1l];rfl) (by first | (rw [hX2l];rfl) | (rw [show X2.length=0 by omega];rfl)) so1' nd1' hsrc hrw uw3.size hb3 hm3 ?_
       intro D2 d2 bl2 w4 hap
       obtain ⟨so2,nd2,mem2,on2⟩:=hap
       have uw4:Up w w4:=Up.only uw3 on2 (fun y hy=>hin1 y hy)))
  all_goals
   go_wp2_with fail
   go_ret
   have key:∀n,n=(X1++X2).length→ToL shS (X1++X2) w (.returned (.slice D2 n d2)) w4:=fun n hn=>by rw [hn];exact ⟨D2,d2,bl2,rfl,so2,nd2,uw4⟩
   rw [HR.out]
   exact key _ (by simp [hX1l,hX2l] <;> omega)
theorem c_l16Insert0 (xs:List ByteArray) (A:Option Addr) (c:Nat) (x:ByteArray) (w:World) (h:SRW shS w A c xs) (hpos:0<xs.length) (hl:xs.length≤1000) (hx:x.size≤maxLen):Calls Tryz.prog 99 #[.slice A xs.length c,.int .i64 0,.string x] w (ToL shS (x::xs) w):=by
 obtain ⟨i0,hi0,hz0,hz1,hz2⟩:=info_parts cinfo_StrY
 have hcl:=h.1
 have hcm:=h.2.1
 obtain ⟨g,off,hA,_,hg,_⟩:=h.2.2 hpos
 subst hA
 have hle2:(xs.length:Int)≤c:=by omega
 have hge2:(0:Int)≤c:=by omega
 have hge3:(0:Int)≤xs.length:=by omega
 have hc0:¬c=0:=by omega
 have uE:Up w (w.alloc (.cells #[] 9)):=(Up.refl w).alloc _
 have zE:(w.alloc (.cells #[] 9)).heap.size=w.heap.size+1:=by simp
 have sr0:SRW shS (w.alloc (.cells #[] 9)) (some ⟨g,off,none⟩) c []:=SR.dropAll hcm
 have hb1:([]:List ByteArray).length*i0.bytes≤140737488355328:=by simp
 have hb2:(([]:List ByteArray).length+1)*i0.bytes≤140737488355328:=by rw [hz2];simp
 have hb3:([x].length+xs.length)*i0.bytes≤140737488355328:=by rw [hz2];simp;omega
 have hm2:([]:List ByteArray).length+1≤maxLen:=by simp;unfold maxLen;omega
 have hm3:[x].length+xs.length≤maxLen:=by simp;unfold maxLen;omega
 have HS:=Hd h
 clear h
 go_enter Tryz.func99,Tryz.ntmps99
 go_wp2_with (first
  | (at_builtin
     refine wpList_app_new good_S flat_S rfl _ _ _ 9 rfl i0 _ Tryz.underlying52 hi0 hz0 hz1 (by rfl) rfl (by rfl) sr0 hb1 ?_
     intro D1 d1 bl1 w3 so1 nd1 u3
     have uw3:=uE.trans u3
     have hin1:∀y∈bl1,w.heap.size≤y:=fun y hy=>by have h1:=(so1.in_ good_S y hy).1;omega
     have so1':=((so1.up good_S ((Up.refl w3).alloc (.cells #[.string x] 9))).wide good_S (lo':=w.heap.size) (by omega) (Nat.le_refl _))
     have kb3:=Bk.new w3 9 #[.string x]
     have uw4:=uw3.alloc (.cells #[.string x] 9)
     have ho:shS.own (w3.alloc (.cells #[.string x] 9)) w.heap.size (w3.alloc (.cells #[.string x] 9)).heap.size [.string x] x []:=⟨⟨rfl,hx⟩,rfl⟩
     have nd1':(bl1++[([]:List Nat)].flatten).Nodup:=by simpa using nd1)
  | (at_builtin
     refine wpList_app good_S rfl _ _ _ _ 9 rfl i0 _ Tryz.underlying52 hi0 hz0 hz1 (by rfl) (lo:=w.heap.size) (xs:=[]) (ys:=[x]) (bl:=bl1) (bs:=[[]]) (news:=[.string x]) rfl rfl so1' nd1' (Src.box (t:=9) Tryz.underlying52 kb3 (by simp [Value.oneCell']) (by rw [hz1];rfl)) (Rowed.one good_S ho) uw4.size hb2 hm2 ?_
     intro D2 d2 bl2 w5 hap
     obtain ⟨so2,nd2,mem2,on2⟩:=hap
     have hin2:∀y∈bl2,w.heap.size≤y:=fun y hy=>by
      rcases mem2 y hy with h | h
      ·exact hin1 y (by simpa using h)
      ·have:=uw4.size;omega
     have uw5:Up w w5:=Up.only uw4 on2 (fun y hy=>hin1 y hy)
     obtain ⟨news,hsrc,hrw⟩:=(HS.out.up good_S uw5).src (lo:=w.heap.size) (hi:=w5.heap.size) good_S flat_S (e':=9) (tx:=52) Tryz.underlying52 (n:=i0.size) hz1
     have nd2':(bl2++(List.replicate xs.length ([]:List Nat)).flatten).Nodup:=by simpa [flat_nilU] using nd2)
  | (at_builtin
     refine wpList_app good_S rfl _ _ _ _ 9 rfl i0 _ Tryz.underlying52 hi0 hz0 hz1 (by rfl) (lo:=w.heap.size) (xs:=[x]) (ys:=xs) (bl:=bl2) (bs:=List.replicate xs.length []) (news:=news) rfl (by rfl) so2 nd2' hsrc hrw uw5.size hb3 hm3 ?_
     intro D3 d3 bl3 w6 hap3
     obtain ⟨so3,nd3,mem3,on3⟩:=hap3
     have uw6:Up w w6:=Up.only uw5 on3 (fun y hy=>hin2 y hy)))
 go_ret
 have key:∀n,n=(x::xs).length→ToL shS (x::xs) w (.returned (.slice D3 n d3)) w6:=fun n hn=>by rw [hn];exact ⟨D3,d3,bl3,rfl,so3,nd3,uw6⟩
 exact key _ (by simp <;> omega)
theorem c_l16RemoveId (xs:List Int) (A:Option Addr) (c at_:Nat) (w:World) (h:SRW shI w A c xs) (hat:at_<xs.length) (hl:xs.length≤1000):Calls Tryz.prog 69 #[.slice A xs.length c,.int .i64 at_] w (ToL shI (remAt xs at_) w):=by
 obtain ⟨i0,hi0,hz0,hz1,hz2⟩:=info_parts cinfo_IntY
 have hcl:=h.1
 have hcm:=h.2.1
 obtain ⟨g,off,hA,_,hg,_⟩:=h.2.2 (by omega)
 subst hA
 obtain ⟨b,hb⟩:∃b,b=at_+1:=⟨_,rfl⟩
 have hw1:IntKind.i64.wrap ((at_:Int)+1)=(b:Int):=by rw [IntWalk.i64_in _ (by omega)];omega
 have hle1:(b:Int)≤xs.length:=by omega
 have hle1n:b≤xs.length:=by omega
 have hle2:(xs.length:Int)≤c:=by omega
 have hle0:(at_:Int)≤c:=by omega
 have hge0:(0:Int)≤at_:=by omega
 have hgeb:(0:Int)≤b:=by omega
 obtain ⟨X1,hX1⟩:∃X1,X1=xs.take at_:=⟨_,rfl⟩
 obtain ⟨X2,hX2⟩:∃X2,X2=xs.drop b:=⟨_,rfl⟩
 have HR:Hid (remAt xs at_=X1++X2):=Hd (by rw [hX1,hX2,hb];rfl)
 have hX1l:X1.length=at_:=by rw [hX1,List.length_take];omega
 have hX2l:X2.length=xs.length-b:=by rw [hX2,List.length_drop]
 have HX1:=Hd hX1
 have HX2:=Hd hX2
 have uE:Up w (w.alloc (.cells #[] 2)):=(Up.refl w).alloc _
 have uF:Up w ((w.alloc (.cells #[] 2)).drew):=((Up.refl w).alloc _).drew
 have uD:Up w (w.drew.alloc (.cells #[] 2)):=(Up.refl w).drew.alloc _
 have sr1:∀W,Up w W→SRW shI W (some ⟨g,off,none⟩) c X1:=fun W u=>by rw [HX1.out];exact SR.take (h.up good_I u) (by omega)
 have hb1:X1.length*i0.bytes≤140737488355328:=by rw [hz2,hX1l];omega
 have hb3:(X1.length+X2.length)*i0.bytes≤140737488355328:=by rw [hz2,hX1l,hX2l];omega
 have hm3:X1.length+X2.length≤maxLen:=by rw [hX1l,hX2l];unfold maxLen;omega
 have HS:=Hd h
 clear hX1 hX2 h hb
 by_cases hck:c=b
 ·subst hck
  have sr2:∀W,Up w W→SRW shI W (some ⟨g,off,none⟩) 0 X2:=fun W u=>by have e:X2=[]:=List.eq_nil_of_length_eq_zero (by omega);rw [e];exact SR.dropAll (by omega)
  go_enter Tryz.func69,Tryz.ntmps69
  go_wp2_with fail
  go_region_held3 (fun W=>True) (trivial)
   (first
    | (refine step_app_new good_I flat_I rfl _ _ _ 2 rfl i0 _ Tryz.underlying53 hi0 hz0 hz1 (by rfl) rfl (by rw [hX1l];rfl) (sr1 _ (by first | with_reducible exact uD | with_reducible exact uE | with_reducible exact uF)) hb1 ?_
       intro D1 d1 bl1 w3 so1 nd1 u3
       have uw3:Up w w3:=by first | with_reducible exact uD.trans u3 | with_reducible exact uE.trans u3 | with_reducible exact uF.trans u3
       have hin1:∀y∈bl1,w.heap.size≤y:=fun y hy=>by have h1:=(so1.in_ good_I y hy).1;have h2:=uD.size;have h3:=uE.size;have h4:=uF.size;omega
       have so1':=so1.wide good_I (lo':=w.heap.size) (by first | with_reducible exact uD.size | with_reducible exact uE.size | with_reducible exact uF.size) (Nat.le_refl _)
       obtain ⟨news,hsrc,hrw⟩:=(sr2 w3 uw3).src (lo:=w.heap.size) (hi:=w3.heap.size) good_I flat_I (e':=2) (tx:=53) Tryz.underlying53 (n:=i0.size) hz1
       have nd1':(bl1++(List.replicate X2.length ([]:List Nat)).flatten).Nodup:=by simpa [flat_nilU] using nd1)
    | (refine step_app good_I rfl _ _ _ _ 2 rfl i0 _ Tryz.underlying53 hi0 hz0 hz1 (by rfl) (lo:=w.heap.size) (xs:=X1) (ys:=X2) (bl:=bl1) (bs:=List.replicate X2.length []) (news:=news) (by rw [hX1l];rfl) (by first | (rw [hX2l];rfl) | (rw [show X2.length=0 by omega];rfl)) so1' nd1' hsrc hrw uw3.size hb3 hm3 ?_
       intro D2 d2 bl2 w4 hap
       obtain ⟨so2,nd2,mem2,on2⟩:=hap
       have uw4:Up w w4:=Up.only uw3 on2 (fun y hy=>hin1 y hy)))
  all_goals
   go_wp2_with fail
   go_ret
   have key:∀n,n=(X1++X2).length→ToL shI (X1++X2) w (.returned (.slice D2 n d2)) w4:=fun n hn=>by rw [hn];exact ⟨D2,d2,bl2,rfl,so2,nd2,uw4⟩
   rw [HR.out]
   exact key _ (by simp [hX1l,hX2l] <;> omega)
 ·have sr2:∀W,Up w W→SRW shI W (some ⟨g,off+b,none⟩) (c-b) X2:=fun W u=>by have q:=(HS.out.up good_I u).dropN (a:=b) hle1n;have e:b*shI.size=b:=Nat.mul_one b;rw [e] at q;rw [HX2.out];exact q
  go_enter Tryz.func69,Tryz.ntmps69
  go_wp2_with fail
  go_region_held3 (fun W=>True) (trivial)
   (first
    | (refine step_app_new good_I flat_I rfl _ _ _ 2 rfl i0 _ Tryz.underlying53 hi0 hz0 hz1 (by rfl) rfl (by rw [hX1l];rfl) (sr1 _ (by first | with_reducible exact uD | with_reducible exact uE | with_reducible exact uF)) hb1 ?_
       intro D1 d1 bl1 w3 so1 nd1 u3
       have uw3:Up w w3:=by first | with_reducible exact uD.trans u3 | with_reducible exact uE.trans u3 | with_reducible exact uF.trans u3
       have hin1:∀y∈bl1,w.heap.size≤y:=fun y hy=>by have h1:=(so1.in_ good_I y hy).1;have h2:=uD.size;have h3:=uE.size;have h4:=uF.size;omega
       have so1':=so1.wide good_I (lo':=w.heap.size) (by first | with_reducible exact uD.size | with_reducible exact uE.size | with_reducible exact uF.size) (Nat.le_refl _)
       obtain ⟨news,hsrc,hrw⟩:=(sr2 w3 uw3).src (lo:=w.heap.size) (hi:=w3.heap.size) good_I flat_I (e':=2) (tx:=53) Tryz.underlying53 (n:=i0.size) hz1
       have nd1':(bl1++(List.replicate X2.length ([]:List Nat)).flatten).Nodup:=by simpa [flat_nilU] using nd1)
    | (refine step_app good_I rfl _ _ _ _ 2 rfl i0 _ Tryz.underlying53 hi0 hz0 hz1 (by rfl) (lo:=w.heap.size) (xs:=X1) (ys:=X2) (bl:=bl1) (bs:=List.replicate X2.length []) (news:=news) (by rw [hX1l];rfl) (by first | (rw [hX2l];rfl) | (rw [show X2.length=0 by omega];rfl)) so1' nd1' hsrc hrw uw3.size hb3 hm3 ?_
       intro D2 d2 bl2 w4 hap
       obtain ⟨so2,nd2,mem2,on2⟩:=hap
       have uw4:Up w w4:=Up.only uw3 on2 (fun y hy=>hin1 y hy)))
  all_goals
   go_wp2_with fail
   go_ret
   have key:∀n,n=(X1++X2).length→ToL shI (X1++X2) w (.returned (.slice D2 n d2)) w4:=fun n hn=>by rw [hn];exact ⟨D2,d2,bl2,rfl,so2,nd2,uw4⟩
   rw [HR.out]
   exact key _ (by simp [hX1l,hX2l] <;> omega)
theorem c_l16InsertId0 (xs:List Int) (A:Option Addr) (c:Nat) (x:Int) (w:World) (h:SRW shI w A c xs) (hpos:0<xs.length) (hl:xs.length≤1000) (hx:I64 x):Calls Tryz.prog 100 #[.slice A xs.length c,.int .i64 0,.int .i64 x] w (ToL shI (x::xs) w):=by
 obtain ⟨i0,hi0,hz0,hz1,hz2⟩:=info_parts cinfo_IntY
 have hcl:=h.1
 have hcm:=h.2.1
 obtain ⟨g,off,hA,_,hg,_⟩:=h.2.2 hpos
 subst hA
 have hle2:(xs.length:Int)≤c:=by omega
 have hge2:(0:Int)≤c:=by omega
 have hge3:(0:Int)≤xs.length:=by omega
 have hc0:¬c=0:=by omega
 have uE:Up w (w.alloc (.cells #[] 2)):=(Up.refl w).alloc _
 have zE:(w.alloc (.cells #[] 2)).heap.size=w.heap.size+1:=by simp
 have sr0:SRW shI (w.alloc (.cells #[] 2)) (some ⟨g,off,none⟩) c []:=SR.dropAll hcm
 have hb1:([]:List Int).length*i0.bytes≤140737488355328:=by simp
 have hb2:(([]:List Int).length+1)*i0.bytes≤140737488355328:=by rw [hz2];simp
 have hb3:([x].length+xs.length)*i0.bytes≤140737488355328:=by rw [hz2];simp;omega
 have hm2:([]:List Int).length+1≤maxLen:=by simp;unfold maxLen;omega
 have hm3:[x].length+xs.length≤maxLen:=by simp;unfold maxLen;omega
 have HS:=Hd h
 clear h
 go_enter Tryz.func100,Tryz.ntmps100
 go_wp2_with (first
  | (at_builtin
     refine wpList_app_new good_I flat_I rfl _ _ _ 2 rfl i0 _ Tryz.underlying53 hi0 hz0 hz1 (by rfl) rfl (by rfl) sr0 hb1 ?_
     intro D1 d1 bl1 w3 so1 nd1 u3
     have uw3:=uE.trans u3
     have hin1:∀y∈bl1,w.heap.size≤y:=fun y hy=>by have h1:=(so1.in_ good_I y hy).1;omega
     have so1':=((so1.up good_I ((Up.refl w3).alloc (.cells #[.int .i64 x] 2))).wide good_I (lo':=w.heap.size) (by omega) (Nat.le_refl _))
     have kb3:=Bk.new w3 2 #[.int .i64 x]
     have uw4:=uw3.alloc (.cells #[.int .i64 x] 2)
     have ho:shI.own (w3.alloc (.cells #[.int .i64 x] 2)) w.heap.size (w3.alloc (.cells #[.int .i64 x] 2)).heap.size [.int .i64 x] x []:=⟨⟨rfl,hx⟩,rfl⟩
     have nd1':(bl1++[([]:List Nat)].flatten).Nodup:=by simpa using nd1)
  | (at_builtin
     refine wpList_app good_I rfl _ _ _ _ 2 rfl i0 _ Tryz.underlying53 hi0 hz0 hz1 (by rfl) (lo:=w.heap.size) (xs:=[]) (ys:=[x]) (bl:=bl1) (bs:=[[]]) (news:=[.int .i64 x]) rfl rfl so1' nd1' (Src.box (t:=2) Tryz.underlying53 kb3 (by simp [Value.oneCell']) (by rw [hz1];rfl)) (Rowed.one good_I ho) uw4.size hb2 hm2 ?_
     intro D2 d2 bl2 w5 hap
     obtain ⟨so2,nd2,mem2,on2⟩:=hap
     have hin2:∀y∈bl2,w.heap.size≤y:=fun y hy=>by
      rcases mem2 y hy with h | h
      ·exact hin1 y (by simpa using h)
      ·have:=uw4.size;omega
     have uw5:Up w w5:=Up.only uw4 on2 (fun y hy=>hin1 y hy)
     obtain ⟨news,hsrc,hrw⟩:=(HS.out.up good_I uw5).src (lo:=w.heap.size) (hi:=w5.heap.size) good_I flat_I (e':=2) (tx:=53) Tryz.underlying53 (n:=i0.size) hz1
     have nd2':(bl2++(List.replicate xs.length ([]:List Nat)).flatten).Nodup:=by simpa [flat_nilU] using nd2)
  | (at_builtin
     refine wpList_app good_I rfl _ _ _ _ 2 rfl i0 _ Tryz.underlying53 hi0 hz0 hz1 (by rfl) (lo:=w.heap.size) (xs:=[x]) (ys:=xs) (bl:=bl2) (bs:=List.replicate xs.length []) (news:=news) rfl (by rfl) so2 nd2' hsrc hrw uw5.size hb3 hm3 ?_
     intro D3 d3 bl3 w6 hap3
     obtain ⟨so3,nd3,mem3,on3⟩:=hap3
     have uw6:Up w w6:=Up.only uw5 on3 (fun y hy=>hin2 y hy)))
 go_ret
 have key:∀n,n=(x::xs).length→ToL shI (x::xs) w (.returned (.slice D3 n d3)) w6:=fun n hn=>by rw [hn];exact ⟨D3,d3,bl3,rfl,so3,nd3,uw6⟩
 exact key _ (by simp <;> omega)
def RowP {α:Type} (s:Sh α) (g:Nat) (w:World) (A:Option Addr) (c:Nat) (xs:List α):Prop:=∀V,Only [g] w V→SRW s V A c xs
theorem RowP.sr {α:Type} {s:Sh α} {g:Nat} {w:World} {A:Option Addr} {c:Nat} {xs:List α} (h:RowP s g w A c xs):SRW s w A c xs:=h w (Only.refl _ _)
theorem RowP.of_own {α:Type} {s:Sh α} (hg:Good s) {g lo:Nat} {w:World} {A:Option Addr} {c:Nat} {xs:List α} {bl:List Nat} (h:SO s w lo w.heap.size A c xs bl) (hn:g∉bl):RowP s g w A c xs:=fun V kv=>((RowK.of_own hg h hn).go hg kv).sr
theorem PgK.rows {g:Nat} {w:World} {v:Value} {p:TPage} (h:PgK g w v p):∃(A1:Option Addr) (c1:Nat) (A2:Option Addr) (c2:Nat) (A3:Option Addr) (c3:Nat),v=.agg #[.bool p.1,.slice A1 p.2.1.length c1,.slice A2 p.2.2.1.length c2,.slice A3 p.2.2.2.length c3]∧RowP shS g w A1 c1 p.2.1∧RowP shS g w A2 c2 p.2.2.1∧RowP shI g w A3 c3 p.2.2.2:=by
 obtain ⟨cs,rfl,hr⟩:=h
 obtain ⟨A1,c1,A2,c2,A3,c3,rfl,_,_,_⟩:=openPage (hr w (Only.refl _ _))
 have key:∀V,Only [g] w V→SRW shS V A1 c1 p.2.1∧SRW shS V A2 c2 p.2.2.1∧SRW shI V A3 c3 p.2.2.2:=fun V kv=>by
  obtain ⟨B1,d1,B2,d2,B3,d3,e,h1,h2,h3⟩:=openPage (hr V kv)
  simp only [List.cons.injEq,Value.slice.injEq,true_and,and_true] at e
  obtain ⟨⟨rfl,rfl⟩,⟨rfl,rfl⟩,rfl,rfl⟩:=e
  exact ⟨h1,h2,h3⟩
 exact ⟨A1,c1,A2,c2,A3,c3,rfl,fun V kv=>(key V kv).1,fun V kv=>(key V kv).2.1,fun V kv=>(key V kv).2.2⟩
theorem PgK.of_rows {g:Nat} {w:World} {p:TPage} {A1:Option Addr} {c1:Nat} {A2:Option Addr} {c2:Nat} {A3:Option Addr} {c3:Nat} (h1:RowP shS g w A1 c1 p.2.1) (h2:RowP shS g w A2 c2 p.2.2.1) (h3:RowP shI g w A3 c3 p.2.2.2):PgK g w (.agg #[.bool p.1,.slice A1 p.2.1.length c1,.slice A2 p.2.2.1.length c2,.slice A3 p.2.2.2.length c3]) p :=
 ⟨[.bool p.1,.slice A1 p.2.1.length c1,.slice A2 p.2.2.1.length c2,.slice A3 p.2.2.2.length c3],rfl,fun V kv=>mkPage (h1 V kv) (h2 V kv) (h3 V kv)⟩
theorem results_bkk {P:Program} {fn:Func} {tmps:Array Value} {w:World} {g1 g2:Nat} {t1 t2:TypeId} {C1 C2:Array Value} (k1:Bk w g1 t1 C1) (k2:Bk w g2 t2 C2) (n m q:Nat) (ty:TypeId) {d:TypeDesc} {v:Value} (hr:fn.results=#[.cell n ty,.cell m ty,.tmp q]) (ht1:tmps.getD n undef=.pointer (some ⟨g1,0,none⟩)) (ht2:tmps.getD m undef=.pointer (some ⟨g2,0,none⟩)) (hv:tmps.getD q undef=v)
 (hu:P.underlying ty=some d) (hd:d.isRow=true) (hi1:(P.info? ty).map (·.size)=some C1.size) (hi2:(P.info? ty).map (·.size)=some C2.size):(results fn tmps).run P w=.ok (.tuple #[.agg C1,.agg C2,v]) w:=by
 have h1:=run_loadVar_bk (P:=P) k1 ty hu hd hi1
 have h2:=run_loadVar_bk (P:=P) k2 ty hu hd hi2
 unfold results
 rw [hr]
 simp only [List.mapM_toArray,List.mapM_cons,List.mapM_nil,ht1,ht2,hv,asAddr,Sem.run_bind,Sem.run_pure,Result.andThen_ok,h1,h2,pure_bind,map_pure,Sem.run_map]
 simp [h1,h2]
end Go.Proofs.YtojmcmghmnfjeaaGreatDoor
