/-
 Parts of the proof.
-/
import Derived.Test.YtojmcmghmnfjeaaGreatDoorM1Leg
set_option maxHeartbeats 4000000
set_option maxRecDepth 100000
namespace Go.Proofs.YtojmcmghmnfjeaaGreatDoor
open Go.RowKit
set_option linter.unusedVariables false
set_option linter.unusedSimpArgs false
theorem c_heldStringS (xs:List ByteArray) (A:Option Addr) (c:Nat) (k:Int) (w:World) (h:SRW shS w A c xs) (hm:markL mkS xs k=xs) (hk0:0<k) (hk1:k+((mkL mkS).cnt xs:Nat)≤1000000000) :
 Calls Tryz.prog 55 #[.slice A xs.length c,.int .i64 k] w (HeldP (k+((mkL mkS).cnt xs:Nat)) w):=by
 have hlen:=h.len_le
 have HM:=Hd hm;clear hm
 have hk2:k+((xs.map (mkS).cnt).sum:Nat)≤1000000000:=hk1
 clear hk1
 go_enter Tryz.func55,Tryz.ntmps55
 go_wp2_with fail
 go_loopw [1,5] (fun a b wr=>∃(i:Nat) (K:Int),i≤xs.length∧a=.int .i64 K∧b=.int .i64 i∧Hid (K=k+psum (mkS).cnt xs i)∧0<K∧K≤1000000000∧Up w wr) (fun _ b _=>xs.length-(intOf b).toNat)
 case atStart=>exact ⟨0,k,Nat.zero_le _,rfl,rfl,by unfold Hid;rw [psum_zero];simp,hk0,by omega,Up.refl _⟩
 case round =>
  obtain ⟨i,K,hii,rfl,rfl,HK,hK0,hK1,hu⟩:=hrel
  by_cases hlt:i<xs.length
  ·have hps:=psum_le (mkS).cnt xs (i+1)
   rw [psum_succ (mkS).cnt xs i hlt] at hps
   have hKb:K+((mkS).cnt xs[i]:Nat)≤1000000000:=by rw [HK.out];omega
   have HK2:Hid (K+((mkS).cnt xs[i]:Nat)=k+psum (mkS).cnt xs (i+1)):=by unfold Hid;rw [HK.out,psum_succ (mkS).cnt xs i hlt];omega
   clear hps
   have hmi:(mkS).mark xs[i] K=xs[i]:=by rw [HK.out];exact marked_at HM.out hlt
   have hKc:K+((1:Nat):Int)≤1000000000:=hKb
   have v0:(mtext (K))=xs[i]:=congrArg (fun q:ByteArray=>q) hmi
   clear hmi
   obtain ⟨g,off,rfl,_,_,hc0,b0⟩:=(h.up good_S hu).at_S hlt
   rw [←v0] at hc0
   clear v0
   go_wp2_with fail
   have t0_0:=fun t:UpT wr=>cell_up t hc0
   refine wp_region_up (by kernel_rfl) (by kernel_rfl) ?_
   repeat (go_big_quiet_step ((go_at_call 91;exact up_call (c_markText _ _ (by omega) (by omega)) (UpT.up _))))
   refine wpQuiet_nil ?_
   clear t0_0
   rintro w1 ⟨⟨_,u1⟩,rfl⟩
   try dsimp only
   have l1:=u1
   have c1_0:w1.cell? ⟨g,off+i,none⟩=some (.string (mtext (K))):=(l1.cell (cell_lt hc0)).trans hc0
   go_wp2_with fail
   have hcn:((mkS).cnt xs[i]:Nat)=1:=rfl
   have HK3:Hid (K+1=k+psum (mkS).cnt xs (i+1)):=by unfold Hid;rw [←HK2.out,hcn];omega
   have hk5:K+1≤1000000000:=by rw [hcn] at hKb;omega
   clear hcn
   go_roundw
   case rel=>exact ⟨i+1,K+1,by omega,rfl,by go_num,HK3,by omega,hk5,hu.trans l1⟩
   case measure=>simp [intOf];omega
  ·have HE:Hid (K=k+((mkL mkS).cnt xs:Nat)):=by unfold Hid;rw [HK.out];show _=k+(((xs.map (mkS).cnt).sum:Nat):Int);rw [←psum_all (mkS).cnt xs,show i=xs.length by omega]
   go_wp2_with fail
   go_ret
   exact HeldP.mk HE hu
theorem c_heldInt64S (xs:List Int) (A:Option Addr) (c:Nat) (k:Int) (w:World) (h:SRW shI w A c xs) (hm:markL mkI xs k=xs) (hk0:0<k) (hk1:k+((mkL mkI).cnt xs:Nat)≤1000000000) :
 Calls Tryz.prog 56 #[.slice A xs.length c,.int .i64 k] w (HeldP (k+((mkL mkI).cnt xs:Nat)) w):=by
 have hlen:=h.len_le
 have HM:=Hd hm;clear hm
 have hk2:k+((xs.map (mkI).cnt).sum:Nat)≤1000000000:=hk1
 clear hk1
 go_enter Tryz.func56,Tryz.ntmps56
 go_wp2_with fail
 go_loopw [1,5] (fun a b wr=>∃(i:Nat) (K:Int),i≤xs.length∧a=.int .i64 K∧b=.int .i64 i∧Hid (K=k+psum (mkI).cnt xs i)∧0<K∧K≤1000000000∧Up w wr) (fun _ b _=>xs.length-(intOf b).toNat)
 case atStart=>exact ⟨0,k,Nat.zero_le _,rfl,rfl,by unfold Hid;rw [psum_zero];simp,hk0,by omega,Up.refl _⟩
 case round =>
  obtain ⟨i,K,hii,rfl,rfl,HK,hK0,hK1,hu⟩:=hrel
  by_cases hlt:i<xs.length
  ·have hps:=psum_le (mkI).cnt xs (i+1)
   rw [psum_succ (mkI).cnt xs i hlt] at hps
   have hKb:K+((mkI).cnt xs[i]:Nat)≤1000000000:=by rw [HK.out];omega
   have HK2:Hid (K+((mkI).cnt xs[i]:Nat)=k+psum (mkI).cnt xs (i+1)):=by unfold Hid;rw [HK.out,psum_succ (mkI).cnt xs i hlt];omega
   clear hps
   have hmi:(mkI).mark xs[i] K=xs[i]:=by rw [HK.out];exact marked_at HM.out hlt
   have hKc:K+((1:Nat):Int)≤1000000000:=hKb
   have v0:(K)=xs[i]:=congrArg (fun q:Int=>q) hmi
   clear hmi
   obtain ⟨g,off,rfl,_,_,hc0,b0⟩:=(h.up good_I hu).at_I hlt
   rw [←v0] at hc0
   clear v0
   go_wp2_with fail
   have hcn:((mkI).cnt xs[i]:Nat)=1:=rfl
   have HK3:Hid (K+1=k+psum (mkI).cnt xs (i+1)):=by unfold Hid;rw [←HK2.out,hcn];omega
   have hk5:K+1≤1000000000:=by rw [hcn] at hKb;omega
   clear hcn
   go_roundw
   case rel=>exact ⟨i+1,K+1,by omega,rfl,by go_num,HK3,by omega,hk5,hu⟩
   case measure=>simp [intOf];omega
  ·have HE:Hid (K=k+((mkL mkI).cnt xs:Nat)):=by unfold Hid;rw [HK.out];show _=k+(((xs.map (mkI).cnt).sum:Nat):Int);rw [←psum_all (mkI).cnt xs,show i=xs.length by omega]
   go_wp2_with fail
   go_ret
   exact HeldP.mk HE hu
theorem c_heldSlotS (xs:List TSlot) (A:Option Addr) (c:Nat) (k:Int) (w:World) (h:SRW shSlot w A c xs) (hm:markL mmSlot xs k=xs) (hk0:0<k) (hk1:k+((mkL mmSlot).cnt xs:Nat)≤1000000000) :
 Calls Tryz.prog 25 #[.slice A xs.length c,.int .i64 k] w (HeldP (k+((mkL mmSlot).cnt xs:Nat)) w):=by
 have hlen:=h.len_le
 have HM:=Hd hm;clear hm
 have hk2:k+((xs.map (mmSlot).cnt).sum:Nat)≤1000000000:=hk1
 clear hk1
 go_enter Tryz.func25,Tryz.ntmps25
 go_wp2_with fail
 go_loopw [1,5] (fun a b wr=>∃(i:Nat) (K:Int),i≤xs.length∧a=.int .i64 K∧b=.int .i64 i∧Hid (K=k+psum (mmSlot).cnt xs i)∧0<K∧K≤1000000000∧Up w wr) (fun _ b _=>xs.length-(intOf b).toNat)
 case atStart=>exact ⟨0,k,Nat.zero_le _,rfl,rfl,by unfold Hid;rw [psum_zero];simp,hk0,by omega,Up.refl _⟩
 case round =>
  obtain ⟨i,K,hii,rfl,rfl,HK,hK0,hK1,hu⟩:=hrel
  by_cases hlt:i<xs.length
  ·have hps:=psum_le (mmSlot).cnt xs (i+1)
   rw [psum_succ (mmSlot).cnt xs i hlt] at hps
   have hKb:K+((mmSlot).cnt xs[i]:Nat)≤1000000000:=by rw [HK.out];omega
   have HK2:Hid (K+((mmSlot).cnt xs[i]:Nat)=k+psum (mmSlot).cnt xs (i+1)):=by unfold Hid;rw [HK.out,psum_succ (mmSlot).cnt xs i hlt];omega
   clear hps
   have hmi:(mmSlot).mark xs[i] K=xs[i]:=by rw [HK.out];exact marked_at HM.out hlt
   have hKc:K+((1+(1+((mkL mkS).cnt xs[i].2.2.1+((mkL mkS).cnt xs[i].2.2.2.1+((mkL mkI).cnt xs[i].2.2.2.2)))):Nat):Int)≤1000000000:=hKb
   have v0:(K)=xs[i].1:=congrArg (fun q:TSlot=>q.1) hmi
   have v1:((K+1)%3==0)=xs[i].2.1:=congrArg (fun q:TSlot=>q.2.1) hmi
   have v2:(markL mkS xs[i].2.2.1 (K+1+1))=xs[i].2.2.1:=congrArg (fun q:TSlot=>q.2.2.1) hmi
   have v3:(markL mkS xs[i].2.2.2.1 (K+1+1+((mkL mkS).cnt xs[i].2.2.1:Nat)))=xs[i].2.2.2.1:=congrArg (fun q:TSlot=>q.2.2.2.1) hmi
   have v4:(markL mkI xs[i].2.2.2.2 (K+1+1+((mkL mkS).cnt xs[i].2.2.1:Nat)+((mkL mkS).cnt xs[i].2.2.2.1:Nat)))=xs[i].2.2.2.2:=congrArg (fun q:TSlot=>q.2.2.2.2) hmi
   clear hmi
   obtain ⟨g,off,A2,c2,A3,c3,A4,c4,rfl,_,_,hc0,hc1,hc2,hc3,hc4,b0,b2,b3,b4,_⟩:=atSlot (h.up good_Slot hu) hlt
   rw [←v0] at hc0
   clear v0
   rw [←v1] at hc1
   clear v1
   have hv2:=Hd v2;clear v2
   have hv3:=Hd v3;clear v3
   have hv4:=Hd v4;clear v4
   go_wp2_with fail
   refine (c_heldStringS _ _ _ _ _ b2 hv2.out (by omega) (by omega)).mono ?_
   rintro e w1 ⟨rfl,u1⟩
   have l1:=u1
   have c1_0:w1.cell? ⟨g,off+i*5,none⟩=some (.int .i64 (K)):=(l1.cell (cell_lt hc0)).trans hc0
   have c1_1:w1.cell? ⟨g,off+i*5+1,none⟩=some (.bool ((K+1)%3==0)):=(l1.cell (cell_lt hc1)).trans hc1
   have c1_2:w1.cell? ⟨g,off+i*5+2,none⟩=some (.slice A2 xs[i].2.2.1.length c2):=(l1.cell (cell_lt hc2)).trans hc2
   have c1_3:w1.cell? ⟨g,off+i*5+3,none⟩=some (.slice A3 xs[i].2.2.2.1.length c3):=(l1.cell (cell_lt hc3)).trans hc3
   have c1_4:w1.cell? ⟨g,off+i*5+4,none⟩=some (.slice A4 xs[i].2.2.2.2.length c4):=(l1.cell (cell_lt hc4)).trans hc4
   go_wp2_with fail
   refine (c_heldStringS _ _ _ _ _ (b3.up good_S l1) hv3.out (by omega) (by omega)).mono ?_
   rintro e w2 ⟨rfl,u2⟩
   have l2:=l1.trans u2
   have c2_0:w2.cell? ⟨g,off+i*5,none⟩=some (.int .i64 (K)):=(l2.cell (cell_lt hc0)).trans hc0
   have c2_1:w2.cell? ⟨g,off+i*5+1,none⟩=some (.bool ((K+1)%3==0)):=(l2.cell (cell_lt hc1)).trans hc1
   have c2_2:w2.cell? ⟨g,off+i*5+2,none⟩=some (.slice A2 xs[i].2.2.1.length c2):=(l2.cell (cell_lt hc2)).trans hc2
   have c2_3:w2.cell? ⟨g,off+i*5+3,none⟩=some (.slice A3 xs[i].2.2.2.1.length c3):=(l2.cell (cell_lt hc3)).trans hc3
   have c2_4:w2.cell? ⟨g,off+i*5+4,none⟩=some (.slice A4 xs[i].2.2.2.2.length c4):=(l2.cell (cell_lt hc4)).trans hc4
   go_wp2_with fail
   refine (c_heldInt64S _ _ _ _ _ (b4.up good_I l2) hv4.out (by omega) (by omega)).mono ?_
   rintro e w3 ⟨rfl,u3⟩
   have l3:=l2.trans u3
   have c3_0:w3.cell? ⟨g,off+i*5,none⟩=some (.int .i64 (K)):=(l3.cell (cell_lt hc0)).trans hc0
   have c3_1:w3.cell? ⟨g,off+i*5+1,none⟩=some (.bool ((K+1)%3==0)):=(l3.cell (cell_lt hc1)).trans hc1
   have c3_2:w3.cell? ⟨g,off+i*5+2,none⟩=some (.slice A2 xs[i].2.2.1.length c2):=(l3.cell (cell_lt hc2)).trans hc2
   have c3_3:w3.cell? ⟨g,off+i*5+3,none⟩=some (.slice A3 xs[i].2.2.2.1.length c3):=(l3.cell (cell_lt hc3)).trans hc3
   have c3_4:w3.cell? ⟨g,off+i*5+4,none⟩=some (.slice A4 xs[i].2.2.2.2.length c4):=(l3.cell (cell_lt hc4)).trans hc4
   go_wp2_with fail
   have hcn:((mmSlot).cnt xs[i]:Nat)=1+(1+((mkL mkS).cnt xs[i].2.2.1+((mkL mkS).cnt xs[i].2.2.2.1+((mkL mkI).cnt xs[i].2.2.2.2)))):=rfl
   have HK3:Hid (K+1+1+((mkL mkS).cnt xs[i].2.2.1:Nat)+((mkL mkS).cnt xs[i].2.2.2.1:Nat)+((mkL mkI).cnt xs[i].2.2.2.2:Nat)=k+psum (mmSlot).cnt xs (i+1)):=by unfold Hid;rw [←HK2.out,hcn];omega
   have hk5:K+1+1+((mkL mkS).cnt xs[i].2.2.1:Nat)+((mkL mkS).cnt xs[i].2.2.2.1:Nat)+((mkL mkI).cnt xs[i].2.2.2.2:Nat)≤1000000000:=by rw [hcn] at hKb;omega
   clear hcn
   go_roundw
   case rel=>exact ⟨i+1,K+1+1+((mkL mkS).cnt xs[i].2.2.1:Nat)+((mkL mkS).cnt xs[i].2.2.2.1:Nat)+((mkL mkI).cnt xs[i].2.2.2.2:Nat),by omega,rfl,by go_num,HK3,by omega,hk5,hu.trans l3⟩
   case measure=>simp [intOf];omega
  ·have HE:Hid (K=k+((mkL mmSlot).cnt xs:Nat)):=by unfold Hid;rw [HK.out];show _=k+(((xs.map (mmSlot).cnt).sum:Nat):Int);rw [←psum_all (mmSlot).cnt xs,show i=xs.length by omega]
   go_wp2_with fail
   go_ret
   exact HeldP.mk HE hu
theorem c_heldBtree (v:Value) (x:TBtree) (k:Int) (w:World) (h:AV shBtree w v x) (hm:mmTBtree.mark x k=x) (hk0:0<k) (hk1:k+(mmTBtree.cnt x:Nat)≤1000000000) :
 Calls Tryz.prog 10 #[v,.int .i64 k] w (HeldP (k+(mmTBtree.cnt x:Nat)) w):=by
 obtain ⟨cs,rfl,h⟩:=h
 obtain ⟨x0,x1⟩:=x
 have ho:=openBtree h
 try dsimp only at ho
 obtain ⟨A1,c1,rfl,b0,b1⟩:=ho
 have hcn:mmTBtree.cnt (x0,x1)=0+((mkL mmSlot).cnt x1):=rfl
 rw [hcn] at hk1
 have HC:=Hd hcn;clear hcn
 have hv1:Hid (markL mmSlot x1 (k)=x1):=by have:=congrArg (fun q:TBtree=>q.2) hm;unfold Hid;exact Eq.trans (by first | rfl | simp [mmTBtree,mkP,mk0,mkL]) this
 clear hm
 have kk0:Bk (w.alloc (.cells #[.int .i64 x0,.slice A1 x1.length c1] 28)) w.heap.size 28 #[.int .i64 x0,.slice A1 x1.length c1]:=Bk.new _ _ _
 have uu0:Up w (w.alloc (.cells #[.int .i64 x0,.slice A1 x1.length c1] 28)):=(Up.refl _).alloc _
 go_enter Tryz.func10,Tryz.ntmps10
 go_wp2_with fail
 refine (c_heldSlotS _ _ _ _ _ (b1.up good_Slot uu0) hv1.out (by omega) (by omega)).mono ?_
 rintro e w1 ⟨rfl,u1⟩
 have uu1:=uu0.trans u1
 have kk1:=kk0.up u1
 clear u1
 go_wp2_with fail
 go_ret
 exact HeldP.mk (by unfold Hid;first | (rw [HC.out];done) | (rw [HC.out];omega)) uu1
end Go.Proofs.YtojmcmghmnfjeaaGreatDoor
namespace Go.Proofs.YtojmcmghmnfjeaaGreatDoor
open Go.RowKit
set_option linter.unusedVariables false
end Go.Proofs.YtojmcmghmnfjeaaGreatDoor
