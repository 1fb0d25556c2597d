/-
 Contracts of the held helpers.
 NewBtree: the program's and the reference's give one tree in new memory.
-/
import Derived.Test.YthdnicfbnihoaaaGreatDoorM4Lm
import Derived.Test.YthdnicfbnihoaaaGreatDoorM4Le
set_option maxHeartbeats 4000000
set_option maxRecDepth 100000
namespace Go.Proofs.YthdnicfbnihoaaaGreatDoor
open Go.RowKit
set_option linter.unusedVariables false
set_option linter.unusedSimpArgs false
theorem c_heldStringS (xs:List ByteArray) (A:Option Addr) (c:Nat) (k:Int) (w:World) (h:SRW shS w A c xs) (hm:markL mkS xs k=xs) (hk0:0<k) (hk1:k+((mkL mkS).cnt xs:Nat)≤1000000000) :
   Calls Tryz.prog 117 #[.slice A xs.length c,.int .i64 k] w (HeldP (k+((mkL mkS).cnt xs:Nat)) w):=by
 have hlen:=h.len_le
 have HM:=Lib.hid hm;clear hm
 have hk2:k+((xs.map (mkS).cnt).sum:Nat)≤1000000000:=hk1
 clear hk1
 go_enter Tryz.func117,Tryz.ntmps117
 go_wp2_with fail
 go_loopw [1,5] (fun a b wr=>∃(i:Nat) (K:Int),i≤xs.length∧a=.int .i64 K∧b=.int .i64 i∧Hid (K=k+psum (mkS).cnt xs i)∧0<K∧K≤1000000000∧Up w wr) (fun _ b _=>xs.length - (intOf b).toNat)
 case atStart=>exact ⟨0,k,Nat.zero_le _,rfl,rfl,by unfold Hid;rw [psum_zero];simp,hk0,by omega,Up.refl _⟩
 case round =>
   obtain ⟨i,K,hii,rfl,rfl,HK,hK0,hK1,hu⟩:=hrel
   by_cases hlt:i<xs.length
   · have hps:=psum_le (mkS).cnt xs (i+1)
     rw [psum_succ (mkS).cnt xs i hlt] at hps
     have hKb:K+((mkS).cnt xs[i]:Nat)≤1000000000:=by rw [HK.out];omega
     have HK2:Hid (K+((mkS).cnt xs[i]:Nat)=k+psum (mkS).cnt xs (i+1)):=by unfold Hid;rw [HK.out,psum_succ (mkS).cnt xs i hlt];omega
     clear hps
     have hmi:(mkS).mark xs[i] K=xs[i]:=by rw [HK.out];exact marked_at HM.out hlt
     have hKc:K+((1:Nat):Int)≤1000000000:=hKb
     have v0:(mtext (K))=xs[i]:=congrArg (fun q:ByteArray=>q) hmi
     clear hmi
     obtain ⟨g,off,rfl,_,_,hc0,b0⟩:=(h.up good_S hu).at_S hlt
     rw [← v0] at hc0
     clear v0
     go_wp2_with fail
     have t0_0:=fun t:UpT wr=>cell_up t hc0
     refine wp_region_up (by kernel_rfl) (by kernel_rfl) ?_
     repeat (go_big_quiet_step ((go_at_call 149;exact up_call (c_markText _ _ (by omega) (by omega)) (UpT.up _))))
     refine wpQuiet_nil ?_
     clear t0_0
     rintro w1 ⟨⟨_,u1⟩,rfl⟩
     try dsimp only
     have l1:=u1
     have c1_0:w1.cell? ⟨g,off+i,none⟩=some (.string (mtext (K))):=(l1.cell (cell_lt hc0)).trans hc0
     go_wp2_with fail
     have hcn:((mkS).cnt xs[i]:Nat)=1:=rfl
     have HK3:Hid (K+1=k+psum (mkS).cnt xs (i+1)):=by unfold Hid;rw [← HK2.out,hcn];omega
     have hk5:K+1≤1000000000:=by rw [hcn] at hKb;omega
     clear hcn
     go_roundw
     case rel=>exact ⟨i+1,K+1,by omega,rfl,by go_num,HK3,by omega,hk5,hu.trans l1⟩
     case measure=>simp [intOf];omega
   · have HE:Hid (K=k+((mkL mkS).cnt xs:Nat)):=by unfold Hid;rw [HK.out];show _=k+(((xs.map (mkS).cnt).sum:Nat):Int);rw [← psum_all (mkS).cnt xs,show i=xs.length by omega]
     go_wp2_with fail
     go_ret
     exact HeldP.mk HE hu
theorem c_heldInt64S (xs:List Int) (A:Option Addr) (c:Nat) (k:Int) (w:World) (h:SRW shI w A c xs) (hm:markL mkI xs k=xs) (hk0:0<k) (hk1:k+((mkL mkI).cnt xs:Nat)≤1000000000) :
   Calls Tryz.prog 71 #[.slice A xs.length c,.int .i64 k] w (HeldP (k+((mkL mkI).cnt xs:Nat)) w):=by
 have hlen:=h.len_le
 have HM:=Lib.hid hm;clear hm
 have hk2:k+((xs.map (mkI).cnt).sum:Nat)≤1000000000:=hk1
 clear hk1
 go_enter Tryz.func71,Tryz.ntmps71
 go_wp2_with fail
 go_loopw [1,5] (fun a b wr=>∃(i:Nat) (K:Int),i≤xs.length∧a=.int .i64 K∧b=.int .i64 i∧Hid (K=k+psum (mkI).cnt xs i)∧0<K∧K≤1000000000∧Up w wr) (fun _ b _=>xs.length - (intOf b).toNat)
 case atStart=>exact ⟨0,k,Nat.zero_le _,rfl,rfl,by unfold Hid;rw [psum_zero];simp,hk0,by omega,Up.refl _⟩
 case round =>
   obtain ⟨i,K,hii,rfl,rfl,HK,hK0,hK1,hu⟩:=hrel
   by_cases hlt:i<xs.length
   · have hps:=psum_le (mkI).cnt xs (i+1)
     rw [psum_succ (mkI).cnt xs i hlt] at hps
     have hKb:K+((mkI).cnt xs[i]:Nat)≤1000000000:=by rw [HK.out];omega
     have HK2:Hid (K+((mkI).cnt xs[i]:Nat)=k+psum (mkI).cnt xs (i+1)):=by unfold Hid;rw [HK.out,psum_succ (mkI).cnt xs i hlt];omega
     clear hps
     have hmi:(mkI).mark xs[i] K=xs[i]:=by rw [HK.out];exact marked_at HM.out hlt
     have hKc:K+((1:Nat):Int)≤1000000000:=hKb
     have v0:(K)=xs[i]:=congrArg (fun q:Int=>q) hmi
     clear hmi
     obtain ⟨g,off,rfl,_,_,hc0,b0⟩:=(h.up good_I hu).at_I hlt
     rw [← v0] at hc0
     clear v0
     go_wp2_with fail
     have hcn:((mkI).cnt xs[i]:Nat)=1:=rfl
     have HK3:Hid (K+1=k+psum (mkI).cnt xs (i+1)):=by unfold Hid;rw [← HK2.out,hcn];omega
     have hk5:K+1≤1000000000:=by rw [hcn] at hKb;omega
     clear hcn
     go_roundw
     case rel=>exact ⟨i+1,K+1,by omega,rfl,by go_num,HK3,by omega,hk5,hu⟩
     case measure=>simp [intOf];omega
   · have HE:Hid (K=k+((mkL mkI).cnt xs:Nat)):=by unfold Hid;rw [HK.out];show _=k+(((xs.map (mkI).cnt).sum:Nat):Int);rw [← psum_all (mkI).cnt xs,show i=xs.length by omega]
     go_wp2_with fail
     go_ret
     exact HeldP.mk HE hu
theorem c_heldSeatS (xs:List TSeat) (A:Option Addr) (c:Nat) (k:Int) (w:World) (h:SRW shSeat w A c xs) (hm:markL mmSeat xs k=xs) (hk0:0<k) (hk1:k+((mkL mmSeat).cnt xs:Nat)≤1000000000) :
   Calls Tryz.prog 70 #[.slice A xs.length c,.int .i64 k] w (HeldP (k+((mkL mmSeat).cnt xs:Nat)) w):=by
 have hlen:=h.len_le
 have HM:=Lib.hid hm;clear hm
 have hk2:k+((xs.map (mmSeat).cnt).sum:Nat)≤1000000000:=hk1
 clear hk1
 go_enter Tryz.func70,Tryz.ntmps70
 go_wp2_with fail
 go_loopw [1,5] (fun a b wr=>∃(i:Nat) (K:Int),i≤xs.length∧a=.int .i64 K∧b=.int .i64 i∧Hid (K=k+psum (mmSeat).cnt xs i)∧0<K∧K≤1000000000∧Up w wr) (fun _ b _=>xs.length - (intOf b).toNat)
 case atStart=>exact ⟨0,k,Nat.zero_le _,rfl,rfl,by unfold Hid;rw [psum_zero];simp,hk0,by omega,Up.refl _⟩
 case round =>
   obtain ⟨i,K,hii,rfl,rfl,HK,hK0,hK1,hu⟩:=hrel
   by_cases hlt:i<xs.length
   · have hps:=psum_le (mmSeat).cnt xs (i+1)
     rw [psum_succ (mmSeat).cnt xs i hlt] at hps
     have hKb:K+((mmSeat).cnt xs[i]:Nat)≤1000000000:=by rw [HK.out];omega
     have HK2:Hid (K+((mmSeat).cnt xs[i]:Nat)=k+psum (mmSeat).cnt xs (i+1)):=by unfold Hid;rw [HK.out,psum_succ (mmSeat).cnt xs i hlt];omega
     clear hps
     have hmi:(mmSeat).mark xs[i] K=xs[i]:=by rw [HK.out];exact marked_at HM.out hlt
     have hKc:K+((1+(1):Nat):Int)≤1000000000:=hKb
     have v0:(K)=xs[i].1:=congrArg (fun q:TSeat=>q.1) hmi
     have v1:(K+1)=xs[i].2:=congrArg (fun q:TSeat=>q.2) hmi
     clear hmi
     obtain ⟨g,off,rfl,_,_,hc0,hc1,b0,b1,_⟩:=atSeat (h.up good_Seat hu) hlt
     rw [← v0] at hc0
     clear v0
     rw [← v1] at hc1
     clear v1
     go_wp2_with fail
     have hcn:((mmSeat).cnt xs[i]:Nat)=1+(1):=rfl
     have HK3:Hid (K+1+1=k+psum (mmSeat).cnt xs (i+1)):=by unfold Hid;rw [← HK2.out,hcn];omega
     have hk5:K+1+1≤1000000000:=by rw [hcn] at hKb;omega
     clear hcn
     go_roundw
     case rel=>exact ⟨i+1,K+1+1,by omega,rfl,by go_num,HK3,by omega,hk5,hu⟩
     case measure=>simp [intOf];omega
   · have HE:Hid (K=k+((mkL mmSeat).cnt xs:Nat)):=by unfold Hid;rw [HK.out];show _=k+(((xs.map (mmSeat).cnt).sum:Nat):Int);rw [← psum_all (mmSeat).cnt xs,show i=xs.length by omega]
     go_wp2_with fail
     go_ret
     exact HeldP.mk HE hu
theorem c_heldPutS (xs:List TPut) (A:Option Addr) (c:Nat) (k:Int) (w:World) (h:SRW shPut w A c xs) (hm:markL mmPut xs k=xs) (hk0:0<k) (hk1:k+((mkL mmPut).cnt xs:Nat)≤1000000000) :
   Calls Tryz.prog 118 #[.slice A xs.length c,.int .i64 k] w (HeldP (k+((mkL mmPut).cnt xs:Nat)) w):=by
 have hlen:=h.len_le
 have HM:=Lib.hid hm;clear hm
 have hk2:k+((xs.map (mmPut).cnt).sum:Nat)≤1000000000:=hk1
 clear hk1
 go_enter Tryz.func118,Tryz.ntmps118
 go_wp2_with fail
 go_loopw [1,5] (fun a b wr=>∃(i:Nat) (K:Int),i≤xs.length∧a=.int .i64 K∧b=.int .i64 i∧Hid (K=k+psum (mmPut).cnt xs i)∧0<K∧K≤1000000000∧Up w wr) (fun _ b _=>xs.length - (intOf b).toNat)
 case atStart=>exact ⟨0,k,Nat.zero_le _,rfl,rfl,by unfold Hid;rw [psum_zero];simp,hk0,by omega,Up.refl _⟩
 case round =>
   obtain ⟨i,K,hii,rfl,rfl,HK,hK0,hK1,hu⟩:=hrel
   by_cases hlt:i<xs.length
   · have hps:=psum_le (mmPut).cnt xs (i+1)
     rw [psum_succ (mmPut).cnt xs i hlt] at hps
     have hKb:K+((mmPut).cnt xs[i]:Nat)≤1000000000:=by rw [HK.out];omega
     have HK2:Hid (K+((mmPut).cnt xs[i]:Nat)=k+psum (mmPut).cnt xs (i+1)):=by unfold Hid;rw [HK.out,psum_succ (mmPut).cnt xs i hlt];omega
     clear hps
     have hmi:(mmPut).mark xs[i] K=xs[i]:=by rw [HK.out];exact marked_at HM.out hlt
     have hKc:K+((1+(1):Nat):Int)≤1000000000:=hKb
     have v0:(K)=xs[i].1:=congrArg (fun q:TPut=>q.1) hmi
     have v1:(mtext (K+1))=xs[i].2:=congrArg (fun q:TPut=>q.2) hmi
     clear hmi
     obtain ⟨g,off,rfl,_,_,hc0,hc1,b0,b1,_⟩:=atPut (h.up good_Put hu) hlt
     rw [← v0] at hc0
     clear v0
     rw [← v1] at hc1
     clear v1
     go_wp2_with fail
     have t0_0:=fun t:UpT wr=>cell_up t hc0
     have t0_1:=fun t:UpT wr=>cell_up t hc1
     refine wp_region_up (by kernel_rfl) (by kernel_rfl) ?_
     repeat (go_big_quiet_step ((go_at_call 149;exact up_call (c_markText _ _ (by omega) (by omega)) (UpT.up _))))
     refine wpQuiet_nil ?_
     clear t0_0 t0_1
     rintro w1 ⟨⟨_,u1⟩,rfl⟩
     try dsimp only
     have l1:=u1
     have c1_0:w1.cell? ⟨g,off+i*2,none⟩=some (.int .i64 (K)):=(l1.cell (cell_lt hc0)).trans hc0
     have c1_1:w1.cell? ⟨g,off+i*2+1,none⟩=some (.string (mtext (K+1))):=(l1.cell (cell_lt hc1)).trans hc1
     go_wp2_with fail
     have hcn:((mmPut).cnt xs[i]:Nat)=1+(1):=rfl
     have HK3:Hid (K+1+1=k+psum (mmPut).cnt xs (i+1)):=by unfold Hid;rw [← HK2.out,hcn];omega
     have hk5:K+1+1≤1000000000:=by rw [hcn] at hKb;omega
     clear hcn
     go_roundw
     case rel=>exact ⟨i+1,K+1+1,by omega,rfl,by go_num,HK3,by omega,hk5,hu.trans l1⟩
     case measure=>simp [intOf];omega
   · have HE:Hid (K=k+((mkL mmPut).cnt xs:Nat)):=by unfold Hid;rw [HK.out];show _=k+(((xs.map (mmPut).cnt).sum:Nat):Int);rw [← psum_all (mmPut).cnt xs,show i=xs.length by omega]
     go_wp2_with fail
     go_ret
     exact HeldP.mk HE hu
theorem c_heldSlotS (xs:List TSlot) (A:Option Addr) (c:Nat) (k:Int) (w:World) (h:SRW shSlot w A c xs) (hm:markL mmSlot xs k=xs) (hk0:0<k) (hk1:k+((mkL mmSlot).cnt xs:Nat)≤1000000000) :
   Calls Tryz.prog 67 #[.slice A xs.length c,.int .i64 k] w (HeldP (k+((mkL mmSlot).cnt xs:Nat)) w):=by
 have hlen:=h.len_le
 have HM:=Lib.hid hm;clear hm
 have hk2:k+((xs.map (mmSlot).cnt).sum:Nat)≤1000000000:=hk1
 clear hk1
 go_enter Tryz.func67,Tryz.ntmps67
 go_wp2_with fail
 go_loopw [1,5] (fun a b wr=>∃(i:Nat) (K:Int),i≤xs.length∧a=.int .i64 K∧b=.int .i64 i∧Hid (K=k+psum (mmSlot).cnt xs i)∧0<K∧K≤1000000000∧Up w wr) (fun _ b _=>xs.length - (intOf b).toNat)
 case atStart=>exact ⟨0,k,Nat.zero_le _,rfl,rfl,by unfold Hid;rw [psum_zero];simp,hk0,by omega,Up.refl _⟩
 case round =>
   obtain ⟨i,K,hii,rfl,rfl,HK,hK0,hK1,hu⟩:=hrel
   by_cases hlt:i<xs.length
   · have hps:=psum_le (mmSlot).cnt xs (i+1)
     rw [psum_succ (mmSlot).cnt xs i hlt] at hps
     have hKb:K+((mmSlot).cnt xs[i]:Nat)≤1000000000:=by rw [HK.out];omega
     have HK2:Hid (K+((mmSlot).cnt xs[i]:Nat)=k+psum (mmSlot).cnt xs (i+1)):=by unfold Hid;rw [HK.out,psum_succ (mmSlot).cnt xs i hlt];omega
     clear hps
     have hmi:(mmSlot).mark xs[i] K=xs[i]:=by rw [HK.out];exact marked_at HM.out hlt
     have hKc:K+((1+(1+((mkL mkS).cnt xs[i].2.2.1+((mkL mkS).cnt xs[i].2.2.2.1+((mkL mkI).cnt xs[i].2.2.2.2)))):Nat):Int)≤1000000000:=hKb
     have v0:(K)=xs[i].1:=congrArg (fun q:TSlot=>q.1) hmi
     have v1:((K+1) % 3 == 0)=xs[i].2.1:=congrArg (fun q:TSlot=>q.2.1) hmi
     have v2:(markL mkS xs[i].2.2.1 (K+1+1))=xs[i].2.2.1:=congrArg (fun q:TSlot=>q.2.2.1) hmi
     have v3:(markL mkS xs[i].2.2.2.1 (K+1+1+((mkL mkS).cnt xs[i].2.2.1:Nat)))=xs[i].2.2.2.1:=congrArg (fun q:TSlot=>q.2.2.2.1) hmi
     have v4:(markL mkI xs[i].2.2.2.2 (K+1+1+((mkL mkS).cnt xs[i].2.2.1:Nat)+((mkL mkS).cnt xs[i].2.2.2.1:Nat)))=xs[i].2.2.2.2:=congrArg (fun q:TSlot=>q.2.2.2.2) hmi
     clear hmi
     obtain ⟨g,off,A2,c2,A3,c3,A4,c4,rfl,_,_,hc0,hc1,hc2,hc3,hc4,b0,b2,b3,b4,_⟩:=atSlot (h.up good_Slot hu) hlt
     rw [← v0] at hc0
     clear v0
     rw [← v1] at hc1
     clear v1
     have hv2:=Lib.hid v2;clear v2
     have hv3:=Lib.hid v3;clear v3
     have hv4:=Lib.hid v4;clear v4
     go_wp2_with fail
     refine (c_heldStringS _ _ _ _ _ b2 hv2.out (by omega) (by omega)).mono ?_
     rintro e w1 ⟨rfl,u1⟩
     have l1:=u1
     have c1_0:w1.cell? ⟨g,off+i*5,none⟩=some (.int .i64 (K)):=(l1.cell (cell_lt hc0)).trans hc0
     have c1_1:w1.cell? ⟨g,off+i*5+1,none⟩=some (.bool ((K+1) % 3 == 0)):=(l1.cell (cell_lt hc1)).trans hc1
     have c1_2:w1.cell? ⟨g,off+i*5+2,none⟩=some (.slice A2 xs[i].2.2.1.length c2):=(l1.cell (cell_lt hc2)).trans hc2
     have c1_3:w1.cell? ⟨g,off+i*5+3,none⟩=some (.slice A3 xs[i].2.2.2.1.length c3):=(l1.cell (cell_lt hc3)).trans hc3
     have c1_4:w1.cell? ⟨g,off+i*5+4,none⟩=some (.slice A4 xs[i].2.2.2.2.length c4):=(l1.cell (cell_lt hc4)).trans hc4
     go_wp2_with fail
     refine (c_heldStringS _ _ _ _ _ (b3.up good_S l1) hv3.out (by omega) (by omega)).mono ?_
     rintro e w2 ⟨rfl,u2⟩
     have l2:=l1.trans u2
     have c2_0:w2.cell? ⟨g,off+i*5,none⟩=some (.int .i64 (K)):=(l2.cell (cell_lt hc0)).trans hc0
     have c2_1:w2.cell? ⟨g,off+i*5+1,none⟩=some (.bool ((K+1) % 3 == 0)):=(l2.cell (cell_lt hc1)).trans hc1
     have c2_2:w2.cell? ⟨g,off+i*5+2,none⟩=some (.slice A2 xs[i].2.2.1.length c2):=(l2.cell (cell_lt hc2)).trans hc2
     have c2_3:w2.cell? ⟨g,off+i*5+3,none⟩=some (.slice A3 xs[i].2.2.2.1.length c3):=(l2.cell (cell_lt hc3)).trans hc3
     have c2_4:w2.cell? ⟨g,off+i*5+4,none⟩=some (.slice A4 xs[i].2.2.2.2.length c4):=(l2.cell (cell_lt hc4)).trans hc4
     go_wp2_with fail
     refine (c_heldInt64S _ _ _ _ _ (b4.up good_I l2) hv4.out (by omega) (by omega)).mono ?_
     rintro e w3 ⟨rfl,u3⟩
     have l3:=l2.trans u3
     have c3_0:w3.cell? ⟨g,off+i*5,none⟩=some (.int .i64 (K)):=(l3.cell (cell_lt hc0)).trans hc0
     have c3_1:w3.cell? ⟨g,off+i*5+1,none⟩=some (.bool ((K+1) % 3 == 0)):=(l3.cell (cell_lt hc1)).trans hc1
     have c3_2:w3.cell? ⟨g,off+i*5+2,none⟩=some (.slice A2 xs[i].2.2.1.length c2):=(l3.cell (cell_lt hc2)).trans hc2
     have c3_3:w3.cell? ⟨g,off+i*5+3,none⟩=some (.slice A3 xs[i].2.2.2.1.length c3):=(l3.cell (cell_lt hc3)).trans hc3
     have c3_4:w3.cell? ⟨g,off+i*5+4,none⟩=some (.slice A4 xs[i].2.2.2.2.length c4):=(l3.cell (cell_lt hc4)).trans hc4
     go_wp2_with fail
     have hcn:((mmSlot).cnt xs[i]:Nat)=1+(1+((mkL mkS).cnt xs[i].2.2.1+((mkL mkS).cnt xs[i].2.2.2.1+((mkL mkI).cnt xs[i].2.2.2.2)))):=rfl
     have HK3:Hid (K+1+1+((mkL mkS).cnt xs[i].2.2.1:Nat)+((mkL mkS).cnt xs[i].2.2.2.1:Nat)+((mkL mkI).cnt xs[i].2.2.2.2:Nat)=k+psum (mmSlot).cnt xs (i+1)):=by unfold Hid;rw [← HK2.out,hcn];omega
     have hk5:K+1+1+((mkL mkS).cnt xs[i].2.2.1:Nat)+((mkL mkS).cnt xs[i].2.2.2.1:Nat)+((mkL mkI).cnt xs[i].2.2.2.2:Nat)≤1000000000:=by rw [hcn] at hKb;omega
     clear hcn
     go_roundw
     case rel=>exact ⟨i+1,K+1+1+((mkL mkS).cnt xs[i].2.2.1:Nat)+((mkL mkS).cnt xs[i].2.2.2.1:Nat)+((mkL mkI).cnt xs[i].2.2.2.2:Nat),by omega,rfl,by go_num,HK3,by omega,hk5,hu.trans l3⟩
     case measure=>simp [intOf];omega
   · have HE:Hid (K=k+((mkL mmSlot).cnt xs:Nat)):=by unfold Hid;rw [HK.out];show _=k+(((xs.map (mmSlot).cnt).sum:Nat):Int);rw [← psum_all (mmSlot).cnt xs,show i=xs.length by omega]
     go_wp2_with fail
     go_ret
     exact HeldP.mk HE hu
theorem c_heldDisk (v:Value) (x:TDisk) (k:Int) (w:World) (h:AV shDisk w v x) (hm:mmTDisk.mark x k=x) (hk0:0<k) (hk1:k+(mmTDisk.cnt x:Nat)≤1000000000) :
   Calls Tryz.prog 68 #[v,.int .i64 k] w (HeldP (k+(mmTDisk.cnt x:Nat)) w):=by
 obtain ⟨cs,rfl,h⟩:=h
 obtain ⟨x0,x1,x2⟩:=x
 have ho:=openDisk h
 try dsimp only at ho
 obtain ⟨A1,c1,A2,c2,rfl,b0,b1,b2⟩:=ho
 have hcn:mmTDisk.cnt (x0,x1,x2)=0+((mkL mkS).cnt x1+((mkL mmPut).cnt x2)):=rfl
 rw [hcn] at hk1
 have HC:=Lib.hid hcn;clear hcn
 have hv1:Hid (markL mkS x1 (k)=x1):=by have:=congrArg (fun q:TDisk=>q.2.1) hm;unfold Hid;exact Eq.trans (by first | rfl | simp [mmTDisk,mkP,mk0,mkL]) this
 have hv2:Hid (markL mmPut x2 (k+((mkL mkS).cnt x1:Nat))=x2):=by have:=congrArg (fun q:TDisk=>q.2.2) hm;unfold Hid;exact Eq.trans (by first | rfl | simp [mmTDisk,mkP,mk0,mkL]) this
 clear hm
 have kk0:Bk (w.alloc (.cells #[.int .i64 x0,.slice A1 x1.length c1,.slice A2 x2.length c2] 45)) w.heap.size 45 #[.int .i64 x0,.slice A1 x1.length c1,.slice A2 x2.length c2]:=Bk.new _ _ _
 have uu0:Up w (w.alloc (.cells #[.int .i64 x0,.slice A1 x1.length c1,.slice A2 x2.length c2] 45)):=(Up.refl _).alloc _
 go_enter Tryz.func68,Tryz.ntmps68
 go_wp2_with fail
 refine (c_heldStringS _ _ _ _ _ (b1.up good_S uu0) hv1.out (by omega) (by omega)).mono ?_
 rintro e w1 ⟨rfl,u1⟩
 have uu1:=uu0.trans u1
 have kk1:=kk0.up u1
 have g1_2:w1.cell? ⟨w.heap.size,2,none⟩=some (.slice A2 x2.length c2):=kk1.cell 2
 clear u1
 go_wp2_with fail
 refine (c_heldPutS _ _ _ _ _ (b2.up good_Put uu1) hv2.out (by omega) (by omega)).mono ?_
 rintro e w2 ⟨rfl,u2⟩
 have uu2:=uu1.trans u2
 have kk2:=kk1.up u2
 clear u2
 go_wp2_with fail
 go_ret
 exact HeldP.mk (by unfold Hid;first | (rw [HC.out];done) | (rw [HC.out];omega)) uu2
theorem c_heldTop (v:Value) (x:TTop) (k:Int) (w:World) (h:AV shTop w v x) (hm:mmTTop.mark x k=x) (hk0:0<k) (hk1:k+(mmTTop.cnt x:Nat)≤1000000000) :
   Calls Tryz.prog 69 #[v,.int .i64 k] w (HeldP (k+(mmTTop.cnt x:Nat)) w):=by
 obtain ⟨cs,rfl,h⟩:=h
 obtain ⟨x0,x1,x2,x3⟩:=x
 have ho:=openTop h
 try dsimp only at ho
 obtain ⟨A3,c3,rfl,b0,b1,b2,b3⟩:=ho
 have hcn:mmTTop.cnt (x0,x1,x2,x3)=0+(0+(0+((mkL mmSeat).cnt x3))):=rfl
 rw [hcn] at hk1
 have HC:=Lib.hid hcn;clear hcn
 have hv3:Hid (markL mmSeat x3 (k)=x3):=by have:=congrArg (fun q:TTop=>q.2.2.2) hm;unfold Hid;exact Eq.trans (by first | rfl | simp [mmTTop,mkP,mk0,mkL]) this
 clear hm
 have kk0:Bk (w.alloc (.cells #[.int .i64 x0,.int .i64 x1,.int .i64 x2,.slice A3 x3.length c3] 48)) w.heap.size 48 #[.int .i64 x0,.int .i64 x1,.int .i64 x2,.slice A3 x3.length c3]:=Bk.new _ _ _
 have uu0:Up w (w.alloc (.cells #[.int .i64 x0,.int .i64 x1,.int .i64 x2,.slice A3 x3.length c3] 48)):=(Up.refl _).alloc _
 go_enter Tryz.func69,Tryz.ntmps69
 go_wp2_with fail
 refine (c_heldSeatS _ _ _ _ _ (b3.up good_Seat uu0) hv3.out (by omega) (by omega)).mono ?_
 rintro e w1 ⟨rfl,u1⟩
 have uu1:=uu0.trans u1
 have kk1:=kk0.up u1
 clear u1
 go_wp2_with fail
 go_ret
 exact HeldP.mk (by unfold Hid;first | (rw [HC.out];done) | (rw [HC.out];omega)) uu1
theorem c_heldBtree (v:Value) (x:TBtree) (k:Int) (w:World) (h:AV shBtree w v x) (hm:mmTBtree.mark x k=x) (hk0:0<k) (hk1:k+(mmTBtree.cnt x:Nat)≤1000000000) :
   Calls Tryz.prog 28 #[v,.int .i64 k] w (HeldP (k+(mmTBtree.cnt x:Nat)) w):=by
 obtain ⟨cs,rfl,h⟩:=h
 obtain ⟨x0,x1⟩:=x
 have ho:=openBtree h
 try dsimp only at ho
 obtain ⟨A1,c1,rfl,b0,b1⟩:=ho
 have hcn:mmTBtree.cnt (x0,x1)=0+((mkL mmSlot).cnt x1):=rfl
 rw [hcn] at hk1
 have HC:=Lib.hid hcn;clear hcn
 have hv1:Hid (markL mmSlot x1 (k)=x1):=by have:=congrArg (fun q:TBtree=>q.2) hm;unfold Hid;exact Eq.trans (by first | rfl | simp [mmTBtree,mkP,mk0,mkL]) this
 clear hm
 have kk0:Bk (w.alloc (.cells #[.int .i64 x0,.slice A1 x1.length c1] 42)) w.heap.size 42 #[.int .i64 x0,.slice A1 x1.length c1]:=Bk.new _ _ _
 have uu0:Up w (w.alloc (.cells #[.int .i64 x0,.slice A1 x1.length c1] 42)):=(Up.refl _).alloc _
 go_enter Tryz.func28,Tryz.ntmps28
 go_wp2_with fail
 refine (c_heldSlotS _ _ _ _ _ (b1.up good_Slot uu0) hv1.out (by omega) (by omega)).mono ?_
 rintro e w1 ⟨rfl,u1⟩
 have uu1:=uu0.trans u1
 have kk1:=kk0.up u1
 clear u1
 go_wp2_with fail
 go_ret
 exact HeldP.mk (by unfold Hid;first | (rw [HC.out];done) | (rw [HC.out];omega)) uu1
theorem c_heldJournal (v:Value) (x:TJournal) (k:Int) (w:World) (h:AV shJournal w v x) (hm:mmTJournal.mark x k=x) (hk0:0<k) (hk1:k+(mmTJournal.cnt x:Nat)≤1000000000) :
   Calls Tryz.prog 30 #[v,.int .i64 k] w (HeldP (k+(mmTJournal.cnt x:Nat)) w):=by
 obtain ⟨cs,rfl,h⟩:=h
 obtain ⟨⟨x0,x1,x2⟩,x3,x4,x5,x6⟩:=x
 have ho:=openJournal h
 try dsimp only at ho
 obtain ⟨A1,c1,A2,c2,rfl,b0,b1,b2,b3,b4,b5,b6⟩:=ho
 have hcn:mmTJournal.cnt ((x0,x1,x2),x3,x4,x5,x6)=mmTDisk.cnt (x0,x1,x2)+(0+(0+(0+(0)))):=rfl
 rw [hcn] at hk1
 have HC:=Lib.hid hcn;clear hcn
 have hv0:Hid (mmTDisk.mark (x0,x1,x2) (k)=(x0,x1,x2)):=by have:=congrArg (fun q:TJournal=>q.1) hm;unfold Hid;exact Eq.trans (by first | rfl | simp [mmTJournal,mkP,mk0,mkL]) this
 clear hm
 have kk0:Bk (w.alloc (.cells #[.int .i64 x0,.slice A1 x1.length c1,.slice A2 x2.length c2,.int .i64 x3,.int .i64 x4,.int .i64 x5,.int .i64 x6] 52)) w.heap.size 52 #[.int .i64 x0,.slice A1 x1.length c1,.slice A2 x2.length c2,.int .i64 x3,.int .i64 x4,.int .i64 x5,.int .i64 x6]:=Bk.new _ _ _
 have uu0:Up w (w.alloc (.cells #[.int .i64 x0,.slice A1 x1.length c1,.slice A2 x2.length c2,.int .i64 x3,.int .i64 x4,.int .i64 x5,.int .i64 x6] 52)):=(Up.refl _).alloc _
 go_enter Tryz.func30,Tryz.ntmps30
 go_wp2_with fail
 refine (c_heldDisk _ (x0,x1,x2) _ _ ⟨_,rfl,mkDisk (x:=(x0,x1,x2)) b0 (b1.up good_S uu0) (b2.up good_Put uu0)⟩ hv0.out (by omega) (by omega)).mono ?_
 rintro e w1 ⟨rfl,u1⟩
 have uu1:=uu0.trans u1
 have kk1:=kk0.up u1
 have g1_1:w1.cell? ⟨w.heap.size,1,none⟩=some (.slice A1 x1.length c1):=kk1.cell 1
 have g1_2:w1.cell? ⟨w.heap.size,2,none⟩=some (.slice A2 x2.length c2):=kk1.cell 2
 have g1_3:w1.cell? ⟨w.heap.size,3,none⟩=some (.int .i64 x3):=kk1.cell 3
 have g1_4:w1.cell? ⟨w.heap.size,4,none⟩=some (.int .i64 x4):=kk1.cell 4
 have g1_5:w1.cell? ⟨w.heap.size,5,none⟩=some (.int .i64 x5):=kk1.cell 5
 have g1_6:w1.cell? ⟨w.heap.size,6,none⟩=some (.int .i64 x6):=kk1.cell 6
 clear u1
 go_wp2_with fail
 go_ret
 exact HeldP.mk (by unfold Hid;first | (rw [HC.out];done) | (rw [HC.out];omega)) uu1
theorem c_heldCache (v:Value) (x:TCache) (k:Int) (w:World) (h:AV shCache w v x) (hm:mmTCache.mark x k=x) (hk0:0<k) (hk1:k+(mmTCache.cnt x:Nat)≤1000000000) :
   Calls Tryz.prog 29 #[v,.int .i64 k] w (HeldP (k+(mmTCache.cnt x:Nat)) w):=by
 obtain ⟨cs,rfl,h⟩:=h
 obtain ⟨⟨x0,x1,x2⟩,⟨x3,x4,x5,x6⟩,⟨x7,x8,x9,x10⟩,x11,x12⟩:=x
 have ho:=openCache h
 try dsimp only at ho
 obtain ⟨A1,c1,A2,c2,A6,c6,A10,c10,A11,c11,A12,c12,rfl,b0,b1,b2,b3,b4,b5,b6,b7,b8,b9,b10,b11,b12⟩:=ho
 have hcn:mmTCache.cnt ((x0,x1,x2),(x3,x4,x5,x6),(x7,x8,x9,x10),x11,x12)=mmTDisk.cnt (x0,x1,x2)+(mmTTop.cnt (x3,x4,x5,x6)+(mmTTop.cnt (x7,x8,x9,x10)+((mkL mmSeat).cnt x11+((mkL mkI).cnt x12)))):=rfl
 rw [hcn] at hk1
 have HC:=Lib.hid hcn;clear hcn
 have hv0:Hid (mmTDisk.mark (x0,x1,x2) (k)=(x0,x1,x2)):=by have:=congrArg (fun q:TCache=>q.1) hm;unfold Hid;exact Eq.trans (by first | rfl | simp [mmTCache,mkP,mk0,mkL]) this
 have hv3:Hid (mmTTop.mark (x3,x4,x5,x6) (k+(mmTDisk.cnt (x0,x1,x2):Nat))=(x3,x4,x5,x6)):=by have:=congrArg (fun q:TCache=>q.2.1) hm;unfold Hid;exact Eq.trans (by first | rfl | simp [mmTCache,mkP,mk0,mkL]) this
 have hv7:Hid (mmTTop.mark (x7,x8,x9,x10) (k+(mmTDisk.cnt (x0,x1,x2):Nat)+(mmTTop.cnt (x3,x4,x5,x6):Nat))=(x7,x8,x9,x10)):=by have:=congrArg (fun q:TCache=>q.2.2.1) hm;unfold Hid;exact Eq.trans (by first | rfl | simp [mmTCache,mkP,mk0,mkL]) this
 have hv11:Hid (markL mmSeat x11 (k+(mmTDisk.cnt (x0,x1,x2):Nat)+(mmTTop.cnt (x3,x4,x5,x6):Nat)+(mmTTop.cnt (x7,x8,x9,x10):Nat))=x11):=by have:=congrArg (fun q:TCache=>q.2.2.2.1) hm;unfold Hid;exact Eq.trans (by first | rfl | simp [mmTCache,mkP,mk0,mkL]) this
 have hv12:Hid (markL mkI x12 (k+(mmTDisk.cnt (x0,x1,x2):Nat)+(mmTTop.cnt (x3,x4,x5,x6):Nat)+(mmTTop.cnt (x7,x8,x9,x10):Nat)+((mkL mmSeat).cnt x11:Nat))=x12):=by have:=congrArg (fun q:TCache=>q.2.2.2.2) hm;unfold Hid;exact Eq.trans (by first | rfl | simp [mmTCache,mkP,mk0,mkL]) this
 clear hm
 have kk0:Bk (w.alloc (.cells #[.int .i64 x0,.slice A1 x1.length c1,.slice A2 x2.length c2,.int .i64 x3,.int .i64 x4,.int .i64 x5,.slice A6 x6.length c6,.int .i64 x7,.int .i64 x8,.int .i64 x9,.slice A10 x10.length c10,.slice A11 x11.length c11,.slice A12 x12.length c12] 50)) w.heap.size 50 #[.int .i64 x0,.slice A1 x1.length c1,.slice A2 x2.length c2,.int .i64 x3,.int .i64 x4,.int .i64 x5,.slice A6 x6.length c6,.int .i64 x7,.int .i64 x8,.int .i64 x9,.slice A10 x10.length c10,.slice A11 x11.length c11,.slice A12 x12.length c12]:=Bk.new _ _ _
 have uu0:Up w (w.alloc (.cells #[.int .i64 x0,.slice A1 x1.length c1,.slice A2 x2.length c2,.int .i64 x3,.int .i64 x4,.int .i64 x5,.slice A6 x6.length c6,.int .i64 x7,.int .i64 x8,.int .i64 x9,.slice A10 x10.length c10,.slice A11 x11.length c11,.slice A12 x12.length c12] 50)):=(Up.refl _).alloc _
 go_enter Tryz.func29,Tryz.ntmps29
 go_wp2_with fail
 refine (c_heldDisk _ (x0,x1,x2) _ _ ⟨_,rfl,mkDisk (x:=(x0,x1,x2)) b0 (b1.up good_S uu0) (b2.up good_Put uu0)⟩ hv0.out (by omega) (by omega)).mono ?_
 rintro e w1 ⟨rfl,u1⟩
 have uu1:=uu0.trans u1
 have kk1:=kk0.up u1
 have g1_1:w1.cell? ⟨w.heap.size,1,none⟩=some (.slice A1 x1.length c1):=kk1.cell 1
 have g1_2:w1.cell? ⟨w.heap.size,2,none⟩=some (.slice A2 x2.length c2):=kk1.cell 2
 have g1_3:w1.cell? ⟨w.heap.size,3,none⟩=some (.int .i64 x3):=kk1.cell 3
 have g1_4:w1.cell? ⟨w.heap.size,4,none⟩=some (.int .i64 x4):=kk1.cell 4
 have g1_5:w1.cell? ⟨w.heap.size,5,none⟩=some (.int .i64 x5):=kk1.cell 5
 have g1_6:w1.cell? ⟨w.heap.size,6,none⟩=some (.slice A6 x6.length c6):=kk1.cell 6
 have g1_7:w1.cell? ⟨w.heap.size,7,none⟩=some (.int .i64 x7):=kk1.cell 7
 have g1_8:w1.cell? ⟨w.heap.size,8,none⟩=some (.int .i64 x8):=kk1.cell 8
 have g1_9:w1.cell? ⟨w.heap.size,9,none⟩=some (.int .i64 x9):=kk1.cell 9
 have g1_10:w1.cell? ⟨w.heap.size,10,none⟩=some (.slice A10 x10.length c10):=kk1.cell 10
 have g1_11:w1.cell? ⟨w.heap.size,11,none⟩=some (.slice A11 x11.length c11):=kk1.cell 11
 have g1_12:w1.cell? ⟨w.heap.size,12,none⟩=some (.slice A12 x12.length c12):=kk1.cell 12
 clear u1
 go_wp2_with fail
 refine (c_heldTop _ (x3,x4,x5,x6) _ _ ⟨_,rfl,mkTop (x:=(x3,x4,x5,x6)) b3 b4 b5 (b6.up good_Seat uu1)⟩ hv3.out (by omega) (by omega)).mono ?_
 rintro e w2 ⟨rfl,u2⟩
 have uu2:=uu1.trans u2
 have kk2:=kk1.up u2
 have g2_4:w2.cell? ⟨w.heap.size,4,none⟩=some (.int .i64 x4):=kk2.cell 4
 have g2_5:w2.cell? ⟨w.heap.size,5,none⟩=some (.int .i64 x5):=kk2.cell 5
 have g2_6:w2.cell? ⟨w.heap.size,6,none⟩=some (.slice A6 x6.length c6):=kk2.cell 6
 have g2_7:w2.cell? ⟨w.heap.size,7,none⟩=some (.int .i64 x7):=kk2.cell 7
 have g2_8:w2.cell? ⟨w.heap.size,8,none⟩=some (.int .i64 x8):=kk2.cell 8
 have g2_9:w2.cell? ⟨w.heap.size,9,none⟩=some (.int .i64 x9):=kk2.cell 9
 have g2_10:w2.cell? ⟨w.heap.size,10,none⟩=some (.slice A10 x10.length c10):=kk2.cell 10
 have g2_11:w2.cell? ⟨w.heap.size,11,none⟩=some (.slice A11 x11.length c11):=kk2.cell 11
 have g2_12:w2.cell? ⟨w.heap.size,12,none⟩=some (.slice A12 x12.length c12):=kk2.cell 12
 clear u2
 go_wp2_with fail
 refine (c_heldTop _ (x7,x8,x9,x10) _ _ ⟨_,rfl,mkTop (x:=(x7,x8,x9,x10)) b7 b8 b9 (b10.up good_Seat uu2)⟩ hv7.out (by omega) (by omega)).mono ?_
 rintro e w3 ⟨rfl,u3⟩
 have uu3:=uu2.trans u3
 have kk3:=kk2.up u3
 have g3_8:w3.cell? ⟨w.heap.size,8,none⟩=some (.int .i64 x8):=kk3.cell 8
 have g3_9:w3.cell? ⟨w.heap.size,9,none⟩=some (.int .i64 x9):=kk3.cell 9
 have g3_10:w3.cell? ⟨w.heap.size,10,none⟩=some (.slice A10 x10.length c10):=kk3.cell 10
 have g3_11:w3.cell? ⟨w.heap.size,11,none⟩=some (.slice A11 x11.length c11):=kk3.cell 11
 have g3_12:w3.cell? ⟨w.heap.size,12,none⟩=some (.slice A12 x12.length c12):=kk3.cell 12
 clear u3
 go_wp2_with fail
 refine (c_heldSeatS _ _ _ _ _ (b11.up good_Seat uu3) hv11.out (by omega) (by omega)).mono ?_
 rintro e w4 ⟨rfl,u4⟩
 have uu4:=uu3.trans u4
 have kk4:=kk3.up u4
 have g4_12:w4.cell? ⟨w.heap.size,12,none⟩=some (.slice A12 x12.length c12):=kk4.cell 12
 clear u4
 go_wp2_with fail
 refine (c_heldInt64S _ _ _ _ _ (b12.up good_I uu4) hv12.out (by omega) (by omega)).mono ?_
 rintro e w5 ⟨rfl,u5⟩
 have uu5:=uu4.trans u5
 have kk5:=kk4.up u5
 clear u5
 go_wp2_with fail
 go_ret
 exact HeldP.mk (by unfold Hid;first | (rw [HC.out];done) | (rw [HC.out];omega)) uu5
end Go.Proofs.YthdnicfbnihoaaaGreatDoor
namespace Go.Proofs.YthdnicfbnihoaaaGreatDoor
open Go.RowKit
set_option linter.unusedVariables false
end Go.Proofs.YthdnicfbnihoaaaGreatDoor
