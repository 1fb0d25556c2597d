/-
 Contracts of the laws' mark and held helpers.
-/
import Derived.Test.YthdnicfbnihoaaaGreatDoorRows
import Derived.Test.YthdnicfbnihoaaaGreatDoorM4E
import Derived.Test.YthdnicfbnihoaaaGreatDoorM4A
import Derived.Test.YthdnicfbnihoaaaGreatDoorM4J
import Derived.StillTailTactics
import Derived.Lib.SlBytesRow
set_option maxHeartbeats 4000000
set_option maxRecDepth 100000
namespace Go.Proofs.YthdnicfbnihoaaaGreatDoor
open Go.RowKit
set_option linter.unusedVariables false
set_option linter.unusedSimpArgs false
theorem run_one (n:Nat) (hn:n<256) (W:World):(convert 189 9 (.slice (some ⟨W.heap.size,0,none⟩) 1 1)).run Tryz.prog (W.alloc (.cells #[.int .u8 (n:Int)] 5))=.ok (.string ⟨#[UInt8.ofNat n]⟩) (W.alloc (.cells #[.int .u8 (n:Int)] 5)):=by
 have h:=Lib.run_convert_whole (P:=Tryz.prog) (W.alloc (.cells #[.int .u8 (n:Int)] 5)) 189 5 9 Tryz.underlying189 Tryz.underlying5 Tryz.underlying9 W.heap.size 0 ⟨#[UInt8.ofNat n]⟩ (fun i hi=>?_) 1
 · exact h
 · obtain rfl:i=0:=by have:i<1:=hi;omega
   rw [(Bk.new W 5 #[.int .u8 (n:Int)]).cell]
   have e:(UInt8.ofNat n).toNat=n:=by rw [UInt8.toNat_ofNat'];omega
   show some (Value.int .u8 (n:Int))=some (.int .u8 (((UInt8.ofNat n).toNat:Nat):Int))
   rw [e]
theorem c_markText (k:Int) (w:World) (h0:0<k) (h1:k≤1000000000):Calls Tryz.prog 149 #[.int .i64 k] w (RetV (.string (mtext k)) w):=by
 have hk:Hid (mtext k=⟨#[109]⟩++dg k.toNat k.toNat ⟨#[]⟩):=rfl
 go_enter Tryz.func149,Tryz.ntmps149
 go_wp2_with fail
 go_loopw [0,3] (fun a b wr=>∃(m f:Nat) (out:ByteArray),a=.int .i64 m∧b=.string out∧m≤f∧(m:Int)≤k∧out.size+m≤1000000000∧Hid (dg f m out=dg k.toNat k.toNat ⟨#[]⟩)∧Up w wr) (fun a _ _=>(intOf a).toNat)
 case atStart=>exact ⟨k.toNat,k.toNat,⟨#[]⟩,by go_num,rfl,Nat.le_refl _,by omega,by show 0+k.toNat≤_;omega,rfl,Up.refl _⟩
 case round =>
   obtain ⟨m,f,out,rfl,rfl,hf,hmk,hsz,HD,hu⟩:=hrel
   by_cases hm:(0:Int)<m
   · obtain ⟨f,rfl⟩:∃f',f=f'+1:=⟨f - 1,by omega⟩
     have HN:Hid (dg f (m / 10) (⟨#[UInt8.ofNat (48+m % 10)]⟩++out)=dg k.toNat k.toNat ⟨#[]⟩):=by
       have h:=HD.out
       unfold Hid
       rw [← h]
       conv=>rhs;unfold dg
       rw [if_neg (by omega)]
     have hcv:=fun W:World=>run_one (48+m % 10) (by omega) W
     have ec:((48+m % 10:Nat):Int)=48+(m:Int) % 10:=by omega
     simp only [ec] at hcv
     clear ec
     have h1s:(ByteArray.mk #[UInt8.ofNat (48+m % 10)]).size=1:=rfl
     generalize ByteArray.mk #[UInt8.ofNat (48+m % 10)]=dgt at *
     go_wp2_with fail
     go_roundw
     case rel=>exact ⟨m / 10,f,dgt++out,by go_num,rfl,by omega,by omega,by rw [ByteArray.size_append];omega,HN,hu.alloc _⟩
     case measure=>simp [intOf];omega
   · obtain rfl:m=0:=by omega
     have HO:Hid (mtext k=⟨#[109]⟩++out):=by unfold Hid;rw [hk.out,← HD.out,dg_zero]
     go_wp2_with fail
     go_ret
     exact ret_str HO hu
def mmSeat:Mk TSeat:=(mkP mkI mkI)
theorem gm_Seat:GoodM mmSeat:=(gm_P gm_I gm_I)
def mmPut:Mk TPut:=(mkP mkI mkS)
theorem gm_Put:GoodM mmPut:=(gm_P gm_I gm_S)
def mmTDisk:Mk TDisk:=(mkP mk0 (mkP (mkL mkS) (mkL mmPut)))
theorem gmT_Disk:GoodM mmTDisk:=(gm_P gm_0 (gm_P (gm_L gm_S) (gm_L gm_Put)))
def mmTTop:Mk TTop:=(mkP mk0 (mkP mk0 (mkP mk0 (mkL mmSeat))))
theorem gmT_Top:GoodM mmTTop:=(gm_P gm_0 (gm_P gm_0 (gm_P gm_0 (gm_L gm_Seat))))
def mmPage:Mk TPage:=(mkP mkB (mkP (mkL mkS) (mkP (mkL mkS) (mkL mkI))))
theorem gm_Page:GoodM mmPage:=(gm_P gm_B (gm_P (gm_L gm_S) (gm_P (gm_L gm_S) (gm_L gm_I))))
def mmSlot:Mk TSlot:=(mkP mkI mmPage)
theorem gm_Slot:GoodM mmSlot:=(gm_P gm_I gm_Page)
def mmTBtree:Mk TBtree:=(mkP mk0 (mkL mmSlot))
theorem gmT_Btree:GoodM mmTBtree:=(gm_P gm_0 (gm_L gm_Slot))
def mmTJournal:Mk TJournal:=(mkP mmTDisk (mkP mk0 (mkP mk0 (mkP mk0 mk0))))
theorem gmT_Journal:GoodM mmTJournal:=(gm_P gmT_Disk (gm_P gm_0 (gm_P gm_0 (gm_P gm_0 gm_0))))
def mmTCache:Mk TCache:=(mkP mmTDisk (mkP mmTTop (mkP mmTTop (mkP (mkL mmSeat) (mkL mkI)))))
theorem gmT_Cache:GoodM mmTCache:=(gm_P gmT_Disk (gm_P gmT_Top (gm_P gmT_Top (gm_P (gm_L gm_Seat) (gm_L gm_I)))))
theorem c_markStringS (xs:List ByteArray) (A:Option Addr) (c:Nat) (k:Int) (lo hi:Nat) (bl:List Nat) (w:World) (h:SO shS w lo hi A c xs bl) (hhi:hi≤w.heap.size) (hnd:bl.Nodup) (hk0:0<k) (hk1:k+((mkL mkS).cnt xs:Nat)≤1000000000) :
   Calls Tryz.prog 115 #[.slice A xs.length c,.int .i64 k] w (MarkL shS mkS lo hi A c xs k bl w):=by
 have hlen:xs.length≤9223372036854775807:=(h.rep good_S).len_le
 have hk2:k+((xs.map (mkS).cnt).sum:Nat)≤1000000000:=hk1
 clear hk1
 go_enter Tryz.func115,Tryz.ntmps115
 go_wp2_with fail
 go_loopw [1,5] (fun a b wr=>∃(i:Nat) (K:Int),i≤xs.length∧a=.int .i64 K∧b=.int .i64 i∧Hid (K=k+psum (mkS).cnt xs i)∧0<K∧K≤1000000000∧SO shS wr lo hi A c (pm mkS xs k i) bl∧Only bl w wr) (fun _ b _=>xs.length - (intOf b).toNat)
 case atStart=>exact ⟨0,k,Nat.zero_le _,rfl,rfl,by unfold Hid;rw [psum_zero];simp,hk0,by omega,by rw [pm_zero];exact h,Only.refl _ _⟩
 case round =>
   obtain ⟨i,K,hii,rfl,rfl,HK,hK0,hK1,hS,hO⟩:=hrel
   by_cases hlt:i<xs.length
   · have hps:=psum_le (mkS).cnt xs (i+1)
     rw [psum_succ (mkS).cnt xs i hlt] at hps
     have hKb:K+((mkS).cnt xs[i]:Nat)≤1000000000:=by rw [HK.out];omega
     have HK2:Hid (K+((mkS).cnt xs[i]:Nat)=k+psum (mkS).cnt xs (i+1)):=by unfold Hid;rw [HK.out,psum_succ (mkS).cnt xs i hlt];omega
     have hhi2:hi≤wr.heap.size:=Nat.le_trans hhi hO.size
     obtain ⟨g,off,C,tid,b,cs,rfl,hg1,hg2,hbk,hcl,hcells,ho,hgm,hgb,hbn,hbm,hput⟩:=hS.focus good_S hnd (pm_at mkS xs k i hlt)
     clear hcl hps
     have hKc:K+((1:Nat):Int)≤1000000000:=hKb
     obtain ⟨⟨rfl,f0⟩,hbe⟩:=ho
     have e0:C[off+i]?=some (.string xs[i]):=by simpa [shS] using hcells 0 (by decide)
     have c0_0:wr.cell? ⟨g,off+i,none⟩=some (.string xs[i]):=by rw [hbk.cell];exact e0
     have z0_0:wr.frozen? ⟨g,off+i,none⟩=false:=hbk.frozen _
     go_wp2_with fail
     refine (c_markText _ _ (by omega) (by omega)).mono ?_
     rintro e w1 ⟨rfl,u1⟩
     have kb1:=hbk.up u1
     have on1:=hO.up u1
     have sz1:hi≤w1.heap.size:=Nat.le_trans hhi on1.size
     have re1:∀y,y<hi→y≠g→y ∉ b→w1.heap[y]?=wr.heap[y]?:=fun y hy hyg hyb=>(u1.block y (Nat.lt_of_lt_of_le hy (Nat.le_trans hhi hO.size)))
     have c1_0:w1.cell? ⟨g,off+i,none⟩=some (.string xs[i]):=by rw [kb1.cell];exact e0
     have z1_0:w1.frozen? ⟨g,off+i,none⟩=false:=kb1.frozen _
     clear u1
     go_wp2_with fail
     have kb2:Bk (w1.setCell ⟨g,off+i,none⟩ (.string (mtext K))) g tid (C.setIfInBounds (off+i) (.string (mtext K))):=(kb1.set (off+i) (.string (mtext K)))
     have on2:Only bl w (w1.setCell ⟨g,off+i,none⟩ (.string (mtext K))):=(on1.but (But.set _ g (off+i) (.string (mtext K))) hgm)
     have bu2:But g w1 (w1.setCell ⟨g,off+i,none⟩ (.string (mtext K))):=But.set _ g (off+i) (.string (mtext K))
     have re2:∀y,y<hi→y≠g→y ∉ b→(w1.setCell ⟨g,off+i,none⟩ (.string (mtext K))).heap[y]?=wr.heap[y]?:=fun y hy hyg hyb=>(bu2.block y hyg).trans (re1 y hy hyg hyb)
     have hxm:(mkS).mark xs[i] K=(mtext (K)):=rfl
     have hown:shS.own (w1.setCell ⟨g,off+i,none⟩ (.string (mtext K))) lo hi [.string (mtext K)] (mtext (K)) b:=⟨⟨rfl,(mtext_le (by omega))⟩,hbe⟩
     have hcell:∀j,j<shS.size→(C.setIfInBounds (off+i) (.string (mtext K)))[off+(i*shS.size+j)]?=[.string (mtext K)][j]?:=by
       intro j hj
       obtain rfl:j=0:=by have:j<1:=hj;omega
       show (C.setIfInBounds (off+i) (.string (mtext K)))[off+(i*1+0)]?=some _
       exact set_same (by omega) e0
     have hfar:∀p,(p<off+i*shS.size∨off+i*shS.size+shS.size≤p)→(C.setIfInBounds (off+i) (.string (mtext K)))[p]?=C[p]?:=by
       intro p hp
       have hp':p<off+i*1∨off+i*1+1≤p:=hp
       rw [set_ne (by omega)]
     have hS2:=hput _ _ _ _ kb2 hcell hfar hown (fun y hy hyg hyb=>re2 y (hS.in_ good_S y hy).2 hyg hyb)
     have hpm:(pm mkS xs k i).set i (mtext (K))=pm mkS xs k (i+1):=by rw [← hxm,HK.out];exact pm_succ mkS xs k i hlt
     rw [hpm] at hS2
     clear hpm hxm
     have hcn:((mkS).cnt xs[i]:Nat)=1:=rfl
     have HK3:Hid (K+1=k+psum (mkS).cnt xs (i+1)):=by unfold Hid;rw [← HK2.out,hcn];omega
     have hk5:K+1≤1000000000:=by rw [hcn] at hKb;omega
     clear hcn
     go_roundw
     case rel=>exact ⟨i+1,K+1,by omega,rfl,by go_num,HK3,by omega,hk5,hS2,on2⟩
     case measure=>simp [intOf];omega
   · have HE:Hid (K=k+((mkL mkS).cnt xs:Nat)):=by unfold Hid;rw [HK.out];show _=k+(((xs.map (mkS).cnt).sum:Nat):Int);rw [← psum_all (mkS).cnt xs,show i=xs.length by omega]
     rw [pm_all mkS xs k i (by omega)] at hS
     go_wp2_with fail
     go_ret
     exact MarkL.mk HE hS hO
theorem c_markInt64S (xs:List Int) (A:Option Addr) (c:Nat) (k:Int) (lo hi:Nat) (bl:List Nat) (w:World) (h:SO shI w lo hi A c xs bl) (hhi:hi≤w.heap.size) (hnd:bl.Nodup) (hk0:0<k) (hk1:k+((mkL mkI).cnt xs:Nat)≤1000000000) :
   Calls Tryz.prog 66 #[.slice A xs.length c,.int .i64 k] w (MarkL shI mkI lo hi A c xs k bl w):=by
 have hlen:xs.length≤9223372036854775807:=(h.rep good_I).len_le
 have hk2:k+((xs.map (mkI).cnt).sum:Nat)≤1000000000:=hk1
 clear hk1
 go_enter Tryz.func66,Tryz.ntmps66
 go_wp2_with fail
 go_loopw [1,5] (fun a b wr=>∃(i:Nat) (K:Int),i≤xs.length∧a=.int .i64 K∧b=.int .i64 i∧Hid (K=k+psum (mkI).cnt xs i)∧0<K∧K≤1000000000∧SO shI wr lo hi A c (pm mkI xs k i) bl∧Only bl w wr) (fun _ b _=>xs.length - (intOf b).toNat)
 case atStart=>exact ⟨0,k,Nat.zero_le _,rfl,rfl,by unfold Hid;rw [psum_zero];simp,hk0,by omega,by rw [pm_zero];exact h,Only.refl _ _⟩
 case round =>
   obtain ⟨i,K,hii,rfl,rfl,HK,hK0,hK1,hS,hO⟩:=hrel
   by_cases hlt:i<xs.length
   · have hps:=psum_le (mkI).cnt xs (i+1)
     rw [psum_succ (mkI).cnt xs i hlt] at hps
     have hKb:K+((mkI).cnt xs[i]:Nat)≤1000000000:=by rw [HK.out];omega
     have HK2:Hid (K+((mkI).cnt xs[i]:Nat)=k+psum (mkI).cnt xs (i+1)):=by unfold Hid;rw [HK.out,psum_succ (mkI).cnt xs i hlt];omega
     have hhi2:hi≤wr.heap.size:=Nat.le_trans hhi hO.size
     obtain ⟨g,off,C,tid,b,cs,rfl,hg1,hg2,hbk,hcl,hcells,ho,hgm,hgb,hbn,hbm,hput⟩:=hS.focus good_I hnd (pm_at mkI xs k i hlt)
     clear hcl hps
     have hKc:K+((1:Nat):Int)≤1000000000:=hKb
     obtain ⟨⟨rfl,f0⟩,hbe⟩:=ho
     have e0:C[off+i]?=some (.int .i64 xs[i]):=by simpa [shI] using hcells 0 (by decide)
     have c0_0:wr.cell? ⟨g,off+i,none⟩=some (.int .i64 xs[i]):=by rw [hbk.cell];exact e0
     have z0_0:wr.frozen? ⟨g,off+i,none⟩=false:=hbk.frozen _
     go_wp2_with fail
     have kb1:Bk (wr.setCell ⟨g,off+i,none⟩ (.int .i64 K)) g tid (C.setIfInBounds (off+i) (.int .i64 K)):=(hbk.set (off+i) (.int .i64 K))
     have on1:Only bl w (wr.setCell ⟨g,off+i,none⟩ (.int .i64 K)):=(hO.but (But.set _ g (off+i) (.int .i64 K)) hgm)
     have bu1:But g wr (wr.setCell ⟨g,off+i,none⟩ (.int .i64 K)):=But.set _ g (off+i) (.int .i64 K)
     have re1:∀y,y<hi→y≠g→y ∉ b→(wr.setCell ⟨g,off+i,none⟩ (.int .i64 K)).heap[y]?=wr.heap[y]?:=fun y hy hyg hyb=>(bu1.block y hyg)
     have hxm:(mkI).mark xs[i] K=(K):=rfl
     have hown:shI.own (wr.setCell ⟨g,off+i,none⟩ (.int .i64 K)) lo hi [.int .i64 K] (K) b:=⟨⟨rfl,⟨by omega,by omega⟩⟩,hbe⟩
     have hcell:∀j,j<shI.size→(C.setIfInBounds (off+i) (.int .i64 K))[off+(i*shI.size+j)]?=[.int .i64 K][j]?:=by
       intro j hj
       obtain rfl:j=0:=by have:j<1:=hj;omega
       show (C.setIfInBounds (off+i) (.int .i64 K))[off+(i*1+0)]?=some _
       exact set_same (by omega) e0
     have hfar:∀p,(p<off+i*shI.size∨off+i*shI.size+shI.size≤p)→(C.setIfInBounds (off+i) (.int .i64 K))[p]?=C[p]?:=by
       intro p hp
       have hp':p<off+i*1∨off+i*1+1≤p:=hp
       rw [set_ne (by omega)]
     have hS2:=hput _ _ _ _ kb1 hcell hfar hown (fun y hy hyg hyb=>re1 y (hS.in_ good_I y hy).2 hyg hyb)
     have hpm:(pm mkI xs k i).set i (K)=pm mkI xs k (i+1):=by rw [← hxm,HK.out];exact pm_succ mkI xs k i hlt
     rw [hpm] at hS2
     clear hpm hxm
     have hcn:((mkI).cnt xs[i]:Nat)=1:=rfl
     have HK3:Hid (K+1=k+psum (mkI).cnt xs (i+1)):=by unfold Hid;rw [← HK2.out,hcn];omega
     have hk5:K+1≤1000000000:=by rw [hcn] at hKb;omega
     clear hcn
     go_roundw
     case rel=>exact ⟨i+1,K+1,by omega,rfl,by go_num,HK3,by omega,hk5,hS2,on1⟩
     case measure=>simp [intOf];omega
   · have HE:Hid (K=k+((mkL mkI).cnt xs:Nat)):=by unfold Hid;rw [HK.out];show _=k+(((xs.map (mkI).cnt).sum:Nat):Int);rw [← psum_all (mkI).cnt xs,show i=xs.length by omega]
     rw [pm_all mkI xs k i (by omega)] at hS
     go_wp2_with fail
     go_ret
     exact MarkL.mk HE hS hO
theorem c_markSeatS (xs:List TSeat) (A:Option Addr) (c:Nat) (k:Int) (lo hi:Nat) (bl:List Nat) (w:World) (h:SO shSeat w lo hi A c xs bl) (hhi:hi≤w.heap.size) (hnd:bl.Nodup) (hk0:0<k) (hk1:k+((mkL mmSeat).cnt xs:Nat)≤1000000000) :
   Calls Tryz.prog 65 #[.slice A xs.length c,.int .i64 k] w (MarkL shSeat mmSeat lo hi A c xs k bl w):=by
 have hlen:xs.length≤9223372036854775807:=(h.rep good_Seat).len_le
 have hk2:k+((xs.map (mmSeat).cnt).sum:Nat)≤1000000000:=hk1
 clear hk1
 go_enter Tryz.func65,Tryz.ntmps65
 go_wp2_with fail
 go_loopw [1,5] (fun a b wr=>∃(i:Nat) (K:Int),i≤xs.length∧a=.int .i64 K∧b=.int .i64 i∧Hid (K=k+psum (mmSeat).cnt xs i)∧0<K∧K≤1000000000∧SO shSeat wr lo hi A c (pm mmSeat xs k i) bl∧Only bl w wr) (fun _ b _=>xs.length - (intOf b).toNat)
 case atStart=>exact ⟨0,k,Nat.zero_le _,rfl,rfl,by unfold Hid;rw [psum_zero];simp,hk0,by omega,by rw [pm_zero];exact h,Only.refl _ _⟩
 case round =>
   obtain ⟨i,K,hii,rfl,rfl,HK,hK0,hK1,hS,hO⟩:=hrel
   by_cases hlt:i<xs.length
   · have hps:=psum_le (mmSeat).cnt xs (i+1)
     rw [psum_succ (mmSeat).cnt xs i hlt] at hps
     have hKb:K+((mmSeat).cnt xs[i]:Nat)≤1000000000:=by rw [HK.out];omega
     have HK2:Hid (K+((mmSeat).cnt xs[i]:Nat)=k+psum (mmSeat).cnt xs (i+1)):=by unfold Hid;rw [HK.out,psum_succ (mmSeat).cnt xs i hlt];omega
     have hhi2:hi≤wr.heap.size:=Nat.le_trans hhi hO.size
     obtain ⟨g,off,C,tid,b,cs,rfl,hg1,hg2,hbk,hcl,hcells,ho,hgm,hgb,hbn,hbm,hput⟩:=hS.focus good_Seat hnd (pm_at mmSeat xs k i hlt)
     clear hcl hps
     have hKc:K+((1+(1):Nat):Int)≤1000000000:=hKb
     obtain ⟨rfl,hbe,f0,f1⟩:=openOSeat ho
     have e0:C[off+i*2]?=some (.int .i64 xs[i].1):=hcells 0 (by decide)
     have e1:C[off+i*2+1]?=some (.int .i64 xs[i].2):=hcells 1 (by decide)
     have c0_0:wr.cell? ⟨g,off+i*2,none⟩=some (.int .i64 xs[i].1):=by rw [hbk.cell];exact e0
     have z0_0:wr.frozen? ⟨g,off+i*2,none⟩=false:=hbk.frozen _
     have c0_1:wr.cell? ⟨g,off+i*2+1,none⟩=some (.int .i64 xs[i].2):=by rw [hbk.cell];exact e1
     have z0_1:wr.frozen? ⟨g,off+i*2+1,none⟩=false:=hbk.frozen _
     go_wp2_with fail
     have kb1:Bk ((wr.setCell ⟨g,off+i*2,none⟩ (.int .i64 K)).setCell ⟨g,off+i*2+1,none⟩ (.int .i64 (K+1))) g tid ((C.setIfInBounds (off+i*2) (.int .i64 K)).setIfInBounds (off+i*2+1) (.int .i64 (K+1))):=((hbk.set (off+i*2) (.int .i64 K)).set (off+i*2+1) (.int .i64 (K+1)))
     have on1:Only bl w ((wr.setCell ⟨g,off+i*2,none⟩ (.int .i64 K)).setCell ⟨g,off+i*2+1,none⟩ (.int .i64 (K+1))):=((hO.but (But.set _ g (off+i*2) (.int .i64 K)) hgm).but (But.set _ g (off+i*2+1) (.int .i64 (K+1))) hgm)
     have bu1:But g wr ((wr.setCell ⟨g,off+i*2,none⟩ (.int .i64 K)).setCell ⟨g,off+i*2+1,none⟩ (.int .i64 (K+1))):=(But.set _ g (off+i*2) (.int .i64 K)).trans (But.set _ g (off+i*2+1) (.int .i64 (K+1)))
     have re1:∀y,y<hi→y≠g→y ∉ b→((wr.setCell ⟨g,off+i*2,none⟩ (.int .i64 K)).setCell ⟨g,off+i*2+1,none⟩ (.int .i64 (K+1))).heap[y]?=wr.heap[y]?:=fun y hy hyg hyb=>(bu1.block y hyg)
     have hxm:(mmSeat).mark xs[i] K=((K),(K+1)):=rfl
     have hown:shSeat.own ((wr.setCell ⟨g,off+i*2,none⟩ (.int .i64 K)).setCell ⟨g,off+i*2+1,none⟩ (.int .i64 (K+1))) lo hi [.int .i64 K,.int .i64 (K+1)] ((K),(K+1)) b:=by rw [hbe];exact mkOSeat (x:=((K),(K+1))) ⟨by omega,by omega⟩ ⟨by omega,by omega⟩
     have hcell:∀j,j<shSeat.size→((C.setIfInBounds (off+i*2) (.int .i64 K)).setIfInBounds (off+i*2+1) (.int .i64 (K+1)))[off+(i*shSeat.size+j)]?=[.int .i64 K,.int .i64 (K+1)][j]?:=by
       intro j hj
       have hj':j<2:=hj
       by_cases hj0:j=0
       · subst hj0
         show ((C.setIfInBounds (off+i*2) (.int .i64 K)).setIfInBounds (off+i*2+1) (.int .i64 (K+1)))[off+(i*2+0)]?=some _
         rw [show off+(i*2+0)=off+i*2 by omega]
         rw [set_ne (by omega)];exact set_same rfl e0
       by_cases hj1:j=1
       · subst hj1
         show ((C.setIfInBounds (off+i*2) (.int .i64 K)).setIfInBounds (off+i*2+1) (.int .i64 (K+1)))[off+(i*2+1)]?=some _
         rw [show off+(i*2+1)=off+i*2+1 by omega]
         exact set_same rfl (by rw [set_ne (by omega)];exact e1)
       omega
     have hfar:∀p,(p<off+i*shSeat.size∨off+i*shSeat.size+shSeat.size≤p)→((C.setIfInBounds (off+i*2) (.int .i64 K)).setIfInBounds (off+i*2+1) (.int .i64 (K+1)))[p]?=C[p]?:=by
       intro p hp
       have hp':p<off+i*2∨off+i*2+2≤p:=hp
       rw [set_ne (by omega)];rw [set_ne (by omega)]
     have hS2:=hput _ _ _ _ kb1 hcell hfar hown (fun y hy hyg hyb=>re1 y (hS.in_ good_Seat y hy).2 hyg hyb)
     have hpm:(pm mmSeat xs k i).set i ((K),(K+1))=pm mmSeat xs k (i+1):=by rw [← hxm,HK.out];exact pm_succ mmSeat xs k i hlt
     rw [hpm] at hS2
     clear hpm hxm
     have hcn:((mmSeat).cnt xs[i]:Nat)=1+(1):=rfl
     have HK3:Hid (K+1+1=k+psum (mmSeat).cnt xs (i+1)):=by unfold Hid;rw [← HK2.out,hcn];omega
     have hk5:K+1+1≤1000000000:=by rw [hcn] at hKb;omega
     clear hcn
     go_roundw
     case rel=>exact ⟨i+1,K+1+1,by omega,rfl,by go_num,HK3,by omega,hk5,hS2,on1⟩
     case measure=>simp [intOf];omega
   · have HE:Hid (K=k+((mkL mmSeat).cnt xs:Nat)):=by unfold Hid;rw [HK.out];show _=k+(((xs.map (mmSeat).cnt).sum:Nat):Int);rw [← psum_all (mmSeat).cnt xs,show i=xs.length by omega]
     rw [pm_all mmSeat xs k i (by omega)] at hS
     go_wp2_with fail
     go_ret
     exact MarkL.mk HE hS hO
theorem c_markPutS (xs:List TPut) (A:Option Addr) (c:Nat) (k:Int) (lo hi:Nat) (bl:List Nat) (w:World) (h:SO shPut w lo hi A c xs bl) (hhi:hi≤w.heap.size) (hnd:bl.Nodup) (hk0:0<k) (hk1:k+((mkL mmPut).cnt xs:Nat)≤1000000000) :
   Calls Tryz.prog 116 #[.slice A xs.length c,.int .i64 k] w (MarkL shPut mmPut lo hi A c xs k bl w):=by
 have hlen:xs.length≤9223372036854775807:=(h.rep good_Put).len_le
 have hk2:k+((xs.map (mmPut).cnt).sum:Nat)≤1000000000:=hk1
 clear hk1
 go_enter Tryz.func116,Tryz.ntmps116
 go_wp2_with fail
 go_loopw [1,5] (fun a b wr=>∃(i:Nat) (K:Int),i≤xs.length∧a=.int .i64 K∧b=.int .i64 i∧Hid (K=k+psum (mmPut).cnt xs i)∧0<K∧K≤1000000000∧SO shPut wr lo hi A c (pm mmPut xs k i) bl∧Only bl w wr) (fun _ b _=>xs.length - (intOf b).toNat)
 case atStart=>exact ⟨0,k,Nat.zero_le _,rfl,rfl,by unfold Hid;rw [psum_zero];simp,hk0,by omega,by rw [pm_zero];exact h,Only.refl _ _⟩
 case round =>
   obtain ⟨i,K,hii,rfl,rfl,HK,hK0,hK1,hS,hO⟩:=hrel
   by_cases hlt:i<xs.length
   · have hps:=psum_le (mmPut).cnt xs (i+1)
     rw [psum_succ (mmPut).cnt xs i hlt] at hps
     have hKb:K+((mmPut).cnt xs[i]:Nat)≤1000000000:=by rw [HK.out];omega
     have HK2:Hid (K+((mmPut).cnt xs[i]:Nat)=k+psum (mmPut).cnt xs (i+1)):=by unfold Hid;rw [HK.out,psum_succ (mmPut).cnt xs i hlt];omega
     have hhi2:hi≤wr.heap.size:=Nat.le_trans hhi hO.size
     obtain ⟨g,off,C,tid,b,cs,rfl,hg1,hg2,hbk,hcl,hcells,ho,hgm,hgb,hbn,hbm,hput⟩:=hS.focus good_Put hnd (pm_at mmPut xs k i hlt)
     clear hcl hps
     have hKc:K+((1+(1):Nat):Int)≤1000000000:=hKb
     obtain ⟨rfl,hbe,f0,f1⟩:=openOPut ho
     have e0:C[off+i*2]?=some (.int .i64 xs[i].1):=hcells 0 (by decide)
     have e1:C[off+i*2+1]?=some (.string xs[i].2):=hcells 1 (by decide)
     have c0_0:wr.cell? ⟨g,off+i*2,none⟩=some (.int .i64 xs[i].1):=by rw [hbk.cell];exact e0
     have z0_0:wr.frozen? ⟨g,off+i*2,none⟩=false:=hbk.frozen _
     have c0_1:wr.cell? ⟨g,off+i*2+1,none⟩=some (.string xs[i].2):=by rw [hbk.cell];exact e1
     have z0_1:wr.frozen? ⟨g,off+i*2+1,none⟩=false:=hbk.frozen _
     go_wp2_with fail
     have kb1:Bk (wr.setCell ⟨g,off+i*2,none⟩ (.int .i64 K)) g tid (C.setIfInBounds (off+i*2) (.int .i64 K)):=(hbk.set (off+i*2) (.int .i64 K))
     have on1:Only bl w (wr.setCell ⟨g,off+i*2,none⟩ (.int .i64 K)):=(hO.but (But.set _ g (off+i*2) (.int .i64 K)) hgm)
     have bu1:But g wr (wr.setCell ⟨g,off+i*2,none⟩ (.int .i64 K)):=But.set _ g (off+i*2) (.int .i64 K)
     have re1:∀y,y<hi→y≠g→y ∉ b→(wr.setCell ⟨g,off+i*2,none⟩ (.int .i64 K)).heap[y]?=wr.heap[y]?:=fun y hy hyg hyb=>(bu1.block y hyg)
     refine (c_markText _ _ (by omega) (by omega)).mono ?_
     rintro e w2 ⟨rfl,u2⟩
     have kb2:=kb1.up u2
     have on2:=on1.up u2
     have sz2:hi≤w2.heap.size:=Nat.le_trans hhi on2.size
     have re2:∀y,y<hi→y≠g→y ∉ b→w2.heap[y]?=wr.heap[y]?:=fun y hy hyg hyb=>(u2.block y (Nat.lt_of_lt_of_le hy (Nat.le_trans hhi on1.size))).trans (re1 y hy hyg hyb)
     have c2_0:w2.cell? ⟨g,off+i*2,none⟩=some (.int .i64 K):=by rw [kb2.cell];exact set_same rfl e0
     have z2_0:w2.frozen? ⟨g,off+i*2,none⟩=false:=kb2.frozen _
     have c2_1:w2.cell? ⟨g,off+i*2+1,none⟩=some (.string xs[i].2):=by rw [kb2.cell];rw [set_ne (by omega)];exact e1
     have z2_1:w2.frozen? ⟨g,off+i*2+1,none⟩=false:=kb2.frozen _
     clear u2
     go_wp2_with fail
     have kb3:Bk (w2.setCell ⟨g,off+i*2+1,none⟩ (.string (mtext (K+1)))) g tid ((C.setIfInBounds (off+i*2) (.int .i64 K)).setIfInBounds (off+i*2+1) (.string (mtext (K+1)))):=(kb2.set (off+i*2+1) (.string (mtext (K+1))))
     have on3:Only bl w (w2.setCell ⟨g,off+i*2+1,none⟩ (.string (mtext (K+1)))):=(on2.but (But.set _ g (off+i*2+1) (.string (mtext (K+1)))) hgm)
     have bu3:But g w2 (w2.setCell ⟨g,off+i*2+1,none⟩ (.string (mtext (K+1)))):=But.set _ g (off+i*2+1) (.string (mtext (K+1)))
     have re3:∀y,y<hi→y≠g→y ∉ b→(w2.setCell ⟨g,off+i*2+1,none⟩ (.string (mtext (K+1)))).heap[y]?=wr.heap[y]?:=fun y hy hyg hyb=>(bu3.block y hyg).trans (re2 y hy hyg hyb)
     have hxm:(mmPut).mark xs[i] K=((K),(mtext (K+1))):=rfl
     have hown:shPut.own (w2.setCell ⟨g,off+i*2+1,none⟩ (.string (mtext (K+1)))) lo hi [.int .i64 K,.string (mtext (K+1))] ((K),(mtext (K+1))) b:=by rw [hbe];exact mkOPut (x:=((K),(mtext (K+1)))) ⟨by omega,by omega⟩ (mtext_le (by omega))
     have hcell:∀j,j<shPut.size→((C.setIfInBounds (off+i*2) (.int .i64 K)).setIfInBounds (off+i*2+1) (.string (mtext (K+1))))[off+(i*shPut.size+j)]?=[.int .i64 K,.string (mtext (K+1))][j]?:=by
       intro j hj
       have hj':j<2:=hj
       by_cases hj0:j=0
       · subst hj0
         show ((C.setIfInBounds (off+i*2) (.int .i64 K)).setIfInBounds (off+i*2+1) (.string (mtext (K+1))))[off+(i*2+0)]?=some _
         rw [show off+(i*2+0)=off+i*2 by omega]
         rw [set_ne (by omega)];exact set_same rfl e0
       by_cases hj1:j=1
       · subst hj1
         show ((C.setIfInBounds (off+i*2) (.int .i64 K)).setIfInBounds (off+i*2+1) (.string (mtext (K+1))))[off+(i*2+1)]?=some _
         rw [show off+(i*2+1)=off+i*2+1 by omega]
         exact set_same rfl (by rw [set_ne (by omega)];exact e1)
       omega
     have hfar:∀p,(p<off+i*shPut.size∨off+i*shPut.size+shPut.size≤p)→((C.setIfInBounds (off+i*2) (.int .i64 K)).setIfInBounds (off+i*2+1) (.string (mtext (K+1))))[p]?=C[p]?:=by
       intro p hp
       have hp':p<off+i*2∨off+i*2+2≤p:=hp
       rw [set_ne (by omega)];rw [set_ne (by omega)]
     have hS2:=hput _ _ _ _ kb3 hcell hfar hown (fun y hy hyg hyb=>re3 y (hS.in_ good_Put y hy).2 hyg hyb)
     have hpm:(pm mmPut xs k i).set i ((K),(mtext (K+1)))=pm mmPut xs k (i+1):=by rw [← hxm,HK.out];exact pm_succ mmPut xs k i hlt
     rw [hpm] at hS2
     clear hpm hxm
     have hcn:((mmPut).cnt xs[i]:Nat)=1+(1):=rfl
     have HK3:Hid (K+1+1=k+psum (mmPut).cnt xs (i+1)):=by unfold Hid;rw [← HK2.out,hcn];omega
     have hk5:K+1+1≤1000000000:=by rw [hcn] at hKb;omega
     clear hcn
     go_roundw
     case rel=>exact ⟨i+1,K+1+1,by omega,rfl,by go_num,HK3,by omega,hk5,hS2,on3⟩
     case measure=>simp [intOf];omega
   · have HE:Hid (K=k+((mkL mmPut).cnt xs:Nat)):=by unfold Hid;rw [HK.out];show _=k+(((xs.map (mmPut).cnt).sum:Nat):Int);rw [← psum_all (mmPut).cnt xs,show i=xs.length by omega]
     rw [pm_all mmPut xs k i (by omega)] at hS
     go_wp2_with fail
     go_ret
     exact MarkL.mk HE hS hO
theorem c_markSlotS (xs:List TSlot) (A:Option Addr) (c:Nat) (k:Int) (lo hi:Nat) (bl:List Nat) (w:World) (h:SO shSlot w lo hi A c xs bl) (hhi:hi≤w.heap.size) (hnd:bl.Nodup) (hk0:0<k) (hk1:k+((mkL mmSlot).cnt xs:Nat)≤1000000000) :
   Calls Tryz.prog 62 #[.slice A xs.length c,.int .i64 k] w (MarkL shSlot mmSlot lo hi A c xs k bl w):=by
 have hlen:xs.length≤9223372036854775807:=(h.rep good_Slot).len_le
 have hk2:k+((xs.map (mmSlot).cnt).sum:Nat)≤1000000000:=hk1
 clear hk1
 go_enter Tryz.func62,Tryz.ntmps62
 go_wp2_with fail
 go_loopw [1,5] (fun a b wr=>∃(i:Nat) (K:Int),i≤xs.length∧a=.int .i64 K∧b=.int .i64 i∧Hid (K=k+psum (mmSlot).cnt xs i)∧0<K∧K≤1000000000∧SO shSlot wr lo hi A c (pm mmSlot xs k i) bl∧Only bl w wr) (fun _ b _=>xs.length - (intOf b).toNat)
 case atStart=>exact ⟨0,k,Nat.zero_le _,rfl,rfl,by unfold Hid;rw [psum_zero];simp,hk0,by omega,by rw [pm_zero];exact h,Only.refl _ _⟩
 case round =>
   obtain ⟨i,K,hii,rfl,rfl,HK,hK0,hK1,hS,hO⟩:=hrel
   by_cases hlt:i<xs.length
   · have hps:=psum_le (mmSlot).cnt xs (i+1)
     rw [psum_succ (mmSlot).cnt xs i hlt] at hps
     have hKb:K+((mmSlot).cnt xs[i]:Nat)≤1000000000:=by rw [HK.out];omega
     have HK2:Hid (K+((mmSlot).cnt xs[i]:Nat)=k+psum (mmSlot).cnt xs (i+1)):=by unfold Hid;rw [HK.out,psum_succ (mmSlot).cnt xs i hlt];omega
     have hhi2:hi≤wr.heap.size:=Nat.le_trans hhi hO.size
     obtain ⟨g,off,C,tid,b,cs,rfl,hg1,hg2,hbk,hcl,hcells,ho,hgm,hgb,hbn,hbm,hput⟩:=hS.focus good_Slot hnd (pm_at mmSlot xs k i hlt)
     clear hcl hps
     have hKc:K+((1+(1+((mkL mkS).cnt xs[i].2.2.1+((mkL mkS).cnt xs[i].2.2.2.1+((mkL mkI).cnt xs[i].2.2.2.2)))):Nat):Int)≤1000000000:=hKb
     obtain ⟨D2,d2,bl2,D3,d3,bl3,D4,d4,bl4,rfl,hbe,f0,f2,f3,f4⟩:=openOSlot ho
     have e0:C[off+i*5]?=some (.int .i64 xs[i].1):=hcells 0 (by decide)
     have e1:C[off+i*5+1]?=some (.bool xs[i].2.1):=hcells 1 (by decide)
     have e2:C[off+i*5+2]?=some (.slice D2 xs[i].2.2.1.length d2):=hcells 2 (by decide)
     have e3:C[off+i*5+3]?=some (.slice D3 xs[i].2.2.2.1.length d3):=hcells 3 (by decide)
     have e4:C[off+i*5+4]?=some (.slice D4 xs[i].2.2.2.2.length d4):=hcells 4 (by decide)
     have hb2:∀y∈bl2,y∈b:=by rw [hbe];intro y hy;simp [hy]
     have hb3:∀y∈bl3,y∈b:=by rw [hbe];intro y hy;simp [hy]
     have hb4:∀y∈bl4,y∈b:=by rw [hbe];intro y hy;simp [hy]
     have hng2:g ∉ bl2:=fun hm=>hgb (hb2 g hm)
     have hng3:g ∉ bl3:=fun hm=>hgb (hb3 g hm)
     have hng4:g ∉ bl4:=fun hm=>hgb (hb4 g hm)
     rw [hbe] at hbn
     have c0_0:wr.cell? ⟨g,off+i*5,none⟩=some (.int .i64 xs[i].1):=by rw [hbk.cell];exact e0
     have z0_0:wr.frozen? ⟨g,off+i*5,none⟩=false:=hbk.frozen _
     have c0_1:wr.cell? ⟨g,off+i*5+1,none⟩=some (.bool xs[i].2.1):=by rw [hbk.cell];exact e1
     have z0_1:wr.frozen? ⟨g,off+i*5+1,none⟩=false:=hbk.frozen _
     have c0_2:wr.cell? ⟨g,off+i*5+2,none⟩=some (.slice D2 xs[i].2.2.1.length d2):=by rw [hbk.cell];exact e2
     have z0_2:wr.frozen? ⟨g,off+i*5+2,none⟩=false:=hbk.frozen _
     have c0_3:wr.cell? ⟨g,off+i*5+3,none⟩=some (.slice D3 xs[i].2.2.2.1.length d3):=by rw [hbk.cell];exact e3
     have z0_3:wr.frozen? ⟨g,off+i*5+3,none⟩=false:=hbk.frozen _
     have c0_4:wr.cell? ⟨g,off+i*5+4,none⟩=some (.slice D4 xs[i].2.2.2.2.length d4):=by rw [hbk.cell];exact e4
     have z0_4:wr.frozen? ⟨g,off+i*5+4,none⟩=false:=hbk.frozen _
     go_wp2_with fail
     have kb1:Bk ((wr.setCell ⟨g,off+i*5,none⟩ (.int .i64 K)).setCell ⟨g,off+i*5+1,none⟩ (.bool ((K+1) % 3 == 0))) g tid ((C.setIfInBounds (off+i*5) (.int .i64 K)).setIfInBounds (off+i*5+1) (.bool ((K+1) % 3 == 0))):=((hbk.set (off+i*5) (.int .i64 K)).set (off+i*5+1) (.bool ((K+1) % 3 == 0)))
     have on1:Only bl w ((wr.setCell ⟨g,off+i*5,none⟩ (.int .i64 K)).setCell ⟨g,off+i*5+1,none⟩ (.bool ((K+1) % 3 == 0))):=((hO.but (But.set _ g (off+i*5) (.int .i64 K)) hgm).but (But.set _ g (off+i*5+1) (.bool ((K+1) % 3 == 0))) hgm)
     have bu1:But g wr ((wr.setCell ⟨g,off+i*5,none⟩ (.int .i64 K)).setCell ⟨g,off+i*5+1,none⟩ (.bool ((K+1) % 3 == 0))):=(But.set _ g (off+i*5) (.int .i64 K)).trans (But.set _ g (off+i*5+1) (.bool ((K+1) % 3 == 0)))
     have s1_2:=f2.keep good_S (fun y hy=>bu1.block y (fun e=>hng2 (e ▸ hy)))
     have s1_3:=f3.keep good_S (fun y hy=>bu1.block y (fun e=>hng3 (e ▸ hy)))
     have s1_4:=f4.keep good_I (fun y hy=>bu1.block y (fun e=>hng4 (e ▸ hy)))
     have re1:∀y,y<hi→y≠g→y ∉ b→((wr.setCell ⟨g,off+i*5,none⟩ (.int .i64 K)).setCell ⟨g,off+i*5+1,none⟩ (.bool ((K+1) % 3 == 0))).heap[y]?=wr.heap[y]?:=fun y hy hyg hyb=>(bu1.block y hyg)
     have hc_2:K+((mmSlot).cnt xs[i]:Nat)≤1000000000:=hKb
     have hsum2:((mmSlot).cnt xs[i]:Nat)=1+(1+((mkL mkS).cnt xs[i].2.2.1+((mkL mkS).cnt xs[i].2.2.2.1+((mkL mkI).cnt xs[i].2.2.2.2)))):=rfl
     have HN2:(bl2).Nodup:=by grind [List.nodup_append]
     refine (c_markStringS _ _ _ _ lo hi bl2 _ s1_2 (Nat.le_trans hhi on1.size) HN2 (by omega) (by rw [hsum2] at hc_2;omega)).mono ?_
     clear hc_2 hsum2
     rintro e w2 ⟨rfl,t2,o2⟩
     have kb2:=kb1.only o2 hng2
     have on2:=on1.trans (o2.mono (fun y hy=>hbm y (hb2 y hy)))
     have s2_3:=s1_3.keep good_S (fun y hy=>o2.block y (Nat.lt_of_lt_of_le (s1_3.in_ good_S y hy).2 (Nat.le_trans hhi on1.size)) (fun hm=>by grind [List.nodup_append]))
     have s2_4:=s1_4.keep good_I (fun y hy=>o2.block y (Nat.lt_of_lt_of_le (s1_4.in_ good_I y hy).2 (Nat.le_trans hhi on1.size)) (fun hm=>by grind [List.nodup_append]))
     have re2:∀y,y<hi→y≠g→y ∉ b→w2.heap[y]?=wr.heap[y]?:=fun y hy hyg hyb=>(o2.block y (Nat.lt_of_lt_of_le hy (Nat.le_trans hhi on1.size)) (fun hm=>hyb (hb2 y hm))).trans (re1 y hy hyg hyb)
     have c2_0:w2.cell? ⟨g,off+i*5,none⟩=some (.int .i64 K):=by rw [kb2.cell];rw [set_ne (by omega)];exact set_same rfl e0
     have z2_0:w2.frozen? ⟨g,off+i*5,none⟩=false:=kb2.frozen _
     have c2_1:w2.cell? ⟨g,off+i*5+1,none⟩=some (.bool ((K+1) % 3 == 0)):=by rw [kb2.cell];exact set_same rfl (by rw [set_ne (by omega)];exact e1)
     have z2_1:w2.frozen? ⟨g,off+i*5+1,none⟩=false:=kb2.frozen _
     have c2_2:w2.cell? ⟨g,off+i*5+2,none⟩=some (.slice D2 xs[i].2.2.1.length d2):=by rw [kb2.cell];rw [set_ne (by omega)];rw [set_ne (by omega)];exact e2
     have z2_2:w2.frozen? ⟨g,off+i*5+2,none⟩=false:=kb2.frozen _
     have c2_3:w2.cell? ⟨g,off+i*5+3,none⟩=some (.slice D3 xs[i].2.2.2.1.length d3):=by rw [kb2.cell];rw [set_ne (by omega)];rw [set_ne (by omega)];exact e3
     have z2_3:w2.frozen? ⟨g,off+i*5+3,none⟩=false:=kb2.frozen _
     have c2_4:w2.cell? ⟨g,off+i*5+4,none⟩=some (.slice D4 xs[i].2.2.2.2.length d4):=by rw [kb2.cell];rw [set_ne (by omega)];rw [set_ne (by omega)];exact e4
     have z2_4:w2.frozen? ⟨g,off+i*5+4,none⟩=false:=kb2.frozen _
     clear o2
     go_wp2_with fail
     have hc_3:K+((mmSlot).cnt xs[i]:Nat)≤1000000000:=hKb
     have hsum3:((mmSlot).cnt xs[i]:Nat)=1+(1+((mkL mkS).cnt xs[i].2.2.1+((mkL mkS).cnt xs[i].2.2.2.1+((mkL mkI).cnt xs[i].2.2.2.2)))):=rfl
     have HN3:(bl3).Nodup:=by grind [List.nodup_append]
     refine (c_markStringS _ _ _ _ lo hi bl3 _ s2_3 (Nat.le_trans hhi on2.size) HN3 (by omega) (by rw [hsum3] at hc_3;omega)).mono ?_
     clear hc_3 hsum3
     rintro e w3 ⟨rfl,t3,o3⟩
     have kb3:=kb2.only o3 hng3
     have on3:=on2.trans (o3.mono (fun y hy=>hbm y (hb3 y hy)))
     have s3_2:=t2.keep good_S (fun y hy=>o3.block y (Nat.lt_of_lt_of_le (t2.in_ good_S y hy).2 (Nat.le_trans hhi on2.size)) (fun hm=>by grind [List.nodup_append]))
     have s3_4:=s2_4.keep good_I (fun y hy=>o3.block y (Nat.lt_of_lt_of_le (s2_4.in_ good_I y hy).2 (Nat.le_trans hhi on2.size)) (fun hm=>by grind [List.nodup_append]))
     have re3:∀y,y<hi→y≠g→y ∉ b→w3.heap[y]?=wr.heap[y]?:=fun y hy hyg hyb=>(o3.block y (Nat.lt_of_lt_of_le hy (Nat.le_trans hhi on2.size)) (fun hm=>hyb (hb3 y hm))).trans (re2 y hy hyg hyb)
     have c3_0:w3.cell? ⟨g,off+i*5,none⟩=some (.int .i64 K):=by rw [kb3.cell];rw [set_ne (by omega)];exact set_same rfl e0
     have z3_0:w3.frozen? ⟨g,off+i*5,none⟩=false:=kb3.frozen _
     have c3_1:w3.cell? ⟨g,off+i*5+1,none⟩=some (.bool ((K+1) % 3 == 0)):=by rw [kb3.cell];exact set_same rfl (by rw [set_ne (by omega)];exact e1)
     have z3_1:w3.frozen? ⟨g,off+i*5+1,none⟩=false:=kb3.frozen _
     have c3_2:w3.cell? ⟨g,off+i*5+2,none⟩=some (.slice D2 xs[i].2.2.1.length d2):=by rw [kb3.cell];rw [set_ne (by omega)];rw [set_ne (by omega)];exact e2
     have z3_2:w3.frozen? ⟨g,off+i*5+2,none⟩=false:=kb3.frozen _
     have c3_3:w3.cell? ⟨g,off+i*5+3,none⟩=some (.slice D3 xs[i].2.2.2.1.length d3):=by rw [kb3.cell];rw [set_ne (by omega)];rw [set_ne (by omega)];exact e3
     have z3_3:w3.frozen? ⟨g,off+i*5+3,none⟩=false:=kb3.frozen _
     have c3_4:w3.cell? ⟨g,off+i*5+4,none⟩=some (.slice D4 xs[i].2.2.2.2.length d4):=by rw [kb3.cell];rw [set_ne (by omega)];rw [set_ne (by omega)];exact e4
     have z3_4:w3.frozen? ⟨g,off+i*5+4,none⟩=false:=kb3.frozen _
     clear o3
     go_wp2_with fail
     have hc_4:K+((mmSlot).cnt xs[i]:Nat)≤1000000000:=hKb
     have hsum4:((mmSlot).cnt xs[i]:Nat)=1+(1+((mkL mkS).cnt xs[i].2.2.1+((mkL mkS).cnt xs[i].2.2.2.1+((mkL mkI).cnt xs[i].2.2.2.2)))):=rfl
     have HN4:(bl4).Nodup:=by grind [List.nodup_append]
     refine (c_markInt64S _ _ _ _ lo hi bl4 _ s3_4 (Nat.le_trans hhi on3.size) HN4 (by omega) (by rw [hsum4] at hc_4;omega)).mono ?_
     clear hc_4 hsum4
     rintro e w4 ⟨rfl,t4,o4⟩
     have kb4:=kb3.only o4 hng4
     have on4:=on3.trans (o4.mono (fun y hy=>hbm y (hb4 y hy)))
     have s4_2:=s3_2.keep good_S (fun y hy=>o4.block y (Nat.lt_of_lt_of_le (s3_2.in_ good_S y hy).2 (Nat.le_trans hhi on3.size)) (fun hm=>by grind [List.nodup_append]))
     have s4_3:=t3.keep good_S (fun y hy=>o4.block y (Nat.lt_of_lt_of_le (t3.in_ good_S y hy).2 (Nat.le_trans hhi on3.size)) (fun hm=>by grind [List.nodup_append]))
     have re4:∀y,y<hi→y≠g→y ∉ b→w4.heap[y]?=wr.heap[y]?:=fun y hy hyg hyb=>(o4.block y (Nat.lt_of_lt_of_le hy (Nat.le_trans hhi on3.size)) (fun hm=>hyb (hb4 y hm))).trans (re3 y hy hyg hyb)
     have c4_0:w4.cell? ⟨g,off+i*5,none⟩=some (.int .i64 K):=by rw [kb4.cell];rw [set_ne (by omega)];exact set_same rfl e0
     have z4_0:w4.frozen? ⟨g,off+i*5,none⟩=false:=kb4.frozen _
     have c4_1:w4.cell? ⟨g,off+i*5+1,none⟩=some (.bool ((K+1) % 3 == 0)):=by rw [kb4.cell];exact set_same rfl (by rw [set_ne (by omega)];exact e1)
     have z4_1:w4.frozen? ⟨g,off+i*5+1,none⟩=false:=kb4.frozen _
     have c4_2:w4.cell? ⟨g,off+i*5+2,none⟩=some (.slice D2 xs[i].2.2.1.length d2):=by rw [kb4.cell];rw [set_ne (by omega)];rw [set_ne (by omega)];exact e2
     have z4_2:w4.frozen? ⟨g,off+i*5+2,none⟩=false:=kb4.frozen _
     have c4_3:w4.cell? ⟨g,off+i*5+3,none⟩=some (.slice D3 xs[i].2.2.2.1.length d3):=by rw [kb4.cell];rw [set_ne (by omega)];rw [set_ne (by omega)];exact e3
     have z4_3:w4.frozen? ⟨g,off+i*5+3,none⟩=false:=kb4.frozen _
     have c4_4:w4.cell? ⟨g,off+i*5+4,none⟩=some (.slice D4 xs[i].2.2.2.2.length d4):=by rw [kb4.cell];rw [set_ne (by omega)];rw [set_ne (by omega)];exact e4
     have z4_4:w4.frozen? ⟨g,off+i*5+4,none⟩=false:=kb4.frozen _
     clear o4
     go_wp2_with fail
     have hxm:(mmSlot).mark xs[i] K=((K),(((K+1) % 3 == 0),(markL mkS xs[i].2.2.1 (K+1+1)),(markL mkS xs[i].2.2.2.1 (K+1+1+((mkL mkS).cnt xs[i].2.2.1:Nat))),(markL mkI xs[i].2.2.2.2 (K+1+1+((mkL mkS).cnt xs[i].2.2.1:Nat)+((mkL mkS).cnt xs[i].2.2.2.1:Nat))))):=rfl
     have hown:shSlot.own w4 lo hi [.int .i64 K,.bool ((K+1) % 3 == 0),.slice D2 (markL mkS xs[i].2.2.1 (K+1+1)).length d2,.slice D3 (markL mkS xs[i].2.2.2.1 (K+1+1+((mkL mkS).cnt xs[i].2.2.1:Nat))).length d3,.slice D4 (markL mkI xs[i].2.2.2.2 (K+1+1+((mkL mkS).cnt xs[i].2.2.1:Nat)+((mkL mkS).cnt xs[i].2.2.2.1:Nat))).length d4] ((K),(((K+1) % 3 == 0),(markL mkS xs[i].2.2.1 (K+1+1)),(markL mkS xs[i].2.2.2.1 (K+1+1+((mkL mkS).cnt xs[i].2.2.1:Nat))),(markL mkI xs[i].2.2.2.2 (K+1+1+((mkL mkS).cnt xs[i].2.2.1:Nat)+((mkL mkS).cnt xs[i].2.2.2.1:Nat))))) b:=by rw [hbe];exact mkOSlot (x:=((K),(((K+1) % 3 == 0),(markL mkS xs[i].2.2.1 (K+1+1)),(markL mkS xs[i].2.2.2.1 (K+1+1+((mkL mkS).cnt xs[i].2.2.1:Nat))),(markL mkI xs[i].2.2.2.2 (K+1+1+((mkL mkS).cnt xs[i].2.2.1:Nat)+((mkL mkS).cnt xs[i].2.2.2.1:Nat)))))) ⟨by omega,by omega⟩ s4_2 s4_3 t4
     have hcell:∀j,j<shSlot.size→((C.setIfInBounds (off+i*5) (.int .i64 K)).setIfInBounds (off+i*5+1) (.bool ((K+1) % 3 == 0)))[off+(i*shSlot.size+j)]?=[.int .i64 K,.bool ((K+1) % 3 == 0),.slice D2 (markL mkS xs[i].2.2.1 (K+1+1)).length d2,.slice D3 (markL mkS xs[i].2.2.2.1 (K+1+1+((mkL mkS).cnt xs[i].2.2.1:Nat))).length d3,.slice D4 (markL mkI xs[i].2.2.2.2 (K+1+1+((mkL mkS).cnt xs[i].2.2.1:Nat)+((mkL mkS).cnt xs[i].2.2.2.1:Nat))).length d4][j]?:=by
       intro j hj
       have hj':j<5:=hj
       by_cases hj0:j=0
       · subst hj0
         show ((C.setIfInBounds (off+i*5) (.int .i64 K)).setIfInBounds (off+i*5+1) (.bool ((K+1) % 3 == 0)))[off+(i*5+0)]?=some _
         rw [show off+(i*5+0)=off+i*5 by omega]
         rw [set_ne (by omega)];exact set_same rfl e0
       by_cases hj1:j=1
       · subst hj1
         show ((C.setIfInBounds (off+i*5) (.int .i64 K)).setIfInBounds (off+i*5+1) (.bool ((K+1) % 3 == 0)))[off+(i*5+1)]?=some _
         rw [show off+(i*5+1)=off+i*5+1 by omega]
         exact set_same rfl (by rw [set_ne (by omega)];exact e1)
       by_cases hj2:j=2
       · subst hj2
         show ((C.setIfInBounds (off+i*5) (.int .i64 K)).setIfInBounds (off+i*5+1) (.bool ((K+1) % 3 == 0)))[off+(i*5+2)]?=some _
         rw [show off+(i*5+2)=off+i*5+2 by omega]
         rw [markL_len]
         rw [set_ne (by omega)];rw [set_ne (by omega)];exact e2
       by_cases hj3:j=3
       · subst hj3
         show ((C.setIfInBounds (off+i*5) (.int .i64 K)).setIfInBounds (off+i*5+1) (.bool ((K+1) % 3 == 0)))[off+(i*5+3)]?=some _
         rw [show off+(i*5+3)=off+i*5+3 by omega]
         rw [markL_len]
         rw [set_ne (by omega)];rw [set_ne (by omega)];exact e3
       by_cases hj4:j=4
       · subst hj4
         show ((C.setIfInBounds (off+i*5) (.int .i64 K)).setIfInBounds (off+i*5+1) (.bool ((K+1) % 3 == 0)))[off+(i*5+4)]?=some _
         rw [show off+(i*5+4)=off+i*5+4 by omega]
         rw [markL_len]
         rw [set_ne (by omega)];rw [set_ne (by omega)];exact e4
       omega
     have hfar:∀p,(p<off+i*shSlot.size∨off+i*shSlot.size+shSlot.size≤p)→((C.setIfInBounds (off+i*5) (.int .i64 K)).setIfInBounds (off+i*5+1) (.bool ((K+1) % 3 == 0)))[p]?=C[p]?:=by
       intro p hp
       have hp':p<off+i*5∨off+i*5+5≤p:=hp
       rw [set_ne (by omega)];rw [set_ne (by omega)]
     have hS2:=hput _ _ _ _ kb4 hcell hfar hown (fun y hy hyg hyb=>re4 y (hS.in_ good_Slot y hy).2 hyg hyb)
     have hpm:(pm mmSlot xs k i).set i ((K),(((K+1) % 3 == 0),(markL mkS xs[i].2.2.1 (K+1+1)),(markL mkS xs[i].2.2.2.1 (K+1+1+((mkL mkS).cnt xs[i].2.2.1:Nat))),(markL mkI xs[i].2.2.2.2 (K+1+1+((mkL mkS).cnt xs[i].2.2.1:Nat)+((mkL mkS).cnt xs[i].2.2.2.1:Nat)))))=pm mmSlot xs k (i+1):=by rw [← hxm,HK.out];exact pm_succ mmSlot xs k i hlt
     rw [hpm] at hS2
     clear hpm hxm
     have hcn:((mmSlot).cnt xs[i]:Nat)=1+(1+((mkL mkS).cnt xs[i].2.2.1+((mkL mkS).cnt xs[i].2.2.2.1+((mkL mkI).cnt xs[i].2.2.2.2)))):=rfl
     have HK3:Hid (K+1+1+((mkL mkS).cnt xs[i].2.2.1:Nat)+((mkL mkS).cnt xs[i].2.2.2.1:Nat)+((mkL mkI).cnt xs[i].2.2.2.2:Nat)=k+psum (mmSlot).cnt xs (i+1)):=by unfold Hid;rw [← HK2.out,hcn];omega
     have hk5:K+1+1+((mkL mkS).cnt xs[i].2.2.1:Nat)+((mkL mkS).cnt xs[i].2.2.2.1:Nat)+((mkL mkI).cnt xs[i].2.2.2.2:Nat)≤1000000000:=by rw [hcn] at hKb;omega
     clear hcn
     go_roundw
     case rel=>exact ⟨i+1,K+1+1+((mkL mkS).cnt xs[i].2.2.1:Nat)+((mkL mkS).cnt xs[i].2.2.2.1:Nat)+((mkL mkI).cnt xs[i].2.2.2.2:Nat),by omega,rfl,by go_num,HK3,by omega,hk5,hS2,on4⟩
     case measure=>simp [intOf];omega
   · have HE:Hid (K=k+((mkL mmSlot).cnt xs:Nat)):=by unfold Hid;rw [HK.out];show _=k+(((xs.map (mmSlot).cnt).sum:Nat):Int);rw [← psum_all (mmSlot).cnt xs,show i=xs.length by omega]
     rw [pm_all mmSlot xs k i (by omega)] at hS
     go_wp2_with fail
     go_ret
     exact MarkL.mk HE hS hO
theorem c_markDisk (cs:List Value) (x:TDisk) (k:Int) (lo hi:Nat) (bl:List Nat) (w:World) (h:shDisk.own w lo hi cs x bl) (hhi:hi≤w.heap.size) (hnd:bl.Nodup) (hk0:0<k) (hk1:k+(mmTDisk.cnt x:Nat)≤1000000000) :
   Calls Tryz.prog 63 #[.agg cs.toArray,.int .i64 k] w (MarkV shDisk mmTDisk lo hi cs x k bl w):=by
 obtain ⟨x0,x1,x2⟩:=x
 have ho:=openODisk h
 try dsimp only at ho
 obtain ⟨A1,c1,bl1,A2,c2,bl2,rfl,hbe,f0,f1,f2⟩:=ho
 clear h
 have hcn:mmTDisk.cnt (x0,x1,x2)=0+((mkL mkS).cnt x1+((mkL mmPut).cnt x2)):=rfl
 rw [hcn] at hk1
 have HC:=Lib.hid hcn;clear hcn
 have kb0:Bk (w.alloc (.cells #[.int .i64 x0,.slice A1 x1.length c1,.slice A2 x2.length c2] 45)) w.heap.size 45 #[.int .i64 x0,.slice A1 x1.length c1,.slice A2 x2.length c2]:=Bk.new _ _ _
 have on0:Only bl w (w.alloc (.cells #[.int .i64 x0,.slice A1 x1.length c1,.slice A2 x2.length c2] 45)):=Only.of_up ((Up.refl _).alloc _)
 have hb1:∀y∈bl1,y∈bl:=by rw [hbe];intro y hy;simp [hy]
 have hw1:w.heap.size ∉ bl1:=fun hm=>by have:=(f1.in_ good_S _ hm).2;omega
 have s0_1:=f1.keep good_S (fun y hy=>(Up.alloc (Up.refl w) (.cells #[.int .i64 x0,.slice A1 x1.length c1,.slice A2 x2.length c2] 45)).block y (Nat.lt_of_lt_of_le (f1.in_ good_S y hy).2 hhi))
 have hb2:∀y∈bl2,y∈bl:=by rw [hbe];intro y hy;simp [hy]
 have hw2:w.heap.size ∉ bl2:=fun hm=>by have:=(f2.in_ good_Put _ hm).2;omega
 have s0_2:=f2.keep good_Put (fun y hy=>(Up.alloc (Up.refl w) (.cells #[.int .i64 x0,.slice A1 x1.length c1,.slice A2 x2.length c2] 45)).block y (Nat.lt_of_lt_of_le (f2.in_ good_Put y hy).2 hhi))
 rw [hbe] at hnd
 go_enter Tryz.func63,Tryz.ntmps63
 go_wp2_with fail
 have HN1:(bl1).Nodup:=by grind [List.nodup_append]
 refine (c_markStringS _ _ _ _ lo hi bl1 _ s0_1 (Nat.le_trans hhi on0.size) HN1 (by omega) (by omega)).mono ?_
 rintro e w1 ⟨rfl,t1,o1⟩
 have hgo1:w.heap.size ∉ (bl1):=by exact hw1
 have kb1:=kb0.only o1 hgo1
 have on1:=on0.trans (o1.mono (fun y hy=>by exact hb1 y hy))
 have s1_2:=s0_2.keep good_Put (fun y hy=>o1.block y (Nat.lt_of_lt_of_le (s0_2.in_ good_Put y hy).2 (Nat.le_trans hhi on0.size)) (fun hm=>by grind [List.nodup_append]))
 have g1_2:w1.cell? ⟨w.heap.size,2,none⟩=some (.slice A2 x2.length c2):=kb1.cell 2
 clear o1
 go_wp2_with fail
 have HN2:(bl2).Nodup:=by grind [List.nodup_append]
 refine (c_markPutS _ _ _ _ lo hi bl2 _ s1_2 (Nat.le_trans hhi on1.size) HN2 (by omega) (by omega)).mono ?_
 rintro e w2 ⟨rfl,t2,o2⟩
 have hgo2:w.heap.size ∉ (bl2):=by exact hw2
 have kb2:=kb1.only o2 hgo2
 have on2:=on1.trans (o2.mono (fun y hy=>by exact hb2 y hy))
 have s2_1:=t1.keep good_S (fun y hy=>o2.block y (Nat.lt_of_lt_of_le (t1.in_ good_S y hy).2 (Nat.le_trans hhi on1.size)) (fun hm=>by grind [List.nodup_append]))
 clear o2
 go_wp2_with fail
 go_ret
 have HE:Hid (k+((mkL mkS).cnt x1:Nat)+((mkL mmPut).cnt x2:Nat)=k+(mmTDisk.cnt (x0,x1,x2):Nat)):=by unfold Hid;first | (rw [HC.out];done) | (rw [HC.out];omega)
 refine MarkV.mk HE ?_ on2
 rw [hbe]
 have hmk:mmTDisk.mark (x0,x1,x2) k=(x0,markL mkS x1 (k),markL mmPut x2 (k+((mkL mkS).cnt x1:Nat))):=by simp [mmTDisk,mkP,mk0,mkL]
 rw [hmk]
 have hfin:shDisk.own w2 lo hi _ (x0,markL mkS x1 (k),markL mmPut x2 (k+((mkL mkS).cnt x1:Nat))) _:=(mkO_P (a:=shI) (x:=(x0,markL mkS x1 (k),markL mmPut x2 (k+((mkL mkS).cnt x1:Nat)))) good_I ⟨⟨rfl,f0⟩,rfl⟩ (mkO_P (a:=(shL shS)) (x:=(markL mkS x1 (k),markL mmPut x2 (k+((mkL mkS).cnt x1:Nat)))) (good_L good_S) (SO.to_own (n:=x1.length) (by first | rfl | exact markL_len _ _ _) s2_1) (SO.to_own (n:=x2.length) (by first | rfl | exact markL_len _ _ _) t2)))
 simpa using hfin
theorem c_markTop (cs:List Value) (x:TTop) (k:Int) (lo hi:Nat) (bl:List Nat) (w:World) (h:shTop.own w lo hi cs x bl) (hhi:hi≤w.heap.size) (hnd:bl.Nodup) (hk0:0<k) (hk1:k+(mmTTop.cnt x:Nat)≤1000000000) :
   Calls Tryz.prog 64 #[.agg cs.toArray,.int .i64 k] w (MarkV shTop mmTTop lo hi cs x k bl w):=by
 obtain ⟨x0,x1,x2,x3⟩:=x
 have ho:=openOTop h
 try dsimp only at ho
 obtain ⟨A3,c3,bl3,rfl,hbe,f0,f1,f2,f3⟩:=ho
 clear h
 have hcn:mmTTop.cnt (x0,x1,x2,x3)=0+(0+(0+((mkL mmSeat).cnt x3))):=rfl
 rw [hcn] at hk1
 have HC:=Lib.hid hcn;clear hcn
 have kb0:Bk (w.alloc (.cells #[.int .i64 x0,.int .i64 x1,.int .i64 x2,.slice A3 x3.length c3] 48)) w.heap.size 48 #[.int .i64 x0,.int .i64 x1,.int .i64 x2,.slice A3 x3.length c3]:=Bk.new _ _ _
 have on0:Only bl w (w.alloc (.cells #[.int .i64 x0,.int .i64 x1,.int .i64 x2,.slice A3 x3.length c3] 48)):=Only.of_up ((Up.refl _).alloc _)
 have hb3:∀y∈bl3,y∈bl:=by rw [hbe];intro y hy;simp [hy]
 have hw3:w.heap.size ∉ bl3:=fun hm=>by have:=(f3.in_ good_Seat _ hm).2;omega
 have s0_3:=f3.keep good_Seat (fun y hy=>(Up.alloc (Up.refl w) (.cells #[.int .i64 x0,.int .i64 x1,.int .i64 x2,.slice A3 x3.length c3] 48)).block y (Nat.lt_of_lt_of_le (f3.in_ good_Seat y hy).2 hhi))
 rw [hbe] at hnd
 go_enter Tryz.func64,Tryz.ntmps64
 go_wp2_with fail
 have HN3:(bl3).Nodup:=by grind [List.nodup_append]
 refine (c_markSeatS _ _ _ _ lo hi bl3 _ s0_3 (Nat.le_trans hhi on0.size) HN3 (by omega) (by omega)).mono ?_
 rintro e w1 ⟨rfl,t1,o1⟩
 have hgo1:w.heap.size ∉ (bl3):=by exact hw3
 have kb1:=kb0.only o1 hgo1
 have on1:=on0.trans (o1.mono (fun y hy=>by exact hb3 y hy))
 clear o1
 go_wp2_with fail
 go_ret
 have HE:Hid (k+((mkL mmSeat).cnt x3:Nat)=k+(mmTTop.cnt (x0,x1,x2,x3):Nat)):=by unfold Hid;first | (rw [HC.out];done) | (rw [HC.out];omega)
 refine MarkV.mk HE ?_ on1
 rw [hbe]
 have hmk:mmTTop.mark (x0,x1,x2,x3) k=(x0,x1,x2,markL mmSeat x3 (k)):=by simp [mmTTop,mkP,mk0,mkL]
 rw [hmk]
 have hfin:shTop.own w1 lo hi _ (x0,x1,x2,markL mmSeat x3 (k)) _:=(mkO_P (a:=shI) (x:=(x0,x1,x2,markL mmSeat x3 (k))) good_I ⟨⟨rfl,f0⟩,rfl⟩ (mkO_P (a:=shI) (x:=(x1,x2,markL mmSeat x3 (k))) good_I ⟨⟨rfl,f1⟩,rfl⟩ (mkO_P (a:=shI) (x:=(x2,markL mmSeat x3 (k))) good_I ⟨⟨rfl,f2⟩,rfl⟩ (SO.to_own (n:=x3.length) (by first | rfl | exact markL_len _ _ _) t1))))
 simpa using hfin
theorem c_markBtree (cs:List Value) (x:TBtree) (k:Int) (lo hi:Nat) (bl:List Nat) (w:World) (h:shBtree.own w lo hi cs x bl) (hhi:hi≤w.heap.size) (hnd:bl.Nodup) (hk0:0<k) (hk1:k+(mmTBtree.cnt x:Nat)≤1000000000) :
   Calls Tryz.prog 25 #[.agg cs.toArray,.int .i64 k] w (MarkV shBtree mmTBtree lo hi cs x k bl w):=by
 obtain ⟨x0,x1⟩:=x
 have ho:=openOBtree h
 try dsimp only at ho
 obtain ⟨A1,c1,bl1,rfl,hbe,f0,f1⟩:=ho
 clear h
 have hcn:mmTBtree.cnt (x0,x1)=0+((mkL mmSlot).cnt x1):=rfl
 rw [hcn] at hk1
 have HC:=Lib.hid hcn;clear hcn
 have kb0:Bk (w.alloc (.cells #[.int .i64 x0,.slice A1 x1.length c1] 42)) w.heap.size 42 #[.int .i64 x0,.slice A1 x1.length c1]:=Bk.new _ _ _
 have on0:Only bl w (w.alloc (.cells #[.int .i64 x0,.slice A1 x1.length c1] 42)):=Only.of_up ((Up.refl _).alloc _)
 have hb1:∀y∈bl1,y∈bl:=by rw [hbe];intro y hy;simp [hy]
 have hw1:w.heap.size ∉ bl1:=fun hm=>by have:=(f1.in_ good_Slot _ hm).2;omega
 have s0_1:=f1.keep good_Slot (fun y hy=>(Up.alloc (Up.refl w) (.cells #[.int .i64 x0,.slice A1 x1.length c1] 42)).block y (Nat.lt_of_lt_of_le (f1.in_ good_Slot y hy).2 hhi))
 rw [hbe] at hnd
 go_enter Tryz.func25,Tryz.ntmps25
 go_wp2_with fail
 have HN1:(bl1).Nodup:=by grind [List.nodup_append]
 refine (c_markSlotS _ _ _ _ lo hi bl1 _ s0_1 (Nat.le_trans hhi on0.size) HN1 (by omega) (by omega)).mono ?_
 rintro e w1 ⟨rfl,t1,o1⟩
 have hgo1:w.heap.size ∉ (bl1):=by exact hw1
 have kb1:=kb0.only o1 hgo1
 have on1:=on0.trans (o1.mono (fun y hy=>by exact hb1 y hy))
 clear o1
 go_wp2_with fail
 go_ret
 have HE:Hid (k+((mkL mmSlot).cnt x1:Nat)=k+(mmTBtree.cnt (x0,x1):Nat)):=by unfold Hid;first | (rw [HC.out];done) | (rw [HC.out];omega)
 refine MarkV.mk HE ?_ on1
 rw [hbe]
 have hmk:mmTBtree.mark (x0,x1) k=(x0,markL mmSlot x1 (k)):=by simp [mmTBtree,mkP,mk0,mkL]
 rw [hmk]
 have hfin:shBtree.own w1 lo hi _ (x0,markL mmSlot x1 (k)) _:=(mkO_P (a:=shI) (x:=(x0,markL mmSlot x1 (k))) good_I ⟨⟨rfl,f0⟩,rfl⟩ (SO.to_own (n:=x1.length) (by first | rfl | exact markL_len _ _ _) t1))
 simpa using hfin
theorem c_markJournal (cs:List Value) (x:TJournal) (k:Int) (lo hi:Nat) (bl:List Nat) (w:World) (h:shJournal.own w lo hi cs x bl) (hhi:hi≤w.heap.size) (hnd:bl.Nodup) (hk0:0<k) (hk1:k+(mmTJournal.cnt x:Nat)≤1000000000) :
   Calls Tryz.prog 27 #[.agg cs.toArray,.int .i64 k] w (MarkV shJournal mmTJournal lo hi cs x k bl w):=by
 obtain ⟨⟨x0,x1,x2⟩,x3,x4,x5,x6⟩:=x
 have ho:=openOJournal h
 try dsimp only at ho
 obtain ⟨A1,c1,bl1,A2,c2,bl2,rfl,hbe,f0,f1,f2,f3,f4,f5,f6⟩:=ho
 clear h
 have hcn:mmTJournal.cnt ((x0,x1,x2),x3,x4,x5,x6)=mmTDisk.cnt (x0,x1,x2)+(0+(0+(0+(0)))):=rfl
 rw [hcn] at hk1
 have HC:=Lib.hid hcn;clear hcn
 have kb0:Bk (w.alloc (.cells #[.int .i64 x0,.slice A1 x1.length c1,.slice A2 x2.length c2,.int .i64 x3,.int .i64 x4,.int .i64 x5,.int .i64 x6] 52)) w.heap.size 52 #[.int .i64 x0,.slice A1 x1.length c1,.slice A2 x2.length c2,.int .i64 x3,.int .i64 x4,.int .i64 x5,.int .i64 x6]:=Bk.new _ _ _
 have on0:Only bl w (w.alloc (.cells #[.int .i64 x0,.slice A1 x1.length c1,.slice A2 x2.length c2,.int .i64 x3,.int .i64 x4,.int .i64 x5,.int .i64 x6] 52)):=Only.of_up ((Up.refl _).alloc _)
 have hb1:∀y∈bl1,y∈bl:=by rw [hbe];intro y hy;simp [hy]
 have hw1:w.heap.size ∉ bl1:=fun hm=>by have:=(f1.in_ good_S _ hm).2;omega
 have s0_1:=f1.keep good_S (fun y hy=>(Up.alloc (Up.refl w) (.cells #[.int .i64 x0,.slice A1 x1.length c1,.slice A2 x2.length c2,.int .i64 x3,.int .i64 x4,.int .i64 x5,.int .i64 x6] 52)).block y (Nat.lt_of_lt_of_le (f1.in_ good_S y hy).2 hhi))
 have hb2:∀y∈bl2,y∈bl:=by rw [hbe];intro y hy;simp [hy]
 have hw2:w.heap.size ∉ bl2:=fun hm=>by have:=(f2.in_ good_Put _ hm).2;omega
 have s0_2:=f2.keep good_Put (fun y hy=>(Up.alloc (Up.refl w) (.cells #[.int .i64 x0,.slice A1 x1.length c1,.slice A2 x2.length c2,.int .i64 x3,.int .i64 x4,.int .i64 x5,.int .i64 x6] 52)).block y (Nat.lt_of_lt_of_le (f2.in_ good_Put y hy).2 hhi))
 rw [hbe] at hnd
 go_enter Tryz.func27,Tryz.ntmps27
 go_wp2_with fail
 have HN0:(bl1++bl2).Nodup:=by grind [List.nodup_append]
 refine (c_markDisk [.int .i64 x0,.slice A1 x1.length c1,.slice A2 x2.length c2] (x0,x1,x2) _ lo hi (bl1++bl2) _ (mkODisk (x:=(x0,x1,x2)) f0 s0_1 s0_2) (Nat.le_trans hhi on0.size) HN0 (by omega) (by omega)).mono ?_
 rintro e w1 ⟨rfl,t1,o1⟩
 have hgo1:w.heap.size ∉ (bl1++bl2):=by simp only [List.mem_append];grind
 have kb1:=kb0.only o1 hgo1
 have on1:=on0.trans (o1.mono (fun y hy=>by simp only [List.mem_append] at hy;grind))
 have q1:=t1
 have g1_1:w1.cell? ⟨w.heap.size,1,none⟩=some (.slice A1 x1.length c1):=kb1.cell 1
 have g1_2:w1.cell? ⟨w.heap.size,2,none⟩=some (.slice A2 x2.length c2):=kb1.cell 2
 have g1_3:w1.cell? ⟨w.heap.size,3,none⟩=some (.int .i64 x3):=kb1.cell 3
 have g1_4:w1.cell? ⟨w.heap.size,4,none⟩=some (.int .i64 x4):=kb1.cell 4
 have g1_5:w1.cell? ⟨w.heap.size,5,none⟩=some (.int .i64 x5):=kb1.cell 5
 have g1_6:w1.cell? ⟨w.heap.size,6,none⟩=some (.int .i64 x6):=kb1.cell 6
 clear o1
 go_wp2_with fail
 go_ret
 have HE:Hid (k+(mmTDisk.cnt (x0,x1,x2):Nat)=k+(mmTJournal.cnt ((x0,x1,x2),x3,x4,x5,x6):Nat)):=by unfold Hid;first | (rw [HC.out];done) | (rw [HC.out];omega)
 refine MarkV.mk HE ?_ on1
 rw [hbe]
 have hmk:mmTJournal.mark ((x0,x1,x2),x3,x4,x5,x6) k=(mmTDisk.mark (x0,x1,x2) (k),x3,x4,x5,x6):=by simp [mmTJournal,mkP,mk0,mkL]
 rw [hmk]
 have hfin:shJournal.own w1 lo hi _ (mmTDisk.mark (x0,x1,x2) (k),x3,x4,x5,x6) _:=(mkO_P (a:=shDisk) (x:=(mmTDisk.mark (x0,x1,x2) (k),x3,x4,x5,x6)) good_Disk t1 (mkO_P (a:=shI) (x:=(x3,x4,x5,x6)) good_I ⟨⟨rfl,f3⟩,rfl⟩ (mkO_P (a:=shI) (x:=(x4,x5,x6)) good_I ⟨⟨rfl,f4⟩,rfl⟩ (mkO_P (a:=shI) (x:=(x5,x6)) good_I ⟨⟨rfl,f5⟩,rfl⟩ ⟨⟨rfl,f6⟩,rfl⟩))))
 simpa using hfin
theorem c_markCache (cs:List Value) (x:TCache) (k:Int) (lo hi:Nat) (bl:List Nat) (w:World) (h:shCache.own w lo hi cs x bl) (hhi:hi≤w.heap.size) (hnd:bl.Nodup) (hk0:0<k) (hk1:k+(mmTCache.cnt x:Nat)≤1000000000) :
   Calls Tryz.prog 26 #[.agg cs.toArray,.int .i64 k] w (MarkV shCache mmTCache lo hi cs x k bl w):=by
 obtain ⟨⟨x0,x1,x2⟩,⟨x3,x4,x5,x6⟩,⟨x7,x8,x9,x10⟩,x11,x12⟩:=x
 have ho:=openOCache h
 try dsimp only at ho
 obtain ⟨A1,c1,bl1,A2,c2,bl2,A6,c6,bl6,A10,c10,bl10,A11,c11,bl11,A12,c12,bl12,rfl,hbe,f0,f1,f2,f3,f4,f5,f6,f7,f8,f9,f10,f11,f12⟩:=ho
 clear h
 have hcn:mmTCache.cnt ((x0,x1,x2),(x3,x4,x5,x6),(x7,x8,x9,x10),x11,x12)=mmTDisk.cnt (x0,x1,x2)+(mmTTop.cnt (x3,x4,x5,x6)+(mmTTop.cnt (x7,x8,x9,x10)+((mkL mmSeat).cnt x11+((mkL mkI).cnt x12)))):=rfl
 rw [hcn] at hk1
 have HC:=Lib.hid hcn;clear hcn
 have kb0:Bk (w.alloc (.cells #[.int .i64 x0,.slice A1 x1.length c1,.slice A2 x2.length c2,.int .i64 x3,.int .i64 x4,.int .i64 x5,.slice A6 x6.length c6,.int .i64 x7,.int .i64 x8,.int .i64 x9,.slice A10 x10.length c10,.slice A11 x11.length c11,.slice A12 x12.length c12] 50)) w.heap.size 50 #[.int .i64 x0,.slice A1 x1.length c1,.slice A2 x2.length c2,.int .i64 x3,.int .i64 x4,.int .i64 x5,.slice A6 x6.length c6,.int .i64 x7,.int .i64 x8,.int .i64 x9,.slice A10 x10.length c10,.slice A11 x11.length c11,.slice A12 x12.length c12]:=Bk.new _ _ _
 have on0:Only bl w (w.alloc (.cells #[.int .i64 x0,.slice A1 x1.length c1,.slice A2 x2.length c2,.int .i64 x3,.int .i64 x4,.int .i64 x5,.slice A6 x6.length c6,.int .i64 x7,.int .i64 x8,.int .i64 x9,.slice A10 x10.length c10,.slice A11 x11.length c11,.slice A12 x12.length c12] 50)):=Only.of_up ((Up.refl _).alloc _)
 have hb1:∀y∈bl1,y∈bl:=by rw [hbe];intro y hy;simp [hy]
 have hw1:w.heap.size ∉ bl1:=fun hm=>by have:=(f1.in_ good_S _ hm).2;omega
 have s0_1:=f1.keep good_S (fun y hy=>(Up.alloc (Up.refl w) (.cells #[.int .i64 x0,.slice A1 x1.length c1,.slice A2 x2.length c2,.int .i64 x3,.int .i64 x4,.int .i64 x5,.slice A6 x6.length c6,.int .i64 x7,.int .i64 x8,.int .i64 x9,.slice A10 x10.length c10,.slice A11 x11.length c11,.slice A12 x12.length c12] 50)).block y (Nat.lt_of_lt_of_le (f1.in_ good_S y hy).2 hhi))
 have hb2:∀y∈bl2,y∈bl:=by rw [hbe];intro y hy;simp [hy]
 have hw2:w.heap.size ∉ bl2:=fun hm=>by have:=(f2.in_ good_Put _ hm).2;omega
 have s0_2:=f2.keep good_Put (fun y hy=>(Up.alloc (Up.refl w) (.cells #[.int .i64 x0,.slice A1 x1.length c1,.slice A2 x2.length c2,.int .i64 x3,.int .i64 x4,.int .i64 x5,.slice A6 x6.length c6,.int .i64 x7,.int .i64 x8,.int .i64 x9,.slice A10 x10.length c10,.slice A11 x11.length c11,.slice A12 x12.length c12] 50)).block y (Nat.lt_of_lt_of_le (f2.in_ good_Put y hy).2 hhi))
 have hb6:∀y∈bl6,y∈bl:=by rw [hbe];intro y hy;simp [hy]
 have hw6:w.heap.size ∉ bl6:=fun hm=>by have:=(f6.in_ good_Seat _ hm).2;omega
 have s0_6:=f6.keep good_Seat (fun y hy=>(Up.alloc (Up.refl w) (.cells #[.int .i64 x0,.slice A1 x1.length c1,.slice A2 x2.length c2,.int .i64 x3,.int .i64 x4,.int .i64 x5,.slice A6 x6.length c6,.int .i64 x7,.int .i64 x8,.int .i64 x9,.slice A10 x10.length c10,.slice A11 x11.length c11,.slice A12 x12.length c12] 50)).block y (Nat.lt_of_lt_of_le (f6.in_ good_Seat y hy).2 hhi))
 have hb10:∀y∈bl10,y∈bl:=by rw [hbe];intro y hy;simp [hy]
 have hw10:w.heap.size ∉ bl10:=fun hm=>by have:=(f10.in_ good_Seat _ hm).2;omega
 have s0_10:=f10.keep good_Seat (fun y hy=>(Up.alloc (Up.refl w) (.cells #[.int .i64 x0,.slice A1 x1.length c1,.slice A2 x2.length c2,.int .i64 x3,.int .i64 x4,.int .i64 x5,.slice A6 x6.length c6,.int .i64 x7,.int .i64 x8,.int .i64 x9,.slice A10 x10.length c10,.slice A11 x11.length c11,.slice A12 x12.length c12] 50)).block y (Nat.lt_of_lt_of_le (f10.in_ good_Seat y hy).2 hhi))
 have hb11:∀y∈bl11,y∈bl:=by rw [hbe];intro y hy;simp [hy]
 have hw11:w.heap.size ∉ bl11:=fun hm=>by have:=(f11.in_ good_Seat _ hm).2;omega
 have s0_11:=f11.keep good_Seat (fun y hy=>(Up.alloc (Up.refl w) (.cells #[.int .i64 x0,.slice A1 x1.length c1,.slice A2 x2.length c2,.int .i64 x3,.int .i64 x4,.int .i64 x5,.slice A6 x6.length c6,.int .i64 x7,.int .i64 x8,.int .i64 x9,.slice A10 x10.length c10,.slice A11 x11.length c11,.slice A12 x12.length c12] 50)).block y (Nat.lt_of_lt_of_le (f11.in_ good_Seat y hy).2 hhi))
 have hb12:∀y∈bl12,y∈bl:=by rw [hbe];intro y hy;simp [hy]
 have hw12:w.heap.size ∉ bl12:=fun hm=>by have:=(f12.in_ good_I _ hm).2;omega
 have s0_12:=f12.keep good_I (fun y hy=>(Up.alloc (Up.refl w) (.cells #[.int .i64 x0,.slice A1 x1.length c1,.slice A2 x2.length c2,.int .i64 x3,.int .i64 x4,.int .i64 x5,.slice A6 x6.length c6,.int .i64 x7,.int .i64 x8,.int .i64 x9,.slice A10 x10.length c10,.slice A11 x11.length c11,.slice A12 x12.length c12] 50)).block y (Nat.lt_of_lt_of_le (f12.in_ good_I y hy).2 hhi))
 rw [hbe] at hnd
 go_enter Tryz.func26,Tryz.ntmps26
 go_wp2_with fail
 have HN0:(bl1++bl2).Nodup:=by grind [List.nodup_append]
 refine (c_markDisk [.int .i64 x0,.slice A1 x1.length c1,.slice A2 x2.length c2] (x0,x1,x2) _ lo hi (bl1++bl2) _ (mkODisk (x:=(x0,x1,x2)) f0 s0_1 s0_2) (Nat.le_trans hhi on0.size) HN0 (by omega) (by omega)).mono ?_
 rintro e w1 ⟨rfl,t1,o1⟩
 have hgo1:w.heap.size ∉ (bl1++bl2):=by simp only [List.mem_append];grind
 have kb1:=kb0.only o1 hgo1
 have on1:=on0.trans (o1.mono (fun y hy=>by simp only [List.mem_append] at hy;grind))
 have s1_6:=s0_6.keep good_Seat (fun y hy=>o1.block y (Nat.lt_of_lt_of_le (s0_6.in_ good_Seat y hy).2 (Nat.le_trans hhi on0.size)) (fun hm=>by grind [List.nodup_append]))
 have s1_10:=s0_10.keep good_Seat (fun y hy=>o1.block y (Nat.lt_of_lt_of_le (s0_10.in_ good_Seat y hy).2 (Nat.le_trans hhi on0.size)) (fun hm=>by grind [List.nodup_append]))
 have s1_11:=s0_11.keep good_Seat (fun y hy=>o1.block y (Nat.lt_of_lt_of_le (s0_11.in_ good_Seat y hy).2 (Nat.le_trans hhi on0.size)) (fun hm=>by grind [List.nodup_append]))
 have s1_12:=s0_12.keep good_I (fun y hy=>o1.block y (Nat.lt_of_lt_of_le (s0_12.in_ good_I y hy).2 (Nat.le_trans hhi on0.size)) (fun hm=>by grind [List.nodup_append]))
 have q1:=t1
 have g1_1:w1.cell? ⟨w.heap.size,1,none⟩=some (.slice A1 x1.length c1):=kb1.cell 1
 have g1_2:w1.cell? ⟨w.heap.size,2,none⟩=some (.slice A2 x2.length c2):=kb1.cell 2
 have g1_3:w1.cell? ⟨w.heap.size,3,none⟩=some (.int .i64 x3):=kb1.cell 3
 have g1_4:w1.cell? ⟨w.heap.size,4,none⟩=some (.int .i64 x4):=kb1.cell 4
 have g1_5:w1.cell? ⟨w.heap.size,5,none⟩=some (.int .i64 x5):=kb1.cell 5
 have g1_6:w1.cell? ⟨w.heap.size,6,none⟩=some (.slice A6 x6.length c6):=kb1.cell 6
 have g1_7:w1.cell? ⟨w.heap.size,7,none⟩=some (.int .i64 x7):=kb1.cell 7
 have g1_8:w1.cell? ⟨w.heap.size,8,none⟩=some (.int .i64 x8):=kb1.cell 8
 have g1_9:w1.cell? ⟨w.heap.size,9,none⟩=some (.int .i64 x9):=kb1.cell 9
 have g1_10:w1.cell? ⟨w.heap.size,10,none⟩=some (.slice A10 x10.length c10):=kb1.cell 10
 have g1_11:w1.cell? ⟨w.heap.size,11,none⟩=some (.slice A11 x11.length c11):=kb1.cell 11
 have g1_12:w1.cell? ⟨w.heap.size,12,none⟩=some (.slice A12 x12.length c12):=kb1.cell 12
 clear o1
 go_wp2_with fail
 have HN3:(bl6).Nodup:=by grind [List.nodup_append]
 refine (c_markTop [.int .i64 x3,.int .i64 x4,.int .i64 x5,.slice A6 x6.length c6] (x3,x4,x5,x6) _ lo hi (bl6) _ (mkOTop (x:=(x3,x4,x5,x6)) f3 f4 f5 s1_6) (Nat.le_trans hhi on1.size) HN3 (by omega) (by omega)).mono ?_
 rintro e w2 ⟨rfl,t2,o2⟩
 have hgo2:w.heap.size ∉ (bl6):=by exact hw6
 have kb2:=kb1.only o2 hgo2
 have on2:=on1.trans (o2.mono (fun y hy=>by exact hb6 y hy))
 have s2_10:=s1_10.keep good_Seat (fun y hy=>o2.block y (Nat.lt_of_lt_of_le (s1_10.in_ good_Seat y hy).2 (Nat.le_trans hhi on1.size)) (fun hm=>by grind [List.nodup_append]))
 have s2_11:=s1_11.keep good_Seat (fun y hy=>o2.block y (Nat.lt_of_lt_of_le (s1_11.in_ good_Seat y hy).2 (Nat.le_trans hhi on1.size)) (fun hm=>by grind [List.nodup_append]))
 have s2_12:=s1_12.keep good_I (fun y hy=>o2.block y (Nat.lt_of_lt_of_le (s1_12.in_ good_I y hy).2 (Nat.le_trans hhi on1.size)) (fun hm=>by grind [List.nodup_append]))
 have q2:=t2
 have g2_4:w2.cell? ⟨w.heap.size,4,none⟩=some (.int .i64 x4):=kb2.cell 4
 have g2_5:w2.cell? ⟨w.heap.size,5,none⟩=some (.int .i64 x5):=kb2.cell 5
 have g2_6:w2.cell? ⟨w.heap.size,6,none⟩=some (.slice A6 x6.length c6):=kb2.cell 6
 have g2_7:w2.cell? ⟨w.heap.size,7,none⟩=some (.int .i64 x7):=kb2.cell 7
 have g2_8:w2.cell? ⟨w.heap.size,8,none⟩=some (.int .i64 x8):=kb2.cell 8
 have g2_9:w2.cell? ⟨w.heap.size,9,none⟩=some (.int .i64 x9):=kb2.cell 9
 have g2_10:w2.cell? ⟨w.heap.size,10,none⟩=some (.slice A10 x10.length c10):=kb2.cell 10
 have g2_11:w2.cell? ⟨w.heap.size,11,none⟩=some (.slice A11 x11.length c11):=kb2.cell 11
 have g2_12:w2.cell? ⟨w.heap.size,12,none⟩=some (.slice A12 x12.length c12):=kb2.cell 12
 have n2_0:=good_Disk.own_keep t1 (fun y hy=>o2.block y (Nat.lt_of_lt_of_le (good_Disk.own_in t1 y hy).2 (Nat.le_trans hhi on1.size)) (fun hm=>by grind [List.nodup_append]))
 clear o2
 go_wp2_with fail
 have HN7:(bl10).Nodup:=by grind [List.nodup_append]
 refine (c_markTop [.int .i64 x7,.int .i64 x8,.int .i64 x9,.slice A10 x10.length c10] (x7,x8,x9,x10) _ lo hi (bl10) _ (mkOTop (x:=(x7,x8,x9,x10)) f7 f8 f9 s2_10) (Nat.le_trans hhi on2.size) HN7 (by omega) (by omega)).mono ?_
 rintro e w3 ⟨rfl,t3,o3⟩
 have hgo3:w.heap.size ∉ (bl10):=by exact hw10
 have kb3:=kb2.only o3 hgo3
 have on3:=on2.trans (o3.mono (fun y hy=>by exact hb10 y hy))
 have s3_11:=s2_11.keep good_Seat (fun y hy=>o3.block y (Nat.lt_of_lt_of_le (s2_11.in_ good_Seat y hy).2 (Nat.le_trans hhi on2.size)) (fun hm=>by grind [List.nodup_append]))
 have s3_12:=s2_12.keep good_I (fun y hy=>o3.block y (Nat.lt_of_lt_of_le (s2_12.in_ good_I y hy).2 (Nat.le_trans hhi on2.size)) (fun hm=>by grind [List.nodup_append]))
 have q3:=t3
 have g3_8:w3.cell? ⟨w.heap.size,8,none⟩=some (.int .i64 x8):=kb3.cell 8
 have g3_9:w3.cell? ⟨w.heap.size,9,none⟩=some (.int .i64 x9):=kb3.cell 9
 have g3_10:w3.cell? ⟨w.heap.size,10,none⟩=some (.slice A10 x10.length c10):=kb3.cell 10
 have g3_11:w3.cell? ⟨w.heap.size,11,none⟩=some (.slice A11 x11.length c11):=kb3.cell 11
 have g3_12:w3.cell? ⟨w.heap.size,12,none⟩=some (.slice A12 x12.length c12):=kb3.cell 12
 have n3_0:=good_Disk.own_keep n2_0 (fun y hy=>o3.block y (Nat.lt_of_lt_of_le (good_Disk.own_in n2_0 y hy).2 (Nat.le_trans hhi on2.size)) (fun hm=>by grind [List.nodup_append]))
 have n3_3:=good_Top.own_keep t2 (fun y hy=>o3.block y (Nat.lt_of_lt_of_le (good_Top.own_in t2 y hy).2 (Nat.le_trans hhi on2.size)) (fun hm=>by grind [List.nodup_append]))
 clear o3
 go_wp2_with fail
 have HN11:(bl11).Nodup:=by grind [List.nodup_append]
 refine (c_markSeatS _ _ _ _ lo hi bl11 _ s3_11 (Nat.le_trans hhi on3.size) HN11 (by omega) (by omega)).mono ?_
 rintro e w4 ⟨rfl,t4,o4⟩
 have hgo4:w.heap.size ∉ (bl11):=by exact hw11
 have kb4:=kb3.only o4 hgo4
 have on4:=on3.trans (o4.mono (fun y hy=>by exact hb11 y hy))
 have s4_12:=s3_12.keep good_I (fun y hy=>o4.block y (Nat.lt_of_lt_of_le (s3_12.in_ good_I y hy).2 (Nat.le_trans hhi on3.size)) (fun hm=>by grind [List.nodup_append]))
 have g4_12:w4.cell? ⟨w.heap.size,12,none⟩=some (.slice A12 x12.length c12):=kb4.cell 12
 have n4_0:=good_Disk.own_keep n3_0 (fun y hy=>o4.block y (Nat.lt_of_lt_of_le (good_Disk.own_in n3_0 y hy).2 (Nat.le_trans hhi on3.size)) (fun hm=>by grind [List.nodup_append]))
 have n4_3:=good_Top.own_keep n3_3 (fun y hy=>o4.block y (Nat.lt_of_lt_of_le (good_Top.own_in n3_3 y hy).2 (Nat.le_trans hhi on3.size)) (fun hm=>by grind [List.nodup_append]))
 have n4_7:=good_Top.own_keep t3 (fun y hy=>o4.block y (Nat.lt_of_lt_of_le (good_Top.own_in t3 y hy).2 (Nat.le_trans hhi on3.size)) (fun hm=>by grind [List.nodup_append]))
 clear o4
 go_wp2_with fail
 have HN12:(bl12).Nodup:=by grind [List.nodup_append]
 refine (c_markInt64S _ _ _ _ lo hi bl12 _ s4_12 (Nat.le_trans hhi on4.size) HN12 (by omega) (by omega)).mono ?_
 rintro e w5 ⟨rfl,t5,o5⟩
 have hgo5:w.heap.size ∉ (bl12):=by exact hw12
 have kb5:=kb4.only o5 hgo5
 have on5:=on4.trans (o5.mono (fun y hy=>by exact hb12 y hy))
 have s5_11:=t4.keep good_Seat (fun y hy=>o5.block y (Nat.lt_of_lt_of_le (t4.in_ good_Seat y hy).2 (Nat.le_trans hhi on4.size)) (fun hm=>by grind [List.nodup_append]))
 have n5_0:=good_Disk.own_keep n4_0 (fun y hy=>o5.block y (Nat.lt_of_lt_of_le (good_Disk.own_in n4_0 y hy).2 (Nat.le_trans hhi on4.size)) (fun hm=>by grind [List.nodup_append]))
 have n5_3:=good_Top.own_keep n4_3 (fun y hy=>o5.block y (Nat.lt_of_lt_of_le (good_Top.own_in n4_3 y hy).2 (Nat.le_trans hhi on4.size)) (fun hm=>by grind [List.nodup_append]))
 have n5_7:=good_Top.own_keep n4_7 (fun y hy=>o5.block y (Nat.lt_of_lt_of_le (good_Top.own_in n4_7 y hy).2 (Nat.le_trans hhi on4.size)) (fun hm=>by grind [List.nodup_append]))
 clear o5
 go_wp2_with fail
 go_ret
 have HE:Hid (k+(mmTDisk.cnt (x0,x1,x2):Nat)+(mmTTop.cnt (x3,x4,x5,x6):Nat)+(mmTTop.cnt (x7,x8,x9,x10):Nat)+((mkL mmSeat).cnt x11:Nat)+((mkL mkI).cnt x12:Nat)=k+(mmTCache.cnt ((x0,x1,x2),(x3,x4,x5,x6),(x7,x8,x9,x10),x11,x12):Nat)):=by unfold Hid;first | (rw [HC.out];done) | (rw [HC.out];omega)
 refine MarkV.mk HE ?_ on5
 rw [hbe]
 have hmk:mmTCache.mark ((x0,x1,x2),(x3,x4,x5,x6),(x7,x8,x9,x10),x11,x12) k=(mmTDisk.mark (x0,x1,x2) (k),mmTTop.mark (x3,x4,x5,x6) (k+(mmTDisk.cnt (x0,x1,x2):Nat)),mmTTop.mark (x7,x8,x9,x10) (k+(mmTDisk.cnt (x0,x1,x2):Nat)+(mmTTop.cnt (x3,x4,x5,x6):Nat)),markL mmSeat x11 (k+(mmTDisk.cnt (x0,x1,x2):Nat)+(mmTTop.cnt (x3,x4,x5,x6):Nat)+(mmTTop.cnt (x7,x8,x9,x10):Nat)),markL mkI x12 (k+(mmTDisk.cnt (x0,x1,x2):Nat)+(mmTTop.cnt (x3,x4,x5,x6):Nat)+(mmTTop.cnt (x7,x8,x9,x10):Nat)+((mkL mmSeat).cnt x11:Nat))):=by simp [mmTCache,mkP,mk0,mkL]
 rw [hmk]
 have hfin:shCache.own w5 lo hi _ (mmTDisk.mark (x0,x1,x2) (k),mmTTop.mark (x3,x4,x5,x6) (k+(mmTDisk.cnt (x0,x1,x2):Nat)),mmTTop.mark (x7,x8,x9,x10) (k+(mmTDisk.cnt (x0,x1,x2):Nat)+(mmTTop.cnt (x3,x4,x5,x6):Nat)),markL mmSeat x11 (k+(mmTDisk.cnt (x0,x1,x2):Nat)+(mmTTop.cnt (x3,x4,x5,x6):Nat)+(mmTTop.cnt (x7,x8,x9,x10):Nat)),markL mkI x12 (k+(mmTDisk.cnt (x0,x1,x2):Nat)+(mmTTop.cnt (x3,x4,x5,x6):Nat)+(mmTTop.cnt (x7,x8,x9,x10):Nat)+((mkL mmSeat).cnt x11:Nat))) _:=(mkO_P (a:=shDisk) (x:=(mmTDisk.mark (x0,x1,x2) (k),mmTTop.mark (x3,x4,x5,x6) (k+(mmTDisk.cnt (x0,x1,x2):Nat)),mmTTop.mark (x7,x8,x9,x10) (k+(mmTDisk.cnt (x0,x1,x2):Nat)+(mmTTop.cnt (x3,x4,x5,x6):Nat)),markL mmSeat x11 (k+(mmTDisk.cnt (x0,x1,x2):Nat)+(mmTTop.cnt (x3,x4,x5,x6):Nat)+(mmTTop.cnt (x7,x8,x9,x10):Nat)),markL mkI x12 (k+(mmTDisk.cnt (x0,x1,x2):Nat)+(mmTTop.cnt (x3,x4,x5,x6):Nat)+(mmTTop.cnt (x7,x8,x9,x10):Nat)+((mkL mmSeat).cnt x11:Nat)))) good_Disk n5_0 (mkO_P (a:=shTop) (x:=(mmTTop.mark (x3,x4,x5,x6) (k+(mmTDisk.cnt (x0,x1,x2):Nat)),mmTTop.mark (x7,x8,x9,x10) (k+(mmTDisk.cnt (x0,x1,x2):Nat)+(mmTTop.cnt (x3,x4,x5,x6):Nat)),markL mmSeat x11 (k+(mmTDisk.cnt (x0,x1,x2):Nat)+(mmTTop.cnt (x3,x4,x5,x6):Nat)+(mmTTop.cnt (x7,x8,x9,x10):Nat)),markL mkI x12 (k+(mmTDisk.cnt (x0,x1,x2):Nat)+(mmTTop.cnt (x3,x4,x5,x6):Nat)+(mmTTop.cnt (x7,x8,x9,x10):Nat)+((mkL mmSeat).cnt x11:Nat)))) good_Top n5_3 (mkO_P (a:=shTop) (x:=(mmTTop.mark (x7,x8,x9,x10) (k+(mmTDisk.cnt (x0,x1,x2):Nat)+(mmTTop.cnt (x3,x4,x5,x6):Nat)),markL mmSeat x11 (k+(mmTDisk.cnt (x0,x1,x2):Nat)+(mmTTop.cnt (x3,x4,x5,x6):Nat)+(mmTTop.cnt (x7,x8,x9,x10):Nat)),markL mkI x12 (k+(mmTDisk.cnt (x0,x1,x2):Nat)+(mmTTop.cnt (x3,x4,x5,x6):Nat)+(mmTTop.cnt (x7,x8,x9,x10):Nat)+((mkL mmSeat).cnt x11:Nat)))) good_Top n5_7 (mkO_P (a:=(shL shSeat)) (x:=(markL mmSeat x11 (k+(mmTDisk.cnt (x0,x1,x2):Nat)+(mmTTop.cnt (x3,x4,x5,x6):Nat)+(mmTTop.cnt (x7,x8,x9,x10):Nat)),markL mkI x12 (k+(mmTDisk.cnt (x0,x1,x2):Nat)+(mmTTop.cnt (x3,x4,x5,x6):Nat)+(mmTTop.cnt (x7,x8,x9,x10):Nat)+((mkL mmSeat).cnt x11:Nat)))) (good_L good_Seat) (SO.to_own (n:=x11.length) (by first | rfl | exact markL_len _ _ _) s5_11) (SO.to_own (n:=x12.length) (by first | rfl | exact markL_len _ _ _) t5)))))
 simpa using hfin
end Go.Proofs.YthdnicfbnihoaaaGreatDoor
