/-
 Contracts of the laws' own helpers (sz..) over strings and numbers.
 Contracts of the laws' sz helpers,by genlaw.py
 Contracts of the laws' to helpers,by genlaw.py
-/
import Derived.Test.YthdnicfbnihoaaaGreatDoorRows
import Derived.Test.YthdnicfbnihoaaaGreatDoorM4A
import Derived.Test.YthdnicfbnihoaaaGreatDoorM4E
import Derived.StillTailTactics
set_option maxHeartbeats 4000000
set_option maxRecDepth 100000
namespace Go.Proofs.YthdnicfbnihoaaaGreatDoor
open Go.RowKit
theorem c_szStringS (xs:List ByteArray) (A:Option Addr) (c:Nat) (left:Int) (w:World) (h:SRW shS w A c xs) (h0:0≤left) (h1:left≤1048576) :
   Calls Tryz.prog 73 #[.slice A xs.length c,.int .i64 left] w (SzP left ((shL shS).sz xs) w):=by
 have hlen:=h.len_le
 have hsz:(shL shS).sz xs=xs.length+(xs.map shS.sz).sum:=rfl
 have HS:=Lib.hid hsz;clear hsz
 go_enter Tryz.func73,Tryz.ntmps73
 go_wp2
 · go_ret
   exact SzP.no (by rw [HS.out];omega) (Up.refl _)
 · go_loop [1,5] (fun l i=>∃k:Nat,k≤xs.length∧i=.int .i64 k∧l=.int .i64 (left - xs.length - psum shS.sz xs k)∧(xs.length+psum shS.sz xs k:Int)≤left) (fun _ i=>xs.length - (intOf i).toNat)
   case atStart=>exact ⟨0,Nat.zero_le _,rfl,by simp [psum_zero],by simp [psum_zero];omega⟩
   case round =>
     obtain ⟨k,hk,rfl,rfl,hp⟩:=hrel
     by_cases hlt:k<xs.length
     · obtain ⟨g,off,rfl,_,_,hc,hb⟩:=h.at_S hlt
       have HP:=Lib.hid (psum_succ shS.sz xs k hlt)
       have hle:=psum_le shS.sz xs (k+1)
       have hs:shS.sz xs[k]=xs[k].size:=rfl
       rw [HP.out,hs] at hle
       have HS2:=Lib.hid hs;clear hs
       go_wp2
       · go_ret
         exact SzP.no (by rw [HS.out];omega) (Up.refl _)
       · go_round
         case rel=>exact ⟨k+1,by omega,by go_num,by rw [HP.out,HS2.out];go_num,by rw [HP.out,HS2.out];omega⟩
         case measure=>simp [intOf];omega
     · have hk':k=xs.length:=by omega
       have HK:=Lib.hid hk';clear hk'
       go_wp2
       go_ret
       exact SzP.yes (by rw [HS.out,← psum_all,← HK.out];omega) (by rw [HS.out,← psum_all,← HK.out];omega) (Up.refl _)
end Go.Proofs.YthdnicfbnihoaaaGreatDoor
namespace Go.Proofs.YthdnicfbnihoaaaGreatDoor
open Go.RowKit
set_option linter.unusedSimpArgs false
set_option linter.unusedVariables false
theorem c_szInt64S (xs:List Int) (A:Option Addr) (c:Nat) (left:Int) (w:World) (h:SRW shI w A c xs) (h0:0≤left) (h1:left≤1048576) :
   Calls Tryz.prog 35 #[.slice A xs.length c,.int .i64 left] w (SzP left ((shL shI).sz xs) w):=by
 have hlen:=h.len_le
 have HS:Hid ((shL shI).sz xs=xs.length):=by
   have:∀ys:List Int,(ys.map shI.sz).sum=0:=fun ys=>by induction ys with
     | nil=>rfl
     | cons y ys ih=>simp only [List.map_cons,List.sum_cons,ih];rfl
   show xs.length+(xs.map shI.sz).sum=_
   rw [this];rfl
 go_enter Tryz.func35,Tryz.ntmps35
 go_wp2
 · go_ret
   exact SzP.no (by rw [HS.out];omega) (Up.refl _)
 · go_ret
   exact SzP.yes (by rw [HS.out];omega) (by rw [HS.out]) (Up.refl _)
theorem c_szSeatS (xs:List TSeat) (A:Option Addr) (c:Nat) (left:Int) (w:World) (h:SRW shSeat w A c xs) (h0:0≤left) (h1:left≤1048576) :
   Calls Tryz.prog 34 #[.slice A xs.length c,.int .i64 left] w (SzP left ((shL shSeat).sz xs) w):=by
 have hlen:=h.len_le
 have HS:Hid ((shL shSeat).sz xs=xs.length):=by
   have:∀ys:List TSeat,(ys.map shSeat.sz).sum=0:=fun ys=>by induction ys with
     | nil=>rfl
     | cons y ys ih=>simp only [List.map_cons,List.sum_cons,ih];rfl
   show xs.length+(xs.map shSeat.sz).sum=_
   rw [this];rfl
 go_enter Tryz.func34,Tryz.ntmps34
 go_wp2
 · go_ret
   exact SzP.no (by rw [HS.out];omega) (Up.refl _)
 · go_ret
   exact SzP.yes (by rw [HS.out];omega) (by rw [HS.out]) (Up.refl _)
theorem c_szPut (v:Value) (x:TPut) (left:Int) (w:World) (h:AV shPut w v x) (h0:0≤left) (h1:left≤1048576) :
   Calls Tryz.prog 120 #[v,.int .i64 left] w (SzP left (shPut.sz x) w):=by
 obtain ⟨cs,rfl,h⟩:=h
 obtain ⟨x0,x1⟩:=x
 have ho:=openPut h
 try dsimp only at ho
 obtain ⟨rfl,b0,b1⟩:=ho
 have bm1:=b1;unfold maxLen at bm1
 have HS:=Lib.hid (show shPut.sz (x0,x1)=0+(x1.size) from rfl)
 have kk0:Bk (w.alloc (.cells #[.int .i64 x0,.string x1] 159)) w.heap.size 159 #[.int .i64 x0,.string x1]:=Bk.new _ _ _
 have uu0:Up w (w.alloc (.cells #[.int .i64 x0,.string x1] 159)):=(Up.refl _).alloc _
 go_enter Tryz.func120,Tryz.ntmps120
 go_wp2_with fail
 · go_ret
   exact SzP.no (by rw [HS.out];omega) uu0
 go_ret
 exact SzP.yes (by rw [HS.out];omega) (by rw [HS.out] <;> omega) uu0
theorem c_szPutS (xs:List TPut) (A:Option Addr) (c:Nat) (left:Int) (w:World) (h:SRW shPut w A c xs) (h0:0≤left) (h1:left≤1048576) :
   Calls Tryz.prog 74 #[.slice A xs.length c,.int .i64 left] w (SzP left ((shL shPut).sz xs) w):=by
 have hlen:=h.len_le
 have HS:=Lib.hid (show (shL shPut).sz xs=xs.length+(xs.map shPut.sz).sum from rfl)
 go_enter Tryz.func74,Tryz.ntmps74
 go_wp2
 · go_ret
   exact SzP.no (by rw [HS.out];omega) (Up.refl _)
 · go_loopw [1,5] (fun l i wr=>∃k:Nat,k≤xs.length∧i=.int .i64 k∧l=.int .i64 (left - xs.length - psum shPut.sz xs k)∧(xs.length+psum shPut.sz xs k:Int)≤left∧Up w wr) (fun _ i _=>xs.length - (intOf i).toNat)
   case atStart=>exact ⟨0,Nat.zero_le _,rfl,by simp [psum_zero],by simp [psum_zero];omega,Up.refl _⟩
   case round =>
     obtain ⟨k,hk,rfl,rfl,hp,hu⟩:=hrel
     by_cases hlt:k<xs.length
     · obtain ⟨g,off,rfl,_,_,hc0,hc1,b0,b1,_⟩:=atPut (h.up good_Put hu) hlt
       have HP:=Lib.hid (psum_succ shPut.sz xs k hlt)
       have hle:=psum_le shPut.sz xs (k+1)
       rw [HP.out] at hle
       go_wp2_with fail
       refine (c_szPut _ xs[k] _ _ ⟨_,rfl,mkPut (x:=xs[k]) b0 b1⟩ (by omega) (by omega)).mono ?_
       rintro e w1 ⟨rfl,hu1⟩
       by_cases hq:(shPut.sz xs[k]:Int)≤left - xs.length - psum shPut.sz xs k
       · rw [szR_yes hq]
         go_wp2_with fail
         go_roundw
         case rel=>exact ⟨k+1,by omega,by go_num,by rw [HP.out];go_num,by rw [HP.out];omega,hu.trans hu1⟩
         case measure=>simp [intOf];omega
       · rw [szR_no (by omega)]
         go_wp2_with fail
         go_ret
         exact SzP.no (by rw [HS.out];omega) (hu.trans hu1)
     · have HK:=Lib.hid (show k=xs.length by omega)
       go_wp2_with fail
       go_ret
       exact SzP.yes (by rw [HS.out,← psum_all,← HK.out];omega) (by rw [HS.out,← psum_all,← HK.out];omega) hu
theorem c_szTop (v:Value) (x:TTop) (left:Int) (w:World) (h:AV shTop w v x) (h0:0≤left) (h1:left≤1048576) :
   Calls Tryz.prog 33 #[v,.int .i64 left] w (SzP left (shTop.sz x) w):=by
 obtain ⟨cs,rfl,h⟩:=h
 obtain ⟨x0,x1,x2,x3⟩:=x
 have ho:=openTop h
 try dsimp only at ho
 obtain ⟨A3,c3,rfl,b0,b1,b2,b3⟩:=ho
 have HS:=Lib.hid (show shTop.sz (x0,x1,x2,x3)=0+(0+(0+((shL shSeat).sz x3))) from rfl)
 have kk0:Bk (w.alloc (.cells #[.int .i64 x0,.int .i64 x1,.int .i64 x2,.slice A3 x3.length c3] 31)) w.heap.size 31 #[.int .i64 x0,.int .i64 x1,.int .i64 x2,.slice A3 x3.length c3]:=Bk.new _ _ _
 have uu0:Up w (w.alloc (.cells #[.int .i64 x0,.int .i64 x1,.int .i64 x2,.slice A3 x3.length c3] 31)):=(Up.refl _).alloc _
 go_enter Tryz.func33,Tryz.ntmps33
 go_wp2_with fail
 refine (c_szSeatS _ _ _ _ _ (b3.up good_Seat uu0) (by omega) (by omega)).mono ?_
 rintro e w1 ⟨rfl,u1⟩
 have uu1:=uu0.trans u1
 have kk1:=kk0.up u1
 have g1_3:w1.cell? ⟨w.heap.size,3,none⟩=some (.slice A3 x3.length c3):=kk1.cell 3
 by_cases q0:¬ (((shL shSeat).sz x3:Nat):Int)≤left
 · rw [szR_no (by omega)]
   go_wp2_with fail
   go_ret
   exact SzP.no (by rw [HS.out];omega) uu1
 replace q0:=Decidable.of_not_not q0
 rw [szR_yes q0]
 go_wp2_with fail
 go_ret
 exact SzP.yes (by rw [HS.out];omega) (by rw [HS.out] <;> omega) uu1
theorem c_szDisk (v:Value) (x:TDisk) (left:Int) (w:World) (h:AV shDisk w v x) (h0:0≤left) (h1:left≤1048576) :
   Calls Tryz.prog 32 #[v,.int .i64 left] w (SzP left (shDisk.sz x) w):=by
 obtain ⟨cs,rfl,h⟩:=h
 obtain ⟨x0,x1,x2⟩:=x
 have ho:=openDisk h
 try dsimp only at ho
 obtain ⟨A1,c1,A2,c2,rfl,b0,b1,b2⟩:=ho
 have HS:=Lib.hid (show shDisk.sz (x0,x1,x2)=0+((shL shS).sz x1+((shL shPut).sz x2)) from rfl)
 have kk0:Bk (w.alloc (.cells #[.int .i64 x0,.slice A1 x1.length c1,.slice A2 x2.length c2] 28)) w.heap.size 28 #[.int .i64 x0,.slice A1 x1.length c1,.slice A2 x2.length c2]:=Bk.new _ _ _
 have uu0:Up w (w.alloc (.cells #[.int .i64 x0,.slice A1 x1.length c1,.slice A2 x2.length c2] 28)):=(Up.refl _).alloc _
 go_enter Tryz.func32,Tryz.ntmps32
 go_wp2_with fail
 refine (c_szStringS _ _ _ _ _ (b1.up good_S uu0) (by omega) (by omega)).mono ?_
 rintro e w1 ⟨rfl,u1⟩
 have uu1:=uu0.trans u1
 have kk1:=kk0.up u1
 have g1_1:w1.cell? ⟨w.heap.size,1,none⟩=some (.slice A1 x1.length c1):=kk1.cell 1
 have g1_2:w1.cell? ⟨w.heap.size,2,none⟩=some (.slice A2 x2.length c2):=kk1.cell 2
 by_cases q0:¬ (((shL shS).sz x1:Nat):Int)≤left
 · rw [szR_no (by omega)]
   go_wp2_with fail
   go_ret
   exact SzP.no (by rw [HS.out];omega) uu1
 replace q0:=Decidable.of_not_not q0
 rw [szR_yes q0]
 go_wp2_with fail
 refine (c_szPutS _ _ _ _ _ (b2.up good_Put uu1) (by omega) (by omega)).mono ?_
 rintro e w2 ⟨rfl,u2⟩
 have uu2:=uu1.trans u2
 have kk2:=kk1.up u2
 have g2_2:w2.cell? ⟨w.heap.size,2,none⟩=some (.slice A2 x2.length c2):=kk2.cell 2
 by_cases q1:¬ (((shL shPut).sz x2:Nat):Int)≤left - ((shL shS).sz x1:Nat)
 · rw [szR_no (by omega)]
   go_wp2_with fail
   go_ret
   exact SzP.no (by rw [HS.out];omega) uu2
 replace q1:=Decidable.of_not_not q1
 rw [szR_yes q1]
 go_wp2_with fail
 go_ret
 exact SzP.yes (by rw [HS.out];omega) (by rw [HS.out] <;> omega) uu2
theorem c_szPage (v:Value) (x:TPage) (left:Int) (w:World) (h:AV shPage w v x) (h0:0≤left) (h1:left≤1048576) :
   Calls Tryz.prog 119 #[v,.int .i64 left] w (SzP left (shPage.sz x) w):=by
 obtain ⟨cs,rfl,h⟩:=h
 obtain ⟨x0,x1,x2,x3⟩:=x
 have ho:=openPage h
 try dsimp only at ho
 obtain ⟨A1,c1,A2,c2,A3,c3,rfl,b1,b2,b3⟩:=ho
 have HS:=Lib.hid (show shPage.sz (x0,x1,x2,x3)=0+((shL shS).sz x1+((shL shS).sz x2+((shL shI).sz x3))) from rfl)
 have kk0:Bk (w.alloc (.cells #[.bool x0,.slice A1 x1.length c1,.slice A2 x2.length c2,.slice A3 x3.length c3] 107)) w.heap.size 107 #[.bool x0,.slice A1 x1.length c1,.slice A2 x2.length c2,.slice A3 x3.length c3]:=Bk.new _ _ _
 have uu0:Up w (w.alloc (.cells #[.bool x0,.slice A1 x1.length c1,.slice A2 x2.length c2,.slice A3 x3.length c3] 107)):=(Up.refl _).alloc _
 go_enter Tryz.func119,Tryz.ntmps119
 go_wp2_with fail
 refine (c_szStringS _ _ _ _ _ (b1.up good_S uu0) (by omega) (by omega)).mono ?_
 rintro e w1 ⟨rfl,u1⟩
 have uu1:=uu0.trans u1
 have kk1:=kk0.up u1
 have g1_1:w1.cell? ⟨w.heap.size,1,none⟩=some (.slice A1 x1.length c1):=kk1.cell 1
 have g1_2:w1.cell? ⟨w.heap.size,2,none⟩=some (.slice A2 x2.length c2):=kk1.cell 2
 have g1_3:w1.cell? ⟨w.heap.size,3,none⟩=some (.slice A3 x3.length c3):=kk1.cell 3
 by_cases q0:¬ (((shL shS).sz x1:Nat):Int)≤left
 · rw [szR_no (by omega)]
   go_wp2_with fail
   go_ret
   exact SzP.no (by rw [HS.out];omega) uu1
 replace q0:=Decidable.of_not_not q0
 rw [szR_yes q0]
 go_wp2_with fail
 refine (c_szStringS _ _ _ _ _ (b2.up good_S uu1) (by omega) (by omega)).mono ?_
 rintro e w2 ⟨rfl,u2⟩
 have uu2:=uu1.trans u2
 have kk2:=kk1.up u2
 have g2_2:w2.cell? ⟨w.heap.size,2,none⟩=some (.slice A2 x2.length c2):=kk2.cell 2
 have g2_3:w2.cell? ⟨w.heap.size,3,none⟩=some (.slice A3 x3.length c3):=kk2.cell 3
 by_cases q1:¬ (((shL shS).sz x2:Nat):Int)≤left - ((shL shS).sz x1:Nat)
 · rw [szR_no (by omega)]
   go_wp2_with fail
   go_ret
   exact SzP.no (by rw [HS.out];omega) uu2
 replace q1:=Decidable.of_not_not q1
 rw [szR_yes q1]
 go_wp2_with fail
 refine (c_szInt64S _ _ _ _ _ (b3.up good_I uu2) (by omega) (by omega)).mono ?_
 rintro e w3 ⟨rfl,u3⟩
 have uu3:=uu2.trans u3
 have kk3:=kk2.up u3
 have g3_3:w3.cell? ⟨w.heap.size,3,none⟩=some (.slice A3 x3.length c3):=kk3.cell 3
 by_cases q2:¬ (((shL shI).sz x3:Nat):Int)≤left - ((shL shS).sz x1:Nat) - ((shL shS).sz x2:Nat)
 · rw [szR_no (by omega)]
   go_wp2_with fail
   go_ret
   exact SzP.no (by rw [HS.out];omega) uu3
 replace q2:=Decidable.of_not_not q2
 rw [szR_yes q2]
 go_wp2_with fail
 go_ret
 exact SzP.yes (by rw [HS.out];omega) (by rw [HS.out] <;> omega) uu3
theorem c_szSlot (v:Value) (x:TSlot) (left:Int) (w:World) (h:AV shSlot w v x) (h0:0≤left) (h1:left≤1048576) :
   Calls Tryz.prog 72 #[v,.int .i64 left] w (SzP left (shSlot.sz x) w):=by
 obtain ⟨cs,rfl,h⟩:=h
 obtain ⟨x0,⟨x1,x2,x3,x4⟩⟩:=x
 have ho:=openSlot h
 try dsimp only at ho
 obtain ⟨A2,c2,A3,c3,A4,c4,rfl,b0,b2,b3,b4⟩:=ho
 have HS:=Lib.hid (show shSlot.sz (x0,(x1,x2,x3,x4))=0+(shPage.sz (x1,x2,x3,x4)) from rfl)
 have kk0:Bk (w.alloc (.cells #[.int .i64 x0,.bool x1,.slice A2 x2.length c2,.slice A3 x3.length c3,.slice A4 x4.length c4] 109)) w.heap.size 109 #[.int .i64 x0,.bool x1,.slice A2 x2.length c2,.slice A3 x3.length c3,.slice A4 x4.length c4]:=Bk.new _ _ _
 have uu0:Up w (w.alloc (.cells #[.int .i64 x0,.bool x1,.slice A2 x2.length c2,.slice A3 x3.length c3,.slice A4 x4.length c4] 109)):=(Up.refl _).alloc _
 go_enter Tryz.func72,Tryz.ntmps72
 go_wp2_with fail
 refine (c_szPage _ (x1,x2,x3,x4) _ _ ⟨_,rfl,mkPage (x:=(x1,x2,x3,x4)) (b2.up good_S uu0) (b3.up good_S uu0) (b4.up good_I uu0)⟩ (by omega) (by omega)).mono ?_
 rintro e w1 ⟨rfl,u1⟩
 have uu1:=uu0.trans u1
 have kk1:=kk0.up u1
 have g1_1:w1.cell? ⟨w.heap.size,1,none⟩=some (.bool x1):=kk1.cell 1
 have g1_2:w1.cell? ⟨w.heap.size,2,none⟩=some (.slice A2 x2.length c2):=kk1.cell 2
 have g1_3:w1.cell? ⟨w.heap.size,3,none⟩=some (.slice A3 x3.length c3):=kk1.cell 3
 have g1_4:w1.cell? ⟨w.heap.size,4,none⟩=some (.slice A4 x4.length c4):=kk1.cell 4
 by_cases q0:¬ ((shPage.sz (x1,x2,x3,x4):Nat):Int)≤left
 · rw [szR_no (by omega)]
   go_wp2_with fail
   go_ret
   exact SzP.no (by rw [HS.out];omega) uu1
 replace q0:=Decidable.of_not_not q0
 rw [szR_yes q0]
 go_wp2_with fail
 go_ret
 exact SzP.yes (by rw [HS.out];omega) (by rw [HS.out] <;> omega) uu1
theorem c_szSlotS (xs:List TSlot) (A:Option Addr) (c:Nat) (left:Int) (w:World) (h:SRW shSlot w A c xs) (h0:0≤left) (h1:left≤1048576) :
   Calls Tryz.prog 31 #[.slice A xs.length c,.int .i64 left] w (SzP left ((shL shSlot).sz xs) w):=by
 have hlen:=h.len_le
 have HS:=Lib.hid (show (shL shSlot).sz xs=xs.length+(xs.map shSlot.sz).sum from rfl)
 go_enter Tryz.func31,Tryz.ntmps31
 go_wp2
 · go_ret
   exact SzP.no (by rw [HS.out];omega) (Up.refl _)
 · go_loopw [1,5] (fun l i wr=>∃k:Nat,k≤xs.length∧i=.int .i64 k∧l=.int .i64 (left - xs.length - psum shSlot.sz xs k)∧(xs.length+psum shSlot.sz xs k:Int)≤left∧Up w wr) (fun _ i _=>xs.length - (intOf i).toNat)
   case atStart=>exact ⟨0,Nat.zero_le _,rfl,by simp [psum_zero],by simp [psum_zero];omega,Up.refl _⟩
   case round =>
     obtain ⟨k,hk,rfl,rfl,hp,hu⟩:=hrel
     by_cases hlt:k<xs.length
     · obtain ⟨g,off,A2,c2,A3,c3,A4,c4,rfl,_,_,hc0,hc1,hc2,hc3,hc4,b0,b2,b3,b4,_⟩:=atSlot (h.up good_Slot hu) hlt
       have HP:=Lib.hid (psum_succ shSlot.sz xs k hlt)
       have hle:=psum_le shSlot.sz xs (k+1)
       rw [HP.out] at hle
       go_wp2_with fail
       refine (c_szSlot _ xs[k] _ _ ⟨_,rfl,mkSlot (x:=xs[k]) b0 b2 b3 b4⟩ (by omega) (by omega)).mono ?_
       rintro e w1 ⟨rfl,hu1⟩
       by_cases hq:(shSlot.sz xs[k]:Int)≤left - xs.length - psum shSlot.sz xs k
       · rw [szR_yes hq]
         go_wp2_with fail
         go_roundw
         case rel=>exact ⟨k+1,by omega,by go_num,by rw [HP.out];go_num,by rw [HP.out];omega,hu.trans hu1⟩
         case measure=>simp [intOf];omega
       · rw [szR_no (by omega)]
         go_wp2_with fail
         go_ret
         exact SzP.no (by rw [HS.out];omega) (hu.trans hu1)
     · have HK:=Lib.hid (show k=xs.length by omega)
       go_wp2_with fail
       go_ret
       exact SzP.yes (by rw [HS.out,← psum_all,← HK.out];omega) (by rw [HS.out,← psum_all,← HK.out];omega) hu
theorem c_szBtree (v:Value) (x:TBtree) (left:Int) (w:World) (h:AV shBtree w v x) (h0:0≤left) (h1:left≤1048576) :
   Calls Tryz.prog 11 #[v,.int .i64 left] w (SzP left (shBtree.sz x) w):=by
 obtain ⟨cs,rfl,h⟩:=h
 obtain ⟨x0,x1⟩:=x
 have ho:=openBtree h
 try dsimp only at ho
 obtain ⟨A1,c1,rfl,b0,b1⟩:=ho
 have HS:=Lib.hid (show shBtree.sz (x0,x1)=0+((shL shSlot).sz x1) from rfl)
 have kk0:Bk (w.alloc (.cells #[.int .i64 x0,.slice A1 x1.length c1] 24)) w.heap.size 24 #[.int .i64 x0,.slice A1 x1.length c1]:=Bk.new _ _ _
 have uu0:Up w (w.alloc (.cells #[.int .i64 x0,.slice A1 x1.length c1] 24)):=(Up.refl _).alloc _
 go_enter Tryz.func11,Tryz.ntmps11
 go_wp2_with fail
 refine (c_szSlotS _ _ _ _ _ (b1.up good_Slot uu0) (by omega) (by omega)).mono ?_
 rintro e w1 ⟨rfl,u1⟩
 have uu1:=uu0.trans u1
 have kk1:=kk0.up u1
 have g1_1:w1.cell? ⟨w.heap.size,1,none⟩=some (.slice A1 x1.length c1):=kk1.cell 1
 by_cases q0:¬ (((shL shSlot).sz x1:Nat):Int)≤left
 · rw [szR_no (by omega)]
   go_wp2_with fail
   go_ret
   exact SzP.no (by rw [HS.out];omega) uu1
 replace q0:=Decidable.of_not_not q0
 rw [szR_yes q0]
 go_wp2_with fail
 go_ret
 exact SzP.yes (by rw [HS.out];omega) (by rw [HS.out] <;> omega) uu1
theorem c_szJournal (v:Value) (x:TJournal) (left:Int) (w:World) (h:AV shJournal w v x) (h0:0≤left) (h1:left≤1048576) :
   Calls Tryz.prog 13 #[v,.int .i64 left] w (SzP left (shJournal.sz x) w):=by
 obtain ⟨cs,rfl,h⟩:=h
 obtain ⟨⟨x0,x1,x2⟩,x3,x4,x5,x6⟩:=x
 have ho:=openJournal h
 try dsimp only at ho
 obtain ⟨A1,c1,A2,c2,rfl,b0,b1,b2,b3,b4,b5,b6⟩:=ho
 have HS:=Lib.hid (show shJournal.sz ((x0,x1,x2),x3,x4,x5,x6)=shDisk.sz (x0,x1,x2)+(0+(0+(0+(0)))) from rfl)
 have kk0:Bk (w.alloc (.cells #[.int .i64 x0,.slice A1 x1.length c1,.slice A2 x2.length c2,.int .i64 x3,.int .i64 x4,.int .i64 x5,.int .i64 x6] 36)) w.heap.size 36 #[.int .i64 x0,.slice A1 x1.length c1,.slice A2 x2.length c2,.int .i64 x3,.int .i64 x4,.int .i64 x5,.int .i64 x6]:=Bk.new _ _ _
 have uu0:Up w (w.alloc (.cells #[.int .i64 x0,.slice A1 x1.length c1,.slice A2 x2.length c2,.int .i64 x3,.int .i64 x4,.int .i64 x5,.int .i64 x6] 36)):=(Up.refl _).alloc _
 go_enter Tryz.func13,Tryz.ntmps13
 go_wp2_with fail
 refine (c_szDisk _ (x0,x1,x2) _ _ ⟨_,rfl,mkDisk (x:=(x0,x1,x2)) b0 (b1.up good_S uu0) (b2.up good_Put uu0)⟩ (by omega) (by omega)).mono ?_
 rintro e w1 ⟨rfl,u1⟩
 have uu1:=uu0.trans u1
 have kk1:=kk0.up u1
 have g1_0:w1.cell? ⟨w.heap.size,0,none⟩=some (.int .i64 x0):=kk1.cell 0
 have g1_1:w1.cell? ⟨w.heap.size,1,none⟩=some (.slice A1 x1.length c1):=kk1.cell 1
 have g1_2:w1.cell? ⟨w.heap.size,2,none⟩=some (.slice A2 x2.length c2):=kk1.cell 2
 have g1_3:w1.cell? ⟨w.heap.size,3,none⟩=some (.int .i64 x3):=kk1.cell 3
 have g1_4:w1.cell? ⟨w.heap.size,4,none⟩=some (.int .i64 x4):=kk1.cell 4
 have g1_5:w1.cell? ⟨w.heap.size,5,none⟩=some (.int .i64 x5):=kk1.cell 5
 have g1_6:w1.cell? ⟨w.heap.size,6,none⟩=some (.int .i64 x6):=kk1.cell 6
 by_cases q0:¬ ((shDisk.sz (x0,x1,x2):Nat):Int)≤left
 · rw [szR_no (by omega)]
   go_wp2_with fail
   go_ret
   exact SzP.no (by rw [HS.out];omega) uu1
 replace q0:=Decidable.of_not_not q0
 rw [szR_yes q0]
 go_wp2_with fail
 go_ret
 exact SzP.yes (by rw [HS.out];omega) (by rw [HS.out] <;> omega) uu1
theorem c_szCache (v:Value) (x:TCache) (left:Int) (w:World) (h:AV shCache w v x) (h0:0≤left) (h1:left≤1048576) :
   Calls Tryz.prog 12 #[v,.int .i64 left] w (SzP left (shCache.sz x) w):=by
 obtain ⟨cs,rfl,h⟩:=h
 obtain ⟨⟨x0,x1,x2⟩,⟨x3,x4,x5,x6⟩,⟨x7,x8,x9,x10⟩,x11,x12⟩:=x
 have ho:=openCache h
 try dsimp only at ho
 obtain ⟨A1,c1,A2,c2,A6,c6,A10,c10,A11,c11,A12,c12,rfl,b0,b1,b2,b3,b4,b5,b6,b7,b8,b9,b10,b11,b12⟩:=ho
 have HS:=Lib.hid (show shCache.sz ((x0,x1,x2),(x3,x4,x5,x6),(x7,x8,x9,x10),x11,x12)=shDisk.sz (x0,x1,x2)+(shTop.sz (x3,x4,x5,x6)+(shTop.sz (x7,x8,x9,x10)+((shL shSeat).sz x11+((shL shI).sz x12)))) from rfl)
 have kk0:Bk (w.alloc (.cells #[.int .i64 x0,.slice A1 x1.length c1,.slice A2 x2.length c2,.int .i64 x3,.int .i64 x4,.int .i64 x5,.slice A6 x6.length c6,.int .i64 x7,.int .i64 x8,.int .i64 x9,.slice A10 x10.length c10,.slice A11 x11.length c11,.slice A12 x12.length c12] 34)) w.heap.size 34 #[.int .i64 x0,.slice A1 x1.length c1,.slice A2 x2.length c2,.int .i64 x3,.int .i64 x4,.int .i64 x5,.slice A6 x6.length c6,.int .i64 x7,.int .i64 x8,.int .i64 x9,.slice A10 x10.length c10,.slice A11 x11.length c11,.slice A12 x12.length c12]:=Bk.new _ _ _
 have uu0:Up w (w.alloc (.cells #[.int .i64 x0,.slice A1 x1.length c1,.slice A2 x2.length c2,.int .i64 x3,.int .i64 x4,.int .i64 x5,.slice A6 x6.length c6,.int .i64 x7,.int .i64 x8,.int .i64 x9,.slice A10 x10.length c10,.slice A11 x11.length c11,.slice A12 x12.length c12] 34)):=(Up.refl _).alloc _
 go_enter Tryz.func12,Tryz.ntmps12
 go_wp2_with fail
 refine (c_szDisk _ (x0,x1,x2) _ _ ⟨_,rfl,mkDisk (x:=(x0,x1,x2)) b0 (b1.up good_S uu0) (b2.up good_Put uu0)⟩ (by omega) (by omega)).mono ?_
 rintro e w1 ⟨rfl,u1⟩
 have uu1:=uu0.trans u1
 have kk1:=kk0.up u1
 have g1_0:w1.cell? ⟨w.heap.size,0,none⟩=some (.int .i64 x0):=kk1.cell 0
 have g1_1:w1.cell? ⟨w.heap.size,1,none⟩=some (.slice A1 x1.length c1):=kk1.cell 1
 have g1_2:w1.cell? ⟨w.heap.size,2,none⟩=some (.slice A2 x2.length c2):=kk1.cell 2
 have g1_3:w1.cell? ⟨w.heap.size,3,none⟩=some (.int .i64 x3):=kk1.cell 3
 have g1_4:w1.cell? ⟨w.heap.size,4,none⟩=some (.int .i64 x4):=kk1.cell 4
 have g1_5:w1.cell? ⟨w.heap.size,5,none⟩=some (.int .i64 x5):=kk1.cell 5
 have g1_6:w1.cell? ⟨w.heap.size,6,none⟩=some (.slice A6 x6.length c6):=kk1.cell 6
 have g1_7:w1.cell? ⟨w.heap.size,7,none⟩=some (.int .i64 x7):=kk1.cell 7
 have g1_8:w1.cell? ⟨w.heap.size,8,none⟩=some (.int .i64 x8):=kk1.cell 8
 have g1_9:w1.cell? ⟨w.heap.size,9,none⟩=some (.int .i64 x9):=kk1.cell 9
 have g1_10:w1.cell? ⟨w.heap.size,10,none⟩=some (.slice A10 x10.length c10):=kk1.cell 10
 have g1_11:w1.cell? ⟨w.heap.size,11,none⟩=some (.slice A11 x11.length c11):=kk1.cell 11
 have g1_12:w1.cell? ⟨w.heap.size,12,none⟩=some (.slice A12 x12.length c12):=kk1.cell 12
 by_cases q0:¬ ((shDisk.sz (x0,x1,x2):Nat):Int)≤left
 · rw [szR_no (by omega)]
   go_wp2_with fail
   go_ret
   exact SzP.no (by rw [HS.out];omega) uu1
 replace q0:=Decidable.of_not_not q0
 rw [szR_yes q0]
 go_wp2_with fail
 refine (c_szTop _ (x3,x4,x5,x6) _ _ ⟨_,rfl,mkTop (x:=(x3,x4,x5,x6)) b3 b4 b5 (b6.up good_Seat uu1)⟩ (by omega) (by omega)).mono ?_
 rintro e w2 ⟨rfl,u2⟩
 have uu2:=uu1.trans u2
 have kk2:=kk1.up u2
 have g2_3:w2.cell? ⟨w.heap.size,3,none⟩=some (.int .i64 x3):=kk2.cell 3
 have g2_4:w2.cell? ⟨w.heap.size,4,none⟩=some (.int .i64 x4):=kk2.cell 4
 have g2_5:w2.cell? ⟨w.heap.size,5,none⟩=some (.int .i64 x5):=kk2.cell 5
 have g2_6:w2.cell? ⟨w.heap.size,6,none⟩=some (.slice A6 x6.length c6):=kk2.cell 6
 have g2_7:w2.cell? ⟨w.heap.size,7,none⟩=some (.int .i64 x7):=kk2.cell 7
 have g2_8:w2.cell? ⟨w.heap.size,8,none⟩=some (.int .i64 x8):=kk2.cell 8
 have g2_9:w2.cell? ⟨w.heap.size,9,none⟩=some (.int .i64 x9):=kk2.cell 9
 have g2_10:w2.cell? ⟨w.heap.size,10,none⟩=some (.slice A10 x10.length c10):=kk2.cell 10
 have g2_11:w2.cell? ⟨w.heap.size,11,none⟩=some (.slice A11 x11.length c11):=kk2.cell 11
 have g2_12:w2.cell? ⟨w.heap.size,12,none⟩=some (.slice A12 x12.length c12):=kk2.cell 12
 by_cases q1:¬ ((shTop.sz (x3,x4,x5,x6):Nat):Int)≤left - (shDisk.sz (x0,x1,x2):Nat)
 · rw [szR_no (by omega)]
   go_wp2_with fail
   go_ret
   exact SzP.no (by rw [HS.out];omega) uu2
 replace q1:=Decidable.of_not_not q1
 rw [szR_yes q1]
 go_wp2_with fail
 refine (c_szTop _ (x7,x8,x9,x10) _ _ ⟨_,rfl,mkTop (x:=(x7,x8,x9,x10)) b7 b8 b9 (b10.up good_Seat uu2)⟩ (by omega) (by omega)).mono ?_
 rintro e w3 ⟨rfl,u3⟩
 have uu3:=uu2.trans u3
 have kk3:=kk2.up u3
 have g3_7:w3.cell? ⟨w.heap.size,7,none⟩=some (.int .i64 x7):=kk3.cell 7
 have g3_8:w3.cell? ⟨w.heap.size,8,none⟩=some (.int .i64 x8):=kk3.cell 8
 have g3_9:w3.cell? ⟨w.heap.size,9,none⟩=some (.int .i64 x9):=kk3.cell 9
 have g3_10:w3.cell? ⟨w.heap.size,10,none⟩=some (.slice A10 x10.length c10):=kk3.cell 10
 have g3_11:w3.cell? ⟨w.heap.size,11,none⟩=some (.slice A11 x11.length c11):=kk3.cell 11
 have g3_12:w3.cell? ⟨w.heap.size,12,none⟩=some (.slice A12 x12.length c12):=kk3.cell 12
 by_cases q2:¬ ((shTop.sz (x7,x8,x9,x10):Nat):Int)≤left - (shDisk.sz (x0,x1,x2):Nat) - (shTop.sz (x3,x4,x5,x6):Nat)
 · rw [szR_no (by omega)]
   go_wp2_with fail
   go_ret
   exact SzP.no (by rw [HS.out];omega) uu3
 replace q2:=Decidable.of_not_not q2
 rw [szR_yes q2]
 go_wp2_with fail
 refine (c_szSeatS _ _ _ _ _ (b11.up good_Seat uu3) (by omega) (by omega)).mono ?_
 rintro e w4 ⟨rfl,u4⟩
 have uu4:=uu3.trans u4
 have kk4:=kk3.up u4
 have g4_11:w4.cell? ⟨w.heap.size,11,none⟩=some (.slice A11 x11.length c11):=kk4.cell 11
 have g4_12:w4.cell? ⟨w.heap.size,12,none⟩=some (.slice A12 x12.length c12):=kk4.cell 12
 by_cases q3:¬ (((shL shSeat).sz x11:Nat):Int)≤left - (shDisk.sz (x0,x1,x2):Nat) - (shTop.sz (x3,x4,x5,x6):Nat) - (shTop.sz (x7,x8,x9,x10):Nat)
 · rw [szR_no (by omega)]
   go_wp2_with fail
   go_ret
   exact SzP.no (by rw [HS.out];omega) uu4
 replace q3:=Decidable.of_not_not q3
 rw [szR_yes q3]
 go_wp2_with fail
 refine (c_szInt64S _ _ _ _ _ (b12.up good_I uu4) (by omega) (by omega)).mono ?_
 rintro e w5 ⟨rfl,u5⟩
 have uu5:=uu4.trans u5
 have kk5:=kk4.up u5
 have g5_12:w5.cell? ⟨w.heap.size,12,none⟩=some (.slice A12 x12.length c12):=kk5.cell 12
 by_cases q4:¬ (((shL shI).sz x12:Nat):Int)≤left - (shDisk.sz (x0,x1,x2):Nat) - (shTop.sz (x3,x4,x5,x6):Nat) - (shTop.sz (x7,x8,x9,x10):Nat) - ((shL shSeat).sz x11:Nat)
 · rw [szR_no (by omega)]
   go_wp2_with fail
   go_ret
   exact SzP.no (by rw [HS.out];omega) uu5
 replace q4:=Decidable.of_not_not q4
 rw [szR_yes q4]
 go_wp2_with fail
 go_ret
 exact SzP.yes (by rw [HS.out];omega) (by rw [HS.out] <;> omega) uu5
theorem c_szBase (v:Value) (x:TBase) (left:Int) (w:World) (h:AV shBase w v x) (h0:0≤left) (h1:left≤1048576) :
   Calls Tryz.prog 4 #[v,.int .i64 left] w (SzP left (shBase.sz x) w):=by
 obtain ⟨cs,rfl,h⟩:=h
 obtain ⟨⟨x0,x1⟩,⟨⟨x2,x3,x4⟩,⟨x5,x6,x7,x8⟩,⟨x9,x10,x11,x12⟩,x13,x14⟩,⟨⟨x15,x16,x17⟩,x18,x19,x20,x21⟩,x22,x23⟩:=x
 have ho:=openBase h
 try dsimp only at ho
 obtain ⟨A1,c1,A3,c3,A4,c4,A8,c8,A12,c12,A13,c13,A14,c14,A16,c16,A17,c17,rfl,b0,b1,b2,b3,b4,b5,b6,b7,b8,b9,b10,b11,b12,b13,b14,b15,b16,b17,b18,b19,b20,b21,b22,b23⟩:=ho
 have HS:=Lib.hid (show shBase.sz ((x0,x1),((x2,x3,x4),(x5,x6,x7,x8),(x9,x10,x11,x12),x13,x14),((x15,x16,x17),x18,x19,x20,x21),x22,x23)=shBtree.sz (x0,x1)+(shCache.sz ((x2,x3,x4),(x5,x6,x7,x8),(x9,x10,x11,x12),x13,x14)+(shJournal.sz ((x15,x16,x17),x18,x19,x20,x21)+(0+(0)))) from rfl)
 have kk0:Bk (w.alloc (.cells #[.int .i64 x0,.slice A1 x1.length c1,.int .i64 x2,.slice A3 x3.length c3,.slice A4 x4.length c4,.int .i64 x5,.int .i64 x6,.int .i64 x7,.slice A8 x8.length c8,.int .i64 x9,.int .i64 x10,.int .i64 x11,.slice A12 x12.length c12,.slice A13 x13.length c13,.slice A14 x14.length c14,.int .i64 x15,.slice A16 x16.length c16,.slice A17 x17.length c17,.int .i64 x18,.int .i64 x19,.int .i64 x20,.int .i64 x21,.int .i64 x22,.int .i64 x23] 38)) w.heap.size 38 #[.int .i64 x0,.slice A1 x1.length c1,.int .i64 x2,.slice A3 x3.length c3,.slice A4 x4.length c4,.int .i64 x5,.int .i64 x6,.int .i64 x7,.slice A8 x8.length c8,.int .i64 x9,.int .i64 x10,.int .i64 x11,.slice A12 x12.length c12,.slice A13 x13.length c13,.slice A14 x14.length c14,.int .i64 x15,.slice A16 x16.length c16,.slice A17 x17.length c17,.int .i64 x18,.int .i64 x19,.int .i64 x20,.int .i64 x21,.int .i64 x22,.int .i64 x23]:=Bk.new _ _ _
 have uu0:Up w (w.alloc (.cells #[.int .i64 x0,.slice A1 x1.length c1,.int .i64 x2,.slice A3 x3.length c3,.slice A4 x4.length c4,.int .i64 x5,.int .i64 x6,.int .i64 x7,.slice A8 x8.length c8,.int .i64 x9,.int .i64 x10,.int .i64 x11,.slice A12 x12.length c12,.slice A13 x13.length c13,.slice A14 x14.length c14,.int .i64 x15,.slice A16 x16.length c16,.slice A17 x17.length c17,.int .i64 x18,.int .i64 x19,.int .i64 x20,.int .i64 x21,.int .i64 x22,.int .i64 x23] 38)):=(Up.refl _).alloc _
 go_enter Tryz.func4,Tryz.ntmps4
 go_wp2_with fail
 refine (c_szBtree _ (x0,x1) _ _ ⟨_,rfl,mkBtree (x:=(x0,x1)) b0 (b1.up good_Slot uu0)⟩ (by omega) (by omega)).mono ?_
 rintro e w1 ⟨rfl,u1⟩
 have uu1:=uu0.trans u1
 have kk1:=kk0.up u1
 have g1_0:w1.cell? ⟨w.heap.size,0,none⟩=some (.int .i64 x0):=kk1.cell 0
 have g1_1:w1.cell? ⟨w.heap.size,1,none⟩=some (.slice A1 x1.length c1):=kk1.cell 1
 have g1_2:w1.cell? ⟨w.heap.size,2,none⟩=some (.int .i64 x2):=kk1.cell 2
 have g1_3:w1.cell? ⟨w.heap.size,3,none⟩=some (.slice A3 x3.length c3):=kk1.cell 3
 have g1_4:w1.cell? ⟨w.heap.size,4,none⟩=some (.slice A4 x4.length c4):=kk1.cell 4
 have g1_5:w1.cell? ⟨w.heap.size,5,none⟩=some (.int .i64 x5):=kk1.cell 5
 have g1_6:w1.cell? ⟨w.heap.size,6,none⟩=some (.int .i64 x6):=kk1.cell 6
 have g1_7:w1.cell? ⟨w.heap.size,7,none⟩=some (.int .i64 x7):=kk1.cell 7
 have g1_8:w1.cell? ⟨w.heap.size,8,none⟩=some (.slice A8 x8.length c8):=kk1.cell 8
 have g1_9:w1.cell? ⟨w.heap.size,9,none⟩=some (.int .i64 x9):=kk1.cell 9
 have g1_10:w1.cell? ⟨w.heap.size,10,none⟩=some (.int .i64 x10):=kk1.cell 10
 have g1_11:w1.cell? ⟨w.heap.size,11,none⟩=some (.int .i64 x11):=kk1.cell 11
 have g1_12:w1.cell? ⟨w.heap.size,12,none⟩=some (.slice A12 x12.length c12):=kk1.cell 12
 have g1_13:w1.cell? ⟨w.heap.size,13,none⟩=some (.slice A13 x13.length c13):=kk1.cell 13
 have g1_14:w1.cell? ⟨w.heap.size,14,none⟩=some (.slice A14 x14.length c14):=kk1.cell 14
 have g1_15:w1.cell? ⟨w.heap.size,15,none⟩=some (.int .i64 x15):=kk1.cell 15
 have g1_16:w1.cell? ⟨w.heap.size,16,none⟩=some (.slice A16 x16.length c16):=kk1.cell 16
 have g1_17:w1.cell? ⟨w.heap.size,17,none⟩=some (.slice A17 x17.length c17):=kk1.cell 17
 have g1_18:w1.cell? ⟨w.heap.size,18,none⟩=some (.int .i64 x18):=kk1.cell 18
 have g1_19:w1.cell? ⟨w.heap.size,19,none⟩=some (.int .i64 x19):=kk1.cell 19
 have g1_20:w1.cell? ⟨w.heap.size,20,none⟩=some (.int .i64 x20):=kk1.cell 20
 have g1_21:w1.cell? ⟨w.heap.size,21,none⟩=some (.int .i64 x21):=kk1.cell 21
 have g1_22:w1.cell? ⟨w.heap.size,22,none⟩=some (.int .i64 x22):=kk1.cell 22
 have g1_23:w1.cell? ⟨w.heap.size,23,none⟩=some (.int .i64 x23):=kk1.cell 23
 by_cases q0:¬ ((shBtree.sz (x0,x1):Nat):Int)≤left
 · rw [szR_no (by omega)]
   go_wp2_with fail
   go_ret
   exact SzP.no (by rw [HS.out];omega) uu1
 replace q0:=Decidable.of_not_not q0
 rw [szR_yes q0]
 go_wp2_with fail
 refine (c_szCache _ ((x2,x3,x4),(x5,x6,x7,x8),(x9,x10,x11,x12),x13,x14) _ _ ⟨_,rfl,mkCache (x:=((x2,x3,x4),(x5,x6,x7,x8),(x9,x10,x11,x12),x13,x14)) b2 (b3.up good_S uu1) (b4.up good_Put uu1) b5 b6 b7 (b8.up good_Seat uu1) b9 b10 b11 (b12.up good_Seat uu1) (b13.up good_Seat uu1) (b14.up good_I uu1)⟩ (by omega) (by omega)).mono ?_
 rintro e w2 ⟨rfl,u2⟩
 have uu2:=uu1.trans u2
 have kk2:=kk1.up u2
 have g2_2:w2.cell? ⟨w.heap.size,2,none⟩=some (.int .i64 x2):=kk2.cell 2
 have g2_3:w2.cell? ⟨w.heap.size,3,none⟩=some (.slice A3 x3.length c3):=kk2.cell 3
 have g2_4:w2.cell? ⟨w.heap.size,4,none⟩=some (.slice A4 x4.length c4):=kk2.cell 4
 have g2_5:w2.cell? ⟨w.heap.size,5,none⟩=some (.int .i64 x5):=kk2.cell 5
 have g2_6:w2.cell? ⟨w.heap.size,6,none⟩=some (.int .i64 x6):=kk2.cell 6
 have g2_7:w2.cell? ⟨w.heap.size,7,none⟩=some (.int .i64 x7):=kk2.cell 7
 have g2_8:w2.cell? ⟨w.heap.size,8,none⟩=some (.slice A8 x8.length c8):=kk2.cell 8
 have g2_9:w2.cell? ⟨w.heap.size,9,none⟩=some (.int .i64 x9):=kk2.cell 9
 have g2_10:w2.cell? ⟨w.heap.size,10,none⟩=some (.int .i64 x10):=kk2.cell 10
 have g2_11:w2.cell? ⟨w.heap.size,11,none⟩=some (.int .i64 x11):=kk2.cell 11
 have g2_12:w2.cell? ⟨w.heap.size,12,none⟩=some (.slice A12 x12.length c12):=kk2.cell 12
 have g2_13:w2.cell? ⟨w.heap.size,13,none⟩=some (.slice A13 x13.length c13):=kk2.cell 13
 have g2_14:w2.cell? ⟨w.heap.size,14,none⟩=some (.slice A14 x14.length c14):=kk2.cell 14
 have g2_15:w2.cell? ⟨w.heap.size,15,none⟩=some (.int .i64 x15):=kk2.cell 15
 have g2_16:w2.cell? ⟨w.heap.size,16,none⟩=some (.slice A16 x16.length c16):=kk2.cell 16
 have g2_17:w2.cell? ⟨w.heap.size,17,none⟩=some (.slice A17 x17.length c17):=kk2.cell 17
 have g2_18:w2.cell? ⟨w.heap.size,18,none⟩=some (.int .i64 x18):=kk2.cell 18
 have g2_19:w2.cell? ⟨w.heap.size,19,none⟩=some (.int .i64 x19):=kk2.cell 19
 have g2_20:w2.cell? ⟨w.heap.size,20,none⟩=some (.int .i64 x20):=kk2.cell 20
 have g2_21:w2.cell? ⟨w.heap.size,21,none⟩=some (.int .i64 x21):=kk2.cell 21
 have g2_22:w2.cell? ⟨w.heap.size,22,none⟩=some (.int .i64 x22):=kk2.cell 22
 have g2_23:w2.cell? ⟨w.heap.size,23,none⟩=some (.int .i64 x23):=kk2.cell 23
 by_cases q1:¬ ((shCache.sz ((x2,x3,x4),(x5,x6,x7,x8),(x9,x10,x11,x12),x13,x14):Nat):Int)≤left - (shBtree.sz (x0,x1):Nat)
 · rw [szR_no (by omega)]
   go_wp2_with fail
   go_ret
   exact SzP.no (by rw [HS.out];omega) uu2
 replace q1:=Decidable.of_not_not q1
 rw [szR_yes q1]
 go_wp2_with fail
 refine (c_szJournal _ ((x15,x16,x17),x18,x19,x20,x21) _ _ ⟨_,rfl,mkJournal (x:=((x15,x16,x17),x18,x19,x20,x21)) b15 (b16.up good_S uu2) (b17.up good_Put uu2) b18 b19 b20 b21⟩ (by omega) (by omega)).mono ?_
 rintro e w3 ⟨rfl,u3⟩
 have uu3:=uu2.trans u3
 have kk3:=kk2.up u3
 have g3_15:w3.cell? ⟨w.heap.size,15,none⟩=some (.int .i64 x15):=kk3.cell 15
 have g3_16:w3.cell? ⟨w.heap.size,16,none⟩=some (.slice A16 x16.length c16):=kk3.cell 16
 have g3_17:w3.cell? ⟨w.heap.size,17,none⟩=some (.slice A17 x17.length c17):=kk3.cell 17
 have g3_18:w3.cell? ⟨w.heap.size,18,none⟩=some (.int .i64 x18):=kk3.cell 18
 have g3_19:w3.cell? ⟨w.heap.size,19,none⟩=some (.int .i64 x19):=kk3.cell 19
 have g3_20:w3.cell? ⟨w.heap.size,20,none⟩=some (.int .i64 x20):=kk3.cell 20
 have g3_21:w3.cell? ⟨w.heap.size,21,none⟩=some (.int .i64 x21):=kk3.cell 21
 have g3_22:w3.cell? ⟨w.heap.size,22,none⟩=some (.int .i64 x22):=kk3.cell 22
 have g3_23:w3.cell? ⟨w.heap.size,23,none⟩=some (.int .i64 x23):=kk3.cell 23
 by_cases q2:¬ ((shJournal.sz ((x15,x16,x17),x18,x19,x20,x21):Nat):Int)≤left - (shBtree.sz (x0,x1):Nat) - (shCache.sz ((x2,x3,x4),(x5,x6,x7,x8),(x9,x10,x11,x12),x13,x14):Nat)
 · rw [szR_no (by omega)]
   go_wp2_with fail
   go_ret
   exact SzP.no (by rw [HS.out];omega) uu3
 replace q2:=Decidable.of_not_not q2
 rw [szR_yes q2]
 go_wp2_with fail
 go_ret
 exact SzP.yes (by rw [HS.out];omega) (by rw [HS.out] <;> omega) uu3
theorem info_String:(Tryz.prog.info? 9).map (fun i=>(i.zero,i.size,i.bytes))=some (some (.string ⟨#[]⟩),1,16):=by kernel_rfl
theorem c_toStringS (xs:List ByteArray) (A:Option Addr) (c:Nat) (w:World) (h:SRW shS w A c xs) (hn:(shL shS).sz xs≤1048576) :
   Calls Tryz.prog 88 #[.slice A xs.length c] w (ToL shS xs w):=by
 have hl:xs.length≤1048576:=Nat.le_trans (Nat.le_add_right _ _) hn
 obtain ⟨i0,hi0,hz0,hz1,hz2⟩:=info_parts info_String
 have hmk:=fun W=>run_make_rows (P:=Tryz.prog) 25 9 i0 _ Tryz.underlying25 hi0 hz0 xs.length (by rw [hz2];omega) (by omega) W
 rw [hz1] at hmk
 clear hi0 hz0 hz1 hz2
 obtain ⟨C0,hC0⟩:∃C0,C0=madeCells (Value.cells (.string ⟨#[]⟩)) (xs.length*1):=⟨_,rfl⟩
 rw [← hC0] at hmk
 have HB:Bld shS w.heap.size (w.alloc (.cells C0 9)) w.heap.size 9 C0 xs.length xs 0 :=
   Bld.start (Nat.le_refl _) (Bk.new _ _ _) (by rw [hC0,size_madeCells];rfl)
 clear hC0
 go_enter Tryz.func88,Tryz.ntmps88
 go_wp2
 go_loopw [4] (fun i wr=>∃(k:Nat) (C:Array Value),k≤xs.length∧i=.int .i64 k∧Bld shS w.heap.size wr w.heap.size 9 C xs.length xs k∧Up w wr) (fun i _=>xs.length - (intOf i).toNat)
 case atStart=>exact ⟨0,C0,Nat.zero_le _,rfl,HB,(Up.refl _).alloc _⟩
 case round =>
   obtain ⟨k,C,hk,rfl,hB,hu⟩:=hrel
   by_cases hlt:k<xs.length
   · obtain ⟨g,off,rfl,_,_,hc,hb⟩:=(h.up good_S hu).at_S hlt
     have hbk:=hB.1
     have hC:C.size=xs.length*1:=hB.2.1
     obtain ⟨o0,hc2⟩:∃o,wr.cell? ⟨w.heap.size,k,none⟩=some o:=by rw [hbk.cell];exact ⟨_,Array.getElem?_eq_getElem (by omega)⟩
     have hf2:=hbk.frozen k
     go_wp2
     go_roundw
     case rel=>exact ⟨k+1,_,by omega,by go_num,hB.push good_S (Up.refl _) (cs:=[.string xs[k]]) (x:=xs[k]) (b:=[]) ⟨⟨rfl,by unfold maxLen;omega⟩,rfl⟩ (by simp) (List.getElem?_eq_getElem hlt) hlt (But.set _ _ _ _) (by simpa [putCells,shS] using hbk.set k (.string xs[k])),hu.setCell (Nat.le_refl _) _⟩
     case measure=>simp [intOf];omega
   · obtain ⟨bl,hso,hnd⟩:=hB.done (c:=xs.length) (by omega) (Nat.le_refl _) (by unfold maxLen;omega) (Nat.le_refl _)
     go_wp2
     go_ret
     exact ⟨_,_,bl,rfl,hso,hnd,hu⟩
theorem info_Int64:(Tryz.prog.info? 2).map (fun i=>(i.zero,i.size,i.bytes))=some (some (.int .i64 0),1,8):=by kernel_rfl
theorem c_toInt64S (xs:List Int) (A:Option Addr) (c:Nat) (w:World) (h:SRW shI w A c xs) (hn:(shL shI).sz xs≤1048576) :
   Calls Tryz.prog 47 #[.slice A xs.length c] w (ToL shI xs w):=by
 have hl:xs.length≤1048576:=Nat.le_trans (Nat.le_add_right _ _) hn
 obtain ⟨i0,hi0,hz0,hz1,hz2⟩:=info_parts info_Int64
 have hmk:=fun W=>run_make_rows (P:=Tryz.prog) 32 2 i0 _ Tryz.underlying32 hi0 hz0 xs.length (by rw [hz2];omega) (by omega) W
 rw [hz1] at hmk
 clear hi0 hz0 hz1 hz2
 obtain ⟨C0,hC0⟩:∃C0,C0=madeCells (Value.cells (.int .i64 0)) (xs.length*1):=⟨_,rfl⟩
 rw [← hC0] at hmk
 have HB:Bld shI w.heap.size (w.alloc (.cells C0 2)) w.heap.size 2 C0 xs.length xs 0 :=
   Bld.start (Nat.le_refl _) (Bk.new _ _ _) (by rw [hC0,size_madeCells];rfl)
 clear hC0
 go_enter Tryz.func47,Tryz.ntmps47
 go_wp2
 go_loopw [4] (fun i wr=>∃(k:Nat) (C:Array Value),k≤xs.length∧i=.int .i64 k∧Bld shI w.heap.size wr w.heap.size 2 C xs.length xs k∧Up w wr) (fun i _=>xs.length - (intOf i).toNat)
 case atStart=>exact ⟨0,C0,Nat.zero_le _,rfl,HB,(Up.refl _).alloc _⟩
 case round =>
   obtain ⟨k,C,hk,rfl,hB,hu⟩:=hrel
   by_cases hlt:k<xs.length
   · obtain ⟨g,off,rfl,_,_,hc,hb⟩:=(h.up good_I hu).at_I hlt
     have hbk:=hB.1
     have hC:C.size=xs.length*1:=hB.2.1
     obtain ⟨o0,hc2⟩:∃o,wr.cell? ⟨w.heap.size,k,none⟩=some o:=by rw [hbk.cell];exact ⟨_,Array.getElem?_eq_getElem (by omega)⟩
     have hf2:=hbk.frozen k
     go_wp2
     go_roundw
     case rel=>exact ⟨k+1,_,by omega,by go_num,hB.push good_I (Up.refl _) (cs:=[.int .i64 xs[k]]) (x:=xs[k]) (b:=[]) ⟨⟨rfl,hb⟩,rfl⟩ (by simp) (List.getElem?_eq_getElem hlt) hlt (But.set _ _ _ _) (by simpa [putCells,shI] using hbk.set k (.int .i64 xs[k])),hu.setCell (Nat.le_refl _) _⟩
     case measure=>simp [intOf];omega
   · obtain ⟨bl,hso,hnd⟩:=hB.done (c:=xs.length) (by omega) (Nat.le_refl _) (by unfold maxLen;omega) (Nat.le_refl _)
     go_wp2
     go_ret
     exact ⟨_,_,bl,rfl,hso,hnd,hu⟩
theorem c_toSeat (v:Value) (x:TSeat) (w:World) (h:AV shSeat w v x) (hn:shSeat.sz x≤1048576) :
   Calls Tryz.prog 90 #[v] w (ToV shSeat x w):=by
 obtain ⟨cs,rfl,h⟩:=h
 obtain ⟨x0,x1⟩:=x
 have ho:=openSeat h
 try dsimp only at ho
 obtain ⟨rfl,b0,b1⟩:=ho
 have hs:shSeat.sz (x0,x1)=0+(0):=rfl
 clear hs hn
 go_enter Tryz.func90,Tryz.ntmps90
 go_wp2_with fail
 refine bodyPost_ret (v:=.agg #[.int .i64 x0,.int .i64 x1]) (by simp [results,Tryz.results90,go_sem]) rfl ?_
 exact ⟨[.int .i64 x0,.int .i64 x1],[],rfl,mkOSeat (x:=(x0,x1)) b0 b1,by simp,(((Up.refl _).alloc _).alloc _).alloc _⟩
theorem info_Seat:(Tryz.prog.info? 125).map (fun i=>(i.zero,i.size,i.bytes))=some (some (.agg #[.int .i64 0,.int .i64 0]),2,16):=by kernel_rfl
theorem c_toSeatS (xs:List TSeat) (A:Option Addr) (c:Nat) (w:World) (h:SRW shSeat w A c xs) (hn:(shL shSeat).sz xs≤1048576) :
   Calls Tryz.prog 46 #[.slice A xs.length c] w (ToL shSeat xs w):=by
 have hl:xs.length≤1048576:=Nat.le_trans (Nat.le_add_right _ _) hn
 obtain ⟨i0,hi0,hz0,hz1,hz2⟩:=info_parts info_Seat
 have hmk:=fun W=>run_make_rows (P:=Tryz.prog) 46 125 i0 _ Tryz.underlying46 hi0 hz0 xs.length (by rw [hz2];omega) (by omega) W
 rw [hz1] at hmk
 clear hi0 hz0 hz1 hz2
 obtain ⟨C0,hC0⟩:∃C0,C0=madeCells (Value.cells (.agg #[.int .i64 0,.int .i64 0])) (xs.length*2):=⟨_,rfl⟩
 rw [← hC0] at hmk
 have HB:Bld shSeat w.heap.size (w.alloc (.cells C0 125)) w.heap.size 125 C0 xs.length xs 0 :=
   Bld.start (Nat.le_refl _) (Bk.new _ _ _) (by rw [hC0,size_madeCells];rfl)
 clear hC0
 go_enter Tryz.func46,Tryz.ntmps46
 go_wp2
 go_loopw [4] (fun i wr=>∃(k:Nat) (C:Array Value),k≤xs.length∧i=.int .i64 k∧Bld shSeat w.heap.size wr w.heap.size 125 C xs.length xs k∧Up w wr) (fun i _=>xs.length - (intOf i).toNat)
 case atStart=>exact ⟨0,C0,Nat.zero_le _,rfl,HB,(Up.refl _).alloc _⟩
 case round =>
   obtain ⟨k,C,hk,rfl,hB,hu⟩:=hrel
   by_cases hlt:k<xs.length
   · obtain ⟨g,off,rfl,_,_,hc0,hc1,b0,b1,_⟩:=atSeat (h.up good_Seat hu) hlt
     go_wp2_with fail
     refine (c_toSeat _ xs[k] _ ⟨_,rfl,mkSeat (x:=xs[k]) b0 b1⟩ (Nat.le_trans (sz_le shSeat xs hlt hn) (Nat.le_refl _))).mono ?_
     rintro e w1 ⟨cs,bl,rfl,ho,hnd,u1⟩
     obtain ⟨rfl,rfl,_,_⟩:=openOSeat ho
     have hbk:=hB.1.up u1
     have hC:C.size=xs.length*2:=hB.2.1
     obtain ⟨o0,hm0⟩:∃o,w1.cell? ⟨w.heap.size,k*2,none⟩=some o:=by rw [hbk.cell];exact ⟨_,Array.getElem?_eq_getElem (by omega)⟩
     have hf0:=hbk.frozen (k*2)
     obtain ⟨o1,hm1⟩:∃o,w1.cell? ⟨w.heap.size,k*2+1,none⟩=some o:=by rw [hbk.cell];exact ⟨_,Array.getElem?_eq_getElem (by omega)⟩
     have hf1:=hbk.frozen (k*2+1)
     go_wp2_with fail
     go_roundw
     case rel=>exact ⟨k+1,_,by omega,by go_num,hB.push good_Seat u1 ho hnd (List.getElem?_eq_getElem hlt) hlt (But.sets [_,_] _ _) (Bk.sets [_,_] hbk _),(hu.trans u1).sets (Nat.le_refl _) _ [_,_]⟩
     case measure=>simp [intOf];omega
   · obtain ⟨bl,hso,hnd⟩:=hB.done (c:=xs.length) (by omega) (Nat.le_refl _) (by unfold maxLen;omega) (Nat.le_refl _)
     go_wp2
     go_ret
     exact ⟨_,_,bl,rfl,hso,hnd,hu⟩
theorem c_toPut (v:Value) (x:TPut) (w:World) (h:AV shPut w v x) (hn:shPut.sz x≤1048576) :
   Calls Tryz.prog 129 #[v] w (ToV shPut x w):=by
 obtain ⟨cs,rfl,h⟩:=h
 obtain ⟨x0,x1⟩:=x
 have ho:=openPut h
 try dsimp only at ho
 obtain ⟨rfl,b0,b1⟩:=ho
 have hs:shPut.sz (x0,x1)=0+(x1.size):=rfl
 clear hs hn
 go_enter Tryz.func129,Tryz.ntmps129
 go_wp2_with fail
 refine bodyPost_ret (v:=.agg #[.int .i64 x0,.string x1]) (by simp [results,Tryz.results129,go_sem]) rfl ?_
 exact ⟨[.int .i64 x0,.string x1],[],rfl,mkOPut (x:=(x0,x1)) b0 b1,by simp,(((Up.refl _).alloc _).alloc _).alloc _⟩
theorem info_Put:(Tryz.prog.info? 151).map (fun i=>(i.zero,i.size,i.bytes))=some (some (.agg #[.int .i64 0,.string ⟨#[]⟩]),2,24):=by kernel_rfl
theorem c_toPutS (xs:List TPut) (A:Option Addr) (c:Nat) (w:World) (h:SRW shPut w A c xs) (hn:(shL shPut).sz xs≤1048576) :
   Calls Tryz.prog 89 #[.slice A xs.length c] w (ToL shPut xs w):=by
 have hl:xs.length≤1048576:=Nat.le_trans (Nat.le_add_right _ _) hn
 obtain ⟨i0,hi0,hz0,hz1,hz2⟩:=info_parts info_Put
 have hmk:=fun W=>run_make_rows (P:=Tryz.prog) 43 151 i0 _ Tryz.underlying43 hi0 hz0 xs.length (by rw [hz2];omega) (by omega) W
 rw [hz1] at hmk
 clear hi0 hz0 hz1 hz2
 obtain ⟨C0,hC0⟩:∃C0,C0=madeCells (Value.cells (.agg #[.int .i64 0,.string ⟨#[]⟩])) (xs.length*2):=⟨_,rfl⟩
 rw [← hC0] at hmk
 have HB:Bld shPut w.heap.size (w.alloc (.cells C0 151)) w.heap.size 151 C0 xs.length xs 0 :=
   Bld.start (Nat.le_refl _) (Bk.new _ _ _) (by rw [hC0,size_madeCells];rfl)
 clear hC0
 go_enter Tryz.func89,Tryz.ntmps89
 go_wp2
 go_loopw [4] (fun i wr=>∃(k:Nat) (C:Array Value),k≤xs.length∧i=.int .i64 k∧Bld shPut w.heap.size wr w.heap.size 151 C xs.length xs k∧Up w wr) (fun i _=>xs.length - (intOf i).toNat)
 case atStart=>exact ⟨0,C0,Nat.zero_le _,rfl,HB,(Up.refl _).alloc _⟩
 case round =>
   obtain ⟨k,C,hk,rfl,hB,hu⟩:=hrel
   by_cases hlt:k<xs.length
   · obtain ⟨g,off,rfl,_,_,hc0,hc1,b0,b1,_⟩:=atPut (h.up good_Put hu) hlt
     have hx:=sz_le shPut xs hlt hn
     go_wp2_with fail
     refine (c_toPut _ xs[k] _ ⟨_,rfl,mkPut (x:=xs[k]) b0 b1⟩ hx).mono ?_
     rintro e w1 ⟨cs,bl,rfl,ho,hnd,u1⟩
     obtain ⟨rfl,rfl,_,_⟩:=openOPut ho
     have hbk:=hB.1.up u1
     have hC:C.size=xs.length*2:=hB.2.1
     obtain ⟨o0,hm0⟩:∃o,w1.cell? ⟨w.heap.size,k*2,none⟩=some o:=by rw [hbk.cell];exact ⟨_,Array.getElem?_eq_getElem (by omega)⟩
     have hf0:=hbk.frozen (k*2)
     obtain ⟨o1,hm1⟩:∃o,w1.cell? ⟨w.heap.size,k*2+1,none⟩=some o:=by rw [hbk.cell];exact ⟨_,Array.getElem?_eq_getElem (by omega)⟩
     have hf1:=hbk.frozen (k*2+1)
     go_wp2_with fail
     go_roundw
     case rel=>exact ⟨k+1,_,by omega,by go_num,hB.push good_Put u1 ho hnd (List.getElem?_eq_getElem hlt) hlt (But.sets [_,_] _ _) (Bk.sets [_,_] hbk _),(hu.trans u1).sets (Nat.le_refl _) _ [_,_]⟩
     case measure=>simp [intOf];omega
   · obtain ⟨bl,hso,hnd⟩:=hB.done (c:=xs.length) (by omega) (Nat.le_refl _) (by unfold maxLen;omega) (Nat.le_refl _)
     go_wp2
     go_ret
     exact ⟨_,_,bl,rfl,hso,hnd,hu⟩
theorem asmTop {w:World} {lo hi:Nat} {x0:Int} {x1:Int} {x2:Int} {x3:List TSeat} {D3:Option Addr} {d3:Nat} {bl3:List Nat} (h0:I64 x0) (h1:I64 x1) (h2:I64 x2) (h3:SO shSeat w lo hi D3 d3 x3 bl3):shTop.own w lo hi [.int .i64 x0,.int .i64 x1,.int .i64 x2,.slice D3 x3.length d3] (x0,x1,x2,x3) (bl3):=by
 have h:shTop.own w lo hi [.int .i64 x0,.int .i64 x1,.int .i64 x2,.slice D3 x3.length d3] (x0,x1,x2,x3) _:=(mkO_P (a:=shI) (x:=(x0,x1,x2,x3)) good_I ⟨⟨rfl,h0⟩,rfl⟩ (mkO_P (a:=shI) (x:=(x1,x2,x3)) good_I ⟨⟨rfl,h1⟩,rfl⟩ (mkO_P (a:=shI) (x:=(x2,x3)) good_I ⟨⟨rfl,h2⟩,rfl⟩ ⟨D3,d3,rfl,h3⟩)))
 simpa using h
theorem c_toTop (v:Value) (x:TTop) (w:World) (h:AV shTop w v x) (hn:shTop.sz x≤1048576) :
   Calls Tryz.prog 45 #[v] w (ToV shTop x w):=by
 obtain ⟨cs,rfl,h⟩:=h
 obtain ⟨x0,x1,x2,x3⟩:=x
 have ho:=openTop h
 try dsimp only at ho
 obtain ⟨A3,c3,rfl,b0,b1,b2,b3⟩:=ho
 have hs:shTop.sz (x0,x1,x2,x3)=0+(0+(0+((shL shSeat).sz x3))):=rfl
 have hl3:(shL shSeat).sz x3≤1048576:=by omega
 clear hs hn
 go_enter Tryz.func45,Tryz.ntmps45
 go_wp2_with fail
 have vv0:Up w (((w.alloc (.cells #[.int .i64 x0,.int .i64 x1,.int .i64 x2,.slice A3 x3.length c3] 31)).alloc (.cells #[.int .i64 0,.int .i64 0,.int .i64 0,.slice none 0 0] 48)).alloc (.cells #[.int .i64 x0,.int .i64 x1,.int .i64 x2,.slice none 0 0] 48)):=(((Up.refl _).alloc _).alloc _).alloc _
 have ja0:Bk (((w.alloc (.cells #[.int .i64 x0,.int .i64 x1,.int .i64 x2,.slice A3 x3.length c3] 31)).alloc (.cells #[.int .i64 0,.int .i64 0,.int .i64 0,.slice none 0 0] 48)).alloc (.cells #[.int .i64 x0,.int .i64 x1,.int .i64 x2,.slice none 0 0] 48)) w.heap.size 31 #[.int .i64 x0,.int .i64 x1,.int .i64 x2,.slice A3 x3.length c3]:=((Bk.new _ _ _).alloc _).alloc _
 have jr0:Bk (((w.alloc (.cells #[.int .i64 x0,.int .i64 x1,.int .i64 x2,.slice A3 x3.length c3] 31)).alloc (.cells #[.int .i64 0,.int .i64 0,.int .i64 0,.slice none 0 0] 48)).alloc (.cells #[.int .i64 x0,.int .i64 x1,.int .i64 x2,.slice none 0 0] 48)) (w.heap.size+1) 48 #[.int .i64 0,.int .i64 0,.int .i64 0,.slice none 0 0]:=by simpa using (Bk.new (w.alloc (.cells #[.int .i64 x0,.int .i64 x1,.int .i64 x2,.slice A3 x3.length c3] 31)) 48 #[.int .i64 0,.int .i64 0,.int .i64 0,.slice none 0 0]).alloc (.cells #[.int .i64 x0,.int .i64 x1,.int .i64 x2,.slice none 0 0] 48)
 have jo0:Bk (((w.alloc (.cells #[.int .i64 x0,.int .i64 x1,.int .i64 x2,.slice A3 x3.length c3] 31)).alloc (.cells #[.int .i64 0,.int .i64 0,.int .i64 0,.slice none 0 0] 48)).alloc (.cells #[.int .i64 x0,.int .i64 x1,.int .i64 x2,.slice none 0 0] 48)) (w.heap.size+1+1) 48 #[.int .i64 x0,.int .i64 x1,.int .i64 x2,.slice none 0 0]:=by simpa using Bk.new ((w.alloc (.cells #[.int .i64 x0,.int .i64 x1,.int .i64 x2,.slice A3 x3.length c3] 31)).alloc (.cells #[.int .i64 0,.int .i64 0,.int .i64 0,.slice none 0 0] 48)) 48 #[.int .i64 x0,.int .i64 x1,.int .i64 x2,.slice none 0 0]
 have sz0:w.heap.size+1+1+1=(((w.alloc (.cells #[.int .i64 x0,.int .i64 x1,.int .i64 x2,.slice A3 x3.length c3] 31)).alloc (.cells #[.int .i64 0,.int .i64 0,.int .i64 0,.slice none 0 0] 48)).alloc (.cells #[.int .i64 x0,.int .i64 x1,.int .i64 x2,.slice none 0 0] 48)).heap.size:=by simp
 refine (c_toSeatS _ _ _ _ (b3.up good_Seat vv0) hl3).mono ?_
 rintro e w1 ⟨D3,d3,bl3,rfl,o3,nd3,u1⟩
 have uu1:=vv0.trans u1
 have ka1:=ja0.up u1
 have kr1:=jr0.up u1
 have ko1:=jo0.up u1
 have zz1:=u1.size
 rw [← sz0] at zz1
 have s1_3:SO shSeat w1 (w.heap.size+1+1+1) w1.heap.size D3 d3 x3 bl3:=by rw [sz0];exact o3
 have nn1:(bl3).Nodup:=nd3
 have mm1:∀b∈bl3,b<w1.heap.size:=fun b hb=>(s1_3.in_ good_Seat b hb).2
 clear ja0 jr0 jo0 u1 o3
 have ga1_0:w1.cell? ⟨w.heap.size,0,none⟩=some (.int .i64 x0):=ka1.cell 0
 have gr1_0:w1.cell? ⟨w.heap.size+1,0,none⟩=some (.int .i64 0):=kr1.cell 0
 have go1_0:w1.cell? ⟨w.heap.size+1+1,0,none⟩=some (.int .i64 x0):=ko1.cell 0
 have fr1_0:=kr1.frozen 0
 have fo1_0:=ko1.frozen 0
 have ga1_1:w1.cell? ⟨w.heap.size,1,none⟩=some (.int .i64 x1):=ka1.cell 1
 have gr1_1:w1.cell? ⟨w.heap.size+1,1,none⟩=some (.int .i64 0):=kr1.cell 1
 have go1_1:w1.cell? ⟨w.heap.size+1+1,1,none⟩=some (.int .i64 x1):=ko1.cell 1
 have fr1_1:=kr1.frozen 1
 have fo1_1:=ko1.frozen 1
 have ga1_2:w1.cell? ⟨w.heap.size,2,none⟩=some (.int .i64 x2):=ka1.cell 2
 have gr1_2:w1.cell? ⟨w.heap.size+1,2,none⟩=some (.int .i64 0):=kr1.cell 2
 have go1_2:w1.cell? ⟨w.heap.size+1+1,2,none⟩=some (.int .i64 x2):=ko1.cell 2
 have fr1_2:=kr1.frozen 2
 have fo1_2:=ko1.frozen 2
 have ga1_3:w1.cell? ⟨w.heap.size,3,none⟩=some (.slice A3 x3.length c3):=ka1.cell 3
 have gr1_3:w1.cell? ⟨w.heap.size+1,3,none⟩=some (.slice none 0 0):=kr1.cell 3
 have go1_3:w1.cell? ⟨w.heap.size+1+1,3,none⟩=some (.slice none 0 0):=ko1.cell 3
 have fr1_3:=kr1.frozen 3
 have fo1_3:=ko1.frozen 3
 go_wp2_with fail
 have z_3:=((s1_3.set good_Seat (w.heap.size+1+1) 3 [.slice D3 x3.length d3] (by omega)).set good_Seat (w.heap.size+1) 0 [.int .i64 x0,.int .i64 x1,.int .i64 x2,.slice D3 x3.length d3] (by omega)).wide good_Seat (lo':=w.heap.size) (by omega) (Nat.le_refl _)
 have fu:=((uu1.sets (g:=(w.heap.size+1+1)) (by omega) 3 [.slice D3 x3.length d3]).sets (g:=(w.heap.size+1)) (by omega) 0 [.int .i64 x0,.int .i64 x1,.int .i64 x2,.slice D3 x3.length d3])
 refine bodyPost_ret (v:=.agg #[.int .i64 x0,.int .i64 x1,.int .i64 x2,.slice D3 x3.length d3]) (by simp [results,Tryz.results45,go_sem,gr1_0,gr1_1,gr1_2,gr1_3]) rfl ?_
 exact ⟨[.int .i64 x0,.int .i64 x1,.int .i64 x2,.slice D3 x3.length d3],_,rfl,asmTop b0 b1 b2 z_3,by simpa using nn1,fu⟩
theorem asmDisk {w:World} {lo hi:Nat} {x0:Int} {x1:List ByteArray} {D1:Option Addr} {d1:Nat} {x2:List TPut} {D2:Option Addr} {d2:Nat} {bl1:List Nat} {bl2:List Nat} (h0:I64 x0) (h1:SO shS w lo hi D1 d1 x1 bl1) (h2:SO shPut w lo hi D2 d2 x2 bl2):shDisk.own w lo hi [.int .i64 x0,.slice D1 x1.length d1,.slice D2 x2.length d2] (x0,x1,x2) (bl1++bl2):=by
 have h:shDisk.own w lo hi [.int .i64 x0,.slice D1 x1.length d1,.slice D2 x2.length d2] (x0,x1,x2) _:=(mkO_P (a:=shI) (x:=(x0,x1,x2)) good_I ⟨⟨rfl,h0⟩,rfl⟩ (mkO_P (a:=(shL shS)) (x:=(x1,x2)) (good_L good_S) ⟨D1,d1,rfl,h1⟩ ⟨D2,d2,rfl,h2⟩))
 simpa using h
theorem c_toDisk (v:Value) (x:TDisk) (w:World) (h:AV shDisk w v x) (hn:shDisk.sz x≤1048576) :
   Calls Tryz.prog 44 #[v] w (ToV shDisk x w):=by
 obtain ⟨cs,rfl,h⟩:=h
 obtain ⟨x0,x1,x2⟩:=x
 have ho:=openDisk h
 try dsimp only at ho
 obtain ⟨A1,c1,A2,c2,rfl,b0,b1,b2⟩:=ho
 have hs:shDisk.sz (x0,x1,x2)=0+((shL shS).sz x1+((shL shPut).sz x2)):=rfl
 have hl1:(shL shS).sz x1≤1048576:=by omega
 have hl2:(shL shPut).sz x2≤1048576:=by omega
 clear hs hn
 go_enter Tryz.func44,Tryz.ntmps44
 go_wp2_with fail
 have vv0:Up w (((w.alloc (.cells #[.int .i64 x0,.slice A1 x1.length c1,.slice A2 x2.length c2] 28)).alloc (.cells #[.int .i64 0,.slice none 0 0,.slice none 0 0] 45)).alloc (.cells #[.int .i64 x0,.slice none 0 0,.slice none 0 0] 45)):=(((Up.refl _).alloc _).alloc _).alloc _
 have ja0:Bk (((w.alloc (.cells #[.int .i64 x0,.slice A1 x1.length c1,.slice A2 x2.length c2] 28)).alloc (.cells #[.int .i64 0,.slice none 0 0,.slice none 0 0] 45)).alloc (.cells #[.int .i64 x0,.slice none 0 0,.slice none 0 0] 45)) w.heap.size 28 #[.int .i64 x0,.slice A1 x1.length c1,.slice A2 x2.length c2]:=((Bk.new _ _ _).alloc _).alloc _
 have jr0:Bk (((w.alloc (.cells #[.int .i64 x0,.slice A1 x1.length c1,.slice A2 x2.length c2] 28)).alloc (.cells #[.int .i64 0,.slice none 0 0,.slice none 0 0] 45)).alloc (.cells #[.int .i64 x0,.slice none 0 0,.slice none 0 0] 45)) (w.heap.size+1) 45 #[.int .i64 0,.slice none 0 0,.slice none 0 0]:=by simpa using (Bk.new (w.alloc (.cells #[.int .i64 x0,.slice A1 x1.length c1,.slice A2 x2.length c2] 28)) 45 #[.int .i64 0,.slice none 0 0,.slice none 0 0]).alloc (.cells #[.int .i64 x0,.slice none 0 0,.slice none 0 0] 45)
 have jo0:Bk (((w.alloc (.cells #[.int .i64 x0,.slice A1 x1.length c1,.slice A2 x2.length c2] 28)).alloc (.cells #[.int .i64 0,.slice none 0 0,.slice none 0 0] 45)).alloc (.cells #[.int .i64 x0,.slice none 0 0,.slice none 0 0] 45)) (w.heap.size+1+1) 45 #[.int .i64 x0,.slice none 0 0,.slice none 0 0]:=by simpa using Bk.new ((w.alloc (.cells #[.int .i64 x0,.slice A1 x1.length c1,.slice A2 x2.length c2] 28)).alloc (.cells #[.int .i64 0,.slice none 0 0,.slice none 0 0] 45)) 45 #[.int .i64 x0,.slice none 0 0,.slice none 0 0]
 have sz0:w.heap.size+1+1+1=(((w.alloc (.cells #[.int .i64 x0,.slice A1 x1.length c1,.slice A2 x2.length c2] 28)).alloc (.cells #[.int .i64 0,.slice none 0 0,.slice none 0 0] 45)).alloc (.cells #[.int .i64 x0,.slice none 0 0,.slice none 0 0] 45)).heap.size:=by simp
 refine (c_toStringS _ _ _ _ (b1.up good_S vv0) hl1).mono ?_
 rintro e w1 ⟨D1,d1,bl1,rfl,o1,nd1,u1⟩
 have uu1:=vv0.trans u1
 have ka1:=ja0.up u1
 have kr1:=jr0.up u1
 have ko1:=jo0.up u1
 have zz1:=u1.size
 rw [← sz0] at zz1
 have s1_1:SO shS w1 (w.heap.size+1+1+1) w1.heap.size D1 d1 x1 bl1:=by rw [sz0];exact o1
 have nn1:(bl1).Nodup:=nd1
 have mm1:∀b∈bl1,b<w1.heap.size:=fun b hb=>(s1_1.in_ good_S b hb).2
 clear ja0 jr0 jo0 u1 o1
 have ga1_0:w1.cell? ⟨w.heap.size,0,none⟩=some (.int .i64 x0):=ka1.cell 0
 have gr1_0:w1.cell? ⟨w.heap.size+1,0,none⟩=some (.int .i64 0):=kr1.cell 0
 have go1_0:w1.cell? ⟨w.heap.size+1+1,0,none⟩=some (.int .i64 x0):=ko1.cell 0
 have fr1_0:=kr1.frozen 0
 have fo1_0:=ko1.frozen 0
 have ga1_1:w1.cell? ⟨w.heap.size,1,none⟩=some (.slice A1 x1.length c1):=ka1.cell 1
 have gr1_1:w1.cell? ⟨w.heap.size+1,1,none⟩=some (.slice none 0 0):=kr1.cell 1
 have go1_1:w1.cell? ⟨w.heap.size+1+1,1,none⟩=some (.slice none 0 0):=ko1.cell 1
 have fr1_1:=kr1.frozen 1
 have fo1_1:=ko1.frozen 1
 have ga1_2:w1.cell? ⟨w.heap.size,2,none⟩=some (.slice A2 x2.length c2):=ka1.cell 2
 have gr1_2:w1.cell? ⟨w.heap.size+1,2,none⟩=some (.slice none 0 0):=kr1.cell 2
 have go1_2:w1.cell? ⟨w.heap.size+1+1,2,none⟩=some (.slice none 0 0):=ko1.cell 2
 have fr1_2:=kr1.frozen 2
 have fo1_2:=ko1.frozen 2
 go_wp2_with fail
 have vv1:Up w (setCells w1 (w.heap.size+1+1) 1 [.slice D1 x1.length d1]):=(uu1.sets (g:=(w.heap.size+1+1)) (by omega) 1 [.slice D1 x1.length d1])
 have ja1:Bk (setCells w1 (w.heap.size+1+1) 1 [.slice D1 x1.length d1]) w.heap.size 28 #[.int .i64 x0,.slice A1 x1.length c1,.slice A2 x2.length c2]:=(ka1.far (p:=⟨(w.heap.size+1+1),1,none⟩) (by dsimp only;omega) (.slice D1 x1.length d1))
 have jr1:Bk (setCells w1 (w.heap.size+1+1) 1 [.slice D1 x1.length d1]) (w.heap.size+1) 45 #[.int .i64 0,.slice none 0 0,.slice none 0 0]:=(kr1.far (p:=⟨(w.heap.size+1+1),1,none⟩) (by dsimp only;omega) (.slice D1 x1.length d1))
 have jo1:Bk (setCells w1 (w.heap.size+1+1) 1 [.slice D1 x1.length d1]) (w.heap.size+1+1) 45 #[.int .i64 x0,.slice D1 x1.length d1,.slice none 0 0]:=(ko1.set 1 (.slice D1 x1.length d1))
 have sz1:w1.heap.size=(setCells w1 (w.heap.size+1+1) 1 [.slice D1 x1.length d1]).heap.size:=by simp only [setCells_size]
 have p1_1:=(s1_1.set good_S (w.heap.size+1+1) 1 [.slice D1 x1.length d1] (by omega))
 refine (c_toPutS _ _ _ _ (b2.up good_Put vv1) hl2).mono ?_
 rintro e w2 ⟨D2,d2,bl2,rfl,o2,nd2,u2⟩
 have uu2:=vv1.trans u2
 have ka2:=ja1.up u2
 have kr2:=jr1.up u2
 have ko2:=jo1.up u2
 have s2_1:=p1_1.up good_S u2
 have zz2:=u2.size
 rw [← sz1] at zz2
 have s2_2:SO shPut w2 w1.heap.size w2.heap.size D2 d2 x2 bl2:=by rw [sz1];exact o2
 have nn2:((bl1)++bl2).Nodup:=nodup_two (m:=w1.heap.size) nn1 nd2 mm1 (fun b hb=>(s2_2.in_ good_Put b hb).1)
 have mm2:∀b∈(bl1)++bl2,b<w2.heap.size:=mem_lt_two (fun b hb=>Nat.lt_of_lt_of_le (mm1 b hb) zz2) (fun b hb=>(s2_2.in_ good_Put b hb).2)
 clear ja1 jr1 jo1 u2 o2 p1_1 ka1 kr1 ko1 s1_1 ga1_0 gr1_0 go1_0 fr1_0 fo1_0 ga1_1 gr1_1 go1_1 fr1_1 fo1_1 ga1_2 gr1_2 go1_2 fr1_2 fo1_2
 have ga2_0:w2.cell? ⟨w.heap.size,0,none⟩=some (.int .i64 x0):=ka2.cell 0
 have gr2_0:w2.cell? ⟨w.heap.size+1,0,none⟩=some (.int .i64 0):=kr2.cell 0
 have go2_0:w2.cell? ⟨w.heap.size+1+1,0,none⟩=some (.int .i64 x0):=ko2.cell 0
 have fr2_0:=kr2.frozen 0
 have fo2_0:=ko2.frozen 0
 have ga2_1:w2.cell? ⟨w.heap.size,1,none⟩=some (.slice A1 x1.length c1):=ka2.cell 1
 have gr2_1:w2.cell? ⟨w.heap.size+1,1,none⟩=some (.slice none 0 0):=kr2.cell 1
 have go2_1:w2.cell? ⟨w.heap.size+1+1,1,none⟩=some (.slice D1 x1.length d1):=ko2.cell 1
 have fr2_1:=kr2.frozen 1
 have fo2_1:=ko2.frozen 1
 have ga2_2:w2.cell? ⟨w.heap.size,2,none⟩=some (.slice A2 x2.length c2):=ka2.cell 2
 have gr2_2:w2.cell? ⟨w.heap.size+1,2,none⟩=some (.slice none 0 0):=kr2.cell 2
 have go2_2:w2.cell? ⟨w.heap.size+1+1,2,none⟩=some (.slice none 0 0):=ko2.cell 2
 have fr2_2:=kr2.frozen 2
 have fo2_2:=ko2.frozen 2
 go_wp2_with fail
 have z_1:=((s2_1.set good_S (w.heap.size+1+1) 2 [.slice D2 x2.length d2] (by omega)).set good_S (w.heap.size+1) 0 [.int .i64 x0,.slice D1 x1.length d1,.slice D2 x2.length d2] (by omega)).wide good_S (lo':=w.heap.size) (by omega) (Nat.le_refl _)
 have z_2:=((s2_2.set good_Put (w.heap.size+1+1) 2 [.slice D2 x2.length d2] (by omega)).set good_Put (w.heap.size+1) 0 [.int .i64 x0,.slice D1 x1.length d1,.slice D2 x2.length d2] (by omega)).wide good_Put (lo':=w.heap.size) (by omega) (Nat.le_refl _)
 have fu:=((uu2.sets (g:=(w.heap.size+1+1)) (by omega) 2 [.slice D2 x2.length d2]).sets (g:=(w.heap.size+1)) (by omega) 0 [.int .i64 x0,.slice D1 x1.length d1,.slice D2 x2.length d2])
 refine bodyPost_ret (v:=.agg #[.int .i64 x0,.slice D1 x1.length d1,.slice D2 x2.length d2]) (by simp [results,Tryz.results44,go_sem,gr2_0,gr2_1,gr2_2]) rfl ?_
 exact ⟨[.int .i64 x0,.slice D1 x1.length d1,.slice D2 x2.length d2],_,rfl,asmDisk b0 z_1 z_2,by simpa using nn2,fu⟩
theorem asmPage {w:World} {lo hi:Nat} {x0:Bool} {x1:List ByteArray} {D1:Option Addr} {d1:Nat} {x2:List ByteArray} {D2:Option Addr} {d2:Nat} {x3:List Int} {D3:Option Addr} {d3:Nat} {bl1:List Nat} {bl2:List Nat} {bl3:List Nat} (h1:SO shS w lo hi D1 d1 x1 bl1) (h2:SO shS w lo hi D2 d2 x2 bl2) (h3:SO shI w lo hi D3 d3 x3 bl3):shPage.own w lo hi [.bool x0,.slice D1 x1.length d1,.slice D2 x2.length d2,.slice D3 x3.length d3] (x0,x1,x2,x3) (bl1++bl2++bl3):=by
 have h:shPage.own w lo hi [.bool x0,.slice D1 x1.length d1,.slice D2 x2.length d2,.slice D3 x3.length d3] (x0,x1,x2,x3) _:=(mkO_P (a:=shB) (x:=(x0,x1,x2,x3)) good_B ⟨rfl,rfl⟩ (mkO_P (a:=(shL shS)) (x:=(x1,x2,x3)) (good_L good_S) ⟨D1,d1,rfl,h1⟩ (mkO_P (a:=(shL shS)) (x:=(x2,x3)) (good_L good_S) ⟨D2,d2,rfl,h2⟩ ⟨D3,d3,rfl,h3⟩)))
 simpa using h
theorem c_toPage (v:Value) (x:TPage) (w:World) (h:AV shPage w v x) (hn:shPage.sz x≤1048576) :
   Calls Tryz.prog 128 #[v] w (ToV shPage x w):=by
 obtain ⟨cs,rfl,h⟩:=h
 obtain ⟨x0,x1,x2,x3⟩:=x
 have ho:=openPage h
 try dsimp only at ho
 obtain ⟨A1,c1,A2,c2,A3,c3,rfl,b1,b2,b3⟩:=ho
 have hs:shPage.sz (x0,x1,x2,x3)=0+((shL shS).sz x1+((shL shS).sz x2+((shL shI).sz x3))):=rfl
 have hl1:(shL shS).sz x1≤1048576:=by omega
 have hl2:(shL shS).sz x2≤1048576:=by omega
 have hl3:(shL shI).sz x3≤1048576:=by omega
 clear hs hn
 go_enter Tryz.func128,Tryz.ntmps128
 go_wp2_with fail
 have vv0:Up w (((w.alloc (.cells #[.bool x0,.slice A1 x1.length c1,.slice A2 x2.length c2,.slice A3 x3.length c3] 107)).alloc (.cells #[.bool false,.slice none 0 0,.slice none 0 0,.slice none 0 0] 112)).alloc (.cells #[.bool x0,.slice none 0 0,.slice none 0 0,.slice none 0 0] 112)):=(((Up.refl _).alloc _).alloc _).alloc _
 have ja0:Bk (((w.alloc (.cells #[.bool x0,.slice A1 x1.length c1,.slice A2 x2.length c2,.slice A3 x3.length c3] 107)).alloc (.cells #[.bool false,.slice none 0 0,.slice none 0 0,.slice none 0 0] 112)).alloc (.cells #[.bool x0,.slice none 0 0,.slice none 0 0,.slice none 0 0] 112)) w.heap.size 107 #[.bool x0,.slice A1 x1.length c1,.slice A2 x2.length c2,.slice A3 x3.length c3]:=((Bk.new _ _ _).alloc _).alloc _
 have jr0:Bk (((w.alloc (.cells #[.bool x0,.slice A1 x1.length c1,.slice A2 x2.length c2,.slice A3 x3.length c3] 107)).alloc (.cells #[.bool false,.slice none 0 0,.slice none 0 0,.slice none 0 0] 112)).alloc (.cells #[.bool x0,.slice none 0 0,.slice none 0 0,.slice none 0 0] 112)) (w.heap.size+1) 112 #[.bool false,.slice none 0 0,.slice none 0 0,.slice none 0 0]:=by simpa using (Bk.new (w.alloc (.cells #[.bool x0,.slice A1 x1.length c1,.slice A2 x2.length c2,.slice A3 x3.length c3] 107)) 112 #[.bool false,.slice none 0 0,.slice none 0 0,.slice none 0 0]).alloc (.cells #[.bool x0,.slice none 0 0,.slice none 0 0,.slice none 0 0] 112)
 have jo0:Bk (((w.alloc (.cells #[.bool x0,.slice A1 x1.length c1,.slice A2 x2.length c2,.slice A3 x3.length c3] 107)).alloc (.cells #[.bool false,.slice none 0 0,.slice none 0 0,.slice none 0 0] 112)).alloc (.cells #[.bool x0,.slice none 0 0,.slice none 0 0,.slice none 0 0] 112)) (w.heap.size+1+1) 112 #[.bool x0,.slice none 0 0,.slice none 0 0,.slice none 0 0]:=by simpa using Bk.new ((w.alloc (.cells #[.bool x0,.slice A1 x1.length c1,.slice A2 x2.length c2,.slice A3 x3.length c3] 107)).alloc (.cells #[.bool false,.slice none 0 0,.slice none 0 0,.slice none 0 0] 112)) 112 #[.bool x0,.slice none 0 0,.slice none 0 0,.slice none 0 0]
 have sz0:w.heap.size+1+1+1=(((w.alloc (.cells #[.bool x0,.slice A1 x1.length c1,.slice A2 x2.length c2,.slice A3 x3.length c3] 107)).alloc (.cells #[.bool false,.slice none 0 0,.slice none 0 0,.slice none 0 0] 112)).alloc (.cells #[.bool x0,.slice none 0 0,.slice none 0 0,.slice none 0 0] 112)).heap.size:=by simp
 refine (c_toStringS _ _ _ _ (b1.up good_S vv0) hl1).mono ?_
 rintro e w1 ⟨D1,d1,bl1,rfl,o1,nd1,u1⟩
 have uu1:=vv0.trans u1
 have ka1:=ja0.up u1
 have kr1:=jr0.up u1
 have ko1:=jo0.up u1
 have zz1:=u1.size
 rw [← sz0] at zz1
 have s1_1:SO shS w1 (w.heap.size+1+1+1) w1.heap.size D1 d1 x1 bl1:=by rw [sz0];exact o1
 have nn1:(bl1).Nodup:=nd1
 have mm1:∀b∈bl1,b<w1.heap.size:=fun b hb=>(s1_1.in_ good_S b hb).2
 clear ja0 jr0 jo0 u1 o1
 have ga1_0:w1.cell? ⟨w.heap.size,0,none⟩=some (.bool x0):=ka1.cell 0
 have gr1_0:w1.cell? ⟨w.heap.size+1,0,none⟩=some (.bool false):=kr1.cell 0
 have go1_0:w1.cell? ⟨w.heap.size+1+1,0,none⟩=some (.bool x0):=ko1.cell 0
 have fr1_0:=kr1.frozen 0
 have fo1_0:=ko1.frozen 0
 have ga1_1:w1.cell? ⟨w.heap.size,1,none⟩=some (.slice A1 x1.length c1):=ka1.cell 1
 have gr1_1:w1.cell? ⟨w.heap.size+1,1,none⟩=some (.slice none 0 0):=kr1.cell 1
 have go1_1:w1.cell? ⟨w.heap.size+1+1,1,none⟩=some (.slice none 0 0):=ko1.cell 1
 have fr1_1:=kr1.frozen 1
 have fo1_1:=ko1.frozen 1
 have ga1_2:w1.cell? ⟨w.heap.size,2,none⟩=some (.slice A2 x2.length c2):=ka1.cell 2
 have gr1_2:w1.cell? ⟨w.heap.size+1,2,none⟩=some (.slice none 0 0):=kr1.cell 2
 have go1_2:w1.cell? ⟨w.heap.size+1+1,2,none⟩=some (.slice none 0 0):=ko1.cell 2
 have fr1_2:=kr1.frozen 2
 have fo1_2:=ko1.frozen 2
 have ga1_3:w1.cell? ⟨w.heap.size,3,none⟩=some (.slice A3 x3.length c3):=ka1.cell 3
 have gr1_3:w1.cell? ⟨w.heap.size+1,3,none⟩=some (.slice none 0 0):=kr1.cell 3
 have go1_3:w1.cell? ⟨w.heap.size+1+1,3,none⟩=some (.slice none 0 0):=ko1.cell 3
 have fr1_3:=kr1.frozen 3
 have fo1_3:=ko1.frozen 3
 go_wp2_with fail
 have vv1:Up w (setCells w1 (w.heap.size+1+1) 1 [.slice D1 x1.length d1]):=(uu1.sets (g:=(w.heap.size+1+1)) (by omega) 1 [.slice D1 x1.length d1])
 have ja1:Bk (setCells w1 (w.heap.size+1+1) 1 [.slice D1 x1.length d1]) w.heap.size 107 #[.bool x0,.slice A1 x1.length c1,.slice A2 x2.length c2,.slice A3 x3.length c3]:=(ka1.far (p:=⟨(w.heap.size+1+1),1,none⟩) (by dsimp only;omega) (.slice D1 x1.length d1))
 have jr1:Bk (setCells w1 (w.heap.size+1+1) 1 [.slice D1 x1.length d1]) (w.heap.size+1) 112 #[.bool false,.slice none 0 0,.slice none 0 0,.slice none 0 0]:=(kr1.far (p:=⟨(w.heap.size+1+1),1,none⟩) (by dsimp only;omega) (.slice D1 x1.length d1))
 have jo1:Bk (setCells w1 (w.heap.size+1+1) 1 [.slice D1 x1.length d1]) (w.heap.size+1+1) 112 #[.bool x0,.slice D1 x1.length d1,.slice none 0 0,.slice none 0 0]:=(ko1.set 1 (.slice D1 x1.length d1))
 have sz1:w1.heap.size=(setCells w1 (w.heap.size+1+1) 1 [.slice D1 x1.length d1]).heap.size:=by simp only [setCells_size]
 have p1_1:=(s1_1.set good_S (w.heap.size+1+1) 1 [.slice D1 x1.length d1] (by omega))
 refine (c_toStringS _ _ _ _ (b2.up good_S vv1) hl2).mono ?_
 rintro e w2 ⟨D2,d2,bl2,rfl,o2,nd2,u2⟩
 have uu2:=vv1.trans u2
 have ka2:=ja1.up u2
 have kr2:=jr1.up u2
 have ko2:=jo1.up u2
 have s2_1:=p1_1.up good_S u2
 have zz2:=u2.size
 rw [← sz1] at zz2
 have s2_2:SO shS w2 w1.heap.size w2.heap.size D2 d2 x2 bl2:=by rw [sz1];exact o2
 have nn2:((bl1)++bl2).Nodup:=nodup_two (m:=w1.heap.size) nn1 nd2 mm1 (fun b hb=>(s2_2.in_ good_S b hb).1)
 have mm2:∀b∈(bl1)++bl2,b<w2.heap.size:=mem_lt_two (fun b hb=>Nat.lt_of_lt_of_le (mm1 b hb) zz2) (fun b hb=>(s2_2.in_ good_S b hb).2)
 clear ja1 jr1 jo1 u2 o2 p1_1 ka1 kr1 ko1 s1_1 ga1_0 gr1_0 go1_0 fr1_0 fo1_0 ga1_1 gr1_1 go1_1 fr1_1 fo1_1 ga1_2 gr1_2 go1_2 fr1_2 fo1_2 ga1_3 gr1_3 go1_3 fr1_3 fo1_3
 have ga2_0:w2.cell? ⟨w.heap.size,0,none⟩=some (.bool x0):=ka2.cell 0
 have gr2_0:w2.cell? ⟨w.heap.size+1,0,none⟩=some (.bool false):=kr2.cell 0
 have go2_0:w2.cell? ⟨w.heap.size+1+1,0,none⟩=some (.bool x0):=ko2.cell 0
 have fr2_0:=kr2.frozen 0
 have fo2_0:=ko2.frozen 0
 have ga2_1:w2.cell? ⟨w.heap.size,1,none⟩=some (.slice A1 x1.length c1):=ka2.cell 1
 have gr2_1:w2.cell? ⟨w.heap.size+1,1,none⟩=some (.slice none 0 0):=kr2.cell 1
 have go2_1:w2.cell? ⟨w.heap.size+1+1,1,none⟩=some (.slice D1 x1.length d1):=ko2.cell 1
 have fr2_1:=kr2.frozen 1
 have fo2_1:=ko2.frozen 1
 have ga2_2:w2.cell? ⟨w.heap.size,2,none⟩=some (.slice A2 x2.length c2):=ka2.cell 2
 have gr2_2:w2.cell? ⟨w.heap.size+1,2,none⟩=some (.slice none 0 0):=kr2.cell 2
 have go2_2:w2.cell? ⟨w.heap.size+1+1,2,none⟩=some (.slice none 0 0):=ko2.cell 2
 have fr2_2:=kr2.frozen 2
 have fo2_2:=ko2.frozen 2
 have ga2_3:w2.cell? ⟨w.heap.size,3,none⟩=some (.slice A3 x3.length c3):=ka2.cell 3
 have gr2_3:w2.cell? ⟨w.heap.size+1,3,none⟩=some (.slice none 0 0):=kr2.cell 3
 have go2_3:w2.cell? ⟨w.heap.size+1+1,3,none⟩=some (.slice none 0 0):=ko2.cell 3
 have fr2_3:=kr2.frozen 3
 have fo2_3:=ko2.frozen 3
 go_wp2_with fail
 have vv2:Up w (setCells w2 (w.heap.size+1+1) 2 [.slice D2 x2.length d2]):=(uu2.sets (g:=(w.heap.size+1+1)) (by omega) 2 [.slice D2 x2.length d2])
 have ja2:Bk (setCells w2 (w.heap.size+1+1) 2 [.slice D2 x2.length d2]) w.heap.size 107 #[.bool x0,.slice A1 x1.length c1,.slice A2 x2.length c2,.slice A3 x3.length c3]:=(ka2.far (p:=⟨(w.heap.size+1+1),2,none⟩) (by dsimp only;omega) (.slice D2 x2.length d2))
 have jr2:Bk (setCells w2 (w.heap.size+1+1) 2 [.slice D2 x2.length d2]) (w.heap.size+1) 112 #[.bool false,.slice none 0 0,.slice none 0 0,.slice none 0 0]:=(kr2.far (p:=⟨(w.heap.size+1+1),2,none⟩) (by dsimp only;omega) (.slice D2 x2.length d2))
 have jo2:Bk (setCells w2 (w.heap.size+1+1) 2 [.slice D2 x2.length d2]) (w.heap.size+1+1) 112 #[.bool x0,.slice D1 x1.length d1,.slice D2 x2.length d2,.slice none 0 0]:=(ko2.set 2 (.slice D2 x2.length d2))
 have sz2:w2.heap.size=(setCells w2 (w.heap.size+1+1) 2 [.slice D2 x2.length d2]).heap.size:=by simp only [setCells_size]
 have p2_1:=(s2_1.set good_S (w.heap.size+1+1) 2 [.slice D2 x2.length d2] (by omega))
 have p2_2:=(s2_2.set good_S (w.heap.size+1+1) 2 [.slice D2 x2.length d2] (by omega))
 refine (c_toInt64S _ _ _ _ (b3.up good_I vv2) hl3).mono ?_
 rintro e w3 ⟨D3,d3,bl3,rfl,o3,nd3,u3⟩
 have uu3:=vv2.trans u3
 have ka3:=ja2.up u3
 have kr3:=jr2.up u3
 have ko3:=jo2.up u3
 have s3_1:=p2_1.up good_S u3
 have s3_2:=p2_2.up good_S u3
 have zz3:=u3.size
 rw [← sz2] at zz3
 have s3_3:SO shI w3 w2.heap.size w3.heap.size D3 d3 x3 bl3:=by rw [sz2];exact o3
 have nn3:(((bl1)++bl2)++bl3).Nodup:=nodup_two (m:=w2.heap.size) nn2 nd3 mm2 (fun b hb=>(s3_3.in_ good_I b hb).1)
 have mm3:∀b∈((bl1)++bl2)++bl3,b<w3.heap.size:=mem_lt_two (fun b hb=>Nat.lt_of_lt_of_le (mm2 b hb) zz3) (fun b hb=>(s3_3.in_ good_I b hb).2)
 clear ja2 jr2 jo2 u3 o3 p2_1 p2_2 ka2 kr2 ko2 s2_1 s2_2 ga2_0 gr2_0 go2_0 fr2_0 fo2_0 ga2_1 gr2_1 go2_1 fr2_1 fo2_1 ga2_2 gr2_2 go2_2 fr2_2 fo2_2 ga2_3 gr2_3 go2_3 fr2_3 fo2_3
 have ga3_0:w3.cell? ⟨w.heap.size,0,none⟩=some (.bool x0):=ka3.cell 0
 have gr3_0:w3.cell? ⟨w.heap.size+1,0,none⟩=some (.bool false):=kr3.cell 0
 have go3_0:w3.cell? ⟨w.heap.size+1+1,0,none⟩=some (.bool x0):=ko3.cell 0
 have fr3_0:=kr3.frozen 0
 have fo3_0:=ko3.frozen 0
 have ga3_1:w3.cell? ⟨w.heap.size,1,none⟩=some (.slice A1 x1.length c1):=ka3.cell 1
 have gr3_1:w3.cell? ⟨w.heap.size+1,1,none⟩=some (.slice none 0 0):=kr3.cell 1
 have go3_1:w3.cell? ⟨w.heap.size+1+1,1,none⟩=some (.slice D1 x1.length d1):=ko3.cell 1
 have fr3_1:=kr3.frozen 1
 have fo3_1:=ko3.frozen 1
 have ga3_2:w3.cell? ⟨w.heap.size,2,none⟩=some (.slice A2 x2.length c2):=ka3.cell 2
 have gr3_2:w3.cell? ⟨w.heap.size+1,2,none⟩=some (.slice none 0 0):=kr3.cell 2
 have go3_2:w3.cell? ⟨w.heap.size+1+1,2,none⟩=some (.slice D2 x2.length d2):=ko3.cell 2
 have fr3_2:=kr3.frozen 2
 have fo3_2:=ko3.frozen 2
 have ga3_3:w3.cell? ⟨w.heap.size,3,none⟩=some (.slice A3 x3.length c3):=ka3.cell 3
 have gr3_3:w3.cell? ⟨w.heap.size+1,3,none⟩=some (.slice none 0 0):=kr3.cell 3
 have go3_3:w3.cell? ⟨w.heap.size+1+1,3,none⟩=some (.slice none 0 0):=ko3.cell 3
 have fr3_3:=kr3.frozen 3
 have fo3_3:=ko3.frozen 3
 go_wp2_with fail
 have z_1:=((s3_1.set good_S (w.heap.size+1+1) 3 [.slice D3 x3.length d3] (by omega)).set good_S (w.heap.size+1) 0 [.bool x0,.slice D1 x1.length d1,.slice D2 x2.length d2,.slice D3 x3.length d3] (by omega)).wide good_S (lo':=w.heap.size) (by omega) (Nat.le_refl _)
 have z_2:=((s3_2.set good_S (w.heap.size+1+1) 3 [.slice D3 x3.length d3] (by omega)).set good_S (w.heap.size+1) 0 [.bool x0,.slice D1 x1.length d1,.slice D2 x2.length d2,.slice D3 x3.length d3] (by omega)).wide good_S (lo':=w.heap.size) (by omega) (Nat.le_refl _)
 have z_3:=((s3_3.set good_I (w.heap.size+1+1) 3 [.slice D3 x3.length d3] (by omega)).set good_I (w.heap.size+1) 0 [.bool x0,.slice D1 x1.length d1,.slice D2 x2.length d2,.slice D3 x3.length d3] (by omega)).wide good_I (lo':=w.heap.size) (by omega) (Nat.le_refl _)
 have fu:=((uu3.sets (g:=(w.heap.size+1+1)) (by omega) 3 [.slice D3 x3.length d3]).sets (g:=(w.heap.size+1)) (by omega) 0 [.bool x0,.slice D1 x1.length d1,.slice D2 x2.length d2,.slice D3 x3.length d3])
 refine bodyPost_ret (v:=.agg #[.bool x0,.slice D1 x1.length d1,.slice D2 x2.length d2,.slice D3 x3.length d3]) (by simp [results,Tryz.results128,go_sem,gr3_0,gr3_1,gr3_2,gr3_3]) rfl ?_
 exact ⟨[.bool x0,.slice D1 x1.length d1,.slice D2 x2.length d2,.slice D3 x3.length d3],_,rfl,asmPage z_1 z_2 z_3,by simpa using nn3,fu⟩
theorem asmSlot {w:World} {lo hi:Nat} {x0:Int} {x1:Bool} {x2:List ByteArray} {D2:Option Addr} {d2:Nat} {x3:List ByteArray} {D3:Option Addr} {d3:Nat} {x4:List Int} {D4:Option Addr} {d4:Nat} {bl1:List Nat} (h0:I64 x0) (h1:shPage.own w lo hi [.bool x1,.slice D2 x2.length d2,.slice D3 x3.length d3,.slice D4 x4.length d4] (x1,x2,x3,x4) bl1):shSlot.own w lo hi [.int .i64 x0,.bool x1,.slice D2 x2.length d2,.slice D3 x3.length d3,.slice D4 x4.length d4] (x0,(x1,x2,x3,x4)) (bl1):=by
 have h:shSlot.own w lo hi [.int .i64 x0,.bool x1,.slice D2 x2.length d2,.slice D3 x3.length d3,.slice D4 x4.length d4] (x0,(x1,x2,x3,x4)) _:=(mkO_P (a:=shI) (x:=(x0,(x1,x2,x3,x4))) good_I ⟨⟨rfl,h0⟩,rfl⟩ h1)
 simpa using h
theorem c_toSlot (v:Value) (x:TSlot) (w:World) (h:AV shSlot w v x) (hn:shSlot.sz x≤1048576) :
   Calls Tryz.prog 87 #[v] w (ToV shSlot x w):=by
 obtain ⟨cs,rfl,h⟩:=h
 obtain ⟨x0,⟨x1,x2,x3,x4⟩⟩:=x
 have ho:=openSlot h
 try dsimp only at ho
 obtain ⟨A2,c2,A3,c3,A4,c4,rfl,b0,b2,b3,b4⟩:=ho
 have hs:shSlot.sz (x0,(x1,x2,x3,x4))=0+(shPage.sz (x1,x2,x3,x4)):=rfl
 have hl1:shPage.sz (x1,x2,x3,x4)≤1048576:=by omega
 clear hs hn
 go_enter Tryz.func87,Tryz.ntmps87
 go_wp2_with fail
 have vv0:Up w (((w.alloc (.cells #[.int .i64 x0,.bool x1,.slice A2 x2.length c2,.slice A3 x3.length c3,.slice A4 x4.length c4] 109)).alloc (.cells #[.int .i64 0,.bool false,.slice none 0 0,.slice none 0 0,.slice none 0 0] 114)).alloc (.cells #[.int .i64 x0,.bool false,.slice none 0 0,.slice none 0 0,.slice none 0 0] 114)):=(((Up.refl _).alloc _).alloc _).alloc _
 have ja0:Bk (((w.alloc (.cells #[.int .i64 x0,.bool x1,.slice A2 x2.length c2,.slice A3 x3.length c3,.slice A4 x4.length c4] 109)).alloc (.cells #[.int .i64 0,.bool false,.slice none 0 0,.slice none 0 0,.slice none 0 0] 114)).alloc (.cells #[.int .i64 x0,.bool false,.slice none 0 0,.slice none 0 0,.slice none 0 0] 114)) w.heap.size 109 #[.int .i64 x0,.bool x1,.slice A2 x2.length c2,.slice A3 x3.length c3,.slice A4 x4.length c4]:=((Bk.new _ _ _).alloc _).alloc _
 have jr0:Bk (((w.alloc (.cells #[.int .i64 x0,.bool x1,.slice A2 x2.length c2,.slice A3 x3.length c3,.slice A4 x4.length c4] 109)).alloc (.cells #[.int .i64 0,.bool false,.slice none 0 0,.slice none 0 0,.slice none 0 0] 114)).alloc (.cells #[.int .i64 x0,.bool false,.slice none 0 0,.slice none 0 0,.slice none 0 0] 114)) (w.heap.size+1) 114 #[.int .i64 0,.bool false,.slice none 0 0,.slice none 0 0,.slice none 0 0]:=by simpa using (Bk.new (w.alloc (.cells #[.int .i64 x0,.bool x1,.slice A2 x2.length c2,.slice A3 x3.length c3,.slice A4 x4.length c4] 109)) 114 #[.int .i64 0,.bool false,.slice none 0 0,.slice none 0 0,.slice none 0 0]).alloc (.cells #[.int .i64 x0,.bool false,.slice none 0 0,.slice none 0 0,.slice none 0 0] 114)
 have jo0:Bk (((w.alloc (.cells #[.int .i64 x0,.bool x1,.slice A2 x2.length c2,.slice A3 x3.length c3,.slice A4 x4.length c4] 109)).alloc (.cells #[.int .i64 0,.bool false,.slice none 0 0,.slice none 0 0,.slice none 0 0] 114)).alloc (.cells #[.int .i64 x0,.bool false,.slice none 0 0,.slice none 0 0,.slice none 0 0] 114)) (w.heap.size+1+1) 114 #[.int .i64 x0,.bool false,.slice none 0 0,.slice none 0 0,.slice none 0 0]:=by simpa using Bk.new ((w.alloc (.cells #[.int .i64 x0,.bool x1,.slice A2 x2.length c2,.slice A3 x3.length c3,.slice A4 x4.length c4] 109)).alloc (.cells #[.int .i64 0,.bool false,.slice none 0 0,.slice none 0 0,.slice none 0 0] 114)) 114 #[.int .i64 x0,.bool false,.slice none 0 0,.slice none 0 0,.slice none 0 0]
 have sz0:w.heap.size+1+1+1=(((w.alloc (.cells #[.int .i64 x0,.bool x1,.slice A2 x2.length c2,.slice A3 x3.length c3,.slice A4 x4.length c4] 109)).alloc (.cells #[.int .i64 0,.bool false,.slice none 0 0,.slice none 0 0,.slice none 0 0] 114)).alloc (.cells #[.int .i64 x0,.bool false,.slice none 0 0,.slice none 0 0,.slice none 0 0] 114)).heap.size:=by simp
 refine (c_toPage _ (x1,x2,x3,x4) _ ⟨_,rfl,mkPage (x:=(x1,x2,x3,x4)) (b2.up good_S vv0) (b3.up good_S vv0) (b4.up good_I vv0)⟩ hl1).mono ?_
 rintro e w1 ⟨cs1,bl1,rfl,o1,nd1,u1⟩
 obtain ⟨D2,d2,bm2,D3,d3,bm3,D4,d4,bm4,rfl,hbl1,_,_,_⟩:=openOPage o1
 have uu1:=vv0.trans u1
 have ka1:=ja0.up u1
 have kr1:=jr0.up u1
 have ko1:=jo0.up u1
 have zz1:=u1.size
 rw [← sz0] at zz1
 have s1_1:shPage.own w1 (w.heap.size+1+1+1) w1.heap.size [.bool x1,.slice D2 x2.length d2,.slice D3 x3.length d3,.slice D4 x4.length d4] (x1,x2,x3,x4) bl1:=by rw [sz0];exact o1
 have nn1:(bl1).Nodup:=nd1
 have mm1:∀b∈bl1,b<w1.heap.size:=fun b hb=>(good_Page.own_in s1_1 b hb).2
 clear ja0 jr0 jo0 u1 o1
 have ga1_0:w1.cell? ⟨w.heap.size,0,none⟩=some (.int .i64 x0):=ka1.cell 0
 have gr1_0:w1.cell? ⟨w.heap.size+1,0,none⟩=some (.int .i64 0):=kr1.cell 0
 have go1_0:w1.cell? ⟨w.heap.size+1+1,0,none⟩=some (.int .i64 x0):=ko1.cell 0
 have fr1_0:=kr1.frozen 0
 have fo1_0:=ko1.frozen 0
 have ga1_1:w1.cell? ⟨w.heap.size,1,none⟩=some (.bool x1):=ka1.cell 1
 have gr1_1:w1.cell? ⟨w.heap.size+1,1,none⟩=some (.bool false):=kr1.cell 1
 have go1_1:w1.cell? ⟨w.heap.size+1+1,1,none⟩=some (.bool false):=ko1.cell 1
 have fr1_1:=kr1.frozen 1
 have fo1_1:=ko1.frozen 1
 have ga1_2:w1.cell? ⟨w.heap.size,2,none⟩=some (.slice A2 x2.length c2):=ka1.cell 2
 have gr1_2:w1.cell? ⟨w.heap.size+1,2,none⟩=some (.slice none 0 0):=kr1.cell 2
 have go1_2:w1.cell? ⟨w.heap.size+1+1,2,none⟩=some (.slice none 0 0):=ko1.cell 2
 have fr1_2:=kr1.frozen 2
 have fo1_2:=ko1.frozen 2
 have ga1_3:w1.cell? ⟨w.heap.size,3,none⟩=some (.slice A3 x3.length c3):=ka1.cell 3
 have gr1_3:w1.cell? ⟨w.heap.size+1,3,none⟩=some (.slice none 0 0):=kr1.cell 3
 have go1_3:w1.cell? ⟨w.heap.size+1+1,3,none⟩=some (.slice none 0 0):=ko1.cell 3
 have fr1_3:=kr1.frozen 3
 have fo1_3:=ko1.frozen 3
 have ga1_4:w1.cell? ⟨w.heap.size,4,none⟩=some (.slice A4 x4.length c4):=ka1.cell 4
 have gr1_4:w1.cell? ⟨w.heap.size+1,4,none⟩=some (.slice none 0 0):=kr1.cell 4
 have go1_4:w1.cell? ⟨w.heap.size+1+1,4,none⟩=some (.slice none 0 0):=ko1.cell 4
 have fr1_4:=kr1.frozen 4
 have fo1_4:=ko1.frozen 4
 go_wp2_with fail
 have z_1:=good_Page.own_wide (lo':=w.heap.size) (own_set good_Page (own_set good_Page s1_1 (w.heap.size+1+1) 1 [.bool x1,.slice D2 x2.length d2,.slice D3 x3.length d3,.slice D4 x4.length d4] (by omega)) (w.heap.size+1) 0 [.int .i64 x0,.bool x1,.slice D2 x2.length d2,.slice D3 x3.length d3,.slice D4 x4.length d4] (by omega)) (by omega) (Nat.le_refl _)
 have fu:=((uu1.sets (g:=(w.heap.size+1+1)) (by omega) 1 [.bool x1,.slice D2 x2.length d2,.slice D3 x3.length d3,.slice D4 x4.length d4]).sets (g:=(w.heap.size+1)) (by omega) 0 [.int .i64 x0,.bool x1,.slice D2 x2.length d2,.slice D3 x3.length d3,.slice D4 x4.length d4])
 refine bodyPost_ret (v:=.agg #[.int .i64 x0,.bool x1,.slice D2 x2.length d2,.slice D3 x3.length d3,.slice D4 x4.length d4]) (by simp [results,Tryz.results87,go_sem,gr1_0,gr1_1,gr1_2,gr1_3,gr1_4]) rfl ?_
 exact ⟨[.int .i64 x0,.bool x1,.slice D2 x2.length d2,.slice D3 x3.length d3,.slice D4 x4.length d4],_,rfl,asmSlot b0 z_1,by simpa using nn1,fu⟩
theorem info_Slot:(Tryz.prog.info? 114).map (fun i=>(i.zero,i.size,i.bytes))=some (some (.agg #[.int .i64 0,.bool false,.slice none 0 0,.slice none 0 0,.slice none 0 0]),5,88):=by kernel_rfl
theorem c_toSlotS (xs:List TSlot) (A:Option Addr) (c:Nat) (w:World) (h:SRW shSlot w A c xs) (hn:(shL shSlot).sz xs≤1048576) :
   Calls Tryz.prog 43 #[.slice A xs.length c] w (ToL shSlot xs w):=by
 have hl:xs.length≤1048576:=Nat.le_trans (Nat.le_add_right _ _) hn
 obtain ⟨i0,hi0,hz0,hz1,hz2⟩:=info_parts info_Slot
 have hmk:=fun W=>run_make_rows (P:=Tryz.prog) 40 114 i0 _ Tryz.underlying40 hi0 hz0 xs.length (by rw [hz2];omega) (by omega) W
 rw [hz1] at hmk
 clear hi0 hz0 hz1 hz2
 obtain ⟨C0,hC0⟩:∃C0,C0=madeCells (Value.cells (.agg #[.int .i64 0,.bool false,.slice none 0 0,.slice none 0 0,.slice none 0 0])) (xs.length*5):=⟨_,rfl⟩
 rw [← hC0] at hmk
 have HB:Bld shSlot w.heap.size (w.alloc (.cells C0 114)) w.heap.size 114 C0 xs.length xs 0 :=
   Bld.start (Nat.le_refl _) (Bk.new _ _ _) (by rw [hC0,size_madeCells];rfl)
 clear hC0
 go_enter Tryz.func43,Tryz.ntmps43
 go_wp2
 go_loopw [4] (fun i wr=>∃(k:Nat) (C:Array Value),k≤xs.length∧i=.int .i64 k∧Bld shSlot w.heap.size wr w.heap.size 114 C xs.length xs k∧Up w wr) (fun i _=>xs.length - (intOf i).toNat)
 case atStart=>exact ⟨0,C0,Nat.zero_le _,rfl,HB,(Up.refl _).alloc _⟩
 case round =>
   obtain ⟨k,C,hk,rfl,hB,hu⟩:=hrel
   by_cases hlt:k<xs.length
   · obtain ⟨g,off,A2,c2,A3,c3,A4,c4,rfl,_,_,hc0,hc1,hc2,hc3,hc4,b0,b2,b3,b4,_⟩:=atSlot (h.up good_Slot hu) hlt
     have hx:=sz_le shSlot xs hlt hn
     go_wp2_with fail
     refine (c_toSlot _ xs[k] _ ⟨_,rfl,mkSlot (x:=xs[k]) b0 b2 b3 b4⟩ hx).mono ?_
     rintro e w1 ⟨cs,bl,rfl,ho,hnd,u1⟩
     obtain ⟨D2,d2,_,D3,d3,_,D4,d4,_,rfl,rfl,_,_,_,_⟩:=openOSlot ho
     have hbk:=hB.1.up u1
     have hC:C.size=xs.length*5:=hB.2.1
     obtain ⟨o0,hm0⟩:∃o,w1.cell? ⟨w.heap.size,k*5,none⟩=some o:=by rw [hbk.cell];exact ⟨_,Array.getElem?_eq_getElem (by omega)⟩
     have hf0:=hbk.frozen (k*5)
     obtain ⟨o1,hm1⟩:∃o,w1.cell? ⟨w.heap.size,k*5+1,none⟩=some o:=by rw [hbk.cell];exact ⟨_,Array.getElem?_eq_getElem (by omega)⟩
     have hf1:=hbk.frozen (k*5+1)
     obtain ⟨o2,hm2⟩:∃o,w1.cell? ⟨w.heap.size,k*5+2,none⟩=some o:=by rw [hbk.cell];exact ⟨_,Array.getElem?_eq_getElem (by omega)⟩
     have hf2:=hbk.frozen (k*5+2)
     obtain ⟨o3,hm3⟩:∃o,w1.cell? ⟨w.heap.size,k*5+3,none⟩=some o:=by rw [hbk.cell];exact ⟨_,Array.getElem?_eq_getElem (by omega)⟩
     have hf3:=hbk.frozen (k*5+3)
     obtain ⟨o4,hm4⟩:∃o,w1.cell? ⟨w.heap.size,k*5+4,none⟩=some o:=by rw [hbk.cell];exact ⟨_,Array.getElem?_eq_getElem (by omega)⟩
     have hf4:=hbk.frozen (k*5+4)
     go_wp2_with fail
     go_roundw
     case rel=>exact ⟨k+1,_,by omega,by go_num,hB.push good_Slot u1 ho hnd (List.getElem?_eq_getElem hlt) hlt (But.sets [_,_,_,_,_] _ _) (Bk.sets [_,_,_,_,_] hbk _),(hu.trans u1).sets (Nat.le_refl _) _ [_,_,_,_,_]⟩
     case measure=>simp [intOf];omega
   · obtain ⟨bl,hso,hnd⟩:=hB.done (c:=xs.length) (by omega) (Nat.le_refl _) (by unfold maxLen;omega) (Nat.le_refl _)
     go_wp2
     go_ret
     exact ⟨_,_,bl,rfl,hso,hnd,hu⟩
theorem asmBtree {w:World} {lo hi:Nat} {x0:Int} {x1:List TSlot} {D1:Option Addr} {d1:Nat} {bl1:List Nat} (h0:I64 x0) (h1:SO shSlot w lo hi D1 d1 x1 bl1):shBtree.own w lo hi [.int .i64 x0,.slice D1 x1.length d1] (x0,x1) (bl1):=by
 have h:shBtree.own w lo hi [.int .i64 x0,.slice D1 x1.length d1] (x0,x1) _:=(mkO_P (a:=shI) (x:=(x0,x1)) good_I ⟨⟨rfl,h0⟩,rfl⟩ ⟨D1,d1,rfl,h1⟩)
 simpa using h
theorem c_toBtree (v:Value) (x:TBtree) (w:World) (h:AV shBtree w v x) (hn:shBtree.sz x≤1048576) :
   Calls Tryz.prog 16 #[v] w (ToV shBtree x w):=by
 obtain ⟨cs,rfl,h⟩:=h
 obtain ⟨x0,x1⟩:=x
 have ho:=openBtree h
 try dsimp only at ho
 obtain ⟨A1,c1,rfl,b0,b1⟩:=ho
 have hs:shBtree.sz (x0,x1)=0+((shL shSlot).sz x1):=rfl
 have hl1:(shL shSlot).sz x1≤1048576:=by omega
 clear hs hn
 go_enter Tryz.func16,Tryz.ntmps16
 go_wp2_with fail
 have vv0:Up w (((w.alloc (.cells #[.int .i64 x0,.slice A1 x1.length c1] 24)).alloc (.cells #[.int .i64 0,.slice none 0 0] 42)).alloc (.cells #[.int .i64 x0,.slice none 0 0] 42)):=(((Up.refl _).alloc _).alloc _).alloc _
 have ja0:Bk (((w.alloc (.cells #[.int .i64 x0,.slice A1 x1.length c1] 24)).alloc (.cells #[.int .i64 0,.slice none 0 0] 42)).alloc (.cells #[.int .i64 x0,.slice none 0 0] 42)) w.heap.size 24 #[.int .i64 x0,.slice A1 x1.length c1]:=((Bk.new _ _ _).alloc _).alloc _
 have jr0:Bk (((w.alloc (.cells #[.int .i64 x0,.slice A1 x1.length c1] 24)).alloc (.cells #[.int .i64 0,.slice none 0 0] 42)).alloc (.cells #[.int .i64 x0,.slice none 0 0] 42)) (w.heap.size+1) 42 #[.int .i64 0,.slice none 0 0]:=by simpa using (Bk.new (w.alloc (.cells #[.int .i64 x0,.slice A1 x1.length c1] 24)) 42 #[.int .i64 0,.slice none 0 0]).alloc (.cells #[.int .i64 x0,.slice none 0 0] 42)
 have jo0:Bk (((w.alloc (.cells #[.int .i64 x0,.slice A1 x1.length c1] 24)).alloc (.cells #[.int .i64 0,.slice none 0 0] 42)).alloc (.cells #[.int .i64 x0,.slice none 0 0] 42)) (w.heap.size+1+1) 42 #[.int .i64 x0,.slice none 0 0]:=by simpa using Bk.new ((w.alloc (.cells #[.int .i64 x0,.slice A1 x1.length c1] 24)).alloc (.cells #[.int .i64 0,.slice none 0 0] 42)) 42 #[.int .i64 x0,.slice none 0 0]
 have sz0:w.heap.size+1+1+1=(((w.alloc (.cells #[.int .i64 x0,.slice A1 x1.length c1] 24)).alloc (.cells #[.int .i64 0,.slice none 0 0] 42)).alloc (.cells #[.int .i64 x0,.slice none 0 0] 42)).heap.size:=by simp
 refine (c_toSlotS _ _ _ _ (b1.up good_Slot vv0) hl1).mono ?_
 rintro e w1 ⟨D1,d1,bl1,rfl,o1,nd1,u1⟩
 have uu1:=vv0.trans u1
 have ka1:=ja0.up u1
 have kr1:=jr0.up u1
 have ko1:=jo0.up u1
 have zz1:=u1.size
 rw [← sz0] at zz1
 have s1_1:SO shSlot w1 (w.heap.size+1+1+1) w1.heap.size D1 d1 x1 bl1:=by rw [sz0];exact o1
 have nn1:(bl1).Nodup:=nd1
 have mm1:∀b∈bl1,b<w1.heap.size:=fun b hb=>(s1_1.in_ good_Slot b hb).2
 clear ja0 jr0 jo0 u1 o1
 have ga1_0:w1.cell? ⟨w.heap.size,0,none⟩=some (.int .i64 x0):=ka1.cell 0
 have gr1_0:w1.cell? ⟨w.heap.size+1,0,none⟩=some (.int .i64 0):=kr1.cell 0
 have go1_0:w1.cell? ⟨w.heap.size+1+1,0,none⟩=some (.int .i64 x0):=ko1.cell 0
 have fr1_0:=kr1.frozen 0
 have fo1_0:=ko1.frozen 0
 have ga1_1:w1.cell? ⟨w.heap.size,1,none⟩=some (.slice A1 x1.length c1):=ka1.cell 1
 have gr1_1:w1.cell? ⟨w.heap.size+1,1,none⟩=some (.slice none 0 0):=kr1.cell 1
 have go1_1:w1.cell? ⟨w.heap.size+1+1,1,none⟩=some (.slice none 0 0):=ko1.cell 1
 have fr1_1:=kr1.frozen 1
 have fo1_1:=ko1.frozen 1
 go_wp2_with fail
 have z_1:=((s1_1.set good_Slot (w.heap.size+1+1) 1 [.slice D1 x1.length d1] (by omega)).set good_Slot (w.heap.size+1) 0 [.int .i64 x0,.slice D1 x1.length d1] (by omega)).wide good_Slot (lo':=w.heap.size) (by omega) (Nat.le_refl _)
 have fu:=((uu1.sets (g:=(w.heap.size+1+1)) (by omega) 1 [.slice D1 x1.length d1]).sets (g:=(w.heap.size+1)) (by omega) 0 [.int .i64 x0,.slice D1 x1.length d1])
 refine bodyPost_ret (v:=.agg #[.int .i64 x0,.slice D1 x1.length d1]) (by simp [results,Tryz.results16,go_sem,gr1_0,gr1_1]) rfl ?_
 exact ⟨[.int .i64 x0,.slice D1 x1.length d1],_,rfl,asmBtree b0 z_1,by simpa using nn1,fu⟩
theorem asmJournal {w:World} {lo hi:Nat} {x0:Int} {x1:List ByteArray} {D1:Option Addr} {d1:Nat} {x2:List TPut} {D2:Option Addr} {d2:Nat} {x3:Int} {x4:Int} {x5:Int} {x6:Int} {bl0:List Nat} (h0:shDisk.own w lo hi [.int .i64 x0,.slice D1 x1.length d1,.slice D2 x2.length d2] (x0,x1,x2) bl0) (h3:I64 x3) (h4:I64 x4) (h5:I64 x5) (h6:I64 x6):shJournal.own w lo hi [.int .i64 x0,.slice D1 x1.length d1,.slice D2 x2.length d2,.int .i64 x3,.int .i64 x4,.int .i64 x5,.int .i64 x6] ((x0,x1,x2),x3,x4,x5,x6) (bl0):=by
 have h:shJournal.own w lo hi [.int .i64 x0,.slice D1 x1.length d1,.slice D2 x2.length d2,.int .i64 x3,.int .i64 x4,.int .i64 x5,.int .i64 x6] ((x0,x1,x2),x3,x4,x5,x6) _:=(mkO_P (a:=shDisk) (x:=((x0,x1,x2),x3,x4,x5,x6)) good_Disk h0 (mkO_P (a:=shI) (x:=(x3,x4,x5,x6)) good_I ⟨⟨rfl,h3⟩,rfl⟩ (mkO_P (a:=shI) (x:=(x4,x5,x6)) good_I ⟨⟨rfl,h4⟩,rfl⟩ (mkO_P (a:=shI) (x:=(x5,x6)) good_I ⟨⟨rfl,h5⟩,rfl⟩ ⟨⟨rfl,h6⟩,rfl⟩))))
 simpa using h
theorem c_toJournal (v:Value) (x:TJournal) (w:World) (h:AV shJournal w v x) (hn:shJournal.sz x≤1048576) :
   Calls Tryz.prog 18 #[v] w (ToV shJournal x w):=by
 obtain ⟨cs,rfl,h⟩:=h
 obtain ⟨⟨x0,x1,x2⟩,x3,x4,x5,x6⟩:=x
 have ho:=openJournal h
 try dsimp only at ho
 obtain ⟨A1,c1,A2,c2,rfl,b0,b1,b2,b3,b4,b5,b6⟩:=ho
 have hs:shJournal.sz ((x0,x1,x2),x3,x4,x5,x6)=shDisk.sz (x0,x1,x2)+(0+(0+(0+(0)))):=rfl
 have hl0:shDisk.sz (x0,x1,x2)≤1048576:=by omega
 clear hs hn
 go_enter Tryz.func18,Tryz.ntmps18
 go_wp2_with fail
 have vv0:Up w (((w.alloc (.cells #[.int .i64 x0,.slice A1 x1.length c1,.slice A2 x2.length c2,.int .i64 x3,.int .i64 x4,.int .i64 x5,.int .i64 x6] 36)).alloc (.cells #[.int .i64 0,.slice none 0 0,.slice none 0 0,.int .i64 0,.int .i64 0,.int .i64 0,.int .i64 0] 52)).alloc (.cells #[.int .i64 0,.slice none 0 0,.slice none 0 0,.int .i64 0,.int .i64 0,.int .i64 0,.int .i64 0] 52)):=(((Up.refl _).alloc _).alloc _).alloc _
 have ja0:Bk (((w.alloc (.cells #[.int .i64 x0,.slice A1 x1.length c1,.slice A2 x2.length c2,.int .i64 x3,.int .i64 x4,.int .i64 x5,.int .i64 x6] 36)).alloc (.cells #[.int .i64 0,.slice none 0 0,.slice none 0 0,.int .i64 0,.int .i64 0,.int .i64 0,.int .i64 0] 52)).alloc (.cells #[.int .i64 0,.slice none 0 0,.slice none 0 0,.int .i64 0,.int .i64 0,.int .i64 0,.int .i64 0] 52)) w.heap.size 36 #[.int .i64 x0,.slice A1 x1.length c1,.slice A2 x2.length c2,.int .i64 x3,.int .i64 x4,.int .i64 x5,.int .i64 x6]:=((Bk.new _ _ _).alloc _).alloc _
 have jr0:Bk (((w.alloc (.cells #[.int .i64 x0,.slice A1 x1.length c1,.slice A2 x2.length c2,.int .i64 x3,.int .i64 x4,.int .i64 x5,.int .i64 x6] 36)).alloc (.cells #[.int .i64 0,.slice none 0 0,.slice none 0 0,.int .i64 0,.int .i64 0,.int .i64 0,.int .i64 0] 52)).alloc (.cells #[.int .i64 0,.slice none 0 0,.slice none 0 0,.int .i64 0,.int .i64 0,.int .i64 0,.int .i64 0] 52)) (w.heap.size+1) 52 #[.int .i64 0,.slice none 0 0,.slice none 0 0,.int .i64 0,.int .i64 0,.int .i64 0,.int .i64 0]:=by simpa using (Bk.new (w.alloc (.cells #[.int .i64 x0,.slice A1 x1.length c1,.slice A2 x2.length c2,.int .i64 x3,.int .i64 x4,.int .i64 x5,.int .i64 x6] 36)) 52 #[.int .i64 0,.slice none 0 0,.slice none 0 0,.int .i64 0,.int .i64 0,.int .i64 0,.int .i64 0]).alloc (.cells #[.int .i64 0,.slice none 0 0,.slice none 0 0,.int .i64 0,.int .i64 0,.int .i64 0,.int .i64 0] 52)
 have jo0:Bk (((w.alloc (.cells #[.int .i64 x0,.slice A1 x1.length c1,.slice A2 x2.length c2,.int .i64 x3,.int .i64 x4,.int .i64 x5,.int .i64 x6] 36)).alloc (.cells #[.int .i64 0,.slice none 0 0,.slice none 0 0,.int .i64 0,.int .i64 0,.int .i64 0,.int .i64 0] 52)).alloc (.cells #[.int .i64 0,.slice none 0 0,.slice none 0 0,.int .i64 0,.int .i64 0,.int .i64 0,.int .i64 0] 52)) (w.heap.size+1+1) 52 #[.int .i64 0,.slice none 0 0,.slice none 0 0,.int .i64 0,.int .i64 0,.int .i64 0,.int .i64 0]:=by simpa using Bk.new ((w.alloc (.cells #[.int .i64 x0,.slice A1 x1.length c1,.slice A2 x2.length c2,.int .i64 x3,.int .i64 x4,.int .i64 x5,.int .i64 x6] 36)).alloc (.cells #[.int .i64 0,.slice none 0 0,.slice none 0 0,.int .i64 0,.int .i64 0,.int .i64 0,.int .i64 0] 52)) 52 #[.int .i64 0,.slice none 0 0,.slice none 0 0,.int .i64 0,.int .i64 0,.int .i64 0,.int .i64 0]
 have sz0:w.heap.size+1+1+1=(((w.alloc (.cells #[.int .i64 x0,.slice A1 x1.length c1,.slice A2 x2.length c2,.int .i64 x3,.int .i64 x4,.int .i64 x5,.int .i64 x6] 36)).alloc (.cells #[.int .i64 0,.slice none 0 0,.slice none 0 0,.int .i64 0,.int .i64 0,.int .i64 0,.int .i64 0] 52)).alloc (.cells #[.int .i64 0,.slice none 0 0,.slice none 0 0,.int .i64 0,.int .i64 0,.int .i64 0,.int .i64 0] 52)).heap.size:=by simp
 refine (c_toDisk _ (x0,x1,x2) _ ⟨_,rfl,mkDisk (x:=(x0,x1,x2)) b0 (b1.up good_S vv0) (b2.up good_Put vv0)⟩ hl0).mono ?_
 rintro e w1 ⟨cs0,bl0,rfl,o0,nd0,u1⟩
 obtain ⟨D1,d1,bm1,D2,d2,bm2,rfl,hbl0,_,_,_⟩:=openODisk o0
 have uu1:=vv0.trans u1
 have ka1:=ja0.up u1
 have kr1:=jr0.up u1
 have ko1:=jo0.up u1
 have zz1:=u1.size
 rw [← sz0] at zz1
 have s1_0:shDisk.own w1 (w.heap.size+1+1+1) w1.heap.size [.int .i64 x0,.slice D1 x1.length d1,.slice D2 x2.length d2] (x0,x1,x2) bl0:=by rw [sz0];exact o0
 have nn1:(bl0).Nodup:=nd0
 have mm1:∀b∈bl0,b<w1.heap.size:=fun b hb=>(good_Disk.own_in s1_0 b hb).2
 clear ja0 jr0 jo0 u1 o0
 have ga1_0:w1.cell? ⟨w.heap.size,0,none⟩=some (.int .i64 x0):=ka1.cell 0
 have gr1_0:w1.cell? ⟨w.heap.size+1,0,none⟩=some (.int .i64 0):=kr1.cell 0
 have go1_0:w1.cell? ⟨w.heap.size+1+1,0,none⟩=some (.int .i64 0):=ko1.cell 0
 have fr1_0:=kr1.frozen 0
 have fo1_0:=ko1.frozen 0
 have ga1_1:w1.cell? ⟨w.heap.size,1,none⟩=some (.slice A1 x1.length c1):=ka1.cell 1
 have gr1_1:w1.cell? ⟨w.heap.size+1,1,none⟩=some (.slice none 0 0):=kr1.cell 1
 have go1_1:w1.cell? ⟨w.heap.size+1+1,1,none⟩=some (.slice none 0 0):=ko1.cell 1
 have fr1_1:=kr1.frozen 1
 have fo1_1:=ko1.frozen 1
 have ga1_2:w1.cell? ⟨w.heap.size,2,none⟩=some (.slice A2 x2.length c2):=ka1.cell 2
 have gr1_2:w1.cell? ⟨w.heap.size+1,2,none⟩=some (.slice none 0 0):=kr1.cell 2
 have go1_2:w1.cell? ⟨w.heap.size+1+1,2,none⟩=some (.slice none 0 0):=ko1.cell 2
 have fr1_2:=kr1.frozen 2
 have fo1_2:=ko1.frozen 2
 have ga1_3:w1.cell? ⟨w.heap.size,3,none⟩=some (.int .i64 x3):=ka1.cell 3
 have gr1_3:w1.cell? ⟨w.heap.size+1,3,none⟩=some (.int .i64 0):=kr1.cell 3
 have go1_3:w1.cell? ⟨w.heap.size+1+1,3,none⟩=some (.int .i64 0):=ko1.cell 3
 have fr1_3:=kr1.frozen 3
 have fo1_3:=ko1.frozen 3
 have ga1_4:w1.cell? ⟨w.heap.size,4,none⟩=some (.int .i64 x4):=ka1.cell 4
 have gr1_4:w1.cell? ⟨w.heap.size+1,4,none⟩=some (.int .i64 0):=kr1.cell 4
 have go1_4:w1.cell? ⟨w.heap.size+1+1,4,none⟩=some (.int .i64 0):=ko1.cell 4
 have fr1_4:=kr1.frozen 4
 have fo1_4:=ko1.frozen 4
 have ga1_5:w1.cell? ⟨w.heap.size,5,none⟩=some (.int .i64 x5):=ka1.cell 5
 have gr1_5:w1.cell? ⟨w.heap.size+1,5,none⟩=some (.int .i64 0):=kr1.cell 5
 have go1_5:w1.cell? ⟨w.heap.size+1+1,5,none⟩=some (.int .i64 0):=ko1.cell 5
 have fr1_5:=kr1.frozen 5
 have fo1_5:=ko1.frozen 5
 have ga1_6:w1.cell? ⟨w.heap.size,6,none⟩=some (.int .i64 x6):=ka1.cell 6
 have gr1_6:w1.cell? ⟨w.heap.size+1,6,none⟩=some (.int .i64 0):=kr1.cell 6
 have go1_6:w1.cell? ⟨w.heap.size+1+1,6,none⟩=some (.int .i64 0):=ko1.cell 6
 have fr1_6:=kr1.frozen 6
 have fo1_6:=ko1.frozen 6
 go_wp2_with fail
 have z_0:=good_Disk.own_wide (lo':=w.heap.size) (own_set good_Disk (own_set good_Disk (own_set good_Disk (own_set good_Disk (own_set good_Disk (own_set good_Disk s1_0 (w.heap.size+1+1) 0 [.int .i64 x0,.slice D1 x1.length d1,.slice D2 x2.length d2] (by omega)) (w.heap.size+1+1) 3 [.int .i64 x3] (by omega)) (w.heap.size+1+1) 4 [.int .i64 x4] (by omega)) (w.heap.size+1+1) 5 [.int .i64 x5] (by omega)) (w.heap.size+1+1) 6 [.int .i64 x6] (by omega)) (w.heap.size+1) 0 [.int .i64 x0,.slice D1 x1.length d1,.slice D2 x2.length d2,.int .i64 x3,.int .i64 x4,.int .i64 x5,.int .i64 x6] (by omega)) (by omega) (Nat.le_refl _)
 have fu:=((((((uu1.sets (g:=(w.heap.size+1+1)) (by omega) 0 [.int .i64 x0,.slice D1 x1.length d1,.slice D2 x2.length d2]).sets (g:=(w.heap.size+1+1)) (by omega) 3 [.int .i64 x3]).sets (g:=(w.heap.size+1+1)) (by omega) 4 [.int .i64 x4]).sets (g:=(w.heap.size+1+1)) (by omega) 5 [.int .i64 x5]).sets (g:=(w.heap.size+1+1)) (by omega) 6 [.int .i64 x6]).sets (g:=(w.heap.size+1)) (by omega) 0 [.int .i64 x0,.slice D1 x1.length d1,.slice D2 x2.length d2,.int .i64 x3,.int .i64 x4,.int .i64 x5,.int .i64 x6])
 refine bodyPost_ret (v:=.agg #[.int .i64 x0,.slice D1 x1.length d1,.slice D2 x2.length d2,.int .i64 x3,.int .i64 x4,.int .i64 x5,.int .i64 x6]) (by simp [results,Tryz.results18,go_sem,gr1_0,gr1_1,gr1_2,gr1_3,gr1_4,gr1_5,gr1_6]) rfl ?_
 exact ⟨[.int .i64 x0,.slice D1 x1.length d1,.slice D2 x2.length d2,.int .i64 x3,.int .i64 x4,.int .i64 x5,.int .i64 x6],_,rfl,asmJournal z_0 b3 b4 b5 b6,by simpa using nn1,fu⟩
theorem asmCache {w:World} {lo hi:Nat} {x0:Int} {x1:List ByteArray} {D1:Option Addr} {d1:Nat} {x2:List TPut} {D2:Option Addr} {d2:Nat} {x3:Int} {x4:Int} {x5:Int} {x6:List TSeat} {D6:Option Addr} {d6:Nat} {x7:Int} {x8:Int} {x9:Int} {x10:List TSeat} {D10:Option Addr} {d10:Nat} {x11:List TSeat} {D11:Option Addr} {d11:Nat} {x12:List Int} {D12:Option Addr} {d12:Nat} {bl0:List Nat} {bl3:List Nat} {bl7:List Nat} {bl11:List Nat} {bl12:List Nat} (h0:shDisk.own w lo hi [.int .i64 x0,.slice D1 x1.length d1,.slice D2 x2.length d2] (x0,x1,x2) bl0) (h3:shTop.own w lo hi [.int .i64 x3,.int .i64 x4,.int .i64 x5,.slice D6 x6.length d6] (x3,x4,x5,x6) bl3) (h7:shTop.own w lo hi [.int .i64 x7,.int .i64 x8,.int .i64 x9,.slice D10 x10.length d10] (x7,x8,x9,x10) bl7) (h11:SO shSeat w lo hi D11 d11 x11 bl11) (h12:SO shI w lo hi D12 d12 x12 bl12):shCache.own w lo hi [.int .i64 x0,.slice D1 x1.length d1,.slice D2 x2.length d2,.int .i64 x3,.int .i64 x4,.int .i64 x5,.slice D6 x6.length d6,.int .i64 x7,.int .i64 x8,.int .i64 x9,.slice D10 x10.length d10,.slice D11 x11.length d11,.slice D12 x12.length d12] ((x0,x1,x2),(x3,x4,x5,x6),(x7,x8,x9,x10),x11,x12) (bl0++bl3++bl7++bl11++bl12):=by
 have h:shCache.own w lo hi [.int .i64 x0,.slice D1 x1.length d1,.slice D2 x2.length d2,.int .i64 x3,.int .i64 x4,.int .i64 x5,.slice D6 x6.length d6,.int .i64 x7,.int .i64 x8,.int .i64 x9,.slice D10 x10.length d10,.slice D11 x11.length d11,.slice D12 x12.length d12] ((x0,x1,x2),(x3,x4,x5,x6),(x7,x8,x9,x10),x11,x12) _:=(mkO_P (a:=shDisk) (x:=((x0,x1,x2),(x3,x4,x5,x6),(x7,x8,x9,x10),x11,x12)) good_Disk h0 (mkO_P (a:=shTop) (x:=((x3,x4,x5,x6),(x7,x8,x9,x10),x11,x12)) good_Top h3 (mkO_P (a:=shTop) (x:=((x7,x8,x9,x10),x11,x12)) good_Top h7 (mkO_P (a:=(shL shSeat)) (x:=(x11,x12)) (good_L good_Seat) ⟨D11,d11,rfl,h11⟩ ⟨D12,d12,rfl,h12⟩))))
 simpa using h
theorem c_toCache (v:Value) (x:TCache) (w:World) (h:AV shCache w v x) (hn:shCache.sz x≤1048576) :
   Calls Tryz.prog 17 #[v] w (ToV shCache x w):=by
 obtain ⟨cs,rfl,h⟩:=h
 obtain ⟨⟨x0,x1,x2⟩,⟨x3,x4,x5,x6⟩,⟨x7,x8,x9,x10⟩,x11,x12⟩:=x
 have ho:=openCache h
 try dsimp only at ho
 obtain ⟨A1,c1,A2,c2,A6,c6,A10,c10,A11,c11,A12,c12,rfl,b0,b1,b2,b3,b4,b5,b6,b7,b8,b9,b10,b11,b12⟩:=ho
 have hs:shCache.sz ((x0,x1,x2),(x3,x4,x5,x6),(x7,x8,x9,x10),x11,x12)=shDisk.sz (x0,x1,x2)+(shTop.sz (x3,x4,x5,x6)+(shTop.sz (x7,x8,x9,x10)+((shL shSeat).sz x11+((shL shI).sz x12)))):=rfl
 have hl0:shDisk.sz (x0,x1,x2)≤1048576:=by omega
 have hl3:shTop.sz (x3,x4,x5,x6)≤1048576:=by omega
 have hl7:shTop.sz (x7,x8,x9,x10)≤1048576:=by omega
 have hl11:(shL shSeat).sz x11≤1048576:=by omega
 have hl12:(shL shI).sz x12≤1048576:=by omega
 clear hs hn
 go_enter Tryz.func17,Tryz.ntmps17
 go_wp2_with fail
 have vv0:Up w (((w.alloc (.cells #[.int .i64 x0,.slice A1 x1.length c1,.slice A2 x2.length c2,.int .i64 x3,.int .i64 x4,.int .i64 x5,.slice A6 x6.length c6,.int .i64 x7,.int .i64 x8,.int .i64 x9,.slice A10 x10.length c10,.slice A11 x11.length c11,.slice A12 x12.length c12] 34)).alloc (.cells #[.int .i64 0,.slice none 0 0,.slice none 0 0,.int .i64 0,.int .i64 0,.int .i64 0,.slice none 0 0,.int .i64 0,.int .i64 0,.int .i64 0,.slice none 0 0,.slice none 0 0,.slice none 0 0] 50)).alloc (.cells #[.int .i64 0,.slice none 0 0,.slice none 0 0,.int .i64 0,.int .i64 0,.int .i64 0,.slice none 0 0,.int .i64 0,.int .i64 0,.int .i64 0,.slice none 0 0,.slice none 0 0,.slice none 0 0] 50)):=(((Up.refl _).alloc _).alloc _).alloc _
 have ja0:Bk (((w.alloc (.cells #[.int .i64 x0,.slice A1 x1.length c1,.slice A2 x2.length c2,.int .i64 x3,.int .i64 x4,.int .i64 x5,.slice A6 x6.length c6,.int .i64 x7,.int .i64 x8,.int .i64 x9,.slice A10 x10.length c10,.slice A11 x11.length c11,.slice A12 x12.length c12] 34)).alloc (.cells #[.int .i64 0,.slice none 0 0,.slice none 0 0,.int .i64 0,.int .i64 0,.int .i64 0,.slice none 0 0,.int .i64 0,.int .i64 0,.int .i64 0,.slice none 0 0,.slice none 0 0,.slice none 0 0] 50)).alloc (.cells #[.int .i64 0,.slice none 0 0,.slice none 0 0,.int .i64 0,.int .i64 0,.int .i64 0,.slice none 0 0,.int .i64 0,.int .i64 0,.int .i64 0,.slice none 0 0,.slice none 0 0,.slice none 0 0] 50)) w.heap.size 34 #[.int .i64 x0,.slice A1 x1.length c1,.slice A2 x2.length c2,.int .i64 x3,.int .i64 x4,.int .i64 x5,.slice A6 x6.length c6,.int .i64 x7,.int .i64 x8,.int .i64 x9,.slice A10 x10.length c10,.slice A11 x11.length c11,.slice A12 x12.length c12]:=((Bk.new _ _ _).alloc _).alloc _
 have jr0:Bk (((w.alloc (.cells #[.int .i64 x0,.slice A1 x1.length c1,.slice A2 x2.length c2,.int .i64 x3,.int .i64 x4,.int .i64 x5,.slice A6 x6.length c6,.int .i64 x7,.int .i64 x8,.int .i64 x9,.slice A10 x10.length c10,.slice A11 x11.length c11,.slice A12 x12.length c12] 34)).alloc (.cells #[.int .i64 0,.slice none 0 0,.slice none 0 0,.int .i64 0,.int .i64 0,.int .i64 0,.slice none 0 0,.int .i64 0,.int .i64 0,.int .i64 0,.slice none 0 0,.slice none 0 0,.slice none 0 0] 50)).alloc (.cells #[.int .i64 0,.slice none 0 0,.slice none 0 0,.int .i64 0,.int .i64 0,.int .i64 0,.slice none 0 0,.int .i64 0,.int .i64 0,.int .i64 0,.slice none 0 0,.slice none 0 0,.slice none 0 0] 50)) (w.heap.size+1) 50 #[.int .i64 0,.slice none 0 0,.slice none 0 0,.int .i64 0,.int .i64 0,.int .i64 0,.slice none 0 0,.int .i64 0,.int .i64 0,.int .i64 0,.slice none 0 0,.slice none 0 0,.slice none 0 0]:=by simpa using (Bk.new (w.alloc (.cells #[.int .i64 x0,.slice A1 x1.length c1,.slice A2 x2.length c2,.int .i64 x3,.int .i64 x4,.int .i64 x5,.slice A6 x6.length c6,.int .i64 x7,.int .i64 x8,.int .i64 x9,.slice A10 x10.length c10,.slice A11 x11.length c11,.slice A12 x12.length c12] 34)) 50 #[.int .i64 0,.slice none 0 0,.slice none 0 0,.int .i64 0,.int .i64 0,.int .i64 0,.slice none 0 0,.int .i64 0,.int .i64 0,.int .i64 0,.slice none 0 0,.slice none 0 0,.slice none 0 0]).alloc (.cells #[.int .i64 0,.slice none 0 0,.slice none 0 0,.int .i64 0,.int .i64 0,.int .i64 0,.slice none 0 0,.int .i64 0,.int .i64 0,.int .i64 0,.slice none 0 0,.slice none 0 0,.slice none 0 0] 50)
 have jo0:Bk (((w.alloc (.cells #[.int .i64 x0,.slice A1 x1.length c1,.slice A2 x2.length c2,.int .i64 x3,.int .i64 x4,.int .i64 x5,.slice A6 x6.length c6,.int .i64 x7,.int .i64 x8,.int .i64 x9,.slice A10 x10.length c10,.slice A11 x11.length c11,.slice A12 x12.length c12] 34)).alloc (.cells #[.int .i64 0,.slice none 0 0,.slice none 0 0,.int .i64 0,.int .i64 0,.int .i64 0,.slice none 0 0,.int .i64 0,.int .i64 0,.int .i64 0,.slice none 0 0,.slice none 0 0,.slice none 0 0] 50)).alloc (.cells #[.int .i64 0,.slice none 0 0,.slice none 0 0,.int .i64 0,.int .i64 0,.int .i64 0,.slice none 0 0,.int .i64 0,.int .i64 0,.int .i64 0,.slice none 0 0,.slice none 0 0,.slice none 0 0] 50)) (w.heap.size+1+1) 50 #[.int .i64 0,.slice none 0 0,.slice none 0 0,.int .i64 0,.int .i64 0,.int .i64 0,.slice none 0 0,.int .i64 0,.int .i64 0,.int .i64 0,.slice none 0 0,.slice none 0 0,.slice none 0 0]:=by simpa using Bk.new ((w.alloc (.cells #[.int .i64 x0,.slice A1 x1.length c1,.slice A2 x2.length c2,.int .i64 x3,.int .i64 x4,.int .i64 x5,.slice A6 x6.length c6,.int .i64 x7,.int .i64 x8,.int .i64 x9,.slice A10 x10.length c10,.slice A11 x11.length c11,.slice A12 x12.length c12] 34)).alloc (.cells #[.int .i64 0,.slice none 0 0,.slice none 0 0,.int .i64 0,.int .i64 0,.int .i64 0,.slice none 0 0,.int .i64 0,.int .i64 0,.int .i64 0,.slice none 0 0,.slice none 0 0,.slice none 0 0] 50)) 50 #[.int .i64 0,.slice none 0 0,.slice none 0 0,.int .i64 0,.int .i64 0,.int .i64 0,.slice none 0 0,.int .i64 0,.int .i64 0,.int .i64 0,.slice none 0 0,.slice none 0 0,.slice none 0 0]
 have sz0:w.heap.size+1+1+1=(((w.alloc (.cells #[.int .i64 x0,.slice A1 x1.length c1,.slice A2 x2.length c2,.int .i64 x3,.int .i64 x4,.int .i64 x5,.slice A6 x6.length c6,.int .i64 x7,.int .i64 x8,.int .i64 x9,.slice A10 x10.length c10,.slice A11 x11.length c11,.slice A12 x12.length c12] 34)).alloc (.cells #[.int .i64 0,.slice none 0 0,.slice none 0 0,.int .i64 0,.int .i64 0,.int .i64 0,.slice none 0 0,.int .i64 0,.int .i64 0,.int .i64 0,.slice none 0 0,.slice none 0 0,.slice none 0 0] 50)).alloc (.cells #[.int .i64 0,.slice none 0 0,.slice none 0 0,.int .i64 0,.int .i64 0,.int .i64 0,.slice none 0 0,.int .i64 0,.int .i64 0,.int .i64 0,.slice none 0 0,.slice none 0 0,.slice none 0 0] 50)).heap.size:=by simp
 refine (c_toDisk _ (x0,x1,x2) _ ⟨_,rfl,mkDisk (x:=(x0,x1,x2)) b0 (b1.up good_S vv0) (b2.up good_Put vv0)⟩ hl0).mono ?_
 rintro e w1 ⟨cs0,bl0,rfl,o0,nd0,u1⟩
 obtain ⟨D1,d1,bm1,D2,d2,bm2,rfl,hbl0,_,_,_⟩:=openODisk o0
 have uu1:=vv0.trans u1
 have ka1:=ja0.up u1
 have kr1:=jr0.up u1
 have ko1:=jo0.up u1
 have zz1:=u1.size
 rw [← sz0] at zz1
 have s1_0:shDisk.own w1 (w.heap.size+1+1+1) w1.heap.size [.int .i64 x0,.slice D1 x1.length d1,.slice D2 x2.length d2] (x0,x1,x2) bl0:=by rw [sz0];exact o0
 have nn1:(bl0).Nodup:=nd0
 have mm1:∀b∈bl0,b<w1.heap.size:=fun b hb=>(good_Disk.own_in s1_0 b hb).2
 clear ja0 jr0 jo0 u1 o0
 have ga1_0:w1.cell? ⟨w.heap.size,0,none⟩=some (.int .i64 x0):=ka1.cell 0
 have gr1_0:w1.cell? ⟨w.heap.size+1,0,none⟩=some (.int .i64 0):=kr1.cell 0
 have go1_0:w1.cell? ⟨w.heap.size+1+1,0,none⟩=some (.int .i64 0):=ko1.cell 0
 have fr1_0:=kr1.frozen 0
 have fo1_0:=ko1.frozen 0
 have ga1_1:w1.cell? ⟨w.heap.size,1,none⟩=some (.slice A1 x1.length c1):=ka1.cell 1
 have gr1_1:w1.cell? ⟨w.heap.size+1,1,none⟩=some (.slice none 0 0):=kr1.cell 1
 have go1_1:w1.cell? ⟨w.heap.size+1+1,1,none⟩=some (.slice none 0 0):=ko1.cell 1
 have fr1_1:=kr1.frozen 1
 have fo1_1:=ko1.frozen 1
 have ga1_2:w1.cell? ⟨w.heap.size,2,none⟩=some (.slice A2 x2.length c2):=ka1.cell 2
 have gr1_2:w1.cell? ⟨w.heap.size+1,2,none⟩=some (.slice none 0 0):=kr1.cell 2
 have go1_2:w1.cell? ⟨w.heap.size+1+1,2,none⟩=some (.slice none 0 0):=ko1.cell 2
 have fr1_2:=kr1.frozen 2
 have fo1_2:=ko1.frozen 2
 have ga1_3:w1.cell? ⟨w.heap.size,3,none⟩=some (.int .i64 x3):=ka1.cell 3
 have gr1_3:w1.cell? ⟨w.heap.size+1,3,none⟩=some (.int .i64 0):=kr1.cell 3
 have go1_3:w1.cell? ⟨w.heap.size+1+1,3,none⟩=some (.int .i64 0):=ko1.cell 3
 have fr1_3:=kr1.frozen 3
 have fo1_3:=ko1.frozen 3
 have ga1_4:w1.cell? ⟨w.heap.size,4,none⟩=some (.int .i64 x4):=ka1.cell 4
 have gr1_4:w1.cell? ⟨w.heap.size+1,4,none⟩=some (.int .i64 0):=kr1.cell 4
 have go1_4:w1.cell? ⟨w.heap.size+1+1,4,none⟩=some (.int .i64 0):=ko1.cell 4
 have fr1_4:=kr1.frozen 4
 have fo1_4:=ko1.frozen 4
 have ga1_5:w1.cell? ⟨w.heap.size,5,none⟩=some (.int .i64 x5):=ka1.cell 5
 have gr1_5:w1.cell? ⟨w.heap.size+1,5,none⟩=some (.int .i64 0):=kr1.cell 5
 have go1_5:w1.cell? ⟨w.heap.size+1+1,5,none⟩=some (.int .i64 0):=ko1.cell 5
 have fr1_5:=kr1.frozen 5
 have fo1_5:=ko1.frozen 5
 have ga1_6:w1.cell? ⟨w.heap.size,6,none⟩=some (.slice A6 x6.length c6):=ka1.cell 6
 have gr1_6:w1.cell? ⟨w.heap.size+1,6,none⟩=some (.slice none 0 0):=kr1.cell 6
 have go1_6:w1.cell? ⟨w.heap.size+1+1,6,none⟩=some (.slice none 0 0):=ko1.cell 6
 have fr1_6:=kr1.frozen 6
 have fo1_6:=ko1.frozen 6
 have ga1_7:w1.cell? ⟨w.heap.size,7,none⟩=some (.int .i64 x7):=ka1.cell 7
 have gr1_7:w1.cell? ⟨w.heap.size+1,7,none⟩=some (.int .i64 0):=kr1.cell 7
 have go1_7:w1.cell? ⟨w.heap.size+1+1,7,none⟩=some (.int .i64 0):=ko1.cell 7
 have fr1_7:=kr1.frozen 7
 have fo1_7:=ko1.frozen 7
 have ga1_8:w1.cell? ⟨w.heap.size,8,none⟩=some (.int .i64 x8):=ka1.cell 8
 have gr1_8:w1.cell? ⟨w.heap.size+1,8,none⟩=some (.int .i64 0):=kr1.cell 8
 have go1_8:w1.cell? ⟨w.heap.size+1+1,8,none⟩=some (.int .i64 0):=ko1.cell 8
 have fr1_8:=kr1.frozen 8
 have fo1_8:=ko1.frozen 8
 have ga1_9:w1.cell? ⟨w.heap.size,9,none⟩=some (.int .i64 x9):=ka1.cell 9
 have gr1_9:w1.cell? ⟨w.heap.size+1,9,none⟩=some (.int .i64 0):=kr1.cell 9
 have go1_9:w1.cell? ⟨w.heap.size+1+1,9,none⟩=some (.int .i64 0):=ko1.cell 9
 have fr1_9:=kr1.frozen 9
 have fo1_9:=ko1.frozen 9
 have ga1_10:w1.cell? ⟨w.heap.size,10,none⟩=some (.slice A10 x10.length c10):=ka1.cell 10
 have gr1_10:w1.cell? ⟨w.heap.size+1,10,none⟩=some (.slice none 0 0):=kr1.cell 10
 have go1_10:w1.cell? ⟨w.heap.size+1+1,10,none⟩=some (.slice none 0 0):=ko1.cell 10
 have fr1_10:=kr1.frozen 10
 have fo1_10:=ko1.frozen 10
 have ga1_11:w1.cell? ⟨w.heap.size,11,none⟩=some (.slice A11 x11.length c11):=ka1.cell 11
 have gr1_11:w1.cell? ⟨w.heap.size+1,11,none⟩=some (.slice none 0 0):=kr1.cell 11
 have go1_11:w1.cell? ⟨w.heap.size+1+1,11,none⟩=some (.slice none 0 0):=ko1.cell 11
 have fr1_11:=kr1.frozen 11
 have fo1_11:=ko1.frozen 11
 have ga1_12:w1.cell? ⟨w.heap.size,12,none⟩=some (.slice A12 x12.length c12):=ka1.cell 12
 have gr1_12:w1.cell? ⟨w.heap.size+1,12,none⟩=some (.slice none 0 0):=kr1.cell 12
 have go1_12:w1.cell? ⟨w.heap.size+1+1,12,none⟩=some (.slice none 0 0):=ko1.cell 12
 have fr1_12:=kr1.frozen 12
 have fo1_12:=ko1.frozen 12
 go_wp2_with fail
 have vv1:Up w (setCells w1 (w.heap.size+1+1) 0 [.int .i64 x0,.slice D1 x1.length d1,.slice D2 x2.length d2]):=(uu1.sets (g:=(w.heap.size+1+1)) (by omega) 0 [.int .i64 x0,.slice D1 x1.length d1,.slice D2 x2.length d2])
 have ja1:Bk (setCells w1 (w.heap.size+1+1) 0 [.int .i64 x0,.slice D1 x1.length d1,.slice D2 x2.length d2]) w.heap.size 34 #[.int .i64 x0,.slice A1 x1.length c1,.slice A2 x2.length c2,.int .i64 x3,.int .i64 x4,.int .i64 x5,.slice A6 x6.length c6,.int .i64 x7,.int .i64 x8,.int .i64 x9,.slice A10 x10.length c10,.slice A11 x11.length c11,.slice A12 x12.length c12]:=(((ka1.far (p:=⟨(w.heap.size+1+1),0,none⟩) (by dsimp only;omega) (.int .i64 x0)).far (p:=⟨(w.heap.size+1+1),1,none⟩) (by dsimp only;omega) (.slice D1 x1.length d1)).far (p:=⟨(w.heap.size+1+1),2,none⟩) (by dsimp only;omega) (.slice D2 x2.length d2))
 have jr1:Bk (setCells w1 (w.heap.size+1+1) 0 [.int .i64 x0,.slice D1 x1.length d1,.slice D2 x2.length d2]) (w.heap.size+1) 50 #[.int .i64 0,.slice none 0 0,.slice none 0 0,.int .i64 0,.int .i64 0,.int .i64 0,.slice none 0 0,.int .i64 0,.int .i64 0,.int .i64 0,.slice none 0 0,.slice none 0 0,.slice none 0 0]:=(((kr1.far (p:=⟨(w.heap.size+1+1),0,none⟩) (by dsimp only;omega) (.int .i64 x0)).far (p:=⟨(w.heap.size+1+1),1,none⟩) (by dsimp only;omega) (.slice D1 x1.length d1)).far (p:=⟨(w.heap.size+1+1),2,none⟩) (by dsimp only;omega) (.slice D2 x2.length d2))
 have jo1:Bk (setCells w1 (w.heap.size+1+1) 0 [.int .i64 x0,.slice D1 x1.length d1,.slice D2 x2.length d2]) (w.heap.size+1+1) 50 #[.int .i64 x0,.slice D1 x1.length d1,.slice D2 x2.length d2,.int .i64 0,.int .i64 0,.int .i64 0,.slice none 0 0,.int .i64 0,.int .i64 0,.int .i64 0,.slice none 0 0,.slice none 0 0,.slice none 0 0]:=(((ko1.set 0 (.int .i64 x0)).set 1 (.slice D1 x1.length d1)).set 2 (.slice D2 x2.length d2))
 have sz1:w1.heap.size=(setCells w1 (w.heap.size+1+1) 0 [.int .i64 x0,.slice D1 x1.length d1,.slice D2 x2.length d2]).heap.size:=by simp only [setCells_size]
 have p1_0:=(own_set good_Disk s1_0 (w.heap.size+1+1) 0 [.int .i64 x0,.slice D1 x1.length d1,.slice D2 x2.length d2] (by omega))
 refine (c_toTop _ (x3,x4,x5,x6) _ ⟨_,rfl,mkTop (x:=(x3,x4,x5,x6)) b3 b4 b5 (b6.up good_Seat vv1)⟩ hl3).mono ?_
 rintro e w2 ⟨cs3,bl3,rfl,o3,nd3,u2⟩
 obtain ⟨D6,d6,bm6,rfl,hbl3,_,_,_,_⟩:=openOTop o3
 have uu2:=vv1.trans u2
 have ka2:=ja1.up u2
 have kr2:=jr1.up u2
 have ko2:=jo1.up u2
 have s2_0:=own_up good_Disk p1_0 u2
 have zz2:=u2.size
 rw [← sz1] at zz2
 have s2_3:shTop.own w2 w1.heap.size w2.heap.size [.int .i64 x3,.int .i64 x4,.int .i64 x5,.slice D6 x6.length d6] (x3,x4,x5,x6) bl3:=by rw [sz1];exact o3
 have nn2:((bl0)++bl3).Nodup:=nodup_two (m:=w1.heap.size) nn1 nd3 mm1 (fun b hb=>(good_Top.own_in s2_3 b hb).1)
 have mm2:∀b∈(bl0)++bl3,b<w2.heap.size:=mem_lt_two (fun b hb=>Nat.lt_of_lt_of_le (mm1 b hb) zz2) (fun b hb=>(good_Top.own_in s2_3 b hb).2)
 clear ja1 jr1 jo1 u2 o3 p1_0 ka1 kr1 ko1 s1_0 ga1_0 gr1_0 go1_0 fr1_0 fo1_0 ga1_1 gr1_1 go1_1 fr1_1 fo1_1 ga1_2 gr1_2 go1_2 fr1_2 fo1_2 ga1_3 gr1_3 go1_3 fr1_3 fo1_3 ga1_4 gr1_4 go1_4 fr1_4 fo1_4 ga1_5 gr1_5 go1_5 fr1_5 fo1_5 ga1_6 gr1_6 go1_6 fr1_6 fo1_6 ga1_7 gr1_7 go1_7 fr1_7 fo1_7 ga1_8 gr1_8 go1_8 fr1_8 fo1_8 ga1_9 gr1_9 go1_9 fr1_9 fo1_9 ga1_10 gr1_10 go1_10 fr1_10 fo1_10 ga1_11 gr1_11 go1_11 fr1_11 fo1_11 ga1_12 gr1_12 go1_12 fr1_12 fo1_12
 have ga2_0:w2.cell? ⟨w.heap.size,0,none⟩=some (.int .i64 x0):=ka2.cell 0
 have gr2_0:w2.cell? ⟨w.heap.size+1,0,none⟩=some (.int .i64 0):=kr2.cell 0
 have go2_0:w2.cell? ⟨w.heap.size+1+1,0,none⟩=some (.int .i64 x0):=ko2.cell 0
 have fr2_0:=kr2.frozen 0
 have fo2_0:=ko2.frozen 0
 have ga2_1:w2.cell? ⟨w.heap.size,1,none⟩=some (.slice A1 x1.length c1):=ka2.cell 1
 have gr2_1:w2.cell? ⟨w.heap.size+1,1,none⟩=some (.slice none 0 0):=kr2.cell 1
 have go2_1:w2.cell? ⟨w.heap.size+1+1,1,none⟩=some (.slice D1 x1.length d1):=ko2.cell 1
 have fr2_1:=kr2.frozen 1
 have fo2_1:=ko2.frozen 1
 have ga2_2:w2.cell? ⟨w.heap.size,2,none⟩=some (.slice A2 x2.length c2):=ka2.cell 2
 have gr2_2:w2.cell? ⟨w.heap.size+1,2,none⟩=some (.slice none 0 0):=kr2.cell 2
 have go2_2:w2.cell? ⟨w.heap.size+1+1,2,none⟩=some (.slice D2 x2.length d2):=ko2.cell 2
 have fr2_2:=kr2.frozen 2
 have fo2_2:=ko2.frozen 2
 have ga2_3:w2.cell? ⟨w.heap.size,3,none⟩=some (.int .i64 x3):=ka2.cell 3
 have gr2_3:w2.cell? ⟨w.heap.size+1,3,none⟩=some (.int .i64 0):=kr2.cell 3
 have go2_3:w2.cell? ⟨w.heap.size+1+1,3,none⟩=some (.int .i64 0):=ko2.cell 3
 have fr2_3:=kr2.frozen 3
 have fo2_3:=ko2.frozen 3
 have ga2_4:w2.cell? ⟨w.heap.size,4,none⟩=some (.int .i64 x4):=ka2.cell 4
 have gr2_4:w2.cell? ⟨w.heap.size+1,4,none⟩=some (.int .i64 0):=kr2.cell 4
 have go2_4:w2.cell? ⟨w.heap.size+1+1,4,none⟩=some (.int .i64 0):=ko2.cell 4
 have fr2_4:=kr2.frozen 4
 have fo2_4:=ko2.frozen 4
 have ga2_5:w2.cell? ⟨w.heap.size,5,none⟩=some (.int .i64 x5):=ka2.cell 5
 have gr2_5:w2.cell? ⟨w.heap.size+1,5,none⟩=some (.int .i64 0):=kr2.cell 5
 have go2_5:w2.cell? ⟨w.heap.size+1+1,5,none⟩=some (.int .i64 0):=ko2.cell 5
 have fr2_5:=kr2.frozen 5
 have fo2_5:=ko2.frozen 5
 have ga2_6:w2.cell? ⟨w.heap.size,6,none⟩=some (.slice A6 x6.length c6):=ka2.cell 6
 have gr2_6:w2.cell? ⟨w.heap.size+1,6,none⟩=some (.slice none 0 0):=kr2.cell 6
 have go2_6:w2.cell? ⟨w.heap.size+1+1,6,none⟩=some (.slice none 0 0):=ko2.cell 6
 have fr2_6:=kr2.frozen 6
 have fo2_6:=ko2.frozen 6
 have ga2_7:w2.cell? ⟨w.heap.size,7,none⟩=some (.int .i64 x7):=ka2.cell 7
 have gr2_7:w2.cell? ⟨w.heap.size+1,7,none⟩=some (.int .i64 0):=kr2.cell 7
 have go2_7:w2.cell? ⟨w.heap.size+1+1,7,none⟩=some (.int .i64 0):=ko2.cell 7
 have fr2_7:=kr2.frozen 7
 have fo2_7:=ko2.frozen 7
 have ga2_8:w2.cell? ⟨w.heap.size,8,none⟩=some (.int .i64 x8):=ka2.cell 8
 have gr2_8:w2.cell? ⟨w.heap.size+1,8,none⟩=some (.int .i64 0):=kr2.cell 8
 have go2_8:w2.cell? ⟨w.heap.size+1+1,8,none⟩=some (.int .i64 0):=ko2.cell 8
 have fr2_8:=kr2.frozen 8
 have fo2_8:=ko2.frozen 8
 have ga2_9:w2.cell? ⟨w.heap.size,9,none⟩=some (.int .i64 x9):=ka2.cell 9
 have gr2_9:w2.cell? ⟨w.heap.size+1,9,none⟩=some (.int .i64 0):=kr2.cell 9
 have go2_9:w2.cell? ⟨w.heap.size+1+1,9,none⟩=some (.int .i64 0):=ko2.cell 9
 have fr2_9:=kr2.frozen 9
 have fo2_9:=ko2.frozen 9
 have ga2_10:w2.cell? ⟨w.heap.size,10,none⟩=some (.slice A10 x10.length c10):=ka2.cell 10
 have gr2_10:w2.cell? ⟨w.heap.size+1,10,none⟩=some (.slice none 0 0):=kr2.cell 10
 have go2_10:w2.cell? ⟨w.heap.size+1+1,10,none⟩=some (.slice none 0 0):=ko2.cell 10
 have fr2_10:=kr2.frozen 10
 have fo2_10:=ko2.frozen 10
 have ga2_11:w2.cell? ⟨w.heap.size,11,none⟩=some (.slice A11 x11.length c11):=ka2.cell 11
 have gr2_11:w2.cell? ⟨w.heap.size+1,11,none⟩=some (.slice none 0 0):=kr2.cell 11
 have go2_11:w2.cell? ⟨w.heap.size+1+1,11,none⟩=some (.slice none 0 0):=ko2.cell 11
 have fr2_11:=kr2.frozen 11
 have fo2_11:=ko2.frozen 11
 have ga2_12:w2.cell? ⟨w.heap.size,12,none⟩=some (.slice A12 x12.length c12):=ka2.cell 12
 have gr2_12:w2.cell? ⟨w.heap.size+1,12,none⟩=some (.slice none 0 0):=kr2.cell 12
 have go2_12:w2.cell? ⟨w.heap.size+1+1,12,none⟩=some (.slice none 0 0):=ko2.cell 12
 have fr2_12:=kr2.frozen 12
 have fo2_12:=ko2.frozen 12
 go_wp2_with fail
 have vv2:Up w (setCells w2 (w.heap.size+1+1) 3 [.int .i64 x3,.int .i64 x4,.int .i64 x5,.slice D6 x6.length d6]):=(uu2.sets (g:=(w.heap.size+1+1)) (by omega) 3 [.int .i64 x3,.int .i64 x4,.int .i64 x5,.slice D6 x6.length d6])
 have ja2:Bk (setCells w2 (w.heap.size+1+1) 3 [.int .i64 x3,.int .i64 x4,.int .i64 x5,.slice D6 x6.length d6]) w.heap.size 34 #[.int .i64 x0,.slice A1 x1.length c1,.slice A2 x2.length c2,.int .i64 x3,.int .i64 x4,.int .i64 x5,.slice A6 x6.length c6,.int .i64 x7,.int .i64 x8,.int .i64 x9,.slice A10 x10.length c10,.slice A11 x11.length c11,.slice A12 x12.length c12]:=((((ka2.far (p:=⟨(w.heap.size+1+1),3,none⟩) (by dsimp only;omega) (.int .i64 x3)).far (p:=⟨(w.heap.size+1+1),4,none⟩) (by dsimp only;omega) (.int .i64 x4)).far (p:=⟨(w.heap.size+1+1),5,none⟩) (by dsimp only;omega) (.int .i64 x5)).far (p:=⟨(w.heap.size+1+1),6,none⟩) (by dsimp only;omega) (.slice D6 x6.length d6))
 have jr2:Bk (setCells w2 (w.heap.size+1+1) 3 [.int .i64 x3,.int .i64 x4,.int .i64 x5,.slice D6 x6.length d6]) (w.heap.size+1) 50 #[.int .i64 0,.slice none 0 0,.slice none 0 0,.int .i64 0,.int .i64 0,.int .i64 0,.slice none 0 0,.int .i64 0,.int .i64 0,.int .i64 0,.slice none 0 0,.slice none 0 0,.slice none 0 0]:=((((kr2.far (p:=⟨(w.heap.size+1+1),3,none⟩) (by dsimp only;omega) (.int .i64 x3)).far (p:=⟨(w.heap.size+1+1),4,none⟩) (by dsimp only;omega) (.int .i64 x4)).far (p:=⟨(w.heap.size+1+1),5,none⟩) (by dsimp only;omega) (.int .i64 x5)).far (p:=⟨(w.heap.size+1+1),6,none⟩) (by dsimp only;omega) (.slice D6 x6.length d6))
 have jo2:Bk (setCells w2 (w.heap.size+1+1) 3 [.int .i64 x3,.int .i64 x4,.int .i64 x5,.slice D6 x6.length d6]) (w.heap.size+1+1) 50 #[.int .i64 x0,.slice D1 x1.length d1,.slice D2 x2.length d2,.int .i64 x3,.int .i64 x4,.int .i64 x5,.slice D6 x6.length d6,.int .i64 0,.int .i64 0,.int .i64 0,.slice none 0 0,.slice none 0 0,.slice none 0 0]:=((((ko2.set 3 (.int .i64 x3)).set 4 (.int .i64 x4)).set 5 (.int .i64 x5)).set 6 (.slice D6 x6.length d6))
 have sz2:w2.heap.size=(setCells w2 (w.heap.size+1+1) 3 [.int .i64 x3,.int .i64 x4,.int .i64 x5,.slice D6 x6.length d6]).heap.size:=by simp only [setCells_size]
 have p2_0:=(own_set good_Disk s2_0 (w.heap.size+1+1) 3 [.int .i64 x3,.int .i64 x4,.int .i64 x5,.slice D6 x6.length d6] (by omega))
 have p2_3:=(own_set good_Top s2_3 (w.heap.size+1+1) 3 [.int .i64 x3,.int .i64 x4,.int .i64 x5,.slice D6 x6.length d6] (by omega))
 refine (c_toTop _ (x7,x8,x9,x10) _ ⟨_,rfl,mkTop (x:=(x7,x8,x9,x10)) b7 b8 b9 (b10.up good_Seat vv2)⟩ hl7).mono ?_
 rintro e w3 ⟨cs7,bl7,rfl,o7,nd7,u3⟩
 obtain ⟨D10,d10,bm10,rfl,hbl7,_,_,_,_⟩:=openOTop o7
 have uu3:=vv2.trans u3
 have ka3:=ja2.up u3
 have kr3:=jr2.up u3
 have ko3:=jo2.up u3
 have s3_0:=own_up good_Disk p2_0 u3
 have s3_3:=own_up good_Top p2_3 u3
 have zz3:=u3.size
 rw [← sz2] at zz3
 have s3_7:shTop.own w3 w2.heap.size w3.heap.size [.int .i64 x7,.int .i64 x8,.int .i64 x9,.slice D10 x10.length d10] (x7,x8,x9,x10) bl7:=by rw [sz2];exact o7
 have nn3:(((bl0)++bl3)++bl7).Nodup:=nodup_two (m:=w2.heap.size) nn2 nd7 mm2 (fun b hb=>(good_Top.own_in s3_7 b hb).1)
 have mm3:∀b∈((bl0)++bl3)++bl7,b<w3.heap.size:=mem_lt_two (fun b hb=>Nat.lt_of_lt_of_le (mm2 b hb) zz3) (fun b hb=>(good_Top.own_in s3_7 b hb).2)
 clear ja2 jr2 jo2 u3 o7 p2_0 p2_3 ka2 kr2 ko2 s2_0 s2_3 ga2_0 gr2_0 go2_0 fr2_0 fo2_0 ga2_1 gr2_1 go2_1 fr2_1 fo2_1 ga2_2 gr2_2 go2_2 fr2_2 fo2_2 ga2_3 gr2_3 go2_3 fr2_3 fo2_3 ga2_4 gr2_4 go2_4 fr2_4 fo2_4 ga2_5 gr2_5 go2_5 fr2_5 fo2_5 ga2_6 gr2_6 go2_6 fr2_6 fo2_6 ga2_7 gr2_7 go2_7 fr2_7 fo2_7 ga2_8 gr2_8 go2_8 fr2_8 fo2_8 ga2_9 gr2_9 go2_9 fr2_9 fo2_9 ga2_10 gr2_10 go2_10 fr2_10 fo2_10 ga2_11 gr2_11 go2_11 fr2_11 fo2_11 ga2_12 gr2_12 go2_12 fr2_12 fo2_12
 have ga3_0:w3.cell? ⟨w.heap.size,0,none⟩=some (.int .i64 x0):=ka3.cell 0
 have gr3_0:w3.cell? ⟨w.heap.size+1,0,none⟩=some (.int .i64 0):=kr3.cell 0
 have go3_0:w3.cell? ⟨w.heap.size+1+1,0,none⟩=some (.int .i64 x0):=ko3.cell 0
 have fr3_0:=kr3.frozen 0
 have fo3_0:=ko3.frozen 0
 have ga3_1:w3.cell? ⟨w.heap.size,1,none⟩=some (.slice A1 x1.length c1):=ka3.cell 1
 have gr3_1:w3.cell? ⟨w.heap.size+1,1,none⟩=some (.slice none 0 0):=kr3.cell 1
 have go3_1:w3.cell? ⟨w.heap.size+1+1,1,none⟩=some (.slice D1 x1.length d1):=ko3.cell 1
 have fr3_1:=kr3.frozen 1
 have fo3_1:=ko3.frozen 1
 have ga3_2:w3.cell? ⟨w.heap.size,2,none⟩=some (.slice A2 x2.length c2):=ka3.cell 2
 have gr3_2:w3.cell? ⟨w.heap.size+1,2,none⟩=some (.slice none 0 0):=kr3.cell 2
 have go3_2:w3.cell? ⟨w.heap.size+1+1,2,none⟩=some (.slice D2 x2.length d2):=ko3.cell 2
 have fr3_2:=kr3.frozen 2
 have fo3_2:=ko3.frozen 2
 have ga3_3:w3.cell? ⟨w.heap.size,3,none⟩=some (.int .i64 x3):=ka3.cell 3
 have gr3_3:w3.cell? ⟨w.heap.size+1,3,none⟩=some (.int .i64 0):=kr3.cell 3
 have go3_3:w3.cell? ⟨w.heap.size+1+1,3,none⟩=some (.int .i64 x3):=ko3.cell 3
 have fr3_3:=kr3.frozen 3
 have fo3_3:=ko3.frozen 3
 have ga3_4:w3.cell? ⟨w.heap.size,4,none⟩=some (.int .i64 x4):=ka3.cell 4
 have gr3_4:w3.cell? ⟨w.heap.size+1,4,none⟩=some (.int .i64 0):=kr3.cell 4
 have go3_4:w3.cell? ⟨w.heap.size+1+1,4,none⟩=some (.int .i64 x4):=ko3.cell 4
 have fr3_4:=kr3.frozen 4
 have fo3_4:=ko3.frozen 4
 have ga3_5:w3.cell? ⟨w.heap.size,5,none⟩=some (.int .i64 x5):=ka3.cell 5
 have gr3_5:w3.cell? ⟨w.heap.size+1,5,none⟩=some (.int .i64 0):=kr3.cell 5
 have go3_5:w3.cell? ⟨w.heap.size+1+1,5,none⟩=some (.int .i64 x5):=ko3.cell 5
 have fr3_5:=kr3.frozen 5
 have fo3_5:=ko3.frozen 5
 have ga3_6:w3.cell? ⟨w.heap.size,6,none⟩=some (.slice A6 x6.length c6):=ka3.cell 6
 have gr3_6:w3.cell? ⟨w.heap.size+1,6,none⟩=some (.slice none 0 0):=kr3.cell 6
 have go3_6:w3.cell? ⟨w.heap.size+1+1,6,none⟩=some (.slice D6 x6.length d6):=ko3.cell 6
 have fr3_6:=kr3.frozen 6
 have fo3_6:=ko3.frozen 6
 have ga3_7:w3.cell? ⟨w.heap.size,7,none⟩=some (.int .i64 x7):=ka3.cell 7
 have gr3_7:w3.cell? ⟨w.heap.size+1,7,none⟩=some (.int .i64 0):=kr3.cell 7
 have go3_7:w3.cell? ⟨w.heap.size+1+1,7,none⟩=some (.int .i64 0):=ko3.cell 7
 have fr3_7:=kr3.frozen 7
 have fo3_7:=ko3.frozen 7
 have ga3_8:w3.cell? ⟨w.heap.size,8,none⟩=some (.int .i64 x8):=ka3.cell 8
 have gr3_8:w3.cell? ⟨w.heap.size+1,8,none⟩=some (.int .i64 0):=kr3.cell 8
 have go3_8:w3.cell? ⟨w.heap.size+1+1,8,none⟩=some (.int .i64 0):=ko3.cell 8
 have fr3_8:=kr3.frozen 8
 have fo3_8:=ko3.frozen 8
 have ga3_9:w3.cell? ⟨w.heap.size,9,none⟩=some (.int .i64 x9):=ka3.cell 9
 have gr3_9:w3.cell? ⟨w.heap.size+1,9,none⟩=some (.int .i64 0):=kr3.cell 9
 have go3_9:w3.cell? ⟨w.heap.size+1+1,9,none⟩=some (.int .i64 0):=ko3.cell 9
 have fr3_9:=kr3.frozen 9
 have fo3_9:=ko3.frozen 9
 have ga3_10:w3.cell? ⟨w.heap.size,10,none⟩=some (.slice A10 x10.length c10):=ka3.cell 10
 have gr3_10:w3.cell? ⟨w.heap.size+1,10,none⟩=some (.slice none 0 0):=kr3.cell 10
 have go3_10:w3.cell? ⟨w.heap.size+1+1,10,none⟩=some (.slice none 0 0):=ko3.cell 10
 have fr3_10:=kr3.frozen 10
 have fo3_10:=ko3.frozen 10
 have ga3_11:w3.cell? ⟨w.heap.size,11,none⟩=some (.slice A11 x11.length c11):=ka3.cell 11
 have gr3_11:w3.cell? ⟨w.heap.size+1,11,none⟩=some (.slice none 0 0):=kr3.cell 11
 have go3_11:w3.cell? ⟨w.heap.size+1+1,11,none⟩=some (.slice none 0 0):=ko3.cell 11
 have fr3_11:=kr3.frozen 11
 have fo3_11:=ko3.frozen 11
 have ga3_12:w3.cell? ⟨w.heap.size,12,none⟩=some (.slice A12 x12.length c12):=ka3.cell 12
 have gr3_12:w3.cell? ⟨w.heap.size+1,12,none⟩=some (.slice none 0 0):=kr3.cell 12
 have go3_12:w3.cell? ⟨w.heap.size+1+1,12,none⟩=some (.slice none 0 0):=ko3.cell 12
 have fr3_12:=kr3.frozen 12
 have fo3_12:=ko3.frozen 12
 go_wp2_with fail
 have vv3:Up w (setCells w3 (w.heap.size+1+1) 7 [.int .i64 x7,.int .i64 x8,.int .i64 x9,.slice D10 x10.length d10]):=(uu3.sets (g:=(w.heap.size+1+1)) (by omega) 7 [.int .i64 x7,.int .i64 x8,.int .i64 x9,.slice D10 x10.length d10])
 have ja3:Bk (setCells w3 (w.heap.size+1+1) 7 [.int .i64 x7,.int .i64 x8,.int .i64 x9,.slice D10 x10.length d10]) w.heap.size 34 #[.int .i64 x0,.slice A1 x1.length c1,.slice A2 x2.length c2,.int .i64 x3,.int .i64 x4,.int .i64 x5,.slice A6 x6.length c6,.int .i64 x7,.int .i64 x8,.int .i64 x9,.slice A10 x10.length c10,.slice A11 x11.length c11,.slice A12 x12.length c12]:=((((ka3.far (p:=⟨(w.heap.size+1+1),7,none⟩) (by dsimp only;omega) (.int .i64 x7)).far (p:=⟨(w.heap.size+1+1),8,none⟩) (by dsimp only;omega) (.int .i64 x8)).far (p:=⟨(w.heap.size+1+1),9,none⟩) (by dsimp only;omega) (.int .i64 x9)).far (p:=⟨(w.heap.size+1+1),10,none⟩) (by dsimp only;omega) (.slice D10 x10.length d10))
 have jr3:Bk (setCells w3 (w.heap.size+1+1) 7 [.int .i64 x7,.int .i64 x8,.int .i64 x9,.slice D10 x10.length d10]) (w.heap.size+1) 50 #[.int .i64 0,.slice none 0 0,.slice none 0 0,.int .i64 0,.int .i64 0,.int .i64 0,.slice none 0 0,.int .i64 0,.int .i64 0,.int .i64 0,.slice none 0 0,.slice none 0 0,.slice none 0 0]:=((((kr3.far (p:=⟨(w.heap.size+1+1),7,none⟩) (by dsimp only;omega) (.int .i64 x7)).far (p:=⟨(w.heap.size+1+1),8,none⟩) (by dsimp only;omega) (.int .i64 x8)).far (p:=⟨(w.heap.size+1+1),9,none⟩) (by dsimp only;omega) (.int .i64 x9)).far (p:=⟨(w.heap.size+1+1),10,none⟩) (by dsimp only;omega) (.slice D10 x10.length d10))
 have jo3:Bk (setCells w3 (w.heap.size+1+1) 7 [.int .i64 x7,.int .i64 x8,.int .i64 x9,.slice D10 x10.length d10]) (w.heap.size+1+1) 50 #[.int .i64 x0,.slice D1 x1.length d1,.slice D2 x2.length d2,.int .i64 x3,.int .i64 x4,.int .i64 x5,.slice D6 x6.length d6,.int .i64 x7,.int .i64 x8,.int .i64 x9,.slice D10 x10.length d10,.slice none 0 0,.slice none 0 0]:=((((ko3.set 7 (.int .i64 x7)).set 8 (.int .i64 x8)).set 9 (.int .i64 x9)).set 10 (.slice D10 x10.length d10))
 have sz3:w3.heap.size=(setCells w3 (w.heap.size+1+1) 7 [.int .i64 x7,.int .i64 x8,.int .i64 x9,.slice D10 x10.length d10]).heap.size:=by simp only [setCells_size]
 have p3_0:=(own_set good_Disk s3_0 (w.heap.size+1+1) 7 [.int .i64 x7,.int .i64 x8,.int .i64 x9,.slice D10 x10.length d10] (by omega))
 have p3_3:=(own_set good_Top s3_3 (w.heap.size+1+1) 7 [.int .i64 x7,.int .i64 x8,.int .i64 x9,.slice D10 x10.length d10] (by omega))
 have p3_7:=(own_set good_Top s3_7 (w.heap.size+1+1) 7 [.int .i64 x7,.int .i64 x8,.int .i64 x9,.slice D10 x10.length d10] (by omega))
 refine (c_toSeatS _ _ _ _ (b11.up good_Seat vv3) hl11).mono ?_
 rintro e w4 ⟨D11,d11,bl11,rfl,o11,nd11,u4⟩
 have uu4:=vv3.trans u4
 have ka4:=ja3.up u4
 have kr4:=jr3.up u4
 have ko4:=jo3.up u4
 have s4_0:=own_up good_Disk p3_0 u4
 have s4_3:=own_up good_Top p3_3 u4
 have s4_7:=own_up good_Top p3_7 u4
 have zz4:=u4.size
 rw [← sz3] at zz4
 have s4_11:SO shSeat w4 w3.heap.size w4.heap.size D11 d11 x11 bl11:=by rw [sz3];exact o11
 have nn4:((((bl0)++bl3)++bl7)++bl11).Nodup:=nodup_two (m:=w3.heap.size) nn3 nd11 mm3 (fun b hb=>(s4_11.in_ good_Seat b hb).1)
 have mm4:∀b∈(((bl0)++bl3)++bl7)++bl11,b<w4.heap.size:=mem_lt_two (fun b hb=>Nat.lt_of_lt_of_le (mm3 b hb) zz4) (fun b hb=>(s4_11.in_ good_Seat b hb).2)
 clear ja3 jr3 jo3 u4 o11 p3_0 p3_3 p3_7 ka3 kr3 ko3 s3_0 s3_3 s3_7 ga3_0 gr3_0 go3_0 fr3_0 fo3_0 ga3_1 gr3_1 go3_1 fr3_1 fo3_1 ga3_2 gr3_2 go3_2 fr3_2 fo3_2 ga3_3 gr3_3 go3_3 fr3_3 fo3_3 ga3_4 gr3_4 go3_4 fr3_4 fo3_4 ga3_5 gr3_5 go3_5 fr3_5 fo3_5 ga3_6 gr3_6 go3_6 fr3_6 fo3_6 ga3_7 gr3_7 go3_7 fr3_7 fo3_7 ga3_8 gr3_8 go3_8 fr3_8 fo3_8 ga3_9 gr3_9 go3_9 fr3_9 fo3_9 ga3_10 gr3_10 go3_10 fr3_10 fo3_10 ga3_11 gr3_11 go3_11 fr3_11 fo3_11 ga3_12 gr3_12 go3_12 fr3_12 fo3_12
 have ga4_0:w4.cell? ⟨w.heap.size,0,none⟩=some (.int .i64 x0):=ka4.cell 0
 have gr4_0:w4.cell? ⟨w.heap.size+1,0,none⟩=some (.int .i64 0):=kr4.cell 0
 have go4_0:w4.cell? ⟨w.heap.size+1+1,0,none⟩=some (.int .i64 x0):=ko4.cell 0
 have fr4_0:=kr4.frozen 0
 have fo4_0:=ko4.frozen 0
 have ga4_1:w4.cell? ⟨w.heap.size,1,none⟩=some (.slice A1 x1.length c1):=ka4.cell 1
 have gr4_1:w4.cell? ⟨w.heap.size+1,1,none⟩=some (.slice none 0 0):=kr4.cell 1
 have go4_1:w4.cell? ⟨w.heap.size+1+1,1,none⟩=some (.slice D1 x1.length d1):=ko4.cell 1
 have fr4_1:=kr4.frozen 1
 have fo4_1:=ko4.frozen 1
 have ga4_2:w4.cell? ⟨w.heap.size,2,none⟩=some (.slice A2 x2.length c2):=ka4.cell 2
 have gr4_2:w4.cell? ⟨w.heap.size+1,2,none⟩=some (.slice none 0 0):=kr4.cell 2
 have go4_2:w4.cell? ⟨w.heap.size+1+1,2,none⟩=some (.slice D2 x2.length d2):=ko4.cell 2
 have fr4_2:=kr4.frozen 2
 have fo4_2:=ko4.frozen 2
 have ga4_3:w4.cell? ⟨w.heap.size,3,none⟩=some (.int .i64 x3):=ka4.cell 3
 have gr4_3:w4.cell? ⟨w.heap.size+1,3,none⟩=some (.int .i64 0):=kr4.cell 3
 have go4_3:w4.cell? ⟨w.heap.size+1+1,3,none⟩=some (.int .i64 x3):=ko4.cell 3
 have fr4_3:=kr4.frozen 3
 have fo4_3:=ko4.frozen 3
 have ga4_4:w4.cell? ⟨w.heap.size,4,none⟩=some (.int .i64 x4):=ka4.cell 4
 have gr4_4:w4.cell? ⟨w.heap.size+1,4,none⟩=some (.int .i64 0):=kr4.cell 4
 have go4_4:w4.cell? ⟨w.heap.size+1+1,4,none⟩=some (.int .i64 x4):=ko4.cell 4
 have fr4_4:=kr4.frozen 4
 have fo4_4:=ko4.frozen 4
 have ga4_5:w4.cell? ⟨w.heap.size,5,none⟩=some (.int .i64 x5):=ka4.cell 5
 have gr4_5:w4.cell? ⟨w.heap.size+1,5,none⟩=some (.int .i64 0):=kr4.cell 5
 have go4_5:w4.cell? ⟨w.heap.size+1+1,5,none⟩=some (.int .i64 x5):=ko4.cell 5
 have fr4_5:=kr4.frozen 5
 have fo4_5:=ko4.frozen 5
 have ga4_6:w4.cell? ⟨w.heap.size,6,none⟩=some (.slice A6 x6.length c6):=ka4.cell 6
 have gr4_6:w4.cell? ⟨w.heap.size+1,6,none⟩=some (.slice none 0 0):=kr4.cell 6
 have go4_6:w4.cell? ⟨w.heap.size+1+1,6,none⟩=some (.slice D6 x6.length d6):=ko4.cell 6
 have fr4_6:=kr4.frozen 6
 have fo4_6:=ko4.frozen 6
 have ga4_7:w4.cell? ⟨w.heap.size,7,none⟩=some (.int .i64 x7):=ka4.cell 7
 have gr4_7:w4.cell? ⟨w.heap.size+1,7,none⟩=some (.int .i64 0):=kr4.cell 7
 have go4_7:w4.cell? ⟨w.heap.size+1+1,7,none⟩=some (.int .i64 x7):=ko4.cell 7
 have fr4_7:=kr4.frozen 7
 have fo4_7:=ko4.frozen 7
 have ga4_8:w4.cell? ⟨w.heap.size,8,none⟩=some (.int .i64 x8):=ka4.cell 8
 have gr4_8:w4.cell? ⟨w.heap.size+1,8,none⟩=some (.int .i64 0):=kr4.cell 8
 have go4_8:w4.cell? ⟨w.heap.size+1+1,8,none⟩=some (.int .i64 x8):=ko4.cell 8
 have fr4_8:=kr4.frozen 8
 have fo4_8:=ko4.frozen 8
 have ga4_9:w4.cell? ⟨w.heap.size,9,none⟩=some (.int .i64 x9):=ka4.cell 9
 have gr4_9:w4.cell? ⟨w.heap.size+1,9,none⟩=some (.int .i64 0):=kr4.cell 9
 have go4_9:w4.cell? ⟨w.heap.size+1+1,9,none⟩=some (.int .i64 x9):=ko4.cell 9
 have fr4_9:=kr4.frozen 9
 have fo4_9:=ko4.frozen 9
 have ga4_10:w4.cell? ⟨w.heap.size,10,none⟩=some (.slice A10 x10.length c10):=ka4.cell 10
 have gr4_10:w4.cell? ⟨w.heap.size+1,10,none⟩=some (.slice none 0 0):=kr4.cell 10
 have go4_10:w4.cell? ⟨w.heap.size+1+1,10,none⟩=some (.slice D10 x10.length d10):=ko4.cell 10
 have fr4_10:=kr4.frozen 10
 have fo4_10:=ko4.frozen 10
 have ga4_11:w4.cell? ⟨w.heap.size,11,none⟩=some (.slice A11 x11.length c11):=ka4.cell 11
 have gr4_11:w4.cell? ⟨w.heap.size+1,11,none⟩=some (.slice none 0 0):=kr4.cell 11
 have go4_11:w4.cell? ⟨w.heap.size+1+1,11,none⟩=some (.slice none 0 0):=ko4.cell 11
 have fr4_11:=kr4.frozen 11
 have fo4_11:=ko4.frozen 11
 have ga4_12:w4.cell? ⟨w.heap.size,12,none⟩=some (.slice A12 x12.length c12):=ka4.cell 12
 have gr4_12:w4.cell? ⟨w.heap.size+1,12,none⟩=some (.slice none 0 0):=kr4.cell 12
 have go4_12:w4.cell? ⟨w.heap.size+1+1,12,none⟩=some (.slice none 0 0):=ko4.cell 12
 have fr4_12:=kr4.frozen 12
 have fo4_12:=ko4.frozen 12
 go_wp2_with fail
 have vv4:Up w (setCells w4 (w.heap.size+1+1) 11 [.slice D11 x11.length d11]):=(uu4.sets (g:=(w.heap.size+1+1)) (by omega) 11 [.slice D11 x11.length d11])
 have ja4:Bk (setCells w4 (w.heap.size+1+1) 11 [.slice D11 x11.length d11]) w.heap.size 34 #[.int .i64 x0,.slice A1 x1.length c1,.slice A2 x2.length c2,.int .i64 x3,.int .i64 x4,.int .i64 x5,.slice A6 x6.length c6,.int .i64 x7,.int .i64 x8,.int .i64 x9,.slice A10 x10.length c10,.slice A11 x11.length c11,.slice A12 x12.length c12]:=(ka4.far (p:=⟨(w.heap.size+1+1),11,none⟩) (by dsimp only;omega) (.slice D11 x11.length d11))
 have jr4:Bk (setCells w4 (w.heap.size+1+1) 11 [.slice D11 x11.length d11]) (w.heap.size+1) 50 #[.int .i64 0,.slice none 0 0,.slice none 0 0,.int .i64 0,.int .i64 0,.int .i64 0,.slice none 0 0,.int .i64 0,.int .i64 0,.int .i64 0,.slice none 0 0,.slice none 0 0,.slice none 0 0]:=(kr4.far (p:=⟨(w.heap.size+1+1),11,none⟩) (by dsimp only;omega) (.slice D11 x11.length d11))
 have jo4:Bk (setCells w4 (w.heap.size+1+1) 11 [.slice D11 x11.length d11]) (w.heap.size+1+1) 50 #[.int .i64 x0,.slice D1 x1.length d1,.slice D2 x2.length d2,.int .i64 x3,.int .i64 x4,.int .i64 x5,.slice D6 x6.length d6,.int .i64 x7,.int .i64 x8,.int .i64 x9,.slice D10 x10.length d10,.slice D11 x11.length d11,.slice none 0 0]:=(ko4.set 11 (.slice D11 x11.length d11))
 have sz4:w4.heap.size=(setCells w4 (w.heap.size+1+1) 11 [.slice D11 x11.length d11]).heap.size:=by simp only [setCells_size]
 have p4_0:=(own_set good_Disk s4_0 (w.heap.size+1+1) 11 [.slice D11 x11.length d11] (by omega))
 have p4_3:=(own_set good_Top s4_3 (w.heap.size+1+1) 11 [.slice D11 x11.length d11] (by omega))
 have p4_7:=(own_set good_Top s4_7 (w.heap.size+1+1) 11 [.slice D11 x11.length d11] (by omega))
 have p4_11:=(s4_11.set good_Seat (w.heap.size+1+1) 11 [.slice D11 x11.length d11] (by omega))
 refine (c_toInt64S _ _ _ _ (b12.up good_I vv4) hl12).mono ?_
 rintro e w5 ⟨D12,d12,bl12,rfl,o12,nd12,u5⟩
 have uu5:=vv4.trans u5
 have ka5:=ja4.up u5
 have kr5:=jr4.up u5
 have ko5:=jo4.up u5
 have s5_0:=own_up good_Disk p4_0 u5
 have s5_3:=own_up good_Top p4_3 u5
 have s5_7:=own_up good_Top p4_7 u5
 have s5_11:=p4_11.up good_Seat u5
 have zz5:=u5.size
 rw [← sz4] at zz5
 have s5_12:SO shI w5 w4.heap.size w5.heap.size D12 d12 x12 bl12:=by rw [sz4];exact o12
 have nn5:(((((bl0)++bl3)++bl7)++bl11)++bl12).Nodup:=nodup_two (m:=w4.heap.size) nn4 nd12 mm4 (fun b hb=>(s5_12.in_ good_I b hb).1)
 have mm5:∀b∈((((bl0)++bl3)++bl7)++bl11)++bl12,b<w5.heap.size:=mem_lt_two (fun b hb=>Nat.lt_of_lt_of_le (mm4 b hb) zz5) (fun b hb=>(s5_12.in_ good_I b hb).2)
 clear ja4 jr4 jo4 u5 o12 p4_0 p4_3 p4_7 p4_11 ka4 kr4 ko4 s4_0 s4_3 s4_7 s4_11 ga4_0 gr4_0 go4_0 fr4_0 fo4_0 ga4_1 gr4_1 go4_1 fr4_1 fo4_1 ga4_2 gr4_2 go4_2 fr4_2 fo4_2 ga4_3 gr4_3 go4_3 fr4_3 fo4_3 ga4_4 gr4_4 go4_4 fr4_4 fo4_4 ga4_5 gr4_5 go4_5 fr4_5 fo4_5 ga4_6 gr4_6 go4_6 fr4_6 fo4_6 ga4_7 gr4_7 go4_7 fr4_7 fo4_7 ga4_8 gr4_8 go4_8 fr4_8 fo4_8 ga4_9 gr4_9 go4_9 fr4_9 fo4_9 ga4_10 gr4_10 go4_10 fr4_10 fo4_10 ga4_11 gr4_11 go4_11 fr4_11 fo4_11 ga4_12 gr4_12 go4_12 fr4_12 fo4_12
 have ga5_0:w5.cell? ⟨w.heap.size,0,none⟩=some (.int .i64 x0):=ka5.cell 0
 have gr5_0:w5.cell? ⟨w.heap.size+1,0,none⟩=some (.int .i64 0):=kr5.cell 0
 have go5_0:w5.cell? ⟨w.heap.size+1+1,0,none⟩=some (.int .i64 x0):=ko5.cell 0
 have fr5_0:=kr5.frozen 0
 have fo5_0:=ko5.frozen 0
 have ga5_1:w5.cell? ⟨w.heap.size,1,none⟩=some (.slice A1 x1.length c1):=ka5.cell 1
 have gr5_1:w5.cell? ⟨w.heap.size+1,1,none⟩=some (.slice none 0 0):=kr5.cell 1
 have go5_1:w5.cell? ⟨w.heap.size+1+1,1,none⟩=some (.slice D1 x1.length d1):=ko5.cell 1
 have fr5_1:=kr5.frozen 1
 have fo5_1:=ko5.frozen 1
 have ga5_2:w5.cell? ⟨w.heap.size,2,none⟩=some (.slice A2 x2.length c2):=ka5.cell 2
 have gr5_2:w5.cell? ⟨w.heap.size+1,2,none⟩=some (.slice none 0 0):=kr5.cell 2
 have go5_2:w5.cell? ⟨w.heap.size+1+1,2,none⟩=some (.slice D2 x2.length d2):=ko5.cell 2
 have fr5_2:=kr5.frozen 2
 have fo5_2:=ko5.frozen 2
 have ga5_3:w5.cell? ⟨w.heap.size,3,none⟩=some (.int .i64 x3):=ka5.cell 3
 have gr5_3:w5.cell? ⟨w.heap.size+1,3,none⟩=some (.int .i64 0):=kr5.cell 3
 have go5_3:w5.cell? ⟨w.heap.size+1+1,3,none⟩=some (.int .i64 x3):=ko5.cell 3
 have fr5_3:=kr5.frozen 3
 have fo5_3:=ko5.frozen 3
 have ga5_4:w5.cell? ⟨w.heap.size,4,none⟩=some (.int .i64 x4):=ka5.cell 4
 have gr5_4:w5.cell? ⟨w.heap.size+1,4,none⟩=some (.int .i64 0):=kr5.cell 4
 have go5_4:w5.cell? ⟨w.heap.size+1+1,4,none⟩=some (.int .i64 x4):=ko5.cell 4
 have fr5_4:=kr5.frozen 4
 have fo5_4:=ko5.frozen 4
 have ga5_5:w5.cell? ⟨w.heap.size,5,none⟩=some (.int .i64 x5):=ka5.cell 5
 have gr5_5:w5.cell? ⟨w.heap.size+1,5,none⟩=some (.int .i64 0):=kr5.cell 5
 have go5_5:w5.cell? ⟨w.heap.size+1+1,5,none⟩=some (.int .i64 x5):=ko5.cell 5
 have fr5_5:=kr5.frozen 5
 have fo5_5:=ko5.frozen 5
 have ga5_6:w5.cell? ⟨w.heap.size,6,none⟩=some (.slice A6 x6.length c6):=ka5.cell 6
 have gr5_6:w5.cell? ⟨w.heap.size+1,6,none⟩=some (.slice none 0 0):=kr5.cell 6
 have go5_6:w5.cell? ⟨w.heap.size+1+1,6,none⟩=some (.slice D6 x6.length d6):=ko5.cell 6
 have fr5_6:=kr5.frozen 6
 have fo5_6:=ko5.frozen 6
 have ga5_7:w5.cell? ⟨w.heap.size,7,none⟩=some (.int .i64 x7):=ka5.cell 7
 have gr5_7:w5.cell? ⟨w.heap.size+1,7,none⟩=some (.int .i64 0):=kr5.cell 7
 have go5_7:w5.cell? ⟨w.heap.size+1+1,7,none⟩=some (.int .i64 x7):=ko5.cell 7
 have fr5_7:=kr5.frozen 7
 have fo5_7:=ko5.frozen 7
 have ga5_8:w5.cell? ⟨w.heap.size,8,none⟩=some (.int .i64 x8):=ka5.cell 8
 have gr5_8:w5.cell? ⟨w.heap.size+1,8,none⟩=some (.int .i64 0):=kr5.cell 8
 have go5_8:w5.cell? ⟨w.heap.size+1+1,8,none⟩=some (.int .i64 x8):=ko5.cell 8
 have fr5_8:=kr5.frozen 8
 have fo5_8:=ko5.frozen 8
 have ga5_9:w5.cell? ⟨w.heap.size,9,none⟩=some (.int .i64 x9):=ka5.cell 9
 have gr5_9:w5.cell? ⟨w.heap.size+1,9,none⟩=some (.int .i64 0):=kr5.cell 9
 have go5_9:w5.cell? ⟨w.heap.size+1+1,9,none⟩=some (.int .i64 x9):=ko5.cell 9
 have fr5_9:=kr5.frozen 9
 have fo5_9:=ko5.frozen 9
 have ga5_10:w5.cell? ⟨w.heap.size,10,none⟩=some (.slice A10 x10.length c10):=ka5.cell 10
 have gr5_10:w5.cell? ⟨w.heap.size+1,10,none⟩=some (.slice none 0 0):=kr5.cell 10
 have go5_10:w5.cell? ⟨w.heap.size+1+1,10,none⟩=some (.slice D10 x10.length d10):=ko5.cell 10
 have fr5_10:=kr5.frozen 10
 have fo5_10:=ko5.frozen 10
 have ga5_11:w5.cell? ⟨w.heap.size,11,none⟩=some (.slice A11 x11.length c11):=ka5.cell 11
 have gr5_11:w5.cell? ⟨w.heap.size+1,11,none⟩=some (.slice none 0 0):=kr5.cell 11
 have go5_11:w5.cell? ⟨w.heap.size+1+1,11,none⟩=some (.slice D11 x11.length d11):=ko5.cell 11
 have fr5_11:=kr5.frozen 11
 have fo5_11:=ko5.frozen 11
 have ga5_12:w5.cell? ⟨w.heap.size,12,none⟩=some (.slice A12 x12.length c12):=ka5.cell 12
 have gr5_12:w5.cell? ⟨w.heap.size+1,12,none⟩=some (.slice none 0 0):=kr5.cell 12
 have go5_12:w5.cell? ⟨w.heap.size+1+1,12,none⟩=some (.slice none 0 0):=ko5.cell 12
 have fr5_12:=kr5.frozen 12
 have fo5_12:=ko5.frozen 12
 go_wp2_with fail
 have z_0:=good_Disk.own_wide (lo':=w.heap.size) (own_set good_Disk (own_set good_Disk s5_0 (w.heap.size+1+1) 12 [.slice D12 x12.length d12] (by omega)) (w.heap.size+1) 0 [.int .i64 x0,.slice D1 x1.length d1,.slice D2 x2.length d2,.int .i64 x3,.int .i64 x4,.int .i64 x5,.slice D6 x6.length d6,.int .i64 x7,.int .i64 x8,.int .i64 x9,.slice D10 x10.length d10,.slice D11 x11.length d11,.slice D12 x12.length d12] (by omega)) (by omega) (Nat.le_refl _)
 have z_3:=good_Top.own_wide (lo':=w.heap.size) (own_set good_Top (own_set good_Top s5_3 (w.heap.size+1+1) 12 [.slice D12 x12.length d12] (by omega)) (w.heap.size+1) 0 [.int .i64 x0,.slice D1 x1.length d1,.slice D2 x2.length d2,.int .i64 x3,.int .i64 x4,.int .i64 x5,.slice D6 x6.length d6,.int .i64 x7,.int .i64 x8,.int .i64 x9,.slice D10 x10.length d10,.slice D11 x11.length d11,.slice D12 x12.length d12] (by omega)) (by omega) (Nat.le_refl _)
 have z_7:=good_Top.own_wide (lo':=w.heap.size) (own_set good_Top (own_set good_Top s5_7 (w.heap.size+1+1) 12 [.slice D12 x12.length d12] (by omega)) (w.heap.size+1) 0 [.int .i64 x0,.slice D1 x1.length d1,.slice D2 x2.length d2,.int .i64 x3,.int .i64 x4,.int .i64 x5,.slice D6 x6.length d6,.int .i64 x7,.int .i64 x8,.int .i64 x9,.slice D10 x10.length d10,.slice D11 x11.length d11,.slice D12 x12.length d12] (by omega)) (by omega) (Nat.le_refl _)
 have z_11:=((s5_11.set good_Seat (w.heap.size+1+1) 12 [.slice D12 x12.length d12] (by omega)).set good_Seat (w.heap.size+1) 0 [.int .i64 x0,.slice D1 x1.length d1,.slice D2 x2.length d2,.int .i64 x3,.int .i64 x4,.int .i64 x5,.slice D6 x6.length d6,.int .i64 x7,.int .i64 x8,.int .i64 x9,.slice D10 x10.length d10,.slice D11 x11.length d11,.slice D12 x12.length d12] (by omega)).wide good_Seat (lo':=w.heap.size) (by omega) (Nat.le_refl _)
 have z_12:=((s5_12.set good_I (w.heap.size+1+1) 12 [.slice D12 x12.length d12] (by omega)).set good_I (w.heap.size+1) 0 [.int .i64 x0,.slice D1 x1.length d1,.slice D2 x2.length d2,.int .i64 x3,.int .i64 x4,.int .i64 x5,.slice D6 x6.length d6,.int .i64 x7,.int .i64 x8,.int .i64 x9,.slice D10 x10.length d10,.slice D11 x11.length d11,.slice D12 x12.length d12] (by omega)).wide good_I (lo':=w.heap.size) (by omega) (Nat.le_refl _)
 have fu:=((uu5.sets (g:=(w.heap.size+1+1)) (by omega) 12 [.slice D12 x12.length d12]).sets (g:=(w.heap.size+1)) (by omega) 0 [.int .i64 x0,.slice D1 x1.length d1,.slice D2 x2.length d2,.int .i64 x3,.int .i64 x4,.int .i64 x5,.slice D6 x6.length d6,.int .i64 x7,.int .i64 x8,.int .i64 x9,.slice D10 x10.length d10,.slice D11 x11.length d11,.slice D12 x12.length d12])
 refine bodyPost_ret (v:=.agg #[.int .i64 x0,.slice D1 x1.length d1,.slice D2 x2.length d2,.int .i64 x3,.int .i64 x4,.int .i64 x5,.slice D6 x6.length d6,.int .i64 x7,.int .i64 x8,.int .i64 x9,.slice D10 x10.length d10,.slice D11 x11.length d11,.slice D12 x12.length d12]) (by simp [results,Tryz.results17,go_sem,gr5_0,gr5_1,gr5_2,gr5_3,gr5_4,gr5_5,gr5_6,gr5_7,gr5_8,gr5_9,gr5_10,gr5_11,gr5_12]) rfl ?_
 exact ⟨[.int .i64 x0,.slice D1 x1.length d1,.slice D2 x2.length d2,.int .i64 x3,.int .i64 x4,.int .i64 x5,.slice D6 x6.length d6,.int .i64 x7,.int .i64 x8,.int .i64 x9,.slice D10 x10.length d10,.slice D11 x11.length d11,.slice D12 x12.length d12],_,rfl,asmCache z_0 z_3 z_7 z_11 z_12,by simpa using nn5,fu⟩
end Go.Proofs.YthdnicfbnihoaaaGreatDoor
