/-
 Parts of the proof.
-/
import Derived.Test.YtojmcmghmnfjeaaGreatDoorM1E
set_option maxHeartbeats 4000000
set_option maxRecDepth 100000
namespace Go.Proofs.YtojmcmghmnfjeaaGreatDoor
open Go.RowKit
theorem c_szStringS (xs:List ByteArray) (A:Option Addr) (c:Nat) (left:Int) (w:World) (h:SRW shS w A c xs) (h0:0≤left) (h1:left≤1048576) :
 Calls Tryz.prog 92 #[.slice A xs.length c,.int .i64 left] w (SzP left ((shL shS).sz xs) w):=by
 have hlen:=h.len_le
 have hsz:(shL shS).sz xs=xs.length+(xs.map shS.sz).sum:=rfl
 have HS:=Hd hsz;clear hsz
 go_enter Tryz.func92,Tryz.ntmps92
 go_wp2
 ·go_ret
  exact SzP.no (by rw [HS.out];omega) (Up.refl _)
 ·go_loop [1,5] (fun l i=>∃k:Nat,k≤xs.length∧i=.int .i64 k∧l=.int .i64 (left-xs.length-psum shS.sz xs k)∧(xs.length+psum shS.sz xs k:Int)≤left) (fun _ i=>xs.length-(intOf i).toNat)
  case atStart=>exact ⟨0,Nat.zero_le _,rfl,by simp [psum_zero],by simp [psum_zero];omega⟩
  case round =>
   obtain ⟨k,hk,rfl,rfl,hp⟩:=hrel
   by_cases hlt:k<xs.length
   ·obtain ⟨g,off,rfl,_,_,hc,hb⟩:=h.at_S hlt
    have HP:=Hd (psum_succ shS.sz xs k hlt)
    have hle:=psum_le shS.sz xs (k+1)
    have hs:shS.sz xs[k]=xs[k].size:=rfl
    rw [HP.out,hs] at hle
    have HS2:=Hd hs;clear hs
    go_wp2
    ·go_ret
     exact SzP.no (by rw [HS.out];omega) (Up.refl _)
    ·go_round
     case rel=>exact ⟨k+1,by omega,by go_num,by rw [HP.out,HS2.out];go_num,by rw [HP.out,HS2.out];omega⟩
     case measure=>simp [intOf];omega
   ·have hk':k=xs.length:=by omega
    have HK:=Hd hk';clear hk'
    go_wp2
    go_ret
    exact SzP.yes (by rw [HS.out,←psum_all,←HK.out];omega) (by rw [HS.out,←psum_all,←HK.out];omega) (Up.refl _)
end Go.Proofs.YtojmcmghmnfjeaaGreatDoor
namespace Go.Proofs.YtojmcmghmnfjeaaGreatDoor
open Go.RowKit
set_option linter.unusedSimpArgs false
set_option linter.unusedVariables false
theorem c_szInt64S (xs:List Int) (A:Option Addr) (c:Nat) (left:Int) (w:World) (h:SRW shI w A c xs) (h0:0≤left) (h1:left≤1048576) :
 Calls Tryz.prog 93 #[.slice A xs.length c,.int .i64 left] w (SzP left ((shL shI).sz xs) w):=by
 have hlen:=h.len_le
 have HS:Hid ((shL shI).sz xs=xs.length):=by
  have:∀ys:List Int,(ys.map shI.sz).sum=0:=fun ys=>by induction ys with
   | nil=>rfl
   | cons y ys ih=>simp only [List.map_cons,List.sum_cons,ih];rfl
  show xs.length+(xs.map shI.sz).sum=_
  rw [this];rfl
 go_enter Tryz.func93,Tryz.ntmps93
 go_wp2
 ·go_ret
  exact SzP.no (by rw [HS.out];omega) (Up.refl _)
 ·go_ret
  exact SzP.yes (by rw [HS.out];omega) (by rw [HS.out]) (Up.refl _)
theorem c_szPage (v:Value) (x:TPage) (left:Int) (w:World) (h:AV shPage w v x) (h0:0≤left) (h1:left≤1048576) :
 Calls Tryz.prog 57 #[v,.int .i64 left] w (SzP left (shPage.sz x) w):=by
 obtain ⟨cs,rfl,h⟩:=h
 obtain ⟨x0,x1,x2,x3⟩:=x
 have ho:=openPage h
 try dsimp only at ho
 obtain ⟨A1,c1,A2,c2,A3,c3,rfl,b1,b2,b3⟩:=ho
 have HS:=Hd (show shPage.sz (x0,x1,x2,x3)=0+((shL shS).sz x1+((shL shS).sz x2+((shL shI).sz x3))) from rfl)
 have kk0:Bk (w.alloc (.cells #[.bool x0,.slice A1 x1.length c1,.slice A2 x2.length c2,.slice A3 x3.length c3] 55)) w.heap.size 55 #[.bool x0,.slice A1 x1.length c1,.slice A2 x2.length c2,.slice A3 x3.length c3]:=Bk.new _ _ _
 have uu0:Up w (w.alloc (.cells #[.bool x0,.slice A1 x1.length c1,.slice A2 x2.length c2,.slice A3 x3.length c3] 55)):=(Up.refl _).alloc _
 go_enter Tryz.func57,Tryz.ntmps57
 go_wp2_with fail
 refine (c_szStringS _ _ _ _ _ (b1.up good_S uu0) (by omega) (by omega)).mono ?_
 rintro e w1 ⟨rfl,u1⟩
 have uu1:=uu0.trans u1
 have kk1:=kk0.up u1
 have g1_1:w1.cell? ⟨w.heap.size,1,none⟩=some (.slice A1 x1.length c1):=kk1.cell 1
 have g1_2:w1.cell? ⟨w.heap.size,2,none⟩=some (.slice A2 x2.length c2):=kk1.cell 2
 have g1_3:w1.cell? ⟨w.heap.size,3,none⟩=some (.slice A3 x3.length c3):=kk1.cell 3
 by_cases q0:¬(((shL shS).sz x1:Nat):Int)≤left
 ·rw [szR_no (by omega)]
  go_wp2_with fail
  go_ret
  exact SzP.no (by rw [HS.out];omega) uu1
 replace q0:=Decidable.of_not_not q0
 rw [szR_yes q0]
 go_wp2_with fail
 refine (c_szStringS _ _ _ _ _ (b2.up good_S uu1) (by omega) (by omega)).mono ?_
 rintro e w2 ⟨rfl,u2⟩
 have uu2:=uu1.trans u2
 have kk2:=kk1.up u2
 have g2_2:w2.cell? ⟨w.heap.size,2,none⟩=some (.slice A2 x2.length c2):=kk2.cell 2
 have g2_3:w2.cell? ⟨w.heap.size,3,none⟩=some (.slice A3 x3.length c3):=kk2.cell 3
 by_cases q1:¬(((shL shS).sz x2:Nat):Int)≤left-((shL shS).sz x1:Nat)
 ·rw [szR_no (by omega)]
  go_wp2_with fail
  go_ret
  exact SzP.no (by rw [HS.out];omega) uu2
 replace q1:=Decidable.of_not_not q1
 rw [szR_yes q1]
 go_wp2_with fail
 refine (c_szInt64S _ _ _ _ _ (b3.up good_I uu2) (by omega) (by omega)).mono ?_
 rintro e w3 ⟨rfl,u3⟩
 have uu3:=uu2.trans u3
 have kk3:=kk2.up u3
 have g3_3:w3.cell? ⟨w.heap.size,3,none⟩=some (.slice A3 x3.length c3):=kk3.cell 3
 by_cases q2:¬(((shL shI).sz x3:Nat):Int)≤left-((shL shS).sz x1:Nat)-((shL shS).sz x2:Nat)
 ·rw [szR_no (by omega)]
  go_wp2_with fail
  go_ret
  exact SzP.no (by rw [HS.out];omega) uu3
 replace q2:=Decidable.of_not_not q2
 rw [szR_yes q2]
 go_wp2_with fail
 go_ret
 exact SzP.yes (by rw [HS.out];omega) (by rw [HS.out] <;> omega) uu3
theorem c_szSlot (v:Value) (x:TSlot) (left:Int) (w:World) (h:AV shSlot w v x) (h0:0≤left) (h1:left≤1048576) :
 Calls Tryz.prog 26 #[v,.int .i64 left] w (SzP left (shSlot.sz x) w):=by
 obtain ⟨cs,rfl,h⟩:=h
 obtain ⟨x0,⟨x1,x2,x3,x4⟩⟩:=x
 have ho:=openSlot h
 try dsimp only at ho
 obtain ⟨A2,c2,A3,c3,A4,c4,rfl,b0,b2,b3,b4⟩:=ho
 have HS:=Hd (show shSlot.sz (x0,(x1,x2,x3,x4))=0+(shPage.sz (x1,x2,x3,x4)) from rfl)
 have kk0:Bk (w.alloc (.cells #[.int .i64 x0,.bool x1,.slice A2 x2.length c2,.slice A3 x3.length c3,.slice A4 x4.length c4] 57)) w.heap.size 57 #[.int .i64 x0,.bool x1,.slice A2 x2.length c2,.slice A3 x3.length c3,.slice A4 x4.length c4]:=Bk.new _ _ _
 have uu0:Up w (w.alloc (.cells #[.int .i64 x0,.bool x1,.slice A2 x2.length c2,.slice A3 x3.length c3,.slice A4 x4.length c4] 57)):=(Up.refl _).alloc _
 go_enter Tryz.func26,Tryz.ntmps26
 go_wp2_with fail
 refine (c_szPage _ (x1,x2,x3,x4) _ _ ⟨_,rfl,mkPage (x:=(x1,x2,x3,x4)) (b2.up good_S uu0) (b3.up good_S uu0) (b4.up good_I uu0)⟩ (by omega) (by omega)).mono ?_
 rintro e w1 ⟨rfl,u1⟩
 have uu1:=uu0.trans u1
 have kk1:=kk0.up u1
 have g1_1:w1.cell? ⟨w.heap.size,1,none⟩=some (.bool x1):=kk1.cell 1
 have g1_2:w1.cell? ⟨w.heap.size,2,none⟩=some (.slice A2 x2.length c2):=kk1.cell 2
 have g1_3:w1.cell? ⟨w.heap.size,3,none⟩=some (.slice A3 x3.length c3):=kk1.cell 3
 have g1_4:w1.cell? ⟨w.heap.size,4,none⟩=some (.slice A4 x4.length c4):=kk1.cell 4
 by_cases q0:¬((shPage.sz (x1,x2,x3,x4):Nat):Int)≤left
 ·rw [szR_no (by omega)]
  go_wp2_with fail
  go_ret
  exact SzP.no (by rw [HS.out];omega) uu1
 replace q0:=Decidable.of_not_not q0
 rw [szR_yes q0]
 go_wp2_with fail
 go_ret
 exact SzP.yes (by rw [HS.out];omega) (by rw [HS.out] <;> omega) uu1
theorem c_szSlotS (xs:List TSlot) (A:Option Addr) (c:Nat) (left:Int) (w:World) (h:SRW shSlot w A c xs) (h0:0≤left) (h1:left≤1048576) :
 Calls Tryz.prog 11 #[.slice A xs.length c,.int .i64 left] w (SzP left ((shL shSlot).sz xs) w):=by
 have hlen:=h.len_le
 have HS:=Hd (show (shL shSlot).sz xs=xs.length+(xs.map shSlot.sz).sum from rfl)
 go_enter Tryz.func11,Tryz.ntmps11
 go_wp2
 ·go_ret
  exact SzP.no (by rw [HS.out];omega) (Up.refl _)
 ·go_loopw [1,5] (fun l i wr=>∃k:Nat,k≤xs.length∧i=.int .i64 k∧l=.int .i64 (left-xs.length-psum shSlot.sz xs k)∧(xs.length+psum shSlot.sz xs k:Int)≤left∧Up w wr) (fun _ i _=>xs.length-(intOf i).toNat)
  case atStart=>exact ⟨0,Nat.zero_le _,rfl,by simp [psum_zero],by simp [psum_zero];omega,Up.refl _⟩
  case round =>
   obtain ⟨k,hk,rfl,rfl,hp,hu⟩:=hrel
   by_cases hlt:k<xs.length
   ·obtain ⟨g,off,A2,c2,A3,c3,A4,c4,rfl,_,_,hc0,hc1,hc2,hc3,hc4,b0,b2,b3,b4,_⟩:=atSlot (h.up good_Slot hu) hlt
    have HP:=Hd (psum_succ shSlot.sz xs k hlt)
    have hle:=psum_le shSlot.sz xs (k+1)
    rw [HP.out] at hle
    go_wp2_with fail
    refine (c_szSlot _ xs[k] _ _ ⟨_,rfl,mkSlot (x:=xs[k]) b0 b2 b3 b4⟩ (by omega) (by omega)).mono ?_
    rintro e w1 ⟨rfl,hu1⟩
    by_cases hq:(shSlot.sz xs[k]:Int)≤left-xs.length-psum shSlot.sz xs k
    ·rw [szR_yes hq]
     go_wp2_with fail
     go_roundw
     case rel=>exact ⟨k+1,by omega,by go_num,by rw [HP.out];go_num,by rw [HP.out];omega,hu.trans hu1⟩
     case measure=>simp [intOf];omega
    ·rw [szR_no (by omega)]
     go_wp2_with fail
     go_ret
     exact SzP.no (by rw [HS.out];omega) (hu.trans hu1)
   ·have HK:=Hd (show k=xs.length by omega)
    go_wp2_with fail
    go_ret
    exact SzP.yes (by rw [HS.out,←psum_all,←HK.out];omega) (by rw [HS.out,←psum_all,←HK.out];omega) hu
theorem c_szBtree (v:Value) (x:TBtree) (left:Int) (w:World) (h:AV shBtree w v x) (h0:0≤left) (h1:left≤1048576) :
 Calls Tryz.prog 4 #[v,.int .i64 left] w (SzP left (shBtree.sz x) w):=by
 obtain ⟨cs,rfl,h⟩:=h
 obtain ⟨x0,x1⟩:=x
 have ho:=openBtree h
 try dsimp only at ho
 obtain ⟨A1,c1,rfl,b0,b1⟩:=ho
 have HS:=Hd (show shBtree.sz (x0,x1)=0+((shL shSlot).sz x1) from rfl)
 have kk0:Bk (w.alloc (.cells #[.int .i64 x0,.slice A1 x1.length c1] 24)) w.heap.size 24 #[.int .i64 x0,.slice A1 x1.length c1]:=Bk.new _ _ _
 have uu0:Up w (w.alloc (.cells #[.int .i64 x0,.slice A1 x1.length c1] 24)):=(Up.refl _).alloc _
 go_enter Tryz.func4,Tryz.ntmps4
 go_wp2_with fail
 refine (c_szSlotS _ _ _ _ _ (b1.up good_Slot uu0) (by omega) (by omega)).mono ?_
 rintro e w1 ⟨rfl,u1⟩
 have uu1:=uu0.trans u1
 have kk1:=kk0.up u1
 have g1_1:w1.cell? ⟨w.heap.size,1,none⟩=some (.slice A1 x1.length c1):=kk1.cell 1
 by_cases q0:¬(((shL shSlot).sz x1:Nat):Int)≤left
 ·rw [szR_no (by omega)]
  go_wp2_with fail
  go_ret
  exact SzP.no (by rw [HS.out];omega) uu1
 replace q0:=Decidable.of_not_not q0
 rw [szR_yes q0]
 go_wp2_with fail
 go_ret
 exact SzP.yes (by rw [HS.out];omega) (by rw [HS.out] <;> omega) uu1
theorem info_String:(Tryz.prog.info? 9).map (fun i=>(i.zero,i.size,i.bytes))=some (some (.string ⟨#[]⟩),1,16):=by kernel_rfl
theorem c_toStringS (xs:List ByteArray) (A:Option Addr) (c:Nat) (w:World) (h:SRW shS w A c xs) (hn:(shL shS).sz xs≤1048576) :
 Calls Tryz.prog 101 #[.slice A xs.length c] w (ToL shS xs w):=by
 have hl:xs.length≤1048576:=Nat.le_trans (Nat.le_add_right _ _) hn
 obtain ⟨i0,hi0,hz0,hz1,hz2⟩:=info_parts info_String
 have hmk:=fun W=>run_make_rows (P:=Tryz.prog) 52 9 i0 _ Tryz.underlying52 hi0 hz0 xs.length (by rw [hz2];omega) (by omega) W
 rw [hz1] at hmk
 clear hi0 hz0 hz1 hz2
 obtain ⟨C0,hC0⟩:∃C0,C0=madeCells (Value.cells (.string ⟨#[]⟩)) (xs.length*1):=⟨_,rfl⟩
 rw [←hC0] at hmk
 have HB:Bld shS w.heap.size (w.alloc (.cells C0 9)) w.heap.size 9 C0 xs.length xs 0 :=
  Bld.start (Nat.le_refl _) (Bk.new _ _ _) (by rw [hC0,size_madeCells];rfl)
 clear hC0
 go_enter Tryz.func101,Tryz.ntmps101
 go_wp2
 go_loopw [4] (fun i wr=>∃(k:Nat) (C:Array Value),k≤xs.length∧i=.int .i64 k∧Bld shS w.heap.size wr w.heap.size 9 C xs.length xs k∧Up w wr) (fun i _=>xs.length-(intOf i).toNat)
 case atStart=>exact ⟨0,C0,Nat.zero_le _,rfl,HB,(Up.refl _).alloc _⟩
 case round =>
  obtain ⟨k,C,hk,rfl,hB,hu⟩:=hrel
  by_cases hlt:k<xs.length
  ·obtain ⟨g,off,rfl,_,_,hc,hb⟩:=(h.up good_S hu).at_S hlt
   have hbk:=hB.1
   have hC:C.size=xs.length*1:=hB.2.1
   obtain ⟨o0,hc2⟩:∃o,wr.cell? ⟨w.heap.size,k,none⟩=some o:=by rw [hbk.cell];exact ⟨_,Array.getElem?_eq_getElem (by omega)⟩
   have hf2:=hbk.frozen k
   go_wp2
   go_roundw
   case rel=>exact ⟨k+1,_,by omega,by go_num,hB.push good_S (Up.refl _) (cs:=[.string xs[k]]) (x:=xs[k]) (b:=[]) ⟨⟨rfl,by unfold maxLen;omega⟩,rfl⟩ (by simp) (List.getElem?_eq_getElem hlt) hlt (But.set _ _ _ _) (by simpa [putCells,shS] using hbk.set k (.string xs[k])),hu.setCell (Nat.le_refl _) _⟩
   case measure=>simp [intOf];omega
  ·obtain ⟨bl,hso,hnd⟩:=hB.done (c:=xs.length) (by omega) (Nat.le_refl _) (by unfold maxLen;omega) (Nat.le_refl _)
   go_wp2
   go_ret
   exact ⟨_,_,bl,rfl,hso,hnd,hu⟩
theorem info_Int64:(Tryz.prog.info? 2).map (fun i=>(i.zero,i.size,i.bytes))=some (some (.int .i64 0),1,8):=by kernel_rfl
theorem c_toInt64S (xs:List Int) (A:Option Addr) (c:Nat) (w:World) (h:SRW shI w A c xs) (hn:(shL shI).sz xs≤1048576) :
 Calls Tryz.prog 102 #[.slice A xs.length c] w (ToL shI xs w):=by
 have hl:xs.length≤1048576:=Nat.le_trans (Nat.le_add_right _ _) hn
 obtain ⟨i0,hi0,hz0,hz1,hz2⟩:=info_parts info_Int64
 have hmk:=fun W=>run_make_rows (P:=Tryz.prog) 53 2 i0 _ Tryz.underlying53 hi0 hz0 xs.length (by rw [hz2];omega) (by omega) W
 rw [hz1] at hmk
 clear hi0 hz0 hz1 hz2
 obtain ⟨C0,hC0⟩:∃C0,C0=madeCells (Value.cells (.int .i64 0)) (xs.length*1):=⟨_,rfl⟩
 rw [←hC0] at hmk
 have HB:Bld shI w.heap.size (w.alloc (.cells C0 2)) w.heap.size 2 C0 xs.length xs 0 :=
  Bld.start (Nat.le_refl _) (Bk.new _ _ _) (by rw [hC0,size_madeCells];rfl)
 clear hC0
 go_enter Tryz.func102,Tryz.ntmps102
 go_wp2
 go_loopw [4] (fun i wr=>∃(k:Nat) (C:Array Value),k≤xs.length∧i=.int .i64 k∧Bld shI w.heap.size wr w.heap.size 2 C xs.length xs k∧Up w wr) (fun i _=>xs.length-(intOf i).toNat)
 case atStart=>exact ⟨0,C0,Nat.zero_le _,rfl,HB,(Up.refl _).alloc _⟩
 case round =>
  obtain ⟨k,C,hk,rfl,hB,hu⟩:=hrel
  by_cases hlt:k<xs.length
  ·obtain ⟨g,off,rfl,_,_,hc,hb⟩:=(h.up good_I hu).at_I hlt
   have hbk:=hB.1
   have hC:C.size=xs.length*1:=hB.2.1
   obtain ⟨o0,hc2⟩:∃o,wr.cell? ⟨w.heap.size,k,none⟩=some o:=by rw [hbk.cell];exact ⟨_,Array.getElem?_eq_getElem (by omega)⟩
   have hf2:=hbk.frozen k
   go_wp2
   go_roundw
   case rel=>exact ⟨k+1,_,by omega,by go_num,hB.push good_I (Up.refl _) (cs:=[.int .i64 xs[k]]) (x:=xs[k]) (b:=[]) ⟨⟨rfl,hb⟩,rfl⟩ (by simp) (List.getElem?_eq_getElem hlt) hlt (But.set _ _ _ _) (by simpa [putCells,shI] using hbk.set k (.int .i64 xs[k])),hu.setCell (Nat.le_refl _) _⟩
   case measure=>simp [intOf];omega
  ·obtain ⟨bl,hso,hnd⟩:=hB.done (c:=xs.length) (by omega) (Nat.le_refl _) (by unfold maxLen;omega) (Nat.le_refl _)
   go_wp2
   go_ret
   exact ⟨_,_,bl,rfl,hso,hnd,hu⟩
theorem asmPage {w:World} {lo hi:Nat} {x0:Bool} {x1:List ByteArray} {D1:Option Addr} {d1:Nat} {x2:List ByteArray} {D2:Option Addr} {d2:Nat} {x3:List Int} {D3:Option Addr} {d3:Nat} {bl1:List Nat} {bl2:List Nat} {bl3:List Nat} (h1:SO shS w lo hi D1 d1 x1 bl1) (h2:SO shS w lo hi D2 d2 x2 bl2) (h3:SO shI w lo hi D3 d3 x3 bl3):shPage.own w lo hi [.bool x0,.slice D1 x1.length d1,.slice D2 x2.length d2,.slice D3 x3.length d3] (x0,x1,x2,x3) (bl1++bl2++bl3):=by
 have h:shPage.own w lo hi [.bool x0,.slice D1 x1.length d1,.slice D2 x2.length d2,.slice D3 x3.length d3] (x0,x1,x2,x3) _:=(mkO_P (a:=shB) (x:=(x0,x1,x2,x3)) good_B ⟨rfl,rfl⟩ (mkO_P (a:=(shL shS)) (x:=(x1,x2,x3)) (good_L good_S) ⟨D1,d1,rfl,h1⟩ (mkO_P (a:=(shL shS)) (x:=(x2,x3)) (good_L good_S) ⟨D2,d2,rfl,h2⟩ ⟨D3,d3,rfl,h3⟩)))
 simpa using h
theorem c_toPage (v:Value) (x:TPage) (w:World) (h:AV shPage w v x) (hn:shPage.sz x≤1048576) :
 Calls Tryz.prog 70 #[v] w (ToV shPage x w):=by
 obtain ⟨cs,rfl,h⟩:=h
 obtain ⟨x0,x1,x2,x3⟩:=x
 have ho:=openPage h
 try dsimp only at ho
 obtain ⟨A1,c1,A2,c2,A3,c3,rfl,b1,b2,b3⟩:=ho
 have hs:shPage.sz (x0,x1,x2,x3)=0+((shL shS).sz x1+((shL shS).sz x2+((shL shI).sz x3))):=rfl
 have hl1:(shL shS).sz x1≤1048576:=by omega
 have hl2:(shL shS).sz x2≤1048576:=by omega
 have hl3:(shL shI).sz x3≤1048576:=by omega
 clear hs hn
 go_enter Tryz.func70,Tryz.ntmps70
 go_wp2_with fail
 have vv0:Up w (((w.alloc (.cells #[.bool x0,.slice A1 x1.length c1,.slice A2 x2.length c2,.slice A3 x3.length c3] 55)).alloc (.cells #[.bool false,.slice none 0 0,.slice none 0 0,.slice none 0 0] 58)).alloc (.cells #[.bool x0,.slice none 0 0,.slice none 0 0,.slice none 0 0] 58)):=(((Up.refl _).alloc _).alloc _).alloc _
 have ja0:Bk (((w.alloc (.cells #[.bool x0,.slice A1 x1.length c1,.slice A2 x2.length c2,.slice A3 x3.length c3] 55)).alloc (.cells #[.bool false,.slice none 0 0,.slice none 0 0,.slice none 0 0] 58)).alloc (.cells #[.bool x0,.slice none 0 0,.slice none 0 0,.slice none 0 0] 58)) w.heap.size 55 #[.bool x0,.slice A1 x1.length c1,.slice A2 x2.length c2,.slice A3 x3.length c3]:=((Bk.new _ _ _).alloc _).alloc _
 have jr0:Bk (((w.alloc (.cells #[.bool x0,.slice A1 x1.length c1,.slice A2 x2.length c2,.slice A3 x3.length c3] 55)).alloc (.cells #[.bool false,.slice none 0 0,.slice none 0 0,.slice none 0 0] 58)).alloc (.cells #[.bool x0,.slice none 0 0,.slice none 0 0,.slice none 0 0] 58)) (w.heap.size+1) 58 #[.bool false,.slice none 0 0,.slice none 0 0,.slice none 0 0]:=by simpa using (Bk.new (w.alloc (.cells #[.bool x0,.slice A1 x1.length c1,.slice A2 x2.length c2,.slice A3 x3.length c3] 55)) 58 #[.bool false,.slice none 0 0,.slice none 0 0,.slice none 0 0]).alloc (.cells #[.bool x0,.slice none 0 0,.slice none 0 0,.slice none 0 0] 58)
 have jo0:Bk (((w.alloc (.cells #[.bool x0,.slice A1 x1.length c1,.slice A2 x2.length c2,.slice A3 x3.length c3] 55)).alloc (.cells #[.bool false,.slice none 0 0,.slice none 0 0,.slice none 0 0] 58)).alloc (.cells #[.bool x0,.slice none 0 0,.slice none 0 0,.slice none 0 0] 58)) (w.heap.size+1+1) 58 #[.bool x0,.slice none 0 0,.slice none 0 0,.slice none 0 0]:=by simpa using Bk.new ((w.alloc (.cells #[.bool x0,.slice A1 x1.length c1,.slice A2 x2.length c2,.slice A3 x3.length c3] 55)).alloc (.cells #[.bool false,.slice none 0 0,.slice none 0 0,.slice none 0 0] 58)) 58 #[.bool x0,.slice none 0 0,.slice none 0 0,.slice none 0 0]
 have sz0:w.heap.size+1+1+1=(((w.alloc (.cells #[.bool x0,.slice A1 x1.length c1,.slice A2 x2.length c2,.slice A3 x3.length c3] 55)).alloc (.cells #[.bool false,.slice none 0 0,.slice none 0 0,.slice none 0 0] 58)).alloc (.cells #[.bool x0,.slice none 0 0,.slice none 0 0,.slice none 0 0] 58)).heap.size:=by simp
 refine (c_toStringS _ _ _ _ (b1.up good_S vv0) hl1).mono ?_
 rintro e w1 ⟨D1,d1,bl1,rfl,o1,nd1,u1⟩
 have uu1:=vv0.trans u1
 have ka1:=ja0.up u1
 have kr1:=jr0.up u1
 have ko1:=jo0.up u1
 have zz1:=u1.size
 rw [←sz0] at zz1
 have s1_1:SO shS w1 (w.heap.size+1+1+1) w1.heap.size D1 d1 x1 bl1:=by rw [sz0];exact o1
 have nn1:(bl1).Nodup:=nd1
 have mm1:∀b∈bl1,b<w1.heap.size:=fun b hb=>(s1_1.in_ good_S b hb).2
 clear ja0 jr0 jo0 u1 o1
 have ga1_0:w1.cell? ⟨w.heap.size,0,none⟩=some (.bool x0):=ka1.cell 0
 have gr1_0:w1.cell? ⟨w.heap.size+1,0,none⟩=some (.bool false):=kr1.cell 0
 have go1_0:w1.cell? ⟨w.heap.size+1+1,0,none⟩=some (.bool x0):=ko1.cell 0
 have fr1_0:=kr1.frozen 0
 have fo1_0:=ko1.frozen 0
 have ga1_1:w1.cell? ⟨w.heap.size,1,none⟩=some (.slice A1 x1.length c1):=ka1.cell 1
 have gr1_1:w1.cell? ⟨w.heap.size+1,1,none⟩=some (.slice none 0 0):=kr1.cell 1
 have go1_1:w1.cell? ⟨w.heap.size+1+1,1,none⟩=some (.slice none 0 0):=ko1.cell 1
 have fr1_1:=kr1.frozen 1
 have fo1_1:=ko1.frozen 1
 have ga1_2:w1.cell? ⟨w.heap.size,2,none⟩=some (.slice A2 x2.length c2):=ka1.cell 2
 have gr1_2:w1.cell? ⟨w.heap.size+1,2,none⟩=some (.slice none 0 0):=kr1.cell 2
 have go1_2:w1.cell? ⟨w.heap.size+1+1,2,none⟩=some (.slice none 0 0):=ko1.cell 2
 have fr1_2:=kr1.frozen 2
 have fo1_2:=ko1.frozen 2
 have ga1_3:w1.cell? ⟨w.heap.size,3,none⟩=some (.slice A3 x3.length c3):=ka1.cell 3
 have gr1_3:w1.cell? ⟨w.heap.size+1,3,none⟩=some (.slice none 0 0):=kr1.cell 3
 have go1_3:w1.cell? ⟨w.heap.size+1+1,3,none⟩=some (.slice none 0 0):=ko1.cell 3
 have fr1_3:=kr1.frozen 3
 have fo1_3:=ko1.frozen 3
 go_wp2_with fail
 have vv1:Up w (setCells w1 (w.heap.size+1+1) 1 [.slice D1 x1.length d1]):=(uu1.sets (g:=(w.heap.size+1+1)) (by omega) 1 [.slice D1 x1.length d1])
 have ja1:Bk (setCells w1 (w.heap.size+1+1) 1 [.slice D1 x1.length d1]) w.heap.size 55 #[.bool x0,.slice A1 x1.length c1,.slice A2 x2.length c2,.slice A3 x3.length c3]:=(ka1.far (p:=⟨(w.heap.size+1+1),1,none⟩) (by dsimp only;omega) (.slice D1 x1.length d1))
 have jr1:Bk (setCells w1 (w.heap.size+1+1) 1 [.slice D1 x1.length d1]) (w.heap.size+1) 58 #[.bool false,.slice none 0 0,.slice none 0 0,.slice none 0 0]:=(kr1.far (p:=⟨(w.heap.size+1+1),1,none⟩) (by dsimp only;omega) (.slice D1 x1.length d1))
 have jo1:Bk (setCells w1 (w.heap.size+1+1) 1 [.slice D1 x1.length d1]) (w.heap.size+1+1) 58 #[.bool x0,.slice D1 x1.length d1,.slice none 0 0,.slice none 0 0]:=(ko1.set 1 (.slice D1 x1.length d1))
 have sz1:w1.heap.size=(setCells w1 (w.heap.size+1+1) 1 [.slice D1 x1.length d1]).heap.size:=by simp only [setCells_size]
 have p1_1:=(s1_1.set good_S (w.heap.size+1+1) 1 [.slice D1 x1.length d1] (by omega))
 refine (c_toStringS _ _ _ _ (b2.up good_S vv1) hl2).mono ?_
 rintro e w2 ⟨D2,d2,bl2,rfl,o2,nd2,u2⟩
 have uu2:=vv1.trans u2
 have ka2:=ja1.up u2
 have kr2:=jr1.up u2
 have ko2:=jo1.up u2
 have s2_1:=p1_1.up good_S u2
 have zz2:=u2.size
 rw [←sz1] at zz2
 have s2_2:SO shS w2 w1.heap.size w2.heap.size D2 d2 x2 bl2:=by rw [sz1];exact o2
 have nn2:((bl1)++bl2).Nodup:=nodup_two (m:=w1.heap.size) nn1 nd2 mm1 (fun b hb=>(s2_2.in_ good_S b hb).1)
 have mm2:∀b∈(bl1)++bl2,b<w2.heap.size:=mem_lt_two (fun b hb=>Nat.lt_of_lt_of_le (mm1 b hb) zz2) (fun b hb=>(s2_2.in_ good_S b hb).2)
 clear ja1 jr1 jo1 u2 o2 p1_1 ka1 kr1 ko1 s1_1 ga1_0 gr1_0 go1_0 fr1_0 fo1_0 ga1_1 gr1_1 go1_1 fr1_1 fo1_1 ga1_2 gr1_2 go1_2 fr1_2 fo1_2 ga1_3 gr1_3 go1_3 fr1_3 fo1_3
 have ga2_0:w2.cell? ⟨w.heap.size,0,none⟩=some (.bool x0):=ka2.cell 0
 have gr2_0:w2.cell? ⟨w.heap.size+1,0,none⟩=some (.bool false):=kr2.cell 0
 have go2_0:w2.cell? ⟨w.heap.size+1+1,0,none⟩=some (.bool x0):=ko2.cell 0
 have fr2_0:=kr2.frozen 0
 have fo2_0:=ko2.frozen 0
 have ga2_1:w2.cell? ⟨w.heap.size,1,none⟩=some (.slice A1 x1.length c1):=ka2.cell 1
 have gr2_1:w2.cell? ⟨w.heap.size+1,1,none⟩=some (.slice none 0 0):=kr2.cell 1
 have go2_1:w2.cell? ⟨w.heap.size+1+1,1,none⟩=some (.slice D1 x1.length d1):=ko2.cell 1
 have fr2_1:=kr2.frozen 1
 have fo2_1:=ko2.frozen 1
 have ga2_2:w2.cell? ⟨w.heap.size,2,none⟩=some (.slice A2 x2.length c2):=ka2.cell 2
 have gr2_2:w2.cell? ⟨w.heap.size+1,2,none⟩=some (.slice none 0 0):=kr2.cell 2
 have go2_2:w2.cell? ⟨w.heap.size+1+1,2,none⟩=some (.slice none 0 0):=ko2.cell 2
 have fr2_2:=kr2.frozen 2
 have fo2_2:=ko2.frozen 2
 have ga2_3:w2.cell? ⟨w.heap.size,3,none⟩=some (.slice A3 x3.length c3):=ka2.cell 3
 have gr2_3:w2.cell? ⟨w.heap.size+1,3,none⟩=some (.slice none 0 0):=kr2.cell 3
 have go2_3:w2.cell? ⟨w.heap.size+1+1,3,none⟩=some (.slice none 0 0):=ko2.cell 3
 have fr2_3:=kr2.frozen 3
 have fo2_3:=ko2.frozen 3
 go_wp2_with fail
 have vv2:Up w (setCells w2 (w.heap.size+1+1) 2 [.slice D2 x2.length d2]):=(uu2.sets (g:=(w.heap.size+1+1)) (by omega) 2 [.slice D2 x2.length d2])
 have ja2:Bk (setCells w2 (w.heap.size+1+1) 2 [.slice D2 x2.length d2]) w.heap.size 55 #[.bool x0,.slice A1 x1.length c1,.slice A2 x2.length c2,.slice A3 x3.length c3]:=(ka2.far (p:=⟨(w.heap.size+1+1),2,none⟩) (by dsimp only;omega) (.slice D2 x2.length d2))
 have jr2:Bk (setCells w2 (w.heap.size+1+1) 2 [.slice D2 x2.length d2]) (w.heap.size+1) 58 #[.bool false,.slice none 0 0,.slice none 0 0,.slice none 0 0]:=(kr2.far (p:=⟨(w.heap.size+1+1),2,none⟩) (by dsimp only;omega) (.slice D2 x2.length d2))
 have jo2:Bk (setCells w2 (w.heap.size+1+1) 2 [.slice D2 x2.length d2]) (w.heap.size+1+1) 58 #[.bool x0,.slice D1 x1.length d1,.slice D2 x2.length d2,.slice none 0 0]:=(ko2.set 2 (.slice D2 x2.length d2))
 have sz2:w2.heap.size=(setCells w2 (w.heap.size+1+1) 2 [.slice D2 x2.length d2]).heap.size:=by simp only [setCells_size]
 have p2_1:=(s2_1.set good_S (w.heap.size+1+1) 2 [.slice D2 x2.length d2] (by omega))
 have p2_2:=(s2_2.set good_S (w.heap.size+1+1) 2 [.slice D2 x2.length d2] (by omega))
 refine (c_toInt64S _ _ _ _ (b3.up good_I vv2) hl3).mono ?_
 rintro e w3 ⟨D3,d3,bl3,rfl,o3,nd3,u3⟩
 have uu3:=vv2.trans u3
 have ka3:=ja2.up u3
 have kr3:=jr2.up u3
 have ko3:=jo2.up u3
 have s3_1:=p2_1.up good_S u3
 have s3_2:=p2_2.up good_S u3
 have zz3:=u3.size
 rw [←sz2] at zz3
 have s3_3:SO shI w3 w2.heap.size w3.heap.size D3 d3 x3 bl3:=by rw [sz2];exact o3
 have nn3:(((bl1)++bl2)++bl3).Nodup:=nodup_two (m:=w2.heap.size) nn2 nd3 mm2 (fun b hb=>(s3_3.in_ good_I b hb).1)
 have mm3:∀b∈((bl1)++bl2)++bl3,b<w3.heap.size:=mem_lt_two (fun b hb=>Nat.lt_of_lt_of_le (mm2 b hb) zz3) (fun b hb=>(s3_3.in_ good_I b hb).2)
 clear ja2 jr2 jo2 u3 o3 p2_1 p2_2 ka2 kr2 ko2 s2_1 s2_2 ga2_0 gr2_0 go2_0 fr2_0 fo2_0 ga2_1 gr2_1 go2_1 fr2_1 fo2_1 ga2_2 gr2_2 go2_2 fr2_2 fo2_2 ga2_3 gr2_3 go2_3 fr2_3 fo2_3
 have ga3_0:w3.cell? ⟨w.heap.size,0,none⟩=some (.bool x0):=ka3.cell 0
 have gr3_0:w3.cell? ⟨w.heap.size+1,0,none⟩=some (.bool false):=kr3.cell 0
 have go3_0:w3.cell? ⟨w.heap.size+1+1,0,none⟩=some (.bool x0):=ko3.cell 0
 have fr3_0:=kr3.frozen 0
 have fo3_0:=ko3.frozen 0
 have ga3_1:w3.cell? ⟨w.heap.size,1,none⟩=some (.slice A1 x1.length c1):=ka3.cell 1
 have gr3_1:w3.cell? ⟨w.heap.size+1,1,none⟩=some (.slice none 0 0):=kr3.cell 1
 have go3_1:w3.cell? ⟨w.heap.size+1+1,1,none⟩=some (.slice D1 x1.length d1):=ko3.cell 1
 have fr3_1:=kr3.frozen 1
 have fo3_1:=ko3.frozen 1
 have ga3_2:w3.cell? ⟨w.heap.size,2,none⟩=some (.slice A2 x2.length c2):=ka3.cell 2
 have gr3_2:w3.cell? ⟨w.heap.size+1,2,none⟩=some (.slice none 0 0):=kr3.cell 2
 have go3_2:w3.cell? ⟨w.heap.size+1+1,2,none⟩=some (.slice D2 x2.length d2):=ko3.cell 2
 have fr3_2:=kr3.frozen 2
 have fo3_2:=ko3.frozen 2
 have ga3_3:w3.cell? ⟨w.heap.size,3,none⟩=some (.slice A3 x3.length c3):=ka3.cell 3
 have gr3_3:w3.cell? ⟨w.heap.size+1,3,none⟩=some (.slice none 0 0):=kr3.cell 3
 have go3_3:w3.cell? ⟨w.heap.size+1+1,3,none⟩=some (.slice none 0 0):=ko3.cell 3
 have fr3_3:=kr3.frozen 3
 have fo3_3:=ko3.frozen 3
 go_wp2_with fail
 have z_1:=((s3_1.set good_S (w.heap.size+1+1) 3 [.slice D3 x3.length d3] (by omega)).set good_S (w.heap.size+1) 0 [.bool x0,.slice D1 x1.length d1,.slice D2 x2.length d2,.slice D3 x3.length d3] (by omega)).wide good_S (lo':=w.heap.size) (by omega) (Nat.le_refl _)
 have z_2:=((s3_2.set good_S (w.heap.size+1+1) 3 [.slice D3 x3.length d3] (by omega)).set good_S (w.heap.size+1) 0 [.bool x0,.slice D1 x1.length d1,.slice D2 x2.length d2,.slice D3 x3.length d3] (by omega)).wide good_S (lo':=w.heap.size) (by omega) (Nat.le_refl _)
 have z_3:=((s3_3.set good_I (w.heap.size+1+1) 3 [.slice D3 x3.length d3] (by omega)).set good_I (w.heap.size+1) 0 [.bool x0,.slice D1 x1.length d1,.slice D2 x2.length d2,.slice D3 x3.length d3] (by omega)).wide good_I (lo':=w.heap.size) (by omega) (Nat.le_refl _)
 have fu:=((uu3.sets (g:=(w.heap.size+1+1)) (by omega) 3 [.slice D3 x3.length d3]).sets (g:=(w.heap.size+1)) (by omega) 0 [.bool x0,.slice D1 x1.length d1,.slice D2 x2.length d2,.slice D3 x3.length d3])
 refine bodyPost_ret (v:=.agg #[.bool x0,.slice D1 x1.length d1,.slice D2 x2.length d2,.slice D3 x3.length d3]) (by simp [results,Tryz.results70,go_sem,gr3_0,gr3_1,gr3_2,gr3_3]) rfl ?_
 exact ⟨[.bool x0,.slice D1 x1.length d1,.slice D2 x2.length d2,.slice D3 x3.length d3],_,rfl,asmPage z_1 z_2 z_3,by simpa using nn3,fu⟩
theorem asmSlot {w:World} {lo hi:Nat} {x0:Int} {x1:Bool} {x2:List ByteArray} {D2:Option Addr} {d2:Nat} {x3:List ByteArray} {D3:Option Addr} {d3:Nat} {x4:List Int} {D4:Option Addr} {d4:Nat} {bl1:List Nat} (h0:I64 x0) (h1:shPage.own w lo hi [.bool x1,.slice D2 x2.length d2,.slice D3 x3.length d3,.slice D4 x4.length d4] (x1,x2,x3,x4) bl1):shSlot.own w lo hi [.int .i64 x0,.bool x1,.slice D2 x2.length d2,.slice D3 x3.length d3,.slice D4 x4.length d4] (x0,(x1,x2,x3,x4)) (bl1):=by
 have h:shSlot.own w lo hi [.int .i64 x0,.bool x1,.slice D2 x2.length d2,.slice D3 x3.length d3,.slice D4 x4.length d4] (x0,(x1,x2,x3,x4)) _:=(mkO_P (a:=shI) (x:=(x0,(x1,x2,x3,x4))) good_I ⟨⟨rfl,h0⟩,rfl⟩ h1)
 simpa using h
theorem c_toSlot (v:Value) (x:TSlot) (w:World) (h:AV shSlot w v x) (hn:shSlot.sz x≤1048576) :
 Calls Tryz.prog 40 #[v] w (ToV shSlot x w):=by
 obtain ⟨cs,rfl,h⟩:=h
 obtain ⟨x0,⟨x1,x2,x3,x4⟩⟩:=x
 have ho:=openSlot h
 try dsimp only at ho
 obtain ⟨A2,c2,A3,c3,A4,c4,rfl,b0,b2,b3,b4⟩:=ho
 have hs:shSlot.sz (x0,(x1,x2,x3,x4))=0+(shPage.sz (x1,x2,x3,x4)):=rfl
 have hl1:shPage.sz (x1,x2,x3,x4)≤1048576:=by omega
 clear hs hn
 go_enter Tryz.func40,Tryz.ntmps40
 go_wp2_with fail
 have vv0:Up w (((w.alloc (.cells #[.int .i64 x0,.bool x1,.slice A2 x2.length c2,.slice A3 x3.length c3,.slice A4 x4.length c4] 57)).alloc (.cells #[.int .i64 0,.bool false,.slice none 0 0,.slice none 0 0,.slice none 0 0] 60)).alloc (.cells #[.int .i64 x0,.bool false,.slice none 0 0,.slice none 0 0,.slice none 0 0] 60)):=(((Up.refl _).alloc _).alloc _).alloc _
 have ja0:Bk (((w.alloc (.cells #[.int .i64 x0,.bool x1,.slice A2 x2.length c2,.slice A3 x3.length c3,.slice A4 x4.length c4] 57)).alloc (.cells #[.int .i64 0,.bool false,.slice none 0 0,.slice none 0 0,.slice none 0 0] 60)).alloc (.cells #[.int .i64 x0,.bool false,.slice none 0 0,.slice none 0 0,.slice none 0 0] 60)) w.heap.size 57 #[.int .i64 x0,.bool x1,.slice A2 x2.length c2,.slice A3 x3.length c3,.slice A4 x4.length c4]:=((Bk.new _ _ _).alloc _).alloc _
 have jr0:Bk (((w.alloc (.cells #[.int .i64 x0,.bool x1,.slice A2 x2.length c2,.slice A3 x3.length c3,.slice A4 x4.length c4] 57)).alloc (.cells #[.int .i64 0,.bool false,.slice none 0 0,.slice none 0 0,.slice none 0 0] 60)).alloc (.cells #[.int .i64 x0,.bool false,.slice none 0 0,.slice none 0 0,.slice none 0 0] 60)) (w.heap.size+1) 60 #[.int .i64 0,.bool false,.slice none 0 0,.slice none 0 0,.slice none 0 0]:=by simpa using (Bk.new (w.alloc (.cells #[.int .i64 x0,.bool x1,.slice A2 x2.length c2,.slice A3 x3.length c3,.slice A4 x4.length c4] 57)) 60 #[.int .i64 0,.bool false,.slice none 0 0,.slice none 0 0,.slice none 0 0]).alloc (.cells #[.int .i64 x0,.bool false,.slice none 0 0,.slice none 0 0,.slice none 0 0] 60)
 have jo0:Bk (((w.alloc (.cells #[.int .i64 x0,.bool x1,.slice A2 x2.length c2,.slice A3 x3.length c3,.slice A4 x4.length c4] 57)).alloc (.cells #[.int .i64 0,.bool false,.slice none 0 0,.slice none 0 0,.slice none 0 0] 60)).alloc (.cells #[.int .i64 x0,.bool false,.slice none 0 0,.slice none 0 0,.slice none 0 0] 60)) (w.heap.size+1+1) 60 #[.int .i64 x0,.bool false,.slice none 0 0,.slice none 0 0,.slice none 0 0]:=by simpa using Bk.new ((w.alloc (.cells #[.int .i64 x0,.bool x1,.slice A2 x2.length c2,.slice A3 x3.length c3,.slice A4 x4.length c4] 57)).alloc (.cells #[.int .i64 0,.bool false,.slice none 0 0,.slice none 0 0,.slice none 0 0] 60)) 60 #[.int .i64 x0,.bool false,.slice none 0 0,.slice none 0 0,.slice none 0 0]
 have sz0:w.heap.size+1+1+1=(((w.alloc (.cells #[.int .i64 x0,.bool x1,.slice A2 x2.length c2,.slice A3 x3.length c3,.slice A4 x4.length c4] 57)).alloc (.cells #[.int .i64 0,.bool false,.slice none 0 0,.slice none 0 0,.slice none 0 0] 60)).alloc (.cells #[.int .i64 x0,.bool false,.slice none 0 0,.slice none 0 0,.slice none 0 0] 60)).heap.size:=by simp
 refine (c_toPage _ (x1,x2,x3,x4) _ ⟨_,rfl,mkPage (x:=(x1,x2,x3,x4)) (b2.up good_S vv0) (b3.up good_S vv0) (b4.up good_I vv0)⟩ hl1).mono ?_
 rintro e w1 ⟨cs1,bl1,rfl,o1,nd1,u1⟩
 obtain ⟨D2,d2,bm2,D3,d3,bm3,D4,d4,bm4,rfl,hbl1,_,_,_⟩:=openOPage o1
 have uu1:=vv0.trans u1
 have ka1:=ja0.up u1
 have kr1:=jr0.up u1
 have ko1:=jo0.up u1
 have zz1:=u1.size
 rw [←sz0] at zz1
 have s1_1:shPage.own w1 (w.heap.size+1+1+1) w1.heap.size [.bool x1,.slice D2 x2.length d2,.slice D3 x3.length d3,.slice D4 x4.length d4] (x1,x2,x3,x4) bl1:=by rw [sz0];exact o1
 have nn1:(bl1).Nodup:=nd1
 have mm1:∀b∈bl1,b<w1.heap.size:=fun b hb=>(good_Page.own_in s1_1 b hb).2
 clear ja0 jr0 jo0 u1 o1
 have ga1_0:w1.cell? ⟨w.heap.size,0,none⟩=some (.int .i64 x0):=ka1.cell 0
 have gr1_0:w1.cell? ⟨w.heap.size+1,0,none⟩=some (.int .i64 0):=kr1.cell 0
 have go1_0:w1.cell? ⟨w.heap.size+1+1,0,none⟩=some (.int .i64 x0):=ko1.cell 0
 have fr1_0:=kr1.frozen 0
 have fo1_0:=ko1.frozen 0
 have ga1_1:w1.cell? ⟨w.heap.size,1,none⟩=some (.bool x1):=ka1.cell 1
 have gr1_1:w1.cell? ⟨w.heap.size+1,1,none⟩=some (.bool false):=kr1.cell 1
 have go1_1:w1.cell? ⟨w.heap.size+1+1,1,none⟩=some (.bool false):=ko1.cell 1
 have fr1_1:=kr1.frozen 1
 have fo1_1:=ko1.frozen 1
 have ga1_2:w1.cell? ⟨w.heap.size,2,none⟩=some (.slice A2 x2.length c2):=ka1.cell 2
 have gr1_2:w1.cell? ⟨w.heap.size+1,2,none⟩=some (.slice none 0 0):=kr1.cell 2
 have go1_2:w1.cell? ⟨w.heap.size+1+1,2,none⟩=some (.slice none 0 0):=ko1.cell 2
 have fr1_2:=kr1.frozen 2
 have fo1_2:=ko1.frozen 2
 have ga1_3:w1.cell? ⟨w.heap.size,3,none⟩=some (.slice A3 x3.length c3):=ka1.cell 3
 have gr1_3:w1.cell? ⟨w.heap.size+1,3,none⟩=some (.slice none 0 0):=kr1.cell 3
 have go1_3:w1.cell? ⟨w.heap.size+1+1,3,none⟩=some (.slice none 0 0):=ko1.cell 3
 have fr1_3:=kr1.frozen 3
 have fo1_3:=ko1.frozen 3
 have ga1_4:w1.cell? ⟨w.heap.size,4,none⟩=some (.slice A4 x4.length c4):=ka1.cell 4
 have gr1_4:w1.cell? ⟨w.heap.size+1,4,none⟩=some (.slice none 0 0):=kr1.cell 4
 have go1_4:w1.cell? ⟨w.heap.size+1+1,4,none⟩=some (.slice none 0 0):=ko1.cell 4
 have fr1_4:=kr1.frozen 4
 have fo1_4:=ko1.frozen 4
 go_wp2_with fail
 have z_1:=good_Page.own_wide (lo':=w.heap.size) (own_set good_Page (own_set good_Page s1_1 (w.heap.size+1+1) 1 [.bool x1,.slice D2 x2.length d2,.slice D3 x3.length d3,.slice D4 x4.length d4] (by omega)) (w.heap.size+1) 0 [.int .i64 x0,.bool x1,.slice D2 x2.length d2,.slice D3 x3.length d3,.slice D4 x4.length d4] (by omega)) (by omega) (Nat.le_refl _)
 have fu:=((uu1.sets (g:=(w.heap.size+1+1)) (by omega) 1 [.bool x1,.slice D2 x2.length d2,.slice D3 x3.length d3,.slice D4 x4.length d4]).sets (g:=(w.heap.size+1)) (by omega) 0 [.int .i64 x0,.bool x1,.slice D2 x2.length d2,.slice D3 x3.length d3,.slice D4 x4.length d4])
 refine bodyPost_ret (v:=.agg #[.int .i64 x0,.bool x1,.slice D2 x2.length d2,.slice D3 x3.length d3,.slice D4 x4.length d4]) (by simp [results,Tryz.results40,go_sem,gr1_0,gr1_1,gr1_2,gr1_3,gr1_4]) rfl ?_
 exact ⟨[.int .i64 x0,.bool x1,.slice D2 x2.length d2,.slice D3 x3.length d3,.slice D4 x4.length d4],_,rfl,asmSlot b0 z_1,by simpa using nn1,fu⟩
theorem info_Slot:(Tryz.prog.info? 60).map (fun i=>(i.zero,i.size,i.bytes))=some (some (.agg #[.int .i64 0,.bool false,.slice none 0 0,.slice none 0 0,.slice none 0 0]),5,88):=by kernel_rfl
theorem c_toSlotS (xs:List TSlot) (A:Option Addr) (c:Nat) (w:World) (h:SRW shSlot w A c xs) (hn:(shL shSlot).sz xs≤1048576) :
 Calls Tryz.prog 16 #[.slice A xs.length c] w (ToL shSlot xs w):=by
 have hl:xs.length≤1048576:=Nat.le_trans (Nat.le_add_right _ _) hn
 obtain ⟨i0,hi0,hz0,hz1,hz2⟩:=info_parts info_Slot
 have hmk:=fun W=>run_make_rows (P:=Tryz.prog) 26 60 i0 _ Tryz.underlying26 hi0 hz0 xs.length (by rw [hz2];omega) (by omega) W
 rw [hz1] at hmk
 clear hi0 hz0 hz1 hz2
 obtain ⟨C0,hC0⟩:∃C0,C0=madeCells (Value.cells (.agg #[.int .i64 0,.bool false,.slice none 0 0,.slice none 0 0,.slice none 0 0])) (xs.length*5):=⟨_,rfl⟩
 rw [←hC0] at hmk
 have HB:Bld shSlot w.heap.size (w.alloc (.cells C0 60)) w.heap.size 60 C0 xs.length xs 0 :=
  Bld.start (Nat.le_refl _) (Bk.new _ _ _) (by rw [hC0,size_madeCells];rfl)
 clear hC0
 go_enter Tryz.func16,Tryz.ntmps16
 go_wp2
 go_loopw [4] (fun i wr=>∃(k:Nat) (C:Array Value),k≤xs.length∧i=.int .i64 k∧Bld shSlot w.heap.size wr w.heap.size 60 C xs.length xs k∧Up w wr) (fun i _=>xs.length-(intOf i).toNat)
 case atStart=>exact ⟨0,C0,Nat.zero_le _,rfl,HB,(Up.refl _).alloc _⟩
 case round =>
  obtain ⟨k,C,hk,rfl,hB,hu⟩:=hrel
  by_cases hlt:k<xs.length
  ·obtain ⟨g,off,A2,c2,A3,c3,A4,c4,rfl,_,_,hc0,hc1,hc2,hc3,hc4,b0,b2,b3,b4,_⟩:=atSlot (h.up good_Slot hu) hlt
   have hx:=sz_le shSlot xs hlt hn
   go_wp2_with fail
   refine (c_toSlot _ xs[k] _ ⟨_,rfl,mkSlot (x:=xs[k]) b0 b2 b3 b4⟩ hx).mono ?_
   rintro e w1 ⟨cs,bl,rfl,ho,hnd,u1⟩
   obtain ⟨D2,d2,_,D3,d3,_,D4,d4,_,rfl,rfl,_,_,_,_⟩:=openOSlot ho
   have hbk:=hB.1.up u1
   have hC:C.size=xs.length*5:=hB.2.1
   obtain ⟨o0,hm0⟩:∃o,w1.cell? ⟨w.heap.size,k*5,none⟩=some o:=by rw [hbk.cell];exact ⟨_,Array.getElem?_eq_getElem (by omega)⟩
   have hf0:=hbk.frozen (k*5)
   obtain ⟨o1,hm1⟩:∃o,w1.cell? ⟨w.heap.size,k*5+1,none⟩=some o:=by rw [hbk.cell];exact ⟨_,Array.getElem?_eq_getElem (by omega)⟩
   have hf1:=hbk.frozen (k*5+1)
   obtain ⟨o2,hm2⟩:∃o,w1.cell? ⟨w.heap.size,k*5+2,none⟩=some o:=by rw [hbk.cell];exact ⟨_,Array.getElem?_eq_getElem (by omega)⟩
   have hf2:=hbk.frozen (k*5+2)
   obtain ⟨o3,hm3⟩:∃o,w1.cell? ⟨w.heap.size,k*5+3,none⟩=some o:=by rw [hbk.cell];exact ⟨_,Array.getElem?_eq_getElem (by omega)⟩
   have hf3:=hbk.frozen (k*5+3)
   obtain ⟨o4,hm4⟩:∃o,w1.cell? ⟨w.heap.size,k*5+4,none⟩=some o:=by rw [hbk.cell];exact ⟨_,Array.getElem?_eq_getElem (by omega)⟩
   have hf4:=hbk.frozen (k*5+4)
   go_wp2_with fail
   go_roundw
   case rel=>exact ⟨k+1,_,by omega,by go_num,hB.push good_Slot u1 ho hnd (List.getElem?_eq_getElem hlt) hlt (But.sets [_,_,_,_,_] _ _) (Bk.sets [_,_,_,_,_] hbk _),(hu.trans u1).sets (Nat.le_refl _) _ [_,_,_,_,_]⟩
   case measure=>simp [intOf];omega
  ·obtain ⟨bl,hso,hnd⟩:=hB.done (c:=xs.length) (by omega) (Nat.le_refl _) (by unfold maxLen;omega) (Nat.le_refl _)
   go_wp2
   go_ret
   exact ⟨_,_,bl,rfl,hso,hnd,hu⟩
theorem asmBtree {w:World} {lo hi:Nat} {x0:Int} {x1:List TSlot} {D1:Option Addr} {d1:Nat} {bl1:List Nat} (h0:I64 x0) (h1:SO shSlot w lo hi D1 d1 x1 bl1):shBtree.own w lo hi [.int .i64 x0,.slice D1 x1.length d1] (x0,x1) (bl1):=by
 have h:shBtree.own w lo hi [.int .i64 x0,.slice D1 x1.length d1] (x0,x1) _:=(mkO_P (a:=shI) (x:=(x0,x1)) good_I ⟨⟨rfl,h0⟩,rfl⟩ ⟨D1,d1,rfl,h1⟩)
 simpa using h
theorem c_toBtree (v:Value) (x:TBtree) (w:World) (h:AV shBtree w v x) (hn:shBtree.sz x≤1048576) :
 Calls Tryz.prog 6 #[v] w (ToV shBtree x w):=by
 obtain ⟨cs,rfl,h⟩:=h
 obtain ⟨x0,x1⟩:=x
 have ho:=openBtree h
 try dsimp only at ho
 obtain ⟨A1,c1,rfl,b0,b1⟩:=ho
 have hs:shBtree.sz (x0,x1)=0+((shL shSlot).sz x1):=rfl
 have hl1:(shL shSlot).sz x1≤1048576:=by omega
 clear hs hn
 go_enter Tryz.func6,Tryz.ntmps6
 go_wp2_with fail
 have vv0:Up w (((w.alloc (.cells #[.int .i64 x0,.slice A1 x1.length c1] 24)).alloc (.cells #[.int .i64 0,.slice none 0 0] 28)).alloc (.cells #[.int .i64 x0,.slice none 0 0] 28)):=(((Up.refl _).alloc _).alloc _).alloc _
 have ja0:Bk (((w.alloc (.cells #[.int .i64 x0,.slice A1 x1.length c1] 24)).alloc (.cells #[.int .i64 0,.slice none 0 0] 28)).alloc (.cells #[.int .i64 x0,.slice none 0 0] 28)) w.heap.size 24 #[.int .i64 x0,.slice A1 x1.length c1]:=((Bk.new _ _ _).alloc _).alloc _
 have jr0:Bk (((w.alloc (.cells #[.int .i64 x0,.slice A1 x1.length c1] 24)).alloc (.cells #[.int .i64 0,.slice none 0 0] 28)).alloc (.cells #[.int .i64 x0,.slice none 0 0] 28)) (w.heap.size+1) 28 #[.int .i64 0,.slice none 0 0]:=by simpa using (Bk.new (w.alloc (.cells #[.int .i64 x0,.slice A1 x1.length c1] 24)) 28 #[.int .i64 0,.slice none 0 0]).alloc (.cells #[.int .i64 x0,.slice none 0 0] 28)
 have jo0:Bk (((w.alloc (.cells #[.int .i64 x0,.slice A1 x1.length c1] 24)).alloc (.cells #[.int .i64 0,.slice none 0 0] 28)).alloc (.cells #[.int .i64 x0,.slice none 0 0] 28)) (w.heap.size+1+1) 28 #[.int .i64 x0,.slice none 0 0]:=by simpa using Bk.new ((w.alloc (.cells #[.int .i64 x0,.slice A1 x1.length c1] 24)).alloc (.cells #[.int .i64 0,.slice none 0 0] 28)) 28 #[.int .i64 x0,.slice none 0 0]
 have sz0:w.heap.size+1+1+1=(((w.alloc (.cells #[.int .i64 x0,.slice A1 x1.length c1] 24)).alloc (.cells #[.int .i64 0,.slice none 0 0] 28)).alloc (.cells #[.int .i64 x0,.slice none 0 0] 28)).heap.size:=by simp
 refine (c_toSlotS _ _ _ _ (b1.up good_Slot vv0) hl1).mono ?_
 rintro e w1 ⟨D1,d1,bl1,rfl,o1,nd1,u1⟩
 have uu1:=vv0.trans u1
 have ka1:=ja0.up u1
 have kr1:=jr0.up u1
 have ko1:=jo0.up u1
 have zz1:=u1.size
 rw [←sz0] at zz1
 have s1_1:SO shSlot w1 (w.heap.size+1+1+1) w1.heap.size D1 d1 x1 bl1:=by rw [sz0];exact o1
 have nn1:(bl1).Nodup:=nd1
 have mm1:∀b∈bl1,b<w1.heap.size:=fun b hb=>(s1_1.in_ good_Slot b hb).2
 clear ja0 jr0 jo0 u1 o1
 have ga1_0:w1.cell? ⟨w.heap.size,0,none⟩=some (.int .i64 x0):=ka1.cell 0
 have gr1_0:w1.cell? ⟨w.heap.size+1,0,none⟩=some (.int .i64 0):=kr1.cell 0
 have go1_0:w1.cell? ⟨w.heap.size+1+1,0,none⟩=some (.int .i64 x0):=ko1.cell 0
 have fr1_0:=kr1.frozen 0
 have fo1_0:=ko1.frozen 0
 have ga1_1:w1.cell? ⟨w.heap.size,1,none⟩=some (.slice A1 x1.length c1):=ka1.cell 1
 have gr1_1:w1.cell? ⟨w.heap.size+1,1,none⟩=some (.slice none 0 0):=kr1.cell 1
 have go1_1:w1.cell? ⟨w.heap.size+1+1,1,none⟩=some (.slice none 0 0):=ko1.cell 1
 have fr1_1:=kr1.frozen 1
 have fo1_1:=ko1.frozen 1
 go_wp2_with fail
 have z_1:=((s1_1.set good_Slot (w.heap.size+1+1) 1 [.slice D1 x1.length d1] (by omega)).set good_Slot (w.heap.size+1) 0 [.int .i64 x0,.slice D1 x1.length d1] (by omega)).wide good_Slot (lo':=w.heap.size) (by omega) (Nat.le_refl _)
 have fu:=((uu1.sets (g:=(w.heap.size+1+1)) (by omega) 1 [.slice D1 x1.length d1]).sets (g:=(w.heap.size+1)) (by omega) 0 [.int .i64 x0,.slice D1 x1.length d1])
 refine bodyPost_ret (v:=.agg #[.int .i64 x0,.slice D1 x1.length d1]) (by simp [results,Tryz.results6,go_sem,gr1_0,gr1_1]) rfl ?_
 exact ⟨[.int .i64 x0,.slice D1 x1.length d1],_,rfl,asmBtree b0 z_1,by simpa using nn1,fu⟩
end Go.Proofs.YtojmcmghmnfjeaaGreatDoor
