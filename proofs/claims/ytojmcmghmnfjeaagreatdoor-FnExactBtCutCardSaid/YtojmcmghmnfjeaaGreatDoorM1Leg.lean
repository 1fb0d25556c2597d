/-
 Parts of the proof.
-/
import Derived.Test.YtojmcmghmnfjeaaGreatDoorM1J
set_option maxHeartbeats 4000000
set_option maxRecDepth 100000
namespace Go.Proofs.YtojmcmghmnfjeaaGreatDoor
open Go.RowKit
set_option linter.unusedSimpArgs false
set_option linter.unusedVariables false
theorem c_eqStringS (xs ys:List ByteArray) (A B:Option Addr) (c d:Nat) (w:World) (h:SRW shS w A c xs) (k:SRW shS w B d ys) :
 Calls Tryz.prog 129 #[.slice A xs.length c,.slice B ys.length d] w (EqP (xs=ys) w):=by
 have hlen:=h.len_le
 have klen:=k.len_le
 by_cases hl:xs.length=ys.length
 ·have hb:((xs.length:Int) != (ys.length:Int))=false:=by simp [hl]
  have HL:=Hd hl;clear hl
  go_enter Tryz.func129,Tryz.ntmps129
  go_wp2
  go_loopw [5] (fun i wr=>∃k:Nat,k≤xs.length∧i=.int .i64 k∧Hid (xs.take k=ys.take k)∧Up w wr) (fun i _=>xs.length-(intOf i).toNat)
  case atStart=>exact ⟨0,Nat.zero_le _,rfl,rfl,Up.refl _⟩
  case round =>
   obtain ⟨j,hj,rfl,HT,hu⟩:=hrel
   by_cases hlt:j<xs.length
   ·have hlt':j<ys.length:=by rw [←HL.out];exact hlt
    obtain ⟨g,off,rfl,_,_,hc,hb1⟩:=(h.up good_S hu).at_S hlt
    obtain ⟨g',off',rfl,_,_,hc',hb2⟩:=(k.up good_S hu).at_S hlt'
    by_cases he:xs[j]=ys[j]
    ·have hx:(xs[j].toList==ys[j].toList)=true:=by rw [str_beq];simp [he]
     have HE:=Hd he;clear he
     go_wp2
     go_quiet (fail)
     go_wp2
     go_roundw
     case rel=>exact ⟨j+1,by omega,by go_num,take_snoc_eq HT.out hlt hlt' HE.out,hu.drewN _⟩
     case measure=>simp [intOf];omega
    ·have hx:(xs[j].toList==ys[j].toList)=false:=by rw [str_beq];simp [he]
     have HE:=Hd (ne_of_at hlt hlt' he);clear he
     go_wp2
     go_quiet (fail)
     go_wp2
     go_ret
     exact EqP.f HE.out (hu.drewN _)
   ·have HE:=Hd (take_all_eq HT.out (by omega) (by rw [←HL.out];omega))
    go_wp2
    go_ret
    exact EqP.t HE.out hu
 ·have hb:((xs.length:Int) != (ys.length:Int))=true:=by rw [bne_iff_ne];omega
  have HE:=Hd (ne_of_len hl);clear hl
  go_enter Tryz.func129,Tryz.ntmps129
  go_wp2
  go_ret
  exact EqP.f HE.out (Up.refl _)
theorem c_eqInt64S (xs ys:List Int) (A B:Option Addr) (c d:Nat) (w:World) (h:SRW shI w A c xs) (k:SRW shI w B d ys) :
 Calls Tryz.prog 130 #[.slice A xs.length c,.slice B ys.length d] w (EqP (xs=ys) w):=by
 have hlen:=h.len_le
 have klen:=k.len_le
 by_cases hl:xs.length=ys.length
 ·have hb:((xs.length:Int) != (ys.length:Int))=false:=by simp [hl]
  have HL:=Hd hl;clear hl
  go_enter Tryz.func130,Tryz.ntmps130
  go_wp2
  go_loopw [5] (fun i wr=>∃k:Nat,k≤xs.length∧i=.int .i64 k∧Hid (xs.take k=ys.take k)∧Up w wr) (fun i _=>xs.length-(intOf i).toNat)
  case atStart=>exact ⟨0,Nat.zero_le _,rfl,rfl,Up.refl _⟩
  case round =>
   obtain ⟨j,hj,rfl,HT,hu⟩:=hrel
   by_cases hlt:j<xs.length
   ·have hlt':j<ys.length:=by rw [←HL.out];exact hlt
    obtain ⟨g,off,rfl,_,_,hc,hb1⟩:=(h.up good_I hu).at_I hlt
    obtain ⟨g',off',rfl,_,_,hc',hb2⟩:=(k.up good_I hu).at_I hlt'
    by_cases he:xs[j]=ys[j]
    ·have hx:(xs[j] != ys[j])=false:=by simp [he]
     have HE:=Hd he;clear he
     go_wp2
     go_quiet (fail)
     go_wp2
     go_roundw
     case rel=>exact ⟨j+1,by omega,by go_num,take_snoc_eq HT.out hlt hlt' HE.out,hu.drewN _⟩
     case measure=>simp [intOf];omega
    ·have hx:(xs[j] != ys[j])=true:=by simp [he]
     have HE:=Hd (ne_of_at hlt hlt' he);clear he
     go_wp2
     go_quiet (fail)
     go_wp2
     go_ret
     exact EqP.f HE.out (hu.drewN _)
   ·have HE:=Hd (take_all_eq HT.out (by omega) (by rw [←HL.out];omega))
    go_wp2
    go_ret
    exact EqP.t HE.out hu
 ·have hb:((xs.length:Int) != (ys.length:Int))=true:=by rw [bne_iff_ne];omega
  have HE:=Hd (ne_of_len hl);clear hl
  go_enter Tryz.func130,Tryz.ntmps130
  go_wp2
  go_ret
  exact EqP.f HE.out (Up.refl _)
theorem c_eqPage (v u:Value) (x y:TPage) (w:World) (h:AV shPage w v x) (k:AV shPage w u y) :
 Calls Tryz.prog 90 #[v,u] w (EqP (x=y) w):=by
 obtain ⟨cs,rfl,h⟩:=h
 obtain ⟨x0,x1,x2,x3⟩:=x
 have ho:=openPage h
 try dsimp only at ho
 obtain ⟨A1,c1,A2,c2,A3,c3,rfl,b1,b2,b3⟩:=ho
 obtain ⟨ds,rfl,k⟩:=k
 obtain ⟨y0,y1,y2,y3⟩:=y
 have ko:=openPage k
 try dsimp only at ko
 obtain ⟨B1,d1,B2,d2,B3,d3,rfl,e1,e2,e3⟩:=ko
 have kx0:Bk ((w.alloc (.cells #[.bool x0,.slice A1 x1.length c1,.slice A2 x2.length c2,.slice A3 x3.length c3] 58)).alloc (.cells #[.bool y0,.slice B1 y1.length d1,.slice B2 y2.length d2,.slice B3 y3.length d3] 58)) w.heap.size 58 #[.bool x0,.slice A1 x1.length c1,.slice A2 x2.length c2,.slice A3 x3.length c3]:=(Bk.new _ _ _).alloc _
 have ky0:Bk ((w.alloc (.cells #[.bool x0,.slice A1 x1.length c1,.slice A2 x2.length c2,.slice A3 x3.length c3] 58)).alloc (.cells #[.bool y0,.slice B1 y1.length d1,.slice B2 y2.length d2,.slice B3 y3.length d3] 58)) (w.heap.size+1) 58 #[.bool y0,.slice B1 y1.length d1,.slice B2 y2.length d2,.slice B3 y3.length d3]:=by simpa using Bk.new (w.alloc (.cells #[.bool x0,.slice A1 x1.length c1,.slice A2 x2.length c2,.slice A3 x3.length c3] 58)) 58 #[.bool y0,.slice B1 y1.length d1,.slice B2 y2.length d2,.slice B3 y3.length d3]
 have uu0:Up w ((w.alloc (.cells #[.bool x0,.slice A1 x1.length c1,.slice A2 x2.length c2,.slice A3 x3.length c3] 58)).alloc (.cells #[.bool y0,.slice B1 y1.length d1,.slice B2 y2.length d2,.slice B3 y3.length d3] 58)):=((Up.refl _).alloc _).alloc _
 by_cases e_0:¬x0=y0
 ·have hx:(x0 != y0)=true:=by simp [e_0]
  have HE:Hid (¬(x0,x1,x2,x3)=(y0,y1,y2,y3)):=by unfold Hid;intro hh;(try simp only [Prod.mk.injEq] at hh);exact e_0 (by simp [hh])
  clear e_0
  cases x0 <;> cases y0
  ·simp at hx
  ·clear hx
   go_enter Tryz.func90,Tryz.ntmps90
   go_wp2_with fail
   go_ret
   exact EqP.f HE.out uu0
  ·clear hx
   go_enter Tryz.func90,Tryz.ntmps90
   go_wp2_with fail
   go_ret
   exact EqP.f HE.out uu0
  ·simp at hx
 replace e_0:=Decidable.of_not_not e_0
 subst e_0
 go_enter Tryz.func90,Tryz.ntmps90
 go_wp2_with fail
 refine (c_eqStringS _ _ _ _ _ _ _ (b1.up good_S uu0) (e1.up good_S uu0)).mono ?_
 rintro r w1 ⟨bb,rfl,hbb,u1⟩
 have uu1:=uu0.trans u1
 have kx1:=kx0.up u1
 have ky1:=ky0.up u1
 clear u1
 rcases eqb_cases hbb with ⟨rfl,e_1⟩ | ⟨rfl,e_1⟩
 ·clear hbb
  have HE:Hid (¬(x0,x1,x2,x3)=(x0,y1,y2,y3)):=by unfold Hid;intro hh;(try simp only [Prod.mk.injEq] at hh);exact e_1 (by simp [hh])
  clear e_1
  go_wp2_with fail
  go_ret
  exact EqP.f HE.out uu1
 clear hbb
 subst e_1
 have gx1_2:w1.cell? ⟨w.heap.size,2,none⟩=some (.slice A2 x2.length c2):=kx1.cell 2
 have gy1_2:w1.cell? ⟨w.heap.size+1,2,none⟩=some (.slice B2 y2.length d2):=ky1.cell 2
 have gx1_3:w1.cell? ⟨w.heap.size,3,none⟩=some (.slice A3 x3.length c3):=kx1.cell 3
 have gy1_3:w1.cell? ⟨w.heap.size+1,3,none⟩=some (.slice B3 y3.length d3):=ky1.cell 3
 go_wp2_with fail
 refine (c_eqStringS _ _ _ _ _ _ _ (b2.up good_S uu1) (e2.up good_S uu1)).mono ?_
 rintro r w2 ⟨bb,rfl,hbb,u2⟩
 have uu2:=uu1.trans u2
 have kx2:=kx1.up u2
 have ky2:=ky1.up u2
 clear u2
 rcases eqb_cases hbb with ⟨rfl,e_2⟩ | ⟨rfl,e_2⟩
 ·clear hbb
  have HE:Hid (¬(x0,x1,x2,x3)=(x0,x1,y2,y3)):=by unfold Hid;intro hh;(try simp only [Prod.mk.injEq] at hh);exact e_2 (by simp [hh])
  clear e_2
  go_wp2_with fail
  go_ret
  exact EqP.f HE.out uu2
 clear hbb
 subst e_2
 have gx2_3:w2.cell? ⟨w.heap.size,3,none⟩=some (.slice A3 x3.length c3):=kx2.cell 3
 have gy2_3:w2.cell? ⟨w.heap.size+1,3,none⟩=some (.slice B3 y3.length d3):=ky2.cell 3
 go_wp2_with fail
 refine (c_eqInt64S _ _ _ _ _ _ _ (b3.up good_I uu2) (e3.up good_I uu2)).mono ?_
 rintro r w3 ⟨bb,rfl,hbb,u3⟩
 have uu3:=uu2.trans u3
 have kx3:=kx2.up u3
 have ky3:=ky2.up u3
 clear u3
 rcases eqb_cases hbb with ⟨rfl,e_3⟩ | ⟨rfl,e_3⟩
 ·clear hbb
  have HE:Hid (¬(x0,x1,x2,x3)=(x0,x1,x2,y3)):=by unfold Hid;intro hh;(try simp only [Prod.mk.injEq] at hh);exact e_3 (by simp [hh])
  clear e_3
  go_wp2_with fail
  go_ret
  exact EqP.f HE.out uu3
 clear hbb
 subst e_3
 go_wp2_with fail
 go_ret
 exact EqP.t (by simp) uu3
theorem c_eqSlot (v u:Value) (x y:TSlot) (w:World) (h:AV shSlot w v x) (k:AV shSlot w u y) :
 Calls Tryz.prog 52 #[v,u] w (EqP (x=y) w):=by
 obtain ⟨cs,rfl,h⟩:=h
 obtain ⟨x0,⟨x1,x2,x3,x4⟩⟩:=x
 have ho:=openSlot h
 try dsimp only at ho
 obtain ⟨A2,c2,A3,c3,A4,c4,rfl,b0,b2,b3,b4⟩:=ho
 obtain ⟨ds,rfl,k⟩:=k
 obtain ⟨y0,⟨y1,y2,y3,y4⟩⟩:=y
 have ko:=openSlot k
 try dsimp only at ko
 obtain ⟨B2,d2,B3,d3,B4,d4,rfl,e0,e2,e3,e4⟩:=ko
 have kx0:Bk ((w.alloc (.cells #[.int .i64 x0,.bool x1,.slice A2 x2.length c2,.slice A3 x3.length c3,.slice A4 x4.length c4] 60)).alloc (.cells #[.int .i64 y0,.bool y1,.slice B2 y2.length d2,.slice B3 y3.length d3,.slice B4 y4.length d4] 60)) w.heap.size 60 #[.int .i64 x0,.bool x1,.slice A2 x2.length c2,.slice A3 x3.length c3,.slice A4 x4.length c4]:=(Bk.new _ _ _).alloc _
 have ky0:Bk ((w.alloc (.cells #[.int .i64 x0,.bool x1,.slice A2 x2.length c2,.slice A3 x3.length c3,.slice A4 x4.length c4] 60)).alloc (.cells #[.int .i64 y0,.bool y1,.slice B2 y2.length d2,.slice B3 y3.length d3,.slice B4 y4.length d4] 60)) (w.heap.size+1) 60 #[.int .i64 y0,.bool y1,.slice B2 y2.length d2,.slice B3 y3.length d3,.slice B4 y4.length d4]:=by simpa using Bk.new (w.alloc (.cells #[.int .i64 x0,.bool x1,.slice A2 x2.length c2,.slice A3 x3.length c3,.slice A4 x4.length c4] 60)) 60 #[.int .i64 y0,.bool y1,.slice B2 y2.length d2,.slice B3 y3.length d3,.slice B4 y4.length d4]
 have uu0:Up w ((w.alloc (.cells #[.int .i64 x0,.bool x1,.slice A2 x2.length c2,.slice A3 x3.length c3,.slice A4 x4.length c4] 60)).alloc (.cells #[.int .i64 y0,.bool y1,.slice B2 y2.length d2,.slice B3 y3.length d3,.slice B4 y4.length d4] 60)):=((Up.refl _).alloc _).alloc _
 by_cases e_0:¬x0=y0
 ·have hx:(x0 != y0)=true:=by simp [e_0]
  have HE:Hid (¬(x0,(x1,x2,x3,x4))=(y0,(y1,y2,y3,y4))):=by unfold Hid;intro hh;(try simp only [Prod.mk.injEq] at hh);exact e_0 (by simp [hh])
  clear e_0
  go_enter Tryz.func52,Tryz.ntmps52
  go_wp2_with fail
  go_ret
  exact EqP.f HE.out uu0
 replace e_0:=Decidable.of_not_not e_0
 subst e_0
 go_enter Tryz.func52,Tryz.ntmps52
 go_wp2_with fail
 refine (c_eqPage _ _ (x1,x2,x3,x4) (y1,y2,y3,y4) _ ⟨_,rfl,mkPage (x:=(x1,x2,x3,x4)) (b2.up good_S uu0) (b3.up good_S uu0) (b4.up good_I uu0)⟩ ⟨_,rfl,mkPage (x:=(y1,y2,y3,y4)) (e2.up good_S uu0) (e3.up good_S uu0) (e4.up good_I uu0)⟩).mono ?_
 rintro r w1 ⟨bb,rfl,hbb,u1⟩
 have uu1:=uu0.trans u1
 have kx1:=kx0.up u1
 have ky1:=ky0.up u1
 clear u1
 rcases eqb_cases hbb with ⟨rfl,e_1⟩ | ⟨rfl,e_1⟩
 ·clear hbb
  have HE:Hid (¬(x0,(x1,x2,x3,x4))=(x0,(y1,y2,y3,y4))):=by unfold Hid;intro hh;(try simp only [Prod.mk.injEq] at hh);exact e_1 (by simp [hh])
  clear e_1
  go_wp2_with fail
  go_ret
  exact EqP.f HE.out uu1
 clear hbb
 simp only [Prod.mk.injEq] at e_1
 obtain ⟨rfl,rfl,rfl,rfl⟩:=e_1
 go_wp2_with fail
 go_ret
 exact EqP.t (by simp) uu1
theorem c_eqSlotS (xs ys:List TSlot) (A B:Option Addr) (c d:Nat) (w:World) (h:SRW shSlot w A c xs) (k:SRW shSlot w B d ys) :
 Calls Tryz.prog 23 #[.slice A xs.length c,.slice B ys.length d] w (EqP (xs=ys) w):=by
 have hlen:=h.len_le
 have klen:=k.len_le
 by_cases hl:xs.length=ys.length
 ·have hb:((xs.length:Int) != (ys.length:Int))=false:=by simp [hl]
  have HL:=Hd hl;clear hl
  go_enter Tryz.func23,Tryz.ntmps23
  go_wp2
  go_loopw [5] (fun i wr=>∃k:Nat,k≤xs.length∧i=.int .i64 k∧Hid (xs.take k=ys.take k)∧Up w wr) (fun i _=>xs.length-(intOf i).toNat)
  case atStart=>exact ⟨0,Nat.zero_le _,rfl,rfl,Up.refl _⟩
  case round =>
   obtain ⟨j,hj,rfl,HT,hu⟩:=hrel
   by_cases hlt:j<xs.length
   ·have hlt':j<ys.length:=by rw [←HL.out];exact hlt
    obtain ⟨g,off,A2,c2,A3,c3,A4,c4,rfl,_,_,hc0,hc1,hc2,hc3,hc4,b0,b2,b3,b4,_⟩:=atSlot (h.up good_Slot hu) hlt
    obtain ⟨g',off',B2,d2,B3,d3,B4,d4,rfl,_,_,hd0,hd1,hd2,hd3,hd4,f0,f2,f3,f4,_⟩:=atSlot (k.up good_Slot hu) hlt'
    go_wp2_with fail
    go_still_tail 8,(by kernel_rfl)
    change wpList _ _ _ _ _ wr.drew
    go_wp2_with fail
    refine (c_eqSlot _ _ xs[j] ys[j] _ (AV.up good_Slot ⟨_,rfl,mkSlot (x:=xs[j]) b0 b2 b3 b4⟩ ((Up.refl wr).drew)) (AV.up good_Slot ⟨_,rfl,mkSlot (x:=ys[j]) f0 f2 f3 f4⟩ ((Up.refl wr).drew))).mono ?_
    rintro e w1 ⟨bb,rfl,hbb,hu1⟩
    rcases (eqb_cases hbb).symm with ⟨rfl,he⟩ | ⟨rfl,he⟩
    ·clear hbb
     have HE:=Hd he;clear he
     go_wp2_with fail
     go_roundw
     case rel=>exact ⟨j+1,by omega,by go_num,take_snoc_eq HT.out hlt hlt' HE.out,hu.drew.trans hu1⟩
     case measure=>simp [intOf];omega
    ·clear hbb
     have HE:=Hd (ne_of_at hlt hlt' he);clear he
     go_wp2_with fail
     go_ret
     exact EqP.f HE.out (hu.drew.trans hu1)
   ·have HE:=Hd (take_all_eq HT.out (by omega) (by rw [←HL.out];omega))
    go_wp2
    go_ret
    exact EqP.t HE.out hu
 ·have hb:((xs.length:Int) != (ys.length:Int))=true:=by rw [bne_iff_ne];omega
  have HE:=Hd (ne_of_len hl);clear hl
  go_enter Tryz.func23,Tryz.ntmps23
  go_wp2
  go_ret
  exact EqP.f HE.out (Up.refl _)
theorem c_eqBtree (v u:Value) (x y:TBtree) (w:World) (h:AV shBtree w v x) (k:AV shBtree w u y) :
 Calls Tryz.prog 8 #[v,u] w (EqP (x=y) w):=by
 obtain ⟨cs,rfl,h⟩:=h
 obtain ⟨x0,x1⟩:=x
 have ho:=openBtree h
 try dsimp only at ho
 obtain ⟨A1,c1,rfl,b0,b1⟩:=ho
 obtain ⟨ds,rfl,k⟩:=k
 obtain ⟨y0,y1⟩:=y
 have ko:=openBtree k
 try dsimp only at ko
 obtain ⟨B1,d1,rfl,e0,e1⟩:=ko
 have kx0:Bk ((w.alloc (.cells #[.int .i64 x0,.slice A1 x1.length c1] 28)).alloc (.cells #[.int .i64 y0,.slice B1 y1.length d1] 28)) w.heap.size 28 #[.int .i64 x0,.slice A1 x1.length c1]:=(Bk.new _ _ _).alloc _
 have ky0:Bk ((w.alloc (.cells #[.int .i64 x0,.slice A1 x1.length c1] 28)).alloc (.cells #[.int .i64 y0,.slice B1 y1.length d1] 28)) (w.heap.size+1) 28 #[.int .i64 y0,.slice B1 y1.length d1]:=by simpa using Bk.new (w.alloc (.cells #[.int .i64 x0,.slice A1 x1.length c1] 28)) 28 #[.int .i64 y0,.slice B1 y1.length d1]
 have uu0:Up w ((w.alloc (.cells #[.int .i64 x0,.slice A1 x1.length c1] 28)).alloc (.cells #[.int .i64 y0,.slice B1 y1.length d1] 28)):=((Up.refl _).alloc _).alloc _
 by_cases e_0:¬x0=y0
 ·have hx:(x0 != y0)=true:=by simp [e_0]
  have HE:Hid (¬(x0,x1)=(y0,y1)):=by unfold Hid;intro hh;(try simp only [Prod.mk.injEq] at hh);exact e_0 (by simp [hh])
  clear e_0
  go_enter Tryz.func8,Tryz.ntmps8
  go_wp2_with fail
  go_ret
  exact EqP.f HE.out uu0
 replace e_0:=Decidable.of_not_not e_0
 subst e_0
 go_enter Tryz.func8,Tryz.ntmps8
 go_wp2_with fail
 refine (c_eqSlotS _ _ _ _ _ _ _ (b1.up good_Slot uu0) (e1.up good_Slot uu0)).mono ?_
 rintro r w1 ⟨bb,rfl,hbb,u1⟩
 have uu1:=uu0.trans u1
 have kx1:=kx0.up u1
 have ky1:=ky0.up u1
 clear u1
 rcases eqb_cases hbb with ⟨rfl,e_1⟩ | ⟨rfl,e_1⟩
 ·clear hbb
  have HE:Hid (¬(x0,x1)=(x0,y1)):=by unfold Hid;intro hh;(try simp only [Prod.mk.injEq] at hh);exact e_1 (by simp [hh])
  clear e_1
  go_wp2_with fail
  go_ret
  exact EqP.f HE.out uu1
 clear hbb
 subst e_1
 go_wp2_with fail
 go_ret
 exact EqP.t (by simp) uu1
theorem run_one (n:Nat) (hn:n<256) (W:World):(convert 155 9 (.slice (some ⟨W.heap.size,0,none⟩) 1 1)).run Tryz.prog (W.alloc (.cells #[.int .u8 (n:Int)] 5))=.ok (.string ⟨#[UInt8.ofNat n]⟩) (W.alloc (.cells #[.int .u8 (n:Int)] 5)):=by
 have h:=Lib.run_convert_whole (P:=Tryz.prog) (W.alloc (.cells #[.int .u8 (n:Int)] 5)) 155 5 9 Tryz.underlying155 Tryz.underlying5 Tryz.underlying9 W.heap.size 0 ⟨#[UInt8.ofNat n]⟩ (fun i hi=>?_) 1
 ·exact h
 ·obtain rfl:i=0:=by have:i<1:=hi;omega
  rw [(Bk.new W 5 #[.int .u8 (n:Int)]).cell]
  have e:(UInt8.ofNat n).toNat=n:=by rw [UInt8.toNat_ofNat'];omega
  show some (Value.int .u8 (n:Int))=some (.int .u8 (((UInt8.ofNat n).toNat:Nat):Int))
  rw [e]
theorem c_markText (k:Int) (w:World) (h0:0<k) (h1:k≤1000000000):Calls Tryz.prog 91 #[.int .i64 k] w (RetV (.string (mtext k)) w):=by
 have hk:Hid (mtext k=⟨#[109]⟩++dg k.toNat k.toNat ⟨#[]⟩):=rfl
 go_enter Tryz.func91,Tryz.ntmps91
 go_wp2_with fail
 go_loopw [0,3] (fun a b wr=>∃(m f:Nat) (out:ByteArray),a=.int .i64 m∧b=.string out∧m≤f∧(m:Int)≤k∧out.size+m≤1000000000∧Hid (dg f m out=dg k.toNat k.toNat ⟨#[]⟩)∧Up w wr) (fun a _ _=>(intOf a).toNat)
 case atStart=>exact ⟨k.toNat,k.toNat,⟨#[]⟩,by go_num,rfl,Nat.le_refl _,by omega,by show 0+k.toNat≤_;omega,rfl,Up.refl _⟩
 case round =>
  obtain ⟨m,f,out,rfl,rfl,hf,hmk,hsz,HD,hu⟩:=hrel
  by_cases hm:(0:Int)<m
  ·obtain ⟨f,rfl⟩:∃f',f=f'+1:=⟨f-1,by omega⟩
   have HN:Hid (dg f (m / 10) (⟨#[UInt8.ofNat (48+m%10)]⟩++out)=dg k.toNat k.toNat ⟨#[]⟩):=by
    have h:=HD.out
    unfold Hid
    rw [←h]
    conv=>rhs;unfold dg
    rw [if_neg (by omega)]
   have hcv:=fun W:World=>run_one (48+m%10) (by omega) W
   have ec:((48+m%10:Nat):Int)=48+(m:Int)%10:=by omega
   simp only [ec] at hcv
   clear ec
   have h1s:(ByteArray.mk #[UInt8.ofNat (48+m%10)]).size=1:=rfl
   generalize ByteArray.mk #[UInt8.ofNat (48+m%10)]=dgt at *
   go_wp2_with fail
   go_roundw
   case rel=>exact ⟨m / 10,f,dgt++out,by go_num,rfl,by omega,by omega,by rw [ByteArray.size_append];omega,HN,hu.alloc _⟩
   case measure=>simp [intOf];omega
  ·obtain rfl:m=0:=by omega
   have HO:Hid (mtext k=⟨#[109]⟩++out):=by unfold Hid;rw [hk.out,←HD.out,dg_zero]
   go_wp2_with fail
   go_ret
   exact ret_str HO hu
def mmPage:Mk TPage:=(mkP mkB (mkP (mkL mkS) (mkP (mkL mkS) (mkL mkI))))
theorem gm_Page:GoodM mmPage:=(gm_P gm_B (gm_P (gm_L gm_S) (gm_P (gm_L gm_S) (gm_L gm_I))))
def mmSlot:Mk TSlot:=(mkP mkI mmPage)
theorem gm_Slot:GoodM mmSlot:=(gm_P gm_I gm_Page)
def mmTBtree:Mk TBtree:=(mkP mk0 (mkL mmSlot))
theorem gmT_Btree:GoodM mmTBtree:=(gm_P gm_0 (gm_L gm_Slot))
theorem c_markStringS (xs:List ByteArray) (A:Option Addr) (c:Nat) (k:Int) (lo hi:Nat) (bl:List Nat) (w:World) (h:SO shS w lo hi A c xs bl) (hhi:hi≤w.heap.size) (hnd:bl.Nodup) (hk0:0<k) (hk1:k+((mkL mkS).cnt xs:Nat)≤1000000000) :
 Calls Tryz.prog 53 #[.slice A xs.length c,.int .i64 k] w (MarkL shS mkS lo hi A c xs k bl w):=by
 have hlen:xs.length≤9223372036854775807:=(h.rep good_S).len_le
 have hk2:k+((xs.map (mkS).cnt).sum:Nat)≤1000000000:=hk1
 clear hk1
 go_enter Tryz.func53,Tryz.ntmps53
 go_wp2_with fail
 go_loopw [1,5] (fun a b wr=>∃(i:Nat) (K:Int),i≤xs.length∧a=.int .i64 K∧b=.int .i64 i∧Hid (K=k+psum (mkS).cnt xs i)∧0<K∧K≤1000000000∧SO shS wr lo hi A c (pm mkS xs k i) bl∧Only bl w wr) (fun _ b _=>xs.length-(intOf b).toNat)
 case atStart=>exact ⟨0,k,Nat.zero_le _,rfl,rfl,by unfold Hid;rw [psum_zero];simp,hk0,by omega,by rw [pm_zero];exact h,Only.refl _ _⟩
 case round =>
  obtain ⟨i,K,hii,rfl,rfl,HK,hK0,hK1,hS,hO⟩:=hrel
  by_cases hlt:i<xs.length
  ·have hps:=psum_le (mkS).cnt xs (i+1)
   rw [psum_succ (mkS).cnt xs i hlt] at hps
   have hKb:K+((mkS).cnt xs[i]:Nat)≤1000000000:=by rw [HK.out];omega
   have HK2:Hid (K+((mkS).cnt xs[i]:Nat)=k+psum (mkS).cnt xs (i+1)):=by unfold Hid;rw [HK.out,psum_succ (mkS).cnt xs i hlt];omega
   have hhi2:hi≤wr.heap.size:=Nat.le_trans hhi hO.size
   obtain ⟨g,off,C,tid,b,cs,rfl,hg1,hg2,hbk,hcl,hcells,ho,hgm,hgb,hbn,hbm,hput⟩:=hS.focus good_S hnd (pm_at mkS xs k i hlt)
   clear hcl hps
   have hKc:K+((1:Nat):Int)≤1000000000:=hKb
   obtain ⟨⟨rfl,f0⟩,hbe⟩:=ho
   have e0:C[off+i]?=some (.string xs[i]):=by simpa [shS] using hcells 0 (by decide)
   have c0_0:wr.cell? ⟨g,off+i,none⟩=some (.string xs[i]):=by rw [hbk.cell];exact e0
   have z0_0:wr.frozen? ⟨g,off+i,none⟩=false:=hbk.frozen _
   go_wp2_with fail
   refine (c_markText _ _ (by omega) (by omega)).mono ?_
   rintro e w1 ⟨rfl,u1⟩
   have kb1:=hbk.up u1
   have on1:=hO.up u1
   have sz1:hi≤w1.heap.size:=Nat.le_trans hhi on1.size
   have re1:∀y,y<hi→y≠g→y∉b→w1.heap[y]?=wr.heap[y]?:=fun y hy hyg hyb=>(u1.block y (Nat.lt_of_lt_of_le hy (Nat.le_trans hhi hO.size)))
   have c1_0:w1.cell? ⟨g,off+i,none⟩=some (.string xs[i]):=by rw [kb1.cell];exact e0
   have z1_0:w1.frozen? ⟨g,off+i,none⟩=false:=kb1.frozen _
   clear u1
   go_wp2_with fail
   have kb2:Bk (w1.setCell ⟨g,off+i,none⟩ (.string (mtext K))) g tid (C.setIfInBounds (off+i) (.string (mtext K))):=(kb1.set (off+i) (.string (mtext K)))
   have on2:Only bl w (w1.setCell ⟨g,off+i,none⟩ (.string (mtext K))):=(on1.but (But.set _ g (off+i) (.string (mtext K))) hgm)
   have bu2:But g w1 (w1.setCell ⟨g,off+i,none⟩ (.string (mtext K))):=But.set _ g (off+i) (.string (mtext K))
   have re2:∀y,y<hi→y≠g→y∉b→(w1.setCell ⟨g,off+i,none⟩ (.string (mtext K))).heap[y]?=wr.heap[y]?:=fun y hy hyg hyb=>(bu2.block y hyg).trans (re1 y hy hyg hyb)
   have hxm:(mkS).mark xs[i] K=(mtext (K)):=rfl
   have hown:shS.own (w1.setCell ⟨g,off+i,none⟩ (.string (mtext K))) lo hi [.string (mtext K)] (mtext (K)) b:=⟨⟨rfl,(mtext_le (by omega))⟩,hbe⟩
   have hcell:∀j,j<shS.size→(C.setIfInBounds (off+i) (.string (mtext K)))[off+(i*shS.size+j)]?=[.string (mtext K)][j]?:=by
    intro j hj
    obtain rfl:j=0:=by have:j<1:=hj;omega
    show (C.setIfInBounds (off+i) (.string (mtext K)))[off+(i*1+0)]?=some _
    exact set_same (by omega) e0
   have hfar:∀p,(p<off+i*shS.size∨off+i*shS.size+shS.size≤p)→(C.setIfInBounds (off+i) (.string (mtext K)))[p]?=C[p]?:=by
    intro p hp
    have hp':p<off+i*1∨off+i*1+1≤p:=hp
    rw [set_ne (by omega)]
   have hS2:=hput _ _ _ _ kb2 hcell hfar hown (fun y hy hyg hyb=>re2 y (hS.in_ good_S y hy).2 hyg hyb)
   have hpm:(pm mkS xs k i).set i (mtext (K))=pm mkS xs k (i+1):=by rw [←hxm,HK.out];exact pm_succ mkS xs k i hlt
   rw [hpm] at hS2
   clear hpm hxm
   have hcn:((mkS).cnt xs[i]:Nat)=1:=rfl
   have HK3:Hid (K+1=k+psum (mkS).cnt xs (i+1)):=by unfold Hid;rw [←HK2.out,hcn];omega
   have hk5:K+1≤1000000000:=by rw [hcn] at hKb;omega
   clear hcn
   go_roundw
   case rel=>exact ⟨i+1,K+1,by omega,rfl,by go_num,HK3,by omega,hk5,hS2,on2⟩
   case measure=>simp [intOf];omega
  ·have HE:Hid (K=k+((mkL mkS).cnt xs:Nat)):=by unfold Hid;rw [HK.out];show _=k+(((xs.map (mkS).cnt).sum:Nat):Int);rw [←psum_all (mkS).cnt xs,show i=xs.length by omega]
   rw [pm_all mkS xs k i (by omega)] at hS
   go_wp2_with fail
   go_ret
   exact MarkL.mk HE hS hO
theorem c_markInt64S (xs:List Int) (A:Option Addr) (c:Nat) (k:Int) (lo hi:Nat) (bl:List Nat) (w:World) (h:SO shI w lo hi A c xs bl) (hhi:hi≤w.heap.size) (hnd:bl.Nodup) (hk0:0<k) (hk1:k+((mkL mkI).cnt xs:Nat)≤1000000000) :
 Calls Tryz.prog 54 #[.slice A xs.length c,.int .i64 k] w (MarkL shI mkI lo hi A c xs k bl w):=by
 have hlen:xs.length≤9223372036854775807:=(h.rep good_I).len_le
 have hk2:k+((xs.map (mkI).cnt).sum:Nat)≤1000000000:=hk1
 clear hk1
 go_enter Tryz.func54,Tryz.ntmps54
 go_wp2_with fail
 go_loopw [1,5] (fun a b wr=>∃(i:Nat) (K:Int),i≤xs.length∧a=.int .i64 K∧b=.int .i64 i∧Hid (K=k+psum (mkI).cnt xs i)∧0<K∧K≤1000000000∧SO shI wr lo hi A c (pm mkI xs k i) bl∧Only bl w wr) (fun _ b _=>xs.length-(intOf b).toNat)
 case atStart=>exact ⟨0,k,Nat.zero_le _,rfl,rfl,by unfold Hid;rw [psum_zero];simp,hk0,by omega,by rw [pm_zero];exact h,Only.refl _ _⟩
 case round =>
  obtain ⟨i,K,hii,rfl,rfl,HK,hK0,hK1,hS,hO⟩:=hrel
  by_cases hlt:i<xs.length
  ·have hps:=psum_le (mkI).cnt xs (i+1)
   rw [psum_succ (mkI).cnt xs i hlt] at hps
   have hKb:K+((mkI).cnt xs[i]:Nat)≤1000000000:=by rw [HK.out];omega
   have HK2:Hid (K+((mkI).cnt xs[i]:Nat)=k+psum (mkI).cnt xs (i+1)):=by unfold Hid;rw [HK.out,psum_succ (mkI).cnt xs i hlt];omega
   have hhi2:hi≤wr.heap.size:=Nat.le_trans hhi hO.size
   obtain ⟨g,off,C,tid,b,cs,rfl,hg1,hg2,hbk,hcl,hcells,ho,hgm,hgb,hbn,hbm,hput⟩:=hS.focus good_I hnd (pm_at mkI xs k i hlt)
   clear hcl hps
   have hKc:K+((1:Nat):Int)≤1000000000:=hKb
   obtain ⟨⟨rfl,f0⟩,hbe⟩:=ho
   have e0:C[off+i]?=some (.int .i64 xs[i]):=by simpa [shI] using hcells 0 (by decide)
   have c0_0:wr.cell? ⟨g,off+i,none⟩=some (.int .i64 xs[i]):=by rw [hbk.cell];exact e0
   have z0_0:wr.frozen? ⟨g,off+i,none⟩=false:=hbk.frozen _
   go_wp2_with fail
   have kb1:Bk (wr.setCell ⟨g,off+i,none⟩ (.int .i64 K)) g tid (C.setIfInBounds (off+i) (.int .i64 K)):=(hbk.set (off+i) (.int .i64 K))
   have on1:Only bl w (wr.setCell ⟨g,off+i,none⟩ (.int .i64 K)):=(hO.but (But.set _ g (off+i) (.int .i64 K)) hgm)
   have bu1:But g wr (wr.setCell ⟨g,off+i,none⟩ (.int .i64 K)):=But.set _ g (off+i) (.int .i64 K)
   have re1:∀y,y<hi→y≠g→y∉b→(wr.setCell ⟨g,off+i,none⟩ (.int .i64 K)).heap[y]?=wr.heap[y]?:=fun y hy hyg hyb=>(bu1.block y hyg)
   have hxm:(mkI).mark xs[i] K=(K):=rfl
   have hown:shI.own (wr.setCell ⟨g,off+i,none⟩ (.int .i64 K)) lo hi [.int .i64 K] (K) b:=⟨⟨rfl,⟨by omega,by omega⟩⟩,hbe⟩
   have hcell:∀j,j<shI.size→(C.setIfInBounds (off+i) (.int .i64 K))[off+(i*shI.size+j)]?=[.int .i64 K][j]?:=by
    intro j hj
    obtain rfl:j=0:=by have:j<1:=hj;omega
    show (C.setIfInBounds (off+i) (.int .i64 K))[off+(i*1+0)]?=some _
    exact set_same (by omega) e0
   have hfar:∀p,(p<off+i*shI.size∨off+i*shI.size+shI.size≤p)→(C.setIfInBounds (off+i) (.int .i64 K))[p]?=C[p]?:=by
    intro p hp
    have hp':p<off+i*1∨off+i*1+1≤p:=hp
    rw [set_ne (by omega)]
   have hS2:=hput _ _ _ _ kb1 hcell hfar hown (fun y hy hyg hyb=>re1 y (hS.in_ good_I y hy).2 hyg hyb)
   have hpm:(pm mkI xs k i).set i (K)=pm mkI xs k (i+1):=by rw [←hxm,HK.out];exact pm_succ mkI xs k i hlt
   rw [hpm] at hS2
   clear hpm hxm
   have hcn:((mkI).cnt xs[i]:Nat)=1:=rfl
   have HK3:Hid (K+1=k+psum (mkI).cnt xs (i+1)):=by unfold Hid;rw [←HK2.out,hcn];omega
   have hk5:K+1≤1000000000:=by rw [hcn] at hKb;omega
   clear hcn
   go_roundw
   case rel=>exact ⟨i+1,K+1,by omega,rfl,by go_num,HK3,by omega,hk5,hS2,on1⟩
   case measure=>simp [intOf];omega
  ·have HE:Hid (K=k+((mkL mkI).cnt xs:Nat)):=by unfold Hid;rw [HK.out];show _=k+(((xs.map (mkI).cnt).sum:Nat):Int);rw [←psum_all (mkI).cnt xs,show i=xs.length by omega]
   rw [pm_all mkI xs k i (by omega)] at hS
   go_wp2_with fail
   go_ret
   exact MarkL.mk HE hS hO
theorem c_markSlotS (xs:List TSlot) (A:Option Addr) (c:Nat) (k:Int) (lo hi:Nat) (bl:List Nat) (w:World) (h:SO shSlot w lo hi A c xs bl) (hhi:hi≤w.heap.size) (hnd:bl.Nodup) (hk0:0<k) (hk1:k+((mkL mmSlot).cnt xs:Nat)≤1000000000) :
 Calls Tryz.prog 24 #[.slice A xs.length c,.int .i64 k] w (MarkL shSlot mmSlot lo hi A c xs k bl w):=by
 have hlen:xs.length≤9223372036854775807:=(h.rep good_Slot).len_le
 have hk2:k+((xs.map (mmSlot).cnt).sum:Nat)≤1000000000:=hk1
 clear hk1
 go_enter Tryz.func24,Tryz.ntmps24
 go_wp2_with fail
 go_loopw [1,5] (fun a b wr=>∃(i:Nat) (K:Int),i≤xs.length∧a=.int .i64 K∧b=.int .i64 i∧Hid (K=k+psum (mmSlot).cnt xs i)∧0<K∧K≤1000000000∧SO shSlot wr lo hi A c (pm mmSlot xs k i) bl∧Only bl w wr) (fun _ b _=>xs.length-(intOf b).toNat)
 case atStart=>exact ⟨0,k,Nat.zero_le _,rfl,rfl,by unfold Hid;rw [psum_zero];simp,hk0,by omega,by rw [pm_zero];exact h,Only.refl _ _⟩
 case round =>
  obtain ⟨i,K,hii,rfl,rfl,HK,hK0,hK1,hS,hO⟩:=hrel
  by_cases hlt:i<xs.length
  ·have hps:=psum_le (mmSlot).cnt xs (i+1)
   rw [psum_succ (mmSlot).cnt xs i hlt] at hps
   have hKb:K+((mmSlot).cnt xs[i]:Nat)≤1000000000:=by rw [HK.out];omega
   have HK2:Hid (K+((mmSlot).cnt xs[i]:Nat)=k+psum (mmSlot).cnt xs (i+1)):=by unfold Hid;rw [HK.out,psum_succ (mmSlot).cnt xs i hlt];omega
   have hhi2:hi≤wr.heap.size:=Nat.le_trans hhi hO.size
   obtain ⟨g,off,C,tid,b,cs,rfl,hg1,hg2,hbk,hcl,hcells,ho,hgm,hgb,hbn,hbm,hput⟩:=hS.focus good_Slot hnd (pm_at mmSlot xs k i hlt)
   clear hcl hps
   have hKc:K+((1+(1+((mkL mkS).cnt xs[i].2.2.1+((mkL mkS).cnt xs[i].2.2.2.1+((mkL mkI).cnt xs[i].2.2.2.2)))):Nat):Int)≤1000000000:=hKb
   obtain ⟨D2,d2,bl2,D3,d3,bl3,D4,d4,bl4,rfl,hbe,f0,f2,f3,f4⟩:=openOSlot ho
   have e0:C[off+i*5]?=some (.int .i64 xs[i].1):=hcells 0 (by decide)
   have e1:C[off+i*5+1]?=some (.bool xs[i].2.1):=hcells 1 (by decide)
   have e2:C[off+i*5+2]?=some (.slice D2 xs[i].2.2.1.length d2):=hcells 2 (by decide)
   have e3:C[off+i*5+3]?=some (.slice D3 xs[i].2.2.2.1.length d3):=hcells 3 (by decide)
   have e4:C[off+i*5+4]?=some (.slice D4 xs[i].2.2.2.2.length d4):=hcells 4 (by decide)
   have hb2:∀y∈bl2,y∈b:=by rw [hbe];intro y hy;simp [hy]
   have hb3:∀y∈bl3,y∈b:=by rw [hbe];intro y hy;simp [hy]
   have hb4:∀y∈bl4,y∈b:=by rw [hbe];intro y hy;simp [hy]
   have hng2:g∉bl2:=fun hm=>hgb (hb2 g hm)
   have hng3:g∉bl3:=fun hm=>hgb (hb3 g hm)
   have hng4:g∉bl4:=fun hm=>hgb (hb4 g hm)
   rw [hbe] at hbn
   have c0_0:wr.cell? ⟨g,off+i*5,none⟩=some (.int .i64 xs[i].1):=by rw [hbk.cell];exact e0
   have z0_0:wr.frozen? ⟨g,off+i*5,none⟩=false:=hbk.frozen _
   have c0_1:wr.cell? ⟨g,off+i*5+1,none⟩=some (.bool xs[i].2.1):=by rw [hbk.cell];exact e1
   have z0_1:wr.frozen? ⟨g,off+i*5+1,none⟩=false:=hbk.frozen _
   have c0_2:wr.cell? ⟨g,off+i*5+2,none⟩=some (.slice D2 xs[i].2.2.1.length d2):=by rw [hbk.cell];exact e2
   have z0_2:wr.frozen? ⟨g,off+i*5+2,none⟩=false:=hbk.frozen _
   have c0_3:wr.cell? ⟨g,off+i*5+3,none⟩=some (.slice D3 xs[i].2.2.2.1.length d3):=by rw [hbk.cell];exact e3
   have z0_3:wr.frozen? ⟨g,off+i*5+3,none⟩=false:=hbk.frozen _
   have c0_4:wr.cell? ⟨g,off+i*5+4,none⟩=some (.slice D4 xs[i].2.2.2.2.length d4):=by rw [hbk.cell];exact e4
   have z0_4:wr.frozen? ⟨g,off+i*5+4,none⟩=false:=hbk.frozen _
   go_wp2_with fail
   have kb1:Bk ((wr.setCell ⟨g,off+i*5,none⟩ (.int .i64 K)).setCell ⟨g,off+i*5+1,none⟩ (.bool ((K+1)%3==0))) g tid ((C.setIfInBounds (off+i*5) (.int .i64 K)).setIfInBounds (off+i*5+1) (.bool ((K+1)%3==0))):=((hbk.set (off+i*5) (.int .i64 K)).set (off+i*5+1) (.bool ((K+1)%3==0)))
   have on1:Only bl w ((wr.setCell ⟨g,off+i*5,none⟩ (.int .i64 K)).setCell ⟨g,off+i*5+1,none⟩ (.bool ((K+1)%3==0))):=((hO.but (But.set _ g (off+i*5) (.int .i64 K)) hgm).but (But.set _ g (off+i*5+1) (.bool ((K+1)%3==0))) hgm)
   have bu1:But g wr ((wr.setCell ⟨g,off+i*5,none⟩ (.int .i64 K)).setCell ⟨g,off+i*5+1,none⟩ (.bool ((K+1)%3==0))):=(But.set _ g (off+i*5) (.int .i64 K)).trans (But.set _ g (off+i*5+1) (.bool ((K+1)%3==0)))
   have s1_2:=f2.keep good_S (fun y hy=>bu1.block y (fun e=>hng2 (e▸hy)))
   have s1_3:=f3.keep good_S (fun y hy=>bu1.block y (fun e=>hng3 (e▸hy)))
   have s1_4:=f4.keep good_I (fun y hy=>bu1.block y (fun e=>hng4 (e▸hy)))
   have re1:∀y,y<hi→y≠g→y∉b→((wr.setCell ⟨g,off+i*5,none⟩ (.int .i64 K)).setCell ⟨g,off+i*5+1,none⟩ (.bool ((K+1)%3==0))).heap[y]?=wr.heap[y]?:=fun y hy hyg hyb=>(bu1.block y hyg)
   have hc_2:K+((mmSlot).cnt xs[i]:Nat)≤1000000000:=hKb
   have hsum2:((mmSlot).cnt xs[i]:Nat)=1+(1+((mkL mkS).cnt xs[i].2.2.1+((mkL mkS).cnt xs[i].2.2.2.1+((mkL mkI).cnt xs[i].2.2.2.2)))):=rfl
   have HN2:(bl2).Nodup:=by grind [List.nodup_append]
   refine (c_markStringS _ _ _ _ lo hi bl2 _ s1_2 (Nat.le_trans hhi on1.size) HN2 (by omega) (by rw [hsum2] at hc_2;omega)).mono ?_
   clear hc_2 hsum2
   rintro e w2 ⟨rfl,t2,o2⟩
   have kb2:=kb1.only o2 hng2
   have on2:=on1.trans (o2.mono (fun y hy=>hbm y (hb2 y hy)))
   have s2_3:=s1_3.keep good_S (fun y hy=>o2.block y (Nat.lt_of_lt_of_le (s1_3.in_ good_S y hy).2 (Nat.le_trans hhi on1.size)) (fun hm=>by grind [List.nodup_append]))
   have s2_4:=s1_4.keep good_I (fun y hy=>o2.block y (Nat.lt_of_lt_of_le (s1_4.in_ good_I y hy).2 (Nat.le_trans hhi on1.size)) (fun hm=>by grind [List.nodup_append]))
   have re2:∀y,y<hi→y≠g→y∉b→w2.heap[y]?=wr.heap[y]?:=fun y hy hyg hyb=>(o2.block y (Nat.lt_of_lt_of_le hy (Nat.le_trans hhi on1.size)) (fun hm=>hyb (hb2 y hm))).trans (re1 y hy hyg hyb)
   have c2_0:w2.cell? ⟨g,off+i*5,none⟩=some (.int .i64 K):=by rw [kb2.cell];rw [set_ne (by omega)];exact set_same rfl e0
   have z2_0:w2.frozen? ⟨g,off+i*5,none⟩=false:=kb2.frozen _
   have c2_1:w2.cell? ⟨g,off+i*5+1,none⟩=some (.bool ((K+1)%3==0)):=by rw [kb2.cell];exact set_same rfl (by rw [set_ne (by omega)];exact e1)
   have z2_1:w2.frozen? ⟨g,off+i*5+1,none⟩=false:=kb2.frozen _
   have c2_2:w2.cell? ⟨g,off+i*5+2,none⟩=some (.slice D2 xs[i].2.2.1.length d2):=by rw [kb2.cell];rw [set_ne (by omega)];rw [set_ne (by omega)];exact e2
   have z2_2:w2.frozen? ⟨g,off+i*5+2,none⟩=false:=kb2.frozen _
   have c2_3:w2.cell? ⟨g,off+i*5+3,none⟩=some (.slice D3 xs[i].2.2.2.1.length d3):=by rw [kb2.cell];rw [set_ne (by omega)];rw [set_ne (by omega)];exact e3
   have z2_3:w2.frozen? ⟨g,off+i*5+3,none⟩=false:=kb2.frozen _
   have c2_4:w2.cell? ⟨g,off+i*5+4,none⟩=some (.slice D4 xs[i].2.2.2.2.length d4):=by rw [kb2.cell];rw [set_ne (by omega)];rw [set_ne (by omega)];exact e4
   have z2_4:w2.frozen? ⟨g,off+i*5+4,none⟩=false:=kb2.frozen _
   clear o2
   go_wp2_with fail
   have hc_3:K+((mmSlot).cnt xs[i]:Nat)≤1000000000:=hKb
   have hsum3:((mmSlot).cnt xs[i]:Nat)=1+(1+((mkL mkS).cnt xs[i].2.2.1+((mkL mkS).cnt xs[i].2.2.2.1+((mkL mkI).cnt xs[i].2.2.2.2)))):=rfl
   have HN3:(bl3).Nodup:=by grind [List.nodup_append]
   refine (c_markStringS _ _ _ _ lo hi bl3 _ s2_3 (Nat.le_trans hhi on2.size) HN3 (by omega) (by rw [hsum3] at hc_3;omega)).mono ?_
   clear hc_3 hsum3
   rintro e w3 ⟨rfl,t3,o3⟩
   have kb3:=kb2.only o3 hng3
   have on3:=on2.trans (o3.mono (fun y hy=>hbm y (hb3 y hy)))
   have s3_2:=t2.keep good_S (fun y hy=>o3.block y (Nat.lt_of_lt_of_le (t2.in_ good_S y hy).2 (Nat.le_trans hhi on2.size)) (fun hm=>by grind [List.nodup_append]))
   have s3_4:=s2_4.keep good_I (fun y hy=>o3.block y (Nat.lt_of_lt_of_le (s2_4.in_ good_I y hy).2 (Nat.le_trans hhi on2.size)) (fun hm=>by grind [List.nodup_append]))
   have re3:∀y,y<hi→y≠g→y∉b→w3.heap[y]?=wr.heap[y]?:=fun y hy hyg hyb=>(o3.block y (Nat.lt_of_lt_of_le hy (Nat.le_trans hhi on2.size)) (fun hm=>hyb (hb3 y hm))).trans (re2 y hy hyg hyb)
   have c3_0:w3.cell? ⟨g,off+i*5,none⟩=some (.int .i64 K):=by rw [kb3.cell];rw [set_ne (by omega)];exact set_same rfl e0
   have z3_0:w3.frozen? ⟨g,off+i*5,none⟩=false:=kb3.frozen _
   have c3_1:w3.cell? ⟨g,off+i*5+1,none⟩=some (.bool ((K+1)%3==0)):=by rw [kb3.cell];exact set_same rfl (by rw [set_ne (by omega)];exact e1)
   have z3_1:w3.frozen? ⟨g,off+i*5+1,none⟩=false:=kb3.frozen _
   have c3_2:w3.cell? ⟨g,off+i*5+2,none⟩=some (.slice D2 xs[i].2.2.1.length d2):=by rw [kb3.cell];rw [set_ne (by omega)];rw [set_ne (by omega)];exact e2
   have z3_2:w3.frozen? ⟨g,off+i*5+2,none⟩=false:=kb3.frozen _
   have c3_3:w3.cell? ⟨g,off+i*5+3,none⟩=some (.slice D3 xs[i].2.2.2.1.length d3):=by rw [kb3.cell];rw [set_ne (by omega)];rw [set_ne (by omega)];exact e3
   have z3_3:w3.frozen? ⟨g,off+i*5+3,none⟩=false:=kb3.frozen _
   have c3_4:w3.cell? ⟨g,off+i*5+4,none⟩=some (.slice D4 xs[i].2.2.2.2.length d4):=by rw [kb3.cell];rw [set_ne (by omega)];rw [set_ne (by omega)];exact e4
   have z3_4:w3.frozen? ⟨g,off+i*5+4,none⟩=false:=kb3.frozen _
   clear o3
   go_wp2_with fail
   have hc_4:K+((mmSlot).cnt xs[i]:Nat)≤1000000000:=hKb
   have hsum4:((mmSlot).cnt xs[i]:Nat)=1+(1+((mkL mkS).cnt xs[i].2.2.1+((mkL mkS).cnt xs[i].2.2.2.1+((mkL mkI).cnt xs[i].2.2.2.2)))):=rfl
   have HN4:(bl4).Nodup:=by grind [List.nodup_append]
   refine (c_markInt64S _ _ _ _ lo hi bl4 _ s3_4 (Nat.le_trans hhi on3.size) HN4 (by omega) (by rw [hsum4] at hc_4;omega)).mono ?_
   clear hc_4 hsum4
   rintro e w4 ⟨rfl,t4,o4⟩
   have kb4:=kb3.only o4 hng4
   have on4:=on3.trans (o4.mono (fun y hy=>hbm y (hb4 y hy)))
   have s4_2:=s3_2.keep good_S (fun y hy=>o4.block y (Nat.lt_of_lt_of_le (s3_2.in_ good_S y hy).2 (Nat.le_trans hhi on3.size)) (fun hm=>by grind [List.nodup_append]))
   have s4_3:=t3.keep good_S (fun y hy=>o4.block y (Nat.lt_of_lt_of_le (t3.in_ good_S y hy).2 (Nat.le_trans hhi on3.size)) (fun hm=>by grind [List.nodup_append]))
   have re4:∀y,y<hi→y≠g→y∉b→w4.heap[y]?=wr.heap[y]?:=fun y hy hyg hyb=>(o4.block y (Nat.lt_of_lt_of_le hy (Nat.le_trans hhi on3.size)) (fun hm=>hyb (hb4 y hm))).trans (re3 y hy hyg hyb)
   have c4_0:w4.cell? ⟨g,off+i*5,none⟩=some (.int .i64 K):=by rw [kb4.cell];rw [set_ne (by omega)];exact set_same rfl e0
   have z4_0:w4.frozen? ⟨g,off+i*5,none⟩=false:=kb4.frozen _
   have c4_1:w4.cell? ⟨g,off+i*5+1,none⟩=some (.bool ((K+1)%3==0)):=by rw [kb4.cell];exact set_same rfl (by rw [set_ne (by omega)];exact e1)
   have z4_1:w4.frozen? ⟨g,off+i*5+1,none⟩=false:=kb4.frozen _
   have c4_2:w4.cell? ⟨g,off+i*5+2,none⟩=some (.slice D2 xs[i].2.2.1.length d2):=by rw [kb4.cell];rw [set_ne (by omega)];rw [set_ne (by omega)];exact e2
   have z4_2:w4.frozen? ⟨g,off+i*5+2,none⟩=false:=kb4.frozen _
   have c4_3:w4.cell? ⟨g,off+i*5+3,none⟩=some (.slice D3 xs[i].2.2.2.1.length d3):=by rw [kb4.cell];rw [set_ne (by omega)];rw [set_ne (by omega)];exact e3
   have z4_3:w4.frozen? ⟨g,off+i*5+3,none⟩=false:=kb4.frozen _
   have c4_4:w4.cell? ⟨g,off+i*5+4,none⟩=some (.slice D4 xs[i].2.2.2.2.length d4):=by rw [kb4.cell];rw [set_ne (by omega)];rw [set_ne (by omega)];exact e4
   have z4_4:w4.frozen? ⟨g,off+i*5+4,none⟩=false:=kb4.frozen _
   clear o4
   go_wp2_with fail
   have hxm:(mmSlot).mark xs[i] K=((K),(((K+1)%3==0),(markL mkS xs[i].2.2.1 (K+1+1)),(markL mkS xs[i].2.2.2.1 (K+1+1+((mkL mkS).cnt xs[i].2.2.1:Nat))),(markL mkI xs[i].2.2.2.2 (K+1+1+((mkL mkS).cnt xs[i].2.2.1:Nat)+((mkL mkS).cnt xs[i].2.2.2.1:Nat))))):=rfl
   have hown:shSlot.own w4 lo hi [.int .i64 K,.bool ((K+1)%3==0),.slice D2 (markL mkS xs[i].2.2.1 (K+1+1)).length d2,.slice D3 (markL mkS xs[i].2.2.2.1 (K+1+1+((mkL mkS).cnt xs[i].2.2.1:Nat))).length d3,.slice D4 (markL mkI xs[i].2.2.2.2 (K+1+1+((mkL mkS).cnt xs[i].2.2.1:Nat)+((mkL mkS).cnt xs[i].2.2.2.1:Nat))).length d4] ((K),(((K+1)%3==0),(markL mkS xs[i].2.2.1 (K+1+1)),(markL mkS xs[i].2.2.2.1 (K+1+1+((mkL mkS).cnt xs[i].2.2.1:Nat))),(markL mkI xs[i].2.2.2.2 (K+1+1+((mkL mkS).cnt xs[i].2.2.1:Nat)+((mkL mkS).cnt xs[i].2.2.2.1:Nat))))) b:=by rw [hbe];exact mkOSlot (x:=((K),(((K+1)%3==0),(markL mkS xs[i].2.2.1 (K+1+1)),(markL mkS xs[i].2.2.2.1 (K+1+1+((mkL mkS).cnt xs[i].2.2.1:Nat))),(markL mkI xs[i].2.2.2.2 (K+1+1+((mkL mkS).cnt xs[i].2.2.1:Nat)+((mkL mkS).cnt xs[i].2.2.2.1:Nat)))))) ⟨by omega,by omega⟩ s4_2 s4_3 t4
   have hcell:∀j,j<shSlot.size→((C.setIfInBounds (off+i*5) (.int .i64 K)).setIfInBounds (off+i*5+1) (.bool ((K+1)%3==0)))[off+(i*shSlot.size+j)]?=[.int .i64 K,.bool ((K+1)%3==0),.slice D2 (markL mkS xs[i].2.2.1 (K+1+1)).length d2,.slice D3 (markL mkS xs[i].2.2.2.1 (K+1+1+((mkL mkS).cnt xs[i].2.2.1:Nat))).length d3,.slice D4 (markL mkI xs[i].2.2.2.2 (K+1+1+((mkL mkS).cnt xs[i].2.2.1:Nat)+((mkL mkS).cnt xs[i].2.2.2.1:Nat))).length d4][j]?:=by
    intro j hj
    have hj':j<5:=hj
    by_cases hj0:j=0
    ·subst hj0
     show ((C.setIfInBounds (off+i*5) (.int .i64 K)).setIfInBounds (off+i*5+1) (.bool ((K+1)%3==0)))[off+(i*5+0)]?=some _
     rw [show off+(i*5+0)=off+i*5 by omega]
     rw [set_ne (by omega)];exact set_same rfl e0
    by_cases hj1:j=1
    ·subst hj1
     show ((C.setIfInBounds (off+i*5) (.int .i64 K)).setIfInBounds (off+i*5+1) (.bool ((K+1)%3==0)))[off+(i*5+1)]?=some _
     rw [show off+(i*5+1)=off+i*5+1 by omega]
     exact set_same rfl (by rw [set_ne (by omega)];exact e1)
    by_cases hj2:j=2
    ·subst hj2
     show ((C.setIfInBounds (off+i*5) (.int .i64 K)).setIfInBounds (off+i*5+1) (.bool ((K+1)%3==0)))[off+(i*5+2)]?=some _
     rw [show off+(i*5+2)=off+i*5+2 by omega]
     rw [markL_len]
     rw [set_ne (by omega)];rw [set_ne (by omega)];exact e2
    by_cases hj3:j=3
    ·subst hj3
     show ((C.setIfInBounds (off+i*5) (.int .i64 K)).setIfInBounds (off+i*5+1) (.bool ((K+1)%3==0)))[off+(i*5+3)]?=some _
     rw [show off+(i*5+3)=off+i*5+3 by omega]
     rw [markL_len]
     rw [set_ne (by omega)];rw [set_ne (by omega)];exact e3
    by_cases hj4:j=4
    ·subst hj4
     show ((C.setIfInBounds (off+i*5) (.int .i64 K)).setIfInBounds (off+i*5+1) (.bool ((K+1)%3==0)))[off+(i*5+4)]?=some _
     rw [show off+(i*5+4)=off+i*5+4 by omega]
     rw [markL_len]
     rw [set_ne (by omega)];rw [set_ne (by omega)];exact e4
    omega
   have hfar:∀p,(p<off+i*shSlot.size∨off+i*shSlot.size+shSlot.size≤p)→((C.setIfInBounds (off+i*5) (.int .i64 K)).setIfInBounds (off+i*5+1) (.bool ((K+1)%3==0)))[p]?=C[p]?:=by
    intro p hp
    have hp':p<off+i*5∨off+i*5+5≤p:=hp
    rw [set_ne (by omega)];rw [set_ne (by omega)]
   have hS2:=hput _ _ _ _ kb4 hcell hfar hown (fun y hy hyg hyb=>re4 y (hS.in_ good_Slot y hy).2 hyg hyb)
   have hpm:(pm mmSlot xs k i).set i ((K),(((K+1)%3==0),(markL mkS xs[i].2.2.1 (K+1+1)),(markL mkS xs[i].2.2.2.1 (K+1+1+((mkL mkS).cnt xs[i].2.2.1:Nat))),(markL mkI xs[i].2.2.2.2 (K+1+1+((mkL mkS).cnt xs[i].2.2.1:Nat)+((mkL mkS).cnt xs[i].2.2.2.1:Nat)))))=pm mmSlot xs k (i+1):=by rw [←hxm,HK.out];exact pm_succ mmSlot xs k i hlt
   rw [hpm] at hS2
   clear hpm hxm
   have hcn:((mmSlot).cnt xs[i]:Nat)=1+(1+((mkL mkS).cnt xs[i].2.2.1+((mkL mkS).cnt xs[i].2.2.2.1+((mkL mkI).cnt xs[i].2.2.2.2)))):=rfl
   have HK3:Hid (K+1+1+((mkL mkS).cnt xs[i].2.2.1:Nat)+((mkL mkS).cnt xs[i].2.2.2.1:Nat)+((mkL mkI).cnt xs[i].2.2.2.2:Nat)=k+psum (mmSlot).cnt xs (i+1)):=by unfold Hid;rw [←HK2.out,hcn];omega
   have hk5:K+1+1+((mkL mkS).cnt xs[i].2.2.1:Nat)+((mkL mkS).cnt xs[i].2.2.2.1:Nat)+((mkL mkI).cnt xs[i].2.2.2.2:Nat)≤1000000000:=by rw [hcn] at hKb;omega
   clear hcn
   go_roundw
   case rel=>exact ⟨i+1,K+1+1+((mkL mkS).cnt xs[i].2.2.1:Nat)+((mkL mkS).cnt xs[i].2.2.2.1:Nat)+((mkL mkI).cnt xs[i].2.2.2.2:Nat),by omega,rfl,by go_num,HK3,by omega,hk5,hS2,on4⟩
   case measure=>simp [intOf];omega
  ·have HE:Hid (K=k+((mkL mmSlot).cnt xs:Nat)):=by unfold Hid;rw [HK.out];show _=k+(((xs.map (mmSlot).cnt).sum:Nat):Int);rw [←psum_all (mmSlot).cnt xs,show i=xs.length by omega]
   rw [pm_all mmSlot xs k i (by omega)] at hS
   go_wp2_with fail
   go_ret
   exact MarkL.mk HE hS hO
theorem c_markBtree (cs:List Value) (x:TBtree) (k:Int) (lo hi:Nat) (bl:List Nat) (w:World) (h:shBtree.own w lo hi cs x bl) (hhi:hi≤w.heap.size) (hnd:bl.Nodup) (hk0:0<k) (hk1:k+(mmTBtree.cnt x:Nat)≤1000000000) :
 Calls Tryz.prog 9 #[.agg cs.toArray,.int .i64 k] w (MarkV shBtree mmTBtree lo hi cs x k bl w):=by
 obtain ⟨x0,x1⟩:=x
 have ho:=openOBtree h
 try dsimp only at ho
 obtain ⟨A1,c1,bl1,rfl,hbe,f0,f1⟩:=ho
 clear h
 have hcn:mmTBtree.cnt (x0,x1)=0+((mkL mmSlot).cnt x1):=rfl
 rw [hcn] at hk1
 have HC:=Hd hcn;clear hcn
 have kb0:Bk (w.alloc (.cells #[.int .i64 x0,.slice A1 x1.length c1] 28)) w.heap.size 28 #[.int .i64 x0,.slice A1 x1.length c1]:=Bk.new _ _ _
 have on0:Only bl w (w.alloc (.cells #[.int .i64 x0,.slice A1 x1.length c1] 28)):=Only.of_up ((Up.refl _).alloc _)
 have hb1:∀y∈bl1,y∈bl:=by rw [hbe];intro y hy;simp [hy]
 have hw1:w.heap.size∉bl1:=fun hm=>by have:=(f1.in_ good_Slot _ hm).2;omega
 have s0_1:=f1.keep good_Slot (fun y hy=>(Up.alloc (Up.refl w) (.cells #[.int .i64 x0,.slice A1 x1.length c1] 28)).block y (Nat.lt_of_lt_of_le (f1.in_ good_Slot y hy).2 hhi))
 rw [hbe] at hnd
 go_enter Tryz.func9,Tryz.ntmps9
 go_wp2_with fail
 have HN1:(bl1).Nodup:=by grind [List.nodup_append]
 refine (c_markSlotS _ _ _ _ lo hi bl1 _ s0_1 (Nat.le_trans hhi on0.size) HN1 (by omega) (by omega)).mono ?_
 rintro e w1 ⟨rfl,t1,o1⟩
 have hgo1:w.heap.size∉(bl1):=by exact hw1
 have kb1:=kb0.only o1 hgo1
 have on1:=on0.trans (o1.mono (fun y hy=>by exact hb1 y hy))
 clear o1
 go_wp2_with fail
 go_ret
 have HE:Hid (k+((mkL mmSlot).cnt x1:Nat)=k+(mmTBtree.cnt (x0,x1):Nat)):=by unfold Hid;first | (rw [HC.out];done) | (rw [HC.out];omega)
 refine MarkV.mk HE ?_ on1
 rw [hbe]
 have hmk:mmTBtree.mark (x0,x1) k=(x0,markL mmSlot x1 (k)):=by simp [mmTBtree,mkP,mk0,mkL]
 rw [hmk]
 have hfin:shBtree.own w1 lo hi _ (x0,markL mmSlot x1 (k)) _:=(mkO_P (a:=shI) (x:=(x0,markL mmSlot x1 (k))) good_I ⟨⟨rfl,f0⟩,rfl⟩ (SO.to_own (n:=x1.length) (by first | rfl | exact markL_len _ _ _) t1))
 simpa using hfin
end Go.Proofs.YtojmcmghmnfjeaaGreatDoor
