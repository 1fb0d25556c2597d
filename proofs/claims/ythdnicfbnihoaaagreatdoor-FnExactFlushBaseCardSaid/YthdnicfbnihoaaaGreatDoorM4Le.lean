/-
 Contracts of the laws' eq helpers,by genlaw.py
-/
import Derived.Test.YthdnicfbnihoaaaGreatDoorRows
import Derived.Test.YthdnicfbnihoaaaGreatDoorM4E
import Derived.Test.YthdnicfbnihoaaaGreatDoorM4A
import Derived.StillTailTactics
set_option maxHeartbeats 1000000
set_option maxRecDepth 100000
namespace Go.Proofs.YthdnicfbnihoaaaGreatDoor
open Go.RowKit
set_option linter.unusedSimpArgs false
set_option linter.unusedVariables false
theorem c_eqStringS (xs ys:List ByteArray) (A B:Option Addr) (c d:Nat) (w:World) (h:SRW shS w A c xs) (k:SRW shS w B d ys) :
   Calls Tryz.prog 112 #[.slice A xs.length c,.slice B ys.length d] w (EqP (xs=ys) w):=by
 have hlen:=h.len_le
 have klen:=k.len_le
 by_cases hl:xs.length=ys.length
 · have hb:((xs.length:Int) != (ys.length:Int))=false:=by simp [hl]
   have HL:=Lib.hid hl;clear hl
   go_enter Tryz.func112,Tryz.ntmps112
   go_wp2
   go_loopw [5] (fun i wr=>∃k:Nat,k≤xs.length∧i=.int .i64 k∧Hid (xs.take k=ys.take k)∧Up w wr) (fun i _=>xs.length - (intOf i).toNat)
   case atStart=>exact ⟨0,Nat.zero_le _,rfl,rfl,Up.refl _⟩
   case round =>
     obtain ⟨j,hj,rfl,HT,hu⟩:=hrel
     by_cases hlt:j<xs.length
     · have hlt':j<ys.length:=by rw [← HL.out];exact hlt
       obtain ⟨g,off,rfl,_,_,hc,hb1⟩:=(h.up good_S hu).at_S hlt
       obtain ⟨g',off',rfl,_,_,hc',hb2⟩:=(k.up good_S hu).at_S hlt'
       by_cases he:xs[j]=ys[j]
       · have hx:(xs[j].toList == ys[j].toList)=true:=by rw [str_beq];simp [he]
         have HE:=Lib.hid he;clear he
         go_wp2
         go_quiet (fail)
         go_wp2
         go_roundw
         case rel=>exact ⟨j+1,by omega,by go_num,take_snoc_eq HT.out hlt hlt' HE.out,hu.drewN _⟩
         case measure=>simp [intOf];omega
       · have hx:(xs[j].toList == ys[j].toList)=false:=by rw [str_beq];simp [he]
         have HE:=Lib.hid (ne_of_at hlt hlt' he);clear he
         go_wp2
         go_quiet (fail)
         go_wp2
         go_ret
         exact EqP.f HE.out (hu.drewN _)
     · have HE:=Lib.hid (take_all_eq HT.out (by omega) (by rw [← HL.out];omega))
       go_wp2
       go_ret
       exact EqP.t HE.out hu
 · have hb:((xs.length:Int) != (ys.length:Int))=true:=by rw [bne_iff_ne];omega
   have HE:=Lib.hid (ne_of_len hl);clear hl
   go_enter Tryz.func112,Tryz.ntmps112
   go_wp2
   go_ret
   exact EqP.f HE.out (Up.refl _)
theorem c_eqInt64S (xs ys:List Int) (A B:Option Addr) (c d:Nat) (w:World) (h:SRW shI w A c xs) (k:SRW shI w B d ys) :
   Calls Tryz.prog 61 #[.slice A xs.length c,.slice B ys.length d] w (EqP (xs=ys) w):=by
 have hlen:=h.len_le
 have klen:=k.len_le
 by_cases hl:xs.length=ys.length
 · have hb:((xs.length:Int) != (ys.length:Int))=false:=by simp [hl]
   have HL:=Lib.hid hl;clear hl
   go_enter Tryz.func61,Tryz.ntmps61
   go_wp2
   go_loopw [5] (fun i wr=>∃k:Nat,k≤xs.length∧i=.int .i64 k∧Hid (xs.take k=ys.take k)∧Up w wr) (fun i _=>xs.length - (intOf i).toNat)
   case atStart=>exact ⟨0,Nat.zero_le _,rfl,rfl,Up.refl _⟩
   case round =>
     obtain ⟨j,hj,rfl,HT,hu⟩:=hrel
     by_cases hlt:j<xs.length
     · have hlt':j<ys.length:=by rw [← HL.out];exact hlt
       obtain ⟨g,off,rfl,_,_,hc,hb1⟩:=(h.up good_I hu).at_I hlt
       obtain ⟨g',off',rfl,_,_,hc',hb2⟩:=(k.up good_I hu).at_I hlt'
       by_cases he:xs[j]=ys[j]
       · have hx:(xs[j] != ys[j])=false:=by simp [he]
         have HE:=Lib.hid he;clear he
         go_wp2
         go_quiet (fail)
         go_wp2
         go_roundw
         case rel=>exact ⟨j+1,by omega,by go_num,take_snoc_eq HT.out hlt hlt' HE.out,hu.drewN _⟩
         case measure=>simp [intOf];omega
       · have hx:(xs[j] != ys[j])=true:=by simp [he]
         have HE:=Lib.hid (ne_of_at hlt hlt' he);clear he
         go_wp2
         go_quiet (fail)
         go_wp2
         go_ret
         exact EqP.f HE.out (hu.drewN _)
     · have HE:=Lib.hid (take_all_eq HT.out (by omega) (by rw [← HL.out];omega))
       go_wp2
       go_ret
       exact EqP.t HE.out hu
 · have hb:((xs.length:Int) != (ys.length:Int))=true:=by rw [bne_iff_ne];omega
   have HE:=Lib.hid (ne_of_len hl);clear hl
   go_enter Tryz.func61,Tryz.ntmps61
   go_wp2
   go_ret
   exact EqP.f HE.out (Up.refl _)
theorem c_eqSeat (v u:Value) (x y:TSeat) (w:World) (h:AV shSeat w v x) (k:AV shSeat w u y) :
   Calls Tryz.prog 114 #[v,u] w (EqP (x=y) w):=by
 obtain ⟨cs,rfl,h⟩:=h
 obtain ⟨x0,x1⟩:=x
 have ho:=openSeat h
 try dsimp only at ho
 obtain ⟨rfl,b0,b1⟩:=ho
 obtain ⟨ds,rfl,k⟩:=k
 obtain ⟨y0,y1⟩:=y
 have ko:=openSeat k
 try dsimp only at ko
 obtain ⟨rfl,e0,e1⟩:=ko
 have kx0:Bk ((w.alloc (.cells #[.int .i64 x0,.int .i64 x1] 125)).alloc (.cells #[.int .i64 y0,.int .i64 y1] 125)) w.heap.size 125 #[.int .i64 x0,.int .i64 x1]:=(Bk.new _ _ _).alloc _
 have ky0:Bk ((w.alloc (.cells #[.int .i64 x0,.int .i64 x1] 125)).alloc (.cells #[.int .i64 y0,.int .i64 y1] 125)) (w.heap.size+1) 125 #[.int .i64 y0,.int .i64 y1]:=by simpa using Bk.new (w.alloc (.cells #[.int .i64 x0,.int .i64 x1] 125)) 125 #[.int .i64 y0,.int .i64 y1]
 have uu0:Up w ((w.alloc (.cells #[.int .i64 x0,.int .i64 x1] 125)).alloc (.cells #[.int .i64 y0,.int .i64 y1] 125)):=((Up.refl _).alloc _).alloc _
 by_cases e_0:¬ x0=y0
 · have hx:(x0 != y0)=true:=by simp [e_0]
   have HE:Hid (¬ (x0,x1)=(y0,y1)):=by unfold Hid;intro hh;(try simp only [Prod.mk.injEq] at hh);exact e_0 (by simp [hh])
   clear e_0
   go_enter Tryz.func114,Tryz.ntmps114
   go_wp2_with fail
   go_ret
   exact EqP.f HE.out uu0
 replace e_0:=Decidable.of_not_not e_0
 subst e_0
 by_cases e_1:¬ x1=y1
 · have hx:(x1 != y1)=true:=by simp [e_1]
   have HE:Hid (¬ (x0,x1)=(x0,y1)):=by unfold Hid;intro hh;(try simp only [Prod.mk.injEq] at hh);exact e_1 (by simp [hh])
   clear e_1
   go_enter Tryz.func114,Tryz.ntmps114
   go_wp2_with fail
   go_ret
   exact EqP.f HE.out uu0
 replace e_1:=Decidable.of_not_not e_1
 subst e_1
 go_enter Tryz.func114,Tryz.ntmps114
 go_wp2_with fail
 go_ret
 exact EqP.t (by simp) uu0
theorem c_eqSeatS (xs ys:List TSeat) (A B:Option Addr) (c d:Nat) (w:World) (h:SRW shSeat w A c xs) (k:SRW shSeat w B d ys) :
   Calls Tryz.prog 60 #[.slice A xs.length c,.slice B ys.length d] w (EqP (xs=ys) w):=by
 have hlen:=h.len_le
 have klen:=k.len_le
 by_cases hl:xs.length=ys.length
 · have hb:((xs.length:Int) != (ys.length:Int))=false:=by simp [hl]
   have HL:=Lib.hid hl;clear hl
   go_enter Tryz.func60,Tryz.ntmps60
   go_wp2
   go_loopw [5] (fun i wr=>∃k:Nat,k≤xs.length∧i=.int .i64 k∧Hid (xs.take k=ys.take k)∧Up w wr) (fun i _=>xs.length - (intOf i).toNat)
   case atStart=>exact ⟨0,Nat.zero_le _,rfl,rfl,Up.refl _⟩
   case round =>
     obtain ⟨j,hj,rfl,HT,hu⟩:=hrel
     by_cases hlt:j<xs.length
     · have hlt':j<ys.length:=by rw [← HL.out];exact hlt
       obtain ⟨g,off,rfl,_,_,hc0,hc1,b0,b1,_⟩:=atSeat (h.up good_Seat hu) hlt
       obtain ⟨g',off',rfl,_,_,hd0,hd1,f0,f1,_⟩:=atSeat (k.up good_Seat hu) hlt'
       go_wp2_with fail
       go_still_tail 8,(by kernel_rfl)
       change wpList _ _ _ _ _ wr.drew
       go_wp2_with fail
       refine (c_eqSeat _ _ xs[j] ys[j] _ (AV.up good_Seat ⟨_,rfl,mkSeat (x:=xs[j]) b0 b1⟩ ((Up.refl wr).drew)) (AV.up good_Seat ⟨_,rfl,mkSeat (x:=ys[j]) f0 f1⟩ ((Up.refl wr).drew))).mono ?_
       rintro e w1 ⟨bb,rfl,hbb,hu1⟩
       rcases (eqb_cases hbb).symm with ⟨rfl,he⟩ | ⟨rfl,he⟩
       · clear hbb
         have HE:=Lib.hid he;clear he
         go_wp2_with fail
         go_roundw
         case rel=>exact ⟨j+1,by omega,by go_num,take_snoc_eq HT.out hlt hlt' HE.out,hu.drew.trans hu1⟩
         case measure=>simp [intOf];omega
       · clear hbb
         have HE:=Lib.hid (ne_of_at hlt hlt' he);clear he
         go_wp2_with fail
         go_ret
         exact EqP.f HE.out (hu.drew.trans hu1)
     · have HE:=Lib.hid (take_all_eq HT.out (by omega) (by rw [← HL.out];omega))
       go_wp2
       go_ret
       exact EqP.t HE.out hu
 · have hb:((xs.length:Int) != (ys.length:Int))=true:=by rw [bne_iff_ne];omega
   have HE:=Lib.hid (ne_of_len hl);clear hl
   go_enter Tryz.func60,Tryz.ntmps60
   go_wp2
   go_ret
   exact EqP.f HE.out (Up.refl _)
theorem c_eqPut (v u:Value) (x y:TPut) (w:World) (h:AV shPut w v x) (k:AV shPut w u y) :
   Calls Tryz.prog 148 #[v,u] w (EqP (x=y) w):=by
 obtain ⟨cs,rfl,h⟩:=h
 obtain ⟨x0,x1⟩:=x
 have ho:=openPut h
 try dsimp only at ho
 obtain ⟨rfl,b0,b1⟩:=ho
 obtain ⟨ds,rfl,k⟩:=k
 obtain ⟨y0,y1⟩:=y
 have ko:=openPut k
 try dsimp only at ko
 obtain ⟨rfl,e0,e1⟩:=ko
 have kx0:Bk ((w.alloc (.cells #[.int .i64 x0,.string x1] 151)).alloc (.cells #[.int .i64 y0,.string y1] 151)) w.heap.size 151 #[.int .i64 x0,.string x1]:=(Bk.new _ _ _).alloc _
 have ky0:Bk ((w.alloc (.cells #[.int .i64 x0,.string x1] 151)).alloc (.cells #[.int .i64 y0,.string y1] 151)) (w.heap.size+1) 151 #[.int .i64 y0,.string y1]:=by simpa using Bk.new (w.alloc (.cells #[.int .i64 x0,.string x1] 151)) 151 #[.int .i64 y0,.string y1]
 have uu0:Up w ((w.alloc (.cells #[.int .i64 x0,.string x1] 151)).alloc (.cells #[.int .i64 y0,.string y1] 151)):=((Up.refl _).alloc _).alloc _
 by_cases e_0:¬ x0=y0
 · have hx:(x0 != y0)=true:=by simp [e_0]
   have HE:Hid (¬ (x0,x1)=(y0,y1)):=by unfold Hid;intro hh;(try simp only [Prod.mk.injEq] at hh);exact e_0 (by simp [hh])
   clear e_0
   go_enter Tryz.func148,Tryz.ntmps148
   go_wp2_with fail
   go_ret
   exact EqP.f HE.out uu0
 replace e_0:=Decidable.of_not_not e_0
 subst e_0
 by_cases e_1:¬ x1=y1
 · have hx:(x1.toList == y1.toList)=false:=by rw [str_beq];simp [e_1]
   have HE:Hid (¬ (x0,x1)=(x0,y1)):=by unfold Hid;intro hh;(try simp only [Prod.mk.injEq] at hh);exact e_1 (by simp [hh])
   clear e_1
   go_enter Tryz.func148,Tryz.ntmps148
   go_wp2_with fail
   go_ret
   exact EqP.f HE.out uu0
 replace e_1:=Decidable.of_not_not e_1
 subst e_1
 go_enter Tryz.func148,Tryz.ntmps148
 go_wp2_with fail
 go_ret
 exact EqP.t (by simp) uu0
theorem c_eqPutS (xs ys:List TPut) (A B:Option Addr) (c d:Nat) (w:World) (h:SRW shPut w A c xs) (k:SRW shPut w B d ys) :
   Calls Tryz.prog 113 #[.slice A xs.length c,.slice B ys.length d] w (EqP (xs=ys) w):=by
 have hlen:=h.len_le
 have klen:=k.len_le
 by_cases hl:xs.length=ys.length
 · have hb:((xs.length:Int) != (ys.length:Int))=false:=by simp [hl]
   have HL:=Lib.hid hl;clear hl
   go_enter Tryz.func113,Tryz.ntmps113
   go_wp2
   go_loopw [5] (fun i wr=>∃k:Nat,k≤xs.length∧i=.int .i64 k∧Hid (xs.take k=ys.take k)∧Up w wr) (fun i _=>xs.length - (intOf i).toNat)
   case atStart=>exact ⟨0,Nat.zero_le _,rfl,rfl,Up.refl _⟩
   case round =>
     obtain ⟨j,hj,rfl,HT,hu⟩:=hrel
     by_cases hlt:j<xs.length
     · have hlt':j<ys.length:=by rw [← HL.out];exact hlt
       obtain ⟨g,off,rfl,_,_,hc0,hc1,b0,b1,_⟩:=atPut (h.up good_Put hu) hlt
       obtain ⟨g',off',rfl,_,_,hd0,hd1,f0,f1,_⟩:=atPut (k.up good_Put hu) hlt'
       go_wp2_with fail
       go_still_tail 8,(by kernel_rfl)
       change wpList _ _ _ _ _ wr.drew
       go_wp2_with fail
       refine (c_eqPut _ _ xs[j] ys[j] _ (AV.up good_Put ⟨_,rfl,mkPut (x:=xs[j]) b0 b1⟩ ((Up.refl wr).drew)) (AV.up good_Put ⟨_,rfl,mkPut (x:=ys[j]) f0 f1⟩ ((Up.refl wr).drew))).mono ?_
       rintro e w1 ⟨bb,rfl,hbb,hu1⟩
       rcases (eqb_cases hbb).symm with ⟨rfl,he⟩ | ⟨rfl,he⟩
       · clear hbb
         have HE:=Lib.hid he;clear he
         go_wp2_with fail
         go_roundw
         case rel=>exact ⟨j+1,by omega,by go_num,take_snoc_eq HT.out hlt hlt' HE.out,hu.drew.trans hu1⟩
         case measure=>simp [intOf];omega
       · clear hbb
         have HE:=Lib.hid (ne_of_at hlt hlt' he);clear he
         go_wp2_with fail
         go_ret
         exact EqP.f HE.out (hu.drew.trans hu1)
     · have HE:=Lib.hid (take_all_eq HT.out (by omega) (by rw [← HL.out];omega))
       go_wp2
       go_ret
       exact EqP.t HE.out hu
 · have hb:((xs.length:Int) != (ys.length:Int))=true:=by rw [bne_iff_ne];omega
   have HE:=Lib.hid (ne_of_len hl);clear hl
   go_enter Tryz.func113,Tryz.ntmps113
   go_wp2
   go_ret
   exact EqP.f HE.out (Up.refl _)
theorem c_eqTop (v u:Value) (x y:TTop) (w:World) (h:AV shTop w v x) (k:AV shTop w u y) :
   Calls Tryz.prog 59 #[v,u] w (EqP (x=y) w):=by
 obtain ⟨cs,rfl,h⟩:=h
 obtain ⟨x0,x1,x2,x3⟩:=x
 have ho:=openTop h
 try dsimp only at ho
 obtain ⟨A3,c3,rfl,b0,b1,b2,b3⟩:=ho
 obtain ⟨ds,rfl,k⟩:=k
 obtain ⟨y0,y1,y2,y3⟩:=y
 have ko:=openTop k
 try dsimp only at ko
 obtain ⟨B3,d3,rfl,e0,e1,e2,e3⟩:=ko
 have kx0:Bk ((w.alloc (.cells #[.int .i64 x0,.int .i64 x1,.int .i64 x2,.slice A3 x3.length c3] 48)).alloc (.cells #[.int .i64 y0,.int .i64 y1,.int .i64 y2,.slice B3 y3.length d3] 48)) w.heap.size 48 #[.int .i64 x0,.int .i64 x1,.int .i64 x2,.slice A3 x3.length c3]:=(Bk.new _ _ _).alloc _
 have ky0:Bk ((w.alloc (.cells #[.int .i64 x0,.int .i64 x1,.int .i64 x2,.slice A3 x3.length c3] 48)).alloc (.cells #[.int .i64 y0,.int .i64 y1,.int .i64 y2,.slice B3 y3.length d3] 48)) (w.heap.size+1) 48 #[.int .i64 y0,.int .i64 y1,.int .i64 y2,.slice B3 y3.length d3]:=by simpa using Bk.new (w.alloc (.cells #[.int .i64 x0,.int .i64 x1,.int .i64 x2,.slice A3 x3.length c3] 48)) 48 #[.int .i64 y0,.int .i64 y1,.int .i64 y2,.slice B3 y3.length d3]
 have uu0:Up w ((w.alloc (.cells #[.int .i64 x0,.int .i64 x1,.int .i64 x2,.slice A3 x3.length c3] 48)).alloc (.cells #[.int .i64 y0,.int .i64 y1,.int .i64 y2,.slice B3 y3.length d3] 48)):=((Up.refl _).alloc _).alloc _
 by_cases e_0:¬ x0=y0
 · have hx:(x0 != y0)=true:=by simp [e_0]
   have HE:Hid (¬ (x0,x1,x2,x3)=(y0,y1,y2,y3)):=by unfold Hid;intro hh;(try simp only [Prod.mk.injEq] at hh);exact e_0 (by simp [hh])
   clear e_0
   go_enter Tryz.func59,Tryz.ntmps59
   go_wp2_with fail
   go_ret
   exact EqP.f HE.out uu0
 replace e_0:=Decidable.of_not_not e_0
 subst e_0
 by_cases e_1:¬ x1=y1
 · have hx:(x1 != y1)=true:=by simp [e_1]
   have HE:Hid (¬ (x0,x1,x2,x3)=(x0,y1,y2,y3)):=by unfold Hid;intro hh;(try simp only [Prod.mk.injEq] at hh);exact e_1 (by simp [hh])
   clear e_1
   go_enter Tryz.func59,Tryz.ntmps59
   go_wp2_with fail
   go_ret
   exact EqP.f HE.out uu0
 replace e_1:=Decidable.of_not_not e_1
 subst e_1
 by_cases e_2:¬ x2=y2
 · have hx:(x2 != y2)=true:=by simp [e_2]
   have HE:Hid (¬ (x0,x1,x2,x3)=(x0,x1,y2,y3)):=by unfold Hid;intro hh;(try simp only [Prod.mk.injEq] at hh);exact e_2 (by simp [hh])
   clear e_2
   go_enter Tryz.func59,Tryz.ntmps59
   go_wp2_with fail
   go_ret
   exact EqP.f HE.out uu0
 replace e_2:=Decidable.of_not_not e_2
 subst e_2
 go_enter Tryz.func59,Tryz.ntmps59
 go_wp2_with fail
 refine (c_eqSeatS _ _ _ _ _ _ _ (b3.up good_Seat uu0) (e3.up good_Seat uu0)).mono ?_
 rintro r w1 ⟨bb,rfl,hbb,u1⟩
 have uu1:=uu0.trans u1
 have kx1:=kx0.up u1
 have ky1:=ky0.up u1
 clear u1
 rcases eqb_cases hbb with ⟨rfl,e_3⟩ | ⟨rfl,e_3⟩
 · clear hbb
   have HE:Hid (¬ (x0,x1,x2,x3)=(x0,x1,x2,y3)):=by unfold Hid;intro hh;(try simp only [Prod.mk.injEq] at hh);exact e_3 (by simp [hh])
   clear e_3
   go_wp2_with fail
   go_ret
   exact EqP.f HE.out uu1
 clear hbb
 subst e_3
 go_wp2_with fail
 go_ret
 exact EqP.t (by simp) uu1
theorem c_eqDisk (v u:Value) (x y:TDisk) (w:World) (h:AV shDisk w v x) (k:AV shDisk w u y) :
   Calls Tryz.prog 58 #[v,u] w (EqP (x=y) w):=by
 obtain ⟨cs,rfl,h⟩:=h
 obtain ⟨x0,x1,x2⟩:=x
 have ho:=openDisk h
 try dsimp only at ho
 obtain ⟨A1,c1,A2,c2,rfl,b0,b1,b2⟩:=ho
 obtain ⟨ds,rfl,k⟩:=k
 obtain ⟨y0,y1,y2⟩:=y
 have ko:=openDisk k
 try dsimp only at ko
 obtain ⟨B1,d1,B2,d2,rfl,e0,e1,e2⟩:=ko
 have kx0:Bk ((w.alloc (.cells #[.int .i64 x0,.slice A1 x1.length c1,.slice A2 x2.length c2] 45)).alloc (.cells #[.int .i64 y0,.slice B1 y1.length d1,.slice B2 y2.length d2] 45)) w.heap.size 45 #[.int .i64 x0,.slice A1 x1.length c1,.slice A2 x2.length c2]:=(Bk.new _ _ _).alloc _
 have ky0:Bk ((w.alloc (.cells #[.int .i64 x0,.slice A1 x1.length c1,.slice A2 x2.length c2] 45)).alloc (.cells #[.int .i64 y0,.slice B1 y1.length d1,.slice B2 y2.length d2] 45)) (w.heap.size+1) 45 #[.int .i64 y0,.slice B1 y1.length d1,.slice B2 y2.length d2]:=by simpa using Bk.new (w.alloc (.cells #[.int .i64 x0,.slice A1 x1.length c1,.slice A2 x2.length c2] 45)) 45 #[.int .i64 y0,.slice B1 y1.length d1,.slice B2 y2.length d2]
 have uu0:Up w ((w.alloc (.cells #[.int .i64 x0,.slice A1 x1.length c1,.slice A2 x2.length c2] 45)).alloc (.cells #[.int .i64 y0,.slice B1 y1.length d1,.slice B2 y2.length d2] 45)):=((Up.refl _).alloc _).alloc _
 by_cases e_0:¬ x0=y0
 · have hx:(x0 != y0)=true:=by simp [e_0]
   have HE:Hid (¬ (x0,x1,x2)=(y0,y1,y2)):=by unfold Hid;intro hh;(try simp only [Prod.mk.injEq] at hh);exact e_0 (by simp [hh])
   clear e_0
   go_enter Tryz.func58,Tryz.ntmps58
   go_wp2_with fail
   go_ret
   exact EqP.f HE.out uu0
 replace e_0:=Decidable.of_not_not e_0
 subst e_0
 go_enter Tryz.func58,Tryz.ntmps58
 go_wp2_with fail
 refine (c_eqStringS _ _ _ _ _ _ _ (b1.up good_S uu0) (e1.up good_S uu0)).mono ?_
 rintro r w1 ⟨bb,rfl,hbb,u1⟩
 have uu1:=uu0.trans u1
 have kx1:=kx0.up u1
 have ky1:=ky0.up u1
 clear u1
 rcases eqb_cases hbb with ⟨rfl,e_1⟩ | ⟨rfl,e_1⟩
 · clear hbb
   have HE:Hid (¬ (x0,x1,x2)=(x0,y1,y2)):=by unfold Hid;intro hh;(try simp only [Prod.mk.injEq] at hh);exact e_1 (by simp [hh])
   clear e_1
   go_wp2_with fail
   go_ret
   exact EqP.f HE.out uu1
 clear hbb
 subst e_1
 have gx1_2:w1.cell? ⟨w.heap.size,2,none⟩=some (.slice A2 x2.length c2):=kx1.cell 2
 have gy1_2:w1.cell? ⟨w.heap.size+1,2,none⟩=some (.slice B2 y2.length d2):=ky1.cell 2
 go_wp2_with fail
 refine (c_eqPutS _ _ _ _ _ _ _ (b2.up good_Put uu1) (e2.up good_Put uu1)).mono ?_
 rintro r w2 ⟨bb,rfl,hbb,u2⟩
 have uu2:=uu1.trans u2
 have kx2:=kx1.up u2
 have ky2:=ky1.up u2
 clear u2
 rcases eqb_cases hbb with ⟨rfl,e_2⟩ | ⟨rfl,e_2⟩
 · clear hbb
   have HE:Hid (¬ (x0,x1,x2)=(x0,x1,y2)):=by unfold Hid;intro hh;(try simp only [Prod.mk.injEq] at hh);exact e_2 (by simp [hh])
   clear e_2
   go_wp2_with fail
   go_ret
   exact EqP.f HE.out uu2
 clear hbb
 subst e_2
 go_wp2_with fail
 go_ret
 exact EqP.t (by simp) uu2
theorem c_eqPage (v u:Value) (x y:TPage) (w:World) (h:AV shPage w v x) (k:AV shPage w u y) :
   Calls Tryz.prog 147 #[v,u] w (EqP (x=y) w):=by
 obtain ⟨cs,rfl,h⟩:=h
 obtain ⟨x0,x1,x2,x3⟩:=x
 have ho:=openPage h
 try dsimp only at ho
 obtain ⟨A1,c1,A2,c2,A3,c3,rfl,b1,b2,b3⟩:=ho
 obtain ⟨ds,rfl,k⟩:=k
 obtain ⟨y0,y1,y2,y3⟩:=y
 have ko:=openPage k
 try dsimp only at ko
 obtain ⟨B1,d1,B2,d2,B3,d3,rfl,e1,e2,e3⟩:=ko
 have kx0:Bk ((w.alloc (.cells #[.bool x0,.slice A1 x1.length c1,.slice A2 x2.length c2,.slice A3 x3.length c3] 112)).alloc (.cells #[.bool y0,.slice B1 y1.length d1,.slice B2 y2.length d2,.slice B3 y3.length d3] 112)) w.heap.size 112 #[.bool x0,.slice A1 x1.length c1,.slice A2 x2.length c2,.slice A3 x3.length c3]:=(Bk.new _ _ _).alloc _
 have ky0:Bk ((w.alloc (.cells #[.bool x0,.slice A1 x1.length c1,.slice A2 x2.length c2,.slice A3 x3.length c3] 112)).alloc (.cells #[.bool y0,.slice B1 y1.length d1,.slice B2 y2.length d2,.slice B3 y3.length d3] 112)) (w.heap.size+1) 112 #[.bool y0,.slice B1 y1.length d1,.slice B2 y2.length d2,.slice B3 y3.length d3]:=by simpa using Bk.new (w.alloc (.cells #[.bool x0,.slice A1 x1.length c1,.slice A2 x2.length c2,.slice A3 x3.length c3] 112)) 112 #[.bool y0,.slice B1 y1.length d1,.slice B2 y2.length d2,.slice B3 y3.length d3]
 have uu0:Up w ((w.alloc (.cells #[.bool x0,.slice A1 x1.length c1,.slice A2 x2.length c2,.slice A3 x3.length c3] 112)).alloc (.cells #[.bool y0,.slice B1 y1.length d1,.slice B2 y2.length d2,.slice B3 y3.length d3] 112)):=((Up.refl _).alloc _).alloc _
 by_cases e_0:¬ x0=y0
 · have hx:(x0 != y0)=true:=by simp [e_0]
   have HE:Hid (¬ (x0,x1,x2,x3)=(y0,y1,y2,y3)):=by unfold Hid;intro hh;(try simp only [Prod.mk.injEq] at hh);exact e_0 (by simp [hh])
   clear e_0
   cases x0 <;> cases y0
   · simp at hx
   · clear hx
     go_enter Tryz.func147,Tryz.ntmps147
     go_wp2_with fail
     go_ret
     exact EqP.f HE.out uu0
   · clear hx
     go_enter Tryz.func147,Tryz.ntmps147
     go_wp2_with fail
     go_ret
     exact EqP.f HE.out uu0
   · simp at hx
 replace e_0:=Decidable.of_not_not e_0
 subst e_0
 go_enter Tryz.func147,Tryz.ntmps147
 go_wp2_with fail
 refine (c_eqStringS _ _ _ _ _ _ _ (b1.up good_S uu0) (e1.up good_S uu0)).mono ?_
 rintro r w1 ⟨bb,rfl,hbb,u1⟩
 have uu1:=uu0.trans u1
 have kx1:=kx0.up u1
 have ky1:=ky0.up u1
 clear u1
 rcases eqb_cases hbb with ⟨rfl,e_1⟩ | ⟨rfl,e_1⟩
 · clear hbb
   have HE:Hid (¬ (x0,x1,x2,x3)=(x0,y1,y2,y3)):=by unfold Hid;intro hh;(try simp only [Prod.mk.injEq] at hh);exact e_1 (by simp [hh])
   clear e_1
   go_wp2_with fail
   go_ret
   exact EqP.f HE.out uu1
 clear hbb
 subst e_1
 have gx1_2:w1.cell? ⟨w.heap.size,2,none⟩=some (.slice A2 x2.length c2):=kx1.cell 2
 have gy1_2:w1.cell? ⟨w.heap.size+1,2,none⟩=some (.slice B2 y2.length d2):=ky1.cell 2
 have gx1_3:w1.cell? ⟨w.heap.size,3,none⟩=some (.slice A3 x3.length c3):=kx1.cell 3
 have gy1_3:w1.cell? ⟨w.heap.size+1,3,none⟩=some (.slice B3 y3.length d3):=ky1.cell 3
 go_wp2_with fail
 refine (c_eqStringS _ _ _ _ _ _ _ (b2.up good_S uu1) (e2.up good_S uu1)).mono ?_
 rintro r w2 ⟨bb,rfl,hbb,u2⟩
 have uu2:=uu1.trans u2
 have kx2:=kx1.up u2
 have ky2:=ky1.up u2
 clear u2
 rcases eqb_cases hbb with ⟨rfl,e_2⟩ | ⟨rfl,e_2⟩
 · clear hbb
   have HE:Hid (¬ (x0,x1,x2,x3)=(x0,x1,y2,y3)):=by unfold Hid;intro hh;(try simp only [Prod.mk.injEq] at hh);exact e_2 (by simp [hh])
   clear e_2
   go_wp2_with fail
   go_ret
   exact EqP.f HE.out uu2
 clear hbb
 subst e_2
 have gx2_3:w2.cell? ⟨w.heap.size,3,none⟩=some (.slice A3 x3.length c3):=kx2.cell 3
 have gy2_3:w2.cell? ⟨w.heap.size+1,3,none⟩=some (.slice B3 y3.length d3):=ky2.cell 3
 go_wp2_with fail
 refine (c_eqInt64S _ _ _ _ _ _ _ (b3.up good_I uu2) (e3.up good_I uu2)).mono ?_
 rintro r w3 ⟨bb,rfl,hbb,u3⟩
 have uu3:=uu2.trans u3
 have kx3:=kx2.up u3
 have ky3:=ky2.up u3
 clear u3
 rcases eqb_cases hbb with ⟨rfl,e_3⟩ | ⟨rfl,e_3⟩
 · clear hbb
   have HE:Hid (¬ (x0,x1,x2,x3)=(x0,x1,x2,y3)):=by unfold Hid;intro hh;(try simp only [Prod.mk.injEq] at hh);exact e_3 (by simp [hh])
   clear e_3
   go_wp2_with fail
   go_ret
   exact EqP.f HE.out uu3
 clear hbb
 subst e_3
 go_wp2_with fail
 go_ret
 exact EqP.t (by simp) uu3
theorem c_eqSlot (v u:Value) (x y:TSlot) (w:World) (h:AV shSlot w v x) (k:AV shSlot w u y) :
   Calls Tryz.prog 111 #[v,u] w (EqP (x=y) w):=by
 obtain ⟨cs,rfl,h⟩:=h
 obtain ⟨x0,⟨x1,x2,x3,x4⟩⟩:=x
 have ho:=openSlot h
 try dsimp only at ho
 obtain ⟨A2,c2,A3,c3,A4,c4,rfl,b0,b2,b3,b4⟩:=ho
 obtain ⟨ds,rfl,k⟩:=k
 obtain ⟨y0,⟨y1,y2,y3,y4⟩⟩:=y
 have ko:=openSlot k
 try dsimp only at ko
 obtain ⟨B2,d2,B3,d3,B4,d4,rfl,e0,e2,e3,e4⟩:=ko
 have kx0:Bk ((w.alloc (.cells #[.int .i64 x0,.bool x1,.slice A2 x2.length c2,.slice A3 x3.length c3,.slice A4 x4.length c4] 114)).alloc (.cells #[.int .i64 y0,.bool y1,.slice B2 y2.length d2,.slice B3 y3.length d3,.slice B4 y4.length d4] 114)) w.heap.size 114 #[.int .i64 x0,.bool x1,.slice A2 x2.length c2,.slice A3 x3.length c3,.slice A4 x4.length c4]:=(Bk.new _ _ _).alloc _
 have ky0:Bk ((w.alloc (.cells #[.int .i64 x0,.bool x1,.slice A2 x2.length c2,.slice A3 x3.length c3,.slice A4 x4.length c4] 114)).alloc (.cells #[.int .i64 y0,.bool y1,.slice B2 y2.length d2,.slice B3 y3.length d3,.slice B4 y4.length d4] 114)) (w.heap.size+1) 114 #[.int .i64 y0,.bool y1,.slice B2 y2.length d2,.slice B3 y3.length d3,.slice B4 y4.length d4]:=by simpa using Bk.new (w.alloc (.cells #[.int .i64 x0,.bool x1,.slice A2 x2.length c2,.slice A3 x3.length c3,.slice A4 x4.length c4] 114)) 114 #[.int .i64 y0,.bool y1,.slice B2 y2.length d2,.slice B3 y3.length d3,.slice B4 y4.length d4]
 have uu0:Up w ((w.alloc (.cells #[.int .i64 x0,.bool x1,.slice A2 x2.length c2,.slice A3 x3.length c3,.slice A4 x4.length c4] 114)).alloc (.cells #[.int .i64 y0,.bool y1,.slice B2 y2.length d2,.slice B3 y3.length d3,.slice B4 y4.length d4] 114)):=((Up.refl _).alloc _).alloc _
 by_cases e_0:¬ x0=y0
 · have hx:(x0 != y0)=true:=by simp [e_0]
   have HE:Hid (¬ (x0,(x1,x2,x3,x4))=(y0,(y1,y2,y3,y4))):=by unfold Hid;intro hh;(try simp only [Prod.mk.injEq] at hh);exact e_0 (by simp [hh])
   clear e_0
   go_enter Tryz.func111,Tryz.ntmps111
   go_wp2_with fail
   go_ret
   exact EqP.f HE.out uu0
 replace e_0:=Decidable.of_not_not e_0
 subst e_0
 go_enter Tryz.func111,Tryz.ntmps111
 go_wp2_with fail
 refine (c_eqPage _ _ (x1,x2,x3,x4) (y1,y2,y3,y4) _ ⟨_,rfl,mkPage (x:=(x1,x2,x3,x4)) (b2.up good_S uu0) (b3.up good_S uu0) (b4.up good_I uu0)⟩ ⟨_,rfl,mkPage (x:=(y1,y2,y3,y4)) (e2.up good_S uu0) (e3.up good_S uu0) (e4.up good_I uu0)⟩).mono ?_
 rintro r w1 ⟨bb,rfl,hbb,u1⟩
 have uu1:=uu0.trans u1
 have kx1:=kx0.up u1
 have ky1:=ky0.up u1
 clear u1
 rcases eqb_cases hbb with ⟨rfl,e_1⟩ | ⟨rfl,e_1⟩
 · clear hbb
   have HE:Hid (¬ (x0,(x1,x2,x3,x4))=(x0,(y1,y2,y3,y4))):=by unfold Hid;intro hh;(try simp only [Prod.mk.injEq] at hh);exact e_1 (by simp [hh])
   clear e_1
   go_wp2_with fail
   go_ret
   exact EqP.f HE.out uu1
 clear hbb
 simp only [Prod.mk.injEq] at e_1
 obtain ⟨rfl,rfl,rfl,rfl⟩:=e_1
 go_wp2_with fail
 go_ret
 exact EqP.t (by simp) uu1
theorem c_eqSlotS (xs ys:List TSlot) (A B:Option Addr) (c d:Nat) (w:World) (h:SRW shSlot w A c xs) (k:SRW shSlot w B d ys) :
   Calls Tryz.prog 57 #[.slice A xs.length c,.slice B ys.length d] w (EqP (xs=ys) w):=by
 have hlen:=h.len_le
 have klen:=k.len_le
 by_cases hl:xs.length=ys.length
 · have hb:((xs.length:Int) != (ys.length:Int))=false:=by simp [hl]
   have HL:=Lib.hid hl;clear hl
   go_enter Tryz.func57,Tryz.ntmps57
   go_wp2
   go_loopw [5] (fun i wr=>∃k:Nat,k≤xs.length∧i=.int .i64 k∧Hid (xs.take k=ys.take k)∧Up w wr) (fun i _=>xs.length - (intOf i).toNat)
   case atStart=>exact ⟨0,Nat.zero_le _,rfl,rfl,Up.refl _⟩
   case round =>
     obtain ⟨j,hj,rfl,HT,hu⟩:=hrel
     by_cases hlt:j<xs.length
     · have hlt':j<ys.length:=by rw [← HL.out];exact hlt
       obtain ⟨g,off,A2,c2,A3,c3,A4,c4,rfl,_,_,hc0,hc1,hc2,hc3,hc4,b0,b2,b3,b4,_⟩:=atSlot (h.up good_Slot hu) hlt
       obtain ⟨g',off',B2,d2,B3,d3,B4,d4,rfl,_,_,hd0,hd1,hd2,hd3,hd4,f0,f2,f3,f4,_⟩:=atSlot (k.up good_Slot hu) hlt'
       go_wp2_with fail
       go_still_tail 8,(by kernel_rfl)
       change wpList _ _ _ _ _ wr.drew
       go_wp2_with fail
       refine (c_eqSlot _ _ xs[j] ys[j] _ (AV.up good_Slot ⟨_,rfl,mkSlot (x:=xs[j]) b0 b2 b3 b4⟩ ((Up.refl wr).drew)) (AV.up good_Slot ⟨_,rfl,mkSlot (x:=ys[j]) f0 f2 f3 f4⟩ ((Up.refl wr).drew))).mono ?_
       rintro e w1 ⟨bb,rfl,hbb,hu1⟩
       rcases (eqb_cases hbb).symm with ⟨rfl,he⟩ | ⟨rfl,he⟩
       · clear hbb
         have HE:=Lib.hid he;clear he
         go_wp2_with fail
         go_roundw
         case rel=>exact ⟨j+1,by omega,by go_num,take_snoc_eq HT.out hlt hlt' HE.out,hu.drew.trans hu1⟩
         case measure=>simp [intOf];omega
       · clear hbb
         have HE:=Lib.hid (ne_of_at hlt hlt' he);clear he
         go_wp2_with fail
         go_ret
         exact EqP.f HE.out (hu.drew.trans hu1)
     · have HE:=Lib.hid (take_all_eq HT.out (by omega) (by rw [← HL.out];omega))
       go_wp2
       go_ret
       exact EqP.t HE.out hu
 · have hb:((xs.length:Int) != (ys.length:Int))=true:=by rw [bne_iff_ne];omega
   have HE:=Lib.hid (ne_of_len hl);clear hl
   go_enter Tryz.func57,Tryz.ntmps57
   go_wp2
   go_ret
   exact EqP.f HE.out (Up.refl _)
theorem c_eqBtree (v u:Value) (x y:TBtree) (w:World) (h:AV shBtree w v x) (k:AV shBtree w u y) :
   Calls Tryz.prog 22 #[v,u] w (EqP (x=y) w):=by
 obtain ⟨cs,rfl,h⟩:=h
 obtain ⟨x0,x1⟩:=x
 have ho:=openBtree h
 try dsimp only at ho
 obtain ⟨A1,c1,rfl,b0,b1⟩:=ho
 obtain ⟨ds,rfl,k⟩:=k
 obtain ⟨y0,y1⟩:=y
 have ko:=openBtree k
 try dsimp only at ko
 obtain ⟨B1,d1,rfl,e0,e1⟩:=ko
 have kx0:Bk ((w.alloc (.cells #[.int .i64 x0,.slice A1 x1.length c1] 42)).alloc (.cells #[.int .i64 y0,.slice B1 y1.length d1] 42)) w.heap.size 42 #[.int .i64 x0,.slice A1 x1.length c1]:=(Bk.new _ _ _).alloc _
 have ky0:Bk ((w.alloc (.cells #[.int .i64 x0,.slice A1 x1.length c1] 42)).alloc (.cells #[.int .i64 y0,.slice B1 y1.length d1] 42)) (w.heap.size+1) 42 #[.int .i64 y0,.slice B1 y1.length d1]:=by simpa using Bk.new (w.alloc (.cells #[.int .i64 x0,.slice A1 x1.length c1] 42)) 42 #[.int .i64 y0,.slice B1 y1.length d1]
 have uu0:Up w ((w.alloc (.cells #[.int .i64 x0,.slice A1 x1.length c1] 42)).alloc (.cells #[.int .i64 y0,.slice B1 y1.length d1] 42)):=((Up.refl _).alloc _).alloc _
 by_cases e_0:¬ x0=y0
 · have hx:(x0 != y0)=true:=by simp [e_0]
   have HE:Hid (¬ (x0,x1)=(y0,y1)):=by unfold Hid;intro hh;(try simp only [Prod.mk.injEq] at hh);exact e_0 (by simp [hh])
   clear e_0
   go_enter Tryz.func22,Tryz.ntmps22
   go_wp2_with fail
   go_ret
   exact EqP.f HE.out uu0
 replace e_0:=Decidable.of_not_not e_0
 subst e_0
 go_enter Tryz.func22,Tryz.ntmps22
 go_wp2_with fail
 refine (c_eqSlotS _ _ _ _ _ _ _ (b1.up good_Slot uu0) (e1.up good_Slot uu0)).mono ?_
 rintro r w1 ⟨bb,rfl,hbb,u1⟩
 have uu1:=uu0.trans u1
 have kx1:=kx0.up u1
 have ky1:=ky0.up u1
 clear u1
 rcases eqb_cases hbb with ⟨rfl,e_1⟩ | ⟨rfl,e_1⟩
 · clear hbb
   have HE:Hid (¬ (x0,x1)=(x0,y1)):=by unfold Hid;intro hh;(try simp only [Prod.mk.injEq] at hh);exact e_1 (by simp [hh])
   clear e_1
   go_wp2_with fail
   go_ret
   exact EqP.f HE.out uu1
 clear hbb
 subst e_1
 go_wp2_with fail
 go_ret
 exact EqP.t (by simp) uu1
theorem c_eqJournal (v u:Value) (x y:TJournal) (w:World) (h:AV shJournal w v x) (k:AV shJournal w u y) :
   Calls Tryz.prog 24 #[v,u] w (EqP (x=y) w):=by
 obtain ⟨cs,rfl,h⟩:=h
 obtain ⟨⟨x0,x1,x2⟩,x3,x4,x5,x6⟩:=x
 have ho:=openJournal h
 try dsimp only at ho
 obtain ⟨A1,c1,A2,c2,rfl,b0,b1,b2,b3,b4,b5,b6⟩:=ho
 obtain ⟨ds,rfl,k⟩:=k
 obtain ⟨⟨y0,y1,y2⟩,y3,y4,y5,y6⟩:=y
 have ko:=openJournal k
 try dsimp only at ko
 obtain ⟨B1,d1,B2,d2,rfl,e0,e1,e2,e3,e4,e5,e6⟩:=ko
 have kx0:Bk ((w.alloc (.cells #[.int .i64 x0,.slice A1 x1.length c1,.slice A2 x2.length c2,.int .i64 x3,.int .i64 x4,.int .i64 x5,.int .i64 x6] 52)).alloc (.cells #[.int .i64 y0,.slice B1 y1.length d1,.slice B2 y2.length d2,.int .i64 y3,.int .i64 y4,.int .i64 y5,.int .i64 y6] 52)) w.heap.size 52 #[.int .i64 x0,.slice A1 x1.length c1,.slice A2 x2.length c2,.int .i64 x3,.int .i64 x4,.int .i64 x5,.int .i64 x6]:=(Bk.new _ _ _).alloc _
 have ky0:Bk ((w.alloc (.cells #[.int .i64 x0,.slice A1 x1.length c1,.slice A2 x2.length c2,.int .i64 x3,.int .i64 x4,.int .i64 x5,.int .i64 x6] 52)).alloc (.cells #[.int .i64 y0,.slice B1 y1.length d1,.slice B2 y2.length d2,.int .i64 y3,.int .i64 y4,.int .i64 y5,.int .i64 y6] 52)) (w.heap.size+1) 52 #[.int .i64 y0,.slice B1 y1.length d1,.slice B2 y2.length d2,.int .i64 y3,.int .i64 y4,.int .i64 y5,.int .i64 y6]:=by simpa using Bk.new (w.alloc (.cells #[.int .i64 x0,.slice A1 x1.length c1,.slice A2 x2.length c2,.int .i64 x3,.int .i64 x4,.int .i64 x5,.int .i64 x6] 52)) 52 #[.int .i64 y0,.slice B1 y1.length d1,.slice B2 y2.length d2,.int .i64 y3,.int .i64 y4,.int .i64 y5,.int .i64 y6]
 have uu0:Up w ((w.alloc (.cells #[.int .i64 x0,.slice A1 x1.length c1,.slice A2 x2.length c2,.int .i64 x3,.int .i64 x4,.int .i64 x5,.int .i64 x6] 52)).alloc (.cells #[.int .i64 y0,.slice B1 y1.length d1,.slice B2 y2.length d2,.int .i64 y3,.int .i64 y4,.int .i64 y5,.int .i64 y6] 52)):=((Up.refl _).alloc _).alloc _
 go_enter Tryz.func24,Tryz.ntmps24
 go_wp2_with fail
 refine (c_eqDisk _ _ (x0,x1,x2) (y0,y1,y2) _ ⟨_,rfl,mkDisk (x:=(x0,x1,x2)) b0 (b1.up good_S uu0) (b2.up good_Put uu0)⟩ ⟨_,rfl,mkDisk (x:=(y0,y1,y2)) e0 (e1.up good_S uu0) (e2.up good_Put uu0)⟩).mono ?_
 rintro r w1 ⟨bb,rfl,hbb,u1⟩
 have uu1:=uu0.trans u1
 have kx1:=kx0.up u1
 have ky1:=ky0.up u1
 clear u1
 rcases eqb_cases hbb with ⟨rfl,e_0⟩ | ⟨rfl,e_0⟩
 · clear hbb
   have HE:Hid (¬ ((x0,x1,x2),x3,x4,x5,x6)=((y0,y1,y2),y3,y4,y5,y6)):=by unfold Hid;intro hh;(try simp only [Prod.mk.injEq] at hh);exact e_0 (by simp [hh])
   clear e_0
   go_wp2_with fail
   go_ret
   exact EqP.f HE.out uu1
 clear hbb
 simp only [Prod.mk.injEq] at e_0
 obtain ⟨rfl,rfl,rfl⟩:=e_0
 have gx1_3:w1.cell? ⟨w.heap.size,3,none⟩=some (.int .i64 x3):=kx1.cell 3
 have gy1_3:w1.cell? ⟨w.heap.size+1,3,none⟩=some (.int .i64 y3):=ky1.cell 3
 have gx1_4:w1.cell? ⟨w.heap.size,4,none⟩=some (.int .i64 x4):=kx1.cell 4
 have gy1_4:w1.cell? ⟨w.heap.size+1,4,none⟩=some (.int .i64 y4):=ky1.cell 4
 have gx1_5:w1.cell? ⟨w.heap.size,5,none⟩=some (.int .i64 x5):=kx1.cell 5
 have gy1_5:w1.cell? ⟨w.heap.size+1,5,none⟩=some (.int .i64 y5):=ky1.cell 5
 have gx1_6:w1.cell? ⟨w.heap.size,6,none⟩=some (.int .i64 x6):=kx1.cell 6
 have gy1_6:w1.cell? ⟨w.heap.size+1,6,none⟩=some (.int .i64 y6):=ky1.cell 6
 by_cases e_3:¬ x3=y3
 · have hx:(x3 != y3)=true:=by simp [e_3]
   have HE:Hid (¬ ((x0,x1,x2),x3,x4,x5,x6)=((x0,x1,x2),y3,y4,y5,y6)):=by unfold Hid;intro hh;(try simp only [Prod.mk.injEq] at hh);exact e_3 (by simp [hh])
   clear e_3
   go_wp2_with fail
   go_ret
   exact EqP.f HE.out uu1
 replace e_3:=Decidable.of_not_not e_3
 subst e_3
 by_cases e_4:¬ x4=y4
 · have hx:(x4 != y4)=true:=by simp [e_4]
   have HE:Hid (¬ ((x0,x1,x2),x3,x4,x5,x6)=((x0,x1,x2),x3,y4,y5,y6)):=by unfold Hid;intro hh;(try simp only [Prod.mk.injEq] at hh);exact e_4 (by simp [hh])
   clear e_4
   go_wp2_with fail
   go_ret
   exact EqP.f HE.out uu1
 replace e_4:=Decidable.of_not_not e_4
 subst e_4
 by_cases e_5:¬ x5=y5
 · have hx:(x5 != y5)=true:=by simp [e_5]
   have HE:Hid (¬ ((x0,x1,x2),x3,x4,x5,x6)=((x0,x1,x2),x3,x4,y5,y6)):=by unfold Hid;intro hh;(try simp only [Prod.mk.injEq] at hh);exact e_5 (by simp [hh])
   clear e_5
   go_wp2_with fail
   go_ret
   exact EqP.f HE.out uu1
 replace e_5:=Decidable.of_not_not e_5
 subst e_5
 by_cases e_6:¬ x6=y6
 · have hx:(x6 != y6)=true:=by simp [e_6]
   have HE:Hid (¬ ((x0,x1,x2),x3,x4,x5,x6)=((x0,x1,x2),x3,x4,x5,y6)):=by unfold Hid;intro hh;(try simp only [Prod.mk.injEq] at hh);exact e_6 (by simp [hh])
   clear e_6
   go_wp2_with fail
   go_ret
   exact EqP.f HE.out uu1
 replace e_6:=Decidable.of_not_not e_6
 subst e_6
 go_wp2_with fail
 go_ret
 exact EqP.t (by simp) uu1
theorem c_eqCache (v u:Value) (x y:TCache) (w:World) (h:AV shCache w v x) (k:AV shCache w u y) :
   Calls Tryz.prog 23 #[v,u] w (EqP (x=y) w):=by
 obtain ⟨cs,rfl,h⟩:=h
 obtain ⟨⟨x0,x1,x2⟩,⟨x3,x4,x5,x6⟩,⟨x7,x8,x9,x10⟩,x11,x12⟩:=x
 have ho:=openCache h
 try dsimp only at ho
 obtain ⟨A1,c1,A2,c2,A6,c6,A10,c10,A11,c11,A12,c12,rfl,b0,b1,b2,b3,b4,b5,b6,b7,b8,b9,b10,b11,b12⟩:=ho
 obtain ⟨ds,rfl,k⟩:=k
 obtain ⟨⟨y0,y1,y2⟩,⟨y3,y4,y5,y6⟩,⟨y7,y8,y9,y10⟩,y11,y12⟩:=y
 have ko:=openCache k
 try dsimp only at ko
 obtain ⟨B1,d1,B2,d2,B6,d6,B10,d10,B11,d11,B12,d12,rfl,e0,e1,e2,e3,e4,e5,e6,e7,e8,e9,e10,e11,e12⟩:=ko
 have kx0:Bk ((w.alloc (.cells #[.int .i64 x0,.slice A1 x1.length c1,.slice A2 x2.length c2,.int .i64 x3,.int .i64 x4,.int .i64 x5,.slice A6 x6.length c6,.int .i64 x7,.int .i64 x8,.int .i64 x9,.slice A10 x10.length c10,.slice A11 x11.length c11,.slice A12 x12.length c12] 50)).alloc (.cells #[.int .i64 y0,.slice B1 y1.length d1,.slice B2 y2.length d2,.int .i64 y3,.int .i64 y4,.int .i64 y5,.slice B6 y6.length d6,.int .i64 y7,.int .i64 y8,.int .i64 y9,.slice B10 y10.length d10,.slice B11 y11.length d11,.slice B12 y12.length d12] 50)) w.heap.size 50 #[.int .i64 x0,.slice A1 x1.length c1,.slice A2 x2.length c2,.int .i64 x3,.int .i64 x4,.int .i64 x5,.slice A6 x6.length c6,.int .i64 x7,.int .i64 x8,.int .i64 x9,.slice A10 x10.length c10,.slice A11 x11.length c11,.slice A12 x12.length c12]:=(Bk.new _ _ _).alloc _
 have ky0:Bk ((w.alloc (.cells #[.int .i64 x0,.slice A1 x1.length c1,.slice A2 x2.length c2,.int .i64 x3,.int .i64 x4,.int .i64 x5,.slice A6 x6.length c6,.int .i64 x7,.int .i64 x8,.int .i64 x9,.slice A10 x10.length c10,.slice A11 x11.length c11,.slice A12 x12.length c12] 50)).alloc (.cells #[.int .i64 y0,.slice B1 y1.length d1,.slice B2 y2.length d2,.int .i64 y3,.int .i64 y4,.int .i64 y5,.slice B6 y6.length d6,.int .i64 y7,.int .i64 y8,.int .i64 y9,.slice B10 y10.length d10,.slice B11 y11.length d11,.slice B12 y12.length d12] 50)) (w.heap.size+1) 50 #[.int .i64 y0,.slice B1 y1.length d1,.slice B2 y2.length d2,.int .i64 y3,.int .i64 y4,.int .i64 y5,.slice B6 y6.length d6,.int .i64 y7,.int .i64 y8,.int .i64 y9,.slice B10 y10.length d10,.slice B11 y11.length d11,.slice B12 y12.length d12]:=by simpa using Bk.new (w.alloc (.cells #[.int .i64 x0,.slice A1 x1.length c1,.slice A2 x2.length c2,.int .i64 x3,.int .i64 x4,.int .i64 x5,.slice A6 x6.length c6,.int .i64 x7,.int .i64 x8,.int .i64 x9,.slice A10 x10.length c10,.slice A11 x11.length c11,.slice A12 x12.length c12] 50)) 50 #[.int .i64 y0,.slice B1 y1.length d1,.slice B2 y2.length d2,.int .i64 y3,.int .i64 y4,.int .i64 y5,.slice B6 y6.length d6,.int .i64 y7,.int .i64 y8,.int .i64 y9,.slice B10 y10.length d10,.slice B11 y11.length d11,.slice B12 y12.length d12]
 have uu0:Up w ((w.alloc (.cells #[.int .i64 x0,.slice A1 x1.length c1,.slice A2 x2.length c2,.int .i64 x3,.int .i64 x4,.int .i64 x5,.slice A6 x6.length c6,.int .i64 x7,.int .i64 x8,.int .i64 x9,.slice A10 x10.length c10,.slice A11 x11.length c11,.slice A12 x12.length c12] 50)).alloc (.cells #[.int .i64 y0,.slice B1 y1.length d1,.slice B2 y2.length d2,.int .i64 y3,.int .i64 y4,.int .i64 y5,.slice B6 y6.length d6,.int .i64 y7,.int .i64 y8,.int .i64 y9,.slice B10 y10.length d10,.slice B11 y11.length d11,.slice B12 y12.length d12] 50)):=((Up.refl _).alloc _).alloc _
 go_enter Tryz.func23,Tryz.ntmps23
 go_wp2_with fail
 refine (c_eqDisk _ _ (x0,x1,x2) (y0,y1,y2) _ ⟨_,rfl,mkDisk (x:=(x0,x1,x2)) b0 (b1.up good_S uu0) (b2.up good_Put uu0)⟩ ⟨_,rfl,mkDisk (x:=(y0,y1,y2)) e0 (e1.up good_S uu0) (e2.up good_Put uu0)⟩).mono ?_
 rintro r w1 ⟨bb,rfl,hbb,u1⟩
 have uu1:=uu0.trans u1
 have kx1:=kx0.up u1
 have ky1:=ky0.up u1
 clear u1
 rcases eqb_cases hbb with ⟨rfl,e_0⟩ | ⟨rfl,e_0⟩
 · clear hbb
   have HE:Hid (¬ ((x0,x1,x2),(x3,x4,x5,x6),(x7,x8,x9,x10),x11,x12)=((y0,y1,y2),(y3,y4,y5,y6),(y7,y8,y9,y10),y11,y12)):=by unfold Hid;intro hh;(try simp only [Prod.mk.injEq] at hh);exact e_0 (by simp [hh])
   clear e_0
   go_wp2_with fail
   go_ret
   exact EqP.f HE.out uu1
 clear hbb
 simp only [Prod.mk.injEq] at e_0
 obtain ⟨rfl,rfl,rfl⟩:=e_0
 have gx1_3:w1.cell? ⟨w.heap.size,3,none⟩=some (.int .i64 x3):=kx1.cell 3
 have gy1_3:w1.cell? ⟨w.heap.size+1,3,none⟩=some (.int .i64 y3):=ky1.cell 3
 have gx1_4:w1.cell? ⟨w.heap.size,4,none⟩=some (.int .i64 x4):=kx1.cell 4
 have gy1_4:w1.cell? ⟨w.heap.size+1,4,none⟩=some (.int .i64 y4):=ky1.cell 4
 have gx1_5:w1.cell? ⟨w.heap.size,5,none⟩=some (.int .i64 x5):=kx1.cell 5
 have gy1_5:w1.cell? ⟨w.heap.size+1,5,none⟩=some (.int .i64 y5):=ky1.cell 5
 have gx1_6:w1.cell? ⟨w.heap.size,6,none⟩=some (.slice A6 x6.length c6):=kx1.cell 6
 have gy1_6:w1.cell? ⟨w.heap.size+1,6,none⟩=some (.slice B6 y6.length d6):=ky1.cell 6
 have gx1_7:w1.cell? ⟨w.heap.size,7,none⟩=some (.int .i64 x7):=kx1.cell 7
 have gy1_7:w1.cell? ⟨w.heap.size+1,7,none⟩=some (.int .i64 y7):=ky1.cell 7
 have gx1_8:w1.cell? ⟨w.heap.size,8,none⟩=some (.int .i64 x8):=kx1.cell 8
 have gy1_8:w1.cell? ⟨w.heap.size+1,8,none⟩=some (.int .i64 y8):=ky1.cell 8
 have gx1_9:w1.cell? ⟨w.heap.size,9,none⟩=some (.int .i64 x9):=kx1.cell 9
 have gy1_9:w1.cell? ⟨w.heap.size+1,9,none⟩=some (.int .i64 y9):=ky1.cell 9
 have gx1_10:w1.cell? ⟨w.heap.size,10,none⟩=some (.slice A10 x10.length c10):=kx1.cell 10
 have gy1_10:w1.cell? ⟨w.heap.size+1,10,none⟩=some (.slice B10 y10.length d10):=ky1.cell 10
 have gx1_11:w1.cell? ⟨w.heap.size,11,none⟩=some (.slice A11 x11.length c11):=kx1.cell 11
 have gy1_11:w1.cell? ⟨w.heap.size+1,11,none⟩=some (.slice B11 y11.length d11):=ky1.cell 11
 have gx1_12:w1.cell? ⟨w.heap.size,12,none⟩=some (.slice A12 x12.length c12):=kx1.cell 12
 have gy1_12:w1.cell? ⟨w.heap.size+1,12,none⟩=some (.slice B12 y12.length d12):=ky1.cell 12
 go_wp2_with fail
 refine (c_eqTop _ _ (x3,x4,x5,x6) (y3,y4,y5,y6) _ ⟨_,rfl,mkTop (x:=(x3,x4,x5,x6)) b3 b4 b5 (b6.up good_Seat uu1)⟩ ⟨_,rfl,mkTop (x:=(y3,y4,y5,y6)) e3 e4 e5 (e6.up good_Seat uu1)⟩).mono ?_
 rintro r w2 ⟨bb,rfl,hbb,u2⟩
 have uu2:=uu1.trans u2
 have kx2:=kx1.up u2
 have ky2:=ky1.up u2
 clear u2
 rcases eqb_cases hbb with ⟨rfl,e_3⟩ | ⟨rfl,e_3⟩
 · clear hbb
   have HE:Hid (¬ ((x0,x1,x2),(x3,x4,x5,x6),(x7,x8,x9,x10),x11,x12)=((x0,x1,x2),(y3,y4,y5,y6),(y7,y8,y9,y10),y11,y12)):=by unfold Hid;intro hh;(try simp only [Prod.mk.injEq] at hh);exact e_3 (by simp [hh])
   clear e_3
   go_wp2_with fail
   go_ret
   exact EqP.f HE.out uu2
 clear hbb
 simp only [Prod.mk.injEq] at e_3
 obtain ⟨rfl,rfl,rfl,rfl⟩:=e_3
 have gx2_7:w2.cell? ⟨w.heap.size,7,none⟩=some (.int .i64 x7):=kx2.cell 7
 have gy2_7:w2.cell? ⟨w.heap.size+1,7,none⟩=some (.int .i64 y7):=ky2.cell 7
 have gx2_8:w2.cell? ⟨w.heap.size,8,none⟩=some (.int .i64 x8):=kx2.cell 8
 have gy2_8:w2.cell? ⟨w.heap.size+1,8,none⟩=some (.int .i64 y8):=ky2.cell 8
 have gx2_9:w2.cell? ⟨w.heap.size,9,none⟩=some (.int .i64 x9):=kx2.cell 9
 have gy2_9:w2.cell? ⟨w.heap.size+1,9,none⟩=some (.int .i64 y9):=ky2.cell 9
 have gx2_10:w2.cell? ⟨w.heap.size,10,none⟩=some (.slice A10 x10.length c10):=kx2.cell 10
 have gy2_10:w2.cell? ⟨w.heap.size+1,10,none⟩=some (.slice B10 y10.length d10):=ky2.cell 10
 have gx2_11:w2.cell? ⟨w.heap.size,11,none⟩=some (.slice A11 x11.length c11):=kx2.cell 11
 have gy2_11:w2.cell? ⟨w.heap.size+1,11,none⟩=some (.slice B11 y11.length d11):=ky2.cell 11
 have gx2_12:w2.cell? ⟨w.heap.size,12,none⟩=some (.slice A12 x12.length c12):=kx2.cell 12
 have gy2_12:w2.cell? ⟨w.heap.size+1,12,none⟩=some (.slice B12 y12.length d12):=ky2.cell 12
 go_wp2_with fail
 refine (c_eqTop _ _ (x7,x8,x9,x10) (y7,y8,y9,y10) _ ⟨_,rfl,mkTop (x:=(x7,x8,x9,x10)) b7 b8 b9 (b10.up good_Seat uu2)⟩ ⟨_,rfl,mkTop (x:=(y7,y8,y9,y10)) e7 e8 e9 (e10.up good_Seat uu2)⟩).mono ?_
 rintro r w3 ⟨bb,rfl,hbb,u3⟩
 have uu3:=uu2.trans u3
 have kx3:=kx2.up u3
 have ky3:=ky2.up u3
 clear u3
 rcases eqb_cases hbb with ⟨rfl,e_7⟩ | ⟨rfl,e_7⟩
 · clear hbb
   have HE:Hid (¬ ((x0,x1,x2),(x3,x4,x5,x6),(x7,x8,x9,x10),x11,x12)=((x0,x1,x2),(x3,x4,x5,x6),(y7,y8,y9,y10),y11,y12)):=by unfold Hid;intro hh;(try simp only [Prod.mk.injEq] at hh);exact e_7 (by simp [hh])
   clear e_7
   go_wp2_with fail
   go_ret
   exact EqP.f HE.out uu3
 clear hbb
 simp only [Prod.mk.injEq] at e_7
 obtain ⟨rfl,rfl,rfl,rfl⟩:=e_7
 have gx3_11:w3.cell? ⟨w.heap.size,11,none⟩=some (.slice A11 x11.length c11):=kx3.cell 11
 have gy3_11:w3.cell? ⟨w.heap.size+1,11,none⟩=some (.slice B11 y11.length d11):=ky3.cell 11
 have gx3_12:w3.cell? ⟨w.heap.size,12,none⟩=some (.slice A12 x12.length c12):=kx3.cell 12
 have gy3_12:w3.cell? ⟨w.heap.size+1,12,none⟩=some (.slice B12 y12.length d12):=ky3.cell 12
 go_wp2_with fail
 refine (c_eqSeatS _ _ _ _ _ _ _ (b11.up good_Seat uu3) (e11.up good_Seat uu3)).mono ?_
 rintro r w4 ⟨bb,rfl,hbb,u4⟩
 have uu4:=uu3.trans u4
 have kx4:=kx3.up u4
 have ky4:=ky3.up u4
 clear u4
 rcases eqb_cases hbb with ⟨rfl,e_11⟩ | ⟨rfl,e_11⟩
 · clear hbb
   have HE:Hid (¬ ((x0,x1,x2),(x3,x4,x5,x6),(x7,x8,x9,x10),x11,x12)=((x0,x1,x2),(x3,x4,x5,x6),(x7,x8,x9,x10),y11,y12)):=by unfold Hid;intro hh;(try simp only [Prod.mk.injEq] at hh);exact e_11 (by simp [hh])
   clear e_11
   go_wp2_with fail
   go_ret
   exact EqP.f HE.out uu4
 clear hbb
 subst e_11
 have gx4_12:w4.cell? ⟨w.heap.size,12,none⟩=some (.slice A12 x12.length c12):=kx4.cell 12
 have gy4_12:w4.cell? ⟨w.heap.size+1,12,none⟩=some (.slice B12 y12.length d12):=ky4.cell 12
 go_wp2_with fail
 refine (c_eqInt64S _ _ _ _ _ _ _ (b12.up good_I uu4) (e12.up good_I uu4)).mono ?_
 rintro r w5 ⟨bb,rfl,hbb,u5⟩
 have uu5:=uu4.trans u5
 have kx5:=kx4.up u5
 have ky5:=ky4.up u5
 clear u5
 rcases eqb_cases hbb with ⟨rfl,e_12⟩ | ⟨rfl,e_12⟩
 · clear hbb
   have HE:Hid (¬ ((x0,x1,x2),(x3,x4,x5,x6),(x7,x8,x9,x10),x11,x12)=((x0,x1,x2),(x3,x4,x5,x6),(x7,x8,x9,x10),x11,y12)):=by unfold Hid;intro hh;(try simp only [Prod.mk.injEq] at hh);exact e_12 (by simp [hh])
   clear e_12
   go_wp2_with fail
   go_ret
   exact EqP.f HE.out uu5
 clear hbb
 subst e_12
 go_wp2_with fail
 go_ret
 exact EqP.t (by simp) uu5
theorem c_eqBase (v u:Value) (x y:TBase) (w:World) (h:AV shBase w v x) (k:AV shBase w u y) :
   Calls Tryz.prog 8 #[v,u] w (EqP (x=y) w):=by
 obtain ⟨cs,rfl,h⟩:=h
 obtain ⟨⟨x0,x1⟩,⟨⟨x2,x3,x4⟩,⟨x5,x6,x7,x8⟩,⟨x9,x10,x11,x12⟩,x13,x14⟩,⟨⟨x15,x16,x17⟩,x18,x19,x20,x21⟩,x22,x23⟩:=x
 have ho:=openBase h
 try dsimp only at ho
 obtain ⟨A1,c1,A3,c3,A4,c4,A8,c8,A12,c12,A13,c13,A14,c14,A16,c16,A17,c17,rfl,b0,b1,b2,b3,b4,b5,b6,b7,b8,b9,b10,b11,b12,b13,b14,b15,b16,b17,b18,b19,b20,b21,b22,b23⟩:=ho
 obtain ⟨ds,rfl,k⟩:=k
 obtain ⟨⟨y0,y1⟩,⟨⟨y2,y3,y4⟩,⟨y5,y6,y7,y8⟩,⟨y9,y10,y11,y12⟩,y13,y14⟩,⟨⟨y15,y16,y17⟩,y18,y19,y20,y21⟩,y22,y23⟩:=y
 have ko:=openBase k
 try dsimp only at ko
 obtain ⟨B1,d1,B3,d3,B4,d4,B8,d8,B12,d12,B13,d13,B14,d14,B16,d16,B17,d17,rfl,e0,e1,e2,e3,e4,e5,e6,e7,e8,e9,e10,e11,e12,e13,e14,e15,e16,e17,e18,e19,e20,e21,e22,e23⟩:=ko
 have kx0:Bk ((w.alloc (.cells #[.int .i64 x0,.slice A1 x1.length c1,.int .i64 x2,.slice A3 x3.length c3,.slice A4 x4.length c4,.int .i64 x5,.int .i64 x6,.int .i64 x7,.slice A8 x8.length c8,.int .i64 x9,.int .i64 x10,.int .i64 x11,.slice A12 x12.length c12,.slice A13 x13.length c13,.slice A14 x14.length c14,.int .i64 x15,.slice A16 x16.length c16,.slice A17 x17.length c17,.int .i64 x18,.int .i64 x19,.int .i64 x20,.int .i64 x21,.int .i64 x22,.int .i64 x23] 54)).alloc (.cells #[.int .i64 y0,.slice B1 y1.length d1,.int .i64 y2,.slice B3 y3.length d3,.slice B4 y4.length d4,.int .i64 y5,.int .i64 y6,.int .i64 y7,.slice B8 y8.length d8,.int .i64 y9,.int .i64 y10,.int .i64 y11,.slice B12 y12.length d12,.slice B13 y13.length d13,.slice B14 y14.length d14,.int .i64 y15,.slice B16 y16.length d16,.slice B17 y17.length d17,.int .i64 y18,.int .i64 y19,.int .i64 y20,.int .i64 y21,.int .i64 y22,.int .i64 y23] 54)) w.heap.size 54 #[.int .i64 x0,.slice A1 x1.length c1,.int .i64 x2,.slice A3 x3.length c3,.slice A4 x4.length c4,.int .i64 x5,.int .i64 x6,.int .i64 x7,.slice A8 x8.length c8,.int .i64 x9,.int .i64 x10,.int .i64 x11,.slice A12 x12.length c12,.slice A13 x13.length c13,.slice A14 x14.length c14,.int .i64 x15,.slice A16 x16.length c16,.slice A17 x17.length c17,.int .i64 x18,.int .i64 x19,.int .i64 x20,.int .i64 x21,.int .i64 x22,.int .i64 x23]:=(Bk.new _ _ _).alloc _
 have ky0:Bk ((w.alloc (.cells #[.int .i64 x0,.slice A1 x1.length c1,.int .i64 x2,.slice A3 x3.length c3,.slice A4 x4.length c4,.int .i64 x5,.int .i64 x6,.int .i64 x7,.slice A8 x8.length c8,.int .i64 x9,.int .i64 x10,.int .i64 x11,.slice A12 x12.length c12,.slice A13 x13.length c13,.slice A14 x14.length c14,.int .i64 x15,.slice A16 x16.length c16,.slice A17 x17.length c17,.int .i64 x18,.int .i64 x19,.int .i64 x20,.int .i64 x21,.int .i64 x22,.int .i64 x23] 54)).alloc (.cells #[.int .i64 y0,.slice B1 y1.length d1,.int .i64 y2,.slice B3 y3.length d3,.slice B4 y4.length d4,.int .i64 y5,.int .i64 y6,.int .i64 y7,.slice B8 y8.length d8,.int .i64 y9,.int .i64 y10,.int .i64 y11,.slice B12 y12.length d12,.slice B13 y13.length d13,.slice B14 y14.length d14,.int .i64 y15,.slice B16 y16.length d16,.slice B17 y17.length d17,.int .i64 y18,.int .i64 y19,.int .i64 y20,.int .i64 y21,.int .i64 y22,.int .i64 y23] 54)) (w.heap.size+1) 54 #[.int .i64 y0,.slice B1 y1.length d1,.int .i64 y2,.slice B3 y3.length d3,.slice B4 y4.length d4,.int .i64 y5,.int .i64 y6,.int .i64 y7,.slice B8 y8.length d8,.int .i64 y9,.int .i64 y10,.int .i64 y11,.slice B12 y12.length d12,.slice B13 y13.length d13,.slice B14 y14.length d14,.int .i64 y15,.slice B16 y16.length d16,.slice B17 y17.length d17,.int .i64 y18,.int .i64 y19,.int .i64 y20,.int .i64 y21,.int .i64 y22,.int .i64 y23]:=by simpa using Bk.new (w.alloc (.cells #[.int .i64 x0,.slice A1 x1.length c1,.int .i64 x2,.slice A3 x3.length c3,.slice A4 x4.length c4,.int .i64 x5,.int .i64 x6,.int .i64 x7,.slice A8 x8.length c8,.int .i64 x9,.int .i64 x10,.int .i64 x11,.slice A12 x12.length c12,.slice A13 x13.length c13,.slice A14 x14.length c14,.int .i64 x15,.slice A16 x16.length c16,.slice A17 x17.length c17,.int .i64 x18,.int .i64 x19,.int .i64 x20,.int .i64 x21,.int .i64 x22,.int .i64 x23] 54)) 54 #[.int .i64 y0,.slice B1 y1.length d1,.int .i64 y2,.slice B3 y3.length d3,.slice B4 y4.length d4,.int .i64 y5,.int .i64 y6,.int .i64 y7,.slice B8 y8.length d8,.int .i64 y9,.int .i64 y10,.int .i64 y11,.slice B12 y12.length d12,.slice B13 y13.length d13,.slice B14 y14.length d14,.int .i64 y15,.slice B16 y16.length d16,.slice B17 y17.length d17,.int .i64 y18,.int .i64 y19,.int .i64 y20,.int .i64 y21,.int .i64 y22,.int .i64 y23]
 have uu0:Up w ((w.alloc (.cells #[.int .i64 x0,.slice A1 x1.length c1,.int .i64 x2,.slice A3 x3.length c3,.slice A4 x4.length c4,.int .i64 x5,.int .i64 x6,.int .i64 x7,.slice A8 x8.length c8,.int .i64 x9,.int .i64 x10,.int .i64 x11,.slice A12 x12.length c12,.slice A13 x13.length c13,.slice A14 x14.length c14,.int .i64 x15,.slice A16 x16.length c16,.slice A17 x17.length c17,.int .i64 x18,.int .i64 x19,.int .i64 x20,.int .i64 x21,.int .i64 x22,.int .i64 x23] 54)).alloc (.cells #[.int .i64 y0,.slice B1 y1.length d1,.int .i64 y2,.slice B3 y3.length d3,.slice B4 y4.length d4,.int .i64 y5,.int .i64 y6,.int .i64 y7,.slice B8 y8.length d8,.int .i64 y9,.int .i64 y10,.int .i64 y11,.slice B12 y12.length d12,.slice B13 y13.length d13,.slice B14 y14.length d14,.int .i64 y15,.slice B16 y16.length d16,.slice B17 y17.length d17,.int .i64 y18,.int .i64 y19,.int .i64 y20,.int .i64 y21,.int .i64 y22,.int .i64 y23] 54)):=((Up.refl _).alloc _).alloc _
 go_enter Tryz.func8,Tryz.ntmps8
 go_wp2_with fail
 refine (c_eqBtree _ _ (x0,x1) (y0,y1) _ ⟨_,rfl,mkBtree (x:=(x0,x1)) b0 (b1.up good_Slot uu0)⟩ ⟨_,rfl,mkBtree (x:=(y0,y1)) e0 (e1.up good_Slot uu0)⟩).mono ?_
 rintro r w1 ⟨bb,rfl,hbb,u1⟩
 have uu1:=uu0.trans u1
 have kx1:=kx0.up u1
 have ky1:=ky0.up u1
 clear u1
 rcases eqb_cases hbb with ⟨rfl,e_0⟩ | ⟨rfl,e_0⟩
 · clear hbb
   have HE:Hid (¬ ((x0,x1),((x2,x3,x4),(x5,x6,x7,x8),(x9,x10,x11,x12),x13,x14),((x15,x16,x17),x18,x19,x20,x21),x22,x23)=((y0,y1),((y2,y3,y4),(y5,y6,y7,y8),(y9,y10,y11,y12),y13,y14),((y15,y16,y17),y18,y19,y20,y21),y22,y23)):=by unfold Hid;intro hh;(try simp only [Prod.mk.injEq] at hh);exact e_0 (by simp [hh])
   clear e_0
   go_wp2_with fail
   go_ret
   exact EqP.f HE.out uu1
 clear hbb
 simp only [Prod.mk.injEq] at e_0
 obtain ⟨rfl,rfl⟩:=e_0
 have gx1_2:w1.cell? ⟨w.heap.size,2,none⟩=some (.int .i64 x2):=kx1.cell 2
 have gy1_2:w1.cell? ⟨w.heap.size+1,2,none⟩=some (.int .i64 y2):=ky1.cell 2
 have gx1_3:w1.cell? ⟨w.heap.size,3,none⟩=some (.slice A3 x3.length c3):=kx1.cell 3
 have gy1_3:w1.cell? ⟨w.heap.size+1,3,none⟩=some (.slice B3 y3.length d3):=ky1.cell 3
 have gx1_4:w1.cell? ⟨w.heap.size,4,none⟩=some (.slice A4 x4.length c4):=kx1.cell 4
 have gy1_4:w1.cell? ⟨w.heap.size+1,4,none⟩=some (.slice B4 y4.length d4):=ky1.cell 4
 have gx1_5:w1.cell? ⟨w.heap.size,5,none⟩=some (.int .i64 x5):=kx1.cell 5
 have gy1_5:w1.cell? ⟨w.heap.size+1,5,none⟩=some (.int .i64 y5):=ky1.cell 5
 have gx1_6:w1.cell? ⟨w.heap.size,6,none⟩=some (.int .i64 x6):=kx1.cell 6
 have gy1_6:w1.cell? ⟨w.heap.size+1,6,none⟩=some (.int .i64 y6):=ky1.cell 6
 have gx1_7:w1.cell? ⟨w.heap.size,7,none⟩=some (.int .i64 x7):=kx1.cell 7
 have gy1_7:w1.cell? ⟨w.heap.size+1,7,none⟩=some (.int .i64 y7):=ky1.cell 7
 have gx1_8:w1.cell? ⟨w.heap.size,8,none⟩=some (.slice A8 x8.length c8):=kx1.cell 8
 have gy1_8:w1.cell? ⟨w.heap.size+1,8,none⟩=some (.slice B8 y8.length d8):=ky1.cell 8
 have gx1_9:w1.cell? ⟨w.heap.size,9,none⟩=some (.int .i64 x9):=kx1.cell 9
 have gy1_9:w1.cell? ⟨w.heap.size+1,9,none⟩=some (.int .i64 y9):=ky1.cell 9
 have gx1_10:w1.cell? ⟨w.heap.size,10,none⟩=some (.int .i64 x10):=kx1.cell 10
 have gy1_10:w1.cell? ⟨w.heap.size+1,10,none⟩=some (.int .i64 y10):=ky1.cell 10
 have gx1_11:w1.cell? ⟨w.heap.size,11,none⟩=some (.int .i64 x11):=kx1.cell 11
 have gy1_11:w1.cell? ⟨w.heap.size+1,11,none⟩=some (.int .i64 y11):=ky1.cell 11
 have gx1_12:w1.cell? ⟨w.heap.size,12,none⟩=some (.slice A12 x12.length c12):=kx1.cell 12
 have gy1_12:w1.cell? ⟨w.heap.size+1,12,none⟩=some (.slice B12 y12.length d12):=ky1.cell 12
 have gx1_13:w1.cell? ⟨w.heap.size,13,none⟩=some (.slice A13 x13.length c13):=kx1.cell 13
 have gy1_13:w1.cell? ⟨w.heap.size+1,13,none⟩=some (.slice B13 y13.length d13):=ky1.cell 13
 have gx1_14:w1.cell? ⟨w.heap.size,14,none⟩=some (.slice A14 x14.length c14):=kx1.cell 14
 have gy1_14:w1.cell? ⟨w.heap.size+1,14,none⟩=some (.slice B14 y14.length d14):=ky1.cell 14
 have gx1_15:w1.cell? ⟨w.heap.size,15,none⟩=some (.int .i64 x15):=kx1.cell 15
 have gy1_15:w1.cell? ⟨w.heap.size+1,15,none⟩=some (.int .i64 y15):=ky1.cell 15
 have gx1_16:w1.cell? ⟨w.heap.size,16,none⟩=some (.slice A16 x16.length c16):=kx1.cell 16
 have gy1_16:w1.cell? ⟨w.heap.size+1,16,none⟩=some (.slice B16 y16.length d16):=ky1.cell 16
 have gx1_17:w1.cell? ⟨w.heap.size,17,none⟩=some (.slice A17 x17.length c17):=kx1.cell 17
 have gy1_17:w1.cell? ⟨w.heap.size+1,17,none⟩=some (.slice B17 y17.length d17):=ky1.cell 17
 have gx1_18:w1.cell? ⟨w.heap.size,18,none⟩=some (.int .i64 x18):=kx1.cell 18
 have gy1_18:w1.cell? ⟨w.heap.size+1,18,none⟩=some (.int .i64 y18):=ky1.cell 18
 have gx1_19:w1.cell? ⟨w.heap.size,19,none⟩=some (.int .i64 x19):=kx1.cell 19
 have gy1_19:w1.cell? ⟨w.heap.size+1,19,none⟩=some (.int .i64 y19):=ky1.cell 19
 have gx1_20:w1.cell? ⟨w.heap.size,20,none⟩=some (.int .i64 x20):=kx1.cell 20
 have gy1_20:w1.cell? ⟨w.heap.size+1,20,none⟩=some (.int .i64 y20):=ky1.cell 20
 have gx1_21:w1.cell? ⟨w.heap.size,21,none⟩=some (.int .i64 x21):=kx1.cell 21
 have gy1_21:w1.cell? ⟨w.heap.size+1,21,none⟩=some (.int .i64 y21):=ky1.cell 21
 have gx1_22:w1.cell? ⟨w.heap.size,22,none⟩=some (.int .i64 x22):=kx1.cell 22
 have gy1_22:w1.cell? ⟨w.heap.size+1,22,none⟩=some (.int .i64 y22):=ky1.cell 22
 have gx1_23:w1.cell? ⟨w.heap.size,23,none⟩=some (.int .i64 x23):=kx1.cell 23
 have gy1_23:w1.cell? ⟨w.heap.size+1,23,none⟩=some (.int .i64 y23):=ky1.cell 23
 go_wp2_with fail
 refine (c_eqCache _ _ ((x2,x3,x4),(x5,x6,x7,x8),(x9,x10,x11,x12),x13,x14) ((y2,y3,y4),(y5,y6,y7,y8),(y9,y10,y11,y12),y13,y14) _ ⟨_,rfl,mkCache (x:=((x2,x3,x4),(x5,x6,x7,x8),(x9,x10,x11,x12),x13,x14)) b2 (b3.up good_S uu1) (b4.up good_Put uu1) b5 b6 b7 (b8.up good_Seat uu1) b9 b10 b11 (b12.up good_Seat uu1) (b13.up good_Seat uu1) (b14.up good_I uu1)⟩ ⟨_,rfl,mkCache (x:=((y2,y3,y4),(y5,y6,y7,y8),(y9,y10,y11,y12),y13,y14)) e2 (e3.up good_S uu1) (e4.up good_Put uu1) e5 e6 e7 (e8.up good_Seat uu1) e9 e10 e11 (e12.up good_Seat uu1) (e13.up good_Seat uu1) (e14.up good_I uu1)⟩).mono ?_
 rintro r w2 ⟨bb,rfl,hbb,u2⟩
 have uu2:=uu1.trans u2
 have kx2:=kx1.up u2
 have ky2:=ky1.up u2
 clear u2
 rcases eqb_cases hbb with ⟨rfl,e_2⟩ | ⟨rfl,e_2⟩
 · clear hbb
   have HE:Hid (¬ ((x0,x1),((x2,x3,x4),(x5,x6,x7,x8),(x9,x10,x11,x12),x13,x14),((x15,x16,x17),x18,x19,x20,x21),x22,x23)=((x0,x1),((y2,y3,y4),(y5,y6,y7,y8),(y9,y10,y11,y12),y13,y14),((y15,y16,y17),y18,y19,y20,y21),y22,y23)):=by unfold Hid;intro hh;(try simp only [Prod.mk.injEq] at hh);exact e_2 (by simp [hh])
   clear e_2
   go_wp2_with fail
   go_ret
   exact EqP.f HE.out uu2
 clear hbb
 simp only [Prod.mk.injEq] at e_2
 obtain ⟨⟨rfl,rfl,rfl⟩,⟨rfl,rfl,rfl,rfl⟩,⟨rfl,rfl,rfl,rfl⟩,rfl,rfl⟩:=e_2
 have gx2_15:w2.cell? ⟨w.heap.size,15,none⟩=some (.int .i64 x15):=kx2.cell 15
 have gy2_15:w2.cell? ⟨w.heap.size+1,15,none⟩=some (.int .i64 y15):=ky2.cell 15
 have gx2_16:w2.cell? ⟨w.heap.size,16,none⟩=some (.slice A16 x16.length c16):=kx2.cell 16
 have gy2_16:w2.cell? ⟨w.heap.size+1,16,none⟩=some (.slice B16 y16.length d16):=ky2.cell 16
 have gx2_17:w2.cell? ⟨w.heap.size,17,none⟩=some (.slice A17 x17.length c17):=kx2.cell 17
 have gy2_17:w2.cell? ⟨w.heap.size+1,17,none⟩=some (.slice B17 y17.length d17):=ky2.cell 17
 have gx2_18:w2.cell? ⟨w.heap.size,18,none⟩=some (.int .i64 x18):=kx2.cell 18
 have gy2_18:w2.cell? ⟨w.heap.size+1,18,none⟩=some (.int .i64 y18):=ky2.cell 18
 have gx2_19:w2.cell? ⟨w.heap.size,19,none⟩=some (.int .i64 x19):=kx2.cell 19
 have gy2_19:w2.cell? ⟨w.heap.size+1,19,none⟩=some (.int .i64 y19):=ky2.cell 19
 have gx2_20:w2.cell? ⟨w.heap.size,20,none⟩=some (.int .i64 x20):=kx2.cell 20
 have gy2_20:w2.cell? ⟨w.heap.size+1,20,none⟩=some (.int .i64 y20):=ky2.cell 20
 have gx2_21:w2.cell? ⟨w.heap.size,21,none⟩=some (.int .i64 x21):=kx2.cell 21
 have gy2_21:w2.cell? ⟨w.heap.size+1,21,none⟩=some (.int .i64 y21):=ky2.cell 21
 have gx2_22:w2.cell? ⟨w.heap.size,22,none⟩=some (.int .i64 x22):=kx2.cell 22
 have gy2_22:w2.cell? ⟨w.heap.size+1,22,none⟩=some (.int .i64 y22):=ky2.cell 22
 have gx2_23:w2.cell? ⟨w.heap.size,23,none⟩=some (.int .i64 x23):=kx2.cell 23
 have gy2_23:w2.cell? ⟨w.heap.size+1,23,none⟩=some (.int .i64 y23):=ky2.cell 23
 go_wp2_with fail
 refine (c_eqJournal _ _ ((x15,x16,x17),x18,x19,x20,x21) ((y15,y16,y17),y18,y19,y20,y21) _ ⟨_,rfl,mkJournal (x:=((x15,x16,x17),x18,x19,x20,x21)) b15 (b16.up good_S uu2) (b17.up good_Put uu2) b18 b19 b20 b21⟩ ⟨_,rfl,mkJournal (x:=((y15,y16,y17),y18,y19,y20,y21)) e15 (e16.up good_S uu2) (e17.up good_Put uu2) e18 e19 e20 e21⟩).mono ?_
 rintro r w3 ⟨bb,rfl,hbb,u3⟩
 have uu3:=uu2.trans u3
 have kx3:=kx2.up u3
 have ky3:=ky2.up u3
 clear u3
 rcases eqb_cases hbb with ⟨rfl,e_15⟩ | ⟨rfl,e_15⟩
 · clear hbb
   have HE:Hid (¬ ((x0,x1),((x2,x3,x4),(x5,x6,x7,x8),(x9,x10,x11,x12),x13,x14),((x15,x16,x17),x18,x19,x20,x21),x22,x23)=((x0,x1),((x2,x3,x4),(x5,x6,x7,x8),(x9,x10,x11,x12),x13,x14),((y15,y16,y17),y18,y19,y20,y21),y22,y23)):=by unfold Hid;intro hh;(try simp only [Prod.mk.injEq] at hh);exact e_15 (by simp [hh])
   clear e_15
   go_wp2_with fail
   go_ret
   exact EqP.f HE.out uu3
 clear hbb
 simp only [Prod.mk.injEq] at e_15
 obtain ⟨⟨rfl,rfl,rfl⟩,rfl,rfl,rfl,rfl⟩:=e_15
 have gx3_22:w3.cell? ⟨w.heap.size,22,none⟩=some (.int .i64 x22):=kx3.cell 22
 have gy3_22:w3.cell? ⟨w.heap.size+1,22,none⟩=some (.int .i64 y22):=ky3.cell 22
 have gx3_23:w3.cell? ⟨w.heap.size,23,none⟩=some (.int .i64 x23):=kx3.cell 23
 have gy3_23:w3.cell? ⟨w.heap.size+1,23,none⟩=some (.int .i64 y23):=ky3.cell 23
 by_cases e_22:¬ x22=y22
 · have hx:(x22 != y22)=true:=by simp [e_22]
   have HE:Hid (¬ ((x0,x1),((x2,x3,x4),(x5,x6,x7,x8),(x9,x10,x11,x12),x13,x14),((x15,x16,x17),x18,x19,x20,x21),x22,x23)=((x0,x1),((x2,x3,x4),(x5,x6,x7,x8),(x9,x10,x11,x12),x13,x14),((x15,x16,x17),x18,x19,x20,x21),y22,y23)):=by unfold Hid;intro hh;(try simp only [Prod.mk.injEq] at hh);exact e_22 (by simp [hh])
   clear e_22
   go_wp2_with fail
   go_ret
   exact EqP.f HE.out uu3
 replace e_22:=Decidable.of_not_not e_22
 subst e_22
 by_cases e_23:¬ x23=y23
 · have hx:(x23 != y23)=true:=by simp [e_23]
   have HE:Hid (¬ ((x0,x1),((x2,x3,x4),(x5,x6,x7,x8),(x9,x10,x11,x12),x13,x14),((x15,x16,x17),x18,x19,x20,x21),x22,x23)=((x0,x1),((x2,x3,x4),(x5,x6,x7,x8),(x9,x10,x11,x12),x13,x14),((x15,x16,x17),x18,x19,x20,x21),x22,y23)):=by unfold Hid;intro hh;(try simp only [Prod.mk.injEq] at hh);exact e_23 (by simp [hh])
   clear e_23
   go_wp2_with fail
   go_ret
   exact EqP.f HE.out uu3
 replace e_23:=Decidable.of_not_not e_23
 subst e_23
 go_wp2_with fail
 go_ret
 exact EqP.t (by simp) uu3
end Go.Proofs.YthdnicfbnihoaaaGreatDoor
