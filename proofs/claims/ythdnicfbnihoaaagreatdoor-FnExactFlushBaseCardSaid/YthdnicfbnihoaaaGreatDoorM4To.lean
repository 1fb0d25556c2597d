/-
 TopOk: the program's and the reference's compute one function of a superblock.
-/
import Derived.Test.YthdnicfbnihoaaaGreatDoorM4K
import Derived.Test.YthdnicfbnihoaaaGreatDoorM4J
import Derived.Test.YthdnicfbnihoaaaGreatDoorM4Le
import Derived.Deep.RegionHeld3
set_option maxHeartbeats 8000000
set_option maxRecDepth 100000
namespace Go.Proofs.YthdnicfbnihoaaaGreatDoor
open Go.RowKit
set_option linter.unusedVariables false
set_option linter.unusedSimpArgs false
def seatD (l:List TSeat) (i:Nat):TSeat:=l.getD i (0,0)
def okAt (l:List TSeat) (i:Nat):Bool:=inB (seatD l i).1 1 64 && inB (seatD l i).2 2 399 && !(l.take i).any (fun s=>s.2 == (seatD l i).2) && (decide (i=0) || decide ((seatD l (i - 1)).1<(seatD l i).1))
def okTo (l:List TSeat) (k:Nat):Bool:=(List.range k).all (okAt l)
def seatsOk (l:List TSeat):Bool:=decide (l.length≤64) && okTo l l.length
theorem seatD_at (l:List TSeat) (i:Nat) (h:i<l.length):seatD l i=l[i]:=by simp [seatD,List.getD,h]
theorem okTo_succ (l:List TSeat) (k:Nat):okTo l (k+1)=(okTo l k && okAt l k):=by simp [okTo,List.range_succ,List.all_append]
theorem okTo_bad (l:List TSeat) (k n:Nat) (h:k<n) (hb:okAt l k=false):okTo l n=false:=by
 simp only [okTo,List.all_eq_false]
 exact ⟨k,by simpa using h,by simp [hb]⟩
theorem seats_bad (l:List TSeat) (k:Nat) (h:k<l.length) (hb:okAt l k=false):seatsOk l=false:=by
 simp [seatsOk,okTo_bad l k _ h hb]
theorem any_take_snoc {α:Type} (p:α→Bool) (l:List α) (k:Nat) (h:k<l.length):(l.take (k+1)).any p=((l.take k).any p || p l[k]):=by
 rw [List.take_succ_eq_append_getElem h,List.any_append];simp
theorem zero_bool (w:World):(zeroValue 4).run Tryz.prog w=.ok (.bool false) w:=by kernel_rfl
theorem c_seatsOk (xs:List TSeat) (A:Option Addr) (c:Nat) (w:World) (h:SRW shSeat w A c xs):Calls Tryz.prog 96 #[.slice A xs.length c] w (BoolP (seatsOk xs) w):=by
 have hlen:=h.len_le
 have hcap:xs.length≤maxLen:=Nat.le_trans h.1 h.2.1
 have hmm:=@run_makeMap Tryz.prog
 go_enter Tryz.func96,Tryz.ntmps96
 go_wp2_with fail
 go_loopw [9] (fun i wr=>∃k:Nat,k≤xs.length∧i=.int .i64 k∧Hid (okTo xs k=true)∧Up w wr∧ISet Tryz.prog 2 4 wr w.heap.size k (fun j=>(xs.take k).any (fun s=>s.2 == j))) (fun i _=>xs.length - (intOf i).toNat)
 case atStart=>exact ⟨0,Nat.zero_le _,rfl,rfl,(Up.refl _).alloc _,by simpa using ISet.made w⟩
 case round =>
   obtain ⟨k,hk,rfl,HT,hu,hset⟩:=hrel
   by_cases hlt:k<xs.length
   · obtain ⟨g,off,rfl,_,hgl,hc0,hc1,e0,e1,_⟩:=atSeat (h.up good_Seat hu) hlt
     obtain ⟨e0l,e0h⟩:=e0
     have hgr:g<wr.heap.size:=hgl
     have hsl:=hset.lt
     have u1:Up w (wr.alloc (.cells #[.int .i64 xs[k].1,.int .i64 xs[k].2] 125)):=hu.alloc _
     have kb:=Bk.new wr 125 #[.int .i64 xs[k].1,.int .i64 xs[k].2]
     have s0:(wr.alloc (.cells #[.int .i64 xs[k].1,.int .i64 xs[k].2] 125)).cell? ⟨wr.heap.size,0,none⟩=some (.int .i64 xs[k].1):=kb.cell 0
     have s1:(wr.alloc (.cells #[.int .i64 xs[k].1,.int .i64 xs[k].2] 125)).cell? ⟨wr.heap.size,1,none⟩=some (.int .i64 xs[k].2):=kb.cell 1
     have hs1:=hset.up ((Up.refl wr).alloc (.cells #[.int .i64 xs[k].1,.int .i64 xs[k].2] 125))
     have hat:okAt xs k=(inB xs[k].1 1 64 && inB xs[k].2 2 399 && !(xs.take k).any (fun s=>s.2 == xs[k].2) && (decide (k=0) || decide ((seatD xs (k - 1)).1<xs[k].1))):=by unfold okAt;rw [seatD_at _ _ hlt]
     have HAT:=Lib.hid hat;clear hat
     have hlook:∀n,(Instr.lookup 136 (.map (some w.heap.size)) (.int .i64 xs[k].2) false).run Tryz.prog ((wr.alloc (.cells #[.int .i64 xs[k].1,.int .i64 xs[k].2] 125)).drewN n)=.ok (.bool ((xs.take k).any (fun s=>s.2 == xs[k].2))) ((wr.alloc (.cells #[.int .i64 xs[k].1,.int .i64 xs[k].2] 125)).drewN n):=fun n=>(hs1.drewN n).look Tryz.underlying2 Tryz.underlying136 Tryz.underlying4 (zero_bool _) e1
     cases q1:inB xs[k].1 1 64
     · have HN:=Lib.hid (seats_bad xs k hlt (by rw [HAT.out,q1];rfl))
       go_wp2_with fail
       go_quiet ((go_at_call 51;exact Calls.quiet_of_same ((within_any _ _ _ _).mono (fun _ _ h=>⟨h.1,h.2.symm⟩))))
       go_wp2_with fail
       go_ret
       exact bool_end HN (u1.drewN _)
     cases q2:inB xs[k].2 2 399
     · have HN:=Lib.hid (seats_bad xs k hlt (by rw [HAT.out,q2];simp))
       go_wp2_with fail
       go_quiet ((go_at_call 51;exact Calls.quiet_of_same ((within_any _ _ _ _).mono (fun _ _ h=>⟨h.1,h.2.symm⟩))))
       go_wp2_with fail
       go_ret
       exact bool_end HN (u1.drewN _)
     cases q3:(xs.take k).any (fun s=>s.2 == xs[k].2)
     rotate_left
     · have HN:=Lib.hid (seats_bad xs k hlt (by rw [HAT.out,q3];simp))
       rw [q3] at hlook
       go_wp2_with fail
       go_quiet ((go_at_call 51;exact Calls.quiet_of_same ((within_any _ _ _ _).mono (fun _ _ h=>⟨h.1,h.2.symm⟩))))
       go_wp2_with fail
       go_ret
       exact bool_end HN (u1.drewN _)
     rw [q3] at hlook
     by_cases hk0:k=0
     · subst hk0
       have hc0':wr.cell? ⟨g,off,none⟩=some (.int .i64 xs[0].1):=by simpa using hc0
       have hc1':wr.cell? ⟨g,off+1,none⟩=some (.int .i64 xs[0].2):=by simpa using hc1
       have HN:Hid (okTo xs (0+1)=true):=by unfold Hid;rw [okTo_succ,HT.out,HAT.out,q1,q2,q3];simp
       go_wp2_with fail
       go_quiet ((go_at_call 51;exact Calls.quiet_of_same ((within_any _ _ _ _).mono (fun _ _ h=>⟨h.1,h.2.symm⟩))))
       obtain ⟨w2,hrun,hs2,hgrow⟩:=(hs1.drewN nq).add Tryz.underlying2 Tryz.underlying136 Tryz.underlying4 (by omega) e1 true
       go_wp2_with fail
       go_roundw
       case rel =>
         refine ⟨_,by omega,by go_num,HN,(u1.drewN nq).only (Only.of_grown hgrow) (by simp),?_⟩
         obtain ⟨D,h1,h2⟩:=hs2
         refine ⟨D,h1,fun i hi=>?_⟩
         rw [h2 i hi]
         dsimp only
         rw [any_take_snoc _ _ _ hlt]
         by_cases e:i=(xs[0]'hlt).2
         · simp [e]
         · have e':((xs[0]'hlt).2 == i)=false:=by simpa using fun h=>e (Eq.symm h)
           rw [if_neg e,e',Bool.or_false]
       case measure=>simp [intOf];omega
     · obtain ⟨m,rfl⟩:∃m,k=m+1:=⟨k - 1,by omega⟩
       obtain ⟨g',off',hgo,_,hgl',hp0,_,p0,_,_⟩:=atSeat (h.up good_Seat hu) (show m<xs.length by omega)
       injection hgo with hgo
       injection hgo with hg' ho' _
       subst hg' ho'
       have hp0':(wr.alloc (.cells #[.int .i64 xs[m+1].1,.int .i64 xs[m+1].2] 125)).cell? ⟨g,off+m*2,none⟩=some (.int .i64 xs[m].1):=by rw [World.cell?_of_block (w:=wr) (Below.heap_alloc wr _ g hgr)];exact hp0
       have hsd:seatD xs (m+1 - 1)=xs[m]:=seatD_at _ _ (by omega)
       obtain ⟨pl,ph⟩:=p0
       by_cases hord:xs[m].1<xs[m+1].1
       · have HN:Hid (okTo xs (m+1+1)=true):=by unfold Hid;rw [okTo_succ,HT.out,HAT.out,q1,q2,q3,hsd];simp [hord]
         clear hsd
         go_wp2_with fail
         go_quiet ((go_at_call 51;exact Calls.quiet_of_same ((within_any _ _ _ _).mono (fun _ _ h=>⟨h.1,h.2.symm⟩))))
         obtain ⟨w2,hrun,hs2,hgrow⟩:=(hs1.drewN nq).add Tryz.underlying2 Tryz.underlying136 Tryz.underlying4 (by omega) e1 true
         go_wp2_with fail
         go_roundw
         case rel =>
           refine ⟨_,by omega,by go_num,HN,(u1.drewN nq).only (Only.of_grown hgrow) (by simp),?_⟩
           obtain ⟨D,h1,h2⟩:=hs2
           refine ⟨D,h1,fun i hi=>?_⟩
           rw [h2 i hi]
           dsimp only
           rw [any_take_snoc _ _ _ hlt]
           by_cases e:i=(xs[m+1]'hlt).2
           · simp [e]
           · have e':((xs[m+1]'hlt).2 == i)=false:=by simpa using fun h=>e (Eq.symm h)
             rw [if_neg e,e',Bool.or_false]
         case measure=>simp [intOf];omega
       · have HN:=Lib.hid (seats_bad xs (m+1) hlt (by rw [HAT.out,hsd];simp [hord]))
         clear hsd
         go_wp2_with fail
         go_quiet ((go_at_call 51;exact Calls.quiet_of_same ((within_any _ _ _ _).mono (fun _ _ h=>⟨h.1,h.2.symm⟩))))
         go_wp2_with fail
         go_ret
         exact bool_end HN (u1.drewN _)
   · have HS:Hid (seatsOk xs=decide ((xs.length:Int)≤64)):=by
       unfold Hid seatsOk
       have e0:k=xs.length:=by omega
       have e:okTo xs xs.length=true:=by rw [← e0];exact HT.out
       rw [e,Bool.and_true]
       by_cases hq:xs.length≤64
       · rw [decide_eq_true hq,decide_eq_true (by omega)]
       · rw [decide_eq_false hq,decide_eq_false (by omega)]
     go_wp2_with fail
     go_ret
     exact bool_end HS hu
theorem c_l18Seats (xs:List TSeat) (A:Option Addr) (c:Nat) (w:World) (h:SRW shSeat w A c xs):Calls Tryz.prog 79 #[.slice A xs.length c] w (BoolP (seatsOk xs) w):=by
 have hlen:=h.len_le
 go_enter Tryz.func79,Tryz.ntmps79
 go_wp2_with fail
 go_loopw [3] (fun i wr=>∃k:Nat,k≤xs.length∧k≤65∧i=.int .i64 k∧Hid (okTo xs k=true)∧Up w wr) (fun i _=>xs.length - (intOf i).toNat)
 case atStart=>exact ⟨0,Nat.zero_le _,by omega,rfl,rfl,Up.refl _⟩
 case round =>
   obtain ⟨k,hk,hk5,rfl,HT,hu⟩:=hrel
   by_cases hlt:k<xs.length
   · by_cases h64:k≤64
     · obtain ⟨g,off,rfl,_,hgl,hc0,hc1,e0,e1,_⟩:=atSeat (h.up good_Seat hu) hlt
       obtain ⟨e0l,e0h⟩:=e0
       have hat:okAt xs k=(inB xs[k].1 1 64 && inB xs[k].2 2 399 && !(xs.take k).any (fun s=>s.2 == xs[k].2) && (decide (k=0) || decide ((seatD xs (k - 1)).1<xs[k].1))):=by unfold okAt;rw [seatD_at _ _ hlt]
       have HAT:=Lib.hid hat;clear hat
       cases q1:inB xs[k].1 1 64
       · have HN:=Lib.hid (seats_bad xs k hlt (by rw [HAT.out,q1];rfl))
         go_wp2_with fail
         go_quiet ((go_at_call 39;exact Calls.quiet_of_same ((in_any _ _ _ _).mono (fun _ _ h=>⟨h.1,h.2.symm⟩))))
         go_wp2_with fail
         go_ret
         exact bool_end HN (hu.drewN _)
       by_cases hk0:k=0
       · subst hk0
         have hc0':wr.cell? ⟨g,off,none⟩=some (.int .i64 xs[0].1):=by simpa using hc0
         have hc1':wr.cell? ⟨g,off+1,none⟩=some (.int .i64 xs[0].2):=by simpa using hc1
         cases q2:inB xs[0].2 2 399
         · have HN:=Lib.hid (seats_bad xs 0 hlt (by rw [HAT.out,q2];simp))
           go_wp2_with fail
           go_quiet ((go_at_call 39;exact Calls.quiet_of_same ((in_any _ _ _ _).mono (fun _ _ h=>⟨h.1,h.2.symm⟩))))
           go_wp2_with fail
           go_ret
           exact bool_end HN (hu.drewN _)
         have HN:Hid (okTo xs (0+1)=true):=by unfold Hid;rw [okTo_succ,HT.out,HAT.out,q1,q2];simp
         go_wp2_with fail
         go_quiet ((go_at_call 39;exact Calls.quiet_of_same ((in_any _ _ _ _).mono (fun _ _ h=>⟨h.1,h.2.symm⟩))))
         obtain ⟨wo,hwo⟩:∃wo:World,wo=wr.drewN nq:=⟨_,rfl⟩
         have huo:Up w wo:=by rw [hwo];exact hu.drewN _
         rw [← hwo]
         go_wp2_with fail
         go_loopw [4] (fun i wr=>i=.int .i64 0∧Up w wr) (fun i _=>0)
         case atStart=>exact ⟨rfl,huo⟩
         case round =>
           obtain ⟨rfl,hu2⟩:=hrel
           go_wp2_with fail
           go_roundw
           case rel=>exact ⟨0+1,by omega,by omega,by go_num,HN,hu2⟩
           case measure=>simp [intOf];omega
       · obtain ⟨m,rfl⟩:∃m,k=m+1:=⟨k - 1,by omega⟩
         obtain ⟨g',off',hgo,_,hgl',hp0,_,p0,_,_⟩:=atSeat (h.up good_Seat hu) (show m<xs.length by omega)
         injection hgo with hgo
         injection hgo with hg' ho' _
         subst hg' ho'
         have hsd:seatD xs (m+1 - 1)=xs[m]:=seatD_at _ _ (by omega)
         obtain ⟨pl,ph⟩:=p0
         have hi0:(0:Int)≤(m:Int)+1:=by omega
         have hwm:IntKind.i64.wrap (m:Int)=(m:Int):=IntWalk.i64_in _ (by omega)
         have hm0:(0:Int)≤(m:Int):=by omega
         have hm1:(m:Int)<(xs.length:Int):=by omega
         have hi1:(m:Int)+1<(xs.length:Int):=by omega
         by_cases hord:xs[m].1<xs[m+1].1
         rotate_left
         · have HN:=Lib.hid (seats_bad xs (m+1) hlt (by rw [HAT.out,hsd];simp [hord]))
           clear hsd
           go_wp2_with fail
           go_quiet ((go_at_call 39;exact Calls.quiet_of_same ((in_any _ _ _ _).mono (fun _ _ h=>⟨h.1,h.2.symm⟩))))
           go_wp2_with fail
           go_ret
           exact bool_end HN (hu.drewN _)
         cases q2:inB xs[m+1].2 2 399
         · have HN:=Lib.hid (seats_bad xs (m+1) hlt (by rw [HAT.out,q2];simp))
           clear hsd
           go_wp2_with fail
           go_quiet ((go_at_call 39;exact Calls.quiet_of_same ((in_any _ _ _ _).mono (fun _ _ h=>⟨h.1,h.2.symm⟩))))
           go_wp2_with fail
           go_ret
           exact bool_end HN (hu.drewN _)
         have HQ:Hid (okTo xs (m+1+1)=!(xs.take (m+1)).any (fun s=>s.2 == xs[m+1].2)):=by unfold Hid;rw [okTo_succ,HT.out,HAT.out,q1,q2,hsd];simp [hord]
         clear hsd
         go_wp2_with fail
         go_quiet ((go_at_call 39;exact Calls.quiet_of_same ((in_any _ _ _ _).mono (fun _ _ h=>⟨h.1,h.2.symm⟩))))
         obtain ⟨wo,hwo⟩:∃wo:World,wo=wr.drewN nq:=⟨_,rfl⟩
         have huo:Up w wo:=by rw [hwo];exact hu.drewN _
         rw [← hwo]
         go_wp2_with fail
         go_loopw [4] (fun i wr=>∃j:Nat,j≤m+1∧i=.int .i64 j∧Hid ((xs.take j).any (fun s=>s.2 == xs[m+1].2)=false)∧Up w wr) (fun i _=>m+1 - (intOf i).toNat)
         case atStart=>exact ⟨0,Nat.zero_le _,rfl,rfl,huo⟩
         case round =>
           obtain ⟨j,hj,rfl,HA,hu2⟩:=hrel
           by_cases hjl:j<m+1
           · obtain ⟨g1,off1,hgo,_,_,_,hj1,_,j1,_⟩:=atSeat (h.up good_Seat hu2) (show j<xs.length by omega)
             injection hgo with hgo
             injection hgo with hg' ho' _
             subst hg' ho'
             obtain ⟨g1,off1,hgo,_,_,_,hi1,_,i1,_⟩:=atSeat (h.up good_Seat hu2) hlt
             injection hgo with hgo
             injection hgo with hg' ho' _
             subst hg' ho'
             by_cases hq:xs[j].2=xs[m+1].2
             · have HN:=Lib.hid (seats_bad xs (m+1) hlt (by rw [HAT.out,any_at (fun s:TSeat=>s.2 == xs[m+1].2) (xs.take (m+1)) j (by simp;omega) (by simp [hq])];simp))
               rw [hq] at hj1
               go_wp2_with fail
               go_quiet (fail)
               go_wp2_with fail
               go_ret
               exact bool_end HN (hu2.drewN _)
             · have HN:Hid ((xs.take (j+1)).any (fun s=>s.2 == xs[m+1].2)=false):=by unfold Hid;rw [any_take_snoc _ _ _ (by omega),HA.out];simp [hq]
               have hqq:(xs[j].2 == xs[m+1].2)=false:=by simp [hq]
               go_wp2_with fail
               go_quiet (fail)
               go_wp2_with fail
               go_roundw
               case rel=>exact ⟨j+1,by omega,by go_num,HN,hu2.drewN _⟩
               case measure=>simp [intOf];omega
           · have HN:Hid (okTo xs (m+1+1)=true):=by
               unfold Hid
               have e:j=m+1:=by omega
               subst e
               rw [HQ.out,HA.out];rfl
             go_wp2_with fail
             go_roundw
             case rel=>exact ⟨m+1+1,by omega,by omega,by go_num,HN,hu2⟩
             case measure=>simp [intOf];omega
     · have HS:Hid (seatsOk xs=decide ((xs.length:Int)≤64)):=by
         unfold Hid seatsOk
         rw [decide_eq_false (show ¬ xs.length≤64 by omega),decide_eq_false (by omega)]
         rfl
       go_wp2_with fail
       go_ret
       exact bool_end HS hu
   · have HS:Hid (seatsOk xs=decide ((xs.length:Int)≤64)):=by
       unfold Hid seatsOk
       have e0:k=xs.length:=by omega
       have e:okTo xs xs.length=true:=by rw [← e0];exact HT.out
       rw [e,Bool.and_true]
       by_cases hq:xs.length≤64
       · rw [decide_eq_true hq,decide_eq_true (by omega)]
       · rw [decide_eq_false hq,decide_eq_false (by omega)]
     go_wp2_with fail
     go_ret
     exact bool_end HS hu
def topOk (t:TTop):Bool:=inB t.1 1 2000000000 && inB t.2.1 1 64 && inB t.2.2.1 0 2000000000 && seatsOk t.2.2.2
theorem c_implTopOk (v:Value) (x:TTop) (w:World) (h:AV shTop w v x):Calls Tryz.prog 95 #[v] w (BoolP (topOk x) w):=by
 obtain ⟨cs,rfl,h⟩:=h
 obtain ⟨x0,x1,x2,x3⟩:=x
 have ho:=openTop h
 dsimp only at ho
 obtain ⟨A3,c3,rfl,b0,b1,b2,b3⟩:=ho
 have u0:Up w (w.alloc (.cells #[.int .i64 x0,.int .i64 x1,.int .i64 x2,.slice A3 x3.length c3] 48)):=(Up.refl _).alloc _
 cases q0:inB x0 1 2000000000
 · have HN:Hid (topOk (x0,x1,x2,x3)=false):=by unfold Hid topOk;simp [q0]
   go_enter Tryz.func95,Tryz.ntmps95
   go_wp2_with (go_at_call 51;refine (within_any _ _ _ _).mono ?_;rintro e w' ⟨rfl,rfl⟩)
   go_ret
   exact bool_end HN u0
 cases q1:inB x1 1 64
 · have HN:Hid (topOk (x0,x1,x2,x3)=false):=by unfold Hid topOk;simp [q1]
   go_enter Tryz.func95,Tryz.ntmps95
   go_wp2_with (go_at_call 51;refine (within_any _ _ _ _).mono ?_;rintro e w' ⟨rfl,rfl⟩)
   go_ret
   exact bool_end HN u0
 cases q2:inB x2 0 2000000000
 · have HN:Hid (topOk (x0,x1,x2,x3)=false):=by unfold Hid topOk;simp [q2]
   go_enter Tryz.func95,Tryz.ntmps95
   go_wp2_with (go_at_call 51;refine (within_any _ _ _ _).mono ?_;rintro e w' ⟨rfl,rfl⟩)
   go_ret
   exact bool_end HN u0
 have HN:Hid (topOk (x0,x1,x2,x3)=seatsOk x3):=by unfold Hid topOk;simp [q0,q1,q2]
 go_enter Tryz.func95,Tryz.ntmps95
 go_wp2_with (go_at_call 51;refine (within_any _ _ _ _).mono ?_;rintro e w' ⟨rfl,rfl⟩)
 refine (c_seatsOk _ _ _ _ (b3.up good_Seat u0)).mono ?_
 rintro e w1 ⟨rfl,u1⟩
 go_wp2_with fail
 go_ret
 exact bool_end HN (u0.trans u1)
theorem c_specTopOk (v:Value) (x:TTop) (w:World) (h:AV shTop w v x):Calls Tryz.prog 78 #[v] w (BoolP (topOk x) w):=by
 obtain ⟨cs,rfl,h⟩:=h
 obtain ⟨x0,x1,x2,x3⟩:=x
 have ho:=openTop h
 dsimp only at ho
 obtain ⟨A3,c3,rfl,b0,b1,b2,b3⟩:=ho
 have u0:Up w (w.alloc (.cells #[.int .i64 x0,.int .i64 x1,.int .i64 x2,.slice A3 x3.length c3] 48)):=(Up.refl _).alloc _
 cases q0:inB x0 1 2000000000
 · have HN:Hid (topOk (x0,x1,x2,x3)=false):=by unfold Hid topOk;simp [q0]
   go_enter Tryz.func78,Tryz.ntmps78
   go_wp2_with (go_at_call 39;refine (in_any _ _ _ _).mono ?_;rintro e w' ⟨rfl,rfl⟩)
   go_ret
   exact bool_end HN u0
 cases q1:inB x1 1 64
 · have HN:Hid (topOk (x0,x1,x2,x3)=false):=by unfold Hid topOk;simp [q1]
   go_enter Tryz.func78,Tryz.ntmps78
   go_wp2_with (go_at_call 39;refine (in_any _ _ _ _).mono ?_;rintro e w' ⟨rfl,rfl⟩)
   go_ret
   exact bool_end HN u0
 cases q2:inB x2 0 2000000000
 · have HN:Hid (topOk (x0,x1,x2,x3)=false):=by unfold Hid topOk;simp [q2]
   go_enter Tryz.func78,Tryz.ntmps78
   go_wp2_with (go_at_call 39;refine (in_any _ _ _ _).mono ?_;rintro e w' ⟨rfl,rfl⟩)
   go_ret
   exact bool_end HN u0
 have HN:Hid (topOk (x0,x1,x2,x3)=seatsOk x3):=by unfold Hid topOk;simp [q0,q1,q2]
 go_enter Tryz.func78,Tryz.ntmps78
 go_wp2_with (go_at_call 39;refine (in_any _ _ _ _).mono ?_;rintro e w' ⟨rfl,rfl⟩)
 refine (c_l18Seats _ _ _ _ (b3.up good_Seat u0)).mono ?_
 rintro e w1 ⟨rfl,u1⟩
 go_wp2_with fail
 go_ret
 exact bool_end HN (u0.trans u1)
end Go.Proofs.YthdnicfbnihoaaaGreatDoor
