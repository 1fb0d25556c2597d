/-
 Rising numbers within bounds: rising,allWithin,l00Rises.
-/
import Derived.Test.YthdnicfbnihoaaaGreatDoorM4E
import Derived.Test.YthdnicfbnihoaaaGreatDoorM4K
set_option maxHeartbeats 4000000
set_option maxRecDepth 100000
namespace Go.Proofs.YthdnicfbnihoaaaGreatDoor
open Go.RowKit
set_option linter.unusedVariables false
set_option linter.unusedSimpArgs false
def upAt (l:List Int) (i:Nat):Bool:=decide (i=0) || decide (l.getD (i - 1) 0<l.getD i 0)
def risTo (l:List Int) (k:Nat):Bool:=(List.range k).all (upAt l)
def risB (l:List Int):Bool:=risTo l l.length
def notIn (lo hi n:Int):Bool:=!inB n lo hi
def allIn (l:List Int) (lo hi:Int):Bool:=!l.any (notIn lo hi)
theorem risTo_succ (l:List Int) (k:Nat):risTo l (k+1)=(risTo l k && upAt l k):=by simp [risTo,List.range_succ,List.all_append]
theorem ris_bad (l:List Int) (k:Nat) (h:k<l.length) (hb:upAt l k=false):risB l=false:=by
 simp only [risB,risTo,List.all_eq_false]
 exact ⟨k,by simpa using h,by simp [hb]⟩
theorem getD_atR (l:List Int) (i:Nat) (h:i<l.length):l.getD i 0=l[i]:=by simp [List.getD,h]
theorem upAt_succ (l:List Int) (m:Nat) (h:m+1<l.length):upAt l (m+1)=decide (l[m]<l[m+1]):=by
 unfold upAt
 rw [getD_atR l (m+1) h,Nat.add_sub_cancel,getD_atR l m (by omega)]
 simp
theorem c_rising (xs:List Int) (A:Option Addr) (c:Nat) (w:World) (h:SRW shI w A c xs):Calls Tryz.prog 102 #[.slice A xs.length c] w (BoolP (risB xs) w):=by
 have hlen:=h.len_le
 go_enter Tryz.func102,Tryz.ntmps102
 go_wp2_with fail
 go_loopw [3] (fun i wr=>∃k:Nat,k+1≤xs.length+1∧i=.int .i64 ((k:Int)+1)∧Hid (risTo xs (min (k+1) xs.length)=true)∧Up w wr) (fun i _=>xs.length+1 - (intOf i).toNat)
 case atStart=>exact ⟨0,by omega,rfl,by
   unfold Hid
   rcases Nat.eq_zero_or_pos xs.length with h | h
   · rw [h];rfl
   · rw [Nat.min_eq_left (by omega)];rfl,Up.refl _⟩
 case round =>
   obtain ⟨m,hm,rfl,HT,hu⟩:=hrel
   by_cases hlt:m+1<xs.length
   · obtain ⟨g,off,rfl,_,_,hc1,e1⟩:=(h.up good_I hu).at_I hlt
     obtain ⟨g',off',hgo,_,_,hc0,e0⟩:=(h.up good_I hu).at_I (show m<xs.length by omega)
     injection hgo with hgo
     injection hgo with hg' ho' _
     subst hg' ho'
     have hi0:(0:Int)≤(m:Int)+1:=by omega
     have hi1:(m:Int)+1<(xs.length:Int):=by omega
     have hwm:IntKind.i64.wrap (m:Int)=(m:Int):=IntWalk.i64_in _ (by omega)
     have hm0:(0:Int)≤(m:Int):=by omega
     have hm1:(m:Int)<(xs.length:Int):=by omega
     have HU:=Lib.hid (upAt_succ xs m hlt)
     by_cases hq:xs[m]<xs[m+1]
     · have HN:Hid (risTo xs (min (m+1+1) xs.length)=true):=by
         unfold Hid
         have:=HT.out
         rw [Nat.min_eq_left (by omega)] at this
         rw [Nat.min_eq_left (by omega),risTo_succ,this,HU.out]
         simpa using hq
       have hq':decide (xs[m+1]≤xs[m])=false:=by simpa using hq
       go_wp2_with fail
       go_quiet (fail)
       go_wp2_with fail
       go_roundw
       case rel=>exact ⟨m+1,by omega,by go_num,HN,hu.drewN _⟩
       case measure=>simp [intOf];omega
     · have HN:=Lib.hid (ris_bad xs (m+1) hlt (by rw [HU.out];simpa using hq))
       have hq':decide (xs[m+1]≤xs[m])=true:=by simpa using hq
       go_wp2_with fail
       go_quiet (fail)
       go_wp2_with fail
       go_ret
       exact bool_end HN (hu.drewN _)
   · have HN:Hid (risB xs=true):=by
       unfold Hid risB
       have:=HT.out
       rwa [Nat.min_eq_right (by omega)] at this
     go_wp2_with fail
     go_ret
     exact bool_end HN hu
theorem c_allWithin1 (B1 B2:Nat) (lo hi n:Int) (w:World) (h1:w.cell? ⟨B1,0,none⟩=some (.int .i64 lo)) (h2:w.cell? ⟨B2,0,none⟩=some (.int .i64 hi)) :
   Calls Tryz.prog 143 #[.int .i64 n,.pointer (some ⟨B1,0,none⟩),.pointer (some ⟨B2,0,none⟩)] w (BoolP (notIn lo hi n) w):=by
 go_enter Tryz.func143,Tryz.ntmps143
 go_wp2_with (go_at_call 51;refine (within_any _ _ _ _).mono ?_;rintro e w' ⟨rfl,rfl⟩)
 go_ret
 exact ⟨rfl,Up.refl _⟩
theorem eg_allWithin1:∀args w,(callFunc 143 args).run Tryz.prog w=.ok (.enter 143 args) w:=enters_of Tryz.func143 (by kernel_rfl) rfl
theorem app_three (a b c:Value):#[a]++#[b,c]=#[a,b,c]:=by simp
theorem c_allWithin (xs:List Int) (A:Option Addr) (c:Nat) (lo hi:Int) (w:World) (h:SRW shI w A c xs):Calls Tryz.prog 103 #[.slice A xs.length c,.int .i64 lo,.int .i64 hi] w (BoolP (allIn xs lo hi) w):=by
 have u0:Up w ((w.alloc (.cells #[.int .i64 lo] 2)).alloc (.cells #[.int .i64 hi] 2)):=((Up.refl _).alloc _).alloc _
 have k1:Bk ((w.alloc (.cells #[.int .i64 lo] 2)).alloc (.cells #[.int .i64 hi] 2)) w.heap.size 2 #[.int .i64 lo]:=(Bk.new _ _ _).alloc _
 have k2:Bk ((w.alloc (.cells #[.int .i64 lo] 2)).alloc (.cells #[.int .i64 hi] 2)) (w.heap.size+1) 2 #[.int .i64 hi]:=by simpa using Bk.new (w.alloc (.cells #[.int .i64 lo] 2)) 2 #[.int .i64 hi]
 have hf:∀(W:World) (n:Int),n∈xs→Up ((w.alloc (.cells #[.int .i64 lo] 2)).alloc (.cells #[.int .i64 hi] 2)) W→I64 n→Calls Tryz.prog 143 (#[.int .i64 n]++#[.pointer (some ⟨w.heap.size,0,none⟩),.pointer (some ⟨w.heap.size+1,0,none⟩)]) W (BoolP (notIn lo hi n) W):=fun W n _ hW _=>by
   rw [app_three]
   exact c_allWithin1 _ _ lo hi n W ((k1.up hW).cell 0) ((k2.up hW).cell 0)
 go_enter Tryz.func103,Tryz.ntmps103
 go_wp2_with fail
 refine (c_ContainsFuncInt64 143 _ eg_allWithin1 (notIn lo hi) _ _ xs _ (h.up good_I u0) hf).mono ?_
 rintro e w1 ⟨rfl,u1⟩
 go_wp2_with fail
 go_ret
 exact ⟨rfl,u0.trans u1⟩
theorem rises_bad1 (xs:List Int) (lo hi:Int) (k:Nat) (h:k<xs.length) (hb:inB xs[k] lo hi=false):(risB xs && allIn xs lo hi)=false:=by
 have:xs.any (notIn lo hi)=true:=List.any_eq_true.2 ⟨_,List.getElem_mem h,by simp [notIn,hb]⟩
 simp [allIn,this]
theorem rises_bad2 (xs:List Int) (lo hi:Int) (k:Nat) (h:k<xs.length) (hb:upAt xs k=false):(risB xs && allIn xs lo hi)=false:=by
 rw [ris_bad xs k h hb];rfl
theorem c_l00Rises (xs:List Int) (A:Option Addr) (c:Nat) (lo hi:Int) (w:World) (h:SRW shI w A c xs):Calls Tryz.prog 80 #[.slice A xs.length c,.int .i64 lo,.int .i64 hi] w (BoolP (risB xs && allIn xs lo hi) w):=by
 have hlen:=h.len_le
 go_enter Tryz.func80,Tryz.ntmps80
 go_wp2_with fail
 go_loopw [7] (fun i wr=>∃k:Nat,k≤xs.length∧i=.int .i64 k∧Hid (risTo xs k=true∧(xs.take k).any (notIn lo hi)=false)∧Up w wr) (fun i _=>xs.length - (intOf i).toNat)
 case atStart=>exact ⟨0,Nat.zero_le _,rfl,⟨rfl,rfl⟩,Up.refl _⟩
 case round =>
   obtain ⟨k,hk,rfl,HT,hu⟩:=hrel
   by_cases hlt:k<xs.length
   · obtain ⟨g,off,rfl,_,_,hc1,e1⟩:=(h.up good_I hu).at_I hlt
     cases q1:inB xs[k] lo hi
     · have HN:=Lib.hid (rises_bad1 xs lo hi k hlt q1)
       go_wp2_with fail
       go_quiet ((go_at_call 39;exact Calls.quiet_of_same ((in_any _ _ _ _).mono (fun _ _ h=>⟨h.1,h.2.symm⟩))))
       go_wp2_with fail
       go_ret
       exact bool_end HN (hu.drewN _)
     have HA:Hid ((xs.take (k+1)).any (notIn lo hi)=false):=by unfold Hid;rw [any_take_succ _ xs k hlt,HT.out.2];simp [notIn,q1]
     by_cases hk0:k=0
     · subst hk0
       have hc1':wr.cell? ⟨g,off,none⟩=some (.int .i64 xs[0]):=by simpa using hc1
       have HN:Hid (risTo xs (0+1)=true∧(xs.take (0+1)).any (notIn lo hi)=false):=⟨rfl,HA.out⟩
       go_wp2_with fail
       go_quiet ((go_at_call 39;exact Calls.quiet_of_same ((in_any _ _ _ _).mono (fun _ _ h=>⟨h.1,h.2.symm⟩))))
       go_wp2_with fail
       go_roundw
       case rel=>exact ⟨0+1,by omega,by go_num,HN,hu.drewN _⟩
       case measure=>simp [intOf];omega
     · obtain ⟨m,rfl⟩:∃m,k=m+1:=⟨k - 1,by omega⟩
       obtain ⟨g',off',hgo,_,_,hc0,e0⟩:=(h.up good_I hu).at_I (show m<xs.length by omega)
       injection hgo with hgo
       injection hgo with hg' ho' _
       subst hg' ho'
       have hi0:(0:Int)≤(m:Int)+1:=by omega
       have hi1:(m:Int)+1<(xs.length:Int):=by omega
       have hwm:IntKind.i64.wrap (m:Int)=(m:Int):=IntWalk.i64_in _ (by omega)
       have hm0:(0:Int)≤(m:Int):=by omega
       have hm1:(m:Int)<(xs.length:Int):=by omega
       have HU:=Lib.hid (upAt_succ xs m hlt)
       by_cases hq:xs[m]<xs[m+1]
       · have HN:Hid (risTo xs (m+1+1)=true∧(xs.take (m+1+1)).any (notIn lo hi)=false):=by
           refine ⟨?_,HA.out⟩
           rw [risTo_succ,HT.out.1,HU.out]
           simpa using hq
         have hq':decide (xs[m+1]≤xs[m])=false:=by simpa using hq
         go_wp2_with fail
         go_quiet ((go_at_call 39;exact Calls.quiet_of_same ((in_any _ _ _ _).mono (fun _ _ h=>⟨h.1,h.2.symm⟩))))
         go_wp2_with fail
         go_roundw
         case rel=>exact ⟨m+1+1,by omega,by go_num,HN,hu.drewN _⟩
         case measure=>simp [intOf];omega
       · have HN:=Lib.hid (rises_bad2 xs lo hi (m+1) hlt (by rw [HU.out];simpa using hq))
         have hq':decide (xs[m+1]≤xs[m])=true:=by simpa using hq
         go_wp2_with fail
         go_quiet ((go_at_call 39;exact Calls.quiet_of_same ((in_any _ _ _ _).mono (fun _ _ h=>⟨h.1,h.2.symm⟩))))
         go_wp2_with fail
         go_ret
         exact bool_end HN (hu.drewN _)
   · have HN:Hid ((risB xs && allIn xs lo hi)=true):=by
       unfold Hid
       have e:k=xs.length:=by omega
       have h1:=HT.out
       subst e
       rw [List.take_length] at h1
       simp [risB,allIn,h1.1,h1.2]
     go_wp2_with fail
     go_ret
     exact bool_end HN hu
end Go.Proofs.YthdnicfbnihoaaaGreatDoor
