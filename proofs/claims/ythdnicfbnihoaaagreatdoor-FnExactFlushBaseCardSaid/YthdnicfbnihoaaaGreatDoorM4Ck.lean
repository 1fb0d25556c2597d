/-
 CacheOk: the program's and the reference's compute one function of a cache.
-/
import Derived.Test.YthdnicfbnihoaaaGreatDoorM4Cn
import Derived.Test.YthdnicfbnihoaaaGreatDoorM4K
import Derived.Deep.RegionHeld3
set_option maxHeartbeats 8000000
set_option maxRecDepth 100000
namespace Go.Proofs.YthdnicfbnihoaaaGreatDoor
open Go.RowKit
set_option linter.unusedVariables false
set_option linter.unusedSimpArgs false
def badSlot (n:Nat) (s:TSeat):Bool:=!inB s.2 0 ((n:Int) - 1)
def cachePre (c:TCache):Bool:=diskOk c.1 && (c.1.1 == 1700) && !decide ((c.1.2.1.length:Int)<4) && topOk c.2.1 && (topOk c.2.2.1 || zeroT c.2.2.1) && seatsOk c.2.2.2.1
def cacheOk (c:TCache):Bool:=cachePre c && !(c.2.1.2.2.2++c.2.2.1.2.2.2++c.2.2.2.1).any (badSlot c.1.2.1.length) && !c.2.2.2.1.any (fun s=>hasS c.2.1.2.2.2 s.2) && (risB c.2.2.2.2 && allIn c.2.2.2.2 1 64)
theorem cache_pre {c:TCache} (h:cachePre c=false):cacheOk c=false:=by unfold cacheOk;rw [h];rfl
theorem seats_pos {l:List TSeat} (h:seatsOk l=true):∀s∈l,2≤s.2:=by
 intro s hs
 simp only [seatsOk,Bool.and_eq_true,okTo,List.all_eq_true] at h
 obtain ⟨i,hi,rfl⟩:=List.getElem_of_mem hs
 have:=h.2 i (by simpa using hi)
 simp only [okAt,Bool.and_eq_true,seatD_at l i hi] at this
 exact (inB_t.1 this.1.1.2).1
theorem top_seats {t:TTop} (h:topOk t=true):seatsOk t.2.2.2=true:=by
 simp only [topOk,Bool.and_eq_true] at h
 exact h.2
theorem zeroT_seats {t:TTop} (h:zeroT t=true):t.2.2.2=[]:=by
 simp only [zeroT,Bool.and_eq_true,List.isEmpty_iff] at h
 exact h.2
theorem below_bad {l:List TSeat} {n:Nat} (h:∀s∈l,2≤s.2):belowS l n=!l.any (badSlot n):=by
 unfold belowS
 congr 1
 rw [Bool.eq_iff_iff,List.any_eq_true,List.any_eq_true]
 constructor
 · rintro ⟨s,hs,hb⟩
   refine ⟨s,hs,?_⟩
   have:=h s hs
   simp only [decide_eq_true_eq] at hb
   simp only [badSlot,Bool.not_eq_true',inB_f]
   omega
 · rintro ⟨s,hs,hb⟩
   refine ⟨s,hs,?_⟩
   have:=h s hs
   simp only [badSlot,Bool.not_eq_true',inB_f] at hb
   simp only [decide_eq_true_eq]
   omega
theorem cache_sz {c:TCache} (h:shCache.sz c≤1048576):shDisk.sz c.1≤1048576∧c.2.1.2.2.2.length≤1048576∧c.2.2.1.2.2.2.length≤1048576∧c.2.2.2.1.length≤1048576∧c.2.2.2.2.length≤1048576:=by
 have:shCache.sz c=shDisk.sz c.1+((0+(0+(0+(c.2.1.2.2.2.length+(c.2.1.2.2.2.map shSeat.sz).sum))))+((0+(0+(0+(c.2.2.1.2.2.2.length+(c.2.2.1.2.2.2.map shSeat.sz).sum))))+((c.2.2.2.1.length+(c.2.2.2.1.map shSeat.sz).sum)+(c.2.2.2.2.length+(c.2.2.2.2.map shI.sz).sum)))):=rfl
 omega
theorem c_CacheOk1 (B:Nat) (v:Value) (s:TSeat) (l:List TSeat) (A:Option Addr) (c:Nat) (w:World) (h:AV shSeat w v s) (hB:w.cell? ⟨B,6,none⟩=some (.slice A l.length c)) (hl:SRW shSeat w A c l) :
   Calls Tryz.prog 100 #[v,.pointer (some ⟨B,0,none⟩)] w (BoolP (hasS l s.2) w):=by
 obtain ⟨cs,rfl,h⟩:=h
 obtain ⟨s0,s1⟩:=s
 have ho:=openSeat h
 dsimp only at ho ⊢
 obtain ⟨rfl,b0,b1⟩:=ho
 have hBl:=cell_lt hB
 have u0:Up w (w.alloc (.cells #[.int .i64 s0,.int .i64 s1] 125)):=(Up.refl _).alloc _
 go_enter Tryz.func100,Tryz.ntmps100
 go_wp2_with fail
 refine (c_hasSlot l A c s1 _ (hl.up good_Seat u0)).mono ?_
 rintro e w1 ⟨rfl,u1⟩
 go_wp2_with fail
 go_ret
 exact ⟨rfl,u0.trans u1⟩
theorem eg_CacheOk1:∀args w,(callFunc 100 args).run Tryz.prog w=.ok (.enter 100 args) w:=enters_of Tryz.func100 (by kernel_rfl) rfl
theorem c_implCacheOk (v:Value) (x:TCache) (w:World) (h:AV shCache w v x) (hn:shCache.sz x≤1048576):Calls Tryz.prog 49 #[v] w (BoolP (cacheOk x) w):=by
 obtain ⟨cs,rfl,h⟩:=h
 obtain ⟨A1,c1,A2,c2,A6,c6,A10,c10,A11,c11,A12,c12,rfl,b0,b1,b2,b3,b4,b5,b6,b7,b8,b9,b10,b11,b12⟩:=openCache h
 clear h
 have hl1:=b1.len_le
 have hl11:=b11.len_le
 obtain ⟨hnd,ns6,ns10,ns11,ns12⟩:=cache_sz hn
 have ua1:Up w (w.alloc (.cells #[.int .i64 x.1.1,.slice A1 x.1.2.1.length c1,.slice A2 x.1.2.2.length c2,.int .i64 x.2.1.1,.int .i64 x.2.1.2.1,.int .i64 x.2.1.2.2.1,.slice A6 x.2.1.2.2.2.length c6,.int .i64 x.2.2.1.1,.int .i64 x.2.2.1.2.1,.int .i64 x.2.2.1.2.2.1,.slice A10 x.2.2.1.2.2.2.length c10,.slice A11 x.2.2.2.1.length c11,.slice A12 x.2.2.2.2.length c12] 50)):=(Up.refl _).alloc _
 have uu1:=(Up.refl w).trans ua1
 have ka_1:Bk (w.alloc (.cells #[.int .i64 x.1.1,.slice A1 x.1.2.1.length c1,.slice A2 x.1.2.2.length c2,.int .i64 x.2.1.1,.int .i64 x.2.1.2.1,.int .i64 x.2.1.2.2.1,.slice A6 x.2.1.2.2.2.length c6,.int .i64 x.2.2.1.1,.int .i64 x.2.2.1.2.1,.int .i64 x.2.2.1.2.2.1,.slice A10 x.2.2.1.2.2.2.length c10,.slice A11 x.2.2.2.1.length c11,.slice A12 x.2.2.2.2.length c12] 50)) (w.heap.size) 50 #[.int .i64 x.1.1,.slice A1 x.1.2.1.length c1,.slice A2 x.1.2.2.length c2,.int .i64 x.2.1.1,.int .i64 x.2.1.2.1,.int .i64 x.2.1.2.2.1,.slice A6 x.2.1.2.2.2.length c6,.int .i64 x.2.2.1.1,.int .i64 x.2.2.1.2.1,.int .i64 x.2.2.1.2.2.1,.slice A10 x.2.2.1.2.2.2.length c10,.slice A11 x.2.2.2.1.length c11,.slice A12 x.2.2.2.2.length c12]:=by simpa using Bk.new w 50 #[.int .i64 x.1.1,.slice A1 x.1.2.1.length c1,.slice A2 x.1.2.2.length c2,.int .i64 x.2.1.1,.int .i64 x.2.1.2.1,.int .i64 x.2.1.2.2.1,.slice A6 x.2.1.2.2.2.length c6,.int .i64 x.2.2.1.1,.int .i64 x.2.2.1.2.1,.int .i64 x.2.2.1.2.2.1,.slice A10 x.2.2.1.2.2.2.length c10,.slice A11 x.2.2.2.1.length c11,.slice A12 x.2.2.2.2.length c12]
 go_enter Tryz.func49,Tryz.ntmps49
 go_wp2_with fail
 refine (c_implDiskOk _ x.1 _ ⟨_,rfl,mkDisk (x:=x.1) b0 (b1.up good_S uu1) (b2.up good_Put uu1)⟩).mono ?_
 rintro e w2 ⟨rfl,u2⟩
 have uu2:=uu1.trans u2
 have ka_2:=ka_1.up u2
 have za_2:=ka_2.lt
 have ga2_0:w2.cell? ⟨w.heap.size,0,none⟩=some (.int .i64 x.1.1):=ka_2.cell 0
 have ga2_1:w2.cell? ⟨w.heap.size,1,none⟩=some (.slice A1 x.1.2.1.length c1):=ka_2.cell 1
 have ga2_2:w2.cell? ⟨w.heap.size,2,none⟩=some (.slice A2 x.1.2.2.length c2):=ka_2.cell 2
 have ga2_3:w2.cell? ⟨w.heap.size,3,none⟩=some (.int .i64 x.2.1.1):=ka_2.cell 3
 have ga2_4:w2.cell? ⟨w.heap.size,4,none⟩=some (.int .i64 x.2.1.2.1):=ka_2.cell 4
 have ga2_5:w2.cell? ⟨w.heap.size,5,none⟩=some (.int .i64 x.2.1.2.2.1):=ka_2.cell 5
 have ga2_6:w2.cell? ⟨w.heap.size,6,none⟩=some (.slice A6 x.2.1.2.2.2.length c6):=ka_2.cell 6
 have ga2_7:w2.cell? ⟨w.heap.size,7,none⟩=some (.int .i64 x.2.2.1.1):=ka_2.cell 7
 have ga2_8:w2.cell? ⟨w.heap.size,8,none⟩=some (.int .i64 x.2.2.1.2.1):=ka_2.cell 8
 have ga2_9:w2.cell? ⟨w.heap.size,9,none⟩=some (.int .i64 x.2.2.1.2.2.1):=ka_2.cell 9
 have ga2_10:w2.cell? ⟨w.heap.size,10,none⟩=some (.slice A10 x.2.2.1.2.2.2.length c10):=ka_2.cell 10
 have ga2_11:w2.cell? ⟨w.heap.size,11,none⟩=some (.slice A11 x.2.2.2.1.length c11):=ka_2.cell 11
 have ga2_12:w2.cell? ⟨w.heap.size,12,none⟩=some (.slice A12 x.2.2.2.2.length c12):=ka_2.cell 12
 cases q0:diskOk x.1
 · have HN:Hid (cacheOk x=false):=by unfold Hid;apply cache_pre;unfold cachePre;simp [q0]
   go_wp2_with fail
   go_ret
   exact bool_end HN uu2
 by_cases q1:¬ x.1.1=1700
 · have q1b:(x.1.1 != 1700)=true:=by simpa using q1
   have HN:Hid (cacheOk x=false):=by unfold Hid;apply cache_pre;unfold cachePre;simp [q1]
   clear q1
   go_wp2_with fail
   go_ret
   exact bool_end HN uu2
 have Q1:Hid (x.1.1=1700):=Classical.not_not.1 q1
 clear q1
 have q1b:(x.1.1 != 1700)=false:=by rw [Q1.out];rfl
 by_cases q2:(x.1.2.1.length:Int)<4
 · have HN:Hid (cacheOk x=false):=by unfold Hid;apply cache_pre;unfold cachePre;simp [q2]
   go_wp2_with fail
   go_ret
   exact bool_end HN uu2
 have q2b:decide ((x.1.2.1.length:Int)<4)=false:=by simpa using q2
 go_wp2_with fail
 refine (c_implTopOk _ x.2.1 _ ⟨_,rfl,mkTop (x:=x.2.1) b3 b4 b5 (b6.up good_Seat uu2)⟩).mono ?_
 rintro e w3 ⟨rfl,u3⟩
 have uu3:=uu2.trans u3
 have ka_3:=ka_2.up u3
 have za_3:=ka_3.lt
 clear ga2_0 ga2_1 ga2_2 ga2_3 ga2_4 ga2_5 ga2_6 ga2_7 ga2_8 ga2_9 ga2_10 ga2_11 ga2_12
 have ga3_0:w3.cell? ⟨w.heap.size,0,none⟩=some (.int .i64 x.1.1):=ka_3.cell 0
 have ga3_1:w3.cell? ⟨w.heap.size,1,none⟩=some (.slice A1 x.1.2.1.length c1):=ka_3.cell 1
 have ga3_2:w3.cell? ⟨w.heap.size,2,none⟩=some (.slice A2 x.1.2.2.length c2):=ka_3.cell 2
 have ga3_3:w3.cell? ⟨w.heap.size,3,none⟩=some (.int .i64 x.2.1.1):=ka_3.cell 3
 have ga3_4:w3.cell? ⟨w.heap.size,4,none⟩=some (.int .i64 x.2.1.2.1):=ka_3.cell 4
 have ga3_5:w3.cell? ⟨w.heap.size,5,none⟩=some (.int .i64 x.2.1.2.2.1):=ka_3.cell 5
 have ga3_6:w3.cell? ⟨w.heap.size,6,none⟩=some (.slice A6 x.2.1.2.2.2.length c6):=ka_3.cell 6
 have ga3_7:w3.cell? ⟨w.heap.size,7,none⟩=some (.int .i64 x.2.2.1.1):=ka_3.cell 7
 have ga3_8:w3.cell? ⟨w.heap.size,8,none⟩=some (.int .i64 x.2.2.1.2.1):=ka_3.cell 8
 have ga3_9:w3.cell? ⟨w.heap.size,9,none⟩=some (.int .i64 x.2.2.1.2.2.1):=ka_3.cell 9
 have ga3_10:w3.cell? ⟨w.heap.size,10,none⟩=some (.slice A10 x.2.2.1.2.2.2.length c10):=ka_3.cell 10
 have ga3_11:w3.cell? ⟨w.heap.size,11,none⟩=some (.slice A11 x.2.2.2.1.length c11):=ka_3.cell 11
 have ga3_12:w3.cell? ⟨w.heap.size,12,none⟩=some (.slice A12 x.2.2.2.2.length c12):=ka_3.cell 12
 cases q3:topOk x.2.1
 · have HN:Hid (cacheOk x=false):=by unfold Hid;apply cache_pre;unfold cachePre;simp [q3]
   go_wp2_with fail
   go_ret
   exact bool_end HN uu3
 go_wp2_with fail
 refine (c_implTopOk _ x.2.2.1 _ ⟨_,rfl,mkTop (x:=x.2.2.1) b7 b8 b9 (b10.up good_Seat uu3)⟩).mono ?_
 rintro e w4 ⟨rfl,u4⟩
 have uu4:=uu3.trans u4
 have ka_4:=ka_3.up u4
 have za_4:=ka_4.lt
 clear ga3_0 ga3_1 ga3_2 ga3_3 ga3_4 ga3_5 ga3_6 ga3_7 ga3_8 ga3_9 ga3_10 ga3_11 ga3_12
 have ga4_0:w4.cell? ⟨w.heap.size,0,none⟩=some (.int .i64 x.1.1):=ka_4.cell 0
 have ga4_1:w4.cell? ⟨w.heap.size,1,none⟩=some (.slice A1 x.1.2.1.length c1):=ka_4.cell 1
 have ga4_2:w4.cell? ⟨w.heap.size,2,none⟩=some (.slice A2 x.1.2.2.length c2):=ka_4.cell 2
 have ga4_3:w4.cell? ⟨w.heap.size,3,none⟩=some (.int .i64 x.2.1.1):=ka_4.cell 3
 have ga4_4:w4.cell? ⟨w.heap.size,4,none⟩=some (.int .i64 x.2.1.2.1):=ka_4.cell 4
 have ga4_5:w4.cell? ⟨w.heap.size,5,none⟩=some (.int .i64 x.2.1.2.2.1):=ka_4.cell 5
 have ga4_6:w4.cell? ⟨w.heap.size,6,none⟩=some (.slice A6 x.2.1.2.2.2.length c6):=ka_4.cell 6
 have ga4_7:w4.cell? ⟨w.heap.size,7,none⟩=some (.int .i64 x.2.2.1.1):=ka_4.cell 7
 have ga4_8:w4.cell? ⟨w.heap.size,8,none⟩=some (.int .i64 x.2.2.1.2.1):=ka_4.cell 8
 have ga4_9:w4.cell? ⟨w.heap.size,9,none⟩=some (.int .i64 x.2.2.1.2.2.1):=ka_4.cell 9
 have ga4_10:w4.cell? ⟨w.heap.size,10,none⟩=some (.slice A10 x.2.2.1.2.2.2.length c10):=ka_4.cell 10
 have ga4_11:w4.cell? ⟨w.heap.size,11,none⟩=some (.slice A11 x.2.2.2.1.length c11):=ka_4.cell 11
 have ga4_12:w4.cell? ⟨w.heap.size,12,none⟩=some (.slice A12 x.2.2.2.2.length c12):=ka_4.cell 12
 cases q4:topOk x.2.2.1
 · go_wp2_with fail
   refine (c_isZeroTop _ x.2.2.1 _ ⟨_,rfl,mkTop (x:=x.2.2.1) b7 b8 b9 (b10.up good_Seat uu4)⟩).mono ?_
   rintro e w5 ⟨rfl,u5⟩
   have uu5:=uu4.trans u5
   have ka_5:=ka_4.up u5
   have za_5:=ka_5.lt
   clear ga4_0 ga4_1 ga4_2 ga4_3 ga4_4 ga4_5 ga4_6 ga4_7 ga4_8 ga4_9 ga4_10 ga4_11 ga4_12
   have ga5_0:w5.cell? ⟨w.heap.size,0,none⟩=some (.int .i64 x.1.1):=ka_5.cell 0
   have ga5_1:w5.cell? ⟨w.heap.size,1,none⟩=some (.slice A1 x.1.2.1.length c1):=ka_5.cell 1
   have ga5_2:w5.cell? ⟨w.heap.size,2,none⟩=some (.slice A2 x.1.2.2.length c2):=ka_5.cell 2
   have ga5_3:w5.cell? ⟨w.heap.size,3,none⟩=some (.int .i64 x.2.1.1):=ka_5.cell 3
   have ga5_4:w5.cell? ⟨w.heap.size,4,none⟩=some (.int .i64 x.2.1.2.1):=ka_5.cell 4
   have ga5_5:w5.cell? ⟨w.heap.size,5,none⟩=some (.int .i64 x.2.1.2.2.1):=ka_5.cell 5
   have ga5_6:w5.cell? ⟨w.heap.size,6,none⟩=some (.slice A6 x.2.1.2.2.2.length c6):=ka_5.cell 6
   have ga5_7:w5.cell? ⟨w.heap.size,7,none⟩=some (.int .i64 x.2.2.1.1):=ka_5.cell 7
   have ga5_8:w5.cell? ⟨w.heap.size,8,none⟩=some (.int .i64 x.2.2.1.2.1):=ka_5.cell 8
   have ga5_9:w5.cell? ⟨w.heap.size,9,none⟩=some (.int .i64 x.2.2.1.2.2.1):=ka_5.cell 9
   have ga5_10:w5.cell? ⟨w.heap.size,10,none⟩=some (.slice A10 x.2.2.1.2.2.2.length c10):=ka_5.cell 10
   have ga5_11:w5.cell? ⟨w.heap.size,11,none⟩=some (.slice A11 x.2.2.2.1.length c11):=ka_5.cell 11
   have ga5_12:w5.cell? ⟨w.heap.size,12,none⟩=some (.slice A12 x.2.2.2.2.length c12):=ka_5.cell 12
   cases q5:zeroT x.2.2.1
   · have HN:Hid (cacheOk x=false):=by unfold Hid;apply cache_pre;unfold cachePre;simp [q4,q5]
     go_wp2_with fail
     go_ret
     exact bool_end HN uu5
   have HZ:Hid ((topOk x.2.2.1 || zeroT x.2.2.1)=true):=by unfold Hid;rw [q5];simp
   go_wp2_with fail
   refine (c_seatsOk _ _ _ _ (b11.up good_Seat uu5)).mono ?_
   rintro e w6 ⟨rfl,u6⟩
   have uu6:=uu5.trans u6
   have ka_6:=ka_5.up u6
   have za_6:=ka_6.lt
   clear ga5_0 ga5_1 ga5_2 ga5_3 ga5_4 ga5_5 ga5_6 ga5_7 ga5_8 ga5_9 ga5_10 ga5_11 ga5_12
   have ga6_0:w6.cell? ⟨w.heap.size,0,none⟩=some (.int .i64 x.1.1):=ka_6.cell 0
   have ga6_1:w6.cell? ⟨w.heap.size,1,none⟩=some (.slice A1 x.1.2.1.length c1):=ka_6.cell 1
   have ga6_2:w6.cell? ⟨w.heap.size,2,none⟩=some (.slice A2 x.1.2.2.length c2):=ka_6.cell 2
   have ga6_3:w6.cell? ⟨w.heap.size,3,none⟩=some (.int .i64 x.2.1.1):=ka_6.cell 3
   have ga6_4:w6.cell? ⟨w.heap.size,4,none⟩=some (.int .i64 x.2.1.2.1):=ka_6.cell 4
   have ga6_5:w6.cell? ⟨w.heap.size,5,none⟩=some (.int .i64 x.2.1.2.2.1):=ka_6.cell 5
   have ga6_6:w6.cell? ⟨w.heap.size,6,none⟩=some (.slice A6 x.2.1.2.2.2.length c6):=ka_6.cell 6
   have ga6_7:w6.cell? ⟨w.heap.size,7,none⟩=some (.int .i64 x.2.2.1.1):=ka_6.cell 7
   have ga6_8:w6.cell? ⟨w.heap.size,8,none⟩=some (.int .i64 x.2.2.1.2.1):=ka_6.cell 8
   have ga6_9:w6.cell? ⟨w.heap.size,9,none⟩=some (.int .i64 x.2.2.1.2.2.1):=ka_6.cell 9
   have ga6_10:w6.cell? ⟨w.heap.size,10,none⟩=some (.slice A10 x.2.2.1.2.2.2.length c10):=ka_6.cell 10
   have ga6_11:w6.cell? ⟨w.heap.size,11,none⟩=some (.slice A11 x.2.2.2.1.length c11):=ka_6.cell 11
   have ga6_12:w6.cell? ⟨w.heap.size,12,none⟩=some (.slice A12 x.2.2.2.2.length c12):=ka_6.cell 12
   cases q6:seatsOk x.2.2.2.1
   · have HN:Hid (cacheOk x=false):=by unfold Hid;apply cache_pre;unfold cachePre;simp [q6]
     go_wp2_with fail
     go_ret
     exact bool_end HN uu6
   have HP:Hid (cachePre x=true):=by unfold Hid cachePre;rw [q0,Q1.out,q2b,q3,HZ.out,q6];rfl
   go_wp2_with fail
   have ua7:Up w6 (w6.alloc (.cells #[.slice A6 x.2.1.2.2.2.length c6,.slice A10 x.2.2.1.2.2.2.length c10,.slice A11 x.2.2.2.1.length c11] 46)):=(Up.refl _).alloc _
   have uu7:=uu6.trans ua7
   have ka_7:=ka_6.up ua7
   have kb_7:Bk (w6.alloc (.cells #[.slice A6 x.2.1.2.2.2.length c6,.slice A10 x.2.2.1.2.2.2.length c10,.slice A11 x.2.2.2.1.length c11] 46)) (w6.heap.size) 46 #[.slice A6 x.2.1.2.2.2.length c6,.slice A10 x.2.2.1.2.2.2.length c10,.slice A11 x.2.2.2.1.length c11]:=by simpa using Bk.new w6 46 #[.slice A6 x.2.1.2.2.2.length c6,.slice A10 x.2.2.1.2.2.2.length c10,.slice A11 x.2.2.2.1.length c11]
   refine (c_Concat3Seat x.2.1.2.2.2 x.2.2.1.2.2.2 x.2.2.2.1 A6 A10 A11 c6 c10 c11 _ _ _ (b6.up good_Seat uu7) (b10.up good_Seat uu7) (b11.up good_Seat uu7) kb_7 ns6 ns10 ns11).mono ?_
   rintro e w8 ⟨D,d,bl,rfl,o1,nd1,u8⟩
   have uu8:=uu7.trans u8
   have ka_8:=ka_7.up u8
   have za_8:=ka_8.lt
   have kb_8:=kb_7.up u8
   have zb_8:=kb_8.lt
   clear ga6_0 ga6_1 ga6_2 ga6_3 ga6_4 ga6_5 ga6_6 ga6_7 ga6_8 ga6_9 ga6_10 ga6_11 ga6_12
   obtain ⟨L,hL⟩:∃L,L=x.2.1.2.2.2++x.2.2.1.2.2.2++x.2.2.2.1:=⟨_,rfl⟩
   rw [← hL] at o1
   rw [← hL]
   have HL:=Lib.hid hL
   clear hL
   have sL:=SR.of_own good_Seat o1
   have hlL:=sL.len_le
   clear o1 nd1
   go_wp2_with fail
   go_loopw [57] (fun i wr=>∃k:Nat,k≤L.length∧i=.int .i64 k∧Hid ((L.take k).any (badSlot x.1.2.1.length)=false)∧Up w8 wr∧Bk wr w.heap.size 50 #[.int .i64 x.1.1,.slice A1 x.1.2.1.length c1,.slice A2 x.1.2.2.length c2,.int .i64 x.2.1.1,.int .i64 x.2.1.2.1,.int .i64 x.2.1.2.2.1,.slice A6 x.2.1.2.2.2.length c6,.int .i64 x.2.2.1.1,.int .i64 x.2.2.1.2.1,.int .i64 x.2.2.1.2.2.1,.slice A10 x.2.2.1.2.2.2.length c10,.slice A11 x.2.2.2.1.length c11,.slice A12 x.2.2.2.2.length c12]) (fun i _=>L.length - (intOf i).toNat)
   case atStart=>exact ⟨0,Nat.zero_le _,rfl,rfl,Up.refl _,ka_8⟩
   case round =>
     obtain ⟨k,hk,rfl,HT,hu,kA⟩:=hrel
     have uw:=uu8.trans hu
     have zA:=kA.lt
     have ga40_0:wr.cell? ⟨w.heap.size,0,none⟩=some (.int .i64 x.1.1):=kA.cell 0
     have ga40_1:wr.cell? ⟨w.heap.size,1,none⟩=some (.slice A1 x.1.2.1.length c1):=kA.cell 1
     have ga40_2:wr.cell? ⟨w.heap.size,2,none⟩=some (.slice A2 x.1.2.2.length c2):=kA.cell 2
     have ga40_3:wr.cell? ⟨w.heap.size,3,none⟩=some (.int .i64 x.2.1.1):=kA.cell 3
     have ga40_4:wr.cell? ⟨w.heap.size,4,none⟩=some (.int .i64 x.2.1.2.1):=kA.cell 4
     have ga40_5:wr.cell? ⟨w.heap.size,5,none⟩=some (.int .i64 x.2.1.2.2.1):=kA.cell 5
     have ga40_6:wr.cell? ⟨w.heap.size,6,none⟩=some (.slice A6 x.2.1.2.2.2.length c6):=kA.cell 6
     have ga40_7:wr.cell? ⟨w.heap.size,7,none⟩=some (.int .i64 x.2.2.1.1):=kA.cell 7
     have ga40_8:wr.cell? ⟨w.heap.size,8,none⟩=some (.int .i64 x.2.2.1.2.1):=kA.cell 8
     have ga40_9:wr.cell? ⟨w.heap.size,9,none⟩=some (.int .i64 x.2.2.1.2.2.1):=kA.cell 9
     have ga40_10:wr.cell? ⟨w.heap.size,10,none⟩=some (.slice A10 x.2.2.1.2.2.2.length c10):=kA.cell 10
     have ga40_11:wr.cell? ⟨w.heap.size,11,none⟩=some (.slice A11 x.2.2.2.1.length c11):=kA.cell 11
     have ga40_12:wr.cell? ⟨w.heap.size,12,none⟩=some (.slice A12 x.2.2.2.2.length c12):=kA.cell 12
     by_cases hlt:k<L.length
     · obtain ⟨g,off,rfl,_,hgl,hc0,hc1,e0,e1,_⟩:=atSeat (sL.up good_Seat hu) hlt
       go_wp2_with fail
       have ua41:Up wr (wr.alloc (.cells #[.int .i64 L[k].1,.int .i64 L[k].2] 125)):=(Up.refl _).alloc _
       have uu41:=uw.trans ua41
       have ka_41:=kA.up ua41
       have ks_41:Bk (wr.alloc (.cells #[.int .i64 L[k].1,.int .i64 L[k].2] 125)) (wr.heap.size) 125 #[.int .i64 L[k].1,.int .i64 L[k].2]:=by simpa using Bk.new wr 125 #[.int .i64 L[k].1,.int .i64 L[k].2]
       refine (c_has _ x.1 _ _ ⟨_,rfl,mkDisk (x:=x.1) b0 (b1.up good_S uu41) (b2.up good_Put uu41)⟩).mono ?_
       rintro e w42 ⟨rfl,u42⟩
       have uu42:=uu41.trans u42
       have ka_42:=ka_41.up u42
       have za_42:=ka_42.lt
       have ks_42:=ks_41.up u42
       have zs_42:=ks_42.lt
       cases q:inB L[k].2 0 ((x.1.2.1.length:Int) - 1)
       · have HN:Hid (cacheOk x=false):=by unfold Hid cacheOk;rw [← HL.out,any_at (badSlot x.1.2.1.length) L k hlt (by simp [badSlot,q])];simp
         go_wp2_with fail
         go_ret
         exact bool_end HN uu42
       have HN:Hid ((L.take (k+1)).any (badSlot x.1.2.1.length)=false):=by unfold Hid;rw [any_take_succ _ L k hlt,HT.out];simp [badSlot,q]
       go_wp2_with fail
       go_roundw
       case rel=>exact ⟨k+1,by omega,by go_num,HN,(hu.trans ua41).trans u42,ka_42⟩
       case measure=>simp [intOf];omega
     · have H1:Hid ((x.2.1.2.2.2++x.2.2.1.2.2.2++x.2.2.2.1).any (badSlot x.1.2.1.length)=false):=by unfold Hid;rw [← HL.out];exact any_all _ L k HT.out (by omega)
       go_wp2_with fail
       have hf:∀(W:World) (v:Value) (s:TSeat),s∈x.2.2.2.1→Up wr W→AV shSeat W v s→Calls Tryz.prog 100 (#[v]++#[.pointer (some ⟨w.heap.size,0,none⟩)]) W (BoolP (hasS x.2.1.2.2.2 s.2) W):=fun W v s _ hW hav=>by
         rw [app_two]
         exact c_CacheOk1 _ v s x.2.1.2.2.2 A6 c6 W hav ((kA.up hW).cell 6) (b6.up good_Seat (uw.trans hW))
       refine (c_ContainsFuncSeat 100 _ eg_CacheOk1 (fun s=>hasS x.2.1.2.2.2 s.2) _ _ x.2.2.2.1 _ (b11.up good_Seat uw) hf).mono ?_
       rintro e w41 ⟨rfl,u41⟩
       have uu41:=uw.trans u41
       have ka_41:=kA.up u41
       have za_41:=ka_41.lt
       clear ga40_0 ga40_1 ga40_2 ga40_3 ga40_4 ga40_5 ga40_6 ga40_7 ga40_8 ga40_9 ga40_10 ga40_11 ga40_12
       have ga41_0:w41.cell? ⟨w.heap.size,0,none⟩=some (.int .i64 x.1.1):=ka_41.cell 0
       have ga41_1:w41.cell? ⟨w.heap.size,1,none⟩=some (.slice A1 x.1.2.1.length c1):=ka_41.cell 1
       have ga41_2:w41.cell? ⟨w.heap.size,2,none⟩=some (.slice A2 x.1.2.2.length c2):=ka_41.cell 2
       have ga41_3:w41.cell? ⟨w.heap.size,3,none⟩=some (.int .i64 x.2.1.1):=ka_41.cell 3
       have ga41_4:w41.cell? ⟨w.heap.size,4,none⟩=some (.int .i64 x.2.1.2.1):=ka_41.cell 4
       have ga41_5:w41.cell? ⟨w.heap.size,5,none⟩=some (.int .i64 x.2.1.2.2.1):=ka_41.cell 5
       have ga41_6:w41.cell? ⟨w.heap.size,6,none⟩=some (.slice A6 x.2.1.2.2.2.length c6):=ka_41.cell 6
       have ga41_7:w41.cell? ⟨w.heap.size,7,none⟩=some (.int .i64 x.2.2.1.1):=ka_41.cell 7
       have ga41_8:w41.cell? ⟨w.heap.size,8,none⟩=some (.int .i64 x.2.2.1.2.1):=ka_41.cell 8
       have ga41_9:w41.cell? ⟨w.heap.size,9,none⟩=some (.int .i64 x.2.2.1.2.2.1):=ka_41.cell 9
       have ga41_10:w41.cell? ⟨w.heap.size,10,none⟩=some (.slice A10 x.2.2.1.2.2.2.length c10):=ka_41.cell 10
       have ga41_11:w41.cell? ⟨w.heap.size,11,none⟩=some (.slice A11 x.2.2.2.1.length c11):=ka_41.cell 11
       have ga41_12:w41.cell? ⟨w.heap.size,12,none⟩=some (.slice A12 x.2.2.2.2.length c12):=ka_41.cell 12
       cases q8:x.2.2.2.1.any (fun s=>hasS x.2.1.2.2.2 s.2)
       rotate_left
       · have HN:Hid (cacheOk x=false):=by unfold Hid;unfold cacheOk;rw [q8];simp
         go_wp2_with fail
         go_ret
         exact bool_end HN uu41
       go_wp2_with fail
       refine (c_rising _ _ _ _ (b12.up good_I uu41)).mono ?_
       rintro e w42 ⟨rfl,u42⟩
       have uu42:=uu41.trans u42
       have ka_42:=ka_41.up u42
       have za_42:=ka_42.lt
       clear ga41_0 ga41_1 ga41_2 ga41_3 ga41_4 ga41_5 ga41_6 ga41_7 ga41_8 ga41_9 ga41_10 ga41_11 ga41_12
       have ga42_0:w42.cell? ⟨w.heap.size,0,none⟩=some (.int .i64 x.1.1):=ka_42.cell 0
       have ga42_1:w42.cell? ⟨w.heap.size,1,none⟩=some (.slice A1 x.1.2.1.length c1):=ka_42.cell 1
       have ga42_2:w42.cell? ⟨w.heap.size,2,none⟩=some (.slice A2 x.1.2.2.length c2):=ka_42.cell 2
       have ga42_3:w42.cell? ⟨w.heap.size,3,none⟩=some (.int .i64 x.2.1.1):=ka_42.cell 3
       have ga42_4:w42.cell? ⟨w.heap.size,4,none⟩=some (.int .i64 x.2.1.2.1):=ka_42.cell 4
       have ga42_5:w42.cell? ⟨w.heap.size,5,none⟩=some (.int .i64 x.2.1.2.2.1):=ka_42.cell 5
       have ga42_6:w42.cell? ⟨w.heap.size,6,none⟩=some (.slice A6 x.2.1.2.2.2.length c6):=ka_42.cell 6
       have ga42_7:w42.cell? ⟨w.heap.size,7,none⟩=some (.int .i64 x.2.2.1.1):=ka_42.cell 7
       have ga42_8:w42.cell? ⟨w.heap.size,8,none⟩=some (.int .i64 x.2.2.1.2.1):=ka_42.cell 8
       have ga42_9:w42.cell? ⟨w.heap.size,9,none⟩=some (.int .i64 x.2.2.1.2.2.1):=ka_42.cell 9
       have ga42_10:w42.cell? ⟨w.heap.size,10,none⟩=some (.slice A10 x.2.2.1.2.2.2.length c10):=ka_42.cell 10
       have ga42_11:w42.cell? ⟨w.heap.size,11,none⟩=some (.slice A11 x.2.2.2.1.length c11):=ka_42.cell 11
       have ga42_12:w42.cell? ⟨w.heap.size,12,none⟩=some (.slice A12 x.2.2.2.2.length c12):=ka_42.cell 12
       cases q9:risB x.2.2.2.2
       · have HN:Hid (cacheOk x=false):=by unfold Hid;unfold cacheOk;rw [q9];simp
         go_wp2_with fail
         go_ret
         exact bool_end HN uu42
       have HN:Hid (cacheOk x=allIn x.2.2.2.2 1 64):=by unfold Hid cacheOk;rw [HP.out,H1.out,q8,q9];simp
       go_wp2_with fail
       refine (c_allWithin _ _ _ _ _ _ (b12.up good_I uu42)).mono ?_
       rintro e w43 ⟨rfl,u43⟩
       have uu43:=uu42.trans u43
       have ka_43:=ka_42.up u43
       have za_43:=ka_43.lt
       clear ga42_0 ga42_1 ga42_2 ga42_3 ga42_4 ga42_5 ga42_6 ga42_7 ga42_8 ga42_9 ga42_10 ga42_11 ga42_12
       go_wp2_with fail
       go_ret
       exact bool_end HN uu43
 have HZ:Hid ((topOk x.2.2.1 || zeroT x.2.2.1)=true):=by unfold Hid;rw [q4];simp
 go_wp2_with fail
 refine (c_seatsOk _ _ _ _ (b11.up good_Seat uu4)).mono ?_
 rintro e w5 ⟨rfl,u5⟩
 have uu5:=uu4.trans u5
 have ka_5:=ka_4.up u5
 have za_5:=ka_5.lt
 clear ga4_0 ga4_1 ga4_2 ga4_3 ga4_4 ga4_5 ga4_6 ga4_7 ga4_8 ga4_9 ga4_10 ga4_11 ga4_12
 have ga5_0:w5.cell? ⟨w.heap.size,0,none⟩=some (.int .i64 x.1.1):=ka_5.cell 0
 have ga5_1:w5.cell? ⟨w.heap.size,1,none⟩=some (.slice A1 x.1.2.1.length c1):=ka_5.cell 1
 have ga5_2:w5.cell? ⟨w.heap.size,2,none⟩=some (.slice A2 x.1.2.2.length c2):=ka_5.cell 2
 have ga5_3:w5.cell? ⟨w.heap.size,3,none⟩=some (.int .i64 x.2.1.1):=ka_5.cell 3
 have ga5_4:w5.cell? ⟨w.heap.size,4,none⟩=some (.int .i64 x.2.1.2.1):=ka_5.cell 4
 have ga5_5:w5.cell? ⟨w.heap.size,5,none⟩=some (.int .i64 x.2.1.2.2.1):=ka_5.cell 5
 have ga5_6:w5.cell? ⟨w.heap.size,6,none⟩=some (.slice A6 x.2.1.2.2.2.length c6):=ka_5.cell 6
 have ga5_7:w5.cell? ⟨w.heap.size,7,none⟩=some (.int .i64 x.2.2.1.1):=ka_5.cell 7
 have ga5_8:w5.cell? ⟨w.heap.size,8,none⟩=some (.int .i64 x.2.2.1.2.1):=ka_5.cell 8
 have ga5_9:w5.cell? ⟨w.heap.size,9,none⟩=some (.int .i64 x.2.2.1.2.2.1):=ka_5.cell 9
 have ga5_10:w5.cell? ⟨w.heap.size,10,none⟩=some (.slice A10 x.2.2.1.2.2.2.length c10):=ka_5.cell 10
 have ga5_11:w5.cell? ⟨w.heap.size,11,none⟩=some (.slice A11 x.2.2.2.1.length c11):=ka_5.cell 11
 have ga5_12:w5.cell? ⟨w.heap.size,12,none⟩=some (.slice A12 x.2.2.2.2.length c12):=ka_5.cell 12
 cases q6:seatsOk x.2.2.2.1
 · have HN:Hid (cacheOk x=false):=by unfold Hid;apply cache_pre;unfold cachePre;simp [q6]
   go_wp2_with fail
   go_ret
   exact bool_end HN uu5
 have HP:Hid (cachePre x=true):=by unfold Hid cachePre;rw [q0,Q1.out,q2b,q3,HZ.out,q6];rfl
 go_wp2_with fail
 have ua6:Up w5 (w5.alloc (.cells #[.slice A6 x.2.1.2.2.2.length c6,.slice A10 x.2.2.1.2.2.2.length c10,.slice A11 x.2.2.2.1.length c11] 46)):=(Up.refl _).alloc _
 have uu6:=uu5.trans ua6
 have ka_6:=ka_5.up ua6
 have kb_6:Bk (w5.alloc (.cells #[.slice A6 x.2.1.2.2.2.length c6,.slice A10 x.2.2.1.2.2.2.length c10,.slice A11 x.2.2.2.1.length c11] 46)) (w5.heap.size) 46 #[.slice A6 x.2.1.2.2.2.length c6,.slice A10 x.2.2.1.2.2.2.length c10,.slice A11 x.2.2.2.1.length c11]:=by simpa using Bk.new w5 46 #[.slice A6 x.2.1.2.2.2.length c6,.slice A10 x.2.2.1.2.2.2.length c10,.slice A11 x.2.2.2.1.length c11]
 refine (c_Concat3Seat x.2.1.2.2.2 x.2.2.1.2.2.2 x.2.2.2.1 A6 A10 A11 c6 c10 c11 _ _ _ (b6.up good_Seat uu6) (b10.up good_Seat uu6) (b11.up good_Seat uu6) kb_6 ns6 ns10 ns11).mono ?_
 rintro e w7 ⟨D,d,bl,rfl,o1,nd1,u7⟩
 have uu7:=uu6.trans u7
 have ka_7:=ka_6.up u7
 have za_7:=ka_7.lt
 have kb_7:=kb_6.up u7
 have zb_7:=kb_7.lt
 clear ga5_0 ga5_1 ga5_2 ga5_3 ga5_4 ga5_5 ga5_6 ga5_7 ga5_8 ga5_9 ga5_10 ga5_11 ga5_12
 obtain ⟨L,hL⟩:∃L,L=x.2.1.2.2.2++x.2.2.1.2.2.2++x.2.2.2.1:=⟨_,rfl⟩
 rw [← hL] at o1
 rw [← hL]
 have HL:=Lib.hid hL
 clear hL
 have sL:=SR.of_own good_Seat o1
 have hlL:=sL.len_le
 clear o1 nd1
 go_wp2_with fail
 go_loopw [57] (fun i wr=>∃k:Nat,k≤L.length∧i=.int .i64 k∧Hid ((L.take k).any (badSlot x.1.2.1.length)=false)∧Up w7 wr∧Bk wr w.heap.size 50 #[.int .i64 x.1.1,.slice A1 x.1.2.1.length c1,.slice A2 x.1.2.2.length c2,.int .i64 x.2.1.1,.int .i64 x.2.1.2.1,.int .i64 x.2.1.2.2.1,.slice A6 x.2.1.2.2.2.length c6,.int .i64 x.2.2.1.1,.int .i64 x.2.2.1.2.1,.int .i64 x.2.2.1.2.2.1,.slice A10 x.2.2.1.2.2.2.length c10,.slice A11 x.2.2.2.1.length c11,.slice A12 x.2.2.2.2.length c12]) (fun i _=>L.length - (intOf i).toNat)
 case atStart=>exact ⟨0,Nat.zero_le _,rfl,rfl,Up.refl _,ka_7⟩
 case round =>
   obtain ⟨k,hk,rfl,HT,hu,kA⟩:=hrel
   have uw:=uu7.trans hu
   have zA:=kA.lt
   have ga40_0:wr.cell? ⟨w.heap.size,0,none⟩=some (.int .i64 x.1.1):=kA.cell 0
   have ga40_1:wr.cell? ⟨w.heap.size,1,none⟩=some (.slice A1 x.1.2.1.length c1):=kA.cell 1
   have ga40_2:wr.cell? ⟨w.heap.size,2,none⟩=some (.slice A2 x.1.2.2.length c2):=kA.cell 2
   have ga40_3:wr.cell? ⟨w.heap.size,3,none⟩=some (.int .i64 x.2.1.1):=kA.cell 3
   have ga40_4:wr.cell? ⟨w.heap.size,4,none⟩=some (.int .i64 x.2.1.2.1):=kA.cell 4
   have ga40_5:wr.cell? ⟨w.heap.size,5,none⟩=some (.int .i64 x.2.1.2.2.1):=kA.cell 5
   have ga40_6:wr.cell? ⟨w.heap.size,6,none⟩=some (.slice A6 x.2.1.2.2.2.length c6):=kA.cell 6
   have ga40_7:wr.cell? ⟨w.heap.size,7,none⟩=some (.int .i64 x.2.2.1.1):=kA.cell 7
   have ga40_8:wr.cell? ⟨w.heap.size,8,none⟩=some (.int .i64 x.2.2.1.2.1):=kA.cell 8
   have ga40_9:wr.cell? ⟨w.heap.size,9,none⟩=some (.int .i64 x.2.2.1.2.2.1):=kA.cell 9
   have ga40_10:wr.cell? ⟨w.heap.size,10,none⟩=some (.slice A10 x.2.2.1.2.2.2.length c10):=kA.cell 10
   have ga40_11:wr.cell? ⟨w.heap.size,11,none⟩=some (.slice A11 x.2.2.2.1.length c11):=kA.cell 11
   have ga40_12:wr.cell? ⟨w.heap.size,12,none⟩=some (.slice A12 x.2.2.2.2.length c12):=kA.cell 12
   by_cases hlt:k<L.length
   · obtain ⟨g,off,rfl,_,hgl,hc0,hc1,e0,e1,_⟩:=atSeat (sL.up good_Seat hu) hlt
     go_wp2_with fail
     have ua41:Up wr (wr.alloc (.cells #[.int .i64 L[k].1,.int .i64 L[k].2] 125)):=(Up.refl _).alloc _
     have uu41:=uw.trans ua41
     have ka_41:=kA.up ua41
     have ks_41:Bk (wr.alloc (.cells #[.int .i64 L[k].1,.int .i64 L[k].2] 125)) (wr.heap.size) 125 #[.int .i64 L[k].1,.int .i64 L[k].2]:=by simpa using Bk.new wr 125 #[.int .i64 L[k].1,.int .i64 L[k].2]
     refine (c_has _ x.1 _ _ ⟨_,rfl,mkDisk (x:=x.1) b0 (b1.up good_S uu41) (b2.up good_Put uu41)⟩).mono ?_
     rintro e w42 ⟨rfl,u42⟩
     have uu42:=uu41.trans u42
     have ka_42:=ka_41.up u42
     have za_42:=ka_42.lt
     have ks_42:=ks_41.up u42
     have zs_42:=ks_42.lt
     cases q:inB L[k].2 0 ((x.1.2.1.length:Int) - 1)
     · have HN:Hid (cacheOk x=false):=by unfold Hid cacheOk;rw [← HL.out,any_at (badSlot x.1.2.1.length) L k hlt (by simp [badSlot,q])];simp
       go_wp2_with fail
       go_ret
       exact bool_end HN uu42
     have HN:Hid ((L.take (k+1)).any (badSlot x.1.2.1.length)=false):=by unfold Hid;rw [any_take_succ _ L k hlt,HT.out];simp [badSlot,q]
     go_wp2_with fail
     go_roundw
     case rel=>exact ⟨k+1,by omega,by go_num,HN,(hu.trans ua41).trans u42,ka_42⟩
     case measure=>simp [intOf];omega
   · have H1:Hid ((x.2.1.2.2.2++x.2.2.1.2.2.2++x.2.2.2.1).any (badSlot x.1.2.1.length)=false):=by unfold Hid;rw [← HL.out];exact any_all _ L k HT.out (by omega)
     go_wp2_with fail
     have hf:∀(W:World) (v:Value) (s:TSeat),s∈x.2.2.2.1→Up wr W→AV shSeat W v s→Calls Tryz.prog 100 (#[v]++#[.pointer (some ⟨w.heap.size,0,none⟩)]) W (BoolP (hasS x.2.1.2.2.2 s.2) W):=fun W v s _ hW hav=>by
       rw [app_two]
       exact c_CacheOk1 _ v s x.2.1.2.2.2 A6 c6 W hav ((kA.up hW).cell 6) (b6.up good_Seat (uw.trans hW))
     refine (c_ContainsFuncSeat 100 _ eg_CacheOk1 (fun s=>hasS x.2.1.2.2.2 s.2) _ _ x.2.2.2.1 _ (b11.up good_Seat uw) hf).mono ?_
     rintro e w41 ⟨rfl,u41⟩
     have uu41:=uw.trans u41
     have ka_41:=kA.up u41
     have za_41:=ka_41.lt
     clear ga40_0 ga40_1 ga40_2 ga40_3 ga40_4 ga40_5 ga40_6 ga40_7 ga40_8 ga40_9 ga40_10 ga40_11 ga40_12
     have ga41_0:w41.cell? ⟨w.heap.size,0,none⟩=some (.int .i64 x.1.1):=ka_41.cell 0
     have ga41_1:w41.cell? ⟨w.heap.size,1,none⟩=some (.slice A1 x.1.2.1.length c1):=ka_41.cell 1
     have ga41_2:w41.cell? ⟨w.heap.size,2,none⟩=some (.slice A2 x.1.2.2.length c2):=ka_41.cell 2
     have ga41_3:w41.cell? ⟨w.heap.size,3,none⟩=some (.int .i64 x.2.1.1):=ka_41.cell 3
     have ga41_4:w41.cell? ⟨w.heap.size,4,none⟩=some (.int .i64 x.2.1.2.1):=ka_41.cell 4
     have ga41_5:w41.cell? ⟨w.heap.size,5,none⟩=some (.int .i64 x.2.1.2.2.1):=ka_41.cell 5
     have ga41_6:w41.cell? ⟨w.heap.size,6,none⟩=some (.slice A6 x.2.1.2.2.2.length c6):=ka_41.cell 6
     have ga41_7:w41.cell? ⟨w.heap.size,7,none⟩=some (.int .i64 x.2.2.1.1):=ka_41.cell 7
     have ga41_8:w41.cell? ⟨w.heap.size,8,none⟩=some (.int .i64 x.2.2.1.2.1):=ka_41.cell 8
     have ga41_9:w41.cell? ⟨w.heap.size,9,none⟩=some (.int .i64 x.2.2.1.2.2.1):=ka_41.cell 9
     have ga41_10:w41.cell? ⟨w.heap.size,10,none⟩=some (.slice A10 x.2.2.1.2.2.2.length c10):=ka_41.cell 10
     have ga41_11:w41.cell? ⟨w.heap.size,11,none⟩=some (.slice A11 x.2.2.2.1.length c11):=ka_41.cell 11
     have ga41_12:w41.cell? ⟨w.heap.size,12,none⟩=some (.slice A12 x.2.2.2.2.length c12):=ka_41.cell 12
     cases q8:x.2.2.2.1.any (fun s=>hasS x.2.1.2.2.2 s.2)
     rotate_left
     · have HN:Hid (cacheOk x=false):=by unfold Hid;unfold cacheOk;rw [q8];simp
       go_wp2_with fail
       go_ret
       exact bool_end HN uu41
     go_wp2_with fail
     refine (c_rising _ _ _ _ (b12.up good_I uu41)).mono ?_
     rintro e w42 ⟨rfl,u42⟩
     have uu42:=uu41.trans u42
     have ka_42:=ka_41.up u42
     have za_42:=ka_42.lt
     clear ga41_0 ga41_1 ga41_2 ga41_3 ga41_4 ga41_5 ga41_6 ga41_7 ga41_8 ga41_9 ga41_10 ga41_11 ga41_12
     have ga42_0:w42.cell? ⟨w.heap.size,0,none⟩=some (.int .i64 x.1.1):=ka_42.cell 0
     have ga42_1:w42.cell? ⟨w.heap.size,1,none⟩=some (.slice A1 x.1.2.1.length c1):=ka_42.cell 1
     have ga42_2:w42.cell? ⟨w.heap.size,2,none⟩=some (.slice A2 x.1.2.2.length c2):=ka_42.cell 2
     have ga42_3:w42.cell? ⟨w.heap.size,3,none⟩=some (.int .i64 x.2.1.1):=ka_42.cell 3
     have ga42_4:w42.cell? ⟨w.heap.size,4,none⟩=some (.int .i64 x.2.1.2.1):=ka_42.cell 4
     have ga42_5:w42.cell? ⟨w.heap.size,5,none⟩=some (.int .i64 x.2.1.2.2.1):=ka_42.cell 5
     have ga42_6:w42.cell? ⟨w.heap.size,6,none⟩=some (.slice A6 x.2.1.2.2.2.length c6):=ka_42.cell 6
     have ga42_7:w42.cell? ⟨w.heap.size,7,none⟩=some (.int .i64 x.2.2.1.1):=ka_42.cell 7
     have ga42_8:w42.cell? ⟨w.heap.size,8,none⟩=some (.int .i64 x.2.2.1.2.1):=ka_42.cell 8
     have ga42_9:w42.cell? ⟨w.heap.size,9,none⟩=some (.int .i64 x.2.2.1.2.2.1):=ka_42.cell 9
     have ga42_10:w42.cell? ⟨w.heap.size,10,none⟩=some (.slice A10 x.2.2.1.2.2.2.length c10):=ka_42.cell 10
     have ga42_11:w42.cell? ⟨w.heap.size,11,none⟩=some (.slice A11 x.2.2.2.1.length c11):=ka_42.cell 11
     have ga42_12:w42.cell? ⟨w.heap.size,12,none⟩=some (.slice A12 x.2.2.2.2.length c12):=ka_42.cell 12
     cases q9:risB x.2.2.2.2
     · have HN:Hid (cacheOk x=false):=by unfold Hid;unfold cacheOk;rw [q9];simp
       go_wp2_with fail
       go_ret
       exact bool_end HN uu42
     have HN:Hid (cacheOk x=allIn x.2.2.2.2 1 64):=by unfold Hid cacheOk;rw [HP.out,H1.out,q8,q9];simp
     go_wp2_with fail
     refine (c_allWithin _ _ _ _ _ _ (b12.up good_I uu42)).mono ?_
     rintro e w43 ⟨rfl,u43⟩
     have uu43:=uu42.trans u43
     have ka_43:=ka_42.up u43
     have za_43:=ka_43.lt
     clear ga42_0 ga42_1 ga42_2 ga42_3 ga42_4 ga42_5 ga42_6 ga42_7 ga42_8 ga42_9 ga42_10 ga42_11 ga42_12
     go_wp2_with fail
     go_ret
     exact bool_end HN uu43
theorem c_specCacheOk (v:Value) (x:TCache) (w:World) (h:AV shCache w v x) (hn:shCache.sz x≤1048576):Calls Tryz.prog 37 #[v] w (BoolP (cacheOk x) w):=by
 obtain ⟨cs,rfl,h⟩:=h
 obtain ⟨A1,c1,A2,c2,A6,c6,A10,c10,A11,c11,A12,c12,rfl,b0,b1,b2,b3,b4,b5,b6,b7,b8,b9,b10,b11,b12⟩:=openCache h
 clear h
 have hl1:=b1.len_le
 have hl11:=b11.len_le
 obtain ⟨hnd,ns6,ns10,ns11,ns12⟩:=cache_sz hn
 have ua1:Up w (w.alloc (.cells #[.int .i64 x.1.1,.slice A1 x.1.2.1.length c1,.slice A2 x.1.2.2.length c2,.int .i64 x.2.1.1,.int .i64 x.2.1.2.1,.int .i64 x.2.1.2.2.1,.slice A6 x.2.1.2.2.2.length c6,.int .i64 x.2.2.1.1,.int .i64 x.2.2.1.2.1,.int .i64 x.2.2.1.2.2.1,.slice A10 x.2.2.1.2.2.2.length c10,.slice A11 x.2.2.2.1.length c11,.slice A12 x.2.2.2.2.length c12] 50)):=(Up.refl _).alloc _
 have uu1:=(Up.refl w).trans ua1
 have ka_1:Bk (w.alloc (.cells #[.int .i64 x.1.1,.slice A1 x.1.2.1.length c1,.slice A2 x.1.2.2.length c2,.int .i64 x.2.1.1,.int .i64 x.2.1.2.1,.int .i64 x.2.1.2.2.1,.slice A6 x.2.1.2.2.2.length c6,.int .i64 x.2.2.1.1,.int .i64 x.2.2.1.2.1,.int .i64 x.2.2.1.2.2.1,.slice A10 x.2.2.1.2.2.2.length c10,.slice A11 x.2.2.2.1.length c11,.slice A12 x.2.2.2.2.length c12] 50)) (w.heap.size) 50 #[.int .i64 x.1.1,.slice A1 x.1.2.1.length c1,.slice A2 x.1.2.2.length c2,.int .i64 x.2.1.1,.int .i64 x.2.1.2.1,.int .i64 x.2.1.2.2.1,.slice A6 x.2.1.2.2.2.length c6,.int .i64 x.2.2.1.1,.int .i64 x.2.2.1.2.1,.int .i64 x.2.2.1.2.2.1,.slice A10 x.2.2.1.2.2.2.length c10,.slice A11 x.2.2.2.1.length c11,.slice A12 x.2.2.2.2.length c12]:=by simpa using Bk.new w 50 #[.int .i64 x.1.1,.slice A1 x.1.2.1.length c1,.slice A2 x.1.2.2.length c2,.int .i64 x.2.1.1,.int .i64 x.2.1.2.1,.int .i64 x.2.1.2.2.1,.slice A6 x.2.1.2.2.2.length c6,.int .i64 x.2.2.1.1,.int .i64 x.2.2.1.2.1,.int .i64 x.2.2.1.2.2.1,.slice A10 x.2.2.1.2.2.2.length c10,.slice A11 x.2.2.2.1.length c11,.slice A12 x.2.2.2.2.length c12]
 go_enter Tryz.func37,Tryz.ntmps37
 go_wp2_with fail
 refine (c_specDiskOk _ x.1 _ ⟨_,rfl,mkDisk (x:=x.1) b0 (b1.up good_S uu1) (b2.up good_Put uu1)⟩).mono ?_
 rintro e w2 ⟨rfl,u2⟩
 have uu2:=uu1.trans u2
 have ka_2:=ka_1.up u2
 have za_2:=ka_2.lt
 have ga2_0:w2.cell? ⟨w.heap.size,0,none⟩=some (.int .i64 x.1.1):=ka_2.cell 0
 have ga2_1:w2.cell? ⟨w.heap.size,1,none⟩=some (.slice A1 x.1.2.1.length c1):=ka_2.cell 1
 have ga2_2:w2.cell? ⟨w.heap.size,2,none⟩=some (.slice A2 x.1.2.2.length c2):=ka_2.cell 2
 have ga2_3:w2.cell? ⟨w.heap.size,3,none⟩=some (.int .i64 x.2.1.1):=ka_2.cell 3
 have ga2_4:w2.cell? ⟨w.heap.size,4,none⟩=some (.int .i64 x.2.1.2.1):=ka_2.cell 4
 have ga2_5:w2.cell? ⟨w.heap.size,5,none⟩=some (.int .i64 x.2.1.2.2.1):=ka_2.cell 5
 have ga2_6:w2.cell? ⟨w.heap.size,6,none⟩=some (.slice A6 x.2.1.2.2.2.length c6):=ka_2.cell 6
 have ga2_7:w2.cell? ⟨w.heap.size,7,none⟩=some (.int .i64 x.2.2.1.1):=ka_2.cell 7
 have ga2_8:w2.cell? ⟨w.heap.size,8,none⟩=some (.int .i64 x.2.2.1.2.1):=ka_2.cell 8
 have ga2_9:w2.cell? ⟨w.heap.size,9,none⟩=some (.int .i64 x.2.2.1.2.2.1):=ka_2.cell 9
 have ga2_10:w2.cell? ⟨w.heap.size,10,none⟩=some (.slice A10 x.2.2.1.2.2.2.length c10):=ka_2.cell 10
 have ga2_11:w2.cell? ⟨w.heap.size,11,none⟩=some (.slice A11 x.2.2.2.1.length c11):=ka_2.cell 11
 have ga2_12:w2.cell? ⟨w.heap.size,12,none⟩=some (.slice A12 x.2.2.2.2.length c12):=ka_2.cell 12
 cases q0:diskOk x.1
 · have HN:Hid (cacheOk x=false):=by unfold Hid;apply cache_pre;unfold cachePre;simp [q0]
   go_wp2_with fail
   go_ret
   exact bool_end HN uu2
 by_cases q1:¬ x.1.1=1700
 · have q1b:(x.1.1 != 1700)=true:=by simpa using q1
   have HN:Hid (cacheOk x=false):=by unfold Hid;apply cache_pre;unfold cachePre;simp [q1]
   clear q1
   go_wp2_with fail
   go_ret
   exact bool_end HN uu2
 have Q1:Hid (x.1.1=1700):=Classical.not_not.1 q1
 clear q1
 have q1b:(x.1.1 != 1700)=false:=by rw [Q1.out];rfl
 by_cases q2:(x.1.2.1.length:Int)<4
 · have HN:Hid (cacheOk x=false):=by unfold Hid;apply cache_pre;unfold cachePre;simp [q2]
   go_wp2_with fail
   go_ret
   exact bool_end HN uu2
 have q2b:decide ((x.1.2.1.length:Int)<4)=false:=by simpa using q2
 go_wp2_with fail
 refine (c_specTopOk _ x.2.1 _ ⟨_,rfl,mkTop (x:=x.2.1) b3 b4 b5 (b6.up good_Seat uu2)⟩).mono ?_
 rintro e w3 ⟨rfl,u3⟩
 have uu3:=uu2.trans u3
 have ka_3:=ka_2.up u3
 have za_3:=ka_3.lt
 clear ga2_0 ga2_1 ga2_2 ga2_3 ga2_4 ga2_5 ga2_6 ga2_7 ga2_8 ga2_9 ga2_10 ga2_11 ga2_12
 have ga3_0:w3.cell? ⟨w.heap.size,0,none⟩=some (.int .i64 x.1.1):=ka_3.cell 0
 have ga3_1:w3.cell? ⟨w.heap.size,1,none⟩=some (.slice A1 x.1.2.1.length c1):=ka_3.cell 1
 have ga3_2:w3.cell? ⟨w.heap.size,2,none⟩=some (.slice A2 x.1.2.2.length c2):=ka_3.cell 2
 have ga3_3:w3.cell? ⟨w.heap.size,3,none⟩=some (.int .i64 x.2.1.1):=ka_3.cell 3
 have ga3_4:w3.cell? ⟨w.heap.size,4,none⟩=some (.int .i64 x.2.1.2.1):=ka_3.cell 4
 have ga3_5:w3.cell? ⟨w.heap.size,5,none⟩=some (.int .i64 x.2.1.2.2.1):=ka_3.cell 5
 have ga3_6:w3.cell? ⟨w.heap.size,6,none⟩=some (.slice A6 x.2.1.2.2.2.length c6):=ka_3.cell 6
 have ga3_7:w3.cell? ⟨w.heap.size,7,none⟩=some (.int .i64 x.2.2.1.1):=ka_3.cell 7
 have ga3_8:w3.cell? ⟨w.heap.size,8,none⟩=some (.int .i64 x.2.2.1.2.1):=ka_3.cell 8
 have ga3_9:w3.cell? ⟨w.heap.size,9,none⟩=some (.int .i64 x.2.2.1.2.2.1):=ka_3.cell 9
 have ga3_10:w3.cell? ⟨w.heap.size,10,none⟩=some (.slice A10 x.2.2.1.2.2.2.length c10):=ka_3.cell 10
 have ga3_11:w3.cell? ⟨w.heap.size,11,none⟩=some (.slice A11 x.2.2.2.1.length c11):=ka_3.cell 11
 have ga3_12:w3.cell? ⟨w.heap.size,12,none⟩=some (.slice A12 x.2.2.2.2.length c12):=ka_3.cell 12
 cases q3:topOk x.2.1
 · have HN:Hid (cacheOk x=false):=by unfold Hid;apply cache_pre;unfold cachePre;simp [q3]
   go_wp2_with fail
   go_ret
   exact bool_end HN uu3
 go_wp2_with fail
 refine (c_l18Zero _ x.2.2.1 _ ⟨_,rfl,mkTop (x:=x.2.2.1) b7 b8 b9 (b10.up good_Seat uu3)⟩).mono ?_
 rintro e w4 ⟨rfl,u4⟩
 have uu4:=uu3.trans u4
 have ka_4:=ka_3.up u4
 have za_4:=ka_4.lt
 clear ga3_0 ga3_1 ga3_2 ga3_3 ga3_4 ga3_5 ga3_6 ga3_7 ga3_8 ga3_9 ga3_10 ga3_11 ga3_12
 have ga4_0:w4.cell? ⟨w.heap.size,0,none⟩=some (.int .i64 x.1.1):=ka_4.cell 0
 have ga4_1:w4.cell? ⟨w.heap.size,1,none⟩=some (.slice A1 x.1.2.1.length c1):=ka_4.cell 1
 have ga4_2:w4.cell? ⟨w.heap.size,2,none⟩=some (.slice A2 x.1.2.2.length c2):=ka_4.cell 2
 have ga4_3:w4.cell? ⟨w.heap.size,3,none⟩=some (.int .i64 x.2.1.1):=ka_4.cell 3
 have ga4_4:w4.cell? ⟨w.heap.size,4,none⟩=some (.int .i64 x.2.1.2.1):=ka_4.cell 4
 have ga4_5:w4.cell? ⟨w.heap.size,5,none⟩=some (.int .i64 x.2.1.2.2.1):=ka_4.cell 5
 have ga4_6:w4.cell? ⟨w.heap.size,6,none⟩=some (.slice A6 x.2.1.2.2.2.length c6):=ka_4.cell 6
 have ga4_7:w4.cell? ⟨w.heap.size,7,none⟩=some (.int .i64 x.2.2.1.1):=ka_4.cell 7
 have ga4_8:w4.cell? ⟨w.heap.size,8,none⟩=some (.int .i64 x.2.2.1.2.1):=ka_4.cell 8
 have ga4_9:w4.cell? ⟨w.heap.size,9,none⟩=some (.int .i64 x.2.2.1.2.2.1):=ka_4.cell 9
 have ga4_10:w4.cell? ⟨w.heap.size,10,none⟩=some (.slice A10 x.2.2.1.2.2.2.length c10):=ka_4.cell 10
 have ga4_11:w4.cell? ⟨w.heap.size,11,none⟩=some (.slice A11 x.2.2.2.1.length c11):=ka_4.cell 11
 have ga4_12:w4.cell? ⟨w.heap.size,12,none⟩=some (.slice A12 x.2.2.2.2.length c12):=ka_4.cell 12
 cases q5:zeroT x.2.2.1
 · go_wp2_with fail
   refine (c_specTopOk _ x.2.2.1 _ ⟨_,rfl,mkTop (x:=x.2.2.1) b7 b8 b9 (b10.up good_Seat uu4)⟩).mono ?_
   rintro e w5 ⟨rfl,u5⟩
   have uu5:=uu4.trans u5
   have ka_5:=ka_4.up u5
   have za_5:=ka_5.lt
   clear ga4_0 ga4_1 ga4_2 ga4_3 ga4_4 ga4_5 ga4_6 ga4_7 ga4_8 ga4_9 ga4_10 ga4_11 ga4_12
   have ga5_0:w5.cell? ⟨w.heap.size,0,none⟩=some (.int .i64 x.1.1):=ka_5.cell 0
   have ga5_1:w5.cell? ⟨w.heap.size,1,none⟩=some (.slice A1 x.1.2.1.length c1):=ka_5.cell 1
   have ga5_2:w5.cell? ⟨w.heap.size,2,none⟩=some (.slice A2 x.1.2.2.length c2):=ka_5.cell 2
   have ga5_3:w5.cell? ⟨w.heap.size,3,none⟩=some (.int .i64 x.2.1.1):=ka_5.cell 3
   have ga5_4:w5.cell? ⟨w.heap.size,4,none⟩=some (.int .i64 x.2.1.2.1):=ka_5.cell 4
   have ga5_5:w5.cell? ⟨w.heap.size,5,none⟩=some (.int .i64 x.2.1.2.2.1):=ka_5.cell 5
   have ga5_6:w5.cell? ⟨w.heap.size,6,none⟩=some (.slice A6 x.2.1.2.2.2.length c6):=ka_5.cell 6
   have ga5_7:w5.cell? ⟨w.heap.size,7,none⟩=some (.int .i64 x.2.2.1.1):=ka_5.cell 7
   have ga5_8:w5.cell? ⟨w.heap.size,8,none⟩=some (.int .i64 x.2.2.1.2.1):=ka_5.cell 8
   have ga5_9:w5.cell? ⟨w.heap.size,9,none⟩=some (.int .i64 x.2.2.1.2.2.1):=ka_5.cell 9
   have ga5_10:w5.cell? ⟨w.heap.size,10,none⟩=some (.slice A10 x.2.2.1.2.2.2.length c10):=ka_5.cell 10
   have ga5_11:w5.cell? ⟨w.heap.size,11,none⟩=some (.slice A11 x.2.2.2.1.length c11):=ka_5.cell 11
   have ga5_12:w5.cell? ⟨w.heap.size,12,none⟩=some (.slice A12 x.2.2.2.2.length c12):=ka_5.cell 12
   cases q4:topOk x.2.2.1
   · have HN:Hid (cacheOk x=false):=by unfold Hid;apply cache_pre;unfold cachePre;simp [q4,q5]
     go_wp2_with fail
     go_ret
     exact bool_end HN uu5
   have HZ:Hid ((topOk x.2.2.1 || zeroT x.2.2.1)=true):=by unfold Hid;rw [q4];simp
   have HC:Hid (∀s∈x.2.2.1.2.2.2,2≤s.2):=seats_pos (top_seats q4)
   go_wp2_with fail
   refine (c_l18Seats _ _ _ _ (b11.up good_Seat uu5)).mono ?_
   rintro e w6 ⟨rfl,u6⟩
   have uu6:=uu5.trans u6
   have ka_6:=ka_5.up u6
   have za_6:=ka_6.lt
   clear ga5_0 ga5_1 ga5_2 ga5_3 ga5_4 ga5_5 ga5_6 ga5_7 ga5_8 ga5_9 ga5_10 ga5_11 ga5_12
   have ga6_0:w6.cell? ⟨w.heap.size,0,none⟩=some (.int .i64 x.1.1):=ka_6.cell 0
   have ga6_1:w6.cell? ⟨w.heap.size,1,none⟩=some (.slice A1 x.1.2.1.length c1):=ka_6.cell 1
   have ga6_2:w6.cell? ⟨w.heap.size,2,none⟩=some (.slice A2 x.1.2.2.length c2):=ka_6.cell 2
   have ga6_3:w6.cell? ⟨w.heap.size,3,none⟩=some (.int .i64 x.2.1.1):=ka_6.cell 3
   have ga6_4:w6.cell? ⟨w.heap.size,4,none⟩=some (.int .i64 x.2.1.2.1):=ka_6.cell 4
   have ga6_5:w6.cell? ⟨w.heap.size,5,none⟩=some (.int .i64 x.2.1.2.2.1):=ka_6.cell 5
   have ga6_6:w6.cell? ⟨w.heap.size,6,none⟩=some (.slice A6 x.2.1.2.2.2.length c6):=ka_6.cell 6
   have ga6_7:w6.cell? ⟨w.heap.size,7,none⟩=some (.int .i64 x.2.2.1.1):=ka_6.cell 7
   have ga6_8:w6.cell? ⟨w.heap.size,8,none⟩=some (.int .i64 x.2.2.1.2.1):=ka_6.cell 8
   have ga6_9:w6.cell? ⟨w.heap.size,9,none⟩=some (.int .i64 x.2.2.1.2.2.1):=ka_6.cell 9
   have ga6_10:w6.cell? ⟨w.heap.size,10,none⟩=some (.slice A10 x.2.2.1.2.2.2.length c10):=ka_6.cell 10
   have ga6_11:w6.cell? ⟨w.heap.size,11,none⟩=some (.slice A11 x.2.2.2.1.length c11):=ka_6.cell 11
   have ga6_12:w6.cell? ⟨w.heap.size,12,none⟩=some (.slice A12 x.2.2.2.2.length c12):=ka_6.cell 12
   cases q6:seatsOk x.2.2.2.1
   · have HN:Hid (cacheOk x=false):=by unfold Hid;apply cache_pre;unfold cachePre;simp [q6]
     go_wp2_with fail
     go_ret
     exact bool_end HN uu6
   have HP:Hid (cachePre x=true):=by unfold Hid cachePre;rw [q0,Q1.out,q2b,q3,HZ.out,q6];rfl
   have HB:Hid ((belowS x.2.1.2.2.2 x.1.2.1.length && belowS x.2.2.1.2.2.2 x.1.2.1.length && belowS x.2.2.2.1 x.1.2.1.length)=!(x.2.1.2.2.2++x.2.2.1.2.2.2++x.2.2.2.1).any (badSlot x.1.2.1.length)):=by
     unfold Hid
     rw [below_bad (seats_pos (top_seats q3)),below_bad (seats_pos q6),below_bad HC.out,List.any_append,List.any_append]
     cases List.any x.2.1.2.2.2 (badSlot x.1.2.1.length) <;> cases List.any x.2.2.1.2.2.2 (badSlot x.1.2.1.length) <;> cases List.any x.2.2.2.1 (badSlot x.1.2.1.length) <;> rfl
   go_wp2_with fail
   refine (c_l00Rises _ _ _ _ _ _ (b12.up good_I uu6)).mono ?_
   rintro e w7 ⟨rfl,u7⟩
   have uu7:=uu6.trans u7
   have ka_7:=ka_6.up u7
   have za_7:=ka_7.lt
   clear ga6_0 ga6_1 ga6_2 ga6_3 ga6_4 ga6_5 ga6_6 ga6_7 ga6_8 ga6_9 ga6_10 ga6_11 ga6_12
   have ga7_0:w7.cell? ⟨w.heap.size,0,none⟩=some (.int .i64 x.1.1):=ka_7.cell 0
   have ga7_1:w7.cell? ⟨w.heap.size,1,none⟩=some (.slice A1 x.1.2.1.length c1):=ka_7.cell 1
   have ga7_2:w7.cell? ⟨w.heap.size,2,none⟩=some (.slice A2 x.1.2.2.length c2):=ka_7.cell 2
   have ga7_3:w7.cell? ⟨w.heap.size,3,none⟩=some (.int .i64 x.2.1.1):=ka_7.cell 3
   have ga7_4:w7.cell? ⟨w.heap.size,4,none⟩=some (.int .i64 x.2.1.2.1):=ka_7.cell 4
   have ga7_5:w7.cell? ⟨w.heap.size,5,none⟩=some (.int .i64 x.2.1.2.2.1):=ka_7.cell 5
   have ga7_6:w7.cell? ⟨w.heap.size,6,none⟩=some (.slice A6 x.2.1.2.2.2.length c6):=ka_7.cell 6
   have ga7_7:w7.cell? ⟨w.heap.size,7,none⟩=some (.int .i64 x.2.2.1.1):=ka_7.cell 7
   have ga7_8:w7.cell? ⟨w.heap.size,8,none⟩=some (.int .i64 x.2.2.1.2.1):=ka_7.cell 8
   have ga7_9:w7.cell? ⟨w.heap.size,9,none⟩=some (.int .i64 x.2.2.1.2.2.1):=ka_7.cell 9
   have ga7_10:w7.cell? ⟨w.heap.size,10,none⟩=some (.slice A10 x.2.2.1.2.2.2.length c10):=ka_7.cell 10
   have ga7_11:w7.cell? ⟨w.heap.size,11,none⟩=some (.slice A11 x.2.2.2.1.length c11):=ka_7.cell 11
   have ga7_12:w7.cell? ⟨w.heap.size,12,none⟩=some (.slice A12 x.2.2.2.2.length c12):=ka_7.cell 12
   cases q9:(risB x.2.2.2.2 && allIn x.2.2.2.2 1 64)
   · have HN:Hid (cacheOk x=false):=by unfold Hid;unfold cacheOk;rw [q9];simp
     go_wp2_with fail
     go_ret
     exact bool_end HN uu7
   go_wp2_with fail
   clear ga7_0 ga7_1 ga7_2 ga7_3 ga7_4 ga7_5 ga7_6 ga7_7 ga7_8 ga7_9 ga7_10 ga7_11 ga7_12
   go_loopw [4] (fun i wr=>∃k:Nat,k≤x.2.2.2.1.length∧i=.int .i64 k∧Hid ((x.2.2.2.1.take k).any (fun s=>hasS x.2.1.2.2.2 s.2)=false)∧Up w wr∧Bk wr w.heap.size 50 #[.int .i64 x.1.1,.slice A1 x.1.2.1.length c1,.slice A2 x.1.2.2.length c2,.int .i64 x.2.1.1,.int .i64 x.2.1.2.1,.int .i64 x.2.1.2.2.1,.slice A6 x.2.1.2.2.2.length c6,.int .i64 x.2.2.1.1,.int .i64 x.2.2.1.2.1,.int .i64 x.2.2.1.2.2.1,.slice A10 x.2.2.1.2.2.2.length c10,.slice A11 x.2.2.2.1.length c11,.slice A12 x.2.2.2.2.length c12]) (fun i _=>x.2.2.2.1.length - (intOf i).toNat)
   case atStart=>exact ⟨0,Nat.zero_le _,rfl,rfl,uu7,ka_7⟩
   case round =>
     obtain ⟨k,hk,rfl,HT,hu,kA⟩:=hrel
     have zA:=kA.lt
     have ga40_0:wr.cell? ⟨w.heap.size,0,none⟩=some (.int .i64 x.1.1):=kA.cell 0
     have ga40_1:wr.cell? ⟨w.heap.size,1,none⟩=some (.slice A1 x.1.2.1.length c1):=kA.cell 1
     have ga40_2:wr.cell? ⟨w.heap.size,2,none⟩=some (.slice A2 x.1.2.2.length c2):=kA.cell 2
     have ga40_3:wr.cell? ⟨w.heap.size,3,none⟩=some (.int .i64 x.2.1.1):=kA.cell 3
     have ga40_4:wr.cell? ⟨w.heap.size,4,none⟩=some (.int .i64 x.2.1.2.1):=kA.cell 4
     have ga40_5:wr.cell? ⟨w.heap.size,5,none⟩=some (.int .i64 x.2.1.2.2.1):=kA.cell 5
     have ga40_6:wr.cell? ⟨w.heap.size,6,none⟩=some (.slice A6 x.2.1.2.2.2.length c6):=kA.cell 6
     have ga40_7:wr.cell? ⟨w.heap.size,7,none⟩=some (.int .i64 x.2.2.1.1):=kA.cell 7
     have ga40_8:wr.cell? ⟨w.heap.size,8,none⟩=some (.int .i64 x.2.2.1.2.1):=kA.cell 8
     have ga40_9:wr.cell? ⟨w.heap.size,9,none⟩=some (.int .i64 x.2.2.1.2.2.1):=kA.cell 9
     have ga40_10:wr.cell? ⟨w.heap.size,10,none⟩=some (.slice A10 x.2.2.1.2.2.2.length c10):=kA.cell 10
     have ga40_11:wr.cell? ⟨w.heap.size,11,none⟩=some (.slice A11 x.2.2.2.1.length c11):=kA.cell 11
     have ga40_12:wr.cell? ⟨w.heap.size,12,none⟩=some (.slice A12 x.2.2.2.2.length c12):=kA.cell 12
     by_cases hlt:k<x.2.2.2.1.length
     · have bk:=b11.up good_Seat hu
       obtain ⟨g,off,rfl,_,hgl,hc0,hc1,e0,e1,_⟩:=atSeat bk hlt
       have t6:=fun t:UpT wr=>cell_up t (kA.cell 6:wr.cell? ⟨w.heap.size,6,none⟩=some (.slice A6 x.2.1.2.2.2.length c6))
       have t11:=fun t:UpT wr=>cell_up t (kA.cell 11:wr.cell? ⟨w.heap.size,11,none⟩=some (.slice (some ⟨g,off,none⟩) x.2.2.2.1.length c11))
       have tc:=fun t:UpT wr=>cell_up t hc1
       cases q:hasS x.2.1.2.2.2 x.2.2.2.1[k].2
       · have HN:Hid ((x.2.2.2.1.take (k+1)).any (fun s=>hasS x.2.1.2.2.2 s.2)=false):=by unfold Hid;rw [any_take_succ _ _ k hlt,HT.out,q];rfl
         go_wp2_with fail
         refine wp_region_up (by kernel_rfl) (by kernel_rfl) ?_
         repeat (go_big_quiet_step ((go_at_call 81;exact up_bool (c_l18Uses x.2.1.2.2.2 A6 c6 _ _ (b6.up good_Seat (hu.trans (UpT.up _)))) q (UpT.up _))))
         refine wpQuiet_nil ?_
         rintro _ ⟨⟨w1,u1⟩,rfl⟩
         go_wp2_with fail
         go_roundw
         case rel=>exact ⟨k+1,by omega,by go_num,HN,hu.trans u1,kA.up u1⟩
         case measure=>simp [intOf];omega
       have HN:Hid (cacheOk x=false):=by unfold Hid cacheOk;rw [any_at (fun s:TSeat=>hasS x.2.1.2.2.2 s.2) x.2.2.2.1 k hlt q];simp
       go_wp2_with fail
       refine wp_region_up (by kernel_rfl) (by kernel_rfl) ?_
       repeat (go_big_quiet_step ((go_at_call 81;exact up_bool (c_l18Uses x.2.1.2.2.2 A6 c6 _ _ (b6.up good_Seat (hu.trans (UpT.up _)))) q (UpT.up _))))
       refine wpQuiet_nil ?_
       rintro _ ⟨⟨w1,u1⟩,rfl⟩
       go_wp2_with fail
       go_ret
       exact bool_end HN (hu.trans u1)
     · have H8:Hid (x.2.2.2.1.any (fun s=>hasS x.2.1.2.2.2 s.2)=false):=any_all _ _ k HT.out (by omega)
       have HN:Hid (cacheOk x=(belowS x.2.1.2.2.2 x.1.2.1.length && belowS x.2.2.1.2.2.2 x.1.2.1.length && belowS x.2.2.2.1 x.1.2.1.length)):=by unfold Hid cacheOk;rw [HB.out,HP.out,H8.out,q9];simp
       go_wp2_with fail
       refine (c_l18Below _ _ _ _ _ (b6.up good_Seat hu)).mono ?_
       rintro e w41 ⟨rfl,u41⟩
       have uu41:=hu.trans u41
       have ka_41:=kA.up u41
       have za_41:=ka_41.lt
       clear ga40_0 ga40_1 ga40_2 ga40_3 ga40_4 ga40_5 ga40_6 ga40_7 ga40_8 ga40_9 ga40_10 ga40_11 ga40_12
       have ga41_0:w41.cell? ⟨w.heap.size,0,none⟩=some (.int .i64 x.1.1):=ka_41.cell 0
       have ga41_1:w41.cell? ⟨w.heap.size,1,none⟩=some (.slice A1 x.1.2.1.length c1):=ka_41.cell 1
       have ga41_2:w41.cell? ⟨w.heap.size,2,none⟩=some (.slice A2 x.1.2.2.length c2):=ka_41.cell 2
       have ga41_3:w41.cell? ⟨w.heap.size,3,none⟩=some (.int .i64 x.2.1.1):=ka_41.cell 3
       have ga41_4:w41.cell? ⟨w.heap.size,4,none⟩=some (.int .i64 x.2.1.2.1):=ka_41.cell 4
       have ga41_5:w41.cell? ⟨w.heap.size,5,none⟩=some (.int .i64 x.2.1.2.2.1):=ka_41.cell 5
       have ga41_6:w41.cell? ⟨w.heap.size,6,none⟩=some (.slice A6 x.2.1.2.2.2.length c6):=ka_41.cell 6
       have ga41_7:w41.cell? ⟨w.heap.size,7,none⟩=some (.int .i64 x.2.2.1.1):=ka_41.cell 7
       have ga41_8:w41.cell? ⟨w.heap.size,8,none⟩=some (.int .i64 x.2.2.1.2.1):=ka_41.cell 8
       have ga41_9:w41.cell? ⟨w.heap.size,9,none⟩=some (.int .i64 x.2.2.1.2.2.1):=ka_41.cell 9
       have ga41_10:w41.cell? ⟨w.heap.size,10,none⟩=some (.slice A10 x.2.2.1.2.2.2.length c10):=ka_41.cell 10
       have ga41_11:w41.cell? ⟨w.heap.size,11,none⟩=some (.slice A11 x.2.2.2.1.length c11):=ka_41.cell 11
       have ga41_12:w41.cell? ⟨w.heap.size,12,none⟩=some (.slice A12 x.2.2.2.2.length c12):=ka_41.cell 12
       cases p1:belowS x.2.1.2.2.2 x.1.2.1.length
       · have HM:Hid (cacheOk x=false):=by unfold Hid;rw [HN.out,p1];simp
         go_wp2_with fail
         go_ret
         exact bool_end HM uu41
       go_wp2_with fail
       refine (c_l18Below _ _ _ _ _ (b10.up good_Seat uu41)).mono ?_
       rintro e w42 ⟨rfl,u42⟩
       have uu42:=uu41.trans u42
       have ka_42:=ka_41.up u42
       have za_42:=ka_42.lt
       clear ga41_0 ga41_1 ga41_2 ga41_3 ga41_4 ga41_5 ga41_6 ga41_7 ga41_8 ga41_9 ga41_10 ga41_11 ga41_12
       have ga42_0:w42.cell? ⟨w.heap.size,0,none⟩=some (.int .i64 x.1.1):=ka_42.cell 0
       have ga42_1:w42.cell? ⟨w.heap.size,1,none⟩=some (.slice A1 x.1.2.1.length c1):=ka_42.cell 1
       have ga42_2:w42.cell? ⟨w.heap.size,2,none⟩=some (.slice A2 x.1.2.2.length c2):=ka_42.cell 2
       have ga42_3:w42.cell? ⟨w.heap.size,3,none⟩=some (.int .i64 x.2.1.1):=ka_42.cell 3
       have ga42_4:w42.cell? ⟨w.heap.size,4,none⟩=some (.int .i64 x.2.1.2.1):=ka_42.cell 4
       have ga42_5:w42.cell? ⟨w.heap.size,5,none⟩=some (.int .i64 x.2.1.2.2.1):=ka_42.cell 5
       have ga42_6:w42.cell? ⟨w.heap.size,6,none⟩=some (.slice A6 x.2.1.2.2.2.length c6):=ka_42.cell 6
       have ga42_7:w42.cell? ⟨w.heap.size,7,none⟩=some (.int .i64 x.2.2.1.1):=ka_42.cell 7
       have ga42_8:w42.cell? ⟨w.heap.size,8,none⟩=some (.int .i64 x.2.2.1.2.1):=ka_42.cell 8
       have ga42_9:w42.cell? ⟨w.heap.size,9,none⟩=some (.int .i64 x.2.2.1.2.2.1):=ka_42.cell 9
       have ga42_10:w42.cell? ⟨w.heap.size,10,none⟩=some (.slice A10 x.2.2.1.2.2.2.length c10):=ka_42.cell 10
       have ga42_11:w42.cell? ⟨w.heap.size,11,none⟩=some (.slice A11 x.2.2.2.1.length c11):=ka_42.cell 11
       have ga42_12:w42.cell? ⟨w.heap.size,12,none⟩=some (.slice A12 x.2.2.2.2.length c12):=ka_42.cell 12
       cases p2:belowS x.2.2.1.2.2.2 x.1.2.1.length
       · have HM:Hid (cacheOk x=false):=by unfold Hid;rw [HN.out,p2];simp
         go_wp2_with fail
         go_ret
         exact bool_end HM uu42
       have HM:Hid (cacheOk x=belowS x.2.2.2.1 x.1.2.1.length):=by unfold Hid;rw [HN.out,p1,p2];simp
       go_wp2_with fail
       refine (c_l18Below _ _ _ _ _ (b11.up good_Seat uu42)).mono ?_
       rintro e w43 ⟨rfl,u43⟩
       have uu43:=uu42.trans u43
       have ka_43:=ka_42.up u43
       have za_43:=ka_43.lt
       clear ga42_0 ga42_1 ga42_2 ga42_3 ga42_4 ga42_5 ga42_6 ga42_7 ga42_8 ga42_9 ga42_10 ga42_11 ga42_12
       go_wp2_with fail
       go_ret
       exact bool_end HM uu43
 have HZ:Hid ((topOk x.2.2.1 || zeroT x.2.2.1)=true):=by unfold Hid;rw [q5];simp
 have HC:Hid (∀s∈x.2.2.1.2.2.2,2≤s.2):=by unfold Hid;rw [zeroT_seats q5];simp
 go_wp2_with fail
 refine (c_l18Seats _ _ _ _ (b11.up good_Seat uu4)).mono ?_
 rintro e w5 ⟨rfl,u5⟩
 have uu5:=uu4.trans u5
 have ka_5:=ka_4.up u5
 have za_5:=ka_5.lt
 clear ga4_0 ga4_1 ga4_2 ga4_3 ga4_4 ga4_5 ga4_6 ga4_7 ga4_8 ga4_9 ga4_10 ga4_11 ga4_12
 have ga5_0:w5.cell? ⟨w.heap.size,0,none⟩=some (.int .i64 x.1.1):=ka_5.cell 0
 have ga5_1:w5.cell? ⟨w.heap.size,1,none⟩=some (.slice A1 x.1.2.1.length c1):=ka_5.cell 1
 have ga5_2:w5.cell? ⟨w.heap.size,2,none⟩=some (.slice A2 x.1.2.2.length c2):=ka_5.cell 2
 have ga5_3:w5.cell? ⟨w.heap.size,3,none⟩=some (.int .i64 x.2.1.1):=ka_5.cell 3
 have ga5_4:w5.cell? ⟨w.heap.size,4,none⟩=some (.int .i64 x.2.1.2.1):=ka_5.cell 4
 have ga5_5:w5.cell? ⟨w.heap.size,5,none⟩=some (.int .i64 x.2.1.2.2.1):=ka_5.cell 5
 have ga5_6:w5.cell? ⟨w.heap.size,6,none⟩=some (.slice A6 x.2.1.2.2.2.length c6):=ka_5.cell 6
 have ga5_7:w5.cell? ⟨w.heap.size,7,none⟩=some (.int .i64 x.2.2.1.1):=ka_5.cell 7
 have ga5_8:w5.cell? ⟨w.heap.size,8,none⟩=some (.int .i64 x.2.2.1.2.1):=ka_5.cell 8
 have ga5_9:w5.cell? ⟨w.heap.size,9,none⟩=some (.int .i64 x.2.2.1.2.2.1):=ka_5.cell 9
 have ga5_10:w5.cell? ⟨w.heap.size,10,none⟩=some (.slice A10 x.2.2.1.2.2.2.length c10):=ka_5.cell 10
 have ga5_11:w5.cell? ⟨w.heap.size,11,none⟩=some (.slice A11 x.2.2.2.1.length c11):=ka_5.cell 11
 have ga5_12:w5.cell? ⟨w.heap.size,12,none⟩=some (.slice A12 x.2.2.2.2.length c12):=ka_5.cell 12
 cases q6:seatsOk x.2.2.2.1
 · have HN:Hid (cacheOk x=false):=by unfold Hid;apply cache_pre;unfold cachePre;simp [q6]
   go_wp2_with fail
   go_ret
   exact bool_end HN uu5
 have HP:Hid (cachePre x=true):=by unfold Hid cachePre;rw [q0,Q1.out,q2b,q3,HZ.out,q6];rfl
 have HB:Hid ((belowS x.2.1.2.2.2 x.1.2.1.length && belowS x.2.2.1.2.2.2 x.1.2.1.length && belowS x.2.2.2.1 x.1.2.1.length)=!(x.2.1.2.2.2++x.2.2.1.2.2.2++x.2.2.2.1).any (badSlot x.1.2.1.length)):=by
   unfold Hid
   rw [below_bad (seats_pos (top_seats q3)),below_bad (seats_pos q6),below_bad HC.out,List.any_append,List.any_append]
   cases List.any x.2.1.2.2.2 (badSlot x.1.2.1.length) <;> cases List.any x.2.2.1.2.2.2 (badSlot x.1.2.1.length) <;> cases List.any x.2.2.2.1 (badSlot x.1.2.1.length) <;> rfl
 go_wp2_with fail
 refine (c_l00Rises _ _ _ _ _ _ (b12.up good_I uu5)).mono ?_
 rintro e w6 ⟨rfl,u6⟩
 have uu6:=uu5.trans u6
 have ka_6:=ka_5.up u6
 have za_6:=ka_6.lt
 clear ga5_0 ga5_1 ga5_2 ga5_3 ga5_4 ga5_5 ga5_6 ga5_7 ga5_8 ga5_9 ga5_10 ga5_11 ga5_12
 have ga6_0:w6.cell? ⟨w.heap.size,0,none⟩=some (.int .i64 x.1.1):=ka_6.cell 0
 have ga6_1:w6.cell? ⟨w.heap.size,1,none⟩=some (.slice A1 x.1.2.1.length c1):=ka_6.cell 1
 have ga6_2:w6.cell? ⟨w.heap.size,2,none⟩=some (.slice A2 x.1.2.2.length c2):=ka_6.cell 2
 have ga6_3:w6.cell? ⟨w.heap.size,3,none⟩=some (.int .i64 x.2.1.1):=ka_6.cell 3
 have ga6_4:w6.cell? ⟨w.heap.size,4,none⟩=some (.int .i64 x.2.1.2.1):=ka_6.cell 4
 have ga6_5:w6.cell? ⟨w.heap.size,5,none⟩=some (.int .i64 x.2.1.2.2.1):=ka_6.cell 5
 have ga6_6:w6.cell? ⟨w.heap.size,6,none⟩=some (.slice A6 x.2.1.2.2.2.length c6):=ka_6.cell 6
 have ga6_7:w6.cell? ⟨w.heap.size,7,none⟩=some (.int .i64 x.2.2.1.1):=ka_6.cell 7
 have ga6_8:w6.cell? ⟨w.heap.size,8,none⟩=some (.int .i64 x.2.2.1.2.1):=ka_6.cell 8
 have ga6_9:w6.cell? ⟨w.heap.size,9,none⟩=some (.int .i64 x.2.2.1.2.2.1):=ka_6.cell 9
 have ga6_10:w6.cell? ⟨w.heap.size,10,none⟩=some (.slice A10 x.2.2.1.2.2.2.length c10):=ka_6.cell 10
 have ga6_11:w6.cell? ⟨w.heap.size,11,none⟩=some (.slice A11 x.2.2.2.1.length c11):=ka_6.cell 11
 have ga6_12:w6.cell? ⟨w.heap.size,12,none⟩=some (.slice A12 x.2.2.2.2.length c12):=ka_6.cell 12
 cases q9:(risB x.2.2.2.2 && allIn x.2.2.2.2 1 64)
 · have HN:Hid (cacheOk x=false):=by unfold Hid;unfold cacheOk;rw [q9];simp
   go_wp2_with fail
   go_ret
   exact bool_end HN uu6
 go_wp2_with fail
 clear ga6_0 ga6_1 ga6_2 ga6_3 ga6_4 ga6_5 ga6_6 ga6_7 ga6_8 ga6_9 ga6_10 ga6_11 ga6_12
 go_loopw [4] (fun i wr=>∃k:Nat,k≤x.2.2.2.1.length∧i=.int .i64 k∧Hid ((x.2.2.2.1.take k).any (fun s=>hasS x.2.1.2.2.2 s.2)=false)∧Up w wr∧Bk wr w.heap.size 50 #[.int .i64 x.1.1,.slice A1 x.1.2.1.length c1,.slice A2 x.1.2.2.length c2,.int .i64 x.2.1.1,.int .i64 x.2.1.2.1,.int .i64 x.2.1.2.2.1,.slice A6 x.2.1.2.2.2.length c6,.int .i64 x.2.2.1.1,.int .i64 x.2.2.1.2.1,.int .i64 x.2.2.1.2.2.1,.slice A10 x.2.2.1.2.2.2.length c10,.slice A11 x.2.2.2.1.length c11,.slice A12 x.2.2.2.2.length c12]) (fun i _=>x.2.2.2.1.length - (intOf i).toNat)
 case atStart=>exact ⟨0,Nat.zero_le _,rfl,rfl,uu6,ka_6⟩
 case round =>
   obtain ⟨k,hk,rfl,HT,hu,kA⟩:=hrel
   have zA:=kA.lt
   have ga40_0:wr.cell? ⟨w.heap.size,0,none⟩=some (.int .i64 x.1.1):=kA.cell 0
   have ga40_1:wr.cell? ⟨w.heap.size,1,none⟩=some (.slice A1 x.1.2.1.length c1):=kA.cell 1
   have ga40_2:wr.cell? ⟨w.heap.size,2,none⟩=some (.slice A2 x.1.2.2.length c2):=kA.cell 2
   have ga40_3:wr.cell? ⟨w.heap.size,3,none⟩=some (.int .i64 x.2.1.1):=kA.cell 3
   have ga40_4:wr.cell? ⟨w.heap.size,4,none⟩=some (.int .i64 x.2.1.2.1):=kA.cell 4
   have ga40_5:wr.cell? ⟨w.heap.size,5,none⟩=some (.int .i64 x.2.1.2.2.1):=kA.cell 5
   have ga40_6:wr.cell? ⟨w.heap.size,6,none⟩=some (.slice A6 x.2.1.2.2.2.length c6):=kA.cell 6
   have ga40_7:wr.cell? ⟨w.heap.size,7,none⟩=some (.int .i64 x.2.2.1.1):=kA.cell 7
   have ga40_8:wr.cell? ⟨w.heap.size,8,none⟩=some (.int .i64 x.2.2.1.2.1):=kA.cell 8
   have ga40_9:wr.cell? ⟨w.heap.size,9,none⟩=some (.int .i64 x.2.2.1.2.2.1):=kA.cell 9
   have ga40_10:wr.cell? ⟨w.heap.size,10,none⟩=some (.slice A10 x.2.2.1.2.2.2.length c10):=kA.cell 10
   have ga40_11:wr.cell? ⟨w.heap.size,11,none⟩=some (.slice A11 x.2.2.2.1.length c11):=kA.cell 11
   have ga40_12:wr.cell? ⟨w.heap.size,12,none⟩=some (.slice A12 x.2.2.2.2.length c12):=kA.cell 12
   by_cases hlt:k<x.2.2.2.1.length
   · have bk:=b11.up good_Seat hu
     obtain ⟨g,off,rfl,_,hgl,hc0,hc1,e0,e1,_⟩:=atSeat bk hlt
     have t6:=fun t:UpT wr=>cell_up t (kA.cell 6:wr.cell? ⟨w.heap.size,6,none⟩=some (.slice A6 x.2.1.2.2.2.length c6))
     have t11:=fun t:UpT wr=>cell_up t (kA.cell 11:wr.cell? ⟨w.heap.size,11,none⟩=some (.slice (some ⟨g,off,none⟩) x.2.2.2.1.length c11))
     have tc:=fun t:UpT wr=>cell_up t hc1
     cases q:hasS x.2.1.2.2.2 x.2.2.2.1[k].2
     · have HN:Hid ((x.2.2.2.1.take (k+1)).any (fun s=>hasS x.2.1.2.2.2 s.2)=false):=by unfold Hid;rw [any_take_succ _ _ k hlt,HT.out,q];rfl
       go_wp2_with fail
       refine wp_region_up (by kernel_rfl) (by kernel_rfl) ?_
       repeat (go_big_quiet_step ((go_at_call 81;exact up_bool (c_l18Uses x.2.1.2.2.2 A6 c6 _ _ (b6.up good_Seat (hu.trans (UpT.up _)))) q (UpT.up _))))
       refine wpQuiet_nil ?_
       rintro _ ⟨⟨w1,u1⟩,rfl⟩
       go_wp2_with fail
       go_roundw
       case rel=>exact ⟨k+1,by omega,by go_num,HN,hu.trans u1,kA.up u1⟩
       case measure=>simp [intOf];omega
     have HN:Hid (cacheOk x=false):=by unfold Hid cacheOk;rw [any_at (fun s:TSeat=>hasS x.2.1.2.2.2 s.2) x.2.2.2.1 k hlt q];simp
     go_wp2_with fail
     refine wp_region_up (by kernel_rfl) (by kernel_rfl) ?_
     repeat (go_big_quiet_step ((go_at_call 81;exact up_bool (c_l18Uses x.2.1.2.2.2 A6 c6 _ _ (b6.up good_Seat (hu.trans (UpT.up _)))) q (UpT.up _))))
     refine wpQuiet_nil ?_
     rintro _ ⟨⟨w1,u1⟩,rfl⟩
     go_wp2_with fail
     go_ret
     exact bool_end HN (hu.trans u1)
   · have H8:Hid (x.2.2.2.1.any (fun s=>hasS x.2.1.2.2.2 s.2)=false):=any_all _ _ k HT.out (by omega)
     have HN:Hid (cacheOk x=(belowS x.2.1.2.2.2 x.1.2.1.length && belowS x.2.2.1.2.2.2 x.1.2.1.length && belowS x.2.2.2.1 x.1.2.1.length)):=by unfold Hid cacheOk;rw [HB.out,HP.out,H8.out,q9];simp
     go_wp2_with fail
     refine (c_l18Below _ _ _ _ _ (b6.up good_Seat hu)).mono ?_
     rintro e w41 ⟨rfl,u41⟩
     have uu41:=hu.trans u41
     have ka_41:=kA.up u41
     have za_41:=ka_41.lt
     clear ga40_0 ga40_1 ga40_2 ga40_3 ga40_4 ga40_5 ga40_6 ga40_7 ga40_8 ga40_9 ga40_10 ga40_11 ga40_12
     have ga41_0:w41.cell? ⟨w.heap.size,0,none⟩=some (.int .i64 x.1.1):=ka_41.cell 0
     have ga41_1:w41.cell? ⟨w.heap.size,1,none⟩=some (.slice A1 x.1.2.1.length c1):=ka_41.cell 1
     have ga41_2:w41.cell? ⟨w.heap.size,2,none⟩=some (.slice A2 x.1.2.2.length c2):=ka_41.cell 2
     have ga41_3:w41.cell? ⟨w.heap.size,3,none⟩=some (.int .i64 x.2.1.1):=ka_41.cell 3
     have ga41_4:w41.cell? ⟨w.heap.size,4,none⟩=some (.int .i64 x.2.1.2.1):=ka_41.cell 4
     have ga41_5:w41.cell? ⟨w.heap.size,5,none⟩=some (.int .i64 x.2.1.2.2.1):=ka_41.cell 5
     have ga41_6:w41.cell? ⟨w.heap.size,6,none⟩=some (.slice A6 x.2.1.2.2.2.length c6):=ka_41.cell 6
     have ga41_7:w41.cell? ⟨w.heap.size,7,none⟩=some (.int .i64 x.2.2.1.1):=ka_41.cell 7
     have ga41_8:w41.cell? ⟨w.heap.size,8,none⟩=some (.int .i64 x.2.2.1.2.1):=ka_41.cell 8
     have ga41_9:w41.cell? ⟨w.heap.size,9,none⟩=some (.int .i64 x.2.2.1.2.2.1):=ka_41.cell 9
     have ga41_10:w41.cell? ⟨w.heap.size,10,none⟩=some (.slice A10 x.2.2.1.2.2.2.length c10):=ka_41.cell 10
     have ga41_11:w41.cell? ⟨w.heap.size,11,none⟩=some (.slice A11 x.2.2.2.1.length c11):=ka_41.cell 11
     have ga41_12:w41.cell? ⟨w.heap.size,12,none⟩=some (.slice A12 x.2.2.2.2.length c12):=ka_41.cell 12
     cases p1:belowS x.2.1.2.2.2 x.1.2.1.length
     · have HM:Hid (cacheOk x=false):=by unfold Hid;rw [HN.out,p1];simp
       go_wp2_with fail
       go_ret
       exact bool_end HM uu41
     go_wp2_with fail
     refine (c_l18Below _ _ _ _ _ (b10.up good_Seat uu41)).mono ?_
     rintro e w42 ⟨rfl,u42⟩
     have uu42:=uu41.trans u42
     have ka_42:=ka_41.up u42
     have za_42:=ka_42.lt
     clear ga41_0 ga41_1 ga41_2 ga41_3 ga41_4 ga41_5 ga41_6 ga41_7 ga41_8 ga41_9 ga41_10 ga41_11 ga41_12
     have ga42_0:w42.cell? ⟨w.heap.size,0,none⟩=some (.int .i64 x.1.1):=ka_42.cell 0
     have ga42_1:w42.cell? ⟨w.heap.size,1,none⟩=some (.slice A1 x.1.2.1.length c1):=ka_42.cell 1
     have ga42_2:w42.cell? ⟨w.heap.size,2,none⟩=some (.slice A2 x.1.2.2.length c2):=ka_42.cell 2
     have ga42_3:w42.cell? ⟨w.heap.size,3,none⟩=some (.int .i64 x.2.1.1):=ka_42.cell 3
     have ga42_4:w42.cell? ⟨w.heap.size,4,none⟩=some (.int .i64 x.2.1.2.1):=ka_42.cell 4
     have ga42_5:w42.cell? ⟨w.heap.size,5,none⟩=some (.int .i64 x.2.1.2.2.1):=ka_42.cell 5
     have ga42_6:w42.cell? ⟨w.heap.size,6,none⟩=some (.slice A6 x.2.1.2.2.2.length c6):=ka_42.cell 6
     have ga42_7:w42.cell? ⟨w.heap.size,7,none⟩=some (.int .i64 x.2.2.1.1):=ka_42.cell 7
     have ga42_8:w42.cell? ⟨w.heap.size,8,none⟩=some (.int .i64 x.2.2.1.2.1):=ka_42.cell 8
     have ga42_9:w42.cell? ⟨w.heap.size,9,none⟩=some (.int .i64 x.2.2.1.2.2.1):=ka_42.cell 9
     have ga42_10:w42.cell? ⟨w.heap.size,10,none⟩=some (.slice A10 x.2.2.1.2.2.2.length c10):=ka_42.cell 10
     have ga42_11:w42.cell? ⟨w.heap.size,11,none⟩=some (.slice A11 x.2.2.2.1.length c11):=ka_42.cell 11
     have ga42_12:w42.cell? ⟨w.heap.size,12,none⟩=some (.slice A12 x.2.2.2.2.length c12):=ka_42.cell 12
     cases p2:belowS x.2.2.1.2.2.2 x.1.2.1.length
     · have HM:Hid (cacheOk x=false):=by unfold Hid;rw [HN.out,p2];simp
       go_wp2_with fail
       go_ret
       exact bool_end HM uu42
     have HM:Hid (cacheOk x=belowS x.2.2.2.1 x.1.2.1.length):=by unfold Hid;rw [HN.out,p1,p2];simp
     go_wp2_with fail
     refine (c_l18Below _ _ _ _ _ (b11.up good_Seat uu42)).mono ?_
     rintro e w43 ⟨rfl,u43⟩
     have uu43:=uu42.trans u43
     have ka_43:=ka_42.up u43
     have za_43:=ka_43.lt
     clear ga42_0 ga42_1 ga42_2 ga42_3 ga42_4 ga42_5 ga42_6 ga42_7 ga42_8 ga42_9 ga42_10 ga42_11 ga42_12
     go_wp2_with fail
     go_ret
     exact bool_end HM uu43
end Go.Proofs.YthdnicfbnihoaaaGreatDoor
