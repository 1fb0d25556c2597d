/-
 Marks of Base,by genmark.py
-/
import Derived.Test.YthdnicfbnihoaaaGreatDoorM4M
set_option maxHeartbeats 4000000
set_option maxRecDepth 100000
namespace Go.Proofs.YthdnicfbnihoaaaGreatDoor
open Go.RowKit
set_option linter.unusedVariables false
set_option linter.unusedSimpArgs false
def mmTBase:Mk TBase:=(mkP mmTBtree (mkP mmTCache (mkP mmTJournal (mkP mk0 mk0))))
theorem gmT_Base:GoodM mmTBase:=(gm_P gmT_Btree (gm_P gmT_Cache (gm_P gmT_Journal (gm_P gm_0 gm_0))))
theorem c_markBase (cs:List Value) (x:TBase) (k:Int) (lo hi:Nat) (bl:List Nat) (w:World) (h:shBase.own w lo hi cs x bl) (hhi:hi≤w.heap.size) (hnd:bl.Nodup) (hk0:0<k) (hk1:k+(mmTBase.cnt x:Nat)≤1000000000) :
   Calls Tryz.prog 9 #[.agg cs.toArray,.int .i64 k] w (MarkV shBase mmTBase lo hi cs x k bl w):=by
 obtain ⟨⟨x0,x1⟩,⟨⟨x2,x3,x4⟩,⟨x5,x6,x7,x8⟩,⟨x9,x10,x11,x12⟩,x13,x14⟩,⟨⟨x15,x16,x17⟩,x18,x19,x20,x21⟩,x22,x23⟩:=x
 have ho:=openOBase h
 try dsimp only at ho
 obtain ⟨A1,c1,bl1,A3,c3,bl3,A4,c4,bl4,A8,c8,bl8,A12,c12,bl12,A13,c13,bl13,A14,c14,bl14,A16,c16,bl16,A17,c17,bl17,rfl,hbe,f0,f1,f2,f3,f4,f5,f6,f7,f8,f9,f10,f11,f12,f13,f14,f15,f16,f17,f18,f19,f20,f21,f22,f23⟩:=ho
 clear h
 have hcn:mmTBase.cnt ((x0,x1),((x2,x3,x4),(x5,x6,x7,x8),(x9,x10,x11,x12),x13,x14),((x15,x16,x17),x18,x19,x20,x21),x22,x23)=mmTBtree.cnt (x0,x1)+(mmTCache.cnt ((x2,x3,x4),(x5,x6,x7,x8),(x9,x10,x11,x12),x13,x14)+(mmTJournal.cnt ((x15,x16,x17),x18,x19,x20,x21)+(0+(0)))):=rfl
 rw [hcn] at hk1
 have HC:=Lib.hid hcn;clear hcn
 have kb0:Bk (w.alloc (.cells #[.int .i64 x0,.slice A1 x1.length c1,.int .i64 x2,.slice A3 x3.length c3,.slice A4 x4.length c4,.int .i64 x5,.int .i64 x6,.int .i64 x7,.slice A8 x8.length c8,.int .i64 x9,.int .i64 x10,.int .i64 x11,.slice A12 x12.length c12,.slice A13 x13.length c13,.slice A14 x14.length c14,.int .i64 x15,.slice A16 x16.length c16,.slice A17 x17.length c17,.int .i64 x18,.int .i64 x19,.int .i64 x20,.int .i64 x21,.int .i64 x22,.int .i64 x23] 54)) w.heap.size 54 #[.int .i64 x0,.slice A1 x1.length c1,.int .i64 x2,.slice A3 x3.length c3,.slice A4 x4.length c4,.int .i64 x5,.int .i64 x6,.int .i64 x7,.slice A8 x8.length c8,.int .i64 x9,.int .i64 x10,.int .i64 x11,.slice A12 x12.length c12,.slice A13 x13.length c13,.slice A14 x14.length c14,.int .i64 x15,.slice A16 x16.length c16,.slice A17 x17.length c17,.int .i64 x18,.int .i64 x19,.int .i64 x20,.int .i64 x21,.int .i64 x22,.int .i64 x23]:=Bk.new _ _ _
 have on0:Only bl w (w.alloc (.cells #[.int .i64 x0,.slice A1 x1.length c1,.int .i64 x2,.slice A3 x3.length c3,.slice A4 x4.length c4,.int .i64 x5,.int .i64 x6,.int .i64 x7,.slice A8 x8.length c8,.int .i64 x9,.int .i64 x10,.int .i64 x11,.slice A12 x12.length c12,.slice A13 x13.length c13,.slice A14 x14.length c14,.int .i64 x15,.slice A16 x16.length c16,.slice A17 x17.length c17,.int .i64 x18,.int .i64 x19,.int .i64 x20,.int .i64 x21,.int .i64 x22,.int .i64 x23] 54)):=Only.of_up ((Up.refl _).alloc _)
 have hb1:∀y∈bl1,y∈bl:=by rw [hbe];intro y hy;simp [hy]
 have hw1:w.heap.size ∉ bl1:=fun hm=>by have:=(f1.in_ good_Slot _ hm).2;omega
 have s0_1:=f1.keep good_Slot (fun y hy=>(Up.alloc (Up.refl w) (.cells #[.int .i64 x0,.slice A1 x1.length c1,.int .i64 x2,.slice A3 x3.length c3,.slice A4 x4.length c4,.int .i64 x5,.int .i64 x6,.int .i64 x7,.slice A8 x8.length c8,.int .i64 x9,.int .i64 x10,.int .i64 x11,.slice A12 x12.length c12,.slice A13 x13.length c13,.slice A14 x14.length c14,.int .i64 x15,.slice A16 x16.length c16,.slice A17 x17.length c17,.int .i64 x18,.int .i64 x19,.int .i64 x20,.int .i64 x21,.int .i64 x22,.int .i64 x23] 54)).block y (Nat.lt_of_lt_of_le (f1.in_ good_Slot y hy).2 hhi))
 have hb3:∀y∈bl3,y∈bl:=by rw [hbe];intro y hy;simp [hy]
 have hw3:w.heap.size ∉ bl3:=fun hm=>by have:=(f3.in_ good_S _ hm).2;omega
 have s0_3:=f3.keep good_S (fun y hy=>(Up.alloc (Up.refl w) (.cells #[.int .i64 x0,.slice A1 x1.length c1,.int .i64 x2,.slice A3 x3.length c3,.slice A4 x4.length c4,.int .i64 x5,.int .i64 x6,.int .i64 x7,.slice A8 x8.length c8,.int .i64 x9,.int .i64 x10,.int .i64 x11,.slice A12 x12.length c12,.slice A13 x13.length c13,.slice A14 x14.length c14,.int .i64 x15,.slice A16 x16.length c16,.slice A17 x17.length c17,.int .i64 x18,.int .i64 x19,.int .i64 x20,.int .i64 x21,.int .i64 x22,.int .i64 x23] 54)).block y (Nat.lt_of_lt_of_le (f3.in_ good_S y hy).2 hhi))
 have hb4:∀y∈bl4,y∈bl:=by rw [hbe];intro y hy;simp [hy]
 have hw4:w.heap.size ∉ bl4:=fun hm=>by have:=(f4.in_ good_Put _ hm).2;omega
 have s0_4:=f4.keep good_Put (fun y hy=>(Up.alloc (Up.refl w) (.cells #[.int .i64 x0,.slice A1 x1.length c1,.int .i64 x2,.slice A3 x3.length c3,.slice A4 x4.length c4,.int .i64 x5,.int .i64 x6,.int .i64 x7,.slice A8 x8.length c8,.int .i64 x9,.int .i64 x10,.int .i64 x11,.slice A12 x12.length c12,.slice A13 x13.length c13,.slice A14 x14.length c14,.int .i64 x15,.slice A16 x16.length c16,.slice A17 x17.length c17,.int .i64 x18,.int .i64 x19,.int .i64 x20,.int .i64 x21,.int .i64 x22,.int .i64 x23] 54)).block y (Nat.lt_of_lt_of_le (f4.in_ good_Put y hy).2 hhi))
 have hb8:∀y∈bl8,y∈bl:=by rw [hbe];intro y hy;simp [hy]
 have hw8:w.heap.size ∉ bl8:=fun hm=>by have:=(f8.in_ good_Seat _ hm).2;omega
 have s0_8:=f8.keep good_Seat (fun y hy=>(Up.alloc (Up.refl w) (.cells #[.int .i64 x0,.slice A1 x1.length c1,.int .i64 x2,.slice A3 x3.length c3,.slice A4 x4.length c4,.int .i64 x5,.int .i64 x6,.int .i64 x7,.slice A8 x8.length c8,.int .i64 x9,.int .i64 x10,.int .i64 x11,.slice A12 x12.length c12,.slice A13 x13.length c13,.slice A14 x14.length c14,.int .i64 x15,.slice A16 x16.length c16,.slice A17 x17.length c17,.int .i64 x18,.int .i64 x19,.int .i64 x20,.int .i64 x21,.int .i64 x22,.int .i64 x23] 54)).block y (Nat.lt_of_lt_of_le (f8.in_ good_Seat y hy).2 hhi))
 have hb12:∀y∈bl12,y∈bl:=by rw [hbe];intro y hy;simp [hy]
 have hw12:w.heap.size ∉ bl12:=fun hm=>by have:=(f12.in_ good_Seat _ hm).2;omega
 have s0_12:=f12.keep good_Seat (fun y hy=>(Up.alloc (Up.refl w) (.cells #[.int .i64 x0,.slice A1 x1.length c1,.int .i64 x2,.slice A3 x3.length c3,.slice A4 x4.length c4,.int .i64 x5,.int .i64 x6,.int .i64 x7,.slice A8 x8.length c8,.int .i64 x9,.int .i64 x10,.int .i64 x11,.slice A12 x12.length c12,.slice A13 x13.length c13,.slice A14 x14.length c14,.int .i64 x15,.slice A16 x16.length c16,.slice A17 x17.length c17,.int .i64 x18,.int .i64 x19,.int .i64 x20,.int .i64 x21,.int .i64 x22,.int .i64 x23] 54)).block y (Nat.lt_of_lt_of_le (f12.in_ good_Seat y hy).2 hhi))
 have hb13:∀y∈bl13,y∈bl:=by rw [hbe];intro y hy;simp [hy]
 have hw13:w.heap.size ∉ bl13:=fun hm=>by have:=(f13.in_ good_Seat _ hm).2;omega
 have s0_13:=f13.keep good_Seat (fun y hy=>(Up.alloc (Up.refl w) (.cells #[.int .i64 x0,.slice A1 x1.length c1,.int .i64 x2,.slice A3 x3.length c3,.slice A4 x4.length c4,.int .i64 x5,.int .i64 x6,.int .i64 x7,.slice A8 x8.length c8,.int .i64 x9,.int .i64 x10,.int .i64 x11,.slice A12 x12.length c12,.slice A13 x13.length c13,.slice A14 x14.length c14,.int .i64 x15,.slice A16 x16.length c16,.slice A17 x17.length c17,.int .i64 x18,.int .i64 x19,.int .i64 x20,.int .i64 x21,.int .i64 x22,.int .i64 x23] 54)).block y (Nat.lt_of_lt_of_le (f13.in_ good_Seat y hy).2 hhi))
 have hb14:∀y∈bl14,y∈bl:=by rw [hbe];intro y hy;simp [hy]
 have hw14:w.heap.size ∉ bl14:=fun hm=>by have:=(f14.in_ good_I _ hm).2;omega
 have s0_14:=f14.keep good_I (fun y hy=>(Up.alloc (Up.refl w) (.cells #[.int .i64 x0,.slice A1 x1.length c1,.int .i64 x2,.slice A3 x3.length c3,.slice A4 x4.length c4,.int .i64 x5,.int .i64 x6,.int .i64 x7,.slice A8 x8.length c8,.int .i64 x9,.int .i64 x10,.int .i64 x11,.slice A12 x12.length c12,.slice A13 x13.length c13,.slice A14 x14.length c14,.int .i64 x15,.slice A16 x16.length c16,.slice A17 x17.length c17,.int .i64 x18,.int .i64 x19,.int .i64 x20,.int .i64 x21,.int .i64 x22,.int .i64 x23] 54)).block y (Nat.lt_of_lt_of_le (f14.in_ good_I y hy).2 hhi))
 have hb16:∀y∈bl16,y∈bl:=by rw [hbe];intro y hy;simp [hy]
 have hw16:w.heap.size ∉ bl16:=fun hm=>by have:=(f16.in_ good_S _ hm).2;omega
 have s0_16:=f16.keep good_S (fun y hy=>(Up.alloc (Up.refl w) (.cells #[.int .i64 x0,.slice A1 x1.length c1,.int .i64 x2,.slice A3 x3.length c3,.slice A4 x4.length c4,.int .i64 x5,.int .i64 x6,.int .i64 x7,.slice A8 x8.length c8,.int .i64 x9,.int .i64 x10,.int .i64 x11,.slice A12 x12.length c12,.slice A13 x13.length c13,.slice A14 x14.length c14,.int .i64 x15,.slice A16 x16.length c16,.slice A17 x17.length c17,.int .i64 x18,.int .i64 x19,.int .i64 x20,.int .i64 x21,.int .i64 x22,.int .i64 x23] 54)).block y (Nat.lt_of_lt_of_le (f16.in_ good_S y hy).2 hhi))
 have hb17:∀y∈bl17,y∈bl:=by rw [hbe];intro y hy;simp [hy]
 have hw17:w.heap.size ∉ bl17:=fun hm=>by have:=(f17.in_ good_Put _ hm).2;omega
 have s0_17:=f17.keep good_Put (fun y hy=>(Up.alloc (Up.refl w) (.cells #[.int .i64 x0,.slice A1 x1.length c1,.int .i64 x2,.slice A3 x3.length c3,.slice A4 x4.length c4,.int .i64 x5,.int .i64 x6,.int .i64 x7,.slice A8 x8.length c8,.int .i64 x9,.int .i64 x10,.int .i64 x11,.slice A12 x12.length c12,.slice A13 x13.length c13,.slice A14 x14.length c14,.int .i64 x15,.slice A16 x16.length c16,.slice A17 x17.length c17,.int .i64 x18,.int .i64 x19,.int .i64 x20,.int .i64 x21,.int .i64 x22,.int .i64 x23] 54)).block y (Nat.lt_of_lt_of_le (f17.in_ good_Put y hy).2 hhi))
 rw [hbe] at hnd
 go_enter Tryz.func9,Tryz.ntmps9
 go_wp2_with fail
 have HN0:(bl1).Nodup:=by grind [List.nodup_append]
 refine (c_markBtree [.int .i64 x0,.slice A1 x1.length c1] (x0,x1) _ lo hi (bl1) _ (mkOBtree (x:=(x0,x1)) f0 s0_1) (Nat.le_trans hhi on0.size) HN0 (by omega) (by omega)).mono ?_
 rintro e w1 ⟨rfl,t1,o1⟩
 have hgo1:w.heap.size ∉ (bl1):=by exact hw1
 have kb1:=kb0.only o1 hgo1
 have on1:=on0.trans (o1.mono (fun y hy=>by exact hb1 y hy))
 have s1_3:=s0_3.keep good_S (fun y hy=>o1.block y (Nat.lt_of_lt_of_le (s0_3.in_ good_S y hy).2 (Nat.le_trans hhi on0.size)) (fun hm=>by grind [List.nodup_append]))
 have s1_4:=s0_4.keep good_Put (fun y hy=>o1.block y (Nat.lt_of_lt_of_le (s0_4.in_ good_Put y hy).2 (Nat.le_trans hhi on0.size)) (fun hm=>by grind [List.nodup_append]))
 have s1_8:=s0_8.keep good_Seat (fun y hy=>o1.block y (Nat.lt_of_lt_of_le (s0_8.in_ good_Seat y hy).2 (Nat.le_trans hhi on0.size)) (fun hm=>by grind [List.nodup_append]))
 have s1_12:=s0_12.keep good_Seat (fun y hy=>o1.block y (Nat.lt_of_lt_of_le (s0_12.in_ good_Seat y hy).2 (Nat.le_trans hhi on0.size)) (fun hm=>by grind [List.nodup_append]))
 have s1_13:=s0_13.keep good_Seat (fun y hy=>o1.block y (Nat.lt_of_lt_of_le (s0_13.in_ good_Seat y hy).2 (Nat.le_trans hhi on0.size)) (fun hm=>by grind [List.nodup_append]))
 have s1_14:=s0_14.keep good_I (fun y hy=>o1.block y (Nat.lt_of_lt_of_le (s0_14.in_ good_I y hy).2 (Nat.le_trans hhi on0.size)) (fun hm=>by grind [List.nodup_append]))
 have s1_16:=s0_16.keep good_S (fun y hy=>o1.block y (Nat.lt_of_lt_of_le (s0_16.in_ good_S y hy).2 (Nat.le_trans hhi on0.size)) (fun hm=>by grind [List.nodup_append]))
 have s1_17:=s0_17.keep good_Put (fun y hy=>o1.block y (Nat.lt_of_lt_of_le (s0_17.in_ good_Put y hy).2 (Nat.le_trans hhi on0.size)) (fun hm=>by grind [List.nodup_append]))
 have q1:=t1
 have g1_1:w1.cell? ⟨w.heap.size,1,none⟩=some (.slice A1 x1.length c1):=kb1.cell 1
 have g1_2:w1.cell? ⟨w.heap.size,2,none⟩=some (.int .i64 x2):=kb1.cell 2
 have g1_3:w1.cell? ⟨w.heap.size,3,none⟩=some (.slice A3 x3.length c3):=kb1.cell 3
 have g1_4:w1.cell? ⟨w.heap.size,4,none⟩=some (.slice A4 x4.length c4):=kb1.cell 4
 have g1_5:w1.cell? ⟨w.heap.size,5,none⟩=some (.int .i64 x5):=kb1.cell 5
 have g1_6:w1.cell? ⟨w.heap.size,6,none⟩=some (.int .i64 x6):=kb1.cell 6
 have g1_7:w1.cell? ⟨w.heap.size,7,none⟩=some (.int .i64 x7):=kb1.cell 7
 have g1_8:w1.cell? ⟨w.heap.size,8,none⟩=some (.slice A8 x8.length c8):=kb1.cell 8
 have g1_9:w1.cell? ⟨w.heap.size,9,none⟩=some (.int .i64 x9):=kb1.cell 9
 have g1_10:w1.cell? ⟨w.heap.size,10,none⟩=some (.int .i64 x10):=kb1.cell 10
 have g1_11:w1.cell? ⟨w.heap.size,11,none⟩=some (.int .i64 x11):=kb1.cell 11
 have g1_12:w1.cell? ⟨w.heap.size,12,none⟩=some (.slice A12 x12.length c12):=kb1.cell 12
 have g1_13:w1.cell? ⟨w.heap.size,13,none⟩=some (.slice A13 x13.length c13):=kb1.cell 13
 have g1_14:w1.cell? ⟨w.heap.size,14,none⟩=some (.slice A14 x14.length c14):=kb1.cell 14
 have g1_15:w1.cell? ⟨w.heap.size,15,none⟩=some (.int .i64 x15):=kb1.cell 15
 have g1_16:w1.cell? ⟨w.heap.size,16,none⟩=some (.slice A16 x16.length c16):=kb1.cell 16
 have g1_17:w1.cell? ⟨w.heap.size,17,none⟩=some (.slice A17 x17.length c17):=kb1.cell 17
 have g1_18:w1.cell? ⟨w.heap.size,18,none⟩=some (.int .i64 x18):=kb1.cell 18
 have g1_19:w1.cell? ⟨w.heap.size,19,none⟩=some (.int .i64 x19):=kb1.cell 19
 have g1_20:w1.cell? ⟨w.heap.size,20,none⟩=some (.int .i64 x20):=kb1.cell 20
 have g1_21:w1.cell? ⟨w.heap.size,21,none⟩=some (.int .i64 x21):=kb1.cell 21
 have g1_22:w1.cell? ⟨w.heap.size,22,none⟩=some (.int .i64 x22):=kb1.cell 22
 have g1_23:w1.cell? ⟨w.heap.size,23,none⟩=some (.int .i64 x23):=kb1.cell 23
 clear o1
 go_wp2_with fail
 have HN2:(bl3++bl4++bl8++bl12++bl13++bl14).Nodup:=by grind [List.nodup_append]
 refine (c_markCache [.int .i64 x2,.slice A3 x3.length c3,.slice A4 x4.length c4,.int .i64 x5,.int .i64 x6,.int .i64 x7,.slice A8 x8.length c8,.int .i64 x9,.int .i64 x10,.int .i64 x11,.slice A12 x12.length c12,.slice A13 x13.length c13,.slice A14 x14.length c14] ((x2,x3,x4),(x5,x6,x7,x8),(x9,x10,x11,x12),x13,x14) _ lo hi (bl3++bl4++bl8++bl12++bl13++bl14) _ (mkOCache (x:=((x2,x3,x4),(x5,x6,x7,x8),(x9,x10,x11,x12),x13,x14)) f2 s1_3 s1_4 f5 f6 f7 s1_8 f9 f10 f11 s1_12 s1_13 s1_14) (Nat.le_trans hhi on1.size) HN2 (by omega) (by omega)).mono ?_
 rintro e w2 ⟨rfl,t2,o2⟩
 have hgo2:w.heap.size ∉ (bl3++bl4++bl8++bl12++bl13++bl14):=by simp only [List.mem_append];grind
 have kb2:=kb1.only o2 hgo2
 have on2:=on1.trans (o2.mono (fun y hy=>by simp only [List.mem_append] at hy;grind))
 have s2_16:=s1_16.keep good_S (fun y hy=>o2.block y (Nat.lt_of_lt_of_le (s1_16.in_ good_S y hy).2 (Nat.le_trans hhi on1.size)) (fun hm=>by grind [List.nodup_append]))
 have s2_17:=s1_17.keep good_Put (fun y hy=>o2.block y (Nat.lt_of_lt_of_le (s1_17.in_ good_Put y hy).2 (Nat.le_trans hhi on1.size)) (fun hm=>by grind [List.nodup_append]))
 have q2:=t2
 have g2_3:w2.cell? ⟨w.heap.size,3,none⟩=some (.slice A3 x3.length c3):=kb2.cell 3
 have g2_4:w2.cell? ⟨w.heap.size,4,none⟩=some (.slice A4 x4.length c4):=kb2.cell 4
 have g2_5:w2.cell? ⟨w.heap.size,5,none⟩=some (.int .i64 x5):=kb2.cell 5
 have g2_6:w2.cell? ⟨w.heap.size,6,none⟩=some (.int .i64 x6):=kb2.cell 6
 have g2_7:w2.cell? ⟨w.heap.size,7,none⟩=some (.int .i64 x7):=kb2.cell 7
 have g2_8:w2.cell? ⟨w.heap.size,8,none⟩=some (.slice A8 x8.length c8):=kb2.cell 8
 have g2_9:w2.cell? ⟨w.heap.size,9,none⟩=some (.int .i64 x9):=kb2.cell 9
 have g2_10:w2.cell? ⟨w.heap.size,10,none⟩=some (.int .i64 x10):=kb2.cell 10
 have g2_11:w2.cell? ⟨w.heap.size,11,none⟩=some (.int .i64 x11):=kb2.cell 11
 have g2_12:w2.cell? ⟨w.heap.size,12,none⟩=some (.slice A12 x12.length c12):=kb2.cell 12
 have g2_13:w2.cell? ⟨w.heap.size,13,none⟩=some (.slice A13 x13.length c13):=kb2.cell 13
 have g2_14:w2.cell? ⟨w.heap.size,14,none⟩=some (.slice A14 x14.length c14):=kb2.cell 14
 have g2_15:w2.cell? ⟨w.heap.size,15,none⟩=some (.int .i64 x15):=kb2.cell 15
 have g2_16:w2.cell? ⟨w.heap.size,16,none⟩=some (.slice A16 x16.length c16):=kb2.cell 16
 have g2_17:w2.cell? ⟨w.heap.size,17,none⟩=some (.slice A17 x17.length c17):=kb2.cell 17
 have g2_18:w2.cell? ⟨w.heap.size,18,none⟩=some (.int .i64 x18):=kb2.cell 18
 have g2_19:w2.cell? ⟨w.heap.size,19,none⟩=some (.int .i64 x19):=kb2.cell 19
 have g2_20:w2.cell? ⟨w.heap.size,20,none⟩=some (.int .i64 x20):=kb2.cell 20
 have g2_21:w2.cell? ⟨w.heap.size,21,none⟩=some (.int .i64 x21):=kb2.cell 21
 have g2_22:w2.cell? ⟨w.heap.size,22,none⟩=some (.int .i64 x22):=kb2.cell 22
 have g2_23:w2.cell? ⟨w.heap.size,23,none⟩=some (.int .i64 x23):=kb2.cell 23
 have n2_0:=good_Btree.own_keep t1 (fun y hy=>o2.block y (Nat.lt_of_lt_of_le (good_Btree.own_in t1 y hy).2 (Nat.le_trans hhi on1.size)) (fun hm=>by grind [List.nodup_append]))
 clear o2
 go_wp2_with fail
 have HN15:(bl16++bl17).Nodup:=by grind [List.nodup_append]
 refine (c_markJournal [.int .i64 x15,.slice A16 x16.length c16,.slice A17 x17.length c17,.int .i64 x18,.int .i64 x19,.int .i64 x20,.int .i64 x21] ((x15,x16,x17),x18,x19,x20,x21) _ lo hi (bl16++bl17) _ (mkOJournal (x:=((x15,x16,x17),x18,x19,x20,x21)) f15 s2_16 s2_17 f18 f19 f20 f21) (Nat.le_trans hhi on2.size) HN15 (by omega) (by omega)).mono ?_
 rintro e w3 ⟨rfl,t3,o3⟩
 have hgo3:w.heap.size ∉ (bl16++bl17):=by simp only [List.mem_append];grind
 have kb3:=kb2.only o3 hgo3
 have on3:=on2.trans (o3.mono (fun y hy=>by simp only [List.mem_append] at hy;grind))
 have q3:=t3
 have g3_16:w3.cell? ⟨w.heap.size,16,none⟩=some (.slice A16 x16.length c16):=kb3.cell 16
 have g3_17:w3.cell? ⟨w.heap.size,17,none⟩=some (.slice A17 x17.length c17):=kb3.cell 17
 have g3_18:w3.cell? ⟨w.heap.size,18,none⟩=some (.int .i64 x18):=kb3.cell 18
 have g3_19:w3.cell? ⟨w.heap.size,19,none⟩=some (.int .i64 x19):=kb3.cell 19
 have g3_20:w3.cell? ⟨w.heap.size,20,none⟩=some (.int .i64 x20):=kb3.cell 20
 have g3_21:w3.cell? ⟨w.heap.size,21,none⟩=some (.int .i64 x21):=kb3.cell 21
 have g3_22:w3.cell? ⟨w.heap.size,22,none⟩=some (.int .i64 x22):=kb3.cell 22
 have g3_23:w3.cell? ⟨w.heap.size,23,none⟩=some (.int .i64 x23):=kb3.cell 23
 have n3_0:=good_Btree.own_keep n2_0 (fun y hy=>o3.block y (Nat.lt_of_lt_of_le (good_Btree.own_in n2_0 y hy).2 (Nat.le_trans hhi on2.size)) (fun hm=>by grind [List.nodup_append]))
 have n3_2:=good_Cache.own_keep t2 (fun y hy=>o3.block y (Nat.lt_of_lt_of_le (good_Cache.own_in t2 y hy).2 (Nat.le_trans hhi on2.size)) (fun hm=>by grind [List.nodup_append]))
 clear o3
 go_wp2_with fail
 go_ret
 have HE:Hid (k+(mmTBtree.cnt (x0,x1):Nat)+(mmTCache.cnt ((x2,x3,x4),(x5,x6,x7,x8),(x9,x10,x11,x12),x13,x14):Nat)+(mmTJournal.cnt ((x15,x16,x17),x18,x19,x20,x21):Nat)=k+(mmTBase.cnt ((x0,x1),((x2,x3,x4),(x5,x6,x7,x8),(x9,x10,x11,x12),x13,x14),((x15,x16,x17),x18,x19,x20,x21),x22,x23):Nat)):=by unfold Hid;first | (rw [HC.out];done) | (rw [HC.out];omega)
 refine MarkV.mk HE ?_ on3
 rw [hbe]
 have hmk:mmTBase.mark ((x0,x1),((x2,x3,x4),(x5,x6,x7,x8),(x9,x10,x11,x12),x13,x14),((x15,x16,x17),x18,x19,x20,x21),x22,x23) k=(mmTBtree.mark (x0,x1) (k),mmTCache.mark ((x2,x3,x4),(x5,x6,x7,x8),(x9,x10,x11,x12),x13,x14) (k+(mmTBtree.cnt (x0,x1):Nat)),mmTJournal.mark ((x15,x16,x17),x18,x19,x20,x21) (k+(mmTBtree.cnt (x0,x1):Nat)+(mmTCache.cnt ((x2,x3,x4),(x5,x6,x7,x8),(x9,x10,x11,x12),x13,x14):Nat)),x22,x23):=by simp [mmTBase,mkP,mk0,mkL]
 rw [hmk]
 have hfin:shBase.own w3 lo hi _ (mmTBtree.mark (x0,x1) (k),mmTCache.mark ((x2,x3,x4),(x5,x6,x7,x8),(x9,x10,x11,x12),x13,x14) (k+(mmTBtree.cnt (x0,x1):Nat)),mmTJournal.mark ((x15,x16,x17),x18,x19,x20,x21) (k+(mmTBtree.cnt (x0,x1):Nat)+(mmTCache.cnt ((x2,x3,x4),(x5,x6,x7,x8),(x9,x10,x11,x12),x13,x14):Nat)),x22,x23) _:=(mkO_P (a:=shBtree) (x:=(mmTBtree.mark (x0,x1) (k),mmTCache.mark ((x2,x3,x4),(x5,x6,x7,x8),(x9,x10,x11,x12),x13,x14) (k+(mmTBtree.cnt (x0,x1):Nat)),mmTJournal.mark ((x15,x16,x17),x18,x19,x20,x21) (k+(mmTBtree.cnt (x0,x1):Nat)+(mmTCache.cnt ((x2,x3,x4),(x5,x6,x7,x8),(x9,x10,x11,x12),x13,x14):Nat)),x22,x23)) good_Btree n3_0 (mkO_P (a:=shCache) (x:=(mmTCache.mark ((x2,x3,x4),(x5,x6,x7,x8),(x9,x10,x11,x12),x13,x14) (k+(mmTBtree.cnt (x0,x1):Nat)),mmTJournal.mark ((x15,x16,x17),x18,x19,x20,x21) (k+(mmTBtree.cnt (x0,x1):Nat)+(mmTCache.cnt ((x2,x3,x4),(x5,x6,x7,x8),(x9,x10,x11,x12),x13,x14):Nat)),x22,x23)) good_Cache n3_2 (mkO_P (a:=shJournal) (x:=(mmTJournal.mark ((x15,x16,x17),x18,x19,x20,x21) (k+(mmTBtree.cnt (x0,x1):Nat)+(mmTCache.cnt ((x2,x3,x4),(x5,x6,x7,x8),(x9,x10,x11,x12),x13,x14):Nat)),x22,x23)) good_Journal t3 (mkO_P (a:=shI) (x:=(x22,x23)) good_I ⟨⟨rfl,f22⟩,rfl⟩ ⟨⟨rfl,f23⟩,rfl⟩))))
 simpa using hfin
theorem c_heldBase (v:Value) (x:TBase) (k:Int) (w:World) (h:AV shBase w v x) (hm:mmTBase.mark x k=x) (hk0:0<k) (hk1:k+(mmTBase.cnt x:Nat)≤1000000000) :
   Calls Tryz.prog 10 #[v,.int .i64 k] w (HeldP (k+(mmTBase.cnt x:Nat)) w):=by
 obtain ⟨cs,rfl,h⟩:=h
 obtain ⟨⟨x0,x1⟩,⟨⟨x2,x3,x4⟩,⟨x5,x6,x7,x8⟩,⟨x9,x10,x11,x12⟩,x13,x14⟩,⟨⟨x15,x16,x17⟩,x18,x19,x20,x21⟩,x22,x23⟩:=x
 have ho:=openBase h
 try dsimp only at ho
 obtain ⟨A1,c1,A3,c3,A4,c4,A8,c8,A12,c12,A13,c13,A14,c14,A16,c16,A17,c17,rfl,b0,b1,b2,b3,b4,b5,b6,b7,b8,b9,b10,b11,b12,b13,b14,b15,b16,b17,b18,b19,b20,b21,b22,b23⟩:=ho
 have hcn:mmTBase.cnt ((x0,x1),((x2,x3,x4),(x5,x6,x7,x8),(x9,x10,x11,x12),x13,x14),((x15,x16,x17),x18,x19,x20,x21),x22,x23)=mmTBtree.cnt (x0,x1)+(mmTCache.cnt ((x2,x3,x4),(x5,x6,x7,x8),(x9,x10,x11,x12),x13,x14)+(mmTJournal.cnt ((x15,x16,x17),x18,x19,x20,x21)+(0+(0)))):=rfl
 rw [hcn] at hk1
 have HC:=Lib.hid hcn;clear hcn
 have hv0:Hid (mmTBtree.mark (x0,x1) (k)=(x0,x1)):=by have:=congrArg (fun q:TBase=>q.1) hm;unfold Hid;exact Eq.trans (by first | rfl | simp [mmTBase,mkP,mk0,mkL]) this
 have hv2:Hid (mmTCache.mark ((x2,x3,x4),(x5,x6,x7,x8),(x9,x10,x11,x12),x13,x14) (k+(mmTBtree.cnt (x0,x1):Nat))=((x2,x3,x4),(x5,x6,x7,x8),(x9,x10,x11,x12),x13,x14)):=by have:=congrArg (fun q:TBase=>q.2.1) hm;unfold Hid;exact Eq.trans (by first | rfl | simp [mmTBase,mkP,mk0,mkL]) this
 have hv15:Hid (mmTJournal.mark ((x15,x16,x17),x18,x19,x20,x21) (k+(mmTBtree.cnt (x0,x1):Nat)+(mmTCache.cnt ((x2,x3,x4),(x5,x6,x7,x8),(x9,x10,x11,x12),x13,x14):Nat))=((x15,x16,x17),x18,x19,x20,x21)):=by have:=congrArg (fun q:TBase=>q.2.2.1) hm;unfold Hid;exact Eq.trans (by first | rfl | simp [mmTBase,mkP,mk0,mkL]) this
 clear hm
 have kk0:Bk (w.alloc (.cells #[.int .i64 x0,.slice A1 x1.length c1,.int .i64 x2,.slice A3 x3.length c3,.slice A4 x4.length c4,.int .i64 x5,.int .i64 x6,.int .i64 x7,.slice A8 x8.length c8,.int .i64 x9,.int .i64 x10,.int .i64 x11,.slice A12 x12.length c12,.slice A13 x13.length c13,.slice A14 x14.length c14,.int .i64 x15,.slice A16 x16.length c16,.slice A17 x17.length c17,.int .i64 x18,.int .i64 x19,.int .i64 x20,.int .i64 x21,.int .i64 x22,.int .i64 x23] 54)) w.heap.size 54 #[.int .i64 x0,.slice A1 x1.length c1,.int .i64 x2,.slice A3 x3.length c3,.slice A4 x4.length c4,.int .i64 x5,.int .i64 x6,.int .i64 x7,.slice A8 x8.length c8,.int .i64 x9,.int .i64 x10,.int .i64 x11,.slice A12 x12.length c12,.slice A13 x13.length c13,.slice A14 x14.length c14,.int .i64 x15,.slice A16 x16.length c16,.slice A17 x17.length c17,.int .i64 x18,.int .i64 x19,.int .i64 x20,.int .i64 x21,.int .i64 x22,.int .i64 x23]:=Bk.new _ _ _
 have uu0:Up w (w.alloc (.cells #[.int .i64 x0,.slice A1 x1.length c1,.int .i64 x2,.slice A3 x3.length c3,.slice A4 x4.length c4,.int .i64 x5,.int .i64 x6,.int .i64 x7,.slice A8 x8.length c8,.int .i64 x9,.int .i64 x10,.int .i64 x11,.slice A12 x12.length c12,.slice A13 x13.length c13,.slice A14 x14.length c14,.int .i64 x15,.slice A16 x16.length c16,.slice A17 x17.length c17,.int .i64 x18,.int .i64 x19,.int .i64 x20,.int .i64 x21,.int .i64 x22,.int .i64 x23] 54)):=(Up.refl _).alloc _
 go_enter Tryz.func10,Tryz.ntmps10
 go_wp2_with fail
 refine (c_heldBtree _ (x0,x1) _ _ ⟨_,rfl,mkBtree (x:=(x0,x1)) b0 (b1.up good_Slot uu0)⟩ hv0.out (by omega) (by omega)).mono ?_
 rintro e w1 ⟨rfl,u1⟩
 have uu1:=uu0.trans u1
 have kk1:=kk0.up u1
 have g1_1:w1.cell? ⟨w.heap.size,1,none⟩=some (.slice A1 x1.length c1):=kk1.cell 1
 have g1_2:w1.cell? ⟨w.heap.size,2,none⟩=some (.int .i64 x2):=kk1.cell 2
 have g1_3:w1.cell? ⟨w.heap.size,3,none⟩=some (.slice A3 x3.length c3):=kk1.cell 3
 have g1_4:w1.cell? ⟨w.heap.size,4,none⟩=some (.slice A4 x4.length c4):=kk1.cell 4
 have g1_5:w1.cell? ⟨w.heap.size,5,none⟩=some (.int .i64 x5):=kk1.cell 5
 have g1_6:w1.cell? ⟨w.heap.size,6,none⟩=some (.int .i64 x6):=kk1.cell 6
 have g1_7:w1.cell? ⟨w.heap.size,7,none⟩=some (.int .i64 x7):=kk1.cell 7
 have g1_8:w1.cell? ⟨w.heap.size,8,none⟩=some (.slice A8 x8.length c8):=kk1.cell 8
 have g1_9:w1.cell? ⟨w.heap.size,9,none⟩=some (.int .i64 x9):=kk1.cell 9
 have g1_10:w1.cell? ⟨w.heap.size,10,none⟩=some (.int .i64 x10):=kk1.cell 10
 have g1_11:w1.cell? ⟨w.heap.size,11,none⟩=some (.int .i64 x11):=kk1.cell 11
 have g1_12:w1.cell? ⟨w.heap.size,12,none⟩=some (.slice A12 x12.length c12):=kk1.cell 12
 have g1_13:w1.cell? ⟨w.heap.size,13,none⟩=some (.slice A13 x13.length c13):=kk1.cell 13
 have g1_14:w1.cell? ⟨w.heap.size,14,none⟩=some (.slice A14 x14.length c14):=kk1.cell 14
 have g1_15:w1.cell? ⟨w.heap.size,15,none⟩=some (.int .i64 x15):=kk1.cell 15
 have g1_16:w1.cell? ⟨w.heap.size,16,none⟩=some (.slice A16 x16.length c16):=kk1.cell 16
 have g1_17:w1.cell? ⟨w.heap.size,17,none⟩=some (.slice A17 x17.length c17):=kk1.cell 17
 have g1_18:w1.cell? ⟨w.heap.size,18,none⟩=some (.int .i64 x18):=kk1.cell 18
 have g1_19:w1.cell? ⟨w.heap.size,19,none⟩=some (.int .i64 x19):=kk1.cell 19
 have g1_20:w1.cell? ⟨w.heap.size,20,none⟩=some (.int .i64 x20):=kk1.cell 20
 have g1_21:w1.cell? ⟨w.heap.size,21,none⟩=some (.int .i64 x21):=kk1.cell 21
 have g1_22:w1.cell? ⟨w.heap.size,22,none⟩=some (.int .i64 x22):=kk1.cell 22
 have g1_23:w1.cell? ⟨w.heap.size,23,none⟩=some (.int .i64 x23):=kk1.cell 23
 clear u1
 go_wp2_with fail
 refine (c_heldCache _ ((x2,x3,x4),(x5,x6,x7,x8),(x9,x10,x11,x12),x13,x14) _ _ ⟨_,rfl,mkCache (x:=((x2,x3,x4),(x5,x6,x7,x8),(x9,x10,x11,x12),x13,x14)) b2 (b3.up good_S uu1) (b4.up good_Put uu1) b5 b6 b7 (b8.up good_Seat uu1) b9 b10 b11 (b12.up good_Seat uu1) (b13.up good_Seat uu1) (b14.up good_I uu1)⟩ hv2.out (by omega) (by omega)).mono ?_
 rintro e w2 ⟨rfl,u2⟩
 have uu2:=uu1.trans u2
 have kk2:=kk1.up u2
 have g2_3:w2.cell? ⟨w.heap.size,3,none⟩=some (.slice A3 x3.length c3):=kk2.cell 3
 have g2_4:w2.cell? ⟨w.heap.size,4,none⟩=some (.slice A4 x4.length c4):=kk2.cell 4
 have g2_5:w2.cell? ⟨w.heap.size,5,none⟩=some (.int .i64 x5):=kk2.cell 5
 have g2_6:w2.cell? ⟨w.heap.size,6,none⟩=some (.int .i64 x6):=kk2.cell 6
 have g2_7:w2.cell? ⟨w.heap.size,7,none⟩=some (.int .i64 x7):=kk2.cell 7
 have g2_8:w2.cell? ⟨w.heap.size,8,none⟩=some (.slice A8 x8.length c8):=kk2.cell 8
 have g2_9:w2.cell? ⟨w.heap.size,9,none⟩=some (.int .i64 x9):=kk2.cell 9
 have g2_10:w2.cell? ⟨w.heap.size,10,none⟩=some (.int .i64 x10):=kk2.cell 10
 have g2_11:w2.cell? ⟨w.heap.size,11,none⟩=some (.int .i64 x11):=kk2.cell 11
 have g2_12:w2.cell? ⟨w.heap.size,12,none⟩=some (.slice A12 x12.length c12):=kk2.cell 12
 have g2_13:w2.cell? ⟨w.heap.size,13,none⟩=some (.slice A13 x13.length c13):=kk2.cell 13
 have g2_14:w2.cell? ⟨w.heap.size,14,none⟩=some (.slice A14 x14.length c14):=kk2.cell 14
 have g2_15:w2.cell? ⟨w.heap.size,15,none⟩=some (.int .i64 x15):=kk2.cell 15
 have g2_16:w2.cell? ⟨w.heap.size,16,none⟩=some (.slice A16 x16.length c16):=kk2.cell 16
 have g2_17:w2.cell? ⟨w.heap.size,17,none⟩=some (.slice A17 x17.length c17):=kk2.cell 17
 have g2_18:w2.cell? ⟨w.heap.size,18,none⟩=some (.int .i64 x18):=kk2.cell 18
 have g2_19:w2.cell? ⟨w.heap.size,19,none⟩=some (.int .i64 x19):=kk2.cell 19
 have g2_20:w2.cell? ⟨w.heap.size,20,none⟩=some (.int .i64 x20):=kk2.cell 20
 have g2_21:w2.cell? ⟨w.heap.size,21,none⟩=some (.int .i64 x21):=kk2.cell 21
 have g2_22:w2.cell? ⟨w.heap.size,22,none⟩=some (.int .i64 x22):=kk2.cell 22
 have g2_23:w2.cell? ⟨w.heap.size,23,none⟩=some (.int .i64 x23):=kk2.cell 23
 clear u2
 go_wp2_with fail
 refine (c_heldJournal _ ((x15,x16,x17),x18,x19,x20,x21) _ _ ⟨_,rfl,mkJournal (x:=((x15,x16,x17),x18,x19,x20,x21)) b15 (b16.up good_S uu2) (b17.up good_Put uu2) b18 b19 b20 b21⟩ hv15.out (by omega) (by omega)).mono ?_
 rintro e w3 ⟨rfl,u3⟩
 have uu3:=uu2.trans u3
 have kk3:=kk2.up u3
 have g3_16:w3.cell? ⟨w.heap.size,16,none⟩=some (.slice A16 x16.length c16):=kk3.cell 16
 have g3_17:w3.cell? ⟨w.heap.size,17,none⟩=some (.slice A17 x17.length c17):=kk3.cell 17
 have g3_18:w3.cell? ⟨w.heap.size,18,none⟩=some (.int .i64 x18):=kk3.cell 18
 have g3_19:w3.cell? ⟨w.heap.size,19,none⟩=some (.int .i64 x19):=kk3.cell 19
 have g3_20:w3.cell? ⟨w.heap.size,20,none⟩=some (.int .i64 x20):=kk3.cell 20
 have g3_21:w3.cell? ⟨w.heap.size,21,none⟩=some (.int .i64 x21):=kk3.cell 21
 have g3_22:w3.cell? ⟨w.heap.size,22,none⟩=some (.int .i64 x22):=kk3.cell 22
 have g3_23:w3.cell? ⟨w.heap.size,23,none⟩=some (.int .i64 x23):=kk3.cell 23
 clear u3
 go_wp2_with fail
 go_ret
 exact HeldP.mk (by unfold Hid;first | (rw [HC.out];done) | (rw [HC.out];omega)) uu3
end Go.Proofs.YthdnicfbnihoaaaGreatDoor
