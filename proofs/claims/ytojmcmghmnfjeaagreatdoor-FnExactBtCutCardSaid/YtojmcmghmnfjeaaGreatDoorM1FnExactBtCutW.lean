/-
 Parts of the proof.
-/
import Derived.Test.YtojmcmghmnfjeaaGreatDoorM1Wig
set_option maxHeartbeats 16000000
set_option maxRecDepth 100000
namespace Go.Proofs.YtojmcmghmnfjeaaGreatDoor
open Go.RowKit
set_option linter.unusedVariables false
set_option linter.unusedSimpArgs false
theorem w0_FnExactBtCut (w:World) (v0:Value) (x0:TBtree) (h0:AV shBtree w v0 x0) (s1:ByteArray) (h1:s1.size≤maxLen) (htab:Tab w) (hmx:MaxL w) :
 Calls Tryz.prog 3 #[v0,.string s1] w fun e w'=>e=.returned (.bool true)∧Up w w':=by
 have hv0:=h0
 obtain ⟨cs0,rfl,h0⟩:=h0
 obtain ⟨A0_1,c0_1,rfl,_⟩:=openBtree h0
 clear h0
 have hm1:=h1;unfold maxLen at hm1
 have ka0_0:Bk (w.alloc (.cells #[.int .i64 x0.1,.slice A0_1 x0.2.length c0_1] 24)) (w.heap.size) 24 #[.int .i64 x0.1,.slice A0_1 x0.2.length c0_1]:=by simpa using Bk.new w 24 #[.int .i64 x0.1,.slice A0_1 x0.2.length c0_1]
 have uu0:Up w (w.alloc (.cells #[.int .i64 x0.1,.slice A0_1 x0.2.length c0_1] 24)):=(Up.refl w).alloc _
 have zs0:=uu0.size
 have zs0b:(w.alloc (.cells #[.int .i64 x0.1,.slice A0_1 x0.2.length c0_1] 24)).heap.size=w.heap.size+1:=by simp
 go_enter Tryz.func3,Tryz.ntmps3
 go_wp2_with fail
 ·go_ret
  exact ⟨rfl,uu0⟩
 refine (c_szBtree _ x0 _ _ (hv0.up good_Btree uu0) (by omega) (by omega)).mono ?_
 rintro e w1 ⟨rfl,u1⟩
 have uu1:=uu0.trans u1
 have zs1:=u1.size
 have ka0_1:=ka0_0.up u1
 by_cases q0:¬((shBtree.sz x0:Nat):Int)≤1048576
 ·rw [szR_no (by omega)]
  go_wp2_with fail
  go_ret
  exact ⟨rfl,uu1⟩
 replace q0:=Decidable.of_not_not q0
 rw [szR_yes q0]
 have ga0_1_0:w1.cell? ⟨w.heap.size,0,none⟩=some (.int .i64 x0.1):=ka0_1.cell 0
 have ga0_1_1:w1.cell? ⟨w.heap.size,1,none⟩=some (.slice A0_1 x0.2.length c0_1):=ka0_1.cell 1
 have zza0_1:=ka0_1.lt
 clear u1
 go_wp2_with fail
 have hn0:shBtree.sz x0≤1048576:=by omega
 have hn1:s1.size≤1048576:=by omega
 refine (c_toBtree _ x0 _ (hv0.up good_Btree uu1) hn0).mono ?_
 rintro e w2 ⟨csp0,blp0,rfl,op0,ndp0,u2⟩
 obtain ⟨Dp0_1,dp0_1,_,rfl,_,_⟩:=openOBtree op0
 have uu2:=uu1.trans u2
 have zs2:=u2.size
 have ka0_2:=ka0_1.up u2
 clear ga0_1_0 ga0_1_1 zza0_1
 have ga0_2_0:w2.cell? ⟨w.heap.size,0,none⟩=some (.int .i64 x0.1):=ka0_2.cell 0
 have ga0_2_1:w2.cell? ⟨w.heap.size,1,none⟩=some (.slice A0_1 x0.2.length c0_1):=ka0_2.cell 1
 have zza0_2:=ka0_2.lt
 go_wp2_with fail
 refine (cs_BtCut _ x0 s1 _ ⟨_,rfl,good_Btree.wide (good_Btree.own_rep op0) (Nat.zero_le _) (by omega)⟩ hn0 h1 hn1).mono ?_
 rintro e w3 ⟨css,rfl,os,u3⟩
 obtain ⟨Ds_1,ds_1,rfl,_⟩:=openBtree os
 have uu3:=uu2.trans u3
 have zs3:=u3.size
 have ka0_3:=ka0_2.up u3
 have op0_3:=good_Btree.own_keep op0 (fun y hy=>u3.block y (Nat.lt_of_lt_of_le (good_Btree.own_in op0 y hy).2 (by omega)))
 have ua3:Up w3 (w3.alloc (.cells #[.int .i64 (btCut x0 s1).1,.slice Ds_1 (btCut x0 s1).2.length ds_1] 28)):=(Up.alloc (Up.refl w3) (.cells #[.int .i64 (btCut x0 s1).1,.slice Ds_1 (btCut x0 s1).2.length ds_1] 28))
 have za3:(w3.alloc (.cells #[.int .i64 (btCut x0 s1).1,.slice Ds_1 (btCut x0 s1).2.length ds_1] 28)).heap.size=w3.heap.size+1:=by simp
 have ub3:=uu3.trans ua3
 have ka0_3b:=ka0_3.up ua3
 have os_3b:=good_Btree.keep os (ua3.keeps (by omega))
 have kr_3b:Bk (w3.alloc (.cells #[.int .i64 (btCut x0 s1).1,.slice Ds_1 (btCut x0 s1).2.length ds_1] 28)) (w3.heap.size) 28 #[.int .i64 (btCut x0 s1).1,.slice Ds_1 (btCut x0 s1).2.length ds_1]:=Bk.new _ _ _
 clear ga0_2_0 ga0_2_1 zza0_2
 have ga0_3_0:(w3.alloc (.cells #[.int .i64 (btCut x0 s1).1,.slice Ds_1 (btCut x0 s1).2.length ds_1] 28)).cell? ⟨w.heap.size,0,none⟩=some (.int .i64 x0.1):=ka0_3b.cell 0
 have ga0_3_1:(w3.alloc (.cells #[.int .i64 (btCut x0 s1).1,.slice Ds_1 (btCut x0 s1).2.length ds_1] 28)).cell? ⟨w.heap.size,1,none⟩=some (.slice A0_1 x0.2.length c0_1):=ka0_3b.cell 1
 have zza0_3:=ka0_3b.lt
 have gr_3_0:(w3.alloc (.cells #[.int .i64 (btCut x0 s1).1,.slice Ds_1 (btCut x0 s1).2.length ds_1] 28)).cell? ⟨w3.heap.size,0,none⟩=some (.int .i64 (btCut x0 s1).1):=kr_3b.cell 0
 have gr_3_1:(w3.alloc (.cells #[.int .i64 (btCut x0 s1).1,.slice Ds_1 (btCut x0 s1).2.length ds_1] 28)).cell? ⟨w3.heap.size,1,none⟩=some (.slice Ds_1 (btCut x0 s1).2.length ds_1):=kr_3b.cell 1
 have zzr_3:=kr_3b.lt
 go_wp2_with fail
 refine (c_toBtree _ x0 _ (hv0.up good_Btree ub3) hn0).mono ?_
 rintro e w4 ⟨csx0,blx0,rfl,ox0,ndx0,u4⟩
 obtain ⟨Dx0_1,dx0_1,_,rfl,_,_⟩:=openOBtree ox0
 have uu4:=ub3.trans u4
 have zs4:=u4.size
 have ka0_4:=ka0_3b.up u4
 have kr_4:=kr_3b.up u4
 have os_4:=good_Btree.keep os_3b (u4.keeps (by omega))
 clear os_3b
 clear ga0_3_0 ga0_3_1 zza0_3 gr_3_0 gr_3_1 zzr_3
 have ga0_4_0:w4.cell? ⟨w.heap.size,0,none⟩=some (.int .i64 x0.1):=ka0_4.cell 0
 have ga0_4_1:w4.cell? ⟨w.heap.size,1,none⟩=some (.slice A0_1 x0.2.length c0_1):=ka0_4.cell 1
 have zza0_4:=ka0_4.lt
 have gr_4_0:w4.cell? ⟨w3.heap.size,0,none⟩=some (.int .i64 (btCut x0 s1).1):=kr_4.cell 0
 have gr_4_1:w4.cell? ⟨w3.heap.size,1,none⟩=some (.slice Ds_1 (btCut x0 s1).2.length ds_1):=kr_4.cell 1
 have zzr_4:=kr_4.lt
 have ua4:Up w4 (w4.alloc (.cells #[.int .i64 x0.1,.slice Dx0_1 x0.2.length dx0_1] 28)):=(Up.alloc (Up.refl w4) (.cells #[.int .i64 x0.1,.slice Dx0_1 x0.2.length dx0_1] 28))
 have za4:(w4.alloc (.cells #[.int .i64 x0.1,.slice Dx0_1 x0.2.length dx0_1] 28)).heap.size=w4.heap.size+1:=by simp
 have ub4:=uu4.trans ua4
 have ka0_4b:=ka0_4.up ua4
 have kr_4b:=kr_4.up ua4
 have os_4b:=good_Btree.keep os_4 (ua4.keeps (by omega))
 clear os_4
 have ox0_4b:=good_Btree.own_keep ox0 (fun y hy=>ua4.block y (Nat.lt_of_lt_of_le (good_Btree.own_in ox0 y hy).2 (by omega)))
 have kx0_4b:Bk (w4.alloc (.cells #[.int .i64 x0.1,.slice Dx0_1 x0.2.length dx0_1] 28)) (w4.heap.size) 28 #[.int .i64 x0.1,.slice Dx0_1 x0.2.length dx0_1]:=Bk.new _ _ _
 clear ga0_4_0 ga0_4_1 zza0_4 gr_4_0 gr_4_1 zzr_4
 have ga0_4_0:(w4.alloc (.cells #[.int .i64 x0.1,.slice Dx0_1 x0.2.length dx0_1] 28)).cell? ⟨w.heap.size,0,none⟩=some (.int .i64 x0.1):=ka0_4b.cell 0
 have ga0_4_1:(w4.alloc (.cells #[.int .i64 x0.1,.slice Dx0_1 x0.2.length dx0_1] 28)).cell? ⟨w.heap.size,1,none⟩=some (.slice A0_1 x0.2.length c0_1):=ka0_4b.cell 1
 have zza0_4:=ka0_4b.lt
 have gr_4_0:(w4.alloc (.cells #[.int .i64 x0.1,.slice Dx0_1 x0.2.length dx0_1] 28)).cell? ⟨w3.heap.size,0,none⟩=some (.int .i64 (btCut x0 s1).1):=kr_4b.cell 0
 have gr_4_1:(w4.alloc (.cells #[.int .i64 x0.1,.slice Dx0_1 x0.2.length dx0_1] 28)).cell? ⟨w3.heap.size,1,none⟩=some (.slice Ds_1 (btCut x0 s1).2.length ds_1):=kr_4b.cell 1
 have zzr_4:=kr_4b.lt
 have gx0_4_0:(w4.alloc (.cells #[.int .i64 x0.1,.slice Dx0_1 x0.2.length dx0_1] 28)).cell? ⟨w4.heap.size,0,none⟩=some (.int .i64 x0.1):=kx0_4b.cell 0
 have gx0_4_1:(w4.alloc (.cells #[.int .i64 x0.1,.slice Dx0_1 x0.2.length dx0_1] 28)).cell? ⟨w4.heap.size,1,none⟩=some (.slice Dx0_1 x0.2.length dx0_1):=kx0_4b.cell 1
 have zzx0_4:=kx0_4b.lt
 go_wp2_with fail
 refine (ci_BtCut _ x0 s1 _ ⟨_,rfl,good_Btree.wide (good_Btree.own_rep ox0_4b) (Nat.zero_le _) (by omega)⟩ hn0 h1 hn1 (tab_up htab ub4) (maxL_up hmx ub4)).mono ?_
 rintro e w5 ⟨csg,blg,rfl,og,ndg,u5⟩
 obtain ⟨Dg_1,dg_1,_,rfl,_,_⟩:=openOBtree og
 have uu5:=ub4.trans u5
 have zs5:=u5.size
 have ka0_5:=ka0_4b.up u5
 have kr_5:=kr_4b.up u5
 have kx0_5:=kx0_4b.up u5
 have os_5:=good_Btree.keep os_4b (u5.keeps (by omega))
 clear os_4b
 have ox0_5:=good_Btree.own_keep ox0_4b (fun y hy=>u5.block y (Nat.lt_of_lt_of_le (good_Btree.own_in ox0_4b y hy).2 (by omega)))
 clear ox0_4b
 have ua5:Up w5 (w5.alloc (.cells #[.int .i64 (btCut x0 s1).1,.slice Dg_1 (btCut x0 s1).2.length dg_1] 28)):=(Up.alloc (Up.refl w5) (.cells #[.int .i64 (btCut x0 s1).1,.slice Dg_1 (btCut x0 s1).2.length dg_1] 28))
 have za5:(w5.alloc (.cells #[.int .i64 (btCut x0 s1).1,.slice Dg_1 (btCut x0 s1).2.length dg_1] 28)).heap.size=w5.heap.size+1:=by simp
 have ub5:=uu5.trans ua5
 have ka0_5b:=ka0_5.up ua5
 have kr_5b:=kr_5.up ua5
 have kx0_5b:=kx0_5.up ua5
 have os_5b:=good_Btree.keep os_5 (ua5.keeps (by omega))
 clear os_5
 have ox0_5b:=good_Btree.own_keep ox0_5 (fun y hy=>ua5.block y (Nat.lt_of_lt_of_le (good_Btree.own_in ox0_5 y hy).2 (by omega)))
 clear ox0_5
 have og_5b:=good_Btree.own_keep og (fun y hy=>ua5.block y (Nat.lt_of_lt_of_le (good_Btree.own_in og y hy).2 (by omega)))
 have kg_5b:Bk (w5.alloc (.cells #[.int .i64 (btCut x0 s1).1,.slice Dg_1 (btCut x0 s1).2.length dg_1] 28)) (w5.heap.size) 28 #[.int .i64 (btCut x0 s1).1,.slice Dg_1 (btCut x0 s1).2.length dg_1]:=Bk.new _ _ _
 clear ga0_4_0 ga0_4_1 zza0_4 gr_4_0 gr_4_1 zzr_4 gx0_4_0 gx0_4_1 zzx0_4
 have ga0_5_0:(w5.alloc (.cells #[.int .i64 (btCut x0 s1).1,.slice Dg_1 (btCut x0 s1).2.length dg_1] 28)).cell? ⟨w.heap.size,0,none⟩=some (.int .i64 x0.1):=ka0_5b.cell 0
 have ga0_5_1:(w5.alloc (.cells #[.int .i64 (btCut x0 s1).1,.slice Dg_1 (btCut x0 s1).2.length dg_1] 28)).cell? ⟨w.heap.size,1,none⟩=some (.slice A0_1 x0.2.length c0_1):=ka0_5b.cell 1
 have zza0_5:=ka0_5b.lt
 have gr_5_0:(w5.alloc (.cells #[.int .i64 (btCut x0 s1).1,.slice Dg_1 (btCut x0 s1).2.length dg_1] 28)).cell? ⟨w3.heap.size,0,none⟩=some (.int .i64 (btCut x0 s1).1):=kr_5b.cell 0
 have gr_5_1:(w5.alloc (.cells #[.int .i64 (btCut x0 s1).1,.slice Dg_1 (btCut x0 s1).2.length dg_1] 28)).cell? ⟨w3.heap.size,1,none⟩=some (.slice Ds_1 (btCut x0 s1).2.length ds_1):=kr_5b.cell 1
 have zzr_5:=kr_5b.lt
 have gx0_5_0:(w5.alloc (.cells #[.int .i64 (btCut x0 s1).1,.slice Dg_1 (btCut x0 s1).2.length dg_1] 28)).cell? ⟨w4.heap.size,0,none⟩=some (.int .i64 x0.1):=kx0_5b.cell 0
 have gx0_5_1:(w5.alloc (.cells #[.int .i64 (btCut x0 s1).1,.slice Dg_1 (btCut x0 s1).2.length dg_1] 28)).cell? ⟨w4.heap.size,1,none⟩=some (.slice Dx0_1 x0.2.length dx0_1):=kx0_5b.cell 1
 have zzx0_5:=kx0_5b.lt
 have gg_5_0:(w5.alloc (.cells #[.int .i64 (btCut x0 s1).1,.slice Dg_1 (btCut x0 s1).2.length dg_1] 28)).cell? ⟨w5.heap.size,0,none⟩=some (.int .i64 (btCut x0 s1).1):=kg_5b.cell 0
 have gg_5_1:(w5.alloc (.cells #[.int .i64 (btCut x0 s1).1,.slice Dg_1 (btCut x0 s1).2.length dg_1] 28)).cell? ⟨w5.heap.size,1,none⟩=some (.slice Dg_1 (btCut x0 s1).2.length dg_1):=kg_5b.cell 1
 have zzg_5:=kg_5b.lt
 go_wp2_with fail
 refine (c_eqBtree _ _ (btCut x0 s1) (btCut x0 s1) _ ⟨_,rfl,good_Btree.wide (good_Btree.own_rep og_5b) (Nat.zero_le _) (by omega)⟩ ⟨_,rfl,good_Btree.wide os_5b (Nat.le_refl _) (by omega)⟩).mono ?_
 rintro e w6 ⟨be0,rfl,hbe0,u6⟩
 have uu6:=ub5.trans u6
 have zs6:=u6.size
 have ka0_6:=ka0_5b.up u6
 have kr_6:=kr_5b.up u6
 have kx0_6:=kx0_5b.up u6
 have kg_6:=kg_5b.up u6
 have os_6:=good_Btree.keep os_5b (u6.keeps (by omega))
 clear os_5b
 have ox0_6:=good_Btree.own_keep ox0_5b (fun y hy=>u6.block y (Nat.lt_of_lt_of_le (good_Btree.own_in ox0_5b y hy).2 (by omega)))
 clear ox0_5b
 have og_6:=good_Btree.own_keep og_5b (fun y hy=>u6.block y (Nat.lt_of_lt_of_le (good_Btree.own_in og_5b y hy).2 (by omega)))
 clear og_5b
 obtain rfl:be0=true:=by simpa using hbe0
 clear hbe0 u6
 clear ga0_5_0 ga0_5_1 zza0_5 gr_5_0 gr_5_1 zzr_5 gx0_5_0 gx0_5_1 zzx0_5 gg_5_0 gg_5_1 zzg_5
 have ga0_6_0:w6.cell? ⟨w.heap.size,0,none⟩=some (.int .i64 x0.1):=ka0_6.cell 0
 have ga0_6_1:w6.cell? ⟨w.heap.size,1,none⟩=some (.slice A0_1 x0.2.length c0_1):=ka0_6.cell 1
 have zza0_6:=ka0_6.lt
 have gr_6_0:w6.cell? ⟨w3.heap.size,0,none⟩=some (.int .i64 (btCut x0 s1).1):=kr_6.cell 0
 have gr_6_1:w6.cell? ⟨w3.heap.size,1,none⟩=some (.slice Ds_1 (btCut x0 s1).2.length ds_1):=kr_6.cell 1
 have zzr_6:=kr_6.lt
 have gx0_6_0:w6.cell? ⟨w4.heap.size,0,none⟩=some (.int .i64 x0.1):=kx0_6.cell 0
 have gx0_6_1:w6.cell? ⟨w4.heap.size,1,none⟩=some (.slice Dx0_1 x0.2.length dx0_1):=kx0_6.cell 1
 have zzx0_6:=kx0_6.lt
 have gg_6_0:w6.cell? ⟨w5.heap.size,0,none⟩=some (.int .i64 (btCut x0 s1).1):=kg_6.cell 0
 have gg_6_1:w6.cell? ⟨w5.heap.size,1,none⟩=some (.slice Dg_1 (btCut x0 s1).2.length dg_1):=kg_6.cell 1
 have zzg_6:=kg_6.lt
 go_wp2_with fail
 go_region_held3 (fun W=>W.cell? ⟨w.heap.size,0,none⟩=some (.int .i64 x0.1)∧W.cell? ⟨w.heap.size,1,none⟩=some (.slice A0_1 x0.2.length c0_1)∧W.cell? ⟨w4.heap.size,0,none⟩=some (.int .i64 x0.1)∧W.cell? ⟨w4.heap.size,1,none⟩=some (.slice Dx0_1 x0.2.length dx0_1)) (first | exact ⟨ka0_6.cell 0,ka0_6.cell 1,kx0_6.cell 0,kx0_6.cell 1⟩ | exact ⟨ka0_7.cell 0,ka0_7.cell 1,kx0_7.cell 0,kx0_7.cell 1⟩ | exact ⟨ka0_8z.cell 0,ka0_8z.cell 1,kx0_8z.cell 0,kx0_8z.cell 1⟩) (first | (go_at_call 6;(with_reducible refine (c_toBtree _ x0 _ (hv0.up good_Btree uu6.drew) hn0).mono ?_);rintro e w7 ⟨cse0,ble0,rfl,oe0,nde0,u7⟩;have u7d:=Up.trans (Up.drew (Up.refl w6)) u7;have ye0:AV shBtree w7 (.agg #[.int .i64 x0.1,.slice Dx0_1 x0.2.length dx0_1]) x0:=⟨_,rfl,good_Btree.wide (good_Btree.keep (good_Btree.own_rep ox0_6) (u7d.keeps (by omega))) (Nat.zero_le _) (by have:=u7d.size;omega)⟩;have yce0:=AV.of_own good_Btree oe0;have ka0_7:=ka0_6.up u7d;have kx0_7:=kx0_6.up u7d) | (go_at_call 8;(with_reducible refine (c_eqBtree _ _ x0 x0 _ ye0 yce0).mono ?_);rintro e w8 ⟨be0,rfl,hbe0,u8⟩;have u8d:=u7d.trans u8;have ka0_8z:=ka0_6.up u8d;have kx0_8z:=kx0_6.up u8d))
 have uu8:=uu6.trans u8d
 have zs8:=u8d.size
 have ka0_8:=ka0_6.up u8d
 have kr_8:=kr_6.up u8d
 have kx0_8:=kx0_6.up u8d
 have kg_8:=kg_6.up u8d
 have os_8:=good_Btree.keep os_6 (u8d.keeps (by omega))
 clear os_6
 have ox0_8:=good_Btree.own_keep ox0_6 (fun y hy=>u8d.block y (Nat.lt_of_lt_of_le (good_Btree.own_in ox0_6 y hy).2 (by omega)))
 clear ox0_6
 have og_8:=good_Btree.own_keep og_6 (fun y hy=>u8d.block y (Nat.lt_of_lt_of_le (good_Btree.own_in og_6 y hy).2 (by omega)))
 clear og_6
 obtain rfl:be0=true:=by simpa using hbe0
 clear hbe0 u7 u7d u8 u8d ye0 yce0 oe0
 clear ka0_7 ka0_8z kx0_7 kx0_8z
 clear ga0_6_0 ga0_6_1 zza0_6 gr_6_0 gr_6_1 zzr_6 gx0_6_0 gx0_6_1 zzx0_6 gg_6_0 gg_6_1 zzg_6
 have ga0_8_0:w8.cell? ⟨w.heap.size,0,none⟩=some (.int .i64 x0.1):=ka0_8.cell 0
 have ga0_8_1:w8.cell? ⟨w.heap.size,1,none⟩=some (.slice A0_1 x0.2.length c0_1):=ka0_8.cell 1
 have zza0_8:=ka0_8.lt
 have gr_8_0:w8.cell? ⟨w3.heap.size,0,none⟩=some (.int .i64 (btCut x0 s1).1):=kr_8.cell 0
 have gr_8_1:w8.cell? ⟨w3.heap.size,1,none⟩=some (.slice Ds_1 (btCut x0 s1).2.length ds_1):=kr_8.cell 1
 have zzr_8:=kr_8.lt
 have gx0_8_0:w8.cell? ⟨w4.heap.size,0,none⟩=some (.int .i64 x0.1):=kx0_8.cell 0
 have gx0_8_1:w8.cell? ⟨w4.heap.size,1,none⟩=some (.slice Dx0_1 x0.2.length dx0_1):=kx0_8.cell 1
 have zzx0_8:=kx0_8.lt
 have gg_8_0:w8.cell? ⟨w5.heap.size,0,none⟩=some (.int .i64 (btCut x0 s1).1):=kg_8.cell 0
 have gg_8_1:w8.cell? ⟨w5.heap.size,1,none⟩=some (.slice Dg_1 (btCut x0 s1).2.length dg_1):=kg_8.cell 1
 have zzg_8:=kg_8.lt
 go_wp2_with fail
 have cbx0:(1:Int)+(mmTBtree.cnt x0:Nat)≤1000000000:=by have:=cnt_Btree x0 hn0;omega
 have cbg:(1:Int)+(mmTBtree.cnt (btCut x0 s1):Nat)≤1000000000:=cbg_BtCut x0 hn0 s1 hn1
 refine (c_markBtree _ (x0) _ ((w3.alloc (.cells #[.int .i64 (btCut x0 s1).1,.slice Ds_1 (btCut x0 s1).2.length ds_1] 28)).heap.size) (w4.heap.size) blx0 _ ox0_8 (by omega) ndx0 (by omega) (by simpa using cbx0)).mono ?_
 rintro e w9 ⟨rfl,mox0,oox0⟩
 have hm1009:∀y∈blx0,(w3.alloc (.cells #[.int .i64 (btCut x0 s1).1,.slice Ds_1 (btCut x0 s1).2.length ds_1] 28)).heap.size≤y∧y<w4.heap.size:=good_Btree.own_in ox0_8
 have uu9:=uu8.only oox0 (fun y hy=>by have:=(hm1009 y hy).1;omega)
 have zs9:=oox0.size
 have ka0_9:=ka0_8.only oox0 (fun hy=>by have:=hm1009 _ hy;omega)
 have kr_9:=kr_8.only oox0 (fun hy=>by have:=hm1009 _ hy;omega)
 have kx0_9:=kx0_8.only oox0 (fun hy=>by have:=hm1009 _ hy;omega)
 have kg_9:=kg_8.only oox0 (fun hy=>by have:=hm1009 _ hy;omega)
 have os_9:=good_Btree.keep os_8 (fun y _ hy=>oox0.block y (by omega) (fun hm=>by have h1:=hm1009 y hm;omega))
 clear os_8
 have og_9:=good_Btree.own_keep og_8 (fun y hy=>oox0.block y (Nat.lt_of_lt_of_le (good_Btree.own_in og_8 y hy).2 (by omega)) (fun hm=>by have h1:=hm1009 y hm;have h2:=good_Btree.own_in og_8 y hy;omega))
 clear og_8
 have mkx0:shBtree.own w9 ((w3.alloc (.cells #[.int .i64 (btCut x0 s1).1,.slice Ds_1 (btCut x0 s1).2.length ds_1] 28)).heap.size) (w4.heap.size) [.int .i64 x0.1,.slice Dx0_1 x0.2.length dx0_1] (mmTBtree.mark (x0) 1) blx0:=mox0
 clear mox0 oox0 ox0_8
 clear ga0_8_0 ga0_8_1 zza0_8 gr_8_0 gr_8_1 zzr_8 gx0_8_0 gx0_8_1 zzx0_8 gg_8_0 gg_8_1 zzg_8
 have ga0_9_0:w9.cell? ⟨w.heap.size,0,none⟩=some (.int .i64 x0.1):=ka0_9.cell 0
 have ga0_9_1:w9.cell? ⟨w.heap.size,1,none⟩=some (.slice A0_1 x0.2.length c0_1):=ka0_9.cell 1
 have zza0_9:=ka0_9.lt
 have gr_9_0:w9.cell? ⟨w3.heap.size,0,none⟩=some (.int .i64 (btCut x0 s1).1):=kr_9.cell 0
 have gr_9_1:w9.cell? ⟨w3.heap.size,1,none⟩=some (.slice Ds_1 (btCut x0 s1).2.length ds_1):=kr_9.cell 1
 have zzr_9:=kr_9.lt
 have gx0_9_0:w9.cell? ⟨w4.heap.size,0,none⟩=some (.int .i64 x0.1):=kx0_9.cell 0
 have gx0_9_1:w9.cell? ⟨w4.heap.size,1,none⟩=some (.slice Dx0_1 x0.2.length dx0_1):=kx0_9.cell 1
 have zzx0_9:=kx0_9.lt
 have gg_9_0:w9.cell? ⟨w5.heap.size,0,none⟩=some (.int .i64 (btCut x0 s1).1):=kg_9.cell 0
 have gg_9_1:w9.cell? ⟨w5.heap.size,1,none⟩=some (.slice Dg_1 (btCut x0 s1).2.length dg_1):=kg_9.cell 1
 have zzg_9:=kg_9.lt
 go_wp2_with fail
 refine (c_eqBtree _ _ (btCut x0 s1) (btCut x0 s1) _ ⟨_,rfl,good_Btree.wide (good_Btree.own_rep og_9) (Nat.zero_le _) (by omega)⟩ ⟨_,rfl,good_Btree.wide os_9 (Nat.le_refl _) (by omega)⟩).mono ?_
 rintro e w10 ⟨be1,rfl,hbe1,u10⟩
 have uu10:=uu9.trans u10
 have zs10:=u10.size
 have ka0_10:=ka0_9.up u10
 have kr_10:=kr_9.up u10
 have kx0_10:=kx0_9.up u10
 have kg_10:=kg_9.up u10
 have os_10:=good_Btree.keep os_9 (u10.keeps (by omega))
 clear os_9
 have mkx0_10:=good_Btree.own_keep mkx0 (fun y hy=>u10.block y (Nat.lt_of_lt_of_le (good_Btree.own_in mkx0 y hy).2 (by omega)))
 have og_10:=good_Btree.own_keep og_9 (fun y hy=>u10.block y (Nat.lt_of_lt_of_le (good_Btree.own_in og_9 y hy).2 (by omega)))
 clear og_9
 obtain rfl:be1=true:=by simpa using hbe1
 clear hbe1 u10
 clear ga0_9_0 ga0_9_1 zza0_9 gr_9_0 gr_9_1 zzr_9 gx0_9_0 gx0_9_1 zzx0_9 gg_9_0 gg_9_1 zzg_9
 have ga0_10_0:w10.cell? ⟨w.heap.size,0,none⟩=some (.int .i64 x0.1):=ka0_10.cell 0
 have ga0_10_1:w10.cell? ⟨w.heap.size,1,none⟩=some (.slice A0_1 x0.2.length c0_1):=ka0_10.cell 1
 have zza0_10:=ka0_10.lt
 have gr_10_0:w10.cell? ⟨w3.heap.size,0,none⟩=some (.int .i64 (btCut x0 s1).1):=kr_10.cell 0
 have gr_10_1:w10.cell? ⟨w3.heap.size,1,none⟩=some (.slice Ds_1 (btCut x0 s1).2.length ds_1):=kr_10.cell 1
 have zzr_10:=kr_10.lt
 have gx0_10_0:w10.cell? ⟨w4.heap.size,0,none⟩=some (.int .i64 x0.1):=kx0_10.cell 0
 have gx0_10_1:w10.cell? ⟨w4.heap.size,1,none⟩=some (.slice Dx0_1 x0.2.length dx0_1):=kx0_10.cell 1
 have zzx0_10:=kx0_10.lt
 have gg_10_0:w10.cell? ⟨w5.heap.size,0,none⟩=some (.int .i64 (btCut x0 s1).1):=kg_10.cell 0
 have gg_10_1:w10.cell? ⟨w5.heap.size,1,none⟩=some (.slice Dg_1 (btCut x0 s1).2.length dg_1):=kg_10.cell 1
 have zzg_10:=kg_10.lt
 go_wp2_with fail
 refine (c_markBtree _ (btCut x0 s1) _ ((w4.alloc (.cells #[.int .i64 x0.1,.slice Dx0_1 x0.2.length dx0_1] 28)).heap.size) (w5.heap.size) blg _ og_10 (by omega) ndg (by omega) (by simpa using cbg)).mono ?_
 rintro e w11 ⟨rfl,mog,oog⟩
 have hm1011:∀y∈blg,(w4.alloc (.cells #[.int .i64 x0.1,.slice Dx0_1 x0.2.length dx0_1] 28)).heap.size≤y∧y<w5.heap.size:=good_Btree.own_in og_10
 have uu11:=uu10.only oog (fun y hy=>by have:=(hm1011 y hy).1;omega)
 have zs11:=oog.size
 have ka0_11:=ka0_10.only oog (fun hy=>by have:=hm1011 _ hy;omega)
 have kr_11:=kr_10.only oog (fun hy=>by have:=hm1011 _ hy;omega)
 have kx0_11:=kx0_10.only oog (fun hy=>by have:=hm1011 _ hy;omega)
 have kg_11:=kg_10.only oog (fun hy=>by have:=hm1011 _ hy;omega)
 have os_11:=good_Btree.keep os_10 (fun y _ hy=>oog.block y (by omega) (fun hm=>by have h1:=hm1011 y hm;omega))
 clear os_10
 have mkx0_11:=good_Btree.own_keep mkx0_10 (fun y hy=>oog.block y (Nat.lt_of_lt_of_le (good_Btree.own_in mkx0_10 y hy).2 (by omega)) (fun hm=>by have h1:=hm1011 y hm;have h2:=good_Btree.own_in mkx0_10 y hy;omega))
 clear mkx0_10
 have mkg:shBtree.own w11 ((w4.alloc (.cells #[.int .i64 x0.1,.slice Dx0_1 x0.2.length dx0_1] 28)).heap.size) (w5.heap.size) [.int .i64 (btCut x0 s1).1,.slice Dg_1 (btCut x0 s1).2.length dg_1] (mmTBtree.mark (btCut x0 s1) 1) blg:=mog
 clear mog oog og_10
 clear ga0_10_0 ga0_10_1 zza0_10 gr_10_0 gr_10_1 zzr_10 gx0_10_0 gx0_10_1 zzx0_10 gg_10_0 gg_10_1 zzg_10
 have ga0_11_0:w11.cell? ⟨w.heap.size,0,none⟩=some (.int .i64 x0.1):=ka0_11.cell 0
 have ga0_11_1:w11.cell? ⟨w.heap.size,1,none⟩=some (.slice A0_1 x0.2.length c0_1):=ka0_11.cell 1
 have zza0_11:=ka0_11.lt
 have gr_11_0:w11.cell? ⟨w3.heap.size,0,none⟩=some (.int .i64 (btCut x0 s1).1):=kr_11.cell 0
 have gr_11_1:w11.cell? ⟨w3.heap.size,1,none⟩=some (.slice Ds_1 (btCut x0 s1).2.length ds_1):=kr_11.cell 1
 have zzr_11:=kr_11.lt
 have gx0_11_0:w11.cell? ⟨w4.heap.size,0,none⟩=some (.int .i64 x0.1):=kx0_11.cell 0
 have gx0_11_1:w11.cell? ⟨w4.heap.size,1,none⟩=some (.slice Dx0_1 x0.2.length dx0_1):=kx0_11.cell 1
 have zzx0_11:=kx0_11.lt
 have gg_11_0:w11.cell? ⟨w5.heap.size,0,none⟩=some (.int .i64 (btCut x0 s1).1):=kg_11.cell 0
 have gg_11_1:w11.cell? ⟨w5.heap.size,1,none⟩=some (.slice Dg_1 (btCut x0 s1).2.length dg_1):=kg_11.cell 1
 have zzg_11:=kg_11.lt
 go_wp2_with fail
 have hia:=gmT_Btree.idem (btCut x0 s1) 1
 have hsa:=gmT_Btree.same (btCut x0 s1) 1
 have hcba:(1:Int)+(mmTBtree.cnt (mmTBtree.mark (btCut x0 s1) 1):Nat)≤1000000000:=by rw [hsa];exact cbg
 refine (c_heldBtree _ (mmTBtree.mark (btCut x0 s1) 1) _ _ ⟨_,rfl,good_Btree.wide (good_Btree.own_rep mkg) (Nat.zero_le _) (by omega)⟩ hia (by omega) hcba).mono ?_
 rintro e w12 ⟨rfl,u12⟩
 have uu12:=uu11.trans u12
 have zs12:=u12.size
 have ka0_12:=ka0_11.up u12
 have kr_12:=kr_11.up u12
 have kx0_12:=kx0_11.up u12
 have kg_12:=kg_11.up u12
 have os_12:=good_Btree.keep os_11 (u12.keeps (by omega))
 clear os_11
 have mkx0_12:=good_Btree.own_keep mkx0_11 (fun y hy=>u12.block y (Nat.lt_of_lt_of_le (good_Btree.own_in mkx0_11 y hy).2 (by omega)))
 clear mkx0_11
 have mkg_12:=good_Btree.own_keep mkg (fun y hy=>u12.block y (Nat.lt_of_lt_of_le (good_Btree.own_in mkg y hy).2 (by omega)))
 rw [hsa]
 clear hia hsa hcba u12
 clear ga0_11_0 ga0_11_1 zza0_11 gr_11_0 gr_11_1 zzr_11 gx0_11_0 gx0_11_1 zzx0_11 gg_11_0 gg_11_1 zzg_11
 have ga0_12_0:w12.cell? ⟨w.heap.size,0,none⟩=some (.int .i64 x0.1):=ka0_12.cell 0
 have ga0_12_1:w12.cell? ⟨w.heap.size,1,none⟩=some (.slice A0_1 x0.2.length c0_1):=ka0_12.cell 1
 have zza0_12:=ka0_12.lt
 have gr_12_0:w12.cell? ⟨w3.heap.size,0,none⟩=some (.int .i64 (btCut x0 s1).1):=kr_12.cell 0
 have gr_12_1:w12.cell? ⟨w3.heap.size,1,none⟩=some (.slice Ds_1 (btCut x0 s1).2.length ds_1):=kr_12.cell 1
 have zzr_12:=kr_12.lt
 have gx0_12_0:w12.cell? ⟨w4.heap.size,0,none⟩=some (.int .i64 x0.1):=kx0_12.cell 0
 have gx0_12_1:w12.cell? ⟨w4.heap.size,1,none⟩=some (.slice Dx0_1 x0.2.length dx0_1):=kx0_12.cell 1
 have zzx0_12:=kx0_12.lt
 have gg_12_0:w12.cell? ⟨w5.heap.size,0,none⟩=some (.int .i64 (btCut x0 s1).1):=kg_12.cell 0
 have gg_12_1:w12.cell? ⟨w5.heap.size,1,none⟩=some (.slice Dg_1 (btCut x0 s1).2.length dg_1):=kg_12.cell 1
 have zzg_12:=kg_12.lt
 go_wp2_with fail
 refine (c_toBtree _ x0 _ (hv0.up good_Btree uu12) hn0).mono ?_
 rintro e w13 ⟨csz0,blz0,rfl,oz0,ndz0,u13⟩
 obtain ⟨Dz0_1,dz0_1,_,rfl,_,_⟩:=openOBtree oz0
 have uu13:=uu12.trans u13
 have zs13:=u13.size
 have ka0_13:=ka0_12.up u13
 have kr_13:=kr_12.up u13
 have kx0_13:=kx0_12.up u13
 have kg_13:=kg_12.up u13
 have os_13:=good_Btree.keep os_12 (u13.keeps (by omega))
 clear os_12
 have mkg_13:=good_Btree.own_keep mkg_12 (fun y hy=>u13.block y (Nat.lt_of_lt_of_le (good_Btree.own_in mkg_12 y hy).2 (by omega)))
 clear mkg_12
 clear ga0_12_0 ga0_12_1 zza0_12 gr_12_0 gr_12_1 zzr_12 gx0_12_0 gx0_12_1 zzx0_12 gg_12_0 gg_12_1 zzg_12
 have ga0_13_0:w13.cell? ⟨w.heap.size,0,none⟩=some (.int .i64 x0.1):=ka0_13.cell 0
 have ga0_13_1:w13.cell? ⟨w.heap.size,1,none⟩=some (.slice A0_1 x0.2.length c0_1):=ka0_13.cell 1
 have zza0_13:=ka0_13.lt
 have gr_13_0:w13.cell? ⟨w3.heap.size,0,none⟩=some (.int .i64 (btCut x0 s1).1):=kr_13.cell 0
 have gr_13_1:w13.cell? ⟨w3.heap.size,1,none⟩=some (.slice Ds_1 (btCut x0 s1).2.length ds_1):=kr_13.cell 1
 have zzr_13:=kr_13.lt
 have gx0_13_0:w13.cell? ⟨w4.heap.size,0,none⟩=some (.int .i64 x0.1):=kx0_13.cell 0
 have gx0_13_1:w13.cell? ⟨w4.heap.size,1,none⟩=some (.slice Dx0_1 x0.2.length dx0_1):=kx0_13.cell 1
 have zzx0_13:=kx0_13.lt
 have gg_13_0:w13.cell? ⟨w5.heap.size,0,none⟩=some (.int .i64 (btCut x0 s1).1):=kg_13.cell 0
 have gg_13_1:w13.cell? ⟨w5.heap.size,1,none⟩=some (.slice Dg_1 (btCut x0 s1).2.length dg_1):=kg_13.cell 1
 have zzg_13:=kg_13.lt
 go_wp2_with fail
 refine (ci_BtCut _ x0 s1 _ ⟨_,rfl,good_Btree.wide (good_Btree.own_rep oz0) (Nat.zero_le _) (by omega)⟩ hn0 h1 hn1 (tab_up htab uu13) (maxL_up hmx uu13)).mono ?_
 rintro e w14 ⟨csh,blh,rfl,oh,ndh,u14⟩
 obtain ⟨Dh_1,dh_1,_,rfl,_,_⟩:=openOBtree oh
 have uu14:=uu13.trans u14
 have zs14:=u14.size
 have ka0_14:=ka0_13.up u14
 have kr_14:=kr_13.up u14
 have kx0_14:=kx0_13.up u14
 have kg_14:=kg_13.up u14
 have os_14:=good_Btree.keep os_13 (u14.keeps (by omega))
 clear os_13
 have mkg_14:=good_Btree.own_keep mkg_13 (fun y hy=>u14.block y (Nat.lt_of_lt_of_le (good_Btree.own_in mkg_13 y hy).2 (by omega)))
 clear mkg_13
 have oz0_14:=good_Btree.own_keep oz0 (fun y hy=>u14.block y (Nat.lt_of_lt_of_le (good_Btree.own_in oz0 y hy).2 (by omega)))
 have ua14:Up w14 (w14.alloc (.cells #[.int .i64 (btCut x0 s1).1,.slice Dh_1 (btCut x0 s1).2.length dh_1] 28)):=(Up.alloc (Up.refl w14) (.cells #[.int .i64 (btCut x0 s1).1,.slice Dh_1 (btCut x0 s1).2.length dh_1] 28))
 have za14:(w14.alloc (.cells #[.int .i64 (btCut x0 s1).1,.slice Dh_1 (btCut x0 s1).2.length dh_1] 28)).heap.size=w14.heap.size+1:=by simp
 have ub14:=uu14.trans ua14
 have ka0_14b:=ka0_14.up ua14
 have kr_14b:=kr_14.up ua14
 have kx0_14b:=kx0_14.up ua14
 have kg_14b:=kg_14.up ua14
 have os_14b:=good_Btree.keep os_14 (ua14.keeps (by omega))
 clear os_14
 have mkg_14b:=good_Btree.own_keep mkg_14 (fun y hy=>ua14.block y (Nat.lt_of_lt_of_le (good_Btree.own_in mkg_14 y hy).2 (by omega)))
 clear mkg_14
 have oz0_14b:=good_Btree.own_keep oz0_14 (fun y hy=>ua14.block y (Nat.lt_of_lt_of_le (good_Btree.own_in oz0_14 y hy).2 (by omega)))
 clear oz0_14
 have oh_14b:=good_Btree.own_keep oh (fun y hy=>ua14.block y (Nat.lt_of_lt_of_le (good_Btree.own_in oh y hy).2 (by omega)))
 have kh_14b:Bk (w14.alloc (.cells #[.int .i64 (btCut x0 s1).1,.slice Dh_1 (btCut x0 s1).2.length dh_1] 28)) (w14.heap.size) 28 #[.int .i64 (btCut x0 s1).1,.slice Dh_1 (btCut x0 s1).2.length dh_1]:=Bk.new _ _ _
 clear ga0_13_0 ga0_13_1 zza0_13 gr_13_0 gr_13_1 zzr_13 gx0_13_0 gx0_13_1 zzx0_13 gg_13_0 gg_13_1 zzg_13
 have ga0_14_0:(w14.alloc (.cells #[.int .i64 (btCut x0 s1).1,.slice Dh_1 (btCut x0 s1).2.length dh_1] 28)).cell? ⟨w.heap.size,0,none⟩=some (.int .i64 x0.1):=ka0_14b.cell 0
 have ga0_14_1:(w14.alloc (.cells #[.int .i64 (btCut x0 s1).1,.slice Dh_1 (btCut x0 s1).2.length dh_1] 28)).cell? ⟨w.heap.size,1,none⟩=some (.slice A0_1 x0.2.length c0_1):=ka0_14b.cell 1
 have zza0_14:=ka0_14b.lt
 have gr_14_0:(w14.alloc (.cells #[.int .i64 (btCut x0 s1).1,.slice Dh_1 (btCut x0 s1).2.length dh_1] 28)).cell? ⟨w3.heap.size,0,none⟩=some (.int .i64 (btCut x0 s1).1):=kr_14b.cell 0
 have gr_14_1:(w14.alloc (.cells #[.int .i64 (btCut x0 s1).1,.slice Dh_1 (btCut x0 s1).2.length dh_1] 28)).cell? ⟨w3.heap.size,1,none⟩=some (.slice Ds_1 (btCut x0 s1).2.length ds_1):=kr_14b.cell 1
 have zzr_14:=kr_14b.lt
 have gx0_14_0:(w14.alloc (.cells #[.int .i64 (btCut x0 s1).1,.slice Dh_1 (btCut x0 s1).2.length dh_1] 28)).cell? ⟨w4.heap.size,0,none⟩=some (.int .i64 x0.1):=kx0_14b.cell 0
 have gx0_14_1:(w14.alloc (.cells #[.int .i64 (btCut x0 s1).1,.slice Dh_1 (btCut x0 s1).2.length dh_1] 28)).cell? ⟨w4.heap.size,1,none⟩=some (.slice Dx0_1 x0.2.length dx0_1):=kx0_14b.cell 1
 have zzx0_14:=kx0_14b.lt
 have gg_14_0:(w14.alloc (.cells #[.int .i64 (btCut x0 s1).1,.slice Dh_1 (btCut x0 s1).2.length dh_1] 28)).cell? ⟨w5.heap.size,0,none⟩=some (.int .i64 (btCut x0 s1).1):=kg_14b.cell 0
 have gg_14_1:(w14.alloc (.cells #[.int .i64 (btCut x0 s1).1,.slice Dh_1 (btCut x0 s1).2.length dh_1] 28)).cell? ⟨w5.heap.size,1,none⟩=some (.slice Dg_1 (btCut x0 s1).2.length dg_1):=kg_14b.cell 1
 have zzg_14:=kg_14b.lt
 have gh_14_0:(w14.alloc (.cells #[.int .i64 (btCut x0 s1).1,.slice Dh_1 (btCut x0 s1).2.length dh_1] 28)).cell? ⟨w14.heap.size,0,none⟩=some (.int .i64 (btCut x0 s1).1):=kh_14b.cell 0
 have gh_14_1:(w14.alloc (.cells #[.int .i64 (btCut x0 s1).1,.slice Dh_1 (btCut x0 s1).2.length dh_1] 28)).cell? ⟨w14.heap.size,1,none⟩=some (.slice Dh_1 (btCut x0 s1).2.length dh_1):=kh_14b.cell 1
 have zzh_14:=kh_14b.lt
 go_wp2_with fail
 refine (c_eqBtree _ _ (btCut x0 s1) (btCut x0 s1) _ ⟨_,rfl,good_Btree.wide (good_Btree.own_rep oh_14b) (Nat.zero_le _) (by omega)⟩ ⟨_,rfl,good_Btree.wide os_14b (Nat.le_refl _) (by omega)⟩).mono ?_
 rintro e w15 ⟨be2,rfl,hbe2,u15⟩
 have uu15:=ub14.trans u15
 have zs15:=u15.size
 have ka0_15:=ka0_14b.up u15
 have kr_15:=kr_14b.up u15
 have kx0_15:=kx0_14b.up u15
 have kg_15:=kg_14b.up u15
 have kh_15:=kh_14b.up u15
 have os_15:=good_Btree.keep os_14b (u15.keeps (by omega))
 clear os_14b
 have mkg_15:=good_Btree.own_keep mkg_14b (fun y hy=>u15.block y (Nat.lt_of_lt_of_le (good_Btree.own_in mkg_14b y hy).2 (by omega)))
 clear mkg_14b
 have oz0_15:=good_Btree.own_keep oz0_14b (fun y hy=>u15.block y (Nat.lt_of_lt_of_le (good_Btree.own_in oz0_14b y hy).2 (by omega)))
 clear oz0_14b
 have oh_15:=good_Btree.own_keep oh_14b (fun y hy=>u15.block y (Nat.lt_of_lt_of_le (good_Btree.own_in oh_14b y hy).2 (by omega)))
 clear oh_14b
 obtain rfl:be2=true:=by simpa using hbe2
 clear hbe2 u15
 clear ga0_14_0 ga0_14_1 zza0_14 gr_14_0 gr_14_1 zzr_14 gx0_14_0 gx0_14_1 zzx0_14 gg_14_0 gg_14_1 zzg_14 gh_14_0 gh_14_1 zzh_14
 have ga0_15_0:w15.cell? ⟨w.heap.size,0,none⟩=some (.int .i64 x0.1):=ka0_15.cell 0
 have ga0_15_1:w15.cell? ⟨w.heap.size,1,none⟩=some (.slice A0_1 x0.2.length c0_1):=ka0_15.cell 1
 have zza0_15:=ka0_15.lt
 have gr_15_0:w15.cell? ⟨w3.heap.size,0,none⟩=some (.int .i64 (btCut x0 s1).1):=kr_15.cell 0
 have gr_15_1:w15.cell? ⟨w3.heap.size,1,none⟩=some (.slice Ds_1 (btCut x0 s1).2.length ds_1):=kr_15.cell 1
 have zzr_15:=kr_15.lt
 have gx0_15_0:w15.cell? ⟨w4.heap.size,0,none⟩=some (.int .i64 x0.1):=kx0_15.cell 0
 have gx0_15_1:w15.cell? ⟨w4.heap.size,1,none⟩=some (.slice Dx0_1 x0.2.length dx0_1):=kx0_15.cell 1
 have zzx0_15:=kx0_15.lt
 have gg_15_0:w15.cell? ⟨w5.heap.size,0,none⟩=some (.int .i64 (btCut x0 s1).1):=kg_15.cell 0
 have gg_15_1:w15.cell? ⟨w5.heap.size,1,none⟩=some (.slice Dg_1 (btCut x0 s1).2.length dg_1):=kg_15.cell 1
 have zzg_15:=kg_15.lt
 have gh_15_0:w15.cell? ⟨w14.heap.size,0,none⟩=some (.int .i64 (btCut x0 s1).1):=kh_15.cell 0
 have gh_15_1:w15.cell? ⟨w14.heap.size,1,none⟩=some (.slice Dh_1 (btCut x0 s1).2.length dh_1):=kh_15.cell 1
 have zzh_15:=kh_15.lt
 go_wp2_with fail
 have hib:=gmT_Btree.idem (btCut x0 s1) 1
 have hsb:=gmT_Btree.same (btCut x0 s1) 1
 have hcbb:(1:Int)+(mmTBtree.cnt (mmTBtree.mark (btCut x0 s1) 1):Nat)≤1000000000:=by rw [hsb];exact cbg
 refine (c_heldBtree _ (mmTBtree.mark (btCut x0 s1) 1) _ _ ⟨_,rfl,good_Btree.wide (good_Btree.own_rep mkg_15) (Nat.zero_le _) (by omega)⟩ hib (by omega) hcbb).mono ?_
 rintro e w16 ⟨rfl,u16⟩
 have uu16:=uu15.trans u16
 have zs16:=u16.size
 have ka0_16:=ka0_15.up u16
 have kr_16:=kr_15.up u16
 have kx0_16:=kx0_15.up u16
 have kg_16:=kg_15.up u16
 have kh_16:=kh_15.up u16
 have os_16:=good_Btree.keep os_15 (u16.keeps (by omega))
 clear os_15
 have mkg_16:=good_Btree.own_keep mkg_15 (fun y hy=>u16.block y (Nat.lt_of_lt_of_le (good_Btree.own_in mkg_15 y hy).2 (by omega)))
 clear mkg_15
 have oz0_16:=good_Btree.own_keep oz0_15 (fun y hy=>u16.block y (Nat.lt_of_lt_of_le (good_Btree.own_in oz0_15 y hy).2 (by omega)))
 clear oz0_15
 have oh_16:=good_Btree.own_keep oh_15 (fun y hy=>u16.block y (Nat.lt_of_lt_of_le (good_Btree.own_in oh_15 y hy).2 (by omega)))
 clear oh_15
 rw [hsb]
 clear hib hsb hcbb u16
 clear ga0_15_0 ga0_15_1 zza0_15 gr_15_0 gr_15_1 zzr_15 gx0_15_0 gx0_15_1 zzx0_15 gg_15_0 gg_15_1 zzg_15 gh_15_0 gh_15_1 zzh_15
 have ga0_16_0:w16.cell? ⟨w.heap.size,0,none⟩=some (.int .i64 x0.1):=ka0_16.cell 0
 have ga0_16_1:w16.cell? ⟨w.heap.size,1,none⟩=some (.slice A0_1 x0.2.length c0_1):=ka0_16.cell 1
 have zza0_16:=ka0_16.lt
 have gr_16_0:w16.cell? ⟨w3.heap.size,0,none⟩=some (.int .i64 (btCut x0 s1).1):=kr_16.cell 0
 have gr_16_1:w16.cell? ⟨w3.heap.size,1,none⟩=some (.slice Ds_1 (btCut x0 s1).2.length ds_1):=kr_16.cell 1
 have zzr_16:=kr_16.lt
 have gx0_16_0:w16.cell? ⟨w4.heap.size,0,none⟩=some (.int .i64 x0.1):=kx0_16.cell 0
 have gx0_16_1:w16.cell? ⟨w4.heap.size,1,none⟩=some (.slice Dx0_1 x0.2.length dx0_1):=kx0_16.cell 1
 have zzx0_16:=kx0_16.lt
 have gg_16_0:w16.cell? ⟨w5.heap.size,0,none⟩=some (.int .i64 (btCut x0 s1).1):=kg_16.cell 0
 have gg_16_1:w16.cell? ⟨w5.heap.size,1,none⟩=some (.slice Dg_1 (btCut x0 s1).2.length dg_1):=kg_16.cell 1
 have zzg_16:=kg_16.lt
 have gh_16_0:w16.cell? ⟨w14.heap.size,0,none⟩=some (.int .i64 (btCut x0 s1).1):=kh_16.cell 0
 have gh_16_1:w16.cell? ⟨w14.heap.size,1,none⟩=some (.slice Dh_1 (btCut x0 s1).2.length dh_1):=kh_16.cell 1
 have zzh_16:=kh_16.lt
 go_wp2_with fail
 go_ret
 exact ⟨rfl,uu16⟩
end Go.Proofs.YtojmcmghmnfjeaaGreatDoor
