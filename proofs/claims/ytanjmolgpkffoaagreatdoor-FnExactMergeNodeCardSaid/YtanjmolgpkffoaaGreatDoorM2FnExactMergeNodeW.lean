/-
  The walk of FnExactMergeNode: for every input it returns true.
-/
import Derived.Test.YtanjmolgpkffoaaGreatDoorM2Mc
import Derived.Test.YtanjmolgpkffoaaGreatDoorM2J
import Derived.Test.YtanjmolgpkffoaaGreatDoorM2Le
import Derived.Test.YtanjmolgpkffoaaGreatDoorM2Lm
import Derived.Test.YtanjmolgpkffoaaGreatDoorM2M
import Derived.Deep.RegionHeld3
namespace Go.Proofs.YtanjmolgpkffoaaGreatDoor
open Go.RowKit
set_option linter.unusedVariables false
set_option linter.unusedSimpArgs false

set_option maxRecDepth 100000 in
set_option maxHeartbeats 16000000 in
theorem w0_FnExactMergeNode (w : World) (v0 : Value) (x0 : TTree) (h0 : AV shTree w v0 x0) (s1 : ByteArray) (h1 : s1.size ≤ maxLen) (A2 : Option Addr) (c2 : Nat) (x2 : List ByteArray) (h2 : SRW shS w A2 c2 x2) (s3 : ByteArray) (h3 : s3.size ≤ maxLen) (A4 : Option Addr) (c4 : Nat) (x4 : List ByteArray) (h4 : SRW shS w A4 c4 x4) (htab : Tab w) :
    Calls Tryz.prog 7 #[v0, .string s1, .slice A2 x2.length c2, .string s3, .slice A4 x4.length c4] w fun e w' => e = .returned (.bool true) ∧ Up w w' := by
  have hv0 := h0
  obtain ⟨cs0, rfl, h0⟩ := h0
  obtain ⟨A0_0, c0_0, rfl, _⟩ := openTree h0
  clear h0
  have hm1 := h1; unfold maxLen at hm1
  have hm3 := h3; unfold maxLen at hm3
  have ka0_0 : Bk (w.alloc (.cells #[.slice A0_0 x0.length c0_0] 24)) (w.heap.size) 24 #[.slice A0_0 x0.length c0_0] := by simpa using Bk.new w 24 #[.slice A0_0 x0.length c0_0]
  have uu0 : Up w (w.alloc (.cells #[.slice A0_0 x0.length c0_0] 24)) := (Up.refl w).alloc _
  have zs0 := uu0.size
  have zs0b : (w.alloc (.cells #[.slice A0_0 x0.length c0_0] 24)).heap.size = w.heap.size + 1 := by simp
  go_enter Tryz.func7, Tryz.ntmps7
  go_wp2_with fail
  · go_ret
    exact ⟨rfl, uu0⟩
  · go_ret
    exact ⟨rfl, uu0⟩
  refine (c_szTree _ x0 _ _ (hv0.up good_Tree uu0) (by omega) (by omega)).mono ?_
  rintro e w1 ⟨rfl, u1⟩
  have uu1 := uu0.trans u1
  have zs1 := u1.size
  have ka0_1 := ka0_0.up u1
  by_cases q0 : ¬ ((shTree.sz x0 : Nat) : Int) ≤ 1048576
  · rw [szR_no (by omega)]
    go_wp2_with fail
    go_ret
    exact ⟨rfl, uu1⟩
  replace q0 := Decidable.of_not_not q0
  rw [szR_yes q0]
  have ga0_1_0 : w1.cell? ⟨w.heap.size, 0, none⟩ = some (.slice A0_0 x0.length c0_0) := ka0_1.cell 0
  have zza0_1 := ka0_1.lt
  clear u1
  go_wp2_with fail
  refine (c_szStringS _ _ _ _ _ (h2.up good_S uu1) (by omega) (by omega)).mono ?_
  rintro e w2 ⟨rfl, u2⟩
  have uu2 := uu1.trans u2
  have zs2 := u2.size
  have ka0_2 := ka0_1.up u2
  by_cases q2 : ¬ (((shL shS).sz x2 : Nat) : Int) ≤ 1048576 - (shTree.sz x0 : Nat)
  · rw [szR_no (by omega)]
    go_wp2_with fail
    go_ret
    exact ⟨rfl, uu2⟩
  replace q2 := Decidable.of_not_not q2
  rw [szR_yes q2]
  clear ga0_1_0 zza0_1
  have ga0_2_0 : w2.cell? ⟨w.heap.size, 0, none⟩ = some (.slice A0_0 x0.length c0_0) := ka0_2.cell 0
  have zza0_2 := ka0_2.lt
  clear u2
  go_wp2_with fail
  refine (c_szStringS _ _ _ _ _ (h4.up good_S uu2) (by omega) (by omega)).mono ?_
  rintro e w3 ⟨rfl, u3⟩
  have uu3 := uu2.trans u3
  have zs3 := u3.size
  have ka0_3 := ka0_2.up u3
  by_cases q4 : ¬ (((shL shS).sz x4 : Nat) : Int) ≤ 1048576 - (shTree.sz x0 : Nat) - ((shL shS).sz x2 : Nat)
  · rw [szR_no (by omega)]
    go_wp2_with fail
    go_ret
    exact ⟨rfl, uu3⟩
  replace q4 := Decidable.of_not_not q4
  rw [szR_yes q4]
  clear ga0_2_0 zza0_2
  have ga0_3_0 : w3.cell? ⟨w.heap.size, 0, none⟩ = some (.slice A0_0 x0.length c0_0) := ka0_3.cell 0
  have zza0_3 := ka0_3.lt
  clear u3
  go_wp2_with fail
  have hn0 : shTree.sz x0 ≤ 1048576 := by omega
  have hn2 : (shL shS).sz x2 ≤ 1048576 := by omega
  have hn4 : (shL shS).sz x4 ≤ 1048576 := by omega
  have hn1 : s1.size ≤ 1048576 := by omega
  have hn3 : s3.size ≤ 1048576 := by omega
  refine (c_toTree _ x0 _ (hv0.up good_Tree uu3) hn0).mono ?_
  rintro e w4 ⟨csp0, blp0, rfl, op0, ndp0, u4⟩
  obtain ⟨Dp0_0, dp0_0, _, rfl, _, _⟩ := openOTree op0
  have uu4 := uu3.trans u4
  have zs4 := u4.size
  have ka0_4 := ka0_3.up u4
  clear ga0_3_0 zza0_3
  have ga0_4_0 : w4.cell? ⟨w.heap.size, 0, none⟩ = some (.slice A0_0 x0.length c0_0) := ka0_4.cell 0
  have zza0_4 := ka0_4.lt
  go_wp2_with fail
  refine (c_toStringS _ _ _ _ (h2.up good_S uu4) hn2).mono ?_
  rintro e w5 ⟨Dp2, dp2, blp2, rfl, oop2, ndp2, u5⟩
  have op2 : (shL shS).own w5 (w4.heap.size) w5.heap.size [.slice Dp2 x2.length dp2] x2 blp2 := ⟨_, _, rfl, oop2⟩
  have uu5 := uu4.trans u5
  have zs5 := u5.size
  have ka0_5 := ka0_4.up u5
  have op0_5 := good_Tree.own_keep op0 (fun y hy => u5.block y (Nat.lt_of_lt_of_le (good_Tree.own_in op0 y hy).2 (by omega)))
  clear ga0_4_0 zza0_4
  have ga0_5_0 : w5.cell? ⟨w.heap.size, 0, none⟩ = some (.slice A0_0 x0.length c0_0) := ka0_5.cell 0
  have zza0_5 := ka0_5.lt
  go_wp2_with fail
  refine (c_toStringS _ _ _ _ (h4.up good_S uu5) hn4).mono ?_
  rintro e w6 ⟨Dp4, dp4, blp4, rfl, oop4, ndp4, u6⟩
  have op4 : (shL shS).own w6 (w5.heap.size) w6.heap.size [.slice Dp4 x4.length dp4] x4 blp4 := ⟨_, _, rfl, oop4⟩
  have uu6 := uu5.trans u6
  have zs6 := u6.size
  have ka0_6 := ka0_5.up u6
  have op0_6 := good_Tree.own_keep op0_5 (fun y hy => u6.block y (Nat.lt_of_lt_of_le (good_Tree.own_in op0_5 y hy).2 (by omega)))
  clear op0_5
  have op2_6 := (good_L good_S).own_keep op2 (fun y hy => u6.block y (Nat.lt_of_lt_of_le ((good_L good_S).own_in op2 y hy).2 (by omega)))
  clear ga0_5_0 zza0_5
  have ga0_6_0 : w6.cell? ⟨w.heap.size, 0, none⟩ = some (.slice A0_0 x0.length c0_0) := ka0_6.cell 0
  have zza0_6 := ka0_6.lt
  go_wp2_with fail
  refine (cs_MergeNode _ x0 s1 _ _ x2 s3 _ _ x4 _ ⟨_, rfl, good_Tree.wide (good_Tree.own_rep op0_6) (Nat.zero_le _) (by omega)⟩ hn0 h1 hn1 (SR.of_rep good_S ((good_L good_S).wide ((good_L good_S).own_rep op2_6) (Nat.zero_le _) (by omega))) hn2 h3 hn3 (SR.of_rep good_S ((good_L good_S).wide ((good_L good_S).own_rep op4) (Nat.zero_le _) (by omega))) hn4).mono ?_
  rintro e w7 ⟨css, rfl, os, u7⟩
  obtain ⟨Ds_0, ds_0, rfl, _⟩ := openTree os
  have uu7 := uu6.trans u7
  have zs7 := u7.size
  have ka0_7 := ka0_6.up u7
  have op0_7 := good_Tree.own_keep op0_6 (fun y hy => u7.block y (Nat.lt_of_lt_of_le (good_Tree.own_in op0_6 y hy).2 (by omega)))
  clear op0_6
  have op2_7 := (good_L good_S).own_keep op2_6 (fun y hy => u7.block y (Nat.lt_of_lt_of_le ((good_L good_S).own_in op2_6 y hy).2 (by omega)))
  clear op2_6
  have op4_7 := (good_L good_S).own_keep op4 (fun y hy => u7.block y (Nat.lt_of_lt_of_le ((good_L good_S).own_in op4 y hy).2 (by omega)))
  have ua7 : Up w7 (w7.alloc (.cells #[.slice Ds_0 ((mergeP x0 s1 x2 s3 x4).1).length ds_0] 32)) := (Up.alloc (Up.refl w7) (.cells #[.slice Ds_0 ((mergeP x0 s1 x2 s3 x4).1).length ds_0] 32))
  have za7 : (w7.alloc (.cells #[.slice Ds_0 ((mergeP x0 s1 x2 s3 x4).1).length ds_0] 32)).heap.size = w7.heap.size + 1 := by simp
  have ub7 := uu7.trans ua7
  have ka0_7b := ka0_7.up ua7
  have os_7b := good_Tree.keep os (ua7.keeps (by omega))
  have kr_7b : Bk (w7.alloc (.cells #[.slice Ds_0 ((mergeP x0 s1 x2 s3 x4).1).length ds_0] 32)) (w7.heap.size) 32 #[.slice Ds_0 ((mergeP x0 s1 x2 s3 x4).1).length ds_0] := Bk.new _ _ _
  clear ga0_6_0 zza0_6
  have ga0_7_0 : (w7.alloc (.cells #[.slice Ds_0 ((mergeP x0 s1 x2 s3 x4).1).length ds_0] 32)).cell? ⟨w.heap.size, 0, none⟩ = some (.slice A0_0 x0.length c0_0) := ka0_7b.cell 0
  have zza0_7 := ka0_7b.lt
  have gr_7_0 : (w7.alloc (.cells #[.slice Ds_0 ((mergeP x0 s1 x2 s3 x4).1).length ds_0] 32)).cell? ⟨w7.heap.size, 0, none⟩ = some (.slice Ds_0 ((mergeP x0 s1 x2 s3 x4).1).length ds_0) := kr_7b.cell 0
  have zzr_7 := kr_7b.lt
  go_wp2_with fail
  refine (c_toTree _ x0 _ (hv0.up good_Tree ub7) hn0).mono ?_
  rintro e w8 ⟨csx0, blx0, rfl, ox0, ndx0, u8⟩
  obtain ⟨Dx0_0, dx0_0, _, rfl, _, _⟩ := openOTree ox0
  have uu8 := ub7.trans u8
  have zs8 := u8.size
  have ka0_8 := ka0_7b.up u8
  have kr_8 := kr_7b.up u8
  have os_8 := good_Tree.keep os_7b (u8.keeps (by omega))
  clear os_7b
  clear ga0_7_0 zza0_7 gr_7_0 zzr_7
  have ga0_8_0 : w8.cell? ⟨w.heap.size, 0, none⟩ = some (.slice A0_0 x0.length c0_0) := ka0_8.cell 0
  have zza0_8 := ka0_8.lt
  have gr_8_0 : w8.cell? ⟨w7.heap.size, 0, none⟩ = some (.slice Ds_0 ((mergeP x0 s1 x2 s3 x4).1).length ds_0) := kr_8.cell 0
  have zzr_8 := kr_8.lt
  have ua8 : Up w8 (w8.alloc (.cells #[.slice Dx0_0 x0.length dx0_0] 32)) := (Up.alloc (Up.refl w8) (.cells #[.slice Dx0_0 x0.length dx0_0] 32))
  have za8 : (w8.alloc (.cells #[.slice Dx0_0 x0.length dx0_0] 32)).heap.size = w8.heap.size + 1 := by simp
  have ub8 := uu8.trans ua8
  have ka0_8b := ka0_8.up ua8
  have kr_8b := kr_8.up ua8
  have os_8b := good_Tree.keep os_8 (ua8.keeps (by omega))
  clear os_8
  have ox0_8b := good_Tree.own_keep ox0 (fun y hy => ua8.block y (Nat.lt_of_lt_of_le (good_Tree.own_in ox0 y hy).2 (by omega)))
  have kx0_8b : Bk (w8.alloc (.cells #[.slice Dx0_0 x0.length dx0_0] 32)) (w8.heap.size) 32 #[.slice Dx0_0 x0.length dx0_0] := Bk.new _ _ _
  clear ga0_8_0 zza0_8 gr_8_0 zzr_8
  have ga0_8_0 : (w8.alloc (.cells #[.slice Dx0_0 x0.length dx0_0] 32)).cell? ⟨w.heap.size, 0, none⟩ = some (.slice A0_0 x0.length c0_0) := ka0_8b.cell 0
  have zza0_8 := ka0_8b.lt
  have gr_8_0 : (w8.alloc (.cells #[.slice Dx0_0 x0.length dx0_0] 32)).cell? ⟨w7.heap.size, 0, none⟩ = some (.slice Ds_0 ((mergeP x0 s1 x2 s3 x4).1).length ds_0) := kr_8b.cell 0
  have zzr_8 := kr_8b.lt
  have gx0_8_0 : (w8.alloc (.cells #[.slice Dx0_0 x0.length dx0_0] 32)).cell? ⟨w8.heap.size, 0, none⟩ = some (.slice Dx0_0 x0.length dx0_0) := kx0_8b.cell 0
  have zzx0_8 := kx0_8b.lt
  go_wp2_with fail
  refine (c_toStringS _ _ _ _ (h2.up good_S ub8) hn2).mono ?_
  rintro e w9 ⟨Dx2, dx2, blx2, rfl, oox2, ndx2, u9⟩
  have ox2 : (shL shS).own w9 ((w8.alloc (.cells #[.slice Dx0_0 x0.length dx0_0] 32)).heap.size) w9.heap.size [.slice Dx2 x2.length dx2] x2 blx2 := ⟨_, _, rfl, oox2⟩
  have uu9 := ub8.trans u9
  have zs9 := u9.size
  have ka0_9 := ka0_8b.up u9
  have kr_9 := kr_8b.up u9
  have kx0_9 := kx0_8b.up u9
  have os_9 := good_Tree.keep os_8b (u9.keeps (by omega))
  clear os_8b
  have ox0_9 := good_Tree.own_keep ox0_8b (fun y hy => u9.block y (Nat.lt_of_lt_of_le (good_Tree.own_in ox0_8b y hy).2 (by omega)))
  clear ox0_8b
  clear ga0_8_0 zza0_8 gr_8_0 zzr_8 gx0_8_0 zzx0_8
  have ga0_9_0 : w9.cell? ⟨w.heap.size, 0, none⟩ = some (.slice A0_0 x0.length c0_0) := ka0_9.cell 0
  have zza0_9 := ka0_9.lt
  have gr_9_0 : w9.cell? ⟨w7.heap.size, 0, none⟩ = some (.slice Ds_0 ((mergeP x0 s1 x2 s3 x4).1).length ds_0) := kr_9.cell 0
  have zzr_9 := kr_9.lt
  have gx0_9_0 : w9.cell? ⟨w8.heap.size, 0, none⟩ = some (.slice Dx0_0 x0.length dx0_0) := kx0_9.cell 0
  have zzx0_9 := kx0_9.lt
  clear ga0_9_0 zza0_9 gr_9_0 zzr_9 gx0_9_0 zzx0_9
  have ga0_9_0 : w9.cell? ⟨w.heap.size, 0, none⟩ = some (.slice A0_0 x0.length c0_0) := ka0_9.cell 0
  have zza0_9 := ka0_9.lt
  have gr_9_0 : w9.cell? ⟨w7.heap.size, 0, none⟩ = some (.slice Ds_0 ((mergeP x0 s1 x2 s3 x4).1).length ds_0) := kr_9.cell 0
  have zzr_9 := kr_9.lt
  have gx0_9_0 : w9.cell? ⟨w8.heap.size, 0, none⟩ = some (.slice Dx0_0 x0.length dx0_0) := kx0_9.cell 0
  have zzx0_9 := kx0_9.lt
  go_wp2_with fail
  refine (c_toStringS _ _ _ _ (h4.up good_S uu9) hn4).mono ?_
  rintro e w10 ⟨Dx4, dx4, blx4, rfl, oox4, ndx4, u10⟩
  have ox4 : (shL shS).own w10 (w9.heap.size) w10.heap.size [.slice Dx4 x4.length dx4] x4 blx4 := ⟨_, _, rfl, oox4⟩
  have uu10 := uu9.trans u10
  have zs10 := u10.size
  have ka0_10 := ka0_9.up u10
  have kr_10 := kr_9.up u10
  have kx0_10 := kx0_9.up u10
  have os_10 := good_Tree.keep os_9 (u10.keeps (by omega))
  clear os_9
  have ox0_10 := good_Tree.own_keep ox0_9 (fun y hy => u10.block y (Nat.lt_of_lt_of_le (good_Tree.own_in ox0_9 y hy).2 (by omega)))
  clear ox0_9
  have ox2_10 := (good_L good_S).own_keep ox2 (fun y hy => u10.block y (Nat.lt_of_lt_of_le ((good_L good_S).own_in ox2 y hy).2 (by omega)))
  clear ga0_9_0 zza0_9 gr_9_0 zzr_9 gx0_9_0 zzx0_9
  have ga0_10_0 : w10.cell? ⟨w.heap.size, 0, none⟩ = some (.slice A0_0 x0.length c0_0) := ka0_10.cell 0
  have zza0_10 := ka0_10.lt
  have gr_10_0 : w10.cell? ⟨w7.heap.size, 0, none⟩ = some (.slice Ds_0 ((mergeP x0 s1 x2 s3 x4).1).length ds_0) := kr_10.cell 0
  have zzr_10 := kr_10.lt
  have gx0_10_0 : w10.cell? ⟨w8.heap.size, 0, none⟩ = some (.slice Dx0_0 x0.length dx0_0) := kx0_10.cell 0
  have zzx0_10 := kx0_10.lt
  clear ga0_10_0 zza0_10 gr_10_0 zzr_10 gx0_10_0 zzx0_10
  have ga0_10_0 : w10.cell? ⟨w.heap.size, 0, none⟩ = some (.slice A0_0 x0.length c0_0) := ka0_10.cell 0
  have zza0_10 := ka0_10.lt
  have gr_10_0 : w10.cell? ⟨w7.heap.size, 0, none⟩ = some (.slice Ds_0 ((mergeP x0 s1 x2 s3 x4).1).length ds_0) := kr_10.cell 0
  have zzr_10 := kr_10.lt
  have gx0_10_0 : w10.cell? ⟨w8.heap.size, 0, none⟩ = some (.slice Dx0_0 x0.length dx0_0) := kx0_10.cell 0
  have zzx0_10 := kx0_10.lt
  go_wp2_with fail
  refine (ci_MergeNode _ x0 s1 _ _ x2 s3 _ _ x4 _ ⟨_, rfl, good_Tree.wide (good_Tree.own_rep ox0_10) (Nat.zero_le _) (by omega)⟩ hn0 h1 hn1 (SR.of_rep good_S ((good_L good_S).wide ((good_L good_S).own_rep ox2_10) (Nat.zero_le _) (by omega))) hn2 h3 hn3 (SR.of_rep good_S ((good_L good_S).wide ((good_L good_S).own_rep ox4) (Nat.zero_le _) (by omega))) hn4 (tab_up htab uu10)).mono ?_
  rintro e w11 ⟨csg, blg, rfl, og, ndg, u11⟩
  obtain ⟨Dg_0, dg_0, _, rfl, _, _⟩ := openOTree og
  have uu11 := uu10.trans u11
  have zs11 := u11.size
  have ka0_11 := ka0_10.up u11
  have kr_11 := kr_10.up u11
  have kx0_11 := kx0_10.up u11
  have os_11 := good_Tree.keep os_10 (u11.keeps (by omega))
  clear os_10
  have ox0_11 := good_Tree.own_keep ox0_10 (fun y hy => u11.block y (Nat.lt_of_lt_of_le (good_Tree.own_in ox0_10 y hy).2 (by omega)))
  clear ox0_10
  have ox2_11 := (good_L good_S).own_keep ox2_10 (fun y hy => u11.block y (Nat.lt_of_lt_of_le ((good_L good_S).own_in ox2_10 y hy).2 (by omega)))
  clear ox2_10
  have ox4_11 := (good_L good_S).own_keep ox4 (fun y hy => u11.block y (Nat.lt_of_lt_of_le ((good_L good_S).own_in ox4 y hy).2 (by omega)))
  have ua11 : Up w11 (w11.alloc (.cells #[.slice Dg_0 ((mergeP x0 s1 x2 s3 x4).1).length dg_0] 32)) := (Up.alloc (Up.refl w11) (.cells #[.slice Dg_0 ((mergeP x0 s1 x2 s3 x4).1).length dg_0] 32))
  have za11 : (w11.alloc (.cells #[.slice Dg_0 ((mergeP x0 s1 x2 s3 x4).1).length dg_0] 32)).heap.size = w11.heap.size + 1 := by simp
  have ub11 := uu11.trans ua11
  have ka0_11b := ka0_11.up ua11
  have kr_11b := kr_11.up ua11
  have kx0_11b := kx0_11.up ua11
  have os_11b := good_Tree.keep os_11 (ua11.keeps (by omega))
  clear os_11
  have ox0_11b := good_Tree.own_keep ox0_11 (fun y hy => ua11.block y (Nat.lt_of_lt_of_le (good_Tree.own_in ox0_11 y hy).2 (by omega)))
  clear ox0_11
  have ox2_11b := (good_L good_S).own_keep ox2_11 (fun y hy => ua11.block y (Nat.lt_of_lt_of_le ((good_L good_S).own_in ox2_11 y hy).2 (by omega)))
  clear ox2_11
  have ox4_11b := (good_L good_S).own_keep ox4_11 (fun y hy => ua11.block y (Nat.lt_of_lt_of_le ((good_L good_S).own_in ox4_11 y hy).2 (by omega)))
  clear ox4_11
  have og_11b := good_Tree.own_keep og (fun y hy => ua11.block y (Nat.lt_of_lt_of_le (good_Tree.own_in og y hy).2 (by omega)))
  have kg_11b : Bk (w11.alloc (.cells #[.slice Dg_0 ((mergeP x0 s1 x2 s3 x4).1).length dg_0] 32)) (w11.heap.size) 32 #[.slice Dg_0 ((mergeP x0 s1 x2 s3 x4).1).length dg_0] := Bk.new _ _ _
  clear ga0_10_0 zza0_10 gr_10_0 zzr_10 gx0_10_0 zzx0_10
  have ga0_11_0 : (w11.alloc (.cells #[.slice Dg_0 ((mergeP x0 s1 x2 s3 x4).1).length dg_0] 32)).cell? ⟨w.heap.size, 0, none⟩ = some (.slice A0_0 x0.length c0_0) := ka0_11b.cell 0
  have zza0_11 := ka0_11b.lt
  have gr_11_0 : (w11.alloc (.cells #[.slice Dg_0 ((mergeP x0 s1 x2 s3 x4).1).length dg_0] 32)).cell? ⟨w7.heap.size, 0, none⟩ = some (.slice Ds_0 ((mergeP x0 s1 x2 s3 x4).1).length ds_0) := kr_11b.cell 0
  have zzr_11 := kr_11b.lt
  have gx0_11_0 : (w11.alloc (.cells #[.slice Dg_0 ((mergeP x0 s1 x2 s3 x4).1).length dg_0] 32)).cell? ⟨w8.heap.size, 0, none⟩ = some (.slice Dx0_0 x0.length dx0_0) := kx0_11b.cell 0
  have zzx0_11 := kx0_11b.lt
  have gg_11_0 : (w11.alloc (.cells #[.slice Dg_0 ((mergeP x0 s1 x2 s3 x4).1).length dg_0] 32)).cell? ⟨w11.heap.size, 0, none⟩ = some (.slice Dg_0 ((mergeP x0 s1 x2 s3 x4).1).length dg_0) := kg_11b.cell 0
  have zzg_11 := kg_11b.lt
  go_wp2_with fail
  refine (c_eqTree _ _ ((mergeP x0 s1 x2 s3 x4).1) ((mergeP x0 s1 x2 s3 x4).1) _ ⟨_, rfl, good_Tree.wide (good_Tree.own_rep og_11b) (Nat.zero_le _) (by omega)⟩ ⟨_, rfl, good_Tree.wide os_11b (Nat.le_refl _) (by omega)⟩).mono ?_
  rintro e w12 ⟨be0, rfl, hbe0, u12⟩
  have uu12 := ub11.trans u12
  have zs12 := u12.size
  have ka0_12 := ka0_11b.up u12
  have kr_12 := kr_11b.up u12
  have kx0_12 := kx0_11b.up u12
  have kg_12 := kg_11b.up u12
  have os_12 := good_Tree.keep os_11b (u12.keeps (by omega))
  clear os_11b
  have ox0_12 := good_Tree.own_keep ox0_11b (fun y hy => u12.block y (Nat.lt_of_lt_of_le (good_Tree.own_in ox0_11b y hy).2 (by omega)))
  clear ox0_11b
  have ox2_12 := (good_L good_S).own_keep ox2_11b (fun y hy => u12.block y (Nat.lt_of_lt_of_le ((good_L good_S).own_in ox2_11b y hy).2 (by omega)))
  clear ox2_11b
  have ox4_12 := (good_L good_S).own_keep ox4_11b (fun y hy => u12.block y (Nat.lt_of_lt_of_le ((good_L good_S).own_in ox4_11b y hy).2 (by omega)))
  clear ox4_11b
  have og_12 := good_Tree.own_keep og_11b (fun y hy => u12.block y (Nat.lt_of_lt_of_le (good_Tree.own_in og_11b y hy).2 (by omega)))
  clear og_11b
  obtain rfl : be0 = true := by simpa using hbe0
  clear hbe0 u12
  clear ga0_11_0 zza0_11 gr_11_0 zzr_11 gx0_11_0 zzx0_11 gg_11_0 zzg_11
  have ga0_12_0 : w12.cell? ⟨w.heap.size, 0, none⟩ = some (.slice A0_0 x0.length c0_0) := ka0_12.cell 0
  have zza0_12 := ka0_12.lt
  have gr_12_0 : w12.cell? ⟨w7.heap.size, 0, none⟩ = some (.slice Ds_0 ((mergeP x0 s1 x2 s3 x4).1).length ds_0) := kr_12.cell 0
  have zzr_12 := kr_12.lt
  have gx0_12_0 : w12.cell? ⟨w8.heap.size, 0, none⟩ = some (.slice Dx0_0 x0.length dx0_0) := kx0_12.cell 0
  have zzx0_12 := kx0_12.lt
  have gg_12_0 : w12.cell? ⟨w11.heap.size, 0, none⟩ = some (.slice Dg_0 ((mergeP x0 s1 x2 s3 x4).1).length dg_0) := kg_12.cell 0
  have zzg_12 := kg_12.lt
  go_wp2_with fail
  go_region_held3 (fun W => W.cell? ⟨w.heap.size, 0, none⟩ = some (.slice A0_0 x0.length c0_0) ∧ W.cell? ⟨w8.heap.size, 0, none⟩ = some (.slice Dx0_0 x0.length dx0_0)) (first | exact ⟨ka0_12.cell 0, kx0_12.cell 0⟩ | exact ⟨ka0_13.cell 0, kx0_13.cell 0⟩ | exact ⟨ka0_14z.cell 0, kx0_14z.cell 0⟩) (first | (go_at_call 14; (with_reducible refine (c_toTree _ x0 _ (hv0.up good_Tree uu12.drew) hn0).mono ?_); rintro e w13 ⟨cse0, ble0, rfl, oe0, nde0, u13⟩; have u13d := Up.trans (Up.drew (Up.refl w12)) u13; have ye0 : AV shTree w13 (.agg #[.slice Dx0_0 x0.length dx0_0]) x0 := ⟨_, rfl, good_Tree.wide (good_Tree.keep (good_Tree.own_rep ox0_12) (u13d.keeps (by omega))) (Nat.zero_le _) (by have := u13d.size; omega)⟩; have yce0 := AV.of_own good_Tree oe0; have ka0_13 := ka0_12.up u13d; have kx0_13 := kx0_12.up u13d) | (go_at_call 17; (with_reducible refine (c_eqTree _ _ x0 x0 _ ye0 yce0).mono ?_); rintro e w14 ⟨be0, rfl, hbe0, u14⟩; have u14d := u13d.trans u14; have ka0_14z := ka0_12.up u14d; have kx0_14z := kx0_12.up u14d))
  have uu14 := uu12.trans u14d
  have zs14 := u14d.size
  have ka0_14 := ka0_12.up u14d
  have kr_14 := kr_12.up u14d
  have kx0_14 := kx0_12.up u14d
  have kg_14 := kg_12.up u14d
  have os_14 := good_Tree.keep os_12 (u14d.keeps (by omega))
  clear os_12
  have ox0_14 := good_Tree.own_keep ox0_12 (fun y hy => u14d.block y (Nat.lt_of_lt_of_le (good_Tree.own_in ox0_12 y hy).2 (by omega)))
  clear ox0_12
  have ox2_14 := (good_L good_S).own_keep ox2_12 (fun y hy => u14d.block y (Nat.lt_of_lt_of_le ((good_L good_S).own_in ox2_12 y hy).2 (by omega)))
  clear ox2_12
  have ox4_14 := (good_L good_S).own_keep ox4_12 (fun y hy => u14d.block y (Nat.lt_of_lt_of_le ((good_L good_S).own_in ox4_12 y hy).2 (by omega)))
  clear ox4_12
  have og_14 := good_Tree.own_keep og_12 (fun y hy => u14d.block y (Nat.lt_of_lt_of_le (good_Tree.own_in og_12 y hy).2 (by omega)))
  clear og_12
  obtain rfl : be0 = true := by simpa using hbe0
  clear hbe0 u13 u13d u14 u14d ye0 yce0 oe0
  clear ka0_13 ka0_14z kx0_13 kx0_14z
  clear ga0_12_0 zza0_12 gr_12_0 zzr_12 gx0_12_0 zzx0_12 gg_12_0 zzg_12
  have ga0_14_0 : w14.cell? ⟨w.heap.size, 0, none⟩ = some (.slice A0_0 x0.length c0_0) := ka0_14.cell 0
  have zza0_14 := ka0_14.lt
  have gr_14_0 : w14.cell? ⟨w7.heap.size, 0, none⟩ = some (.slice Ds_0 ((mergeP x0 s1 x2 s3 x4).1).length ds_0) := kr_14.cell 0
  have zzr_14 := kr_14.lt
  have gx0_14_0 : w14.cell? ⟨w8.heap.size, 0, none⟩ = some (.slice Dx0_0 x0.length dx0_0) := kx0_14.cell 0
  have zzx0_14 := kx0_14.lt
  have gg_14_0 : w14.cell? ⟨w11.heap.size, 0, none⟩ = some (.slice Dg_0 ((mergeP x0 s1 x2 s3 x4).1).length dg_0) := kg_14.cell 0
  have zzg_14 := kg_14.lt
  go_wp2_with fail
  refine (c_toStringS _ _ _ _ (h2.up good_S uu14) hn2).mono ?_
  rintro e w15 ⟨Dy2, dy2, bly2, rfl, ooy2, ndy2, u15⟩
  have oy2 : (shL shS).own w15 (w14.heap.size) w15.heap.size [.slice Dy2 x2.length dy2] x2 bly2 := ⟨_, _, rfl, ooy2⟩
  have uu15 := uu14.trans u15
  have zs15 := u15.size
  have ka0_15 := ka0_14.up u15
  have kr_15 := kr_14.up u15
  have kx0_15 := kx0_14.up u15
  have kg_15 := kg_14.up u15
  have os_15 := good_Tree.keep os_14 (u15.keeps (by omega))
  clear os_14
  have ox0_15 := good_Tree.own_keep ox0_14 (fun y hy => u15.block y (Nat.lt_of_lt_of_le (good_Tree.own_in ox0_14 y hy).2 (by omega)))
  clear ox0_14
  have ox2_15 := (good_L good_S).own_keep ox2_14 (fun y hy => u15.block y (Nat.lt_of_lt_of_le ((good_L good_S).own_in ox2_14 y hy).2 (by omega)))
  clear ox2_14
  have ox4_15 := (good_L good_S).own_keep ox4_14 (fun y hy => u15.block y (Nat.lt_of_lt_of_le ((good_L good_S).own_in ox4_14 y hy).2 (by omega)))
  clear ox4_14
  have og_15 := good_Tree.own_keep og_14 (fun y hy => u15.block y (Nat.lt_of_lt_of_le (good_Tree.own_in og_14 y hy).2 (by omega)))
  clear og_14
  clear ga0_14_0 zza0_14 gr_14_0 zzr_14 gx0_14_0 zzx0_14 gg_14_0 zzg_14
  have ga0_15_0 : w15.cell? ⟨w.heap.size, 0, none⟩ = some (.slice A0_0 x0.length c0_0) := ka0_15.cell 0
  have zza0_15 := ka0_15.lt
  have gr_15_0 : w15.cell? ⟨w7.heap.size, 0, none⟩ = some (.slice Ds_0 ((mergeP x0 s1 x2 s3 x4).1).length ds_0) := kr_15.cell 0
  have zzr_15 := kr_15.lt
  have gx0_15_0 : w15.cell? ⟨w8.heap.size, 0, none⟩ = some (.slice Dx0_0 x0.length dx0_0) := kx0_15.cell 0
  have zzx0_15 := kx0_15.lt
  have gg_15_0 : w15.cell? ⟨w11.heap.size, 0, none⟩ = some (.slice Dg_0 ((mergeP x0 s1 x2 s3 x4).1).length dg_0) := kg_15.cell 0
  have zzg_15 := kg_15.lt
  go_wp2_with fail
  refine (c_eqStringS _ _ _ _ _ _ _ (SR.of_rep good_S ((good_L good_S).wide ((good_L good_S).own_rep ox2_15) (Nat.zero_le _) (by omega))) (SR.of_rep good_S ((good_L good_S).wide ((good_L good_S).own_rep oy2) (Nat.zero_le _) (by omega)))).mono ?_
  rintro e w16 ⟨bey2, rfl, hbey2, u16⟩
  have uu16 := uu15.trans u16
  have zs16 := u16.size
  have ka0_16 := ka0_15.up u16
  have kr_16 := kr_15.up u16
  have kx0_16 := kx0_15.up u16
  have kg_16 := kg_15.up u16
  have os_16 := good_Tree.keep os_15 (u16.keeps (by omega))
  clear os_15
  have ox0_16 := good_Tree.own_keep ox0_15 (fun y hy => u16.block y (Nat.lt_of_lt_of_le (good_Tree.own_in ox0_15 y hy).2 (by omega)))
  clear ox0_15
  have ox2_16 := (good_L good_S).own_keep ox2_15 (fun y hy => u16.block y (Nat.lt_of_lt_of_le ((good_L good_S).own_in ox2_15 y hy).2 (by omega)))
  clear ox2_15
  have ox4_16 := (good_L good_S).own_keep ox4_15 (fun y hy => u16.block y (Nat.lt_of_lt_of_le ((good_L good_S).own_in ox4_15 y hy).2 (by omega)))
  clear ox4_15
  have og_16 := good_Tree.own_keep og_15 (fun y hy => u16.block y (Nat.lt_of_lt_of_le (good_Tree.own_in og_15 y hy).2 (by omega)))
  clear og_15
  have oy2_16 := (good_L good_S).own_keep oy2 (fun y hy => u16.block y (Nat.lt_of_lt_of_le ((good_L good_S).own_in oy2 y hy).2 (by omega)))
  obtain rfl : bey2 = true := by simpa using hbey2
  clear hbey2 u16
  clear ga0_15_0 zza0_15 gr_15_0 zzr_15 gx0_15_0 zzx0_15 gg_15_0 zzg_15
  have ga0_16_0 : w16.cell? ⟨w.heap.size, 0, none⟩ = some (.slice A0_0 x0.length c0_0) := ka0_16.cell 0
  have zza0_16 := ka0_16.lt
  have gr_16_0 : w16.cell? ⟨w7.heap.size, 0, none⟩ = some (.slice Ds_0 ((mergeP x0 s1 x2 s3 x4).1).length ds_0) := kr_16.cell 0
  have zzr_16 := kr_16.lt
  have gx0_16_0 : w16.cell? ⟨w8.heap.size, 0, none⟩ = some (.slice Dx0_0 x0.length dx0_0) := kx0_16.cell 0
  have zzx0_16 := kx0_16.lt
  have gg_16_0 : w16.cell? ⟨w11.heap.size, 0, none⟩ = some (.slice Dg_0 ((mergeP x0 s1 x2 s3 x4).1).length dg_0) := kg_16.cell 0
  have zzg_16 := kg_16.lt
  go_wp2_with fail
  refine (c_toStringS _ _ _ _ (h4.up good_S uu16) hn4).mono ?_
  rintro e w17 ⟨Dy4, dy4, bly4, rfl, ooy4, ndy4, u17⟩
  have oy4 : (shL shS).own w17 (w16.heap.size) w17.heap.size [.slice Dy4 x4.length dy4] x4 bly4 := ⟨_, _, rfl, ooy4⟩
  have uu17 := uu16.trans u17
  have zs17 := u17.size
  have ka0_17 := ka0_16.up u17
  have kr_17 := kr_16.up u17
  have kx0_17 := kx0_16.up u17
  have kg_17 := kg_16.up u17
  have os_17 := good_Tree.keep os_16 (u17.keeps (by omega))
  clear os_16
  have ox0_17 := good_Tree.own_keep ox0_16 (fun y hy => u17.block y (Nat.lt_of_lt_of_le (good_Tree.own_in ox0_16 y hy).2 (by omega)))
  clear ox0_16
  have ox2_17 := (good_L good_S).own_keep ox2_16 (fun y hy => u17.block y (Nat.lt_of_lt_of_le ((good_L good_S).own_in ox2_16 y hy).2 (by omega)))
  clear ox2_16
  have ox4_17 := (good_L good_S).own_keep ox4_16 (fun y hy => u17.block y (Nat.lt_of_lt_of_le ((good_L good_S).own_in ox4_16 y hy).2 (by omega)))
  clear ox4_16
  have og_17 := good_Tree.own_keep og_16 (fun y hy => u17.block y (Nat.lt_of_lt_of_le (good_Tree.own_in og_16 y hy).2 (by omega)))
  clear og_16
  clear ga0_16_0 zza0_16 gr_16_0 zzr_16 gx0_16_0 zzx0_16 gg_16_0 zzg_16
  have ga0_17_0 : w17.cell? ⟨w.heap.size, 0, none⟩ = some (.slice A0_0 x0.length c0_0) := ka0_17.cell 0
  have zza0_17 := ka0_17.lt
  have gr_17_0 : w17.cell? ⟨w7.heap.size, 0, none⟩ = some (.slice Ds_0 ((mergeP x0 s1 x2 s3 x4).1).length ds_0) := kr_17.cell 0
  have zzr_17 := kr_17.lt
  have gx0_17_0 : w17.cell? ⟨w8.heap.size, 0, none⟩ = some (.slice Dx0_0 x0.length dx0_0) := kx0_17.cell 0
  have zzx0_17 := kx0_17.lt
  have gg_17_0 : w17.cell? ⟨w11.heap.size, 0, none⟩ = some (.slice Dg_0 ((mergeP x0 s1 x2 s3 x4).1).length dg_0) := kg_17.cell 0
  have zzg_17 := kg_17.lt
  go_wp2_with fail
  refine (c_eqStringS _ _ _ _ _ _ _ (SR.of_rep good_S ((good_L good_S).wide ((good_L good_S).own_rep ox4_17) (Nat.zero_le _) (by omega))) (SR.of_rep good_S ((good_L good_S).wide ((good_L good_S).own_rep oy4) (Nat.zero_le _) (by omega)))).mono ?_
  rintro e w18 ⟨bey4, rfl, hbey4, u18⟩
  have uu18 := uu17.trans u18
  have zs18 := u18.size
  have ka0_18 := ka0_17.up u18
  have kr_18 := kr_17.up u18
  have kx0_18 := kx0_17.up u18
  have kg_18 := kg_17.up u18
  have os_18 := good_Tree.keep os_17 (u18.keeps (by omega))
  clear os_17
  have ox0_18 := good_Tree.own_keep ox0_17 (fun y hy => u18.block y (Nat.lt_of_lt_of_le (good_Tree.own_in ox0_17 y hy).2 (by omega)))
  clear ox0_17
  have ox2_18 := (good_L good_S).own_keep ox2_17 (fun y hy => u18.block y (Nat.lt_of_lt_of_le ((good_L good_S).own_in ox2_17 y hy).2 (by omega)))
  clear ox2_17
  have ox4_18 := (good_L good_S).own_keep ox4_17 (fun y hy => u18.block y (Nat.lt_of_lt_of_le ((good_L good_S).own_in ox4_17 y hy).2 (by omega)))
  clear ox4_17
  have og_18 := good_Tree.own_keep og_17 (fun y hy => u18.block y (Nat.lt_of_lt_of_le (good_Tree.own_in og_17 y hy).2 (by omega)))
  clear og_17
  have oy4_18 := (good_L good_S).own_keep oy4 (fun y hy => u18.block y (Nat.lt_of_lt_of_le ((good_L good_S).own_in oy4 y hy).2 (by omega)))
  obtain rfl : bey4 = true := by simpa using hbey4
  clear hbey4 u18
  clear ga0_17_0 zza0_17 gr_17_0 zzr_17 gx0_17_0 zzx0_17 gg_17_0 zzg_17
  have ga0_18_0 : w18.cell? ⟨w.heap.size, 0, none⟩ = some (.slice A0_0 x0.length c0_0) := ka0_18.cell 0
  have zza0_18 := ka0_18.lt
  have gr_18_0 : w18.cell? ⟨w7.heap.size, 0, none⟩ = some (.slice Ds_0 ((mergeP x0 s1 x2 s3 x4).1).length ds_0) := kr_18.cell 0
  have zzr_18 := kr_18.lt
  have gx0_18_0 : w18.cell? ⟨w8.heap.size, 0, none⟩ = some (.slice Dx0_0 x0.length dx0_0) := kx0_18.cell 0
  have zzx0_18 := kx0_18.lt
  have gg_18_0 : w18.cell? ⟨w11.heap.size, 0, none⟩ = some (.slice Dg_0 ((mergeP x0 s1 x2 s3 x4).1).length dg_0) := kg_18.cell 0
  have zzg_18 := kg_18.lt
  go_wp2_with fail
  have cbx0 : (1 : Int) + (mmTTree.cnt x0 : Nat) ≤ 1000000000 := by have := cnt_Tree x0 hn0; omega
  have cbx2 : (1 : Int) + ((mkL mkS).cnt x2 : Nat) ≤ 1000000000 := by have := cnt_StringS x2 hn2; omega
  have cbx4 : (1 : Int) + ((mkL mkS).cnt x4 : Nat) ≤ 1000000000 := by have := cnt_StringS x4 hn4; omega
  have cbg : (1 : Int) + (mmTTree.cnt ((mergeP x0 s1 x2 s3 x4).1) : Nat) ≤ 1000000000 := cbg_MergeNode x0 hn0 s1 hn1 x2 hn2 s3 hn3 x4 hn4
  refine (c_markTree _ (x0) _ ((w7.alloc (.cells #[.slice Ds_0 ((mergeP x0 s1 x2 s3 x4).1).length ds_0] 32)).heap.size) (w8.heap.size) blx0 _ ox0_18 (by omega) ndx0 (by omega) (by simpa using cbx0)).mono ?_
  rintro e w19 ⟨rfl, mox0, oox0⟩
  have hm1019 : ∀ y ∈ blx0, (w7.alloc (.cells #[.slice Ds_0 ((mergeP x0 s1 x2 s3 x4).1).length ds_0] 32)).heap.size ≤ y ∧ y < w8.heap.size := good_Tree.own_in ox0_18
  have uu19 := uu18.only oox0 (fun y hy => by have := (hm1019 y hy).1; omega)
  have zs19 := oox0.size
  have ka0_19 := ka0_18.only oox0 (fun hy => by have := hm1019 _ hy; omega)
  have kr_19 := kr_18.only oox0 (fun hy => by have := hm1019 _ hy; omega)
  have kx0_19 := kx0_18.only oox0 (fun hy => by have := hm1019 _ hy; omega)
  have kg_19 := kg_18.only oox0 (fun hy => by have := hm1019 _ hy; omega)
  have os_19 := good_Tree.keep os_18 (fun y _ hy => oox0.block y (by omega) (fun hm => by have h1 := hm1019 y hm; omega))
  clear os_18
  have ox2_19 := (good_L good_S).own_keep ox2_18 (fun y hy => oox0.block y (Nat.lt_of_lt_of_le ((good_L good_S).own_in ox2_18 y hy).2 (by omega)) (fun hm => by have h1 := hm1019 y hm; have h2 := (good_L good_S).own_in ox2_18 y hy; omega))
  clear ox2_18
  have ox4_19 := (good_L good_S).own_keep ox4_18 (fun y hy => oox0.block y (Nat.lt_of_lt_of_le ((good_L good_S).own_in ox4_18 y hy).2 (by omega)) (fun hm => by have h1 := hm1019 y hm; have h2 := (good_L good_S).own_in ox4_18 y hy; omega))
  clear ox4_18
  have og_19 := good_Tree.own_keep og_18 (fun y hy => oox0.block y (Nat.lt_of_lt_of_le (good_Tree.own_in og_18 y hy).2 (by omega)) (fun hm => by have h1 := hm1019 y hm; have h2 := good_Tree.own_in og_18 y hy; omega))
  clear og_18
  have mkx0 : shTree.own w19 ((w7.alloc (.cells #[.slice Ds_0 ((mergeP x0 s1 x2 s3 x4).1).length ds_0] 32)).heap.size) (w8.heap.size) [.slice Dx0_0 x0.length dx0_0] (mmTTree.mark (x0) 1) blx0 := mox0
  clear mox0 oox0 ox0_18
  clear ga0_18_0 zza0_18 gr_18_0 zzr_18 gx0_18_0 zzx0_18 gg_18_0 zzg_18
  have ga0_19_0 : w19.cell? ⟨w.heap.size, 0, none⟩ = some (.slice A0_0 x0.length c0_0) := ka0_19.cell 0
  have zza0_19 := ka0_19.lt
  have gr_19_0 : w19.cell? ⟨w7.heap.size, 0, none⟩ = some (.slice Ds_0 ((mergeP x0 s1 x2 s3 x4).1).length ds_0) := kr_19.cell 0
  have zzr_19 := kr_19.lt
  have gx0_19_0 : w19.cell? ⟨w8.heap.size, 0, none⟩ = some (.slice Dx0_0 x0.length dx0_0) := kx0_19.cell 0
  have zzx0_19 := kx0_19.lt
  have gg_19_0 : w19.cell? ⟨w11.heap.size, 0, none⟩ = some (.slice Dg_0 ((mergeP x0 s1 x2 s3 x4).1).length dg_0) := kg_19.cell 0
  have zzg_19 := kg_19.lt
  go_wp2_with fail
  replace cbx2 : (1 + ((mmTTree.cnt x0 : Nat) : Int)) + (((mkL mkS).cnt x2 : Nat) : Int) ≤ 1000000000 := by have := cnt_StringS x2 hn2; have := cnt_Tree x0 hn0; omega
  have kpos2 : ¬ ((1 + ((mmTTree.cnt x0 : Nat) : Int)) + (((mkL mkS).cnt x2 : Nat) : Int)) < 0 := by omega
  refine (c_markStringS _ _ _ _ ((w8.alloc (.cells #[.slice Dx0_0 x0.length dx0_0] 32)).heap.size) (w9.heap.size) blx2 _ (SO.of_own ox2_19) (by omega) ndx2 (by omega) (by simpa using cbx2)).mono ?_
  rintro e w20 ⟨rfl, mox2, oox2⟩
  have hm1020 : ∀ y ∈ blx2, (w8.alloc (.cells #[.slice Dx0_0 x0.length dx0_0] 32)).heap.size ≤ y ∧ y < w9.heap.size := (good_L good_S).own_in ox2_19
  have uu20 := uu19.only oox2 (fun y hy => by have := (hm1020 y hy).1; omega)
  have zs20 := oox2.size
  have ka0_20 := ka0_19.only oox2 (fun hy => by have := hm1020 _ hy; omega)
  have kr_20 := kr_19.only oox2 (fun hy => by have := hm1020 _ hy; omega)
  have kx0_20 := kx0_19.only oox2 (fun hy => by have := hm1020 _ hy; omega)
  have kg_20 := kg_19.only oox2 (fun hy => by have := hm1020 _ hy; omega)
  have os_20 := good_Tree.keep os_19 (fun y _ hy => oox2.block y (by omega) (fun hm => by have h1 := hm1020 y hm; omega))
  clear os_19
  have mkx0_20 := good_Tree.own_keep mkx0 (fun y hy => oox2.block y (Nat.lt_of_lt_of_le (good_Tree.own_in mkx0 y hy).2 (by omega)) (fun hm => by have h1 := hm1020 y hm; have h2 := good_Tree.own_in mkx0 y hy; omega))
  have ox4_20 := (good_L good_S).own_keep ox4_19 (fun y hy => oox2.block y (Nat.lt_of_lt_of_le ((good_L good_S).own_in ox4_19 y hy).2 (by omega)) (fun hm => by have h1 := hm1020 y hm; have h2 := (good_L good_S).own_in ox4_19 y hy; omega))
  clear ox4_19
  have og_20 := good_Tree.own_keep og_19 (fun y hy => oox2.block y (Nat.lt_of_lt_of_le (good_Tree.own_in og_19 y hy).2 (by omega)) (fun hm => by have h1 := hm1020 y hm; have h2 := good_Tree.own_in og_19 y hy; omega))
  clear og_19
  have mkx2 : (shL shS).own w20 ((w8.alloc (.cells #[.slice Dx0_0 x0.length dx0_0] 32)).heap.size) (w9.heap.size) [.slice Dx2 x2.length dx2] ((mkL mkS).mark (x2) (1 + ((mmTTree.cnt x0 : Nat) : Int))) blx2 := SO.to_own (markL_len _ _ _) mox2
  clear mox2 oox2 ox2_19
  clear ga0_19_0 zza0_19 gr_19_0 zzr_19 gx0_19_0 zzx0_19 gg_19_0 zzg_19
  have ga0_20_0 : w20.cell? ⟨w.heap.size, 0, none⟩ = some (.slice A0_0 x0.length c0_0) := ka0_20.cell 0
  have zza0_20 := ka0_20.lt
  have gr_20_0 : w20.cell? ⟨w7.heap.size, 0, none⟩ = some (.slice Ds_0 ((mergeP x0 s1 x2 s3 x4).1).length ds_0) := kr_20.cell 0
  have zzr_20 := kr_20.lt
  have gx0_20_0 : w20.cell? ⟨w8.heap.size, 0, none⟩ = some (.slice Dx0_0 x0.length dx0_0) := kx0_20.cell 0
  have zzx0_20 := kx0_20.lt
  have gg_20_0 : w20.cell? ⟨w11.heap.size, 0, none⟩ = some (.slice Dg_0 ((mergeP x0 s1 x2 s3 x4).1).length dg_0) := kg_20.cell 0
  have zzg_20 := kg_20.lt
  go_wp2_with fail
  replace cbx4 : ((1 + ((mmTTree.cnt x0 : Nat) : Int)) + (((mkL mkS).cnt x2 : Nat) : Int)) + (((mkL mkS).cnt x4 : Nat) : Int) ≤ 1000000000 := by have := cnt_StringS x4 hn4; have := cnt_Tree x0 hn0; have := cnt_StringS x2 hn2; omega
  have kpos4 : ¬ (((1 + ((mmTTree.cnt x0 : Nat) : Int)) + (((mkL mkS).cnt x2 : Nat) : Int)) + (((mkL mkS).cnt x4 : Nat) : Int)) < 0 := by omega
  refine (c_markStringS _ _ _ _ (w9.heap.size) (w10.heap.size) blx4 _ (SO.of_own ox4_20) (by omega) ndx4 (by omega) (by simpa using cbx4)).mono ?_
  rintro e w21 ⟨rfl, mox4, oox4⟩
  have hm1021 : ∀ y ∈ blx4, w9.heap.size ≤ y ∧ y < w10.heap.size := (good_L good_S).own_in ox4_20
  have uu21 := uu20.only oox4 (fun y hy => by have := (hm1021 y hy).1; omega)
  have zs21 := oox4.size
  have ka0_21 := ka0_20.only oox4 (fun hy => by have := hm1021 _ hy; omega)
  have kr_21 := kr_20.only oox4 (fun hy => by have := hm1021 _ hy; omega)
  have kx0_21 := kx0_20.only oox4 (fun hy => by have := hm1021 _ hy; omega)
  have kg_21 := kg_20.only oox4 (fun hy => by have := hm1021 _ hy; omega)
  have os_21 := good_Tree.keep os_20 (fun y _ hy => oox4.block y (by omega) (fun hm => by have h1 := hm1021 y hm; omega))
  clear os_20
  have mkx0_21 := good_Tree.own_keep mkx0_20 (fun y hy => oox4.block y (Nat.lt_of_lt_of_le (good_Tree.own_in mkx0_20 y hy).2 (by omega)) (fun hm => by have h1 := hm1021 y hm; have h2 := good_Tree.own_in mkx0_20 y hy; omega))
  clear mkx0_20
  have mkx2_21 := (good_L good_S).own_keep mkx2 (fun y hy => oox4.block y (Nat.lt_of_lt_of_le ((good_L good_S).own_in mkx2 y hy).2 (by omega)) (fun hm => by have h1 := hm1021 y hm; have h2 := (good_L good_S).own_in mkx2 y hy; omega))
  have og_21 := good_Tree.own_keep og_20 (fun y hy => oox4.block y (Nat.lt_of_lt_of_le (good_Tree.own_in og_20 y hy).2 (by omega)) (fun hm => by have h1 := hm1021 y hm; have h2 := good_Tree.own_in og_20 y hy; omega))
  clear og_20
  have mkx4 : (shL shS).own w21 (w9.heap.size) (w10.heap.size) [.slice Dx4 x4.length dx4] ((mkL mkS).mark (x4) ((1 + ((mmTTree.cnt x0 : Nat) : Int)) + (((mkL mkS).cnt x2 : Nat) : Int))) blx4 := SO.to_own (markL_len _ _ _) mox4
  clear mox4 oox4 ox4_20
  clear ga0_20_0 zza0_20 gr_20_0 zzr_20 gx0_20_0 zzx0_20 gg_20_0 zzg_20
  have ga0_21_0 : w21.cell? ⟨w.heap.size, 0, none⟩ = some (.slice A0_0 x0.length c0_0) := ka0_21.cell 0
  have zza0_21 := ka0_21.lt
  have gr_21_0 : w21.cell? ⟨w7.heap.size, 0, none⟩ = some (.slice Ds_0 ((mergeP x0 s1 x2 s3 x4).1).length ds_0) := kr_21.cell 0
  have zzr_21 := kr_21.lt
  have gx0_21_0 : w21.cell? ⟨w8.heap.size, 0, none⟩ = some (.slice Dx0_0 x0.length dx0_0) := kx0_21.cell 0
  have zzx0_21 := kx0_21.lt
  have gg_21_0 : w21.cell? ⟨w11.heap.size, 0, none⟩ = some (.slice Dg_0 ((mergeP x0 s1 x2 s3 x4).1).length dg_0) := kg_21.cell 0
  have zzg_21 := kg_21.lt
  go_wp2_with fail
  refine (c_eqTree _ _ ((mergeP x0 s1 x2 s3 x4).1) ((mergeP x0 s1 x2 s3 x4).1) _ ⟨_, rfl, good_Tree.wide (good_Tree.own_rep og_21) (Nat.zero_le _) (by omega)⟩ ⟨_, rfl, good_Tree.wide os_21 (Nat.le_refl _) (by omega)⟩).mono ?_
  rintro e w22 ⟨be1, rfl, hbe1, u22⟩
  have uu22 := uu21.trans u22
  have zs22 := u22.size
  have ka0_22 := ka0_21.up u22
  have kr_22 := kr_21.up u22
  have kx0_22 := kx0_21.up u22
  have kg_22 := kg_21.up u22
  have os_22 := good_Tree.keep os_21 (u22.keeps (by omega))
  clear os_21
  have mkx0_22 := good_Tree.own_keep mkx0_21 (fun y hy => u22.block y (Nat.lt_of_lt_of_le (good_Tree.own_in mkx0_21 y hy).2 (by omega)))
  clear mkx0_21
  have mkx2_22 := (good_L good_S).own_keep mkx2_21 (fun y hy => u22.block y (Nat.lt_of_lt_of_le ((good_L good_S).own_in mkx2_21 y hy).2 (by omega)))
  clear mkx2_21
  have mkx4_22 := (good_L good_S).own_keep mkx4 (fun y hy => u22.block y (Nat.lt_of_lt_of_le ((good_L good_S).own_in mkx4 y hy).2 (by omega)))
  have og_22 := good_Tree.own_keep og_21 (fun y hy => u22.block y (Nat.lt_of_lt_of_le (good_Tree.own_in og_21 y hy).2 (by omega)))
  clear og_21
  obtain rfl : be1 = true := by simpa using hbe1
  clear hbe1 u22
  clear ga0_21_0 zza0_21 gr_21_0 zzr_21 gx0_21_0 zzx0_21 gg_21_0 zzg_21
  have ga0_22_0 : w22.cell? ⟨w.heap.size, 0, none⟩ = some (.slice A0_0 x0.length c0_0) := ka0_22.cell 0
  have zza0_22 := ka0_22.lt
  have gr_22_0 : w22.cell? ⟨w7.heap.size, 0, none⟩ = some (.slice Ds_0 ((mergeP x0 s1 x2 s3 x4).1).length ds_0) := kr_22.cell 0
  have zzr_22 := kr_22.lt
  have gx0_22_0 : w22.cell? ⟨w8.heap.size, 0, none⟩ = some (.slice Dx0_0 x0.length dx0_0) := kx0_22.cell 0
  have zzx0_22 := kx0_22.lt
  have gg_22_0 : w22.cell? ⟨w11.heap.size, 0, none⟩ = some (.slice Dg_0 ((mergeP x0 s1 x2 s3 x4).1).length dg_0) := kg_22.cell 0
  have zzg_22 := kg_22.lt
  go_wp2_with fail
  refine (c_markTree _ ((mergeP x0 s1 x2 s3 x4).1) _ (w10.heap.size) (w11.heap.size) blg _ og_22 (by omega) ndg (by omega) (by simpa using cbg)).mono ?_
  rintro e w23 ⟨rfl, mog, oog⟩
  have hm1023 : ∀ y ∈ blg, w10.heap.size ≤ y ∧ y < w11.heap.size := good_Tree.own_in og_22
  have uu23 := uu22.only oog (fun y hy => by have := (hm1023 y hy).1; omega)
  have zs23 := oog.size
  have ka0_23 := ka0_22.only oog (fun hy => by have := hm1023 _ hy; omega)
  have kr_23 := kr_22.only oog (fun hy => by have := hm1023 _ hy; omega)
  have kx0_23 := kx0_22.only oog (fun hy => by have := hm1023 _ hy; omega)
  have kg_23 := kg_22.only oog (fun hy => by have := hm1023 _ hy; omega)
  have os_23 := good_Tree.keep os_22 (fun y _ hy => oog.block y (by omega) (fun hm => by have h1 := hm1023 y hm; omega))
  clear os_22
  have mkx0_23 := good_Tree.own_keep mkx0_22 (fun y hy => oog.block y (Nat.lt_of_lt_of_le (good_Tree.own_in mkx0_22 y hy).2 (by omega)) (fun hm => by have h1 := hm1023 y hm; have h2 := good_Tree.own_in mkx0_22 y hy; omega))
  clear mkx0_22
  have mkx2_23 := (good_L good_S).own_keep mkx2_22 (fun y hy => oog.block y (Nat.lt_of_lt_of_le ((good_L good_S).own_in mkx2_22 y hy).2 (by omega)) (fun hm => by have h1 := hm1023 y hm; have h2 := (good_L good_S).own_in mkx2_22 y hy; omega))
  clear mkx2_22
  have mkx4_23 := (good_L good_S).own_keep mkx4_22 (fun y hy => oog.block y (Nat.lt_of_lt_of_le ((good_L good_S).own_in mkx4_22 y hy).2 (by omega)) (fun hm => by have h1 := hm1023 y hm; have h2 := (good_L good_S).own_in mkx4_22 y hy; omega))
  clear mkx4_22
  have mkg : shTree.own w23 (w10.heap.size) (w11.heap.size) [.slice Dg_0 ((mergeP x0 s1 x2 s3 x4).1).length dg_0] (mmTTree.mark ((mergeP x0 s1 x2 s3 x4).1) 1) blg := mog
  clear mog oog og_22
  clear ga0_22_0 zza0_22 gr_22_0 zzr_22 gx0_22_0 zzx0_22 gg_22_0 zzg_22
  have ga0_23_0 : w23.cell? ⟨w.heap.size, 0, none⟩ = some (.slice A0_0 x0.length c0_0) := ka0_23.cell 0
  have zza0_23 := ka0_23.lt
  have gr_23_0 : w23.cell? ⟨w7.heap.size, 0, none⟩ = some (.slice Ds_0 ((mergeP x0 s1 x2 s3 x4).1).length ds_0) := kr_23.cell 0
  have zzr_23 := kr_23.lt
  have gx0_23_0 : w23.cell? ⟨w8.heap.size, 0, none⟩ = some (.slice Dx0_0 x0.length dx0_0) := kx0_23.cell 0
  have zzx0_23 := kx0_23.lt
  have gg_23_0 : w23.cell? ⟨w11.heap.size, 0, none⟩ = some (.slice Dg_0 ((mergeP x0 s1 x2 s3 x4).1).length dg_0) := kg_23.cell 0
  have zzg_23 := kg_23.lt
  go_wp2_with fail
  have hia := gmT_Tree.idem ((mergeP x0 s1 x2 s3 x4).1) 1
  have hsa := gmT_Tree.same ((mergeP x0 s1 x2 s3 x4).1) 1
  have hcba : (1 : Int) + (mmTTree.cnt (mmTTree.mark ((mergeP x0 s1 x2 s3 x4).1) 1) : Nat) ≤ 1000000000 := by rw [hsa]; exact cbg
  refine (c_heldTree _ (mmTTree.mark ((mergeP x0 s1 x2 s3 x4).1) 1) _ _ ⟨_, rfl, good_Tree.wide (good_Tree.own_rep mkg) (Nat.zero_le _) (by omega)⟩ hia (by omega) hcba).mono ?_
  rintro e w24 ⟨rfl, u24⟩
  have uu24 := uu23.trans u24
  have zs24 := u24.size
  have ka0_24 := ka0_23.up u24
  have kr_24 := kr_23.up u24
  have kx0_24 := kx0_23.up u24
  have kg_24 := kg_23.up u24
  have os_24 := good_Tree.keep os_23 (u24.keeps (by omega))
  clear os_23
  have mkx0_24 := good_Tree.own_keep mkx0_23 (fun y hy => u24.block y (Nat.lt_of_lt_of_le (good_Tree.own_in mkx0_23 y hy).2 (by omega)))
  clear mkx0_23
  have mkx2_24 := (good_L good_S).own_keep mkx2_23 (fun y hy => u24.block y (Nat.lt_of_lt_of_le ((good_L good_S).own_in mkx2_23 y hy).2 (by omega)))
  clear mkx2_23
  have mkx4_24 := (good_L good_S).own_keep mkx4_23 (fun y hy => u24.block y (Nat.lt_of_lt_of_le ((good_L good_S).own_in mkx4_23 y hy).2 (by omega)))
  clear mkx4_23
  have mkg_24 := good_Tree.own_keep mkg (fun y hy => u24.block y (Nat.lt_of_lt_of_le (good_Tree.own_in mkg y hy).2 (by omega)))
  rw [hsa]
  clear hia hsa hcba u24
  clear ga0_23_0 zza0_23 gr_23_0 zzr_23 gx0_23_0 zzx0_23 gg_23_0 zzg_23
  have ga0_24_0 : w24.cell? ⟨w.heap.size, 0, none⟩ = some (.slice A0_0 x0.length c0_0) := ka0_24.cell 0
  have zza0_24 := ka0_24.lt
  have gr_24_0 : w24.cell? ⟨w7.heap.size, 0, none⟩ = some (.slice Ds_0 ((mergeP x0 s1 x2 s3 x4).1).length ds_0) := kr_24.cell 0
  have zzr_24 := kr_24.lt
  have gx0_24_0 : w24.cell? ⟨w8.heap.size, 0, none⟩ = some (.slice Dx0_0 x0.length dx0_0) := kx0_24.cell 0
  have zzx0_24 := kx0_24.lt
  have gg_24_0 : w24.cell? ⟨w11.heap.size, 0, none⟩ = some (.slice Dg_0 ((mergeP x0 s1 x2 s3 x4).1).length dg_0) := kg_24.cell 0
  have zzg_24 := kg_24.lt
  go_wp2_with fail
  refine (c_toTree _ x0 _ (hv0.up good_Tree uu24) hn0).mono ?_
  rintro e w25 ⟨csz0, blz0, rfl, oz0, ndz0, u25⟩
  obtain ⟨Dz0_0, dz0_0, _, rfl, _, _⟩ := openOTree oz0
  have uu25 := uu24.trans u25
  have zs25 := u25.size
  have ka0_25 := ka0_24.up u25
  have kr_25 := kr_24.up u25
  have kx0_25 := kx0_24.up u25
  have kg_25 := kg_24.up u25
  have os_25 := good_Tree.keep os_24 (u25.keeps (by omega))
  clear os_24
  have mkg_25 := good_Tree.own_keep mkg_24 (fun y hy => u25.block y (Nat.lt_of_lt_of_le (good_Tree.own_in mkg_24 y hy).2 (by omega)))
  clear mkg_24
  clear ga0_24_0 zza0_24 gr_24_0 zzr_24 gx0_24_0 zzx0_24 gg_24_0 zzg_24
  have ga0_25_0 : w25.cell? ⟨w.heap.size, 0, none⟩ = some (.slice A0_0 x0.length c0_0) := ka0_25.cell 0
  have zza0_25 := ka0_25.lt
  have gr_25_0 : w25.cell? ⟨w7.heap.size, 0, none⟩ = some (.slice Ds_0 ((mergeP x0 s1 x2 s3 x4).1).length ds_0) := kr_25.cell 0
  have zzr_25 := kr_25.lt
  have gx0_25_0 : w25.cell? ⟨w8.heap.size, 0, none⟩ = some (.slice Dx0_0 x0.length dx0_0) := kx0_25.cell 0
  have zzx0_25 := kx0_25.lt
  have gg_25_0 : w25.cell? ⟨w11.heap.size, 0, none⟩ = some (.slice Dg_0 ((mergeP x0 s1 x2 s3 x4).1).length dg_0) := kg_25.cell 0
  have zzg_25 := kg_25.lt
  go_wp2_with fail
  refine (c_toStringS _ _ _ _ (h2.up good_S uu25) hn2).mono ?_
  rintro e w26 ⟨Dz2, dz2, blz2, rfl, ooz2, ndz2, u26⟩
  have oz2 : (shL shS).own w26 (w25.heap.size) w26.heap.size [.slice Dz2 x2.length dz2] x2 blz2 := ⟨_, _, rfl, ooz2⟩
  have uu26 := uu25.trans u26
  have zs26 := u26.size
  have ka0_26 := ka0_25.up u26
  have kr_26 := kr_25.up u26
  have kx0_26 := kx0_25.up u26
  have kg_26 := kg_25.up u26
  have os_26 := good_Tree.keep os_25 (u26.keeps (by omega))
  clear os_25
  have mkg_26 := good_Tree.own_keep mkg_25 (fun y hy => u26.block y (Nat.lt_of_lt_of_le (good_Tree.own_in mkg_25 y hy).2 (by omega)))
  clear mkg_25
  have oz0_26 := good_Tree.own_keep oz0 (fun y hy => u26.block y (Nat.lt_of_lt_of_le (good_Tree.own_in oz0 y hy).2 (by omega)))
  clear ga0_25_0 zza0_25 gr_25_0 zzr_25 gx0_25_0 zzx0_25 gg_25_0 zzg_25
  have ga0_26_0 : w26.cell? ⟨w.heap.size, 0, none⟩ = some (.slice A0_0 x0.length c0_0) := ka0_26.cell 0
  have zza0_26 := ka0_26.lt
  have gr_26_0 : w26.cell? ⟨w7.heap.size, 0, none⟩ = some (.slice Ds_0 ((mergeP x0 s1 x2 s3 x4).1).length ds_0) := kr_26.cell 0
  have zzr_26 := kr_26.lt
  have gx0_26_0 : w26.cell? ⟨w8.heap.size, 0, none⟩ = some (.slice Dx0_0 x0.length dx0_0) := kx0_26.cell 0
  have zzx0_26 := kx0_26.lt
  have gg_26_0 : w26.cell? ⟨w11.heap.size, 0, none⟩ = some (.slice Dg_0 ((mergeP x0 s1 x2 s3 x4).1).length dg_0) := kg_26.cell 0
  have zzg_26 := kg_26.lt
  go_wp2_with fail
  refine (c_toStringS _ _ _ _ (h4.up good_S uu26) hn4).mono ?_
  rintro e w27 ⟨Dz4, dz4, blz4, rfl, ooz4, ndz4, u27⟩
  have oz4 : (shL shS).own w27 (w26.heap.size) w27.heap.size [.slice Dz4 x4.length dz4] x4 blz4 := ⟨_, _, rfl, ooz4⟩
  have uu27 := uu26.trans u27
  have zs27 := u27.size
  have ka0_27 := ka0_26.up u27
  have kr_27 := kr_26.up u27
  have kx0_27 := kx0_26.up u27
  have kg_27 := kg_26.up u27
  have os_27 := good_Tree.keep os_26 (u27.keeps (by omega))
  clear os_26
  have mkg_27 := good_Tree.own_keep mkg_26 (fun y hy => u27.block y (Nat.lt_of_lt_of_le (good_Tree.own_in mkg_26 y hy).2 (by omega)))
  clear mkg_26
  have oz0_27 := good_Tree.own_keep oz0_26 (fun y hy => u27.block y (Nat.lt_of_lt_of_le (good_Tree.own_in oz0_26 y hy).2 (by omega)))
  clear oz0_26
  have oz2_27 := (good_L good_S).own_keep oz2 (fun y hy => u27.block y (Nat.lt_of_lt_of_le ((good_L good_S).own_in oz2 y hy).2 (by omega)))
  clear ga0_26_0 zza0_26 gr_26_0 zzr_26 gx0_26_0 zzx0_26 gg_26_0 zzg_26
  have ga0_27_0 : w27.cell? ⟨w.heap.size, 0, none⟩ = some (.slice A0_0 x0.length c0_0) := ka0_27.cell 0
  have zza0_27 := ka0_27.lt
  have gr_27_0 : w27.cell? ⟨w7.heap.size, 0, none⟩ = some (.slice Ds_0 ((mergeP x0 s1 x2 s3 x4).1).length ds_0) := kr_27.cell 0
  have zzr_27 := kr_27.lt
  have gx0_27_0 : w27.cell? ⟨w8.heap.size, 0, none⟩ = some (.slice Dx0_0 x0.length dx0_0) := kx0_27.cell 0
  have zzx0_27 := kx0_27.lt
  have gg_27_0 : w27.cell? ⟨w11.heap.size, 0, none⟩ = some (.slice Dg_0 ((mergeP x0 s1 x2 s3 x4).1).length dg_0) := kg_27.cell 0
  have zzg_27 := kg_27.lt
  go_wp2_with fail
  refine (ci_MergeNode _ x0 s1 _ _ x2 s3 _ _ x4 _ ⟨_, rfl, good_Tree.wide (good_Tree.own_rep oz0_27) (Nat.zero_le _) (by omega)⟩ hn0 h1 hn1 (SR.of_rep good_S ((good_L good_S).wide ((good_L good_S).own_rep oz2_27) (Nat.zero_le _) (by omega))) hn2 h3 hn3 (SR.of_rep good_S ((good_L good_S).wide ((good_L good_S).own_rep oz4) (Nat.zero_le _) (by omega))) hn4 (tab_up htab uu27)).mono ?_
  rintro e w28 ⟨csh, blh, rfl, oh, ndh, u28⟩
  obtain ⟨Dh_0, dh_0, _, rfl, _, _⟩ := openOTree oh
  have uu28 := uu27.trans u28
  have zs28 := u28.size
  have ka0_28 := ka0_27.up u28
  have kr_28 := kr_27.up u28
  have kx0_28 := kx0_27.up u28
  have kg_28 := kg_27.up u28
  have os_28 := good_Tree.keep os_27 (u28.keeps (by omega))
  clear os_27
  have mkg_28 := good_Tree.own_keep mkg_27 (fun y hy => u28.block y (Nat.lt_of_lt_of_le (good_Tree.own_in mkg_27 y hy).2 (by omega)))
  clear mkg_27
  have oz0_28 := good_Tree.own_keep oz0_27 (fun y hy => u28.block y (Nat.lt_of_lt_of_le (good_Tree.own_in oz0_27 y hy).2 (by omega)))
  clear oz0_27
  have oz2_28 := (good_L good_S).own_keep oz2_27 (fun y hy => u28.block y (Nat.lt_of_lt_of_le ((good_L good_S).own_in oz2_27 y hy).2 (by omega)))
  clear oz2_27
  have oz4_28 := (good_L good_S).own_keep oz4 (fun y hy => u28.block y (Nat.lt_of_lt_of_le ((good_L good_S).own_in oz4 y hy).2 (by omega)))
  have ua28 : Up w28 (w28.alloc (.cells #[.slice Dh_0 ((mergeP x0 s1 x2 s3 x4).1).length dh_0] 32)) := (Up.alloc (Up.refl w28) (.cells #[.slice Dh_0 ((mergeP x0 s1 x2 s3 x4).1).length dh_0] 32))
  have za28 : (w28.alloc (.cells #[.slice Dh_0 ((mergeP x0 s1 x2 s3 x4).1).length dh_0] 32)).heap.size = w28.heap.size + 1 := by simp
  have ub28 := uu28.trans ua28
  have ka0_28b := ka0_28.up ua28
  have kr_28b := kr_28.up ua28
  have kx0_28b := kx0_28.up ua28
  have kg_28b := kg_28.up ua28
  have os_28b := good_Tree.keep os_28 (ua28.keeps (by omega))
  clear os_28
  have mkg_28b := good_Tree.own_keep mkg_28 (fun y hy => ua28.block y (Nat.lt_of_lt_of_le (good_Tree.own_in mkg_28 y hy).2 (by omega)))
  clear mkg_28
  have oz0_28b := good_Tree.own_keep oz0_28 (fun y hy => ua28.block y (Nat.lt_of_lt_of_le (good_Tree.own_in oz0_28 y hy).2 (by omega)))
  clear oz0_28
  have oz2_28b := (good_L good_S).own_keep oz2_28 (fun y hy => ua28.block y (Nat.lt_of_lt_of_le ((good_L good_S).own_in oz2_28 y hy).2 (by omega)))
  clear oz2_28
  have oz4_28b := (good_L good_S).own_keep oz4_28 (fun y hy => ua28.block y (Nat.lt_of_lt_of_le ((good_L good_S).own_in oz4_28 y hy).2 (by omega)))
  clear oz4_28
  have oh_28b := good_Tree.own_keep oh (fun y hy => ua28.block y (Nat.lt_of_lt_of_le (good_Tree.own_in oh y hy).2 (by omega)))
  have kh_28b : Bk (w28.alloc (.cells #[.slice Dh_0 ((mergeP x0 s1 x2 s3 x4).1).length dh_0] 32)) (w28.heap.size) 32 #[.slice Dh_0 ((mergeP x0 s1 x2 s3 x4).1).length dh_0] := Bk.new _ _ _
  clear ga0_27_0 zza0_27 gr_27_0 zzr_27 gx0_27_0 zzx0_27 gg_27_0 zzg_27
  have ga0_28_0 : (w28.alloc (.cells #[.slice Dh_0 ((mergeP x0 s1 x2 s3 x4).1).length dh_0] 32)).cell? ⟨w.heap.size, 0, none⟩ = some (.slice A0_0 x0.length c0_0) := ka0_28b.cell 0
  have zza0_28 := ka0_28b.lt
  have gr_28_0 : (w28.alloc (.cells #[.slice Dh_0 ((mergeP x0 s1 x2 s3 x4).1).length dh_0] 32)).cell? ⟨w7.heap.size, 0, none⟩ = some (.slice Ds_0 ((mergeP x0 s1 x2 s3 x4).1).length ds_0) := kr_28b.cell 0
  have zzr_28 := kr_28b.lt
  have gx0_28_0 : (w28.alloc (.cells #[.slice Dh_0 ((mergeP x0 s1 x2 s3 x4).1).length dh_0] 32)).cell? ⟨w8.heap.size, 0, none⟩ = some (.slice Dx0_0 x0.length dx0_0) := kx0_28b.cell 0
  have zzx0_28 := kx0_28b.lt
  have gg_28_0 : (w28.alloc (.cells #[.slice Dh_0 ((mergeP x0 s1 x2 s3 x4).1).length dh_0] 32)).cell? ⟨w11.heap.size, 0, none⟩ = some (.slice Dg_0 ((mergeP x0 s1 x2 s3 x4).1).length dg_0) := kg_28b.cell 0
  have zzg_28 := kg_28b.lt
  have gh_28_0 : (w28.alloc (.cells #[.slice Dh_0 ((mergeP x0 s1 x2 s3 x4).1).length dh_0] 32)).cell? ⟨w28.heap.size, 0, none⟩ = some (.slice Dh_0 ((mergeP x0 s1 x2 s3 x4).1).length dh_0) := kh_28b.cell 0
  have zzh_28 := kh_28b.lt
  go_wp2_with fail
  refine (c_eqTree _ _ ((mergeP x0 s1 x2 s3 x4).1) ((mergeP x0 s1 x2 s3 x4).1) _ ⟨_, rfl, good_Tree.wide (good_Tree.own_rep oh_28b) (Nat.zero_le _) (by omega)⟩ ⟨_, rfl, good_Tree.wide os_28b (Nat.le_refl _) (by omega)⟩).mono ?_
  rintro e w29 ⟨be2, rfl, hbe2, u29⟩
  have uu29 := ub28.trans u29
  have zs29 := u29.size
  have ka0_29 := ka0_28b.up u29
  have kr_29 := kr_28b.up u29
  have kx0_29 := kx0_28b.up u29
  have kg_29 := kg_28b.up u29
  have kh_29 := kh_28b.up u29
  have os_29 := good_Tree.keep os_28b (u29.keeps (by omega))
  clear os_28b
  have mkg_29 := good_Tree.own_keep mkg_28b (fun y hy => u29.block y (Nat.lt_of_lt_of_le (good_Tree.own_in mkg_28b y hy).2 (by omega)))
  clear mkg_28b
  have oz0_29 := good_Tree.own_keep oz0_28b (fun y hy => u29.block y (Nat.lt_of_lt_of_le (good_Tree.own_in oz0_28b y hy).2 (by omega)))
  clear oz0_28b
  have oz2_29 := (good_L good_S).own_keep oz2_28b (fun y hy => u29.block y (Nat.lt_of_lt_of_le ((good_L good_S).own_in oz2_28b y hy).2 (by omega)))
  clear oz2_28b
  have oz4_29 := (good_L good_S).own_keep oz4_28b (fun y hy => u29.block y (Nat.lt_of_lt_of_le ((good_L good_S).own_in oz4_28b y hy).2 (by omega)))
  clear oz4_28b
  have oh_29 := good_Tree.own_keep oh_28b (fun y hy => u29.block y (Nat.lt_of_lt_of_le (good_Tree.own_in oh_28b y hy).2 (by omega)))
  clear oh_28b
  obtain rfl : be2 = true := by simpa using hbe2
  clear hbe2 u29
  clear ga0_28_0 zza0_28 gr_28_0 zzr_28 gx0_28_0 zzx0_28 gg_28_0 zzg_28 gh_28_0 zzh_28
  have ga0_29_0 : w29.cell? ⟨w.heap.size, 0, none⟩ = some (.slice A0_0 x0.length c0_0) := ka0_29.cell 0
  have zza0_29 := ka0_29.lt
  have gr_29_0 : w29.cell? ⟨w7.heap.size, 0, none⟩ = some (.slice Ds_0 ((mergeP x0 s1 x2 s3 x4).1).length ds_0) := kr_29.cell 0
  have zzr_29 := kr_29.lt
  have gx0_29_0 : w29.cell? ⟨w8.heap.size, 0, none⟩ = some (.slice Dx0_0 x0.length dx0_0) := kx0_29.cell 0
  have zzx0_29 := kx0_29.lt
  have gg_29_0 : w29.cell? ⟨w11.heap.size, 0, none⟩ = some (.slice Dg_0 ((mergeP x0 s1 x2 s3 x4).1).length dg_0) := kg_29.cell 0
  have zzg_29 := kg_29.lt
  have gh_29_0 : w29.cell? ⟨w28.heap.size, 0, none⟩ = some (.slice Dh_0 ((mergeP x0 s1 x2 s3 x4).1).length dh_0) := kh_29.cell 0
  have zzh_29 := kh_29.lt
  go_wp2_with fail
  have hib := gmT_Tree.idem ((mergeP x0 s1 x2 s3 x4).1) 1
  have hsb := gmT_Tree.same ((mergeP x0 s1 x2 s3 x4).1) 1
  have hcbb : (1 : Int) + (mmTTree.cnt (mmTTree.mark ((mergeP x0 s1 x2 s3 x4).1) 1) : Nat) ≤ 1000000000 := by rw [hsb]; exact cbg
  refine (c_heldTree _ (mmTTree.mark ((mergeP x0 s1 x2 s3 x4).1) 1) _ _ ⟨_, rfl, good_Tree.wide (good_Tree.own_rep mkg_29) (Nat.zero_le _) (by omega)⟩ hib (by omega) hcbb).mono ?_
  rintro e w30 ⟨rfl, u30⟩
  have uu30 := uu29.trans u30
  have zs30 := u30.size
  have ka0_30 := ka0_29.up u30
  have kr_30 := kr_29.up u30
  have kx0_30 := kx0_29.up u30
  have kg_30 := kg_29.up u30
  have kh_30 := kh_29.up u30
  have os_30 := good_Tree.keep os_29 (u30.keeps (by omega))
  clear os_29
  have mkg_30 := good_Tree.own_keep mkg_29 (fun y hy => u30.block y (Nat.lt_of_lt_of_le (good_Tree.own_in mkg_29 y hy).2 (by omega)))
  clear mkg_29
  have oz0_30 := good_Tree.own_keep oz0_29 (fun y hy => u30.block y (Nat.lt_of_lt_of_le (good_Tree.own_in oz0_29 y hy).2 (by omega)))
  clear oz0_29
  have oz2_30 := (good_L good_S).own_keep oz2_29 (fun y hy => u30.block y (Nat.lt_of_lt_of_le ((good_L good_S).own_in oz2_29 y hy).2 (by omega)))
  clear oz2_29
  have oz4_30 := (good_L good_S).own_keep oz4_29 (fun y hy => u30.block y (Nat.lt_of_lt_of_le ((good_L good_S).own_in oz4_29 y hy).2 (by omega)))
  clear oz4_29
  have oh_30 := good_Tree.own_keep oh_29 (fun y hy => u30.block y (Nat.lt_of_lt_of_le (good_Tree.own_in oh_29 y hy).2 (by omega)))
  clear oh_29
  rw [hsb]
  clear hib hsb hcbb u30
  clear ga0_29_0 zza0_29 gr_29_0 zzr_29 gx0_29_0 zzx0_29 gg_29_0 zzg_29 gh_29_0 zzh_29
  have ga0_30_0 : w30.cell? ⟨w.heap.size, 0, none⟩ = some (.slice A0_0 x0.length c0_0) := ka0_30.cell 0
  have zza0_30 := ka0_30.lt
  have gr_30_0 : w30.cell? ⟨w7.heap.size, 0, none⟩ = some (.slice Ds_0 ((mergeP x0 s1 x2 s3 x4).1).length ds_0) := kr_30.cell 0
  have zzr_30 := kr_30.lt
  have gx0_30_0 : w30.cell? ⟨w8.heap.size, 0, none⟩ = some (.slice Dx0_0 x0.length dx0_0) := kx0_30.cell 0
  have zzx0_30 := kx0_30.lt
  have gg_30_0 : w30.cell? ⟨w11.heap.size, 0, none⟩ = some (.slice Dg_0 ((mergeP x0 s1 x2 s3 x4).1).length dg_0) := kg_30.cell 0
  have zzg_30 := kg_30.lt
  have gh_30_0 : w30.cell? ⟨w28.heap.size, 0, none⟩ = some (.slice Dh_0 ((mergeP x0 s1 x2 s3 x4).1).length dh_0) := kh_30.cell 0
  have zzh_30 := kh_30.lt
  go_wp2_with fail
  go_ret
  exact ⟨rfl, uu30⟩
end Go.Proofs.YtanjmolgpkffoaaGreatDoor
