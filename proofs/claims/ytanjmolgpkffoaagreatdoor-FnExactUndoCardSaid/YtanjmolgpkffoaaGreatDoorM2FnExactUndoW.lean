/-
  The walk of FnExactUndo: for every input it returns true.
-/
import Derived.Test.YtanjmolgpkffoaaGreatDoorM2Lq
import Derived.Test.YtanjmolgpkffoaaGreatDoorM2J
import Derived.Test.YtanjmolgpkffoaaGreatDoorM2Le
import Derived.Test.YtanjmolgpkffoaaGreatDoorM2Lm
import Derived.Test.YtanjmolgpkffoaaGreatDoorM2M
import Derived.Deep.RegionHeld3
namespace Go.Proofs.YtanjmolgpkffoaaGreatDoor
open Go.RowKit
set_option linter.unusedVariables false
set_option linter.unusedSimpArgs false

set_option maxRecDepth 100000 in
set_option maxHeartbeats 16000000 in
theorem w0_FnExactUndo (w : World) (v0 : Value) (x0 : TTree) (h0 : AV shTree w v0 x0) (A1 : Option Addr) (c1 : Nat) (x1 : List TImage) (h1 : SRW shImage w A1 c1 x1) (htab : Tab w) :
    Calls Tryz.prog 9 #[v0, .slice A1 x1.length c1] w fun e w' => e = .returned (.bool true) ∧ Up w w' := by
  have hv0 := h0
  obtain ⟨cs0, rfl, h0⟩ := h0
  obtain ⟨A0_0, c0_0, rfl, _⟩ := openTree h0
  clear h0
  have ka0_0 : Bk (w.alloc (.cells #[.slice A0_0 x0.length c0_0] 24)) (w.heap.size) 24 #[.slice A0_0 x0.length c0_0] := by simpa using Bk.new w 24 #[.slice A0_0 x0.length c0_0]
  have uu0 : Up w (w.alloc (.cells #[.slice A0_0 x0.length c0_0] 24)) := (Up.refl w).alloc _
  have zs0 := uu0.size
  have zs0b : (w.alloc (.cells #[.slice A0_0 x0.length c0_0] 24)).heap.size = w.heap.size + 1 := by simp
  go_enter Tryz.func9, Tryz.ntmps9
  go_wp2_with fail
  refine (c_szTree _ x0 _ _ (hv0.up good_Tree uu0) (by omega) (by omega)).mono ?_
  rintro e w1 ⟨rfl, u1⟩
  have uu1 := uu0.trans u1
  have zs1 := u1.size
  have ka0_1 := ka0_0.up u1
  by_cases q0 : ¬ ((shTree.sz x0 : Nat) : Int) ≤ 1048576
  · rw [szR_no (by omega)]
    go_wp2_with fail
    go_ret
    exact ⟨rfl, uu1⟩
  replace q0 := Decidable.of_not_not q0
  rw [szR_yes q0]
  have ga0_1_0 : w1.cell? ⟨w.heap.size, 0, none⟩ = some (.slice A0_0 x0.length c0_0) := ka0_1.cell 0
  have zza0_1 := ka0_1.lt
  clear u1
  go_wp2_with fail
  refine (c_szImageS _ _ _ _ _ (h1.up good_Image uu1) (by omega) (by omega)).mono ?_
  rintro e w2 ⟨rfl, u2⟩
  have uu2 := uu1.trans u2
  have zs2 := u2.size
  have ka0_2 := ka0_1.up u2
  by_cases q1 : ¬ (((shL shImage).sz x1 : Nat) : Int) ≤ 1048576 - (shTree.sz x0 : Nat)
  · rw [szR_no (by omega)]
    go_wp2_with fail
    go_ret
    exact ⟨rfl, uu2⟩
  replace q1 := Decidable.of_not_not q1
  rw [szR_yes q1]
  clear ga0_1_0 zza0_1
  have ga0_2_0 : w2.cell? ⟨w.heap.size, 0, none⟩ = some (.slice A0_0 x0.length c0_0) := ka0_2.cell 0
  have zza0_2 := ka0_2.lt
  clear u2
  go_wp2_with fail
  have hn0 : shTree.sz x0 ≤ 1048576 := by omega
  have hn1 : (shL shImage).sz x1 ≤ 1048576 := by omega
  refine (c_toTree _ x0 _ (hv0.up good_Tree uu2) hn0).mono ?_
  rintro e w3 ⟨csp0, blp0, rfl, op0, ndp0, u3⟩
  obtain ⟨Dp0_0, dp0_0, _, rfl, _, _⟩ := openOTree op0
  have uu3 := uu2.trans u3
  have zs3 := u3.size
  have ka0_3 := ka0_2.up u3
  clear ga0_2_0 zza0_2
  have ga0_3_0 : w3.cell? ⟨w.heap.size, 0, none⟩ = some (.slice A0_0 x0.length c0_0) := ka0_3.cell 0
  have zza0_3 := ka0_3.lt
  go_wp2_with fail
  refine (c_toImageS _ _ _ _ (h1.up good_Image uu3) hn1).mono ?_
  rintro e w4 ⟨Dp1, dp1, blp1, rfl, oop1, ndp1, u4⟩
  have op1 : (shL shImage).own w4 (w3.heap.size) w4.heap.size [.slice Dp1 x1.length dp1] x1 blp1 := ⟨_, _, rfl, oop1⟩
  have uu4 := uu3.trans u4
  have zs4 := u4.size
  have ka0_4 := ka0_3.up u4
  have op0_4 := good_Tree.own_keep op0 (fun y hy => u4.block y (Nat.lt_of_lt_of_le (good_Tree.own_in op0 y hy).2 (by omega)))
  clear ga0_3_0 zza0_3
  have ga0_4_0 : w4.cell? ⟨w.heap.size, 0, none⟩ = some (.slice A0_0 x0.length c0_0) := ka0_4.cell 0
  have zza0_4 := ka0_4.lt
  go_wp2_with fail
  refine (cs_Undo _ x0 _ _ x1 _ ⟨_, rfl, good_Tree.wide (good_Tree.own_rep op0_4) (Nat.zero_le _) (by omega)⟩ hn0 (SR.of_rep good_Image ((good_L good_Image).wide ((good_L good_Image).own_rep op1) (Nat.zero_le _) (by omega))) hn1).mono ?_
  rintro e w5 ⟨css, rfl, os, u5⟩
  obtain ⟨Ds_0, ds_0, rfl, _⟩ := openTree os
  have uu5 := uu4.trans u5
  have zs5 := u5.size
  have ka0_5 := ka0_4.up u5
  have op0_5 := good_Tree.own_keep op0_4 (fun y hy => u5.block y (Nat.lt_of_lt_of_le (good_Tree.own_in op0_4 y hy).2 (by omega)))
  clear op0_4
  have op1_5 := (good_L good_Image).own_keep op1 (fun y hy => u5.block y (Nat.lt_of_lt_of_le ((good_L good_Image).own_in op1 y hy).2 (by omega)))
  have ua5 : Up w5 (w5.alloc (.cells #[.slice Ds_0 ((undo x0 x1).1).length ds_0] 32)) := (Up.alloc (Up.refl w5) (.cells #[.slice Ds_0 ((undo x0 x1).1).length ds_0] 32))
  have za5 : (w5.alloc (.cells #[.slice Ds_0 ((undo x0 x1).1).length ds_0] 32)).heap.size = w5.heap.size + 1 := by simp
  have ub5 := uu5.trans ua5
  have ka0_5b := ka0_5.up ua5
  have os_5b := good_Tree.keep os (ua5.keeps (by omega))
  have kr_5b : Bk (w5.alloc (.cells #[.slice Ds_0 ((undo x0 x1).1).length ds_0] 32)) (w5.heap.size) 32 #[.slice Ds_0 ((undo x0 x1).1).length ds_0] := Bk.new _ _ _
  clear ga0_4_0 zza0_4
  have ga0_5_0 : (w5.alloc (.cells #[.slice Ds_0 ((undo x0 x1).1).length ds_0] 32)).cell? ⟨w.heap.size, 0, none⟩ = some (.slice A0_0 x0.length c0_0) := ka0_5b.cell 0
  have zza0_5 := ka0_5b.lt
  have gr_5_0 : (w5.alloc (.cells #[.slice Ds_0 ((undo x0 x1).1).length ds_0] 32)).cell? ⟨w5.heap.size, 0, none⟩ = some (.slice Ds_0 ((undo x0 x1).1).length ds_0) := kr_5b.cell 0
  have zzr_5 := kr_5b.lt
  go_wp2_with fail
  refine (c_toTree _ x0 _ (hv0.up good_Tree ub5) hn0).mono ?_
  rintro e w6 ⟨csx0, blx0, rfl, ox0, ndx0, u6⟩
  obtain ⟨Dx0_0, dx0_0, _, rfl, _, _⟩ := openOTree ox0
  have uu6 := ub5.trans u6
  have zs6 := u6.size
  have ka0_6 := ka0_5b.up u6
  have kr_6 := kr_5b.up u6
  have os_6 := good_Tree.keep os_5b (u6.keeps (by omega))
  clear os_5b
  clear ga0_5_0 zza0_5 gr_5_0 zzr_5
  have ga0_6_0 : w6.cell? ⟨w.heap.size, 0, none⟩ = some (.slice A0_0 x0.length c0_0) := ka0_6.cell 0
  have zza0_6 := ka0_6.lt
  have gr_6_0 : w6.cell? ⟨w5.heap.size, 0, none⟩ = some (.slice Ds_0 ((undo x0 x1).1).length ds_0) := kr_6.cell 0
  have zzr_6 := kr_6.lt
  have ua6 : Up w6 (w6.alloc (.cells #[.slice Dx0_0 x0.length dx0_0] 32)) := (Up.alloc (Up.refl w6) (.cells #[.slice Dx0_0 x0.length dx0_0] 32))
  have za6 : (w6.alloc (.cells #[.slice Dx0_0 x0.length dx0_0] 32)).heap.size = w6.heap.size + 1 := by simp
  have ub6 := uu6.trans ua6
  have ka0_6b := ka0_6.up ua6
  have kr_6b := kr_6.up ua6
  have os_6b := good_Tree.keep os_6 (ua6.keeps (by omega))
  clear os_6
  have ox0_6b := good_Tree.own_keep ox0 (fun y hy => ua6.block y (Nat.lt_of_lt_of_le (good_Tree.own_in ox0 y hy).2 (by omega)))
  have kx0_6b : Bk (w6.alloc (.cells #[.slice Dx0_0 x0.length dx0_0] 32)) (w6.heap.size) 32 #[.slice Dx0_0 x0.length dx0_0] := Bk.new _ _ _
  clear ga0_6_0 zza0_6 gr_6_0 zzr_6
  have ga0_6_0 : (w6.alloc (.cells #[.slice Dx0_0 x0.length dx0_0] 32)).cell? ⟨w.heap.size, 0, none⟩ = some (.slice A0_0 x0.length c0_0) := ka0_6b.cell 0
  have zza0_6 := ka0_6b.lt
  have gr_6_0 : (w6.alloc (.cells #[.slice Dx0_0 x0.length dx0_0] 32)).cell? ⟨w5.heap.size, 0, none⟩ = some (.slice Ds_0 ((undo x0 x1).1).length ds_0) := kr_6b.cell 0
  have zzr_6 := kr_6b.lt
  have gx0_6_0 : (w6.alloc (.cells #[.slice Dx0_0 x0.length dx0_0] 32)).cell? ⟨w6.heap.size, 0, none⟩ = some (.slice Dx0_0 x0.length dx0_0) := kx0_6b.cell 0
  have zzx0_6 := kx0_6b.lt
  go_wp2_with fail
  refine (c_toImageS _ _ _ _ (h1.up good_Image ub6) hn1).mono ?_
  rintro e w7 ⟨Dx1, dx1, blx1, rfl, oox1, ndx1, u7⟩
  have ox1 : (shL shImage).own w7 ((w6.alloc (.cells #[.slice Dx0_0 x0.length dx0_0] 32)).heap.size) w7.heap.size [.slice Dx1 x1.length dx1] x1 blx1 := ⟨_, _, rfl, oox1⟩
  have uu7 := ub6.trans u7
  have zs7 := u7.size
  have ka0_7 := ka0_6b.up u7
  have kr_7 := kr_6b.up u7
  have kx0_7 := kx0_6b.up u7
  have os_7 := good_Tree.keep os_6b (u7.keeps (by omega))
  clear os_6b
  have ox0_7 := good_Tree.own_keep ox0_6b (fun y hy => u7.block y (Nat.lt_of_lt_of_le (good_Tree.own_in ox0_6b y hy).2 (by omega)))
  clear ox0_6b
  clear ga0_6_0 zza0_6 gr_6_0 zzr_6 gx0_6_0 zzx0_6
  have ga0_7_0 : w7.cell? ⟨w.heap.size, 0, none⟩ = some (.slice A0_0 x0.length c0_0) := ka0_7.cell 0
  have zza0_7 := ka0_7.lt
  have gr_7_0 : w7.cell? ⟨w5.heap.size, 0, none⟩ = some (.slice Ds_0 ((undo x0 x1).1).length ds_0) := kr_7.cell 0
  have zzr_7 := kr_7.lt
  have gx0_7_0 : w7.cell? ⟨w6.heap.size, 0, none⟩ = some (.slice Dx0_0 x0.length dx0_0) := kx0_7.cell 0
  have zzx0_7 := kx0_7.lt
  clear ga0_7_0 zza0_7 gr_7_0 zzr_7 gx0_7_0 zzx0_7
  have ga0_7_0 : w7.cell? ⟨w.heap.size, 0, none⟩ = some (.slice A0_0 x0.length c0_0) := ka0_7.cell 0
  have zza0_7 := ka0_7.lt
  have gr_7_0 : w7.cell? ⟨w5.heap.size, 0, none⟩ = some (.slice Ds_0 ((undo x0 x1).1).length ds_0) := kr_7.cell 0
  have zzr_7 := kr_7.lt
  have gx0_7_0 : w7.cell? ⟨w6.heap.size, 0, none⟩ = some (.slice Dx0_0 x0.length dx0_0) := kx0_7.cell 0
  have zzx0_7 := kx0_7.lt
  go_wp2_with fail
  refine (ci_Undo _ x0 _ _ x1 _ ⟨_, rfl, good_Tree.wide (good_Tree.own_rep ox0_7) (Nat.zero_le _) (by omega)⟩ hn0 (SR.of_rep good_Image ((good_L good_Image).wide ((good_L good_Image).own_rep ox1) (Nat.zero_le _) (by omega))) hn1 (tab_up htab uu7)).mono ?_
  rintro e w8 ⟨csg, blg, rfl, og, ndg, u8⟩
  obtain ⟨Dg_0, dg_0, _, rfl, _, _⟩ := openOTree og
  have uu8 := uu7.trans u8
  have zs8 := u8.size
  have ka0_8 := ka0_7.up u8
  have kr_8 := kr_7.up u8
  have kx0_8 := kx0_7.up u8
  have os_8 := good_Tree.keep os_7 (u8.keeps (by omega))
  clear os_7
  have ox0_8 := good_Tree.own_keep ox0_7 (fun y hy => u8.block y (Nat.lt_of_lt_of_le (good_Tree.own_in ox0_7 y hy).2 (by omega)))
  clear ox0_7
  have ox1_8 := (good_L good_Image).own_keep ox1 (fun y hy => u8.block y (Nat.lt_of_lt_of_le ((good_L good_Image).own_in ox1 y hy).2 (by omega)))
  have ua8 : Up w8 (w8.alloc (.cells #[.slice Dg_0 ((undo x0 x1).1).length dg_0] 32)) := (Up.alloc (Up.refl w8) (.cells #[.slice Dg_0 ((undo x0 x1).1).length dg_0] 32))
  have za8 : (w8.alloc (.cells #[.slice Dg_0 ((undo x0 x1).1).length dg_0] 32)).heap.size = w8.heap.size + 1 := by simp
  have ub8 := uu8.trans ua8
  have ka0_8b := ka0_8.up ua8
  have kr_8b := kr_8.up ua8
  have kx0_8b := kx0_8.up ua8
  have os_8b := good_Tree.keep os_8 (ua8.keeps (by omega))
  clear os_8
  have ox0_8b := good_Tree.own_keep ox0_8 (fun y hy => ua8.block y (Nat.lt_of_lt_of_le (good_Tree.own_in ox0_8 y hy).2 (by omega)))
  clear ox0_8
  have ox1_8b := (good_L good_Image).own_keep ox1_8 (fun y hy => ua8.block y (Nat.lt_of_lt_of_le ((good_L good_Image).own_in ox1_8 y hy).2 (by omega)))
  clear ox1_8
  have og_8b := good_Tree.own_keep og (fun y hy => ua8.block y (Nat.lt_of_lt_of_le (good_Tree.own_in og y hy).2 (by omega)))
  have kg_8b : Bk (w8.alloc (.cells #[.slice Dg_0 ((undo x0 x1).1).length dg_0] 32)) (w8.heap.size) 32 #[.slice Dg_0 ((undo x0 x1).1).length dg_0] := Bk.new _ _ _
  clear ga0_7_0 zza0_7 gr_7_0 zzr_7 gx0_7_0 zzx0_7
  have ga0_8_0 : (w8.alloc (.cells #[.slice Dg_0 ((undo x0 x1).1).length dg_0] 32)).cell? ⟨w.heap.size, 0, none⟩ = some (.slice A0_0 x0.length c0_0) := ka0_8b.cell 0
  have zza0_8 := ka0_8b.lt
  have gr_8_0 : (w8.alloc (.cells #[.slice Dg_0 ((undo x0 x1).1).length dg_0] 32)).cell? ⟨w5.heap.size, 0, none⟩ = some (.slice Ds_0 ((undo x0 x1).1).length ds_0) := kr_8b.cell 0
  have zzr_8 := kr_8b.lt
  have gx0_8_0 : (w8.alloc (.cells #[.slice Dg_0 ((undo x0 x1).1).length dg_0] 32)).cell? ⟨w6.heap.size, 0, none⟩ = some (.slice Dx0_0 x0.length dx0_0) := kx0_8b.cell 0
  have zzx0_8 := kx0_8b.lt
  have gg_8_0 : (w8.alloc (.cells #[.slice Dg_0 ((undo x0 x1).1).length dg_0] 32)).cell? ⟨w8.heap.size, 0, none⟩ = some (.slice Dg_0 ((undo x0 x1).1).length dg_0) := kg_8b.cell 0
  have zzg_8 := kg_8b.lt
  go_wp2_with fail
  refine (c_eqTree _ _ ((undo x0 x1).1) ((undo x0 x1).1) _ ⟨_, rfl, good_Tree.wide (good_Tree.own_rep og_8b) (Nat.zero_le _) (by omega)⟩ ⟨_, rfl, good_Tree.wide os_8b (Nat.le_refl _) (by omega)⟩).mono ?_
  rintro e w9 ⟨be0, rfl, hbe0, u9⟩
  have uu9 := ub8.trans u9
  have zs9 := u9.size
  have ka0_9 := ka0_8b.up u9
  have kr_9 := kr_8b.up u9
  have kx0_9 := kx0_8b.up u9
  have kg_9 := kg_8b.up u9
  have os_9 := good_Tree.keep os_8b (u9.keeps (by omega))
  clear os_8b
  have ox0_9 := good_Tree.own_keep ox0_8b (fun y hy => u9.block y (Nat.lt_of_lt_of_le (good_Tree.own_in ox0_8b y hy).2 (by omega)))
  clear ox0_8b
  have ox1_9 := (good_L good_Image).own_keep ox1_8b (fun y hy => u9.block y (Nat.lt_of_lt_of_le ((good_L good_Image).own_in ox1_8b y hy).2 (by omega)))
  clear ox1_8b
  have og_9 := good_Tree.own_keep og_8b (fun y hy => u9.block y (Nat.lt_of_lt_of_le (good_Tree.own_in og_8b y hy).2 (by omega)))
  clear og_8b
  obtain rfl : be0 = true := by simpa using hbe0
  clear hbe0 u9
  clear ga0_8_0 zza0_8 gr_8_0 zzr_8 gx0_8_0 zzx0_8 gg_8_0 zzg_8
  have ga0_9_0 : w9.cell? ⟨w.heap.size, 0, none⟩ = some (.slice A0_0 x0.length c0_0) := ka0_9.cell 0
  have zza0_9 := ka0_9.lt
  have gr_9_0 : w9.cell? ⟨w5.heap.size, 0, none⟩ = some (.slice Ds_0 ((undo x0 x1).1).length ds_0) := kr_9.cell 0
  have zzr_9 := kr_9.lt
  have gx0_9_0 : w9.cell? ⟨w6.heap.size, 0, none⟩ = some (.slice Dx0_0 x0.length dx0_0) := kx0_9.cell 0
  have zzx0_9 := kx0_9.lt
  have gg_9_0 : w9.cell? ⟨w8.heap.size, 0, none⟩ = some (.slice Dg_0 ((undo x0 x1).1).length dg_0) := kg_9.cell 0
  have zzg_9 := kg_9.lt
  go_wp2_with fail
  go_region_held3 (fun W => W.cell? ⟨w.heap.size, 0, none⟩ = some (.slice A0_0 x0.length c0_0) ∧ W.cell? ⟨w6.heap.size, 0, none⟩ = some (.slice Dx0_0 x0.length dx0_0)) (first | exact ⟨ka0_9.cell 0, kx0_9.cell 0⟩ | exact ⟨ka0_10.cell 0, kx0_10.cell 0⟩ | exact ⟨ka0_11z.cell 0, kx0_11z.cell 0⟩) (first | (go_at_call 14; (with_reducible refine (c_toTree _ x0 _ (hv0.up good_Tree uu9.drew) hn0).mono ?_); rintro e w10 ⟨cse0, ble0, rfl, oe0, nde0, u10⟩; have u10d := Up.trans (Up.drew (Up.refl w9)) u10; have ye0 : AV shTree w10 (.agg #[.slice Dx0_0 x0.length dx0_0]) x0 := ⟨_, rfl, good_Tree.wide (good_Tree.keep (good_Tree.own_rep ox0_9) (u10d.keeps (by omega))) (Nat.zero_le _) (by have := u10d.size; omega)⟩; have yce0 := AV.of_own good_Tree oe0; have ka0_10 := ka0_9.up u10d; have kx0_10 := kx0_9.up u10d) | (go_at_call 17; (with_reducible refine (c_eqTree _ _ x0 x0 _ ye0 yce0).mono ?_); rintro e w11 ⟨be0, rfl, hbe0, u11⟩; have u11d := u10d.trans u11; have ka0_11z := ka0_9.up u11d; have kx0_11z := kx0_9.up u11d))
  have uu11 := uu9.trans u11d
  have zs11 := u11d.size
  have ka0_11 := ka0_9.up u11d
  have kr_11 := kr_9.up u11d
  have kx0_11 := kx0_9.up u11d
  have kg_11 := kg_9.up u11d
  have os_11 := good_Tree.keep os_9 (u11d.keeps (by omega))
  clear os_9
  have ox0_11 := good_Tree.own_keep ox0_9 (fun y hy => u11d.block y (Nat.lt_of_lt_of_le (good_Tree.own_in ox0_9 y hy).2 (by omega)))
  clear ox0_9
  have ox1_11 := (good_L good_Image).own_keep ox1_9 (fun y hy => u11d.block y (Nat.lt_of_lt_of_le ((good_L good_Image).own_in ox1_9 y hy).2 (by omega)))
  clear ox1_9
  have og_11 := good_Tree.own_keep og_9 (fun y hy => u11d.block y (Nat.lt_of_lt_of_le (good_Tree.own_in og_9 y hy).2 (by omega)))
  clear og_9
  obtain rfl : be0 = true := by simpa using hbe0
  clear hbe0 u10 u10d u11 u11d ye0 yce0 oe0
  clear ka0_10 ka0_11z kx0_10 kx0_11z
  clear ga0_9_0 zza0_9 gr_9_0 zzr_9 gx0_9_0 zzx0_9 gg_9_0 zzg_9
  have ga0_11_0 : w11.cell? ⟨w.heap.size, 0, none⟩ = some (.slice A0_0 x0.length c0_0) := ka0_11.cell 0
  have zza0_11 := ka0_11.lt
  have gr_11_0 : w11.cell? ⟨w5.heap.size, 0, none⟩ = some (.slice Ds_0 ((undo x0 x1).1).length ds_0) := kr_11.cell 0
  have zzr_11 := kr_11.lt
  have gx0_11_0 : w11.cell? ⟨w6.heap.size, 0, none⟩ = some (.slice Dx0_0 x0.length dx0_0) := kx0_11.cell 0
  have zzx0_11 := kx0_11.lt
  have gg_11_0 : w11.cell? ⟨w8.heap.size, 0, none⟩ = some (.slice Dg_0 ((undo x0 x1).1).length dg_0) := kg_11.cell 0
  have zzg_11 := kg_11.lt
  go_wp2_with fail
  refine (c_toImageS _ _ _ _ (h1.up good_Image uu11) hn1).mono ?_
  rintro e w12 ⟨Dy1, dy1, bly1, rfl, ooy1, ndy1, u12⟩
  have oy1 : (shL shImage).own w12 (w11.heap.size) w12.heap.size [.slice Dy1 x1.length dy1] x1 bly1 := ⟨_, _, rfl, ooy1⟩
  have uu12 := uu11.trans u12
  have zs12 := u12.size
  have ka0_12 := ka0_11.up u12
  have kr_12 := kr_11.up u12
  have kx0_12 := kx0_11.up u12
  have kg_12 := kg_11.up u12
  have os_12 := good_Tree.keep os_11 (u12.keeps (by omega))
  clear os_11
  have ox0_12 := good_Tree.own_keep ox0_11 (fun y hy => u12.block y (Nat.lt_of_lt_of_le (good_Tree.own_in ox0_11 y hy).2 (by omega)))
  clear ox0_11
  have ox1_12 := (good_L good_Image).own_keep ox1_11 (fun y hy => u12.block y (Nat.lt_of_lt_of_le ((good_L good_Image).own_in ox1_11 y hy).2 (by omega)))
  clear ox1_11
  have og_12 := good_Tree.own_keep og_11 (fun y hy => u12.block y (Nat.lt_of_lt_of_le (good_Tree.own_in og_11 y hy).2 (by omega)))
  clear og_11
  clear ga0_11_0 zza0_11 gr_11_0 zzr_11 gx0_11_0 zzx0_11 gg_11_0 zzg_11
  have ga0_12_0 : w12.cell? ⟨w.heap.size, 0, none⟩ = some (.slice A0_0 x0.length c0_0) := ka0_12.cell 0
  have zza0_12 := ka0_12.lt
  have gr_12_0 : w12.cell? ⟨w5.heap.size, 0, none⟩ = some (.slice Ds_0 ((undo x0 x1).1).length ds_0) := kr_12.cell 0
  have zzr_12 := kr_12.lt
  have gx0_12_0 : w12.cell? ⟨w6.heap.size, 0, none⟩ = some (.slice Dx0_0 x0.length dx0_0) := kx0_12.cell 0
  have zzx0_12 := kx0_12.lt
  have gg_12_0 : w12.cell? ⟨w8.heap.size, 0, none⟩ = some (.slice Dg_0 ((undo x0 x1).1).length dg_0) := kg_12.cell 0
  have zzg_12 := kg_12.lt
  go_wp2_with fail
  refine (c_eqImageS _ _ _ _ _ _ _ (SR.of_rep good_Image ((good_L good_Image).wide ((good_L good_Image).own_rep ox1_12) (Nat.zero_le _) (by omega))) (SR.of_rep good_Image ((good_L good_Image).wide ((good_L good_Image).own_rep oy1) (Nat.zero_le _) (by omega)))).mono ?_
  rintro e w13 ⟨bey1, rfl, hbey1, u13⟩
  have uu13 := uu12.trans u13
  have zs13 := u13.size
  have ka0_13 := ka0_12.up u13
  have kr_13 := kr_12.up u13
  have kx0_13 := kx0_12.up u13
  have kg_13 := kg_12.up u13
  have os_13 := good_Tree.keep os_12 (u13.keeps (by omega))
  clear os_12
  have ox0_13 := good_Tree.own_keep ox0_12 (fun y hy => u13.block y (Nat.lt_of_lt_of_le (good_Tree.own_in ox0_12 y hy).2 (by omega)))
  clear ox0_12
  have ox1_13 := (good_L good_Image).own_keep ox1_12 (fun y hy => u13.block y (Nat.lt_of_lt_of_le ((good_L good_Image).own_in ox1_12 y hy).2 (by omega)))
  clear ox1_12
  have og_13 := good_Tree.own_keep og_12 (fun y hy => u13.block y (Nat.lt_of_lt_of_le (good_Tree.own_in og_12 y hy).2 (by omega)))
  clear og_12
  have oy1_13 := (good_L good_Image).own_keep oy1 (fun y hy => u13.block y (Nat.lt_of_lt_of_le ((good_L good_Image).own_in oy1 y hy).2 (by omega)))
  obtain rfl : bey1 = true := by simpa using hbey1
  clear hbey1 u13
  clear ga0_12_0 zza0_12 gr_12_0 zzr_12 gx0_12_0 zzx0_12 gg_12_0 zzg_12
  have ga0_13_0 : w13.cell? ⟨w.heap.size, 0, none⟩ = some (.slice A0_0 x0.length c0_0) := ka0_13.cell 0
  have zza0_13 := ka0_13.lt
  have gr_13_0 : w13.cell? ⟨w5.heap.size, 0, none⟩ = some (.slice Ds_0 ((undo x0 x1).1).length ds_0) := kr_13.cell 0
  have zzr_13 := kr_13.lt
  have gx0_13_0 : w13.cell? ⟨w6.heap.size, 0, none⟩ = some (.slice Dx0_0 x0.length dx0_0) := kx0_13.cell 0
  have zzx0_13 := kx0_13.lt
  have gg_13_0 : w13.cell? ⟨w8.heap.size, 0, none⟩ = some (.slice Dg_0 ((undo x0 x1).1).length dg_0) := kg_13.cell 0
  have zzg_13 := kg_13.lt
  go_wp2_with fail
  have cbx0 : (1 : Int) + (mmTTree.cnt x0 : Nat) ≤ 1000000000 := by have := cnt_Tree x0 hn0; omega
  have cbx1 : (1 : Int) + ((mkL mmImage).cnt x1 : Nat) ≤ 1000000000 := by have := cnt_ImageS x1 hn1; omega
  have cbg : (1 : Int) + (mmTTree.cnt ((undo x0 x1).1) : Nat) ≤ 1000000000 := cbg_Undo x0 hn0 x1 hn1
  refine (c_markTree _ (x0) _ ((w5.alloc (.cells #[.slice Ds_0 ((undo x0 x1).1).length ds_0] 32)).heap.size) (w6.heap.size) blx0 _ ox0_13 (by omega) ndx0 (by omega) (by simpa using cbx0)).mono ?_
  rintro e w14 ⟨rfl, mox0, oox0⟩
  have hm1014 : ∀ y ∈ blx0, (w5.alloc (.cells #[.slice Ds_0 ((undo x0 x1).1).length ds_0] 32)).heap.size ≤ y ∧ y < w6.heap.size := good_Tree.own_in ox0_13
  have uu14 := uu13.only oox0 (fun y hy => by have := (hm1014 y hy).1; omega)
  have zs14 := oox0.size
  have ka0_14 := ka0_13.only oox0 (fun hy => by have := hm1014 _ hy; omega)
  have kr_14 := kr_13.only oox0 (fun hy => by have := hm1014 _ hy; omega)
  have kx0_14 := kx0_13.only oox0 (fun hy => by have := hm1014 _ hy; omega)
  have kg_14 := kg_13.only oox0 (fun hy => by have := hm1014 _ hy; omega)
  have os_14 := good_Tree.keep os_13 (fun y _ hy => oox0.block y (by omega) (fun hm => by have h1 := hm1014 y hm; omega))
  clear os_13
  have ox1_14 := (good_L good_Image).own_keep ox1_13 (fun y hy => oox0.block y (Nat.lt_of_lt_of_le ((good_L good_Image).own_in ox1_13 y hy).2 (by omega)) (fun hm => by have h1 := hm1014 y hm; have h2 := (good_L good_Image).own_in ox1_13 y hy; omega))
  clear ox1_13
  have og_14 := good_Tree.own_keep og_13 (fun y hy => oox0.block y (Nat.lt_of_lt_of_le (good_Tree.own_in og_13 y hy).2 (by omega)) (fun hm => by have h1 := hm1014 y hm; have h2 := good_Tree.own_in og_13 y hy; omega))
  clear og_13
  have mkx0 : shTree.own w14 ((w5.alloc (.cells #[.slice Ds_0 ((undo x0 x1).1).length ds_0] 32)).heap.size) (w6.heap.size) [.slice Dx0_0 x0.length dx0_0] (mmTTree.mark (x0) 1) blx0 := mox0
  clear mox0 oox0 ox0_13
  clear ga0_13_0 zza0_13 gr_13_0 zzr_13 gx0_13_0 zzx0_13 gg_13_0 zzg_13
  have ga0_14_0 : w14.cell? ⟨w.heap.size, 0, none⟩ = some (.slice A0_0 x0.length c0_0) := ka0_14.cell 0
  have zza0_14 := ka0_14.lt
  have gr_14_0 : w14.cell? ⟨w5.heap.size, 0, none⟩ = some (.slice Ds_0 ((undo x0 x1).1).length ds_0) := kr_14.cell 0
  have zzr_14 := kr_14.lt
  have gx0_14_0 : w14.cell? ⟨w6.heap.size, 0, none⟩ = some (.slice Dx0_0 x0.length dx0_0) := kx0_14.cell 0
  have zzx0_14 := kx0_14.lt
  have gg_14_0 : w14.cell? ⟨w8.heap.size, 0, none⟩ = some (.slice Dg_0 ((undo x0 x1).1).length dg_0) := kg_14.cell 0
  have zzg_14 := kg_14.lt
  go_wp2_with fail
  replace cbx1 : (1 + ((mmTTree.cnt x0 : Nat) : Int)) + (((mkL mmImage).cnt x1 : Nat) : Int) ≤ 1000000000 := by have := cnt_ImageS x1 hn1; have := cnt_Tree x0 hn0; omega
  have kpos1 : ¬ ((1 + ((mmTTree.cnt x0 : Nat) : Int)) + (((mkL mmImage).cnt x1 : Nat) : Int)) < 0 := by omega
  refine (c_markImageS _ _ _ _ ((w6.alloc (.cells #[.slice Dx0_0 x0.length dx0_0] 32)).heap.size) (w7.heap.size) blx1 _ (SO.of_own ox1_14) (by omega) ndx1 (by omega) (by simpa using cbx1)).mono ?_
  rintro e w15 ⟨rfl, mox1, oox1⟩
  have hm1015 : ∀ y ∈ blx1, (w6.alloc (.cells #[.slice Dx0_0 x0.length dx0_0] 32)).heap.size ≤ y ∧ y < w7.heap.size := (good_L good_Image).own_in ox1_14
  have uu15 := uu14.only oox1 (fun y hy => by have := (hm1015 y hy).1; omega)
  have zs15 := oox1.size
  have ka0_15 := ka0_14.only oox1 (fun hy => by have := hm1015 _ hy; omega)
  have kr_15 := kr_14.only oox1 (fun hy => by have := hm1015 _ hy; omega)
  have kx0_15 := kx0_14.only oox1 (fun hy => by have := hm1015 _ hy; omega)
  have kg_15 := kg_14.only oox1 (fun hy => by have := hm1015 _ hy; omega)
  have os_15 := good_Tree.keep os_14 (fun y _ hy => oox1.block y (by omega) (fun hm => by have h1 := hm1015 y hm; omega))
  clear os_14
  have mkx0_15 := good_Tree.own_keep mkx0 (fun y hy => oox1.block y (Nat.lt_of_lt_of_le (good_Tree.own_in mkx0 y hy).2 (by omega)) (fun hm => by have h1 := hm1015 y hm; have h2 := good_Tree.own_in mkx0 y hy; omega))
  have og_15 := good_Tree.own_keep og_14 (fun y hy => oox1.block y (Nat.lt_of_lt_of_le (good_Tree.own_in og_14 y hy).2 (by omega)) (fun hm => by have h1 := hm1015 y hm; have h2 := good_Tree.own_in og_14 y hy; omega))
  clear og_14
  have mkx1 : (shL shImage).own w15 ((w6.alloc (.cells #[.slice Dx0_0 x0.length dx0_0] 32)).heap.size) (w7.heap.size) [.slice Dx1 x1.length dx1] ((mkL mmImage).mark (x1) (1 + ((mmTTree.cnt x0 : Nat) : Int))) blx1 := SO.to_own (markL_len _ _ _) mox1
  clear mox1 oox1 ox1_14
  clear ga0_14_0 zza0_14 gr_14_0 zzr_14 gx0_14_0 zzx0_14 gg_14_0 zzg_14
  have ga0_15_0 : w15.cell? ⟨w.heap.size, 0, none⟩ = some (.slice A0_0 x0.length c0_0) := ka0_15.cell 0
  have zza0_15 := ka0_15.lt
  have gr_15_0 : w15.cell? ⟨w5.heap.size, 0, none⟩ = some (.slice Ds_0 ((undo x0 x1).1).length ds_0) := kr_15.cell 0
  have zzr_15 := kr_15.lt
  have gx0_15_0 : w15.cell? ⟨w6.heap.size, 0, none⟩ = some (.slice Dx0_0 x0.length dx0_0) := kx0_15.cell 0
  have zzx0_15 := kx0_15.lt
  have gg_15_0 : w15.cell? ⟨w8.heap.size, 0, none⟩ = some (.slice Dg_0 ((undo x0 x1).1).length dg_0) := kg_15.cell 0
  have zzg_15 := kg_15.lt
  go_wp2_with fail
  refine (c_eqTree _ _ ((undo x0 x1).1) ((undo x0 x1).1) _ ⟨_, rfl, good_Tree.wide (good_Tree.own_rep og_15) (Nat.zero_le _) (by omega)⟩ ⟨_, rfl, good_Tree.wide os_15 (Nat.le_refl _) (by omega)⟩).mono ?_
  rintro e w16 ⟨be1, rfl, hbe1, u16⟩
  have uu16 := uu15.trans u16
  have zs16 := u16.size
  have ka0_16 := ka0_15.up u16
  have kr_16 := kr_15.up u16
  have kx0_16 := kx0_15.up u16
  have kg_16 := kg_15.up u16
  have os_16 := good_Tree.keep os_15 (u16.keeps (by omega))
  clear os_15
  have mkx0_16 := good_Tree.own_keep mkx0_15 (fun y hy => u16.block y (Nat.lt_of_lt_of_le (good_Tree.own_in mkx0_15 y hy).2 (by omega)))
  clear mkx0_15
  have mkx1_16 := (good_L good_Image).own_keep mkx1 (fun y hy => u16.block y (Nat.lt_of_lt_of_le ((good_L good_Image).own_in mkx1 y hy).2 (by omega)))
  have og_16 := good_Tree.own_keep og_15 (fun y hy => u16.block y (Nat.lt_of_lt_of_le (good_Tree.own_in og_15 y hy).2 (by omega)))
  clear og_15
  obtain rfl : be1 = true := by simpa using hbe1
  clear hbe1 u16
  clear ga0_15_0 zza0_15 gr_15_0 zzr_15 gx0_15_0 zzx0_15 gg_15_0 zzg_15
  have ga0_16_0 : w16.cell? ⟨w.heap.size, 0, none⟩ = some (.slice A0_0 x0.length c0_0) := ka0_16.cell 0
  have zza0_16 := ka0_16.lt
  have gr_16_0 : w16.cell? ⟨w5.heap.size, 0, none⟩ = some (.slice Ds_0 ((undo x0 x1).1).length ds_0) := kr_16.cell 0
  have zzr_16 := kr_16.lt
  have gx0_16_0 : w16.cell? ⟨w6.heap.size, 0, none⟩ = some (.slice Dx0_0 x0.length dx0_0) := kx0_16.cell 0
  have zzx0_16 := kx0_16.lt
  have gg_16_0 : w16.cell? ⟨w8.heap.size, 0, none⟩ = some (.slice Dg_0 ((undo x0 x1).1).length dg_0) := kg_16.cell 0
  have zzg_16 := kg_16.lt
  go_wp2_with fail
  refine (c_markTree _ ((undo x0 x1).1) _ (w7.heap.size) (w8.heap.size) blg _ og_16 (by omega) ndg (by omega) (by simpa using cbg)).mono ?_
  rintro e w17 ⟨rfl, mog, oog⟩
  have hm1017 : ∀ y ∈ blg, w7.heap.size ≤ y ∧ y < w8.heap.size := good_Tree.own_in og_16
  have uu17 := uu16.only oog (fun y hy => by have := (hm1017 y hy).1; omega)
  have zs17 := oog.size
  have ka0_17 := ka0_16.only oog (fun hy => by have := hm1017 _ hy; omega)
  have kr_17 := kr_16.only oog (fun hy => by have := hm1017 _ hy; omega)
  have kx0_17 := kx0_16.only oog (fun hy => by have := hm1017 _ hy; omega)
  have kg_17 := kg_16.only oog (fun hy => by have := hm1017 _ hy; omega)
  have os_17 := good_Tree.keep os_16 (fun y _ hy => oog.block y (by omega) (fun hm => by have h1 := hm1017 y hm; omega))
  clear os_16
  have mkx0_17 := good_Tree.own_keep mkx0_16 (fun y hy => oog.block y (Nat.lt_of_lt_of_le (good_Tree.own_in mkx0_16 y hy).2 (by omega)) (fun hm => by have h1 := hm1017 y hm; have h2 := good_Tree.own_in mkx0_16 y hy; omega))
  clear mkx0_16
  have mkx1_17 := (good_L good_Image).own_keep mkx1_16 (fun y hy => oog.block y (Nat.lt_of_lt_of_le ((good_L good_Image).own_in mkx1_16 y hy).2 (by omega)) (fun hm => by have h1 := hm1017 y hm; have h2 := (good_L good_Image).own_in mkx1_16 y hy; omega))
  clear mkx1_16
  have mkg : shTree.own w17 (w7.heap.size) (w8.heap.size) [.slice Dg_0 ((undo x0 x1).1).length dg_0] (mmTTree.mark ((undo x0 x1).1) 1) blg := mog
  clear mog oog og_16
  clear ga0_16_0 zza0_16 gr_16_0 zzr_16 gx0_16_0 zzx0_16 gg_16_0 zzg_16
  have ga0_17_0 : w17.cell? ⟨w.heap.size, 0, none⟩ = some (.slice A0_0 x0.length c0_0) := ka0_17.cell 0
  have zza0_17 := ka0_17.lt
  have gr_17_0 : w17.cell? ⟨w5.heap.size, 0, none⟩ = some (.slice Ds_0 ((undo x0 x1).1).length ds_0) := kr_17.cell 0
  have zzr_17 := kr_17.lt
  have gx0_17_0 : w17.cell? ⟨w6.heap.size, 0, none⟩ = some (.slice Dx0_0 x0.length dx0_0) := kx0_17.cell 0
  have zzx0_17 := kx0_17.lt
  have gg_17_0 : w17.cell? ⟨w8.heap.size, 0, none⟩ = some (.slice Dg_0 ((undo x0 x1).1).length dg_0) := kg_17.cell 0
  have zzg_17 := kg_17.lt
  go_wp2_with fail
  have hia := gmT_Tree.idem ((undo x0 x1).1) 1
  have hsa := gmT_Tree.same ((undo x0 x1).1) 1
  have hcba : (1 : Int) + (mmTTree.cnt (mmTTree.mark ((undo x0 x1).1) 1) : Nat) ≤ 1000000000 := by rw [hsa]; exact cbg
  refine (c_heldTree _ (mmTTree.mark ((undo x0 x1).1) 1) _ _ ⟨_, rfl, good_Tree.wide (good_Tree.own_rep mkg) (Nat.zero_le _) (by omega)⟩ hia (by omega) hcba).mono ?_
  rintro e w18 ⟨rfl, u18⟩
  have uu18 := uu17.trans u18
  have zs18 := u18.size
  have ka0_18 := ka0_17.up u18
  have kr_18 := kr_17.up u18
  have kx0_18 := kx0_17.up u18
  have kg_18 := kg_17.up u18
  have os_18 := good_Tree.keep os_17 (u18.keeps (by omega))
  clear os_17
  have mkx0_18 := good_Tree.own_keep mkx0_17 (fun y hy => u18.block y (Nat.lt_of_lt_of_le (good_Tree.own_in mkx0_17 y hy).2 (by omega)))
  clear mkx0_17
  have mkx1_18 := (good_L good_Image).own_keep mkx1_17 (fun y hy => u18.block y (Nat.lt_of_lt_of_le ((good_L good_Image).own_in mkx1_17 y hy).2 (by omega)))
  clear mkx1_17
  have mkg_18 := good_Tree.own_keep mkg (fun y hy => u18.block y (Nat.lt_of_lt_of_le (good_Tree.own_in mkg y hy).2 (by omega)))
  rw [hsa]
  clear hia hsa hcba u18
  clear ga0_17_0 zza0_17 gr_17_0 zzr_17 gx0_17_0 zzx0_17 gg_17_0 zzg_17
  have ga0_18_0 : w18.cell? ⟨w.heap.size, 0, none⟩ = some (.slice A0_0 x0.length c0_0) := ka0_18.cell 0
  have zza0_18 := ka0_18.lt
  have gr_18_0 : w18.cell? ⟨w5.heap.size, 0, none⟩ = some (.slice Ds_0 ((undo x0 x1).1).length ds_0) := kr_18.cell 0
  have zzr_18 := kr_18.lt
  have gx0_18_0 : w18.cell? ⟨w6.heap.size, 0, none⟩ = some (.slice Dx0_0 x0.length dx0_0) := kx0_18.cell 0
  have zzx0_18 := kx0_18.lt
  have gg_18_0 : w18.cell? ⟨w8.heap.size, 0, none⟩ = some (.slice Dg_0 ((undo x0 x1).1).length dg_0) := kg_18.cell 0
  have zzg_18 := kg_18.lt
  go_wp2_with fail
  refine (c_toTree _ x0 _ (hv0.up good_Tree uu18) hn0).mono ?_
  rintro e w19 ⟨csz0, blz0, rfl, oz0, ndz0, u19⟩
  obtain ⟨Dz0_0, dz0_0, _, rfl, _, _⟩ := openOTree oz0
  have uu19 := uu18.trans u19
  have zs19 := u19.size
  have ka0_19 := ka0_18.up u19
  have kr_19 := kr_18.up u19
  have kx0_19 := kx0_18.up u19
  have kg_19 := kg_18.up u19
  have os_19 := good_Tree.keep os_18 (u19.keeps (by omega))
  clear os_18
  have mkg_19 := good_Tree.own_keep mkg_18 (fun y hy => u19.block y (Nat.lt_of_lt_of_le (good_Tree.own_in mkg_18 y hy).2 (by omega)))
  clear mkg_18
  clear ga0_18_0 zza0_18 gr_18_0 zzr_18 gx0_18_0 zzx0_18 gg_18_0 zzg_18
  have ga0_19_0 : w19.cell? ⟨w.heap.size, 0, none⟩ = some (.slice A0_0 x0.length c0_0) := ka0_19.cell 0
  have zza0_19 := ka0_19.lt
  have gr_19_0 : w19.cell? ⟨w5.heap.size, 0, none⟩ = some (.slice Ds_0 ((undo x0 x1).1).length ds_0) := kr_19.cell 0
  have zzr_19 := kr_19.lt
  have gx0_19_0 : w19.cell? ⟨w6.heap.size, 0, none⟩ = some (.slice Dx0_0 x0.length dx0_0) := kx0_19.cell 0
  have zzx0_19 := kx0_19.lt
  have gg_19_0 : w19.cell? ⟨w8.heap.size, 0, none⟩ = some (.slice Dg_0 ((undo x0 x1).1).length dg_0) := kg_19.cell 0
  have zzg_19 := kg_19.lt
  go_wp2_with fail
  refine (c_toImageS _ _ _ _ (h1.up good_Image uu19) hn1).mono ?_
  rintro e w20 ⟨Dz1, dz1, blz1, rfl, ooz1, ndz1, u20⟩
  have oz1 : (shL shImage).own w20 (w19.heap.size) w20.heap.size [.slice Dz1 x1.length dz1] x1 blz1 := ⟨_, _, rfl, ooz1⟩
  have uu20 := uu19.trans u20
  have zs20 := u20.size
  have ka0_20 := ka0_19.up u20
  have kr_20 := kr_19.up u20
  have kx0_20 := kx0_19.up u20
  have kg_20 := kg_19.up u20
  have os_20 := good_Tree.keep os_19 (u20.keeps (by omega))
  clear os_19
  have mkg_20 := good_Tree.own_keep mkg_19 (fun y hy => u20.block y (Nat.lt_of_lt_of_le (good_Tree.own_in mkg_19 y hy).2 (by omega)))
  clear mkg_19
  have oz0_20 := good_Tree.own_keep oz0 (fun y hy => u20.block y (Nat.lt_of_lt_of_le (good_Tree.own_in oz0 y hy).2 (by omega)))
  clear ga0_19_0 zza0_19 gr_19_0 zzr_19 gx0_19_0 zzx0_19 gg_19_0 zzg_19
  have ga0_20_0 : w20.cell? ⟨w.heap.size, 0, none⟩ = some (.slice A0_0 x0.length c0_0) := ka0_20.cell 0
  have zza0_20 := ka0_20.lt
  have gr_20_0 : w20.cell? ⟨w5.heap.size, 0, none⟩ = some (.slice Ds_0 ((undo x0 x1).1).length ds_0) := kr_20.cell 0
  have zzr_20 := kr_20.lt
  have gx0_20_0 : w20.cell? ⟨w6.heap.size, 0, none⟩ = some (.slice Dx0_0 x0.length dx0_0) := kx0_20.cell 0
  have zzx0_20 := kx0_20.lt
  have gg_20_0 : w20.cell? ⟨w8.heap.size, 0, none⟩ = some (.slice Dg_0 ((undo x0 x1).1).length dg_0) := kg_20.cell 0
  have zzg_20 := kg_20.lt
  go_wp2_with fail
  refine (ci_Undo _ x0 _ _ x1 _ ⟨_, rfl, good_Tree.wide (good_Tree.own_rep oz0_20) (Nat.zero_le _) (by omega)⟩ hn0 (SR.of_rep good_Image ((good_L good_Image).wide ((good_L good_Image).own_rep oz1) (Nat.zero_le _) (by omega))) hn1 (tab_up htab uu20)).mono ?_
  rintro e w21 ⟨csh, blh, rfl, oh, ndh, u21⟩
  obtain ⟨Dh_0, dh_0, _, rfl, _, _⟩ := openOTree oh
  have uu21 := uu20.trans u21
  have zs21 := u21.size
  have ka0_21 := ka0_20.up u21
  have kr_21 := kr_20.up u21
  have kx0_21 := kx0_20.up u21
  have kg_21 := kg_20.up u21
  have os_21 := good_Tree.keep os_20 (u21.keeps (by omega))
  clear os_20
  have mkg_21 := good_Tree.own_keep mkg_20 (fun y hy => u21.block y (Nat.lt_of_lt_of_le (good_Tree.own_in mkg_20 y hy).2 (by omega)))
  clear mkg_20
  have oz0_21 := good_Tree.own_keep oz0_20 (fun y hy => u21.block y (Nat.lt_of_lt_of_le (good_Tree.own_in oz0_20 y hy).2 (by omega)))
  clear oz0_20
  have oz1_21 := (good_L good_Image).own_keep oz1 (fun y hy => u21.block y (Nat.lt_of_lt_of_le ((good_L good_Image).own_in oz1 y hy).2 (by omega)))
  have ua21 : Up w21 (w21.alloc (.cells #[.slice Dh_0 ((undo x0 x1).1).length dh_0] 32)) := (Up.alloc (Up.refl w21) (.cells #[.slice Dh_0 ((undo x0 x1).1).length dh_0] 32))
  have za21 : (w21.alloc (.cells #[.slice Dh_0 ((undo x0 x1).1).length dh_0] 32)).heap.size = w21.heap.size + 1 := by simp
  have ub21 := uu21.trans ua21
  have ka0_21b := ka0_21.up ua21
  have kr_21b := kr_21.up ua21
  have kx0_21b := kx0_21.up ua21
  have kg_21b := kg_21.up ua21
  have os_21b := good_Tree.keep os_21 (ua21.keeps (by omega))
  clear os_21
  have mkg_21b := good_Tree.own_keep mkg_21 (fun y hy => ua21.block y (Nat.lt_of_lt_of_le (good_Tree.own_in mkg_21 y hy).2 (by omega)))
  clear mkg_21
  have oz0_21b := good_Tree.own_keep oz0_21 (fun y hy => ua21.block y (Nat.lt_of_lt_of_le (good_Tree.own_in oz0_21 y hy).2 (by omega)))
  clear oz0_21
  have oz1_21b := (good_L good_Image).own_keep oz1_21 (fun y hy => ua21.block y (Nat.lt_of_lt_of_le ((good_L good_Image).own_in oz1_21 y hy).2 (by omega)))
  clear oz1_21
  have oh_21b := good_Tree.own_keep oh (fun y hy => ua21.block y (Nat.lt_of_lt_of_le (good_Tree.own_in oh y hy).2 (by omega)))
  have kh_21b : Bk (w21.alloc (.cells #[.slice Dh_0 ((undo x0 x1).1).length dh_0] 32)) (w21.heap.size) 32 #[.slice Dh_0 ((undo x0 x1).1).length dh_0] := Bk.new _ _ _
  clear ga0_20_0 zza0_20 gr_20_0 zzr_20 gx0_20_0 zzx0_20 gg_20_0 zzg_20
  have ga0_21_0 : (w21.alloc (.cells #[.slice Dh_0 ((undo x0 x1).1).length dh_0] 32)).cell? ⟨w.heap.size, 0, none⟩ = some (.slice A0_0 x0.length c0_0) := ka0_21b.cell 0
  have zza0_21 := ka0_21b.lt
  have gr_21_0 : (w21.alloc (.cells #[.slice Dh_0 ((undo x0 x1).1).length dh_0] 32)).cell? ⟨w5.heap.size, 0, none⟩ = some (.slice Ds_0 ((undo x0 x1).1).length ds_0) := kr_21b.cell 0
  have zzr_21 := kr_21b.lt
  have gx0_21_0 : (w21.alloc (.cells #[.slice Dh_0 ((undo x0 x1).1).length dh_0] 32)).cell? ⟨w6.heap.size, 0, none⟩ = some (.slice Dx0_0 x0.length dx0_0) := kx0_21b.cell 0
  have zzx0_21 := kx0_21b.lt
  have gg_21_0 : (w21.alloc (.cells #[.slice Dh_0 ((undo x0 x1).1).length dh_0] 32)).cell? ⟨w8.heap.size, 0, none⟩ = some (.slice Dg_0 ((undo x0 x1).1).length dg_0) := kg_21b.cell 0
  have zzg_21 := kg_21b.lt
  have gh_21_0 : (w21.alloc (.cells #[.slice Dh_0 ((undo x0 x1).1).length dh_0] 32)).cell? ⟨w21.heap.size, 0, none⟩ = some (.slice Dh_0 ((undo x0 x1).1).length dh_0) := kh_21b.cell 0
  have zzh_21 := kh_21b.lt
  go_wp2_with fail
  refine (c_eqTree _ _ ((undo x0 x1).1) ((undo x0 x1).1) _ ⟨_, rfl, good_Tree.wide (good_Tree.own_rep oh_21b) (Nat.zero_le _) (by omega)⟩ ⟨_, rfl, good_Tree.wide os_21b (Nat.le_refl _) (by omega)⟩).mono ?_
  rintro e w22 ⟨be2, rfl, hbe2, u22⟩
  have uu22 := ub21.trans u22
  have zs22 := u22.size
  have ka0_22 := ka0_21b.up u22
  have kr_22 := kr_21b.up u22
  have kx0_22 := kx0_21b.up u22
  have kg_22 := kg_21b.up u22
  have kh_22 := kh_21b.up u22
  have os_22 := good_Tree.keep os_21b (u22.keeps (by omega))
  clear os_21b
  have mkg_22 := good_Tree.own_keep mkg_21b (fun y hy => u22.block y (Nat.lt_of_lt_of_le (good_Tree.own_in mkg_21b y hy).2 (by omega)))
  clear mkg_21b
  have oz0_22 := good_Tree.own_keep oz0_21b (fun y hy => u22.block y (Nat.lt_of_lt_of_le (good_Tree.own_in oz0_21b y hy).2 (by omega)))
  clear oz0_21b
  have oz1_22 := (good_L good_Image).own_keep oz1_21b (fun y hy => u22.block y (Nat.lt_of_lt_of_le ((good_L good_Image).own_in oz1_21b y hy).2 (by omega)))
  clear oz1_21b
  have oh_22 := good_Tree.own_keep oh_21b (fun y hy => u22.block y (Nat.lt_of_lt_of_le (good_Tree.own_in oh_21b y hy).2 (by omega)))
  clear oh_21b
  obtain rfl : be2 = true := by simpa using hbe2
  clear hbe2 u22
  clear ga0_21_0 zza0_21 gr_21_0 zzr_21 gx0_21_0 zzx0_21 gg_21_0 zzg_21 gh_21_0 zzh_21
  have ga0_22_0 : w22.cell? ⟨w.heap.size, 0, none⟩ = some (.slice A0_0 x0.length c0_0) := ka0_22.cell 0
  have zza0_22 := ka0_22.lt
  have gr_22_0 : w22.cell? ⟨w5.heap.size, 0, none⟩ = some (.slice Ds_0 ((undo x0 x1).1).length ds_0) := kr_22.cell 0
  have zzr_22 := kr_22.lt
  have gx0_22_0 : w22.cell? ⟨w6.heap.size, 0, none⟩ = some (.slice Dx0_0 x0.length dx0_0) := kx0_22.cell 0
  have zzx0_22 := kx0_22.lt
  have gg_22_0 : w22.cell? ⟨w8.heap.size, 0, none⟩ = some (.slice Dg_0 ((undo x0 x1).1).length dg_0) := kg_22.cell 0
  have zzg_22 := kg_22.lt
  have gh_22_0 : w22.cell? ⟨w21.heap.size, 0, none⟩ = some (.slice Dh_0 ((undo x0 x1).1).length dh_0) := kh_22.cell 0
  have zzh_22 := kh_22.lt
  go_wp2_with fail
  have hib := gmT_Tree.idem ((undo x0 x1).1) 1
  have hsb := gmT_Tree.same ((undo x0 x1).1) 1
  have hcbb : (1 : Int) + (mmTTree.cnt (mmTTree.mark ((undo x0 x1).1) 1) : Nat) ≤ 1000000000 := by rw [hsb]; exact cbg
  refine (c_heldTree _ (mmTTree.mark ((undo x0 x1).1) 1) _ _ ⟨_, rfl, good_Tree.wide (good_Tree.own_rep mkg_22) (Nat.zero_le _) (by omega)⟩ hib (by omega) hcbb).mono ?_
  rintro e w23 ⟨rfl, u23⟩
  have uu23 := uu22.trans u23
  have zs23 := u23.size
  have ka0_23 := ka0_22.up u23
  have kr_23 := kr_22.up u23
  have kx0_23 := kx0_22.up u23
  have kg_23 := kg_22.up u23
  have kh_23 := kh_22.up u23
  have os_23 := good_Tree.keep os_22 (u23.keeps (by omega))
  clear os_22
  have mkg_23 := good_Tree.own_keep mkg_22 (fun y hy => u23.block y (Nat.lt_of_lt_of_le (good_Tree.own_in mkg_22 y hy).2 (by omega)))
  clear mkg_22
  have oz0_23 := good_Tree.own_keep oz0_22 (fun y hy => u23.block y (Nat.lt_of_lt_of_le (good_Tree.own_in oz0_22 y hy).2 (by omega)))
  clear oz0_22
  have oz1_23 := (good_L good_Image).own_keep oz1_22 (fun y hy => u23.block y (Nat.lt_of_lt_of_le ((good_L good_Image).own_in oz1_22 y hy).2 (by omega)))
  clear oz1_22
  have oh_23 := good_Tree.own_keep oh_22 (fun y hy => u23.block y (Nat.lt_of_lt_of_le (good_Tree.own_in oh_22 y hy).2 (by omega)))
  clear oh_22
  rw [hsb]
  clear hib hsb hcbb u23
  clear ga0_22_0 zza0_22 gr_22_0 zzr_22 gx0_22_0 zzx0_22 gg_22_0 zzg_22 gh_22_0 zzh_22
  have ga0_23_0 : w23.cell? ⟨w.heap.size, 0, none⟩ = some (.slice A0_0 x0.length c0_0) := ka0_23.cell 0
  have zza0_23 := ka0_23.lt
  have gr_23_0 : w23.cell? ⟨w5.heap.size, 0, none⟩ = some (.slice Ds_0 ((undo x0 x1).1).length ds_0) := kr_23.cell 0
  have zzr_23 := kr_23.lt
  have gx0_23_0 : w23.cell? ⟨w6.heap.size, 0, none⟩ = some (.slice Dx0_0 x0.length dx0_0) := kx0_23.cell 0
  have zzx0_23 := kx0_23.lt
  have gg_23_0 : w23.cell? ⟨w8.heap.size, 0, none⟩ = some (.slice Dg_0 ((undo x0 x1).1).length dg_0) := kg_23.cell 0
  have zzg_23 := kg_23.lt
  have gh_23_0 : w23.cell? ⟨w21.heap.size, 0, none⟩ = some (.slice Dh_0 ((undo x0 x1).1).length dh_0) := kh_23.cell 0
  have zzh_23 := kh_23.lt
  go_wp2_with fail
  go_ret
  exact ⟨rfl, uu23⟩
end Go.Proofs.YtanjmolgpkffoaaGreatDoor
