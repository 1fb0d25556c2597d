/-
  The walk of FnExactNoteDirty: for every input it returns true.
-/
import Derived.Test.YtfehlcbaalbajaaGreatNy
import Derived.Test.YtfehlcbaalbajaaGreatLd
import Derived.Deep.RegionHeld3
namespace Go.Proofs.YtfehlcbaalbajaaGreat
open Go.RowKit
set_option linter.unusedVariables false
set_option linter.unusedSimpArgs false

set_option maxRecDepth 100000 in
set_option maxHeartbeats 16000000 in
theorem w0_FnExactNoteDirty (w : World) (v0 : Value) (x0 : TCache) (h0 : AV shCache w v0 x0) (A1 : Option Addr) (c1 : Nat) (x1 : List Int) (h1 : SRW shI w A1 c1 x1) :
    Calls Tryz.prog 3 #[v0, .slice A1 x1.length c1] w fun e w' => e = .returned (.bool true) ∧ Up w w' := by
  have hv0 := h0
  obtain ⟨cs0, rfl, h0⟩ := h0
  obtain ⟨A0_1, c0_1, A0_2, c0_2, A0_6, c0_6, A0_10, c0_10, A0_11, c0_11, A0_12, c0_12, rfl, _⟩ := openCache h0
  clear h0
  have hm1 := h1.len_le
  have ka0_0 : Bk (w.alloc (.cells #[.int .i64 x0.1.1, .slice A0_1 x0.1.2.1.length c0_1, .slice A0_2 x0.1.2.2.length c0_2, .int .i64 x0.2.1.1, .int .i64 x0.2.1.2.1, .int .i64 x0.2.1.2.2.1, .slice A0_6 x0.2.1.2.2.2.length c0_6, .int .i64 x0.2.2.1.1, .int .i64 x0.2.2.1.2.1, .int .i64 x0.2.2.1.2.2.1, .slice A0_10 x0.2.2.1.2.2.2.length c0_10, .slice A0_11 x0.2.2.2.1.length c0_11, .slice A0_12 x0.2.2.2.2.length c0_12] 31)) (w.heap.size) 31 #[.int .i64 x0.1.1, .slice A0_1 x0.1.2.1.length c0_1, .slice A0_2 x0.1.2.2.length c0_2, .int .i64 x0.2.1.1, .int .i64 x0.2.1.2.1, .int .i64 x0.2.1.2.2.1, .slice A0_6 x0.2.1.2.2.2.length c0_6, .int .i64 x0.2.2.1.1, .int .i64 x0.2.2.1.2.1, .int .i64 x0.2.2.1.2.2.1, .slice A0_10 x0.2.2.1.2.2.2.length c0_10, .slice A0_11 x0.2.2.2.1.length c0_11, .slice A0_12 x0.2.2.2.2.length c0_12] := by simpa using Bk.new w 31 #[.int .i64 x0.1.1, .slice A0_1 x0.1.2.1.length c0_1, .slice A0_2 x0.1.2.2.length c0_2, .int .i64 x0.2.1.1, .int .i64 x0.2.1.2.1, .int .i64 x0.2.1.2.2.1, .slice A0_6 x0.2.1.2.2.2.length c0_6, .int .i64 x0.2.2.1.1, .int .i64 x0.2.2.1.2.1, .int .i64 x0.2.2.1.2.2.1, .slice A0_10 x0.2.2.1.2.2.2.length c0_10, .slice A0_11 x0.2.2.2.1.length c0_11, .slice A0_12 x0.2.2.2.2.length c0_12]
  have uu0 : Up w (w.alloc (.cells #[.int .i64 x0.1.1, .slice A0_1 x0.1.2.1.length c0_1, .slice A0_2 x0.1.2.2.length c0_2, .int .i64 x0.2.1.1, .int .i64 x0.2.1.2.1, .int .i64 x0.2.1.2.2.1, .slice A0_6 x0.2.1.2.2.2.length c0_6, .int .i64 x0.2.2.1.1, .int .i64 x0.2.2.1.2.1, .int .i64 x0.2.2.1.2.2.1, .slice A0_10 x0.2.2.1.2.2.2.length c0_10, .slice A0_11 x0.2.2.2.1.length c0_11, .slice A0_12 x0.2.2.2.2.length c0_12] 31)) := (Up.refl w).alloc _
  have zs0 := uu0.size
  have zs0b : (w.alloc (.cells #[.int .i64 x0.1.1, .slice A0_1 x0.1.2.1.length c0_1, .slice A0_2 x0.1.2.2.length c0_2, .int .i64 x0.2.1.1, .int .i64 x0.2.1.2.1, .int .i64 x0.2.1.2.2.1, .slice A0_6 x0.2.1.2.2.2.length c0_6, .int .i64 x0.2.2.1.1, .int .i64 x0.2.2.1.2.1, .int .i64 x0.2.2.1.2.2.1, .slice A0_10 x0.2.2.1.2.2.2.length c0_10, .slice A0_11 x0.2.2.2.1.length c0_11, .slice A0_12 x0.2.2.2.2.length c0_12] 31)).heap.size = w.heap.size + 1 := by simp
  go_enter Tryz.func3, Tryz.ntmps3
  go_wp2_with fail
  · go_ret
    exact ⟨rfl, uu0⟩
  refine (c_szCache _ x0 _ _ (hv0.up good_Cache uu0) (by omega) (by omega)).mono ?_
  rintro e w1 ⟨rfl, u1⟩
  have uu1 := uu0.trans u1
  have zs1 := u1.size
  have ka0_1 := ka0_0.up u1
  by_cases q0 : ¬ ((shCache.sz x0 : Nat) : Int) ≤ 1048576
  · rw [szR_no (by omega)]
    go_wp2_with fail
    go_ret
    exact ⟨rfl, uu1⟩
  replace q0 := Decidable.of_not_not q0
  rw [szR_yes q0]
  have ga0_1_0 : w1.cell? ⟨w.heap.size, 0, none⟩ = some (.int .i64 x0.1.1) := ka0_1.cell 0
  have ga0_1_1 : w1.cell? ⟨w.heap.size, 1, none⟩ = some (.slice A0_1 x0.1.2.1.length c0_1) := ka0_1.cell 1
  have ga0_1_2 : w1.cell? ⟨w.heap.size, 2, none⟩ = some (.slice A0_2 x0.1.2.2.length c0_2) := ka0_1.cell 2
  have ga0_1_3 : w1.cell? ⟨w.heap.size, 3, none⟩ = some (.int .i64 x0.2.1.1) := ka0_1.cell 3
  have ga0_1_4 : w1.cell? ⟨w.heap.size, 4, none⟩ = some (.int .i64 x0.2.1.2.1) := ka0_1.cell 4
  have ga0_1_5 : w1.cell? ⟨w.heap.size, 5, none⟩ = some (.int .i64 x0.2.1.2.2.1) := ka0_1.cell 5
  have ga0_1_6 : w1.cell? ⟨w.heap.size, 6, none⟩ = some (.slice A0_6 x0.2.1.2.2.2.length c0_6) := ka0_1.cell 6
  have ga0_1_7 : w1.cell? ⟨w.heap.size, 7, none⟩ = some (.int .i64 x0.2.2.1.1) := ka0_1.cell 7
  have ga0_1_8 : w1.cell? ⟨w.heap.size, 8, none⟩ = some (.int .i64 x0.2.2.1.2.1) := ka0_1.cell 8
  have ga0_1_9 : w1.cell? ⟨w.heap.size, 9, none⟩ = some (.int .i64 x0.2.2.1.2.2.1) := ka0_1.cell 9
  have ga0_1_10 : w1.cell? ⟨w.heap.size, 10, none⟩ = some (.slice A0_10 x0.2.2.1.2.2.2.length c0_10) := ka0_1.cell 10
  have ga0_1_11 : w1.cell? ⟨w.heap.size, 11, none⟩ = some (.slice A0_11 x0.2.2.2.1.length c0_11) := ka0_1.cell 11
  have ga0_1_12 : w1.cell? ⟨w.heap.size, 12, none⟩ = some (.slice A0_12 x0.2.2.2.2.length c0_12) := ka0_1.cell 12
  have zza0_1 := ka0_1.lt
  clear u1
  go_wp2_with fail
  have hn0 : shCache.sz x0 ≤ 1048576 := by omega
  have hn1 : (shL shI).sz x1 ≤ 1048576 := by rw [szI_len]; omega
  refine (c_toCache _ x0 _ (hv0.up good_Cache uu1) hn0).mono ?_
  rintro e w2 ⟨csp0, blp0, rfl, op0, ndp0, u2⟩
  obtain ⟨Dp0_1, dp0_1, _, Dp0_2, dp0_2, _, Dp0_6, dp0_6, _, Dp0_10, dp0_10, _, Dp0_11, dp0_11, _, Dp0_12, dp0_12, _, rfl, _, _⟩ := openOCache op0
  have uu2 := uu1.trans u2
  have zs2 := u2.size
  have ka0_2 := ka0_1.up u2
  clear ga0_1_0 ga0_1_1 ga0_1_2 ga0_1_3 ga0_1_4 ga0_1_5 ga0_1_6 ga0_1_7 ga0_1_8 ga0_1_9 ga0_1_10 ga0_1_11 ga0_1_12 zza0_1
  have ga0_2_0 : w2.cell? ⟨w.heap.size, 0, none⟩ = some (.int .i64 x0.1.1) := ka0_2.cell 0
  have ga0_2_1 : w2.cell? ⟨w.heap.size, 1, none⟩ = some (.slice A0_1 x0.1.2.1.length c0_1) := ka0_2.cell 1
  have ga0_2_2 : w2.cell? ⟨w.heap.size, 2, none⟩ = some (.slice A0_2 x0.1.2.2.length c0_2) := ka0_2.cell 2
  have ga0_2_3 : w2.cell? ⟨w.heap.size, 3, none⟩ = some (.int .i64 x0.2.1.1) := ka0_2.cell 3
  have ga0_2_4 : w2.cell? ⟨w.heap.size, 4, none⟩ = some (.int .i64 x0.2.1.2.1) := ka0_2.cell 4
  have ga0_2_5 : w2.cell? ⟨w.heap.size, 5, none⟩ = some (.int .i64 x0.2.1.2.2.1) := ka0_2.cell 5
  have ga0_2_6 : w2.cell? ⟨w.heap.size, 6, none⟩ = some (.slice A0_6 x0.2.1.2.2.2.length c0_6) := ka0_2.cell 6
  have ga0_2_7 : w2.cell? ⟨w.heap.size, 7, none⟩ = some (.int .i64 x0.2.2.1.1) := ka0_2.cell 7
  have ga0_2_8 : w2.cell? ⟨w.heap.size, 8, none⟩ = some (.int .i64 x0.2.2.1.2.1) := ka0_2.cell 8
  have ga0_2_9 : w2.cell? ⟨w.heap.size, 9, none⟩ = some (.int .i64 x0.2.2.1.2.2.1) := ka0_2.cell 9
  have ga0_2_10 : w2.cell? ⟨w.heap.size, 10, none⟩ = some (.slice A0_10 x0.2.2.1.2.2.2.length c0_10) := ka0_2.cell 10
  have ga0_2_11 : w2.cell? ⟨w.heap.size, 11, none⟩ = some (.slice A0_11 x0.2.2.2.1.length c0_11) := ka0_2.cell 11
  have ga0_2_12 : w2.cell? ⟨w.heap.size, 12, none⟩ = some (.slice A0_12 x0.2.2.2.2.length c0_12) := ka0_2.cell 12
  have zza0_2 := ka0_2.lt
  go_wp2_with fail
  refine (c_toInt64S _ _ _ _ (h1.up good_I uu2) hn1).mono ?_
  rintro e w3 ⟨Dp1, dp1, blp1, rfl, oop1, ndp1, u3⟩
  have op1 : (shL shI).own w3 (w2.heap.size) w3.heap.size [.slice Dp1 x1.length dp1] x1 blp1 := ⟨_, _, rfl, oop1⟩
  have uu3 := uu2.trans u3
  have zs3 := u3.size
  have ka0_3 := ka0_2.up u3
  have op0_3 := good_Cache.own_keep op0 (fun y hy => u3.block y (Nat.lt_of_lt_of_le (good_Cache.own_in op0 y hy).2 (by omega)))
  clear ga0_2_0 ga0_2_1 ga0_2_2 ga0_2_3 ga0_2_4 ga0_2_5 ga0_2_6 ga0_2_7 ga0_2_8 ga0_2_9 ga0_2_10 ga0_2_11 ga0_2_12 zza0_2
  have ga0_3_0 : w3.cell? ⟨w.heap.size, 0, none⟩ = some (.int .i64 x0.1.1) := ka0_3.cell 0
  have ga0_3_1 : w3.cell? ⟨w.heap.size, 1, none⟩ = some (.slice A0_1 x0.1.2.1.length c0_1) := ka0_3.cell 1
  have ga0_3_2 : w3.cell? ⟨w.heap.size, 2, none⟩ = some (.slice A0_2 x0.1.2.2.length c0_2) := ka0_3.cell 2
  have ga0_3_3 : w3.cell? ⟨w.heap.size, 3, none⟩ = some (.int .i64 x0.2.1.1) := ka0_3.cell 3
  have ga0_3_4 : w3.cell? ⟨w.heap.size, 4, none⟩ = some (.int .i64 x0.2.1.2.1) := ka0_3.cell 4
  have ga0_3_5 : w3.cell? ⟨w.heap.size, 5, none⟩ = some (.int .i64 x0.2.1.2.2.1) := ka0_3.cell 5
  have ga0_3_6 : w3.cell? ⟨w.heap.size, 6, none⟩ = some (.slice A0_6 x0.2.1.2.2.2.length c0_6) := ka0_3.cell 6
  have ga0_3_7 : w3.cell? ⟨w.heap.size, 7, none⟩ = some (.int .i64 x0.2.2.1.1) := ka0_3.cell 7
  have ga0_3_8 : w3.cell? ⟨w.heap.size, 8, none⟩ = some (.int .i64 x0.2.2.1.2.1) := ka0_3.cell 8
  have ga0_3_9 : w3.cell? ⟨w.heap.size, 9, none⟩ = some (.int .i64 x0.2.2.1.2.2.1) := ka0_3.cell 9
  have ga0_3_10 : w3.cell? ⟨w.heap.size, 10, none⟩ = some (.slice A0_10 x0.2.2.1.2.2.2.length c0_10) := ka0_3.cell 10
  have ga0_3_11 : w3.cell? ⟨w.heap.size, 11, none⟩ = some (.slice A0_11 x0.2.2.2.1.length c0_11) := ka0_3.cell 11
  have ga0_3_12 : w3.cell? ⟨w.heap.size, 12, none⟩ = some (.slice A0_12 x0.2.2.2.2.length c0_12) := ka0_3.cell 12
  have zza0_3 := ka0_3.lt
  go_wp2_with fail
  refine (cs_NoteDirty _ x0 _ _ x1 _ ⟨_, rfl, good_Cache.wide (good_Cache.own_rep op0_3) (Nat.zero_le _) (by omega)⟩ hn0 (SR.of_rep good_I ((good_L good_I).wide ((good_L good_I).own_rep op1) (Nat.zero_le _) (by omega))) hn1).mono ?_
  rintro e w4 ⟨css, rfl, os, u4⟩
  obtain ⟨Ds_1, ds_1, Ds_2, ds_2, Ds_6, ds_6, Ds_10, ds_10, Ds_11, ds_11, Ds_12, ds_12, rfl, _⟩ := openCache os
  have uu4 := uu3.trans u4
  have zs4 := u4.size
  have ka0_4 := ka0_3.up u4
  have op0_4 := good_Cache.own_keep op0_3 (fun y hy => u4.block y (Nat.lt_of_lt_of_le (good_Cache.own_in op0_3 y hy).2 (by omega)))
  clear op0_3
  have op1_4 := (good_L good_I).own_keep op1 (fun y hy => u4.block y (Nat.lt_of_lt_of_le ((good_L good_I).own_in op1 y hy).2 (by omega)))
  have ua4 : Up w4 (w4.alloc (.cells #[.int .i64 ((noteV x0 x1)).1.1, .slice Ds_1 ((noteV x0 x1)).1.2.1.length ds_1, .slice Ds_2 ((noteV x0 x1)).1.2.2.length ds_2, .int .i64 ((noteV x0 x1)).2.1.1, .int .i64 ((noteV x0 x1)).2.1.2.1, .int .i64 ((noteV x0 x1)).2.1.2.2.1, .slice Ds_6 ((noteV x0 x1)).2.1.2.2.2.length ds_6, .int .i64 ((noteV x0 x1)).2.2.1.1, .int .i64 ((noteV x0 x1)).2.2.1.2.1, .int .i64 ((noteV x0 x1)).2.2.1.2.2.1, .slice Ds_10 ((noteV x0 x1)).2.2.1.2.2.2.length ds_10, .slice Ds_11 ((noteV x0 x1)).2.2.2.1.length ds_11, .slice Ds_12 ((noteV x0 x1)).2.2.2.2.length ds_12] 40)) := (Up.alloc (Up.refl w4) (.cells #[.int .i64 ((noteV x0 x1)).1.1, .slice Ds_1 ((noteV x0 x1)).1.2.1.length ds_1, .slice Ds_2 ((noteV x0 x1)).1.2.2.length ds_2, .int .i64 ((noteV x0 x1)).2.1.1, .int .i64 ((noteV x0 x1)).2.1.2.1, .int .i64 ((noteV x0 x1)).2.1.2.2.1, .slice Ds_6 ((noteV x0 x1)).2.1.2.2.2.length ds_6, .int .i64 ((noteV x0 x1)).2.2.1.1, .int .i64 ((noteV x0 x1)).2.2.1.2.1, .int .i64 ((noteV x0 x1)).2.2.1.2.2.1, .slice Ds_10 ((noteV x0 x1)).2.2.1.2.2.2.length ds_10, .slice Ds_11 ((noteV x0 x1)).2.2.2.1.length ds_11, .slice Ds_12 ((noteV x0 x1)).2.2.2.2.length ds_12] 40))
  have za4 : (w4.alloc (.cells #[.int .i64 ((noteV x0 x1)).1.1, .slice Ds_1 ((noteV x0 x1)).1.2.1.length ds_1, .slice Ds_2 ((noteV x0 x1)).1.2.2.length ds_2, .int .i64 ((noteV x0 x1)).2.1.1, .int .i64 ((noteV x0 x1)).2.1.2.1, .int .i64 ((noteV x0 x1)).2.1.2.2.1, .slice Ds_6 ((noteV x0 x1)).2.1.2.2.2.length ds_6, .int .i64 ((noteV x0 x1)).2.2.1.1, .int .i64 ((noteV x0 x1)).2.2.1.2.1, .int .i64 ((noteV x0 x1)).2.2.1.2.2.1, .slice Ds_10 ((noteV x0 x1)).2.2.1.2.2.2.length ds_10, .slice Ds_11 ((noteV x0 x1)).2.2.2.1.length ds_11, .slice Ds_12 ((noteV x0 x1)).2.2.2.2.length ds_12] 40)).heap.size = w4.heap.size + 1 := by simp
  have ub4 := uu4.trans ua4
  have ka0_4b := ka0_4.up ua4
  have os_4b := good_Cache.keep os (ua4.keeps (by omega))
  have kr_4b : Bk (w4.alloc (.cells #[.int .i64 ((noteV x0 x1)).1.1, .slice Ds_1 ((noteV x0 x1)).1.2.1.length ds_1, .slice Ds_2 ((noteV x0 x1)).1.2.2.length ds_2, .int .i64 ((noteV x0 x1)).2.1.1, .int .i64 ((noteV x0 x1)).2.1.2.1, .int .i64 ((noteV x0 x1)).2.1.2.2.1, .slice Ds_6 ((noteV x0 x1)).2.1.2.2.2.length ds_6, .int .i64 ((noteV x0 x1)).2.2.1.1, .int .i64 ((noteV x0 x1)).2.2.1.2.1, .int .i64 ((noteV x0 x1)).2.2.1.2.2.1, .slice Ds_10 ((noteV x0 x1)).2.2.1.2.2.2.length ds_10, .slice Ds_11 ((noteV x0 x1)).2.2.2.1.length ds_11, .slice Ds_12 ((noteV x0 x1)).2.2.2.2.length ds_12] 40)) (w4.heap.size) 40 #[.int .i64 ((noteV x0 x1)).1.1, .slice Ds_1 ((noteV x0 x1)).1.2.1.length ds_1, .slice Ds_2 ((noteV x0 x1)).1.2.2.length ds_2, .int .i64 ((noteV x0 x1)).2.1.1, .int .i64 ((noteV x0 x1)).2.1.2.1, .int .i64 ((noteV x0 x1)).2.1.2.2.1, .slice Ds_6 ((noteV x0 x1)).2.1.2.2.2.length ds_6, .int .i64 ((noteV x0 x1)).2.2.1.1, .int .i64 ((noteV x0 x1)).2.2.1.2.1, .int .i64 ((noteV x0 x1)).2.2.1.2.2.1, .slice Ds_10 ((noteV x0 x1)).2.2.1.2.2.2.length ds_10, .slice Ds_11 ((noteV x0 x1)).2.2.2.1.length ds_11, .slice Ds_12 ((noteV x0 x1)).2.2.2.2.length ds_12] := Bk.new _ _ _
  clear ga0_3_0 ga0_3_1 ga0_3_2 ga0_3_3 ga0_3_4 ga0_3_5 ga0_3_6 ga0_3_7 ga0_3_8 ga0_3_9 ga0_3_10 ga0_3_11 ga0_3_12 zza0_3
  have ga0_4_0 : (w4.alloc (.cells #[.int .i64 ((noteV x0 x1)).1.1, .slice Ds_1 ((noteV x0 x1)).1.2.1.length ds_1, .slice Ds_2 ((noteV x0 x1)).1.2.2.length ds_2, .int .i64 ((noteV x0 x1)).2.1.1, .int .i64 ((noteV x0 x1)).2.1.2.1, .int .i64 ((noteV x0 x1)).2.1.2.2.1, .slice Ds_6 ((noteV x0 x1)).2.1.2.2.2.length ds_6, .int .i64 ((noteV x0 x1)).2.2.1.1, .int .i64 ((noteV x0 x1)).2.2.1.2.1, .int .i64 ((noteV x0 x1)).2.2.1.2.2.1, .slice Ds_10 ((noteV x0 x1)).2.2.1.2.2.2.length ds_10, .slice Ds_11 ((noteV x0 x1)).2.2.2.1.length ds_11, .slice Ds_12 ((noteV x0 x1)).2.2.2.2.length ds_12] 40)).cell? ⟨w.heap.size, 0, none⟩ = some (.int .i64 x0.1.1) := ka0_4b.cell 0
  have ga0_4_1 : (w4.alloc (.cells #[.int .i64 ((noteV x0 x1)).1.1, .slice Ds_1 ((noteV x0 x1)).1.2.1.length ds_1, .slice Ds_2 ((noteV x0 x1)).1.2.2.length ds_2, .int .i64 ((noteV x0 x1)).2.1.1, .int .i64 ((noteV x0 x1)).2.1.2.1, .int .i64 ((noteV x0 x1)).2.1.2.2.1, .slice Ds_6 ((noteV x0 x1)).2.1.2.2.2.length ds_6, .int .i64 ((noteV x0 x1)).2.2.1.1, .int .i64 ((noteV x0 x1)).2.2.1.2.1, .int .i64 ((noteV x0 x1)).2.2.1.2.2.1, .slice Ds_10 ((noteV x0 x1)).2.2.1.2.2.2.length ds_10, .slice Ds_11 ((noteV x0 x1)).2.2.2.1.length ds_11, .slice Ds_12 ((noteV x0 x1)).2.2.2.2.length ds_12] 40)).cell? ⟨w.heap.size, 1, none⟩ = some (.slice A0_1 x0.1.2.1.length c0_1) := ka0_4b.cell 1
  have ga0_4_2 : (w4.alloc (.cells #[.int .i64 ((noteV x0 x1)).1.1, .slice Ds_1 ((noteV x0 x1)).1.2.1.length ds_1, .slice Ds_2 ((noteV x0 x1)).1.2.2.length ds_2, .int .i64 ((noteV x0 x1)).2.1.1, .int .i64 ((noteV x0 x1)).2.1.2.1, .int .i64 ((noteV x0 x1)).2.1.2.2.1, .slice Ds_6 ((noteV x0 x1)).2.1.2.2.2.length ds_6, .int .i64 ((noteV x0 x1)).2.2.1.1, .int .i64 ((noteV x0 x1)).2.2.1.2.1, .int .i64 ((noteV x0 x1)).2.2.1.2.2.1, .slice Ds_10 ((noteV x0 x1)).2.2.1.2.2.2.length ds_10, .slice Ds_11 ((noteV x0 x1)).2.2.2.1.length ds_11, .slice Ds_12 ((noteV x0 x1)).2.2.2.2.length ds_12] 40)).cell? ⟨w.heap.size, 2, none⟩ = some (.slice A0_2 x0.1.2.2.length c0_2) := ka0_4b.cell 2
  have ga0_4_3 : (w4.alloc (.cells #[.int .i64 ((noteV x0 x1)).1.1, .slice Ds_1 ((noteV x0 x1)).1.2.1.length ds_1, .slice Ds_2 ((noteV x0 x1)).1.2.2.length ds_2, .int .i64 ((noteV x0 x1)).2.1.1, .int .i64 ((noteV x0 x1)).2.1.2.1, .int .i64 ((noteV x0 x1)).2.1.2.2.1, .slice Ds_6 ((noteV x0 x1)).2.1.2.2.2.length ds_6, .int .i64 ((noteV x0 x1)).2.2.1.1, .int .i64 ((noteV x0 x1)).2.2.1.2.1, .int .i64 ((noteV x0 x1)).2.2.1.2.2.1, .slice Ds_10 ((noteV x0 x1)).2.2.1.2.2.2.length ds_10, .slice Ds_11 ((noteV x0 x1)).2.2.2.1.length ds_11, .slice Ds_12 ((noteV x0 x1)).2.2.2.2.length ds_12] 40)).cell? ⟨w.heap.size, 3, none⟩ = some (.int .i64 x0.2.1.1) := ka0_4b.cell 3
  have ga0_4_4 : (w4.alloc (.cells #[.int .i64 ((noteV x0 x1)).1.1, .slice Ds_1 ((noteV x0 x1)).1.2.1.length ds_1, .slice Ds_2 ((noteV x0 x1)).1.2.2.length ds_2, .int .i64 ((noteV x0 x1)).2.1.1, .int .i64 ((noteV x0 x1)).2.1.2.1, .int .i64 ((noteV x0 x1)).2.1.2.2.1, .slice Ds_6 ((noteV x0 x1)).2.1.2.2.2.length ds_6, .int .i64 ((noteV x0 x1)).2.2.1.1, .int .i64 ((noteV x0 x1)).2.2.1.2.1, .int .i64 ((noteV x0 x1)).2.2.1.2.2.1, .slice Ds_10 ((noteV x0 x1)).2.2.1.2.2.2.length ds_10, .slice Ds_11 ((noteV x0 x1)).2.2.2.1.length ds_11, .slice Ds_12 ((noteV x0 x1)).2.2.2.2.length ds_12] 40)).cell? ⟨w.heap.size, 4, none⟩ = some (.int .i64 x0.2.1.2.1) := ka0_4b.cell 4
  have ga0_4_5 : (w4.alloc (.cells #[.int .i64 ((noteV x0 x1)).1.1, .slice Ds_1 ((noteV x0 x1)).1.2.1.length ds_1, .slice Ds_2 ((noteV x0 x1)).1.2.2.length ds_2, .int .i64 ((noteV x0 x1)).2.1.1, .int .i64 ((noteV x0 x1)).2.1.2.1, .int .i64 ((noteV x0 x1)).2.1.2.2.1, .slice Ds_6 ((noteV x0 x1)).2.1.2.2.2.length ds_6, .int .i64 ((noteV x0 x1)).2.2.1.1, .int .i64 ((noteV x0 x1)).2.2.1.2.1, .int .i64 ((noteV x0 x1)).2.2.1.2.2.1, .slice Ds_10 ((noteV x0 x1)).2.2.1.2.2.2.length ds_10, .slice Ds_11 ((noteV x0 x1)).2.2.2.1.length ds_11, .slice Ds_12 ((noteV x0 x1)).2.2.2.2.length ds_12] 40)).cell? ⟨w.heap.size, 5, none⟩ = some (.int .i64 x0.2.1.2.2.1) := ka0_4b.cell 5
  have ga0_4_6 : (w4.alloc (.cells #[.int .i64 ((noteV x0 x1)).1.1, .slice Ds_1 ((noteV x0 x1)).1.2.1.length ds_1, .slice Ds_2 ((noteV x0 x1)).1.2.2.length ds_2, .int .i64 ((noteV x0 x1)).2.1.1, .int .i64 ((noteV x0 x1)).2.1.2.1, .int .i64 ((noteV x0 x1)).2.1.2.2.1, .slice Ds_6 ((noteV x0 x1)).2.1.2.2.2.length ds_6, .int .i64 ((noteV x0 x1)).2.2.1.1, .int .i64 ((noteV x0 x1)).2.2.1.2.1, .int .i64 ((noteV x0 x1)).2.2.1.2.2.1, .slice Ds_10 ((noteV x0 x1)).2.2.1.2.2.2.length ds_10, .slice Ds_11 ((noteV x0 x1)).2.2.2.1.length ds_11, .slice Ds_12 ((noteV x0 x1)).2.2.2.2.length ds_12] 40)).cell? ⟨w.heap.size, 6, none⟩ = some (.slice A0_6 x0.2.1.2.2.2.length c0_6) := ka0_4b.cell 6
  have ga0_4_7 : (w4.alloc (.cells #[.int .i64 ((noteV x0 x1)).1.1, .slice Ds_1 ((noteV x0 x1)).1.2.1.length ds_1, .slice Ds_2 ((noteV x0 x1)).1.2.2.length ds_2, .int .i64 ((noteV x0 x1)).2.1.1, .int .i64 ((noteV x0 x1)).2.1.2.1, .int .i64 ((noteV x0 x1)).2.1.2.2.1, .slice Ds_6 ((noteV x0 x1)).2.1.2.2.2.length ds_6, .int .i64 ((noteV x0 x1)).2.2.1.1, .int .i64 ((noteV x0 x1)).2.2.1.2.1, .int .i64 ((noteV x0 x1)).2.2.1.2.2.1, .slice Ds_10 ((noteV x0 x1)).2.2.1.2.2.2.length ds_10, .slice Ds_11 ((noteV x0 x1)).2.2.2.1.length ds_11, .slice Ds_12 ((noteV x0 x1)).2.2.2.2.length ds_12] 40)).cell? ⟨w.heap.size, 7, none⟩ = some (.int .i64 x0.2.2.1.1) := ka0_4b.cell 7
  have ga0_4_8 : (w4.alloc (.cells #[.int .i64 ((noteV x0 x1)).1.1, .slice Ds_1 ((noteV x0 x1)).1.2.1.length ds_1, .slice Ds_2 ((noteV x0 x1)).1.2.2.length ds_2, .int .i64 ((noteV x0 x1)).2.1.1, .int .i64 ((noteV x0 x1)).2.1.2.1, .int .i64 ((noteV x0 x1)).2.1.2.2.1, .slice Ds_6 ((noteV x0 x1)).2.1.2.2.2.length ds_6, .int .i64 ((noteV x0 x1)).2.2.1.1, .int .i64 ((noteV x0 x1)).2.2.1.2.1, .int .i64 ((noteV x0 x1)).2.2.1.2.2.1, .slice Ds_10 ((noteV x0 x1)).2.2.1.2.2.2.length ds_10, .slice Ds_11 ((noteV x0 x1)).2.2.2.1.length ds_11, .slice Ds_12 ((noteV x0 x1)).2.2.2.2.length ds_12] 40)).cell? ⟨w.heap.size, 8, none⟩ = some (.int .i64 x0.2.2.1.2.1) := ka0_4b.cell 8
  have ga0_4_9 : (w4.alloc (.cells #[.int .i64 ((noteV x0 x1)).1.1, .slice Ds_1 ((noteV x0 x1)).1.2.1.length ds_1, .slice Ds_2 ((noteV x0 x1)).1.2.2.length ds_2, .int .i64 ((noteV x0 x1)).2.1.1, .int .i64 ((noteV x0 x1)).2.1.2.1, .int .i64 ((noteV x0 x1)).2.1.2.2.1, .slice Ds_6 ((noteV x0 x1)).2.1.2.2.2.length ds_6, .int .i64 ((noteV x0 x1)).2.2.1.1, .int .i64 ((noteV x0 x1)).2.2.1.2.1, .int .i64 ((noteV x0 x1)).2.2.1.2.2.1, .slice Ds_10 ((noteV x0 x1)).2.2.1.2.2.2.length ds_10, .slice Ds_11 ((noteV x0 x1)).2.2.2.1.length ds_11, .slice Ds_12 ((noteV x0 x1)).2.2.2.2.length ds_12] 40)).cell? ⟨w.heap.size, 9, none⟩ = some (.int .i64 x0.2.2.1.2.2.1) := ka0_4b.cell 9
  have ga0_4_10 : (w4.alloc (.cells #[.int .i64 ((noteV x0 x1)).1.1, .slice Ds_1 ((noteV x0 x1)).1.2.1.length ds_1, .slice Ds_2 ((noteV x0 x1)).1.2.2.length ds_2, .int .i64 ((noteV x0 x1)).2.1.1, .int .i64 ((noteV x0 x1)).2.1.2.1, .int .i64 ((noteV x0 x1)).2.1.2.2.1, .slice Ds_6 ((noteV x0 x1)).2.1.2.2.2.length ds_6, .int .i64 ((noteV x0 x1)).2.2.1.1, .int .i64 ((noteV x0 x1)).2.2.1.2.1, .int .i64 ((noteV x0 x1)).2.2.1.2.2.1, .slice Ds_10 ((noteV x0 x1)).2.2.1.2.2.2.length ds_10, .slice Ds_11 ((noteV x0 x1)).2.2.2.1.length ds_11, .slice Ds_12 ((noteV x0 x1)).2.2.2.2.length ds_12] 40)).cell? ⟨w.heap.size, 10, none⟩ = some (.slice A0_10 x0.2.2.1.2.2.2.length c0_10) := ka0_4b.cell 10
  have ga0_4_11 : (w4.alloc (.cells #[.int .i64 ((noteV x0 x1)).1.1, .slice Ds_1 ((noteV x0 x1)).1.2.1.length ds_1, .slice Ds_2 ((noteV x0 x1)).1.2.2.length ds_2, .int .i64 ((noteV x0 x1)).2.1.1, .int .i64 ((noteV x0 x1)).2.1.2.1, .int .i64 ((noteV x0 x1)).2.1.2.2.1, .slice Ds_6 ((noteV x0 x1)).2.1.2.2.2.length ds_6, .int .i64 ((noteV x0 x1)).2.2.1.1, .int .i64 ((noteV x0 x1)).2.2.1.2.1, .int .i64 ((noteV x0 x1)).2.2.1.2.2.1, .slice Ds_10 ((noteV x0 x1)).2.2.1.2.2.2.length ds_10, .slice Ds_11 ((noteV x0 x1)).2.2.2.1.length ds_11, .slice Ds_12 ((noteV x0 x1)).2.2.2.2.length ds_12] 40)).cell? ⟨w.heap.size, 11, none⟩ = some (.slice A0_11 x0.2.2.2.1.length c0_11) := ka0_4b.cell 11
  have ga0_4_12 : (w4.alloc (.cells #[.int .i64 ((noteV x0 x1)).1.1, .slice Ds_1 ((noteV x0 x1)).1.2.1.length ds_1, .slice Ds_2 ((noteV x0 x1)).1.2.2.length ds_2, .int .i64 ((noteV x0 x1)).2.1.1, .int .i64 ((noteV x0 x1)).2.1.2.1, .int .i64 ((noteV x0 x1)).2.1.2.2.1, .slice Ds_6 ((noteV x0 x1)).2.1.2.2.2.length ds_6, .int .i64 ((noteV x0 x1)).2.2.1.1, .int .i64 ((noteV x0 x1)).2.2.1.2.1, .int .i64 ((noteV x0 x1)).2.2.1.2.2.1, .slice Ds_10 ((noteV x0 x1)).2.2.1.2.2.2.length ds_10, .slice Ds_11 ((noteV x0 x1)).2.2.2.1.length ds_11, .slice Ds_12 ((noteV x0 x1)).2.2.2.2.length ds_12] 40)).cell? ⟨w.heap.size, 12, none⟩ = some (.slice A0_12 x0.2.2.2.2.length c0_12) := ka0_4b.cell 12
  have zza0_4 := ka0_4b.lt
  have gr_4_0 : (w4.alloc (.cells #[.int .i64 ((noteV x0 x1)).1.1, .slice Ds_1 ((noteV x0 x1)).1.2.1.length ds_1, .slice Ds_2 ((noteV x0 x1)).1.2.2.length ds_2, .int .i64 ((noteV x0 x1)).2.1.1, .int .i64 ((noteV x0 x1)).2.1.2.1, .int .i64 ((noteV x0 x1)).2.1.2.2.1, .slice Ds_6 ((noteV x0 x1)).2.1.2.2.2.length ds_6, .int .i64 ((noteV x0 x1)).2.2.1.1, .int .i64 ((noteV x0 x1)).2.2.1.2.1, .int .i64 ((noteV x0 x1)).2.2.1.2.2.1, .slice Ds_10 ((noteV x0 x1)).2.2.1.2.2.2.length ds_10, .slice Ds_11 ((noteV x0 x1)).2.2.2.1.length ds_11, .slice Ds_12 ((noteV x0 x1)).2.2.2.2.length ds_12] 40)).cell? ⟨w4.heap.size, 0, none⟩ = some (.int .i64 ((noteV x0 x1)).1.1) := kr_4b.cell 0
  have gr_4_1 : (w4.alloc (.cells #[.int .i64 ((noteV x0 x1)).1.1, .slice Ds_1 ((noteV x0 x1)).1.2.1.length ds_1, .slice Ds_2 ((noteV x0 x1)).1.2.2.length ds_2, .int .i64 ((noteV x0 x1)).2.1.1, .int .i64 ((noteV x0 x1)).2.1.2.1, .int .i64 ((noteV x0 x1)).2.1.2.2.1, .slice Ds_6 ((noteV x0 x1)).2.1.2.2.2.length ds_6, .int .i64 ((noteV x0 x1)).2.2.1.1, .int .i64 ((noteV x0 x1)).2.2.1.2.1, .int .i64 ((noteV x0 x1)).2.2.1.2.2.1, .slice Ds_10 ((noteV x0 x1)).2.2.1.2.2.2.length ds_10, .slice Ds_11 ((noteV x0 x1)).2.2.2.1.length ds_11, .slice Ds_12 ((noteV x0 x1)).2.2.2.2.length ds_12] 40)).cell? ⟨w4.heap.size, 1, none⟩ = some (.slice Ds_1 ((noteV x0 x1)).1.2.1.length ds_1) := kr_4b.cell 1
  have gr_4_2 : (w4.alloc (.cells #[.int .i64 ((noteV x0 x1)).1.1, .slice Ds_1 ((noteV x0 x1)).1.2.1.length ds_1, .slice Ds_2 ((noteV x0 x1)).1.2.2.length ds_2, .int .i64 ((noteV x0 x1)).2.1.1, .int .i64 ((noteV x0 x1)).2.1.2.1, .int .i64 ((noteV x0 x1)).2.1.2.2.1, .slice Ds_6 ((noteV x0 x1)).2.1.2.2.2.length ds_6, .int .i64 ((noteV x0 x1)).2.2.1.1, .int .i64 ((noteV x0 x1)).2.2.1.2.1, .int .i64 ((noteV x0 x1)).2.2.1.2.2.1, .slice Ds_10 ((noteV x0 x1)).2.2.1.2.2.2.length ds_10, .slice Ds_11 ((noteV x0 x1)).2.2.2.1.length ds_11, .slice Ds_12 ((noteV x0 x1)).2.2.2.2.length ds_12] 40)).cell? ⟨w4.heap.size, 2, none⟩ = some (.slice Ds_2 ((noteV x0 x1)).1.2.2.length ds_2) := kr_4b.cell 2
  have gr_4_3 : (w4.alloc (.cells #[.int .i64 ((noteV x0 x1)).1.1, .slice Ds_1 ((noteV x0 x1)).1.2.1.length ds_1, .slice Ds_2 ((noteV x0 x1)).1.2.2.length ds_2, .int .i64 ((noteV x0 x1)).2.1.1, .int .i64 ((noteV x0 x1)).2.1.2.1, .int .i64 ((noteV x0 x1)).2.1.2.2.1, .slice Ds_6 ((noteV x0 x1)).2.1.2.2.2.length ds_6, .int .i64 ((noteV x0 x1)).2.2.1.1, .int .i64 ((noteV x0 x1)).2.2.1.2.1, .int .i64 ((noteV x0 x1)).2.2.1.2.2.1, .slice Ds_10 ((noteV x0 x1)).2.2.1.2.2.2.length ds_10, .slice Ds_11 ((noteV x0 x1)).2.2.2.1.length ds_11, .slice Ds_12 ((noteV x0 x1)).2.2.2.2.length ds_12] 40)).cell? ⟨w4.heap.size, 3, none⟩ = some (.int .i64 ((noteV x0 x1)).2.1.1) := kr_4b.cell 3
  have gr_4_4 : (w4.alloc (.cells #[.int .i64 ((noteV x0 x1)).1.1, .slice Ds_1 ((noteV x0 x1)).1.2.1.length ds_1, .slice Ds_2 ((noteV x0 x1)).1.2.2.length ds_2, .int .i64 ((noteV x0 x1)).2.1.1, .int .i64 ((noteV x0 x1)).2.1.2.1, .int .i64 ((noteV x0 x1)).2.1.2.2.1, .slice Ds_6 ((noteV x0 x1)).2.1.2.2.2.length ds_6, .int .i64 ((noteV x0 x1)).2.2.1.1, .int .i64 ((noteV x0 x1)).2.2.1.2.1, .int .i64 ((noteV x0 x1)).2.2.1.2.2.1, .slice Ds_10 ((noteV x0 x1)).2.2.1.2.2.2.length ds_10, .slice Ds_11 ((noteV x0 x1)).2.2.2.1.length ds_11, .slice Ds_12 ((noteV x0 x1)).2.2.2.2.length ds_12] 40)).cell? ⟨w4.heap.size, 4, none⟩ = some (.int .i64 ((noteV x0 x1)).2.1.2.1) := kr_4b.cell 4
  have gr_4_5 : (w4.alloc (.cells #[.int .i64 ((noteV x0 x1)).1.1, .slice Ds_1 ((noteV x0 x1)).1.2.1.length ds_1, .slice Ds_2 ((noteV x0 x1)).1.2.2.length ds_2, .int .i64 ((noteV x0 x1)).2.1.1, .int .i64 ((noteV x0 x1)).2.1.2.1, .int .i64 ((noteV x0 x1)).2.1.2.2.1, .slice Ds_6 ((noteV x0 x1)).2.1.2.2.2.length ds_6, .int .i64 ((noteV x0 x1)).2.2.1.1, .int .i64 ((noteV x0 x1)).2.2.1.2.1, .int .i64 ((noteV x0 x1)).2.2.1.2.2.1, .slice Ds_10 ((noteV x0 x1)).2.2.1.2.2.2.length ds_10, .slice Ds_11 ((noteV x0 x1)).2.2.2.1.length ds_11, .slice Ds_12 ((noteV x0 x1)).2.2.2.2.length ds_12] 40)).cell? ⟨w4.heap.size, 5, none⟩ = some (.int .i64 ((noteV x0 x1)).2.1.2.2.1) := kr_4b.cell 5
  have gr_4_6 : (w4.alloc (.cells #[.int .i64 ((noteV x0 x1)).1.1, .slice Ds_1 ((noteV x0 x1)).1.2.1.length ds_1, .slice Ds_2 ((noteV x0 x1)).1.2.2.length ds_2, .int .i64 ((noteV x0 x1)).2.1.1, .int .i64 ((noteV x0 x1)).2.1.2.1, .int .i64 ((noteV x0 x1)).2.1.2.2.1, .slice Ds_6 ((noteV x0 x1)).2.1.2.2.2.length ds_6, .int .i64 ((noteV x0 x1)).2.2.1.1, .int .i64 ((noteV x0 x1)).2.2.1.2.1, .int .i64 ((noteV x0 x1)).2.2.1.2.2.1, .slice Ds_10 ((noteV x0 x1)).2.2.1.2.2.2.length ds_10, .slice Ds_11 ((noteV x0 x1)).2.2.2.1.length ds_11, .slice Ds_12 ((noteV x0 x1)).2.2.2.2.length ds_12] 40)).cell? ⟨w4.heap.size, 6, none⟩ = some (.slice Ds_6 ((noteV x0 x1)).2.1.2.2.2.length ds_6) := kr_4b.cell 6
  have gr_4_7 : (w4.alloc (.cells #[.int .i64 ((noteV x0 x1)).1.1, .slice Ds_1 ((noteV x0 x1)).1.2.1.length ds_1, .slice Ds_2 ((noteV x0 x1)).1.2.2.length ds_2, .int .i64 ((noteV x0 x1)).2.1.1, .int .i64 ((noteV x0 x1)).2.1.2.1, .int .i64 ((noteV x0 x1)).2.1.2.2.1, .slice Ds_6 ((noteV x0 x1)).2.1.2.2.2.length ds_6, .int .i64 ((noteV x0 x1)).2.2.1.1, .int .i64 ((noteV x0 x1)).2.2.1.2.1, .int .i64 ((noteV x0 x1)).2.2.1.2.2.1, .slice Ds_10 ((noteV x0 x1)).2.2.1.2.2.2.length ds_10, .slice Ds_11 ((noteV x0 x1)).2.2.2.1.length ds_11, .slice Ds_12 ((noteV x0 x1)).2.2.2.2.length ds_12] 40)).cell? ⟨w4.heap.size, 7, none⟩ = some (.int .i64 ((noteV x0 x1)).2.2.1.1) := kr_4b.cell 7
  have gr_4_8 : (w4.alloc (.cells #[.int .i64 ((noteV x0 x1)).1.1, .slice Ds_1 ((noteV x0 x1)).1.2.1.length ds_1, .slice Ds_2 ((noteV x0 x1)).1.2.2.length ds_2, .int .i64 ((noteV x0 x1)).2.1.1, .int .i64 ((noteV x0 x1)).2.1.2.1, .int .i64 ((noteV x0 x1)).2.1.2.2.1, .slice Ds_6 ((noteV x0 x1)).2.1.2.2.2.length ds_6, .int .i64 ((noteV x0 x1)).2.2.1.1, .int .i64 ((noteV x0 x1)).2.2.1.2.1, .int .i64 ((noteV x0 x1)).2.2.1.2.2.1, .slice Ds_10 ((noteV x0 x1)).2.2.1.2.2.2.length ds_10, .slice Ds_11 ((noteV x0 x1)).2.2.2.1.length ds_11, .slice Ds_12 ((noteV x0 x1)).2.2.2.2.length ds_12] 40)).cell? ⟨w4.heap.size, 8, none⟩ = some (.int .i64 ((noteV x0 x1)).2.2.1.2.1) := kr_4b.cell 8
  have gr_4_9 : (w4.alloc (.cells #[.int .i64 ((noteV x0 x1)).1.1, .slice Ds_1 ((noteV x0 x1)).1.2.1.length ds_1, .slice Ds_2 ((noteV x0 x1)).1.2.2.length ds_2, .int .i64 ((noteV x0 x1)).2.1.1, .int .i64 ((noteV x0 x1)).2.1.2.1, .int .i64 ((noteV x0 x1)).2.1.2.2.1, .slice Ds_6 ((noteV x0 x1)).2.1.2.2.2.length ds_6, .int .i64 ((noteV x0 x1)).2.2.1.1, .int .i64 ((noteV x0 x1)).2.2.1.2.1, .int .i64 ((noteV x0 x1)).2.2.1.2.2.1, .slice Ds_10 ((noteV x0 x1)).2.2.1.2.2.2.length ds_10, .slice Ds_11 ((noteV x0 x1)).2.2.2.1.length ds_11, .slice Ds_12 ((noteV x0 x1)).2.2.2.2.length ds_12] 40)).cell? ⟨w4.heap.size, 9, none⟩ = some (.int .i64 ((noteV x0 x1)).2.2.1.2.2.1) := kr_4b.cell 9
  have gr_4_10 : (w4.alloc (.cells #[.int .i64 ((noteV x0 x1)).1.1, .slice Ds_1 ((noteV x0 x1)).1.2.1.length ds_1, .slice Ds_2 ((noteV x0 x1)).1.2.2.length ds_2, .int .i64 ((noteV x0 x1)).2.1.1, .int .i64 ((noteV x0 x1)).2.1.2.1, .int .i64 ((noteV x0 x1)).2.1.2.2.1, .slice Ds_6 ((noteV x0 x1)).2.1.2.2.2.length ds_6, .int .i64 ((noteV x0 x1)).2.2.1.1, .int .i64 ((noteV x0 x1)).2.2.1.2.1, .int .i64 ((noteV x0 x1)).2.2.1.2.2.1, .slice Ds_10 ((noteV x0 x1)).2.2.1.2.2.2.length ds_10, .slice Ds_11 ((noteV x0 x1)).2.2.2.1.length ds_11, .slice Ds_12 ((noteV x0 x1)).2.2.2.2.length ds_12] 40)).cell? ⟨w4.heap.size, 10, none⟩ = some (.slice Ds_10 ((noteV x0 x1)).2.2.1.2.2.2.length ds_10) := kr_4b.cell 10
  have gr_4_11 : (w4.alloc (.cells #[.int .i64 ((noteV x0 x1)).1.1, .slice Ds_1 ((noteV x0 x1)).1.2.1.length ds_1, .slice Ds_2 ((noteV x0 x1)).1.2.2.length ds_2, .int .i64 ((noteV x0 x1)).2.1.1, .int .i64 ((noteV x0 x1)).2.1.2.1, .int .i64 ((noteV x0 x1)).2.1.2.2.1, .slice Ds_6 ((noteV x0 x1)).2.1.2.2.2.length ds_6, .int .i64 ((noteV x0 x1)).2.2.1.1, .int .i64 ((noteV x0 x1)).2.2.1.2.1, .int .i64 ((noteV x0 x1)).2.2.1.2.2.1, .slice Ds_10 ((noteV x0 x1)).2.2.1.2.2.2.length ds_10, .slice Ds_11 ((noteV x0 x1)).2.2.2.1.length ds_11, .slice Ds_12 ((noteV x0 x1)).2.2.2.2.length ds_12] 40)).cell? ⟨w4.heap.size, 11, none⟩ = some (.slice Ds_11 ((noteV x0 x1)).2.2.2.1.length ds_11) := kr_4b.cell 11
  have gr_4_12 : (w4.alloc (.cells #[.int .i64 ((noteV x0 x1)).1.1, .slice Ds_1 ((noteV x0 x1)).1.2.1.length ds_1, .slice Ds_2 ((noteV x0 x1)).1.2.2.length ds_2, .int .i64 ((noteV x0 x1)).2.1.1, .int .i64 ((noteV x0 x1)).2.1.2.1, .int .i64 ((noteV x0 x1)).2.1.2.2.1, .slice Ds_6 ((noteV x0 x1)).2.1.2.2.2.length ds_6, .int .i64 ((noteV x0 x1)).2.2.1.1, .int .i64 ((noteV x0 x1)).2.2.1.2.1, .int .i64 ((noteV x0 x1)).2.2.1.2.2.1, .slice Ds_10 ((noteV x0 x1)).2.2.1.2.2.2.length ds_10, .slice Ds_11 ((noteV x0 x1)).2.2.2.1.length ds_11, .slice Ds_12 ((noteV x0 x1)).2.2.2.2.length ds_12] 40)).cell? ⟨w4.heap.size, 12, none⟩ = some (.slice Ds_12 ((noteV x0 x1)).2.2.2.2.length ds_12) := kr_4b.cell 12
  have zzr_4 := kr_4b.lt
  go_wp2_with fail
  refine (c_toCache _ x0 _ (hv0.up good_Cache ub4) hn0).mono ?_
  rintro e w5 ⟨csx0, blx0, rfl, ox0, ndx0, u5⟩
  obtain ⟨Dx0_1, dx0_1, _, Dx0_2, dx0_2, _, Dx0_6, dx0_6, _, Dx0_10, dx0_10, _, Dx0_11, dx0_11, _, Dx0_12, dx0_12, _, rfl, _, _⟩ := openOCache ox0
  have uu5 := ub4.trans u5
  have zs5 := u5.size
  have ka0_5 := ka0_4b.up u5
  have kr_5 := kr_4b.up u5
  have os_5 := good_Cache.keep os_4b (u5.keeps (by omega))
  clear os_4b
  clear ga0_4_0 ga0_4_1 ga0_4_2 ga0_4_3 ga0_4_4 ga0_4_5 ga0_4_6 ga0_4_7 ga0_4_8 ga0_4_9 ga0_4_10 ga0_4_11 ga0_4_12 zza0_4 gr_4_0 gr_4_1 gr_4_2 gr_4_3 gr_4_4 gr_4_5 gr_4_6 gr_4_7 gr_4_8 gr_4_9 gr_4_10 gr_4_11 gr_4_12 zzr_4
  have ga0_5_0 : w5.cell? ⟨w.heap.size, 0, none⟩ = some (.int .i64 x0.1.1) := ka0_5.cell 0
  have ga0_5_1 : w5.cell? ⟨w.heap.size, 1, none⟩ = some (.slice A0_1 x0.1.2.1.length c0_1) := ka0_5.cell 1
  have ga0_5_2 : w5.cell? ⟨w.heap.size, 2, none⟩ = some (.slice A0_2 x0.1.2.2.length c0_2) := ka0_5.cell 2
  have ga0_5_3 : w5.cell? ⟨w.heap.size, 3, none⟩ = some (.int .i64 x0.2.1.1) := ka0_5.cell 3
  have ga0_5_4 : w5.cell? ⟨w.heap.size, 4, none⟩ = some (.int .i64 x0.2.1.2.1) := ka0_5.cell 4
  have ga0_5_5 : w5.cell? ⟨w.heap.size, 5, none⟩ = some (.int .i64 x0.2.1.2.2.1) := ka0_5.cell 5
  have ga0_5_6 : w5.cell? ⟨w.heap.size, 6, none⟩ = some (.slice A0_6 x0.2.1.2.2.2.length c0_6) := ka0_5.cell 6
  have ga0_5_7 : w5.cell? ⟨w.heap.size, 7, none⟩ = some (.int .i64 x0.2.2.1.1) := ka0_5.cell 7
  have ga0_5_8 : w5.cell? ⟨w.heap.size, 8, none⟩ = some (.int .i64 x0.2.2.1.2.1) := ka0_5.cell 8
  have ga0_5_9 : w5.cell? ⟨w.heap.size, 9, none⟩ = some (.int .i64 x0.2.2.1.2.2.1) := ka0_5.cell 9
  have ga0_5_10 : w5.cell? ⟨w.heap.size, 10, none⟩ = some (.slice A0_10 x0.2.2.1.2.2.2.length c0_10) := ka0_5.cell 10
  have ga0_5_11 : w5.cell? ⟨w.heap.size, 11, none⟩ = some (.slice A0_11 x0.2.2.2.1.length c0_11) := ka0_5.cell 11
  have ga0_5_12 : w5.cell? ⟨w.heap.size, 12, none⟩ = some (.slice A0_12 x0.2.2.2.2.length c0_12) := ka0_5.cell 12
  have zza0_5 := ka0_5.lt
  have gr_5_0 : w5.cell? ⟨w4.heap.size, 0, none⟩ = some (.int .i64 ((noteV x0 x1)).1.1) := kr_5.cell 0
  have gr_5_1 : w5.cell? ⟨w4.heap.size, 1, none⟩ = some (.slice Ds_1 ((noteV x0 x1)).1.2.1.length ds_1) := kr_5.cell 1
  have gr_5_2 : w5.cell? ⟨w4.heap.size, 2, none⟩ = some (.slice Ds_2 ((noteV x0 x1)).1.2.2.length ds_2) := kr_5.cell 2
  have gr_5_3 : w5.cell? ⟨w4.heap.size, 3, none⟩ = some (.int .i64 ((noteV x0 x1)).2.1.1) := kr_5.cell 3
  have gr_5_4 : w5.cell? ⟨w4.heap.size, 4, none⟩ = some (.int .i64 ((noteV x0 x1)).2.1.2.1) := kr_5.cell 4
  have gr_5_5 : w5.cell? ⟨w4.heap.size, 5, none⟩ = some (.int .i64 ((noteV x0 x1)).2.1.2.2.1) := kr_5.cell 5
  have gr_5_6 : w5.cell? ⟨w4.heap.size, 6, none⟩ = some (.slice Ds_6 ((noteV x0 x1)).2.1.2.2.2.length ds_6) := kr_5.cell 6
  have gr_5_7 : w5.cell? ⟨w4.heap.size, 7, none⟩ = some (.int .i64 ((noteV x0 x1)).2.2.1.1) := kr_5.cell 7
  have gr_5_8 : w5.cell? ⟨w4.heap.size, 8, none⟩ = some (.int .i64 ((noteV x0 x1)).2.2.1.2.1) := kr_5.cell 8
  have gr_5_9 : w5.cell? ⟨w4.heap.size, 9, none⟩ = some (.int .i64 ((noteV x0 x1)).2.2.1.2.2.1) := kr_5.cell 9
  have gr_5_10 : w5.cell? ⟨w4.heap.size, 10, none⟩ = some (.slice Ds_10 ((noteV x0 x1)).2.2.1.2.2.2.length ds_10) := kr_5.cell 10
  have gr_5_11 : w5.cell? ⟨w4.heap.size, 11, none⟩ = some (.slice Ds_11 ((noteV x0 x1)).2.2.2.1.length ds_11) := kr_5.cell 11
  have gr_5_12 : w5.cell? ⟨w4.heap.size, 12, none⟩ = some (.slice Ds_12 ((noteV x0 x1)).2.2.2.2.length ds_12) := kr_5.cell 12
  have zzr_5 := kr_5.lt
  have ua5 : Up w5 (w5.alloc (.cells #[.int .i64 x0.1.1, .slice Dx0_1 x0.1.2.1.length dx0_1, .slice Dx0_2 x0.1.2.2.length dx0_2, .int .i64 x0.2.1.1, .int .i64 x0.2.1.2.1, .int .i64 x0.2.1.2.2.1, .slice Dx0_6 x0.2.1.2.2.2.length dx0_6, .int .i64 x0.2.2.1.1, .int .i64 x0.2.2.1.2.1, .int .i64 x0.2.2.1.2.2.1, .slice Dx0_10 x0.2.2.1.2.2.2.length dx0_10, .slice Dx0_11 x0.2.2.2.1.length dx0_11, .slice Dx0_12 x0.2.2.2.2.length dx0_12] 40)) := (Up.alloc (Up.refl w5) (.cells #[.int .i64 x0.1.1, .slice Dx0_1 x0.1.2.1.length dx0_1, .slice Dx0_2 x0.1.2.2.length dx0_2, .int .i64 x0.2.1.1, .int .i64 x0.2.1.2.1, .int .i64 x0.2.1.2.2.1, .slice Dx0_6 x0.2.1.2.2.2.length dx0_6, .int .i64 x0.2.2.1.1, .int .i64 x0.2.2.1.2.1, .int .i64 x0.2.2.1.2.2.1, .slice Dx0_10 x0.2.2.1.2.2.2.length dx0_10, .slice Dx0_11 x0.2.2.2.1.length dx0_11, .slice Dx0_12 x0.2.2.2.2.length dx0_12] 40))
  have za5 : (w5.alloc (.cells #[.int .i64 x0.1.1, .slice Dx0_1 x0.1.2.1.length dx0_1, .slice Dx0_2 x0.1.2.2.length dx0_2, .int .i64 x0.2.1.1, .int .i64 x0.2.1.2.1, .int .i64 x0.2.1.2.2.1, .slice Dx0_6 x0.2.1.2.2.2.length dx0_6, .int .i64 x0.2.2.1.1, .int .i64 x0.2.2.1.2.1, .int .i64 x0.2.2.1.2.2.1, .slice Dx0_10 x0.2.2.1.2.2.2.length dx0_10, .slice Dx0_11 x0.2.2.2.1.length dx0_11, .slice Dx0_12 x0.2.2.2.2.length dx0_12] 40)).heap.size = w5.heap.size + 1 := by simp
  have ub5 := uu5.trans ua5
  have ka0_5b := ka0_5.up ua5
  have kr_5b := kr_5.up ua5
  have os_5b := good_Cache.keep os_5 (ua5.keeps (by omega))
  clear os_5
  have ox0_5b := good_Cache.own_keep ox0 (fun y hy => ua5.block y (Nat.lt_of_lt_of_le (good_Cache.own_in ox0 y hy).2 (by omega)))
  have kx0_5b : Bk (w5.alloc (.cells #[.int .i64 x0.1.1, .slice Dx0_1 x0.1.2.1.length dx0_1, .slice Dx0_2 x0.1.2.2.length dx0_2, .int .i64 x0.2.1.1, .int .i64 x0.2.1.2.1, .int .i64 x0.2.1.2.2.1, .slice Dx0_6 x0.2.1.2.2.2.length dx0_6, .int .i64 x0.2.2.1.1, .int .i64 x0.2.2.1.2.1, .int .i64 x0.2.2.1.2.2.1, .slice Dx0_10 x0.2.2.1.2.2.2.length dx0_10, .slice Dx0_11 x0.2.2.2.1.length dx0_11, .slice Dx0_12 x0.2.2.2.2.length dx0_12] 40)) (w5.heap.size) 40 #[.int .i64 x0.1.1, .slice Dx0_1 x0.1.2.1.length dx0_1, .slice Dx0_2 x0.1.2.2.length dx0_2, .int .i64 x0.2.1.1, .int .i64 x0.2.1.2.1, .int .i64 x0.2.1.2.2.1, .slice Dx0_6 x0.2.1.2.2.2.length dx0_6, .int .i64 x0.2.2.1.1, .int .i64 x0.2.2.1.2.1, .int .i64 x0.2.2.1.2.2.1, .slice Dx0_10 x0.2.2.1.2.2.2.length dx0_10, .slice Dx0_11 x0.2.2.2.1.length dx0_11, .slice Dx0_12 x0.2.2.2.2.length dx0_12] := Bk.new _ _ _
  clear ga0_5_0 ga0_5_1 ga0_5_2 ga0_5_3 ga0_5_4 ga0_5_5 ga0_5_6 ga0_5_7 ga0_5_8 ga0_5_9 ga0_5_10 ga0_5_11 ga0_5_12 zza0_5 gr_5_0 gr_5_1 gr_5_2 gr_5_3 gr_5_4 gr_5_5 gr_5_6 gr_5_7 gr_5_8 gr_5_9 gr_5_10 gr_5_11 gr_5_12 zzr_5
  have ga0_5_0 : (w5.alloc (.cells #[.int .i64 x0.1.1, .slice Dx0_1 x0.1.2.1.length dx0_1, .slice Dx0_2 x0.1.2.2.length dx0_2, .int .i64 x0.2.1.1, .int .i64 x0.2.1.2.1, .int .i64 x0.2.1.2.2.1, .slice Dx0_6 x0.2.1.2.2.2.length dx0_6, .int .i64 x0.2.2.1.1, .int .i64 x0.2.2.1.2.1, .int .i64 x0.2.2.1.2.2.1, .slice Dx0_10 x0.2.2.1.2.2.2.length dx0_10, .slice Dx0_11 x0.2.2.2.1.length dx0_11, .slice Dx0_12 x0.2.2.2.2.length dx0_12] 40)).cell? ⟨w.heap.size, 0, none⟩ = some (.int .i64 x0.1.1) := ka0_5b.cell 0
  have ga0_5_1 : (w5.alloc (.cells #[.int .i64 x0.1.1, .slice Dx0_1 x0.1.2.1.length dx0_1, .slice Dx0_2 x0.1.2.2.length dx0_2, .int .i64 x0.2.1.1, .int .i64 x0.2.1.2.1, .int .i64 x0.2.1.2.2.1, .slice Dx0_6 x0.2.1.2.2.2.length dx0_6, .int .i64 x0.2.2.1.1, .int .i64 x0.2.2.1.2.1, .int .i64 x0.2.2.1.2.2.1, .slice Dx0_10 x0.2.2.1.2.2.2.length dx0_10, .slice Dx0_11 x0.2.2.2.1.length dx0_11, .slice Dx0_12 x0.2.2.2.2.length dx0_12] 40)).cell? ⟨w.heap.size, 1, none⟩ = some (.slice A0_1 x0.1.2.1.length c0_1) := ka0_5b.cell 1
  have ga0_5_2 : (w5.alloc (.cells #[.int .i64 x0.1.1, .slice Dx0_1 x0.1.2.1.length dx0_1, .slice Dx0_2 x0.1.2.2.length dx0_2, .int .i64 x0.2.1.1, .int .i64 x0.2.1.2.1, .int .i64 x0.2.1.2.2.1, .slice Dx0_6 x0.2.1.2.2.2.length dx0_6, .int .i64 x0.2.2.1.1, .int .i64 x0.2.2.1.2.1, .int .i64 x0.2.2.1.2.2.1, .slice Dx0_10 x0.2.2.1.2.2.2.length dx0_10, .slice Dx0_11 x0.2.2.2.1.length dx0_11, .slice Dx0_12 x0.2.2.2.2.length dx0_12] 40)).cell? ⟨w.heap.size, 2, none⟩ = some (.slice A0_2 x0.1.2.2.length c0_2) := ka0_5b.cell 2
  have ga0_5_3 : (w5.alloc (.cells #[.int .i64 x0.1.1, .slice Dx0_1 x0.1.2.1.length dx0_1, .slice Dx0_2 x0.1.2.2.length dx0_2, .int .i64 x0.2.1.1, .int .i64 x0.2.1.2.1, .int .i64 x0.2.1.2.2.1, .slice Dx0_6 x0.2.1.2.2.2.length dx0_6, .int .i64 x0.2.2.1.1, .int .i64 x0.2.2.1.2.1, .int .i64 x0.2.2.1.2.2.1, .slice Dx0_10 x0.2.2.1.2.2.2.length dx0_10, .slice Dx0_11 x0.2.2.2.1.length dx0_11, .slice Dx0_12 x0.2.2.2.2.length dx0_12] 40)).cell? ⟨w.heap.size, 3, none⟩ = some (.int .i64 x0.2.1.1) := ka0_5b.cell 3
  have ga0_5_4 : (w5.alloc (.cells #[.int .i64 x0.1.1, .slice Dx0_1 x0.1.2.1.length dx0_1, .slice Dx0_2 x0.1.2.2.length dx0_2, .int .i64 x0.2.1.1, .int .i64 x0.2.1.2.1, .int .i64 x0.2.1.2.2.1, .slice Dx0_6 x0.2.1.2.2.2.length dx0_6, .int .i64 x0.2.2.1.1, .int .i64 x0.2.2.1.2.1, .int .i64 x0.2.2.1.2.2.1, .slice Dx0_10 x0.2.2.1.2.2.2.length dx0_10, .slice Dx0_11 x0.2.2.2.1.length dx0_11, .slice Dx0_12 x0.2.2.2.2.length dx0_12] 40)).cell? ⟨w.heap.size, 4, none⟩ = some (.int .i64 x0.2.1.2.1) := ka0_5b.cell 4
  have ga0_5_5 : (w5.alloc (.cells #[.int .i64 x0.1.1, .slice Dx0_1 x0.1.2.1.length dx0_1, .slice Dx0_2 x0.1.2.2.length dx0_2, .int .i64 x0.2.1.1, .int .i64 x0.2.1.2.1, .int .i64 x0.2.1.2.2.1, .slice Dx0_6 x0.2.1.2.2.2.length dx0_6, .int .i64 x0.2.2.1.1, .int .i64 x0.2.2.1.2.1, .int .i64 x0.2.2.1.2.2.1, .slice Dx0_10 x0.2.2.1.2.2.2.length dx0_10, .slice Dx0_11 x0.2.2.2.1.length dx0_11, .slice Dx0_12 x0.2.2.2.2.length dx0_12] 40)).cell? ⟨w.heap.size, 5, none⟩ = some (.int .i64 x0.2.1.2.2.1) := ka0_5b.cell 5
  have ga0_5_6 : (w5.alloc (.cells #[.int .i64 x0.1.1, .slice Dx0_1 x0.1.2.1.length dx0_1, .slice Dx0_2 x0.1.2.2.length dx0_2, .int .i64 x0.2.1.1, .int .i64 x0.2.1.2.1, .int .i64 x0.2.1.2.2.1, .slice Dx0_6 x0.2.1.2.2.2.length dx0_6, .int .i64 x0.2.2.1.1, .int .i64 x0.2.2.1.2.1, .int .i64 x0.2.2.1.2.2.1, .slice Dx0_10 x0.2.2.1.2.2.2.length dx0_10, .slice Dx0_11 x0.2.2.2.1.length dx0_11, .slice Dx0_12 x0.2.2.2.2.length dx0_12] 40)).cell? ⟨w.heap.size, 6, none⟩ = some (.slice A0_6 x0.2.1.2.2.2.length c0_6) := ka0_5b.cell 6
  have ga0_5_7 : (w5.alloc (.cells #[.int .i64 x0.1.1, .slice Dx0_1 x0.1.2.1.length dx0_1, .slice Dx0_2 x0.1.2.2.length dx0_2, .int .i64 x0.2.1.1, .int .i64 x0.2.1.2.1, .int .i64 x0.2.1.2.2.1, .slice Dx0_6 x0.2.1.2.2.2.length dx0_6, .int .i64 x0.2.2.1.1, .int .i64 x0.2.2.1.2.1, .int .i64 x0.2.2.1.2.2.1, .slice Dx0_10 x0.2.2.1.2.2.2.length dx0_10, .slice Dx0_11 x0.2.2.2.1.length dx0_11, .slice Dx0_12 x0.2.2.2.2.length dx0_12] 40)).cell? ⟨w.heap.size, 7, none⟩ = some (.int .i64 x0.2.2.1.1) := ka0_5b.cell 7
  have ga0_5_8 : (w5.alloc (.cells #[.int .i64 x0.1.1, .slice Dx0_1 x0.1.2.1.length dx0_1, .slice Dx0_2 x0.1.2.2.length dx0_2, .int .i64 x0.2.1.1, .int .i64 x0.2.1.2.1, .int .i64 x0.2.1.2.2.1, .slice Dx0_6 x0.2.1.2.2.2.length dx0_6, .int .i64 x0.2.2.1.1, .int .i64 x0.2.2.1.2.1, .int .i64 x0.2.2.1.2.2.1, .slice Dx0_10 x0.2.2.1.2.2.2.length dx0_10, .slice Dx0_11 x0.2.2.2.1.length dx0_11, .slice Dx0_12 x0.2.2.2.2.length dx0_12] 40)).cell? ⟨w.heap.size, 8, none⟩ = some (.int .i64 x0.2.2.1.2.1) := ka0_5b.cell 8
  have ga0_5_9 : (w5.alloc (.cells #[.int .i64 x0.1.1, .slice Dx0_1 x0.1.2.1.length dx0_1, .slice Dx0_2 x0.1.2.2.length dx0_2, .int .i64 x0.2.1.1, .int .i64 x0.2.1.2.1, .int .i64 x0.2.1.2.2.1, .slice Dx0_6 x0.2.1.2.2.2.length dx0_6, .int .i64 x0.2.2.1.1, .int .i64 x0.2.2.1.2.1, .int .i64 x0.2.2.1.2.2.1, .slice Dx0_10 x0.2.2.1.2.2.2.length dx0_10, .slice Dx0_11 x0.2.2.2.1.length dx0_11, .slice Dx0_12 x0.2.2.2.2.length dx0_12] 40)).cell? ⟨w.heap.size, 9, none⟩ = some (.int .i64 x0.2.2.1.2.2.1) := ka0_5b.cell 9
  have ga0_5_10 : (w5.alloc (.cells #[.int .i64 x0.1.1, .slice Dx0_1 x0.1.2.1.length dx0_1, .slice Dx0_2 x0.1.2.2.length dx0_2, .int .i64 x0.2.1.1, .int .i64 x0.2.1.2.1, .int .i64 x0.2.1.2.2.1, .slice Dx0_6 x0.2.1.2.2.2.length dx0_6, .int .i64 x0.2.2.1.1, .int .i64 x0.2.2.1.2.1, .int .i64 x0.2.2.1.2.2.1, .slice Dx0_10 x0.2.2.1.2.2.2.length dx0_10, .slice Dx0_11 x0.2.2.2.1.length dx0_11, .slice Dx0_12 x0.2.2.2.2.length dx0_12] 40)).cell? ⟨w.heap.size, 10, none⟩ = some (.slice A0_10 x0.2.2.1.2.2.2.length c0_10) := ka0_5b.cell 10
  have ga0_5_11 : (w5.alloc (.cells #[.int .i64 x0.1.1, .slice Dx0_1 x0.1.2.1.length dx0_1, .slice Dx0_2 x0.1.2.2.length dx0_2, .int .i64 x0.2.1.1, .int .i64 x0.2.1.2.1, .int .i64 x0.2.1.2.2.1, .slice Dx0_6 x0.2.1.2.2.2.length dx0_6, .int .i64 x0.2.2.1.1, .int .i64 x0.2.2.1.2.1, .int .i64 x0.2.2.1.2.2.1, .slice Dx0_10 x0.2.2.1.2.2.2.length dx0_10, .slice Dx0_11 x0.2.2.2.1.length dx0_11, .slice Dx0_12 x0.2.2.2.2.length dx0_12] 40)).cell? ⟨w.heap.size, 11, none⟩ = some (.slice A0_11 x0.2.2.2.1.length c0_11) := ka0_5b.cell 11
  have ga0_5_12 : (w5.alloc (.cells #[.int .i64 x0.1.1, .slice Dx0_1 x0.1.2.1.length dx0_1, .slice Dx0_2 x0.1.2.2.length dx0_2, .int .i64 x0.2.1.1, .int .i64 x0.2.1.2.1, .int .i64 x0.2.1.2.2.1, .slice Dx0_6 x0.2.1.2.2.2.length dx0_6, .int .i64 x0.2.2.1.1, .int .i64 x0.2.2.1.2.1, .int .i64 x0.2.2.1.2.2.1, .slice Dx0_10 x0.2.2.1.2.2.2.length dx0_10, .slice Dx0_11 x0.2.2.2.1.length dx0_11, .slice Dx0_12 x0.2.2.2.2.length dx0_12] 40)).cell? ⟨w.heap.size, 12, none⟩ = some (.slice A0_12 x0.2.2.2.2.length c0_12) := ka0_5b.cell 12
  have zza0_5 := ka0_5b.lt
  have gr_5_0 : (w5.alloc (.cells #[.int .i64 x0.1.1, .slice Dx0_1 x0.1.2.1.length dx0_1, .slice Dx0_2 x0.1.2.2.length dx0_2, .int .i64 x0.2.1.1, .int .i64 x0.2.1.2.1, .int .i64 x0.2.1.2.2.1, .slice Dx0_6 x0.2.1.2.2.2.length dx0_6, .int .i64 x0.2.2.1.1, .int .i64 x0.2.2.1.2.1, .int .i64 x0.2.2.1.2.2.1, .slice Dx0_10 x0.2.2.1.2.2.2.length dx0_10, .slice Dx0_11 x0.2.2.2.1.length dx0_11, .slice Dx0_12 x0.2.2.2.2.length dx0_12] 40)).cell? ⟨w4.heap.size, 0, none⟩ = some (.int .i64 ((noteV x0 x1)).1.1) := kr_5b.cell 0
  have gr_5_1 : (w5.alloc (.cells #[.int .i64 x0.1.1, .slice Dx0_1 x0.1.2.1.length dx0_1, .slice Dx0_2 x0.1.2.2.length dx0_2, .int .i64 x0.2.1.1, .int .i64 x0.2.1.2.1, .int .i64 x0.2.1.2.2.1, .slice Dx0_6 x0.2.1.2.2.2.length dx0_6, .int .i64 x0.2.2.1.1, .int .i64 x0.2.2.1.2.1, .int .i64 x0.2.2.1.2.2.1, .slice Dx0_10 x0.2.2.1.2.2.2.length dx0_10, .slice Dx0_11 x0.2.2.2.1.length dx0_11, .slice Dx0_12 x0.2.2.2.2.length dx0_12] 40)).cell? ⟨w4.heap.size, 1, none⟩ = some (.slice Ds_1 ((noteV x0 x1)).1.2.1.length ds_1) := kr_5b.cell 1
  have gr_5_2 : (w5.alloc (.cells #[.int .i64 x0.1.1, .slice Dx0_1 x0.1.2.1.length dx0_1, .slice Dx0_2 x0.1.2.2.length dx0_2, .int .i64 x0.2.1.1, .int .i64 x0.2.1.2.1, .int .i64 x0.2.1.2.2.1, .slice Dx0_6 x0.2.1.2.2.2.length dx0_6, .int .i64 x0.2.2.1.1, .int .i64 x0.2.2.1.2.1, .int .i64 x0.2.2.1.2.2.1, .slice Dx0_10 x0.2.2.1.2.2.2.length dx0_10, .slice Dx0_11 x0.2.2.2.1.length dx0_11, .slice Dx0_12 x0.2.2.2.2.length dx0_12] 40)).cell? ⟨w4.heap.size, 2, none⟩ = some (.slice Ds_2 ((noteV x0 x1)).1.2.2.length ds_2) := kr_5b.cell 2
  have gr_5_3 : (w5.alloc (.cells #[.int .i64 x0.1.1, .slice Dx0_1 x0.1.2.1.length dx0_1, .slice Dx0_2 x0.1.2.2.length dx0_2, .int .i64 x0.2.1.1, .int .i64 x0.2.1.2.1, .int .i64 x0.2.1.2.2.1, .slice Dx0_6 x0.2.1.2.2.2.length dx0_6, .int .i64 x0.2.2.1.1, .int .i64 x0.2.2.1.2.1, .int .i64 x0.2.2.1.2.2.1, .slice Dx0_10 x0.2.2.1.2.2.2.length dx0_10, .slice Dx0_11 x0.2.2.2.1.length dx0_11, .slice Dx0_12 x0.2.2.2.2.length dx0_12] 40)).cell? ⟨w4.heap.size, 3, none⟩ = some (.int .i64 ((noteV x0 x1)).2.1.1) := kr_5b.cell 3
  have gr_5_4 : (w5.alloc (.cells #[.int .i64 x0.1.1, .slice Dx0_1 x0.1.2.1.length dx0_1, .slice Dx0_2 x0.1.2.2.length dx0_2, .int .i64 x0.2.1.1, .int .i64 x0.2.1.2.1, .int .i64 x0.2.1.2.2.1, .slice Dx0_6 x0.2.1.2.2.2.length dx0_6, .int .i64 x0.2.2.1.1, .int .i64 x0.2.2.1.2.1, .int .i64 x0.2.2.1.2.2.1, .slice Dx0_10 x0.2.2.1.2.2.2.length dx0_10, .slice Dx0_11 x0.2.2.2.1.length dx0_11, .slice Dx0_12 x0.2.2.2.2.length dx0_12] 40)).cell? ⟨w4.heap.size, 4, none⟩ = some (.int .i64 ((noteV x0 x1)).2.1.2.1) := kr_5b.cell 4
  have gr_5_5 : (w5.alloc (.cells #[.int .i64 x0.1.1, .slice Dx0_1 x0.1.2.1.length dx0_1, .slice Dx0_2 x0.1.2.2.length dx0_2, .int .i64 x0.2.1.1, .int .i64 x0.2.1.2.1, .int .i64 x0.2.1.2.2.1, .slice Dx0_6 x0.2.1.2.2.2.length dx0_6, .int .i64 x0.2.2.1.1, .int .i64 x0.2.2.1.2.1, .int .i64 x0.2.2.1.2.2.1, .slice Dx0_10 x0.2.2.1.2.2.2.length dx0_10, .slice Dx0_11 x0.2.2.2.1.length dx0_11, .slice Dx0_12 x0.2.2.2.2.length dx0_12] 40)).cell? ⟨w4.heap.size, 5, none⟩ = some (.int .i64 ((noteV x0 x1)).2.1.2.2.1) := kr_5b.cell 5
  have gr_5_6 : (w5.alloc (.cells #[.int .i64 x0.1.1, .slice Dx0_1 x0.1.2.1.length dx0_1, .slice Dx0_2 x0.1.2.2.length dx0_2, .int .i64 x0.2.1.1, .int .i64 x0.2.1.2.1, .int .i64 x0.2.1.2.2.1, .slice Dx0_6 x0.2.1.2.2.2.length dx0_6, .int .i64 x0.2.2.1.1, .int .i64 x0.2.2.1.2.1, .int .i64 x0.2.2.1.2.2.1, .slice Dx0_10 x0.2.2.1.2.2.2.length dx0_10, .slice Dx0_11 x0.2.2.2.1.length dx0_11, .slice Dx0_12 x0.2.2.2.2.length dx0_12] 40)).cell? ⟨w4.heap.size, 6, none⟩ = some (.slice Ds_6 ((noteV x0 x1)).2.1.2.2.2.length ds_6) := kr_5b.cell 6
  have gr_5_7 : (w5.alloc (.cells #[.int .i64 x0.1.1, .slice Dx0_1 x0.1.2.1.length dx0_1, .slice Dx0_2 x0.1.2.2.length dx0_2, .int .i64 x0.2.1.1, .int .i64 x0.2.1.2.1, .int .i64 x0.2.1.2.2.1, .slice Dx0_6 x0.2.1.2.2.2.length dx0_6, .int .i64 x0.2.2.1.1, .int .i64 x0.2.2.1.2.1, .int .i64 x0.2.2.1.2.2.1, .slice Dx0_10 x0.2.2.1.2.2.2.length dx0_10, .slice Dx0_11 x0.2.2.2.1.length dx0_11, .slice Dx0_12 x0.2.2.2.2.length dx0_12] 40)).cell? ⟨w4.heap.size, 7, none⟩ = some (.int .i64 ((noteV x0 x1)).2.2.1.1) := kr_5b.cell 7
  have gr_5_8 : (w5.alloc (.cells #[.int .i64 x0.1.1, .slice Dx0_1 x0.1.2.1.length dx0_1, .slice Dx0_2 x0.1.2.2.length dx0_2, .int .i64 x0.2.1.1, .int .i64 x0.2.1.2.1, .int .i64 x0.2.1.2.2.1, .slice Dx0_6 x0.2.1.2.2.2.length dx0_6, .int .i64 x0.2.2.1.1, .int .i64 x0.2.2.1.2.1, .int .i64 x0.2.2.1.2.2.1, .slice Dx0_10 x0.2.2.1.2.2.2.length dx0_10, .slice Dx0_11 x0.2.2.2.1.length dx0_11, .slice Dx0_12 x0.2.2.2.2.length dx0_12] 40)).cell? ⟨w4.heap.size, 8, none⟩ = some (.int .i64 ((noteV x0 x1)).2.2.1.2.1) := kr_5b.cell 8
  have gr_5_9 : (w5.alloc (.cells #[.int .i64 x0.1.1, .slice Dx0_1 x0.1.2.1.length dx0_1, .slice Dx0_2 x0.1.2.2.length dx0_2, .int .i64 x0.2.1.1, .int .i64 x0.2.1.2.1, .int .i64 x0.2.1.2.2.1, .slice Dx0_6 x0.2.1.2.2.2.length dx0_6, .int .i64 x0.2.2.1.1, .int .i64 x0.2.2.1.2.1, .int .i64 x0.2.2.1.2.2.1, .slice Dx0_10 x0.2.2.1.2.2.2.length dx0_10, .slice Dx0_11 x0.2.2.2.1.length dx0_11, .slice Dx0_12 x0.2.2.2.2.length dx0_12] 40)).cell? ⟨w4.heap.size, 9, none⟩ = some (.int .i64 ((noteV x0 x1)).2.2.1.2.2.1) := kr_5b.cell 9
  have gr_5_10 : (w5.alloc (.cells #[.int .i64 x0.1.1, .slice Dx0_1 x0.1.2.1.length dx0_1, .slice Dx0_2 x0.1.2.2.length dx0_2, .int .i64 x0.2.1.1, .int .i64 x0.2.1.2.1, .int .i64 x0.2.1.2.2.1, .slice Dx0_6 x0.2.1.2.2.2.length dx0_6, .int .i64 x0.2.2.1.1, .int .i64 x0.2.2.1.2.1, .int .i64 x0.2.2.1.2.2.1, .slice Dx0_10 x0.2.2.1.2.2.2.length dx0_10, .slice Dx0_11 x0.2.2.2.1.length dx0_11, .slice Dx0_12 x0.2.2.2.2.length dx0_12] 40)).cell? ⟨w4.heap.size, 10, none⟩ = some (.slice Ds_10 ((noteV x0 x1)).2.2.1.2.2.2.length ds_10) := kr_5b.cell 10
  have gr_5_11 : (w5.alloc (.cells #[.int .i64 x0.1.1, .slice Dx0_1 x0.1.2.1.length dx0_1, .slice Dx0_2 x0.1.2.2.length dx0_2, .int .i64 x0.2.1.1, .int .i64 x0.2.1.2.1, .int .i64 x0.2.1.2.2.1, .slice Dx0_6 x0.2.1.2.2.2.length dx0_6, .int .i64 x0.2.2.1.1, .int .i64 x0.2.2.1.2.1, .int .i64 x0.2.2.1.2.2.1, .slice Dx0_10 x0.2.2.1.2.2.2.length dx0_10, .slice Dx0_11 x0.2.2.2.1.length dx0_11, .slice Dx0_12 x0.2.2.2.2.length dx0_12] 40)).cell? ⟨w4.heap.size, 11, none⟩ = some (.slice Ds_11 ((noteV x0 x1)).2.2.2.1.length ds_11) := kr_5b.cell 11
  have gr_5_12 : (w5.alloc (.cells #[.int .i64 x0.1.1, .slice Dx0_1 x0.1.2.1.length dx0_1, .slice Dx0_2 x0.1.2.2.length dx0_2, .int .i64 x0.2.1.1, .int .i64 x0.2.1.2.1, .int .i64 x0.2.1.2.2.1, .slice Dx0_6 x0.2.1.2.2.2.length dx0_6, .int .i64 x0.2.2.1.1, .int .i64 x0.2.2.1.2.1, .int .i64 x0.2.2.1.2.2.1, .slice Dx0_10 x0.2.2.1.2.2.2.length dx0_10, .slice Dx0_11 x0.2.2.2.1.length dx0_11, .slice Dx0_12 x0.2.2.2.2.length dx0_12] 40)).cell? ⟨w4.heap.size, 12, none⟩ = some (.slice Ds_12 ((noteV x0 x1)).2.2.2.2.length ds_12) := kr_5b.cell 12
  have zzr_5 := kr_5b.lt
  have gx0_5_0 : (w5.alloc (.cells #[.int .i64 x0.1.1, .slice Dx0_1 x0.1.2.1.length dx0_1, .slice Dx0_2 x0.1.2.2.length dx0_2, .int .i64 x0.2.1.1, .int .i64 x0.2.1.2.1, .int .i64 x0.2.1.2.2.1, .slice Dx0_6 x0.2.1.2.2.2.length dx0_6, .int .i64 x0.2.2.1.1, .int .i64 x0.2.2.1.2.1, .int .i64 x0.2.2.1.2.2.1, .slice Dx0_10 x0.2.2.1.2.2.2.length dx0_10, .slice Dx0_11 x0.2.2.2.1.length dx0_11, .slice Dx0_12 x0.2.2.2.2.length dx0_12] 40)).cell? ⟨w5.heap.size, 0, none⟩ = some (.int .i64 x0.1.1) := kx0_5b.cell 0
  have gx0_5_1 : (w5.alloc (.cells #[.int .i64 x0.1.1, .slice Dx0_1 x0.1.2.1.length dx0_1, .slice Dx0_2 x0.1.2.2.length dx0_2, .int .i64 x0.2.1.1, .int .i64 x0.2.1.2.1, .int .i64 x0.2.1.2.2.1, .slice Dx0_6 x0.2.1.2.2.2.length dx0_6, .int .i64 x0.2.2.1.1, .int .i64 x0.2.2.1.2.1, .int .i64 x0.2.2.1.2.2.1, .slice Dx0_10 x0.2.2.1.2.2.2.length dx0_10, .slice Dx0_11 x0.2.2.2.1.length dx0_11, .slice Dx0_12 x0.2.2.2.2.length dx0_12] 40)).cell? ⟨w5.heap.size, 1, none⟩ = some (.slice Dx0_1 x0.1.2.1.length dx0_1) := kx0_5b.cell 1
  have gx0_5_2 : (w5.alloc (.cells #[.int .i64 x0.1.1, .slice Dx0_1 x0.1.2.1.length dx0_1, .slice Dx0_2 x0.1.2.2.length dx0_2, .int .i64 x0.2.1.1, .int .i64 x0.2.1.2.1, .int .i64 x0.2.1.2.2.1, .slice Dx0_6 x0.2.1.2.2.2.length dx0_6, .int .i64 x0.2.2.1.1, .int .i64 x0.2.2.1.2.1, .int .i64 x0.2.2.1.2.2.1, .slice Dx0_10 x0.2.2.1.2.2.2.length dx0_10, .slice Dx0_11 x0.2.2.2.1.length dx0_11, .slice Dx0_12 x0.2.2.2.2.length dx0_12] 40)).cell? ⟨w5.heap.size, 2, none⟩ = some (.slice Dx0_2 x0.1.2.2.length dx0_2) := kx0_5b.cell 2
  have gx0_5_3 : (w5.alloc (.cells #[.int .i64 x0.1.1, .slice Dx0_1 x0.1.2.1.length dx0_1, .slice Dx0_2 x0.1.2.2.length dx0_2, .int .i64 x0.2.1.1, .int .i64 x0.2.1.2.1, .int .i64 x0.2.1.2.2.1, .slice Dx0_6 x0.2.1.2.2.2.length dx0_6, .int .i64 x0.2.2.1.1, .int .i64 x0.2.2.1.2.1, .int .i64 x0.2.2.1.2.2.1, .slice Dx0_10 x0.2.2.1.2.2.2.length dx0_10, .slice Dx0_11 x0.2.2.2.1.length dx0_11, .slice Dx0_12 x0.2.2.2.2.length dx0_12] 40)).cell? ⟨w5.heap.size, 3, none⟩ = some (.int .i64 x0.2.1.1) := kx0_5b.cell 3
  have gx0_5_4 : (w5.alloc (.cells #[.int .i64 x0.1.1, .slice Dx0_1 x0.1.2.1.length dx0_1, .slice Dx0_2 x0.1.2.2.length dx0_2, .int .i64 x0.2.1.1, .int .i64 x0.2.1.2.1, .int .i64 x0.2.1.2.2.1, .slice Dx0_6 x0.2.1.2.2.2.length dx0_6, .int .i64 x0.2.2.1.1, .int .i64 x0.2.2.1.2.1, .int .i64 x0.2.2.1.2.2.1, .slice Dx0_10 x0.2.2.1.2.2.2.length dx0_10, .slice Dx0_11 x0.2.2.2.1.length dx0_11, .slice Dx0_12 x0.2.2.2.2.length dx0_12] 40)).cell? ⟨w5.heap.size, 4, none⟩ = some (.int .i64 x0.2.1.2.1) := kx0_5b.cell 4
  have gx0_5_5 : (w5.alloc (.cells #[.int .i64 x0.1.1, .slice Dx0_1 x0.1.2.1.length dx0_1, .slice Dx0_2 x0.1.2.2.length dx0_2, .int .i64 x0.2.1.1, .int .i64 x0.2.1.2.1, .int .i64 x0.2.1.2.2.1, .slice Dx0_6 x0.2.1.2.2.2.length dx0_6, .int .i64 x0.2.2.1.1, .int .i64 x0.2.2.1.2.1, .int .i64 x0.2.2.1.2.2.1, .slice Dx0_10 x0.2.2.1.2.2.2.length dx0_10, .slice Dx0_11 x0.2.2.2.1.length dx0_11, .slice Dx0_12 x0.2.2.2.2.length dx0_12] 40)).cell? ⟨w5.heap.size, 5, none⟩ = some (.int .i64 x0.2.1.2.2.1) := kx0_5b.cell 5
  have gx0_5_6 : (w5.alloc (.cells #[.int .i64 x0.1.1, .slice Dx0_1 x0.1.2.1.length dx0_1, .slice Dx0_2 x0.1.2.2.length dx0_2, .int .i64 x0.2.1.1, .int .i64 x0.2.1.2.1, .int .i64 x0.2.1.2.2.1, .slice Dx0_6 x0.2.1.2.2.2.length dx0_6, .int .i64 x0.2.2.1.1, .int .i64 x0.2.2.1.2.1, .int .i64 x0.2.2.1.2.2.1, .slice Dx0_10 x0.2.2.1.2.2.2.length dx0_10, .slice Dx0_11 x0.2.2.2.1.length dx0_11, .slice Dx0_12 x0.2.2.2.2.length dx0_12] 40)).cell? ⟨w5.heap.size, 6, none⟩ = some (.slice Dx0_6 x0.2.1.2.2.2.length dx0_6) := kx0_5b.cell 6
  have gx0_5_7 : (w5.alloc (.cells #[.int .i64 x0.1.1, .slice Dx0_1 x0.1.2.1.length dx0_1, .slice Dx0_2 x0.1.2.2.length dx0_2, .int .i64 x0.2.1.1, .int .i64 x0.2.1.2.1, .int .i64 x0.2.1.2.2.1, .slice Dx0_6 x0.2.1.2.2.2.length dx0_6, .int .i64 x0.2.2.1.1, .int .i64 x0.2.2.1.2.1, .int .i64 x0.2.2.1.2.2.1, .slice Dx0_10 x0.2.2.1.2.2.2.length dx0_10, .slice Dx0_11 x0.2.2.2.1.length dx0_11, .slice Dx0_12 x0.2.2.2.2.length dx0_12] 40)).cell? ⟨w5.heap.size, 7, none⟩ = some (.int .i64 x0.2.2.1.1) := kx0_5b.cell 7
  have gx0_5_8 : (w5.alloc (.cells #[.int .i64 x0.1.1, .slice Dx0_1 x0.1.2.1.length dx0_1, .slice Dx0_2 x0.1.2.2.length dx0_2, .int .i64 x0.2.1.1, .int .i64 x0.2.1.2.1, .int .i64 x0.2.1.2.2.1, .slice Dx0_6 x0.2.1.2.2.2.length dx0_6, .int .i64 x0.2.2.1.1, .int .i64 x0.2.2.1.2.1, .int .i64 x0.2.2.1.2.2.1, .slice Dx0_10 x0.2.2.1.2.2.2.length dx0_10, .slice Dx0_11 x0.2.2.2.1.length dx0_11, .slice Dx0_12 x0.2.2.2.2.length dx0_12] 40)).cell? ⟨w5.heap.size, 8, none⟩ = some (.int .i64 x0.2.2.1.2.1) := kx0_5b.cell 8
  have gx0_5_9 : (w5.alloc (.cells #[.int .i64 x0.1.1, .slice Dx0_1 x0.1.2.1.length dx0_1, .slice Dx0_2 x0.1.2.2.length dx0_2, .int .i64 x0.2.1.1, .int .i64 x0.2.1.2.1, .int .i64 x0.2.1.2.2.1, .slice Dx0_6 x0.2.1.2.2.2.length dx0_6, .int .i64 x0.2.2.1.1, .int .i64 x0.2.2.1.2.1, .int .i64 x0.2.2.1.2.2.1, .slice Dx0_10 x0.2.2.1.2.2.2.length dx0_10, .slice Dx0_11 x0.2.2.2.1.length dx0_11, .slice Dx0_12 x0.2.2.2.2.length dx0_12] 40)).cell? ⟨w5.heap.size, 9, none⟩ = some (.int .i64 x0.2.2.1.2.2.1) := kx0_5b.cell 9
  have gx0_5_10 : (w5.alloc (.cells #[.int .i64 x0.1.1, .slice Dx0_1 x0.1.2.1.length dx0_1, .slice Dx0_2 x0.1.2.2.length dx0_2, .int .i64 x0.2.1.1, .int .i64 x0.2.1.2.1, .int .i64 x0.2.1.2.2.1, .slice Dx0_6 x0.2.1.2.2.2.length dx0_6, .int .i64 x0.2.2.1.1, .int .i64 x0.2.2.1.2.1, .int .i64 x0.2.2.1.2.2.1, .slice Dx0_10 x0.2.2.1.2.2.2.length dx0_10, .slice Dx0_11 x0.2.2.2.1.length dx0_11, .slice Dx0_12 x0.2.2.2.2.length dx0_12] 40)).cell? ⟨w5.heap.size, 10, none⟩ = some (.slice Dx0_10 x0.2.2.1.2.2.2.length dx0_10) := kx0_5b.cell 10
  have gx0_5_11 : (w5.alloc (.cells #[.int .i64 x0.1.1, .slice Dx0_1 x0.1.2.1.length dx0_1, .slice Dx0_2 x0.1.2.2.length dx0_2, .int .i64 x0.2.1.1, .int .i64 x0.2.1.2.1, .int .i64 x0.2.1.2.2.1, .slice Dx0_6 x0.2.1.2.2.2.length dx0_6, .int .i64 x0.2.2.1.1, .int .i64 x0.2.2.1.2.1, .int .i64 x0.2.2.1.2.2.1, .slice Dx0_10 x0.2.2.1.2.2.2.length dx0_10, .slice Dx0_11 x0.2.2.2.1.length dx0_11, .slice Dx0_12 x0.2.2.2.2.length dx0_12] 40)).cell? ⟨w5.heap.size, 11, none⟩ = some (.slice Dx0_11 x0.2.2.2.1.length dx0_11) := kx0_5b.cell 11
  have gx0_5_12 : (w5.alloc (.cells #[.int .i64 x0.1.1, .slice Dx0_1 x0.1.2.1.length dx0_1, .slice Dx0_2 x0.1.2.2.length dx0_2, .int .i64 x0.2.1.1, .int .i64 x0.2.1.2.1, .int .i64 x0.2.1.2.2.1, .slice Dx0_6 x0.2.1.2.2.2.length dx0_6, .int .i64 x0.2.2.1.1, .int .i64 x0.2.2.1.2.1, .int .i64 x0.2.2.1.2.2.1, .slice Dx0_10 x0.2.2.1.2.2.2.length dx0_10, .slice Dx0_11 x0.2.2.2.1.length dx0_11, .slice Dx0_12 x0.2.2.2.2.length dx0_12] 40)).cell? ⟨w5.heap.size, 12, none⟩ = some (.slice Dx0_12 x0.2.2.2.2.length dx0_12) := kx0_5b.cell 12
  have zzx0_5 := kx0_5b.lt
  go_wp2_with fail
  refine (c_toInt64S _ _ _ _ (h1.up good_I ub5) hn1).mono ?_
  rintro e w6 ⟨Dx1, dx1, blx1, rfl, oox1, ndx1, u6⟩
  have ox1 : (shL shI).own w6 ((w5.alloc (.cells #[.int .i64 x0.1.1, .slice Dx0_1 x0.1.2.1.length dx0_1, .slice Dx0_2 x0.1.2.2.length dx0_2, .int .i64 x0.2.1.1, .int .i64 x0.2.1.2.1, .int .i64 x0.2.1.2.2.1, .slice Dx0_6 x0.2.1.2.2.2.length dx0_6, .int .i64 x0.2.2.1.1, .int .i64 x0.2.2.1.2.1, .int .i64 x0.2.2.1.2.2.1, .slice Dx0_10 x0.2.2.1.2.2.2.length dx0_10, .slice Dx0_11 x0.2.2.2.1.length dx0_11, .slice Dx0_12 x0.2.2.2.2.length dx0_12] 40)).heap.size) w6.heap.size [.slice Dx1 x1.length dx1] x1 blx1 := ⟨_, _, rfl, oox1⟩
  have uu6 := ub5.trans u6
  have zs6 := u6.size
  have ka0_6 := ka0_5b.up u6
  have kr_6 := kr_5b.up u6
  have kx0_6 := kx0_5b.up u6
  have os_6 := good_Cache.keep os_5b (u6.keeps (by omega))
  clear os_5b
  have ox0_6 := good_Cache.own_keep ox0_5b (fun y hy => u6.block y (Nat.lt_of_lt_of_le (good_Cache.own_in ox0_5b y hy).2 (by omega)))
  clear ox0_5b
  clear ga0_5_0 ga0_5_1 ga0_5_2 ga0_5_3 ga0_5_4 ga0_5_5 ga0_5_6 ga0_5_7 ga0_5_8 ga0_5_9 ga0_5_10 ga0_5_11 ga0_5_12 zza0_5 gr_5_0 gr_5_1 gr_5_2 gr_5_3 gr_5_4 gr_5_5 gr_5_6 gr_5_7 gr_5_8 gr_5_9 gr_5_10 gr_5_11 gr_5_12 zzr_5 gx0_5_0 gx0_5_1 gx0_5_2 gx0_5_3 gx0_5_4 gx0_5_5 gx0_5_6 gx0_5_7 gx0_5_8 gx0_5_9 gx0_5_10 gx0_5_11 gx0_5_12 zzx0_5
  have ga0_6_0 : w6.cell? ⟨w.heap.size, 0, none⟩ = some (.int .i64 x0.1.1) := ka0_6.cell 0
  have ga0_6_1 : w6.cell? ⟨w.heap.size, 1, none⟩ = some (.slice A0_1 x0.1.2.1.length c0_1) := ka0_6.cell 1
  have ga0_6_2 : w6.cell? ⟨w.heap.size, 2, none⟩ = some (.slice A0_2 x0.1.2.2.length c0_2) := ka0_6.cell 2
  have ga0_6_3 : w6.cell? ⟨w.heap.size, 3, none⟩ = some (.int .i64 x0.2.1.1) := ka0_6.cell 3
  have ga0_6_4 : w6.cell? ⟨w.heap.size, 4, none⟩ = some (.int .i64 x0.2.1.2.1) := ka0_6.cell 4
  have ga0_6_5 : w6.cell? ⟨w.heap.size, 5, none⟩ = some (.int .i64 x0.2.1.2.2.1) := ka0_6.cell 5
  have ga0_6_6 : w6.cell? ⟨w.heap.size, 6, none⟩ = some (.slice A0_6 x0.2.1.2.2.2.length c0_6) := ka0_6.cell 6
  have ga0_6_7 : w6.cell? ⟨w.heap.size, 7, none⟩ = some (.int .i64 x0.2.2.1.1) := ka0_6.cell 7
  have ga0_6_8 : w6.cell? ⟨w.heap.size, 8, none⟩ = some (.int .i64 x0.2.2.1.2.1) := ka0_6.cell 8
  have ga0_6_9 : w6.cell? ⟨w.heap.size, 9, none⟩ = some (.int .i64 x0.2.2.1.2.2.1) := ka0_6.cell 9
  have ga0_6_10 : w6.cell? ⟨w.heap.size, 10, none⟩ = some (.slice A0_10 x0.2.2.1.2.2.2.length c0_10) := ka0_6.cell 10
  have ga0_6_11 : w6.cell? ⟨w.heap.size, 11, none⟩ = some (.slice A0_11 x0.2.2.2.1.length c0_11) := ka0_6.cell 11
  have ga0_6_12 : w6.cell? ⟨w.heap.size, 12, none⟩ = some (.slice A0_12 x0.2.2.2.2.length c0_12) := ka0_6.cell 12
  have zza0_6 := ka0_6.lt
  have gr_6_0 : w6.cell? ⟨w4.heap.size, 0, none⟩ = some (.int .i64 ((noteV x0 x1)).1.1) := kr_6.cell 0
  have gr_6_1 : w6.cell? ⟨w4.heap.size, 1, none⟩ = some (.slice Ds_1 ((noteV x0 x1)).1.2.1.length ds_1) := kr_6.cell 1
  have gr_6_2 : w6.cell? ⟨w4.heap.size, 2, none⟩ = some (.slice Ds_2 ((noteV x0 x1)).1.2.2.length ds_2) := kr_6.cell 2
  have gr_6_3 : w6.cell? ⟨w4.heap.size, 3, none⟩ = some (.int .i64 ((noteV x0 x1)).2.1.1) := kr_6.cell 3
  have gr_6_4 : w6.cell? ⟨w4.heap.size, 4, none⟩ = some (.int .i64 ((noteV x0 x1)).2.1.2.1) := kr_6.cell 4
  have gr_6_5 : w6.cell? ⟨w4.heap.size, 5, none⟩ = some (.int .i64 ((noteV x0 x1)).2.1.2.2.1) := kr_6.cell 5
  have gr_6_6 : w6.cell? ⟨w4.heap.size, 6, none⟩ = some (.slice Ds_6 ((noteV x0 x1)).2.1.2.2.2.length ds_6) := kr_6.cell 6
  have gr_6_7 : w6.cell? ⟨w4.heap.size, 7, none⟩ = some (.int .i64 ((noteV x0 x1)).2.2.1.1) := kr_6.cell 7
  have gr_6_8 : w6.cell? ⟨w4.heap.size, 8, none⟩ = some (.int .i64 ((noteV x0 x1)).2.2.1.2.1) := kr_6.cell 8
  have gr_6_9 : w6.cell? ⟨w4.heap.size, 9, none⟩ = some (.int .i64 ((noteV x0 x1)).2.2.1.2.2.1) := kr_6.cell 9
  have gr_6_10 : w6.cell? ⟨w4.heap.size, 10, none⟩ = some (.slice Ds_10 ((noteV x0 x1)).2.2.1.2.2.2.length ds_10) := kr_6.cell 10
  have gr_6_11 : w6.cell? ⟨w4.heap.size, 11, none⟩ = some (.slice Ds_11 ((noteV x0 x1)).2.2.2.1.length ds_11) := kr_6.cell 11
  have gr_6_12 : w6.cell? ⟨w4.heap.size, 12, none⟩ = some (.slice Ds_12 ((noteV x0 x1)).2.2.2.2.length ds_12) := kr_6.cell 12
  have zzr_6 := kr_6.lt
  have gx0_6_0 : w6.cell? ⟨w5.heap.size, 0, none⟩ = some (.int .i64 x0.1.1) := kx0_6.cell 0
  have gx0_6_1 : w6.cell? ⟨w5.heap.size, 1, none⟩ = some (.slice Dx0_1 x0.1.2.1.length dx0_1) := kx0_6.cell 1
  have gx0_6_2 : w6.cell? ⟨w5.heap.size, 2, none⟩ = some (.slice Dx0_2 x0.1.2.2.length dx0_2) := kx0_6.cell 2
  have gx0_6_3 : w6.cell? ⟨w5.heap.size, 3, none⟩ = some (.int .i64 x0.2.1.1) := kx0_6.cell 3
  have gx0_6_4 : w6.cell? ⟨w5.heap.size, 4, none⟩ = some (.int .i64 x0.2.1.2.1) := kx0_6.cell 4
  have gx0_6_5 : w6.cell? ⟨w5.heap.size, 5, none⟩ = some (.int .i64 x0.2.1.2.2.1) := kx0_6.cell 5
  have gx0_6_6 : w6.cell? ⟨w5.heap.size, 6, none⟩ = some (.slice Dx0_6 x0.2.1.2.2.2.length dx0_6) := kx0_6.cell 6
  have gx0_6_7 : w6.cell? ⟨w5.heap.size, 7, none⟩ = some (.int .i64 x0.2.2.1.1) := kx0_6.cell 7
  have gx0_6_8 : w6.cell? ⟨w5.heap.size, 8, none⟩ = some (.int .i64 x0.2.2.1.2.1) := kx0_6.cell 8
  have gx0_6_9 : w6.cell? ⟨w5.heap.size, 9, none⟩ = some (.int .i64 x0.2.2.1.2.2.1) := kx0_6.cell 9
  have gx0_6_10 : w6.cell? ⟨w5.heap.size, 10, none⟩ = some (.slice Dx0_10 x0.2.2.1.2.2.2.length dx0_10) := kx0_6.cell 10
  have gx0_6_11 : w6.cell? ⟨w5.heap.size, 11, none⟩ = some (.slice Dx0_11 x0.2.2.2.1.length dx0_11) := kx0_6.cell 11
  have gx0_6_12 : w6.cell? ⟨w5.heap.size, 12, none⟩ = some (.slice Dx0_12 x0.2.2.2.2.length dx0_12) := kx0_6.cell 12
  have zzx0_6 := kx0_6.lt
  clear ga0_6_0 ga0_6_1 ga0_6_2 ga0_6_3 ga0_6_4 ga0_6_5 ga0_6_6 ga0_6_7 ga0_6_8 ga0_6_9 ga0_6_10 ga0_6_11 ga0_6_12 zza0_6 gr_6_0 gr_6_1 gr_6_2 gr_6_3 gr_6_4 gr_6_5 gr_6_6 gr_6_7 gr_6_8 gr_6_9 gr_6_10 gr_6_11 gr_6_12 zzr_6 gx0_6_0 gx0_6_1 gx0_6_2 gx0_6_3 gx0_6_4 gx0_6_5 gx0_6_6 gx0_6_7 gx0_6_8 gx0_6_9 gx0_6_10 gx0_6_11 gx0_6_12 zzx0_6
  have ga0_6_0 : w6.cell? ⟨w.heap.size, 0, none⟩ = some (.int .i64 x0.1.1) := ka0_6.cell 0
  have ga0_6_1 : w6.cell? ⟨w.heap.size, 1, none⟩ = some (.slice A0_1 x0.1.2.1.length c0_1) := ka0_6.cell 1
  have ga0_6_2 : w6.cell? ⟨w.heap.size, 2, none⟩ = some (.slice A0_2 x0.1.2.2.length c0_2) := ka0_6.cell 2
  have ga0_6_3 : w6.cell? ⟨w.heap.size, 3, none⟩ = some (.int .i64 x0.2.1.1) := ka0_6.cell 3
  have ga0_6_4 : w6.cell? ⟨w.heap.size, 4, none⟩ = some (.int .i64 x0.2.1.2.1) := ka0_6.cell 4
  have ga0_6_5 : w6.cell? ⟨w.heap.size, 5, none⟩ = some (.int .i64 x0.2.1.2.2.1) := ka0_6.cell 5
  have ga0_6_6 : w6.cell? ⟨w.heap.size, 6, none⟩ = some (.slice A0_6 x0.2.1.2.2.2.length c0_6) := ka0_6.cell 6
  have ga0_6_7 : w6.cell? ⟨w.heap.size, 7, none⟩ = some (.int .i64 x0.2.2.1.1) := ka0_6.cell 7
  have ga0_6_8 : w6.cell? ⟨w.heap.size, 8, none⟩ = some (.int .i64 x0.2.2.1.2.1) := ka0_6.cell 8
  have ga0_6_9 : w6.cell? ⟨w.heap.size, 9, none⟩ = some (.int .i64 x0.2.2.1.2.2.1) := ka0_6.cell 9
  have ga0_6_10 : w6.cell? ⟨w.heap.size, 10, none⟩ = some (.slice A0_10 x0.2.2.1.2.2.2.length c0_10) := ka0_6.cell 10
  have ga0_6_11 : w6.cell? ⟨w.heap.size, 11, none⟩ = some (.slice A0_11 x0.2.2.2.1.length c0_11) := ka0_6.cell 11
  have ga0_6_12 : w6.cell? ⟨w.heap.size, 12, none⟩ = some (.slice A0_12 x0.2.2.2.2.length c0_12) := ka0_6.cell 12
  have zza0_6 := ka0_6.lt
  have gr_6_0 : w6.cell? ⟨w4.heap.size, 0, none⟩ = some (.int .i64 ((noteV x0 x1)).1.1) := kr_6.cell 0
  have gr_6_1 : w6.cell? ⟨w4.heap.size, 1, none⟩ = some (.slice Ds_1 ((noteV x0 x1)).1.2.1.length ds_1) := kr_6.cell 1
  have gr_6_2 : w6.cell? ⟨w4.heap.size, 2, none⟩ = some (.slice Ds_2 ((noteV x0 x1)).1.2.2.length ds_2) := kr_6.cell 2
  have gr_6_3 : w6.cell? ⟨w4.heap.size, 3, none⟩ = some (.int .i64 ((noteV x0 x1)).2.1.1) := kr_6.cell 3
  have gr_6_4 : w6.cell? ⟨w4.heap.size, 4, none⟩ = some (.int .i64 ((noteV x0 x1)).2.1.2.1) := kr_6.cell 4
  have gr_6_5 : w6.cell? ⟨w4.heap.size, 5, none⟩ = some (.int .i64 ((noteV x0 x1)).2.1.2.2.1) := kr_6.cell 5
  have gr_6_6 : w6.cell? ⟨w4.heap.size, 6, none⟩ = some (.slice Ds_6 ((noteV x0 x1)).2.1.2.2.2.length ds_6) := kr_6.cell 6
  have gr_6_7 : w6.cell? ⟨w4.heap.size, 7, none⟩ = some (.int .i64 ((noteV x0 x1)).2.2.1.1) := kr_6.cell 7
  have gr_6_8 : w6.cell? ⟨w4.heap.size, 8, none⟩ = some (.int .i64 ((noteV x0 x1)).2.2.1.2.1) := kr_6.cell 8
  have gr_6_9 : w6.cell? ⟨w4.heap.size, 9, none⟩ = some (.int .i64 ((noteV x0 x1)).2.2.1.2.2.1) := kr_6.cell 9
  have gr_6_10 : w6.cell? ⟨w4.heap.size, 10, none⟩ = some (.slice Ds_10 ((noteV x0 x1)).2.2.1.2.2.2.length ds_10) := kr_6.cell 10
  have gr_6_11 : w6.cell? ⟨w4.heap.size, 11, none⟩ = some (.slice Ds_11 ((noteV x0 x1)).2.2.2.1.length ds_11) := kr_6.cell 11
  have gr_6_12 : w6.cell? ⟨w4.heap.size, 12, none⟩ = some (.slice Ds_12 ((noteV x0 x1)).2.2.2.2.length ds_12) := kr_6.cell 12
  have zzr_6 := kr_6.lt
  have gx0_6_0 : w6.cell? ⟨w5.heap.size, 0, none⟩ = some (.int .i64 x0.1.1) := kx0_6.cell 0
  have gx0_6_1 : w6.cell? ⟨w5.heap.size, 1, none⟩ = some (.slice Dx0_1 x0.1.2.1.length dx0_1) := kx0_6.cell 1
  have gx0_6_2 : w6.cell? ⟨w5.heap.size, 2, none⟩ = some (.slice Dx0_2 x0.1.2.2.length dx0_2) := kx0_6.cell 2
  have gx0_6_3 : w6.cell? ⟨w5.heap.size, 3, none⟩ = some (.int .i64 x0.2.1.1) := kx0_6.cell 3
  have gx0_6_4 : w6.cell? ⟨w5.heap.size, 4, none⟩ = some (.int .i64 x0.2.1.2.1) := kx0_6.cell 4
  have gx0_6_5 : w6.cell? ⟨w5.heap.size, 5, none⟩ = some (.int .i64 x0.2.1.2.2.1) := kx0_6.cell 5
  have gx0_6_6 : w6.cell? ⟨w5.heap.size, 6, none⟩ = some (.slice Dx0_6 x0.2.1.2.2.2.length dx0_6) := kx0_6.cell 6
  have gx0_6_7 : w6.cell? ⟨w5.heap.size, 7, none⟩ = some (.int .i64 x0.2.2.1.1) := kx0_6.cell 7
  have gx0_6_8 : w6.cell? ⟨w5.heap.size, 8, none⟩ = some (.int .i64 x0.2.2.1.2.1) := kx0_6.cell 8
  have gx0_6_9 : w6.cell? ⟨w5.heap.size, 9, none⟩ = some (.int .i64 x0.2.2.1.2.2.1) := kx0_6.cell 9
  have gx0_6_10 : w6.cell? ⟨w5.heap.size, 10, none⟩ = some (.slice Dx0_10 x0.2.2.1.2.2.2.length dx0_10) := kx0_6.cell 10
  have gx0_6_11 : w6.cell? ⟨w5.heap.size, 11, none⟩ = some (.slice Dx0_11 x0.2.2.2.1.length dx0_11) := kx0_6.cell 11
  have gx0_6_12 : w6.cell? ⟨w5.heap.size, 12, none⟩ = some (.slice Dx0_12 x0.2.2.2.2.length dx0_12) := kx0_6.cell 12
  have zzx0_6 := kx0_6.lt
  go_wp2_with fail
  refine (ci_NoteDirty _ x0 _ _ x1 _ ⟨_, rfl, good_Cache.wide (good_Cache.own_rep ox0_6) (Nat.zero_le _) (by omega)⟩ hn0 (SR.of_rep good_I ((good_L good_I).wide ((good_L good_I).own_rep ox1) (Nat.zero_le _) (by omega))) hn1).mono ?_
  rintro e w7 ⟨csg, blg, rfl, og, ndg, u7⟩
  obtain ⟨Dg_1, dg_1, _, Dg_2, dg_2, _, Dg_6, dg_6, _, Dg_10, dg_10, _, Dg_11, dg_11, _, Dg_12, dg_12, _, rfl, _, _⟩ := openOCache og
  have uu7 := uu6.trans u7
  have zs7 := u7.size
  have ka0_7 := ka0_6.up u7
  have kr_7 := kr_6.up u7
  have kx0_7 := kx0_6.up u7
  have os_7 := good_Cache.keep os_6 (u7.keeps (by omega))
  clear os_6
  have ox0_7 := good_Cache.own_keep ox0_6 (fun y hy => u7.block y (Nat.lt_of_lt_of_le (good_Cache.own_in ox0_6 y hy).2 (by omega)))
  clear ox0_6
  have ox1_7 := (good_L good_I).own_keep ox1 (fun y hy => u7.block y (Nat.lt_of_lt_of_le ((good_L good_I).own_in ox1 y hy).2 (by omega)))
  have ua7 : Up w7 (w7.alloc (.cells #[.int .i64 ((noteV x0 x1)).1.1, .slice Dg_1 ((noteV x0 x1)).1.2.1.length dg_1, .slice Dg_2 ((noteV x0 x1)).1.2.2.length dg_2, .int .i64 ((noteV x0 x1)).2.1.1, .int .i64 ((noteV x0 x1)).2.1.2.1, .int .i64 ((noteV x0 x1)).2.1.2.2.1, .slice Dg_6 ((noteV x0 x1)).2.1.2.2.2.length dg_6, .int .i64 ((noteV x0 x1)).2.2.1.1, .int .i64 ((noteV x0 x1)).2.2.1.2.1, .int .i64 ((noteV x0 x1)).2.2.1.2.2.1, .slice Dg_10 ((noteV x0 x1)).2.2.1.2.2.2.length dg_10, .slice Dg_11 ((noteV x0 x1)).2.2.2.1.length dg_11, .slice Dg_12 ((noteV x0 x1)).2.2.2.2.length dg_12] 40)) := (Up.alloc (Up.refl w7) (.cells #[.int .i64 ((noteV x0 x1)).1.1, .slice Dg_1 ((noteV x0 x1)).1.2.1.length dg_1, .slice Dg_2 ((noteV x0 x1)).1.2.2.length dg_2, .int .i64 ((noteV x0 x1)).2.1.1, .int .i64 ((noteV x0 x1)).2.1.2.1, .int .i64 ((noteV x0 x1)).2.1.2.2.1, .slice Dg_6 ((noteV x0 x1)).2.1.2.2.2.length dg_6, .int .i64 ((noteV x0 x1)).2.2.1.1, .int .i64 ((noteV x0 x1)).2.2.1.2.1, .int .i64 ((noteV x0 x1)).2.2.1.2.2.1, .slice Dg_10 ((noteV x0 x1)).2.2.1.2.2.2.length dg_10, .slice Dg_11 ((noteV x0 x1)).2.2.2.1.length dg_11, .slice Dg_12 ((noteV x0 x1)).2.2.2.2.length dg_12] 40))
  have za7 : (w7.alloc (.cells #[.int .i64 ((noteV x0 x1)).1.1, .slice Dg_1 ((noteV x0 x1)).1.2.1.length dg_1, .slice Dg_2 ((noteV x0 x1)).1.2.2.length dg_2, .int .i64 ((noteV x0 x1)).2.1.1, .int .i64 ((noteV x0 x1)).2.1.2.1, .int .i64 ((noteV x0 x1)).2.1.2.2.1, .slice Dg_6 ((noteV x0 x1)).2.1.2.2.2.length dg_6, .int .i64 ((noteV x0 x1)).2.2.1.1, .int .i64 ((noteV x0 x1)).2.2.1.2.1, .int .i64 ((noteV x0 x1)).2.2.1.2.2.1, .slice Dg_10 ((noteV x0 x1)).2.2.1.2.2.2.length dg_10, .slice Dg_11 ((noteV x0 x1)).2.2.2.1.length dg_11, .slice Dg_12 ((noteV x0 x1)).2.2.2.2.length dg_12] 40)).heap.size = w7.heap.size + 1 := by simp
  have ub7 := uu7.trans ua7
  have ka0_7b := ka0_7.up ua7
  have kr_7b := kr_7.up ua7
  have kx0_7b := kx0_7.up ua7
  have os_7b := good_Cache.keep os_7 (ua7.keeps (by omega))
  clear os_7
  have ox0_7b := good_Cache.own_keep ox0_7 (fun y hy => ua7.block y (Nat.lt_of_lt_of_le (good_Cache.own_in ox0_7 y hy).2 (by omega)))
  clear ox0_7
  have ox1_7b := (good_L good_I).own_keep ox1_7 (fun y hy => ua7.block y (Nat.lt_of_lt_of_le ((good_L good_I).own_in ox1_7 y hy).2 (by omega)))
  clear ox1_7
  have og_7b := good_Cache.own_keep og (fun y hy => ua7.block y (Nat.lt_of_lt_of_le (good_Cache.own_in og y hy).2 (by omega)))
  have kg_7b : Bk (w7.alloc (.cells #[.int .i64 ((noteV x0 x1)).1.1, .slice Dg_1 ((noteV x0 x1)).1.2.1.length dg_1, .slice Dg_2 ((noteV x0 x1)).1.2.2.length dg_2, .int .i64 ((noteV x0 x1)).2.1.1, .int .i64 ((noteV x0 x1)).2.1.2.1, .int .i64 ((noteV x0 x1)).2.1.2.2.1, .slice Dg_6 ((noteV x0 x1)).2.1.2.2.2.length dg_6, .int .i64 ((noteV x0 x1)).2.2.1.1, .int .i64 ((noteV x0 x1)).2.2.1.2.1, .int .i64 ((noteV x0 x1)).2.2.1.2.2.1, .slice Dg_10 ((noteV x0 x1)).2.2.1.2.2.2.length dg_10, .slice Dg_11 ((noteV x0 x1)).2.2.2.1.length dg_11, .slice Dg_12 ((noteV x0 x1)).2.2.2.2.length dg_12] 40)) (w7.heap.size) 40 #[.int .i64 ((noteV x0 x1)).1.1, .slice Dg_1 ((noteV x0 x1)).1.2.1.length dg_1, .slice Dg_2 ((noteV x0 x1)).1.2.2.length dg_2, .int .i64 ((noteV x0 x1)).2.1.1, .int .i64 ((noteV x0 x1)).2.1.2.1, .int .i64 ((noteV x0 x1)).2.1.2.2.1, .slice Dg_6 ((noteV x0 x1)).2.1.2.2.2.length dg_6, .int .i64 ((noteV x0 x1)).2.2.1.1, .int .i64 ((noteV x0 x1)).2.2.1.2.1, .int .i64 ((noteV x0 x1)).2.2.1.2.2.1, .slice Dg_10 ((noteV x0 x1)).2.2.1.2.2.2.length dg_10, .slice Dg_11 ((noteV x0 x1)).2.2.2.1.length dg_11, .slice Dg_12 ((noteV x0 x1)).2.2.2.2.length dg_12] := Bk.new _ _ _
  clear ga0_6_0 ga0_6_1 ga0_6_2 ga0_6_3 ga0_6_4 ga0_6_5 ga0_6_6 ga0_6_7 ga0_6_8 ga0_6_9 ga0_6_10 ga0_6_11 ga0_6_12 zza0_6 gr_6_0 gr_6_1 gr_6_2 gr_6_3 gr_6_4 gr_6_5 gr_6_6 gr_6_7 gr_6_8 gr_6_9 gr_6_10 gr_6_11 gr_6_12 zzr_6 gx0_6_0 gx0_6_1 gx0_6_2 gx0_6_3 gx0_6_4 gx0_6_5 gx0_6_6 gx0_6_7 gx0_6_8 gx0_6_9 gx0_6_10 gx0_6_11 gx0_6_12 zzx0_6
  have ga0_7_0 : (w7.alloc (.cells #[.int .i64 ((noteV x0 x1)).1.1, .slice Dg_1 ((noteV x0 x1)).1.2.1.length dg_1, .slice Dg_2 ((noteV x0 x1)).1.2.2.length dg_2, .int .i64 ((noteV x0 x1)).2.1.1, .int .i64 ((noteV x0 x1)).2.1.2.1, .int .i64 ((noteV x0 x1)).2.1.2.2.1, .slice Dg_6 ((noteV x0 x1)).2.1.2.2.2.length dg_6, .int .i64 ((noteV x0 x1)).2.2.1.1, .int .i64 ((noteV x0 x1)).2.2.1.2.1, .int .i64 ((noteV x0 x1)).2.2.1.2.2.1, .slice Dg_10 ((noteV x0 x1)).2.2.1.2.2.2.length dg_10, .slice Dg_11 ((noteV x0 x1)).2.2.2.1.length dg_11, .slice Dg_12 ((noteV x0 x1)).2.2.2.2.length dg_12] 40)).cell? ⟨w.heap.size, 0, none⟩ = some (.int .i64 x0.1.1) := ka0_7b.cell 0
  have ga0_7_1 : (w7.alloc (.cells #[.int .i64 ((noteV x0 x1)).1.1, .slice Dg_1 ((noteV x0 x1)).1.2.1.length dg_1, .slice Dg_2 ((noteV x0 x1)).1.2.2.length dg_2, .int .i64 ((noteV x0 x1)).2.1.1, .int .i64 ((noteV x0 x1)).2.1.2.1, .int .i64 ((noteV x0 x1)).2.1.2.2.1, .slice Dg_6 ((noteV x0 x1)).2.1.2.2.2.length dg_6, .int .i64 ((noteV x0 x1)).2.2.1.1, .int .i64 ((noteV x0 x1)).2.2.1.2.1, .int .i64 ((noteV x0 x1)).2.2.1.2.2.1, .slice Dg_10 ((noteV x0 x1)).2.2.1.2.2.2.length dg_10, .slice Dg_11 ((noteV x0 x1)).2.2.2.1.length dg_11, .slice Dg_12 ((noteV x0 x1)).2.2.2.2.length dg_12] 40)).cell? ⟨w.heap.size, 1, none⟩ = some (.slice A0_1 x0.1.2.1.length c0_1) := ka0_7b.cell 1
  have ga0_7_2 : (w7.alloc (.cells #[.int .i64 ((noteV x0 x1)).1.1, .slice Dg_1 ((noteV x0 x1)).1.2.1.length dg_1, .slice Dg_2 ((noteV x0 x1)).1.2.2.length dg_2, .int .i64 ((noteV x0 x1)).2.1.1, .int .i64 ((noteV x0 x1)).2.1.2.1, .int .i64 ((noteV x0 x1)).2.1.2.2.1, .slice Dg_6 ((noteV x0 x1)).2.1.2.2.2.length dg_6, .int .i64 ((noteV x0 x1)).2.2.1.1, .int .i64 ((noteV x0 x1)).2.2.1.2.1, .int .i64 ((noteV x0 x1)).2.2.1.2.2.1, .slice Dg_10 ((noteV x0 x1)).2.2.1.2.2.2.length dg_10, .slice Dg_11 ((noteV x0 x1)).2.2.2.1.length dg_11, .slice Dg_12 ((noteV x0 x1)).2.2.2.2.length dg_12] 40)).cell? ⟨w.heap.size, 2, none⟩ = some (.slice A0_2 x0.1.2.2.length c0_2) := ka0_7b.cell 2
  have ga0_7_3 : (w7.alloc (.cells #[.int .i64 ((noteV x0 x1)).1.1, .slice Dg_1 ((noteV x0 x1)).1.2.1.length dg_1, .slice Dg_2 ((noteV x0 x1)).1.2.2.length dg_2, .int .i64 ((noteV x0 x1)).2.1.1, .int .i64 ((noteV x0 x1)).2.1.2.1, .int .i64 ((noteV x0 x1)).2.1.2.2.1, .slice Dg_6 ((noteV x0 x1)).2.1.2.2.2.length dg_6, .int .i64 ((noteV x0 x1)).2.2.1.1, .int .i64 ((noteV x0 x1)).2.2.1.2.1, .int .i64 ((noteV x0 x1)).2.2.1.2.2.1, .slice Dg_10 ((noteV x0 x1)).2.2.1.2.2.2.length dg_10, .slice Dg_11 ((noteV x0 x1)).2.2.2.1.length dg_11, .slice Dg_12 ((noteV x0 x1)).2.2.2.2.length dg_12] 40)).cell? ⟨w.heap.size, 3, none⟩ = some (.int .i64 x0.2.1.1) := ka0_7b.cell 3
  have ga0_7_4 : (w7.alloc (.cells #[.int .i64 ((noteV x0 x1)).1.1, .slice Dg_1 ((noteV x0 x1)).1.2.1.length dg_1, .slice Dg_2 ((noteV x0 x1)).1.2.2.length dg_2, .int .i64 ((noteV x0 x1)).2.1.1, .int .i64 ((noteV x0 x1)).2.1.2.1, .int .i64 ((noteV x0 x1)).2.1.2.2.1, .slice Dg_6 ((noteV x0 x1)).2.1.2.2.2.length dg_6, .int .i64 ((noteV x0 x1)).2.2.1.1, .int .i64 ((noteV x0 x1)).2.2.1.2.1, .int .i64 ((noteV x0 x1)).2.2.1.2.2.1, .slice Dg_10 ((noteV x0 x1)).2.2.1.2.2.2.length dg_10, .slice Dg_11 ((noteV x0 x1)).2.2.2.1.length dg_11, .slice Dg_12 ((noteV x0 x1)).2.2.2.2.length dg_12] 40)).cell? ⟨w.heap.size, 4, none⟩ = some (.int .i64 x0.2.1.2.1) := ka0_7b.cell 4
  have ga0_7_5 : (w7.alloc (.cells #[.int .i64 ((noteV x0 x1)).1.1, .slice Dg_1 ((noteV x0 x1)).1.2.1.length dg_1, .slice Dg_2 ((noteV x0 x1)).1.2.2.length dg_2, .int .i64 ((noteV x0 x1)).2.1.1, .int .i64 ((noteV x0 x1)).2.1.2.1, .int .i64 ((noteV x0 x1)).2.1.2.2.1, .slice Dg_6 ((noteV x0 x1)).2.1.2.2.2.length dg_6, .int .i64 ((noteV x0 x1)).2.2.1.1, .int .i64 ((noteV x0 x1)).2.2.1.2.1, .int .i64 ((noteV x0 x1)).2.2.1.2.2.1, .slice Dg_10 ((noteV x0 x1)).2.2.1.2.2.2.length dg_10, .slice Dg_11 ((noteV x0 x1)).2.2.2.1.length dg_11, .slice Dg_12 ((noteV x0 x1)).2.2.2.2.length dg_12] 40)).cell? ⟨w.heap.size, 5, none⟩ = some (.int .i64 x0.2.1.2.2.1) := ka0_7b.cell 5
  have ga0_7_6 : (w7.alloc (.cells #[.int .i64 ((noteV x0 x1)).1.1, .slice Dg_1 ((noteV x0 x1)).1.2.1.length dg_1, .slice Dg_2 ((noteV x0 x1)).1.2.2.length dg_2, .int .i64 ((noteV x0 x1)).2.1.1, .int .i64 ((noteV x0 x1)).2.1.2.1, .int .i64 ((noteV x0 x1)).2.1.2.2.1, .slice Dg_6 ((noteV x0 x1)).2.1.2.2.2.length dg_6, .int .i64 ((noteV x0 x1)).2.2.1.1, .int .i64 ((noteV x0 x1)).2.2.1.2.1, .int .i64 ((noteV x0 x1)).2.2.1.2.2.1, .slice Dg_10 ((noteV x0 x1)).2.2.1.2.2.2.length dg_10, .slice Dg_11 ((noteV x0 x1)).2.2.2.1.length dg_11, .slice Dg_12 ((noteV x0 x1)).2.2.2.2.length dg_12] 40)).cell? ⟨w.heap.size, 6, none⟩ = some (.slice A0_6 x0.2.1.2.2.2.length c0_6) := ka0_7b.cell 6
  have ga0_7_7 : (w7.alloc (.cells #[.int .i64 ((noteV x0 x1)).1.1, .slice Dg_1 ((noteV x0 x1)).1.2.1.length dg_1, .slice Dg_2 ((noteV x0 x1)).1.2.2.length dg_2, .int .i64 ((noteV x0 x1)).2.1.1, .int .i64 ((noteV x0 x1)).2.1.2.1, .int .i64 ((noteV x0 x1)).2.1.2.2.1, .slice Dg_6 ((noteV x0 x1)).2.1.2.2.2.length dg_6, .int .i64 ((noteV x0 x1)).2.2.1.1, .int .i64 ((noteV x0 x1)).2.2.1.2.1, .int .i64 ((noteV x0 x1)).2.2.1.2.2.1, .slice Dg_10 ((noteV x0 x1)).2.2.1.2.2.2.length dg_10, .slice Dg_11 ((noteV x0 x1)).2.2.2.1.length dg_11, .slice Dg_12 ((noteV x0 x1)).2.2.2.2.length dg_12] 40)).cell? ⟨w.heap.size, 7, none⟩ = some (.int .i64 x0.2.2.1.1) := ka0_7b.cell 7
  have ga0_7_8 : (w7.alloc (.cells #[.int .i64 ((noteV x0 x1)).1.1, .slice Dg_1 ((noteV x0 x1)).1.2.1.length dg_1, .slice Dg_2 ((noteV x0 x1)).1.2.2.length dg_2, .int .i64 ((noteV x0 x1)).2.1.1, .int .i64 ((noteV x0 x1)).2.1.2.1, .int .i64 ((noteV x0 x1)).2.1.2.2.1, .slice Dg_6 ((noteV x0 x1)).2.1.2.2.2.length dg_6, .int .i64 ((noteV x0 x1)).2.2.1.1, .int .i64 ((noteV x0 x1)).2.2.1.2.1, .int .i64 ((noteV x0 x1)).2.2.1.2.2.1, .slice Dg_10 ((noteV x0 x1)).2.2.1.2.2.2.length dg_10, .slice Dg_11 ((noteV x0 x1)).2.2.2.1.length dg_11, .slice Dg_12 ((noteV x0 x1)).2.2.2.2.length dg_12] 40)).cell? ⟨w.heap.size, 8, none⟩ = some (.int .i64 x0.2.2.1.2.1) := ka0_7b.cell 8
  have ga0_7_9 : (w7.alloc (.cells #[.int .i64 ((noteV x0 x1)).1.1, .slice Dg_1 ((noteV x0 x1)).1.2.1.length dg_1, .slice Dg_2 ((noteV x0 x1)).1.2.2.length dg_2, .int .i64 ((noteV x0 x1)).2.1.1, .int .i64 ((noteV x0 x1)).2.1.2.1, .int .i64 ((noteV x0 x1)).2.1.2.2.1, .slice Dg_6 ((noteV x0 x1)).2.1.2.2.2.length dg_6, .int .i64 ((noteV x0 x1)).2.2.1.1, .int .i64 ((noteV x0 x1)).2.2.1.2.1, .int .i64 ((noteV x0 x1)).2.2.1.2.2.1, .slice Dg_10 ((noteV x0 x1)).2.2.1.2.2.2.length dg_10, .slice Dg_11 ((noteV x0 x1)).2.2.2.1.length dg_11, .slice Dg_12 ((noteV x0 x1)).2.2.2.2.length dg_12] 40)).cell? ⟨w.heap.size, 9, none⟩ = some (.int .i64 x0.2.2.1.2.2.1) := ka0_7b.cell 9
  have ga0_7_10 : (w7.alloc (.cells #[.int .i64 ((noteV x0 x1)).1.1, .slice Dg_1 ((noteV x0 x1)).1.2.1.length dg_1, .slice Dg_2 ((noteV x0 x1)).1.2.2.length dg_2, .int .i64 ((noteV x0 x1)).2.1.1, .int .i64 ((noteV x0 x1)).2.1.2.1, .int .i64 ((noteV x0 x1)).2.1.2.2.1, .slice Dg_6 ((noteV x0 x1)).2.1.2.2.2.length dg_6, .int .i64 ((noteV x0 x1)).2.2.1.1, .int .i64 ((noteV x0 x1)).2.2.1.2.1, .int .i64 ((noteV x0 x1)).2.2.1.2.2.1, .slice Dg_10 ((noteV x0 x1)).2.2.1.2.2.2.length dg_10, .slice Dg_11 ((noteV x0 x1)).2.2.2.1.length dg_11, .slice Dg_12 ((noteV x0 x1)).2.2.2.2.length dg_12] 40)).cell? ⟨w.heap.size, 10, none⟩ = some (.slice A0_10 x0.2.2.1.2.2.2.length c0_10) := ka0_7b.cell 10
  have ga0_7_11 : (w7.alloc (.cells #[.int .i64 ((noteV x0 x1)).1.1, .slice Dg_1 ((noteV x0 x1)).1.2.1.length dg_1, .slice Dg_2 ((noteV x0 x1)).1.2.2.length dg_2, .int .i64 ((noteV x0 x1)).2.1.1, .int .i64 ((noteV x0 x1)).2.1.2.1, .int .i64 ((noteV x0 x1)).2.1.2.2.1, .slice Dg_6 ((noteV x0 x1)).2.1.2.2.2.length dg_6, .int .i64 ((noteV x0 x1)).2.2.1.1, .int .i64 ((noteV x0 x1)).2.2.1.2.1, .int .i64 ((noteV x0 x1)).2.2.1.2.2.1, .slice Dg_10 ((noteV x0 x1)).2.2.1.2.2.2.length dg_10, .slice Dg_11 ((noteV x0 x1)).2.2.2.1.length dg_11, .slice Dg_12 ((noteV x0 x1)).2.2.2.2.length dg_12] 40)).cell? ⟨w.heap.size, 11, none⟩ = some (.slice A0_11 x0.2.2.2.1.length c0_11) := ka0_7b.cell 11
  have ga0_7_12 : (w7.alloc (.cells #[.int .i64 ((noteV x0 x1)).1.1, .slice Dg_1 ((noteV x0 x1)).1.2.1.length dg_1, .slice Dg_2 ((noteV x0 x1)).1.2.2.length dg_2, .int .i64 ((noteV x0 x1)).2.1.1, .int .i64 ((noteV x0 x1)).2.1.2.1, .int .i64 ((noteV x0 x1)).2.1.2.2.1, .slice Dg_6 ((noteV x0 x1)).2.1.2.2.2.length dg_6, .int .i64 ((noteV x0 x1)).2.2.1.1, .int .i64 ((noteV x0 x1)).2.2.1.2.1, .int .i64 ((noteV x0 x1)).2.2.1.2.2.1, .slice Dg_10 ((noteV x0 x1)).2.2.1.2.2.2.length dg_10, .slice Dg_11 ((noteV x0 x1)).2.2.2.1.length dg_11, .slice Dg_12 ((noteV x0 x1)).2.2.2.2.length dg_12] 40)).cell? ⟨w.heap.size, 12, none⟩ = some (.slice A0_12 x0.2.2.2.2.length c0_12) := ka0_7b.cell 12
  have zza0_7 := ka0_7b.lt
  have gr_7_0 : (w7.alloc (.cells #[.int .i64 ((noteV x0 x1)).1.1, .slice Dg_1 ((noteV x0 x1)).1.2.1.length dg_1, .slice Dg_2 ((noteV x0 x1)).1.2.2.length dg_2, .int .i64 ((noteV x0 x1)).2.1.1, .int .i64 ((noteV x0 x1)).2.1.2.1, .int .i64 ((noteV x0 x1)).2.1.2.2.1, .slice Dg_6 ((noteV x0 x1)).2.1.2.2.2.length dg_6, .int .i64 ((noteV x0 x1)).2.2.1.1, .int .i64 ((noteV x0 x1)).2.2.1.2.1, .int .i64 ((noteV x0 x1)).2.2.1.2.2.1, .slice Dg_10 ((noteV x0 x1)).2.2.1.2.2.2.length dg_10, .slice Dg_11 ((noteV x0 x1)).2.2.2.1.length dg_11, .slice Dg_12 ((noteV x0 x1)).2.2.2.2.length dg_12] 40)).cell? ⟨w4.heap.size, 0, none⟩ = some (.int .i64 ((noteV x0 x1)).1.1) := kr_7b.cell 0
  have gr_7_1 : (w7.alloc (.cells #[.int .i64 ((noteV x0 x1)).1.1, .slice Dg_1 ((noteV x0 x1)).1.2.1.length dg_1, .slice Dg_2 ((noteV x0 x1)).1.2.2.length dg_2, .int .i64 ((noteV x0 x1)).2.1.1, .int .i64 ((noteV x0 x1)).2.1.2.1, .int .i64 ((noteV x0 x1)).2.1.2.2.1, .slice Dg_6 ((noteV x0 x1)).2.1.2.2.2.length dg_6, .int .i64 ((noteV x0 x1)).2.2.1.1, .int .i64 ((noteV x0 x1)).2.2.1.2.1, .int .i64 ((noteV x0 x1)).2.2.1.2.2.1, .slice Dg_10 ((noteV x0 x1)).2.2.1.2.2.2.length dg_10, .slice Dg_11 ((noteV x0 x1)).2.2.2.1.length dg_11, .slice Dg_12 ((noteV x0 x1)).2.2.2.2.length dg_12] 40)).cell? ⟨w4.heap.size, 1, none⟩ = some (.slice Ds_1 ((noteV x0 x1)).1.2.1.length ds_1) := kr_7b.cell 1
  have gr_7_2 : (w7.alloc (.cells #[.int .i64 ((noteV x0 x1)).1.1, .slice Dg_1 ((noteV x0 x1)).1.2.1.length dg_1, .slice Dg_2 ((noteV x0 x1)).1.2.2.length dg_2, .int .i64 ((noteV x0 x1)).2.1.1, .int .i64 ((noteV x0 x1)).2.1.2.1, .int .i64 ((noteV x0 x1)).2.1.2.2.1, .slice Dg_6 ((noteV x0 x1)).2.1.2.2.2.length dg_6, .int .i64 ((noteV x0 x1)).2.2.1.1, .int .i64 ((noteV x0 x1)).2.2.1.2.1, .int .i64 ((noteV x0 x1)).2.2.1.2.2.1, .slice Dg_10 ((noteV x0 x1)).2.2.1.2.2.2.length dg_10, .slice Dg_11 ((noteV x0 x1)).2.2.2.1.length dg_11, .slice Dg_12 ((noteV x0 x1)).2.2.2.2.length dg_12] 40)).cell? ⟨w4.heap.size, 2, none⟩ = some (.slice Ds_2 ((noteV x0 x1)).1.2.2.length ds_2) := kr_7b.cell 2
  have gr_7_3 : (w7.alloc (.cells #[.int .i64 ((noteV x0 x1)).1.1, .slice Dg_1 ((noteV x0 x1)).1.2.1.length dg_1, .slice Dg_2 ((noteV x0 x1)).1.2.2.length dg_2, .int .i64 ((noteV x0 x1)).2.1.1, .int .i64 ((noteV x0 x1)).2.1.2.1, .int .i64 ((noteV x0 x1)).2.1.2.2.1, .slice Dg_6 ((noteV x0 x1)).2.1.2.2.2.length dg_6, .int .i64 ((noteV x0 x1)).2.2.1.1, .int .i64 ((noteV x0 x1)).2.2.1.2.1, .int .i64 ((noteV x0 x1)).2.2.1.2.2.1, .slice Dg_10 ((noteV x0 x1)).2.2.1.2.2.2.length dg_10, .slice Dg_11 ((noteV x0 x1)).2.2.2.1.length dg_11, .slice Dg_12 ((noteV x0 x1)).2.2.2.2.length dg_12] 40)).cell? ⟨w4.heap.size, 3, none⟩ = some (.int .i64 ((noteV x0 x1)).2.1.1) := kr_7b.cell 3
  have gr_7_4 : (w7.alloc (.cells #[.int .i64 ((noteV x0 x1)).1.1, .slice Dg_1 ((noteV x0 x1)).1.2.1.length dg_1, .slice Dg_2 ((noteV x0 x1)).1.2.2.length dg_2, .int .i64 ((noteV x0 x1)).2.1.1, .int .i64 ((noteV x0 x1)).2.1.2.1, .int .i64 ((noteV x0 x1)).2.1.2.2.1, .slice Dg_6 ((noteV x0 x1)).2.1.2.2.2.length dg_6, .int .i64 ((noteV x0 x1)).2.2.1.1, .int .i64 ((noteV x0 x1)).2.2.1.2.1, .int .i64 ((noteV x0 x1)).2.2.1.2.2.1, .slice Dg_10 ((noteV x0 x1)).2.2.1.2.2.2.length dg_10, .slice Dg_11 ((noteV x0 x1)).2.2.2.1.length dg_11, .slice Dg_12 ((noteV x0 x1)).2.2.2.2.length dg_12] 40)).cell? ⟨w4.heap.size, 4, none⟩ = some (.int .i64 ((noteV x0 x1)).2.1.2.1) := kr_7b.cell 4
  have gr_7_5 : (w7.alloc (.cells #[.int .i64 ((noteV x0 x1)).1.1, .slice Dg_1 ((noteV x0 x1)).1.2.1.length dg_1, .slice Dg_2 ((noteV x0 x1)).1.2.2.length dg_2, .int .i64 ((noteV x0 x1)).2.1.1, .int .i64 ((noteV x0 x1)).2.1.2.1, .int .i64 ((noteV x0 x1)).2.1.2.2.1, .slice Dg_6 ((noteV x0 x1)).2.1.2.2.2.length dg_6, .int .i64 ((noteV x0 x1)).2.2.1.1, .int .i64 ((noteV x0 x1)).2.2.1.2.1, .int .i64 ((noteV x0 x1)).2.2.1.2.2.1, .slice Dg_10 ((noteV x0 x1)).2.2.1.2.2.2.length dg_10, .slice Dg_11 ((noteV x0 x1)).2.2.2.1.length dg_11, .slice Dg_12 ((noteV x0 x1)).2.2.2.2.length dg_12] 40)).cell? ⟨w4.heap.size, 5, none⟩ = some (.int .i64 ((noteV x0 x1)).2.1.2.2.1) := kr_7b.cell 5
  have gr_7_6 : (w7.alloc (.cells #[.int .i64 ((noteV x0 x1)).1.1, .slice Dg_1 ((noteV x0 x1)).1.2.1.length dg_1, .slice Dg_2 ((noteV x0 x1)).1.2.2.length dg_2, .int .i64 ((noteV x0 x1)).2.1.1, .int .i64 ((noteV x0 x1)).2.1.2.1, .int .i64 ((noteV x0 x1)).2.1.2.2.1, .slice Dg_6 ((noteV x0 x1)).2.1.2.2.2.length dg_6, .int .i64 ((noteV x0 x1)).2.2.1.1, .int .i64 ((noteV x0 x1)).2.2.1.2.1, .int .i64 ((noteV x0 x1)).2.2.1.2.2.1, .slice Dg_10 ((noteV x0 x1)).2.2.1.2.2.2.length dg_10, .slice Dg_11 ((noteV x0 x1)).2.2.2.1.length dg_11, .slice Dg_12 ((noteV x0 x1)).2.2.2.2.length dg_12] 40)).cell? ⟨w4.heap.size, 6, none⟩ = some (.slice Ds_6 ((noteV x0 x1)).2.1.2.2.2.length ds_6) := kr_7b.cell 6
  have gr_7_7 : (w7.alloc (.cells #[.int .i64 ((noteV x0 x1)).1.1, .slice Dg_1 ((noteV x0 x1)).1.2.1.length dg_1, .slice Dg_2 ((noteV x0 x1)).1.2.2.length dg_2, .int .i64 ((noteV x0 x1)).2.1.1, .int .i64 ((noteV x0 x1)).2.1.2.1, .int .i64 ((noteV x0 x1)).2.1.2.2.1, .slice Dg_6 ((noteV x0 x1)).2.1.2.2.2.length dg_6, .int .i64 ((noteV x0 x1)).2.2.1.1, .int .i64 ((noteV x0 x1)).2.2.1.2.1, .int .i64 ((noteV x0 x1)).2.2.1.2.2.1, .slice Dg_10 ((noteV x0 x1)).2.2.1.2.2.2.length dg_10, .slice Dg_11 ((noteV x0 x1)).2.2.2.1.length dg_11, .slice Dg_12 ((noteV x0 x1)).2.2.2.2.length dg_12] 40)).cell? ⟨w4.heap.size, 7, none⟩ = some (.int .i64 ((noteV x0 x1)).2.2.1.1) := kr_7b.cell 7
  have gr_7_8 : (w7.alloc (.cells #[.int .i64 ((noteV x0 x1)).1.1, .slice Dg_1 ((noteV x0 x1)).1.2.1.length dg_1, .slice Dg_2 ((noteV x0 x1)).1.2.2.length dg_2, .int .i64 ((noteV x0 x1)).2.1.1, .int .i64 ((noteV x0 x1)).2.1.2.1, .int .i64 ((noteV x0 x1)).2.1.2.2.1, .slice Dg_6 ((noteV x0 x1)).2.1.2.2.2.length dg_6, .int .i64 ((noteV x0 x1)).2.2.1.1, .int .i64 ((noteV x0 x1)).2.2.1.2.1, .int .i64 ((noteV x0 x1)).2.2.1.2.2.1, .slice Dg_10 ((noteV x0 x1)).2.2.1.2.2.2.length dg_10, .slice Dg_11 ((noteV x0 x1)).2.2.2.1.length dg_11, .slice Dg_12 ((noteV x0 x1)).2.2.2.2.length dg_12] 40)).cell? ⟨w4.heap.size, 8, none⟩ = some (.int .i64 ((noteV x0 x1)).2.2.1.2.1) := kr_7b.cell 8
  have gr_7_9 : (w7.alloc (.cells #[.int .i64 ((noteV x0 x1)).1.1, .slice Dg_1 ((noteV x0 x1)).1.2.1.length dg_1, .slice Dg_2 ((noteV x0 x1)).1.2.2.length dg_2, .int .i64 ((noteV x0 x1)).2.1.1, .int .i64 ((noteV x0 x1)).2.1.2.1, .int .i64 ((noteV x0 x1)).2.1.2.2.1, .slice Dg_6 ((noteV x0 x1)).2.1.2.2.2.length dg_6, .int .i64 ((noteV x0 x1)).2.2.1.1, .int .i64 ((noteV x0 x1)).2.2.1.2.1, .int .i64 ((noteV x0 x1)).2.2.1.2.2.1, .slice Dg_10 ((noteV x0 x1)).2.2.1.2.2.2.length dg_10, .slice Dg_11 ((noteV x0 x1)).2.2.2.1.length dg_11, .slice Dg_12 ((noteV x0 x1)).2.2.2.2.length dg_12] 40)).cell? ⟨w4.heap.size, 9, none⟩ = some (.int .i64 ((noteV x0 x1)).2.2.1.2.2.1) := kr_7b.cell 9
  have gr_7_10 : (w7.alloc (.cells #[.int .i64 ((noteV x0 x1)).1.1, .slice Dg_1 ((noteV x0 x1)).1.2.1.length dg_1, .slice Dg_2 ((noteV x0 x1)).1.2.2.length dg_2, .int .i64 ((noteV x0 x1)).2.1.1, .int .i64 ((noteV x0 x1)).2.1.2.1, .int .i64 ((noteV x0 x1)).2.1.2.2.1, .slice Dg_6 ((noteV x0 x1)).2.1.2.2.2.length dg_6, .int .i64 ((noteV x0 x1)).2.2.1.1, .int .i64 ((noteV x0 x1)).2.2.1.2.1, .int .i64 ((noteV x0 x1)).2.2.1.2.2.1, .slice Dg_10 ((noteV x0 x1)).2.2.1.2.2.2.length dg_10, .slice Dg_11 ((noteV x0 x1)).2.2.2.1.length dg_11, .slice Dg_12 ((noteV x0 x1)).2.2.2.2.length dg_12] 40)).cell? ⟨w4.heap.size, 10, none⟩ = some (.slice Ds_10 ((noteV x0 x1)).2.2.1.2.2.2.length ds_10) := kr_7b.cell 10
  have gr_7_11 : (w7.alloc (.cells #[.int .i64 ((noteV x0 x1)).1.1, .slice Dg_1 ((noteV x0 x1)).1.2.1.length dg_1, .slice Dg_2 ((noteV x0 x1)).1.2.2.length dg_2, .int .i64 ((noteV x0 x1)).2.1.1, .int .i64 ((noteV x0 x1)).2.1.2.1, .int .i64 ((noteV x0 x1)).2.1.2.2.1, .slice Dg_6 ((noteV x0 x1)).2.1.2.2.2.length dg_6, .int .i64 ((noteV x0 x1)).2.2.1.1, .int .i64 ((noteV x0 x1)).2.2.1.2.1, .int .i64 ((noteV x0 x1)).2.2.1.2.2.1, .slice Dg_10 ((noteV x0 x1)).2.2.1.2.2.2.length dg_10, .slice Dg_11 ((noteV x0 x1)).2.2.2.1.length dg_11, .slice Dg_12 ((noteV x0 x1)).2.2.2.2.length dg_12] 40)).cell? ⟨w4.heap.size, 11, none⟩ = some (.slice Ds_11 ((noteV x0 x1)).2.2.2.1.length ds_11) := kr_7b.cell 11
  have gr_7_12 : (w7.alloc (.cells #[.int .i64 ((noteV x0 x1)).1.1, .slice Dg_1 ((noteV x0 x1)).1.2.1.length dg_1, .slice Dg_2 ((noteV x0 x1)).1.2.2.length dg_2, .int .i64 ((noteV x0 x1)).2.1.1, .int .i64 ((noteV x0 x1)).2.1.2.1, .int .i64 ((noteV x0 x1)).2.1.2.2.1, .slice Dg_6 ((noteV x0 x1)).2.1.2.2.2.length dg_6, .int .i64 ((noteV x0 x1)).2.2.1.1, .int .i64 ((noteV x0 x1)).2.2.1.2.1, .int .i64 ((noteV x0 x1)).2.2.1.2.2.1, .slice Dg_10 ((noteV x0 x1)).2.2.1.2.2.2.length dg_10, .slice Dg_11 ((noteV x0 x1)).2.2.2.1.length dg_11, .slice Dg_12 ((noteV x0 x1)).2.2.2.2.length dg_12] 40)).cell? ⟨w4.heap.size, 12, none⟩ = some (.slice Ds_12 ((noteV x0 x1)).2.2.2.2.length ds_12) := kr_7b.cell 12
  have zzr_7 := kr_7b.lt
  have gx0_7_0 : (w7.alloc (.cells #[.int .i64 ((noteV x0 x1)).1.1, .slice Dg_1 ((noteV x0 x1)).1.2.1.length dg_1, .slice Dg_2 ((noteV x0 x1)).1.2.2.length dg_2, .int .i64 ((noteV x0 x1)).2.1.1, .int .i64 ((noteV x0 x1)).2.1.2.1, .int .i64 ((noteV x0 x1)).2.1.2.2.1, .slice Dg_6 ((noteV x0 x1)).2.1.2.2.2.length dg_6, .int .i64 ((noteV x0 x1)).2.2.1.1, .int .i64 ((noteV x0 x1)).2.2.1.2.1, .int .i64 ((noteV x0 x1)).2.2.1.2.2.1, .slice Dg_10 ((noteV x0 x1)).2.2.1.2.2.2.length dg_10, .slice Dg_11 ((noteV x0 x1)).2.2.2.1.length dg_11, .slice Dg_12 ((noteV x0 x1)).2.2.2.2.length dg_12] 40)).cell? ⟨w5.heap.size, 0, none⟩ = some (.int .i64 x0.1.1) := kx0_7b.cell 0
  have gx0_7_1 : (w7.alloc (.cells #[.int .i64 ((noteV x0 x1)).1.1, .slice Dg_1 ((noteV x0 x1)).1.2.1.length dg_1, .slice Dg_2 ((noteV x0 x1)).1.2.2.length dg_2, .int .i64 ((noteV x0 x1)).2.1.1, .int .i64 ((noteV x0 x1)).2.1.2.1, .int .i64 ((noteV x0 x1)).2.1.2.2.1, .slice Dg_6 ((noteV x0 x1)).2.1.2.2.2.length dg_6, .int .i64 ((noteV x0 x1)).2.2.1.1, .int .i64 ((noteV x0 x1)).2.2.1.2.1, .int .i64 ((noteV x0 x1)).2.2.1.2.2.1, .slice Dg_10 ((noteV x0 x1)).2.2.1.2.2.2.length dg_10, .slice Dg_11 ((noteV x0 x1)).2.2.2.1.length dg_11, .slice Dg_12 ((noteV x0 x1)).2.2.2.2.length dg_12] 40)).cell? ⟨w5.heap.size, 1, none⟩ = some (.slice Dx0_1 x0.1.2.1.length dx0_1) := kx0_7b.cell 1
  have gx0_7_2 : (w7.alloc (.cells #[.int .i64 ((noteV x0 x1)).1.1, .slice Dg_1 ((noteV x0 x1)).1.2.1.length dg_1, .slice Dg_2 ((noteV x0 x1)).1.2.2.length dg_2, .int .i64 ((noteV x0 x1)).2.1.1, .int .i64 ((noteV x0 x1)).2.1.2.1, .int .i64 ((noteV x0 x1)).2.1.2.2.1, .slice Dg_6 ((noteV x0 x1)).2.1.2.2.2.length dg_6, .int .i64 ((noteV x0 x1)).2.2.1.1, .int .i64 ((noteV x0 x1)).2.2.1.2.1, .int .i64 ((noteV x0 x1)).2.2.1.2.2.1, .slice Dg_10 ((noteV x0 x1)).2.2.1.2.2.2.length dg_10, .slice Dg_11 ((noteV x0 x1)).2.2.2.1.length dg_11, .slice Dg_12 ((noteV x0 x1)).2.2.2.2.length dg_12] 40)).cell? ⟨w5.heap.size, 2, none⟩ = some (.slice Dx0_2 x0.1.2.2.length dx0_2) := kx0_7b.cell 2
  have gx0_7_3 : (w7.alloc (.cells #[.int .i64 ((noteV x0 x1)).1.1, .slice Dg_1 ((noteV x0 x1)).1.2.1.length dg_1, .slice Dg_2 ((noteV x0 x1)).1.2.2.length dg_2, .int .i64 ((noteV x0 x1)).2.1.1, .int .i64 ((noteV x0 x1)).2.1.2.1, .int .i64 ((noteV x0 x1)).2.1.2.2.1, .slice Dg_6 ((noteV x0 x1)).2.1.2.2.2.length dg_6, .int .i64 ((noteV x0 x1)).2.2.1.1, .int .i64 ((noteV x0 x1)).2.2.1.2.1, .int .i64 ((noteV x0 x1)).2.2.1.2.2.1, .slice Dg_10 ((noteV x0 x1)).2.2.1.2.2.2.length dg_10, .slice Dg_11 ((noteV x0 x1)).2.2.2.1.length dg_11, .slice Dg_12 ((noteV x0 x1)).2.2.2.2.length dg_12] 40)).cell? ⟨w5.heap.size, 3, none⟩ = some (.int .i64 x0.2.1.1) := kx0_7b.cell 3
  have gx0_7_4 : (w7.alloc (.cells #[.int .i64 ((noteV x0 x1)).1.1, .slice Dg_1 ((noteV x0 x1)).1.2.1.length dg_1, .slice Dg_2 ((noteV x0 x1)).1.2.2.length dg_2, .int .i64 ((noteV x0 x1)).2.1.1, .int .i64 ((noteV x0 x1)).2.1.2.1, .int .i64 ((noteV x0 x1)).2.1.2.2.1, .slice Dg_6 ((noteV x0 x1)).2.1.2.2.2.length dg_6, .int .i64 ((noteV x0 x1)).2.2.1.1, .int .i64 ((noteV x0 x1)).2.2.1.2.1, .int .i64 ((noteV x0 x1)).2.2.1.2.2.1, .slice Dg_10 ((noteV x0 x1)).2.2.1.2.2.2.length dg_10, .slice Dg_11 ((noteV x0 x1)).2.2.2.1.length dg_11, .slice Dg_12 ((noteV x0 x1)).2.2.2.2.length dg_12] 40)).cell? ⟨w5.heap.size, 4, none⟩ = some (.int .i64 x0.2.1.2.1) := kx0_7b.cell 4
  have gx0_7_5 : (w7.alloc (.cells #[.int .i64 ((noteV x0 x1)).1.1, .slice Dg_1 ((noteV x0 x1)).1.2.1.length dg_1, .slice Dg_2 ((noteV x0 x1)).1.2.2.length dg_2, .int .i64 ((noteV x0 x1)).2.1.1, .int .i64 ((noteV x0 x1)).2.1.2.1, .int .i64 ((noteV x0 x1)).2.1.2.2.1, .slice Dg_6 ((noteV x0 x1)).2.1.2.2.2.length dg_6, .int .i64 ((noteV x0 x1)).2.2.1.1, .int .i64 ((noteV x0 x1)).2.2.1.2.1, .int .i64 ((noteV x0 x1)).2.2.1.2.2.1, .slice Dg_10 ((noteV x0 x1)).2.2.1.2.2.2.length dg_10, .slice Dg_11 ((noteV x0 x1)).2.2.2.1.length dg_11, .slice Dg_12 ((noteV x0 x1)).2.2.2.2.length dg_12] 40)).cell? ⟨w5.heap.size, 5, none⟩ = some (.int .i64 x0.2.1.2.2.1) := kx0_7b.cell 5
  have gx0_7_6 : (w7.alloc (.cells #[.int .i64 ((noteV x0 x1)).1.1, .slice Dg_1 ((noteV x0 x1)).1.2.1.length dg_1, .slice Dg_2 ((noteV x0 x1)).1.2.2.length dg_2, .int .i64 ((noteV x0 x1)).2.1.1, .int .i64 ((noteV x0 x1)).2.1.2.1, .int .i64 ((noteV x0 x1)).2.1.2.2.1, .slice Dg_6 ((noteV x0 x1)).2.1.2.2.2.length dg_6, .int .i64 ((noteV x0 x1)).2.2.1.1, .int .i64 ((noteV x0 x1)).2.2.1.2.1, .int .i64 ((noteV x0 x1)).2.2.1.2.2.1, .slice Dg_10 ((noteV x0 x1)).2.2.1.2.2.2.length dg_10, .slice Dg_11 ((noteV x0 x1)).2.2.2.1.length dg_11, .slice Dg_12 ((noteV x0 x1)).2.2.2.2.length dg_12] 40)).cell? ⟨w5.heap.size, 6, none⟩ = some (.slice Dx0_6 x0.2.1.2.2.2.length dx0_6) := kx0_7b.cell 6
  have gx0_7_7 : (w7.alloc (.cells #[.int .i64 ((noteV x0 x1)).1.1, .slice Dg_1 ((noteV x0 x1)).1.2.1.length dg_1, .slice Dg_2 ((noteV x0 x1)).1.2.2.length dg_2, .int .i64 ((noteV x0 x1)).2.1.1, .int .i64 ((noteV x0 x1)).2.1.2.1, .int .i64 ((noteV x0 x1)).2.1.2.2.1, .slice Dg_6 ((noteV x0 x1)).2.1.2.2.2.length dg_6, .int .i64 ((noteV x0 x1)).2.2.1.1, .int .i64 ((noteV x0 x1)).2.2.1.2.1, .int .i64 ((noteV x0 x1)).2.2.1.2.2.1, .slice Dg_10 ((noteV x0 x1)).2.2.1.2.2.2.length dg_10, .slice Dg_11 ((noteV x0 x1)).2.2.2.1.length dg_11, .slice Dg_12 ((noteV x0 x1)).2.2.2.2.length dg_12] 40)).cell? ⟨w5.heap.size, 7, none⟩ = some (.int .i64 x0.2.2.1.1) := kx0_7b.cell 7
  have gx0_7_8 : (w7.alloc (.cells #[.int .i64 ((noteV x0 x1)).1.1, .slice Dg_1 ((noteV x0 x1)).1.2.1.length dg_1, .slice Dg_2 ((noteV x0 x1)).1.2.2.length dg_2, .int .i64 ((noteV x0 x1)).2.1.1, .int .i64 ((noteV x0 x1)).2.1.2.1, .int .i64 ((noteV x0 x1)).2.1.2.2.1, .slice Dg_6 ((noteV x0 x1)).2.1.2.2.2.length dg_6, .int .i64 ((noteV x0 x1)).2.2.1.1, .int .i64 ((noteV x0 x1)).2.2.1.2.1, .int .i64 ((noteV x0 x1)).2.2.1.2.2.1, .slice Dg_10 ((noteV x0 x1)).2.2.1.2.2.2.length dg_10, .slice Dg_11 ((noteV x0 x1)).2.2.2.1.length dg_11, .slice Dg_12 ((noteV x0 x1)).2.2.2.2.length dg_12] 40)).cell? ⟨w5.heap.size, 8, none⟩ = some (.int .i64 x0.2.2.1.2.1) := kx0_7b.cell 8
  have gx0_7_9 : (w7.alloc (.cells #[.int .i64 ((noteV x0 x1)).1.1, .slice Dg_1 ((noteV x0 x1)).1.2.1.length dg_1, .slice Dg_2 ((noteV x0 x1)).1.2.2.length dg_2, .int .i64 ((noteV x0 x1)).2.1.1, .int .i64 ((noteV x0 x1)).2.1.2.1, .int .i64 ((noteV x0 x1)).2.1.2.2.1, .slice Dg_6 ((noteV x0 x1)).2.1.2.2.2.length dg_6, .int .i64 ((noteV x0 x1)).2.2.1.1, .int .i64 ((noteV x0 x1)).2.2.1.2.1, .int .i64 ((noteV x0 x1)).2.2.1.2.2.1, .slice Dg_10 ((noteV x0 x1)).2.2.1.2.2.2.length dg_10, .slice Dg_11 ((noteV x0 x1)).2.2.2.1.length dg_11, .slice Dg_12 ((noteV x0 x1)).2.2.2.2.length dg_12] 40)).cell? ⟨w5.heap.size, 9, none⟩ = some (.int .i64 x0.2.2.1.2.2.1) := kx0_7b.cell 9
  have gx0_7_10 : (w7.alloc (.cells #[.int .i64 ((noteV x0 x1)).1.1, .slice Dg_1 ((noteV x0 x1)).1.2.1.length dg_1, .slice Dg_2 ((noteV x0 x1)).1.2.2.length dg_2, .int .i64 ((noteV x0 x1)).2.1.1, .int .i64 ((noteV x0 x1)).2.1.2.1, .int .i64 ((noteV x0 x1)).2.1.2.2.1, .slice Dg_6 ((noteV x0 x1)).2.1.2.2.2.length dg_6, .int .i64 ((noteV x0 x1)).2.2.1.1, .int .i64 ((noteV x0 x1)).2.2.1.2.1, .int .i64 ((noteV x0 x1)).2.2.1.2.2.1, .slice Dg_10 ((noteV x0 x1)).2.2.1.2.2.2.length dg_10, .slice Dg_11 ((noteV x0 x1)).2.2.2.1.length dg_11, .slice Dg_12 ((noteV x0 x1)).2.2.2.2.length dg_12] 40)).cell? ⟨w5.heap.size, 10, none⟩ = some (.slice Dx0_10 x0.2.2.1.2.2.2.length dx0_10) := kx0_7b.cell 10
  have gx0_7_11 : (w7.alloc (.cells #[.int .i64 ((noteV x0 x1)).1.1, .slice Dg_1 ((noteV x0 x1)).1.2.1.length dg_1, .slice Dg_2 ((noteV x0 x1)).1.2.2.length dg_2, .int .i64 ((noteV x0 x1)).2.1.1, .int .i64 ((noteV x0 x1)).2.1.2.1, .int .i64 ((noteV x0 x1)).2.1.2.2.1, .slice Dg_6 ((noteV x0 x1)).2.1.2.2.2.length dg_6, .int .i64 ((noteV x0 x1)).2.2.1.1, .int .i64 ((noteV x0 x1)).2.2.1.2.1, .int .i64 ((noteV x0 x1)).2.2.1.2.2.1, .slice Dg_10 ((noteV x0 x1)).2.2.1.2.2.2.length dg_10, .slice Dg_11 ((noteV x0 x1)).2.2.2.1.length dg_11, .slice Dg_12 ((noteV x0 x1)).2.2.2.2.length dg_12] 40)).cell? ⟨w5.heap.size, 11, none⟩ = some (.slice Dx0_11 x0.2.2.2.1.length dx0_11) := kx0_7b.cell 11
  have gx0_7_12 : (w7.alloc (.cells #[.int .i64 ((noteV x0 x1)).1.1, .slice Dg_1 ((noteV x0 x1)).1.2.1.length dg_1, .slice Dg_2 ((noteV x0 x1)).1.2.2.length dg_2, .int .i64 ((noteV x0 x1)).2.1.1, .int .i64 ((noteV x0 x1)).2.1.2.1, .int .i64 ((noteV x0 x1)).2.1.2.2.1, .slice Dg_6 ((noteV x0 x1)).2.1.2.2.2.length dg_6, .int .i64 ((noteV x0 x1)).2.2.1.1, .int .i64 ((noteV x0 x1)).2.2.1.2.1, .int .i64 ((noteV x0 x1)).2.2.1.2.2.1, .slice Dg_10 ((noteV x0 x1)).2.2.1.2.2.2.length dg_10, .slice Dg_11 ((noteV x0 x1)).2.2.2.1.length dg_11, .slice Dg_12 ((noteV x0 x1)).2.2.2.2.length dg_12] 40)).cell? ⟨w5.heap.size, 12, none⟩ = some (.slice Dx0_12 x0.2.2.2.2.length dx0_12) := kx0_7b.cell 12
  have zzx0_7 := kx0_7b.lt
  have gg_7_0 : (w7.alloc (.cells #[.int .i64 ((noteV x0 x1)).1.1, .slice Dg_1 ((noteV x0 x1)).1.2.1.length dg_1, .slice Dg_2 ((noteV x0 x1)).1.2.2.length dg_2, .int .i64 ((noteV x0 x1)).2.1.1, .int .i64 ((noteV x0 x1)).2.1.2.1, .int .i64 ((noteV x0 x1)).2.1.2.2.1, .slice Dg_6 ((noteV x0 x1)).2.1.2.2.2.length dg_6, .int .i64 ((noteV x0 x1)).2.2.1.1, .int .i64 ((noteV x0 x1)).2.2.1.2.1, .int .i64 ((noteV x0 x1)).2.2.1.2.2.1, .slice Dg_10 ((noteV x0 x1)).2.2.1.2.2.2.length dg_10, .slice Dg_11 ((noteV x0 x1)).2.2.2.1.length dg_11, .slice Dg_12 ((noteV x0 x1)).2.2.2.2.length dg_12] 40)).cell? ⟨w7.heap.size, 0, none⟩ = some (.int .i64 ((noteV x0 x1)).1.1) := kg_7b.cell 0
  have gg_7_1 : (w7.alloc (.cells #[.int .i64 ((noteV x0 x1)).1.1, .slice Dg_1 ((noteV x0 x1)).1.2.1.length dg_1, .slice Dg_2 ((noteV x0 x1)).1.2.2.length dg_2, .int .i64 ((noteV x0 x1)).2.1.1, .int .i64 ((noteV x0 x1)).2.1.2.1, .int .i64 ((noteV x0 x1)).2.1.2.2.1, .slice Dg_6 ((noteV x0 x1)).2.1.2.2.2.length dg_6, .int .i64 ((noteV x0 x1)).2.2.1.1, .int .i64 ((noteV x0 x1)).2.2.1.2.1, .int .i64 ((noteV x0 x1)).2.2.1.2.2.1, .slice Dg_10 ((noteV x0 x1)).2.2.1.2.2.2.length dg_10, .slice Dg_11 ((noteV x0 x1)).2.2.2.1.length dg_11, .slice Dg_12 ((noteV x0 x1)).2.2.2.2.length dg_12] 40)).cell? ⟨w7.heap.size, 1, none⟩ = some (.slice Dg_1 ((noteV x0 x1)).1.2.1.length dg_1) := kg_7b.cell 1
  have gg_7_2 : (w7.alloc (.cells #[.int .i64 ((noteV x0 x1)).1.1, .slice Dg_1 ((noteV x0 x1)).1.2.1.length dg_1, .slice Dg_2 ((noteV x0 x1)).1.2.2.length dg_2, .int .i64 ((noteV x0 x1)).2.1.1, .int .i64 ((noteV x0 x1)).2.1.2.1, .int .i64 ((noteV x0 x1)).2.1.2.2.1, .slice Dg_6 ((noteV x0 x1)).2.1.2.2.2.length dg_6, .int .i64 ((noteV x0 x1)).2.2.1.1, .int .i64 ((noteV x0 x1)).2.2.1.2.1, .int .i64 ((noteV x0 x1)).2.2.1.2.2.1, .slice Dg_10 ((noteV x0 x1)).2.2.1.2.2.2.length dg_10, .slice Dg_11 ((noteV x0 x1)).2.2.2.1.length dg_11, .slice Dg_12 ((noteV x0 x1)).2.2.2.2.length dg_12] 40)).cell? ⟨w7.heap.size, 2, none⟩ = some (.slice Dg_2 ((noteV x0 x1)).1.2.2.length dg_2) := kg_7b.cell 2
  have gg_7_3 : (w7.alloc (.cells #[.int .i64 ((noteV x0 x1)).1.1, .slice Dg_1 ((noteV x0 x1)).1.2.1.length dg_1, .slice Dg_2 ((noteV x0 x1)).1.2.2.length dg_2, .int .i64 ((noteV x0 x1)).2.1.1, .int .i64 ((noteV x0 x1)).2.1.2.1, .int .i64 ((noteV x0 x1)).2.1.2.2.1, .slice Dg_6 ((noteV x0 x1)).2.1.2.2.2.length dg_6, .int .i64 ((noteV x0 x1)).2.2.1.1, .int .i64 ((noteV x0 x1)).2.2.1.2.1, .int .i64 ((noteV x0 x1)).2.2.1.2.2.1, .slice Dg_10 ((noteV x0 x1)).2.2.1.2.2.2.length dg_10, .slice Dg_11 ((noteV x0 x1)).2.2.2.1.length dg_11, .slice Dg_12 ((noteV x0 x1)).2.2.2.2.length dg_12] 40)).cell? ⟨w7.heap.size, 3, none⟩ = some (.int .i64 ((noteV x0 x1)).2.1.1) := kg_7b.cell 3
  have gg_7_4 : (w7.alloc (.cells #[.int .i64 ((noteV x0 x1)).1.1, .slice Dg_1 ((noteV x0 x1)).1.2.1.length dg_1, .slice Dg_2 ((noteV x0 x1)).1.2.2.length dg_2, .int .i64 ((noteV x0 x1)).2.1.1, .int .i64 ((noteV x0 x1)).2.1.2.1, .int .i64 ((noteV x0 x1)).2.1.2.2.1, .slice Dg_6 ((noteV x0 x1)).2.1.2.2.2.length dg_6, .int .i64 ((noteV x0 x1)).2.2.1.1, .int .i64 ((noteV x0 x1)).2.2.1.2.1, .int .i64 ((noteV x0 x1)).2.2.1.2.2.1, .slice Dg_10 ((noteV x0 x1)).2.2.1.2.2.2.length dg_10, .slice Dg_11 ((noteV x0 x1)).2.2.2.1.length dg_11, .slice Dg_12 ((noteV x0 x1)).2.2.2.2.length dg_12] 40)).cell? ⟨w7.heap.size, 4, none⟩ = some (.int .i64 ((noteV x0 x1)).2.1.2.1) := kg_7b.cell 4
  have gg_7_5 : (w7.alloc (.cells #[.int .i64 ((noteV x0 x1)).1.1, .slice Dg_1 ((noteV x0 x1)).1.2.1.length dg_1, .slice Dg_2 ((noteV x0 x1)).1.2.2.length dg_2, .int .i64 ((noteV x0 x1)).2.1.1, .int .i64 ((noteV x0 x1)).2.1.2.1, .int .i64 ((noteV x0 x1)).2.1.2.2.1, .slice Dg_6 ((noteV x0 x1)).2.1.2.2.2.length dg_6, .int .i64 ((noteV x0 x1)).2.2.1.1, .int .i64 ((noteV x0 x1)).2.2.1.2.1, .int .i64 ((noteV x0 x1)).2.2.1.2.2.1, .slice Dg_10 ((noteV x0 x1)).2.2.1.2.2.2.length dg_10, .slice Dg_11 ((noteV x0 x1)).2.2.2.1.length dg_11, .slice Dg_12 ((noteV x0 x1)).2.2.2.2.length dg_12] 40)).cell? ⟨w7.heap.size, 5, none⟩ = some (.int .i64 ((noteV x0 x1)).2.1.2.2.1) := kg_7b.cell 5
  have gg_7_6 : (w7.alloc (.cells #[.int .i64 ((noteV x0 x1)).1.1, .slice Dg_1 ((noteV x0 x1)).1.2.1.length dg_1, .slice Dg_2 ((noteV x0 x1)).1.2.2.length dg_2, .int .i64 ((noteV x0 x1)).2.1.1, .int .i64 ((noteV x0 x1)).2.1.2.1, .int .i64 ((noteV x0 x1)).2.1.2.2.1, .slice Dg_6 ((noteV x0 x1)).2.1.2.2.2.length dg_6, .int .i64 ((noteV x0 x1)).2.2.1.1, .int .i64 ((noteV x0 x1)).2.2.1.2.1, .int .i64 ((noteV x0 x1)).2.2.1.2.2.1, .slice Dg_10 ((noteV x0 x1)).2.2.1.2.2.2.length dg_10, .slice Dg_11 ((noteV x0 x1)).2.2.2.1.length dg_11, .slice Dg_12 ((noteV x0 x1)).2.2.2.2.length dg_12] 40)).cell? ⟨w7.heap.size, 6, none⟩ = some (.slice Dg_6 ((noteV x0 x1)).2.1.2.2.2.length dg_6) := kg_7b.cell 6
  have gg_7_7 : (w7.alloc (.cells #[.int .i64 ((noteV x0 x1)).1.1, .slice Dg_1 ((noteV x0 x1)).1.2.1.length dg_1, .slice Dg_2 ((noteV x0 x1)).1.2.2.length dg_2, .int .i64 ((noteV x0 x1)).2.1.1, .int .i64 ((noteV x0 x1)).2.1.2.1, .int .i64 ((noteV x0 x1)).2.1.2.2.1, .slice Dg_6 ((noteV x0 x1)).2.1.2.2.2.length dg_6, .int .i64 ((noteV x0 x1)).2.2.1.1, .int .i64 ((noteV x0 x1)).2.2.1.2.1, .int .i64 ((noteV x0 x1)).2.2.1.2.2.1, .slice Dg_10 ((noteV x0 x1)).2.2.1.2.2.2.length dg_10, .slice Dg_11 ((noteV x0 x1)).2.2.2.1.length dg_11, .slice Dg_12 ((noteV x0 x1)).2.2.2.2.length dg_12] 40)).cell? ⟨w7.heap.size, 7, none⟩ = some (.int .i64 ((noteV x0 x1)).2.2.1.1) := kg_7b.cell 7
  have gg_7_8 : (w7.alloc (.cells #[.int .i64 ((noteV x0 x1)).1.1, .slice Dg_1 ((noteV x0 x1)).1.2.1.length dg_1, .slice Dg_2 ((noteV x0 x1)).1.2.2.length dg_2, .int .i64 ((noteV x0 x1)).2.1.1, .int .i64 ((noteV x0 x1)).2.1.2.1, .int .i64 ((noteV x0 x1)).2.1.2.2.1, .slice Dg_6 ((noteV x0 x1)).2.1.2.2.2.length dg_6, .int .i64 ((noteV x0 x1)).2.2.1.1, .int .i64 ((noteV x0 x1)).2.2.1.2.1, .int .i64 ((noteV x0 x1)).2.2.1.2.2.1, .slice Dg_10 ((noteV x0 x1)).2.2.1.2.2.2.length dg_10, .slice Dg_11 ((noteV x0 x1)).2.2.2.1.length dg_11, .slice Dg_12 ((noteV x0 x1)).2.2.2.2.length dg_12] 40)).cell? ⟨w7.heap.size, 8, none⟩ = some (.int .i64 ((noteV x0 x1)).2.2.1.2.1) := kg_7b.cell 8
  have gg_7_9 : (w7.alloc (.cells #[.int .i64 ((noteV x0 x1)).1.1, .slice Dg_1 ((noteV x0 x1)).1.2.1.length dg_1, .slice Dg_2 ((noteV x0 x1)).1.2.2.length dg_2, .int .i64 ((noteV x0 x1)).2.1.1, .int .i64 ((noteV x0 x1)).2.1.2.1, .int .i64 ((noteV x0 x1)).2.1.2.2.1, .slice Dg_6 ((noteV x0 x1)).2.1.2.2.2.length dg_6, .int .i64 ((noteV x0 x1)).2.2.1.1, .int .i64 ((noteV x0 x1)).2.2.1.2.1, .int .i64 ((noteV x0 x1)).2.2.1.2.2.1, .slice Dg_10 ((noteV x0 x1)).2.2.1.2.2.2.length dg_10, .slice Dg_11 ((noteV x0 x1)).2.2.2.1.length dg_11, .slice Dg_12 ((noteV x0 x1)).2.2.2.2.length dg_12] 40)).cell? ⟨w7.heap.size, 9, none⟩ = some (.int .i64 ((noteV x0 x1)).2.2.1.2.2.1) := kg_7b.cell 9
  have gg_7_10 : (w7.alloc (.cells #[.int .i64 ((noteV x0 x1)).1.1, .slice Dg_1 ((noteV x0 x1)).1.2.1.length dg_1, .slice Dg_2 ((noteV x0 x1)).1.2.2.length dg_2, .int .i64 ((noteV x0 x1)).2.1.1, .int .i64 ((noteV x0 x1)).2.1.2.1, .int .i64 ((noteV x0 x1)).2.1.2.2.1, .slice Dg_6 ((noteV x0 x1)).2.1.2.2.2.length dg_6, .int .i64 ((noteV x0 x1)).2.2.1.1, .int .i64 ((noteV x0 x1)).2.2.1.2.1, .int .i64 ((noteV x0 x1)).2.2.1.2.2.1, .slice Dg_10 ((noteV x0 x1)).2.2.1.2.2.2.length dg_10, .slice Dg_11 ((noteV x0 x1)).2.2.2.1.length dg_11, .slice Dg_12 ((noteV x0 x1)).2.2.2.2.length dg_12] 40)).cell? ⟨w7.heap.size, 10, none⟩ = some (.slice Dg_10 ((noteV x0 x1)).2.2.1.2.2.2.length dg_10) := kg_7b.cell 10
  have gg_7_11 : (w7.alloc (.cells #[.int .i64 ((noteV x0 x1)).1.1, .slice Dg_1 ((noteV x0 x1)).1.2.1.length dg_1, .slice Dg_2 ((noteV x0 x1)).1.2.2.length dg_2, .int .i64 ((noteV x0 x1)).2.1.1, .int .i64 ((noteV x0 x1)).2.1.2.1, .int .i64 ((noteV x0 x1)).2.1.2.2.1, .slice Dg_6 ((noteV x0 x1)).2.1.2.2.2.length dg_6, .int .i64 ((noteV x0 x1)).2.2.1.1, .int .i64 ((noteV x0 x1)).2.2.1.2.1, .int .i64 ((noteV x0 x1)).2.2.1.2.2.1, .slice Dg_10 ((noteV x0 x1)).2.2.1.2.2.2.length dg_10, .slice Dg_11 ((noteV x0 x1)).2.2.2.1.length dg_11, .slice Dg_12 ((noteV x0 x1)).2.2.2.2.length dg_12] 40)).cell? ⟨w7.heap.size, 11, none⟩ = some (.slice Dg_11 ((noteV x0 x1)).2.2.2.1.length dg_11) := kg_7b.cell 11
  have gg_7_12 : (w7.alloc (.cells #[.int .i64 ((noteV x0 x1)).1.1, .slice Dg_1 ((noteV x0 x1)).1.2.1.length dg_1, .slice Dg_2 ((noteV x0 x1)).1.2.2.length dg_2, .int .i64 ((noteV x0 x1)).2.1.1, .int .i64 ((noteV x0 x1)).2.1.2.1, .int .i64 ((noteV x0 x1)).2.1.2.2.1, .slice Dg_6 ((noteV x0 x1)).2.1.2.2.2.length dg_6, .int .i64 ((noteV x0 x1)).2.2.1.1, .int .i64 ((noteV x0 x1)).2.2.1.2.1, .int .i64 ((noteV x0 x1)).2.2.1.2.2.1, .slice Dg_10 ((noteV x0 x1)).2.2.1.2.2.2.length dg_10, .slice Dg_11 ((noteV x0 x1)).2.2.2.1.length dg_11, .slice Dg_12 ((noteV x0 x1)).2.2.2.2.length dg_12] 40)).cell? ⟨w7.heap.size, 12, none⟩ = some (.slice Dg_12 ((noteV x0 x1)).2.2.2.2.length dg_12) := kg_7b.cell 12
  have zzg_7 := kg_7b.lt
  go_wp2_with fail
  refine (c_eqCache _ _ ((noteV x0 x1)) ((noteV x0 x1)) _ ⟨_, rfl, good_Cache.wide (good_Cache.own_rep og_7b) (Nat.zero_le _) (by omega)⟩ ⟨_, rfl, good_Cache.wide os_7b (Nat.le_refl _) (by omega)⟩).mono ?_
  rintro e w8 ⟨be0, rfl, hbe0, u8⟩
  have uu8 := ub7.trans u8
  have zs8 := u8.size
  have ka0_8 := ka0_7b.up u8
  have kr_8 := kr_7b.up u8
  have kx0_8 := kx0_7b.up u8
  have kg_8 := kg_7b.up u8
  have os_8 := good_Cache.keep os_7b (u8.keeps (by omega))
  clear os_7b
  have ox0_8 := good_Cache.own_keep ox0_7b (fun y hy => u8.block y (Nat.lt_of_lt_of_le (good_Cache.own_in ox0_7b y hy).2 (by omega)))
  clear ox0_7b
  have ox1_8 := (good_L good_I).own_keep ox1_7b (fun y hy => u8.block y (Nat.lt_of_lt_of_le ((good_L good_I).own_in ox1_7b y hy).2 (by omega)))
  clear ox1_7b
  have og_8 := good_Cache.own_keep og_7b (fun y hy => u8.block y (Nat.lt_of_lt_of_le (good_Cache.own_in og_7b y hy).2 (by omega)))
  clear og_7b
  obtain rfl : be0 = true := by simpa using hbe0
  clear hbe0 u8
  clear ga0_7_0 ga0_7_1 ga0_7_2 ga0_7_3 ga0_7_4 ga0_7_5 ga0_7_6 ga0_7_7 ga0_7_8 ga0_7_9 ga0_7_10 ga0_7_11 ga0_7_12 zza0_7 gr_7_0 gr_7_1 gr_7_2 gr_7_3 gr_7_4 gr_7_5 gr_7_6 gr_7_7 gr_7_8 gr_7_9 gr_7_10 gr_7_11 gr_7_12 zzr_7 gx0_7_0 gx0_7_1 gx0_7_2 gx0_7_3 gx0_7_4 gx0_7_5 gx0_7_6 gx0_7_7 gx0_7_8 gx0_7_9 gx0_7_10 gx0_7_11 gx0_7_12 zzx0_7 gg_7_0 gg_7_1 gg_7_2 gg_7_3 gg_7_4 gg_7_5 gg_7_6 gg_7_7 gg_7_8 gg_7_9 gg_7_10 gg_7_11 gg_7_12 zzg_7
  have ga0_8_0 : w8.cell? ⟨w.heap.size, 0, none⟩ = some (.int .i64 x0.1.1) := ka0_8.cell 0
  have ga0_8_1 : w8.cell? ⟨w.heap.size, 1, none⟩ = some (.slice A0_1 x0.1.2.1.length c0_1) := ka0_8.cell 1
  have ga0_8_2 : w8.cell? ⟨w.heap.size, 2, none⟩ = some (.slice A0_2 x0.1.2.2.length c0_2) := ka0_8.cell 2
  have ga0_8_3 : w8.cell? ⟨w.heap.size, 3, none⟩ = some (.int .i64 x0.2.1.1) := ka0_8.cell 3
  have ga0_8_4 : w8.cell? ⟨w.heap.size, 4, none⟩ = some (.int .i64 x0.2.1.2.1) := ka0_8.cell 4
  have ga0_8_5 : w8.cell? ⟨w.heap.size, 5, none⟩ = some (.int .i64 x0.2.1.2.2.1) := ka0_8.cell 5
  have ga0_8_6 : w8.cell? ⟨w.heap.size, 6, none⟩ = some (.slice A0_6 x0.2.1.2.2.2.length c0_6) := ka0_8.cell 6
  have ga0_8_7 : w8.cell? ⟨w.heap.size, 7, none⟩ = some (.int .i64 x0.2.2.1.1) := ka0_8.cell 7
  have ga0_8_8 : w8.cell? ⟨w.heap.size, 8, none⟩ = some (.int .i64 x0.2.2.1.2.1) := ka0_8.cell 8
  have ga0_8_9 : w8.cell? ⟨w.heap.size, 9, none⟩ = some (.int .i64 x0.2.2.1.2.2.1) := ka0_8.cell 9
  have ga0_8_10 : w8.cell? ⟨w.heap.size, 10, none⟩ = some (.slice A0_10 x0.2.2.1.2.2.2.length c0_10) := ka0_8.cell 10
  have ga0_8_11 : w8.cell? ⟨w.heap.size, 11, none⟩ = some (.slice A0_11 x0.2.2.2.1.length c0_11) := ka0_8.cell 11
  have ga0_8_12 : w8.cell? ⟨w.heap.size, 12, none⟩ = some (.slice A0_12 x0.2.2.2.2.length c0_12) := ka0_8.cell 12
  have zza0_8 := ka0_8.lt
  have gr_8_0 : w8.cell? ⟨w4.heap.size, 0, none⟩ = some (.int .i64 ((noteV x0 x1)).1.1) := kr_8.cell 0
  have gr_8_1 : w8.cell? ⟨w4.heap.size, 1, none⟩ = some (.slice Ds_1 ((noteV x0 x1)).1.2.1.length ds_1) := kr_8.cell 1
  have gr_8_2 : w8.cell? ⟨w4.heap.size, 2, none⟩ = some (.slice Ds_2 ((noteV x0 x1)).1.2.2.length ds_2) := kr_8.cell 2
  have gr_8_3 : w8.cell? ⟨w4.heap.size, 3, none⟩ = some (.int .i64 ((noteV x0 x1)).2.1.1) := kr_8.cell 3
  have gr_8_4 : w8.cell? ⟨w4.heap.size, 4, none⟩ = some (.int .i64 ((noteV x0 x1)).2.1.2.1) := kr_8.cell 4
  have gr_8_5 : w8.cell? ⟨w4.heap.size, 5, none⟩ = some (.int .i64 ((noteV x0 x1)).2.1.2.2.1) := kr_8.cell 5
  have gr_8_6 : w8.cell? ⟨w4.heap.size, 6, none⟩ = some (.slice Ds_6 ((noteV x0 x1)).2.1.2.2.2.length ds_6) := kr_8.cell 6
  have gr_8_7 : w8.cell? ⟨w4.heap.size, 7, none⟩ = some (.int .i64 ((noteV x0 x1)).2.2.1.1) := kr_8.cell 7
  have gr_8_8 : w8.cell? ⟨w4.heap.size, 8, none⟩ = some (.int .i64 ((noteV x0 x1)).2.2.1.2.1) := kr_8.cell 8
  have gr_8_9 : w8.cell? ⟨w4.heap.size, 9, none⟩ = some (.int .i64 ((noteV x0 x1)).2.2.1.2.2.1) := kr_8.cell 9
  have gr_8_10 : w8.cell? ⟨w4.heap.size, 10, none⟩ = some (.slice Ds_10 ((noteV x0 x1)).2.2.1.2.2.2.length ds_10) := kr_8.cell 10
  have gr_8_11 : w8.cell? ⟨w4.heap.size, 11, none⟩ = some (.slice Ds_11 ((noteV x0 x1)).2.2.2.1.length ds_11) := kr_8.cell 11
  have gr_8_12 : w8.cell? ⟨w4.heap.size, 12, none⟩ = some (.slice Ds_12 ((noteV x0 x1)).2.2.2.2.length ds_12) := kr_8.cell 12
  have zzr_8 := kr_8.lt
  have gx0_8_0 : w8.cell? ⟨w5.heap.size, 0, none⟩ = some (.int .i64 x0.1.1) := kx0_8.cell 0
  have gx0_8_1 : w8.cell? ⟨w5.heap.size, 1, none⟩ = some (.slice Dx0_1 x0.1.2.1.length dx0_1) := kx0_8.cell 1
  have gx0_8_2 : w8.cell? ⟨w5.heap.size, 2, none⟩ = some (.slice Dx0_2 x0.1.2.2.length dx0_2) := kx0_8.cell 2
  have gx0_8_3 : w8.cell? ⟨w5.heap.size, 3, none⟩ = some (.int .i64 x0.2.1.1) := kx0_8.cell 3
  have gx0_8_4 : w8.cell? ⟨w5.heap.size, 4, none⟩ = some (.int .i64 x0.2.1.2.1) := kx0_8.cell 4
  have gx0_8_5 : w8.cell? ⟨w5.heap.size, 5, none⟩ = some (.int .i64 x0.2.1.2.2.1) := kx0_8.cell 5
  have gx0_8_6 : w8.cell? ⟨w5.heap.size, 6, none⟩ = some (.slice Dx0_6 x0.2.1.2.2.2.length dx0_6) := kx0_8.cell 6
  have gx0_8_7 : w8.cell? ⟨w5.heap.size, 7, none⟩ = some (.int .i64 x0.2.2.1.1) := kx0_8.cell 7
  have gx0_8_8 : w8.cell? ⟨w5.heap.size, 8, none⟩ = some (.int .i64 x0.2.2.1.2.1) := kx0_8.cell 8
  have gx0_8_9 : w8.cell? ⟨w5.heap.size, 9, none⟩ = some (.int .i64 x0.2.2.1.2.2.1) := kx0_8.cell 9
  have gx0_8_10 : w8.cell? ⟨w5.heap.size, 10, none⟩ = some (.slice Dx0_10 x0.2.2.1.2.2.2.length dx0_10) := kx0_8.cell 10
  have gx0_8_11 : w8.cell? ⟨w5.heap.size, 11, none⟩ = some (.slice Dx0_11 x0.2.2.2.1.length dx0_11) := kx0_8.cell 11
  have gx0_8_12 : w8.cell? ⟨w5.heap.size, 12, none⟩ = some (.slice Dx0_12 x0.2.2.2.2.length dx0_12) := kx0_8.cell 12
  have zzx0_8 := kx0_8.lt
  have gg_8_0 : w8.cell? ⟨w7.heap.size, 0, none⟩ = some (.int .i64 ((noteV x0 x1)).1.1) := kg_8.cell 0
  have gg_8_1 : w8.cell? ⟨w7.heap.size, 1, none⟩ = some (.slice Dg_1 ((noteV x0 x1)).1.2.1.length dg_1) := kg_8.cell 1
  have gg_8_2 : w8.cell? ⟨w7.heap.size, 2, none⟩ = some (.slice Dg_2 ((noteV x0 x1)).1.2.2.length dg_2) := kg_8.cell 2
  have gg_8_3 : w8.cell? ⟨w7.heap.size, 3, none⟩ = some (.int .i64 ((noteV x0 x1)).2.1.1) := kg_8.cell 3
  have gg_8_4 : w8.cell? ⟨w7.heap.size, 4, none⟩ = some (.int .i64 ((noteV x0 x1)).2.1.2.1) := kg_8.cell 4
  have gg_8_5 : w8.cell? ⟨w7.heap.size, 5, none⟩ = some (.int .i64 ((noteV x0 x1)).2.1.2.2.1) := kg_8.cell 5
  have gg_8_6 : w8.cell? ⟨w7.heap.size, 6, none⟩ = some (.slice Dg_6 ((noteV x0 x1)).2.1.2.2.2.length dg_6) := kg_8.cell 6
  have gg_8_7 : w8.cell? ⟨w7.heap.size, 7, none⟩ = some (.int .i64 ((noteV x0 x1)).2.2.1.1) := kg_8.cell 7
  have gg_8_8 : w8.cell? ⟨w7.heap.size, 8, none⟩ = some (.int .i64 ((noteV x0 x1)).2.2.1.2.1) := kg_8.cell 8
  have gg_8_9 : w8.cell? ⟨w7.heap.size, 9, none⟩ = some (.int .i64 ((noteV x0 x1)).2.2.1.2.2.1) := kg_8.cell 9
  have gg_8_10 : w8.cell? ⟨w7.heap.size, 10, none⟩ = some (.slice Dg_10 ((noteV x0 x1)).2.2.1.2.2.2.length dg_10) := kg_8.cell 10
  have gg_8_11 : w8.cell? ⟨w7.heap.size, 11, none⟩ = some (.slice Dg_11 ((noteV x0 x1)).2.2.2.1.length dg_11) := kg_8.cell 11
  have gg_8_12 : w8.cell? ⟨w7.heap.size, 12, none⟩ = some (.slice Dg_12 ((noteV x0 x1)).2.2.2.2.length dg_12) := kg_8.cell 12
  have zzg_8 := kg_8.lt
  go_wp2_with fail
  go_region_held3 (fun W => W.cell? ⟨w.heap.size, 0, none⟩ = some (.int .i64 x0.1.1) ∧ W.cell? ⟨w.heap.size, 1, none⟩ = some (.slice A0_1 x0.1.2.1.length c0_1) ∧ W.cell? ⟨w.heap.size, 2, none⟩ = some (.slice A0_2 x0.1.2.2.length c0_2) ∧ W.cell? ⟨w.heap.size, 3, none⟩ = some (.int .i64 x0.2.1.1) ∧ W.cell? ⟨w.heap.size, 4, none⟩ = some (.int .i64 x0.2.1.2.1) ∧ W.cell? ⟨w.heap.size, 5, none⟩ = some (.int .i64 x0.2.1.2.2.1) ∧ W.cell? ⟨w.heap.size, 6, none⟩ = some (.slice A0_6 x0.2.1.2.2.2.length c0_6) ∧ W.cell? ⟨w.heap.size, 7, none⟩ = some (.int .i64 x0.2.2.1.1) ∧ W.cell? ⟨w.heap.size, 8, none⟩ = some (.int .i64 x0.2.2.1.2.1) ∧ W.cell? ⟨w.heap.size, 9, none⟩ = some (.int .i64 x0.2.2.1.2.2.1) ∧ W.cell? ⟨w.heap.size, 10, none⟩ = some (.slice A0_10 x0.2.2.1.2.2.2.length c0_10) ∧ W.cell? ⟨w.heap.size, 11, none⟩ = some (.slice A0_11 x0.2.2.2.1.length c0_11) ∧ W.cell? ⟨w.heap.size, 12, none⟩ = some (.slice A0_12 x0.2.2.2.2.length c0_12) ∧ W.cell? ⟨w5.heap.size, 0, none⟩ = some (.int .i64 x0.1.1) ∧ W.cell? ⟨w5.heap.size, 1, none⟩ = some (.slice Dx0_1 x0.1.2.1.length dx0_1) ∧ W.cell? ⟨w5.heap.size, 2, none⟩ = some (.slice Dx0_2 x0.1.2.2.length dx0_2) ∧ W.cell? ⟨w5.heap.size, 3, none⟩ = some (.int .i64 x0.2.1.1) ∧ W.cell? ⟨w5.heap.size, 4, none⟩ = some (.int .i64 x0.2.1.2.1) ∧ W.cell? ⟨w5.heap.size, 5, none⟩ = some (.int .i64 x0.2.1.2.2.1) ∧ W.cell? ⟨w5.heap.size, 6, none⟩ = some (.slice Dx0_6 x0.2.1.2.2.2.length dx0_6) ∧ W.cell? ⟨w5.heap.size, 7, none⟩ = some (.int .i64 x0.2.2.1.1) ∧ W.cell? ⟨w5.heap.size, 8, none⟩ = some (.int .i64 x0.2.2.1.2.1) ∧ W.cell? ⟨w5.heap.size, 9, none⟩ = some (.int .i64 x0.2.2.1.2.2.1) ∧ W.cell? ⟨w5.heap.size, 10, none⟩ = some (.slice Dx0_10 x0.2.2.1.2.2.2.length dx0_10) ∧ W.cell? ⟨w5.heap.size, 11, none⟩ = some (.slice Dx0_11 x0.2.2.2.1.length dx0_11) ∧ W.cell? ⟨w5.heap.size, 12, none⟩ = some (.slice Dx0_12 x0.2.2.2.2.length dx0_12)) (first | exact ⟨ka0_8.cell 0, ka0_8.cell 1, ka0_8.cell 2, ka0_8.cell 3, ka0_8.cell 4, ka0_8.cell 5, ka0_8.cell 6, ka0_8.cell 7, ka0_8.cell 8, ka0_8.cell 9, ka0_8.cell 10, ka0_8.cell 11, ka0_8.cell 12, kx0_8.cell 0, kx0_8.cell 1, kx0_8.cell 2, kx0_8.cell 3, kx0_8.cell 4, kx0_8.cell 5, kx0_8.cell 6, kx0_8.cell 7, kx0_8.cell 8, kx0_8.cell 9, kx0_8.cell 10, kx0_8.cell 11, kx0_8.cell 12⟩ | exact ⟨ka0_9.cell 0, ka0_9.cell 1, ka0_9.cell 2, ka0_9.cell 3, ka0_9.cell 4, ka0_9.cell 5, ka0_9.cell 6, ka0_9.cell 7, ka0_9.cell 8, ka0_9.cell 9, ka0_9.cell 10, ka0_9.cell 11, ka0_9.cell 12, kx0_9.cell 0, kx0_9.cell 1, kx0_9.cell 2, kx0_9.cell 3, kx0_9.cell 4, kx0_9.cell 5, kx0_9.cell 6, kx0_9.cell 7, kx0_9.cell 8, kx0_9.cell 9, kx0_9.cell 10, kx0_9.cell 11, kx0_9.cell 12⟩ | exact ⟨ka0_10z.cell 0, ka0_10z.cell 1, ka0_10z.cell 2, ka0_10z.cell 3, ka0_10z.cell 4, ka0_10z.cell 5, ka0_10z.cell 6, ka0_10z.cell 7, ka0_10z.cell 8, ka0_10z.cell 9, ka0_10z.cell 10, ka0_10z.cell 11, ka0_10z.cell 12, kx0_10z.cell 0, kx0_10z.cell 1, kx0_10z.cell 2, kx0_10z.cell 3, kx0_10z.cell 4, kx0_10z.cell 5, kx0_10z.cell 6, kx0_10z.cell 7, kx0_10z.cell 8, kx0_10z.cell 9, kx0_10z.cell 10, kx0_10z.cell 11, kx0_10z.cell 12⟩) (first | (go_at_call 6; (with_reducible refine (c_toCache _ x0 _ (hv0.up good_Cache uu8.drew) hn0).mono ?_); rintro e w9 ⟨cse0, ble0, rfl, oe0, nde0, u9⟩; have u9d := Up.trans (Up.drew (Up.refl w8)) u9; have ye0 : AV shCache w9 (.agg #[.int .i64 x0.1.1, .slice Dx0_1 x0.1.2.1.length dx0_1, .slice Dx0_2 x0.1.2.2.length dx0_2, .int .i64 x0.2.1.1, .int .i64 x0.2.1.2.1, .int .i64 x0.2.1.2.2.1, .slice Dx0_6 x0.2.1.2.2.2.length dx0_6, .int .i64 x0.2.2.1.1, .int .i64 x0.2.2.1.2.1, .int .i64 x0.2.2.1.2.2.1, .slice Dx0_10 x0.2.2.1.2.2.2.length dx0_10, .slice Dx0_11 x0.2.2.2.1.length dx0_11, .slice Dx0_12 x0.2.2.2.2.length dx0_12]) x0 := ⟨_, rfl, good_Cache.wide (good_Cache.keep (good_Cache.own_rep ox0_8) (u9d.keeps (by omega))) (Nat.zero_le _) (by have := u9d.size; omega)⟩; have yce0 := AV.of_own good_Cache oe0; have ka0_9 := ka0_8.up u9d; have kx0_9 := kx0_8.up u9d) | (go_at_call 9; (with_reducible refine (c_eqCache _ _ x0 x0 _ ye0 yce0).mono ?_); rintro e w10 ⟨be0, rfl, hbe0, u10⟩; have u10d := u9d.trans u10; have ka0_10z := ka0_8.up u10d; have kx0_10z := kx0_8.up u10d))
  have uu10 := uu8.trans u10d
  have zs10 := u10d.size
  have ka0_10 := ka0_8.up u10d
  have kr_10 := kr_8.up u10d
  have kx0_10 := kx0_8.up u10d
  have kg_10 := kg_8.up u10d
  have os_10 := good_Cache.keep os_8 (u10d.keeps (by omega))
  clear os_8
  have ox0_10 := good_Cache.own_keep ox0_8 (fun y hy => u10d.block y (Nat.lt_of_lt_of_le (good_Cache.own_in ox0_8 y hy).2 (by omega)))
  clear ox0_8
  have ox1_10 := (good_L good_I).own_keep ox1_8 (fun y hy => u10d.block y (Nat.lt_of_lt_of_le ((good_L good_I).own_in ox1_8 y hy).2 (by omega)))
  clear ox1_8
  have og_10 := good_Cache.own_keep og_8 (fun y hy => u10d.block y (Nat.lt_of_lt_of_le (good_Cache.own_in og_8 y hy).2 (by omega)))
  clear og_8
  obtain rfl : be0 = true := by simpa using hbe0
  clear hbe0 u9 u9d u10 u10d ye0 yce0 oe0
  clear ka0_9 ka0_10z kx0_9 kx0_10z
  clear ga0_8_0 ga0_8_1 ga0_8_2 ga0_8_3 ga0_8_4 ga0_8_5 ga0_8_6 ga0_8_7 ga0_8_8 ga0_8_9 ga0_8_10 ga0_8_11 ga0_8_12 zza0_8 gr_8_0 gr_8_1 gr_8_2 gr_8_3 gr_8_4 gr_8_5 gr_8_6 gr_8_7 gr_8_8 gr_8_9 gr_8_10 gr_8_11 gr_8_12 zzr_8 gx0_8_0 gx0_8_1 gx0_8_2 gx0_8_3 gx0_8_4 gx0_8_5 gx0_8_6 gx0_8_7 gx0_8_8 gx0_8_9 gx0_8_10 gx0_8_11 gx0_8_12 zzx0_8 gg_8_0 gg_8_1 gg_8_2 gg_8_3 gg_8_4 gg_8_5 gg_8_6 gg_8_7 gg_8_8 gg_8_9 gg_8_10 gg_8_11 gg_8_12 zzg_8
  have ga0_10_0 : w10.cell? ⟨w.heap.size, 0, none⟩ = some (.int .i64 x0.1.1) := ka0_10.cell 0
  have ga0_10_1 : w10.cell? ⟨w.heap.size, 1, none⟩ = some (.slice A0_1 x0.1.2.1.length c0_1) := ka0_10.cell 1
  have ga0_10_2 : w10.cell? ⟨w.heap.size, 2, none⟩ = some (.slice A0_2 x0.1.2.2.length c0_2) := ka0_10.cell 2
  have ga0_10_3 : w10.cell? ⟨w.heap.size, 3, none⟩ = some (.int .i64 x0.2.1.1) := ka0_10.cell 3
  have ga0_10_4 : w10.cell? ⟨w.heap.size, 4, none⟩ = some (.int .i64 x0.2.1.2.1) := ka0_10.cell 4
  have ga0_10_5 : w10.cell? ⟨w.heap.size, 5, none⟩ = some (.int .i64 x0.2.1.2.2.1) := ka0_10.cell 5
  have ga0_10_6 : w10.cell? ⟨w.heap.size, 6, none⟩ = some (.slice A0_6 x0.2.1.2.2.2.length c0_6) := ka0_10.cell 6
  have ga0_10_7 : w10.cell? ⟨w.heap.size, 7, none⟩ = some (.int .i64 x0.2.2.1.1) := ka0_10.cell 7
  have ga0_10_8 : w10.cell? ⟨w.heap.size, 8, none⟩ = some (.int .i64 x0.2.2.1.2.1) := ka0_10.cell 8
  have ga0_10_9 : w10.cell? ⟨w.heap.size, 9, none⟩ = some (.int .i64 x0.2.2.1.2.2.1) := ka0_10.cell 9
  have ga0_10_10 : w10.cell? ⟨w.heap.size, 10, none⟩ = some (.slice A0_10 x0.2.2.1.2.2.2.length c0_10) := ka0_10.cell 10
  have ga0_10_11 : w10.cell? ⟨w.heap.size, 11, none⟩ = some (.slice A0_11 x0.2.2.2.1.length c0_11) := ka0_10.cell 11
  have ga0_10_12 : w10.cell? ⟨w.heap.size, 12, none⟩ = some (.slice A0_12 x0.2.2.2.2.length c0_12) := ka0_10.cell 12
  have zza0_10 := ka0_10.lt
  have gr_10_0 : w10.cell? ⟨w4.heap.size, 0, none⟩ = some (.int .i64 ((noteV x0 x1)).1.1) := kr_10.cell 0
  have gr_10_1 : w10.cell? ⟨w4.heap.size, 1, none⟩ = some (.slice Ds_1 ((noteV x0 x1)).1.2.1.length ds_1) := kr_10.cell 1
  have gr_10_2 : w10.cell? ⟨w4.heap.size, 2, none⟩ = some (.slice Ds_2 ((noteV x0 x1)).1.2.2.length ds_2) := kr_10.cell 2
  have gr_10_3 : w10.cell? ⟨w4.heap.size, 3, none⟩ = some (.int .i64 ((noteV x0 x1)).2.1.1) := kr_10.cell 3
  have gr_10_4 : w10.cell? ⟨w4.heap.size, 4, none⟩ = some (.int .i64 ((noteV x0 x1)).2.1.2.1) := kr_10.cell 4
  have gr_10_5 : w10.cell? ⟨w4.heap.size, 5, none⟩ = some (.int .i64 ((noteV x0 x1)).2.1.2.2.1) := kr_10.cell 5
  have gr_10_6 : w10.cell? ⟨w4.heap.size, 6, none⟩ = some (.slice Ds_6 ((noteV x0 x1)).2.1.2.2.2.length ds_6) := kr_10.cell 6
  have gr_10_7 : w10.cell? ⟨w4.heap.size, 7, none⟩ = some (.int .i64 ((noteV x0 x1)).2.2.1.1) := kr_10.cell 7
  have gr_10_8 : w10.cell? ⟨w4.heap.size, 8, none⟩ = some (.int .i64 ((noteV x0 x1)).2.2.1.2.1) := kr_10.cell 8
  have gr_10_9 : w10.cell? ⟨w4.heap.size, 9, none⟩ = some (.int .i64 ((noteV x0 x1)).2.2.1.2.2.1) := kr_10.cell 9
  have gr_10_10 : w10.cell? ⟨w4.heap.size, 10, none⟩ = some (.slice Ds_10 ((noteV x0 x1)).2.2.1.2.2.2.length ds_10) := kr_10.cell 10
  have gr_10_11 : w10.cell? ⟨w4.heap.size, 11, none⟩ = some (.slice Ds_11 ((noteV x0 x1)).2.2.2.1.length ds_11) := kr_10.cell 11
  have gr_10_12 : w10.cell? ⟨w4.heap.size, 12, none⟩ = some (.slice Ds_12 ((noteV x0 x1)).2.2.2.2.length ds_12) := kr_10.cell 12
  have zzr_10 := kr_10.lt
  have gx0_10_0 : w10.cell? ⟨w5.heap.size, 0, none⟩ = some (.int .i64 x0.1.1) := kx0_10.cell 0
  have gx0_10_1 : w10.cell? ⟨w5.heap.size, 1, none⟩ = some (.slice Dx0_1 x0.1.2.1.length dx0_1) := kx0_10.cell 1
  have gx0_10_2 : w10.cell? ⟨w5.heap.size, 2, none⟩ = some (.slice Dx0_2 x0.1.2.2.length dx0_2) := kx0_10.cell 2
  have gx0_10_3 : w10.cell? ⟨w5.heap.size, 3, none⟩ = some (.int .i64 x0.2.1.1) := kx0_10.cell 3
  have gx0_10_4 : w10.cell? ⟨w5.heap.size, 4, none⟩ = some (.int .i64 x0.2.1.2.1) := kx0_10.cell 4
  have gx0_10_5 : w10.cell? ⟨w5.heap.size, 5, none⟩ = some (.int .i64 x0.2.1.2.2.1) := kx0_10.cell 5
  have gx0_10_6 : w10.cell? ⟨w5.heap.size, 6, none⟩ = some (.slice Dx0_6 x0.2.1.2.2.2.length dx0_6) := kx0_10.cell 6
  have gx0_10_7 : w10.cell? ⟨w5.heap.size, 7, none⟩ = some (.int .i64 x0.2.2.1.1) := kx0_10.cell 7
  have gx0_10_8 : w10.cell? ⟨w5.heap.size, 8, none⟩ = some (.int .i64 x0.2.2.1.2.1) := kx0_10.cell 8
  have gx0_10_9 : w10.cell? ⟨w5.heap.size, 9, none⟩ = some (.int .i64 x0.2.2.1.2.2.1) := kx0_10.cell 9
  have gx0_10_10 : w10.cell? ⟨w5.heap.size, 10, none⟩ = some (.slice Dx0_10 x0.2.2.1.2.2.2.length dx0_10) := kx0_10.cell 10
  have gx0_10_11 : w10.cell? ⟨w5.heap.size, 11, none⟩ = some (.slice Dx0_11 x0.2.2.2.1.length dx0_11) := kx0_10.cell 11
  have gx0_10_12 : w10.cell? ⟨w5.heap.size, 12, none⟩ = some (.slice Dx0_12 x0.2.2.2.2.length dx0_12) := kx0_10.cell 12
  have zzx0_10 := kx0_10.lt
  have gg_10_0 : w10.cell? ⟨w7.heap.size, 0, none⟩ = some (.int .i64 ((noteV x0 x1)).1.1) := kg_10.cell 0
  have gg_10_1 : w10.cell? ⟨w7.heap.size, 1, none⟩ = some (.slice Dg_1 ((noteV x0 x1)).1.2.1.length dg_1) := kg_10.cell 1
  have gg_10_2 : w10.cell? ⟨w7.heap.size, 2, none⟩ = some (.slice Dg_2 ((noteV x0 x1)).1.2.2.length dg_2) := kg_10.cell 2
  have gg_10_3 : w10.cell? ⟨w7.heap.size, 3, none⟩ = some (.int .i64 ((noteV x0 x1)).2.1.1) := kg_10.cell 3
  have gg_10_4 : w10.cell? ⟨w7.heap.size, 4, none⟩ = some (.int .i64 ((noteV x0 x1)).2.1.2.1) := kg_10.cell 4
  have gg_10_5 : w10.cell? ⟨w7.heap.size, 5, none⟩ = some (.int .i64 ((noteV x0 x1)).2.1.2.2.1) := kg_10.cell 5
  have gg_10_6 : w10.cell? ⟨w7.heap.size, 6, none⟩ = some (.slice Dg_6 ((noteV x0 x1)).2.1.2.2.2.length dg_6) := kg_10.cell 6
  have gg_10_7 : w10.cell? ⟨w7.heap.size, 7, none⟩ = some (.int .i64 ((noteV x0 x1)).2.2.1.1) := kg_10.cell 7
  have gg_10_8 : w10.cell? ⟨w7.heap.size, 8, none⟩ = some (.int .i64 ((noteV x0 x1)).2.2.1.2.1) := kg_10.cell 8
  have gg_10_9 : w10.cell? ⟨w7.heap.size, 9, none⟩ = some (.int .i64 ((noteV x0 x1)).2.2.1.2.2.1) := kg_10.cell 9
  have gg_10_10 : w10.cell? ⟨w7.heap.size, 10, none⟩ = some (.slice Dg_10 ((noteV x0 x1)).2.2.1.2.2.2.length dg_10) := kg_10.cell 10
  have gg_10_11 : w10.cell? ⟨w7.heap.size, 11, none⟩ = some (.slice Dg_11 ((noteV x0 x1)).2.2.2.1.length dg_11) := kg_10.cell 11
  have gg_10_12 : w10.cell? ⟨w7.heap.size, 12, none⟩ = some (.slice Dg_12 ((noteV x0 x1)).2.2.2.2.length dg_12) := kg_10.cell 12
  have zzg_10 := kg_10.lt
  go_wp2_with fail
  refine (c_toInt64S _ _ _ _ (h1.up good_I uu10) hn1).mono ?_
  rintro e w11 ⟨Dy1, dy1, bly1, rfl, ooy1, ndy1, u11⟩
  have oy1 : (shL shI).own w11 (w10.heap.size) w11.heap.size [.slice Dy1 x1.length dy1] x1 bly1 := ⟨_, _, rfl, ooy1⟩
  have uu11 := uu10.trans u11
  have zs11 := u11.size
  have ka0_11 := ka0_10.up u11
  have kr_11 := kr_10.up u11
  have kx0_11 := kx0_10.up u11
  have kg_11 := kg_10.up u11
  have os_11 := good_Cache.keep os_10 (u11.keeps (by omega))
  clear os_10
  have ox0_11 := good_Cache.own_keep ox0_10 (fun y hy => u11.block y (Nat.lt_of_lt_of_le (good_Cache.own_in ox0_10 y hy).2 (by omega)))
  clear ox0_10
  have ox1_11 := (good_L good_I).own_keep ox1_10 (fun y hy => u11.block y (Nat.lt_of_lt_of_le ((good_L good_I).own_in ox1_10 y hy).2 (by omega)))
  clear ox1_10
  have og_11 := good_Cache.own_keep og_10 (fun y hy => u11.block y (Nat.lt_of_lt_of_le (good_Cache.own_in og_10 y hy).2 (by omega)))
  clear og_10
  clear ga0_10_0 ga0_10_1 ga0_10_2 ga0_10_3 ga0_10_4 ga0_10_5 ga0_10_6 ga0_10_7 ga0_10_8 ga0_10_9 ga0_10_10 ga0_10_11 ga0_10_12 zza0_10 gr_10_0 gr_10_1 gr_10_2 gr_10_3 gr_10_4 gr_10_5 gr_10_6 gr_10_7 gr_10_8 gr_10_9 gr_10_10 gr_10_11 gr_10_12 zzr_10 gx0_10_0 gx0_10_1 gx0_10_2 gx0_10_3 gx0_10_4 gx0_10_5 gx0_10_6 gx0_10_7 gx0_10_8 gx0_10_9 gx0_10_10 gx0_10_11 gx0_10_12 zzx0_10 gg_10_0 gg_10_1 gg_10_2 gg_10_3 gg_10_4 gg_10_5 gg_10_6 gg_10_7 gg_10_8 gg_10_9 gg_10_10 gg_10_11 gg_10_12 zzg_10
  have ga0_11_0 : w11.cell? ⟨w.heap.size, 0, none⟩ = some (.int .i64 x0.1.1) := ka0_11.cell 0
  have ga0_11_1 : w11.cell? ⟨w.heap.size, 1, none⟩ = some (.slice A0_1 x0.1.2.1.length c0_1) := ka0_11.cell 1
  have ga0_11_2 : w11.cell? ⟨w.heap.size, 2, none⟩ = some (.slice A0_2 x0.1.2.2.length c0_2) := ka0_11.cell 2
  have ga0_11_3 : w11.cell? ⟨w.heap.size, 3, none⟩ = some (.int .i64 x0.2.1.1) := ka0_11.cell 3
  have ga0_11_4 : w11.cell? ⟨w.heap.size, 4, none⟩ = some (.int .i64 x0.2.1.2.1) := ka0_11.cell 4
  have ga0_11_5 : w11.cell? ⟨w.heap.size, 5, none⟩ = some (.int .i64 x0.2.1.2.2.1) := ka0_11.cell 5
  have ga0_11_6 : w11.cell? ⟨w.heap.size, 6, none⟩ = some (.slice A0_6 x0.2.1.2.2.2.length c0_6) := ka0_11.cell 6
  have ga0_11_7 : w11.cell? ⟨w.heap.size, 7, none⟩ = some (.int .i64 x0.2.2.1.1) := ka0_11.cell 7
  have ga0_11_8 : w11.cell? ⟨w.heap.size, 8, none⟩ = some (.int .i64 x0.2.2.1.2.1) := ka0_11.cell 8
  have ga0_11_9 : w11.cell? ⟨w.heap.size, 9, none⟩ = some (.int .i64 x0.2.2.1.2.2.1) := ka0_11.cell 9
  have ga0_11_10 : w11.cell? ⟨w.heap.size, 10, none⟩ = some (.slice A0_10 x0.2.2.1.2.2.2.length c0_10) := ka0_11.cell 10
  have ga0_11_11 : w11.cell? ⟨w.heap.size, 11, none⟩ = some (.slice A0_11 x0.2.2.2.1.length c0_11) := ka0_11.cell 11
  have ga0_11_12 : w11.cell? ⟨w.heap.size, 12, none⟩ = some (.slice A0_12 x0.2.2.2.2.length c0_12) := ka0_11.cell 12
  have zza0_11 := ka0_11.lt
  have gr_11_0 : w11.cell? ⟨w4.heap.size, 0, none⟩ = some (.int .i64 ((noteV x0 x1)).1.1) := kr_11.cell 0
  have gr_11_1 : w11.cell? ⟨w4.heap.size, 1, none⟩ = some (.slice Ds_1 ((noteV x0 x1)).1.2.1.length ds_1) := kr_11.cell 1
  have gr_11_2 : w11.cell? ⟨w4.heap.size, 2, none⟩ = some (.slice Ds_2 ((noteV x0 x1)).1.2.2.length ds_2) := kr_11.cell 2
  have gr_11_3 : w11.cell? ⟨w4.heap.size, 3, none⟩ = some (.int .i64 ((noteV x0 x1)).2.1.1) := kr_11.cell 3
  have gr_11_4 : w11.cell? ⟨w4.heap.size, 4, none⟩ = some (.int .i64 ((noteV x0 x1)).2.1.2.1) := kr_11.cell 4
  have gr_11_5 : w11.cell? ⟨w4.heap.size, 5, none⟩ = some (.int .i64 ((noteV x0 x1)).2.1.2.2.1) := kr_11.cell 5
  have gr_11_6 : w11.cell? ⟨w4.heap.size, 6, none⟩ = some (.slice Ds_6 ((noteV x0 x1)).2.1.2.2.2.length ds_6) := kr_11.cell 6
  have gr_11_7 : w11.cell? ⟨w4.heap.size, 7, none⟩ = some (.int .i64 ((noteV x0 x1)).2.2.1.1) := kr_11.cell 7
  have gr_11_8 : w11.cell? ⟨w4.heap.size, 8, none⟩ = some (.int .i64 ((noteV x0 x1)).2.2.1.2.1) := kr_11.cell 8
  have gr_11_9 : w11.cell? ⟨w4.heap.size, 9, none⟩ = some (.int .i64 ((noteV x0 x1)).2.2.1.2.2.1) := kr_11.cell 9
  have gr_11_10 : w11.cell? ⟨w4.heap.size, 10, none⟩ = some (.slice Ds_10 ((noteV x0 x1)).2.2.1.2.2.2.length ds_10) := kr_11.cell 10
  have gr_11_11 : w11.cell? ⟨w4.heap.size, 11, none⟩ = some (.slice Ds_11 ((noteV x0 x1)).2.2.2.1.length ds_11) := kr_11.cell 11
  have gr_11_12 : w11.cell? ⟨w4.heap.size, 12, none⟩ = some (.slice Ds_12 ((noteV x0 x1)).2.2.2.2.length ds_12) := kr_11.cell 12
  have zzr_11 := kr_11.lt
  have gx0_11_0 : w11.cell? ⟨w5.heap.size, 0, none⟩ = some (.int .i64 x0.1.1) := kx0_11.cell 0
  have gx0_11_1 : w11.cell? ⟨w5.heap.size, 1, none⟩ = some (.slice Dx0_1 x0.1.2.1.length dx0_1) := kx0_11.cell 1
  have gx0_11_2 : w11.cell? ⟨w5.heap.size, 2, none⟩ = some (.slice Dx0_2 x0.1.2.2.length dx0_2) := kx0_11.cell 2
  have gx0_11_3 : w11.cell? ⟨w5.heap.size, 3, none⟩ = some (.int .i64 x0.2.1.1) := kx0_11.cell 3
  have gx0_11_4 : w11.cell? ⟨w5.heap.size, 4, none⟩ = some (.int .i64 x0.2.1.2.1) := kx0_11.cell 4
  have gx0_11_5 : w11.cell? ⟨w5.heap.size, 5, none⟩ = some (.int .i64 x0.2.1.2.2.1) := kx0_11.cell 5
  have gx0_11_6 : w11.cell? ⟨w5.heap.size, 6, none⟩ = some (.slice Dx0_6 x0.2.1.2.2.2.length dx0_6) := kx0_11.cell 6
  have gx0_11_7 : w11.cell? ⟨w5.heap.size, 7, none⟩ = some (.int .i64 x0.2.2.1.1) := kx0_11.cell 7
  have gx0_11_8 : w11.cell? ⟨w5.heap.size, 8, none⟩ = some (.int .i64 x0.2.2.1.2.1) := kx0_11.cell 8
  have gx0_11_9 : w11.cell? ⟨w5.heap.size, 9, none⟩ = some (.int .i64 x0.2.2.1.2.2.1) := kx0_11.cell 9
  have gx0_11_10 : w11.cell? ⟨w5.heap.size, 10, none⟩ = some (.slice Dx0_10 x0.2.2.1.2.2.2.length dx0_10) := kx0_11.cell 10
  have gx0_11_11 : w11.cell? ⟨w5.heap.size, 11, none⟩ = some (.slice Dx0_11 x0.2.2.2.1.length dx0_11) := kx0_11.cell 11
  have gx0_11_12 : w11.cell? ⟨w5.heap.size, 12, none⟩ = some (.slice Dx0_12 x0.2.2.2.2.length dx0_12) := kx0_11.cell 12
  have zzx0_11 := kx0_11.lt
  have gg_11_0 : w11.cell? ⟨w7.heap.size, 0, none⟩ = some (.int .i64 ((noteV x0 x1)).1.1) := kg_11.cell 0
  have gg_11_1 : w11.cell? ⟨w7.heap.size, 1, none⟩ = some (.slice Dg_1 ((noteV x0 x1)).1.2.1.length dg_1) := kg_11.cell 1
  have gg_11_2 : w11.cell? ⟨w7.heap.size, 2, none⟩ = some (.slice Dg_2 ((noteV x0 x1)).1.2.2.length dg_2) := kg_11.cell 2
  have gg_11_3 : w11.cell? ⟨w7.heap.size, 3, none⟩ = some (.int .i64 ((noteV x0 x1)).2.1.1) := kg_11.cell 3
  have gg_11_4 : w11.cell? ⟨w7.heap.size, 4, none⟩ = some (.int .i64 ((noteV x0 x1)).2.1.2.1) := kg_11.cell 4
  have gg_11_5 : w11.cell? ⟨w7.heap.size, 5, none⟩ = some (.int .i64 ((noteV x0 x1)).2.1.2.2.1) := kg_11.cell 5
  have gg_11_6 : w11.cell? ⟨w7.heap.size, 6, none⟩ = some (.slice Dg_6 ((noteV x0 x1)).2.1.2.2.2.length dg_6) := kg_11.cell 6
  have gg_11_7 : w11.cell? ⟨w7.heap.size, 7, none⟩ = some (.int .i64 ((noteV x0 x1)).2.2.1.1) := kg_11.cell 7
  have gg_11_8 : w11.cell? ⟨w7.heap.size, 8, none⟩ = some (.int .i64 ((noteV x0 x1)).2.2.1.2.1) := kg_11.cell 8
  have gg_11_9 : w11.cell? ⟨w7.heap.size, 9, none⟩ = some (.int .i64 ((noteV x0 x1)).2.2.1.2.2.1) := kg_11.cell 9
  have gg_11_10 : w11.cell? ⟨w7.heap.size, 10, none⟩ = some (.slice Dg_10 ((noteV x0 x1)).2.2.1.2.2.2.length dg_10) := kg_11.cell 10
  have gg_11_11 : w11.cell? ⟨w7.heap.size, 11, none⟩ = some (.slice Dg_11 ((noteV x0 x1)).2.2.2.1.length dg_11) := kg_11.cell 11
  have gg_11_12 : w11.cell? ⟨w7.heap.size, 12, none⟩ = some (.slice Dg_12 ((noteV x0 x1)).2.2.2.2.length dg_12) := kg_11.cell 12
  have zzg_11 := kg_11.lt
  go_wp2_with fail
  refine (c_eqInt64S _ _ _ _ _ _ _ (SR.of_rep good_I ((good_L good_I).wide ((good_L good_I).own_rep ox1_11) (Nat.zero_le _) (by omega))) (SR.of_rep good_I ((good_L good_I).wide ((good_L good_I).own_rep oy1) (Nat.zero_le _) (by omega)))).mono ?_
  rintro e w12 ⟨bey1, rfl, hbey1, u12⟩
  have uu12 := uu11.trans u12
  have zs12 := u12.size
  have ka0_12 := ka0_11.up u12
  have kr_12 := kr_11.up u12
  have kx0_12 := kx0_11.up u12
  have kg_12 := kg_11.up u12
  have os_12 := good_Cache.keep os_11 (u12.keeps (by omega))
  clear os_11
  have ox0_12 := good_Cache.own_keep ox0_11 (fun y hy => u12.block y (Nat.lt_of_lt_of_le (good_Cache.own_in ox0_11 y hy).2 (by omega)))
  clear ox0_11
  have ox1_12 := (good_L good_I).own_keep ox1_11 (fun y hy => u12.block y (Nat.lt_of_lt_of_le ((good_L good_I).own_in ox1_11 y hy).2 (by omega)))
  clear ox1_11
  have og_12 := good_Cache.own_keep og_11 (fun y hy => u12.block y (Nat.lt_of_lt_of_le (good_Cache.own_in og_11 y hy).2 (by omega)))
  clear og_11
  have oy1_12 := (good_L good_I).own_keep oy1 (fun y hy => u12.block y (Nat.lt_of_lt_of_le ((good_L good_I).own_in oy1 y hy).2 (by omega)))
  obtain rfl : bey1 = true := by simpa using hbey1
  clear hbey1 u12
  clear ga0_11_0 ga0_11_1 ga0_11_2 ga0_11_3 ga0_11_4 ga0_11_5 ga0_11_6 ga0_11_7 ga0_11_8 ga0_11_9 ga0_11_10 ga0_11_11 ga0_11_12 zza0_11 gr_11_0 gr_11_1 gr_11_2 gr_11_3 gr_11_4 gr_11_5 gr_11_6 gr_11_7 gr_11_8 gr_11_9 gr_11_10 gr_11_11 gr_11_12 zzr_11 gx0_11_0 gx0_11_1 gx0_11_2 gx0_11_3 gx0_11_4 gx0_11_5 gx0_11_6 gx0_11_7 gx0_11_8 gx0_11_9 gx0_11_10 gx0_11_11 gx0_11_12 zzx0_11 gg_11_0 gg_11_1 gg_11_2 gg_11_3 gg_11_4 gg_11_5 gg_11_6 gg_11_7 gg_11_8 gg_11_9 gg_11_10 gg_11_11 gg_11_12 zzg_11
  have ga0_12_0 : w12.cell? ⟨w.heap.size, 0, none⟩ = some (.int .i64 x0.1.1) := ka0_12.cell 0
  have ga0_12_1 : w12.cell? ⟨w.heap.size, 1, none⟩ = some (.slice A0_1 x0.1.2.1.length c0_1) := ka0_12.cell 1
  have ga0_12_2 : w12.cell? ⟨w.heap.size, 2, none⟩ = some (.slice A0_2 x0.1.2.2.length c0_2) := ka0_12.cell 2
  have ga0_12_3 : w12.cell? ⟨w.heap.size, 3, none⟩ = some (.int .i64 x0.2.1.1) := ka0_12.cell 3
  have ga0_12_4 : w12.cell? ⟨w.heap.size, 4, none⟩ = some (.int .i64 x0.2.1.2.1) := ka0_12.cell 4
  have ga0_12_5 : w12.cell? ⟨w.heap.size, 5, none⟩ = some (.int .i64 x0.2.1.2.2.1) := ka0_12.cell 5
  have ga0_12_6 : w12.cell? ⟨w.heap.size, 6, none⟩ = some (.slice A0_6 x0.2.1.2.2.2.length c0_6) := ka0_12.cell 6
  have ga0_12_7 : w12.cell? ⟨w.heap.size, 7, none⟩ = some (.int .i64 x0.2.2.1.1) := ka0_12.cell 7
  have ga0_12_8 : w12.cell? ⟨w.heap.size, 8, none⟩ = some (.int .i64 x0.2.2.1.2.1) := ka0_12.cell 8
  have ga0_12_9 : w12.cell? ⟨w.heap.size, 9, none⟩ = some (.int .i64 x0.2.2.1.2.2.1) := ka0_12.cell 9
  have ga0_12_10 : w12.cell? ⟨w.heap.size, 10, none⟩ = some (.slice A0_10 x0.2.2.1.2.2.2.length c0_10) := ka0_12.cell 10
  have ga0_12_11 : w12.cell? ⟨w.heap.size, 11, none⟩ = some (.slice A0_11 x0.2.2.2.1.length c0_11) := ka0_12.cell 11
  have ga0_12_12 : w12.cell? ⟨w.heap.size, 12, none⟩ = some (.slice A0_12 x0.2.2.2.2.length c0_12) := ka0_12.cell 12
  have zza0_12 := ka0_12.lt
  have gr_12_0 : w12.cell? ⟨w4.heap.size, 0, none⟩ = some (.int .i64 ((noteV x0 x1)).1.1) := kr_12.cell 0
  have gr_12_1 : w12.cell? ⟨w4.heap.size, 1, none⟩ = some (.slice Ds_1 ((noteV x0 x1)).1.2.1.length ds_1) := kr_12.cell 1
  have gr_12_2 : w12.cell? ⟨w4.heap.size, 2, none⟩ = some (.slice Ds_2 ((noteV x0 x1)).1.2.2.length ds_2) := kr_12.cell 2
  have gr_12_3 : w12.cell? ⟨w4.heap.size, 3, none⟩ = some (.int .i64 ((noteV x0 x1)).2.1.1) := kr_12.cell 3
  have gr_12_4 : w12.cell? ⟨w4.heap.size, 4, none⟩ = some (.int .i64 ((noteV x0 x1)).2.1.2.1) := kr_12.cell 4
  have gr_12_5 : w12.cell? ⟨w4.heap.size, 5, none⟩ = some (.int .i64 ((noteV x0 x1)).2.1.2.2.1) := kr_12.cell 5
  have gr_12_6 : w12.cell? ⟨w4.heap.size, 6, none⟩ = some (.slice Ds_6 ((noteV x0 x1)).2.1.2.2.2.length ds_6) := kr_12.cell 6
  have gr_12_7 : w12.cell? ⟨w4.heap.size, 7, none⟩ = some (.int .i64 ((noteV x0 x1)).2.2.1.1) := kr_12.cell 7
  have gr_12_8 : w12.cell? ⟨w4.heap.size, 8, none⟩ = some (.int .i64 ((noteV x0 x1)).2.2.1.2.1) := kr_12.cell 8
  have gr_12_9 : w12.cell? ⟨w4.heap.size, 9, none⟩ = some (.int .i64 ((noteV x0 x1)).2.2.1.2.2.1) := kr_12.cell 9
  have gr_12_10 : w12.cell? ⟨w4.heap.size, 10, none⟩ = some (.slice Ds_10 ((noteV x0 x1)).2.2.1.2.2.2.length ds_10) := kr_12.cell 10
  have gr_12_11 : w12.cell? ⟨w4.heap.size, 11, none⟩ = some (.slice Ds_11 ((noteV x0 x1)).2.2.2.1.length ds_11) := kr_12.cell 11
  have gr_12_12 : w12.cell? ⟨w4.heap.size, 12, none⟩ = some (.slice Ds_12 ((noteV x0 x1)).2.2.2.2.length ds_12) := kr_12.cell 12
  have zzr_12 := kr_12.lt
  have gx0_12_0 : w12.cell? ⟨w5.heap.size, 0, none⟩ = some (.int .i64 x0.1.1) := kx0_12.cell 0
  have gx0_12_1 : w12.cell? ⟨w5.heap.size, 1, none⟩ = some (.slice Dx0_1 x0.1.2.1.length dx0_1) := kx0_12.cell 1
  have gx0_12_2 : w12.cell? ⟨w5.heap.size, 2, none⟩ = some (.slice Dx0_2 x0.1.2.2.length dx0_2) := kx0_12.cell 2
  have gx0_12_3 : w12.cell? ⟨w5.heap.size, 3, none⟩ = some (.int .i64 x0.2.1.1) := kx0_12.cell 3
  have gx0_12_4 : w12.cell? ⟨w5.heap.size, 4, none⟩ = some (.int .i64 x0.2.1.2.1) := kx0_12.cell 4
  have gx0_12_5 : w12.cell? ⟨w5.heap.size, 5, none⟩ = some (.int .i64 x0.2.1.2.2.1) := kx0_12.cell 5
  have gx0_12_6 : w12.cell? ⟨w5.heap.size, 6, none⟩ = some (.slice Dx0_6 x0.2.1.2.2.2.length dx0_6) := kx0_12.cell 6
  have gx0_12_7 : w12.cell? ⟨w5.heap.size, 7, none⟩ = some (.int .i64 x0.2.2.1.1) := kx0_12.cell 7
  have gx0_12_8 : w12.cell? ⟨w5.heap.size, 8, none⟩ = some (.int .i64 x0.2.2.1.2.1) := kx0_12.cell 8
  have gx0_12_9 : w12.cell? ⟨w5.heap.size, 9, none⟩ = some (.int .i64 x0.2.2.1.2.2.1) := kx0_12.cell 9
  have gx0_12_10 : w12.cell? ⟨w5.heap.size, 10, none⟩ = some (.slice Dx0_10 x0.2.2.1.2.2.2.length dx0_10) := kx0_12.cell 10
  have gx0_12_11 : w12.cell? ⟨w5.heap.size, 11, none⟩ = some (.slice Dx0_11 x0.2.2.2.1.length dx0_11) := kx0_12.cell 11
  have gx0_12_12 : w12.cell? ⟨w5.heap.size, 12, none⟩ = some (.slice Dx0_12 x0.2.2.2.2.length dx0_12) := kx0_12.cell 12
  have zzx0_12 := kx0_12.lt
  have gg_12_0 : w12.cell? ⟨w7.heap.size, 0, none⟩ = some (.int .i64 ((noteV x0 x1)).1.1) := kg_12.cell 0
  have gg_12_1 : w12.cell? ⟨w7.heap.size, 1, none⟩ = some (.slice Dg_1 ((noteV x0 x1)).1.2.1.length dg_1) := kg_12.cell 1
  have gg_12_2 : w12.cell? ⟨w7.heap.size, 2, none⟩ = some (.slice Dg_2 ((noteV x0 x1)).1.2.2.length dg_2) := kg_12.cell 2
  have gg_12_3 : w12.cell? ⟨w7.heap.size, 3, none⟩ = some (.int .i64 ((noteV x0 x1)).2.1.1) := kg_12.cell 3
  have gg_12_4 : w12.cell? ⟨w7.heap.size, 4, none⟩ = some (.int .i64 ((noteV x0 x1)).2.1.2.1) := kg_12.cell 4
  have gg_12_5 : w12.cell? ⟨w7.heap.size, 5, none⟩ = some (.int .i64 ((noteV x0 x1)).2.1.2.2.1) := kg_12.cell 5
  have gg_12_6 : w12.cell? ⟨w7.heap.size, 6, none⟩ = some (.slice Dg_6 ((noteV x0 x1)).2.1.2.2.2.length dg_6) := kg_12.cell 6
  have gg_12_7 : w12.cell? ⟨w7.heap.size, 7, none⟩ = some (.int .i64 ((noteV x0 x1)).2.2.1.1) := kg_12.cell 7
  have gg_12_8 : w12.cell? ⟨w7.heap.size, 8, none⟩ = some (.int .i64 ((noteV x0 x1)).2.2.1.2.1) := kg_12.cell 8
  have gg_12_9 : w12.cell? ⟨w7.heap.size, 9, none⟩ = some (.int .i64 ((noteV x0 x1)).2.2.1.2.2.1) := kg_12.cell 9
  have gg_12_10 : w12.cell? ⟨w7.heap.size, 10, none⟩ = some (.slice Dg_10 ((noteV x0 x1)).2.2.1.2.2.2.length dg_10) := kg_12.cell 10
  have gg_12_11 : w12.cell? ⟨w7.heap.size, 11, none⟩ = some (.slice Dg_11 ((noteV x0 x1)).2.2.2.1.length dg_11) := kg_12.cell 11
  have gg_12_12 : w12.cell? ⟨w7.heap.size, 12, none⟩ = some (.slice Dg_12 ((noteV x0 x1)).2.2.2.2.length dg_12) := kg_12.cell 12
  have zzg_12 := kg_12.lt
  go_wp2_with fail
  have cbx0 : (1 : Int) + (mmTCache.cnt x0 : Nat) ≤ 1000000000 := by have := cnt_Cache x0 hn0; omega
  have cbx1 : (1 : Int) + ((mkL mkI).cnt x1 : Nat) ≤ 1000000000 := by have := cnt_Int64S x1 hn1; omega
  have cbg : (1 : Int) + (mmTCache.cnt ((noteV x0 x1)) : Nat) ≤ 1000000000 := cbg_NoteDirty x0 hn0 x1 hn1
  refine (c_markCache _ (x0) _ ((w4.alloc (.cells #[.int .i64 ((noteV x0 x1)).1.1, .slice Ds_1 ((noteV x0 x1)).1.2.1.length ds_1, .slice Ds_2 ((noteV x0 x1)).1.2.2.length ds_2, .int .i64 ((noteV x0 x1)).2.1.1, .int .i64 ((noteV x0 x1)).2.1.2.1, .int .i64 ((noteV x0 x1)).2.1.2.2.1, .slice Ds_6 ((noteV x0 x1)).2.1.2.2.2.length ds_6, .int .i64 ((noteV x0 x1)).2.2.1.1, .int .i64 ((noteV x0 x1)).2.2.1.2.1, .int .i64 ((noteV x0 x1)).2.2.1.2.2.1, .slice Ds_10 ((noteV x0 x1)).2.2.1.2.2.2.length ds_10, .slice Ds_11 ((noteV x0 x1)).2.2.2.1.length ds_11, .slice Ds_12 ((noteV x0 x1)).2.2.2.2.length ds_12] 40)).heap.size) (w5.heap.size) blx0 _ ox0_12 (by omega) ndx0 (by omega) (by simpa using cbx0)).mono ?_
  rintro e w13 ⟨rfl, mox0, oox0⟩
  have hm1013 : ∀ y ∈ blx0, (w4.alloc (.cells #[.int .i64 ((noteV x0 x1)).1.1, .slice Ds_1 ((noteV x0 x1)).1.2.1.length ds_1, .slice Ds_2 ((noteV x0 x1)).1.2.2.length ds_2, .int .i64 ((noteV x0 x1)).2.1.1, .int .i64 ((noteV x0 x1)).2.1.2.1, .int .i64 ((noteV x0 x1)).2.1.2.2.1, .slice Ds_6 ((noteV x0 x1)).2.1.2.2.2.length ds_6, .int .i64 ((noteV x0 x1)).2.2.1.1, .int .i64 ((noteV x0 x1)).2.2.1.2.1, .int .i64 ((noteV x0 x1)).2.2.1.2.2.1, .slice Ds_10 ((noteV x0 x1)).2.2.1.2.2.2.length ds_10, .slice Ds_11 ((noteV x0 x1)).2.2.2.1.length ds_11, .slice Ds_12 ((noteV x0 x1)).2.2.2.2.length ds_12] 40)).heap.size ≤ y ∧ y < w5.heap.size := good_Cache.own_in ox0_12
  have uu13 := uu12.only oox0 (fun y hy => by have := (hm1013 y hy).1; omega)
  have zs13 := oox0.size
  have ka0_13 := ka0_12.only oox0 (fun hy => by have := hm1013 _ hy; omega)
  have kr_13 := kr_12.only oox0 (fun hy => by have := hm1013 _ hy; omega)
  have kx0_13 := kx0_12.only oox0 (fun hy => by have := hm1013 _ hy; omega)
  have kg_13 := kg_12.only oox0 (fun hy => by have := hm1013 _ hy; omega)
  have os_13 := good_Cache.keep os_12 (fun y _ hy => oox0.block y (by omega) (fun hm => by have h1 := hm1013 y hm; omega))
  clear os_12
  have ox1_13 := (good_L good_I).own_keep ox1_12 (fun y hy => oox0.block y (Nat.lt_of_lt_of_le ((good_L good_I).own_in ox1_12 y hy).2 (by omega)) (fun hm => by have h1 := hm1013 y hm; have h2 := (good_L good_I).own_in ox1_12 y hy; omega))
  clear ox1_12
  have og_13 := good_Cache.own_keep og_12 (fun y hy => oox0.block y (Nat.lt_of_lt_of_le (good_Cache.own_in og_12 y hy).2 (by omega)) (fun hm => by have h1 := hm1013 y hm; have h2 := good_Cache.own_in og_12 y hy; omega))
  clear og_12
  have mkx0 : shCache.own w13 ((w4.alloc (.cells #[.int .i64 ((noteV x0 x1)).1.1, .slice Ds_1 ((noteV x0 x1)).1.2.1.length ds_1, .slice Ds_2 ((noteV x0 x1)).1.2.2.length ds_2, .int .i64 ((noteV x0 x1)).2.1.1, .int .i64 ((noteV x0 x1)).2.1.2.1, .int .i64 ((noteV x0 x1)).2.1.2.2.1, .slice Ds_6 ((noteV x0 x1)).2.1.2.2.2.length ds_6, .int .i64 ((noteV x0 x1)).2.2.1.1, .int .i64 ((noteV x0 x1)).2.2.1.2.1, .int .i64 ((noteV x0 x1)).2.2.1.2.2.1, .slice Ds_10 ((noteV x0 x1)).2.2.1.2.2.2.length ds_10, .slice Ds_11 ((noteV x0 x1)).2.2.2.1.length ds_11, .slice Ds_12 ((noteV x0 x1)).2.2.2.2.length ds_12] 40)).heap.size) (w5.heap.size) [.int .i64 x0.1.1, .slice Dx0_1 x0.1.2.1.length dx0_1, .slice Dx0_2 x0.1.2.2.length dx0_2, .int .i64 x0.2.1.1, .int .i64 x0.2.1.2.1, .int .i64 x0.2.1.2.2.1, .slice Dx0_6 x0.2.1.2.2.2.length dx0_6, .int .i64 x0.2.2.1.1, .int .i64 x0.2.2.1.2.1, .int .i64 x0.2.2.1.2.2.1, .slice Dx0_10 x0.2.2.1.2.2.2.length dx0_10, .slice Dx0_11 x0.2.2.2.1.length dx0_11, .slice Dx0_12 x0.2.2.2.2.length dx0_12] (mmTCache.mark (x0) 1) blx0 := mox0
  clear mox0 oox0 ox0_12
  clear ga0_12_0 ga0_12_1 ga0_12_2 ga0_12_3 ga0_12_4 ga0_12_5 ga0_12_6 ga0_12_7 ga0_12_8 ga0_12_9 ga0_12_10 ga0_12_11 ga0_12_12 zza0_12 gr_12_0 gr_12_1 gr_12_2 gr_12_3 gr_12_4 gr_12_5 gr_12_6 gr_12_7 gr_12_8 gr_12_9 gr_12_10 gr_12_11 gr_12_12 zzr_12 gx0_12_0 gx0_12_1 gx0_12_2 gx0_12_3 gx0_12_4 gx0_12_5 gx0_12_6 gx0_12_7 gx0_12_8 gx0_12_9 gx0_12_10 gx0_12_11 gx0_12_12 zzx0_12 gg_12_0 gg_12_1 gg_12_2 gg_12_3 gg_12_4 gg_12_5 gg_12_6 gg_12_7 gg_12_8 gg_12_9 gg_12_10 gg_12_11 gg_12_12 zzg_12
  have ga0_13_0 : w13.cell? ⟨w.heap.size, 0, none⟩ = some (.int .i64 x0.1.1) := ka0_13.cell 0
  have ga0_13_1 : w13.cell? ⟨w.heap.size, 1, none⟩ = some (.slice A0_1 x0.1.2.1.length c0_1) := ka0_13.cell 1
  have ga0_13_2 : w13.cell? ⟨w.heap.size, 2, none⟩ = some (.slice A0_2 x0.1.2.2.length c0_2) := ka0_13.cell 2
  have ga0_13_3 : w13.cell? ⟨w.heap.size, 3, none⟩ = some (.int .i64 x0.2.1.1) := ka0_13.cell 3
  have ga0_13_4 : w13.cell? ⟨w.heap.size, 4, none⟩ = some (.int .i64 x0.2.1.2.1) := ka0_13.cell 4
  have ga0_13_5 : w13.cell? ⟨w.heap.size, 5, none⟩ = some (.int .i64 x0.2.1.2.2.1) := ka0_13.cell 5
  have ga0_13_6 : w13.cell? ⟨w.heap.size, 6, none⟩ = some (.slice A0_6 x0.2.1.2.2.2.length c0_6) := ka0_13.cell 6
  have ga0_13_7 : w13.cell? ⟨w.heap.size, 7, none⟩ = some (.int .i64 x0.2.2.1.1) := ka0_13.cell 7
  have ga0_13_8 : w13.cell? ⟨w.heap.size, 8, none⟩ = some (.int .i64 x0.2.2.1.2.1) := ka0_13.cell 8
  have ga0_13_9 : w13.cell? ⟨w.heap.size, 9, none⟩ = some (.int .i64 x0.2.2.1.2.2.1) := ka0_13.cell 9
  have ga0_13_10 : w13.cell? ⟨w.heap.size, 10, none⟩ = some (.slice A0_10 x0.2.2.1.2.2.2.length c0_10) := ka0_13.cell 10
  have ga0_13_11 : w13.cell? ⟨w.heap.size, 11, none⟩ = some (.slice A0_11 x0.2.2.2.1.length c0_11) := ka0_13.cell 11
  have ga0_13_12 : w13.cell? ⟨w.heap.size, 12, none⟩ = some (.slice A0_12 x0.2.2.2.2.length c0_12) := ka0_13.cell 12
  have zza0_13 := ka0_13.lt
  have gr_13_0 : w13.cell? ⟨w4.heap.size, 0, none⟩ = some (.int .i64 ((noteV x0 x1)).1.1) := kr_13.cell 0
  have gr_13_1 : w13.cell? ⟨w4.heap.size, 1, none⟩ = some (.slice Ds_1 ((noteV x0 x1)).1.2.1.length ds_1) := kr_13.cell 1
  have gr_13_2 : w13.cell? ⟨w4.heap.size, 2, none⟩ = some (.slice Ds_2 ((noteV x0 x1)).1.2.2.length ds_2) := kr_13.cell 2
  have gr_13_3 : w13.cell? ⟨w4.heap.size, 3, none⟩ = some (.int .i64 ((noteV x0 x1)).2.1.1) := kr_13.cell 3
  have gr_13_4 : w13.cell? ⟨w4.heap.size, 4, none⟩ = some (.int .i64 ((noteV x0 x1)).2.1.2.1) := kr_13.cell 4
  have gr_13_5 : w13.cell? ⟨w4.heap.size, 5, none⟩ = some (.int .i64 ((noteV x0 x1)).2.1.2.2.1) := kr_13.cell 5
  have gr_13_6 : w13.cell? ⟨w4.heap.size, 6, none⟩ = some (.slice Ds_6 ((noteV x0 x1)).2.1.2.2.2.length ds_6) := kr_13.cell 6
  have gr_13_7 : w13.cell? ⟨w4.heap.size, 7, none⟩ = some (.int .i64 ((noteV x0 x1)).2.2.1.1) := kr_13.cell 7
  have gr_13_8 : w13.cell? ⟨w4.heap.size, 8, none⟩ = some (.int .i64 ((noteV x0 x1)).2.2.1.2.1) := kr_13.cell 8
  have gr_13_9 : w13.cell? ⟨w4.heap.size, 9, none⟩ = some (.int .i64 ((noteV x0 x1)).2.2.1.2.2.1) := kr_13.cell 9
  have gr_13_10 : w13.cell? ⟨w4.heap.size, 10, none⟩ = some (.slice Ds_10 ((noteV x0 x1)).2.2.1.2.2.2.length ds_10) := kr_13.cell 10
  have gr_13_11 : w13.cell? ⟨w4.heap.size, 11, none⟩ = some (.slice Ds_11 ((noteV x0 x1)).2.2.2.1.length ds_11) := kr_13.cell 11
  have gr_13_12 : w13.cell? ⟨w4.heap.size, 12, none⟩ = some (.slice Ds_12 ((noteV x0 x1)).2.2.2.2.length ds_12) := kr_13.cell 12
  have zzr_13 := kr_13.lt
  have gx0_13_0 : w13.cell? ⟨w5.heap.size, 0, none⟩ = some (.int .i64 x0.1.1) := kx0_13.cell 0
  have gx0_13_1 : w13.cell? ⟨w5.heap.size, 1, none⟩ = some (.slice Dx0_1 x0.1.2.1.length dx0_1) := kx0_13.cell 1
  have gx0_13_2 : w13.cell? ⟨w5.heap.size, 2, none⟩ = some (.slice Dx0_2 x0.1.2.2.length dx0_2) := kx0_13.cell 2
  have gx0_13_3 : w13.cell? ⟨w5.heap.size, 3, none⟩ = some (.int .i64 x0.2.1.1) := kx0_13.cell 3
  have gx0_13_4 : w13.cell? ⟨w5.heap.size, 4, none⟩ = some (.int .i64 x0.2.1.2.1) := kx0_13.cell 4
  have gx0_13_5 : w13.cell? ⟨w5.heap.size, 5, none⟩ = some (.int .i64 x0.2.1.2.2.1) := kx0_13.cell 5
  have gx0_13_6 : w13.cell? ⟨w5.heap.size, 6, none⟩ = some (.slice Dx0_6 x0.2.1.2.2.2.length dx0_6) := kx0_13.cell 6
  have gx0_13_7 : w13.cell? ⟨w5.heap.size, 7, none⟩ = some (.int .i64 x0.2.2.1.1) := kx0_13.cell 7
  have gx0_13_8 : w13.cell? ⟨w5.heap.size, 8, none⟩ = some (.int .i64 x0.2.2.1.2.1) := kx0_13.cell 8
  have gx0_13_9 : w13.cell? ⟨w5.heap.size, 9, none⟩ = some (.int .i64 x0.2.2.1.2.2.1) := kx0_13.cell 9
  have gx0_13_10 : w13.cell? ⟨w5.heap.size, 10, none⟩ = some (.slice Dx0_10 x0.2.2.1.2.2.2.length dx0_10) := kx0_13.cell 10
  have gx0_13_11 : w13.cell? ⟨w5.heap.size, 11, none⟩ = some (.slice Dx0_11 x0.2.2.2.1.length dx0_11) := kx0_13.cell 11
  have gx0_13_12 : w13.cell? ⟨w5.heap.size, 12, none⟩ = some (.slice Dx0_12 x0.2.2.2.2.length dx0_12) := kx0_13.cell 12
  have zzx0_13 := kx0_13.lt
  have gg_13_0 : w13.cell? ⟨w7.heap.size, 0, none⟩ = some (.int .i64 ((noteV x0 x1)).1.1) := kg_13.cell 0
  have gg_13_1 : w13.cell? ⟨w7.heap.size, 1, none⟩ = some (.slice Dg_1 ((noteV x0 x1)).1.2.1.length dg_1) := kg_13.cell 1
  have gg_13_2 : w13.cell? ⟨w7.heap.size, 2, none⟩ = some (.slice Dg_2 ((noteV x0 x1)).1.2.2.length dg_2) := kg_13.cell 2
  have gg_13_3 : w13.cell? ⟨w7.heap.size, 3, none⟩ = some (.int .i64 ((noteV x0 x1)).2.1.1) := kg_13.cell 3
  have gg_13_4 : w13.cell? ⟨w7.heap.size, 4, none⟩ = some (.int .i64 ((noteV x0 x1)).2.1.2.1) := kg_13.cell 4
  have gg_13_5 : w13.cell? ⟨w7.heap.size, 5, none⟩ = some (.int .i64 ((noteV x0 x1)).2.1.2.2.1) := kg_13.cell 5
  have gg_13_6 : w13.cell? ⟨w7.heap.size, 6, none⟩ = some (.slice Dg_6 ((noteV x0 x1)).2.1.2.2.2.length dg_6) := kg_13.cell 6
  have gg_13_7 : w13.cell? ⟨w7.heap.size, 7, none⟩ = some (.int .i64 ((noteV x0 x1)).2.2.1.1) := kg_13.cell 7
  have gg_13_8 : w13.cell? ⟨w7.heap.size, 8, none⟩ = some (.int .i64 ((noteV x0 x1)).2.2.1.2.1) := kg_13.cell 8
  have gg_13_9 : w13.cell? ⟨w7.heap.size, 9, none⟩ = some (.int .i64 ((noteV x0 x1)).2.2.1.2.2.1) := kg_13.cell 9
  have gg_13_10 : w13.cell? ⟨w7.heap.size, 10, none⟩ = some (.slice Dg_10 ((noteV x0 x1)).2.2.1.2.2.2.length dg_10) := kg_13.cell 10
  have gg_13_11 : w13.cell? ⟨w7.heap.size, 11, none⟩ = some (.slice Dg_11 ((noteV x0 x1)).2.2.2.1.length dg_11) := kg_13.cell 11
  have gg_13_12 : w13.cell? ⟨w7.heap.size, 12, none⟩ = some (.slice Dg_12 ((noteV x0 x1)).2.2.2.2.length dg_12) := kg_13.cell 12
  have zzg_13 := kg_13.lt
  go_wp2_with fail
  replace cbx1 : (1 + ((mmTCache.cnt x0 : Nat) : Int)) + (((mkL mkI).cnt x1 : Nat) : Int) ≤ 1000000000 := by have := cnt_Int64S x1 hn1; have := cnt_Cache x0 hn0; omega
  have kpos1 : ¬ ((1 + ((mmTCache.cnt x0 : Nat) : Int)) + (((mkL mkI).cnt x1 : Nat) : Int)) < 0 := by omega
  refine (c_markInt64S _ _ _ _ ((w5.alloc (.cells #[.int .i64 x0.1.1, .slice Dx0_1 x0.1.2.1.length dx0_1, .slice Dx0_2 x0.1.2.2.length dx0_2, .int .i64 x0.2.1.1, .int .i64 x0.2.1.2.1, .int .i64 x0.2.1.2.2.1, .slice Dx0_6 x0.2.1.2.2.2.length dx0_6, .int .i64 x0.2.2.1.1, .int .i64 x0.2.2.1.2.1, .int .i64 x0.2.2.1.2.2.1, .slice Dx0_10 x0.2.2.1.2.2.2.length dx0_10, .slice Dx0_11 x0.2.2.2.1.length dx0_11, .slice Dx0_12 x0.2.2.2.2.length dx0_12] 40)).heap.size) (w6.heap.size) blx1 _ (SO.of_own ox1_13) (by omega) ndx1 (by omega) (by simpa using cbx1)).mono ?_
  rintro e w14 ⟨rfl, mox1, oox1⟩
  have hm1014 : ∀ y ∈ blx1, (w5.alloc (.cells #[.int .i64 x0.1.1, .slice Dx0_1 x0.1.2.1.length dx0_1, .slice Dx0_2 x0.1.2.2.length dx0_2, .int .i64 x0.2.1.1, .int .i64 x0.2.1.2.1, .int .i64 x0.2.1.2.2.1, .slice Dx0_6 x0.2.1.2.2.2.length dx0_6, .int .i64 x0.2.2.1.1, .int .i64 x0.2.2.1.2.1, .int .i64 x0.2.2.1.2.2.1, .slice Dx0_10 x0.2.2.1.2.2.2.length dx0_10, .slice Dx0_11 x0.2.2.2.1.length dx0_11, .slice Dx0_12 x0.2.2.2.2.length dx0_12] 40)).heap.size ≤ y ∧ y < w6.heap.size := (good_L good_I).own_in ox1_13
  have uu14 := uu13.only oox1 (fun y hy => by have := (hm1014 y hy).1; omega)
  have zs14 := oox1.size
  have ka0_14 := ka0_13.only oox1 (fun hy => by have := hm1014 _ hy; omega)
  have kr_14 := kr_13.only oox1 (fun hy => by have := hm1014 _ hy; omega)
  have kx0_14 := kx0_13.only oox1 (fun hy => by have := hm1014 _ hy; omega)
  have kg_14 := kg_13.only oox1 (fun hy => by have := hm1014 _ hy; omega)
  have os_14 := good_Cache.keep os_13 (fun y _ hy => oox1.block y (by omega) (fun hm => by have h1 := hm1014 y hm; omega))
  clear os_13
  have mkx0_14 := good_Cache.own_keep mkx0 (fun y hy => oox1.block y (Nat.lt_of_lt_of_le (good_Cache.own_in mkx0 y hy).2 (by omega)) (fun hm => by have h1 := hm1014 y hm; have h2 := good_Cache.own_in mkx0 y hy; omega))
  have og_14 := good_Cache.own_keep og_13 (fun y hy => oox1.block y (Nat.lt_of_lt_of_le (good_Cache.own_in og_13 y hy).2 (by omega)) (fun hm => by have h1 := hm1014 y hm; have h2 := good_Cache.own_in og_13 y hy; omega))
  clear og_13
  have mkx1 : (shL shI).own w14 ((w5.alloc (.cells #[.int .i64 x0.1.1, .slice Dx0_1 x0.1.2.1.length dx0_1, .slice Dx0_2 x0.1.2.2.length dx0_2, .int .i64 x0.2.1.1, .int .i64 x0.2.1.2.1, .int .i64 x0.2.1.2.2.1, .slice Dx0_6 x0.2.1.2.2.2.length dx0_6, .int .i64 x0.2.2.1.1, .int .i64 x0.2.2.1.2.1, .int .i64 x0.2.2.1.2.2.1, .slice Dx0_10 x0.2.2.1.2.2.2.length dx0_10, .slice Dx0_11 x0.2.2.2.1.length dx0_11, .slice Dx0_12 x0.2.2.2.2.length dx0_12] 40)).heap.size) (w6.heap.size) [.slice Dx1 x1.length dx1] ((mkL mkI).mark (x1) (1 + ((mmTCache.cnt x0 : Nat) : Int))) blx1 := SO.to_own (markL_len _ _ _) mox1
  clear mox1 oox1 ox1_13
  clear ga0_13_0 ga0_13_1 ga0_13_2 ga0_13_3 ga0_13_4 ga0_13_5 ga0_13_6 ga0_13_7 ga0_13_8 ga0_13_9 ga0_13_10 ga0_13_11 ga0_13_12 zza0_13 gr_13_0 gr_13_1 gr_13_2 gr_13_3 gr_13_4 gr_13_5 gr_13_6 gr_13_7 gr_13_8 gr_13_9 gr_13_10 gr_13_11 gr_13_12 zzr_13 gx0_13_0 gx0_13_1 gx0_13_2 gx0_13_3 gx0_13_4 gx0_13_5 gx0_13_6 gx0_13_7 gx0_13_8 gx0_13_9 gx0_13_10 gx0_13_11 gx0_13_12 zzx0_13 gg_13_0 gg_13_1 gg_13_2 gg_13_3 gg_13_4 gg_13_5 gg_13_6 gg_13_7 gg_13_8 gg_13_9 gg_13_10 gg_13_11 gg_13_12 zzg_13
  have ga0_14_0 : w14.cell? ⟨w.heap.size, 0, none⟩ = some (.int .i64 x0.1.1) := ka0_14.cell 0
  have ga0_14_1 : w14.cell? ⟨w.heap.size, 1, none⟩ = some (.slice A0_1 x0.1.2.1.length c0_1) := ka0_14.cell 1
  have ga0_14_2 : w14.cell? ⟨w.heap.size, 2, none⟩ = some (.slice A0_2 x0.1.2.2.length c0_2) := ka0_14.cell 2
  have ga0_14_3 : w14.cell? ⟨w.heap.size, 3, none⟩ = some (.int .i64 x0.2.1.1) := ka0_14.cell 3
  have ga0_14_4 : w14.cell? ⟨w.heap.size, 4, none⟩ = some (.int .i64 x0.2.1.2.1) := ka0_14.cell 4
  have ga0_14_5 : w14.cell? ⟨w.heap.size, 5, none⟩ = some (.int .i64 x0.2.1.2.2.1) := ka0_14.cell 5
  have ga0_14_6 : w14.cell? ⟨w.heap.size, 6, none⟩ = some (.slice A0_6 x0.2.1.2.2.2.length c0_6) := ka0_14.cell 6
  have ga0_14_7 : w14.cell? ⟨w.heap.size, 7, none⟩ = some (.int .i64 x0.2.2.1.1) := ka0_14.cell 7
  have ga0_14_8 : w14.cell? ⟨w.heap.size, 8, none⟩ = some (.int .i64 x0.2.2.1.2.1) := ka0_14.cell 8
  have ga0_14_9 : w14.cell? ⟨w.heap.size, 9, none⟩ = some (.int .i64 x0.2.2.1.2.2.1) := ka0_14.cell 9
  have ga0_14_10 : w14.cell? ⟨w.heap.size, 10, none⟩ = some (.slice A0_10 x0.2.2.1.2.2.2.length c0_10) := ka0_14.cell 10
  have ga0_14_11 : w14.cell? ⟨w.heap.size, 11, none⟩ = some (.slice A0_11 x0.2.2.2.1.length c0_11) := ka0_14.cell 11
  have ga0_14_12 : w14.cell? ⟨w.heap.size, 12, none⟩ = some (.slice A0_12 x0.2.2.2.2.length c0_12) := ka0_14.cell 12
  have zza0_14 := ka0_14.lt
  have gr_14_0 : w14.cell? ⟨w4.heap.size, 0, none⟩ = some (.int .i64 ((noteV x0 x1)).1.1) := kr_14.cell 0
  have gr_14_1 : w14.cell? ⟨w4.heap.size, 1, none⟩ = some (.slice Ds_1 ((noteV x0 x1)).1.2.1.length ds_1) := kr_14.cell 1
  have gr_14_2 : w14.cell? ⟨w4.heap.size, 2, none⟩ = some (.slice Ds_2 ((noteV x0 x1)).1.2.2.length ds_2) := kr_14.cell 2
  have gr_14_3 : w14.cell? ⟨w4.heap.size, 3, none⟩ = some (.int .i64 ((noteV x0 x1)).2.1.1) := kr_14.cell 3
  have gr_14_4 : w14.cell? ⟨w4.heap.size, 4, none⟩ = some (.int .i64 ((noteV x0 x1)).2.1.2.1) := kr_14.cell 4
  have gr_14_5 : w14.cell? ⟨w4.heap.size, 5, none⟩ = some (.int .i64 ((noteV x0 x1)).2.1.2.2.1) := kr_14.cell 5
  have gr_14_6 : w14.cell? ⟨w4.heap.size, 6, none⟩ = some (.slice Ds_6 ((noteV x0 x1)).2.1.2.2.2.length ds_6) := kr_14.cell 6
  have gr_14_7 : w14.cell? ⟨w4.heap.size, 7, none⟩ = some (.int .i64 ((noteV x0 x1)).2.2.1.1) := kr_14.cell 7
  have gr_14_8 : w14.cell? ⟨w4.heap.size, 8, none⟩ = some (.int .i64 ((noteV x0 x1)).2.2.1.2.1) := kr_14.cell 8
  have gr_14_9 : w14.cell? ⟨w4.heap.size, 9, none⟩ = some (.int .i64 ((noteV x0 x1)).2.2.1.2.2.1) := kr_14.cell 9
  have gr_14_10 : w14.cell? ⟨w4.heap.size, 10, none⟩ = some (.slice Ds_10 ((noteV x0 x1)).2.2.1.2.2.2.length ds_10) := kr_14.cell 10
  have gr_14_11 : w14.cell? ⟨w4.heap.size, 11, none⟩ = some (.slice Ds_11 ((noteV x0 x1)).2.2.2.1.length ds_11) := kr_14.cell 11
  have gr_14_12 : w14.cell? ⟨w4.heap.size, 12, none⟩ = some (.slice Ds_12 ((noteV x0 x1)).2.2.2.2.length ds_12) := kr_14.cell 12
  have zzr_14 := kr_14.lt
  have gx0_14_0 : w14.cell? ⟨w5.heap.size, 0, none⟩ = some (.int .i64 x0.1.1) := kx0_14.cell 0
  have gx0_14_1 : w14.cell? ⟨w5.heap.size, 1, none⟩ = some (.slice Dx0_1 x0.1.2.1.length dx0_1) := kx0_14.cell 1
  have gx0_14_2 : w14.cell? ⟨w5.heap.size, 2, none⟩ = some (.slice Dx0_2 x0.1.2.2.length dx0_2) := kx0_14.cell 2
  have gx0_14_3 : w14.cell? ⟨w5.heap.size, 3, none⟩ = some (.int .i64 x0.2.1.1) := kx0_14.cell 3
  have gx0_14_4 : w14.cell? ⟨w5.heap.size, 4, none⟩ = some (.int .i64 x0.2.1.2.1) := kx0_14.cell 4
  have gx0_14_5 : w14.cell? ⟨w5.heap.size, 5, none⟩ = some (.int .i64 x0.2.1.2.2.1) := kx0_14.cell 5
  have gx0_14_6 : w14.cell? ⟨w5.heap.size, 6, none⟩ = some (.slice Dx0_6 x0.2.1.2.2.2.length dx0_6) := kx0_14.cell 6
  have gx0_14_7 : w14.cell? ⟨w5.heap.size, 7, none⟩ = some (.int .i64 x0.2.2.1.1) := kx0_14.cell 7
  have gx0_14_8 : w14.cell? ⟨w5.heap.size, 8, none⟩ = some (.int .i64 x0.2.2.1.2.1) := kx0_14.cell 8
  have gx0_14_9 : w14.cell? ⟨w5.heap.size, 9, none⟩ = some (.int .i64 x0.2.2.1.2.2.1) := kx0_14.cell 9
  have gx0_14_10 : w14.cell? ⟨w5.heap.size, 10, none⟩ = some (.slice Dx0_10 x0.2.2.1.2.2.2.length dx0_10) := kx0_14.cell 10
  have gx0_14_11 : w14.cell? ⟨w5.heap.size, 11, none⟩ = some (.slice Dx0_11 x0.2.2.2.1.length dx0_11) := kx0_14.cell 11
  have gx0_14_12 : w14.cell? ⟨w5.heap.size, 12, none⟩ = some (.slice Dx0_12 x0.2.2.2.2.length dx0_12) := kx0_14.cell 12
  have zzx0_14 := kx0_14.lt
  have gg_14_0 : w14.cell? ⟨w7.heap.size, 0, none⟩ = some (.int .i64 ((noteV x0 x1)).1.1) := kg_14.cell 0
  have gg_14_1 : w14.cell? ⟨w7.heap.size, 1, none⟩ = some (.slice Dg_1 ((noteV x0 x1)).1.2.1.length dg_1) := kg_14.cell 1
  have gg_14_2 : w14.cell? ⟨w7.heap.size, 2, none⟩ = some (.slice Dg_2 ((noteV x0 x1)).1.2.2.length dg_2) := kg_14.cell 2
  have gg_14_3 : w14.cell? ⟨w7.heap.size, 3, none⟩ = some (.int .i64 ((noteV x0 x1)).2.1.1) := kg_14.cell 3
  have gg_14_4 : w14.cell? ⟨w7.heap.size, 4, none⟩ = some (.int .i64 ((noteV x0 x1)).2.1.2.1) := kg_14.cell 4
  have gg_14_5 : w14.cell? ⟨w7.heap.size, 5, none⟩ = some (.int .i64 ((noteV x0 x1)).2.1.2.2.1) := kg_14.cell 5
  have gg_14_6 : w14.cell? ⟨w7.heap.size, 6, none⟩ = some (.slice Dg_6 ((noteV x0 x1)).2.1.2.2.2.length dg_6) := kg_14.cell 6
  have gg_14_7 : w14.cell? ⟨w7.heap.size, 7, none⟩ = some (.int .i64 ((noteV x0 x1)).2.2.1.1) := kg_14.cell 7
  have gg_14_8 : w14.cell? ⟨w7.heap.size, 8, none⟩ = some (.int .i64 ((noteV x0 x1)).2.2.1.2.1) := kg_14.cell 8
  have gg_14_9 : w14.cell? ⟨w7.heap.size, 9, none⟩ = some (.int .i64 ((noteV x0 x1)).2.2.1.2.2.1) := kg_14.cell 9
  have gg_14_10 : w14.cell? ⟨w7.heap.size, 10, none⟩ = some (.slice Dg_10 ((noteV x0 x1)).2.2.1.2.2.2.length dg_10) := kg_14.cell 10
  have gg_14_11 : w14.cell? ⟨w7.heap.size, 11, none⟩ = some (.slice Dg_11 ((noteV x0 x1)).2.2.2.1.length dg_11) := kg_14.cell 11
  have gg_14_12 : w14.cell? ⟨w7.heap.size, 12, none⟩ = some (.slice Dg_12 ((noteV x0 x1)).2.2.2.2.length dg_12) := kg_14.cell 12
  have zzg_14 := kg_14.lt
  go_wp2_with fail
  refine (c_eqCache _ _ ((noteV x0 x1)) ((noteV x0 x1)) _ ⟨_, rfl, good_Cache.wide (good_Cache.own_rep og_14) (Nat.zero_le _) (by omega)⟩ ⟨_, rfl, good_Cache.wide os_14 (Nat.le_refl _) (by omega)⟩).mono ?_
  rintro e w15 ⟨be1, rfl, hbe1, u15⟩
  have uu15 := uu14.trans u15
  have zs15 := u15.size
  have ka0_15 := ka0_14.up u15
  have kr_15 := kr_14.up u15
  have kx0_15 := kx0_14.up u15
  have kg_15 := kg_14.up u15
  have os_15 := good_Cache.keep os_14 (u15.keeps (by omega))
  clear os_14
  have mkx0_15 := good_Cache.own_keep mkx0_14 (fun y hy => u15.block y (Nat.lt_of_lt_of_le (good_Cache.own_in mkx0_14 y hy).2 (by omega)))
  clear mkx0_14
  have mkx1_15 := (good_L good_I).own_keep mkx1 (fun y hy => u15.block y (Nat.lt_of_lt_of_le ((good_L good_I).own_in mkx1 y hy).2 (by omega)))
  have og_15 := good_Cache.own_keep og_14 (fun y hy => u15.block y (Nat.lt_of_lt_of_le (good_Cache.own_in og_14 y hy).2 (by omega)))
  clear og_14
  obtain rfl : be1 = true := by simpa using hbe1
  clear hbe1 u15
  clear ga0_14_0 ga0_14_1 ga0_14_2 ga0_14_3 ga0_14_4 ga0_14_5 ga0_14_6 ga0_14_7 ga0_14_8 ga0_14_9 ga0_14_10 ga0_14_11 ga0_14_12 zza0_14 gr_14_0 gr_14_1 gr_14_2 gr_14_3 gr_14_4 gr_14_5 gr_14_6 gr_14_7 gr_14_8 gr_14_9 gr_14_10 gr_14_11 gr_14_12 zzr_14 gx0_14_0 gx0_14_1 gx0_14_2 gx0_14_3 gx0_14_4 gx0_14_5 gx0_14_6 gx0_14_7 gx0_14_8 gx0_14_9 gx0_14_10 gx0_14_11 gx0_14_12 zzx0_14 gg_14_0 gg_14_1 gg_14_2 gg_14_3 gg_14_4 gg_14_5 gg_14_6 gg_14_7 gg_14_8 gg_14_9 gg_14_10 gg_14_11 gg_14_12 zzg_14
  have ga0_15_0 : w15.cell? ⟨w.heap.size, 0, none⟩ = some (.int .i64 x0.1.1) := ka0_15.cell 0
  have ga0_15_1 : w15.cell? ⟨w.heap.size, 1, none⟩ = some (.slice A0_1 x0.1.2.1.length c0_1) := ka0_15.cell 1
  have ga0_15_2 : w15.cell? ⟨w.heap.size, 2, none⟩ = some (.slice A0_2 x0.1.2.2.length c0_2) := ka0_15.cell 2
  have ga0_15_3 : w15.cell? ⟨w.heap.size, 3, none⟩ = some (.int .i64 x0.2.1.1) := ka0_15.cell 3
  have ga0_15_4 : w15.cell? ⟨w.heap.size, 4, none⟩ = some (.int .i64 x0.2.1.2.1) := ka0_15.cell 4
  have ga0_15_5 : w15.cell? ⟨w.heap.size, 5, none⟩ = some (.int .i64 x0.2.1.2.2.1) := ka0_15.cell 5
  have ga0_15_6 : w15.cell? ⟨w.heap.size, 6, none⟩ = some (.slice A0_6 x0.2.1.2.2.2.length c0_6) := ka0_15.cell 6
  have ga0_15_7 : w15.cell? ⟨w.heap.size, 7, none⟩ = some (.int .i64 x0.2.2.1.1) := ka0_15.cell 7
  have ga0_15_8 : w15.cell? ⟨w.heap.size, 8, none⟩ = some (.int .i64 x0.2.2.1.2.1) := ka0_15.cell 8
  have ga0_15_9 : w15.cell? ⟨w.heap.size, 9, none⟩ = some (.int .i64 x0.2.2.1.2.2.1) := ka0_15.cell 9
  have ga0_15_10 : w15.cell? ⟨w.heap.size, 10, none⟩ = some (.slice A0_10 x0.2.2.1.2.2.2.length c0_10) := ka0_15.cell 10
  have ga0_15_11 : w15.cell? ⟨w.heap.size, 11, none⟩ = some (.slice A0_11 x0.2.2.2.1.length c0_11) := ka0_15.cell 11
  have ga0_15_12 : w15.cell? ⟨w.heap.size, 12, none⟩ = some (.slice A0_12 x0.2.2.2.2.length c0_12) := ka0_15.cell 12
  have zza0_15 := ka0_15.lt
  have gr_15_0 : w15.cell? ⟨w4.heap.size, 0, none⟩ = some (.int .i64 ((noteV x0 x1)).1.1) := kr_15.cell 0
  have gr_15_1 : w15.cell? ⟨w4.heap.size, 1, none⟩ = some (.slice Ds_1 ((noteV x0 x1)).1.2.1.length ds_1) := kr_15.cell 1
  have gr_15_2 : w15.cell? ⟨w4.heap.size, 2, none⟩ = some (.slice Ds_2 ((noteV x0 x1)).1.2.2.length ds_2) := kr_15.cell 2
  have gr_15_3 : w15.cell? ⟨w4.heap.size, 3, none⟩ = some (.int .i64 ((noteV x0 x1)).2.1.1) := kr_15.cell 3
  have gr_15_4 : w15.cell? ⟨w4.heap.size, 4, none⟩ = some (.int .i64 ((noteV x0 x1)).2.1.2.1) := kr_15.cell 4
  have gr_15_5 : w15.cell? ⟨w4.heap.size, 5, none⟩ = some (.int .i64 ((noteV x0 x1)).2.1.2.2.1) := kr_15.cell 5
  have gr_15_6 : w15.cell? ⟨w4.heap.size, 6, none⟩ = some (.slice Ds_6 ((noteV x0 x1)).2.1.2.2.2.length ds_6) := kr_15.cell 6
  have gr_15_7 : w15.cell? ⟨w4.heap.size, 7, none⟩ = some (.int .i64 ((noteV x0 x1)).2.2.1.1) := kr_15.cell 7
  have gr_15_8 : w15.cell? ⟨w4.heap.size, 8, none⟩ = some (.int .i64 ((noteV x0 x1)).2.2.1.2.1) := kr_15.cell 8
  have gr_15_9 : w15.cell? ⟨w4.heap.size, 9, none⟩ = some (.int .i64 ((noteV x0 x1)).2.2.1.2.2.1) := kr_15.cell 9
  have gr_15_10 : w15.cell? ⟨w4.heap.size, 10, none⟩ = some (.slice Ds_10 ((noteV x0 x1)).2.2.1.2.2.2.length ds_10) := kr_15.cell 10
  have gr_15_11 : w15.cell? ⟨w4.heap.size, 11, none⟩ = some (.slice Ds_11 ((noteV x0 x1)).2.2.2.1.length ds_11) := kr_15.cell 11
  have gr_15_12 : w15.cell? ⟨w4.heap.size, 12, none⟩ = some (.slice Ds_12 ((noteV x0 x1)).2.2.2.2.length ds_12) := kr_15.cell 12
  have zzr_15 := kr_15.lt
  have gx0_15_0 : w15.cell? ⟨w5.heap.size, 0, none⟩ = some (.int .i64 x0.1.1) := kx0_15.cell 0
  have gx0_15_1 : w15.cell? ⟨w5.heap.size, 1, none⟩ = some (.slice Dx0_1 x0.1.2.1.length dx0_1) := kx0_15.cell 1
  have gx0_15_2 : w15.cell? ⟨w5.heap.size, 2, none⟩ = some (.slice Dx0_2 x0.1.2.2.length dx0_2) := kx0_15.cell 2
  have gx0_15_3 : w15.cell? ⟨w5.heap.size, 3, none⟩ = some (.int .i64 x0.2.1.1) := kx0_15.cell 3
  have gx0_15_4 : w15.cell? ⟨w5.heap.size, 4, none⟩ = some (.int .i64 x0.2.1.2.1) := kx0_15.cell 4
  have gx0_15_5 : w15.cell? ⟨w5.heap.size, 5, none⟩ = some (.int .i64 x0.2.1.2.2.1) := kx0_15.cell 5
  have gx0_15_6 : w15.cell? ⟨w5.heap.size, 6, none⟩ = some (.slice Dx0_6 x0.2.1.2.2.2.length dx0_6) := kx0_15.cell 6
  have gx0_15_7 : w15.cell? ⟨w5.heap.size, 7, none⟩ = some (.int .i64 x0.2.2.1.1) := kx0_15.cell 7
  have gx0_15_8 : w15.cell? ⟨w5.heap.size, 8, none⟩ = some (.int .i64 x0.2.2.1.2.1) := kx0_15.cell 8
  have gx0_15_9 : w15.cell? ⟨w5.heap.size, 9, none⟩ = some (.int .i64 x0.2.2.1.2.2.1) := kx0_15.cell 9
  have gx0_15_10 : w15.cell? ⟨w5.heap.size, 10, none⟩ = some (.slice Dx0_10 x0.2.2.1.2.2.2.length dx0_10) := kx0_15.cell 10
  have gx0_15_11 : w15.cell? ⟨w5.heap.size, 11, none⟩ = some (.slice Dx0_11 x0.2.2.2.1.length dx0_11) := kx0_15.cell 11
  have gx0_15_12 : w15.cell? ⟨w5.heap.size, 12, none⟩ = some (.slice Dx0_12 x0.2.2.2.2.length dx0_12) := kx0_15.cell 12
  have zzx0_15 := kx0_15.lt
  have gg_15_0 : w15.cell? ⟨w7.heap.size, 0, none⟩ = some (.int .i64 ((noteV x0 x1)).1.1) := kg_15.cell 0
  have gg_15_1 : w15.cell? ⟨w7.heap.size, 1, none⟩ = some (.slice Dg_1 ((noteV x0 x1)).1.2.1.length dg_1) := kg_15.cell 1
  have gg_15_2 : w15.cell? ⟨w7.heap.size, 2, none⟩ = some (.slice Dg_2 ((noteV x0 x1)).1.2.2.length dg_2) := kg_15.cell 2
  have gg_15_3 : w15.cell? ⟨w7.heap.size, 3, none⟩ = some (.int .i64 ((noteV x0 x1)).2.1.1) := kg_15.cell 3
  have gg_15_4 : w15.cell? ⟨w7.heap.size, 4, none⟩ = some (.int .i64 ((noteV x0 x1)).2.1.2.1) := kg_15.cell 4
  have gg_15_5 : w15.cell? ⟨w7.heap.size, 5, none⟩ = some (.int .i64 ((noteV x0 x1)).2.1.2.2.1) := kg_15.cell 5
  have gg_15_6 : w15.cell? ⟨w7.heap.size, 6, none⟩ = some (.slice Dg_6 ((noteV x0 x1)).2.1.2.2.2.length dg_6) := kg_15.cell 6
  have gg_15_7 : w15.cell? ⟨w7.heap.size, 7, none⟩ = some (.int .i64 ((noteV x0 x1)).2.2.1.1) := kg_15.cell 7
  have gg_15_8 : w15.cell? ⟨w7.heap.size, 8, none⟩ = some (.int .i64 ((noteV x0 x1)).2.2.1.2.1) := kg_15.cell 8
  have gg_15_9 : w15.cell? ⟨w7.heap.size, 9, none⟩ = some (.int .i64 ((noteV x0 x1)).2.2.1.2.2.1) := kg_15.cell 9
  have gg_15_10 : w15.cell? ⟨w7.heap.size, 10, none⟩ = some (.slice Dg_10 ((noteV x0 x1)).2.2.1.2.2.2.length dg_10) := kg_15.cell 10
  have gg_15_11 : w15.cell? ⟨w7.heap.size, 11, none⟩ = some (.slice Dg_11 ((noteV x0 x1)).2.2.2.1.length dg_11) := kg_15.cell 11
  have gg_15_12 : w15.cell? ⟨w7.heap.size, 12, none⟩ = some (.slice Dg_12 ((noteV x0 x1)).2.2.2.2.length dg_12) := kg_15.cell 12
  have zzg_15 := kg_15.lt
  go_wp2_with fail
  refine (c_markCache _ ((noteV x0 x1)) _ (w6.heap.size) (w7.heap.size) blg _ og_15 (by omega) ndg (by omega) (by simpa using cbg)).mono ?_
  rintro e w16 ⟨rfl, mog, oog⟩
  have hm1016 : ∀ y ∈ blg, w6.heap.size ≤ y ∧ y < w7.heap.size := good_Cache.own_in og_15
  have uu16 := uu15.only oog (fun y hy => by have := (hm1016 y hy).1; omega)
  have zs16 := oog.size
  have ka0_16 := ka0_15.only oog (fun hy => by have := hm1016 _ hy; omega)
  have kr_16 := kr_15.only oog (fun hy => by have := hm1016 _ hy; omega)
  have kx0_16 := kx0_15.only oog (fun hy => by have := hm1016 _ hy; omega)
  have kg_16 := kg_15.only oog (fun hy => by have := hm1016 _ hy; omega)
  have os_16 := good_Cache.keep os_15 (fun y _ hy => oog.block y (by omega) (fun hm => by have h1 := hm1016 y hm; omega))
  clear os_15
  have mkx0_16 := good_Cache.own_keep mkx0_15 (fun y hy => oog.block y (Nat.lt_of_lt_of_le (good_Cache.own_in mkx0_15 y hy).2 (by omega)) (fun hm => by have h1 := hm1016 y hm; have h2 := good_Cache.own_in mkx0_15 y hy; omega))
  clear mkx0_15
  have mkx1_16 := (good_L good_I).own_keep mkx1_15 (fun y hy => oog.block y (Nat.lt_of_lt_of_le ((good_L good_I).own_in mkx1_15 y hy).2 (by omega)) (fun hm => by have h1 := hm1016 y hm; have h2 := (good_L good_I).own_in mkx1_15 y hy; omega))
  clear mkx1_15
  have mkg : shCache.own w16 (w6.heap.size) (w7.heap.size) [.int .i64 ((noteV x0 x1)).1.1, .slice Dg_1 ((noteV x0 x1)).1.2.1.length dg_1, .slice Dg_2 ((noteV x0 x1)).1.2.2.length dg_2, .int .i64 ((noteV x0 x1)).2.1.1, .int .i64 ((noteV x0 x1)).2.1.2.1, .int .i64 ((noteV x0 x1)).2.1.2.2.1, .slice Dg_6 ((noteV x0 x1)).2.1.2.2.2.length dg_6, .int .i64 ((noteV x0 x1)).2.2.1.1, .int .i64 ((noteV x0 x1)).2.2.1.2.1, .int .i64 ((noteV x0 x1)).2.2.1.2.2.1, .slice Dg_10 ((noteV x0 x1)).2.2.1.2.2.2.length dg_10, .slice Dg_11 ((noteV x0 x1)).2.2.2.1.length dg_11, .slice Dg_12 ((noteV x0 x1)).2.2.2.2.length dg_12] (mmTCache.mark ((noteV x0 x1)) 1) blg := mog
  clear mog oog og_15
  clear ga0_15_0 ga0_15_1 ga0_15_2 ga0_15_3 ga0_15_4 ga0_15_5 ga0_15_6 ga0_15_7 ga0_15_8 ga0_15_9 ga0_15_10 ga0_15_11 ga0_15_12 zza0_15 gr_15_0 gr_15_1 gr_15_2 gr_15_3 gr_15_4 gr_15_5 gr_15_6 gr_15_7 gr_15_8 gr_15_9 gr_15_10 gr_15_11 gr_15_12 zzr_15 gx0_15_0 gx0_15_1 gx0_15_2 gx0_15_3 gx0_15_4 gx0_15_5 gx0_15_6 gx0_15_7 gx0_15_8 gx0_15_9 gx0_15_10 gx0_15_11 gx0_15_12 zzx0_15 gg_15_0 gg_15_1 gg_15_2 gg_15_3 gg_15_4 gg_15_5 gg_15_6 gg_15_7 gg_15_8 gg_15_9 gg_15_10 gg_15_11 gg_15_12 zzg_15
  have ga0_16_0 : w16.cell? ⟨w.heap.size, 0, none⟩ = some (.int .i64 x0.1.1) := ka0_16.cell 0
  have ga0_16_1 : w16.cell? ⟨w.heap.size, 1, none⟩ = some (.slice A0_1 x0.1.2.1.length c0_1) := ka0_16.cell 1
  have ga0_16_2 : w16.cell? ⟨w.heap.size, 2, none⟩ = some (.slice A0_2 x0.1.2.2.length c0_2) := ka0_16.cell 2
  have ga0_16_3 : w16.cell? ⟨w.heap.size, 3, none⟩ = some (.int .i64 x0.2.1.1) := ka0_16.cell 3
  have ga0_16_4 : w16.cell? ⟨w.heap.size, 4, none⟩ = some (.int .i64 x0.2.1.2.1) := ka0_16.cell 4
  have ga0_16_5 : w16.cell? ⟨w.heap.size, 5, none⟩ = some (.int .i64 x0.2.1.2.2.1) := ka0_16.cell 5
  have ga0_16_6 : w16.cell? ⟨w.heap.size, 6, none⟩ = some (.slice A0_6 x0.2.1.2.2.2.length c0_6) := ka0_16.cell 6
  have ga0_16_7 : w16.cell? ⟨w.heap.size, 7, none⟩ = some (.int .i64 x0.2.2.1.1) := ka0_16.cell 7
  have ga0_16_8 : w16.cell? ⟨w.heap.size, 8, none⟩ = some (.int .i64 x0.2.2.1.2.1) := ka0_16.cell 8
  have ga0_16_9 : w16.cell? ⟨w.heap.size, 9, none⟩ = some (.int .i64 x0.2.2.1.2.2.1) := ka0_16.cell 9
  have ga0_16_10 : w16.cell? ⟨w.heap.size, 10, none⟩ = some (.slice A0_10 x0.2.2.1.2.2.2.length c0_10) := ka0_16.cell 10
  have ga0_16_11 : w16.cell? ⟨w.heap.size, 11, none⟩ = some (.slice A0_11 x0.2.2.2.1.length c0_11) := ka0_16.cell 11
  have ga0_16_12 : w16.cell? ⟨w.heap.size, 12, none⟩ = some (.slice A0_12 x0.2.2.2.2.length c0_12) := ka0_16.cell 12
  have zza0_16 := ka0_16.lt
  have gr_16_0 : w16.cell? ⟨w4.heap.size, 0, none⟩ = some (.int .i64 ((noteV x0 x1)).1.1) := kr_16.cell 0
  have gr_16_1 : w16.cell? ⟨w4.heap.size, 1, none⟩ = some (.slice Ds_1 ((noteV x0 x1)).1.2.1.length ds_1) := kr_16.cell 1
  have gr_16_2 : w16.cell? ⟨w4.heap.size, 2, none⟩ = some (.slice Ds_2 ((noteV x0 x1)).1.2.2.length ds_2) := kr_16.cell 2
  have gr_16_3 : w16.cell? ⟨w4.heap.size, 3, none⟩ = some (.int .i64 ((noteV x0 x1)).2.1.1) := kr_16.cell 3
  have gr_16_4 : w16.cell? ⟨w4.heap.size, 4, none⟩ = some (.int .i64 ((noteV x0 x1)).2.1.2.1) := kr_16.cell 4
  have gr_16_5 : w16.cell? ⟨w4.heap.size, 5, none⟩ = some (.int .i64 ((noteV x0 x1)).2.1.2.2.1) := kr_16.cell 5
  have gr_16_6 : w16.cell? ⟨w4.heap.size, 6, none⟩ = some (.slice Ds_6 ((noteV x0 x1)).2.1.2.2.2.length ds_6) := kr_16.cell 6
  have gr_16_7 : w16.cell? ⟨w4.heap.size, 7, none⟩ = some (.int .i64 ((noteV x0 x1)).2.2.1.1) := kr_16.cell 7
  have gr_16_8 : w16.cell? ⟨w4.heap.size, 8, none⟩ = some (.int .i64 ((noteV x0 x1)).2.2.1.2.1) := kr_16.cell 8
  have gr_16_9 : w16.cell? ⟨w4.heap.size, 9, none⟩ = some (.int .i64 ((noteV x0 x1)).2.2.1.2.2.1) := kr_16.cell 9
  have gr_16_10 : w16.cell? ⟨w4.heap.size, 10, none⟩ = some (.slice Ds_10 ((noteV x0 x1)).2.2.1.2.2.2.length ds_10) := kr_16.cell 10
  have gr_16_11 : w16.cell? ⟨w4.heap.size, 11, none⟩ = some (.slice Ds_11 ((noteV x0 x1)).2.2.2.1.length ds_11) := kr_16.cell 11
  have gr_16_12 : w16.cell? ⟨w4.heap.size, 12, none⟩ = some (.slice Ds_12 ((noteV x0 x1)).2.2.2.2.length ds_12) := kr_16.cell 12
  have zzr_16 := kr_16.lt
  have gx0_16_0 : w16.cell? ⟨w5.heap.size, 0, none⟩ = some (.int .i64 x0.1.1) := kx0_16.cell 0
  have gx0_16_1 : w16.cell? ⟨w5.heap.size, 1, none⟩ = some (.slice Dx0_1 x0.1.2.1.length dx0_1) := kx0_16.cell 1
  have gx0_16_2 : w16.cell? ⟨w5.heap.size, 2, none⟩ = some (.slice Dx0_2 x0.1.2.2.length dx0_2) := kx0_16.cell 2
  have gx0_16_3 : w16.cell? ⟨w5.heap.size, 3, none⟩ = some (.int .i64 x0.2.1.1) := kx0_16.cell 3
  have gx0_16_4 : w16.cell? ⟨w5.heap.size, 4, none⟩ = some (.int .i64 x0.2.1.2.1) := kx0_16.cell 4
  have gx0_16_5 : w16.cell? ⟨w5.heap.size, 5, none⟩ = some (.int .i64 x0.2.1.2.2.1) := kx0_16.cell 5
  have gx0_16_6 : w16.cell? ⟨w5.heap.size, 6, none⟩ = some (.slice Dx0_6 x0.2.1.2.2.2.length dx0_6) := kx0_16.cell 6
  have gx0_16_7 : w16.cell? ⟨w5.heap.size, 7, none⟩ = some (.int .i64 x0.2.2.1.1) := kx0_16.cell 7
  have gx0_16_8 : w16.cell? ⟨w5.heap.size, 8, none⟩ = some (.int .i64 x0.2.2.1.2.1) := kx0_16.cell 8
  have gx0_16_9 : w16.cell? ⟨w5.heap.size, 9, none⟩ = some (.int .i64 x0.2.2.1.2.2.1) := kx0_16.cell 9
  have gx0_16_10 : w16.cell? ⟨w5.heap.size, 10, none⟩ = some (.slice Dx0_10 x0.2.2.1.2.2.2.length dx0_10) := kx0_16.cell 10
  have gx0_16_11 : w16.cell? ⟨w5.heap.size, 11, none⟩ = some (.slice Dx0_11 x0.2.2.2.1.length dx0_11) := kx0_16.cell 11
  have gx0_16_12 : w16.cell? ⟨w5.heap.size, 12, none⟩ = some (.slice Dx0_12 x0.2.2.2.2.length dx0_12) := kx0_16.cell 12
  have zzx0_16 := kx0_16.lt
  have gg_16_0 : w16.cell? ⟨w7.heap.size, 0, none⟩ = some (.int .i64 ((noteV x0 x1)).1.1) := kg_16.cell 0
  have gg_16_1 : w16.cell? ⟨w7.heap.size, 1, none⟩ = some (.slice Dg_1 ((noteV x0 x1)).1.2.1.length dg_1) := kg_16.cell 1
  have gg_16_2 : w16.cell? ⟨w7.heap.size, 2, none⟩ = some (.slice Dg_2 ((noteV x0 x1)).1.2.2.length dg_2) := kg_16.cell 2
  have gg_16_3 : w16.cell? ⟨w7.heap.size, 3, none⟩ = some (.int .i64 ((noteV x0 x1)).2.1.1) := kg_16.cell 3
  have gg_16_4 : w16.cell? ⟨w7.heap.size, 4, none⟩ = some (.int .i64 ((noteV x0 x1)).2.1.2.1) := kg_16.cell 4
  have gg_16_5 : w16.cell? ⟨w7.heap.size, 5, none⟩ = some (.int .i64 ((noteV x0 x1)).2.1.2.2.1) := kg_16.cell 5
  have gg_16_6 : w16.cell? ⟨w7.heap.size, 6, none⟩ = some (.slice Dg_6 ((noteV x0 x1)).2.1.2.2.2.length dg_6) := kg_16.cell 6
  have gg_16_7 : w16.cell? ⟨w7.heap.size, 7, none⟩ = some (.int .i64 ((noteV x0 x1)).2.2.1.1) := kg_16.cell 7
  have gg_16_8 : w16.cell? ⟨w7.heap.size, 8, none⟩ = some (.int .i64 ((noteV x0 x1)).2.2.1.2.1) := kg_16.cell 8
  have gg_16_9 : w16.cell? ⟨w7.heap.size, 9, none⟩ = some (.int .i64 ((noteV x0 x1)).2.2.1.2.2.1) := kg_16.cell 9
  have gg_16_10 : w16.cell? ⟨w7.heap.size, 10, none⟩ = some (.slice Dg_10 ((noteV x0 x1)).2.2.1.2.2.2.length dg_10) := kg_16.cell 10
  have gg_16_11 : w16.cell? ⟨w7.heap.size, 11, none⟩ = some (.slice Dg_11 ((noteV x0 x1)).2.2.2.1.length dg_11) := kg_16.cell 11
  have gg_16_12 : w16.cell? ⟨w7.heap.size, 12, none⟩ = some (.slice Dg_12 ((noteV x0 x1)).2.2.2.2.length dg_12) := kg_16.cell 12
  have zzg_16 := kg_16.lt
  go_wp2_with fail
  have hia := gmT_Cache.idem ((noteV x0 x1)) 1
  have hsa := gmT_Cache.same ((noteV x0 x1)) 1
  have hcba : (1 : Int) + (mmTCache.cnt (mmTCache.mark ((noteV x0 x1)) 1) : Nat) ≤ 1000000000 := by rw [hsa]; exact cbg
  refine (c_heldCache _ (mmTCache.mark ((noteV x0 x1)) 1) _ _ ⟨_, rfl, good_Cache.wide (good_Cache.own_rep mkg) (Nat.zero_le _) (by omega)⟩ hia (by omega) hcba).mono ?_
  rintro e w17 ⟨rfl, u17⟩
  have uu17 := uu16.trans u17
  have zs17 := u17.size
  have ka0_17 := ka0_16.up u17
  have kr_17 := kr_16.up u17
  have kx0_17 := kx0_16.up u17
  have kg_17 := kg_16.up u17
  have os_17 := good_Cache.keep os_16 (u17.keeps (by omega))
  clear os_16
  have mkx0_17 := good_Cache.own_keep mkx0_16 (fun y hy => u17.block y (Nat.lt_of_lt_of_le (good_Cache.own_in mkx0_16 y hy).2 (by omega)))
  clear mkx0_16
  have mkx1_17 := (good_L good_I).own_keep mkx1_16 (fun y hy => u17.block y (Nat.lt_of_lt_of_le ((good_L good_I).own_in mkx1_16 y hy).2 (by omega)))
  clear mkx1_16
  have mkg_17 := good_Cache.own_keep mkg (fun y hy => u17.block y (Nat.lt_of_lt_of_le (good_Cache.own_in mkg y hy).2 (by omega)))
  rw [hsa]
  clear hia hsa hcba u17
  clear ga0_16_0 ga0_16_1 ga0_16_2 ga0_16_3 ga0_16_4 ga0_16_5 ga0_16_6 ga0_16_7 ga0_16_8 ga0_16_9 ga0_16_10 ga0_16_11 ga0_16_12 zza0_16 gr_16_0 gr_16_1 gr_16_2 gr_16_3 gr_16_4 gr_16_5 gr_16_6 gr_16_7 gr_16_8 gr_16_9 gr_16_10 gr_16_11 gr_16_12 zzr_16 gx0_16_0 gx0_16_1 gx0_16_2 gx0_16_3 gx0_16_4 gx0_16_5 gx0_16_6 gx0_16_7 gx0_16_8 gx0_16_9 gx0_16_10 gx0_16_11 gx0_16_12 zzx0_16 gg_16_0 gg_16_1 gg_16_2 gg_16_3 gg_16_4 gg_16_5 gg_16_6 gg_16_7 gg_16_8 gg_16_9 gg_16_10 gg_16_11 gg_16_12 zzg_16
  have ga0_17_0 : w17.cell? ⟨w.heap.size, 0, none⟩ = some (.int .i64 x0.1.1) := ka0_17.cell 0
  have ga0_17_1 : w17.cell? ⟨w.heap.size, 1, none⟩ = some (.slice A0_1 x0.1.2.1.length c0_1) := ka0_17.cell 1
  have ga0_17_2 : w17.cell? ⟨w.heap.size, 2, none⟩ = some (.slice A0_2 x0.1.2.2.length c0_2) := ka0_17.cell 2
  have ga0_17_3 : w17.cell? ⟨w.heap.size, 3, none⟩ = some (.int .i64 x0.2.1.1) := ka0_17.cell 3
  have ga0_17_4 : w17.cell? ⟨w.heap.size, 4, none⟩ = some (.int .i64 x0.2.1.2.1) := ka0_17.cell 4
  have ga0_17_5 : w17.cell? ⟨w.heap.size, 5, none⟩ = some (.int .i64 x0.2.1.2.2.1) := ka0_17.cell 5
  have ga0_17_6 : w17.cell? ⟨w.heap.size, 6, none⟩ = some (.slice A0_6 x0.2.1.2.2.2.length c0_6) := ka0_17.cell 6
  have ga0_17_7 : w17.cell? ⟨w.heap.size, 7, none⟩ = some (.int .i64 x0.2.2.1.1) := ka0_17.cell 7
  have ga0_17_8 : w17.cell? ⟨w.heap.size, 8, none⟩ = some (.int .i64 x0.2.2.1.2.1) := ka0_17.cell 8
  have ga0_17_9 : w17.cell? ⟨w.heap.size, 9, none⟩ = some (.int .i64 x0.2.2.1.2.2.1) := ka0_17.cell 9
  have ga0_17_10 : w17.cell? ⟨w.heap.size, 10, none⟩ = some (.slice A0_10 x0.2.2.1.2.2.2.length c0_10) := ka0_17.cell 10
  have ga0_17_11 : w17.cell? ⟨w.heap.size, 11, none⟩ = some (.slice A0_11 x0.2.2.2.1.length c0_11) := ka0_17.cell 11
  have ga0_17_12 : w17.cell? ⟨w.heap.size, 12, none⟩ = some (.slice A0_12 x0.2.2.2.2.length c0_12) := ka0_17.cell 12
  have zza0_17 := ka0_17.lt
  have gr_17_0 : w17.cell? ⟨w4.heap.size, 0, none⟩ = some (.int .i64 ((noteV x0 x1)).1.1) := kr_17.cell 0
  have gr_17_1 : w17.cell? ⟨w4.heap.size, 1, none⟩ = some (.slice Ds_1 ((noteV x0 x1)).1.2.1.length ds_1) := kr_17.cell 1
  have gr_17_2 : w17.cell? ⟨w4.heap.size, 2, none⟩ = some (.slice Ds_2 ((noteV x0 x1)).1.2.2.length ds_2) := kr_17.cell 2
  have gr_17_3 : w17.cell? ⟨w4.heap.size, 3, none⟩ = some (.int .i64 ((noteV x0 x1)).2.1.1) := kr_17.cell 3
  have gr_17_4 : w17.cell? ⟨w4.heap.size, 4, none⟩ = some (.int .i64 ((noteV x0 x1)).2.1.2.1) := kr_17.cell 4
  have gr_17_5 : w17.cell? ⟨w4.heap.size, 5, none⟩ = some (.int .i64 ((noteV x0 x1)).2.1.2.2.1) := kr_17.cell 5
  have gr_17_6 : w17.cell? ⟨w4.heap.size, 6, none⟩ = some (.slice Ds_6 ((noteV x0 x1)).2.1.2.2.2.length ds_6) := kr_17.cell 6
  have gr_17_7 : w17.cell? ⟨w4.heap.size, 7, none⟩ = some (.int .i64 ((noteV x0 x1)).2.2.1.1) := kr_17.cell 7
  have gr_17_8 : w17.cell? ⟨w4.heap.size, 8, none⟩ = some (.int .i64 ((noteV x0 x1)).2.2.1.2.1) := kr_17.cell 8
  have gr_17_9 : w17.cell? ⟨w4.heap.size, 9, none⟩ = some (.int .i64 ((noteV x0 x1)).2.2.1.2.2.1) := kr_17.cell 9
  have gr_17_10 : w17.cell? ⟨w4.heap.size, 10, none⟩ = some (.slice Ds_10 ((noteV x0 x1)).2.2.1.2.2.2.length ds_10) := kr_17.cell 10
  have gr_17_11 : w17.cell? ⟨w4.heap.size, 11, none⟩ = some (.slice Ds_11 ((noteV x0 x1)).2.2.2.1.length ds_11) := kr_17.cell 11
  have gr_17_12 : w17.cell? ⟨w4.heap.size, 12, none⟩ = some (.slice Ds_12 ((noteV x0 x1)).2.2.2.2.length ds_12) := kr_17.cell 12
  have zzr_17 := kr_17.lt
  have gx0_17_0 : w17.cell? ⟨w5.heap.size, 0, none⟩ = some (.int .i64 x0.1.1) := kx0_17.cell 0
  have gx0_17_1 : w17.cell? ⟨w5.heap.size, 1, none⟩ = some (.slice Dx0_1 x0.1.2.1.length dx0_1) := kx0_17.cell 1
  have gx0_17_2 : w17.cell? ⟨w5.heap.size, 2, none⟩ = some (.slice Dx0_2 x0.1.2.2.length dx0_2) := kx0_17.cell 2
  have gx0_17_3 : w17.cell? ⟨w5.heap.size, 3, none⟩ = some (.int .i64 x0.2.1.1) := kx0_17.cell 3
  have gx0_17_4 : w17.cell? ⟨w5.heap.size, 4, none⟩ = some (.int .i64 x0.2.1.2.1) := kx0_17.cell 4
  have gx0_17_5 : w17.cell? ⟨w5.heap.size, 5, none⟩ = some (.int .i64 x0.2.1.2.2.1) := kx0_17.cell 5
  have gx0_17_6 : w17.cell? ⟨w5.heap.size, 6, none⟩ = some (.slice Dx0_6 x0.2.1.2.2.2.length dx0_6) := kx0_17.cell 6
  have gx0_17_7 : w17.cell? ⟨w5.heap.size, 7, none⟩ = some (.int .i64 x0.2.2.1.1) := kx0_17.cell 7
  have gx0_17_8 : w17.cell? ⟨w5.heap.size, 8, none⟩ = some (.int .i64 x0.2.2.1.2.1) := kx0_17.cell 8
  have gx0_17_9 : w17.cell? ⟨w5.heap.size, 9, none⟩ = some (.int .i64 x0.2.2.1.2.2.1) := kx0_17.cell 9
  have gx0_17_10 : w17.cell? ⟨w5.heap.size, 10, none⟩ = some (.slice Dx0_10 x0.2.2.1.2.2.2.length dx0_10) := kx0_17.cell 10
  have gx0_17_11 : w17.cell? ⟨w5.heap.size, 11, none⟩ = some (.slice Dx0_11 x0.2.2.2.1.length dx0_11) := kx0_17.cell 11
  have gx0_17_12 : w17.cell? ⟨w5.heap.size, 12, none⟩ = some (.slice Dx0_12 x0.2.2.2.2.length dx0_12) := kx0_17.cell 12
  have zzx0_17 := kx0_17.lt
  have gg_17_0 : w17.cell? ⟨w7.heap.size, 0, none⟩ = some (.int .i64 ((noteV x0 x1)).1.1) := kg_17.cell 0
  have gg_17_1 : w17.cell? ⟨w7.heap.size, 1, none⟩ = some (.slice Dg_1 ((noteV x0 x1)).1.2.1.length dg_1) := kg_17.cell 1
  have gg_17_2 : w17.cell? ⟨w7.heap.size, 2, none⟩ = some (.slice Dg_2 ((noteV x0 x1)).1.2.2.length dg_2) := kg_17.cell 2
  have gg_17_3 : w17.cell? ⟨w7.heap.size, 3, none⟩ = some (.int .i64 ((noteV x0 x1)).2.1.1) := kg_17.cell 3
  have gg_17_4 : w17.cell? ⟨w7.heap.size, 4, none⟩ = some (.int .i64 ((noteV x0 x1)).2.1.2.1) := kg_17.cell 4
  have gg_17_5 : w17.cell? ⟨w7.heap.size, 5, none⟩ = some (.int .i64 ((noteV x0 x1)).2.1.2.2.1) := kg_17.cell 5
  have gg_17_6 : w17.cell? ⟨w7.heap.size, 6, none⟩ = some (.slice Dg_6 ((noteV x0 x1)).2.1.2.2.2.length dg_6) := kg_17.cell 6
  have gg_17_7 : w17.cell? ⟨w7.heap.size, 7, none⟩ = some (.int .i64 ((noteV x0 x1)).2.2.1.1) := kg_17.cell 7
  have gg_17_8 : w17.cell? ⟨w7.heap.size, 8, none⟩ = some (.int .i64 ((noteV x0 x1)).2.2.1.2.1) := kg_17.cell 8
  have gg_17_9 : w17.cell? ⟨w7.heap.size, 9, none⟩ = some (.int .i64 ((noteV x0 x1)).2.2.1.2.2.1) := kg_17.cell 9
  have gg_17_10 : w17.cell? ⟨w7.heap.size, 10, none⟩ = some (.slice Dg_10 ((noteV x0 x1)).2.2.1.2.2.2.length dg_10) := kg_17.cell 10
  have gg_17_11 : w17.cell? ⟨w7.heap.size, 11, none⟩ = some (.slice Dg_11 ((noteV x0 x1)).2.2.2.1.length dg_11) := kg_17.cell 11
  have gg_17_12 : w17.cell? ⟨w7.heap.size, 12, none⟩ = some (.slice Dg_12 ((noteV x0 x1)).2.2.2.2.length dg_12) := kg_17.cell 12
  have zzg_17 := kg_17.lt
  go_wp2_with fail
  refine (c_toCache _ x0 _ (hv0.up good_Cache uu17) hn0).mono ?_
  rintro e w18 ⟨csz0, blz0, rfl, oz0, ndz0, u18⟩
  obtain ⟨Dz0_1, dz0_1, _, Dz0_2, dz0_2, _, Dz0_6, dz0_6, _, Dz0_10, dz0_10, _, Dz0_11, dz0_11, _, Dz0_12, dz0_12, _, rfl, _, _⟩ := openOCache oz0
  have uu18 := uu17.trans u18
  have zs18 := u18.size
  have ka0_18 := ka0_17.up u18
  have kr_18 := kr_17.up u18
  have kx0_18 := kx0_17.up u18
  have kg_18 := kg_17.up u18
  have os_18 := good_Cache.keep os_17 (u18.keeps (by omega))
  clear os_17
  have mkg_18 := good_Cache.own_keep mkg_17 (fun y hy => u18.block y (Nat.lt_of_lt_of_le (good_Cache.own_in mkg_17 y hy).2 (by omega)))
  clear mkg_17
  clear ga0_17_0 ga0_17_1 ga0_17_2 ga0_17_3 ga0_17_4 ga0_17_5 ga0_17_6 ga0_17_7 ga0_17_8 ga0_17_9 ga0_17_10 ga0_17_11 ga0_17_12 zza0_17 gr_17_0 gr_17_1 gr_17_2 gr_17_3 gr_17_4 gr_17_5 gr_17_6 gr_17_7 gr_17_8 gr_17_9 gr_17_10 gr_17_11 gr_17_12 zzr_17 gx0_17_0 gx0_17_1 gx0_17_2 gx0_17_3 gx0_17_4 gx0_17_5 gx0_17_6 gx0_17_7 gx0_17_8 gx0_17_9 gx0_17_10 gx0_17_11 gx0_17_12 zzx0_17 gg_17_0 gg_17_1 gg_17_2 gg_17_3 gg_17_4 gg_17_5 gg_17_6 gg_17_7 gg_17_8 gg_17_9 gg_17_10 gg_17_11 gg_17_12 zzg_17
  have ga0_18_0 : w18.cell? ⟨w.heap.size, 0, none⟩ = some (.int .i64 x0.1.1) := ka0_18.cell 0
  have ga0_18_1 : w18.cell? ⟨w.heap.size, 1, none⟩ = some (.slice A0_1 x0.1.2.1.length c0_1) := ka0_18.cell 1
  have ga0_18_2 : w18.cell? ⟨w.heap.size, 2, none⟩ = some (.slice A0_2 x0.1.2.2.length c0_2) := ka0_18.cell 2
  have ga0_18_3 : w18.cell? ⟨w.heap.size, 3, none⟩ = some (.int .i64 x0.2.1.1) := ka0_18.cell 3
  have ga0_18_4 : w18.cell? ⟨w.heap.size, 4, none⟩ = some (.int .i64 x0.2.1.2.1) := ka0_18.cell 4
  have ga0_18_5 : w18.cell? ⟨w.heap.size, 5, none⟩ = some (.int .i64 x0.2.1.2.2.1) := ka0_18.cell 5
  have ga0_18_6 : w18.cell? ⟨w.heap.size, 6, none⟩ = some (.slice A0_6 x0.2.1.2.2.2.length c0_6) := ka0_18.cell 6
  have ga0_18_7 : w18.cell? ⟨w.heap.size, 7, none⟩ = some (.int .i64 x0.2.2.1.1) := ka0_18.cell 7
  have ga0_18_8 : w18.cell? ⟨w.heap.size, 8, none⟩ = some (.int .i64 x0.2.2.1.2.1) := ka0_18.cell 8
  have ga0_18_9 : w18.cell? ⟨w.heap.size, 9, none⟩ = some (.int .i64 x0.2.2.1.2.2.1) := ka0_18.cell 9
  have ga0_18_10 : w18.cell? ⟨w.heap.size, 10, none⟩ = some (.slice A0_10 x0.2.2.1.2.2.2.length c0_10) := ka0_18.cell 10
  have ga0_18_11 : w18.cell? ⟨w.heap.size, 11, none⟩ = some (.slice A0_11 x0.2.2.2.1.length c0_11) := ka0_18.cell 11
  have ga0_18_12 : w18.cell? ⟨w.heap.size, 12, none⟩ = some (.slice A0_12 x0.2.2.2.2.length c0_12) := ka0_18.cell 12
  have zza0_18 := ka0_18.lt
  have gr_18_0 : w18.cell? ⟨w4.heap.size, 0, none⟩ = some (.int .i64 ((noteV x0 x1)).1.1) := kr_18.cell 0
  have gr_18_1 : w18.cell? ⟨w4.heap.size, 1, none⟩ = some (.slice Ds_1 ((noteV x0 x1)).1.2.1.length ds_1) := kr_18.cell 1
  have gr_18_2 : w18.cell? ⟨w4.heap.size, 2, none⟩ = some (.slice Ds_2 ((noteV x0 x1)).1.2.2.length ds_2) := kr_18.cell 2
  have gr_18_3 : w18.cell? ⟨w4.heap.size, 3, none⟩ = some (.int .i64 ((noteV x0 x1)).2.1.1) := kr_18.cell 3
  have gr_18_4 : w18.cell? ⟨w4.heap.size, 4, none⟩ = some (.int .i64 ((noteV x0 x1)).2.1.2.1) := kr_18.cell 4
  have gr_18_5 : w18.cell? ⟨w4.heap.size, 5, none⟩ = some (.int .i64 ((noteV x0 x1)).2.1.2.2.1) := kr_18.cell 5
  have gr_18_6 : w18.cell? ⟨w4.heap.size, 6, none⟩ = some (.slice Ds_6 ((noteV x0 x1)).2.1.2.2.2.length ds_6) := kr_18.cell 6
  have gr_18_7 : w18.cell? ⟨w4.heap.size, 7, none⟩ = some (.int .i64 ((noteV x0 x1)).2.2.1.1) := kr_18.cell 7
  have gr_18_8 : w18.cell? ⟨w4.heap.size, 8, none⟩ = some (.int .i64 ((noteV x0 x1)).2.2.1.2.1) := kr_18.cell 8
  have gr_18_9 : w18.cell? ⟨w4.heap.size, 9, none⟩ = some (.int .i64 ((noteV x0 x1)).2.2.1.2.2.1) := kr_18.cell 9
  have gr_18_10 : w18.cell? ⟨w4.heap.size, 10, none⟩ = some (.slice Ds_10 ((noteV x0 x1)).2.2.1.2.2.2.length ds_10) := kr_18.cell 10
  have gr_18_11 : w18.cell? ⟨w4.heap.size, 11, none⟩ = some (.slice Ds_11 ((noteV x0 x1)).2.2.2.1.length ds_11) := kr_18.cell 11
  have gr_18_12 : w18.cell? ⟨w4.heap.size, 12, none⟩ = some (.slice Ds_12 ((noteV x0 x1)).2.2.2.2.length ds_12) := kr_18.cell 12
  have zzr_18 := kr_18.lt
  have gx0_18_0 : w18.cell? ⟨w5.heap.size, 0, none⟩ = some (.int .i64 x0.1.1) := kx0_18.cell 0
  have gx0_18_1 : w18.cell? ⟨w5.heap.size, 1, none⟩ = some (.slice Dx0_1 x0.1.2.1.length dx0_1) := kx0_18.cell 1
  have gx0_18_2 : w18.cell? ⟨w5.heap.size, 2, none⟩ = some (.slice Dx0_2 x0.1.2.2.length dx0_2) := kx0_18.cell 2
  have gx0_18_3 : w18.cell? ⟨w5.heap.size, 3, none⟩ = some (.int .i64 x0.2.1.1) := kx0_18.cell 3
  have gx0_18_4 : w18.cell? ⟨w5.heap.size, 4, none⟩ = some (.int .i64 x0.2.1.2.1) := kx0_18.cell 4
  have gx0_18_5 : w18.cell? ⟨w5.heap.size, 5, none⟩ = some (.int .i64 x0.2.1.2.2.1) := kx0_18.cell 5
  have gx0_18_6 : w18.cell? ⟨w5.heap.size, 6, none⟩ = some (.slice Dx0_6 x0.2.1.2.2.2.length dx0_6) := kx0_18.cell 6
  have gx0_18_7 : w18.cell? ⟨w5.heap.size, 7, none⟩ = some (.int .i64 x0.2.2.1.1) := kx0_18.cell 7
  have gx0_18_8 : w18.cell? ⟨w5.heap.size, 8, none⟩ = some (.int .i64 x0.2.2.1.2.1) := kx0_18.cell 8
  have gx0_18_9 : w18.cell? ⟨w5.heap.size, 9, none⟩ = some (.int .i64 x0.2.2.1.2.2.1) := kx0_18.cell 9
  have gx0_18_10 : w18.cell? ⟨w5.heap.size, 10, none⟩ = some (.slice Dx0_10 x0.2.2.1.2.2.2.length dx0_10) := kx0_18.cell 10
  have gx0_18_11 : w18.cell? ⟨w5.heap.size, 11, none⟩ = some (.slice Dx0_11 x0.2.2.2.1.length dx0_11) := kx0_18.cell 11
  have gx0_18_12 : w18.cell? ⟨w5.heap.size, 12, none⟩ = some (.slice Dx0_12 x0.2.2.2.2.length dx0_12) := kx0_18.cell 12
  have zzx0_18 := kx0_18.lt
  have gg_18_0 : w18.cell? ⟨w7.heap.size, 0, none⟩ = some (.int .i64 ((noteV x0 x1)).1.1) := kg_18.cell 0
  have gg_18_1 : w18.cell? ⟨w7.heap.size, 1, none⟩ = some (.slice Dg_1 ((noteV x0 x1)).1.2.1.length dg_1) := kg_18.cell 1
  have gg_18_2 : w18.cell? ⟨w7.heap.size, 2, none⟩ = some (.slice Dg_2 ((noteV x0 x1)).1.2.2.length dg_2) := kg_18.cell 2
  have gg_18_3 : w18.cell? ⟨w7.heap.size, 3, none⟩ = some (.int .i64 ((noteV x0 x1)).2.1.1) := kg_18.cell 3
  have gg_18_4 : w18.cell? ⟨w7.heap.size, 4, none⟩ = some (.int .i64 ((noteV x0 x1)).2.1.2.1) := kg_18.cell 4
  have gg_18_5 : w18.cell? ⟨w7.heap.size, 5, none⟩ = some (.int .i64 ((noteV x0 x1)).2.1.2.2.1) := kg_18.cell 5
  have gg_18_6 : w18.cell? ⟨w7.heap.size, 6, none⟩ = some (.slice Dg_6 ((noteV x0 x1)).2.1.2.2.2.length dg_6) := kg_18.cell 6
  have gg_18_7 : w18.cell? ⟨w7.heap.size, 7, none⟩ = some (.int .i64 ((noteV x0 x1)).2.2.1.1) := kg_18.cell 7
  have gg_18_8 : w18.cell? ⟨w7.heap.size, 8, none⟩ = some (.int .i64 ((noteV x0 x1)).2.2.1.2.1) := kg_18.cell 8
  have gg_18_9 : w18.cell? ⟨w7.heap.size, 9, none⟩ = some (.int .i64 ((noteV x0 x1)).2.2.1.2.2.1) := kg_18.cell 9
  have gg_18_10 : w18.cell? ⟨w7.heap.size, 10, none⟩ = some (.slice Dg_10 ((noteV x0 x1)).2.2.1.2.2.2.length dg_10) := kg_18.cell 10
  have gg_18_11 : w18.cell? ⟨w7.heap.size, 11, none⟩ = some (.slice Dg_11 ((noteV x0 x1)).2.2.2.1.length dg_11) := kg_18.cell 11
  have gg_18_12 : w18.cell? ⟨w7.heap.size, 12, none⟩ = some (.slice Dg_12 ((noteV x0 x1)).2.2.2.2.length dg_12) := kg_18.cell 12
  have zzg_18 := kg_18.lt
  go_wp2_with fail
  refine (c_toInt64S _ _ _ _ (h1.up good_I uu18) hn1).mono ?_
  rintro e w19 ⟨Dz1, dz1, blz1, rfl, ooz1, ndz1, u19⟩
  have oz1 : (shL shI).own w19 (w18.heap.size) w19.heap.size [.slice Dz1 x1.length dz1] x1 blz1 := ⟨_, _, rfl, ooz1⟩
  have uu19 := uu18.trans u19
  have zs19 := u19.size
  have ka0_19 := ka0_18.up u19
  have kr_19 := kr_18.up u19
  have kx0_19 := kx0_18.up u19
  have kg_19 := kg_18.up u19
  have os_19 := good_Cache.keep os_18 (u19.keeps (by omega))
  clear os_18
  have mkg_19 := good_Cache.own_keep mkg_18 (fun y hy => u19.block y (Nat.lt_of_lt_of_le (good_Cache.own_in mkg_18 y hy).2 (by omega)))
  clear mkg_18
  have oz0_19 := good_Cache.own_keep oz0 (fun y hy => u19.block y (Nat.lt_of_lt_of_le (good_Cache.own_in oz0 y hy).2 (by omega)))
  clear ga0_18_0 ga0_18_1 ga0_18_2 ga0_18_3 ga0_18_4 ga0_18_5 ga0_18_6 ga0_18_7 ga0_18_8 ga0_18_9 ga0_18_10 ga0_18_11 ga0_18_12 zza0_18 gr_18_0 gr_18_1 gr_18_2 gr_18_3 gr_18_4 gr_18_5 gr_18_6 gr_18_7 gr_18_8 gr_18_9 gr_18_10 gr_18_11 gr_18_12 zzr_18 gx0_18_0 gx0_18_1 gx0_18_2 gx0_18_3 gx0_18_4 gx0_18_5 gx0_18_6 gx0_18_7 gx0_18_8 gx0_18_9 gx0_18_10 gx0_18_11 gx0_18_12 zzx0_18 gg_18_0 gg_18_1 gg_18_2 gg_18_3 gg_18_4 gg_18_5 gg_18_6 gg_18_7 gg_18_8 gg_18_9 gg_18_10 gg_18_11 gg_18_12 zzg_18
  have ga0_19_0 : w19.cell? ⟨w.heap.size, 0, none⟩ = some (.int .i64 x0.1.1) := ka0_19.cell 0
  have ga0_19_1 : w19.cell? ⟨w.heap.size, 1, none⟩ = some (.slice A0_1 x0.1.2.1.length c0_1) := ka0_19.cell 1
  have ga0_19_2 : w19.cell? ⟨w.heap.size, 2, none⟩ = some (.slice A0_2 x0.1.2.2.length c0_2) := ka0_19.cell 2
  have ga0_19_3 : w19.cell? ⟨w.heap.size, 3, none⟩ = some (.int .i64 x0.2.1.1) := ka0_19.cell 3
  have ga0_19_4 : w19.cell? ⟨w.heap.size, 4, none⟩ = some (.int .i64 x0.2.1.2.1) := ka0_19.cell 4
  have ga0_19_5 : w19.cell? ⟨w.heap.size, 5, none⟩ = some (.int .i64 x0.2.1.2.2.1) := ka0_19.cell 5
  have ga0_19_6 : w19.cell? ⟨w.heap.size, 6, none⟩ = some (.slice A0_6 x0.2.1.2.2.2.length c0_6) := ka0_19.cell 6
  have ga0_19_7 : w19.cell? ⟨w.heap.size, 7, none⟩ = some (.int .i64 x0.2.2.1.1) := ka0_19.cell 7
  have ga0_19_8 : w19.cell? ⟨w.heap.size, 8, none⟩ = some (.int .i64 x0.2.2.1.2.1) := ka0_19.cell 8
  have ga0_19_9 : w19.cell? ⟨w.heap.size, 9, none⟩ = some (.int .i64 x0.2.2.1.2.2.1) := ka0_19.cell 9
  have ga0_19_10 : w19.cell? ⟨w.heap.size, 10, none⟩ = some (.slice A0_10 x0.2.2.1.2.2.2.length c0_10) := ka0_19.cell 10
  have ga0_19_11 : w19.cell? ⟨w.heap.size, 11, none⟩ = some (.slice A0_11 x0.2.2.2.1.length c0_11) := ka0_19.cell 11
  have ga0_19_12 : w19.cell? ⟨w.heap.size, 12, none⟩ = some (.slice A0_12 x0.2.2.2.2.length c0_12) := ka0_19.cell 12
  have zza0_19 := ka0_19.lt
  have gr_19_0 : w19.cell? ⟨w4.heap.size, 0, none⟩ = some (.int .i64 ((noteV x0 x1)).1.1) := kr_19.cell 0
  have gr_19_1 : w19.cell? ⟨w4.heap.size, 1, none⟩ = some (.slice Ds_1 ((noteV x0 x1)).1.2.1.length ds_1) := kr_19.cell 1
  have gr_19_2 : w19.cell? ⟨w4.heap.size, 2, none⟩ = some (.slice Ds_2 ((noteV x0 x1)).1.2.2.length ds_2) := kr_19.cell 2
  have gr_19_3 : w19.cell? ⟨w4.heap.size, 3, none⟩ = some (.int .i64 ((noteV x0 x1)).2.1.1) := kr_19.cell 3
  have gr_19_4 : w19.cell? ⟨w4.heap.size, 4, none⟩ = some (.int .i64 ((noteV x0 x1)).2.1.2.1) := kr_19.cell 4
  have gr_19_5 : w19.cell? ⟨w4.heap.size, 5, none⟩ = some (.int .i64 ((noteV x0 x1)).2.1.2.2.1) := kr_19.cell 5
  have gr_19_6 : w19.cell? ⟨w4.heap.size, 6, none⟩ = some (.slice Ds_6 ((noteV x0 x1)).2.1.2.2.2.length ds_6) := kr_19.cell 6
  have gr_19_7 : w19.cell? ⟨w4.heap.size, 7, none⟩ = some (.int .i64 ((noteV x0 x1)).2.2.1.1) := kr_19.cell 7
  have gr_19_8 : w19.cell? ⟨w4.heap.size, 8, none⟩ = some (.int .i64 ((noteV x0 x1)).2.2.1.2.1) := kr_19.cell 8
  have gr_19_9 : w19.cell? ⟨w4.heap.size, 9, none⟩ = some (.int .i64 ((noteV x0 x1)).2.2.1.2.2.1) := kr_19.cell 9
  have gr_19_10 : w19.cell? ⟨w4.heap.size, 10, none⟩ = some (.slice Ds_10 ((noteV x0 x1)).2.2.1.2.2.2.length ds_10) := kr_19.cell 10
  have gr_19_11 : w19.cell? ⟨w4.heap.size, 11, none⟩ = some (.slice Ds_11 ((noteV x0 x1)).2.2.2.1.length ds_11) := kr_19.cell 11
  have gr_19_12 : w19.cell? ⟨w4.heap.size, 12, none⟩ = some (.slice Ds_12 ((noteV x0 x1)).2.2.2.2.length ds_12) := kr_19.cell 12
  have zzr_19 := kr_19.lt
  have gx0_19_0 : w19.cell? ⟨w5.heap.size, 0, none⟩ = some (.int .i64 x0.1.1) := kx0_19.cell 0
  have gx0_19_1 : w19.cell? ⟨w5.heap.size, 1, none⟩ = some (.slice Dx0_1 x0.1.2.1.length dx0_1) := kx0_19.cell 1
  have gx0_19_2 : w19.cell? ⟨w5.heap.size, 2, none⟩ = some (.slice Dx0_2 x0.1.2.2.length dx0_2) := kx0_19.cell 2
  have gx0_19_3 : w19.cell? ⟨w5.heap.size, 3, none⟩ = some (.int .i64 x0.2.1.1) := kx0_19.cell 3
  have gx0_19_4 : w19.cell? ⟨w5.heap.size, 4, none⟩ = some (.int .i64 x0.2.1.2.1) := kx0_19.cell 4
  have gx0_19_5 : w19.cell? ⟨w5.heap.size, 5, none⟩ = some (.int .i64 x0.2.1.2.2.1) := kx0_19.cell 5
  have gx0_19_6 : w19.cell? ⟨w5.heap.size, 6, none⟩ = some (.slice Dx0_6 x0.2.1.2.2.2.length dx0_6) := kx0_19.cell 6
  have gx0_19_7 : w19.cell? ⟨w5.heap.size, 7, none⟩ = some (.int .i64 x0.2.2.1.1) := kx0_19.cell 7
  have gx0_19_8 : w19.cell? ⟨w5.heap.size, 8, none⟩ = some (.int .i64 x0.2.2.1.2.1) := kx0_19.cell 8
  have gx0_19_9 : w19.cell? ⟨w5.heap.size, 9, none⟩ = some (.int .i64 x0.2.2.1.2.2.1) := kx0_19.cell 9
  have gx0_19_10 : w19.cell? ⟨w5.heap.size, 10, none⟩ = some (.slice Dx0_10 x0.2.2.1.2.2.2.length dx0_10) := kx0_19.cell 10
  have gx0_19_11 : w19.cell? ⟨w5.heap.size, 11, none⟩ = some (.slice Dx0_11 x0.2.2.2.1.length dx0_11) := kx0_19.cell 11
  have gx0_19_12 : w19.cell? ⟨w5.heap.size, 12, none⟩ = some (.slice Dx0_12 x0.2.2.2.2.length dx0_12) := kx0_19.cell 12
  have zzx0_19 := kx0_19.lt
  have gg_19_0 : w19.cell? ⟨w7.heap.size, 0, none⟩ = some (.int .i64 ((noteV x0 x1)).1.1) := kg_19.cell 0
  have gg_19_1 : w19.cell? ⟨w7.heap.size, 1, none⟩ = some (.slice Dg_1 ((noteV x0 x1)).1.2.1.length dg_1) := kg_19.cell 1
  have gg_19_2 : w19.cell? ⟨w7.heap.size, 2, none⟩ = some (.slice Dg_2 ((noteV x0 x1)).1.2.2.length dg_2) := kg_19.cell 2
  have gg_19_3 : w19.cell? ⟨w7.heap.size, 3, none⟩ = some (.int .i64 ((noteV x0 x1)).2.1.1) := kg_19.cell 3
  have gg_19_4 : w19.cell? ⟨w7.heap.size, 4, none⟩ = some (.int .i64 ((noteV x0 x1)).2.1.2.1) := kg_19.cell 4
  have gg_19_5 : w19.cell? ⟨w7.heap.size, 5, none⟩ = some (.int .i64 ((noteV x0 x1)).2.1.2.2.1) := kg_19.cell 5
  have gg_19_6 : w19.cell? ⟨w7.heap.size, 6, none⟩ = some (.slice Dg_6 ((noteV x0 x1)).2.1.2.2.2.length dg_6) := kg_19.cell 6
  have gg_19_7 : w19.cell? ⟨w7.heap.size, 7, none⟩ = some (.int .i64 ((noteV x0 x1)).2.2.1.1) := kg_19.cell 7
  have gg_19_8 : w19.cell? ⟨w7.heap.size, 8, none⟩ = some (.int .i64 ((noteV x0 x1)).2.2.1.2.1) := kg_19.cell 8
  have gg_19_9 : w19.cell? ⟨w7.heap.size, 9, none⟩ = some (.int .i64 ((noteV x0 x1)).2.2.1.2.2.1) := kg_19.cell 9
  have gg_19_10 : w19.cell? ⟨w7.heap.size, 10, none⟩ = some (.slice Dg_10 ((noteV x0 x1)).2.2.1.2.2.2.length dg_10) := kg_19.cell 10
  have gg_19_11 : w19.cell? ⟨w7.heap.size, 11, none⟩ = some (.slice Dg_11 ((noteV x0 x1)).2.2.2.1.length dg_11) := kg_19.cell 11
  have gg_19_12 : w19.cell? ⟨w7.heap.size, 12, none⟩ = some (.slice Dg_12 ((noteV x0 x1)).2.2.2.2.length dg_12) := kg_19.cell 12
  have zzg_19 := kg_19.lt
  go_wp2_with fail
  refine (ci_NoteDirty _ x0 _ _ x1 _ ⟨_, rfl, good_Cache.wide (good_Cache.own_rep oz0_19) (Nat.zero_le _) (by omega)⟩ hn0 (SR.of_rep good_I ((good_L good_I).wide ((good_L good_I).own_rep oz1) (Nat.zero_le _) (by omega))) hn1).mono ?_
  rintro e w20 ⟨csh, blh, rfl, oh, ndh, u20⟩
  obtain ⟨Dh_1, dh_1, _, Dh_2, dh_2, _, Dh_6, dh_6, _, Dh_10, dh_10, _, Dh_11, dh_11, _, Dh_12, dh_12, _, rfl, _, _⟩ := openOCache oh
  have uu20 := uu19.trans u20
  have zs20 := u20.size
  have ka0_20 := ka0_19.up u20
  have kr_20 := kr_19.up u20
  have kx0_20 := kx0_19.up u20
  have kg_20 := kg_19.up u20
  have os_20 := good_Cache.keep os_19 (u20.keeps (by omega))
  clear os_19
  have mkg_20 := good_Cache.own_keep mkg_19 (fun y hy => u20.block y (Nat.lt_of_lt_of_le (good_Cache.own_in mkg_19 y hy).2 (by omega)))
  clear mkg_19
  have oz0_20 := good_Cache.own_keep oz0_19 (fun y hy => u20.block y (Nat.lt_of_lt_of_le (good_Cache.own_in oz0_19 y hy).2 (by omega)))
  clear oz0_19
  have oz1_20 := (good_L good_I).own_keep oz1 (fun y hy => u20.block y (Nat.lt_of_lt_of_le ((good_L good_I).own_in oz1 y hy).2 (by omega)))
  have ua20 : Up w20 (w20.alloc (.cells #[.int .i64 ((noteV x0 x1)).1.1, .slice Dh_1 ((noteV x0 x1)).1.2.1.length dh_1, .slice Dh_2 ((noteV x0 x1)).1.2.2.length dh_2, .int .i64 ((noteV x0 x1)).2.1.1, .int .i64 ((noteV x0 x1)).2.1.2.1, .int .i64 ((noteV x0 x1)).2.1.2.2.1, .slice Dh_6 ((noteV x0 x1)).2.1.2.2.2.length dh_6, .int .i64 ((noteV x0 x1)).2.2.1.1, .int .i64 ((noteV x0 x1)).2.2.1.2.1, .int .i64 ((noteV x0 x1)).2.2.1.2.2.1, .slice Dh_10 ((noteV x0 x1)).2.2.1.2.2.2.length dh_10, .slice Dh_11 ((noteV x0 x1)).2.2.2.1.length dh_11, .slice Dh_12 ((noteV x0 x1)).2.2.2.2.length dh_12] 40)) := (Up.alloc (Up.refl w20) (.cells #[.int .i64 ((noteV x0 x1)).1.1, .slice Dh_1 ((noteV x0 x1)).1.2.1.length dh_1, .slice Dh_2 ((noteV x0 x1)).1.2.2.length dh_2, .int .i64 ((noteV x0 x1)).2.1.1, .int .i64 ((noteV x0 x1)).2.1.2.1, .int .i64 ((noteV x0 x1)).2.1.2.2.1, .slice Dh_6 ((noteV x0 x1)).2.1.2.2.2.length dh_6, .int .i64 ((noteV x0 x1)).2.2.1.1, .int .i64 ((noteV x0 x1)).2.2.1.2.1, .int .i64 ((noteV x0 x1)).2.2.1.2.2.1, .slice Dh_10 ((noteV x0 x1)).2.2.1.2.2.2.length dh_10, .slice Dh_11 ((noteV x0 x1)).2.2.2.1.length dh_11, .slice Dh_12 ((noteV x0 x1)).2.2.2.2.length dh_12] 40))
  have za20 : (w20.alloc (.cells #[.int .i64 ((noteV x0 x1)).1.1, .slice Dh_1 ((noteV x0 x1)).1.2.1.length dh_1, .slice Dh_2 ((noteV x0 x1)).1.2.2.length dh_2, .int .i64 ((noteV x0 x1)).2.1.1, .int .i64 ((noteV x0 x1)).2.1.2.1, .int .i64 ((noteV x0 x1)).2.1.2.2.1, .slice Dh_6 ((noteV x0 x1)).2.1.2.2.2.length dh_6, .int .i64 ((noteV x0 x1)).2.2.1.1, .int .i64 ((noteV x0 x1)).2.2.1.2.1, .int .i64 ((noteV x0 x1)).2.2.1.2.2.1, .slice Dh_10 ((noteV x0 x1)).2.2.1.2.2.2.length dh_10, .slice Dh_11 ((noteV x0 x1)).2.2.2.1.length dh_11, .slice Dh_12 ((noteV x0 x1)).2.2.2.2.length dh_12] 40)).heap.size = w20.heap.size + 1 := by simp
  have ub20 := uu20.trans ua20
  have ka0_20b := ka0_20.up ua20
  have kr_20b := kr_20.up ua20
  have kx0_20b := kx0_20.up ua20
  have kg_20b := kg_20.up ua20
  have os_20b := good_Cache.keep os_20 (ua20.keeps (by omega))
  clear os_20
  have mkg_20b := good_Cache.own_keep mkg_20 (fun y hy => ua20.block y (Nat.lt_of_lt_of_le (good_Cache.own_in mkg_20 y hy).2 (by omega)))
  clear mkg_20
  have oz0_20b := good_Cache.own_keep oz0_20 (fun y hy => ua20.block y (Nat.lt_of_lt_of_le (good_Cache.own_in oz0_20 y hy).2 (by omega)))
  clear oz0_20
  have oz1_20b := (good_L good_I).own_keep oz1_20 (fun y hy => ua20.block y (Nat.lt_of_lt_of_le ((good_L good_I).own_in oz1_20 y hy).2 (by omega)))
  clear oz1_20
  have oh_20b := good_Cache.own_keep oh (fun y hy => ua20.block y (Nat.lt_of_lt_of_le (good_Cache.own_in oh y hy).2 (by omega)))
  have kh_20b : Bk (w20.alloc (.cells #[.int .i64 ((noteV x0 x1)).1.1, .slice Dh_1 ((noteV x0 x1)).1.2.1.length dh_1, .slice Dh_2 ((noteV x0 x1)).1.2.2.length dh_2, .int .i64 ((noteV x0 x1)).2.1.1, .int .i64 ((noteV x0 x1)).2.1.2.1, .int .i64 ((noteV x0 x1)).2.1.2.2.1, .slice Dh_6 ((noteV x0 x1)).2.1.2.2.2.length dh_6, .int .i64 ((noteV x0 x1)).2.2.1.1, .int .i64 ((noteV x0 x1)).2.2.1.2.1, .int .i64 ((noteV x0 x1)).2.2.1.2.2.1, .slice Dh_10 ((noteV x0 x1)).2.2.1.2.2.2.length dh_10, .slice Dh_11 ((noteV x0 x1)).2.2.2.1.length dh_11, .slice Dh_12 ((noteV x0 x1)).2.2.2.2.length dh_12] 40)) (w20.heap.size) 40 #[.int .i64 ((noteV x0 x1)).1.1, .slice Dh_1 ((noteV x0 x1)).1.2.1.length dh_1, .slice Dh_2 ((noteV x0 x1)).1.2.2.length dh_2, .int .i64 ((noteV x0 x1)).2.1.1, .int .i64 ((noteV x0 x1)).2.1.2.1, .int .i64 ((noteV x0 x1)).2.1.2.2.1, .slice Dh_6 ((noteV x0 x1)).2.1.2.2.2.length dh_6, .int .i64 ((noteV x0 x1)).2.2.1.1, .int .i64 ((noteV x0 x1)).2.2.1.2.1, .int .i64 ((noteV x0 x1)).2.2.1.2.2.1, .slice Dh_10 ((noteV x0 x1)).2.2.1.2.2.2.length dh_10, .slice Dh_11 ((noteV x0 x1)).2.2.2.1.length dh_11, .slice Dh_12 ((noteV x0 x1)).2.2.2.2.length dh_12] := Bk.new _ _ _
  clear ga0_19_0 ga0_19_1 ga0_19_2 ga0_19_3 ga0_19_4 ga0_19_5 ga0_19_6 ga0_19_7 ga0_19_8 ga0_19_9 ga0_19_10 ga0_19_11 ga0_19_12 zza0_19 gr_19_0 gr_19_1 gr_19_2 gr_19_3 gr_19_4 gr_19_5 gr_19_6 gr_19_7 gr_19_8 gr_19_9 gr_19_10 gr_19_11 gr_19_12 zzr_19 gx0_19_0 gx0_19_1 gx0_19_2 gx0_19_3 gx0_19_4 gx0_19_5 gx0_19_6 gx0_19_7 gx0_19_8 gx0_19_9 gx0_19_10 gx0_19_11 gx0_19_12 zzx0_19 gg_19_0 gg_19_1 gg_19_2 gg_19_3 gg_19_4 gg_19_5 gg_19_6 gg_19_7 gg_19_8 gg_19_9 gg_19_10 gg_19_11 gg_19_12 zzg_19
  have ga0_20_0 : (w20.alloc (.cells #[.int .i64 ((noteV x0 x1)).1.1, .slice Dh_1 ((noteV x0 x1)).1.2.1.length dh_1, .slice Dh_2 ((noteV x0 x1)).1.2.2.length dh_2, .int .i64 ((noteV x0 x1)).2.1.1, .int .i64 ((noteV x0 x1)).2.1.2.1, .int .i64 ((noteV x0 x1)).2.1.2.2.1, .slice Dh_6 ((noteV x0 x1)).2.1.2.2.2.length dh_6, .int .i64 ((noteV x0 x1)).2.2.1.1, .int .i64 ((noteV x0 x1)).2.2.1.2.1, .int .i64 ((noteV x0 x1)).2.2.1.2.2.1, .slice Dh_10 ((noteV x0 x1)).2.2.1.2.2.2.length dh_10, .slice Dh_11 ((noteV x0 x1)).2.2.2.1.length dh_11, .slice Dh_12 ((noteV x0 x1)).2.2.2.2.length dh_12] 40)).cell? ⟨w.heap.size, 0, none⟩ = some (.int .i64 x0.1.1) := ka0_20b.cell 0
  have ga0_20_1 : (w20.alloc (.cells #[.int .i64 ((noteV x0 x1)).1.1, .slice Dh_1 ((noteV x0 x1)).1.2.1.length dh_1, .slice Dh_2 ((noteV x0 x1)).1.2.2.length dh_2, .int .i64 ((noteV x0 x1)).2.1.1, .int .i64 ((noteV x0 x1)).2.1.2.1, .int .i64 ((noteV x0 x1)).2.1.2.2.1, .slice Dh_6 ((noteV x0 x1)).2.1.2.2.2.length dh_6, .int .i64 ((noteV x0 x1)).2.2.1.1, .int .i64 ((noteV x0 x1)).2.2.1.2.1, .int .i64 ((noteV x0 x1)).2.2.1.2.2.1, .slice Dh_10 ((noteV x0 x1)).2.2.1.2.2.2.length dh_10, .slice Dh_11 ((noteV x0 x1)).2.2.2.1.length dh_11, .slice Dh_12 ((noteV x0 x1)).2.2.2.2.length dh_12] 40)).cell? ⟨w.heap.size, 1, none⟩ = some (.slice A0_1 x0.1.2.1.length c0_1) := ka0_20b.cell 1
  have ga0_20_2 : (w20.alloc (.cells #[.int .i64 ((noteV x0 x1)).1.1, .slice Dh_1 ((noteV x0 x1)).1.2.1.length dh_1, .slice Dh_2 ((noteV x0 x1)).1.2.2.length dh_2, .int .i64 ((noteV x0 x1)).2.1.1, .int .i64 ((noteV x0 x1)).2.1.2.1, .int .i64 ((noteV x0 x1)).2.1.2.2.1, .slice Dh_6 ((noteV x0 x1)).2.1.2.2.2.length dh_6, .int .i64 ((noteV x0 x1)).2.2.1.1, .int .i64 ((noteV x0 x1)).2.2.1.2.1, .int .i64 ((noteV x0 x1)).2.2.1.2.2.1, .slice Dh_10 ((noteV x0 x1)).2.2.1.2.2.2.length dh_10, .slice Dh_11 ((noteV x0 x1)).2.2.2.1.length dh_11, .slice Dh_12 ((noteV x0 x1)).2.2.2.2.length dh_12] 40)).cell? ⟨w.heap.size, 2, none⟩ = some (.slice A0_2 x0.1.2.2.length c0_2) := ka0_20b.cell 2
  have ga0_20_3 : (w20.alloc (.cells #[.int .i64 ((noteV x0 x1)).1.1, .slice Dh_1 ((noteV x0 x1)).1.2.1.length dh_1, .slice Dh_2 ((noteV x0 x1)).1.2.2.length dh_2, .int .i64 ((noteV x0 x1)).2.1.1, .int .i64 ((noteV x0 x1)).2.1.2.1, .int .i64 ((noteV x0 x1)).2.1.2.2.1, .slice Dh_6 ((noteV x0 x1)).2.1.2.2.2.length dh_6, .int .i64 ((noteV x0 x1)).2.2.1.1, .int .i64 ((noteV x0 x1)).2.2.1.2.1, .int .i64 ((noteV x0 x1)).2.2.1.2.2.1, .slice Dh_10 ((noteV x0 x1)).2.2.1.2.2.2.length dh_10, .slice Dh_11 ((noteV x0 x1)).2.2.2.1.length dh_11, .slice Dh_12 ((noteV x0 x1)).2.2.2.2.length dh_12] 40)).cell? ⟨w.heap.size, 3, none⟩ = some (.int .i64 x0.2.1.1) := ka0_20b.cell 3
  have ga0_20_4 : (w20.alloc (.cells #[.int .i64 ((noteV x0 x1)).1.1, .slice Dh_1 ((noteV x0 x1)).1.2.1.length dh_1, .slice Dh_2 ((noteV x0 x1)).1.2.2.length dh_2, .int .i64 ((noteV x0 x1)).2.1.1, .int .i64 ((noteV x0 x1)).2.1.2.1, .int .i64 ((noteV x0 x1)).2.1.2.2.1, .slice Dh_6 ((noteV x0 x1)).2.1.2.2.2.length dh_6, .int .i64 ((noteV x0 x1)).2.2.1.1, .int .i64 ((noteV x0 x1)).2.2.1.2.1, .int .i64 ((noteV x0 x1)).2.2.1.2.2.1, .slice Dh_10 ((noteV x0 x1)).2.2.1.2.2.2.length dh_10, .slice Dh_11 ((noteV x0 x1)).2.2.2.1.length dh_11, .slice Dh_12 ((noteV x0 x1)).2.2.2.2.length dh_12] 40)).cell? ⟨w.heap.size, 4, none⟩ = some (.int .i64 x0.2.1.2.1) := ka0_20b.cell 4
  have ga0_20_5 : (w20.alloc (.cells #[.int .i64 ((noteV x0 x1)).1.1, .slice Dh_1 ((noteV x0 x1)).1.2.1.length dh_1, .slice Dh_2 ((noteV x0 x1)).1.2.2.length dh_2, .int .i64 ((noteV x0 x1)).2.1.1, .int .i64 ((noteV x0 x1)).2.1.2.1, .int .i64 ((noteV x0 x1)).2.1.2.2.1, .slice Dh_6 ((noteV x0 x1)).2.1.2.2.2.length dh_6, .int .i64 ((noteV x0 x1)).2.2.1.1, .int .i64 ((noteV x0 x1)).2.2.1.2.1, .int .i64 ((noteV x0 x1)).2.2.1.2.2.1, .slice Dh_10 ((noteV x0 x1)).2.2.1.2.2.2.length dh_10, .slice Dh_11 ((noteV x0 x1)).2.2.2.1.length dh_11, .slice Dh_12 ((noteV x0 x1)).2.2.2.2.length dh_12] 40)).cell? ⟨w.heap.size, 5, none⟩ = some (.int .i64 x0.2.1.2.2.1) := ka0_20b.cell 5
  have ga0_20_6 : (w20.alloc (.cells #[.int .i64 ((noteV x0 x1)).1.1, .slice Dh_1 ((noteV x0 x1)).1.2.1.length dh_1, .slice Dh_2 ((noteV x0 x1)).1.2.2.length dh_2, .int .i64 ((noteV x0 x1)).2.1.1, .int .i64 ((noteV x0 x1)).2.1.2.1, .int .i64 ((noteV x0 x1)).2.1.2.2.1, .slice Dh_6 ((noteV x0 x1)).2.1.2.2.2.length dh_6, .int .i64 ((noteV x0 x1)).2.2.1.1, .int .i64 ((noteV x0 x1)).2.2.1.2.1, .int .i64 ((noteV x0 x1)).2.2.1.2.2.1, .slice Dh_10 ((noteV x0 x1)).2.2.1.2.2.2.length dh_10, .slice Dh_11 ((noteV x0 x1)).2.2.2.1.length dh_11, .slice Dh_12 ((noteV x0 x1)).2.2.2.2.length dh_12] 40)).cell? ⟨w.heap.size, 6, none⟩ = some (.slice A0_6 x0.2.1.2.2.2.length c0_6) := ka0_20b.cell 6
  have ga0_20_7 : (w20.alloc (.cells #[.int .i64 ((noteV x0 x1)).1.1, .slice Dh_1 ((noteV x0 x1)).1.2.1.length dh_1, .slice Dh_2 ((noteV x0 x1)).1.2.2.length dh_2, .int .i64 ((noteV x0 x1)).2.1.1, .int .i64 ((noteV x0 x1)).2.1.2.1, .int .i64 ((noteV x0 x1)).2.1.2.2.1, .slice Dh_6 ((noteV x0 x1)).2.1.2.2.2.length dh_6, .int .i64 ((noteV x0 x1)).2.2.1.1, .int .i64 ((noteV x0 x1)).2.2.1.2.1, .int .i64 ((noteV x0 x1)).2.2.1.2.2.1, .slice Dh_10 ((noteV x0 x1)).2.2.1.2.2.2.length dh_10, .slice Dh_11 ((noteV x0 x1)).2.2.2.1.length dh_11, .slice Dh_12 ((noteV x0 x1)).2.2.2.2.length dh_12] 40)).cell? ⟨w.heap.size, 7, none⟩ = some (.int .i64 x0.2.2.1.1) := ka0_20b.cell 7
  have ga0_20_8 : (w20.alloc (.cells #[.int .i64 ((noteV x0 x1)).1.1, .slice Dh_1 ((noteV x0 x1)).1.2.1.length dh_1, .slice Dh_2 ((noteV x0 x1)).1.2.2.length dh_2, .int .i64 ((noteV x0 x1)).2.1.1, .int .i64 ((noteV x0 x1)).2.1.2.1, .int .i64 ((noteV x0 x1)).2.1.2.2.1, .slice Dh_6 ((noteV x0 x1)).2.1.2.2.2.length dh_6, .int .i64 ((noteV x0 x1)).2.2.1.1, .int .i64 ((noteV x0 x1)).2.2.1.2.1, .int .i64 ((noteV x0 x1)).2.2.1.2.2.1, .slice Dh_10 ((noteV x0 x1)).2.2.1.2.2.2.length dh_10, .slice Dh_11 ((noteV x0 x1)).2.2.2.1.length dh_11, .slice Dh_12 ((noteV x0 x1)).2.2.2.2.length dh_12] 40)).cell? ⟨w.heap.size, 8, none⟩ = some (.int .i64 x0.2.2.1.2.1) := ka0_20b.cell 8
  have ga0_20_9 : (w20.alloc (.cells #[.int .i64 ((noteV x0 x1)).1.1, .slice Dh_1 ((noteV x0 x1)).1.2.1.length dh_1, .slice Dh_2 ((noteV x0 x1)).1.2.2.length dh_2, .int .i64 ((noteV x0 x1)).2.1.1, .int .i64 ((noteV x0 x1)).2.1.2.1, .int .i64 ((noteV x0 x1)).2.1.2.2.1, .slice Dh_6 ((noteV x0 x1)).2.1.2.2.2.length dh_6, .int .i64 ((noteV x0 x1)).2.2.1.1, .int .i64 ((noteV x0 x1)).2.2.1.2.1, .int .i64 ((noteV x0 x1)).2.2.1.2.2.1, .slice Dh_10 ((noteV x0 x1)).2.2.1.2.2.2.length dh_10, .slice Dh_11 ((noteV x0 x1)).2.2.2.1.length dh_11, .slice Dh_12 ((noteV x0 x1)).2.2.2.2.length dh_12] 40)).cell? ⟨w.heap.size, 9, none⟩ = some (.int .i64 x0.2.2.1.2.2.1) := ka0_20b.cell 9
  have ga0_20_10 : (w20.alloc (.cells #[.int .i64 ((noteV x0 x1)).1.1, .slice Dh_1 ((noteV x0 x1)).1.2.1.length dh_1, .slice Dh_2 ((noteV x0 x1)).1.2.2.length dh_2, .int .i64 ((noteV x0 x1)).2.1.1, .int .i64 ((noteV x0 x1)).2.1.2.1, .int .i64 ((noteV x0 x1)).2.1.2.2.1, .slice Dh_6 ((noteV x0 x1)).2.1.2.2.2.length dh_6, .int .i64 ((noteV x0 x1)).2.2.1.1, .int .i64 ((noteV x0 x1)).2.2.1.2.1, .int .i64 ((noteV x0 x1)).2.2.1.2.2.1, .slice Dh_10 ((noteV x0 x1)).2.2.1.2.2.2.length dh_10, .slice Dh_11 ((noteV x0 x1)).2.2.2.1.length dh_11, .slice Dh_12 ((noteV x0 x1)).2.2.2.2.length dh_12] 40)).cell? ⟨w.heap.size, 10, none⟩ = some (.slice A0_10 x0.2.2.1.2.2.2.length c0_10) := ka0_20b.cell 10
  have ga0_20_11 : (w20.alloc (.cells #[.int .i64 ((noteV x0 x1)).1.1, .slice Dh_1 ((noteV x0 x1)).1.2.1.length dh_1, .slice Dh_2 ((noteV x0 x1)).1.2.2.length dh_2, .int .i64 ((noteV x0 x1)).2.1.1, .int .i64 ((noteV x0 x1)).2.1.2.1, .int .i64 ((noteV x0 x1)).2.1.2.2.1, .slice Dh_6 ((noteV x0 x1)).2.1.2.2.2.length dh_6, .int .i64 ((noteV x0 x1)).2.2.1.1, .int .i64 ((noteV x0 x1)).2.2.1.2.1, .int .i64 ((noteV x0 x1)).2.2.1.2.2.1, .slice Dh_10 ((noteV x0 x1)).2.2.1.2.2.2.length dh_10, .slice Dh_11 ((noteV x0 x1)).2.2.2.1.length dh_11, .slice Dh_12 ((noteV x0 x1)).2.2.2.2.length dh_12] 40)).cell? ⟨w.heap.size, 11, none⟩ = some (.slice A0_11 x0.2.2.2.1.length c0_11) := ka0_20b.cell 11
  have ga0_20_12 : (w20.alloc (.cells #[.int .i64 ((noteV x0 x1)).1.1, .slice Dh_1 ((noteV x0 x1)).1.2.1.length dh_1, .slice Dh_2 ((noteV x0 x1)).1.2.2.length dh_2, .int .i64 ((noteV x0 x1)).2.1.1, .int .i64 ((noteV x0 x1)).2.1.2.1, .int .i64 ((noteV x0 x1)).2.1.2.2.1, .slice Dh_6 ((noteV x0 x1)).2.1.2.2.2.length dh_6, .int .i64 ((noteV x0 x1)).2.2.1.1, .int .i64 ((noteV x0 x1)).2.2.1.2.1, .int .i64 ((noteV x0 x1)).2.2.1.2.2.1, .slice Dh_10 ((noteV x0 x1)).2.2.1.2.2.2.length dh_10, .slice Dh_11 ((noteV x0 x1)).2.2.2.1.length dh_11, .slice Dh_12 ((noteV x0 x1)).2.2.2.2.length dh_12] 40)).cell? ⟨w.heap.size, 12, none⟩ = some (.slice A0_12 x0.2.2.2.2.length c0_12) := ka0_20b.cell 12
  have zza0_20 := ka0_20b.lt
  have gr_20_0 : (w20.alloc (.cells #[.int .i64 ((noteV x0 x1)).1.1, .slice Dh_1 ((noteV x0 x1)).1.2.1.length dh_1, .slice Dh_2 ((noteV x0 x1)).1.2.2.length dh_2, .int .i64 ((noteV x0 x1)).2.1.1, .int .i64 ((noteV x0 x1)).2.1.2.1, .int .i64 ((noteV x0 x1)).2.1.2.2.1, .slice Dh_6 ((noteV x0 x1)).2.1.2.2.2.length dh_6, .int .i64 ((noteV x0 x1)).2.2.1.1, .int .i64 ((noteV x0 x1)).2.2.1.2.1, .int .i64 ((noteV x0 x1)).2.2.1.2.2.1, .slice Dh_10 ((noteV x0 x1)).2.2.1.2.2.2.length dh_10, .slice Dh_11 ((noteV x0 x1)).2.2.2.1.length dh_11, .slice Dh_12 ((noteV x0 x1)).2.2.2.2.length dh_12] 40)).cell? ⟨w4.heap.size, 0, none⟩ = some (.int .i64 ((noteV x0 x1)).1.1) := kr_20b.cell 0
  have gr_20_1 : (w20.alloc (.cells #[.int .i64 ((noteV x0 x1)).1.1, .slice Dh_1 ((noteV x0 x1)).1.2.1.length dh_1, .slice Dh_2 ((noteV x0 x1)).1.2.2.length dh_2, .int .i64 ((noteV x0 x1)).2.1.1, .int .i64 ((noteV x0 x1)).2.1.2.1, .int .i64 ((noteV x0 x1)).2.1.2.2.1, .slice Dh_6 ((noteV x0 x1)).2.1.2.2.2.length dh_6, .int .i64 ((noteV x0 x1)).2.2.1.1, .int .i64 ((noteV x0 x1)).2.2.1.2.1, .int .i64 ((noteV x0 x1)).2.2.1.2.2.1, .slice Dh_10 ((noteV x0 x1)).2.2.1.2.2.2.length dh_10, .slice Dh_11 ((noteV x0 x1)).2.2.2.1.length dh_11, .slice Dh_12 ((noteV x0 x1)).2.2.2.2.length dh_12] 40)).cell? ⟨w4.heap.size, 1, none⟩ = some (.slice Ds_1 ((noteV x0 x1)).1.2.1.length ds_1) := kr_20b.cell 1
  have gr_20_2 : (w20.alloc (.cells #[.int .i64 ((noteV x0 x1)).1.1, .slice Dh_1 ((noteV x0 x1)).1.2.1.length dh_1, .slice Dh_2 ((noteV x0 x1)).1.2.2.length dh_2, .int .i64 ((noteV x0 x1)).2.1.1, .int .i64 ((noteV x0 x1)).2.1.2.1, .int .i64 ((noteV x0 x1)).2.1.2.2.1, .slice Dh_6 ((noteV x0 x1)).2.1.2.2.2.length dh_6, .int .i64 ((noteV x0 x1)).2.2.1.1, .int .i64 ((noteV x0 x1)).2.2.1.2.1, .int .i64 ((noteV x0 x1)).2.2.1.2.2.1, .slice Dh_10 ((noteV x0 x1)).2.2.1.2.2.2.length dh_10, .slice Dh_11 ((noteV x0 x1)).2.2.2.1.length dh_11, .slice Dh_12 ((noteV x0 x1)).2.2.2.2.length dh_12] 40)).cell? ⟨w4.heap.size, 2, none⟩ = some (.slice Ds_2 ((noteV x0 x1)).1.2.2.length ds_2) := kr_20b.cell 2
  have gr_20_3 : (w20.alloc (.cells #[.int .i64 ((noteV x0 x1)).1.1, .slice Dh_1 ((noteV x0 x1)).1.2.1.length dh_1, .slice Dh_2 ((noteV x0 x1)).1.2.2.length dh_2, .int .i64 ((noteV x0 x1)).2.1.1, .int .i64 ((noteV x0 x1)).2.1.2.1, .int .i64 ((noteV x0 x1)).2.1.2.2.1, .slice Dh_6 ((noteV x0 x1)).2.1.2.2.2.length dh_6, .int .i64 ((noteV x0 x1)).2.2.1.1, .int .i64 ((noteV x0 x1)).2.2.1.2.1, .int .i64 ((noteV x0 x1)).2.2.1.2.2.1, .slice Dh_10 ((noteV x0 x1)).2.2.1.2.2.2.length dh_10, .slice Dh_11 ((noteV x0 x1)).2.2.2.1.length dh_11, .slice Dh_12 ((noteV x0 x1)).2.2.2.2.length dh_12] 40)).cell? ⟨w4.heap.size, 3, none⟩ = some (.int .i64 ((noteV x0 x1)).2.1.1) := kr_20b.cell 3
  have gr_20_4 : (w20.alloc (.cells #[.int .i64 ((noteV x0 x1)).1.1, .slice Dh_1 ((noteV x0 x1)).1.2.1.length dh_1, .slice Dh_2 ((noteV x0 x1)).1.2.2.length dh_2, .int .i64 ((noteV x0 x1)).2.1.1, .int .i64 ((noteV x0 x1)).2.1.2.1, .int .i64 ((noteV x0 x1)).2.1.2.2.1, .slice Dh_6 ((noteV x0 x1)).2.1.2.2.2.length dh_6, .int .i64 ((noteV x0 x1)).2.2.1.1, .int .i64 ((noteV x0 x1)).2.2.1.2.1, .int .i64 ((noteV x0 x1)).2.2.1.2.2.1, .slice Dh_10 ((noteV x0 x1)).2.2.1.2.2.2.length dh_10, .slice Dh_11 ((noteV x0 x1)).2.2.2.1.length dh_11, .slice Dh_12 ((noteV x0 x1)).2.2.2.2.length dh_12] 40)).cell? ⟨w4.heap.size, 4, none⟩ = some (.int .i64 ((noteV x0 x1)).2.1.2.1) := kr_20b.cell 4
  have gr_20_5 : (w20.alloc (.cells #[.int .i64 ((noteV x0 x1)).1.1, .slice Dh_1 ((noteV x0 x1)).1.2.1.length dh_1, .slice Dh_2 ((noteV x0 x1)).1.2.2.length dh_2, .int .i64 ((noteV x0 x1)).2.1.1, .int .i64 ((noteV x0 x1)).2.1.2.1, .int .i64 ((noteV x0 x1)).2.1.2.2.1, .slice Dh_6 ((noteV x0 x1)).2.1.2.2.2.length dh_6, .int .i64 ((noteV x0 x1)).2.2.1.1, .int .i64 ((noteV x0 x1)).2.2.1.2.1, .int .i64 ((noteV x0 x1)).2.2.1.2.2.1, .slice Dh_10 ((noteV x0 x1)).2.2.1.2.2.2.length dh_10, .slice Dh_11 ((noteV x0 x1)).2.2.2.1.length dh_11, .slice Dh_12 ((noteV x0 x1)).2.2.2.2.length dh_12] 40)).cell? ⟨w4.heap.size, 5, none⟩ = some (.int .i64 ((noteV x0 x1)).2.1.2.2.1) := kr_20b.cell 5
  have gr_20_6 : (w20.alloc (.cells #[.int .i64 ((noteV x0 x1)).1.1, .slice Dh_1 ((noteV x0 x1)).1.2.1.length dh_1, .slice Dh_2 ((noteV x0 x1)).1.2.2.length dh_2, .int .i64 ((noteV x0 x1)).2.1.1, .int .i64 ((noteV x0 x1)).2.1.2.1, .int .i64 ((noteV x0 x1)).2.1.2.2.1, .slice Dh_6 ((noteV x0 x1)).2.1.2.2.2.length dh_6, .int .i64 ((noteV x0 x1)).2.2.1.1, .int .i64 ((noteV x0 x1)).2.2.1.2.1, .int .i64 ((noteV x0 x1)).2.2.1.2.2.1, .slice Dh_10 ((noteV x0 x1)).2.2.1.2.2.2.length dh_10, .slice Dh_11 ((noteV x0 x1)).2.2.2.1.length dh_11, .slice Dh_12 ((noteV x0 x1)).2.2.2.2.length dh_12] 40)).cell? ⟨w4.heap.size, 6, none⟩ = some (.slice Ds_6 ((noteV x0 x1)).2.1.2.2.2.length ds_6) := kr_20b.cell 6
  have gr_20_7 : (w20.alloc (.cells #[.int .i64 ((noteV x0 x1)).1.1, .slice Dh_1 ((noteV x0 x1)).1.2.1.length dh_1, .slice Dh_2 ((noteV x0 x1)).1.2.2.length dh_2, .int .i64 ((noteV x0 x1)).2.1.1, .int .i64 ((noteV x0 x1)).2.1.2.1, .int .i64 ((noteV x0 x1)).2.1.2.2.1, .slice Dh_6 ((noteV x0 x1)).2.1.2.2.2.length dh_6, .int .i64 ((noteV x0 x1)).2.2.1.1, .int .i64 ((noteV x0 x1)).2.2.1.2.1, .int .i64 ((noteV x0 x1)).2.2.1.2.2.1, .slice Dh_10 ((noteV x0 x1)).2.2.1.2.2.2.length dh_10, .slice Dh_11 ((noteV x0 x1)).2.2.2.1.length dh_11, .slice Dh_12 ((noteV x0 x1)).2.2.2.2.length dh_12] 40)).cell? ⟨w4.heap.size, 7, none⟩ = some (.int .i64 ((noteV x0 x1)).2.2.1.1) := kr_20b.cell 7
  have gr_20_8 : (w20.alloc (.cells #[.int .i64 ((noteV x0 x1)).1.1, .slice Dh_1 ((noteV x0 x1)).1.2.1.length dh_1, .slice Dh_2 ((noteV x0 x1)).1.2.2.length dh_2, .int .i64 ((noteV x0 x1)).2.1.1, .int .i64 ((noteV x0 x1)).2.1.2.1, .int .i64 ((noteV x0 x1)).2.1.2.2.1, .slice Dh_6 ((noteV x0 x1)).2.1.2.2.2.length dh_6, .int .i64 ((noteV x0 x1)).2.2.1.1, .int .i64 ((noteV x0 x1)).2.2.1.2.1, .int .i64 ((noteV x0 x1)).2.2.1.2.2.1, .slice Dh_10 ((noteV x0 x1)).2.2.1.2.2.2.length dh_10, .slice Dh_11 ((noteV x0 x1)).2.2.2.1.length dh_11, .slice Dh_12 ((noteV x0 x1)).2.2.2.2.length dh_12] 40)).cell? ⟨w4.heap.size, 8, none⟩ = some (.int .i64 ((noteV x0 x1)).2.2.1.2.1) := kr_20b.cell 8
  have gr_20_9 : (w20.alloc (.cells #[.int .i64 ((noteV x0 x1)).1.1, .slice Dh_1 ((noteV x0 x1)).1.2.1.length dh_1, .slice Dh_2 ((noteV x0 x1)).1.2.2.length dh_2, .int .i64 ((noteV x0 x1)).2.1.1, .int .i64 ((noteV x0 x1)).2.1.2.1, .int .i64 ((noteV x0 x1)).2.1.2.2.1, .slice Dh_6 ((noteV x0 x1)).2.1.2.2.2.length dh_6, .int .i64 ((noteV x0 x1)).2.2.1.1, .int .i64 ((noteV x0 x1)).2.2.1.2.1, .int .i64 ((noteV x0 x1)).2.2.1.2.2.1, .slice Dh_10 ((noteV x0 x1)).2.2.1.2.2.2.length dh_10, .slice Dh_11 ((noteV x0 x1)).2.2.2.1.length dh_11, .slice Dh_12 ((noteV x0 x1)).2.2.2.2.length dh_12] 40)).cell? ⟨w4.heap.size, 9, none⟩ = some (.int .i64 ((noteV x0 x1)).2.2.1.2.2.1) := kr_20b.cell 9
  have gr_20_10 : (w20.alloc (.cells #[.int .i64 ((noteV x0 x1)).1.1, .slice Dh_1 ((noteV x0 x1)).1.2.1.length dh_1, .slice Dh_2 ((noteV x0 x1)).1.2.2.length dh_2, .int .i64 ((noteV x0 x1)).2.1.1, .int .i64 ((noteV x0 x1)).2.1.2.1, .int .i64 ((noteV x0 x1)).2.1.2.2.1, .slice Dh_6 ((noteV x0 x1)).2.1.2.2.2.length dh_6, .int .i64 ((noteV x0 x1)).2.2.1.1, .int .i64 ((noteV x0 x1)).2.2.1.2.1, .int .i64 ((noteV x0 x1)).2.2.1.2.2.1, .slice Dh_10 ((noteV x0 x1)).2.2.1.2.2.2.length dh_10, .slice Dh_11 ((noteV x0 x1)).2.2.2.1.length dh_11, .slice Dh_12 ((noteV x0 x1)).2.2.2.2.length dh_12] 40)).cell? ⟨w4.heap.size, 10, none⟩ = some (.slice Ds_10 ((noteV x0 x1)).2.2.1.2.2.2.length ds_10) := kr_20b.cell 10
  have gr_20_11 : (w20.alloc (.cells #[.int .i64 ((noteV x0 x1)).1.1, .slice Dh_1 ((noteV x0 x1)).1.2.1.length dh_1, .slice Dh_2 ((noteV x0 x1)).1.2.2.length dh_2, .int .i64 ((noteV x0 x1)).2.1.1, .int .i64 ((noteV x0 x1)).2.1.2.1, .int .i64 ((noteV x0 x1)).2.1.2.2.1, .slice Dh_6 ((noteV x0 x1)).2.1.2.2.2.length dh_6, .int .i64 ((noteV x0 x1)).2.2.1.1, .int .i64 ((noteV x0 x1)).2.2.1.2.1, .int .i64 ((noteV x0 x1)).2.2.1.2.2.1, .slice Dh_10 ((noteV x0 x1)).2.2.1.2.2.2.length dh_10, .slice Dh_11 ((noteV x0 x1)).2.2.2.1.length dh_11, .slice Dh_12 ((noteV x0 x1)).2.2.2.2.length dh_12] 40)).cell? ⟨w4.heap.size, 11, none⟩ = some (.slice Ds_11 ((noteV x0 x1)).2.2.2.1.length ds_11) := kr_20b.cell 11
  have gr_20_12 : (w20.alloc (.cells #[.int .i64 ((noteV x0 x1)).1.1, .slice Dh_1 ((noteV x0 x1)).1.2.1.length dh_1, .slice Dh_2 ((noteV x0 x1)).1.2.2.length dh_2, .int .i64 ((noteV x0 x1)).2.1.1, .int .i64 ((noteV x0 x1)).2.1.2.1, .int .i64 ((noteV x0 x1)).2.1.2.2.1, .slice Dh_6 ((noteV x0 x1)).2.1.2.2.2.length dh_6, .int .i64 ((noteV x0 x1)).2.2.1.1, .int .i64 ((noteV x0 x1)).2.2.1.2.1, .int .i64 ((noteV x0 x1)).2.2.1.2.2.1, .slice Dh_10 ((noteV x0 x1)).2.2.1.2.2.2.length dh_10, .slice Dh_11 ((noteV x0 x1)).2.2.2.1.length dh_11, .slice Dh_12 ((noteV x0 x1)).2.2.2.2.length dh_12] 40)).cell? ⟨w4.heap.size, 12, none⟩ = some (.slice Ds_12 ((noteV x0 x1)).2.2.2.2.length ds_12) := kr_20b.cell 12
  have zzr_20 := kr_20b.lt
  have gx0_20_0 : (w20.alloc (.cells #[.int .i64 ((noteV x0 x1)).1.1, .slice Dh_1 ((noteV x0 x1)).1.2.1.length dh_1, .slice Dh_2 ((noteV x0 x1)).1.2.2.length dh_2, .int .i64 ((noteV x0 x1)).2.1.1, .int .i64 ((noteV x0 x1)).2.1.2.1, .int .i64 ((noteV x0 x1)).2.1.2.2.1, .slice Dh_6 ((noteV x0 x1)).2.1.2.2.2.length dh_6, .int .i64 ((noteV x0 x1)).2.2.1.1, .int .i64 ((noteV x0 x1)).2.2.1.2.1, .int .i64 ((noteV x0 x1)).2.2.1.2.2.1, .slice Dh_10 ((noteV x0 x1)).2.2.1.2.2.2.length dh_10, .slice Dh_11 ((noteV x0 x1)).2.2.2.1.length dh_11, .slice Dh_12 ((noteV x0 x1)).2.2.2.2.length dh_12] 40)).cell? ⟨w5.heap.size, 0, none⟩ = some (.int .i64 x0.1.1) := kx0_20b.cell 0
  have gx0_20_1 : (w20.alloc (.cells #[.int .i64 ((noteV x0 x1)).1.1, .slice Dh_1 ((noteV x0 x1)).1.2.1.length dh_1, .slice Dh_2 ((noteV x0 x1)).1.2.2.length dh_2, .int .i64 ((noteV x0 x1)).2.1.1, .int .i64 ((noteV x0 x1)).2.1.2.1, .int .i64 ((noteV x0 x1)).2.1.2.2.1, .slice Dh_6 ((noteV x0 x1)).2.1.2.2.2.length dh_6, .int .i64 ((noteV x0 x1)).2.2.1.1, .int .i64 ((noteV x0 x1)).2.2.1.2.1, .int .i64 ((noteV x0 x1)).2.2.1.2.2.1, .slice Dh_10 ((noteV x0 x1)).2.2.1.2.2.2.length dh_10, .slice Dh_11 ((noteV x0 x1)).2.2.2.1.length dh_11, .slice Dh_12 ((noteV x0 x1)).2.2.2.2.length dh_12] 40)).cell? ⟨w5.heap.size, 1, none⟩ = some (.slice Dx0_1 x0.1.2.1.length dx0_1) := kx0_20b.cell 1
  have gx0_20_2 : (w20.alloc (.cells #[.int .i64 ((noteV x0 x1)).1.1, .slice Dh_1 ((noteV x0 x1)).1.2.1.length dh_1, .slice Dh_2 ((noteV x0 x1)).1.2.2.length dh_2, .int .i64 ((noteV x0 x1)).2.1.1, .int .i64 ((noteV x0 x1)).2.1.2.1, .int .i64 ((noteV x0 x1)).2.1.2.2.1, .slice Dh_6 ((noteV x0 x1)).2.1.2.2.2.length dh_6, .int .i64 ((noteV x0 x1)).2.2.1.1, .int .i64 ((noteV x0 x1)).2.2.1.2.1, .int .i64 ((noteV x0 x1)).2.2.1.2.2.1, .slice Dh_10 ((noteV x0 x1)).2.2.1.2.2.2.length dh_10, .slice Dh_11 ((noteV x0 x1)).2.2.2.1.length dh_11, .slice Dh_12 ((noteV x0 x1)).2.2.2.2.length dh_12] 40)).cell? ⟨w5.heap.size, 2, none⟩ = some (.slice Dx0_2 x0.1.2.2.length dx0_2) := kx0_20b.cell 2
  have gx0_20_3 : (w20.alloc (.cells #[.int .i64 ((noteV x0 x1)).1.1, .slice Dh_1 ((noteV x0 x1)).1.2.1.length dh_1, .slice Dh_2 ((noteV x0 x1)).1.2.2.length dh_2, .int .i64 ((noteV x0 x1)).2.1.1, .int .i64 ((noteV x0 x1)).2.1.2.1, .int .i64 ((noteV x0 x1)).2.1.2.2.1, .slice Dh_6 ((noteV x0 x1)).2.1.2.2.2.length dh_6, .int .i64 ((noteV x0 x1)).2.2.1.1, .int .i64 ((noteV x0 x1)).2.2.1.2.1, .int .i64 ((noteV x0 x1)).2.2.1.2.2.1, .slice Dh_10 ((noteV x0 x1)).2.2.1.2.2.2.length dh_10, .slice Dh_11 ((noteV x0 x1)).2.2.2.1.length dh_11, .slice Dh_12 ((noteV x0 x1)).2.2.2.2.length dh_12] 40)).cell? ⟨w5.heap.size, 3, none⟩ = some (.int .i64 x0.2.1.1) := kx0_20b.cell 3
  have gx0_20_4 : (w20.alloc (.cells #[.int .i64 ((noteV x0 x1)).1.1, .slice Dh_1 ((noteV x0 x1)).1.2.1.length dh_1, .slice Dh_2 ((noteV x0 x1)).1.2.2.length dh_2, .int .i64 ((noteV x0 x1)).2.1.1, .int .i64 ((noteV x0 x1)).2.1.2.1, .int .i64 ((noteV x0 x1)).2.1.2.2.1, .slice Dh_6 ((noteV x0 x1)).2.1.2.2.2.length dh_6, .int .i64 ((noteV x0 x1)).2.2.1.1, .int .i64 ((noteV x0 x1)).2.2.1.2.1, .int .i64 ((noteV x0 x1)).2.2.1.2.2.1, .slice Dh_10 ((noteV x0 x1)).2.2.1.2.2.2.length dh_10, .slice Dh_11 ((noteV x0 x1)).2.2.2.1.length dh_11, .slice Dh_12 ((noteV x0 x1)).2.2.2.2.length dh_12] 40)).cell? ⟨w5.heap.size, 4, none⟩ = some (.int .i64 x0.2.1.2.1) := kx0_20b.cell 4
  have gx0_20_5 : (w20.alloc (.cells #[.int .i64 ((noteV x0 x1)).1.1, .slice Dh_1 ((noteV x0 x1)).1.2.1.length dh_1, .slice Dh_2 ((noteV x0 x1)).1.2.2.length dh_2, .int .i64 ((noteV x0 x1)).2.1.1, .int .i64 ((noteV x0 x1)).2.1.2.1, .int .i64 ((noteV x0 x1)).2.1.2.2.1, .slice Dh_6 ((noteV x0 x1)).2.1.2.2.2.length dh_6, .int .i64 ((noteV x0 x1)).2.2.1.1, .int .i64 ((noteV x0 x1)).2.2.1.2.1, .int .i64 ((noteV x0 x1)).2.2.1.2.2.1, .slice Dh_10 ((noteV x0 x1)).2.2.1.2.2.2.length dh_10, .slice Dh_11 ((noteV x0 x1)).2.2.2.1.length dh_11, .slice Dh_12 ((noteV x0 x1)).2.2.2.2.length dh_12] 40)).cell? ⟨w5.heap.size, 5, none⟩ = some (.int .i64 x0.2.1.2.2.1) := kx0_20b.cell 5
  have gx0_20_6 : (w20.alloc (.cells #[.int .i64 ((noteV x0 x1)).1.1, .slice Dh_1 ((noteV x0 x1)).1.2.1.length dh_1, .slice Dh_2 ((noteV x0 x1)).1.2.2.length dh_2, .int .i64 ((noteV x0 x1)).2.1.1, .int .i64 ((noteV x0 x1)).2.1.2.1, .int .i64 ((noteV x0 x1)).2.1.2.2.1, .slice Dh_6 ((noteV x0 x1)).2.1.2.2.2.length dh_6, .int .i64 ((noteV x0 x1)).2.2.1.1, .int .i64 ((noteV x0 x1)).2.2.1.2.1, .int .i64 ((noteV x0 x1)).2.2.1.2.2.1, .slice Dh_10 ((noteV x0 x1)).2.2.1.2.2.2.length dh_10, .slice Dh_11 ((noteV x0 x1)).2.2.2.1.length dh_11, .slice Dh_12 ((noteV x0 x1)).2.2.2.2.length dh_12] 40)).cell? ⟨w5.heap.size, 6, none⟩ = some (.slice Dx0_6 x0.2.1.2.2.2.length dx0_6) := kx0_20b.cell 6
  have gx0_20_7 : (w20.alloc (.cells #[.int .i64 ((noteV x0 x1)).1.1, .slice Dh_1 ((noteV x0 x1)).1.2.1.length dh_1, .slice Dh_2 ((noteV x0 x1)).1.2.2.length dh_2, .int .i64 ((noteV x0 x1)).2.1.1, .int .i64 ((noteV x0 x1)).2.1.2.1, .int .i64 ((noteV x0 x1)).2.1.2.2.1, .slice Dh_6 ((noteV x0 x1)).2.1.2.2.2.length dh_6, .int .i64 ((noteV x0 x1)).2.2.1.1, .int .i64 ((noteV x0 x1)).2.2.1.2.1, .int .i64 ((noteV x0 x1)).2.2.1.2.2.1, .slice Dh_10 ((noteV x0 x1)).2.2.1.2.2.2.length dh_10, .slice Dh_11 ((noteV x0 x1)).2.2.2.1.length dh_11, .slice Dh_12 ((noteV x0 x1)).2.2.2.2.length dh_12] 40)).cell? ⟨w5.heap.size, 7, none⟩ = some (.int .i64 x0.2.2.1.1) := kx0_20b.cell 7
  have gx0_20_8 : (w20.alloc (.cells #[.int .i64 ((noteV x0 x1)).1.1, .slice Dh_1 ((noteV x0 x1)).1.2.1.length dh_1, .slice Dh_2 ((noteV x0 x1)).1.2.2.length dh_2, .int .i64 ((noteV x0 x1)).2.1.1, .int .i64 ((noteV x0 x1)).2.1.2.1, .int .i64 ((noteV x0 x1)).2.1.2.2.1, .slice Dh_6 ((noteV x0 x1)).2.1.2.2.2.length dh_6, .int .i64 ((noteV x0 x1)).2.2.1.1, .int .i64 ((noteV x0 x1)).2.2.1.2.1, .int .i64 ((noteV x0 x1)).2.2.1.2.2.1, .slice Dh_10 ((noteV x0 x1)).2.2.1.2.2.2.length dh_10, .slice Dh_11 ((noteV x0 x1)).2.2.2.1.length dh_11, .slice Dh_12 ((noteV x0 x1)).2.2.2.2.length dh_12] 40)).cell? ⟨w5.heap.size, 8, none⟩ = some (.int .i64 x0.2.2.1.2.1) := kx0_20b.cell 8
  have gx0_20_9 : (w20.alloc (.cells #[.int .i64 ((noteV x0 x1)).1.1, .slice Dh_1 ((noteV x0 x1)).1.2.1.length dh_1, .slice Dh_2 ((noteV x0 x1)).1.2.2.length dh_2, .int .i64 ((noteV x0 x1)).2.1.1, .int .i64 ((noteV x0 x1)).2.1.2.1, .int .i64 ((noteV x0 x1)).2.1.2.2.1, .slice Dh_6 ((noteV x0 x1)).2.1.2.2.2.length dh_6, .int .i64 ((noteV x0 x1)).2.2.1.1, .int .i64 ((noteV x0 x1)).2.2.1.2.1, .int .i64 ((noteV x0 x1)).2.2.1.2.2.1, .slice Dh_10 ((noteV x0 x1)).2.2.1.2.2.2.length dh_10, .slice Dh_11 ((noteV x0 x1)).2.2.2.1.length dh_11, .slice Dh_12 ((noteV x0 x1)).2.2.2.2.length dh_12] 40)).cell? ⟨w5.heap.size, 9, none⟩ = some (.int .i64 x0.2.2.1.2.2.1) := kx0_20b.cell 9
  have gx0_20_10 : (w20.alloc (.cells #[.int .i64 ((noteV x0 x1)).1.1, .slice Dh_1 ((noteV x0 x1)).1.2.1.length dh_1, .slice Dh_2 ((noteV x0 x1)).1.2.2.length dh_2, .int .i64 ((noteV x0 x1)).2.1.1, .int .i64 ((noteV x0 x1)).2.1.2.1, .int .i64 ((noteV x0 x1)).2.1.2.2.1, .slice Dh_6 ((noteV x0 x1)).2.1.2.2.2.length dh_6, .int .i64 ((noteV x0 x1)).2.2.1.1, .int .i64 ((noteV x0 x1)).2.2.1.2.1, .int .i64 ((noteV x0 x1)).2.2.1.2.2.1, .slice Dh_10 ((noteV x0 x1)).2.2.1.2.2.2.length dh_10, .slice Dh_11 ((noteV x0 x1)).2.2.2.1.length dh_11, .slice Dh_12 ((noteV x0 x1)).2.2.2.2.length dh_12] 40)).cell? ⟨w5.heap.size, 10, none⟩ = some (.slice Dx0_10 x0.2.2.1.2.2.2.length dx0_10) := kx0_20b.cell 10
  have gx0_20_11 : (w20.alloc (.cells #[.int .i64 ((noteV x0 x1)).1.1, .slice Dh_1 ((noteV x0 x1)).1.2.1.length dh_1, .slice Dh_2 ((noteV x0 x1)).1.2.2.length dh_2, .int .i64 ((noteV x0 x1)).2.1.1, .int .i64 ((noteV x0 x1)).2.1.2.1, .int .i64 ((noteV x0 x1)).2.1.2.2.1, .slice Dh_6 ((noteV x0 x1)).2.1.2.2.2.length dh_6, .int .i64 ((noteV x0 x1)).2.2.1.1, .int .i64 ((noteV x0 x1)).2.2.1.2.1, .int .i64 ((noteV x0 x1)).2.2.1.2.2.1, .slice Dh_10 ((noteV x0 x1)).2.2.1.2.2.2.length dh_10, .slice Dh_11 ((noteV x0 x1)).2.2.2.1.length dh_11, .slice Dh_12 ((noteV x0 x1)).2.2.2.2.length dh_12] 40)).cell? ⟨w5.heap.size, 11, none⟩ = some (.slice Dx0_11 x0.2.2.2.1.length dx0_11) := kx0_20b.cell 11
  have gx0_20_12 : (w20.alloc (.cells #[.int .i64 ((noteV x0 x1)).1.1, .slice Dh_1 ((noteV x0 x1)).1.2.1.length dh_1, .slice Dh_2 ((noteV x0 x1)).1.2.2.length dh_2, .int .i64 ((noteV x0 x1)).2.1.1, .int .i64 ((noteV x0 x1)).2.1.2.1, .int .i64 ((noteV x0 x1)).2.1.2.2.1, .slice Dh_6 ((noteV x0 x1)).2.1.2.2.2.length dh_6, .int .i64 ((noteV x0 x1)).2.2.1.1, .int .i64 ((noteV x0 x1)).2.2.1.2.1, .int .i64 ((noteV x0 x1)).2.2.1.2.2.1, .slice Dh_10 ((noteV x0 x1)).2.2.1.2.2.2.length dh_10, .slice Dh_11 ((noteV x0 x1)).2.2.2.1.length dh_11, .slice Dh_12 ((noteV x0 x1)).2.2.2.2.length dh_12] 40)).cell? ⟨w5.heap.size, 12, none⟩ = some (.slice Dx0_12 x0.2.2.2.2.length dx0_12) := kx0_20b.cell 12
  have zzx0_20 := kx0_20b.lt
  have gg_20_0 : (w20.alloc (.cells #[.int .i64 ((noteV x0 x1)).1.1, .slice Dh_1 ((noteV x0 x1)).1.2.1.length dh_1, .slice Dh_2 ((noteV x0 x1)).1.2.2.length dh_2, .int .i64 ((noteV x0 x1)).2.1.1, .int .i64 ((noteV x0 x1)).2.1.2.1, .int .i64 ((noteV x0 x1)).2.1.2.2.1, .slice Dh_6 ((noteV x0 x1)).2.1.2.2.2.length dh_6, .int .i64 ((noteV x0 x1)).2.2.1.1, .int .i64 ((noteV x0 x1)).2.2.1.2.1, .int .i64 ((noteV x0 x1)).2.2.1.2.2.1, .slice Dh_10 ((noteV x0 x1)).2.2.1.2.2.2.length dh_10, .slice Dh_11 ((noteV x0 x1)).2.2.2.1.length dh_11, .slice Dh_12 ((noteV x0 x1)).2.2.2.2.length dh_12] 40)).cell? ⟨w7.heap.size, 0, none⟩ = some (.int .i64 ((noteV x0 x1)).1.1) := kg_20b.cell 0
  have gg_20_1 : (w20.alloc (.cells #[.int .i64 ((noteV x0 x1)).1.1, .slice Dh_1 ((noteV x0 x1)).1.2.1.length dh_1, .slice Dh_2 ((noteV x0 x1)).1.2.2.length dh_2, .int .i64 ((noteV x0 x1)).2.1.1, .int .i64 ((noteV x0 x1)).2.1.2.1, .int .i64 ((noteV x0 x1)).2.1.2.2.1, .slice Dh_6 ((noteV x0 x1)).2.1.2.2.2.length dh_6, .int .i64 ((noteV x0 x1)).2.2.1.1, .int .i64 ((noteV x0 x1)).2.2.1.2.1, .int .i64 ((noteV x0 x1)).2.2.1.2.2.1, .slice Dh_10 ((noteV x0 x1)).2.2.1.2.2.2.length dh_10, .slice Dh_11 ((noteV x0 x1)).2.2.2.1.length dh_11, .slice Dh_12 ((noteV x0 x1)).2.2.2.2.length dh_12] 40)).cell? ⟨w7.heap.size, 1, none⟩ = some (.slice Dg_1 ((noteV x0 x1)).1.2.1.length dg_1) := kg_20b.cell 1
  have gg_20_2 : (w20.alloc (.cells #[.int .i64 ((noteV x0 x1)).1.1, .slice Dh_1 ((noteV x0 x1)).1.2.1.length dh_1, .slice Dh_2 ((noteV x0 x1)).1.2.2.length dh_2, .int .i64 ((noteV x0 x1)).2.1.1, .int .i64 ((noteV x0 x1)).2.1.2.1, .int .i64 ((noteV x0 x1)).2.1.2.2.1, .slice Dh_6 ((noteV x0 x1)).2.1.2.2.2.length dh_6, .int .i64 ((noteV x0 x1)).2.2.1.1, .int .i64 ((noteV x0 x1)).2.2.1.2.1, .int .i64 ((noteV x0 x1)).2.2.1.2.2.1, .slice Dh_10 ((noteV x0 x1)).2.2.1.2.2.2.length dh_10, .slice Dh_11 ((noteV x0 x1)).2.2.2.1.length dh_11, .slice Dh_12 ((noteV x0 x1)).2.2.2.2.length dh_12] 40)).cell? ⟨w7.heap.size, 2, none⟩ = some (.slice Dg_2 ((noteV x0 x1)).1.2.2.length dg_2) := kg_20b.cell 2
  have gg_20_3 : (w20.alloc (.cells #[.int .i64 ((noteV x0 x1)).1.1, .slice Dh_1 ((noteV x0 x1)).1.2.1.length dh_1, .slice Dh_2 ((noteV x0 x1)).1.2.2.length dh_2, .int .i64 ((noteV x0 x1)).2.1.1, .int .i64 ((noteV x0 x1)).2.1.2.1, .int .i64 ((noteV x0 x1)).2.1.2.2.1, .slice Dh_6 ((noteV x0 x1)).2.1.2.2.2.length dh_6, .int .i64 ((noteV x0 x1)).2.2.1.1, .int .i64 ((noteV x0 x1)).2.2.1.2.1, .int .i64 ((noteV x0 x1)).2.2.1.2.2.1, .slice Dh_10 ((noteV x0 x1)).2.2.1.2.2.2.length dh_10, .slice Dh_11 ((noteV x0 x1)).2.2.2.1.length dh_11, .slice Dh_12 ((noteV x0 x1)).2.2.2.2.length dh_12] 40)).cell? ⟨w7.heap.size, 3, none⟩ = some (.int .i64 ((noteV x0 x1)).2.1.1) := kg_20b.cell 3
  have gg_20_4 : (w20.alloc (.cells #[.int .i64 ((noteV x0 x1)).1.1, .slice Dh_1 ((noteV x0 x1)).1.2.1.length dh_1, .slice Dh_2 ((noteV x0 x1)).1.2.2.length dh_2, .int .i64 ((noteV x0 x1)).2.1.1, .int .i64 ((noteV x0 x1)).2.1.2.1, .int .i64 ((noteV x0 x1)).2.1.2.2.1, .slice Dh_6 ((noteV x0 x1)).2.1.2.2.2.length dh_6, .int .i64 ((noteV x0 x1)).2.2.1.1, .int .i64 ((noteV x0 x1)).2.2.1.2.1, .int .i64 ((noteV x0 x1)).2.2.1.2.2.1, .slice Dh_10 ((noteV x0 x1)).2.2.1.2.2.2.length dh_10, .slice Dh_11 ((noteV x0 x1)).2.2.2.1.length dh_11, .slice Dh_12 ((noteV x0 x1)).2.2.2.2.length dh_12] 40)).cell? ⟨w7.heap.size, 4, none⟩ = some (.int .i64 ((noteV x0 x1)).2.1.2.1) := kg_20b.cell 4
  have gg_20_5 : (w20.alloc (.cells #[.int .i64 ((noteV x0 x1)).1.1, .slice Dh_1 ((noteV x0 x1)).1.2.1.length dh_1, .slice Dh_2 ((noteV x0 x1)).1.2.2.length dh_2, .int .i64 ((noteV x0 x1)).2.1.1, .int .i64 ((noteV x0 x1)).2.1.2.1, .int .i64 ((noteV x0 x1)).2.1.2.2.1, .slice Dh_6 ((noteV x0 x1)).2.1.2.2.2.length dh_6, .int .i64 ((noteV x0 x1)).2.2.1.1, .int .i64 ((noteV x0 x1)).2.2.1.2.1, .int .i64 ((noteV x0 x1)).2.2.1.2.2.1, .slice Dh_10 ((noteV x0 x1)).2.2.1.2.2.2.length dh_10, .slice Dh_11 ((noteV x0 x1)).2.2.2.1.length dh_11, .slice Dh_12 ((noteV x0 x1)).2.2.2.2.length dh_12] 40)).cell? ⟨w7.heap.size, 5, none⟩ = some (.int .i64 ((noteV x0 x1)).2.1.2.2.1) := kg_20b.cell 5
  have gg_20_6 : (w20.alloc (.cells #[.int .i64 ((noteV x0 x1)).1.1, .slice Dh_1 ((noteV x0 x1)).1.2.1.length dh_1, .slice Dh_2 ((noteV x0 x1)).1.2.2.length dh_2, .int .i64 ((noteV x0 x1)).2.1.1, .int .i64 ((noteV x0 x1)).2.1.2.1, .int .i64 ((noteV x0 x1)).2.1.2.2.1, .slice Dh_6 ((noteV x0 x1)).2.1.2.2.2.length dh_6, .int .i64 ((noteV x0 x1)).2.2.1.1, .int .i64 ((noteV x0 x1)).2.2.1.2.1, .int .i64 ((noteV x0 x1)).2.2.1.2.2.1, .slice Dh_10 ((noteV x0 x1)).2.2.1.2.2.2.length dh_10, .slice Dh_11 ((noteV x0 x1)).2.2.2.1.length dh_11, .slice Dh_12 ((noteV x0 x1)).2.2.2.2.length dh_12] 40)).cell? ⟨w7.heap.size, 6, none⟩ = some (.slice Dg_6 ((noteV x0 x1)).2.1.2.2.2.length dg_6) := kg_20b.cell 6
  have gg_20_7 : (w20.alloc (.cells #[.int .i64 ((noteV x0 x1)).1.1, .slice Dh_1 ((noteV x0 x1)).1.2.1.length dh_1, .slice Dh_2 ((noteV x0 x1)).1.2.2.length dh_2, .int .i64 ((noteV x0 x1)).2.1.1, .int .i64 ((noteV x0 x1)).2.1.2.1, .int .i64 ((noteV x0 x1)).2.1.2.2.1, .slice Dh_6 ((noteV x0 x1)).2.1.2.2.2.length dh_6, .int .i64 ((noteV x0 x1)).2.2.1.1, .int .i64 ((noteV x0 x1)).2.2.1.2.1, .int .i64 ((noteV x0 x1)).2.2.1.2.2.1, .slice Dh_10 ((noteV x0 x1)).2.2.1.2.2.2.length dh_10, .slice Dh_11 ((noteV x0 x1)).2.2.2.1.length dh_11, .slice Dh_12 ((noteV x0 x1)).2.2.2.2.length dh_12] 40)).cell? ⟨w7.heap.size, 7, none⟩ = some (.int .i64 ((noteV x0 x1)).2.2.1.1) := kg_20b.cell 7
  have gg_20_8 : (w20.alloc (.cells #[.int .i64 ((noteV x0 x1)).1.1, .slice Dh_1 ((noteV x0 x1)).1.2.1.length dh_1, .slice Dh_2 ((noteV x0 x1)).1.2.2.length dh_2, .int .i64 ((noteV x0 x1)).2.1.1, .int .i64 ((noteV x0 x1)).2.1.2.1, .int .i64 ((noteV x0 x1)).2.1.2.2.1, .slice Dh_6 ((noteV x0 x1)).2.1.2.2.2.length dh_6, .int .i64 ((noteV x0 x1)).2.2.1.1, .int .i64 ((noteV x0 x1)).2.2.1.2.1, .int .i64 ((noteV x0 x1)).2.2.1.2.2.1, .slice Dh_10 ((noteV x0 x1)).2.2.1.2.2.2.length dh_10, .slice Dh_11 ((noteV x0 x1)).2.2.2.1.length dh_11, .slice Dh_12 ((noteV x0 x1)).2.2.2.2.length dh_12] 40)).cell? ⟨w7.heap.size, 8, none⟩ = some (.int .i64 ((noteV x0 x1)).2.2.1.2.1) := kg_20b.cell 8
  have gg_20_9 : (w20.alloc (.cells #[.int .i64 ((noteV x0 x1)).1.1, .slice Dh_1 ((noteV x0 x1)).1.2.1.length dh_1, .slice Dh_2 ((noteV x0 x1)).1.2.2.length dh_2, .int .i64 ((noteV x0 x1)).2.1.1, .int .i64 ((noteV x0 x1)).2.1.2.1, .int .i64 ((noteV x0 x1)).2.1.2.2.1, .slice Dh_6 ((noteV x0 x1)).2.1.2.2.2.length dh_6, .int .i64 ((noteV x0 x1)).2.2.1.1, .int .i64 ((noteV x0 x1)).2.2.1.2.1, .int .i64 ((noteV x0 x1)).2.2.1.2.2.1, .slice Dh_10 ((noteV x0 x1)).2.2.1.2.2.2.length dh_10, .slice Dh_11 ((noteV x0 x1)).2.2.2.1.length dh_11, .slice Dh_12 ((noteV x0 x1)).2.2.2.2.length dh_12] 40)).cell? ⟨w7.heap.size, 9, none⟩ = some (.int .i64 ((noteV x0 x1)).2.2.1.2.2.1) := kg_20b.cell 9
  have gg_20_10 : (w20.alloc (.cells #[.int .i64 ((noteV x0 x1)).1.1, .slice Dh_1 ((noteV x0 x1)).1.2.1.length dh_1, .slice Dh_2 ((noteV x0 x1)).1.2.2.length dh_2, .int .i64 ((noteV x0 x1)).2.1.1, .int .i64 ((noteV x0 x1)).2.1.2.1, .int .i64 ((noteV x0 x1)).2.1.2.2.1, .slice Dh_6 ((noteV x0 x1)).2.1.2.2.2.length dh_6, .int .i64 ((noteV x0 x1)).2.2.1.1, .int .i64 ((noteV x0 x1)).2.2.1.2.1, .int .i64 ((noteV x0 x1)).2.2.1.2.2.1, .slice Dh_10 ((noteV x0 x1)).2.2.1.2.2.2.length dh_10, .slice Dh_11 ((noteV x0 x1)).2.2.2.1.length dh_11, .slice Dh_12 ((noteV x0 x1)).2.2.2.2.length dh_12] 40)).cell? ⟨w7.heap.size, 10, none⟩ = some (.slice Dg_10 ((noteV x0 x1)).2.2.1.2.2.2.length dg_10) := kg_20b.cell 10
  have gg_20_11 : (w20.alloc (.cells #[.int .i64 ((noteV x0 x1)).1.1, .slice Dh_1 ((noteV x0 x1)).1.2.1.length dh_1, .slice Dh_2 ((noteV x0 x1)).1.2.2.length dh_2, .int .i64 ((noteV x0 x1)).2.1.1, .int .i64 ((noteV x0 x1)).2.1.2.1, .int .i64 ((noteV x0 x1)).2.1.2.2.1, .slice Dh_6 ((noteV x0 x1)).2.1.2.2.2.length dh_6, .int .i64 ((noteV x0 x1)).2.2.1.1, .int .i64 ((noteV x0 x1)).2.2.1.2.1, .int .i64 ((noteV x0 x1)).2.2.1.2.2.1, .slice Dh_10 ((noteV x0 x1)).2.2.1.2.2.2.length dh_10, .slice Dh_11 ((noteV x0 x1)).2.2.2.1.length dh_11, .slice Dh_12 ((noteV x0 x1)).2.2.2.2.length dh_12] 40)).cell? ⟨w7.heap.size, 11, none⟩ = some (.slice Dg_11 ((noteV x0 x1)).2.2.2.1.length dg_11) := kg_20b.cell 11
  have gg_20_12 : (w20.alloc (.cells #[.int .i64 ((noteV x0 x1)).1.1, .slice Dh_1 ((noteV x0 x1)).1.2.1.length dh_1, .slice Dh_2 ((noteV x0 x1)).1.2.2.length dh_2, .int .i64 ((noteV x0 x1)).2.1.1, .int .i64 ((noteV x0 x1)).2.1.2.1, .int .i64 ((noteV x0 x1)).2.1.2.2.1, .slice Dh_6 ((noteV x0 x1)).2.1.2.2.2.length dh_6, .int .i64 ((noteV x0 x1)).2.2.1.1, .int .i64 ((noteV x0 x1)).2.2.1.2.1, .int .i64 ((noteV x0 x1)).2.2.1.2.2.1, .slice Dh_10 ((noteV x0 x1)).2.2.1.2.2.2.length dh_10, .slice Dh_11 ((noteV x0 x1)).2.2.2.1.length dh_11, .slice Dh_12 ((noteV x0 x1)).2.2.2.2.length dh_12] 40)).cell? ⟨w7.heap.size, 12, none⟩ = some (.slice Dg_12 ((noteV x0 x1)).2.2.2.2.length dg_12) := kg_20b.cell 12
  have zzg_20 := kg_20b.lt
  have gh_20_0 : (w20.alloc (.cells #[.int .i64 ((noteV x0 x1)).1.1, .slice Dh_1 ((noteV x0 x1)).1.2.1.length dh_1, .slice Dh_2 ((noteV x0 x1)).1.2.2.length dh_2, .int .i64 ((noteV x0 x1)).2.1.1, .int .i64 ((noteV x0 x1)).2.1.2.1, .int .i64 ((noteV x0 x1)).2.1.2.2.1, .slice Dh_6 ((noteV x0 x1)).2.1.2.2.2.length dh_6, .int .i64 ((noteV x0 x1)).2.2.1.1, .int .i64 ((noteV x0 x1)).2.2.1.2.1, .int .i64 ((noteV x0 x1)).2.2.1.2.2.1, .slice Dh_10 ((noteV x0 x1)).2.2.1.2.2.2.length dh_10, .slice Dh_11 ((noteV x0 x1)).2.2.2.1.length dh_11, .slice Dh_12 ((noteV x0 x1)).2.2.2.2.length dh_12] 40)).cell? ⟨w20.heap.size, 0, none⟩ = some (.int .i64 ((noteV x0 x1)).1.1) := kh_20b.cell 0
  have gh_20_1 : (w20.alloc (.cells #[.int .i64 ((noteV x0 x1)).1.1, .slice Dh_1 ((noteV x0 x1)).1.2.1.length dh_1, .slice Dh_2 ((noteV x0 x1)).1.2.2.length dh_2, .int .i64 ((noteV x0 x1)).2.1.1, .int .i64 ((noteV x0 x1)).2.1.2.1, .int .i64 ((noteV x0 x1)).2.1.2.2.1, .slice Dh_6 ((noteV x0 x1)).2.1.2.2.2.length dh_6, .int .i64 ((noteV x0 x1)).2.2.1.1, .int .i64 ((noteV x0 x1)).2.2.1.2.1, .int .i64 ((noteV x0 x1)).2.2.1.2.2.1, .slice Dh_10 ((noteV x0 x1)).2.2.1.2.2.2.length dh_10, .slice Dh_11 ((noteV x0 x1)).2.2.2.1.length dh_11, .slice Dh_12 ((noteV x0 x1)).2.2.2.2.length dh_12] 40)).cell? ⟨w20.heap.size, 1, none⟩ = some (.slice Dh_1 ((noteV x0 x1)).1.2.1.length dh_1) := kh_20b.cell 1
  have gh_20_2 : (w20.alloc (.cells #[.int .i64 ((noteV x0 x1)).1.1, .slice Dh_1 ((noteV x0 x1)).1.2.1.length dh_1, .slice Dh_2 ((noteV x0 x1)).1.2.2.length dh_2, .int .i64 ((noteV x0 x1)).2.1.1, .int .i64 ((noteV x0 x1)).2.1.2.1, .int .i64 ((noteV x0 x1)).2.1.2.2.1, .slice Dh_6 ((noteV x0 x1)).2.1.2.2.2.length dh_6, .int .i64 ((noteV x0 x1)).2.2.1.1, .int .i64 ((noteV x0 x1)).2.2.1.2.1, .int .i64 ((noteV x0 x1)).2.2.1.2.2.1, .slice Dh_10 ((noteV x0 x1)).2.2.1.2.2.2.length dh_10, .slice Dh_11 ((noteV x0 x1)).2.2.2.1.length dh_11, .slice Dh_12 ((noteV x0 x1)).2.2.2.2.length dh_12] 40)).cell? ⟨w20.heap.size, 2, none⟩ = some (.slice Dh_2 ((noteV x0 x1)).1.2.2.length dh_2) := kh_20b.cell 2
  have gh_20_3 : (w20.alloc (.cells #[.int .i64 ((noteV x0 x1)).1.1, .slice Dh_1 ((noteV x0 x1)).1.2.1.length dh_1, .slice Dh_2 ((noteV x0 x1)).1.2.2.length dh_2, .int .i64 ((noteV x0 x1)).2.1.1, .int .i64 ((noteV x0 x1)).2.1.2.1, .int .i64 ((noteV x0 x1)).2.1.2.2.1, .slice Dh_6 ((noteV x0 x1)).2.1.2.2.2.length dh_6, .int .i64 ((noteV x0 x1)).2.2.1.1, .int .i64 ((noteV x0 x1)).2.2.1.2.1, .int .i64 ((noteV x0 x1)).2.2.1.2.2.1, .slice Dh_10 ((noteV x0 x1)).2.2.1.2.2.2.length dh_10, .slice Dh_11 ((noteV x0 x1)).2.2.2.1.length dh_11, .slice Dh_12 ((noteV x0 x1)).2.2.2.2.length dh_12] 40)).cell? ⟨w20.heap.size, 3, none⟩ = some (.int .i64 ((noteV x0 x1)).2.1.1) := kh_20b.cell 3
  have gh_20_4 : (w20.alloc (.cells #[.int .i64 ((noteV x0 x1)).1.1, .slice Dh_1 ((noteV x0 x1)).1.2.1.length dh_1, .slice Dh_2 ((noteV x0 x1)).1.2.2.length dh_2, .int .i64 ((noteV x0 x1)).2.1.1, .int .i64 ((noteV x0 x1)).2.1.2.1, .int .i64 ((noteV x0 x1)).2.1.2.2.1, .slice Dh_6 ((noteV x0 x1)).2.1.2.2.2.length dh_6, .int .i64 ((noteV x0 x1)).2.2.1.1, .int .i64 ((noteV x0 x1)).2.2.1.2.1, .int .i64 ((noteV x0 x1)).2.2.1.2.2.1, .slice Dh_10 ((noteV x0 x1)).2.2.1.2.2.2.length dh_10, .slice Dh_11 ((noteV x0 x1)).2.2.2.1.length dh_11, .slice Dh_12 ((noteV x0 x1)).2.2.2.2.length dh_12] 40)).cell? ⟨w20.heap.size, 4, none⟩ = some (.int .i64 ((noteV x0 x1)).2.1.2.1) := kh_20b.cell 4
  have gh_20_5 : (w20.alloc (.cells #[.int .i64 ((noteV x0 x1)).1.1, .slice Dh_1 ((noteV x0 x1)).1.2.1.length dh_1, .slice Dh_2 ((noteV x0 x1)).1.2.2.length dh_2, .int .i64 ((noteV x0 x1)).2.1.1, .int .i64 ((noteV x0 x1)).2.1.2.1, .int .i64 ((noteV x0 x1)).2.1.2.2.1, .slice Dh_6 ((noteV x0 x1)).2.1.2.2.2.length dh_6, .int .i64 ((noteV x0 x1)).2.2.1.1, .int .i64 ((noteV x0 x1)).2.2.1.2.1, .int .i64 ((noteV x0 x1)).2.2.1.2.2.1, .slice Dh_10 ((noteV x0 x1)).2.2.1.2.2.2.length dh_10, .slice Dh_11 ((noteV x0 x1)).2.2.2.1.length dh_11, .slice Dh_12 ((noteV x0 x1)).2.2.2.2.length dh_12] 40)).cell? ⟨w20.heap.size, 5, none⟩ = some (.int .i64 ((noteV x0 x1)).2.1.2.2.1) := kh_20b.cell 5
  have gh_20_6 : (w20.alloc (.cells #[.int .i64 ((noteV x0 x1)).1.1, .slice Dh_1 ((noteV x0 x1)).1.2.1.length dh_1, .slice Dh_2 ((noteV x0 x1)).1.2.2.length dh_2, .int .i64 ((noteV x0 x1)).2.1.1, .int .i64 ((noteV x0 x1)).2.1.2.1, .int .i64 ((noteV x0 x1)).2.1.2.2.1, .slice Dh_6 ((noteV x0 x1)).2.1.2.2.2.length dh_6, .int .i64 ((noteV x0 x1)).2.2.1.1, .int .i64 ((noteV x0 x1)).2.2.1.2.1, .int .i64 ((noteV x0 x1)).2.2.1.2.2.1, .slice Dh_10 ((noteV x0 x1)).2.2.1.2.2.2.length dh_10, .slice Dh_11 ((noteV x0 x1)).2.2.2.1.length dh_11, .slice Dh_12 ((noteV x0 x1)).2.2.2.2.length dh_12] 40)).cell? ⟨w20.heap.size, 6, none⟩ = some (.slice Dh_6 ((noteV x0 x1)).2.1.2.2.2.length dh_6) := kh_20b.cell 6
  have gh_20_7 : (w20.alloc (.cells #[.int .i64 ((noteV x0 x1)).1.1, .slice Dh_1 ((noteV x0 x1)).1.2.1.length dh_1, .slice Dh_2 ((noteV x0 x1)).1.2.2.length dh_2, .int .i64 ((noteV x0 x1)).2.1.1, .int .i64 ((noteV x0 x1)).2.1.2.1, .int .i64 ((noteV x0 x1)).2.1.2.2.1, .slice Dh_6 ((noteV x0 x1)).2.1.2.2.2.length dh_6, .int .i64 ((noteV x0 x1)).2.2.1.1, .int .i64 ((noteV x0 x1)).2.2.1.2.1, .int .i64 ((noteV x0 x1)).2.2.1.2.2.1, .slice Dh_10 ((noteV x0 x1)).2.2.1.2.2.2.length dh_10, .slice Dh_11 ((noteV x0 x1)).2.2.2.1.length dh_11, .slice Dh_12 ((noteV x0 x1)).2.2.2.2.length dh_12] 40)).cell? ⟨w20.heap.size, 7, none⟩ = some (.int .i64 ((noteV x0 x1)).2.2.1.1) := kh_20b.cell 7
  have gh_20_8 : (w20.alloc (.cells #[.int .i64 ((noteV x0 x1)).1.1, .slice Dh_1 ((noteV x0 x1)).1.2.1.length dh_1, .slice Dh_2 ((noteV x0 x1)).1.2.2.length dh_2, .int .i64 ((noteV x0 x1)).2.1.1, .int .i64 ((noteV x0 x1)).2.1.2.1, .int .i64 ((noteV x0 x1)).2.1.2.2.1, .slice Dh_6 ((noteV x0 x1)).2.1.2.2.2.length dh_6, .int .i64 ((noteV x0 x1)).2.2.1.1, .int .i64 ((noteV x0 x1)).2.2.1.2.1, .int .i64 ((noteV x0 x1)).2.2.1.2.2.1, .slice Dh_10 ((noteV x0 x1)).2.2.1.2.2.2.length dh_10, .slice Dh_11 ((noteV x0 x1)).2.2.2.1.length dh_11, .slice Dh_12 ((noteV x0 x1)).2.2.2.2.length dh_12] 40)).cell? ⟨w20.heap.size, 8, none⟩ = some (.int .i64 ((noteV x0 x1)).2.2.1.2.1) := kh_20b.cell 8
  have gh_20_9 : (w20.alloc (.cells #[.int .i64 ((noteV x0 x1)).1.1, .slice Dh_1 ((noteV x0 x1)).1.2.1.length dh_1, .slice Dh_2 ((noteV x0 x1)).1.2.2.length dh_2, .int .i64 ((noteV x0 x1)).2.1.1, .int .i64 ((noteV x0 x1)).2.1.2.1, .int .i64 ((noteV x0 x1)).2.1.2.2.1, .slice Dh_6 ((noteV x0 x1)).2.1.2.2.2.length dh_6, .int .i64 ((noteV x0 x1)).2.2.1.1, .int .i64 ((noteV x0 x1)).2.2.1.2.1, .int .i64 ((noteV x0 x1)).2.2.1.2.2.1, .slice Dh_10 ((noteV x0 x1)).2.2.1.2.2.2.length dh_10, .slice Dh_11 ((noteV x0 x1)).2.2.2.1.length dh_11, .slice Dh_12 ((noteV x0 x1)).2.2.2.2.length dh_12] 40)).cell? ⟨w20.heap.size, 9, none⟩ = some (.int .i64 ((noteV x0 x1)).2.2.1.2.2.1) := kh_20b.cell 9
  have gh_20_10 : (w20.alloc (.cells #[.int .i64 ((noteV x0 x1)).1.1, .slice Dh_1 ((noteV x0 x1)).1.2.1.length dh_1, .slice Dh_2 ((noteV x0 x1)).1.2.2.length dh_2, .int .i64 ((noteV x0 x1)).2.1.1, .int .i64 ((noteV x0 x1)).2.1.2.1, .int .i64 ((noteV x0 x1)).2.1.2.2.1, .slice Dh_6 ((noteV x0 x1)).2.1.2.2.2.length dh_6, .int .i64 ((noteV x0 x1)).2.2.1.1, .int .i64 ((noteV x0 x1)).2.2.1.2.1, .int .i64 ((noteV x0 x1)).2.2.1.2.2.1, .slice Dh_10 ((noteV x0 x1)).2.2.1.2.2.2.length dh_10, .slice Dh_11 ((noteV x0 x1)).2.2.2.1.length dh_11, .slice Dh_12 ((noteV x0 x1)).2.2.2.2.length dh_12] 40)).cell? ⟨w20.heap.size, 10, none⟩ = some (.slice Dh_10 ((noteV x0 x1)).2.2.1.2.2.2.length dh_10) := kh_20b.cell 10
  have gh_20_11 : (w20.alloc (.cells #[.int .i64 ((noteV x0 x1)).1.1, .slice Dh_1 ((noteV x0 x1)).1.2.1.length dh_1, .slice Dh_2 ((noteV x0 x1)).1.2.2.length dh_2, .int .i64 ((noteV x0 x1)).2.1.1, .int .i64 ((noteV x0 x1)).2.1.2.1, .int .i64 ((noteV x0 x1)).2.1.2.2.1, .slice Dh_6 ((noteV x0 x1)).2.1.2.2.2.length dh_6, .int .i64 ((noteV x0 x1)).2.2.1.1, .int .i64 ((noteV x0 x1)).2.2.1.2.1, .int .i64 ((noteV x0 x1)).2.2.1.2.2.1, .slice Dh_10 ((noteV x0 x1)).2.2.1.2.2.2.length dh_10, .slice Dh_11 ((noteV x0 x1)).2.2.2.1.length dh_11, .slice Dh_12 ((noteV x0 x1)).2.2.2.2.length dh_12] 40)).cell? ⟨w20.heap.size, 11, none⟩ = some (.slice Dh_11 ((noteV x0 x1)).2.2.2.1.length dh_11) := kh_20b.cell 11
  have gh_20_12 : (w20.alloc (.cells #[.int .i64 ((noteV x0 x1)).1.1, .slice Dh_1 ((noteV x0 x1)).1.2.1.length dh_1, .slice Dh_2 ((noteV x0 x1)).1.2.2.length dh_2, .int .i64 ((noteV x0 x1)).2.1.1, .int .i64 ((noteV x0 x1)).2.1.2.1, .int .i64 ((noteV x0 x1)).2.1.2.2.1, .slice Dh_6 ((noteV x0 x1)).2.1.2.2.2.length dh_6, .int .i64 ((noteV x0 x1)).2.2.1.1, .int .i64 ((noteV x0 x1)).2.2.1.2.1, .int .i64 ((noteV x0 x1)).2.2.1.2.2.1, .slice Dh_10 ((noteV x0 x1)).2.2.1.2.2.2.length dh_10, .slice Dh_11 ((noteV x0 x1)).2.2.2.1.length dh_11, .slice Dh_12 ((noteV x0 x1)).2.2.2.2.length dh_12] 40)).cell? ⟨w20.heap.size, 12, none⟩ = some (.slice Dh_12 ((noteV x0 x1)).2.2.2.2.length dh_12) := kh_20b.cell 12
  have zzh_20 := kh_20b.lt
  go_wp2_with fail
  refine (c_eqCache _ _ ((noteV x0 x1)) ((noteV x0 x1)) _ ⟨_, rfl, good_Cache.wide (good_Cache.own_rep oh_20b) (Nat.zero_le _) (by omega)⟩ ⟨_, rfl, good_Cache.wide os_20b (Nat.le_refl _) (by omega)⟩).mono ?_
  rintro e w21 ⟨be2, rfl, hbe2, u21⟩
  have uu21 := ub20.trans u21
  have zs21 := u21.size
  have ka0_21 := ka0_20b.up u21
  have kr_21 := kr_20b.up u21
  have kx0_21 := kx0_20b.up u21
  have kg_21 := kg_20b.up u21
  have kh_21 := kh_20b.up u21
  have os_21 := good_Cache.keep os_20b (u21.keeps (by omega))
  clear os_20b
  have mkg_21 := good_Cache.own_keep mkg_20b (fun y hy => u21.block y (Nat.lt_of_lt_of_le (good_Cache.own_in mkg_20b y hy).2 (by omega)))
  clear mkg_20b
  have oz0_21 := good_Cache.own_keep oz0_20b (fun y hy => u21.block y (Nat.lt_of_lt_of_le (good_Cache.own_in oz0_20b y hy).2 (by omega)))
  clear oz0_20b
  have oz1_21 := (good_L good_I).own_keep oz1_20b (fun y hy => u21.block y (Nat.lt_of_lt_of_le ((good_L good_I).own_in oz1_20b y hy).2 (by omega)))
  clear oz1_20b
  have oh_21 := good_Cache.own_keep oh_20b (fun y hy => u21.block y (Nat.lt_of_lt_of_le (good_Cache.own_in oh_20b y hy).2 (by omega)))
  clear oh_20b
  obtain rfl : be2 = true := by simpa using hbe2
  clear hbe2 u21
  clear ga0_20_0 ga0_20_1 ga0_20_2 ga0_20_3 ga0_20_4 ga0_20_5 ga0_20_6 ga0_20_7 ga0_20_8 ga0_20_9 ga0_20_10 ga0_20_11 ga0_20_12 zza0_20 gr_20_0 gr_20_1 gr_20_2 gr_20_3 gr_20_4 gr_20_5 gr_20_6 gr_20_7 gr_20_8 gr_20_9 gr_20_10 gr_20_11 gr_20_12 zzr_20 gx0_20_0 gx0_20_1 gx0_20_2 gx0_20_3 gx0_20_4 gx0_20_5 gx0_20_6 gx0_20_7 gx0_20_8 gx0_20_9 gx0_20_10 gx0_20_11 gx0_20_12 zzx0_20 gg_20_0 gg_20_1 gg_20_2 gg_20_3 gg_20_4 gg_20_5 gg_20_6 gg_20_7 gg_20_8 gg_20_9 gg_20_10 gg_20_11 gg_20_12 zzg_20 gh_20_0 gh_20_1 gh_20_2 gh_20_3 gh_20_4 gh_20_5 gh_20_6 gh_20_7 gh_20_8 gh_20_9 gh_20_10 gh_20_11 gh_20_12 zzh_20
  have ga0_21_0 : w21.cell? ⟨w.heap.size, 0, none⟩ = some (.int .i64 x0.1.1) := ka0_21.cell 0
  have ga0_21_1 : w21.cell? ⟨w.heap.size, 1, none⟩ = some (.slice A0_1 x0.1.2.1.length c0_1) := ka0_21.cell 1
  have ga0_21_2 : w21.cell? ⟨w.heap.size, 2, none⟩ = some (.slice A0_2 x0.1.2.2.length c0_2) := ka0_21.cell 2
  have ga0_21_3 : w21.cell? ⟨w.heap.size, 3, none⟩ = some (.int .i64 x0.2.1.1) := ka0_21.cell 3
  have ga0_21_4 : w21.cell? ⟨w.heap.size, 4, none⟩ = some (.int .i64 x0.2.1.2.1) := ka0_21.cell 4
  have ga0_21_5 : w21.cell? ⟨w.heap.size, 5, none⟩ = some (.int .i64 x0.2.1.2.2.1) := ka0_21.cell 5
  have ga0_21_6 : w21.cell? ⟨w.heap.size, 6, none⟩ = some (.slice A0_6 x0.2.1.2.2.2.length c0_6) := ka0_21.cell 6
  have ga0_21_7 : w21.cell? ⟨w.heap.size, 7, none⟩ = some (.int .i64 x0.2.2.1.1) := ka0_21.cell 7
  have ga0_21_8 : w21.cell? ⟨w.heap.size, 8, none⟩ = some (.int .i64 x0.2.2.1.2.1) := ka0_21.cell 8
  have ga0_21_9 : w21.cell? ⟨w.heap.size, 9, none⟩ = some (.int .i64 x0.2.2.1.2.2.1) := ka0_21.cell 9
  have ga0_21_10 : w21.cell? ⟨w.heap.size, 10, none⟩ = some (.slice A0_10 x0.2.2.1.2.2.2.length c0_10) := ka0_21.cell 10
  have ga0_21_11 : w21.cell? ⟨w.heap.size, 11, none⟩ = some (.slice A0_11 x0.2.2.2.1.length c0_11) := ka0_21.cell 11
  have ga0_21_12 : w21.cell? ⟨w.heap.size, 12, none⟩ = some (.slice A0_12 x0.2.2.2.2.length c0_12) := ka0_21.cell 12
  have zza0_21 := ka0_21.lt
  have gr_21_0 : w21.cell? ⟨w4.heap.size, 0, none⟩ = some (.int .i64 ((noteV x0 x1)).1.1) := kr_21.cell 0
  have gr_21_1 : w21.cell? ⟨w4.heap.size, 1, none⟩ = some (.slice Ds_1 ((noteV x0 x1)).1.2.1.length ds_1) := kr_21.cell 1
  have gr_21_2 : w21.cell? ⟨w4.heap.size, 2, none⟩ = some (.slice Ds_2 ((noteV x0 x1)).1.2.2.length ds_2) := kr_21.cell 2
  have gr_21_3 : w21.cell? ⟨w4.heap.size, 3, none⟩ = some (.int .i64 ((noteV x0 x1)).2.1.1) := kr_21.cell 3
  have gr_21_4 : w21.cell? ⟨w4.heap.size, 4, none⟩ = some (.int .i64 ((noteV x0 x1)).2.1.2.1) := kr_21.cell 4
  have gr_21_5 : w21.cell? ⟨w4.heap.size, 5, none⟩ = some (.int .i64 ((noteV x0 x1)).2.1.2.2.1) := kr_21.cell 5
  have gr_21_6 : w21.cell? ⟨w4.heap.size, 6, none⟩ = some (.slice Ds_6 ((noteV x0 x1)).2.1.2.2.2.length ds_6) := kr_21.cell 6
  have gr_21_7 : w21.cell? ⟨w4.heap.size, 7, none⟩ = some (.int .i64 ((noteV x0 x1)).2.2.1.1) := kr_21.cell 7
  have gr_21_8 : w21.cell? ⟨w4.heap.size, 8, none⟩ = some (.int .i64 ((noteV x0 x1)).2.2.1.2.1) := kr_21.cell 8
  have gr_21_9 : w21.cell? ⟨w4.heap.size, 9, none⟩ = some (.int .i64 ((noteV x0 x1)).2.2.1.2.2.1) := kr_21.cell 9
  have gr_21_10 : w21.cell? ⟨w4.heap.size, 10, none⟩ = some (.slice Ds_10 ((noteV x0 x1)).2.2.1.2.2.2.length ds_10) := kr_21.cell 10
  have gr_21_11 : w21.cell? ⟨w4.heap.size, 11, none⟩ = some (.slice Ds_11 ((noteV x0 x1)).2.2.2.1.length ds_11) := kr_21.cell 11
  have gr_21_12 : w21.cell? ⟨w4.heap.size, 12, none⟩ = some (.slice Ds_12 ((noteV x0 x1)).2.2.2.2.length ds_12) := kr_21.cell 12
  have zzr_21 := kr_21.lt
  have gx0_21_0 : w21.cell? ⟨w5.heap.size, 0, none⟩ = some (.int .i64 x0.1.1) := kx0_21.cell 0
  have gx0_21_1 : w21.cell? ⟨w5.heap.size, 1, none⟩ = some (.slice Dx0_1 x0.1.2.1.length dx0_1) := kx0_21.cell 1
  have gx0_21_2 : w21.cell? ⟨w5.heap.size, 2, none⟩ = some (.slice Dx0_2 x0.1.2.2.length dx0_2) := kx0_21.cell 2
  have gx0_21_3 : w21.cell? ⟨w5.heap.size, 3, none⟩ = some (.int .i64 x0.2.1.1) := kx0_21.cell 3
  have gx0_21_4 : w21.cell? ⟨w5.heap.size, 4, none⟩ = some (.int .i64 x0.2.1.2.1) := kx0_21.cell 4
  have gx0_21_5 : w21.cell? ⟨w5.heap.size, 5, none⟩ = some (.int .i64 x0.2.1.2.2.1) := kx0_21.cell 5
  have gx0_21_6 : w21.cell? ⟨w5.heap.size, 6, none⟩ = some (.slice Dx0_6 x0.2.1.2.2.2.length dx0_6) := kx0_21.cell 6
  have gx0_21_7 : w21.cell? ⟨w5.heap.size, 7, none⟩ = some (.int .i64 x0.2.2.1.1) := kx0_21.cell 7
  have gx0_21_8 : w21.cell? ⟨w5.heap.size, 8, none⟩ = some (.int .i64 x0.2.2.1.2.1) := kx0_21.cell 8
  have gx0_21_9 : w21.cell? ⟨w5.heap.size, 9, none⟩ = some (.int .i64 x0.2.2.1.2.2.1) := kx0_21.cell 9
  have gx0_21_10 : w21.cell? ⟨w5.heap.size, 10, none⟩ = some (.slice Dx0_10 x0.2.2.1.2.2.2.length dx0_10) := kx0_21.cell 10
  have gx0_21_11 : w21.cell? ⟨w5.heap.size, 11, none⟩ = some (.slice Dx0_11 x0.2.2.2.1.length dx0_11) := kx0_21.cell 11
  have gx0_21_12 : w21.cell? ⟨w5.heap.size, 12, none⟩ = some (.slice Dx0_12 x0.2.2.2.2.length dx0_12) := kx0_21.cell 12
  have zzx0_21 := kx0_21.lt
  have gg_21_0 : w21.cell? ⟨w7.heap.size, 0, none⟩ = some (.int .i64 ((noteV x0 x1)).1.1) := kg_21.cell 0
  have gg_21_1 : w21.cell? ⟨w7.heap.size, 1, none⟩ = some (.slice Dg_1 ((noteV x0 x1)).1.2.1.length dg_1) := kg_21.cell 1
  have gg_21_2 : w21.cell? ⟨w7.heap.size, 2, none⟩ = some (.slice Dg_2 ((noteV x0 x1)).1.2.2.length dg_2) := kg_21.cell 2
  have gg_21_3 : w21.cell? ⟨w7.heap.size, 3, none⟩ = some (.int .i64 ((noteV x0 x1)).2.1.1) := kg_21.cell 3
  have gg_21_4 : w21.cell? ⟨w7.heap.size, 4, none⟩ = some (.int .i64 ((noteV x0 x1)).2.1.2.1) := kg_21.cell 4
  have gg_21_5 : w21.cell? ⟨w7.heap.size, 5, none⟩ = some (.int .i64 ((noteV x0 x1)).2.1.2.2.1) := kg_21.cell 5
  have gg_21_6 : w21.cell? ⟨w7.heap.size, 6, none⟩ = some (.slice Dg_6 ((noteV x0 x1)).2.1.2.2.2.length dg_6) := kg_21.cell 6
  have gg_21_7 : w21.cell? ⟨w7.heap.size, 7, none⟩ = some (.int .i64 ((noteV x0 x1)).2.2.1.1) := kg_21.cell 7
  have gg_21_8 : w21.cell? ⟨w7.heap.size, 8, none⟩ = some (.int .i64 ((noteV x0 x1)).2.2.1.2.1) := kg_21.cell 8
  have gg_21_9 : w21.cell? ⟨w7.heap.size, 9, none⟩ = some (.int .i64 ((noteV x0 x1)).2.2.1.2.2.1) := kg_21.cell 9
  have gg_21_10 : w21.cell? ⟨w7.heap.size, 10, none⟩ = some (.slice Dg_10 ((noteV x0 x1)).2.2.1.2.2.2.length dg_10) := kg_21.cell 10
  have gg_21_11 : w21.cell? ⟨w7.heap.size, 11, none⟩ = some (.slice Dg_11 ((noteV x0 x1)).2.2.2.1.length dg_11) := kg_21.cell 11
  have gg_21_12 : w21.cell? ⟨w7.heap.size, 12, none⟩ = some (.slice Dg_12 ((noteV x0 x1)).2.2.2.2.length dg_12) := kg_21.cell 12
  have zzg_21 := kg_21.lt
  have gh_21_0 : w21.cell? ⟨w20.heap.size, 0, none⟩ = some (.int .i64 ((noteV x0 x1)).1.1) := kh_21.cell 0
  have gh_21_1 : w21.cell? ⟨w20.heap.size, 1, none⟩ = some (.slice Dh_1 ((noteV x0 x1)).1.2.1.length dh_1) := kh_21.cell 1
  have gh_21_2 : w21.cell? ⟨w20.heap.size, 2, none⟩ = some (.slice Dh_2 ((noteV x0 x1)).1.2.2.length dh_2) := kh_21.cell 2
  have gh_21_3 : w21.cell? ⟨w20.heap.size, 3, none⟩ = some (.int .i64 ((noteV x0 x1)).2.1.1) := kh_21.cell 3
  have gh_21_4 : w21.cell? ⟨w20.heap.size, 4, none⟩ = some (.int .i64 ((noteV x0 x1)).2.1.2.1) := kh_21.cell 4
  have gh_21_5 : w21.cell? ⟨w20.heap.size, 5, none⟩ = some (.int .i64 ((noteV x0 x1)).2.1.2.2.1) := kh_21.cell 5
  have gh_21_6 : w21.cell? ⟨w20.heap.size, 6, none⟩ = some (.slice Dh_6 ((noteV x0 x1)).2.1.2.2.2.length dh_6) := kh_21.cell 6
  have gh_21_7 : w21.cell? ⟨w20.heap.size, 7, none⟩ = some (.int .i64 ((noteV x0 x1)).2.2.1.1) := kh_21.cell 7
  have gh_21_8 : w21.cell? ⟨w20.heap.size, 8, none⟩ = some (.int .i64 ((noteV x0 x1)).2.2.1.2.1) := kh_21.cell 8
  have gh_21_9 : w21.cell? ⟨w20.heap.size, 9, none⟩ = some (.int .i64 ((noteV x0 x1)).2.2.1.2.2.1) := kh_21.cell 9
  have gh_21_10 : w21.cell? ⟨w20.heap.size, 10, none⟩ = some (.slice Dh_10 ((noteV x0 x1)).2.2.1.2.2.2.length dh_10) := kh_21.cell 10
  have gh_21_11 : w21.cell? ⟨w20.heap.size, 11, none⟩ = some (.slice Dh_11 ((noteV x0 x1)).2.2.2.1.length dh_11) := kh_21.cell 11
  have gh_21_12 : w21.cell? ⟨w20.heap.size, 12, none⟩ = some (.slice Dh_12 ((noteV x0 x1)).2.2.2.2.length dh_12) := kh_21.cell 12
  have zzh_21 := kh_21.lt
  go_wp2_with fail
  have hib := gmT_Cache.idem ((noteV x0 x1)) 1
  have hsb := gmT_Cache.same ((noteV x0 x1)) 1
  have hcbb : (1 : Int) + (mmTCache.cnt (mmTCache.mark ((noteV x0 x1)) 1) : Nat) ≤ 1000000000 := by rw [hsb]; exact cbg
  refine (c_heldCache _ (mmTCache.mark ((noteV x0 x1)) 1) _ _ ⟨_, rfl, good_Cache.wide (good_Cache.own_rep mkg_21) (Nat.zero_le _) (by omega)⟩ hib (by omega) hcbb).mono ?_
  rintro e w22 ⟨rfl, u22⟩
  have uu22 := uu21.trans u22
  have zs22 := u22.size
  have ka0_22 := ka0_21.up u22
  have kr_22 := kr_21.up u22
  have kx0_22 := kx0_21.up u22
  have kg_22 := kg_21.up u22
  have kh_22 := kh_21.up u22
  have os_22 := good_Cache.keep os_21 (u22.keeps (by omega))
  clear os_21
  have mkg_22 := good_Cache.own_keep mkg_21 (fun y hy => u22.block y (Nat.lt_of_lt_of_le (good_Cache.own_in mkg_21 y hy).2 (by omega)))
  clear mkg_21
  have oz0_22 := good_Cache.own_keep oz0_21 (fun y hy => u22.block y (Nat.lt_of_lt_of_le (good_Cache.own_in oz0_21 y hy).2 (by omega)))
  clear oz0_21
  have oz1_22 := (good_L good_I).own_keep oz1_21 (fun y hy => u22.block y (Nat.lt_of_lt_of_le ((good_L good_I).own_in oz1_21 y hy).2 (by omega)))
  clear oz1_21
  have oh_22 := good_Cache.own_keep oh_21 (fun y hy => u22.block y (Nat.lt_of_lt_of_le (good_Cache.own_in oh_21 y hy).2 (by omega)))
  clear oh_21
  rw [hsb]
  clear hib hsb hcbb u22
  clear ga0_21_0 ga0_21_1 ga0_21_2 ga0_21_3 ga0_21_4 ga0_21_5 ga0_21_6 ga0_21_7 ga0_21_8 ga0_21_9 ga0_21_10 ga0_21_11 ga0_21_12 zza0_21 gr_21_0 gr_21_1 gr_21_2 gr_21_3 gr_21_4 gr_21_5 gr_21_6 gr_21_7 gr_21_8 gr_21_9 gr_21_10 gr_21_11 gr_21_12 zzr_21 gx0_21_0 gx0_21_1 gx0_21_2 gx0_21_3 gx0_21_4 gx0_21_5 gx0_21_6 gx0_21_7 gx0_21_8 gx0_21_9 gx0_21_10 gx0_21_11 gx0_21_12 zzx0_21 gg_21_0 gg_21_1 gg_21_2 gg_21_3 gg_21_4 gg_21_5 gg_21_6 gg_21_7 gg_21_8 gg_21_9 gg_21_10 gg_21_11 gg_21_12 zzg_21 gh_21_0 gh_21_1 gh_21_2 gh_21_3 gh_21_4 gh_21_5 gh_21_6 gh_21_7 gh_21_8 gh_21_9 gh_21_10 gh_21_11 gh_21_12 zzh_21
  have ga0_22_0 : w22.cell? ⟨w.heap.size, 0, none⟩ = some (.int .i64 x0.1.1) := ka0_22.cell 0
  have ga0_22_1 : w22.cell? ⟨w.heap.size, 1, none⟩ = some (.slice A0_1 x0.1.2.1.length c0_1) := ka0_22.cell 1
  have ga0_22_2 : w22.cell? ⟨w.heap.size, 2, none⟩ = some (.slice A0_2 x0.1.2.2.length c0_2) := ka0_22.cell 2
  have ga0_22_3 : w22.cell? ⟨w.heap.size, 3, none⟩ = some (.int .i64 x0.2.1.1) := ka0_22.cell 3
  have ga0_22_4 : w22.cell? ⟨w.heap.size, 4, none⟩ = some (.int .i64 x0.2.1.2.1) := ka0_22.cell 4
  have ga0_22_5 : w22.cell? ⟨w.heap.size, 5, none⟩ = some (.int .i64 x0.2.1.2.2.1) := ka0_22.cell 5
  have ga0_22_6 : w22.cell? ⟨w.heap.size, 6, none⟩ = some (.slice A0_6 x0.2.1.2.2.2.length c0_6) := ka0_22.cell 6
  have ga0_22_7 : w22.cell? ⟨w.heap.size, 7, none⟩ = some (.int .i64 x0.2.2.1.1) := ka0_22.cell 7
  have ga0_22_8 : w22.cell? ⟨w.heap.size, 8, none⟩ = some (.int .i64 x0.2.2.1.2.1) := ka0_22.cell 8
  have ga0_22_9 : w22.cell? ⟨w.heap.size, 9, none⟩ = some (.int .i64 x0.2.2.1.2.2.1) := ka0_22.cell 9
  have ga0_22_10 : w22.cell? ⟨w.heap.size, 10, none⟩ = some (.slice A0_10 x0.2.2.1.2.2.2.length c0_10) := ka0_22.cell 10
  have ga0_22_11 : w22.cell? ⟨w.heap.size, 11, none⟩ = some (.slice A0_11 x0.2.2.2.1.length c0_11) := ka0_22.cell 11
  have ga0_22_12 : w22.cell? ⟨w.heap.size, 12, none⟩ = some (.slice A0_12 x0.2.2.2.2.length c0_12) := ka0_22.cell 12
  have zza0_22 := ka0_22.lt
  have gr_22_0 : w22.cell? ⟨w4.heap.size, 0, none⟩ = some (.int .i64 ((noteV x0 x1)).1.1) := kr_22.cell 0
  have gr_22_1 : w22.cell? ⟨w4.heap.size, 1, none⟩ = some (.slice Ds_1 ((noteV x0 x1)).1.2.1.length ds_1) := kr_22.cell 1
  have gr_22_2 : w22.cell? ⟨w4.heap.size, 2, none⟩ = some (.slice Ds_2 ((noteV x0 x1)).1.2.2.length ds_2) := kr_22.cell 2
  have gr_22_3 : w22.cell? ⟨w4.heap.size, 3, none⟩ = some (.int .i64 ((noteV x0 x1)).2.1.1) := kr_22.cell 3
  have gr_22_4 : w22.cell? ⟨w4.heap.size, 4, none⟩ = some (.int .i64 ((noteV x0 x1)).2.1.2.1) := kr_22.cell 4
  have gr_22_5 : w22.cell? ⟨w4.heap.size, 5, none⟩ = some (.int .i64 ((noteV x0 x1)).2.1.2.2.1) := kr_22.cell 5
  have gr_22_6 : w22.cell? ⟨w4.heap.size, 6, none⟩ = some (.slice Ds_6 ((noteV x0 x1)).2.1.2.2.2.length ds_6) := kr_22.cell 6
  have gr_22_7 : w22.cell? ⟨w4.heap.size, 7, none⟩ = some (.int .i64 ((noteV x0 x1)).2.2.1.1) := kr_22.cell 7
  have gr_22_8 : w22.cell? ⟨w4.heap.size, 8, none⟩ = some (.int .i64 ((noteV x0 x1)).2.2.1.2.1) := kr_22.cell 8
  have gr_22_9 : w22.cell? ⟨w4.heap.size, 9, none⟩ = some (.int .i64 ((noteV x0 x1)).2.2.1.2.2.1) := kr_22.cell 9
  have gr_22_10 : w22.cell? ⟨w4.heap.size, 10, none⟩ = some (.slice Ds_10 ((noteV x0 x1)).2.2.1.2.2.2.length ds_10) := kr_22.cell 10
  have gr_22_11 : w22.cell? ⟨w4.heap.size, 11, none⟩ = some (.slice Ds_11 ((noteV x0 x1)).2.2.2.1.length ds_11) := kr_22.cell 11
  have gr_22_12 : w22.cell? ⟨w4.heap.size, 12, none⟩ = some (.slice Ds_12 ((noteV x0 x1)).2.2.2.2.length ds_12) := kr_22.cell 12
  have zzr_22 := kr_22.lt
  have gx0_22_0 : w22.cell? ⟨w5.heap.size, 0, none⟩ = some (.int .i64 x0.1.1) := kx0_22.cell 0
  have gx0_22_1 : w22.cell? ⟨w5.heap.size, 1, none⟩ = some (.slice Dx0_1 x0.1.2.1.length dx0_1) := kx0_22.cell 1
  have gx0_22_2 : w22.cell? ⟨w5.heap.size, 2, none⟩ = some (.slice Dx0_2 x0.1.2.2.length dx0_2) := kx0_22.cell 2
  have gx0_22_3 : w22.cell? ⟨w5.heap.size, 3, none⟩ = some (.int .i64 x0.2.1.1) := kx0_22.cell 3
  have gx0_22_4 : w22.cell? ⟨w5.heap.size, 4, none⟩ = some (.int .i64 x0.2.1.2.1) := kx0_22.cell 4
  have gx0_22_5 : w22.cell? ⟨w5.heap.size, 5, none⟩ = some (.int .i64 x0.2.1.2.2.1) := kx0_22.cell 5
  have gx0_22_6 : w22.cell? ⟨w5.heap.size, 6, none⟩ = some (.slice Dx0_6 x0.2.1.2.2.2.length dx0_6) := kx0_22.cell 6
  have gx0_22_7 : w22.cell? ⟨w5.heap.size, 7, none⟩ = some (.int .i64 x0.2.2.1.1) := kx0_22.cell 7
  have gx0_22_8 : w22.cell? ⟨w5.heap.size, 8, none⟩ = some (.int .i64 x0.2.2.1.2.1) := kx0_22.cell 8
  have gx0_22_9 : w22.cell? ⟨w5.heap.size, 9, none⟩ = some (.int .i64 x0.2.2.1.2.2.1) := kx0_22.cell 9
  have gx0_22_10 : w22.cell? ⟨w5.heap.size, 10, none⟩ = some (.slice Dx0_10 x0.2.2.1.2.2.2.length dx0_10) := kx0_22.cell 10
  have gx0_22_11 : w22.cell? ⟨w5.heap.size, 11, none⟩ = some (.slice Dx0_11 x0.2.2.2.1.length dx0_11) := kx0_22.cell 11
  have gx0_22_12 : w22.cell? ⟨w5.heap.size, 12, none⟩ = some (.slice Dx0_12 x0.2.2.2.2.length dx0_12) := kx0_22.cell 12
  have zzx0_22 := kx0_22.lt
  have gg_22_0 : w22.cell? ⟨w7.heap.size, 0, none⟩ = some (.int .i64 ((noteV x0 x1)).1.1) := kg_22.cell 0
  have gg_22_1 : w22.cell? ⟨w7.heap.size, 1, none⟩ = some (.slice Dg_1 ((noteV x0 x1)).1.2.1.length dg_1) := kg_22.cell 1
  have gg_22_2 : w22.cell? ⟨w7.heap.size, 2, none⟩ = some (.slice Dg_2 ((noteV x0 x1)).1.2.2.length dg_2) := kg_22.cell 2
  have gg_22_3 : w22.cell? ⟨w7.heap.size, 3, none⟩ = some (.int .i64 ((noteV x0 x1)).2.1.1) := kg_22.cell 3
  have gg_22_4 : w22.cell? ⟨w7.heap.size, 4, none⟩ = some (.int .i64 ((noteV x0 x1)).2.1.2.1) := kg_22.cell 4
  have gg_22_5 : w22.cell? ⟨w7.heap.size, 5, none⟩ = some (.int .i64 ((noteV x0 x1)).2.1.2.2.1) := kg_22.cell 5
  have gg_22_6 : w22.cell? ⟨w7.heap.size, 6, none⟩ = some (.slice Dg_6 ((noteV x0 x1)).2.1.2.2.2.length dg_6) := kg_22.cell 6
  have gg_22_7 : w22.cell? ⟨w7.heap.size, 7, none⟩ = some (.int .i64 ((noteV x0 x1)).2.2.1.1) := kg_22.cell 7
  have gg_22_8 : w22.cell? ⟨w7.heap.size, 8, none⟩ = some (.int .i64 ((noteV x0 x1)).2.2.1.2.1) := kg_22.cell 8
  have gg_22_9 : w22.cell? ⟨w7.heap.size, 9, none⟩ = some (.int .i64 ((noteV x0 x1)).2.2.1.2.2.1) := kg_22.cell 9
  have gg_22_10 : w22.cell? ⟨w7.heap.size, 10, none⟩ = some (.slice Dg_10 ((noteV x0 x1)).2.2.1.2.2.2.length dg_10) := kg_22.cell 10
  have gg_22_11 : w22.cell? ⟨w7.heap.size, 11, none⟩ = some (.slice Dg_11 ((noteV x0 x1)).2.2.2.1.length dg_11) := kg_22.cell 11
  have gg_22_12 : w22.cell? ⟨w7.heap.size, 12, none⟩ = some (.slice Dg_12 ((noteV x0 x1)).2.2.2.2.length dg_12) := kg_22.cell 12
  have zzg_22 := kg_22.lt
  have gh_22_0 : w22.cell? ⟨w20.heap.size, 0, none⟩ = some (.int .i64 ((noteV x0 x1)).1.1) := kh_22.cell 0
  have gh_22_1 : w22.cell? ⟨w20.heap.size, 1, none⟩ = some (.slice Dh_1 ((noteV x0 x1)).1.2.1.length dh_1) := kh_22.cell 1
  have gh_22_2 : w22.cell? ⟨w20.heap.size, 2, none⟩ = some (.slice Dh_2 ((noteV x0 x1)).1.2.2.length dh_2) := kh_22.cell 2
  have gh_22_3 : w22.cell? ⟨w20.heap.size, 3, none⟩ = some (.int .i64 ((noteV x0 x1)).2.1.1) := kh_22.cell 3
  have gh_22_4 : w22.cell? ⟨w20.heap.size, 4, none⟩ = some (.int .i64 ((noteV x0 x1)).2.1.2.1) := kh_22.cell 4
  have gh_22_5 : w22.cell? ⟨w20.heap.size, 5, none⟩ = some (.int .i64 ((noteV x0 x1)).2.1.2.2.1) := kh_22.cell 5
  have gh_22_6 : w22.cell? ⟨w20.heap.size, 6, none⟩ = some (.slice Dh_6 ((noteV x0 x1)).2.1.2.2.2.length dh_6) := kh_22.cell 6
  have gh_22_7 : w22.cell? ⟨w20.heap.size, 7, none⟩ = some (.int .i64 ((noteV x0 x1)).2.2.1.1) := kh_22.cell 7
  have gh_22_8 : w22.cell? ⟨w20.heap.size, 8, none⟩ = some (.int .i64 ((noteV x0 x1)).2.2.1.2.1) := kh_22.cell 8
  have gh_22_9 : w22.cell? ⟨w20.heap.size, 9, none⟩ = some (.int .i64 ((noteV x0 x1)).2.2.1.2.2.1) := kh_22.cell 9
  have gh_22_10 : w22.cell? ⟨w20.heap.size, 10, none⟩ = some (.slice Dh_10 ((noteV x0 x1)).2.2.1.2.2.2.length dh_10) := kh_22.cell 10
  have gh_22_11 : w22.cell? ⟨w20.heap.size, 11, none⟩ = some (.slice Dh_11 ((noteV x0 x1)).2.2.2.1.length dh_11) := kh_22.cell 11
  have gh_22_12 : w22.cell? ⟨w20.heap.size, 12, none⟩ = some (.slice Dh_12 ((noteV x0 x1)).2.2.2.2.length dh_12) := kh_22.cell 12
  have zzh_22 := kh_22.lt
  go_wp2_with fail
  go_ret
  exact ⟨rfl, uu22⟩
end Go.Proofs.YtfehlcbaalbajaaGreat
