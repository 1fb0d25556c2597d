/-
  The walk of FnExactEndTop: for every input it returns true.
-/
import Derived.Test.YtidfeipilleafaaEt2
import Derived.Test.YtidfeipilleafaaLd
import Derived.Deep.RegionHeld3
namespace Go.Proofs.Ytidfeipilleafaa
open Go.RowKit
set_option linter.unusedVariables false
set_option linter.unusedSimpArgs false

set_option maxRecDepth 100000 in
set_option maxHeartbeats 16000000 in
theorem w0_FnExactEndTop (w : World) (v0 : Value) (x0 : TCache) (h0 : AV shCache w v0 x0) :
    Calls Try.prog 4 #[v0] w fun e w' => e = .returned (.bool true) ∧ Up w w' := by
  have hv0 := h0
  obtain ⟨cs0, rfl, h0⟩ := h0
  obtain ⟨A0_1, c0_1, A0_2, c0_2, A0_6, c0_6, A0_10, c0_10, A0_11, c0_11, A0_12, c0_12, rfl, _⟩ := openCache h0
  clear h0
  have ka0_0 : Bk (w.alloc (.cells #[.int .i64 x0.1.1, .slice A0_1 x0.1.2.1.length c0_1, .slice A0_2 x0.1.2.2.length c0_2, .int .i64 x0.2.1.1, .int .i64 x0.2.1.2.1, .int .i64 x0.2.1.2.2.1, .slice A0_6 x0.2.1.2.2.2.length c0_6, .int .i64 x0.2.2.1.1, .int .i64 x0.2.2.1.2.1, .int .i64 x0.2.2.1.2.2.1, .slice A0_10 x0.2.2.1.2.2.2.length c0_10, .slice A0_11 x0.2.2.2.1.length c0_11, .slice A0_12 x0.2.2.2.2.length c0_12] 34)) (w.heap.size) 34 #[.int .i64 x0.1.1, .slice A0_1 x0.1.2.1.length c0_1, .slice A0_2 x0.1.2.2.length c0_2, .int .i64 x0.2.1.1, .int .i64 x0.2.1.2.1, .int .i64 x0.2.1.2.2.1, .slice A0_6 x0.2.1.2.2.2.length c0_6, .int .i64 x0.2.2.1.1, .int .i64 x0.2.2.1.2.1, .int .i64 x0.2.2.1.2.2.1, .slice A0_10 x0.2.2.1.2.2.2.length c0_10, .slice A0_11 x0.2.2.2.1.length c0_11, .slice A0_12 x0.2.2.2.2.length c0_12] := by simpa using Bk.new w 34 #[.int .i64 x0.1.1, .slice A0_1 x0.1.2.1.length c0_1, .slice A0_2 x0.1.2.2.length c0_2, .int .i64 x0.2.1.1, .int .i64 x0.2.1.2.1, .int .i64 x0.2.1.2.2.1, .slice A0_6 x0.2.1.2.2.2.length c0_6, .int .i64 x0.2.2.1.1, .int .i64 x0.2.2.1.2.1, .int .i64 x0.2.2.1.2.2.1, .slice A0_10 x0.2.2.1.2.2.2.length c0_10, .slice A0_11 x0.2.2.2.1.length c0_11, .slice A0_12 x0.2.2.2.2.length c0_12]
  have uu0 : Up w (w.alloc (.cells #[.int .i64 x0.1.1, .slice A0_1 x0.1.2.1.length c0_1, .slice A0_2 x0.1.2.2.length c0_2, .int .i64 x0.2.1.1, .int .i64 x0.2.1.2.1, .int .i64 x0.2.1.2.2.1, .slice A0_6 x0.2.1.2.2.2.length c0_6, .int .i64 x0.2.2.1.1, .int .i64 x0.2.2.1.2.1, .int .i64 x0.2.2.1.2.2.1, .slice A0_10 x0.2.2.1.2.2.2.length c0_10, .slice A0_11 x0.2.2.2.1.length c0_11, .slice A0_12 x0.2.2.2.2.length c0_12] 34)) := (Up.refl w).alloc _
  have zs0 := uu0.size
  have zs0b : (w.alloc (.cells #[.int .i64 x0.1.1, .slice A0_1 x0.1.2.1.length c0_1, .slice A0_2 x0.1.2.2.length c0_2, .int .i64 x0.2.1.1, .int .i64 x0.2.1.2.1, .int .i64 x0.2.1.2.2.1, .slice A0_6 x0.2.1.2.2.2.length c0_6, .int .i64 x0.2.2.1.1, .int .i64 x0.2.2.1.2.1, .int .i64 x0.2.2.1.2.2.1, .slice A0_10 x0.2.2.1.2.2.2.length c0_10, .slice A0_11 x0.2.2.2.1.length c0_11, .slice A0_12 x0.2.2.2.2.length c0_12] 34)).heap.size = w.heap.size + 1 := by simp
  go_enter Try.func4, Try.ntmps4
  go_wp2_with fail
  refine (c_szCache _ x0 _ _ (hv0.up good_Cache uu0) (by omega) (by omega)).mono ?_
  rintro e w1 ⟨rfl, u1⟩
  have uu1 := uu0.trans u1
  have zs1 := u1.size
  have ka0_1 := ka0_0.up u1
  by_cases q0 : ¬ ((shCache.sz x0 : Nat) : Int) ≤ 1048576
  · rw [szR_no (by omega)]
    go_wp2_with fail
    go_ret
    exact ⟨rfl, uu1⟩
  replace q0 := Decidable.of_not_not q0
  rw [szR_yes q0]
  have ga0_1_0 : w1.cell? ⟨w.heap.size, 0, none⟩ = some (.int .i64 x0.1.1) := ka0_1.cell 0
  have ga0_1_1 : w1.cell? ⟨w.heap.size, 1, none⟩ = some (.slice A0_1 x0.1.2.1.length c0_1) := ka0_1.cell 1
  have ga0_1_2 : w1.cell? ⟨w.heap.size, 2, none⟩ = some (.slice A0_2 x0.1.2.2.length c0_2) := ka0_1.cell 2
  have ga0_1_3 : w1.cell? ⟨w.heap.size, 3, none⟩ = some (.int .i64 x0.2.1.1) := ka0_1.cell 3
  have ga0_1_4 : w1.cell? ⟨w.heap.size, 4, none⟩ = some (.int .i64 x0.2.1.2.1) := ka0_1.cell 4
  have ga0_1_5 : w1.cell? ⟨w.heap.size, 5, none⟩ = some (.int .i64 x0.2.1.2.2.1) := ka0_1.cell 5
  have ga0_1_6 : w1.cell? ⟨w.heap.size, 6, none⟩ = some (.slice A0_6 x0.2.1.2.2.2.length c0_6) := ka0_1.cell 6
  have ga0_1_7 : w1.cell? ⟨w.heap.size, 7, none⟩ = some (.int .i64 x0.2.2.1.1) := ka0_1.cell 7
  have ga0_1_8 : w1.cell? ⟨w.heap.size, 8, none⟩ = some (.int .i64 x0.2.2.1.2.1) := ka0_1.cell 8
  have ga0_1_9 : w1.cell? ⟨w.heap.size, 9, none⟩ = some (.int .i64 x0.2.2.1.2.2.1) := ka0_1.cell 9
  have ga0_1_10 : w1.cell? ⟨w.heap.size, 10, none⟩ = some (.slice A0_10 x0.2.2.1.2.2.2.length c0_10) := ka0_1.cell 10
  have ga0_1_11 : w1.cell? ⟨w.heap.size, 11, none⟩ = some (.slice A0_11 x0.2.2.2.1.length c0_11) := ka0_1.cell 11
  have ga0_1_12 : w1.cell? ⟨w.heap.size, 12, none⟩ = some (.slice A0_12 x0.2.2.2.2.length c0_12) := ka0_1.cell 12
  have zza0_1 := ka0_1.lt
  clear u1
  go_wp2_with fail
  have hn0 : shCache.sz x0 ≤ 1048576 := by omega
  refine (c_toCache _ x0 _ (hv0.up good_Cache uu1) hn0).mono ?_
  rintro e w2 ⟨csp0, blp0, rfl, op0, ndp0, u2⟩
  obtain ⟨Dp0_1, dp0_1, _, Dp0_2, dp0_2, _, Dp0_6, dp0_6, _, Dp0_10, dp0_10, _, Dp0_11, dp0_11, _, Dp0_12, dp0_12, _, rfl, _, _⟩ := openOCache op0
  have uu2 := uu1.trans u2
  have zs2 := u2.size
  have ka0_2 := ka0_1.up u2
  clear ga0_1_0 ga0_1_1 ga0_1_2 ga0_1_3 ga0_1_4 ga0_1_5 ga0_1_6 ga0_1_7 ga0_1_8 ga0_1_9 ga0_1_10 ga0_1_11 ga0_1_12 zza0_1
  have ga0_2_0 : w2.cell? ⟨w.heap.size, 0, none⟩ = some (.int .i64 x0.1.1) := ka0_2.cell 0
  have ga0_2_1 : w2.cell? ⟨w.heap.size, 1, none⟩ = some (.slice A0_1 x0.1.2.1.length c0_1) := ka0_2.cell 1
  have ga0_2_2 : w2.cell? ⟨w.heap.size, 2, none⟩ = some (.slice A0_2 x0.1.2.2.length c0_2) := ka0_2.cell 2
  have ga0_2_3 : w2.cell? ⟨w.heap.size, 3, none⟩ = some (.int .i64 x0.2.1.1) := ka0_2.cell 3
  have ga0_2_4 : w2.cell? ⟨w.heap.size, 4, none⟩ = some (.int .i64 x0.2.1.2.1) := ka0_2.cell 4
  have ga0_2_5 : w2.cell? ⟨w.heap.size, 5, none⟩ = some (.int .i64 x0.2.1.2.2.1) := ka0_2.cell 5
  have ga0_2_6 : w2.cell? ⟨w.heap.size, 6, none⟩ = some (.slice A0_6 x0.2.1.2.2.2.length c0_6) := ka0_2.cell 6
  have ga0_2_7 : w2.cell? ⟨w.heap.size, 7, none⟩ = some (.int .i64 x0.2.2.1.1) := ka0_2.cell 7
  have ga0_2_8 : w2.cell? ⟨w.heap.size, 8, none⟩ = some (.int .i64 x0.2.2.1.2.1) := ka0_2.cell 8
  have ga0_2_9 : w2.cell? ⟨w.heap.size, 9, none⟩ = some (.int .i64 x0.2.2.1.2.2.1) := ka0_2.cell 9
  have ga0_2_10 : w2.cell? ⟨w.heap.size, 10, none⟩ = some (.slice A0_10 x0.2.2.1.2.2.2.length c0_10) := ka0_2.cell 10
  have ga0_2_11 : w2.cell? ⟨w.heap.size, 11, none⟩ = some (.slice A0_11 x0.2.2.2.1.length c0_11) := ka0_2.cell 11
  have ga0_2_12 : w2.cell? ⟨w.heap.size, 12, none⟩ = some (.slice A0_12 x0.2.2.2.2.length c0_12) := ka0_2.cell 12
  have zza0_2 := ka0_2.lt
  go_wp2_with fail
  refine (cs_EndTop _ x0 _ ⟨_, rfl, good_Cache.wide (good_Cache.own_rep op0) (Nat.zero_le _) (by omega)⟩ hn0).mono ?_
  rintro e w3 ⟨css, rfl, os, u3⟩
  obtain ⟨Ds_1, ds_1, Ds_2, ds_2, Ds_6, ds_6, Ds_10, ds_10, Ds_11, ds_11, Ds_12, ds_12, rfl, _⟩ := openCache os
  have uu3 := uu2.trans u3
  have zs3 := u3.size
  have ka0_3 := ka0_2.up u3
  have op0_3 := good_Cache.own_keep op0 (fun y hy => u3.block y (Nat.lt_of_lt_of_le (good_Cache.own_in op0 y hy).2 (by omega)))
  have ua3 : Up w3 (w3.alloc (.cells #[.int .i64 (endTop x0).1.1, .slice Ds_1 (endTop x0).1.2.1.length ds_1, .slice Ds_2 (endTop x0).1.2.2.length ds_2, .int .i64 (endTop x0).2.1.1, .int .i64 (endTop x0).2.1.2.1, .int .i64 (endTop x0).2.1.2.2.1, .slice Ds_6 (endTop x0).2.1.2.2.2.length ds_6, .int .i64 (endTop x0).2.2.1.1, .int .i64 (endTop x0).2.2.1.2.1, .int .i64 (endTop x0).2.2.1.2.2.1, .slice Ds_10 (endTop x0).2.2.1.2.2.2.length ds_10, .slice Ds_11 (endTop x0).2.2.2.1.length ds_11, .slice Ds_12 (endTop x0).2.2.2.2.length ds_12] 51)) := (Up.alloc (Up.refl w3) (.cells #[.int .i64 (endTop x0).1.1, .slice Ds_1 (endTop x0).1.2.1.length ds_1, .slice Ds_2 (endTop x0).1.2.2.length ds_2, .int .i64 (endTop x0).2.1.1, .int .i64 (endTop x0).2.1.2.1, .int .i64 (endTop x0).2.1.2.2.1, .slice Ds_6 (endTop x0).2.1.2.2.2.length ds_6, .int .i64 (endTop x0).2.2.1.1, .int .i64 (endTop x0).2.2.1.2.1, .int .i64 (endTop x0).2.2.1.2.2.1, .slice Ds_10 (endTop x0).2.2.1.2.2.2.length ds_10, .slice Ds_11 (endTop x0).2.2.2.1.length ds_11, .slice Ds_12 (endTop x0).2.2.2.2.length ds_12] 51))
  have za3 : (w3.alloc (.cells #[.int .i64 (endTop x0).1.1, .slice Ds_1 (endTop x0).1.2.1.length ds_1, .slice Ds_2 (endTop x0).1.2.2.length ds_2, .int .i64 (endTop x0).2.1.1, .int .i64 (endTop x0).2.1.2.1, .int .i64 (endTop x0).2.1.2.2.1, .slice Ds_6 (endTop x0).2.1.2.2.2.length ds_6, .int .i64 (endTop x0).2.2.1.1, .int .i64 (endTop x0).2.2.1.2.1, .int .i64 (endTop x0).2.2.1.2.2.1, .slice Ds_10 (endTop x0).2.2.1.2.2.2.length ds_10, .slice Ds_11 (endTop x0).2.2.2.1.length ds_11, .slice Ds_12 (endTop x0).2.2.2.2.length ds_12] 51)).heap.size = w3.heap.size + 1 := by simp
  have ub3 := uu3.trans ua3
  have ka0_3b := ka0_3.up ua3
  have os_3b := good_Cache.keep os (ua3.keeps (by omega))
  have kr_3b : Bk (w3.alloc (.cells #[.int .i64 (endTop x0).1.1, .slice Ds_1 (endTop x0).1.2.1.length ds_1, .slice Ds_2 (endTop x0).1.2.2.length ds_2, .int .i64 (endTop x0).2.1.1, .int .i64 (endTop x0).2.1.2.1, .int .i64 (endTop x0).2.1.2.2.1, .slice Ds_6 (endTop x0).2.1.2.2.2.length ds_6, .int .i64 (endTop x0).2.2.1.1, .int .i64 (endTop x0).2.2.1.2.1, .int .i64 (endTop x0).2.2.1.2.2.1, .slice Ds_10 (endTop x0).2.2.1.2.2.2.length ds_10, .slice Ds_11 (endTop x0).2.2.2.1.length ds_11, .slice Ds_12 (endTop x0).2.2.2.2.length ds_12] 51)) (w3.heap.size) 51 #[.int .i64 (endTop x0).1.1, .slice Ds_1 (endTop x0).1.2.1.length ds_1, .slice Ds_2 (endTop x0).1.2.2.length ds_2, .int .i64 (endTop x0).2.1.1, .int .i64 (endTop x0).2.1.2.1, .int .i64 (endTop x0).2.1.2.2.1, .slice Ds_6 (endTop x0).2.1.2.2.2.length ds_6, .int .i64 (endTop x0).2.2.1.1, .int .i64 (endTop x0).2.2.1.2.1, .int .i64 (endTop x0).2.2.1.2.2.1, .slice Ds_10 (endTop x0).2.2.1.2.2.2.length ds_10, .slice Ds_11 (endTop x0).2.2.2.1.length ds_11, .slice Ds_12 (endTop x0).2.2.2.2.length ds_12] := Bk.new _ _ _
  clear ga0_2_0 ga0_2_1 ga0_2_2 ga0_2_3 ga0_2_4 ga0_2_5 ga0_2_6 ga0_2_7 ga0_2_8 ga0_2_9 ga0_2_10 ga0_2_11 ga0_2_12 zza0_2
  have ga0_3_0 : (w3.alloc (.cells #[.int .i64 (endTop x0).1.1, .slice Ds_1 (endTop x0).1.2.1.length ds_1, .slice Ds_2 (endTop x0).1.2.2.length ds_2, .int .i64 (endTop x0).2.1.1, .int .i64 (endTop x0).2.1.2.1, .int .i64 (endTop x0).2.1.2.2.1, .slice Ds_6 (endTop x0).2.1.2.2.2.length ds_6, .int .i64 (endTop x0).2.2.1.1, .int .i64 (endTop x0).2.2.1.2.1, .int .i64 (endTop x0).2.2.1.2.2.1, .slice Ds_10 (endTop x0).2.2.1.2.2.2.length ds_10, .slice Ds_11 (endTop x0).2.2.2.1.length ds_11, .slice Ds_12 (endTop x0).2.2.2.2.length ds_12] 51)).cell? ⟨w.heap.size, 0, none⟩ = some (.int .i64 x0.1.1) := ka0_3b.cell 0
  have ga0_3_1 : (w3.alloc (.cells #[.int .i64 (endTop x0).1.1, .slice Ds_1 (endTop x0).1.2.1.length ds_1, .slice Ds_2 (endTop x0).1.2.2.length ds_2, .int .i64 (endTop x0).2.1.1, .int .i64 (endTop x0).2.1.2.1, .int .i64 (endTop x0).2.1.2.2.1, .slice Ds_6 (endTop x0).2.1.2.2.2.length ds_6, .int .i64 (endTop x0).2.2.1.1, .int .i64 (endTop x0).2.2.1.2.1, .int .i64 (endTop x0).2.2.1.2.2.1, .slice Ds_10 (endTop x0).2.2.1.2.2.2.length ds_10, .slice Ds_11 (endTop x0).2.2.2.1.length ds_11, .slice Ds_12 (endTop x0).2.2.2.2.length ds_12] 51)).cell? ⟨w.heap.size, 1, none⟩ = some (.slice A0_1 x0.1.2.1.length c0_1) := ka0_3b.cell 1
  have ga0_3_2 : (w3.alloc (.cells #[.int .i64 (endTop x0).1.1, .slice Ds_1 (endTop x0).1.2.1.length ds_1, .slice Ds_2 (endTop x0).1.2.2.length ds_2, .int .i64 (endTop x0).2.1.1, .int .i64 (endTop x0).2.1.2.1, .int .i64 (endTop x0).2.1.2.2.1, .slice Ds_6 (endTop x0).2.1.2.2.2.length ds_6, .int .i64 (endTop x0).2.2.1.1, .int .i64 (endTop x0).2.2.1.2.1, .int .i64 (endTop x0).2.2.1.2.2.1, .slice Ds_10 (endTop x0).2.2.1.2.2.2.length ds_10, .slice Ds_11 (endTop x0).2.2.2.1.length ds_11, .slice Ds_12 (endTop x0).2.2.2.2.length ds_12] 51)).cell? ⟨w.heap.size, 2, none⟩ = some (.slice A0_2 x0.1.2.2.length c0_2) := ka0_3b.cell 2
  have ga0_3_3 : (w3.alloc (.cells #[.int .i64 (endTop x0).1.1, .slice Ds_1 (endTop x0).1.2.1.length ds_1, .slice Ds_2 (endTop x0).1.2.2.length ds_2, .int .i64 (endTop x0).2.1.1, .int .i64 (endTop x0).2.1.2.1, .int .i64 (endTop x0).2.1.2.2.1, .slice Ds_6 (endTop x0).2.1.2.2.2.length ds_6, .int .i64 (endTop x0).2.2.1.1, .int .i64 (endTop x0).2.2.1.2.1, .int .i64 (endTop x0).2.2.1.2.2.1, .slice Ds_10 (endTop x0).2.2.1.2.2.2.length ds_10, .slice Ds_11 (endTop x0).2.2.2.1.length ds_11, .slice Ds_12 (endTop x0).2.2.2.2.length ds_12] 51)).cell? ⟨w.heap.size, 3, none⟩ = some (.int .i64 x0.2.1.1) := ka0_3b.cell 3
  have ga0_3_4 : (w3.alloc (.cells #[.int .i64 (endTop x0).1.1, .slice Ds_1 (endTop x0).1.2.1.length ds_1, .slice Ds_2 (endTop x0).1.2.2.length ds_2, .int .i64 (endTop x0).2.1.1, .int .i64 (endTop x0).2.1.2.1, .int .i64 (endTop x0).2.1.2.2.1, .slice Ds_6 (endTop x0).2.1.2.2.2.length ds_6, .int .i64 (endTop x0).2.2.1.1, .int .i64 (endTop x0).2.2.1.2.1, .int .i64 (endTop x0).2.2.1.2.2.1, .slice Ds_10 (endTop x0).2.2.1.2.2.2.length ds_10, .slice Ds_11 (endTop x0).2.2.2.1.length ds_11, .slice Ds_12 (endTop x0).2.2.2.2.length ds_12] 51)).cell? ⟨w.heap.size, 4, none⟩ = some (.int .i64 x0.2.1.2.1) := ka0_3b.cell 4
  have ga0_3_5 : (w3.alloc (.cells #[.int .i64 (endTop x0).1.1, .slice Ds_1 (endTop x0).1.2.1.length ds_1, .slice Ds_2 (endTop x0).1.2.2.length ds_2, .int .i64 (endTop x0).2.1.1, .int .i64 (endTop x0).2.1.2.1, .int .i64 (endTop x0).2.1.2.2.1, .slice Ds_6 (endTop x0).2.1.2.2.2.length ds_6, .int .i64 (endTop x0).2.2.1.1, .int .i64 (endTop x0).2.2.1.2.1, .int .i64 (endTop x0).2.2.1.2.2.1, .slice Ds_10 (endTop x0).2.2.1.2.2.2.length ds_10, .slice Ds_11 (endTop x0).2.2.2.1.length ds_11, .slice Ds_12 (endTop x0).2.2.2.2.length ds_12] 51)).cell? ⟨w.heap.size, 5, none⟩ = some (.int .i64 x0.2.1.2.2.1) := ka0_3b.cell 5
  have ga0_3_6 : (w3.alloc (.cells #[.int .i64 (endTop x0).1.1, .slice Ds_1 (endTop x0).1.2.1.length ds_1, .slice Ds_2 (endTop x0).1.2.2.length ds_2, .int .i64 (endTop x0).2.1.1, .int .i64 (endTop x0).2.1.2.1, .int .i64 (endTop x0).2.1.2.2.1, .slice Ds_6 (endTop x0).2.1.2.2.2.length ds_6, .int .i64 (endTop x0).2.2.1.1, .int .i64 (endTop x0).2.2.1.2.1, .int .i64 (endTop x0).2.2.1.2.2.1, .slice Ds_10 (endTop x0).2.2.1.2.2.2.length ds_10, .slice Ds_11 (endTop x0).2.2.2.1.length ds_11, .slice Ds_12 (endTop x0).2.2.2.2.length ds_12] 51)).cell? ⟨w.heap.size, 6, none⟩ = some (.slice A0_6 x0.2.1.2.2.2.length c0_6) := ka0_3b.cell 6
  have ga0_3_7 : (w3.alloc (.cells #[.int .i64 (endTop x0).1.1, .slice Ds_1 (endTop x0).1.2.1.length ds_1, .slice Ds_2 (endTop x0).1.2.2.length ds_2, .int .i64 (endTop x0).2.1.1, .int .i64 (endTop x0).2.1.2.1, .int .i64 (endTop x0).2.1.2.2.1, .slice Ds_6 (endTop x0).2.1.2.2.2.length ds_6, .int .i64 (endTop x0).2.2.1.1, .int .i64 (endTop x0).2.2.1.2.1, .int .i64 (endTop x0).2.2.1.2.2.1, .slice Ds_10 (endTop x0).2.2.1.2.2.2.length ds_10, .slice Ds_11 (endTop x0).2.2.2.1.length ds_11, .slice Ds_12 (endTop x0).2.2.2.2.length ds_12] 51)).cell? ⟨w.heap.size, 7, none⟩ = some (.int .i64 x0.2.2.1.1) := ka0_3b.cell 7
  have ga0_3_8 : (w3.alloc (.cells #[.int .i64 (endTop x0).1.1, .slice Ds_1 (endTop x0).1.2.1.length ds_1, .slice Ds_2 (endTop x0).1.2.2.length ds_2, .int .i64 (endTop x0).2.1.1, .int .i64 (endTop x0).2.1.2.1, .int .i64 (endTop x0).2.1.2.2.1, .slice Ds_6 (endTop x0).2.1.2.2.2.length ds_6, .int .i64 (endTop x0).2.2.1.1, .int .i64 (endTop x0).2.2.1.2.1, .int .i64 (endTop x0).2.2.1.2.2.1, .slice Ds_10 (endTop x0).2.2.1.2.2.2.length ds_10, .slice Ds_11 (endTop x0).2.2.2.1.length ds_11, .slice Ds_12 (endTop x0).2.2.2.2.length ds_12] 51)).cell? ⟨w.heap.size, 8, none⟩ = some (.int .i64 x0.2.2.1.2.1) := ka0_3b.cell 8
  have ga0_3_9 : (w3.alloc (.cells #[.int .i64 (endTop x0).1.1, .slice Ds_1 (endTop x0).1.2.1.length ds_1, .slice Ds_2 (endTop x0).1.2.2.length ds_2, .int .i64 (endTop x0).2.1.1, .int .i64 (endTop x0).2.1.2.1, .int .i64 (endTop x0).2.1.2.2.1, .slice Ds_6 (endTop x0).2.1.2.2.2.length ds_6, .int .i64 (endTop x0).2.2.1.1, .int .i64 (endTop x0).2.2.1.2.1, .int .i64 (endTop x0).2.2.1.2.2.1, .slice Ds_10 (endTop x0).2.2.1.2.2.2.length ds_10, .slice Ds_11 (endTop x0).2.2.2.1.length ds_11, .slice Ds_12 (endTop x0).2.2.2.2.length ds_12] 51)).cell? ⟨w.heap.size, 9, none⟩ = some (.int .i64 x0.2.2.1.2.2.1) := ka0_3b.cell 9
  have ga0_3_10 : (w3.alloc (.cells #[.int .i64 (endTop x0).1.1, .slice Ds_1 (endTop x0).1.2.1.length ds_1, .slice Ds_2 (endTop x0).1.2.2.length ds_2, .int .i64 (endTop x0).2.1.1, .int .i64 (endTop x0).2.1.2.1, .int .i64 (endTop x0).2.1.2.2.1, .slice Ds_6 (endTop x0).2.1.2.2.2.length ds_6, .int .i64 (endTop x0).2.2.1.1, .int .i64 (endTop x0).2.2.1.2.1, .int .i64 (endTop x0).2.2.1.2.2.1, .slice Ds_10 (endTop x0).2.2.1.2.2.2.length ds_10, .slice Ds_11 (endTop x0).2.2.2.1.length ds_11, .slice Ds_12 (endTop x0).2.2.2.2.length ds_12] 51)).cell? ⟨w.heap.size, 10, none⟩ = some (.slice A0_10 x0.2.2.1.2.2.2.length c0_10) := ka0_3b.cell 10
  have ga0_3_11 : (w3.alloc (.cells #[.int .i64 (endTop x0).1.1, .slice Ds_1 (endTop x0).1.2.1.length ds_1, .slice Ds_2 (endTop x0).1.2.2.length ds_2, .int .i64 (endTop x0).2.1.1, .int .i64 (endTop x0).2.1.2.1, .int .i64 (endTop x0).2.1.2.2.1, .slice Ds_6 (endTop x0).2.1.2.2.2.length ds_6, .int .i64 (endTop x0).2.2.1.1, .int .i64 (endTop x0).2.2.1.2.1, .int .i64 (endTop x0).2.2.1.2.2.1, .slice Ds_10 (endTop x0).2.2.1.2.2.2.length ds_10, .slice Ds_11 (endTop x0).2.2.2.1.length ds_11, .slice Ds_12 (endTop x0).2.2.2.2.length ds_12] 51)).cell? ⟨w.heap.size, 11, none⟩ = some (.slice A0_11 x0.2.2.2.1.length c0_11) := ka0_3b.cell 11
  have ga0_3_12 : (w3.alloc (.cells #[.int .i64 (endTop x0).1.1, .slice Ds_1 (endTop x0).1.2.1.length ds_1, .slice Ds_2 (endTop x0).1.2.2.length ds_2, .int .i64 (endTop x0).2.1.1, .int .i64 (endTop x0).2.1.2.1, .int .i64 (endTop x0).2.1.2.2.1, .slice Ds_6 (endTop x0).2.1.2.2.2.length ds_6, .int .i64 (endTop x0).2.2.1.1, .int .i64 (endTop x0).2.2.1.2.1, .int .i64 (endTop x0).2.2.1.2.2.1, .slice Ds_10 (endTop x0).2.2.1.2.2.2.length ds_10, .slice Ds_11 (endTop x0).2.2.2.1.length ds_11, .slice Ds_12 (endTop x0).2.2.2.2.length ds_12] 51)).cell? ⟨w.heap.size, 12, none⟩ = some (.slice A0_12 x0.2.2.2.2.length c0_12) := ka0_3b.cell 12
  have zza0_3 := ka0_3b.lt
  have gr_3_0 : (w3.alloc (.cells #[.int .i64 (endTop x0).1.1, .slice Ds_1 (endTop x0).1.2.1.length ds_1, .slice Ds_2 (endTop x0).1.2.2.length ds_2, .int .i64 (endTop x0).2.1.1, .int .i64 (endTop x0).2.1.2.1, .int .i64 (endTop x0).2.1.2.2.1, .slice Ds_6 (endTop x0).2.1.2.2.2.length ds_6, .int .i64 (endTop x0).2.2.1.1, .int .i64 (endTop x0).2.2.1.2.1, .int .i64 (endTop x0).2.2.1.2.2.1, .slice Ds_10 (endTop x0).2.2.1.2.2.2.length ds_10, .slice Ds_11 (endTop x0).2.2.2.1.length ds_11, .slice Ds_12 (endTop x0).2.2.2.2.length ds_12] 51)).cell? ⟨w3.heap.size, 0, none⟩ = some (.int .i64 (endTop x0).1.1) := kr_3b.cell 0
  have gr_3_1 : (w3.alloc (.cells #[.int .i64 (endTop x0).1.1, .slice Ds_1 (endTop x0).1.2.1.length ds_1, .slice Ds_2 (endTop x0).1.2.2.length ds_2, .int .i64 (endTop x0).2.1.1, .int .i64 (endTop x0).2.1.2.1, .int .i64 (endTop x0).2.1.2.2.1, .slice Ds_6 (endTop x0).2.1.2.2.2.length ds_6, .int .i64 (endTop x0).2.2.1.1, .int .i64 (endTop x0).2.2.1.2.1, .int .i64 (endTop x0).2.2.1.2.2.1, .slice Ds_10 (endTop x0).2.2.1.2.2.2.length ds_10, .slice Ds_11 (endTop x0).2.2.2.1.length ds_11, .slice Ds_12 (endTop x0).2.2.2.2.length ds_12] 51)).cell? ⟨w3.heap.size, 1, none⟩ = some (.slice Ds_1 (endTop x0).1.2.1.length ds_1) := kr_3b.cell 1
  have gr_3_2 : (w3.alloc (.cells #[.int .i64 (endTop x0).1.1, .slice Ds_1 (endTop x0).1.2.1.length ds_1, .slice Ds_2 (endTop x0).1.2.2.length ds_2, .int .i64 (endTop x0).2.1.1, .int .i64 (endTop x0).2.1.2.1, .int .i64 (endTop x0).2.1.2.2.1, .slice Ds_6 (endTop x0).2.1.2.2.2.length ds_6, .int .i64 (endTop x0).2.2.1.1, .int .i64 (endTop x0).2.2.1.2.1, .int .i64 (endTop x0).2.2.1.2.2.1, .slice Ds_10 (endTop x0).2.2.1.2.2.2.length ds_10, .slice Ds_11 (endTop x0).2.2.2.1.length ds_11, .slice Ds_12 (endTop x0).2.2.2.2.length ds_12] 51)).cell? ⟨w3.heap.size, 2, none⟩ = some (.slice Ds_2 (endTop x0).1.2.2.length ds_2) := kr_3b.cell 2
  have gr_3_3 : (w3.alloc (.cells #[.int .i64 (endTop x0).1.1, .slice Ds_1 (endTop x0).1.2.1.length ds_1, .slice Ds_2 (endTop x0).1.2.2.length ds_2, .int .i64 (endTop x0).2.1.1, .int .i64 (endTop x0).2.1.2.1, .int .i64 (endTop x0).2.1.2.2.1, .slice Ds_6 (endTop x0).2.1.2.2.2.length ds_6, .int .i64 (endTop x0).2.2.1.1, .int .i64 (endTop x0).2.2.1.2.1, .int .i64 (endTop x0).2.2.1.2.2.1, .slice Ds_10 (endTop x0).2.2.1.2.2.2.length ds_10, .slice Ds_11 (endTop x0).2.2.2.1.length ds_11, .slice Ds_12 (endTop x0).2.2.2.2.length ds_12] 51)).cell? ⟨w3.heap.size, 3, none⟩ = some (.int .i64 (endTop x0).2.1.1) := kr_3b.cell 3
  have gr_3_4 : (w3.alloc (.cells #[.int .i64 (endTop x0).1.1, .slice Ds_1 (endTop x0).1.2.1.length ds_1, .slice Ds_2 (endTop x0).1.2.2.length ds_2, .int .i64 (endTop x0).2.1.1, .int .i64 (endTop x0).2.1.2.1, .int .i64 (endTop x0).2.1.2.2.1, .slice Ds_6 (endTop x0).2.1.2.2.2.length ds_6, .int .i64 (endTop x0).2.2.1.1, .int .i64 (endTop x0).2.2.1.2.1, .int .i64 (endTop x0).2.2.1.2.2.1, .slice Ds_10 (endTop x0).2.2.1.2.2.2.length ds_10, .slice Ds_11 (endTop x0).2.2.2.1.length ds_11, .slice Ds_12 (endTop x0).2.2.2.2.length ds_12] 51)).cell? ⟨w3.heap.size, 4, none⟩ = some (.int .i64 (endTop x0).2.1.2.1) := kr_3b.cell 4
  have gr_3_5 : (w3.alloc (.cells #[.int .i64 (endTop x0).1.1, .slice Ds_1 (endTop x0).1.2.1.length ds_1, .slice Ds_2 (endTop x0).1.2.2.length ds_2, .int .i64 (endTop x0).2.1.1, .int .i64 (endTop x0).2.1.2.1, .int .i64 (endTop x0).2.1.2.2.1, .slice Ds_6 (endTop x0).2.1.2.2.2.length ds_6, .int .i64 (endTop x0).2.2.1.1, .int .i64 (endTop x0).2.2.1.2.1, .int .i64 (endTop x0).2.2.1.2.2.1, .slice Ds_10 (endTop x0).2.2.1.2.2.2.length ds_10, .slice Ds_11 (endTop x0).2.2.2.1.length ds_11, .slice Ds_12 (endTop x0).2.2.2.2.length ds_12] 51)).cell? ⟨w3.heap.size, 5, none⟩ = some (.int .i64 (endTop x0).2.1.2.2.1) := kr_3b.cell 5
  have gr_3_6 : (w3.alloc (.cells #[.int .i64 (endTop x0).1.1, .slice Ds_1 (endTop x0).1.2.1.length ds_1, .slice Ds_2 (endTop x0).1.2.2.length ds_2, .int .i64 (endTop x0).2.1.1, .int .i64 (endTop x0).2.1.2.1, .int .i64 (endTop x0).2.1.2.2.1, .slice Ds_6 (endTop x0).2.1.2.2.2.length ds_6, .int .i64 (endTop x0).2.2.1.1, .int .i64 (endTop x0).2.2.1.2.1, .int .i64 (endTop x0).2.2.1.2.2.1, .slice Ds_10 (endTop x0).2.2.1.2.2.2.length ds_10, .slice Ds_11 (endTop x0).2.2.2.1.length ds_11, .slice Ds_12 (endTop x0).2.2.2.2.length ds_12] 51)).cell? ⟨w3.heap.size, 6, none⟩ = some (.slice Ds_6 (endTop x0).2.1.2.2.2.length ds_6) := kr_3b.cell 6
  have gr_3_7 : (w3.alloc (.cells #[.int .i64 (endTop x0).1.1, .slice Ds_1 (endTop x0).1.2.1.length ds_1, .slice Ds_2 (endTop x0).1.2.2.length ds_2, .int .i64 (endTop x0).2.1.1, .int .i64 (endTop x0).2.1.2.1, .int .i64 (endTop x0).2.1.2.2.1, .slice Ds_6 (endTop x0).2.1.2.2.2.length ds_6, .int .i64 (endTop x0).2.2.1.1, .int .i64 (endTop x0).2.2.1.2.1, .int .i64 (endTop x0).2.2.1.2.2.1, .slice Ds_10 (endTop x0).2.2.1.2.2.2.length ds_10, .slice Ds_11 (endTop x0).2.2.2.1.length ds_11, .slice Ds_12 (endTop x0).2.2.2.2.length ds_12] 51)).cell? ⟨w3.heap.size, 7, none⟩ = some (.int .i64 (endTop x0).2.2.1.1) := kr_3b.cell 7
  have gr_3_8 : (w3.alloc (.cells #[.int .i64 (endTop x0).1.1, .slice Ds_1 (endTop x0).1.2.1.length ds_1, .slice Ds_2 (endTop x0).1.2.2.length ds_2, .int .i64 (endTop x0).2.1.1, .int .i64 (endTop x0).2.1.2.1, .int .i64 (endTop x0).2.1.2.2.1, .slice Ds_6 (endTop x0).2.1.2.2.2.length ds_6, .int .i64 (endTop x0).2.2.1.1, .int .i64 (endTop x0).2.2.1.2.1, .int .i64 (endTop x0).2.2.1.2.2.1, .slice Ds_10 (endTop x0).2.2.1.2.2.2.length ds_10, .slice Ds_11 (endTop x0).2.2.2.1.length ds_11, .slice Ds_12 (endTop x0).2.2.2.2.length ds_12] 51)).cell? ⟨w3.heap.size, 8, none⟩ = some (.int .i64 (endTop x0).2.2.1.2.1) := kr_3b.cell 8
  have gr_3_9 : (w3.alloc (.cells #[.int .i64 (endTop x0).1.1, .slice Ds_1 (endTop x0).1.2.1.length ds_1, .slice Ds_2 (endTop x0).1.2.2.length ds_2, .int .i64 (endTop x0).2.1.1, .int .i64 (endTop x0).2.1.2.1, .int .i64 (endTop x0).2.1.2.2.1, .slice Ds_6 (endTop x0).2.1.2.2.2.length ds_6, .int .i64 (endTop x0).2.2.1.1, .int .i64 (endTop x0).2.2.1.2.1, .int .i64 (endTop x0).2.2.1.2.2.1, .slice Ds_10 (endTop x0).2.2.1.2.2.2.length ds_10, .slice Ds_11 (endTop x0).2.2.2.1.length ds_11, .slice Ds_12 (endTop x0).2.2.2.2.length ds_12] 51)).cell? ⟨w3.heap.size, 9, none⟩ = some (.int .i64 (endTop x0).2.2.1.2.2.1) := kr_3b.cell 9
  have gr_3_10 : (w3.alloc (.cells #[.int .i64 (endTop x0).1.1, .slice Ds_1 (endTop x0).1.2.1.length ds_1, .slice Ds_2 (endTop x0).1.2.2.length ds_2, .int .i64 (endTop x0).2.1.1, .int .i64 (endTop x0).2.1.2.1, .int .i64 (endTop x0).2.1.2.2.1, .slice Ds_6 (endTop x0).2.1.2.2.2.length ds_6, .int .i64 (endTop x0).2.2.1.1, .int .i64 (endTop x0).2.2.1.2.1, .int .i64 (endTop x0).2.2.1.2.2.1, .slice Ds_10 (endTop x0).2.2.1.2.2.2.length ds_10, .slice Ds_11 (endTop x0).2.2.2.1.length ds_11, .slice Ds_12 (endTop x0).2.2.2.2.length ds_12] 51)).cell? ⟨w3.heap.size, 10, none⟩ = some (.slice Ds_10 (endTop x0).2.2.1.2.2.2.length ds_10) := kr_3b.cell 10
  have gr_3_11 : (w3.alloc (.cells #[.int .i64 (endTop x0).1.1, .slice Ds_1 (endTop x0).1.2.1.length ds_1, .slice Ds_2 (endTop x0).1.2.2.length ds_2, .int .i64 (endTop x0).2.1.1, .int .i64 (endTop x0).2.1.2.1, .int .i64 (endTop x0).2.1.2.2.1, .slice Ds_6 (endTop x0).2.1.2.2.2.length ds_6, .int .i64 (endTop x0).2.2.1.1, .int .i64 (endTop x0).2.2.1.2.1, .int .i64 (endTop x0).2.2.1.2.2.1, .slice Ds_10 (endTop x0).2.2.1.2.2.2.length ds_10, .slice Ds_11 (endTop x0).2.2.2.1.length ds_11, .slice Ds_12 (endTop x0).2.2.2.2.length ds_12] 51)).cell? ⟨w3.heap.size, 11, none⟩ = some (.slice Ds_11 (endTop x0).2.2.2.1.length ds_11) := kr_3b.cell 11
  have gr_3_12 : (w3.alloc (.cells #[.int .i64 (endTop x0).1.1, .slice Ds_1 (endTop x0).1.2.1.length ds_1, .slice Ds_2 (endTop x0).1.2.2.length ds_2, .int .i64 (endTop x0).2.1.1, .int .i64 (endTop x0).2.1.2.1, .int .i64 (endTop x0).2.1.2.2.1, .slice Ds_6 (endTop x0).2.1.2.2.2.length ds_6, .int .i64 (endTop x0).2.2.1.1, .int .i64 (endTop x0).2.2.1.2.1, .int .i64 (endTop x0).2.2.1.2.2.1, .slice Ds_10 (endTop x0).2.2.1.2.2.2.length ds_10, .slice Ds_11 (endTop x0).2.2.2.1.length ds_11, .slice Ds_12 (endTop x0).2.2.2.2.length ds_12] 51)).cell? ⟨w3.heap.size, 12, none⟩ = some (.slice Ds_12 (endTop x0).2.2.2.2.length ds_12) := kr_3b.cell 12
  have zzr_3 := kr_3b.lt
  go_wp2_with fail
  refine (c_toCache _ x0 _ (hv0.up good_Cache ub3) hn0).mono ?_
  rintro e w4 ⟨csx0, blx0, rfl, ox0, ndx0, u4⟩
  obtain ⟨Dx0_1, dx0_1, _, Dx0_2, dx0_2, _, Dx0_6, dx0_6, _, Dx0_10, dx0_10, _, Dx0_11, dx0_11, _, Dx0_12, dx0_12, _, rfl, _, _⟩ := openOCache ox0
  have uu4 := ub3.trans u4
  have zs4 := u4.size
  have ka0_4 := ka0_3b.up u4
  have kr_4 := kr_3b.up u4
  have os_4 := good_Cache.keep os_3b (u4.keeps (by omega))
  clear os_3b
  clear ga0_3_0 ga0_3_1 ga0_3_2 ga0_3_3 ga0_3_4 ga0_3_5 ga0_3_6 ga0_3_7 ga0_3_8 ga0_3_9 ga0_3_10 ga0_3_11 ga0_3_12 zza0_3 gr_3_0 gr_3_1 gr_3_2 gr_3_3 gr_3_4 gr_3_5 gr_3_6 gr_3_7 gr_3_8 gr_3_9 gr_3_10 gr_3_11 gr_3_12 zzr_3
  have ga0_4_0 : w4.cell? ⟨w.heap.size, 0, none⟩ = some (.int .i64 x0.1.1) := ka0_4.cell 0
  have ga0_4_1 : w4.cell? ⟨w.heap.size, 1, none⟩ = some (.slice A0_1 x0.1.2.1.length c0_1) := ka0_4.cell 1
  have ga0_4_2 : w4.cell? ⟨w.heap.size, 2, none⟩ = some (.slice A0_2 x0.1.2.2.length c0_2) := ka0_4.cell 2
  have ga0_4_3 : w4.cell? ⟨w.heap.size, 3, none⟩ = some (.int .i64 x0.2.1.1) := ka0_4.cell 3
  have ga0_4_4 : w4.cell? ⟨w.heap.size, 4, none⟩ = some (.int .i64 x0.2.1.2.1) := ka0_4.cell 4
  have ga0_4_5 : w4.cell? ⟨w.heap.size, 5, none⟩ = some (.int .i64 x0.2.1.2.2.1) := ka0_4.cell 5
  have ga0_4_6 : w4.cell? ⟨w.heap.size, 6, none⟩ = some (.slice A0_6 x0.2.1.2.2.2.length c0_6) := ka0_4.cell 6
  have ga0_4_7 : w4.cell? ⟨w.heap.size, 7, none⟩ = some (.int .i64 x0.2.2.1.1) := ka0_4.cell 7
  have ga0_4_8 : w4.cell? ⟨w.heap.size, 8, none⟩ = some (.int .i64 x0.2.2.1.2.1) := ka0_4.cell 8
  have ga0_4_9 : w4.cell? ⟨w.heap.size, 9, none⟩ = some (.int .i64 x0.2.2.1.2.2.1) := ka0_4.cell 9
  have ga0_4_10 : w4.cell? ⟨w.heap.size, 10, none⟩ = some (.slice A0_10 x0.2.2.1.2.2.2.length c0_10) := ka0_4.cell 10
  have ga0_4_11 : w4.cell? ⟨w.heap.size, 11, none⟩ = some (.slice A0_11 x0.2.2.2.1.length c0_11) := ka0_4.cell 11
  have ga0_4_12 : w4.cell? ⟨w.heap.size, 12, none⟩ = some (.slice A0_12 x0.2.2.2.2.length c0_12) := ka0_4.cell 12
  have zza0_4 := ka0_4.lt
  have gr_4_0 : w4.cell? ⟨w3.heap.size, 0, none⟩ = some (.int .i64 (endTop x0).1.1) := kr_4.cell 0
  have gr_4_1 : w4.cell? ⟨w3.heap.size, 1, none⟩ = some (.slice Ds_1 (endTop x0).1.2.1.length ds_1) := kr_4.cell 1
  have gr_4_2 : w4.cell? ⟨w3.heap.size, 2, none⟩ = some (.slice Ds_2 (endTop x0).1.2.2.length ds_2) := kr_4.cell 2
  have gr_4_3 : w4.cell? ⟨w3.heap.size, 3, none⟩ = some (.int .i64 (endTop x0).2.1.1) := kr_4.cell 3
  have gr_4_4 : w4.cell? ⟨w3.heap.size, 4, none⟩ = some (.int .i64 (endTop x0).2.1.2.1) := kr_4.cell 4
  have gr_4_5 : w4.cell? ⟨w3.heap.size, 5, none⟩ = some (.int .i64 (endTop x0).2.1.2.2.1) := kr_4.cell 5
  have gr_4_6 : w4.cell? ⟨w3.heap.size, 6, none⟩ = some (.slice Ds_6 (endTop x0).2.1.2.2.2.length ds_6) := kr_4.cell 6
  have gr_4_7 : w4.cell? ⟨w3.heap.size, 7, none⟩ = some (.int .i64 (endTop x0).2.2.1.1) := kr_4.cell 7
  have gr_4_8 : w4.cell? ⟨w3.heap.size, 8, none⟩ = some (.int .i64 (endTop x0).2.2.1.2.1) := kr_4.cell 8
  have gr_4_9 : w4.cell? ⟨w3.heap.size, 9, none⟩ = some (.int .i64 (endTop x0).2.2.1.2.2.1) := kr_4.cell 9
  have gr_4_10 : w4.cell? ⟨w3.heap.size, 10, none⟩ = some (.slice Ds_10 (endTop x0).2.2.1.2.2.2.length ds_10) := kr_4.cell 10
  have gr_4_11 : w4.cell? ⟨w3.heap.size, 11, none⟩ = some (.slice Ds_11 (endTop x0).2.2.2.1.length ds_11) := kr_4.cell 11
  have gr_4_12 : w4.cell? ⟨w3.heap.size, 12, none⟩ = some (.slice Ds_12 (endTop x0).2.2.2.2.length ds_12) := kr_4.cell 12
  have zzr_4 := kr_4.lt
  have ua4 : Up w4 (w4.alloc (.cells #[.int .i64 x0.1.1, .slice Dx0_1 x0.1.2.1.length dx0_1, .slice Dx0_2 x0.1.2.2.length dx0_2, .int .i64 x0.2.1.1, .int .i64 x0.2.1.2.1, .int .i64 x0.2.1.2.2.1, .slice Dx0_6 x0.2.1.2.2.2.length dx0_6, .int .i64 x0.2.2.1.1, .int .i64 x0.2.2.1.2.1, .int .i64 x0.2.2.1.2.2.1, .slice Dx0_10 x0.2.2.1.2.2.2.length dx0_10, .slice Dx0_11 x0.2.2.2.1.length dx0_11, .slice Dx0_12 x0.2.2.2.2.length dx0_12] 51)) := (Up.alloc (Up.refl w4) (.cells #[.int .i64 x0.1.1, .slice Dx0_1 x0.1.2.1.length dx0_1, .slice Dx0_2 x0.1.2.2.length dx0_2, .int .i64 x0.2.1.1, .int .i64 x0.2.1.2.1, .int .i64 x0.2.1.2.2.1, .slice Dx0_6 x0.2.1.2.2.2.length dx0_6, .int .i64 x0.2.2.1.1, .int .i64 x0.2.2.1.2.1, .int .i64 x0.2.2.1.2.2.1, .slice Dx0_10 x0.2.2.1.2.2.2.length dx0_10, .slice Dx0_11 x0.2.2.2.1.length dx0_11, .slice Dx0_12 x0.2.2.2.2.length dx0_12] 51))
  have za4 : (w4.alloc (.cells #[.int .i64 x0.1.1, .slice Dx0_1 x0.1.2.1.length dx0_1, .slice Dx0_2 x0.1.2.2.length dx0_2, .int .i64 x0.2.1.1, .int .i64 x0.2.1.2.1, .int .i64 x0.2.1.2.2.1, .slice Dx0_6 x0.2.1.2.2.2.length dx0_6, .int .i64 x0.2.2.1.1, .int .i64 x0.2.2.1.2.1, .int .i64 x0.2.2.1.2.2.1, .slice Dx0_10 x0.2.2.1.2.2.2.length dx0_10, .slice Dx0_11 x0.2.2.2.1.length dx0_11, .slice Dx0_12 x0.2.2.2.2.length dx0_12] 51)).heap.size = w4.heap.size + 1 := by simp
  have ub4 := uu4.trans ua4
  have ka0_4b := ka0_4.up ua4
  have kr_4b := kr_4.up ua4
  have os_4b := good_Cache.keep os_4 (ua4.keeps (by omega))
  clear os_4
  have ox0_4b := good_Cache.own_keep ox0 (fun y hy => ua4.block y (Nat.lt_of_lt_of_le (good_Cache.own_in ox0 y hy).2 (by omega)))
  have kx0_4b : Bk (w4.alloc (.cells #[.int .i64 x0.1.1, .slice Dx0_1 x0.1.2.1.length dx0_1, .slice Dx0_2 x0.1.2.2.length dx0_2, .int .i64 x0.2.1.1, .int .i64 x0.2.1.2.1, .int .i64 x0.2.1.2.2.1, .slice Dx0_6 x0.2.1.2.2.2.length dx0_6, .int .i64 x0.2.2.1.1, .int .i64 x0.2.2.1.2.1, .int .i64 x0.2.2.1.2.2.1, .slice Dx0_10 x0.2.2.1.2.2.2.length dx0_10, .slice Dx0_11 x0.2.2.2.1.length dx0_11, .slice Dx0_12 x0.2.2.2.2.length dx0_12] 51)) (w4.heap.size) 51 #[.int .i64 x0.1.1, .slice Dx0_1 x0.1.2.1.length dx0_1, .slice Dx0_2 x0.1.2.2.length dx0_2, .int .i64 x0.2.1.1, .int .i64 x0.2.1.2.1, .int .i64 x0.2.1.2.2.1, .slice Dx0_6 x0.2.1.2.2.2.length dx0_6, .int .i64 x0.2.2.1.1, .int .i64 x0.2.2.1.2.1, .int .i64 x0.2.2.1.2.2.1, .slice Dx0_10 x0.2.2.1.2.2.2.length dx0_10, .slice Dx0_11 x0.2.2.2.1.length dx0_11, .slice Dx0_12 x0.2.2.2.2.length dx0_12] := Bk.new _ _ _
  clear ga0_4_0 ga0_4_1 ga0_4_2 ga0_4_3 ga0_4_4 ga0_4_5 ga0_4_6 ga0_4_7 ga0_4_8 ga0_4_9 ga0_4_10 ga0_4_11 ga0_4_12 zza0_4 gr_4_0 gr_4_1 gr_4_2 gr_4_3 gr_4_4 gr_4_5 gr_4_6 gr_4_7 gr_4_8 gr_4_9 gr_4_10 gr_4_11 gr_4_12 zzr_4
  have ga0_4_0 : (w4.alloc (.cells #[.int .i64 x0.1.1, .slice Dx0_1 x0.1.2.1.length dx0_1, .slice Dx0_2 x0.1.2.2.length dx0_2, .int .i64 x0.2.1.1, .int .i64 x0.2.1.2.1, .int .i64 x0.2.1.2.2.1, .slice Dx0_6 x0.2.1.2.2.2.length dx0_6, .int .i64 x0.2.2.1.1, .int .i64 x0.2.2.1.2.1, .int .i64 x0.2.2.1.2.2.1, .slice Dx0_10 x0.2.2.1.2.2.2.length dx0_10, .slice Dx0_11 x0.2.2.2.1.length dx0_11, .slice Dx0_12 x0.2.2.2.2.length dx0_12] 51)).cell? ⟨w.heap.size, 0, none⟩ = some (.int .i64 x0.1.1) := ka0_4b.cell 0
  have ga0_4_1 : (w4.alloc (.cells #[.int .i64 x0.1.1, .slice Dx0_1 x0.1.2.1.length dx0_1, .slice Dx0_2 x0.1.2.2.length dx0_2, .int .i64 x0.2.1.1, .int .i64 x0.2.1.2.1, .int .i64 x0.2.1.2.2.1, .slice Dx0_6 x0.2.1.2.2.2.length dx0_6, .int .i64 x0.2.2.1.1, .int .i64 x0.2.2.1.2.1, .int .i64 x0.2.2.1.2.2.1, .slice Dx0_10 x0.2.2.1.2.2.2.length dx0_10, .slice Dx0_11 x0.2.2.2.1.length dx0_11, .slice Dx0_12 x0.2.2.2.2.length dx0_12] 51)).cell? ⟨w.heap.size, 1, none⟩ = some (.slice A0_1 x0.1.2.1.length c0_1) := ka0_4b.cell 1
  have ga0_4_2 : (w4.alloc (.cells #[.int .i64 x0.1.1, .slice Dx0_1 x0.1.2.1.length dx0_1, .slice Dx0_2 x0.1.2.2.length dx0_2, .int .i64 x0.2.1.1, .int .i64 x0.2.1.2.1, .int .i64 x0.2.1.2.2.1, .slice Dx0_6 x0.2.1.2.2.2.length dx0_6, .int .i64 x0.2.2.1.1, .int .i64 x0.2.2.1.2.1, .int .i64 x0.2.2.1.2.2.1, .slice Dx0_10 x0.2.2.1.2.2.2.length dx0_10, .slice Dx0_11 x0.2.2.2.1.length dx0_11, .slice Dx0_12 x0.2.2.2.2.length dx0_12] 51)).cell? ⟨w.heap.size, 2, none⟩ = some (.slice A0_2 x0.1.2.2.length c0_2) := ka0_4b.cell 2
  have ga0_4_3 : (w4.alloc (.cells #[.int .i64 x0.1.1, .slice Dx0_1 x0.1.2.1.length dx0_1, .slice Dx0_2 x0.1.2.2.length dx0_2, .int .i64 x0.2.1.1, .int .i64 x0.2.1.2.1, .int .i64 x0.2.1.2.2.1, .slice Dx0_6 x0.2.1.2.2.2.length dx0_6, .int .i64 x0.2.2.1.1, .int .i64 x0.2.2.1.2.1, .int .i64 x0.2.2.1.2.2.1, .slice Dx0_10 x0.2.2.1.2.2.2.length dx0_10, .slice Dx0_11 x0.2.2.2.1.length dx0_11, .slice Dx0_12 x0.2.2.2.2.length dx0_12] 51)).cell? ⟨w.heap.size, 3, none⟩ = some (.int .i64 x0.2.1.1) := ka0_4b.cell 3
  have ga0_4_4 : (w4.alloc (.cells #[.int .i64 x0.1.1, .slice Dx0_1 x0.1.2.1.length dx0_1, .slice Dx0_2 x0.1.2.2.length dx0_2, .int .i64 x0.2.1.1, .int .i64 x0.2.1.2.1, .int .i64 x0.2.1.2.2.1, .slice Dx0_6 x0.2.1.2.2.2.length dx0_6, .int .i64 x0.2.2.1.1, .int .i64 x0.2.2.1.2.1, .int .i64 x0.2.2.1.2.2.1, .slice Dx0_10 x0.2.2.1.2.2.2.length dx0_10, .slice Dx0_11 x0.2.2.2.1.length dx0_11, .slice Dx0_12 x0.2.2.2.2.length dx0_12] 51)).cell? ⟨w.heap.size, 4, none⟩ = some (.int .i64 x0.2.1.2.1) := ka0_4b.cell 4
  have ga0_4_5 : (w4.alloc (.cells #[.int .i64 x0.1.1, .slice Dx0_1 x0.1.2.1.length dx0_1, .slice Dx0_2 x0.1.2.2.length dx0_2, .int .i64 x0.2.1.1, .int .i64 x0.2.1.2.1, .int .i64 x0.2.1.2.2.1, .slice Dx0_6 x0.2.1.2.2.2.length dx0_6, .int .i64 x0.2.2.1.1, .int .i64 x0.2.2.1.2.1, .int .i64 x0.2.2.1.2.2.1, .slice Dx0_10 x0.2.2.1.2.2.2.length dx0_10, .slice Dx0_11 x0.2.2.2.1.length dx0_11, .slice Dx0_12 x0.2.2.2.2.length dx0_12] 51)).cell? ⟨w.heap.size, 5, none⟩ = some (.int .i64 x0.2.1.2.2.1) := ka0_4b.cell 5
  have ga0_4_6 : (w4.alloc (.cells #[.int .i64 x0.1.1, .slice Dx0_1 x0.1.2.1.length dx0_1, .slice Dx0_2 x0.1.2.2.length dx0_2, .int .i64 x0.2.1.1, .int .i64 x0.2.1.2.1, .int .i64 x0.2.1.2.2.1, .slice Dx0_6 x0.2.1.2.2.2.length dx0_6, .int .i64 x0.2.2.1.1, .int .i64 x0.2.2.1.2.1, .int .i64 x0.2.2.1.2.2.1, .slice Dx0_10 x0.2.2.1.2.2.2.length dx0_10, .slice Dx0_11 x0.2.2.2.1.length dx0_11, .slice Dx0_12 x0.2.2.2.2.length dx0_12] 51)).cell? ⟨w.heap.size, 6, none⟩ = some (.slice A0_6 x0.2.1.2.2.2.length c0_6) := ka0_4b.cell 6
  have ga0_4_7 : (w4.alloc (.cells #[.int .i64 x0.1.1, .slice Dx0_1 x0.1.2.1.length dx0_1, .slice Dx0_2 x0.1.2.2.length dx0_2, .int .i64 x0.2.1.1, .int .i64 x0.2.1.2.1, .int .i64 x0.2.1.2.2.1, .slice Dx0_6 x0.2.1.2.2.2.length dx0_6, .int .i64 x0.2.2.1.1, .int .i64 x0.2.2.1.2.1, .int .i64 x0.2.2.1.2.2.1, .slice Dx0_10 x0.2.2.1.2.2.2.length dx0_10, .slice Dx0_11 x0.2.2.2.1.length dx0_11, .slice Dx0_12 x0.2.2.2.2.length dx0_12] 51)).cell? ⟨w.heap.size, 7, none⟩ = some (.int .i64 x0.2.2.1.1) := ka0_4b.cell 7
  have ga0_4_8 : (w4.alloc (.cells #[.int .i64 x0.1.1, .slice Dx0_1 x0.1.2.1.length dx0_1, .slice Dx0_2 x0.1.2.2.length dx0_2, .int .i64 x0.2.1.1, .int .i64 x0.2.1.2.1, .int .i64 x0.2.1.2.2.1, .slice Dx0_6 x0.2.1.2.2.2.length dx0_6, .int .i64 x0.2.2.1.1, .int .i64 x0.2.2.1.2.1, .int .i64 x0.2.2.1.2.2.1, .slice Dx0_10 x0.2.2.1.2.2.2.length dx0_10, .slice Dx0_11 x0.2.2.2.1.length dx0_11, .slice Dx0_12 x0.2.2.2.2.length dx0_12] 51)).cell? ⟨w.heap.size, 8, none⟩ = some (.int .i64 x0.2.2.1.2.1) := ka0_4b.cell 8
  have ga0_4_9 : (w4.alloc (.cells #[.int .i64 x0.1.1, .slice Dx0_1 x0.1.2.1.length dx0_1, .slice Dx0_2 x0.1.2.2.length dx0_2, .int .i64 x0.2.1.1, .int .i64 x0.2.1.2.1, .int .i64 x0.2.1.2.2.1, .slice Dx0_6 x0.2.1.2.2.2.length dx0_6, .int .i64 x0.2.2.1.1, .int .i64 x0.2.2.1.2.1, .int .i64 x0.2.2.1.2.2.1, .slice Dx0_10 x0.2.2.1.2.2.2.length dx0_10, .slice Dx0_11 x0.2.2.2.1.length dx0_11, .slice Dx0_12 x0.2.2.2.2.length dx0_12] 51)).cell? ⟨w.heap.size, 9, none⟩ = some (.int .i64 x0.2.2.1.2.2.1) := ka0_4b.cell 9
  have ga0_4_10 : (w4.alloc (.cells #[.int .i64 x0.1.1, .slice Dx0_1 x0.1.2.1.length dx0_1, .slice Dx0_2 x0.1.2.2.length dx0_2, .int .i64 x0.2.1.1, .int .i64 x0.2.1.2.1, .int .i64 x0.2.1.2.2.1, .slice Dx0_6 x0.2.1.2.2.2.length dx0_6, .int .i64 x0.2.2.1.1, .int .i64 x0.2.2.1.2.1, .int .i64 x0.2.2.1.2.2.1, .slice Dx0_10 x0.2.2.1.2.2.2.length dx0_10, .slice Dx0_11 x0.2.2.2.1.length dx0_11, .slice Dx0_12 x0.2.2.2.2.length dx0_12] 51)).cell? ⟨w.heap.size, 10, none⟩ = some (.slice A0_10 x0.2.2.1.2.2.2.length c0_10) := ka0_4b.cell 10
  have ga0_4_11 : (w4.alloc (.cells #[.int .i64 x0.1.1, .slice Dx0_1 x0.1.2.1.length dx0_1, .slice Dx0_2 x0.1.2.2.length dx0_2, .int .i64 x0.2.1.1, .int .i64 x0.2.1.2.1, .int .i64 x0.2.1.2.2.1, .slice Dx0_6 x0.2.1.2.2.2.length dx0_6, .int .i64 x0.2.2.1.1, .int .i64 x0.2.2.1.2.1, .int .i64 x0.2.2.1.2.2.1, .slice Dx0_10 x0.2.2.1.2.2.2.length dx0_10, .slice Dx0_11 x0.2.2.2.1.length dx0_11, .slice Dx0_12 x0.2.2.2.2.length dx0_12] 51)).cell? ⟨w.heap.size, 11, none⟩ = some (.slice A0_11 x0.2.2.2.1.length c0_11) := ka0_4b.cell 11
  have ga0_4_12 : (w4.alloc (.cells #[.int .i64 x0.1.1, .slice Dx0_1 x0.1.2.1.length dx0_1, .slice Dx0_2 x0.1.2.2.length dx0_2, .int .i64 x0.2.1.1, .int .i64 x0.2.1.2.1, .int .i64 x0.2.1.2.2.1, .slice Dx0_6 x0.2.1.2.2.2.length dx0_6, .int .i64 x0.2.2.1.1, .int .i64 x0.2.2.1.2.1, .int .i64 x0.2.2.1.2.2.1, .slice Dx0_10 x0.2.2.1.2.2.2.length dx0_10, .slice Dx0_11 x0.2.2.2.1.length dx0_11, .slice Dx0_12 x0.2.2.2.2.length dx0_12] 51)).cell? ⟨w.heap.size, 12, none⟩ = some (.slice A0_12 x0.2.2.2.2.length c0_12) := ka0_4b.cell 12
  have zza0_4 := ka0_4b.lt
  have gr_4_0 : (w4.alloc (.cells #[.int .i64 x0.1.1, .slice Dx0_1 x0.1.2.1.length dx0_1, .slice Dx0_2 x0.1.2.2.length dx0_2, .int .i64 x0.2.1.1, .int .i64 x0.2.1.2.1, .int .i64 x0.2.1.2.2.1, .slice Dx0_6 x0.2.1.2.2.2.length dx0_6, .int .i64 x0.2.2.1.1, .int .i64 x0.2.2.1.2.1, .int .i64 x0.2.2.1.2.2.1, .slice Dx0_10 x0.2.2.1.2.2.2.length dx0_10, .slice Dx0_11 x0.2.2.2.1.length dx0_11, .slice Dx0_12 x0.2.2.2.2.length dx0_12] 51)).cell? ⟨w3.heap.size, 0, none⟩ = some (.int .i64 (endTop x0).1.1) := kr_4b.cell 0
  have gr_4_1 : (w4.alloc (.cells #[.int .i64 x0.1.1, .slice Dx0_1 x0.1.2.1.length dx0_1, .slice Dx0_2 x0.1.2.2.length dx0_2, .int .i64 x0.2.1.1, .int .i64 x0.2.1.2.1, .int .i64 x0.2.1.2.2.1, .slice Dx0_6 x0.2.1.2.2.2.length dx0_6, .int .i64 x0.2.2.1.1, .int .i64 x0.2.2.1.2.1, .int .i64 x0.2.2.1.2.2.1, .slice Dx0_10 x0.2.2.1.2.2.2.length dx0_10, .slice Dx0_11 x0.2.2.2.1.length dx0_11, .slice Dx0_12 x0.2.2.2.2.length dx0_12] 51)).cell? ⟨w3.heap.size, 1, none⟩ = some (.slice Ds_1 (endTop x0).1.2.1.length ds_1) := kr_4b.cell 1
  have gr_4_2 : (w4.alloc (.cells #[.int .i64 x0.1.1, .slice Dx0_1 x0.1.2.1.length dx0_1, .slice Dx0_2 x0.1.2.2.length dx0_2, .int .i64 x0.2.1.1, .int .i64 x0.2.1.2.1, .int .i64 x0.2.1.2.2.1, .slice Dx0_6 x0.2.1.2.2.2.length dx0_6, .int .i64 x0.2.2.1.1, .int .i64 x0.2.2.1.2.1, .int .i64 x0.2.2.1.2.2.1, .slice Dx0_10 x0.2.2.1.2.2.2.length dx0_10, .slice Dx0_11 x0.2.2.2.1.length dx0_11, .slice Dx0_12 x0.2.2.2.2.length dx0_12] 51)).cell? ⟨w3.heap.size, 2, none⟩ = some (.slice Ds_2 (endTop x0).1.2.2.length ds_2) := kr_4b.cell 2
  have gr_4_3 : (w4.alloc (.cells #[.int .i64 x0.1.1, .slice Dx0_1 x0.1.2.1.length dx0_1, .slice Dx0_2 x0.1.2.2.length dx0_2, .int .i64 x0.2.1.1, .int .i64 x0.2.1.2.1, .int .i64 x0.2.1.2.2.1, .slice Dx0_6 x0.2.1.2.2.2.length dx0_6, .int .i64 x0.2.2.1.1, .int .i64 x0.2.2.1.2.1, .int .i64 x0.2.2.1.2.2.1, .slice Dx0_10 x0.2.2.1.2.2.2.length dx0_10, .slice Dx0_11 x0.2.2.2.1.length dx0_11, .slice Dx0_12 x0.2.2.2.2.length dx0_12] 51)).cell? ⟨w3.heap.size, 3, none⟩ = some (.int .i64 (endTop x0).2.1.1) := kr_4b.cell 3
  have gr_4_4 : (w4.alloc (.cells #[.int .i64 x0.1.1, .slice Dx0_1 x0.1.2.1.length dx0_1, .slice Dx0_2 x0.1.2.2.length dx0_2, .int .i64 x0.2.1.1, .int .i64 x0.2.1.2.1, .int .i64 x0.2.1.2.2.1, .slice Dx0_6 x0.2.1.2.2.2.length dx0_6, .int .i64 x0.2.2.1.1, .int .i64 x0.2.2.1.2.1, .int .i64 x0.2.2.1.2.2.1, .slice Dx0_10 x0.2.2.1.2.2.2.length dx0_10, .slice Dx0_11 x0.2.2.2.1.length dx0_11, .slice Dx0_12 x0.2.2.2.2.length dx0_12] 51)).cell? ⟨w3.heap.size, 4, none⟩ = some (.int .i64 (endTop x0).2.1.2.1) := kr_4b.cell 4
  have gr_4_5 : (w4.alloc (.cells #[.int .i64 x0.1.1, .slice Dx0_1 x0.1.2.1.length dx0_1, .slice Dx0_2 x0.1.2.2.length dx0_2, .int .i64 x0.2.1.1, .int .i64 x0.2.1.2.1, .int .i64 x0.2.1.2.2.1, .slice Dx0_6 x0.2.1.2.2.2.length dx0_6, .int .i64 x0.2.2.1.1, .int .i64 x0.2.2.1.2.1, .int .i64 x0.2.2.1.2.2.1, .slice Dx0_10 x0.2.2.1.2.2.2.length dx0_10, .slice Dx0_11 x0.2.2.2.1.length dx0_11, .slice Dx0_12 x0.2.2.2.2.length dx0_12] 51)).cell? ⟨w3.heap.size, 5, none⟩ = some (.int .i64 (endTop x0).2.1.2.2.1) := kr_4b.cell 5
  have gr_4_6 : (w4.alloc (.cells #[.int .i64 x0.1.1, .slice Dx0_1 x0.1.2.1.length dx0_1, .slice Dx0_2 x0.1.2.2.length dx0_2, .int .i64 x0.2.1.1, .int .i64 x0.2.1.2.1, .int .i64 x0.2.1.2.2.1, .slice Dx0_6 x0.2.1.2.2.2.length dx0_6, .int .i64 x0.2.2.1.1, .int .i64 x0.2.2.1.2.1, .int .i64 x0.2.2.1.2.2.1, .slice Dx0_10 x0.2.2.1.2.2.2.length dx0_10, .slice Dx0_11 x0.2.2.2.1.length dx0_11, .slice Dx0_12 x0.2.2.2.2.length dx0_12] 51)).cell? ⟨w3.heap.size, 6, none⟩ = some (.slice Ds_6 (endTop x0).2.1.2.2.2.length ds_6) := kr_4b.cell 6
  have gr_4_7 : (w4.alloc (.cells #[.int .i64 x0.1.1, .slice Dx0_1 x0.1.2.1.length dx0_1, .slice Dx0_2 x0.1.2.2.length dx0_2, .int .i64 x0.2.1.1, .int .i64 x0.2.1.2.1, .int .i64 x0.2.1.2.2.1, .slice Dx0_6 x0.2.1.2.2.2.length dx0_6, .int .i64 x0.2.2.1.1, .int .i64 x0.2.2.1.2.1, .int .i64 x0.2.2.1.2.2.1, .slice Dx0_10 x0.2.2.1.2.2.2.length dx0_10, .slice Dx0_11 x0.2.2.2.1.length dx0_11, .slice Dx0_12 x0.2.2.2.2.length dx0_12] 51)).cell? ⟨w3.heap.size, 7, none⟩ = some (.int .i64 (endTop x0).2.2.1.1) := kr_4b.cell 7
  have gr_4_8 : (w4.alloc (.cells #[.int .i64 x0.1.1, .slice Dx0_1 x0.1.2.1.length dx0_1, .slice Dx0_2 x0.1.2.2.length dx0_2, .int .i64 x0.2.1.1, .int .i64 x0.2.1.2.1, .int .i64 x0.2.1.2.2.1, .slice Dx0_6 x0.2.1.2.2.2.length dx0_6, .int .i64 x0.2.2.1.1, .int .i64 x0.2.2.1.2.1, .int .i64 x0.2.2.1.2.2.1, .slice Dx0_10 x0.2.2.1.2.2.2.length dx0_10, .slice Dx0_11 x0.2.2.2.1.length dx0_11, .slice Dx0_12 x0.2.2.2.2.length dx0_12] 51)).cell? ⟨w3.heap.size, 8, none⟩ = some (.int .i64 (endTop x0).2.2.1.2.1) := kr_4b.cell 8
  have gr_4_9 : (w4.alloc (.cells #[.int .i64 x0.1.1, .slice Dx0_1 x0.1.2.1.length dx0_1, .slice Dx0_2 x0.1.2.2.length dx0_2, .int .i64 x0.2.1.1, .int .i64 x0.2.1.2.1, .int .i64 x0.2.1.2.2.1, .slice Dx0_6 x0.2.1.2.2.2.length dx0_6, .int .i64 x0.2.2.1.1, .int .i64 x0.2.2.1.2.1, .int .i64 x0.2.2.1.2.2.1, .slice Dx0_10 x0.2.2.1.2.2.2.length dx0_10, .slice Dx0_11 x0.2.2.2.1.length dx0_11, .slice Dx0_12 x0.2.2.2.2.length dx0_12] 51)).cell? ⟨w3.heap.size, 9, none⟩ = some (.int .i64 (endTop x0).2.2.1.2.2.1) := kr_4b.cell 9
  have gr_4_10 : (w4.alloc (.cells #[.int .i64 x0.1.1, .slice Dx0_1 x0.1.2.1.length dx0_1, .slice Dx0_2 x0.1.2.2.length dx0_2, .int .i64 x0.2.1.1, .int .i64 x0.2.1.2.1, .int .i64 x0.2.1.2.2.1, .slice Dx0_6 x0.2.1.2.2.2.length dx0_6, .int .i64 x0.2.2.1.1, .int .i64 x0.2.2.1.2.1, .int .i64 x0.2.2.1.2.2.1, .slice Dx0_10 x0.2.2.1.2.2.2.length dx0_10, .slice Dx0_11 x0.2.2.2.1.length dx0_11, .slice Dx0_12 x0.2.2.2.2.length dx0_12] 51)).cell? ⟨w3.heap.size, 10, none⟩ = some (.slice Ds_10 (endTop x0).2.2.1.2.2.2.length ds_10) := kr_4b.cell 10
  have gr_4_11 : (w4.alloc (.cells #[.int .i64 x0.1.1, .slice Dx0_1 x0.1.2.1.length dx0_1, .slice Dx0_2 x0.1.2.2.length dx0_2, .int .i64 x0.2.1.1, .int .i64 x0.2.1.2.1, .int .i64 x0.2.1.2.2.1, .slice Dx0_6 x0.2.1.2.2.2.length dx0_6, .int .i64 x0.2.2.1.1, .int .i64 x0.2.2.1.2.1, .int .i64 x0.2.2.1.2.2.1, .slice Dx0_10 x0.2.2.1.2.2.2.length dx0_10, .slice Dx0_11 x0.2.2.2.1.length dx0_11, .slice Dx0_12 x0.2.2.2.2.length dx0_12] 51)).cell? ⟨w3.heap.size, 11, none⟩ = some (.slice Ds_11 (endTop x0).2.2.2.1.length ds_11) := kr_4b.cell 11
  have gr_4_12 : (w4.alloc (.cells #[.int .i64 x0.1.1, .slice Dx0_1 x0.1.2.1.length dx0_1, .slice Dx0_2 x0.1.2.2.length dx0_2, .int .i64 x0.2.1.1, .int .i64 x0.2.1.2.1, .int .i64 x0.2.1.2.2.1, .slice Dx0_6 x0.2.1.2.2.2.length dx0_6, .int .i64 x0.2.2.1.1, .int .i64 x0.2.2.1.2.1, .int .i64 x0.2.2.1.2.2.1, .slice Dx0_10 x0.2.2.1.2.2.2.length dx0_10, .slice Dx0_11 x0.2.2.2.1.length dx0_11, .slice Dx0_12 x0.2.2.2.2.length dx0_12] 51)).cell? ⟨w3.heap.size, 12, none⟩ = some (.slice Ds_12 (endTop x0).2.2.2.2.length ds_12) := kr_4b.cell 12
  have zzr_4 := kr_4b.lt
  have gx0_4_0 : (w4.alloc (.cells #[.int .i64 x0.1.1, .slice Dx0_1 x0.1.2.1.length dx0_1, .slice Dx0_2 x0.1.2.2.length dx0_2, .int .i64 x0.2.1.1, .int .i64 x0.2.1.2.1, .int .i64 x0.2.1.2.2.1, .slice Dx0_6 x0.2.1.2.2.2.length dx0_6, .int .i64 x0.2.2.1.1, .int .i64 x0.2.2.1.2.1, .int .i64 x0.2.2.1.2.2.1, .slice Dx0_10 x0.2.2.1.2.2.2.length dx0_10, .slice Dx0_11 x0.2.2.2.1.length dx0_11, .slice Dx0_12 x0.2.2.2.2.length dx0_12] 51)).cell? ⟨w4.heap.size, 0, none⟩ = some (.int .i64 x0.1.1) := kx0_4b.cell 0
  have gx0_4_1 : (w4.alloc (.cells #[.int .i64 x0.1.1, .slice Dx0_1 x0.1.2.1.length dx0_1, .slice Dx0_2 x0.1.2.2.length dx0_2, .int .i64 x0.2.1.1, .int .i64 x0.2.1.2.1, .int .i64 x0.2.1.2.2.1, .slice Dx0_6 x0.2.1.2.2.2.length dx0_6, .int .i64 x0.2.2.1.1, .int .i64 x0.2.2.1.2.1, .int .i64 x0.2.2.1.2.2.1, .slice Dx0_10 x0.2.2.1.2.2.2.length dx0_10, .slice Dx0_11 x0.2.2.2.1.length dx0_11, .slice Dx0_12 x0.2.2.2.2.length dx0_12] 51)).cell? ⟨w4.heap.size, 1, none⟩ = some (.slice Dx0_1 x0.1.2.1.length dx0_1) := kx0_4b.cell 1
  have gx0_4_2 : (w4.alloc (.cells #[.int .i64 x0.1.1, .slice Dx0_1 x0.1.2.1.length dx0_1, .slice Dx0_2 x0.1.2.2.length dx0_2, .int .i64 x0.2.1.1, .int .i64 x0.2.1.2.1, .int .i64 x0.2.1.2.2.1, .slice Dx0_6 x0.2.1.2.2.2.length dx0_6, .int .i64 x0.2.2.1.1, .int .i64 x0.2.2.1.2.1, .int .i64 x0.2.2.1.2.2.1, .slice Dx0_10 x0.2.2.1.2.2.2.length dx0_10, .slice Dx0_11 x0.2.2.2.1.length dx0_11, .slice Dx0_12 x0.2.2.2.2.length dx0_12] 51)).cell? ⟨w4.heap.size, 2, none⟩ = some (.slice Dx0_2 x0.1.2.2.length dx0_2) := kx0_4b.cell 2
  have gx0_4_3 : (w4.alloc (.cells #[.int .i64 x0.1.1, .slice Dx0_1 x0.1.2.1.length dx0_1, .slice Dx0_2 x0.1.2.2.length dx0_2, .int .i64 x0.2.1.1, .int .i64 x0.2.1.2.1, .int .i64 x0.2.1.2.2.1, .slice Dx0_6 x0.2.1.2.2.2.length dx0_6, .int .i64 x0.2.2.1.1, .int .i64 x0.2.2.1.2.1, .int .i64 x0.2.2.1.2.2.1, .slice Dx0_10 x0.2.2.1.2.2.2.length dx0_10, .slice Dx0_11 x0.2.2.2.1.length dx0_11, .slice Dx0_12 x0.2.2.2.2.length dx0_12] 51)).cell? ⟨w4.heap.size, 3, none⟩ = some (.int .i64 x0.2.1.1) := kx0_4b.cell 3
  have gx0_4_4 : (w4.alloc (.cells #[.int .i64 x0.1.1, .slice Dx0_1 x0.1.2.1.length dx0_1, .slice Dx0_2 x0.1.2.2.length dx0_2, .int .i64 x0.2.1.1, .int .i64 x0.2.1.2.1, .int .i64 x0.2.1.2.2.1, .slice Dx0_6 x0.2.1.2.2.2.length dx0_6, .int .i64 x0.2.2.1.1, .int .i64 x0.2.2.1.2.1, .int .i64 x0.2.2.1.2.2.1, .slice Dx0_10 x0.2.2.1.2.2.2.length dx0_10, .slice Dx0_11 x0.2.2.2.1.length dx0_11, .slice Dx0_12 x0.2.2.2.2.length dx0_12] 51)).cell? ⟨w4.heap.size, 4, none⟩ = some (.int .i64 x0.2.1.2.1) := kx0_4b.cell 4
  have gx0_4_5 : (w4.alloc (.cells #[.int .i64 x0.1.1, .slice Dx0_1 x0.1.2.1.length dx0_1, .slice Dx0_2 x0.1.2.2.length dx0_2, .int .i64 x0.2.1.1, .int .i64 x0.2.1.2.1, .int .i64 x0.2.1.2.2.1, .slice Dx0_6 x0.2.1.2.2.2.length dx0_6, .int .i64 x0.2.2.1.1, .int .i64 x0.2.2.1.2.1, .int .i64 x0.2.2.1.2.2.1, .slice Dx0_10 x0.2.2.1.2.2.2.length dx0_10, .slice Dx0_11 x0.2.2.2.1.length dx0_11, .slice Dx0_12 x0.2.2.2.2.length dx0_12] 51)).cell? ⟨w4.heap.size, 5, none⟩ = some (.int .i64 x0.2.1.2.2.1) := kx0_4b.cell 5
  have gx0_4_6 : (w4.alloc (.cells #[.int .i64 x0.1.1, .slice Dx0_1 x0.1.2.1.length dx0_1, .slice Dx0_2 x0.1.2.2.length dx0_2, .int .i64 x0.2.1.1, .int .i64 x0.2.1.2.1, .int .i64 x0.2.1.2.2.1, .slice Dx0_6 x0.2.1.2.2.2.length dx0_6, .int .i64 x0.2.2.1.1, .int .i64 x0.2.2.1.2.1, .int .i64 x0.2.2.1.2.2.1, .slice Dx0_10 x0.2.2.1.2.2.2.length dx0_10, .slice Dx0_11 x0.2.2.2.1.length dx0_11, .slice Dx0_12 x0.2.2.2.2.length dx0_12] 51)).cell? ⟨w4.heap.size, 6, none⟩ = some (.slice Dx0_6 x0.2.1.2.2.2.length dx0_6) := kx0_4b.cell 6
  have gx0_4_7 : (w4.alloc (.cells #[.int .i64 x0.1.1, .slice Dx0_1 x0.1.2.1.length dx0_1, .slice Dx0_2 x0.1.2.2.length dx0_2, .int .i64 x0.2.1.1, .int .i64 x0.2.1.2.1, .int .i64 x0.2.1.2.2.1, .slice Dx0_6 x0.2.1.2.2.2.length dx0_6, .int .i64 x0.2.2.1.1, .int .i64 x0.2.2.1.2.1, .int .i64 x0.2.2.1.2.2.1, .slice Dx0_10 x0.2.2.1.2.2.2.length dx0_10, .slice Dx0_11 x0.2.2.2.1.length dx0_11, .slice Dx0_12 x0.2.2.2.2.length dx0_12] 51)).cell? ⟨w4.heap.size, 7, none⟩ = some (.int .i64 x0.2.2.1.1) := kx0_4b.cell 7
  have gx0_4_8 : (w4.alloc (.cells #[.int .i64 x0.1.1, .slice Dx0_1 x0.1.2.1.length dx0_1, .slice Dx0_2 x0.1.2.2.length dx0_2, .int .i64 x0.2.1.1, .int .i64 x0.2.1.2.1, .int .i64 x0.2.1.2.2.1, .slice Dx0_6 x0.2.1.2.2.2.length dx0_6, .int .i64 x0.2.2.1.1, .int .i64 x0.2.2.1.2.1, .int .i64 x0.2.2.1.2.2.1, .slice Dx0_10 x0.2.2.1.2.2.2.length dx0_10, .slice Dx0_11 x0.2.2.2.1.length dx0_11, .slice Dx0_12 x0.2.2.2.2.length dx0_12] 51)).cell? ⟨w4.heap.size, 8, none⟩ = some (.int .i64 x0.2.2.1.2.1) := kx0_4b.cell 8
  have gx0_4_9 : (w4.alloc (.cells #[.int .i64 x0.1.1, .slice Dx0_1 x0.1.2.1.length dx0_1, .slice Dx0_2 x0.1.2.2.length dx0_2, .int .i64 x0.2.1.1, .int .i64 x0.2.1.2.1, .int .i64 x0.2.1.2.2.1, .slice Dx0_6 x0.2.1.2.2.2.length dx0_6, .int .i64 x0.2.2.1.1, .int .i64 x0.2.2.1.2.1, .int .i64 x0.2.2.1.2.2.1, .slice Dx0_10 x0.2.2.1.2.2.2.length dx0_10, .slice Dx0_11 x0.2.2.2.1.length dx0_11, .slice Dx0_12 x0.2.2.2.2.length dx0_12] 51)).cell? ⟨w4.heap.size, 9, none⟩ = some (.int .i64 x0.2.2.1.2.2.1) := kx0_4b.cell 9
  have gx0_4_10 : (w4.alloc (.cells #[.int .i64 x0.1.1, .slice Dx0_1 x0.1.2.1.length dx0_1, .slice Dx0_2 x0.1.2.2.length dx0_2, .int .i64 x0.2.1.1, .int .i64 x0.2.1.2.1, .int .i64 x0.2.1.2.2.1, .slice Dx0_6 x0.2.1.2.2.2.length dx0_6, .int .i64 x0.2.2.1.1, .int .i64 x0.2.2.1.2.1, .int .i64 x0.2.2.1.2.2.1, .slice Dx0_10 x0.2.2.1.2.2.2.length dx0_10, .slice Dx0_11 x0.2.2.2.1.length dx0_11, .slice Dx0_12 x0.2.2.2.2.length dx0_12] 51)).cell? ⟨w4.heap.size, 10, none⟩ = some (.slice Dx0_10 x0.2.2.1.2.2.2.length dx0_10) := kx0_4b.cell 10
  have gx0_4_11 : (w4.alloc (.cells #[.int .i64 x0.1.1, .slice Dx0_1 x0.1.2.1.length dx0_1, .slice Dx0_2 x0.1.2.2.length dx0_2, .int .i64 x0.2.1.1, .int .i64 x0.2.1.2.1, .int .i64 x0.2.1.2.2.1, .slice Dx0_6 x0.2.1.2.2.2.length dx0_6, .int .i64 x0.2.2.1.1, .int .i64 x0.2.2.1.2.1, .int .i64 x0.2.2.1.2.2.1, .slice Dx0_10 x0.2.2.1.2.2.2.length dx0_10, .slice Dx0_11 x0.2.2.2.1.length dx0_11, .slice Dx0_12 x0.2.2.2.2.length dx0_12] 51)).cell? ⟨w4.heap.size, 11, none⟩ = some (.slice Dx0_11 x0.2.2.2.1.length dx0_11) := kx0_4b.cell 11
  have gx0_4_12 : (w4.alloc (.cells #[.int .i64 x0.1.1, .slice Dx0_1 x0.1.2.1.length dx0_1, .slice Dx0_2 x0.1.2.2.length dx0_2, .int .i64 x0.2.1.1, .int .i64 x0.2.1.2.1, .int .i64 x0.2.1.2.2.1, .slice Dx0_6 x0.2.1.2.2.2.length dx0_6, .int .i64 x0.2.2.1.1, .int .i64 x0.2.2.1.2.1, .int .i64 x0.2.2.1.2.2.1, .slice Dx0_10 x0.2.2.1.2.2.2.length dx0_10, .slice Dx0_11 x0.2.2.2.1.length dx0_11, .slice Dx0_12 x0.2.2.2.2.length dx0_12] 51)).cell? ⟨w4.heap.size, 12, none⟩ = some (.slice Dx0_12 x0.2.2.2.2.length dx0_12) := kx0_4b.cell 12
  have zzx0_4 := kx0_4b.lt
  go_wp2_with fail
  refine (ci_EndTop _ x0 _ ⟨_, rfl, good_Cache.wide (good_Cache.own_rep ox0_4b) (Nat.zero_le _) (by omega)⟩ hn0).mono ?_
  rintro e w5 ⟨csg, blg, rfl, og, ndg, u5⟩
  obtain ⟨Dg_1, dg_1, _, Dg_2, dg_2, _, Dg_6, dg_6, _, Dg_10, dg_10, _, Dg_11, dg_11, _, Dg_12, dg_12, _, rfl, _, _⟩ := openOCache og
  have uu5 := ub4.trans u5
  have zs5 := u5.size
  have ka0_5 := ka0_4b.up u5
  have kr_5 := kr_4b.up u5
  have kx0_5 := kx0_4b.up u5
  have os_5 := good_Cache.keep os_4b (u5.keeps (by omega))
  clear os_4b
  have ox0_5 := good_Cache.own_keep ox0_4b (fun y hy => u5.block y (Nat.lt_of_lt_of_le (good_Cache.own_in ox0_4b y hy).2 (by omega)))
  clear ox0_4b
  have ua5 : Up w5 (w5.alloc (.cells #[.int .i64 (endTop x0).1.1, .slice Dg_1 (endTop x0).1.2.1.length dg_1, .slice Dg_2 (endTop x0).1.2.2.length dg_2, .int .i64 (endTop x0).2.1.1, .int .i64 (endTop x0).2.1.2.1, .int .i64 (endTop x0).2.1.2.2.1, .slice Dg_6 (endTop x0).2.1.2.2.2.length dg_6, .int .i64 (endTop x0).2.2.1.1, .int .i64 (endTop x0).2.2.1.2.1, .int .i64 (endTop x0).2.2.1.2.2.1, .slice Dg_10 (endTop x0).2.2.1.2.2.2.length dg_10, .slice Dg_11 (endTop x0).2.2.2.1.length dg_11, .slice Dg_12 (endTop x0).2.2.2.2.length dg_12] 51)) := (Up.alloc (Up.refl w5) (.cells #[.int .i64 (endTop x0).1.1, .slice Dg_1 (endTop x0).1.2.1.length dg_1, .slice Dg_2 (endTop x0).1.2.2.length dg_2, .int .i64 (endTop x0).2.1.1, .int .i64 (endTop x0).2.1.2.1, .int .i64 (endTop x0).2.1.2.2.1, .slice Dg_6 (endTop x0).2.1.2.2.2.length dg_6, .int .i64 (endTop x0).2.2.1.1, .int .i64 (endTop x0).2.2.1.2.1, .int .i64 (endTop x0).2.2.1.2.2.1, .slice Dg_10 (endTop x0).2.2.1.2.2.2.length dg_10, .slice Dg_11 (endTop x0).2.2.2.1.length dg_11, .slice Dg_12 (endTop x0).2.2.2.2.length dg_12] 51))
  have za5 : (w5.alloc (.cells #[.int .i64 (endTop x0).1.1, .slice Dg_1 (endTop x0).1.2.1.length dg_1, .slice Dg_2 (endTop x0).1.2.2.length dg_2, .int .i64 (endTop x0).2.1.1, .int .i64 (endTop x0).2.1.2.1, .int .i64 (endTop x0).2.1.2.2.1, .slice Dg_6 (endTop x0).2.1.2.2.2.length dg_6, .int .i64 (endTop x0).2.2.1.1, .int .i64 (endTop x0).2.2.1.2.1, .int .i64 (endTop x0).2.2.1.2.2.1, .slice Dg_10 (endTop x0).2.2.1.2.2.2.length dg_10, .slice Dg_11 (endTop x0).2.2.2.1.length dg_11, .slice Dg_12 (endTop x0).2.2.2.2.length dg_12] 51)).heap.size = w5.heap.size + 1 := by simp
  have ub5 := uu5.trans ua5
  have ka0_5b := ka0_5.up ua5
  have kr_5b := kr_5.up ua5
  have kx0_5b := kx0_5.up ua5
  have os_5b := good_Cache.keep os_5 (ua5.keeps (by omega))
  clear os_5
  have ox0_5b := good_Cache.own_keep ox0_5 (fun y hy => ua5.block y (Nat.lt_of_lt_of_le (good_Cache.own_in ox0_5 y hy).2 (by omega)))
  clear ox0_5
  have og_5b := good_Cache.own_keep og (fun y hy => ua5.block y (Nat.lt_of_lt_of_le (good_Cache.own_in og y hy).2 (by omega)))
  have kg_5b : Bk (w5.alloc (.cells #[.int .i64 (endTop x0).1.1, .slice Dg_1 (endTop x0).1.2.1.length dg_1, .slice Dg_2 (endTop x0).1.2.2.length dg_2, .int .i64 (endTop x0).2.1.1, .int .i64 (endTop x0).2.1.2.1, .int .i64 (endTop x0).2.1.2.2.1, .slice Dg_6 (endTop x0).2.1.2.2.2.length dg_6, .int .i64 (endTop x0).2.2.1.1, .int .i64 (endTop x0).2.2.1.2.1, .int .i64 (endTop x0).2.2.1.2.2.1, .slice Dg_10 (endTop x0).2.2.1.2.2.2.length dg_10, .slice Dg_11 (endTop x0).2.2.2.1.length dg_11, .slice Dg_12 (endTop x0).2.2.2.2.length dg_12] 51)) (w5.heap.size) 51 #[.int .i64 (endTop x0).1.1, .slice Dg_1 (endTop x0).1.2.1.length dg_1, .slice Dg_2 (endTop x0).1.2.2.length dg_2, .int .i64 (endTop x0).2.1.1, .int .i64 (endTop x0).2.1.2.1, .int .i64 (endTop x0).2.1.2.2.1, .slice Dg_6 (endTop x0).2.1.2.2.2.length dg_6, .int .i64 (endTop x0).2.2.1.1, .int .i64 (endTop x0).2.2.1.2.1, .int .i64 (endTop x0).2.2.1.2.2.1, .slice Dg_10 (endTop x0).2.2.1.2.2.2.length dg_10, .slice Dg_11 (endTop x0).2.2.2.1.length dg_11, .slice Dg_12 (endTop x0).2.2.2.2.length dg_12] := Bk.new _ _ _
  clear ga0_4_0 ga0_4_1 ga0_4_2 ga0_4_3 ga0_4_4 ga0_4_5 ga0_4_6 ga0_4_7 ga0_4_8 ga0_4_9 ga0_4_10 ga0_4_11 ga0_4_12 zza0_4 gr_4_0 gr_4_1 gr_4_2 gr_4_3 gr_4_4 gr_4_5 gr_4_6 gr_4_7 gr_4_8 gr_4_9 gr_4_10 gr_4_11 gr_4_12 zzr_4 gx0_4_0 gx0_4_1 gx0_4_2 gx0_4_3 gx0_4_4 gx0_4_5 gx0_4_6 gx0_4_7 gx0_4_8 gx0_4_9 gx0_4_10 gx0_4_11 gx0_4_12 zzx0_4
  have ga0_5_0 : (w5.alloc (.cells #[.int .i64 (endTop x0).1.1, .slice Dg_1 (endTop x0).1.2.1.length dg_1, .slice Dg_2 (endTop x0).1.2.2.length dg_2, .int .i64 (endTop x0).2.1.1, .int .i64 (endTop x0).2.1.2.1, .int .i64 (endTop x0).2.1.2.2.1, .slice Dg_6 (endTop x0).2.1.2.2.2.length dg_6, .int .i64 (endTop x0).2.2.1.1, .int .i64 (endTop x0).2.2.1.2.1, .int .i64 (endTop x0).2.2.1.2.2.1, .slice Dg_10 (endTop x0).2.2.1.2.2.2.length dg_10, .slice Dg_11 (endTop x0).2.2.2.1.length dg_11, .slice Dg_12 (endTop x0).2.2.2.2.length dg_12] 51)).cell? ⟨w.heap.size, 0, none⟩ = some (.int .i64 x0.1.1) := ka0_5b.cell 0
  have ga0_5_1 : (w5.alloc (.cells #[.int .i64 (endTop x0).1.1, .slice Dg_1 (endTop x0).1.2.1.length dg_1, .slice Dg_2 (endTop x0).1.2.2.length dg_2, .int .i64 (endTop x0).2.1.1, .int .i64 (endTop x0).2.1.2.1, .int .i64 (endTop x0).2.1.2.2.1, .slice Dg_6 (endTop x0).2.1.2.2.2.length dg_6, .int .i64 (endTop x0).2.2.1.1, .int .i64 (endTop x0).2.2.1.2.1, .int .i64 (endTop x0).2.2.1.2.2.1, .slice Dg_10 (endTop x0).2.2.1.2.2.2.length dg_10, .slice Dg_11 (endTop x0).2.2.2.1.length dg_11, .slice Dg_12 (endTop x0).2.2.2.2.length dg_12] 51)).cell? ⟨w.heap.size, 1, none⟩ = some (.slice A0_1 x0.1.2.1.length c0_1) := ka0_5b.cell 1
  have ga0_5_2 : (w5.alloc (.cells #[.int .i64 (endTop x0).1.1, .slice Dg_1 (endTop x0).1.2.1.length dg_1, .slice Dg_2 (endTop x0).1.2.2.length dg_2, .int .i64 (endTop x0).2.1.1, .int .i64 (endTop x0).2.1.2.1, .int .i64 (endTop x0).2.1.2.2.1, .slice Dg_6 (endTop x0).2.1.2.2.2.length dg_6, .int .i64 (endTop x0).2.2.1.1, .int .i64 (endTop x0).2.2.1.2.1, .int .i64 (endTop x0).2.2.1.2.2.1, .slice Dg_10 (endTop x0).2.2.1.2.2.2.length dg_10, .slice Dg_11 (endTop x0).2.2.2.1.length dg_11, .slice Dg_12 (endTop x0).2.2.2.2.length dg_12] 51)).cell? ⟨w.heap.size, 2, none⟩ = some (.slice A0_2 x0.1.2.2.length c0_2) := ka0_5b.cell 2
  have ga0_5_3 : (w5.alloc (.cells #[.int .i64 (endTop x0).1.1, .slice Dg_1 (endTop x0).1.2.1.length dg_1, .slice Dg_2 (endTop x0).1.2.2.length dg_2, .int .i64 (endTop x0).2.1.1, .int .i64 (endTop x0).2.1.2.1, .int .i64 (endTop x0).2.1.2.2.1, .slice Dg_6 (endTop x0).2.1.2.2.2.length dg_6, .int .i64 (endTop x0).2.2.1.1, .int .i64 (endTop x0).2.2.1.2.1, .int .i64 (endTop x0).2.2.1.2.2.1, .slice Dg_10 (endTop x0).2.2.1.2.2.2.length dg_10, .slice Dg_11 (endTop x0).2.2.2.1.length dg_11, .slice Dg_12 (endTop x0).2.2.2.2.length dg_12] 51)).cell? ⟨w.heap.size, 3, none⟩ = some (.int .i64 x0.2.1.1) := ka0_5b.cell 3
  have ga0_5_4 : (w5.alloc (.cells #[.int .i64 (endTop x0).1.1, .slice Dg_1 (endTop x0).1.2.1.length dg_1, .slice Dg_2 (endTop x0).1.2.2.length dg_2, .int .i64 (endTop x0).2.1.1, .int .i64 (endTop x0).2.1.2.1, .int .i64 (endTop x0).2.1.2.2.1, .slice Dg_6 (endTop x0).2.1.2.2.2.length dg_6, .int .i64 (endTop x0).2.2.1.1, .int .i64 (endTop x0).2.2.1.2.1, .int .i64 (endTop x0).2.2.1.2.2.1, .slice Dg_10 (endTop x0).2.2.1.2.2.2.length dg_10, .slice Dg_11 (endTop x0).2.2.2.1.length dg_11, .slice Dg_12 (endTop x0).2.2.2.2.length dg_12] 51)).cell? ⟨w.heap.size, 4, none⟩ = some (.int .i64 x0.2.1.2.1) := ka0_5b.cell 4
  have ga0_5_5 : (w5.alloc (.cells #[.int .i64 (endTop x0).1.1, .slice Dg_1 (endTop x0).1.2.1.length dg_1, .slice Dg_2 (endTop x0).1.2.2.length dg_2, .int .i64 (endTop x0).2.1.1, .int .i64 (endTop x0).2.1.2.1, .int .i64 (endTop x0).2.1.2.2.1, .slice Dg_6 (endTop x0).2.1.2.2.2.length dg_6, .int .i64 (endTop x0).2.2.1.1, .int .i64 (endTop x0).2.2.1.2.1, .int .i64 (endTop x0).2.2.1.2.2.1, .slice Dg_10 (endTop x0).2.2.1.2.2.2.length dg_10, .slice Dg_11 (endTop x0).2.2.2.1.length dg_11, .slice Dg_12 (endTop x0).2.2.2.2.length dg_12] 51)).cell? ⟨w.heap.size, 5, none⟩ = some (.int .i64 x0.2.1.2.2.1) := ka0_5b.cell 5
  have ga0_5_6 : (w5.alloc (.cells #[.int .i64 (endTop x0).1.1, .slice Dg_1 (endTop x0).1.2.1.length dg_1, .slice Dg_2 (endTop x0).1.2.2.length dg_2, .int .i64 (endTop x0).2.1.1, .int .i64 (endTop x0).2.1.2.1, .int .i64 (endTop x0).2.1.2.2.1, .slice Dg_6 (endTop x0).2.1.2.2.2.length dg_6, .int .i64 (endTop x0).2.2.1.1, .int .i64 (endTop x0).2.2.1.2.1, .int .i64 (endTop x0).2.2.1.2.2.1, .slice Dg_10 (endTop x0).2.2.1.2.2.2.length dg_10, .slice Dg_11 (endTop x0).2.2.2.1.length dg_11, .slice Dg_12 (endTop x0).2.2.2.2.length dg_12] 51)).cell? ⟨w.heap.size, 6, none⟩ = some (.slice A0_6 x0.2.1.2.2.2.length c0_6) := ka0_5b.cell 6
  have ga0_5_7 : (w5.alloc (.cells #[.int .i64 (endTop x0).1.1, .slice Dg_1 (endTop x0).1.2.1.length dg_1, .slice Dg_2 (endTop x0).1.2.2.length dg_2, .int .i64 (endTop x0).2.1.1, .int .i64 (endTop x0).2.1.2.1, .int .i64 (endTop x0).2.1.2.2.1, .slice Dg_6 (endTop x0).2.1.2.2.2.length dg_6, .int .i64 (endTop x0).2.2.1.1, .int .i64 (endTop x0).2.2.1.2.1, .int .i64 (endTop x0).2.2.1.2.2.1, .slice Dg_10 (endTop x0).2.2.1.2.2.2.length dg_10, .slice Dg_11 (endTop x0).2.2.2.1.length dg_11, .slice Dg_12 (endTop x0).2.2.2.2.length dg_12] 51)).cell? ⟨w.heap.size, 7, none⟩ = some (.int .i64 x0.2.2.1.1) := ka0_5b.cell 7
  have ga0_5_8 : (w5.alloc (.cells #[.int .i64 (endTop x0).1.1, .slice Dg_1 (endTop x0).1.2.1.length dg_1, .slice Dg_2 (endTop x0).1.2.2.length dg_2, .int .i64 (endTop x0).2.1.1, .int .i64 (endTop x0).2.1.2.1, .int .i64 (endTop x0).2.1.2.2.1, .slice Dg_6 (endTop x0).2.1.2.2.2.length dg_6, .int .i64 (endTop x0).2.2.1.1, .int .i64 (endTop x0).2.2.1.2.1, .int .i64 (endTop x0).2.2.1.2.2.1, .slice Dg_10 (endTop x0).2.2.1.2.2.2.length dg_10, .slice Dg_11 (endTop x0).2.2.2.1.length dg_11, .slice Dg_12 (endTop x0).2.2.2.2.length dg_12] 51)).cell? ⟨w.heap.size, 8, none⟩ = some (.int .i64 x0.2.2.1.2.1) := ka0_5b.cell 8
  have ga0_5_9 : (w5.alloc (.cells #[.int .i64 (endTop x0).1.1, .slice Dg_1 (endTop x0).1.2.1.length dg_1, .slice Dg_2 (endTop x0).1.2.2.length dg_2, .int .i64 (endTop x0).2.1.1, .int .i64 (endTop x0).2.1.2.1, .int .i64 (endTop x0).2.1.2.2.1, .slice Dg_6 (endTop x0).2.1.2.2.2.length dg_6, .int .i64 (endTop x0).2.2.1.1, .int .i64 (endTop x0).2.2.1.2.1, .int .i64 (endTop x0).2.2.1.2.2.1, .slice Dg_10 (endTop x0).2.2.1.2.2.2.length dg_10, .slice Dg_11 (endTop x0).2.2.2.1.length dg_11, .slice Dg_12 (endTop x0).2.2.2.2.length dg_12] 51)).cell? ⟨w.heap.size, 9, none⟩ = some (.int .i64 x0.2.2.1.2.2.1) := ka0_5b.cell 9
  have ga0_5_10 : (w5.alloc (.cells #[.int .i64 (endTop x0).1.1, .slice Dg_1 (endTop x0).1.2.1.length dg_1, .slice Dg_2 (endTop x0).1.2.2.length dg_2, .int .i64 (endTop x0).2.1.1, .int .i64 (endTop x0).2.1.2.1, .int .i64 (endTop x0).2.1.2.2.1, .slice Dg_6 (endTop x0).2.1.2.2.2.length dg_6, .int .i64 (endTop x0).2.2.1.1, .int .i64 (endTop x0).2.2.1.2.1, .int .i64 (endTop x0).2.2.1.2.2.1, .slice Dg_10 (endTop x0).2.2.1.2.2.2.length dg_10, .slice Dg_11 (endTop x0).2.2.2.1.length dg_11, .slice Dg_12 (endTop x0).2.2.2.2.length dg_12] 51)).cell? ⟨w.heap.size, 10, none⟩ = some (.slice A0_10 x0.2.2.1.2.2.2.length c0_10) := ka0_5b.cell 10
  have ga0_5_11 : (w5.alloc (.cells #[.int .i64 (endTop x0).1.1, .slice Dg_1 (endTop x0).1.2.1.length dg_1, .slice Dg_2 (endTop x0).1.2.2.length dg_2, .int .i64 (endTop x0).2.1.1, .int .i64 (endTop x0).2.1.2.1, .int .i64 (endTop x0).2.1.2.2.1, .slice Dg_6 (endTop x0).2.1.2.2.2.length dg_6, .int .i64 (endTop x0).2.2.1.1, .int .i64 (endTop x0).2.2.1.2.1, .int .i64 (endTop x0).2.2.1.2.2.1, .slice Dg_10 (endTop x0).2.2.1.2.2.2.length dg_10, .slice Dg_11 (endTop x0).2.2.2.1.length dg_11, .slice Dg_12 (endTop x0).2.2.2.2.length dg_12] 51)).cell? ⟨w.heap.size, 11, none⟩ = some (.slice A0_11 x0.2.2.2.1.length c0_11) := ka0_5b.cell 11
  have ga0_5_12 : (w5.alloc (.cells #[.int .i64 (endTop x0).1.1, .slice Dg_1 (endTop x0).1.2.1.length dg_1, .slice Dg_2 (endTop x0).1.2.2.length dg_2, .int .i64 (endTop x0).2.1.1, .int .i64 (endTop x0).2.1.2.1, .int .i64 (endTop x0).2.1.2.2.1, .slice Dg_6 (endTop x0).2.1.2.2.2.length dg_6, .int .i64 (endTop x0).2.2.1.1, .int .i64 (endTop x0).2.2.1.2.1, .int .i64 (endTop x0).2.2.1.2.2.1, .slice Dg_10 (endTop x0).2.2.1.2.2.2.length dg_10, .slice Dg_11 (endTop x0).2.2.2.1.length dg_11, .slice Dg_12 (endTop x0).2.2.2.2.length dg_12] 51)).cell? ⟨w.heap.size, 12, none⟩ = some (.slice A0_12 x0.2.2.2.2.length c0_12) := ka0_5b.cell 12
  have zza0_5 := ka0_5b.lt
  have gr_5_0 : (w5.alloc (.cells #[.int .i64 (endTop x0).1.1, .slice Dg_1 (endTop x0).1.2.1.length dg_1, .slice Dg_2 (endTop x0).1.2.2.length dg_2, .int .i64 (endTop x0).2.1.1, .int .i64 (endTop x0).2.1.2.1, .int .i64 (endTop x0).2.1.2.2.1, .slice Dg_6 (endTop x0).2.1.2.2.2.length dg_6, .int .i64 (endTop x0).2.2.1.1, .int .i64 (endTop x0).2.2.1.2.1, .int .i64 (endTop x0).2.2.1.2.2.1, .slice Dg_10 (endTop x0).2.2.1.2.2.2.length dg_10, .slice Dg_11 (endTop x0).2.2.2.1.length dg_11, .slice Dg_12 (endTop x0).2.2.2.2.length dg_12] 51)).cell? ⟨w3.heap.size, 0, none⟩ = some (.int .i64 (endTop x0).1.1) := kr_5b.cell 0
  have gr_5_1 : (w5.alloc (.cells #[.int .i64 (endTop x0).1.1, .slice Dg_1 (endTop x0).1.2.1.length dg_1, .slice Dg_2 (endTop x0).1.2.2.length dg_2, .int .i64 (endTop x0).2.1.1, .int .i64 (endTop x0).2.1.2.1, .int .i64 (endTop x0).2.1.2.2.1, .slice Dg_6 (endTop x0).2.1.2.2.2.length dg_6, .int .i64 (endTop x0).2.2.1.1, .int .i64 (endTop x0).2.2.1.2.1, .int .i64 (endTop x0).2.2.1.2.2.1, .slice Dg_10 (endTop x0).2.2.1.2.2.2.length dg_10, .slice Dg_11 (endTop x0).2.2.2.1.length dg_11, .slice Dg_12 (endTop x0).2.2.2.2.length dg_12] 51)).cell? ⟨w3.heap.size, 1, none⟩ = some (.slice Ds_1 (endTop x0).1.2.1.length ds_1) := kr_5b.cell 1
  have gr_5_2 : (w5.alloc (.cells #[.int .i64 (endTop x0).1.1, .slice Dg_1 (endTop x0).1.2.1.length dg_1, .slice Dg_2 (endTop x0).1.2.2.length dg_2, .int .i64 (endTop x0).2.1.1, .int .i64 (endTop x0).2.1.2.1, .int .i64 (endTop x0).2.1.2.2.1, .slice Dg_6 (endTop x0).2.1.2.2.2.length dg_6, .int .i64 (endTop x0).2.2.1.1, .int .i64 (endTop x0).2.2.1.2.1, .int .i64 (endTop x0).2.2.1.2.2.1, .slice Dg_10 (endTop x0).2.2.1.2.2.2.length dg_10, .slice Dg_11 (endTop x0).2.2.2.1.length dg_11, .slice Dg_12 (endTop x0).2.2.2.2.length dg_12] 51)).cell? ⟨w3.heap.size, 2, none⟩ = some (.slice Ds_2 (endTop x0).1.2.2.length ds_2) := kr_5b.cell 2
  have gr_5_3 : (w5.alloc (.cells #[.int .i64 (endTop x0).1.1, .slice Dg_1 (endTop x0).1.2.1.length dg_1, .slice Dg_2 (endTop x0).1.2.2.length dg_2, .int .i64 (endTop x0).2.1.1, .int .i64 (endTop x0).2.1.2.1, .int .i64 (endTop x0).2.1.2.2.1, .slice Dg_6 (endTop x0).2.1.2.2.2.length dg_6, .int .i64 (endTop x0).2.2.1.1, .int .i64 (endTop x0).2.2.1.2.1, .int .i64 (endTop x0).2.2.1.2.2.1, .slice Dg_10 (endTop x0).2.2.1.2.2.2.length dg_10, .slice Dg_11 (endTop x0).2.2.2.1.length dg_11, .slice Dg_12 (endTop x0).2.2.2.2.length dg_12] 51)).cell? ⟨w3.heap.size, 3, none⟩ = some (.int .i64 (endTop x0).2.1.1) := kr_5b.cell 3
  have gr_5_4 : (w5.alloc (.cells #[.int .i64 (endTop x0).1.1, .slice Dg_1 (endTop x0).1.2.1.length dg_1, .slice Dg_2 (endTop x0).1.2.2.length dg_2, .int .i64 (endTop x0).2.1.1, .int .i64 (endTop x0).2.1.2.1, .int .i64 (endTop x0).2.1.2.2.1, .slice Dg_6 (endTop x0).2.1.2.2.2.length dg_6, .int .i64 (endTop x0).2.2.1.1, .int .i64 (endTop x0).2.2.1.2.1, .int .i64 (endTop x0).2.2.1.2.2.1, .slice Dg_10 (endTop x0).2.2.1.2.2.2.length dg_10, .slice Dg_11 (endTop x0).2.2.2.1.length dg_11, .slice Dg_12 (endTop x0).2.2.2.2.length dg_12] 51)).cell? ⟨w3.heap.size, 4, none⟩ = some (.int .i64 (endTop x0).2.1.2.1) := kr_5b.cell 4
  have gr_5_5 : (w5.alloc (.cells #[.int .i64 (endTop x0).1.1, .slice Dg_1 (endTop x0).1.2.1.length dg_1, .slice Dg_2 (endTop x0).1.2.2.length dg_2, .int .i64 (endTop x0).2.1.1, .int .i64 (endTop x0).2.1.2.1, .int .i64 (endTop x0).2.1.2.2.1, .slice Dg_6 (endTop x0).2.1.2.2.2.length dg_6, .int .i64 (endTop x0).2.2.1.1, .int .i64 (endTop x0).2.2.1.2.1, .int .i64 (endTop x0).2.2.1.2.2.1, .slice Dg_10 (endTop x0).2.2.1.2.2.2.length dg_10, .slice Dg_11 (endTop x0).2.2.2.1.length dg_11, .slice Dg_12 (endTop x0).2.2.2.2.length dg_12] 51)).cell? ⟨w3.heap.size, 5, none⟩ = some (.int .i64 (endTop x0).2.1.2.2.1) := kr_5b.cell 5
  have gr_5_6 : (w5.alloc (.cells #[.int .i64 (endTop x0).1.1, .slice Dg_1 (endTop x0).1.2.1.length dg_1, .slice Dg_2 (endTop x0).1.2.2.length dg_2, .int .i64 (endTop x0).2.1.1, .int .i64 (endTop x0).2.1.2.1, .int .i64 (endTop x0).2.1.2.2.1, .slice Dg_6 (endTop x0).2.1.2.2.2.length dg_6, .int .i64 (endTop x0).2.2.1.1, .int .i64 (endTop x0).2.2.1.2.1, .int .i64 (endTop x0).2.2.1.2.2.1, .slice Dg_10 (endTop x0).2.2.1.2.2.2.length dg_10, .slice Dg_11 (endTop x0).2.2.2.1.length dg_11, .slice Dg_12 (endTop x0).2.2.2.2.length dg_12] 51)).cell? ⟨w3.heap.size, 6, none⟩ = some (.slice Ds_6 (endTop x0).2.1.2.2.2.length ds_6) := kr_5b.cell 6
  have gr_5_7 : (w5.alloc (.cells #[.int .i64 (endTop x0).1.1, .slice Dg_1 (endTop x0).1.2.1.length dg_1, .slice Dg_2 (endTop x0).1.2.2.length dg_2, .int .i64 (endTop x0).2.1.1, .int .i64 (endTop x0).2.1.2.1, .int .i64 (endTop x0).2.1.2.2.1, .slice Dg_6 (endTop x0).2.1.2.2.2.length dg_6, .int .i64 (endTop x0).2.2.1.1, .int .i64 (endTop x0).2.2.1.2.1, .int .i64 (endTop x0).2.2.1.2.2.1, .slice Dg_10 (endTop x0).2.2.1.2.2.2.length dg_10, .slice Dg_11 (endTop x0).2.2.2.1.length dg_11, .slice Dg_12 (endTop x0).2.2.2.2.length dg_12] 51)).cell? ⟨w3.heap.size, 7, none⟩ = some (.int .i64 (endTop x0).2.2.1.1) := kr_5b.cell 7
  have gr_5_8 : (w5.alloc (.cells #[.int .i64 (endTop x0).1.1, .slice Dg_1 (endTop x0).1.2.1.length dg_1, .slice Dg_2 (endTop x0).1.2.2.length dg_2, .int .i64 (endTop x0).2.1.1, .int .i64 (endTop x0).2.1.2.1, .int .i64 (endTop x0).2.1.2.2.1, .slice Dg_6 (endTop x0).2.1.2.2.2.length dg_6, .int .i64 (endTop x0).2.2.1.1, .int .i64 (endTop x0).2.2.1.2.1, .int .i64 (endTop x0).2.2.1.2.2.1, .slice Dg_10 (endTop x0).2.2.1.2.2.2.length dg_10, .slice Dg_11 (endTop x0).2.2.2.1.length dg_11, .slice Dg_12 (endTop x0).2.2.2.2.length dg_12] 51)).cell? ⟨w3.heap.size, 8, none⟩ = some (.int .i64 (endTop x0).2.2.1.2.1) := kr_5b.cell 8
  have gr_5_9 : (w5.alloc (.cells #[.int .i64 (endTop x0).1.1, .slice Dg_1 (endTop x0).1.2.1.length dg_1, .slice Dg_2 (endTop x0).1.2.2.length dg_2, .int .i64 (endTop x0).2.1.1, .int .i64 (endTop x0).2.1.2.1, .int .i64 (endTop x0).2.1.2.2.1, .slice Dg_6 (endTop x0).2.1.2.2.2.length dg_6, .int .i64 (endTop x0).2.2.1.1, .int .i64 (endTop x0).2.2.1.2.1, .int .i64 (endTop x0).2.2.1.2.2.1, .slice Dg_10 (endTop x0).2.2.1.2.2.2.length dg_10, .slice Dg_11 (endTop x0).2.2.2.1.length dg_11, .slice Dg_12 (endTop x0).2.2.2.2.length dg_12] 51)).cell? ⟨w3.heap.size, 9, none⟩ = some (.int .i64 (endTop x0).2.2.1.2.2.1) := kr_5b.cell 9
  have gr_5_10 : (w5.alloc (.cells #[.int .i64 (endTop x0).1.1, .slice Dg_1 (endTop x0).1.2.1.length dg_1, .slice Dg_2 (endTop x0).1.2.2.length dg_2, .int .i64 (endTop x0).2.1.1, .int .i64 (endTop x0).2.1.2.1, .int .i64 (endTop x0).2.1.2.2.1, .slice Dg_6 (endTop x0).2.1.2.2.2.length dg_6, .int .i64 (endTop x0).2.2.1.1, .int .i64 (endTop x0).2.2.1.2.1, .int .i64 (endTop x0).2.2.1.2.2.1, .slice Dg_10 (endTop x0).2.2.1.2.2.2.length dg_10, .slice Dg_11 (endTop x0).2.2.2.1.length dg_11, .slice Dg_12 (endTop x0).2.2.2.2.length dg_12] 51)).cell? ⟨w3.heap.size, 10, none⟩ = some (.slice Ds_10 (endTop x0).2.2.1.2.2.2.length ds_10) := kr_5b.cell 10
  have gr_5_11 : (w5.alloc (.cells #[.int .i64 (endTop x0).1.1, .slice Dg_1 (endTop x0).1.2.1.length dg_1, .slice Dg_2 (endTop x0).1.2.2.length dg_2, .int .i64 (endTop x0).2.1.1, .int .i64 (endTop x0).2.1.2.1, .int .i64 (endTop x0).2.1.2.2.1, .slice Dg_6 (endTop x0).2.1.2.2.2.length dg_6, .int .i64 (endTop x0).2.2.1.1, .int .i64 (endTop x0).2.2.1.2.1, .int .i64 (endTop x0).2.2.1.2.2.1, .slice Dg_10 (endTop x0).2.2.1.2.2.2.length dg_10, .slice Dg_11 (endTop x0).2.2.2.1.length dg_11, .slice Dg_12 (endTop x0).2.2.2.2.length dg_12] 51)).cell? ⟨w3.heap.size, 11, none⟩ = some (.slice Ds_11 (endTop x0).2.2.2.1.length ds_11) := kr_5b.cell 11
  have gr_5_12 : (w5.alloc (.cells #[.int .i64 (endTop x0).1.1, .slice Dg_1 (endTop x0).1.2.1.length dg_1, .slice Dg_2 (endTop x0).1.2.2.length dg_2, .int .i64 (endTop x0).2.1.1, .int .i64 (endTop x0).2.1.2.1, .int .i64 (endTop x0).2.1.2.2.1, .slice Dg_6 (endTop x0).2.1.2.2.2.length dg_6, .int .i64 (endTop x0).2.2.1.1, .int .i64 (endTop x0).2.2.1.2.1, .int .i64 (endTop x0).2.2.1.2.2.1, .slice Dg_10 (endTop x0).2.2.1.2.2.2.length dg_10, .slice Dg_11 (endTop x0).2.2.2.1.length dg_11, .slice Dg_12 (endTop x0).2.2.2.2.length dg_12] 51)).cell? ⟨w3.heap.size, 12, none⟩ = some (.slice Ds_12 (endTop x0).2.2.2.2.length ds_12) := kr_5b.cell 12
  have zzr_5 := kr_5b.lt
  have gx0_5_0 : (w5.alloc (.cells #[.int .i64 (endTop x0).1.1, .slice Dg_1 (endTop x0).1.2.1.length dg_1, .slice Dg_2 (endTop x0).1.2.2.length dg_2, .int .i64 (endTop x0).2.1.1, .int .i64 (endTop x0).2.1.2.1, .int .i64 (endTop x0).2.1.2.2.1, .slice Dg_6 (endTop x0).2.1.2.2.2.length dg_6, .int .i64 (endTop x0).2.2.1.1, .int .i64 (endTop x0).2.2.1.2.1, .int .i64 (endTop x0).2.2.1.2.2.1, .slice Dg_10 (endTop x0).2.2.1.2.2.2.length dg_10, .slice Dg_11 (endTop x0).2.2.2.1.length dg_11, .slice Dg_12 (endTop x0).2.2.2.2.length dg_12] 51)).cell? ⟨w4.heap.size, 0, none⟩ = some (.int .i64 x0.1.1) := kx0_5b.cell 0
  have gx0_5_1 : (w5.alloc (.cells #[.int .i64 (endTop x0).1.1, .slice Dg_1 (endTop x0).1.2.1.length dg_1, .slice Dg_2 (endTop x0).1.2.2.length dg_2, .int .i64 (endTop x0).2.1.1, .int .i64 (endTop x0).2.1.2.1, .int .i64 (endTop x0).2.1.2.2.1, .slice Dg_6 (endTop x0).2.1.2.2.2.length dg_6, .int .i64 (endTop x0).2.2.1.1, .int .i64 (endTop x0).2.2.1.2.1, .int .i64 (endTop x0).2.2.1.2.2.1, .slice Dg_10 (endTop x0).2.2.1.2.2.2.length dg_10, .slice Dg_11 (endTop x0).2.2.2.1.length dg_11, .slice Dg_12 (endTop x0).2.2.2.2.length dg_12] 51)).cell? ⟨w4.heap.size, 1, none⟩ = some (.slice Dx0_1 x0.1.2.1.length dx0_1) := kx0_5b.cell 1
  have gx0_5_2 : (w5.alloc (.cells #[.int .i64 (endTop x0).1.1, .slice Dg_1 (endTop x0).1.2.1.length dg_1, .slice Dg_2 (endTop x0).1.2.2.length dg_2, .int .i64 (endTop x0).2.1.1, .int .i64 (endTop x0).2.1.2.1, .int .i64 (endTop x0).2.1.2.2.1, .slice Dg_6 (endTop x0).2.1.2.2.2.length dg_6, .int .i64 (endTop x0).2.2.1.1, .int .i64 (endTop x0).2.2.1.2.1, .int .i64 (endTop x0).2.2.1.2.2.1, .slice Dg_10 (endTop x0).2.2.1.2.2.2.length dg_10, .slice Dg_11 (endTop x0).2.2.2.1.length dg_11, .slice Dg_12 (endTop x0).2.2.2.2.length dg_12] 51)).cell? ⟨w4.heap.size, 2, none⟩ = some (.slice Dx0_2 x0.1.2.2.length dx0_2) := kx0_5b.cell 2
  have gx0_5_3 : (w5.alloc (.cells #[.int .i64 (endTop x0).1.1, .slice Dg_1 (endTop x0).1.2.1.length dg_1, .slice Dg_2 (endTop x0).1.2.2.length dg_2, .int .i64 (endTop x0).2.1.1, .int .i64 (endTop x0).2.1.2.1, .int .i64 (endTop x0).2.1.2.2.1, .slice Dg_6 (endTop x0).2.1.2.2.2.length dg_6, .int .i64 (endTop x0).2.2.1.1, .int .i64 (endTop x0).2.2.1.2.1, .int .i64 (endTop x0).2.2.1.2.2.1, .slice Dg_10 (endTop x0).2.2.1.2.2.2.length dg_10, .slice Dg_11 (endTop x0).2.2.2.1.length dg_11, .slice Dg_12 (endTop x0).2.2.2.2.length dg_12] 51)).cell? ⟨w4.heap.size, 3, none⟩ = some (.int .i64 x0.2.1.1) := kx0_5b.cell 3
  have gx0_5_4 : (w5.alloc (.cells #[.int .i64 (endTop x0).1.1, .slice Dg_1 (endTop x0).1.2.1.length dg_1, .slice Dg_2 (endTop x0).1.2.2.length dg_2, .int .i64 (endTop x0).2.1.1, .int .i64 (endTop x0).2.1.2.1, .int .i64 (endTop x0).2.1.2.2.1, .slice Dg_6 (endTop x0).2.1.2.2.2.length dg_6, .int .i64 (endTop x0).2.2.1.1, .int .i64 (endTop x0).2.2.1.2.1, .int .i64 (endTop x0).2.2.1.2.2.1, .slice Dg_10 (endTop x0).2.2.1.2.2.2.length dg_10, .slice Dg_11 (endTop x0).2.2.2.1.length dg_11, .slice Dg_12 (endTop x0).2.2.2.2.length dg_12] 51)).cell? ⟨w4.heap.size, 4, none⟩ = some (.int .i64 x0.2.1.2.1) := kx0_5b.cell 4
  have gx0_5_5 : (w5.alloc (.cells #[.int .i64 (endTop x0).1.1, .slice Dg_1 (endTop x0).1.2.1.length dg_1, .slice Dg_2 (endTop x0).1.2.2.length dg_2, .int .i64 (endTop x0).2.1.1, .int .i64 (endTop x0).2.1.2.1, .int .i64 (endTop x0).2.1.2.2.1, .slice Dg_6 (endTop x0).2.1.2.2.2.length dg_6, .int .i64 (endTop x0).2.2.1.1, .int .i64 (endTop x0).2.2.1.2.1, .int .i64 (endTop x0).2.2.1.2.2.1, .slice Dg_10 (endTop x0).2.2.1.2.2.2.length dg_10, .slice Dg_11 (endTop x0).2.2.2.1.length dg_11, .slice Dg_12 (endTop x0).2.2.2.2.length dg_12] 51)).cell? ⟨w4.heap.size, 5, none⟩ = some (.int .i64 x0.2.1.2.2.1) := kx0_5b.cell 5
  have gx0_5_6 : (w5.alloc (.cells #[.int .i64 (endTop x0).1.1, .slice Dg_1 (endTop x0).1.2.1.length dg_1, .slice Dg_2 (endTop x0).1.2.2.length dg_2, .int .i64 (endTop x0).2.1.1, .int .i64 (endTop x0).2.1.2.1, .int .i64 (endTop x0).2.1.2.2.1, .slice Dg_6 (endTop x0).2.1.2.2.2.length dg_6, .int .i64 (endTop x0).2.2.1.1, .int .i64 (endTop x0).2.2.1.2.1, .int .i64 (endTop x0).2.2.1.2.2.1, .slice Dg_10 (endTop x0).2.2.1.2.2.2.length dg_10, .slice Dg_11 (endTop x0).2.2.2.1.length dg_11, .slice Dg_12 (endTop x0).2.2.2.2.length dg_12] 51)).cell? ⟨w4.heap.size, 6, none⟩ = some (.slice Dx0_6 x0.2.1.2.2.2.length dx0_6) := kx0_5b.cell 6
  have gx0_5_7 : (w5.alloc (.cells #[.int .i64 (endTop x0).1.1, .slice Dg_1 (endTop x0).1.2.1.length dg_1, .slice Dg_2 (endTop x0).1.2.2.length dg_2, .int .i64 (endTop x0).2.1.1, .int .i64 (endTop x0).2.1.2.1, .int .i64 (endTop x0).2.1.2.2.1, .slice Dg_6 (endTop x0).2.1.2.2.2.length dg_6, .int .i64 (endTop x0).2.2.1.1, .int .i64 (endTop x0).2.2.1.2.1, .int .i64 (endTop x0).2.2.1.2.2.1, .slice Dg_10 (endTop x0).2.2.1.2.2.2.length dg_10, .slice Dg_11 (endTop x0).2.2.2.1.length dg_11, .slice Dg_12 (endTop x0).2.2.2.2.length dg_12] 51)).cell? ⟨w4.heap.size, 7, none⟩ = some (.int .i64 x0.2.2.1.1) := kx0_5b.cell 7
  have gx0_5_8 : (w5.alloc (.cells #[.int .i64 (endTop x0).1.1, .slice Dg_1 (endTop x0).1.2.1.length dg_1, .slice Dg_2 (endTop x0).1.2.2.length dg_2, .int .i64 (endTop x0).2.1.1, .int .i64 (endTop x0).2.1.2.1, .int .i64 (endTop x0).2.1.2.2.1, .slice Dg_6 (endTop x0).2.1.2.2.2.length dg_6, .int .i64 (endTop x0).2.2.1.1, .int .i64 (endTop x0).2.2.1.2.1, .int .i64 (endTop x0).2.2.1.2.2.1, .slice Dg_10 (endTop x0).2.2.1.2.2.2.length dg_10, .slice Dg_11 (endTop x0).2.2.2.1.length dg_11, .slice Dg_12 (endTop x0).2.2.2.2.length dg_12] 51)).cell? ⟨w4.heap.size, 8, none⟩ = some (.int .i64 x0.2.2.1.2.1) := kx0_5b.cell 8
  have gx0_5_9 : (w5.alloc (.cells #[.int .i64 (endTop x0).1.1, .slice Dg_1 (endTop x0).1.2.1.length dg_1, .slice Dg_2 (endTop x0).1.2.2.length dg_2, .int .i64 (endTop x0).2.1.1, .int .i64 (endTop x0).2.1.2.1, .int .i64 (endTop x0).2.1.2.2.1, .slice Dg_6 (endTop x0).2.1.2.2.2.length dg_6, .int .i64 (endTop x0).2.2.1.1, .int .i64 (endTop x0).2.2.1.2.1, .int .i64 (endTop x0).2.2.1.2.2.1, .slice Dg_10 (endTop x0).2.2.1.2.2.2.length dg_10, .slice Dg_11 (endTop x0).2.2.2.1.length dg_11, .slice Dg_12 (endTop x0).2.2.2.2.length dg_12] 51)).cell? ⟨w4.heap.size, 9, none⟩ = some (.int .i64 x0.2.2.1.2.2.1) := kx0_5b.cell 9
  have gx0_5_10 : (w5.alloc (.cells #[.int .i64 (endTop x0).1.1, .slice Dg_1 (endTop x0).1.2.1.length dg_1, .slice Dg_2 (endTop x0).1.2.2.length dg_2, .int .i64 (endTop x0).2.1.1, .int .i64 (endTop x0).2.1.2.1, .int .i64 (endTop x0).2.1.2.2.1, .slice Dg_6 (endTop x0).2.1.2.2.2.length dg_6, .int .i64 (endTop x0).2.2.1.1, .int .i64 (endTop x0).2.2.1.2.1, .int .i64 (endTop x0).2.2.1.2.2.1, .slice Dg_10 (endTop x0).2.2.1.2.2.2.length dg_10, .slice Dg_11 (endTop x0).2.2.2.1.length dg_11, .slice Dg_12 (endTop x0).2.2.2.2.length dg_12] 51)).cell? ⟨w4.heap.size, 10, none⟩ = some (.slice Dx0_10 x0.2.2.1.2.2.2.length dx0_10) := kx0_5b.cell 10
  have gx0_5_11 : (w5.alloc (.cells #[.int .i64 (endTop x0).1.1, .slice Dg_1 (endTop x0).1.2.1.length dg_1, .slice Dg_2 (endTop x0).1.2.2.length dg_2, .int .i64 (endTop x0).2.1.1, .int .i64 (endTop x0).2.1.2.1, .int .i64 (endTop x0).2.1.2.2.1, .slice Dg_6 (endTop x0).2.1.2.2.2.length dg_6, .int .i64 (endTop x0).2.2.1.1, .int .i64 (endTop x0).2.2.1.2.1, .int .i64 (endTop x0).2.2.1.2.2.1, .slice Dg_10 (endTop x0).2.2.1.2.2.2.length dg_10, .slice Dg_11 (endTop x0).2.2.2.1.length dg_11, .slice Dg_12 (endTop x0).2.2.2.2.length dg_12] 51)).cell? ⟨w4.heap.size, 11, none⟩ = some (.slice Dx0_11 x0.2.2.2.1.length dx0_11) := kx0_5b.cell 11
  have gx0_5_12 : (w5.alloc (.cells #[.int .i64 (endTop x0).1.1, .slice Dg_1 (endTop x0).1.2.1.length dg_1, .slice Dg_2 (endTop x0).1.2.2.length dg_2, .int .i64 (endTop x0).2.1.1, .int .i64 (endTop x0).2.1.2.1, .int .i64 (endTop x0).2.1.2.2.1, .slice Dg_6 (endTop x0).2.1.2.2.2.length dg_6, .int .i64 (endTop x0).2.2.1.1, .int .i64 (endTop x0).2.2.1.2.1, .int .i64 (endTop x0).2.2.1.2.2.1, .slice Dg_10 (endTop x0).2.2.1.2.2.2.length dg_10, .slice Dg_11 (endTop x0).2.2.2.1.length dg_11, .slice Dg_12 (endTop x0).2.2.2.2.length dg_12] 51)).cell? ⟨w4.heap.size, 12, none⟩ = some (.slice Dx0_12 x0.2.2.2.2.length dx0_12) := kx0_5b.cell 12
  have zzx0_5 := kx0_5b.lt
  have gg_5_0 : (w5.alloc (.cells #[.int .i64 (endTop x0).1.1, .slice Dg_1 (endTop x0).1.2.1.length dg_1, .slice Dg_2 (endTop x0).1.2.2.length dg_2, .int .i64 (endTop x0).2.1.1, .int .i64 (endTop x0).2.1.2.1, .int .i64 (endTop x0).2.1.2.2.1, .slice Dg_6 (endTop x0).2.1.2.2.2.length dg_6, .int .i64 (endTop x0).2.2.1.1, .int .i64 (endTop x0).2.2.1.2.1, .int .i64 (endTop x0).2.2.1.2.2.1, .slice Dg_10 (endTop x0).2.2.1.2.2.2.length dg_10, .slice Dg_11 (endTop x0).2.2.2.1.length dg_11, .slice Dg_12 (endTop x0).2.2.2.2.length dg_12] 51)).cell? ⟨w5.heap.size, 0, none⟩ = some (.int .i64 (endTop x0).1.1) := kg_5b.cell 0
  have gg_5_1 : (w5.alloc (.cells #[.int .i64 (endTop x0).1.1, .slice Dg_1 (endTop x0).1.2.1.length dg_1, .slice Dg_2 (endTop x0).1.2.2.length dg_2, .int .i64 (endTop x0).2.1.1, .int .i64 (endTop x0).2.1.2.1, .int .i64 (endTop x0).2.1.2.2.1, .slice Dg_6 (endTop x0).2.1.2.2.2.length dg_6, .int .i64 (endTop x0).2.2.1.1, .int .i64 (endTop x0).2.2.1.2.1, .int .i64 (endTop x0).2.2.1.2.2.1, .slice Dg_10 (endTop x0).2.2.1.2.2.2.length dg_10, .slice Dg_11 (endTop x0).2.2.2.1.length dg_11, .slice Dg_12 (endTop x0).2.2.2.2.length dg_12] 51)).cell? ⟨w5.heap.size, 1, none⟩ = some (.slice Dg_1 (endTop x0).1.2.1.length dg_1) := kg_5b.cell 1
  have gg_5_2 : (w5.alloc (.cells #[.int .i64 (endTop x0).1.1, .slice Dg_1 (endTop x0).1.2.1.length dg_1, .slice Dg_2 (endTop x0).1.2.2.length dg_2, .int .i64 (endTop x0).2.1.1, .int .i64 (endTop x0).2.1.2.1, .int .i64 (endTop x0).2.1.2.2.1, .slice Dg_6 (endTop x0).2.1.2.2.2.length dg_6, .int .i64 (endTop x0).2.2.1.1, .int .i64 (endTop x0).2.2.1.2.1, .int .i64 (endTop x0).2.2.1.2.2.1, .slice Dg_10 (endTop x0).2.2.1.2.2.2.length dg_10, .slice Dg_11 (endTop x0).2.2.2.1.length dg_11, .slice Dg_12 (endTop x0).2.2.2.2.length dg_12] 51)).cell? ⟨w5.heap.size, 2, none⟩ = some (.slice Dg_2 (endTop x0).1.2.2.length dg_2) := kg_5b.cell 2
  have gg_5_3 : (w5.alloc (.cells #[.int .i64 (endTop x0).1.1, .slice Dg_1 (endTop x0).1.2.1.length dg_1, .slice Dg_2 (endTop x0).1.2.2.length dg_2, .int .i64 (endTop x0).2.1.1, .int .i64 (endTop x0).2.1.2.1, .int .i64 (endTop x0).2.1.2.2.1, .slice Dg_6 (endTop x0).2.1.2.2.2.length dg_6, .int .i64 (endTop x0).2.2.1.1, .int .i64 (endTop x0).2.2.1.2.1, .int .i64 (endTop x0).2.2.1.2.2.1, .slice Dg_10 (endTop x0).2.2.1.2.2.2.length dg_10, .slice Dg_11 (endTop x0).2.2.2.1.length dg_11, .slice Dg_12 (endTop x0).2.2.2.2.length dg_12] 51)).cell? ⟨w5.heap.size, 3, none⟩ = some (.int .i64 (endTop x0).2.1.1) := kg_5b.cell 3
  have gg_5_4 : (w5.alloc (.cells #[.int .i64 (endTop x0).1.1, .slice Dg_1 (endTop x0).1.2.1.length dg_1, .slice Dg_2 (endTop x0).1.2.2.length dg_2, .int .i64 (endTop x0).2.1.1, .int .i64 (endTop x0).2.1.2.1, .int .i64 (endTop x0).2.1.2.2.1, .slice Dg_6 (endTop x0).2.1.2.2.2.length dg_6, .int .i64 (endTop x0).2.2.1.1, .int .i64 (endTop x0).2.2.1.2.1, .int .i64 (endTop x0).2.2.1.2.2.1, .slice Dg_10 (endTop x0).2.2.1.2.2.2.length dg_10, .slice Dg_11 (endTop x0).2.2.2.1.length dg_11, .slice Dg_12 (endTop x0).2.2.2.2.length dg_12] 51)).cell? ⟨w5.heap.size, 4, none⟩ = some (.int .i64 (endTop x0).2.1.2.1) := kg_5b.cell 4
  have gg_5_5 : (w5.alloc (.cells #[.int .i64 (endTop x0).1.1, .slice Dg_1 (endTop x0).1.2.1.length dg_1, .slice Dg_2 (endTop x0).1.2.2.length dg_2, .int .i64 (endTop x0).2.1.1, .int .i64 (endTop x0).2.1.2.1, .int .i64 (endTop x0).2.1.2.2.1, .slice Dg_6 (endTop x0).2.1.2.2.2.length dg_6, .int .i64 (endTop x0).2.2.1.1, .int .i64 (endTop x0).2.2.1.2.1, .int .i64 (endTop x0).2.2.1.2.2.1, .slice Dg_10 (endTop x0).2.2.1.2.2.2.length dg_10, .slice Dg_11 (endTop x0).2.2.2.1.length dg_11, .slice Dg_12 (endTop x0).2.2.2.2.length dg_12] 51)).cell? ⟨w5.heap.size, 5, none⟩ = some (.int .i64 (endTop x0).2.1.2.2.1) := kg_5b.cell 5
  have gg_5_6 : (w5.alloc (.cells #[.int .i64 (endTop x0).1.1, .slice Dg_1 (endTop x0).1.2.1.length dg_1, .slice Dg_2 (endTop x0).1.2.2.length dg_2, .int .i64 (endTop x0).2.1.1, .int .i64 (endTop x0).2.1.2.1, .int .i64 (endTop x0).2.1.2.2.1, .slice Dg_6 (endTop x0).2.1.2.2.2.length dg_6, .int .i64 (endTop x0).2.2.1.1, .int .i64 (endTop x0).2.2.1.2.1, .int .i64 (endTop x0).2.2.1.2.2.1, .slice Dg_10 (endTop x0).2.2.1.2.2.2.length dg_10, .slice Dg_11 (endTop x0).2.2.2.1.length dg_11, .slice Dg_12 (endTop x0).2.2.2.2.length dg_12] 51)).cell? ⟨w5.heap.size, 6, none⟩ = some (.slice Dg_6 (endTop x0).2.1.2.2.2.length dg_6) := kg_5b.cell 6
  have gg_5_7 : (w5.alloc (.cells #[.int .i64 (endTop x0).1.1, .slice Dg_1 (endTop x0).1.2.1.length dg_1, .slice Dg_2 (endTop x0).1.2.2.length dg_2, .int .i64 (endTop x0).2.1.1, .int .i64 (endTop x0).2.1.2.1, .int .i64 (endTop x0).2.1.2.2.1, .slice Dg_6 (endTop x0).2.1.2.2.2.length dg_6, .int .i64 (endTop x0).2.2.1.1, .int .i64 (endTop x0).2.2.1.2.1, .int .i64 (endTop x0).2.2.1.2.2.1, .slice Dg_10 (endTop x0).2.2.1.2.2.2.length dg_10, .slice Dg_11 (endTop x0).2.2.2.1.length dg_11, .slice Dg_12 (endTop x0).2.2.2.2.length dg_12] 51)).cell? ⟨w5.heap.size, 7, none⟩ = some (.int .i64 (endTop x0).2.2.1.1) := kg_5b.cell 7
  have gg_5_8 : (w5.alloc (.cells #[.int .i64 (endTop x0).1.1, .slice Dg_1 (endTop x0).1.2.1.length dg_1, .slice Dg_2 (endTop x0).1.2.2.length dg_2, .int .i64 (endTop x0).2.1.1, .int .i64 (endTop x0).2.1.2.1, .int .i64 (endTop x0).2.1.2.2.1, .slice Dg_6 (endTop x0).2.1.2.2.2.length dg_6, .int .i64 (endTop x0).2.2.1.1, .int .i64 (endTop x0).2.2.1.2.1, .int .i64 (endTop x0).2.2.1.2.2.1, .slice Dg_10 (endTop x0).2.2.1.2.2.2.length dg_10, .slice Dg_11 (endTop x0).2.2.2.1.length dg_11, .slice Dg_12 (endTop x0).2.2.2.2.length dg_12] 51)).cell? ⟨w5.heap.size, 8, none⟩ = some (.int .i64 (endTop x0).2.2.1.2.1) := kg_5b.cell 8
  have gg_5_9 : (w5.alloc (.cells #[.int .i64 (endTop x0).1.1, .slice Dg_1 (endTop x0).1.2.1.length dg_1, .slice Dg_2 (endTop x0).1.2.2.length dg_2, .int .i64 (endTop x0).2.1.1, .int .i64 (endTop x0).2.1.2.1, .int .i64 (endTop x0).2.1.2.2.1, .slice Dg_6 (endTop x0).2.1.2.2.2.length dg_6, .int .i64 (endTop x0).2.2.1.1, .int .i64 (endTop x0).2.2.1.2.1, .int .i64 (endTop x0).2.2.1.2.2.1, .slice Dg_10 (endTop x0).2.2.1.2.2.2.length dg_10, .slice Dg_11 (endTop x0).2.2.2.1.length dg_11, .slice Dg_12 (endTop x0).2.2.2.2.length dg_12] 51)).cell? ⟨w5.heap.size, 9, none⟩ = some (.int .i64 (endTop x0).2.2.1.2.2.1) := kg_5b.cell 9
  have gg_5_10 : (w5.alloc (.cells #[.int .i64 (endTop x0).1.1, .slice Dg_1 (endTop x0).1.2.1.length dg_1, .slice Dg_2 (endTop x0).1.2.2.length dg_2, .int .i64 (endTop x0).2.1.1, .int .i64 (endTop x0).2.1.2.1, .int .i64 (endTop x0).2.1.2.2.1, .slice Dg_6 (endTop x0).2.1.2.2.2.length dg_6, .int .i64 (endTop x0).2.2.1.1, .int .i64 (endTop x0).2.2.1.2.1, .int .i64 (endTop x0).2.2.1.2.2.1, .slice Dg_10 (endTop x0).2.2.1.2.2.2.length dg_10, .slice Dg_11 (endTop x0).2.2.2.1.length dg_11, .slice Dg_12 (endTop x0).2.2.2.2.length dg_12] 51)).cell? ⟨w5.heap.size, 10, none⟩ = some (.slice Dg_10 (endTop x0).2.2.1.2.2.2.length dg_10) := kg_5b.cell 10
  have gg_5_11 : (w5.alloc (.cells #[.int .i64 (endTop x0).1.1, .slice Dg_1 (endTop x0).1.2.1.length dg_1, .slice Dg_2 (endTop x0).1.2.2.length dg_2, .int .i64 (endTop x0).2.1.1, .int .i64 (endTop x0).2.1.2.1, .int .i64 (endTop x0).2.1.2.2.1, .slice Dg_6 (endTop x0).2.1.2.2.2.length dg_6, .int .i64 (endTop x0).2.2.1.1, .int .i64 (endTop x0).2.2.1.2.1, .int .i64 (endTop x0).2.2.1.2.2.1, .slice Dg_10 (endTop x0).2.2.1.2.2.2.length dg_10, .slice Dg_11 (endTop x0).2.2.2.1.length dg_11, .slice Dg_12 (endTop x0).2.2.2.2.length dg_12] 51)).cell? ⟨w5.heap.size, 11, none⟩ = some (.slice Dg_11 (endTop x0).2.2.2.1.length dg_11) := kg_5b.cell 11
  have gg_5_12 : (w5.alloc (.cells #[.int .i64 (endTop x0).1.1, .slice Dg_1 (endTop x0).1.2.1.length dg_1, .slice Dg_2 (endTop x0).1.2.2.length dg_2, .int .i64 (endTop x0).2.1.1, .int .i64 (endTop x0).2.1.2.1, .int .i64 (endTop x0).2.1.2.2.1, .slice Dg_6 (endTop x0).2.1.2.2.2.length dg_6, .int .i64 (endTop x0).2.2.1.1, .int .i64 (endTop x0).2.2.1.2.1, .int .i64 (endTop x0).2.2.1.2.2.1, .slice Dg_10 (endTop x0).2.2.1.2.2.2.length dg_10, .slice Dg_11 (endTop x0).2.2.2.1.length dg_11, .slice Dg_12 (endTop x0).2.2.2.2.length dg_12] 51)).cell? ⟨w5.heap.size, 12, none⟩ = some (.slice Dg_12 (endTop x0).2.2.2.2.length dg_12) := kg_5b.cell 12
  have zzg_5 := kg_5b.lt
  go_wp2_with fail
  refine (c_eqCache _ _ (endTop x0) (endTop x0) _ ⟨_, rfl, good_Cache.wide (good_Cache.own_rep og_5b) (Nat.zero_le _) (by omega)⟩ ⟨_, rfl, good_Cache.wide os_5b (Nat.le_refl _) (by omega)⟩).mono ?_
  rintro e w6 ⟨be0, rfl, hbe0, u6⟩
  have uu6 := ub5.trans u6
  have zs6 := u6.size
  have ka0_6 := ka0_5b.up u6
  have kr_6 := kr_5b.up u6
  have kx0_6 := kx0_5b.up u6
  have kg_6 := kg_5b.up u6
  have os_6 := good_Cache.keep os_5b (u6.keeps (by omega))
  clear os_5b
  have ox0_6 := good_Cache.own_keep ox0_5b (fun y hy => u6.block y (Nat.lt_of_lt_of_le (good_Cache.own_in ox0_5b y hy).2 (by omega)))
  clear ox0_5b
  have og_6 := good_Cache.own_keep og_5b (fun y hy => u6.block y (Nat.lt_of_lt_of_le (good_Cache.own_in og_5b y hy).2 (by omega)))
  clear og_5b
  obtain rfl : be0 = true := by simpa using hbe0
  clear hbe0 u6
  clear ga0_5_0 ga0_5_1 ga0_5_2 ga0_5_3 ga0_5_4 ga0_5_5 ga0_5_6 ga0_5_7 ga0_5_8 ga0_5_9 ga0_5_10 ga0_5_11 ga0_5_12 zza0_5 gr_5_0 gr_5_1 gr_5_2 gr_5_3 gr_5_4 gr_5_5 gr_5_6 gr_5_7 gr_5_8 gr_5_9 gr_5_10 gr_5_11 gr_5_12 zzr_5 gx0_5_0 gx0_5_1 gx0_5_2 gx0_5_3 gx0_5_4 gx0_5_5 gx0_5_6 gx0_5_7 gx0_5_8 gx0_5_9 gx0_5_10 gx0_5_11 gx0_5_12 zzx0_5 gg_5_0 gg_5_1 gg_5_2 gg_5_3 gg_5_4 gg_5_5 gg_5_6 gg_5_7 gg_5_8 gg_5_9 gg_5_10 gg_5_11 gg_5_12 zzg_5
  have ga0_6_0 : w6.cell? ⟨w.heap.size, 0, none⟩ = some (.int .i64 x0.1.1) := ka0_6.cell 0
  have ga0_6_1 : w6.cell? ⟨w.heap.size, 1, none⟩ = some (.slice A0_1 x0.1.2.1.length c0_1) := ka0_6.cell 1
  have ga0_6_2 : w6.cell? ⟨w.heap.size, 2, none⟩ = some (.slice A0_2 x0.1.2.2.length c0_2) := ka0_6.cell 2
  have ga0_6_3 : w6.cell? ⟨w.heap.size, 3, none⟩ = some (.int .i64 x0.2.1.1) := ka0_6.cell 3
  have ga0_6_4 : w6.cell? ⟨w.heap.size, 4, none⟩ = some (.int .i64 x0.2.1.2.1) := ka0_6.cell 4
  have ga0_6_5 : w6.cell? ⟨w.heap.size, 5, none⟩ = some (.int .i64 x0.2.1.2.2.1) := ka0_6.cell 5
  have ga0_6_6 : w6.cell? ⟨w.heap.size, 6, none⟩ = some (.slice A0_6 x0.2.1.2.2.2.length c0_6) := ka0_6.cell 6
  have ga0_6_7 : w6.cell? ⟨w.heap.size, 7, none⟩ = some (.int .i64 x0.2.2.1.1) := ka0_6.cell 7
  have ga0_6_8 : w6.cell? ⟨w.heap.size, 8, none⟩ = some (.int .i64 x0.2.2.1.2.1) := ka0_6.cell 8
  have ga0_6_9 : w6.cell? ⟨w.heap.size, 9, none⟩ = some (.int .i64 x0.2.2.1.2.2.1) := ka0_6.cell 9
  have ga0_6_10 : w6.cell? ⟨w.heap.size, 10, none⟩ = some (.slice A0_10 x0.2.2.1.2.2.2.length c0_10) := ka0_6.cell 10
  have ga0_6_11 : w6.cell? ⟨w.heap.size, 11, none⟩ = some (.slice A0_11 x0.2.2.2.1.length c0_11) := ka0_6.cell 11
  have ga0_6_12 : w6.cell? ⟨w.heap.size, 12, none⟩ = some (.slice A0_12 x0.2.2.2.2.length c0_12) := ka0_6.cell 12
  have zza0_6 := ka0_6.lt
  have gr_6_0 : w6.cell? ⟨w3.heap.size, 0, none⟩ = some (.int .i64 (endTop x0).1.1) := kr_6.cell 0
  have gr_6_1 : w6.cell? ⟨w3.heap.size, 1, none⟩ = some (.slice Ds_1 (endTop x0).1.2.1.length ds_1) := kr_6.cell 1
  have gr_6_2 : w6.cell? ⟨w3.heap.size, 2, none⟩ = some (.slice Ds_2 (endTop x0).1.2.2.length ds_2) := kr_6.cell 2
  have gr_6_3 : w6.cell? ⟨w3.heap.size, 3, none⟩ = some (.int .i64 (endTop x0).2.1.1) := kr_6.cell 3
  have gr_6_4 : w6.cell? ⟨w3.heap.size, 4, none⟩ = some (.int .i64 (endTop x0).2.1.2.1) := kr_6.cell 4
  have gr_6_5 : w6.cell? ⟨w3.heap.size, 5, none⟩ = some (.int .i64 (endTop x0).2.1.2.2.1) := kr_6.cell 5
  have gr_6_6 : w6.cell? ⟨w3.heap.size, 6, none⟩ = some (.slice Ds_6 (endTop x0).2.1.2.2.2.length ds_6) := kr_6.cell 6
  have gr_6_7 : w6.cell? ⟨w3.heap.size, 7, none⟩ = some (.int .i64 (endTop x0).2.2.1.1) := kr_6.cell 7
  have gr_6_8 : w6.cell? ⟨w3.heap.size, 8, none⟩ = some (.int .i64 (endTop x0).2.2.1.2.1) := kr_6.cell 8
  have gr_6_9 : w6.cell? ⟨w3.heap.size, 9, none⟩ = some (.int .i64 (endTop x0).2.2.1.2.2.1) := kr_6.cell 9
  have gr_6_10 : w6.cell? ⟨w3.heap.size, 10, none⟩ = some (.slice Ds_10 (endTop x0).2.2.1.2.2.2.length ds_10) := kr_6.cell 10
  have gr_6_11 : w6.cell? ⟨w3.heap.size, 11, none⟩ = some (.slice Ds_11 (endTop x0).2.2.2.1.length ds_11) := kr_6.cell 11
  have gr_6_12 : w6.cell? ⟨w3.heap.size, 12, none⟩ = some (.slice Ds_12 (endTop x0).2.2.2.2.length ds_12) := kr_6.cell 12
  have zzr_6 := kr_6.lt
  have gx0_6_0 : w6.cell? ⟨w4.heap.size, 0, none⟩ = some (.int .i64 x0.1.1) := kx0_6.cell 0
  have gx0_6_1 : w6.cell? ⟨w4.heap.size, 1, none⟩ = some (.slice Dx0_1 x0.1.2.1.length dx0_1) := kx0_6.cell 1
  have gx0_6_2 : w6.cell? ⟨w4.heap.size, 2, none⟩ = some (.slice Dx0_2 x0.1.2.2.length dx0_2) := kx0_6.cell 2
  have gx0_6_3 : w6.cell? ⟨w4.heap.size, 3, none⟩ = some (.int .i64 x0.2.1.1) := kx0_6.cell 3
  have gx0_6_4 : w6.cell? ⟨w4.heap.size, 4, none⟩ = some (.int .i64 x0.2.1.2.1) := kx0_6.cell 4
  have gx0_6_5 : w6.cell? ⟨w4.heap.size, 5, none⟩ = some (.int .i64 x0.2.1.2.2.1) := kx0_6.cell 5
  have gx0_6_6 : w6.cell? ⟨w4.heap.size, 6, none⟩ = some (.slice Dx0_6 x0.2.1.2.2.2.length dx0_6) := kx0_6.cell 6
  have gx0_6_7 : w6.cell? ⟨w4.heap.size, 7, none⟩ = some (.int .i64 x0.2.2.1.1) := kx0_6.cell 7
  have gx0_6_8 : w6.cell? ⟨w4.heap.size, 8, none⟩ = some (.int .i64 x0.2.2.1.2.1) := kx0_6.cell 8
  have gx0_6_9 : w6.cell? ⟨w4.heap.size, 9, none⟩ = some (.int .i64 x0.2.2.1.2.2.1) := kx0_6.cell 9
  have gx0_6_10 : w6.cell? ⟨w4.heap.size, 10, none⟩ = some (.slice Dx0_10 x0.2.2.1.2.2.2.length dx0_10) := kx0_6.cell 10
  have gx0_6_11 : w6.cell? ⟨w4.heap.size, 11, none⟩ = some (.slice Dx0_11 x0.2.2.2.1.length dx0_11) := kx0_6.cell 11
  have gx0_6_12 : w6.cell? ⟨w4.heap.size, 12, none⟩ = some (.slice Dx0_12 x0.2.2.2.2.length dx0_12) := kx0_6.cell 12
  have zzx0_6 := kx0_6.lt
  have gg_6_0 : w6.cell? ⟨w5.heap.size, 0, none⟩ = some (.int .i64 (endTop x0).1.1) := kg_6.cell 0
  have gg_6_1 : w6.cell? ⟨w5.heap.size, 1, none⟩ = some (.slice Dg_1 (endTop x0).1.2.1.length dg_1) := kg_6.cell 1
  have gg_6_2 : w6.cell? ⟨w5.heap.size, 2, none⟩ = some (.slice Dg_2 (endTop x0).1.2.2.length dg_2) := kg_6.cell 2
  have gg_6_3 : w6.cell? ⟨w5.heap.size, 3, none⟩ = some (.int .i64 (endTop x0).2.1.1) := kg_6.cell 3
  have gg_6_4 : w6.cell? ⟨w5.heap.size, 4, none⟩ = some (.int .i64 (endTop x0).2.1.2.1) := kg_6.cell 4
  have gg_6_5 : w6.cell? ⟨w5.heap.size, 5, none⟩ = some (.int .i64 (endTop x0).2.1.2.2.1) := kg_6.cell 5
  have gg_6_6 : w6.cell? ⟨w5.heap.size, 6, none⟩ = some (.slice Dg_6 (endTop x0).2.1.2.2.2.length dg_6) := kg_6.cell 6
  have gg_6_7 : w6.cell? ⟨w5.heap.size, 7, none⟩ = some (.int .i64 (endTop x0).2.2.1.1) := kg_6.cell 7
  have gg_6_8 : w6.cell? ⟨w5.heap.size, 8, none⟩ = some (.int .i64 (endTop x0).2.2.1.2.1) := kg_6.cell 8
  have gg_6_9 : w6.cell? ⟨w5.heap.size, 9, none⟩ = some (.int .i64 (endTop x0).2.2.1.2.2.1) := kg_6.cell 9
  have gg_6_10 : w6.cell? ⟨w5.heap.size, 10, none⟩ = some (.slice Dg_10 (endTop x0).2.2.1.2.2.2.length dg_10) := kg_6.cell 10
  have gg_6_11 : w6.cell? ⟨w5.heap.size, 11, none⟩ = some (.slice Dg_11 (endTop x0).2.2.2.1.length dg_11) := kg_6.cell 11
  have gg_6_12 : w6.cell? ⟨w5.heap.size, 12, none⟩ = some (.slice Dg_12 (endTop x0).2.2.2.2.length dg_12) := kg_6.cell 12
  have zzg_6 := kg_6.lt
  go_wp2_with fail
  go_region_held3 (fun W => W.cell? ⟨w.heap.size, 0, none⟩ = some (.int .i64 x0.1.1) ∧ W.cell? ⟨w.heap.size, 1, none⟩ = some (.slice A0_1 x0.1.2.1.length c0_1) ∧ W.cell? ⟨w.heap.size, 2, none⟩ = some (.slice A0_2 x0.1.2.2.length c0_2) ∧ W.cell? ⟨w.heap.size, 3, none⟩ = some (.int .i64 x0.2.1.1) ∧ W.cell? ⟨w.heap.size, 4, none⟩ = some (.int .i64 x0.2.1.2.1) ∧ W.cell? ⟨w.heap.size, 5, none⟩ = some (.int .i64 x0.2.1.2.2.1) ∧ W.cell? ⟨w.heap.size, 6, none⟩ = some (.slice A0_6 x0.2.1.2.2.2.length c0_6) ∧ W.cell? ⟨w.heap.size, 7, none⟩ = some (.int .i64 x0.2.2.1.1) ∧ W.cell? ⟨w.heap.size, 8, none⟩ = some (.int .i64 x0.2.2.1.2.1) ∧ W.cell? ⟨w.heap.size, 9, none⟩ = some (.int .i64 x0.2.2.1.2.2.1) ∧ W.cell? ⟨w.heap.size, 10, none⟩ = some (.slice A0_10 x0.2.2.1.2.2.2.length c0_10) ∧ W.cell? ⟨w.heap.size, 11, none⟩ = some (.slice A0_11 x0.2.2.2.1.length c0_11) ∧ W.cell? ⟨w.heap.size, 12, none⟩ = some (.slice A0_12 x0.2.2.2.2.length c0_12) ∧ W.cell? ⟨w4.heap.size, 0, none⟩ = some (.int .i64 x0.1.1) ∧ W.cell? ⟨w4.heap.size, 1, none⟩ = some (.slice Dx0_1 x0.1.2.1.length dx0_1) ∧ W.cell? ⟨w4.heap.size, 2, none⟩ = some (.slice Dx0_2 x0.1.2.2.length dx0_2) ∧ W.cell? ⟨w4.heap.size, 3, none⟩ = some (.int .i64 x0.2.1.1) ∧ W.cell? ⟨w4.heap.size, 4, none⟩ = some (.int .i64 x0.2.1.2.1) ∧ W.cell? ⟨w4.heap.size, 5, none⟩ = some (.int .i64 x0.2.1.2.2.1) ∧ W.cell? ⟨w4.heap.size, 6, none⟩ = some (.slice Dx0_6 x0.2.1.2.2.2.length dx0_6) ∧ W.cell? ⟨w4.heap.size, 7, none⟩ = some (.int .i64 x0.2.2.1.1) ∧ W.cell? ⟨w4.heap.size, 8, none⟩ = some (.int .i64 x0.2.2.1.2.1) ∧ W.cell? ⟨w4.heap.size, 9, none⟩ = some (.int .i64 x0.2.2.1.2.2.1) ∧ W.cell? ⟨w4.heap.size, 10, none⟩ = some (.slice Dx0_10 x0.2.2.1.2.2.2.length dx0_10) ∧ W.cell? ⟨w4.heap.size, 11, none⟩ = some (.slice Dx0_11 x0.2.2.2.1.length dx0_11) ∧ W.cell? ⟨w4.heap.size, 12, none⟩ = some (.slice Dx0_12 x0.2.2.2.2.length dx0_12)) (first | exact ⟨ka0_6.cell 0, ka0_6.cell 1, ka0_6.cell 2, ka0_6.cell 3, ka0_6.cell 4, ka0_6.cell 5, ka0_6.cell 6, ka0_6.cell 7, ka0_6.cell 8, ka0_6.cell 9, ka0_6.cell 10, ka0_6.cell 11, ka0_6.cell 12, kx0_6.cell 0, kx0_6.cell 1, kx0_6.cell 2, kx0_6.cell 3, kx0_6.cell 4, kx0_6.cell 5, kx0_6.cell 6, kx0_6.cell 7, kx0_6.cell 8, kx0_6.cell 9, kx0_6.cell 10, kx0_6.cell 11, kx0_6.cell 12⟩ | exact ⟨ka0_7.cell 0, ka0_7.cell 1, ka0_7.cell 2, ka0_7.cell 3, ka0_7.cell 4, ka0_7.cell 5, ka0_7.cell 6, ka0_7.cell 7, ka0_7.cell 8, ka0_7.cell 9, ka0_7.cell 10, ka0_7.cell 11, ka0_7.cell 12, kx0_7.cell 0, kx0_7.cell 1, kx0_7.cell 2, kx0_7.cell 3, kx0_7.cell 4, kx0_7.cell 5, kx0_7.cell 6, kx0_7.cell 7, kx0_7.cell 8, kx0_7.cell 9, kx0_7.cell 10, kx0_7.cell 11, kx0_7.cell 12⟩ | exact ⟨ka0_8z.cell 0, ka0_8z.cell 1, ka0_8z.cell 2, ka0_8z.cell 3, ka0_8z.cell 4, ka0_8z.cell 5, ka0_8z.cell 6, ka0_8z.cell 7, ka0_8z.cell 8, ka0_8z.cell 9, ka0_8z.cell 10, ka0_8z.cell 11, ka0_8z.cell 12, kx0_8z.cell 0, kx0_8z.cell 1, kx0_8z.cell 2, kx0_8z.cell 3, kx0_8z.cell 4, kx0_8z.cell 5, kx0_8z.cell 6, kx0_8z.cell 7, kx0_8z.cell 8, kx0_8z.cell 9, kx0_8z.cell 10, kx0_8z.cell 11, kx0_8z.cell 12⟩) (first | (go_at_call 16; (with_reducible refine (c_toCache _ x0 _ (hv0.up good_Cache uu6.drew) hn0).mono ?_); rintro e w7 ⟨cse0, ble0, rfl, oe0, nde0, u7⟩; have u7d := Up.trans (Up.drew (Up.refl w6)) u7; have ye0 : AV shCache w7 (.agg #[.int .i64 x0.1.1, .slice Dx0_1 x0.1.2.1.length dx0_1, .slice Dx0_2 x0.1.2.2.length dx0_2, .int .i64 x0.2.1.1, .int .i64 x0.2.1.2.1, .int .i64 x0.2.1.2.2.1, .slice Dx0_6 x0.2.1.2.2.2.length dx0_6, .int .i64 x0.2.2.1.1, .int .i64 x0.2.2.1.2.1, .int .i64 x0.2.2.1.2.2.1, .slice Dx0_10 x0.2.2.1.2.2.2.length dx0_10, .slice Dx0_11 x0.2.2.2.1.length dx0_11, .slice Dx0_12 x0.2.2.2.2.length dx0_12]) x0 := ⟨_, rfl, good_Cache.wide (good_Cache.keep (good_Cache.own_rep ox0_6) (u7d.keeps (by omega))) (Nat.zero_le _) (by have := u7d.size; omega)⟩; have yce0 := AV.of_own good_Cache oe0; have ka0_7 := ka0_6.up u7d; have kx0_7 := kx0_6.up u7d) | (go_at_call 18; (with_reducible refine (c_eqCache _ _ x0 x0 _ ye0 yce0).mono ?_); rintro e w8 ⟨be0, rfl, hbe0, u8⟩; have u8d := u7d.trans u8; have ka0_8z := ka0_6.up u8d; have kx0_8z := kx0_6.up u8d))
  have uu8 := uu6.trans u8d
  have zs8 := u8d.size
  have ka0_8 := ka0_6.up u8d
  have kr_8 := kr_6.up u8d
  have kx0_8 := kx0_6.up u8d
  have kg_8 := kg_6.up u8d
  have os_8 := good_Cache.keep os_6 (u8d.keeps (by omega))
  clear os_6
  have ox0_8 := good_Cache.own_keep ox0_6 (fun y hy => u8d.block y (Nat.lt_of_lt_of_le (good_Cache.own_in ox0_6 y hy).2 (by omega)))
  clear ox0_6
  have og_8 := good_Cache.own_keep og_6 (fun y hy => u8d.block y (Nat.lt_of_lt_of_le (good_Cache.own_in og_6 y hy).2 (by omega)))
  clear og_6
  obtain rfl : be0 = true := by simpa using hbe0
  clear hbe0 u7 u7d u8 u8d ye0 yce0 oe0
  clear ka0_7 ka0_8z kx0_7 kx0_8z
  clear ga0_6_0 ga0_6_1 ga0_6_2 ga0_6_3 ga0_6_4 ga0_6_5 ga0_6_6 ga0_6_7 ga0_6_8 ga0_6_9 ga0_6_10 ga0_6_11 ga0_6_12 zza0_6 gr_6_0 gr_6_1 gr_6_2 gr_6_3 gr_6_4 gr_6_5 gr_6_6 gr_6_7 gr_6_8 gr_6_9 gr_6_10 gr_6_11 gr_6_12 zzr_6 gx0_6_0 gx0_6_1 gx0_6_2 gx0_6_3 gx0_6_4 gx0_6_5 gx0_6_6 gx0_6_7 gx0_6_8 gx0_6_9 gx0_6_10 gx0_6_11 gx0_6_12 zzx0_6 gg_6_0 gg_6_1 gg_6_2 gg_6_3 gg_6_4 gg_6_5 gg_6_6 gg_6_7 gg_6_8 gg_6_9 gg_6_10 gg_6_11 gg_6_12 zzg_6
  have ga0_8_0 : w8.cell? ⟨w.heap.size, 0, none⟩ = some (.int .i64 x0.1.1) := ka0_8.cell 0
  have ga0_8_1 : w8.cell? ⟨w.heap.size, 1, none⟩ = some (.slice A0_1 x0.1.2.1.length c0_1) := ka0_8.cell 1
  have ga0_8_2 : w8.cell? ⟨w.heap.size, 2, none⟩ = some (.slice A0_2 x0.1.2.2.length c0_2) := ka0_8.cell 2
  have ga0_8_3 : w8.cell? ⟨w.heap.size, 3, none⟩ = some (.int .i64 x0.2.1.1) := ka0_8.cell 3
  have ga0_8_4 : w8.cell? ⟨w.heap.size, 4, none⟩ = some (.int .i64 x0.2.1.2.1) := ka0_8.cell 4
  have ga0_8_5 : w8.cell? ⟨w.heap.size, 5, none⟩ = some (.int .i64 x0.2.1.2.2.1) := ka0_8.cell 5
  have ga0_8_6 : w8.cell? ⟨w.heap.size, 6, none⟩ = some (.slice A0_6 x0.2.1.2.2.2.length c0_6) := ka0_8.cell 6
  have ga0_8_7 : w8.cell? ⟨w.heap.size, 7, none⟩ = some (.int .i64 x0.2.2.1.1) := ka0_8.cell 7
  have ga0_8_8 : w8.cell? ⟨w.heap.size, 8, none⟩ = some (.int .i64 x0.2.2.1.2.1) := ka0_8.cell 8
  have ga0_8_9 : w8.cell? ⟨w.heap.size, 9, none⟩ = some (.int .i64 x0.2.2.1.2.2.1) := ka0_8.cell 9
  have ga0_8_10 : w8.cell? ⟨w.heap.size, 10, none⟩ = some (.slice A0_10 x0.2.2.1.2.2.2.length c0_10) := ka0_8.cell 10
  have ga0_8_11 : w8.cell? ⟨w.heap.size, 11, none⟩ = some (.slice A0_11 x0.2.2.2.1.length c0_11) := ka0_8.cell 11
  have ga0_8_12 : w8.cell? ⟨w.heap.size, 12, none⟩ = some (.slice A0_12 x0.2.2.2.2.length c0_12) := ka0_8.cell 12
  have zza0_8 := ka0_8.lt
  have gr_8_0 : w8.cell? ⟨w3.heap.size, 0, none⟩ = some (.int .i64 (endTop x0).1.1) := kr_8.cell 0
  have gr_8_1 : w8.cell? ⟨w3.heap.size, 1, none⟩ = some (.slice Ds_1 (endTop x0).1.2.1.length ds_1) := kr_8.cell 1
  have gr_8_2 : w8.cell? ⟨w3.heap.size, 2, none⟩ = some (.slice Ds_2 (endTop x0).1.2.2.length ds_2) := kr_8.cell 2
  have gr_8_3 : w8.cell? ⟨w3.heap.size, 3, none⟩ = some (.int .i64 (endTop x0).2.1.1) := kr_8.cell 3
  have gr_8_4 : w8.cell? ⟨w3.heap.size, 4, none⟩ = some (.int .i64 (endTop x0).2.1.2.1) := kr_8.cell 4
  have gr_8_5 : w8.cell? ⟨w3.heap.size, 5, none⟩ = some (.int .i64 (endTop x0).2.1.2.2.1) := kr_8.cell 5
  have gr_8_6 : w8.cell? ⟨w3.heap.size, 6, none⟩ = some (.slice Ds_6 (endTop x0).2.1.2.2.2.length ds_6) := kr_8.cell 6
  have gr_8_7 : w8.cell? ⟨w3.heap.size, 7, none⟩ = some (.int .i64 (endTop x0).2.2.1.1) := kr_8.cell 7
  have gr_8_8 : w8.cell? ⟨w3.heap.size, 8, none⟩ = some (.int .i64 (endTop x0).2.2.1.2.1) := kr_8.cell 8
  have gr_8_9 : w8.cell? ⟨w3.heap.size, 9, none⟩ = some (.int .i64 (endTop x0).2.2.1.2.2.1) := kr_8.cell 9
  have gr_8_10 : w8.cell? ⟨w3.heap.size, 10, none⟩ = some (.slice Ds_10 (endTop x0).2.2.1.2.2.2.length ds_10) := kr_8.cell 10
  have gr_8_11 : w8.cell? ⟨w3.heap.size, 11, none⟩ = some (.slice Ds_11 (endTop x0).2.2.2.1.length ds_11) := kr_8.cell 11
  have gr_8_12 : w8.cell? ⟨w3.heap.size, 12, none⟩ = some (.slice Ds_12 (endTop x0).2.2.2.2.length ds_12) := kr_8.cell 12
  have zzr_8 := kr_8.lt
  have gx0_8_0 : w8.cell? ⟨w4.heap.size, 0, none⟩ = some (.int .i64 x0.1.1) := kx0_8.cell 0
  have gx0_8_1 : w8.cell? ⟨w4.heap.size, 1, none⟩ = some (.slice Dx0_1 x0.1.2.1.length dx0_1) := kx0_8.cell 1
  have gx0_8_2 : w8.cell? ⟨w4.heap.size, 2, none⟩ = some (.slice Dx0_2 x0.1.2.2.length dx0_2) := kx0_8.cell 2
  have gx0_8_3 : w8.cell? ⟨w4.heap.size, 3, none⟩ = some (.int .i64 x0.2.1.1) := kx0_8.cell 3
  have gx0_8_4 : w8.cell? ⟨w4.heap.size, 4, none⟩ = some (.int .i64 x0.2.1.2.1) := kx0_8.cell 4
  have gx0_8_5 : w8.cell? ⟨w4.heap.size, 5, none⟩ = some (.int .i64 x0.2.1.2.2.1) := kx0_8.cell 5
  have gx0_8_6 : w8.cell? ⟨w4.heap.size, 6, none⟩ = some (.slice Dx0_6 x0.2.1.2.2.2.length dx0_6) := kx0_8.cell 6
  have gx0_8_7 : w8.cell? ⟨w4.heap.size, 7, none⟩ = some (.int .i64 x0.2.2.1.1) := kx0_8.cell 7
  have gx0_8_8 : w8.cell? ⟨w4.heap.size, 8, none⟩ = some (.int .i64 x0.2.2.1.2.1) := kx0_8.cell 8
  have gx0_8_9 : w8.cell? ⟨w4.heap.size, 9, none⟩ = some (.int .i64 x0.2.2.1.2.2.1) := kx0_8.cell 9
  have gx0_8_10 : w8.cell? ⟨w4.heap.size, 10, none⟩ = some (.slice Dx0_10 x0.2.2.1.2.2.2.length dx0_10) := kx0_8.cell 10
  have gx0_8_11 : w8.cell? ⟨w4.heap.size, 11, none⟩ = some (.slice Dx0_11 x0.2.2.2.1.length dx0_11) := kx0_8.cell 11
  have gx0_8_12 : w8.cell? ⟨w4.heap.size, 12, none⟩ = some (.slice Dx0_12 x0.2.2.2.2.length dx0_12) := kx0_8.cell 12
  have zzx0_8 := kx0_8.lt
  have gg_8_0 : w8.cell? ⟨w5.heap.size, 0, none⟩ = some (.int .i64 (endTop x0).1.1) := kg_8.cell 0
  have gg_8_1 : w8.cell? ⟨w5.heap.size, 1, none⟩ = some (.slice Dg_1 (endTop x0).1.2.1.length dg_1) := kg_8.cell 1
  have gg_8_2 : w8.cell? ⟨w5.heap.size, 2, none⟩ = some (.slice Dg_2 (endTop x0).1.2.2.length dg_2) := kg_8.cell 2
  have gg_8_3 : w8.cell? ⟨w5.heap.size, 3, none⟩ = some (.int .i64 (endTop x0).2.1.1) := kg_8.cell 3
  have gg_8_4 : w8.cell? ⟨w5.heap.size, 4, none⟩ = some (.int .i64 (endTop x0).2.1.2.1) := kg_8.cell 4
  have gg_8_5 : w8.cell? ⟨w5.heap.size, 5, none⟩ = some (.int .i64 (endTop x0).2.1.2.2.1) := kg_8.cell 5
  have gg_8_6 : w8.cell? ⟨w5.heap.size, 6, none⟩ = some (.slice Dg_6 (endTop x0).2.1.2.2.2.length dg_6) := kg_8.cell 6
  have gg_8_7 : w8.cell? ⟨w5.heap.size, 7, none⟩ = some (.int .i64 (endTop x0).2.2.1.1) := kg_8.cell 7
  have gg_8_8 : w8.cell? ⟨w5.heap.size, 8, none⟩ = some (.int .i64 (endTop x0).2.2.1.2.1) := kg_8.cell 8
  have gg_8_9 : w8.cell? ⟨w5.heap.size, 9, none⟩ = some (.int .i64 (endTop x0).2.2.1.2.2.1) := kg_8.cell 9
  have gg_8_10 : w8.cell? ⟨w5.heap.size, 10, none⟩ = some (.slice Dg_10 (endTop x0).2.2.1.2.2.2.length dg_10) := kg_8.cell 10
  have gg_8_11 : w8.cell? ⟨w5.heap.size, 11, none⟩ = some (.slice Dg_11 (endTop x0).2.2.2.1.length dg_11) := kg_8.cell 11
  have gg_8_12 : w8.cell? ⟨w5.heap.size, 12, none⟩ = some (.slice Dg_12 (endTop x0).2.2.2.2.length dg_12) := kg_8.cell 12
  have zzg_8 := kg_8.lt
  go_wp2_with fail
  have cbx0 : (1 : Int) + (mmTCache.cnt x0 : Nat) ≤ 1000000000 := by have := cnt_Cache x0 hn0; omega
  have cbg : (1 : Int) + (mmTCache.cnt (endTop x0) : Nat) ≤ 1000000000 := cbg_EndTop x0 hn0
  refine (c_markCache _ (x0) _ ((w3.alloc (.cells #[.int .i64 (endTop x0).1.1, .slice Ds_1 (endTop x0).1.2.1.length ds_1, .slice Ds_2 (endTop x0).1.2.2.length ds_2, .int .i64 (endTop x0).2.1.1, .int .i64 (endTop x0).2.1.2.1, .int .i64 (endTop x0).2.1.2.2.1, .slice Ds_6 (endTop x0).2.1.2.2.2.length ds_6, .int .i64 (endTop x0).2.2.1.1, .int .i64 (endTop x0).2.2.1.2.1, .int .i64 (endTop x0).2.2.1.2.2.1, .slice Ds_10 (endTop x0).2.2.1.2.2.2.length ds_10, .slice Ds_11 (endTop x0).2.2.2.1.length ds_11, .slice Ds_12 (endTop x0).2.2.2.2.length ds_12] 51)).heap.size) (w4.heap.size) blx0 _ ox0_8 (by omega) ndx0 (by omega) (by simpa using cbx0)).mono ?_
  rintro e w9 ⟨rfl, mox0, oox0⟩
  have hm1009 : ∀ y ∈ blx0, (w3.alloc (.cells #[.int .i64 (endTop x0).1.1, .slice Ds_1 (endTop x0).1.2.1.length ds_1, .slice Ds_2 (endTop x0).1.2.2.length ds_2, .int .i64 (endTop x0).2.1.1, .int .i64 (endTop x0).2.1.2.1, .int .i64 (endTop x0).2.1.2.2.1, .slice Ds_6 (endTop x0).2.1.2.2.2.length ds_6, .int .i64 (endTop x0).2.2.1.1, .int .i64 (endTop x0).2.2.1.2.1, .int .i64 (endTop x0).2.2.1.2.2.1, .slice Ds_10 (endTop x0).2.2.1.2.2.2.length ds_10, .slice Ds_11 (endTop x0).2.2.2.1.length ds_11, .slice Ds_12 (endTop x0).2.2.2.2.length ds_12] 51)).heap.size ≤ y ∧ y < w4.heap.size := good_Cache.own_in ox0_8
  have uu9 := uu8.only oox0 (fun y hy => by have := (hm1009 y hy).1; omega)
  have zs9 := oox0.size
  have ka0_9 := ka0_8.only oox0 (fun hy => by have := hm1009 _ hy; omega)
  have kr_9 := kr_8.only oox0 (fun hy => by have := hm1009 _ hy; omega)
  have kx0_9 := kx0_8.only oox0 (fun hy => by have := hm1009 _ hy; omega)
  have kg_9 := kg_8.only oox0 (fun hy => by have := hm1009 _ hy; omega)
  have os_9 := good_Cache.keep os_8 (fun y _ hy => oox0.block y (by omega) (fun hm => by have h1 := hm1009 y hm; omega))
  clear os_8
  have og_9 := good_Cache.own_keep og_8 (fun y hy => oox0.block y (Nat.lt_of_lt_of_le (good_Cache.own_in og_8 y hy).2 (by omega)) (fun hm => by have h1 := hm1009 y hm; have h2 := good_Cache.own_in og_8 y hy; omega))
  clear og_8
  have mkx0 : shCache.own w9 ((w3.alloc (.cells #[.int .i64 (endTop x0).1.1, .slice Ds_1 (endTop x0).1.2.1.length ds_1, .slice Ds_2 (endTop x0).1.2.2.length ds_2, .int .i64 (endTop x0).2.1.1, .int .i64 (endTop x0).2.1.2.1, .int .i64 (endTop x0).2.1.2.2.1, .slice Ds_6 (endTop x0).2.1.2.2.2.length ds_6, .int .i64 (endTop x0).2.2.1.1, .int .i64 (endTop x0).2.2.1.2.1, .int .i64 (endTop x0).2.2.1.2.2.1, .slice Ds_10 (endTop x0).2.2.1.2.2.2.length ds_10, .slice Ds_11 (endTop x0).2.2.2.1.length ds_11, .slice Ds_12 (endTop x0).2.2.2.2.length ds_12] 51)).heap.size) (w4.heap.size) [.int .i64 x0.1.1, .slice Dx0_1 x0.1.2.1.length dx0_1, .slice Dx0_2 x0.1.2.2.length dx0_2, .int .i64 x0.2.1.1, .int .i64 x0.2.1.2.1, .int .i64 x0.2.1.2.2.1, .slice Dx0_6 x0.2.1.2.2.2.length dx0_6, .int .i64 x0.2.2.1.1, .int .i64 x0.2.2.1.2.1, .int .i64 x0.2.2.1.2.2.1, .slice Dx0_10 x0.2.2.1.2.2.2.length dx0_10, .slice Dx0_11 x0.2.2.2.1.length dx0_11, .slice Dx0_12 x0.2.2.2.2.length dx0_12] (mmTCache.mark (x0) 1) blx0 := mox0
  clear mox0 oox0 ox0_8
  clear ga0_8_0 ga0_8_1 ga0_8_2 ga0_8_3 ga0_8_4 ga0_8_5 ga0_8_6 ga0_8_7 ga0_8_8 ga0_8_9 ga0_8_10 ga0_8_11 ga0_8_12 zza0_8 gr_8_0 gr_8_1 gr_8_2 gr_8_3 gr_8_4 gr_8_5 gr_8_6 gr_8_7 gr_8_8 gr_8_9 gr_8_10 gr_8_11 gr_8_12 zzr_8 gx0_8_0 gx0_8_1 gx0_8_2 gx0_8_3 gx0_8_4 gx0_8_5 gx0_8_6 gx0_8_7 gx0_8_8 gx0_8_9 gx0_8_10 gx0_8_11 gx0_8_12 zzx0_8 gg_8_0 gg_8_1 gg_8_2 gg_8_3 gg_8_4 gg_8_5 gg_8_6 gg_8_7 gg_8_8 gg_8_9 gg_8_10 gg_8_11 gg_8_12 zzg_8
  have ga0_9_0 : w9.cell? ⟨w.heap.size, 0, none⟩ = some (.int .i64 x0.1.1) := ka0_9.cell 0
  have ga0_9_1 : w9.cell? ⟨w.heap.size, 1, none⟩ = some (.slice A0_1 x0.1.2.1.length c0_1) := ka0_9.cell 1
  have ga0_9_2 : w9.cell? ⟨w.heap.size, 2, none⟩ = some (.slice A0_2 x0.1.2.2.length c0_2) := ka0_9.cell 2
  have ga0_9_3 : w9.cell? ⟨w.heap.size, 3, none⟩ = some (.int .i64 x0.2.1.1) := ka0_9.cell 3
  have ga0_9_4 : w9.cell? ⟨w.heap.size, 4, none⟩ = some (.int .i64 x0.2.1.2.1) := ka0_9.cell 4
  have ga0_9_5 : w9.cell? ⟨w.heap.size, 5, none⟩ = some (.int .i64 x0.2.1.2.2.1) := ka0_9.cell 5
  have ga0_9_6 : w9.cell? ⟨w.heap.size, 6, none⟩ = some (.slice A0_6 x0.2.1.2.2.2.length c0_6) := ka0_9.cell 6
  have ga0_9_7 : w9.cell? ⟨w.heap.size, 7, none⟩ = some (.int .i64 x0.2.2.1.1) := ka0_9.cell 7
  have ga0_9_8 : w9.cell? ⟨w.heap.size, 8, none⟩ = some (.int .i64 x0.2.2.1.2.1) := ka0_9.cell 8
  have ga0_9_9 : w9.cell? ⟨w.heap.size, 9, none⟩ = some (.int .i64 x0.2.2.1.2.2.1) := ka0_9.cell 9
  have ga0_9_10 : w9.cell? ⟨w.heap.size, 10, none⟩ = some (.slice A0_10 x0.2.2.1.2.2.2.length c0_10) := ka0_9.cell 10
  have ga0_9_11 : w9.cell? ⟨w.heap.size, 11, none⟩ = some (.slice A0_11 x0.2.2.2.1.length c0_11) := ka0_9.cell 11
  have ga0_9_12 : w9.cell? ⟨w.heap.size, 12, none⟩ = some (.slice A0_12 x0.2.2.2.2.length c0_12) := ka0_9.cell 12
  have zza0_9 := ka0_9.lt
  have gr_9_0 : w9.cell? ⟨w3.heap.size, 0, none⟩ = some (.int .i64 (endTop x0).1.1) := kr_9.cell 0
  have gr_9_1 : w9.cell? ⟨w3.heap.size, 1, none⟩ = some (.slice Ds_1 (endTop x0).1.2.1.length ds_1) := kr_9.cell 1
  have gr_9_2 : w9.cell? ⟨w3.heap.size, 2, none⟩ = some (.slice Ds_2 (endTop x0).1.2.2.length ds_2) := kr_9.cell 2
  have gr_9_3 : w9.cell? ⟨w3.heap.size, 3, none⟩ = some (.int .i64 (endTop x0).2.1.1) := kr_9.cell 3
  have gr_9_4 : w9.cell? ⟨w3.heap.size, 4, none⟩ = some (.int .i64 (endTop x0).2.1.2.1) := kr_9.cell 4
  have gr_9_5 : w9.cell? ⟨w3.heap.size, 5, none⟩ = some (.int .i64 (endTop x0).2.1.2.2.1) := kr_9.cell 5
  have gr_9_6 : w9.cell? ⟨w3.heap.size, 6, none⟩ = some (.slice Ds_6 (endTop x0).2.1.2.2.2.length ds_6) := kr_9.cell 6
  have gr_9_7 : w9.cell? ⟨w3.heap.size, 7, none⟩ = some (.int .i64 (endTop x0).2.2.1.1) := kr_9.cell 7
  have gr_9_8 : w9.cell? ⟨w3.heap.size, 8, none⟩ = some (.int .i64 (endTop x0).2.2.1.2.1) := kr_9.cell 8
  have gr_9_9 : w9.cell? ⟨w3.heap.size, 9, none⟩ = some (.int .i64 (endTop x0).2.2.1.2.2.1) := kr_9.cell 9
  have gr_9_10 : w9.cell? ⟨w3.heap.size, 10, none⟩ = some (.slice Ds_10 (endTop x0).2.2.1.2.2.2.length ds_10) := kr_9.cell 10
  have gr_9_11 : w9.cell? ⟨w3.heap.size, 11, none⟩ = some (.slice Ds_11 (endTop x0).2.2.2.1.length ds_11) := kr_9.cell 11
  have gr_9_12 : w9.cell? ⟨w3.heap.size, 12, none⟩ = some (.slice Ds_12 (endTop x0).2.2.2.2.length ds_12) := kr_9.cell 12
  have zzr_9 := kr_9.lt
  have gx0_9_0 : w9.cell? ⟨w4.heap.size, 0, none⟩ = some (.int .i64 x0.1.1) := kx0_9.cell 0
  have gx0_9_1 : w9.cell? ⟨w4.heap.size, 1, none⟩ = some (.slice Dx0_1 x0.1.2.1.length dx0_1) := kx0_9.cell 1
  have gx0_9_2 : w9.cell? ⟨w4.heap.size, 2, none⟩ = some (.slice Dx0_2 x0.1.2.2.length dx0_2) := kx0_9.cell 2
  have gx0_9_3 : w9.cell? ⟨w4.heap.size, 3, none⟩ = some (.int .i64 x0.2.1.1) := kx0_9.cell 3
  have gx0_9_4 : w9.cell? ⟨w4.heap.size, 4, none⟩ = some (.int .i64 x0.2.1.2.1) := kx0_9.cell 4
  have gx0_9_5 : w9.cell? ⟨w4.heap.size, 5, none⟩ = some (.int .i64 x0.2.1.2.2.1) := kx0_9.cell 5
  have gx0_9_6 : w9.cell? ⟨w4.heap.size, 6, none⟩ = some (.slice Dx0_6 x0.2.1.2.2.2.length dx0_6) := kx0_9.cell 6
  have gx0_9_7 : w9.cell? ⟨w4.heap.size, 7, none⟩ = some (.int .i64 x0.2.2.1.1) := kx0_9.cell 7
  have gx0_9_8 : w9.cell? ⟨w4.heap.size, 8, none⟩ = some (.int .i64 x0.2.2.1.2.1) := kx0_9.cell 8
  have gx0_9_9 : w9.cell? ⟨w4.heap.size, 9, none⟩ = some (.int .i64 x0.2.2.1.2.2.1) := kx0_9.cell 9
  have gx0_9_10 : w9.cell? ⟨w4.heap.size, 10, none⟩ = some (.slice Dx0_10 x0.2.2.1.2.2.2.length dx0_10) := kx0_9.cell 10
  have gx0_9_11 : w9.cell? ⟨w4.heap.size, 11, none⟩ = some (.slice Dx0_11 x0.2.2.2.1.length dx0_11) := kx0_9.cell 11
  have gx0_9_12 : w9.cell? ⟨w4.heap.size, 12, none⟩ = some (.slice Dx0_12 x0.2.2.2.2.length dx0_12) := kx0_9.cell 12
  have zzx0_9 := kx0_9.lt
  have gg_9_0 : w9.cell? ⟨w5.heap.size, 0, none⟩ = some (.int .i64 (endTop x0).1.1) := kg_9.cell 0
  have gg_9_1 : w9.cell? ⟨w5.heap.size, 1, none⟩ = some (.slice Dg_1 (endTop x0).1.2.1.length dg_1) := kg_9.cell 1
  have gg_9_2 : w9.cell? ⟨w5.heap.size, 2, none⟩ = some (.slice Dg_2 (endTop x0).1.2.2.length dg_2) := kg_9.cell 2
  have gg_9_3 : w9.cell? ⟨w5.heap.size, 3, none⟩ = some (.int .i64 (endTop x0).2.1.1) := kg_9.cell 3
  have gg_9_4 : w9.cell? ⟨w5.heap.size, 4, none⟩ = some (.int .i64 (endTop x0).2.1.2.1) := kg_9.cell 4
  have gg_9_5 : w9.cell? ⟨w5.heap.size, 5, none⟩ = some (.int .i64 (endTop x0).2.1.2.2.1) := kg_9.cell 5
  have gg_9_6 : w9.cell? ⟨w5.heap.size, 6, none⟩ = some (.slice Dg_6 (endTop x0).2.1.2.2.2.length dg_6) := kg_9.cell 6
  have gg_9_7 : w9.cell? ⟨w5.heap.size, 7, none⟩ = some (.int .i64 (endTop x0).2.2.1.1) := kg_9.cell 7
  have gg_9_8 : w9.cell? ⟨w5.heap.size, 8, none⟩ = some (.int .i64 (endTop x0).2.2.1.2.1) := kg_9.cell 8
  have gg_9_9 : w9.cell? ⟨w5.heap.size, 9, none⟩ = some (.int .i64 (endTop x0).2.2.1.2.2.1) := kg_9.cell 9
  have gg_9_10 : w9.cell? ⟨w5.heap.size, 10, none⟩ = some (.slice Dg_10 (endTop x0).2.2.1.2.2.2.length dg_10) := kg_9.cell 10
  have gg_9_11 : w9.cell? ⟨w5.heap.size, 11, none⟩ = some (.slice Dg_11 (endTop x0).2.2.2.1.length dg_11) := kg_9.cell 11
  have gg_9_12 : w9.cell? ⟨w5.heap.size, 12, none⟩ = some (.slice Dg_12 (endTop x0).2.2.2.2.length dg_12) := kg_9.cell 12
  have zzg_9 := kg_9.lt
  go_wp2_with fail
  refine (c_eqCache _ _ (endTop x0) (endTop x0) _ ⟨_, rfl, good_Cache.wide (good_Cache.own_rep og_9) (Nat.zero_le _) (by omega)⟩ ⟨_, rfl, good_Cache.wide os_9 (Nat.le_refl _) (by omega)⟩).mono ?_
  rintro e w10 ⟨be1, rfl, hbe1, u10⟩
  have uu10 := uu9.trans u10
  have zs10 := u10.size
  have ka0_10 := ka0_9.up u10
  have kr_10 := kr_9.up u10
  have kx0_10 := kx0_9.up u10
  have kg_10 := kg_9.up u10
  have os_10 := good_Cache.keep os_9 (u10.keeps (by omega))
  clear os_9
  have mkx0_10 := good_Cache.own_keep mkx0 (fun y hy => u10.block y (Nat.lt_of_lt_of_le (good_Cache.own_in mkx0 y hy).2 (by omega)))
  have og_10 := good_Cache.own_keep og_9 (fun y hy => u10.block y (Nat.lt_of_lt_of_le (good_Cache.own_in og_9 y hy).2 (by omega)))
  clear og_9
  obtain rfl : be1 = true := by simpa using hbe1
  clear hbe1 u10
  clear ga0_9_0 ga0_9_1 ga0_9_2 ga0_9_3 ga0_9_4 ga0_9_5 ga0_9_6 ga0_9_7 ga0_9_8 ga0_9_9 ga0_9_10 ga0_9_11 ga0_9_12 zza0_9 gr_9_0 gr_9_1 gr_9_2 gr_9_3 gr_9_4 gr_9_5 gr_9_6 gr_9_7 gr_9_8 gr_9_9 gr_9_10 gr_9_11 gr_9_12 zzr_9 gx0_9_0 gx0_9_1 gx0_9_2 gx0_9_3 gx0_9_4 gx0_9_5 gx0_9_6 gx0_9_7 gx0_9_8 gx0_9_9 gx0_9_10 gx0_9_11 gx0_9_12 zzx0_9 gg_9_0 gg_9_1 gg_9_2 gg_9_3 gg_9_4 gg_9_5 gg_9_6 gg_9_7 gg_9_8 gg_9_9 gg_9_10 gg_9_11 gg_9_12 zzg_9
  have ga0_10_0 : w10.cell? ⟨w.heap.size, 0, none⟩ = some (.int .i64 x0.1.1) := ka0_10.cell 0
  have ga0_10_1 : w10.cell? ⟨w.heap.size, 1, none⟩ = some (.slice A0_1 x0.1.2.1.length c0_1) := ka0_10.cell 1
  have ga0_10_2 : w10.cell? ⟨w.heap.size, 2, none⟩ = some (.slice A0_2 x0.1.2.2.length c0_2) := ka0_10.cell 2
  have ga0_10_3 : w10.cell? ⟨w.heap.size, 3, none⟩ = some (.int .i64 x0.2.1.1) := ka0_10.cell 3
  have ga0_10_4 : w10.cell? ⟨w.heap.size, 4, none⟩ = some (.int .i64 x0.2.1.2.1) := ka0_10.cell 4
  have ga0_10_5 : w10.cell? ⟨w.heap.size, 5, none⟩ = some (.int .i64 x0.2.1.2.2.1) := ka0_10.cell 5
  have ga0_10_6 : w10.cell? ⟨w.heap.size, 6, none⟩ = some (.slice A0_6 x0.2.1.2.2.2.length c0_6) := ka0_10.cell 6
  have ga0_10_7 : w10.cell? ⟨w.heap.size, 7, none⟩ = some (.int .i64 x0.2.2.1.1) := ka0_10.cell 7
  have ga0_10_8 : w10.cell? ⟨w.heap.size, 8, none⟩ = some (.int .i64 x0.2.2.1.2.1) := ka0_10.cell 8
  have ga0_10_9 : w10.cell? ⟨w.heap.size, 9, none⟩ = some (.int .i64 x0.2.2.1.2.2.1) := ka0_10.cell 9
  have ga0_10_10 : w10.cell? ⟨w.heap.size, 10, none⟩ = some (.slice A0_10 x0.2.2.1.2.2.2.length c0_10) := ka0_10.cell 10
  have ga0_10_11 : w10.cell? ⟨w.heap.size, 11, none⟩ = some (.slice A0_11 x0.2.2.2.1.length c0_11) := ka0_10.cell 11
  have ga0_10_12 : w10.cell? ⟨w.heap.size, 12, none⟩ = some (.slice A0_12 x0.2.2.2.2.length c0_12) := ka0_10.cell 12
  have zza0_10 := ka0_10.lt
  have gr_10_0 : w10.cell? ⟨w3.heap.size, 0, none⟩ = some (.int .i64 (endTop x0).1.1) := kr_10.cell 0
  have gr_10_1 : w10.cell? ⟨w3.heap.size, 1, none⟩ = some (.slice Ds_1 (endTop x0).1.2.1.length ds_1) := kr_10.cell 1
  have gr_10_2 : w10.cell? ⟨w3.heap.size, 2, none⟩ = some (.slice Ds_2 (endTop x0).1.2.2.length ds_2) := kr_10.cell 2
  have gr_10_3 : w10.cell? ⟨w3.heap.size, 3, none⟩ = some (.int .i64 (endTop x0).2.1.1) := kr_10.cell 3
  have gr_10_4 : w10.cell? ⟨w3.heap.size, 4, none⟩ = some (.int .i64 (endTop x0).2.1.2.1) := kr_10.cell 4
  have gr_10_5 : w10.cell? ⟨w3.heap.size, 5, none⟩ = some (.int .i64 (endTop x0).2.1.2.2.1) := kr_10.cell 5
  have gr_10_6 : w10.cell? ⟨w3.heap.size, 6, none⟩ = some (.slice Ds_6 (endTop x0).2.1.2.2.2.length ds_6) := kr_10.cell 6
  have gr_10_7 : w10.cell? ⟨w3.heap.size, 7, none⟩ = some (.int .i64 (endTop x0).2.2.1.1) := kr_10.cell 7
  have gr_10_8 : w10.cell? ⟨w3.heap.size, 8, none⟩ = some (.int .i64 (endTop x0).2.2.1.2.1) := kr_10.cell 8
  have gr_10_9 : w10.cell? ⟨w3.heap.size, 9, none⟩ = some (.int .i64 (endTop x0).2.2.1.2.2.1) := kr_10.cell 9
  have gr_10_10 : w10.cell? ⟨w3.heap.size, 10, none⟩ = some (.slice Ds_10 (endTop x0).2.2.1.2.2.2.length ds_10) := kr_10.cell 10
  have gr_10_11 : w10.cell? ⟨w3.heap.size, 11, none⟩ = some (.slice Ds_11 (endTop x0).2.2.2.1.length ds_11) := kr_10.cell 11
  have gr_10_12 : w10.cell? ⟨w3.heap.size, 12, none⟩ = some (.slice Ds_12 (endTop x0).2.2.2.2.length ds_12) := kr_10.cell 12
  have zzr_10 := kr_10.lt
  have gx0_10_0 : w10.cell? ⟨w4.heap.size, 0, none⟩ = some (.int .i64 x0.1.1) := kx0_10.cell 0
  have gx0_10_1 : w10.cell? ⟨w4.heap.size, 1, none⟩ = some (.slice Dx0_1 x0.1.2.1.length dx0_1) := kx0_10.cell 1
  have gx0_10_2 : w10.cell? ⟨w4.heap.size, 2, none⟩ = some (.slice Dx0_2 x0.1.2.2.length dx0_2) := kx0_10.cell 2
  have gx0_10_3 : w10.cell? ⟨w4.heap.size, 3, none⟩ = some (.int .i64 x0.2.1.1) := kx0_10.cell 3
  have gx0_10_4 : w10.cell? ⟨w4.heap.size, 4, none⟩ = some (.int .i64 x0.2.1.2.1) := kx0_10.cell 4
  have gx0_10_5 : w10.cell? ⟨w4.heap.size, 5, none⟩ = some (.int .i64 x0.2.1.2.2.1) := kx0_10.cell 5
  have gx0_10_6 : w10.cell? ⟨w4.heap.size, 6, none⟩ = some (.slice Dx0_6 x0.2.1.2.2.2.length dx0_6) := kx0_10.cell 6
  have gx0_10_7 : w10.cell? ⟨w4.heap.size, 7, none⟩ = some (.int .i64 x0.2.2.1.1) := kx0_10.cell 7
  have gx0_10_8 : w10.cell? ⟨w4.heap.size, 8, none⟩ = some (.int .i64 x0.2.2.1.2.1) := kx0_10.cell 8
  have gx0_10_9 : w10.cell? ⟨w4.heap.size, 9, none⟩ = some (.int .i64 x0.2.2.1.2.2.1) := kx0_10.cell 9
  have gx0_10_10 : w10.cell? ⟨w4.heap.size, 10, none⟩ = some (.slice Dx0_10 x0.2.2.1.2.2.2.length dx0_10) := kx0_10.cell 10
  have gx0_10_11 : w10.cell? ⟨w4.heap.size, 11, none⟩ = some (.slice Dx0_11 x0.2.2.2.1.length dx0_11) := kx0_10.cell 11
  have gx0_10_12 : w10.cell? ⟨w4.heap.size, 12, none⟩ = some (.slice Dx0_12 x0.2.2.2.2.length dx0_12) := kx0_10.cell 12
  have zzx0_10 := kx0_10.lt
  have gg_10_0 : w10.cell? ⟨w5.heap.size, 0, none⟩ = some (.int .i64 (endTop x0).1.1) := kg_10.cell 0
  have gg_10_1 : w10.cell? ⟨w5.heap.size, 1, none⟩ = some (.slice Dg_1 (endTop x0).1.2.1.length dg_1) := kg_10.cell 1
  have gg_10_2 : w10.cell? ⟨w5.heap.size, 2, none⟩ = some (.slice Dg_2 (endTop x0).1.2.2.length dg_2) := kg_10.cell 2
  have gg_10_3 : w10.cell? ⟨w5.heap.size, 3, none⟩ = some (.int .i64 (endTop x0).2.1.1) := kg_10.cell 3
  have gg_10_4 : w10.cell? ⟨w5.heap.size, 4, none⟩ = some (.int .i64 (endTop x0).2.1.2.1) := kg_10.cell 4
  have gg_10_5 : w10.cell? ⟨w5.heap.size, 5, none⟩ = some (.int .i64 (endTop x0).2.1.2.2.1) := kg_10.cell 5
  have gg_10_6 : w10.cell? ⟨w5.heap.size, 6, none⟩ = some (.slice Dg_6 (endTop x0).2.1.2.2.2.length dg_6) := kg_10.cell 6
  have gg_10_7 : w10.cell? ⟨w5.heap.size, 7, none⟩ = some (.int .i64 (endTop x0).2.2.1.1) := kg_10.cell 7
  have gg_10_8 : w10.cell? ⟨w5.heap.size, 8, none⟩ = some (.int .i64 (endTop x0).2.2.1.2.1) := kg_10.cell 8
  have gg_10_9 : w10.cell? ⟨w5.heap.size, 9, none⟩ = some (.int .i64 (endTop x0).2.2.1.2.2.1) := kg_10.cell 9
  have gg_10_10 : w10.cell? ⟨w5.heap.size, 10, none⟩ = some (.slice Dg_10 (endTop x0).2.2.1.2.2.2.length dg_10) := kg_10.cell 10
  have gg_10_11 : w10.cell? ⟨w5.heap.size, 11, none⟩ = some (.slice Dg_11 (endTop x0).2.2.2.1.length dg_11) := kg_10.cell 11
  have gg_10_12 : w10.cell? ⟨w5.heap.size, 12, none⟩ = some (.slice Dg_12 (endTop x0).2.2.2.2.length dg_12) := kg_10.cell 12
  have zzg_10 := kg_10.lt
  go_wp2_with fail
  refine (c_markCache _ (endTop x0) _ ((w4.alloc (.cells #[.int .i64 x0.1.1, .slice Dx0_1 x0.1.2.1.length dx0_1, .slice Dx0_2 x0.1.2.2.length dx0_2, .int .i64 x0.2.1.1, .int .i64 x0.2.1.2.1, .int .i64 x0.2.1.2.2.1, .slice Dx0_6 x0.2.1.2.2.2.length dx0_6, .int .i64 x0.2.2.1.1, .int .i64 x0.2.2.1.2.1, .int .i64 x0.2.2.1.2.2.1, .slice Dx0_10 x0.2.2.1.2.2.2.length dx0_10, .slice Dx0_11 x0.2.2.2.1.length dx0_11, .slice Dx0_12 x0.2.2.2.2.length dx0_12] 51)).heap.size) (w5.heap.size) blg _ og_10 (by omega) ndg (by omega) (by simpa using cbg)).mono ?_
  rintro e w11 ⟨rfl, mog, oog⟩
  have hm1011 : ∀ y ∈ blg, (w4.alloc (.cells #[.int .i64 x0.1.1, .slice Dx0_1 x0.1.2.1.length dx0_1, .slice Dx0_2 x0.1.2.2.length dx0_2, .int .i64 x0.2.1.1, .int .i64 x0.2.1.2.1, .int .i64 x0.2.1.2.2.1, .slice Dx0_6 x0.2.1.2.2.2.length dx0_6, .int .i64 x0.2.2.1.1, .int .i64 x0.2.2.1.2.1, .int .i64 x0.2.2.1.2.2.1, .slice Dx0_10 x0.2.2.1.2.2.2.length dx0_10, .slice Dx0_11 x0.2.2.2.1.length dx0_11, .slice Dx0_12 x0.2.2.2.2.length dx0_12] 51)).heap.size ≤ y ∧ y < w5.heap.size := good_Cache.own_in og_10
  have uu11 := uu10.only oog (fun y hy => by have := (hm1011 y hy).1; omega)
  have zs11 := oog.size
  have ka0_11 := ka0_10.only oog (fun hy => by have := hm1011 _ hy; omega)
  have kr_11 := kr_10.only oog (fun hy => by have := hm1011 _ hy; omega)
  have kx0_11 := kx0_10.only oog (fun hy => by have := hm1011 _ hy; omega)
  have kg_11 := kg_10.only oog (fun hy => by have := hm1011 _ hy; omega)
  have os_11 := good_Cache.keep os_10 (fun y _ hy => oog.block y (by omega) (fun hm => by have h1 := hm1011 y hm; omega))
  clear os_10
  have mkx0_11 := good_Cache.own_keep mkx0_10 (fun y hy => oog.block y (Nat.lt_of_lt_of_le (good_Cache.own_in mkx0_10 y hy).2 (by omega)) (fun hm => by have h1 := hm1011 y hm; have h2 := good_Cache.own_in mkx0_10 y hy; omega))
  clear mkx0_10
  have mkg : shCache.own w11 ((w4.alloc (.cells #[.int .i64 x0.1.1, .slice Dx0_1 x0.1.2.1.length dx0_1, .slice Dx0_2 x0.1.2.2.length dx0_2, .int .i64 x0.2.1.1, .int .i64 x0.2.1.2.1, .int .i64 x0.2.1.2.2.1, .slice Dx0_6 x0.2.1.2.2.2.length dx0_6, .int .i64 x0.2.2.1.1, .int .i64 x0.2.2.1.2.1, .int .i64 x0.2.2.1.2.2.1, .slice Dx0_10 x0.2.2.1.2.2.2.length dx0_10, .slice Dx0_11 x0.2.2.2.1.length dx0_11, .slice Dx0_12 x0.2.2.2.2.length dx0_12] 51)).heap.size) (w5.heap.size) [.int .i64 (endTop x0).1.1, .slice Dg_1 (endTop x0).1.2.1.length dg_1, .slice Dg_2 (endTop x0).1.2.2.length dg_2, .int .i64 (endTop x0).2.1.1, .int .i64 (endTop x0).2.1.2.1, .int .i64 (endTop x0).2.1.2.2.1, .slice Dg_6 (endTop x0).2.1.2.2.2.length dg_6, .int .i64 (endTop x0).2.2.1.1, .int .i64 (endTop x0).2.2.1.2.1, .int .i64 (endTop x0).2.2.1.2.2.1, .slice Dg_10 (endTop x0).2.2.1.2.2.2.length dg_10, .slice Dg_11 (endTop x0).2.2.2.1.length dg_11, .slice Dg_12 (endTop x0).2.2.2.2.length dg_12] (mmTCache.mark (endTop x0) 1) blg := mog
  clear mog oog og_10
  clear ga0_10_0 ga0_10_1 ga0_10_2 ga0_10_3 ga0_10_4 ga0_10_5 ga0_10_6 ga0_10_7 ga0_10_8 ga0_10_9 ga0_10_10 ga0_10_11 ga0_10_12 zza0_10 gr_10_0 gr_10_1 gr_10_2 gr_10_3 gr_10_4 gr_10_5 gr_10_6 gr_10_7 gr_10_8 gr_10_9 gr_10_10 gr_10_11 gr_10_12 zzr_10 gx0_10_0 gx0_10_1 gx0_10_2 gx0_10_3 gx0_10_4 gx0_10_5 gx0_10_6 gx0_10_7 gx0_10_8 gx0_10_9 gx0_10_10 gx0_10_11 gx0_10_12 zzx0_10 gg_10_0 gg_10_1 gg_10_2 gg_10_3 gg_10_4 gg_10_5 gg_10_6 gg_10_7 gg_10_8 gg_10_9 gg_10_10 gg_10_11 gg_10_12 zzg_10
  have ga0_11_0 : w11.cell? ⟨w.heap.size, 0, none⟩ = some (.int .i64 x0.1.1) := ka0_11.cell 0
  have ga0_11_1 : w11.cell? ⟨w.heap.size, 1, none⟩ = some (.slice A0_1 x0.1.2.1.length c0_1) := ka0_11.cell 1
  have ga0_11_2 : w11.cell? ⟨w.heap.size, 2, none⟩ = some (.slice A0_2 x0.1.2.2.length c0_2) := ka0_11.cell 2
  have ga0_11_3 : w11.cell? ⟨w.heap.size, 3, none⟩ = some (.int .i64 x0.2.1.1) := ka0_11.cell 3
  have ga0_11_4 : w11.cell? ⟨w.heap.size, 4, none⟩ = some (.int .i64 x0.2.1.2.1) := ka0_11.cell 4
  have ga0_11_5 : w11.cell? ⟨w.heap.size, 5, none⟩ = some (.int .i64 x0.2.1.2.2.1) := ka0_11.cell 5
  have ga0_11_6 : w11.cell? ⟨w.heap.size, 6, none⟩ = some (.slice A0_6 x0.2.1.2.2.2.length c0_6) := ka0_11.cell 6
  have ga0_11_7 : w11.cell? ⟨w.heap.size, 7, none⟩ = some (.int .i64 x0.2.2.1.1) := ka0_11.cell 7
  have ga0_11_8 : w11.cell? ⟨w.heap.size, 8, none⟩ = some (.int .i64 x0.2.2.1.2.1) := ka0_11.cell 8
  have ga0_11_9 : w11.cell? ⟨w.heap.size, 9, none⟩ = some (.int .i64 x0.2.2.1.2.2.1) := ka0_11.cell 9
  have ga0_11_10 : w11.cell? ⟨w.heap.size, 10, none⟩ = some (.slice A0_10 x0.2.2.1.2.2.2.length c0_10) := ka0_11.cell 10
  have ga0_11_11 : w11.cell? ⟨w.heap.size, 11, none⟩ = some (.slice A0_11 x0.2.2.2.1.length c0_11) := ka0_11.cell 11
  have ga0_11_12 : w11.cell? ⟨w.heap.size, 12, none⟩ = some (.slice A0_12 x0.2.2.2.2.length c0_12) := ka0_11.cell 12
  have zza0_11 := ka0_11.lt
  have gr_11_0 : w11.cell? ⟨w3.heap.size, 0, none⟩ = some (.int .i64 (endTop x0).1.1) := kr_11.cell 0
  have gr_11_1 : w11.cell? ⟨w3.heap.size, 1, none⟩ = some (.slice Ds_1 (endTop x0).1.2.1.length ds_1) := kr_11.cell 1
  have gr_11_2 : w11.cell? ⟨w3.heap.size, 2, none⟩ = some (.slice Ds_2 (endTop x0).1.2.2.length ds_2) := kr_11.cell 2
  have gr_11_3 : w11.cell? ⟨w3.heap.size, 3, none⟩ = some (.int .i64 (endTop x0).2.1.1) := kr_11.cell 3
  have gr_11_4 : w11.cell? ⟨w3.heap.size, 4, none⟩ = some (.int .i64 (endTop x0).2.1.2.1) := kr_11.cell 4
  have gr_11_5 : w11.cell? ⟨w3.heap.size, 5, none⟩ = some (.int .i64 (endTop x0).2.1.2.2.1) := kr_11.cell 5
  have gr_11_6 : w11.cell? ⟨w3.heap.size, 6, none⟩ = some (.slice Ds_6 (endTop x0).2.1.2.2.2.length ds_6) := kr_11.cell 6
  have gr_11_7 : w11.cell? ⟨w3.heap.size, 7, none⟩ = some (.int .i64 (endTop x0).2.2.1.1) := kr_11.cell 7
  have gr_11_8 : w11.cell? ⟨w3.heap.size, 8, none⟩ = some (.int .i64 (endTop x0).2.2.1.2.1) := kr_11.cell 8
  have gr_11_9 : w11.cell? ⟨w3.heap.size, 9, none⟩ = some (.int .i64 (endTop x0).2.2.1.2.2.1) := kr_11.cell 9
  have gr_11_10 : w11.cell? ⟨w3.heap.size, 10, none⟩ = some (.slice Ds_10 (endTop x0).2.2.1.2.2.2.length ds_10) := kr_11.cell 10
  have gr_11_11 : w11.cell? ⟨w3.heap.size, 11, none⟩ = some (.slice Ds_11 (endTop x0).2.2.2.1.length ds_11) := kr_11.cell 11
  have gr_11_12 : w11.cell? ⟨w3.heap.size, 12, none⟩ = some (.slice Ds_12 (endTop x0).2.2.2.2.length ds_12) := kr_11.cell 12
  have zzr_11 := kr_11.lt
  have gx0_11_0 : w11.cell? ⟨w4.heap.size, 0, none⟩ = some (.int .i64 x0.1.1) := kx0_11.cell 0
  have gx0_11_1 : w11.cell? ⟨w4.heap.size, 1, none⟩ = some (.slice Dx0_1 x0.1.2.1.length dx0_1) := kx0_11.cell 1
  have gx0_11_2 : w11.cell? ⟨w4.heap.size, 2, none⟩ = some (.slice Dx0_2 x0.1.2.2.length dx0_2) := kx0_11.cell 2
  have gx0_11_3 : w11.cell? ⟨w4.heap.size, 3, none⟩ = some (.int .i64 x0.2.1.1) := kx0_11.cell 3
  have gx0_11_4 : w11.cell? ⟨w4.heap.size, 4, none⟩ = some (.int .i64 x0.2.1.2.1) := kx0_11.cell 4
  have gx0_11_5 : w11.cell? ⟨w4.heap.size, 5, none⟩ = some (.int .i64 x0.2.1.2.2.1) := kx0_11.cell 5
  have gx0_11_6 : w11.cell? ⟨w4.heap.size, 6, none⟩ = some (.slice Dx0_6 x0.2.1.2.2.2.length dx0_6) := kx0_11.cell 6
  have gx0_11_7 : w11.cell? ⟨w4.heap.size, 7, none⟩ = some (.int .i64 x0.2.2.1.1) := kx0_11.cell 7
  have gx0_11_8 : w11.cell? ⟨w4.heap.size, 8, none⟩ = some (.int .i64 x0.2.2.1.2.1) := kx0_11.cell 8
  have gx0_11_9 : w11.cell? ⟨w4.heap.size, 9, none⟩ = some (.int .i64 x0.2.2.1.2.2.1) := kx0_11.cell 9
  have gx0_11_10 : w11.cell? ⟨w4.heap.size, 10, none⟩ = some (.slice Dx0_10 x0.2.2.1.2.2.2.length dx0_10) := kx0_11.cell 10
  have gx0_11_11 : w11.cell? ⟨w4.heap.size, 11, none⟩ = some (.slice Dx0_11 x0.2.2.2.1.length dx0_11) := kx0_11.cell 11
  have gx0_11_12 : w11.cell? ⟨w4.heap.size, 12, none⟩ = some (.slice Dx0_12 x0.2.2.2.2.length dx0_12) := kx0_11.cell 12
  have zzx0_11 := kx0_11.lt
  have gg_11_0 : w11.cell? ⟨w5.heap.size, 0, none⟩ = some (.int .i64 (endTop x0).1.1) := kg_11.cell 0
  have gg_11_1 : w11.cell? ⟨w5.heap.size, 1, none⟩ = some (.slice Dg_1 (endTop x0).1.2.1.length dg_1) := kg_11.cell 1
  have gg_11_2 : w11.cell? ⟨w5.heap.size, 2, none⟩ = some (.slice Dg_2 (endTop x0).1.2.2.length dg_2) := kg_11.cell 2
  have gg_11_3 : w11.cell? ⟨w5.heap.size, 3, none⟩ = some (.int .i64 (endTop x0).2.1.1) := kg_11.cell 3
  have gg_11_4 : w11.cell? ⟨w5.heap.size, 4, none⟩ = some (.int .i64 (endTop x0).2.1.2.1) := kg_11.cell 4
  have gg_11_5 : w11.cell? ⟨w5.heap.size, 5, none⟩ = some (.int .i64 (endTop x0).2.1.2.2.1) := kg_11.cell 5
  have gg_11_6 : w11.cell? ⟨w5.heap.size, 6, none⟩ = some (.slice Dg_6 (endTop x0).2.1.2.2.2.length dg_6) := kg_11.cell 6
  have gg_11_7 : w11.cell? ⟨w5.heap.size, 7, none⟩ = some (.int .i64 (endTop x0).2.2.1.1) := kg_11.cell 7
  have gg_11_8 : w11.cell? ⟨w5.heap.size, 8, none⟩ = some (.int .i64 (endTop x0).2.2.1.2.1) := kg_11.cell 8
  have gg_11_9 : w11.cell? ⟨w5.heap.size, 9, none⟩ = some (.int .i64 (endTop x0).2.2.1.2.2.1) := kg_11.cell 9
  have gg_11_10 : w11.cell? ⟨w5.heap.size, 10, none⟩ = some (.slice Dg_10 (endTop x0).2.2.1.2.2.2.length dg_10) := kg_11.cell 10
  have gg_11_11 : w11.cell? ⟨w5.heap.size, 11, none⟩ = some (.slice Dg_11 (endTop x0).2.2.2.1.length dg_11) := kg_11.cell 11
  have gg_11_12 : w11.cell? ⟨w5.heap.size, 12, none⟩ = some (.slice Dg_12 (endTop x0).2.2.2.2.length dg_12) := kg_11.cell 12
  have zzg_11 := kg_11.lt
  go_wp2_with fail
  have hia := gmT_Cache.idem (endTop x0) 1
  have hsa := gmT_Cache.same (endTop x0) 1
  have hcba : (1 : Int) + (mmTCache.cnt (mmTCache.mark (endTop x0) 1) : Nat) ≤ 1000000000 := by rw [hsa]; exact cbg
  refine (c_heldCache _ (mmTCache.mark (endTop x0) 1) _ _ ⟨_, rfl, good_Cache.wide (good_Cache.own_rep mkg) (Nat.zero_le _) (by omega)⟩ hia (by omega) hcba).mono ?_
  rintro e w12 ⟨rfl, u12⟩
  have uu12 := uu11.trans u12
  have zs12 := u12.size
  have ka0_12 := ka0_11.up u12
  have kr_12 := kr_11.up u12
  have kx0_12 := kx0_11.up u12
  have kg_12 := kg_11.up u12
  have os_12 := good_Cache.keep os_11 (u12.keeps (by omega))
  clear os_11
  have mkx0_12 := good_Cache.own_keep mkx0_11 (fun y hy => u12.block y (Nat.lt_of_lt_of_le (good_Cache.own_in mkx0_11 y hy).2 (by omega)))
  clear mkx0_11
  have mkg_12 := good_Cache.own_keep mkg (fun y hy => u12.block y (Nat.lt_of_lt_of_le (good_Cache.own_in mkg y hy).2 (by omega)))
  rw [hsa]
  clear hia hsa hcba u12
  clear ga0_11_0 ga0_11_1 ga0_11_2 ga0_11_3 ga0_11_4 ga0_11_5 ga0_11_6 ga0_11_7 ga0_11_8 ga0_11_9 ga0_11_10 ga0_11_11 ga0_11_12 zza0_11 gr_11_0 gr_11_1 gr_11_2 gr_11_3 gr_11_4 gr_11_5 gr_11_6 gr_11_7 gr_11_8 gr_11_9 gr_11_10 gr_11_11 gr_11_12 zzr_11 gx0_11_0 gx0_11_1 gx0_11_2 gx0_11_3 gx0_11_4 gx0_11_5 gx0_11_6 gx0_11_7 gx0_11_8 gx0_11_9 gx0_11_10 gx0_11_11 gx0_11_12 zzx0_11 gg_11_0 gg_11_1 gg_11_2 gg_11_3 gg_11_4 gg_11_5 gg_11_6 gg_11_7 gg_11_8 gg_11_9 gg_11_10 gg_11_11 gg_11_12 zzg_11
  have ga0_12_0 : w12.cell? ⟨w.heap.size, 0, none⟩ = some (.int .i64 x0.1.1) := ka0_12.cell 0
  have ga0_12_1 : w12.cell? ⟨w.heap.size, 1, none⟩ = some (.slice A0_1 x0.1.2.1.length c0_1) := ka0_12.cell 1
  have ga0_12_2 : w12.cell? ⟨w.heap.size, 2, none⟩ = some (.slice A0_2 x0.1.2.2.length c0_2) := ka0_12.cell 2
  have ga0_12_3 : w12.cell? ⟨w.heap.size, 3, none⟩ = some (.int .i64 x0.2.1.1) := ka0_12.cell 3
  have ga0_12_4 : w12.cell? ⟨w.heap.size, 4, none⟩ = some (.int .i64 x0.2.1.2.1) := ka0_12.cell 4
  have ga0_12_5 : w12.cell? ⟨w.heap.size, 5, none⟩ = some (.int .i64 x0.2.1.2.2.1) := ka0_12.cell 5
  have ga0_12_6 : w12.cell? ⟨w.heap.size, 6, none⟩ = some (.slice A0_6 x0.2.1.2.2.2.length c0_6) := ka0_12.cell 6
  have ga0_12_7 : w12.cell? ⟨w.heap.size, 7, none⟩ = some (.int .i64 x0.2.2.1.1) := ka0_12.cell 7
  have ga0_12_8 : w12.cell? ⟨w.heap.size, 8, none⟩ = some (.int .i64 x0.2.2.1.2.1) := ka0_12.cell 8
  have ga0_12_9 : w12.cell? ⟨w.heap.size, 9, none⟩ = some (.int .i64 x0.2.2.1.2.2.1) := ka0_12.cell 9
  have ga0_12_10 : w12.cell? ⟨w.heap.size, 10, none⟩ = some (.slice A0_10 x0.2.2.1.2.2.2.length c0_10) := ka0_12.cell 10
  have ga0_12_11 : w12.cell? ⟨w.heap.size, 11, none⟩ = some (.slice A0_11 x0.2.2.2.1.length c0_11) := ka0_12.cell 11
  have ga0_12_12 : w12.cell? ⟨w.heap.size, 12, none⟩ = some (.slice A0_12 x0.2.2.2.2.length c0_12) := ka0_12.cell 12
  have zza0_12 := ka0_12.lt
  have gr_12_0 : w12.cell? ⟨w3.heap.size, 0, none⟩ = some (.int .i64 (endTop x0).1.1) := kr_12.cell 0
  have gr_12_1 : w12.cell? ⟨w3.heap.size, 1, none⟩ = some (.slice Ds_1 (endTop x0).1.2.1.length ds_1) := kr_12.cell 1
  have gr_12_2 : w12.cell? ⟨w3.heap.size, 2, none⟩ = some (.slice Ds_2 (endTop x0).1.2.2.length ds_2) := kr_12.cell 2
  have gr_12_3 : w12.cell? ⟨w3.heap.size, 3, none⟩ = some (.int .i64 (endTop x0).2.1.1) := kr_12.cell 3
  have gr_12_4 : w12.cell? ⟨w3.heap.size, 4, none⟩ = some (.int .i64 (endTop x0).2.1.2.1) := kr_12.cell 4
  have gr_12_5 : w12.cell? ⟨w3.heap.size, 5, none⟩ = some (.int .i64 (endTop x0).2.1.2.2.1) := kr_12.cell 5
  have gr_12_6 : w12.cell? ⟨w3.heap.size, 6, none⟩ = some (.slice Ds_6 (endTop x0).2.1.2.2.2.length ds_6) := kr_12.cell 6
  have gr_12_7 : w12.cell? ⟨w3.heap.size, 7, none⟩ = some (.int .i64 (endTop x0).2.2.1.1) := kr_12.cell 7
  have gr_12_8 : w12.cell? ⟨w3.heap.size, 8, none⟩ = some (.int .i64 (endTop x0).2.2.1.2.1) := kr_12.cell 8
  have gr_12_9 : w12.cell? ⟨w3.heap.size, 9, none⟩ = some (.int .i64 (endTop x0).2.2.1.2.2.1) := kr_12.cell 9
  have gr_12_10 : w12.cell? ⟨w3.heap.size, 10, none⟩ = some (.slice Ds_10 (endTop x0).2.2.1.2.2.2.length ds_10) := kr_12.cell 10
  have gr_12_11 : w12.cell? ⟨w3.heap.size, 11, none⟩ = some (.slice Ds_11 (endTop x0).2.2.2.1.length ds_11) := kr_12.cell 11
  have gr_12_12 : w12.cell? ⟨w3.heap.size, 12, none⟩ = some (.slice Ds_12 (endTop x0).2.2.2.2.length ds_12) := kr_12.cell 12
  have zzr_12 := kr_12.lt
  have gx0_12_0 : w12.cell? ⟨w4.heap.size, 0, none⟩ = some (.int .i64 x0.1.1) := kx0_12.cell 0
  have gx0_12_1 : w12.cell? ⟨w4.heap.size, 1, none⟩ = some (.slice Dx0_1 x0.1.2.1.length dx0_1) := kx0_12.cell 1
  have gx0_12_2 : w12.cell? ⟨w4.heap.size, 2, none⟩ = some (.slice Dx0_2 x0.1.2.2.length dx0_2) := kx0_12.cell 2
  have gx0_12_3 : w12.cell? ⟨w4.heap.size, 3, none⟩ = some (.int .i64 x0.2.1.1) := kx0_12.cell 3
  have gx0_12_4 : w12.cell? ⟨w4.heap.size, 4, none⟩ = some (.int .i64 x0.2.1.2.1) := kx0_12.cell 4
  have gx0_12_5 : w12.cell? ⟨w4.heap.size, 5, none⟩ = some (.int .i64 x0.2.1.2.2.1) := kx0_12.cell 5
  have gx0_12_6 : w12.cell? ⟨w4.heap.size, 6, none⟩ = some (.slice Dx0_6 x0.2.1.2.2.2.length dx0_6) := kx0_12.cell 6
  have gx0_12_7 : w12.cell? ⟨w4.heap.size, 7, none⟩ = some (.int .i64 x0.2.2.1.1) := kx0_12.cell 7
  have gx0_12_8 : w12.cell? ⟨w4.heap.size, 8, none⟩ = some (.int .i64 x0.2.2.1.2.1) := kx0_12.cell 8
  have gx0_12_9 : w12.cell? ⟨w4.heap.size, 9, none⟩ = some (.int .i64 x0.2.2.1.2.2.1) := kx0_12.cell 9
  have gx0_12_10 : w12.cell? ⟨w4.heap.size, 10, none⟩ = some (.slice Dx0_10 x0.2.2.1.2.2.2.length dx0_10) := kx0_12.cell 10
  have gx0_12_11 : w12.cell? ⟨w4.heap.size, 11, none⟩ = some (.slice Dx0_11 x0.2.2.2.1.length dx0_11) := kx0_12.cell 11
  have gx0_12_12 : w12.cell? ⟨w4.heap.size, 12, none⟩ = some (.slice Dx0_12 x0.2.2.2.2.length dx0_12) := kx0_12.cell 12
  have zzx0_12 := kx0_12.lt
  have gg_12_0 : w12.cell? ⟨w5.heap.size, 0, none⟩ = some (.int .i64 (endTop x0).1.1) := kg_12.cell 0
  have gg_12_1 : w12.cell? ⟨w5.heap.size, 1, none⟩ = some (.slice Dg_1 (endTop x0).1.2.1.length dg_1) := kg_12.cell 1
  have gg_12_2 : w12.cell? ⟨w5.heap.size, 2, none⟩ = some (.slice Dg_2 (endTop x0).1.2.2.length dg_2) := kg_12.cell 2
  have gg_12_3 : w12.cell? ⟨w5.heap.size, 3, none⟩ = some (.int .i64 (endTop x0).2.1.1) := kg_12.cell 3
  have gg_12_4 : w12.cell? ⟨w5.heap.size, 4, none⟩ = some (.int .i64 (endTop x0).2.1.2.1) := kg_12.cell 4
  have gg_12_5 : w12.cell? ⟨w5.heap.size, 5, none⟩ = some (.int .i64 (endTop x0).2.1.2.2.1) := kg_12.cell 5
  have gg_12_6 : w12.cell? ⟨w5.heap.size, 6, none⟩ = some (.slice Dg_6 (endTop x0).2.1.2.2.2.length dg_6) := kg_12.cell 6
  have gg_12_7 : w12.cell? ⟨w5.heap.size, 7, none⟩ = some (.int .i64 (endTop x0).2.2.1.1) := kg_12.cell 7
  have gg_12_8 : w12.cell? ⟨w5.heap.size, 8, none⟩ = some (.int .i64 (endTop x0).2.2.1.2.1) := kg_12.cell 8
  have gg_12_9 : w12.cell? ⟨w5.heap.size, 9, none⟩ = some (.int .i64 (endTop x0).2.2.1.2.2.1) := kg_12.cell 9
  have gg_12_10 : w12.cell? ⟨w5.heap.size, 10, none⟩ = some (.slice Dg_10 (endTop x0).2.2.1.2.2.2.length dg_10) := kg_12.cell 10
  have gg_12_11 : w12.cell? ⟨w5.heap.size, 11, none⟩ = some (.slice Dg_11 (endTop x0).2.2.2.1.length dg_11) := kg_12.cell 11
  have gg_12_12 : w12.cell? ⟨w5.heap.size, 12, none⟩ = some (.slice Dg_12 (endTop x0).2.2.2.2.length dg_12) := kg_12.cell 12
  have zzg_12 := kg_12.lt
  go_wp2_with fail
  refine (c_toCache _ x0 _ (hv0.up good_Cache uu12) hn0).mono ?_
  rintro e w13 ⟨csz0, blz0, rfl, oz0, ndz0, u13⟩
  obtain ⟨Dz0_1, dz0_1, _, Dz0_2, dz0_2, _, Dz0_6, dz0_6, _, Dz0_10, dz0_10, _, Dz0_11, dz0_11, _, Dz0_12, dz0_12, _, rfl, _, _⟩ := openOCache oz0
  have uu13 := uu12.trans u13
  have zs13 := u13.size
  have ka0_13 := ka0_12.up u13
  have kr_13 := kr_12.up u13
  have kx0_13 := kx0_12.up u13
  have kg_13 := kg_12.up u13
  have os_13 := good_Cache.keep os_12 (u13.keeps (by omega))
  clear os_12
  have mkg_13 := good_Cache.own_keep mkg_12 (fun y hy => u13.block y (Nat.lt_of_lt_of_le (good_Cache.own_in mkg_12 y hy).2 (by omega)))
  clear mkg_12
  clear ga0_12_0 ga0_12_1 ga0_12_2 ga0_12_3 ga0_12_4 ga0_12_5 ga0_12_6 ga0_12_7 ga0_12_8 ga0_12_9 ga0_12_10 ga0_12_11 ga0_12_12 zza0_12 gr_12_0 gr_12_1 gr_12_2 gr_12_3 gr_12_4 gr_12_5 gr_12_6 gr_12_7 gr_12_8 gr_12_9 gr_12_10 gr_12_11 gr_12_12 zzr_12 gx0_12_0 gx0_12_1 gx0_12_2 gx0_12_3 gx0_12_4 gx0_12_5 gx0_12_6 gx0_12_7 gx0_12_8 gx0_12_9 gx0_12_10 gx0_12_11 gx0_12_12 zzx0_12 gg_12_0 gg_12_1 gg_12_2 gg_12_3 gg_12_4 gg_12_5 gg_12_6 gg_12_7 gg_12_8 gg_12_9 gg_12_10 gg_12_11 gg_12_12 zzg_12
  have ga0_13_0 : w13.cell? ⟨w.heap.size, 0, none⟩ = some (.int .i64 x0.1.1) := ka0_13.cell 0
  have ga0_13_1 : w13.cell? ⟨w.heap.size, 1, none⟩ = some (.slice A0_1 x0.1.2.1.length c0_1) := ka0_13.cell 1
  have ga0_13_2 : w13.cell? ⟨w.heap.size, 2, none⟩ = some (.slice A0_2 x0.1.2.2.length c0_2) := ka0_13.cell 2
  have ga0_13_3 : w13.cell? ⟨w.heap.size, 3, none⟩ = some (.int .i64 x0.2.1.1) := ka0_13.cell 3
  have ga0_13_4 : w13.cell? ⟨w.heap.size, 4, none⟩ = some (.int .i64 x0.2.1.2.1) := ka0_13.cell 4
  have ga0_13_5 : w13.cell? ⟨w.heap.size, 5, none⟩ = some (.int .i64 x0.2.1.2.2.1) := ka0_13.cell 5
  have ga0_13_6 : w13.cell? ⟨w.heap.size, 6, none⟩ = some (.slice A0_6 x0.2.1.2.2.2.length c0_6) := ka0_13.cell 6
  have ga0_13_7 : w13.cell? ⟨w.heap.size, 7, none⟩ = some (.int .i64 x0.2.2.1.1) := ka0_13.cell 7
  have ga0_13_8 : w13.cell? ⟨w.heap.size, 8, none⟩ = some (.int .i64 x0.2.2.1.2.1) := ka0_13.cell 8
  have ga0_13_9 : w13.cell? ⟨w.heap.size, 9, none⟩ = some (.int .i64 x0.2.2.1.2.2.1) := ka0_13.cell 9
  have ga0_13_10 : w13.cell? ⟨w.heap.size, 10, none⟩ = some (.slice A0_10 x0.2.2.1.2.2.2.length c0_10) := ka0_13.cell 10
  have ga0_13_11 : w13.cell? ⟨w.heap.size, 11, none⟩ = some (.slice A0_11 x0.2.2.2.1.length c0_11) := ka0_13.cell 11
  have ga0_13_12 : w13.cell? ⟨w.heap.size, 12, none⟩ = some (.slice A0_12 x0.2.2.2.2.length c0_12) := ka0_13.cell 12
  have zza0_13 := ka0_13.lt
  have gr_13_0 : w13.cell? ⟨w3.heap.size, 0, none⟩ = some (.int .i64 (endTop x0).1.1) := kr_13.cell 0
  have gr_13_1 : w13.cell? ⟨w3.heap.size, 1, none⟩ = some (.slice Ds_1 (endTop x0).1.2.1.length ds_1) := kr_13.cell 1
  have gr_13_2 : w13.cell? ⟨w3.heap.size, 2, none⟩ = some (.slice Ds_2 (endTop x0).1.2.2.length ds_2) := kr_13.cell 2
  have gr_13_3 : w13.cell? ⟨w3.heap.size, 3, none⟩ = some (.int .i64 (endTop x0).2.1.1) := kr_13.cell 3
  have gr_13_4 : w13.cell? ⟨w3.heap.size, 4, none⟩ = some (.int .i64 (endTop x0).2.1.2.1) := kr_13.cell 4
  have gr_13_5 : w13.cell? ⟨w3.heap.size, 5, none⟩ = some (.int .i64 (endTop x0).2.1.2.2.1) := kr_13.cell 5
  have gr_13_6 : w13.cell? ⟨w3.heap.size, 6, none⟩ = some (.slice Ds_6 (endTop x0).2.1.2.2.2.length ds_6) := kr_13.cell 6
  have gr_13_7 : w13.cell? ⟨w3.heap.size, 7, none⟩ = some (.int .i64 (endTop x0).2.2.1.1) := kr_13.cell 7
  have gr_13_8 : w13.cell? ⟨w3.heap.size, 8, none⟩ = some (.int .i64 (endTop x0).2.2.1.2.1) := kr_13.cell 8
  have gr_13_9 : w13.cell? ⟨w3.heap.size, 9, none⟩ = some (.int .i64 (endTop x0).2.2.1.2.2.1) := kr_13.cell 9
  have gr_13_10 : w13.cell? ⟨w3.heap.size, 10, none⟩ = some (.slice Ds_10 (endTop x0).2.2.1.2.2.2.length ds_10) := kr_13.cell 10
  have gr_13_11 : w13.cell? ⟨w3.heap.size, 11, none⟩ = some (.slice Ds_11 (endTop x0).2.2.2.1.length ds_11) := kr_13.cell 11
  have gr_13_12 : w13.cell? ⟨w3.heap.size, 12, none⟩ = some (.slice Ds_12 (endTop x0).2.2.2.2.length ds_12) := kr_13.cell 12
  have zzr_13 := kr_13.lt
  have gx0_13_0 : w13.cell? ⟨w4.heap.size, 0, none⟩ = some (.int .i64 x0.1.1) := kx0_13.cell 0
  have gx0_13_1 : w13.cell? ⟨w4.heap.size, 1, none⟩ = some (.slice Dx0_1 x0.1.2.1.length dx0_1) := kx0_13.cell 1
  have gx0_13_2 : w13.cell? ⟨w4.heap.size, 2, none⟩ = some (.slice Dx0_2 x0.1.2.2.length dx0_2) := kx0_13.cell 2
  have gx0_13_3 : w13.cell? ⟨w4.heap.size, 3, none⟩ = some (.int .i64 x0.2.1.1) := kx0_13.cell 3
  have gx0_13_4 : w13.cell? ⟨w4.heap.size, 4, none⟩ = some (.int .i64 x0.2.1.2.1) := kx0_13.cell 4
  have gx0_13_5 : w13.cell? ⟨w4.heap.size, 5, none⟩ = some (.int .i64 x0.2.1.2.2.1) := kx0_13.cell 5
  have gx0_13_6 : w13.cell? ⟨w4.heap.size, 6, none⟩ = some (.slice Dx0_6 x0.2.1.2.2.2.length dx0_6) := kx0_13.cell 6
  have gx0_13_7 : w13.cell? ⟨w4.heap.size, 7, none⟩ = some (.int .i64 x0.2.2.1.1) := kx0_13.cell 7
  have gx0_13_8 : w13.cell? ⟨w4.heap.size, 8, none⟩ = some (.int .i64 x0.2.2.1.2.1) := kx0_13.cell 8
  have gx0_13_9 : w13.cell? ⟨w4.heap.size, 9, none⟩ = some (.int .i64 x0.2.2.1.2.2.1) := kx0_13.cell 9
  have gx0_13_10 : w13.cell? ⟨w4.heap.size, 10, none⟩ = some (.slice Dx0_10 x0.2.2.1.2.2.2.length dx0_10) := kx0_13.cell 10
  have gx0_13_11 : w13.cell? ⟨w4.heap.size, 11, none⟩ = some (.slice Dx0_11 x0.2.2.2.1.length dx0_11) := kx0_13.cell 11
  have gx0_13_12 : w13.cell? ⟨w4.heap.size, 12, none⟩ = some (.slice Dx0_12 x0.2.2.2.2.length dx0_12) := kx0_13.cell 12
  have zzx0_13 := kx0_13.lt
  have gg_13_0 : w13.cell? ⟨w5.heap.size, 0, none⟩ = some (.int .i64 (endTop x0).1.1) := kg_13.cell 0
  have gg_13_1 : w13.cell? ⟨w5.heap.size, 1, none⟩ = some (.slice Dg_1 (endTop x0).1.2.1.length dg_1) := kg_13.cell 1
  have gg_13_2 : w13.cell? ⟨w5.heap.size, 2, none⟩ = some (.slice Dg_2 (endTop x0).1.2.2.length dg_2) := kg_13.cell 2
  have gg_13_3 : w13.cell? ⟨w5.heap.size, 3, none⟩ = some (.int .i64 (endTop x0).2.1.1) := kg_13.cell 3
  have gg_13_4 : w13.cell? ⟨w5.heap.size, 4, none⟩ = some (.int .i64 (endTop x0).2.1.2.1) := kg_13.cell 4
  have gg_13_5 : w13.cell? ⟨w5.heap.size, 5, none⟩ = some (.int .i64 (endTop x0).2.1.2.2.1) := kg_13.cell 5
  have gg_13_6 : w13.cell? ⟨w5.heap.size, 6, none⟩ = some (.slice Dg_6 (endTop x0).2.1.2.2.2.length dg_6) := kg_13.cell 6
  have gg_13_7 : w13.cell? ⟨w5.heap.size, 7, none⟩ = some (.int .i64 (endTop x0).2.2.1.1) := kg_13.cell 7
  have gg_13_8 : w13.cell? ⟨w5.heap.size, 8, none⟩ = some (.int .i64 (endTop x0).2.2.1.2.1) := kg_13.cell 8
  have gg_13_9 : w13.cell? ⟨w5.heap.size, 9, none⟩ = some (.int .i64 (endTop x0).2.2.1.2.2.1) := kg_13.cell 9
  have gg_13_10 : w13.cell? ⟨w5.heap.size, 10, none⟩ = some (.slice Dg_10 (endTop x0).2.2.1.2.2.2.length dg_10) := kg_13.cell 10
  have gg_13_11 : w13.cell? ⟨w5.heap.size, 11, none⟩ = some (.slice Dg_11 (endTop x0).2.2.2.1.length dg_11) := kg_13.cell 11
  have gg_13_12 : w13.cell? ⟨w5.heap.size, 12, none⟩ = some (.slice Dg_12 (endTop x0).2.2.2.2.length dg_12) := kg_13.cell 12
  have zzg_13 := kg_13.lt
  go_wp2_with fail
  refine (ci_EndTop _ x0 _ ⟨_, rfl, good_Cache.wide (good_Cache.own_rep oz0) (Nat.zero_le _) (by omega)⟩ hn0).mono ?_
  rintro e w14 ⟨csh, blh, rfl, oh, ndh, u14⟩
  obtain ⟨Dh_1, dh_1, _, Dh_2, dh_2, _, Dh_6, dh_6, _, Dh_10, dh_10, _, Dh_11, dh_11, _, Dh_12, dh_12, _, rfl, _, _⟩ := openOCache oh
  have uu14 := uu13.trans u14
  have zs14 := u14.size
  have ka0_14 := ka0_13.up u14
  have kr_14 := kr_13.up u14
  have kx0_14 := kx0_13.up u14
  have kg_14 := kg_13.up u14
  have os_14 := good_Cache.keep os_13 (u14.keeps (by omega))
  clear os_13
  have mkg_14 := good_Cache.own_keep mkg_13 (fun y hy => u14.block y (Nat.lt_of_lt_of_le (good_Cache.own_in mkg_13 y hy).2 (by omega)))
  clear mkg_13
  have oz0_14 := good_Cache.own_keep oz0 (fun y hy => u14.block y (Nat.lt_of_lt_of_le (good_Cache.own_in oz0 y hy).2 (by omega)))
  have ua14 : Up w14 (w14.alloc (.cells #[.int .i64 (endTop x0).1.1, .slice Dh_1 (endTop x0).1.2.1.length dh_1, .slice Dh_2 (endTop x0).1.2.2.length dh_2, .int .i64 (endTop x0).2.1.1, .int .i64 (endTop x0).2.1.2.1, .int .i64 (endTop x0).2.1.2.2.1, .slice Dh_6 (endTop x0).2.1.2.2.2.length dh_6, .int .i64 (endTop x0).2.2.1.1, .int .i64 (endTop x0).2.2.1.2.1, .int .i64 (endTop x0).2.2.1.2.2.1, .slice Dh_10 (endTop x0).2.2.1.2.2.2.length dh_10, .slice Dh_11 (endTop x0).2.2.2.1.length dh_11, .slice Dh_12 (endTop x0).2.2.2.2.length dh_12] 51)) := (Up.alloc (Up.refl w14) (.cells #[.int .i64 (endTop x0).1.1, .slice Dh_1 (endTop x0).1.2.1.length dh_1, .slice Dh_2 (endTop x0).1.2.2.length dh_2, .int .i64 (endTop x0).2.1.1, .int .i64 (endTop x0).2.1.2.1, .int .i64 (endTop x0).2.1.2.2.1, .slice Dh_6 (endTop x0).2.1.2.2.2.length dh_6, .int .i64 (endTop x0).2.2.1.1, .int .i64 (endTop x0).2.2.1.2.1, .int .i64 (endTop x0).2.2.1.2.2.1, .slice Dh_10 (endTop x0).2.2.1.2.2.2.length dh_10, .slice Dh_11 (endTop x0).2.2.2.1.length dh_11, .slice Dh_12 (endTop x0).2.2.2.2.length dh_12] 51))
  have za14 : (w14.alloc (.cells #[.int .i64 (endTop x0).1.1, .slice Dh_1 (endTop x0).1.2.1.length dh_1, .slice Dh_2 (endTop x0).1.2.2.length dh_2, .int .i64 (endTop x0).2.1.1, .int .i64 (endTop x0).2.1.2.1, .int .i64 (endTop x0).2.1.2.2.1, .slice Dh_6 (endTop x0).2.1.2.2.2.length dh_6, .int .i64 (endTop x0).2.2.1.1, .int .i64 (endTop x0).2.2.1.2.1, .int .i64 (endTop x0).2.2.1.2.2.1, .slice Dh_10 (endTop x0).2.2.1.2.2.2.length dh_10, .slice Dh_11 (endTop x0).2.2.2.1.length dh_11, .slice Dh_12 (endTop x0).2.2.2.2.length dh_12] 51)).heap.size = w14.heap.size + 1 := by simp
  have ub14 := uu14.trans ua14
  have ka0_14b := ka0_14.up ua14
  have kr_14b := kr_14.up ua14
  have kx0_14b := kx0_14.up ua14
  have kg_14b := kg_14.up ua14
  have os_14b := good_Cache.keep os_14 (ua14.keeps (by omega))
  clear os_14
  have mkg_14b := good_Cache.own_keep mkg_14 (fun y hy => ua14.block y (Nat.lt_of_lt_of_le (good_Cache.own_in mkg_14 y hy).2 (by omega)))
  clear mkg_14
  have oz0_14b := good_Cache.own_keep oz0_14 (fun y hy => ua14.block y (Nat.lt_of_lt_of_le (good_Cache.own_in oz0_14 y hy).2 (by omega)))
  clear oz0_14
  have oh_14b := good_Cache.own_keep oh (fun y hy => ua14.block y (Nat.lt_of_lt_of_le (good_Cache.own_in oh y hy).2 (by omega)))
  have kh_14b : Bk (w14.alloc (.cells #[.int .i64 (endTop x0).1.1, .slice Dh_1 (endTop x0).1.2.1.length dh_1, .slice Dh_2 (endTop x0).1.2.2.length dh_2, .int .i64 (endTop x0).2.1.1, .int .i64 (endTop x0).2.1.2.1, .int .i64 (endTop x0).2.1.2.2.1, .slice Dh_6 (endTop x0).2.1.2.2.2.length dh_6, .int .i64 (endTop x0).2.2.1.1, .int .i64 (endTop x0).2.2.1.2.1, .int .i64 (endTop x0).2.2.1.2.2.1, .slice Dh_10 (endTop x0).2.2.1.2.2.2.length dh_10, .slice Dh_11 (endTop x0).2.2.2.1.length dh_11, .slice Dh_12 (endTop x0).2.2.2.2.length dh_12] 51)) (w14.heap.size) 51 #[.int .i64 (endTop x0).1.1, .slice Dh_1 (endTop x0).1.2.1.length dh_1, .slice Dh_2 (endTop x0).1.2.2.length dh_2, .int .i64 (endTop x0).2.1.1, .int .i64 (endTop x0).2.1.2.1, .int .i64 (endTop x0).2.1.2.2.1, .slice Dh_6 (endTop x0).2.1.2.2.2.length dh_6, .int .i64 (endTop x0).2.2.1.1, .int .i64 (endTop x0).2.2.1.2.1, .int .i64 (endTop x0).2.2.1.2.2.1, .slice Dh_10 (endTop x0).2.2.1.2.2.2.length dh_10, .slice Dh_11 (endTop x0).2.2.2.1.length dh_11, .slice Dh_12 (endTop x0).2.2.2.2.length dh_12] := Bk.new _ _ _
  clear ga0_13_0 ga0_13_1 ga0_13_2 ga0_13_3 ga0_13_4 ga0_13_5 ga0_13_6 ga0_13_7 ga0_13_8 ga0_13_9 ga0_13_10 ga0_13_11 ga0_13_12 zza0_13 gr_13_0 gr_13_1 gr_13_2 gr_13_3 gr_13_4 gr_13_5 gr_13_6 gr_13_7 gr_13_8 gr_13_9 gr_13_10 gr_13_11 gr_13_12 zzr_13 gx0_13_0 gx0_13_1 gx0_13_2 gx0_13_3 gx0_13_4 gx0_13_5 gx0_13_6 gx0_13_7 gx0_13_8 gx0_13_9 gx0_13_10 gx0_13_11 gx0_13_12 zzx0_13 gg_13_0 gg_13_1 gg_13_2 gg_13_3 gg_13_4 gg_13_5 gg_13_6 gg_13_7 gg_13_8 gg_13_9 gg_13_10 gg_13_11 gg_13_12 zzg_13
  have ga0_14_0 : (w14.alloc (.cells #[.int .i64 (endTop x0).1.1, .slice Dh_1 (endTop x0).1.2.1.length dh_1, .slice Dh_2 (endTop x0).1.2.2.length dh_2, .int .i64 (endTop x0).2.1.1, .int .i64 (endTop x0).2.1.2.1, .int .i64 (endTop x0).2.1.2.2.1, .slice Dh_6 (endTop x0).2.1.2.2.2.length dh_6, .int .i64 (endTop x0).2.2.1.1, .int .i64 (endTop x0).2.2.1.2.1, .int .i64 (endTop x0).2.2.1.2.2.1, .slice Dh_10 (endTop x0).2.2.1.2.2.2.length dh_10, .slice Dh_11 (endTop x0).2.2.2.1.length dh_11, .slice Dh_12 (endTop x0).2.2.2.2.length dh_12] 51)).cell? ⟨w.heap.size, 0, none⟩ = some (.int .i64 x0.1.1) := ka0_14b.cell 0
  have ga0_14_1 : (w14.alloc (.cells #[.int .i64 (endTop x0).1.1, .slice Dh_1 (endTop x0).1.2.1.length dh_1, .slice Dh_2 (endTop x0).1.2.2.length dh_2, .int .i64 (endTop x0).2.1.1, .int .i64 (endTop x0).2.1.2.1, .int .i64 (endTop x0).2.1.2.2.1, .slice Dh_6 (endTop x0).2.1.2.2.2.length dh_6, .int .i64 (endTop x0).2.2.1.1, .int .i64 (endTop x0).2.2.1.2.1, .int .i64 (endTop x0).2.2.1.2.2.1, .slice Dh_10 (endTop x0).2.2.1.2.2.2.length dh_10, .slice Dh_11 (endTop x0).2.2.2.1.length dh_11, .slice Dh_12 (endTop x0).2.2.2.2.length dh_12] 51)).cell? ⟨w.heap.size, 1, none⟩ = some (.slice A0_1 x0.1.2.1.length c0_1) := ka0_14b.cell 1
  have ga0_14_2 : (w14.alloc (.cells #[.int .i64 (endTop x0).1.1, .slice Dh_1 (endTop x0).1.2.1.length dh_1, .slice Dh_2 (endTop x0).1.2.2.length dh_2, .int .i64 (endTop x0).2.1.1, .int .i64 (endTop x0).2.1.2.1, .int .i64 (endTop x0).2.1.2.2.1, .slice Dh_6 (endTop x0).2.1.2.2.2.length dh_6, .int .i64 (endTop x0).2.2.1.1, .int .i64 (endTop x0).2.2.1.2.1, .int .i64 (endTop x0).2.2.1.2.2.1, .slice Dh_10 (endTop x0).2.2.1.2.2.2.length dh_10, .slice Dh_11 (endTop x0).2.2.2.1.length dh_11, .slice Dh_12 (endTop x0).2.2.2.2.length dh_12] 51)).cell? ⟨w.heap.size, 2, none⟩ = some (.slice A0_2 x0.1.2.2.length c0_2) := ka0_14b.cell 2
  have ga0_14_3 : (w14.alloc (.cells #[.int .i64 (endTop x0).1.1, .slice Dh_1 (endTop x0).1.2.1.length dh_1, .slice Dh_2 (endTop x0).1.2.2.length dh_2, .int .i64 (endTop x0).2.1.1, .int .i64 (endTop x0).2.1.2.1, .int .i64 (endTop x0).2.1.2.2.1, .slice Dh_6 (endTop x0).2.1.2.2.2.length dh_6, .int .i64 (endTop x0).2.2.1.1, .int .i64 (endTop x0).2.2.1.2.1, .int .i64 (endTop x0).2.2.1.2.2.1, .slice Dh_10 (endTop x0).2.2.1.2.2.2.length dh_10, .slice Dh_11 (endTop x0).2.2.2.1.length dh_11, .slice Dh_12 (endTop x0).2.2.2.2.length dh_12] 51)).cell? ⟨w.heap.size, 3, none⟩ = some (.int .i64 x0.2.1.1) := ka0_14b.cell 3
  have ga0_14_4 : (w14.alloc (.cells #[.int .i64 (endTop x0).1.1, .slice Dh_1 (endTop x0).1.2.1.length dh_1, .slice Dh_2 (endTop x0).1.2.2.length dh_2, .int .i64 (endTop x0).2.1.1, .int .i64 (endTop x0).2.1.2.1, .int .i64 (endTop x0).2.1.2.2.1, .slice Dh_6 (endTop x0).2.1.2.2.2.length dh_6, .int .i64 (endTop x0).2.2.1.1, .int .i64 (endTop x0).2.2.1.2.1, .int .i64 (endTop x0).2.2.1.2.2.1, .slice Dh_10 (endTop x0).2.2.1.2.2.2.length dh_10, .slice Dh_11 (endTop x0).2.2.2.1.length dh_11, .slice Dh_12 (endTop x0).2.2.2.2.length dh_12] 51)).cell? ⟨w.heap.size, 4, none⟩ = some (.int .i64 x0.2.1.2.1) := ka0_14b.cell 4
  have ga0_14_5 : (w14.alloc (.cells #[.int .i64 (endTop x0).1.1, .slice Dh_1 (endTop x0).1.2.1.length dh_1, .slice Dh_2 (endTop x0).1.2.2.length dh_2, .int .i64 (endTop x0).2.1.1, .int .i64 (endTop x0).2.1.2.1, .int .i64 (endTop x0).2.1.2.2.1, .slice Dh_6 (endTop x0).2.1.2.2.2.length dh_6, .int .i64 (endTop x0).2.2.1.1, .int .i64 (endTop x0).2.2.1.2.1, .int .i64 (endTop x0).2.2.1.2.2.1, .slice Dh_10 (endTop x0).2.2.1.2.2.2.length dh_10, .slice Dh_11 (endTop x0).2.2.2.1.length dh_11, .slice Dh_12 (endTop x0).2.2.2.2.length dh_12] 51)).cell? ⟨w.heap.size, 5, none⟩ = some (.int .i64 x0.2.1.2.2.1) := ka0_14b.cell 5
  have ga0_14_6 : (w14.alloc (.cells #[.int .i64 (endTop x0).1.1, .slice Dh_1 (endTop x0).1.2.1.length dh_1, .slice Dh_2 (endTop x0).1.2.2.length dh_2, .int .i64 (endTop x0).2.1.1, .int .i64 (endTop x0).2.1.2.1, .int .i64 (endTop x0).2.1.2.2.1, .slice Dh_6 (endTop x0).2.1.2.2.2.length dh_6, .int .i64 (endTop x0).2.2.1.1, .int .i64 (endTop x0).2.2.1.2.1, .int .i64 (endTop x0).2.2.1.2.2.1, .slice Dh_10 (endTop x0).2.2.1.2.2.2.length dh_10, .slice Dh_11 (endTop x0).2.2.2.1.length dh_11, .slice Dh_12 (endTop x0).2.2.2.2.length dh_12] 51)).cell? ⟨w.heap.size, 6, none⟩ = some (.slice A0_6 x0.2.1.2.2.2.length c0_6) := ka0_14b.cell 6
  have ga0_14_7 : (w14.alloc (.cells #[.int .i64 (endTop x0).1.1, .slice Dh_1 (endTop x0).1.2.1.length dh_1, .slice Dh_2 (endTop x0).1.2.2.length dh_2, .int .i64 (endTop x0).2.1.1, .int .i64 (endTop x0).2.1.2.1, .int .i64 (endTop x0).2.1.2.2.1, .slice Dh_6 (endTop x0).2.1.2.2.2.length dh_6, .int .i64 (endTop x0).2.2.1.1, .int .i64 (endTop x0).2.2.1.2.1, .int .i64 (endTop x0).2.2.1.2.2.1, .slice Dh_10 (endTop x0).2.2.1.2.2.2.length dh_10, .slice Dh_11 (endTop x0).2.2.2.1.length dh_11, .slice Dh_12 (endTop x0).2.2.2.2.length dh_12] 51)).cell? ⟨w.heap.size, 7, none⟩ = some (.int .i64 x0.2.2.1.1) := ka0_14b.cell 7
  have ga0_14_8 : (w14.alloc (.cells #[.int .i64 (endTop x0).1.1, .slice Dh_1 (endTop x0).1.2.1.length dh_1, .slice Dh_2 (endTop x0).1.2.2.length dh_2, .int .i64 (endTop x0).2.1.1, .int .i64 (endTop x0).2.1.2.1, .int .i64 (endTop x0).2.1.2.2.1, .slice Dh_6 (endTop x0).2.1.2.2.2.length dh_6, .int .i64 (endTop x0).2.2.1.1, .int .i64 (endTop x0).2.2.1.2.1, .int .i64 (endTop x0).2.2.1.2.2.1, .slice Dh_10 (endTop x0).2.2.1.2.2.2.length dh_10, .slice Dh_11 (endTop x0).2.2.2.1.length dh_11, .slice Dh_12 (endTop x0).2.2.2.2.length dh_12] 51)).cell? ⟨w.heap.size, 8, none⟩ = some (.int .i64 x0.2.2.1.2.1) := ka0_14b.cell 8
  have ga0_14_9 : (w14.alloc (.cells #[.int .i64 (endTop x0).1.1, .slice Dh_1 (endTop x0).1.2.1.length dh_1, .slice Dh_2 (endTop x0).1.2.2.length dh_2, .int .i64 (endTop x0).2.1.1, .int .i64 (endTop x0).2.1.2.1, .int .i64 (endTop x0).2.1.2.2.1, .slice Dh_6 (endTop x0).2.1.2.2.2.length dh_6, .int .i64 (endTop x0).2.2.1.1, .int .i64 (endTop x0).2.2.1.2.1, .int .i64 (endTop x0).2.2.1.2.2.1, .slice Dh_10 (endTop x0).2.2.1.2.2.2.length dh_10, .slice Dh_11 (endTop x0).2.2.2.1.length dh_11, .slice Dh_12 (endTop x0).2.2.2.2.length dh_12] 51)).cell? ⟨w.heap.size, 9, none⟩ = some (.int .i64 x0.2.2.1.2.2.1) := ka0_14b.cell 9
  have ga0_14_10 : (w14.alloc (.cells #[.int .i64 (endTop x0).1.1, .slice Dh_1 (endTop x0).1.2.1.length dh_1, .slice Dh_2 (endTop x0).1.2.2.length dh_2, .int .i64 (endTop x0).2.1.1, .int .i64 (endTop x0).2.1.2.1, .int .i64 (endTop x0).2.1.2.2.1, .slice Dh_6 (endTop x0).2.1.2.2.2.length dh_6, .int .i64 (endTop x0).2.2.1.1, .int .i64 (endTop x0).2.2.1.2.1, .int .i64 (endTop x0).2.2.1.2.2.1, .slice Dh_10 (endTop x0).2.2.1.2.2.2.length dh_10, .slice Dh_11 (endTop x0).2.2.2.1.length dh_11, .slice Dh_12 (endTop x0).2.2.2.2.length dh_12] 51)).cell? ⟨w.heap.size, 10, none⟩ = some (.slice A0_10 x0.2.2.1.2.2.2.length c0_10) := ka0_14b.cell 10
  have ga0_14_11 : (w14.alloc (.cells #[.int .i64 (endTop x0).1.1, .slice Dh_1 (endTop x0).1.2.1.length dh_1, .slice Dh_2 (endTop x0).1.2.2.length dh_2, .int .i64 (endTop x0).2.1.1, .int .i64 (endTop x0).2.1.2.1, .int .i64 (endTop x0).2.1.2.2.1, .slice Dh_6 (endTop x0).2.1.2.2.2.length dh_6, .int .i64 (endTop x0).2.2.1.1, .int .i64 (endTop x0).2.2.1.2.1, .int .i64 (endTop x0).2.2.1.2.2.1, .slice Dh_10 (endTop x0).2.2.1.2.2.2.length dh_10, .slice Dh_11 (endTop x0).2.2.2.1.length dh_11, .slice Dh_12 (endTop x0).2.2.2.2.length dh_12] 51)).cell? ⟨w.heap.size, 11, none⟩ = some (.slice A0_11 x0.2.2.2.1.length c0_11) := ka0_14b.cell 11
  have ga0_14_12 : (w14.alloc (.cells #[.int .i64 (endTop x0).1.1, .slice Dh_1 (endTop x0).1.2.1.length dh_1, .slice Dh_2 (endTop x0).1.2.2.length dh_2, .int .i64 (endTop x0).2.1.1, .int .i64 (endTop x0).2.1.2.1, .int .i64 (endTop x0).2.1.2.2.1, .slice Dh_6 (endTop x0).2.1.2.2.2.length dh_6, .int .i64 (endTop x0).2.2.1.1, .int .i64 (endTop x0).2.2.1.2.1, .int .i64 (endTop x0).2.2.1.2.2.1, .slice Dh_10 (endTop x0).2.2.1.2.2.2.length dh_10, .slice Dh_11 (endTop x0).2.2.2.1.length dh_11, .slice Dh_12 (endTop x0).2.2.2.2.length dh_12] 51)).cell? ⟨w.heap.size, 12, none⟩ = some (.slice A0_12 x0.2.2.2.2.length c0_12) := ka0_14b.cell 12
  have zza0_14 := ka0_14b.lt
  have gr_14_0 : (w14.alloc (.cells #[.int .i64 (endTop x0).1.1, .slice Dh_1 (endTop x0).1.2.1.length dh_1, .slice Dh_2 (endTop x0).1.2.2.length dh_2, .int .i64 (endTop x0).2.1.1, .int .i64 (endTop x0).2.1.2.1, .int .i64 (endTop x0).2.1.2.2.1, .slice Dh_6 (endTop x0).2.1.2.2.2.length dh_6, .int .i64 (endTop x0).2.2.1.1, .int .i64 (endTop x0).2.2.1.2.1, .int .i64 (endTop x0).2.2.1.2.2.1, .slice Dh_10 (endTop x0).2.2.1.2.2.2.length dh_10, .slice Dh_11 (endTop x0).2.2.2.1.length dh_11, .slice Dh_12 (endTop x0).2.2.2.2.length dh_12] 51)).cell? ⟨w3.heap.size, 0, none⟩ = some (.int .i64 (endTop x0).1.1) := kr_14b.cell 0
  have gr_14_1 : (w14.alloc (.cells #[.int .i64 (endTop x0).1.1, .slice Dh_1 (endTop x0).1.2.1.length dh_1, .slice Dh_2 (endTop x0).1.2.2.length dh_2, .int .i64 (endTop x0).2.1.1, .int .i64 (endTop x0).2.1.2.1, .int .i64 (endTop x0).2.1.2.2.1, .slice Dh_6 (endTop x0).2.1.2.2.2.length dh_6, .int .i64 (endTop x0).2.2.1.1, .int .i64 (endTop x0).2.2.1.2.1, .int .i64 (endTop x0).2.2.1.2.2.1, .slice Dh_10 (endTop x0).2.2.1.2.2.2.length dh_10, .slice Dh_11 (endTop x0).2.2.2.1.length dh_11, .slice Dh_12 (endTop x0).2.2.2.2.length dh_12] 51)).cell? ⟨w3.heap.size, 1, none⟩ = some (.slice Ds_1 (endTop x0).1.2.1.length ds_1) := kr_14b.cell 1
  have gr_14_2 : (w14.alloc (.cells #[.int .i64 (endTop x0).1.1, .slice Dh_1 (endTop x0).1.2.1.length dh_1, .slice Dh_2 (endTop x0).1.2.2.length dh_2, .int .i64 (endTop x0).2.1.1, .int .i64 (endTop x0).2.1.2.1, .int .i64 (endTop x0).2.1.2.2.1, .slice Dh_6 (endTop x0).2.1.2.2.2.length dh_6, .int .i64 (endTop x0).2.2.1.1, .int .i64 (endTop x0).2.2.1.2.1, .int .i64 (endTop x0).2.2.1.2.2.1, .slice Dh_10 (endTop x0).2.2.1.2.2.2.length dh_10, .slice Dh_11 (endTop x0).2.2.2.1.length dh_11, .slice Dh_12 (endTop x0).2.2.2.2.length dh_12] 51)).cell? ⟨w3.heap.size, 2, none⟩ = some (.slice Ds_2 (endTop x0).1.2.2.length ds_2) := kr_14b.cell 2
  have gr_14_3 : (w14.alloc (.cells #[.int .i64 (endTop x0).1.1, .slice Dh_1 (endTop x0).1.2.1.length dh_1, .slice Dh_2 (endTop x0).1.2.2.length dh_2, .int .i64 (endTop x0).2.1.1, .int .i64 (endTop x0).2.1.2.1, .int .i64 (endTop x0).2.1.2.2.1, .slice Dh_6 (endTop x0).2.1.2.2.2.length dh_6, .int .i64 (endTop x0).2.2.1.1, .int .i64 (endTop x0).2.2.1.2.1, .int .i64 (endTop x0).2.2.1.2.2.1, .slice Dh_10 (endTop x0).2.2.1.2.2.2.length dh_10, .slice Dh_11 (endTop x0).2.2.2.1.length dh_11, .slice Dh_12 (endTop x0).2.2.2.2.length dh_12] 51)).cell? ⟨w3.heap.size, 3, none⟩ = some (.int .i64 (endTop x0).2.1.1) := kr_14b.cell 3
  have gr_14_4 : (w14.alloc (.cells #[.int .i64 (endTop x0).1.1, .slice Dh_1 (endTop x0).1.2.1.length dh_1, .slice Dh_2 (endTop x0).1.2.2.length dh_2, .int .i64 (endTop x0).2.1.1, .int .i64 (endTop x0).2.1.2.1, .int .i64 (endTop x0).2.1.2.2.1, .slice Dh_6 (endTop x0).2.1.2.2.2.length dh_6, .int .i64 (endTop x0).2.2.1.1, .int .i64 (endTop x0).2.2.1.2.1, .int .i64 (endTop x0).2.2.1.2.2.1, .slice Dh_10 (endTop x0).2.2.1.2.2.2.length dh_10, .slice Dh_11 (endTop x0).2.2.2.1.length dh_11, .slice Dh_12 (endTop x0).2.2.2.2.length dh_12] 51)).cell? ⟨w3.heap.size, 4, none⟩ = some (.int .i64 (endTop x0).2.1.2.1) := kr_14b.cell 4
  have gr_14_5 : (w14.alloc (.cells #[.int .i64 (endTop x0).1.1, .slice Dh_1 (endTop x0).1.2.1.length dh_1, .slice Dh_2 (endTop x0).1.2.2.length dh_2, .int .i64 (endTop x0).2.1.1, .int .i64 (endTop x0).2.1.2.1, .int .i64 (endTop x0).2.1.2.2.1, .slice Dh_6 (endTop x0).2.1.2.2.2.length dh_6, .int .i64 (endTop x0).2.2.1.1, .int .i64 (endTop x0).2.2.1.2.1, .int .i64 (endTop x0).2.2.1.2.2.1, .slice Dh_10 (endTop x0).2.2.1.2.2.2.length dh_10, .slice Dh_11 (endTop x0).2.2.2.1.length dh_11, .slice Dh_12 (endTop x0).2.2.2.2.length dh_12] 51)).cell? ⟨w3.heap.size, 5, none⟩ = some (.int .i64 (endTop x0).2.1.2.2.1) := kr_14b.cell 5
  have gr_14_6 : (w14.alloc (.cells #[.int .i64 (endTop x0).1.1, .slice Dh_1 (endTop x0).1.2.1.length dh_1, .slice Dh_2 (endTop x0).1.2.2.length dh_2, .int .i64 (endTop x0).2.1.1, .int .i64 (endTop x0).2.1.2.1, .int .i64 (endTop x0).2.1.2.2.1, .slice Dh_6 (endTop x0).2.1.2.2.2.length dh_6, .int .i64 (endTop x0).2.2.1.1, .int .i64 (endTop x0).2.2.1.2.1, .int .i64 (endTop x0).2.2.1.2.2.1, .slice Dh_10 (endTop x0).2.2.1.2.2.2.length dh_10, .slice Dh_11 (endTop x0).2.2.2.1.length dh_11, .slice Dh_12 (endTop x0).2.2.2.2.length dh_12] 51)).cell? ⟨w3.heap.size, 6, none⟩ = some (.slice Ds_6 (endTop x0).2.1.2.2.2.length ds_6) := kr_14b.cell 6
  have gr_14_7 : (w14.alloc (.cells #[.int .i64 (endTop x0).1.1, .slice Dh_1 (endTop x0).1.2.1.length dh_1, .slice Dh_2 (endTop x0).1.2.2.length dh_2, .int .i64 (endTop x0).2.1.1, .int .i64 (endTop x0).2.1.2.1, .int .i64 (endTop x0).2.1.2.2.1, .slice Dh_6 (endTop x0).2.1.2.2.2.length dh_6, .int .i64 (endTop x0).2.2.1.1, .int .i64 (endTop x0).2.2.1.2.1, .int .i64 (endTop x0).2.2.1.2.2.1, .slice Dh_10 (endTop x0).2.2.1.2.2.2.length dh_10, .slice Dh_11 (endTop x0).2.2.2.1.length dh_11, .slice Dh_12 (endTop x0).2.2.2.2.length dh_12] 51)).cell? ⟨w3.heap.size, 7, none⟩ = some (.int .i64 (endTop x0).2.2.1.1) := kr_14b.cell 7
  have gr_14_8 : (w14.alloc (.cells #[.int .i64 (endTop x0).1.1, .slice Dh_1 (endTop x0).1.2.1.length dh_1, .slice Dh_2 (endTop x0).1.2.2.length dh_2, .int .i64 (endTop x0).2.1.1, .int .i64 (endTop x0).2.1.2.1, .int .i64 (endTop x0).2.1.2.2.1, .slice Dh_6 (endTop x0).2.1.2.2.2.length dh_6, .int .i64 (endTop x0).2.2.1.1, .int .i64 (endTop x0).2.2.1.2.1, .int .i64 (endTop x0).2.2.1.2.2.1, .slice Dh_10 (endTop x0).2.2.1.2.2.2.length dh_10, .slice Dh_11 (endTop x0).2.2.2.1.length dh_11, .slice Dh_12 (endTop x0).2.2.2.2.length dh_12] 51)).cell? ⟨w3.heap.size, 8, none⟩ = some (.int .i64 (endTop x0).2.2.1.2.1) := kr_14b.cell 8
  have gr_14_9 : (w14.alloc (.cells #[.int .i64 (endTop x0).1.1, .slice Dh_1 (endTop x0).1.2.1.length dh_1, .slice Dh_2 (endTop x0).1.2.2.length dh_2, .int .i64 (endTop x0).2.1.1, .int .i64 (endTop x0).2.1.2.1, .int .i64 (endTop x0).2.1.2.2.1, .slice Dh_6 (endTop x0).2.1.2.2.2.length dh_6, .int .i64 (endTop x0).2.2.1.1, .int .i64 (endTop x0).2.2.1.2.1, .int .i64 (endTop x0).2.2.1.2.2.1, .slice Dh_10 (endTop x0).2.2.1.2.2.2.length dh_10, .slice Dh_11 (endTop x0).2.2.2.1.length dh_11, .slice Dh_12 (endTop x0).2.2.2.2.length dh_12] 51)).cell? ⟨w3.heap.size, 9, none⟩ = some (.int .i64 (endTop x0).2.2.1.2.2.1) := kr_14b.cell 9
  have gr_14_10 : (w14.alloc (.cells #[.int .i64 (endTop x0).1.1, .slice Dh_1 (endTop x0).1.2.1.length dh_1, .slice Dh_2 (endTop x0).1.2.2.length dh_2, .int .i64 (endTop x0).2.1.1, .int .i64 (endTop x0).2.1.2.1, .int .i64 (endTop x0).2.1.2.2.1, .slice Dh_6 (endTop x0).2.1.2.2.2.length dh_6, .int .i64 (endTop x0).2.2.1.1, .int .i64 (endTop x0).2.2.1.2.1, .int .i64 (endTop x0).2.2.1.2.2.1, .slice Dh_10 (endTop x0).2.2.1.2.2.2.length dh_10, .slice Dh_11 (endTop x0).2.2.2.1.length dh_11, .slice Dh_12 (endTop x0).2.2.2.2.length dh_12] 51)).cell? ⟨w3.heap.size, 10, none⟩ = some (.slice Ds_10 (endTop x0).2.2.1.2.2.2.length ds_10) := kr_14b.cell 10
  have gr_14_11 : (w14.alloc (.cells #[.int .i64 (endTop x0).1.1, .slice Dh_1 (endTop x0).1.2.1.length dh_1, .slice Dh_2 (endTop x0).1.2.2.length dh_2, .int .i64 (endTop x0).2.1.1, .int .i64 (endTop x0).2.1.2.1, .int .i64 (endTop x0).2.1.2.2.1, .slice Dh_6 (endTop x0).2.1.2.2.2.length dh_6, .int .i64 (endTop x0).2.2.1.1, .int .i64 (endTop x0).2.2.1.2.1, .int .i64 (endTop x0).2.2.1.2.2.1, .slice Dh_10 (endTop x0).2.2.1.2.2.2.length dh_10, .slice Dh_11 (endTop x0).2.2.2.1.length dh_11, .slice Dh_12 (endTop x0).2.2.2.2.length dh_12] 51)).cell? ⟨w3.heap.size, 11, none⟩ = some (.slice Ds_11 (endTop x0).2.2.2.1.length ds_11) := kr_14b.cell 11
  have gr_14_12 : (w14.alloc (.cells #[.int .i64 (endTop x0).1.1, .slice Dh_1 (endTop x0).1.2.1.length dh_1, .slice Dh_2 (endTop x0).1.2.2.length dh_2, .int .i64 (endTop x0).2.1.1, .int .i64 (endTop x0).2.1.2.1, .int .i64 (endTop x0).2.1.2.2.1, .slice Dh_6 (endTop x0).2.1.2.2.2.length dh_6, .int .i64 (endTop x0).2.2.1.1, .int .i64 (endTop x0).2.2.1.2.1, .int .i64 (endTop x0).2.2.1.2.2.1, .slice Dh_10 (endTop x0).2.2.1.2.2.2.length dh_10, .slice Dh_11 (endTop x0).2.2.2.1.length dh_11, .slice Dh_12 (endTop x0).2.2.2.2.length dh_12] 51)).cell? ⟨w3.heap.size, 12, none⟩ = some (.slice Ds_12 (endTop x0).2.2.2.2.length ds_12) := kr_14b.cell 12
  have zzr_14 := kr_14b.lt
  have gx0_14_0 : (w14.alloc (.cells #[.int .i64 (endTop x0).1.1, .slice Dh_1 (endTop x0).1.2.1.length dh_1, .slice Dh_2 (endTop x0).1.2.2.length dh_2, .int .i64 (endTop x0).2.1.1, .int .i64 (endTop x0).2.1.2.1, .int .i64 (endTop x0).2.1.2.2.1, .slice Dh_6 (endTop x0).2.1.2.2.2.length dh_6, .int .i64 (endTop x0).2.2.1.1, .int .i64 (endTop x0).2.2.1.2.1, .int .i64 (endTop x0).2.2.1.2.2.1, .slice Dh_10 (endTop x0).2.2.1.2.2.2.length dh_10, .slice Dh_11 (endTop x0).2.2.2.1.length dh_11, .slice Dh_12 (endTop x0).2.2.2.2.length dh_12] 51)).cell? ⟨w4.heap.size, 0, none⟩ = some (.int .i64 x0.1.1) := kx0_14b.cell 0
  have gx0_14_1 : (w14.alloc (.cells #[.int .i64 (endTop x0).1.1, .slice Dh_1 (endTop x0).1.2.1.length dh_1, .slice Dh_2 (endTop x0).1.2.2.length dh_2, .int .i64 (endTop x0).2.1.1, .int .i64 (endTop x0).2.1.2.1, .int .i64 (endTop x0).2.1.2.2.1, .slice Dh_6 (endTop x0).2.1.2.2.2.length dh_6, .int .i64 (endTop x0).2.2.1.1, .int .i64 (endTop x0).2.2.1.2.1, .int .i64 (endTop x0).2.2.1.2.2.1, .slice Dh_10 (endTop x0).2.2.1.2.2.2.length dh_10, .slice Dh_11 (endTop x0).2.2.2.1.length dh_11, .slice Dh_12 (endTop x0).2.2.2.2.length dh_12] 51)).cell? ⟨w4.heap.size, 1, none⟩ = some (.slice Dx0_1 x0.1.2.1.length dx0_1) := kx0_14b.cell 1
  have gx0_14_2 : (w14.alloc (.cells #[.int .i64 (endTop x0).1.1, .slice Dh_1 (endTop x0).1.2.1.length dh_1, .slice Dh_2 (endTop x0).1.2.2.length dh_2, .int .i64 (endTop x0).2.1.1, .int .i64 (endTop x0).2.1.2.1, .int .i64 (endTop x0).2.1.2.2.1, .slice Dh_6 (endTop x0).2.1.2.2.2.length dh_6, .int .i64 (endTop x0).2.2.1.1, .int .i64 (endTop x0).2.2.1.2.1, .int .i64 (endTop x0).2.2.1.2.2.1, .slice Dh_10 (endTop x0).2.2.1.2.2.2.length dh_10, .slice Dh_11 (endTop x0).2.2.2.1.length dh_11, .slice Dh_12 (endTop x0).2.2.2.2.length dh_12] 51)).cell? ⟨w4.heap.size, 2, none⟩ = some (.slice Dx0_2 x0.1.2.2.length dx0_2) := kx0_14b.cell 2
  have gx0_14_3 : (w14.alloc (.cells #[.int .i64 (endTop x0).1.1, .slice Dh_1 (endTop x0).1.2.1.length dh_1, .slice Dh_2 (endTop x0).1.2.2.length dh_2, .int .i64 (endTop x0).2.1.1, .int .i64 (endTop x0).2.1.2.1, .int .i64 (endTop x0).2.1.2.2.1, .slice Dh_6 (endTop x0).2.1.2.2.2.length dh_6, .int .i64 (endTop x0).2.2.1.1, .int .i64 (endTop x0).2.2.1.2.1, .int .i64 (endTop x0).2.2.1.2.2.1, .slice Dh_10 (endTop x0).2.2.1.2.2.2.length dh_10, .slice Dh_11 (endTop x0).2.2.2.1.length dh_11, .slice Dh_12 (endTop x0).2.2.2.2.length dh_12] 51)).cell? ⟨w4.heap.size, 3, none⟩ = some (.int .i64 x0.2.1.1) := kx0_14b.cell 3
  have gx0_14_4 : (w14.alloc (.cells #[.int .i64 (endTop x0).1.1, .slice Dh_1 (endTop x0).1.2.1.length dh_1, .slice Dh_2 (endTop x0).1.2.2.length dh_2, .int .i64 (endTop x0).2.1.1, .int .i64 (endTop x0).2.1.2.1, .int .i64 (endTop x0).2.1.2.2.1, .slice Dh_6 (endTop x0).2.1.2.2.2.length dh_6, .int .i64 (endTop x0).2.2.1.1, .int .i64 (endTop x0).2.2.1.2.1, .int .i64 (endTop x0).2.2.1.2.2.1, .slice Dh_10 (endTop x0).2.2.1.2.2.2.length dh_10, .slice Dh_11 (endTop x0).2.2.2.1.length dh_11, .slice Dh_12 (endTop x0).2.2.2.2.length dh_12] 51)).cell? ⟨w4.heap.size, 4, none⟩ = some (.int .i64 x0.2.1.2.1) := kx0_14b.cell 4
  have gx0_14_5 : (w14.alloc (.cells #[.int .i64 (endTop x0).1.1, .slice Dh_1 (endTop x0).1.2.1.length dh_1, .slice Dh_2 (endTop x0).1.2.2.length dh_2, .int .i64 (endTop x0).2.1.1, .int .i64 (endTop x0).2.1.2.1, .int .i64 (endTop x0).2.1.2.2.1, .slice Dh_6 (endTop x0).2.1.2.2.2.length dh_6, .int .i64 (endTop x0).2.2.1.1, .int .i64 (endTop x0).2.2.1.2.1, .int .i64 (endTop x0).2.2.1.2.2.1, .slice Dh_10 (endTop x0).2.2.1.2.2.2.length dh_10, .slice Dh_11 (endTop x0).2.2.2.1.length dh_11, .slice Dh_12 (endTop x0).2.2.2.2.length dh_12] 51)).cell? ⟨w4.heap.size, 5, none⟩ = some (.int .i64 x0.2.1.2.2.1) := kx0_14b.cell 5
  have gx0_14_6 : (w14.alloc (.cells #[.int .i64 (endTop x0).1.1, .slice Dh_1 (endTop x0).1.2.1.length dh_1, .slice Dh_2 (endTop x0).1.2.2.length dh_2, .int .i64 (endTop x0).2.1.1, .int .i64 (endTop x0).2.1.2.1, .int .i64 (endTop x0).2.1.2.2.1, .slice Dh_6 (endTop x0).2.1.2.2.2.length dh_6, .int .i64 (endTop x0).2.2.1.1, .int .i64 (endTop x0).2.2.1.2.1, .int .i64 (endTop x0).2.2.1.2.2.1, .slice Dh_10 (endTop x0).2.2.1.2.2.2.length dh_10, .slice Dh_11 (endTop x0).2.2.2.1.length dh_11, .slice Dh_12 (endTop x0).2.2.2.2.length dh_12] 51)).cell? ⟨w4.heap.size, 6, none⟩ = some (.slice Dx0_6 x0.2.1.2.2.2.length dx0_6) := kx0_14b.cell 6
  have gx0_14_7 : (w14.alloc (.cells #[.int .i64 (endTop x0).1.1, .slice Dh_1 (endTop x0).1.2.1.length dh_1, .slice Dh_2 (endTop x0).1.2.2.length dh_2, .int .i64 (endTop x0).2.1.1, .int .i64 (endTop x0).2.1.2.1, .int .i64 (endTop x0).2.1.2.2.1, .slice Dh_6 (endTop x0).2.1.2.2.2.length dh_6, .int .i64 (endTop x0).2.2.1.1, .int .i64 (endTop x0).2.2.1.2.1, .int .i64 (endTop x0).2.2.1.2.2.1, .slice Dh_10 (endTop x0).2.2.1.2.2.2.length dh_10, .slice Dh_11 (endTop x0).2.2.2.1.length dh_11, .slice Dh_12 (endTop x0).2.2.2.2.length dh_12] 51)).cell? ⟨w4.heap.size, 7, none⟩ = some (.int .i64 x0.2.2.1.1) := kx0_14b.cell 7
  have gx0_14_8 : (w14.alloc (.cells #[.int .i64 (endTop x0).1.1, .slice Dh_1 (endTop x0).1.2.1.length dh_1, .slice Dh_2 (endTop x0).1.2.2.length dh_2, .int .i64 (endTop x0).2.1.1, .int .i64 (endTop x0).2.1.2.1, .int .i64 (endTop x0).2.1.2.2.1, .slice Dh_6 (endTop x0).2.1.2.2.2.length dh_6, .int .i64 (endTop x0).2.2.1.1, .int .i64 (endTop x0).2.2.1.2.1, .int .i64 (endTop x0).2.2.1.2.2.1, .slice Dh_10 (endTop x0).2.2.1.2.2.2.length dh_10, .slice Dh_11 (endTop x0).2.2.2.1.length dh_11, .slice Dh_12 (endTop x0).2.2.2.2.length dh_12] 51)).cell? ⟨w4.heap.size, 8, none⟩ = some (.int .i64 x0.2.2.1.2.1) := kx0_14b.cell 8
  have gx0_14_9 : (w14.alloc (.cells #[.int .i64 (endTop x0).1.1, .slice Dh_1 (endTop x0).1.2.1.length dh_1, .slice Dh_2 (endTop x0).1.2.2.length dh_2, .int .i64 (endTop x0).2.1.1, .int .i64 (endTop x0).2.1.2.1, .int .i64 (endTop x0).2.1.2.2.1, .slice Dh_6 (endTop x0).2.1.2.2.2.length dh_6, .int .i64 (endTop x0).2.2.1.1, .int .i64 (endTop x0).2.2.1.2.1, .int .i64 (endTop x0).2.2.1.2.2.1, .slice Dh_10 (endTop x0).2.2.1.2.2.2.length dh_10, .slice Dh_11 (endTop x0).2.2.2.1.length dh_11, .slice Dh_12 (endTop x0).2.2.2.2.length dh_12] 51)).cell? ⟨w4.heap.size, 9, none⟩ = some (.int .i64 x0.2.2.1.2.2.1) := kx0_14b.cell 9
  have gx0_14_10 : (w14.alloc (.cells #[.int .i64 (endTop x0).1.1, .slice Dh_1 (endTop x0).1.2.1.length dh_1, .slice Dh_2 (endTop x0).1.2.2.length dh_2, .int .i64 (endTop x0).2.1.1, .int .i64 (endTop x0).2.1.2.1, .int .i64 (endTop x0).2.1.2.2.1, .slice Dh_6 (endTop x0).2.1.2.2.2.length dh_6, .int .i64 (endTop x0).2.2.1.1, .int .i64 (endTop x0).2.2.1.2.1, .int .i64 (endTop x0).2.2.1.2.2.1, .slice Dh_10 (endTop x0).2.2.1.2.2.2.length dh_10, .slice Dh_11 (endTop x0).2.2.2.1.length dh_11, .slice Dh_12 (endTop x0).2.2.2.2.length dh_12] 51)).cell? ⟨w4.heap.size, 10, none⟩ = some (.slice Dx0_10 x0.2.2.1.2.2.2.length dx0_10) := kx0_14b.cell 10
  have gx0_14_11 : (w14.alloc (.cells #[.int .i64 (endTop x0).1.1, .slice Dh_1 (endTop x0).1.2.1.length dh_1, .slice Dh_2 (endTop x0).1.2.2.length dh_2, .int .i64 (endTop x0).2.1.1, .int .i64 (endTop x0).2.1.2.1, .int .i64 (endTop x0).2.1.2.2.1, .slice Dh_6 (endTop x0).2.1.2.2.2.length dh_6, .int .i64 (endTop x0).2.2.1.1, .int .i64 (endTop x0).2.2.1.2.1, .int .i64 (endTop x0).2.2.1.2.2.1, .slice Dh_10 (endTop x0).2.2.1.2.2.2.length dh_10, .slice Dh_11 (endTop x0).2.2.2.1.length dh_11, .slice Dh_12 (endTop x0).2.2.2.2.length dh_12] 51)).cell? ⟨w4.heap.size, 11, none⟩ = some (.slice Dx0_11 x0.2.2.2.1.length dx0_11) := kx0_14b.cell 11
  have gx0_14_12 : (w14.alloc (.cells #[.int .i64 (endTop x0).1.1, .slice Dh_1 (endTop x0).1.2.1.length dh_1, .slice Dh_2 (endTop x0).1.2.2.length dh_2, .int .i64 (endTop x0).2.1.1, .int .i64 (endTop x0).2.1.2.1, .int .i64 (endTop x0).2.1.2.2.1, .slice Dh_6 (endTop x0).2.1.2.2.2.length dh_6, .int .i64 (endTop x0).2.2.1.1, .int .i64 (endTop x0).2.2.1.2.1, .int .i64 (endTop x0).2.2.1.2.2.1, .slice Dh_10 (endTop x0).2.2.1.2.2.2.length dh_10, .slice Dh_11 (endTop x0).2.2.2.1.length dh_11, .slice Dh_12 (endTop x0).2.2.2.2.length dh_12] 51)).cell? ⟨w4.heap.size, 12, none⟩ = some (.slice Dx0_12 x0.2.2.2.2.length dx0_12) := kx0_14b.cell 12
  have zzx0_14 := kx0_14b.lt
  have gg_14_0 : (w14.alloc (.cells #[.int .i64 (endTop x0).1.1, .slice Dh_1 (endTop x0).1.2.1.length dh_1, .slice Dh_2 (endTop x0).1.2.2.length dh_2, .int .i64 (endTop x0).2.1.1, .int .i64 (endTop x0).2.1.2.1, .int .i64 (endTop x0).2.1.2.2.1, .slice Dh_6 (endTop x0).2.1.2.2.2.length dh_6, .int .i64 (endTop x0).2.2.1.1, .int .i64 (endTop x0).2.2.1.2.1, .int .i64 (endTop x0).2.2.1.2.2.1, .slice Dh_10 (endTop x0).2.2.1.2.2.2.length dh_10, .slice Dh_11 (endTop x0).2.2.2.1.length dh_11, .slice Dh_12 (endTop x0).2.2.2.2.length dh_12] 51)).cell? ⟨w5.heap.size, 0, none⟩ = some (.int .i64 (endTop x0).1.1) := kg_14b.cell 0
  have gg_14_1 : (w14.alloc (.cells #[.int .i64 (endTop x0).1.1, .slice Dh_1 (endTop x0).1.2.1.length dh_1, .slice Dh_2 (endTop x0).1.2.2.length dh_2, .int .i64 (endTop x0).2.1.1, .int .i64 (endTop x0).2.1.2.1, .int .i64 (endTop x0).2.1.2.2.1, .slice Dh_6 (endTop x0).2.1.2.2.2.length dh_6, .int .i64 (endTop x0).2.2.1.1, .int .i64 (endTop x0).2.2.1.2.1, .int .i64 (endTop x0).2.2.1.2.2.1, .slice Dh_10 (endTop x0).2.2.1.2.2.2.length dh_10, .slice Dh_11 (endTop x0).2.2.2.1.length dh_11, .slice Dh_12 (endTop x0).2.2.2.2.length dh_12] 51)).cell? ⟨w5.heap.size, 1, none⟩ = some (.slice Dg_1 (endTop x0).1.2.1.length dg_1) := kg_14b.cell 1
  have gg_14_2 : (w14.alloc (.cells #[.int .i64 (endTop x0).1.1, .slice Dh_1 (endTop x0).1.2.1.length dh_1, .slice Dh_2 (endTop x0).1.2.2.length dh_2, .int .i64 (endTop x0).2.1.1, .int .i64 (endTop x0).2.1.2.1, .int .i64 (endTop x0).2.1.2.2.1, .slice Dh_6 (endTop x0).2.1.2.2.2.length dh_6, .int .i64 (endTop x0).2.2.1.1, .int .i64 (endTop x0).2.2.1.2.1, .int .i64 (endTop x0).2.2.1.2.2.1, .slice Dh_10 (endTop x0).2.2.1.2.2.2.length dh_10, .slice Dh_11 (endTop x0).2.2.2.1.length dh_11, .slice Dh_12 (endTop x0).2.2.2.2.length dh_12] 51)).cell? ⟨w5.heap.size, 2, none⟩ = some (.slice Dg_2 (endTop x0).1.2.2.length dg_2) := kg_14b.cell 2
  have gg_14_3 : (w14.alloc (.cells #[.int .i64 (endTop x0).1.1, .slice Dh_1 (endTop x0).1.2.1.length dh_1, .slice Dh_2 (endTop x0).1.2.2.length dh_2, .int .i64 (endTop x0).2.1.1, .int .i64 (endTop x0).2.1.2.1, .int .i64 (endTop x0).2.1.2.2.1, .slice Dh_6 (endTop x0).2.1.2.2.2.length dh_6, .int .i64 (endTop x0).2.2.1.1, .int .i64 (endTop x0).2.2.1.2.1, .int .i64 (endTop x0).2.2.1.2.2.1, .slice Dh_10 (endTop x0).2.2.1.2.2.2.length dh_10, .slice Dh_11 (endTop x0).2.2.2.1.length dh_11, .slice Dh_12 (endTop x0).2.2.2.2.length dh_12] 51)).cell? ⟨w5.heap.size, 3, none⟩ = some (.int .i64 (endTop x0).2.1.1) := kg_14b.cell 3
  have gg_14_4 : (w14.alloc (.cells #[.int .i64 (endTop x0).1.1, .slice Dh_1 (endTop x0).1.2.1.length dh_1, .slice Dh_2 (endTop x0).1.2.2.length dh_2, .int .i64 (endTop x0).2.1.1, .int .i64 (endTop x0).2.1.2.1, .int .i64 (endTop x0).2.1.2.2.1, .slice Dh_6 (endTop x0).2.1.2.2.2.length dh_6, .int .i64 (endTop x0).2.2.1.1, .int .i64 (endTop x0).2.2.1.2.1, .int .i64 (endTop x0).2.2.1.2.2.1, .slice Dh_10 (endTop x0).2.2.1.2.2.2.length dh_10, .slice Dh_11 (endTop x0).2.2.2.1.length dh_11, .slice Dh_12 (endTop x0).2.2.2.2.length dh_12] 51)).cell? ⟨w5.heap.size, 4, none⟩ = some (.int .i64 (endTop x0).2.1.2.1) := kg_14b.cell 4
  have gg_14_5 : (w14.alloc (.cells #[.int .i64 (endTop x0).1.1, .slice Dh_1 (endTop x0).1.2.1.length dh_1, .slice Dh_2 (endTop x0).1.2.2.length dh_2, .int .i64 (endTop x0).2.1.1, .int .i64 (endTop x0).2.1.2.1, .int .i64 (endTop x0).2.1.2.2.1, .slice Dh_6 (endTop x0).2.1.2.2.2.length dh_6, .int .i64 (endTop x0).2.2.1.1, .int .i64 (endTop x0).2.2.1.2.1, .int .i64 (endTop x0).2.2.1.2.2.1, .slice Dh_10 (endTop x0).2.2.1.2.2.2.length dh_10, .slice Dh_11 (endTop x0).2.2.2.1.length dh_11, .slice Dh_12 (endTop x0).2.2.2.2.length dh_12] 51)).cell? ⟨w5.heap.size, 5, none⟩ = some (.int .i64 (endTop x0).2.1.2.2.1) := kg_14b.cell 5
  have gg_14_6 : (w14.alloc (.cells #[.int .i64 (endTop x0).1.1, .slice Dh_1 (endTop x0).1.2.1.length dh_1, .slice Dh_2 (endTop x0).1.2.2.length dh_2, .int .i64 (endTop x0).2.1.1, .int .i64 (endTop x0).2.1.2.1, .int .i64 (endTop x0).2.1.2.2.1, .slice Dh_6 (endTop x0).2.1.2.2.2.length dh_6, .int .i64 (endTop x0).2.2.1.1, .int .i64 (endTop x0).2.2.1.2.1, .int .i64 (endTop x0).2.2.1.2.2.1, .slice Dh_10 (endTop x0).2.2.1.2.2.2.length dh_10, .slice Dh_11 (endTop x0).2.2.2.1.length dh_11, .slice Dh_12 (endTop x0).2.2.2.2.length dh_12] 51)).cell? ⟨w5.heap.size, 6, none⟩ = some (.slice Dg_6 (endTop x0).2.1.2.2.2.length dg_6) := kg_14b.cell 6
  have gg_14_7 : (w14.alloc (.cells #[.int .i64 (endTop x0).1.1, .slice Dh_1 (endTop x0).1.2.1.length dh_1, .slice Dh_2 (endTop x0).1.2.2.length dh_2, .int .i64 (endTop x0).2.1.1, .int .i64 (endTop x0).2.1.2.1, .int .i64 (endTop x0).2.1.2.2.1, .slice Dh_6 (endTop x0).2.1.2.2.2.length dh_6, .int .i64 (endTop x0).2.2.1.1, .int .i64 (endTop x0).2.2.1.2.1, .int .i64 (endTop x0).2.2.1.2.2.1, .slice Dh_10 (endTop x0).2.2.1.2.2.2.length dh_10, .slice Dh_11 (endTop x0).2.2.2.1.length dh_11, .slice Dh_12 (endTop x0).2.2.2.2.length dh_12] 51)).cell? ⟨w5.heap.size, 7, none⟩ = some (.int .i64 (endTop x0).2.2.1.1) := kg_14b.cell 7
  have gg_14_8 : (w14.alloc (.cells #[.int .i64 (endTop x0).1.1, .slice Dh_1 (endTop x0).1.2.1.length dh_1, .slice Dh_2 (endTop x0).1.2.2.length dh_2, .int .i64 (endTop x0).2.1.1, .int .i64 (endTop x0).2.1.2.1, .int .i64 (endTop x0).2.1.2.2.1, .slice Dh_6 (endTop x0).2.1.2.2.2.length dh_6, .int .i64 (endTop x0).2.2.1.1, .int .i64 (endTop x0).2.2.1.2.1, .int .i64 (endTop x0).2.2.1.2.2.1, .slice Dh_10 (endTop x0).2.2.1.2.2.2.length dh_10, .slice Dh_11 (endTop x0).2.2.2.1.length dh_11, .slice Dh_12 (endTop x0).2.2.2.2.length dh_12] 51)).cell? ⟨w5.heap.size, 8, none⟩ = some (.int .i64 (endTop x0).2.2.1.2.1) := kg_14b.cell 8
  have gg_14_9 : (w14.alloc (.cells #[.int .i64 (endTop x0).1.1, .slice Dh_1 (endTop x0).1.2.1.length dh_1, .slice Dh_2 (endTop x0).1.2.2.length dh_2, .int .i64 (endTop x0).2.1.1, .int .i64 (endTop x0).2.1.2.1, .int .i64 (endTop x0).2.1.2.2.1, .slice Dh_6 (endTop x0).2.1.2.2.2.length dh_6, .int .i64 (endTop x0).2.2.1.1, .int .i64 (endTop x0).2.2.1.2.1, .int .i64 (endTop x0).2.2.1.2.2.1, .slice Dh_10 (endTop x0).2.2.1.2.2.2.length dh_10, .slice Dh_11 (endTop x0).2.2.2.1.length dh_11, .slice Dh_12 (endTop x0).2.2.2.2.length dh_12] 51)).cell? ⟨w5.heap.size, 9, none⟩ = some (.int .i64 (endTop x0).2.2.1.2.2.1) := kg_14b.cell 9
  have gg_14_10 : (w14.alloc (.cells #[.int .i64 (endTop x0).1.1, .slice Dh_1 (endTop x0).1.2.1.length dh_1, .slice Dh_2 (endTop x0).1.2.2.length dh_2, .int .i64 (endTop x0).2.1.1, .int .i64 (endTop x0).2.1.2.1, .int .i64 (endTop x0).2.1.2.2.1, .slice Dh_6 (endTop x0).2.1.2.2.2.length dh_6, .int .i64 (endTop x0).2.2.1.1, .int .i64 (endTop x0).2.2.1.2.1, .int .i64 (endTop x0).2.2.1.2.2.1, .slice Dh_10 (endTop x0).2.2.1.2.2.2.length dh_10, .slice Dh_11 (endTop x0).2.2.2.1.length dh_11, .slice Dh_12 (endTop x0).2.2.2.2.length dh_12] 51)).cell? ⟨w5.heap.size, 10, none⟩ = some (.slice Dg_10 (endTop x0).2.2.1.2.2.2.length dg_10) := kg_14b.cell 10
  have gg_14_11 : (w14.alloc (.cells #[.int .i64 (endTop x0).1.1, .slice Dh_1 (endTop x0).1.2.1.length dh_1, .slice Dh_2 (endTop x0).1.2.2.length dh_2, .int .i64 (endTop x0).2.1.1, .int .i64 (endTop x0).2.1.2.1, .int .i64 (endTop x0).2.1.2.2.1, .slice Dh_6 (endTop x0).2.1.2.2.2.length dh_6, .int .i64 (endTop x0).2.2.1.1, .int .i64 (endTop x0).2.2.1.2.1, .int .i64 (endTop x0).2.2.1.2.2.1, .slice Dh_10 (endTop x0).2.2.1.2.2.2.length dh_10, .slice Dh_11 (endTop x0).2.2.2.1.length dh_11, .slice Dh_12 (endTop x0).2.2.2.2.length dh_12] 51)).cell? ⟨w5.heap.size, 11, none⟩ = some (.slice Dg_11 (endTop x0).2.2.2.1.length dg_11) := kg_14b.cell 11
  have gg_14_12 : (w14.alloc (.cells #[.int .i64 (endTop x0).1.1, .slice Dh_1 (endTop x0).1.2.1.length dh_1, .slice Dh_2 (endTop x0).1.2.2.length dh_2, .int .i64 (endTop x0).2.1.1, .int .i64 (endTop x0).2.1.2.1, .int .i64 (endTop x0).2.1.2.2.1, .slice Dh_6 (endTop x0).2.1.2.2.2.length dh_6, .int .i64 (endTop x0).2.2.1.1, .int .i64 (endTop x0).2.2.1.2.1, .int .i64 (endTop x0).2.2.1.2.2.1, .slice Dh_10 (endTop x0).2.2.1.2.2.2.length dh_10, .slice Dh_11 (endTop x0).2.2.2.1.length dh_11, .slice Dh_12 (endTop x0).2.2.2.2.length dh_12] 51)).cell? ⟨w5.heap.size, 12, none⟩ = some (.slice Dg_12 (endTop x0).2.2.2.2.length dg_12) := kg_14b.cell 12
  have zzg_14 := kg_14b.lt
  have gh_14_0 : (w14.alloc (.cells #[.int .i64 (endTop x0).1.1, .slice Dh_1 (endTop x0).1.2.1.length dh_1, .slice Dh_2 (endTop x0).1.2.2.length dh_2, .int .i64 (endTop x0).2.1.1, .int .i64 (endTop x0).2.1.2.1, .int .i64 (endTop x0).2.1.2.2.1, .slice Dh_6 (endTop x0).2.1.2.2.2.length dh_6, .int .i64 (endTop x0).2.2.1.1, .int .i64 (endTop x0).2.2.1.2.1, .int .i64 (endTop x0).2.2.1.2.2.1, .slice Dh_10 (endTop x0).2.2.1.2.2.2.length dh_10, .slice Dh_11 (endTop x0).2.2.2.1.length dh_11, .slice Dh_12 (endTop x0).2.2.2.2.length dh_12] 51)).cell? ⟨w14.heap.size, 0, none⟩ = some (.int .i64 (endTop x0).1.1) := kh_14b.cell 0
  have gh_14_1 : (w14.alloc (.cells #[.int .i64 (endTop x0).1.1, .slice Dh_1 (endTop x0).1.2.1.length dh_1, .slice Dh_2 (endTop x0).1.2.2.length dh_2, .int .i64 (endTop x0).2.1.1, .int .i64 (endTop x0).2.1.2.1, .int .i64 (endTop x0).2.1.2.2.1, .slice Dh_6 (endTop x0).2.1.2.2.2.length dh_6, .int .i64 (endTop x0).2.2.1.1, .int .i64 (endTop x0).2.2.1.2.1, .int .i64 (endTop x0).2.2.1.2.2.1, .slice Dh_10 (endTop x0).2.2.1.2.2.2.length dh_10, .slice Dh_11 (endTop x0).2.2.2.1.length dh_11, .slice Dh_12 (endTop x0).2.2.2.2.length dh_12] 51)).cell? ⟨w14.heap.size, 1, none⟩ = some (.slice Dh_1 (endTop x0).1.2.1.length dh_1) := kh_14b.cell 1
  have gh_14_2 : (w14.alloc (.cells #[.int .i64 (endTop x0).1.1, .slice Dh_1 (endTop x0).1.2.1.length dh_1, .slice Dh_2 (endTop x0).1.2.2.length dh_2, .int .i64 (endTop x0).2.1.1, .int .i64 (endTop x0).2.1.2.1, .int .i64 (endTop x0).2.1.2.2.1, .slice Dh_6 (endTop x0).2.1.2.2.2.length dh_6, .int .i64 (endTop x0).2.2.1.1, .int .i64 (endTop x0).2.2.1.2.1, .int .i64 (endTop x0).2.2.1.2.2.1, .slice Dh_10 (endTop x0).2.2.1.2.2.2.length dh_10, .slice Dh_11 (endTop x0).2.2.2.1.length dh_11, .slice Dh_12 (endTop x0).2.2.2.2.length dh_12] 51)).cell? ⟨w14.heap.size, 2, none⟩ = some (.slice Dh_2 (endTop x0).1.2.2.length dh_2) := kh_14b.cell 2
  have gh_14_3 : (w14.alloc (.cells #[.int .i64 (endTop x0).1.1, .slice Dh_1 (endTop x0).1.2.1.length dh_1, .slice Dh_2 (endTop x0).1.2.2.length dh_2, .int .i64 (endTop x0).2.1.1, .int .i64 (endTop x0).2.1.2.1, .int .i64 (endTop x0).2.1.2.2.1, .slice Dh_6 (endTop x0).2.1.2.2.2.length dh_6, .int .i64 (endTop x0).2.2.1.1, .int .i64 (endTop x0).2.2.1.2.1, .int .i64 (endTop x0).2.2.1.2.2.1, .slice Dh_10 (endTop x0).2.2.1.2.2.2.length dh_10, .slice Dh_11 (endTop x0).2.2.2.1.length dh_11, .slice Dh_12 (endTop x0).2.2.2.2.length dh_12] 51)).cell? ⟨w14.heap.size, 3, none⟩ = some (.int .i64 (endTop x0).2.1.1) := kh_14b.cell 3
  have gh_14_4 : (w14.alloc (.cells #[.int .i64 (endTop x0).1.1, .slice Dh_1 (endTop x0).1.2.1.length dh_1, .slice Dh_2 (endTop x0).1.2.2.length dh_2, .int .i64 (endTop x0).2.1.1, .int .i64 (endTop x0).2.1.2.1, .int .i64 (endTop x0).2.1.2.2.1, .slice Dh_6 (endTop x0).2.1.2.2.2.length dh_6, .int .i64 (endTop x0).2.2.1.1, .int .i64 (endTop x0).2.2.1.2.1, .int .i64 (endTop x0).2.2.1.2.2.1, .slice Dh_10 (endTop x0).2.2.1.2.2.2.length dh_10, .slice Dh_11 (endTop x0).2.2.2.1.length dh_11, .slice Dh_12 (endTop x0).2.2.2.2.length dh_12] 51)).cell? ⟨w14.heap.size, 4, none⟩ = some (.int .i64 (endTop x0).2.1.2.1) := kh_14b.cell 4
  have gh_14_5 : (w14.alloc (.cells #[.int .i64 (endTop x0).1.1, .slice Dh_1 (endTop x0).1.2.1.length dh_1, .slice Dh_2 (endTop x0).1.2.2.length dh_2, .int .i64 (endTop x0).2.1.1, .int .i64 (endTop x0).2.1.2.1, .int .i64 (endTop x0).2.1.2.2.1, .slice Dh_6 (endTop x0).2.1.2.2.2.length dh_6, .int .i64 (endTop x0).2.2.1.1, .int .i64 (endTop x0).2.2.1.2.1, .int .i64 (endTop x0).2.2.1.2.2.1, .slice Dh_10 (endTop x0).2.2.1.2.2.2.length dh_10, .slice Dh_11 (endTop x0).2.2.2.1.length dh_11, .slice Dh_12 (endTop x0).2.2.2.2.length dh_12] 51)).cell? ⟨w14.heap.size, 5, none⟩ = some (.int .i64 (endTop x0).2.1.2.2.1) := kh_14b.cell 5
  have gh_14_6 : (w14.alloc (.cells #[.int .i64 (endTop x0).1.1, .slice Dh_1 (endTop x0).1.2.1.length dh_1, .slice Dh_2 (endTop x0).1.2.2.length dh_2, .int .i64 (endTop x0).2.1.1, .int .i64 (endTop x0).2.1.2.1, .int .i64 (endTop x0).2.1.2.2.1, .slice Dh_6 (endTop x0).2.1.2.2.2.length dh_6, .int .i64 (endTop x0).2.2.1.1, .int .i64 (endTop x0).2.2.1.2.1, .int .i64 (endTop x0).2.2.1.2.2.1, .slice Dh_10 (endTop x0).2.2.1.2.2.2.length dh_10, .slice Dh_11 (endTop x0).2.2.2.1.length dh_11, .slice Dh_12 (endTop x0).2.2.2.2.length dh_12] 51)).cell? ⟨w14.heap.size, 6, none⟩ = some (.slice Dh_6 (endTop x0).2.1.2.2.2.length dh_6) := kh_14b.cell 6
  have gh_14_7 : (w14.alloc (.cells #[.int .i64 (endTop x0).1.1, .slice Dh_1 (endTop x0).1.2.1.length dh_1, .slice Dh_2 (endTop x0).1.2.2.length dh_2, .int .i64 (endTop x0).2.1.1, .int .i64 (endTop x0).2.1.2.1, .int .i64 (endTop x0).2.1.2.2.1, .slice Dh_6 (endTop x0).2.1.2.2.2.length dh_6, .int .i64 (endTop x0).2.2.1.1, .int .i64 (endTop x0).2.2.1.2.1, .int .i64 (endTop x0).2.2.1.2.2.1, .slice Dh_10 (endTop x0).2.2.1.2.2.2.length dh_10, .slice Dh_11 (endTop x0).2.2.2.1.length dh_11, .slice Dh_12 (endTop x0).2.2.2.2.length dh_12] 51)).cell? ⟨w14.heap.size, 7, none⟩ = some (.int .i64 (endTop x0).2.2.1.1) := kh_14b.cell 7
  have gh_14_8 : (w14.alloc (.cells #[.int .i64 (endTop x0).1.1, .slice Dh_1 (endTop x0).1.2.1.length dh_1, .slice Dh_2 (endTop x0).1.2.2.length dh_2, .int .i64 (endTop x0).2.1.1, .int .i64 (endTop x0).2.1.2.1, .int .i64 (endTop x0).2.1.2.2.1, .slice Dh_6 (endTop x0).2.1.2.2.2.length dh_6, .int .i64 (endTop x0).2.2.1.1, .int .i64 (endTop x0).2.2.1.2.1, .int .i64 (endTop x0).2.2.1.2.2.1, .slice Dh_10 (endTop x0).2.2.1.2.2.2.length dh_10, .slice Dh_11 (endTop x0).2.2.2.1.length dh_11, .slice Dh_12 (endTop x0).2.2.2.2.length dh_12] 51)).cell? ⟨w14.heap.size, 8, none⟩ = some (.int .i64 (endTop x0).2.2.1.2.1) := kh_14b.cell 8
  have gh_14_9 : (w14.alloc (.cells #[.int .i64 (endTop x0).1.1, .slice Dh_1 (endTop x0).1.2.1.length dh_1, .slice Dh_2 (endTop x0).1.2.2.length dh_2, .int .i64 (endTop x0).2.1.1, .int .i64 (endTop x0).2.1.2.1, .int .i64 (endTop x0).2.1.2.2.1, .slice Dh_6 (endTop x0).2.1.2.2.2.length dh_6, .int .i64 (endTop x0).2.2.1.1, .int .i64 (endTop x0).2.2.1.2.1, .int .i64 (endTop x0).2.2.1.2.2.1, .slice Dh_10 (endTop x0).2.2.1.2.2.2.length dh_10, .slice Dh_11 (endTop x0).2.2.2.1.length dh_11, .slice Dh_12 (endTop x0).2.2.2.2.length dh_12] 51)).cell? ⟨w14.heap.size, 9, none⟩ = some (.int .i64 (endTop x0).2.2.1.2.2.1) := kh_14b.cell 9
  have gh_14_10 : (w14.alloc (.cells #[.int .i64 (endTop x0).1.1, .slice Dh_1 (endTop x0).1.2.1.length dh_1, .slice Dh_2 (endTop x0).1.2.2.length dh_2, .int .i64 (endTop x0).2.1.1, .int .i64 (endTop x0).2.1.2.1, .int .i64 (endTop x0).2.1.2.2.1, .slice Dh_6 (endTop x0).2.1.2.2.2.length dh_6, .int .i64 (endTop x0).2.2.1.1, .int .i64 (endTop x0).2.2.1.2.1, .int .i64 (endTop x0).2.2.1.2.2.1, .slice Dh_10 (endTop x0).2.2.1.2.2.2.length dh_10, .slice Dh_11 (endTop x0).2.2.2.1.length dh_11, .slice Dh_12 (endTop x0).2.2.2.2.length dh_12] 51)).cell? ⟨w14.heap.size, 10, none⟩ = some (.slice Dh_10 (endTop x0).2.2.1.2.2.2.length dh_10) := kh_14b.cell 10
  have gh_14_11 : (w14.alloc (.cells #[.int .i64 (endTop x0).1.1, .slice Dh_1 (endTop x0).1.2.1.length dh_1, .slice Dh_2 (endTop x0).1.2.2.length dh_2, .int .i64 (endTop x0).2.1.1, .int .i64 (endTop x0).2.1.2.1, .int .i64 (endTop x0).2.1.2.2.1, .slice Dh_6 (endTop x0).2.1.2.2.2.length dh_6, .int .i64 (endTop x0).2.2.1.1, .int .i64 (endTop x0).2.2.1.2.1, .int .i64 (endTop x0).2.2.1.2.2.1, .slice Dh_10 (endTop x0).2.2.1.2.2.2.length dh_10, .slice Dh_11 (endTop x0).2.2.2.1.length dh_11, .slice Dh_12 (endTop x0).2.2.2.2.length dh_12] 51)).cell? ⟨w14.heap.size, 11, none⟩ = some (.slice Dh_11 (endTop x0).2.2.2.1.length dh_11) := kh_14b.cell 11
  have gh_14_12 : (w14.alloc (.cells #[.int .i64 (endTop x0).1.1, .slice Dh_1 (endTop x0).1.2.1.length dh_1, .slice Dh_2 (endTop x0).1.2.2.length dh_2, .int .i64 (endTop x0).2.1.1, .int .i64 (endTop x0).2.1.2.1, .int .i64 (endTop x0).2.1.2.2.1, .slice Dh_6 (endTop x0).2.1.2.2.2.length dh_6, .int .i64 (endTop x0).2.2.1.1, .int .i64 (endTop x0).2.2.1.2.1, .int .i64 (endTop x0).2.2.1.2.2.1, .slice Dh_10 (endTop x0).2.2.1.2.2.2.length dh_10, .slice Dh_11 (endTop x0).2.2.2.1.length dh_11, .slice Dh_12 (endTop x0).2.2.2.2.length dh_12] 51)).cell? ⟨w14.heap.size, 12, none⟩ = some (.slice Dh_12 (endTop x0).2.2.2.2.length dh_12) := kh_14b.cell 12
  have zzh_14 := kh_14b.lt
  go_wp2_with fail
  refine (c_eqCache _ _ (endTop x0) (endTop x0) _ ⟨_, rfl, good_Cache.wide (good_Cache.own_rep oh_14b) (Nat.zero_le _) (by omega)⟩ ⟨_, rfl, good_Cache.wide os_14b (Nat.le_refl _) (by omega)⟩).mono ?_
  rintro e w15 ⟨be2, rfl, hbe2, u15⟩
  have uu15 := ub14.trans u15
  have zs15 := u15.size
  have ka0_15 := ka0_14b.up u15
  have kr_15 := kr_14b.up u15
  have kx0_15 := kx0_14b.up u15
  have kg_15 := kg_14b.up u15
  have kh_15 := kh_14b.up u15
  have os_15 := good_Cache.keep os_14b (u15.keeps (by omega))
  clear os_14b
  have mkg_15 := good_Cache.own_keep mkg_14b (fun y hy => u15.block y (Nat.lt_of_lt_of_le (good_Cache.own_in mkg_14b y hy).2 (by omega)))
  clear mkg_14b
  have oz0_15 := good_Cache.own_keep oz0_14b (fun y hy => u15.block y (Nat.lt_of_lt_of_le (good_Cache.own_in oz0_14b y hy).2 (by omega)))
  clear oz0_14b
  have oh_15 := good_Cache.own_keep oh_14b (fun y hy => u15.block y (Nat.lt_of_lt_of_le (good_Cache.own_in oh_14b y hy).2 (by omega)))
  clear oh_14b
  obtain rfl : be2 = true := by simpa using hbe2
  clear hbe2 u15
  clear ga0_14_0 ga0_14_1 ga0_14_2 ga0_14_3 ga0_14_4 ga0_14_5 ga0_14_6 ga0_14_7 ga0_14_8 ga0_14_9 ga0_14_10 ga0_14_11 ga0_14_12 zza0_14 gr_14_0 gr_14_1 gr_14_2 gr_14_3 gr_14_4 gr_14_5 gr_14_6 gr_14_7 gr_14_8 gr_14_9 gr_14_10 gr_14_11 gr_14_12 zzr_14 gx0_14_0 gx0_14_1 gx0_14_2 gx0_14_3 gx0_14_4 gx0_14_5 gx0_14_6 gx0_14_7 gx0_14_8 gx0_14_9 gx0_14_10 gx0_14_11 gx0_14_12 zzx0_14 gg_14_0 gg_14_1 gg_14_2 gg_14_3 gg_14_4 gg_14_5 gg_14_6 gg_14_7 gg_14_8 gg_14_9 gg_14_10 gg_14_11 gg_14_12 zzg_14 gh_14_0 gh_14_1 gh_14_2 gh_14_3 gh_14_4 gh_14_5 gh_14_6 gh_14_7 gh_14_8 gh_14_9 gh_14_10 gh_14_11 gh_14_12 zzh_14
  have ga0_15_0 : w15.cell? ⟨w.heap.size, 0, none⟩ = some (.int .i64 x0.1.1) := ka0_15.cell 0
  have ga0_15_1 : w15.cell? ⟨w.heap.size, 1, none⟩ = some (.slice A0_1 x0.1.2.1.length c0_1) := ka0_15.cell 1
  have ga0_15_2 : w15.cell? ⟨w.heap.size, 2, none⟩ = some (.slice A0_2 x0.1.2.2.length c0_2) := ka0_15.cell 2
  have ga0_15_3 : w15.cell? ⟨w.heap.size, 3, none⟩ = some (.int .i64 x0.2.1.1) := ka0_15.cell 3
  have ga0_15_4 : w15.cell? ⟨w.heap.size, 4, none⟩ = some (.int .i64 x0.2.1.2.1) := ka0_15.cell 4
  have ga0_15_5 : w15.cell? ⟨w.heap.size, 5, none⟩ = some (.int .i64 x0.2.1.2.2.1) := ka0_15.cell 5
  have ga0_15_6 : w15.cell? ⟨w.heap.size, 6, none⟩ = some (.slice A0_6 x0.2.1.2.2.2.length c0_6) := ka0_15.cell 6
  have ga0_15_7 : w15.cell? ⟨w.heap.size, 7, none⟩ = some (.int .i64 x0.2.2.1.1) := ka0_15.cell 7
  have ga0_15_8 : w15.cell? ⟨w.heap.size, 8, none⟩ = some (.int .i64 x0.2.2.1.2.1) := ka0_15.cell 8
  have ga0_15_9 : w15.cell? ⟨w.heap.size, 9, none⟩ = some (.int .i64 x0.2.2.1.2.2.1) := ka0_15.cell 9
  have ga0_15_10 : w15.cell? ⟨w.heap.size, 10, none⟩ = some (.slice A0_10 x0.2.2.1.2.2.2.length c0_10) := ka0_15.cell 10
  have ga0_15_11 : w15.cell? ⟨w.heap.size, 11, none⟩ = some (.slice A0_11 x0.2.2.2.1.length c0_11) := ka0_15.cell 11
  have ga0_15_12 : w15.cell? ⟨w.heap.size, 12, none⟩ = some (.slice A0_12 x0.2.2.2.2.length c0_12) := ka0_15.cell 12
  have zza0_15 := ka0_15.lt
  have gr_15_0 : w15.cell? ⟨w3.heap.size, 0, none⟩ = some (.int .i64 (endTop x0).1.1) := kr_15.cell 0
  have gr_15_1 : w15.cell? ⟨w3.heap.size, 1, none⟩ = some (.slice Ds_1 (endTop x0).1.2.1.length ds_1) := kr_15.cell 1
  have gr_15_2 : w15.cell? ⟨w3.heap.size, 2, none⟩ = some (.slice Ds_2 (endTop x0).1.2.2.length ds_2) := kr_15.cell 2
  have gr_15_3 : w15.cell? ⟨w3.heap.size, 3, none⟩ = some (.int .i64 (endTop x0).2.1.1) := kr_15.cell 3
  have gr_15_4 : w15.cell? ⟨w3.heap.size, 4, none⟩ = some (.int .i64 (endTop x0).2.1.2.1) := kr_15.cell 4
  have gr_15_5 : w15.cell? ⟨w3.heap.size, 5, none⟩ = some (.int .i64 (endTop x0).2.1.2.2.1) := kr_15.cell 5
  have gr_15_6 : w15.cell? ⟨w3.heap.size, 6, none⟩ = some (.slice Ds_6 (endTop x0).2.1.2.2.2.length ds_6) := kr_15.cell 6
  have gr_15_7 : w15.cell? ⟨w3.heap.size, 7, none⟩ = some (.int .i64 (endTop x0).2.2.1.1) := kr_15.cell 7
  have gr_15_8 : w15.cell? ⟨w3.heap.size, 8, none⟩ = some (.int .i64 (endTop x0).2.2.1.2.1) := kr_15.cell 8
  have gr_15_9 : w15.cell? ⟨w3.heap.size, 9, none⟩ = some (.int .i64 (endTop x0).2.2.1.2.2.1) := kr_15.cell 9
  have gr_15_10 : w15.cell? ⟨w3.heap.size, 10, none⟩ = some (.slice Ds_10 (endTop x0).2.2.1.2.2.2.length ds_10) := kr_15.cell 10
  have gr_15_11 : w15.cell? ⟨w3.heap.size, 11, none⟩ = some (.slice Ds_11 (endTop x0).2.2.2.1.length ds_11) := kr_15.cell 11
  have gr_15_12 : w15.cell? ⟨w3.heap.size, 12, none⟩ = some (.slice Ds_12 (endTop x0).2.2.2.2.length ds_12) := kr_15.cell 12
  have zzr_15 := kr_15.lt
  have gx0_15_0 : w15.cell? ⟨w4.heap.size, 0, none⟩ = some (.int .i64 x0.1.1) := kx0_15.cell 0
  have gx0_15_1 : w15.cell? ⟨w4.heap.size, 1, none⟩ = some (.slice Dx0_1 x0.1.2.1.length dx0_1) := kx0_15.cell 1
  have gx0_15_2 : w15.cell? ⟨w4.heap.size, 2, none⟩ = some (.slice Dx0_2 x0.1.2.2.length dx0_2) := kx0_15.cell 2
  have gx0_15_3 : w15.cell? ⟨w4.heap.size, 3, none⟩ = some (.int .i64 x0.2.1.1) := kx0_15.cell 3
  have gx0_15_4 : w15.cell? ⟨w4.heap.size, 4, none⟩ = some (.int .i64 x0.2.1.2.1) := kx0_15.cell 4
  have gx0_15_5 : w15.cell? ⟨w4.heap.size, 5, none⟩ = some (.int .i64 x0.2.1.2.2.1) := kx0_15.cell 5
  have gx0_15_6 : w15.cell? ⟨w4.heap.size, 6, none⟩ = some (.slice Dx0_6 x0.2.1.2.2.2.length dx0_6) := kx0_15.cell 6
  have gx0_15_7 : w15.cell? ⟨w4.heap.size, 7, none⟩ = some (.int .i64 x0.2.2.1.1) := kx0_15.cell 7
  have gx0_15_8 : w15.cell? ⟨w4.heap.size, 8, none⟩ = some (.int .i64 x0.2.2.1.2.1) := kx0_15.cell 8
  have gx0_15_9 : w15.cell? ⟨w4.heap.size, 9, none⟩ = some (.int .i64 x0.2.2.1.2.2.1) := kx0_15.cell 9
  have gx0_15_10 : w15.cell? ⟨w4.heap.size, 10, none⟩ = some (.slice Dx0_10 x0.2.2.1.2.2.2.length dx0_10) := kx0_15.cell 10
  have gx0_15_11 : w15.cell? ⟨w4.heap.size, 11, none⟩ = some (.slice Dx0_11 x0.2.2.2.1.length dx0_11) := kx0_15.cell 11
  have gx0_15_12 : w15.cell? ⟨w4.heap.size, 12, none⟩ = some (.slice Dx0_12 x0.2.2.2.2.length dx0_12) := kx0_15.cell 12
  have zzx0_15 := kx0_15.lt
  have gg_15_0 : w15.cell? ⟨w5.heap.size, 0, none⟩ = some (.int .i64 (endTop x0).1.1) := kg_15.cell 0
  have gg_15_1 : w15.cell? ⟨w5.heap.size, 1, none⟩ = some (.slice Dg_1 (endTop x0).1.2.1.length dg_1) := kg_15.cell 1
  have gg_15_2 : w15.cell? ⟨w5.heap.size, 2, none⟩ = some (.slice Dg_2 (endTop x0).1.2.2.length dg_2) := kg_15.cell 2
  have gg_15_3 : w15.cell? ⟨w5.heap.size, 3, none⟩ = some (.int .i64 (endTop x0).2.1.1) := kg_15.cell 3
  have gg_15_4 : w15.cell? ⟨w5.heap.size, 4, none⟩ = some (.int .i64 (endTop x0).2.1.2.1) := kg_15.cell 4
  have gg_15_5 : w15.cell? ⟨w5.heap.size, 5, none⟩ = some (.int .i64 (endTop x0).2.1.2.2.1) := kg_15.cell 5
  have gg_15_6 : w15.cell? ⟨w5.heap.size, 6, none⟩ = some (.slice Dg_6 (endTop x0).2.1.2.2.2.length dg_6) := kg_15.cell 6
  have gg_15_7 : w15.cell? ⟨w5.heap.size, 7, none⟩ = some (.int .i64 (endTop x0).2.2.1.1) := kg_15.cell 7
  have gg_15_8 : w15.cell? ⟨w5.heap.size, 8, none⟩ = some (.int .i64 (endTop x0).2.2.1.2.1) := kg_15.cell 8
  have gg_15_9 : w15.cell? ⟨w5.heap.size, 9, none⟩ = some (.int .i64 (endTop x0).2.2.1.2.2.1) := kg_15.cell 9
  have gg_15_10 : w15.cell? ⟨w5.heap.size, 10, none⟩ = some (.slice Dg_10 (endTop x0).2.2.1.2.2.2.length dg_10) := kg_15.cell 10
  have gg_15_11 : w15.cell? ⟨w5.heap.size, 11, none⟩ = some (.slice Dg_11 (endTop x0).2.2.2.1.length dg_11) := kg_15.cell 11
  have gg_15_12 : w15.cell? ⟨w5.heap.size, 12, none⟩ = some (.slice Dg_12 (endTop x0).2.2.2.2.length dg_12) := kg_15.cell 12
  have zzg_15 := kg_15.lt
  have gh_15_0 : w15.cell? ⟨w14.heap.size, 0, none⟩ = some (.int .i64 (endTop x0).1.1) := kh_15.cell 0
  have gh_15_1 : w15.cell? ⟨w14.heap.size, 1, none⟩ = some (.slice Dh_1 (endTop x0).1.2.1.length dh_1) := kh_15.cell 1
  have gh_15_2 : w15.cell? ⟨w14.heap.size, 2, none⟩ = some (.slice Dh_2 (endTop x0).1.2.2.length dh_2) := kh_15.cell 2
  have gh_15_3 : w15.cell? ⟨w14.heap.size, 3, none⟩ = some (.int .i64 (endTop x0).2.1.1) := kh_15.cell 3
  have gh_15_4 : w15.cell? ⟨w14.heap.size, 4, none⟩ = some (.int .i64 (endTop x0).2.1.2.1) := kh_15.cell 4
  have gh_15_5 : w15.cell? ⟨w14.heap.size, 5, none⟩ = some (.int .i64 (endTop x0).2.1.2.2.1) := kh_15.cell 5
  have gh_15_6 : w15.cell? ⟨w14.heap.size, 6, none⟩ = some (.slice Dh_6 (endTop x0).2.1.2.2.2.length dh_6) := kh_15.cell 6
  have gh_15_7 : w15.cell? ⟨w14.heap.size, 7, none⟩ = some (.int .i64 (endTop x0).2.2.1.1) := kh_15.cell 7
  have gh_15_8 : w15.cell? ⟨w14.heap.size, 8, none⟩ = some (.int .i64 (endTop x0).2.2.1.2.1) := kh_15.cell 8
  have gh_15_9 : w15.cell? ⟨w14.heap.size, 9, none⟩ = some (.int .i64 (endTop x0).2.2.1.2.2.1) := kh_15.cell 9
  have gh_15_10 : w15.cell? ⟨w14.heap.size, 10, none⟩ = some (.slice Dh_10 (endTop x0).2.2.1.2.2.2.length dh_10) := kh_15.cell 10
  have gh_15_11 : w15.cell? ⟨w14.heap.size, 11, none⟩ = some (.slice Dh_11 (endTop x0).2.2.2.1.length dh_11) := kh_15.cell 11
  have gh_15_12 : w15.cell? ⟨w14.heap.size, 12, none⟩ = some (.slice Dh_12 (endTop x0).2.2.2.2.length dh_12) := kh_15.cell 12
  have zzh_15 := kh_15.lt
  go_wp2_with fail
  have hib := gmT_Cache.idem (endTop x0) 1
  have hsb := gmT_Cache.same (endTop x0) 1
  have hcbb : (1 : Int) + (mmTCache.cnt (mmTCache.mark (endTop x0) 1) : Nat) ≤ 1000000000 := by rw [hsb]; exact cbg
  refine (c_heldCache _ (mmTCache.mark (endTop x0) 1) _ _ ⟨_, rfl, good_Cache.wide (good_Cache.own_rep mkg_15) (Nat.zero_le _) (by omega)⟩ hib (by omega) hcbb).mono ?_
  rintro e w16 ⟨rfl, u16⟩
  have uu16 := uu15.trans u16
  have zs16 := u16.size
  have ka0_16 := ka0_15.up u16
  have kr_16 := kr_15.up u16
  have kx0_16 := kx0_15.up u16
  have kg_16 := kg_15.up u16
  have kh_16 := kh_15.up u16
  have os_16 := good_Cache.keep os_15 (u16.keeps (by omega))
  clear os_15
  have mkg_16 := good_Cache.own_keep mkg_15 (fun y hy => u16.block y (Nat.lt_of_lt_of_le (good_Cache.own_in mkg_15 y hy).2 (by omega)))
  clear mkg_15
  have oz0_16 := good_Cache.own_keep oz0_15 (fun y hy => u16.block y (Nat.lt_of_lt_of_le (good_Cache.own_in oz0_15 y hy).2 (by omega)))
  clear oz0_15
  have oh_16 := good_Cache.own_keep oh_15 (fun y hy => u16.block y (Nat.lt_of_lt_of_le (good_Cache.own_in oh_15 y hy).2 (by omega)))
  clear oh_15
  rw [hsb]
  clear hib hsb hcbb u16
  clear ga0_15_0 ga0_15_1 ga0_15_2 ga0_15_3 ga0_15_4 ga0_15_5 ga0_15_6 ga0_15_7 ga0_15_8 ga0_15_9 ga0_15_10 ga0_15_11 ga0_15_12 zza0_15 gr_15_0 gr_15_1 gr_15_2 gr_15_3 gr_15_4 gr_15_5 gr_15_6 gr_15_7 gr_15_8 gr_15_9 gr_15_10 gr_15_11 gr_15_12 zzr_15 gx0_15_0 gx0_15_1 gx0_15_2 gx0_15_3 gx0_15_4 gx0_15_5 gx0_15_6 gx0_15_7 gx0_15_8 gx0_15_9 gx0_15_10 gx0_15_11 gx0_15_12 zzx0_15 gg_15_0 gg_15_1 gg_15_2 gg_15_3 gg_15_4 gg_15_5 gg_15_6 gg_15_7 gg_15_8 gg_15_9 gg_15_10 gg_15_11 gg_15_12 zzg_15 gh_15_0 gh_15_1 gh_15_2 gh_15_3 gh_15_4 gh_15_5 gh_15_6 gh_15_7 gh_15_8 gh_15_9 gh_15_10 gh_15_11 gh_15_12 zzh_15
  have ga0_16_0 : w16.cell? ⟨w.heap.size, 0, none⟩ = some (.int .i64 x0.1.1) := ka0_16.cell 0
  have ga0_16_1 : w16.cell? ⟨w.heap.size, 1, none⟩ = some (.slice A0_1 x0.1.2.1.length c0_1) := ka0_16.cell 1
  have ga0_16_2 : w16.cell? ⟨w.heap.size, 2, none⟩ = some (.slice A0_2 x0.1.2.2.length c0_2) := ka0_16.cell 2
  have ga0_16_3 : w16.cell? ⟨w.heap.size, 3, none⟩ = some (.int .i64 x0.2.1.1) := ka0_16.cell 3
  have ga0_16_4 : w16.cell? ⟨w.heap.size, 4, none⟩ = some (.int .i64 x0.2.1.2.1) := ka0_16.cell 4
  have ga0_16_5 : w16.cell? ⟨w.heap.size, 5, none⟩ = some (.int .i64 x0.2.1.2.2.1) := ka0_16.cell 5
  have ga0_16_6 : w16.cell? ⟨w.heap.size, 6, none⟩ = some (.slice A0_6 x0.2.1.2.2.2.length c0_6) := ka0_16.cell 6
  have ga0_16_7 : w16.cell? ⟨w.heap.size, 7, none⟩ = some (.int .i64 x0.2.2.1.1) := ka0_16.cell 7
  have ga0_16_8 : w16.cell? ⟨w.heap.size, 8, none⟩ = some (.int .i64 x0.2.2.1.2.1) := ka0_16.cell 8
  have ga0_16_9 : w16.cell? ⟨w.heap.size, 9, none⟩ = some (.int .i64 x0.2.2.1.2.2.1) := ka0_16.cell 9
  have ga0_16_10 : w16.cell? ⟨w.heap.size, 10, none⟩ = some (.slice A0_10 x0.2.2.1.2.2.2.length c0_10) := ka0_16.cell 10
  have ga0_16_11 : w16.cell? ⟨w.heap.size, 11, none⟩ = some (.slice A0_11 x0.2.2.2.1.length c0_11) := ka0_16.cell 11
  have ga0_16_12 : w16.cell? ⟨w.heap.size, 12, none⟩ = some (.slice A0_12 x0.2.2.2.2.length c0_12) := ka0_16.cell 12
  have zza0_16 := ka0_16.lt
  have gr_16_0 : w16.cell? ⟨w3.heap.size, 0, none⟩ = some (.int .i64 (endTop x0).1.1) := kr_16.cell 0
  have gr_16_1 : w16.cell? ⟨w3.heap.size, 1, none⟩ = some (.slice Ds_1 (endTop x0).1.2.1.length ds_1) := kr_16.cell 1
  have gr_16_2 : w16.cell? ⟨w3.heap.size, 2, none⟩ = some (.slice Ds_2 (endTop x0).1.2.2.length ds_2) := kr_16.cell 2
  have gr_16_3 : w16.cell? ⟨w3.heap.size, 3, none⟩ = some (.int .i64 (endTop x0).2.1.1) := kr_16.cell 3
  have gr_16_4 : w16.cell? ⟨w3.heap.size, 4, none⟩ = some (.int .i64 (endTop x0).2.1.2.1) := kr_16.cell 4
  have gr_16_5 : w16.cell? ⟨w3.heap.size, 5, none⟩ = some (.int .i64 (endTop x0).2.1.2.2.1) := kr_16.cell 5
  have gr_16_6 : w16.cell? ⟨w3.heap.size, 6, none⟩ = some (.slice Ds_6 (endTop x0).2.1.2.2.2.length ds_6) := kr_16.cell 6
  have gr_16_7 : w16.cell? ⟨w3.heap.size, 7, none⟩ = some (.int .i64 (endTop x0).2.2.1.1) := kr_16.cell 7
  have gr_16_8 : w16.cell? ⟨w3.heap.size, 8, none⟩ = some (.int .i64 (endTop x0).2.2.1.2.1) := kr_16.cell 8
  have gr_16_9 : w16.cell? ⟨w3.heap.size, 9, none⟩ = some (.int .i64 (endTop x0).2.2.1.2.2.1) := kr_16.cell 9
  have gr_16_10 : w16.cell? ⟨w3.heap.size, 10, none⟩ = some (.slice Ds_10 (endTop x0).2.2.1.2.2.2.length ds_10) := kr_16.cell 10
  have gr_16_11 : w16.cell? ⟨w3.heap.size, 11, none⟩ = some (.slice Ds_11 (endTop x0).2.2.2.1.length ds_11) := kr_16.cell 11
  have gr_16_12 : w16.cell? ⟨w3.heap.size, 12, none⟩ = some (.slice Ds_12 (endTop x0).2.2.2.2.length ds_12) := kr_16.cell 12
  have zzr_16 := kr_16.lt
  have gx0_16_0 : w16.cell? ⟨w4.heap.size, 0, none⟩ = some (.int .i64 x0.1.1) := kx0_16.cell 0
  have gx0_16_1 : w16.cell? ⟨w4.heap.size, 1, none⟩ = some (.slice Dx0_1 x0.1.2.1.length dx0_1) := kx0_16.cell 1
  have gx0_16_2 : w16.cell? ⟨w4.heap.size, 2, none⟩ = some (.slice Dx0_2 x0.1.2.2.length dx0_2) := kx0_16.cell 2
  have gx0_16_3 : w16.cell? ⟨w4.heap.size, 3, none⟩ = some (.int .i64 x0.2.1.1) := kx0_16.cell 3
  have gx0_16_4 : w16.cell? ⟨w4.heap.size, 4, none⟩ = some (.int .i64 x0.2.1.2.1) := kx0_16.cell 4
  have gx0_16_5 : w16.cell? ⟨w4.heap.size, 5, none⟩ = some (.int .i64 x0.2.1.2.2.1) := kx0_16.cell 5
  have gx0_16_6 : w16.cell? ⟨w4.heap.size, 6, none⟩ = some (.slice Dx0_6 x0.2.1.2.2.2.length dx0_6) := kx0_16.cell 6
  have gx0_16_7 : w16.cell? ⟨w4.heap.size, 7, none⟩ = some (.int .i64 x0.2.2.1.1) := kx0_16.cell 7
  have gx0_16_8 : w16.cell? ⟨w4.heap.size, 8, none⟩ = some (.int .i64 x0.2.2.1.2.1) := kx0_16.cell 8
  have gx0_16_9 : w16.cell? ⟨w4.heap.size, 9, none⟩ = some (.int .i64 x0.2.2.1.2.2.1) := kx0_16.cell 9
  have gx0_16_10 : w16.cell? ⟨w4.heap.size, 10, none⟩ = some (.slice Dx0_10 x0.2.2.1.2.2.2.length dx0_10) := kx0_16.cell 10
  have gx0_16_11 : w16.cell? ⟨w4.heap.size, 11, none⟩ = some (.slice Dx0_11 x0.2.2.2.1.length dx0_11) := kx0_16.cell 11
  have gx0_16_12 : w16.cell? ⟨w4.heap.size, 12, none⟩ = some (.slice Dx0_12 x0.2.2.2.2.length dx0_12) := kx0_16.cell 12
  have zzx0_16 := kx0_16.lt
  have gg_16_0 : w16.cell? ⟨w5.heap.size, 0, none⟩ = some (.int .i64 (endTop x0).1.1) := kg_16.cell 0
  have gg_16_1 : w16.cell? ⟨w5.heap.size, 1, none⟩ = some (.slice Dg_1 (endTop x0).1.2.1.length dg_1) := kg_16.cell 1
  have gg_16_2 : w16.cell? ⟨w5.heap.size, 2, none⟩ = some (.slice Dg_2 (endTop x0).1.2.2.length dg_2) := kg_16.cell 2
  have gg_16_3 : w16.cell? ⟨w5.heap.size, 3, none⟩ = some (.int .i64 (endTop x0).2.1.1) := kg_16.cell 3
  have gg_16_4 : w16.cell? ⟨w5.heap.size, 4, none⟩ = some (.int .i64 (endTop x0).2.1.2.1) := kg_16.cell 4
  have gg_16_5 : w16.cell? ⟨w5.heap.size, 5, none⟩ = some (.int .i64 (endTop x0).2.1.2.2.1) := kg_16.cell 5
  have gg_16_6 : w16.cell? ⟨w5.heap.size, 6, none⟩ = some (.slice Dg_6 (endTop x0).2.1.2.2.2.length dg_6) := kg_16.cell 6
  have gg_16_7 : w16.cell? ⟨w5.heap.size, 7, none⟩ = some (.int .i64 (endTop x0).2.2.1.1) := kg_16.cell 7
  have gg_16_8 : w16.cell? ⟨w5.heap.size, 8, none⟩ = some (.int .i64 (endTop x0).2.2.1.2.1) := kg_16.cell 8
  have gg_16_9 : w16.cell? ⟨w5.heap.size, 9, none⟩ = some (.int .i64 (endTop x0).2.2.1.2.2.1) := kg_16.cell 9
  have gg_16_10 : w16.cell? ⟨w5.heap.size, 10, none⟩ = some (.slice Dg_10 (endTop x0).2.2.1.2.2.2.length dg_10) := kg_16.cell 10
  have gg_16_11 : w16.cell? ⟨w5.heap.size, 11, none⟩ = some (.slice Dg_11 (endTop x0).2.2.2.1.length dg_11) := kg_16.cell 11
  have gg_16_12 : w16.cell? ⟨w5.heap.size, 12, none⟩ = some (.slice Dg_12 (endTop x0).2.2.2.2.length dg_12) := kg_16.cell 12
  have zzg_16 := kg_16.lt
  have gh_16_0 : w16.cell? ⟨w14.heap.size, 0, none⟩ = some (.int .i64 (endTop x0).1.1) := kh_16.cell 0
  have gh_16_1 : w16.cell? ⟨w14.heap.size, 1, none⟩ = some (.slice Dh_1 (endTop x0).1.2.1.length dh_1) := kh_16.cell 1
  have gh_16_2 : w16.cell? ⟨w14.heap.size, 2, none⟩ = some (.slice Dh_2 (endTop x0).1.2.2.length dh_2) := kh_16.cell 2
  have gh_16_3 : w16.cell? ⟨w14.heap.size, 3, none⟩ = some (.int .i64 (endTop x0).2.1.1) := kh_16.cell 3
  have gh_16_4 : w16.cell? ⟨w14.heap.size, 4, none⟩ = some (.int .i64 (endTop x0).2.1.2.1) := kh_16.cell 4
  have gh_16_5 : w16.cell? ⟨w14.heap.size, 5, none⟩ = some (.int .i64 (endTop x0).2.1.2.2.1) := kh_16.cell 5
  have gh_16_6 : w16.cell? ⟨w14.heap.size, 6, none⟩ = some (.slice Dh_6 (endTop x0).2.1.2.2.2.length dh_6) := kh_16.cell 6
  have gh_16_7 : w16.cell? ⟨w14.heap.size, 7, none⟩ = some (.int .i64 (endTop x0).2.2.1.1) := kh_16.cell 7
  have gh_16_8 : w16.cell? ⟨w14.heap.size, 8, none⟩ = some (.int .i64 (endTop x0).2.2.1.2.1) := kh_16.cell 8
  have gh_16_9 : w16.cell? ⟨w14.heap.size, 9, none⟩ = some (.int .i64 (endTop x0).2.2.1.2.2.1) := kh_16.cell 9
  have gh_16_10 : w16.cell? ⟨w14.heap.size, 10, none⟩ = some (.slice Dh_10 (endTop x0).2.2.1.2.2.2.length dh_10) := kh_16.cell 10
  have gh_16_11 : w16.cell? ⟨w14.heap.size, 11, none⟩ = some (.slice Dh_11 (endTop x0).2.2.2.1.length dh_11) := kh_16.cell 11
  have gh_16_12 : w16.cell? ⟨w14.heap.size, 12, none⟩ = some (.slice Dh_12 (endTop x0).2.2.2.2.length dh_12) := kh_16.cell 12
  have zzh_16 := kh_16.lt
  go_wp2_with fail
  go_ret
  exact ⟨rfl, uu16⟩
end Go.Proofs.Ytidfeipilleafaa
