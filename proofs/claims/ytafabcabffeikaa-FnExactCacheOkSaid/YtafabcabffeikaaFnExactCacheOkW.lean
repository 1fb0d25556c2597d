/-
  The walk of FnExactCacheOk: for every input it returns true.
-/
import Derived.Test.YtafabcabffeikaaCk
import Derived.Deep.RegionHeld3
namespace Go.Proofs.Ytafabcabffeikaa
open Go.RowKit
set_option linter.unusedVariables false
set_option linter.unusedSimpArgs false

set_option maxRecDepth 100000 in
set_option maxHeartbeats 8000000 in
theorem w0_FnExactCacheOk (w : World) (v0 : Value) (x0 : TCache) (h0 : AV shCache w v0 x0) :
    Calls Try.prog 13 #[v0] w fun e w' => e = .returned (.bool true) ∧ Up w w' := by
  have hv0 := h0
  obtain ⟨cs0, rfl, h0⟩ := h0
  obtain ⟨A0_1, c0_1, A0_2, c0_2, A0_6, c0_6, A0_10, c0_10, A0_11, c0_11, A0_12, c0_12, rfl, _⟩ := openCache h0
  clear h0
  have ka0_0 : Bk (w.alloc (.cells #[.int .i64 x0.1.1, .slice A0_1 x0.1.2.1.length c0_1, .slice A0_2 x0.1.2.2.length c0_2, .int .i64 x0.2.1.1, .int .i64 x0.2.1.2.1, .int .i64 x0.2.1.2.2.1, .slice A0_6 x0.2.1.2.2.2.length c0_6, .int .i64 x0.2.2.1.1, .int .i64 x0.2.2.1.2.1, .int .i64 x0.2.2.1.2.2.1, .slice A0_10 x0.2.2.1.2.2.2.length c0_10, .slice A0_11 x0.2.2.2.1.length c0_11, .slice A0_12 x0.2.2.2.2.length c0_12] 90)) (w.heap.size) 90 #[.int .i64 x0.1.1, .slice A0_1 x0.1.2.1.length c0_1, .slice A0_2 x0.1.2.2.length c0_2, .int .i64 x0.2.1.1, .int .i64 x0.2.1.2.1, .int .i64 x0.2.1.2.2.1, .slice A0_6 x0.2.1.2.2.2.length c0_6, .int .i64 x0.2.2.1.1, .int .i64 x0.2.2.1.2.1, .int .i64 x0.2.2.1.2.2.1, .slice A0_10 x0.2.2.1.2.2.2.length c0_10, .slice A0_11 x0.2.2.2.1.length c0_11, .slice A0_12 x0.2.2.2.2.length c0_12] := by simpa using Bk.new w 90 #[.int .i64 x0.1.1, .slice A0_1 x0.1.2.1.length c0_1, .slice A0_2 x0.1.2.2.length c0_2, .int .i64 x0.2.1.1, .int .i64 x0.2.1.2.1, .int .i64 x0.2.1.2.2.1, .slice A0_6 x0.2.1.2.2.2.length c0_6, .int .i64 x0.2.2.1.1, .int .i64 x0.2.2.1.2.1, .int .i64 x0.2.2.1.2.2.1, .slice A0_10 x0.2.2.1.2.2.2.length c0_10, .slice A0_11 x0.2.2.2.1.length c0_11, .slice A0_12 x0.2.2.2.2.length c0_12]
  have uu0 : Up w (w.alloc (.cells #[.int .i64 x0.1.1, .slice A0_1 x0.1.2.1.length c0_1, .slice A0_2 x0.1.2.2.length c0_2, .int .i64 x0.2.1.1, .int .i64 x0.2.1.2.1, .int .i64 x0.2.1.2.2.1, .slice A0_6 x0.2.1.2.2.2.length c0_6, .int .i64 x0.2.2.1.1, .int .i64 x0.2.2.1.2.1, .int .i64 x0.2.2.1.2.2.1, .slice A0_10 x0.2.2.1.2.2.2.length c0_10, .slice A0_11 x0.2.2.2.1.length c0_11, .slice A0_12 x0.2.2.2.2.length c0_12] 90)) := (Up.refl w).alloc _
  go_enter Try.func13, Try.ntmps13
  go_wp2_with fail
  refine (c_szCache _ x0 _ _ (hv0.up good_Cache uu0) (by omega) (by omega)).mono ?_
  rintro e w1 ⟨rfl, u1⟩
  have uu1 := uu0.trans u1
  have ka0_1 := ka0_0.up u1
  by_cases q0 : ¬ ((shCache.sz x0 : Nat) : Int) ≤ 1048576
  · rw [szR_no (by omega)]
    go_wp2_with fail
    go_ret
    exact ⟨rfl, uu1⟩
  replace q0 := Decidable.of_not_not q0
  rw [szR_yes q0]
  have ga0_1_0 : w1.cell? ⟨w.heap.size, 0, none⟩ = some (.int .i64 x0.1.1) := ka0_1.cell 0
  have ga0_1_1 : w1.cell? ⟨w.heap.size, 1, none⟩ = some (.slice A0_1 x0.1.2.1.length c0_1) := ka0_1.cell 1
  have ga0_1_2 : w1.cell? ⟨w.heap.size, 2, none⟩ = some (.slice A0_2 x0.1.2.2.length c0_2) := ka0_1.cell 2
  have ga0_1_3 : w1.cell? ⟨w.heap.size, 3, none⟩ = some (.int .i64 x0.2.1.1) := ka0_1.cell 3
  have ga0_1_4 : w1.cell? ⟨w.heap.size, 4, none⟩ = some (.int .i64 x0.2.1.2.1) := ka0_1.cell 4
  have ga0_1_5 : w1.cell? ⟨w.heap.size, 5, none⟩ = some (.int .i64 x0.2.1.2.2.1) := ka0_1.cell 5
  have ga0_1_6 : w1.cell? ⟨w.heap.size, 6, none⟩ = some (.slice A0_6 x0.2.1.2.2.2.length c0_6) := ka0_1.cell 6
  have ga0_1_7 : w1.cell? ⟨w.heap.size, 7, none⟩ = some (.int .i64 x0.2.2.1.1) := ka0_1.cell 7
  have ga0_1_8 : w1.cell? ⟨w.heap.size, 8, none⟩ = some (.int .i64 x0.2.2.1.2.1) := ka0_1.cell 8
  have ga0_1_9 : w1.cell? ⟨w.heap.size, 9, none⟩ = some (.int .i64 x0.2.2.1.2.2.1) := ka0_1.cell 9
  have ga0_1_10 : w1.cell? ⟨w.heap.size, 10, none⟩ = some (.slice A0_10 x0.2.2.1.2.2.2.length c0_10) := ka0_1.cell 10
  have ga0_1_11 : w1.cell? ⟨w.heap.size, 11, none⟩ = some (.slice A0_11 x0.2.2.2.1.length c0_11) := ka0_1.cell 11
  have ga0_1_12 : w1.cell? ⟨w.heap.size, 12, none⟩ = some (.slice A0_12 x0.2.2.2.2.length c0_12) := ka0_1.cell 12
  have za0_1 := ka0_1.lt
  clear u1
  go_wp2_with fail
  have hn0 : shCache.sz x0 ≤ 1048576 := by omega
  refine (c_toCache _ x0 _ (hv0.up good_Cache uu1) hn0).mono ?_
  rintro e w2 ⟨csp0, blp0, rfl, op0, ndp0, u2⟩
  have uu2 := uu1.trans u2
  have ka0_2 := ka0_1.up u2
  have y0_2 := AV.of_own good_Cache op0
  have ga0_2_0 : w2.cell? ⟨w.heap.size, 0, none⟩ = some (.int .i64 x0.1.1) := ka0_2.cell 0
  have ga0_2_1 : w2.cell? ⟨w.heap.size, 1, none⟩ = some (.slice A0_1 x0.1.2.1.length c0_1) := ka0_2.cell 1
  have ga0_2_2 : w2.cell? ⟨w.heap.size, 2, none⟩ = some (.slice A0_2 x0.1.2.2.length c0_2) := ka0_2.cell 2
  have ga0_2_3 : w2.cell? ⟨w.heap.size, 3, none⟩ = some (.int .i64 x0.2.1.1) := ka0_2.cell 3
  have ga0_2_4 : w2.cell? ⟨w.heap.size, 4, none⟩ = some (.int .i64 x0.2.1.2.1) := ka0_2.cell 4
  have ga0_2_5 : w2.cell? ⟨w.heap.size, 5, none⟩ = some (.int .i64 x0.2.1.2.2.1) := ka0_2.cell 5
  have ga0_2_6 : w2.cell? ⟨w.heap.size, 6, none⟩ = some (.slice A0_6 x0.2.1.2.2.2.length c0_6) := ka0_2.cell 6
  have ga0_2_7 : w2.cell? ⟨w.heap.size, 7, none⟩ = some (.int .i64 x0.2.2.1.1) := ka0_2.cell 7
  have ga0_2_8 : w2.cell? ⟨w.heap.size, 8, none⟩ = some (.int .i64 x0.2.2.1.2.1) := ka0_2.cell 8
  have ga0_2_9 : w2.cell? ⟨w.heap.size, 9, none⟩ = some (.int .i64 x0.2.2.1.2.2.1) := ka0_2.cell 9
  have ga0_2_10 : w2.cell? ⟨w.heap.size, 10, none⟩ = some (.slice A0_10 x0.2.2.1.2.2.2.length c0_10) := ka0_2.cell 10
  have ga0_2_11 : w2.cell? ⟨w.heap.size, 11, none⟩ = some (.slice A0_11 x0.2.2.2.1.length c0_11) := ka0_2.cell 11
  have ga0_2_12 : w2.cell? ⟨w.heap.size, 12, none⟩ = some (.slice A0_12 x0.2.2.2.2.length c0_12) := ka0_2.cell 12
  have za0_2 := ka0_2.lt
  clear ga0_1_0 ga0_1_1 ga0_1_2 ga0_1_3 ga0_1_4 ga0_1_5 ga0_1_6 ga0_1_7 ga0_1_8 ga0_1_9 ga0_1_10 ga0_1_11 ga0_1_12 za0_1
  go_wp2_with fail
  refine (cs_CacheOk _ x0 _ y0_2 hn0).mono ?_
  rintro e w3 ⟨rfl, u3⟩
  have uu3 := uu2.trans u3
  have ka0_3 := ka0_2.up u3
  have ga0_3_0 : w3.cell? ⟨w.heap.size, 0, none⟩ = some (.int .i64 x0.1.1) := ka0_3.cell 0
  have ga0_3_1 : w3.cell? ⟨w.heap.size, 1, none⟩ = some (.slice A0_1 x0.1.2.1.length c0_1) := ka0_3.cell 1
  have ga0_3_2 : w3.cell? ⟨w.heap.size, 2, none⟩ = some (.slice A0_2 x0.1.2.2.length c0_2) := ka0_3.cell 2
  have ga0_3_3 : w3.cell? ⟨w.heap.size, 3, none⟩ = some (.int .i64 x0.2.1.1) := ka0_3.cell 3
  have ga0_3_4 : w3.cell? ⟨w.heap.size, 4, none⟩ = some (.int .i64 x0.2.1.2.1) := ka0_3.cell 4
  have ga0_3_5 : w3.cell? ⟨w.heap.size, 5, none⟩ = some (.int .i64 x0.2.1.2.2.1) := ka0_3.cell 5
  have ga0_3_6 : w3.cell? ⟨w.heap.size, 6, none⟩ = some (.slice A0_6 x0.2.1.2.2.2.length c0_6) := ka0_3.cell 6
  have ga0_3_7 : w3.cell? ⟨w.heap.size, 7, none⟩ = some (.int .i64 x0.2.2.1.1) := ka0_3.cell 7
  have ga0_3_8 : w3.cell? ⟨w.heap.size, 8, none⟩ = some (.int .i64 x0.2.2.1.2.1) := ka0_3.cell 8
  have ga0_3_9 : w3.cell? ⟨w.heap.size, 9, none⟩ = some (.int .i64 x0.2.2.1.2.2.1) := ka0_3.cell 9
  have ga0_3_10 : w3.cell? ⟨w.heap.size, 10, none⟩ = some (.slice A0_10 x0.2.2.1.2.2.2.length c0_10) := ka0_3.cell 10
  have ga0_3_11 : w3.cell? ⟨w.heap.size, 11, none⟩ = some (.slice A0_11 x0.2.2.2.1.length c0_11) := ka0_3.cell 11
  have ga0_3_12 : w3.cell? ⟨w.heap.size, 12, none⟩ = some (.slice A0_12 x0.2.2.2.2.length c0_12) := ka0_3.cell 12
  have za0_3 := ka0_3.lt
  clear ga0_2_0 ga0_2_1 ga0_2_2 ga0_2_3 ga0_2_4 ga0_2_5 ga0_2_6 ga0_2_7 ga0_2_8 ga0_2_9 ga0_2_10 ga0_2_11 ga0_2_12 za0_2
  go_wp2_with fail
  refine (c_toCache _ x0 _ (hv0.up good_Cache uu3) hn0).mono ?_
  rintro e w4 ⟨csx0, blx0, rfl, ox0, ndx0, u4⟩
  have uu4 := uu3.trans u4
  have ka0_4 := ka0_3.up u4
  have y0_4 := AV.of_own good_Cache ox0
  obtain ⟨D0_1, d0_1, _, D0_2, d0_2, _, D0_6, d0_6, _, D0_10, d0_10, _, D0_11, d0_11, _, D0_12, d0_12, _, rfl, _, _⟩ := openOCache ox0
  have ga0_4_0 : w4.cell? ⟨w.heap.size, 0, none⟩ = some (.int .i64 x0.1.1) := ka0_4.cell 0
  have ga0_4_1 : w4.cell? ⟨w.heap.size, 1, none⟩ = some (.slice A0_1 x0.1.2.1.length c0_1) := ka0_4.cell 1
  have ga0_4_2 : w4.cell? ⟨w.heap.size, 2, none⟩ = some (.slice A0_2 x0.1.2.2.length c0_2) := ka0_4.cell 2
  have ga0_4_3 : w4.cell? ⟨w.heap.size, 3, none⟩ = some (.int .i64 x0.2.1.1) := ka0_4.cell 3
  have ga0_4_4 : w4.cell? ⟨w.heap.size, 4, none⟩ = some (.int .i64 x0.2.1.2.1) := ka0_4.cell 4
  have ga0_4_5 : w4.cell? ⟨w.heap.size, 5, none⟩ = some (.int .i64 x0.2.1.2.2.1) := ka0_4.cell 5
  have ga0_4_6 : w4.cell? ⟨w.heap.size, 6, none⟩ = some (.slice A0_6 x0.2.1.2.2.2.length c0_6) := ka0_4.cell 6
  have ga0_4_7 : w4.cell? ⟨w.heap.size, 7, none⟩ = some (.int .i64 x0.2.2.1.1) := ka0_4.cell 7
  have ga0_4_8 : w4.cell? ⟨w.heap.size, 8, none⟩ = some (.int .i64 x0.2.2.1.2.1) := ka0_4.cell 8
  have ga0_4_9 : w4.cell? ⟨w.heap.size, 9, none⟩ = some (.int .i64 x0.2.2.1.2.2.1) := ka0_4.cell 9
  have ga0_4_10 : w4.cell? ⟨w.heap.size, 10, none⟩ = some (.slice A0_10 x0.2.2.1.2.2.2.length c0_10) := ka0_4.cell 10
  have ga0_4_11 : w4.cell? ⟨w.heap.size, 11, none⟩ = some (.slice A0_11 x0.2.2.2.1.length c0_11) := ka0_4.cell 11
  have ga0_4_12 : w4.cell? ⟨w.heap.size, 12, none⟩ = some (.slice A0_12 x0.2.2.2.2.length c0_12) := ka0_4.cell 12
  have za0_4 := ka0_4.lt
  clear ga0_3_0 ga0_3_1 ga0_3_2 ga0_3_3 ga0_3_4 ga0_3_5 ga0_3_6 ga0_3_7 ga0_3_8 ga0_3_9 ga0_3_10 ga0_3_11 ga0_3_12 za0_3
  have ka0_4b := ka0_4.alloc (.cells #[.int .i64 x0.1.1, .slice D0_1 x0.1.2.1.length d0_1, .slice D0_2 x0.1.2.2.length d0_2, .int .i64 x0.2.1.1, .int .i64 x0.2.1.2.1, .int .i64 x0.2.1.2.2.1, .slice D0_6 x0.2.1.2.2.2.length d0_6, .int .i64 x0.2.2.1.1, .int .i64 x0.2.2.1.2.1, .int .i64 x0.2.2.1.2.2.1, .slice D0_10 x0.2.2.1.2.2.2.length d0_10, .slice D0_11 x0.2.2.2.1.length d0_11, .slice D0_12 x0.2.2.2.2.length d0_12] 94)
  have kx0_4b : Bk (w4.alloc (.cells #[.int .i64 x0.1.1, .slice D0_1 x0.1.2.1.length d0_1, .slice D0_2 x0.1.2.2.length d0_2, .int .i64 x0.2.1.1, .int .i64 x0.2.1.2.1, .int .i64 x0.2.1.2.2.1, .slice D0_6 x0.2.1.2.2.2.length d0_6, .int .i64 x0.2.2.1.1, .int .i64 x0.2.2.1.2.1, .int .i64 x0.2.2.1.2.2.1, .slice D0_10 x0.2.2.1.2.2.2.length d0_10, .slice D0_11 x0.2.2.2.1.length d0_11, .slice D0_12 x0.2.2.2.2.length d0_12] 94)) w4.heap.size 94 #[.int .i64 x0.1.1, .slice D0_1 x0.1.2.1.length d0_1, .slice D0_2 x0.1.2.2.length d0_2, .int .i64 x0.2.1.1, .int .i64 x0.2.1.2.1, .int .i64 x0.2.1.2.2.1, .slice D0_6 x0.2.1.2.2.2.length d0_6, .int .i64 x0.2.2.1.1, .int .i64 x0.2.2.1.2.1, .int .i64 x0.2.2.1.2.2.1, .slice D0_10 x0.2.2.1.2.2.2.length d0_10, .slice D0_11 x0.2.2.2.1.length d0_11, .slice D0_12 x0.2.2.2.2.length d0_12] := Bk.new _ _ _
  have uu4b := uu4.alloc (.cells #[.int .i64 x0.1.1, .slice D0_1 x0.1.2.1.length d0_1, .slice D0_2 x0.1.2.2.length d0_2, .int .i64 x0.2.1.1, .int .i64 x0.2.1.2.1, .int .i64 x0.2.1.2.2.1, .slice D0_6 x0.2.1.2.2.2.length d0_6, .int .i64 x0.2.2.1.1, .int .i64 x0.2.2.1.2.1, .int .i64 x0.2.2.1.2.2.1, .slice D0_10 x0.2.2.1.2.2.2.length d0_10, .slice D0_11 x0.2.2.2.1.length d0_11, .slice D0_12 x0.2.2.2.2.length d0_12] 94)
  have y0_4b := y0_4.up good_Cache ((Up.refl _).alloc (.cells #[.int .i64 x0.1.1, .slice D0_1 x0.1.2.1.length d0_1, .slice D0_2 x0.1.2.2.length d0_2, .int .i64 x0.2.1.1, .int .i64 x0.2.1.2.1, .int .i64 x0.2.1.2.2.1, .slice D0_6 x0.2.1.2.2.2.length d0_6, .int .i64 x0.2.2.1.1, .int .i64 x0.2.2.1.2.1, .int .i64 x0.2.2.1.2.2.1, .slice D0_10 x0.2.2.1.2.2.2.length d0_10, .slice D0_11 x0.2.2.2.1.length d0_11, .slice D0_12 x0.2.2.2.2.length d0_12] 94))
  go_wp2_with fail
  refine (ci_CacheOk _ x0 _ y0_4b hn0).mono ?_
  rintro e w5 ⟨rfl, u5⟩
  have uu5 := uu4b.trans u5
  have ka0_5 := ka0_4b.up u5
  have kx0_5 := kx0_4b.up u5
  have y0_5 := y0_4b.up good_Cache u5
  have ga0_5_0 : w5.cell? ⟨w.heap.size, 0, none⟩ = some (.int .i64 x0.1.1) := ka0_5.cell 0
  have ga0_5_1 : w5.cell? ⟨w.heap.size, 1, none⟩ = some (.slice A0_1 x0.1.2.1.length c0_1) := ka0_5.cell 1
  have ga0_5_2 : w5.cell? ⟨w.heap.size, 2, none⟩ = some (.slice A0_2 x0.1.2.2.length c0_2) := ka0_5.cell 2
  have ga0_5_3 : w5.cell? ⟨w.heap.size, 3, none⟩ = some (.int .i64 x0.2.1.1) := ka0_5.cell 3
  have ga0_5_4 : w5.cell? ⟨w.heap.size, 4, none⟩ = some (.int .i64 x0.2.1.2.1) := ka0_5.cell 4
  have ga0_5_5 : w5.cell? ⟨w.heap.size, 5, none⟩ = some (.int .i64 x0.2.1.2.2.1) := ka0_5.cell 5
  have ga0_5_6 : w5.cell? ⟨w.heap.size, 6, none⟩ = some (.slice A0_6 x0.2.1.2.2.2.length c0_6) := ka0_5.cell 6
  have ga0_5_7 : w5.cell? ⟨w.heap.size, 7, none⟩ = some (.int .i64 x0.2.2.1.1) := ka0_5.cell 7
  have ga0_5_8 : w5.cell? ⟨w.heap.size, 8, none⟩ = some (.int .i64 x0.2.2.1.2.1) := ka0_5.cell 8
  have ga0_5_9 : w5.cell? ⟨w.heap.size, 9, none⟩ = some (.int .i64 x0.2.2.1.2.2.1) := ka0_5.cell 9
  have ga0_5_10 : w5.cell? ⟨w.heap.size, 10, none⟩ = some (.slice A0_10 x0.2.2.1.2.2.2.length c0_10) := ka0_5.cell 10
  have ga0_5_11 : w5.cell? ⟨w.heap.size, 11, none⟩ = some (.slice A0_11 x0.2.2.2.1.length c0_11) := ka0_5.cell 11
  have ga0_5_12 : w5.cell? ⟨w.heap.size, 12, none⟩ = some (.slice A0_12 x0.2.2.2.2.length c0_12) := ka0_5.cell 12
  have za0_5 := ka0_5.lt
  have gx0_5_0 : w5.cell? ⟨w4.heap.size, 0, none⟩ = some (.int .i64 x0.1.1) := kx0_5.cell 0
  have gx0_5_1 : w5.cell? ⟨w4.heap.size, 1, none⟩ = some (.slice D0_1 x0.1.2.1.length d0_1) := kx0_5.cell 1
  have gx0_5_2 : w5.cell? ⟨w4.heap.size, 2, none⟩ = some (.slice D0_2 x0.1.2.2.length d0_2) := kx0_5.cell 2
  have gx0_5_3 : w5.cell? ⟨w4.heap.size, 3, none⟩ = some (.int .i64 x0.2.1.1) := kx0_5.cell 3
  have gx0_5_4 : w5.cell? ⟨w4.heap.size, 4, none⟩ = some (.int .i64 x0.2.1.2.1) := kx0_5.cell 4
  have gx0_5_5 : w5.cell? ⟨w4.heap.size, 5, none⟩ = some (.int .i64 x0.2.1.2.2.1) := kx0_5.cell 5
  have gx0_5_6 : w5.cell? ⟨w4.heap.size, 6, none⟩ = some (.slice D0_6 x0.2.1.2.2.2.length d0_6) := kx0_5.cell 6
  have gx0_5_7 : w5.cell? ⟨w4.heap.size, 7, none⟩ = some (.int .i64 x0.2.2.1.1) := kx0_5.cell 7
  have gx0_5_8 : w5.cell? ⟨w4.heap.size, 8, none⟩ = some (.int .i64 x0.2.2.1.2.1) := kx0_5.cell 8
  have gx0_5_9 : w5.cell? ⟨w4.heap.size, 9, none⟩ = some (.int .i64 x0.2.2.1.2.2.1) := kx0_5.cell 9
  have gx0_5_10 : w5.cell? ⟨w4.heap.size, 10, none⟩ = some (.slice D0_10 x0.2.2.1.2.2.2.length d0_10) := kx0_5.cell 10
  have gx0_5_11 : w5.cell? ⟨w4.heap.size, 11, none⟩ = some (.slice D0_11 x0.2.2.2.1.length d0_11) := kx0_5.cell 11
  have gx0_5_12 : w5.cell? ⟨w4.heap.size, 12, none⟩ = some (.slice D0_12 x0.2.2.2.2.length d0_12) := kx0_5.cell 12
  have zx0_5 := kx0_5.lt
  clear ga0_4_0 ga0_4_1 ga0_4_2 ga0_4_3 ga0_4_4 ga0_4_5 ga0_4_6 ga0_4_7 ga0_4_8 ga0_4_9 ga0_4_10 ga0_4_11 ga0_4_12 za0_4
  go_wp2_with fail
  go_region_held3 (fun W => W.cell? ⟨w.heap.size, 0, none⟩ = some (.int .i64 x0.1.1) ∧ W.cell? ⟨w.heap.size, 1, none⟩ = some (.slice A0_1 x0.1.2.1.length c0_1) ∧ W.cell? ⟨w.heap.size, 2, none⟩ = some (.slice A0_2 x0.1.2.2.length c0_2) ∧ W.cell? ⟨w.heap.size, 3, none⟩ = some (.int .i64 x0.2.1.1) ∧ W.cell? ⟨w.heap.size, 4, none⟩ = some (.int .i64 x0.2.1.2.1) ∧ W.cell? ⟨w.heap.size, 5, none⟩ = some (.int .i64 x0.2.1.2.2.1) ∧ W.cell? ⟨w.heap.size, 6, none⟩ = some (.slice A0_6 x0.2.1.2.2.2.length c0_6) ∧ W.cell? ⟨w.heap.size, 7, none⟩ = some (.int .i64 x0.2.2.1.1) ∧ W.cell? ⟨w.heap.size, 8, none⟩ = some (.int .i64 x0.2.2.1.2.1) ∧ W.cell? ⟨w.heap.size, 9, none⟩ = some (.int .i64 x0.2.2.1.2.2.1) ∧ W.cell? ⟨w.heap.size, 10, none⟩ = some (.slice A0_10 x0.2.2.1.2.2.2.length c0_10) ∧ W.cell? ⟨w.heap.size, 11, none⟩ = some (.slice A0_11 x0.2.2.2.1.length c0_11) ∧ W.cell? ⟨w.heap.size, 12, none⟩ = some (.slice A0_12 x0.2.2.2.2.length c0_12) ∧ W.cell? ⟨w4.heap.size, 0, none⟩ = some (.int .i64 x0.1.1) ∧ W.cell? ⟨w4.heap.size, 1, none⟩ = some (.slice D0_1 x0.1.2.1.length d0_1) ∧ W.cell? ⟨w4.heap.size, 2, none⟩ = some (.slice D0_2 x0.1.2.2.length d0_2) ∧ W.cell? ⟨w4.heap.size, 3, none⟩ = some (.int .i64 x0.2.1.1) ∧ W.cell? ⟨w4.heap.size, 4, none⟩ = some (.int .i64 x0.2.1.2.1) ∧ W.cell? ⟨w4.heap.size, 5, none⟩ = some (.int .i64 x0.2.1.2.2.1) ∧ W.cell? ⟨w4.heap.size, 6, none⟩ = some (.slice D0_6 x0.2.1.2.2.2.length d0_6) ∧ W.cell? ⟨w4.heap.size, 7, none⟩ = some (.int .i64 x0.2.2.1.1) ∧ W.cell? ⟨w4.heap.size, 8, none⟩ = some (.int .i64 x0.2.2.1.2.1) ∧ W.cell? ⟨w4.heap.size, 9, none⟩ = some (.int .i64 x0.2.2.1.2.2.1) ∧ W.cell? ⟨w4.heap.size, 10, none⟩ = some (.slice D0_10 x0.2.2.1.2.2.2.length d0_10) ∧ W.cell? ⟨w4.heap.size, 11, none⟩ = some (.slice D0_11 x0.2.2.2.1.length d0_11) ∧ W.cell? ⟨w4.heap.size, 12, none⟩ = some (.slice D0_12 x0.2.2.2.2.length d0_12)) (first | exact ⟨ka0_5.cell 0, ka0_5.cell 1, ka0_5.cell 2, ka0_5.cell 3, ka0_5.cell 4, ka0_5.cell 5, ka0_5.cell 6, ka0_5.cell 7, ka0_5.cell 8, ka0_5.cell 9, ka0_5.cell 10, ka0_5.cell 11, ka0_5.cell 12, kx0_5.cell 0, kx0_5.cell 1, kx0_5.cell 2, kx0_5.cell 3, kx0_5.cell 4, kx0_5.cell 5, kx0_5.cell 6, kx0_5.cell 7, kx0_5.cell 8, kx0_5.cell 9, kx0_5.cell 10, kx0_5.cell 11, kx0_5.cell 12⟩ | exact ⟨ka0_e0.cell 0, ka0_e0.cell 1, ka0_e0.cell 2, ka0_e0.cell 3, ka0_e0.cell 4, ka0_e0.cell 5, ka0_e0.cell 6, ka0_e0.cell 7, ka0_e0.cell 8, ka0_e0.cell 9, ka0_e0.cell 10, ka0_e0.cell 11, ka0_e0.cell 12, kx0_e0.cell 0, kx0_e0.cell 1, kx0_e0.cell 2, kx0_e0.cell 3, kx0_e0.cell 4, kx0_e0.cell 5, kx0_e0.cell 6, kx0_e0.cell 7, kx0_e0.cell 8, kx0_e0.cell 9, kx0_e0.cell 10, kx0_e0.cell 11, kx0_e0.cell 12⟩ | exact ⟨ka0_6.cell 0, ka0_6.cell 1, ka0_6.cell 2, ka0_6.cell 3, ka0_6.cell 4, ka0_6.cell 5, ka0_6.cell 6, ka0_6.cell 7, ka0_6.cell 8, ka0_6.cell 9, ka0_6.cell 10, ka0_6.cell 11, ka0_6.cell 12, kx0_6.cell 0, kx0_6.cell 1, kx0_6.cell 2, kx0_6.cell 3, kx0_6.cell 4, kx0_6.cell 5, kx0_6.cell 6, kx0_6.cell 7, kx0_6.cell 8, kx0_6.cell 9, kx0_6.cell 10, kx0_6.cell 11, kx0_6.cell 12⟩) (first | (go_at_call 55; (with_reducible refine (c_toCache _ x0 _ (hv0.up good_Cache uu5.drew) hn0).mono ?_); rintro e we0 ⟨cse0, ble0, rfl, oe0, nde0, ue0⟩; have uue0 := uu5.drew.trans ue0; have ka0_e0 := ka0_5.drew.up ue0; have kx0_e0 := kx0_5.drew.up ue0; have y0_e0 := (y0_5.up good_Cache (Up.refl _).drew).up good_Cache ue0; have yc0 := AV.of_own good_Cache oe0) | (go_at_call 57; (with_reducible refine (c_eqCache _ _ x0 x0 _ y0_e0 yc0).mono ?_); rintro e w6 ⟨be0, rfl, hbe0, u6⟩; have uu6 := uue0.trans u6; have ka0_6 := ka0_e0.up u6; have kx0_6 := kx0_e0.up u6))
  have y0_6 := y0_5.up good_Cache (((Up.refl w5).drew.trans ue0).trans u6)
  obtain rfl : be0 = true := by simpa using hbe0
  clear hbe0
  have ga0_6_0 : w6.cell? ⟨w.heap.size, 0, none⟩ = some (.int .i64 x0.1.1) := ka0_6.cell 0
  have ga0_6_1 : w6.cell? ⟨w.heap.size, 1, none⟩ = some (.slice A0_1 x0.1.2.1.length c0_1) := ka0_6.cell 1
  have ga0_6_2 : w6.cell? ⟨w.heap.size, 2, none⟩ = some (.slice A0_2 x0.1.2.2.length c0_2) := ka0_6.cell 2
  have ga0_6_3 : w6.cell? ⟨w.heap.size, 3, none⟩ = some (.int .i64 x0.2.1.1) := ka0_6.cell 3
  have ga0_6_4 : w6.cell? ⟨w.heap.size, 4, none⟩ = some (.int .i64 x0.2.1.2.1) := ka0_6.cell 4
  have ga0_6_5 : w6.cell? ⟨w.heap.size, 5, none⟩ = some (.int .i64 x0.2.1.2.2.1) := ka0_6.cell 5
  have ga0_6_6 : w6.cell? ⟨w.heap.size, 6, none⟩ = some (.slice A0_6 x0.2.1.2.2.2.length c0_6) := ka0_6.cell 6
  have ga0_6_7 : w6.cell? ⟨w.heap.size, 7, none⟩ = some (.int .i64 x0.2.2.1.1) := ka0_6.cell 7
  have ga0_6_8 : w6.cell? ⟨w.heap.size, 8, none⟩ = some (.int .i64 x0.2.2.1.2.1) := ka0_6.cell 8
  have ga0_6_9 : w6.cell? ⟨w.heap.size, 9, none⟩ = some (.int .i64 x0.2.2.1.2.2.1) := ka0_6.cell 9
  have ga0_6_10 : w6.cell? ⟨w.heap.size, 10, none⟩ = some (.slice A0_10 x0.2.2.1.2.2.2.length c0_10) := ka0_6.cell 10
  have ga0_6_11 : w6.cell? ⟨w.heap.size, 11, none⟩ = some (.slice A0_11 x0.2.2.2.1.length c0_11) := ka0_6.cell 11
  have ga0_6_12 : w6.cell? ⟨w.heap.size, 12, none⟩ = some (.slice A0_12 x0.2.2.2.2.length c0_12) := ka0_6.cell 12
  have za0_6 := ka0_6.lt
  have gx0_6_0 : w6.cell? ⟨w4.heap.size, 0, none⟩ = some (.int .i64 x0.1.1) := kx0_6.cell 0
  have gx0_6_1 : w6.cell? ⟨w4.heap.size, 1, none⟩ = some (.slice D0_1 x0.1.2.1.length d0_1) := kx0_6.cell 1
  have gx0_6_2 : w6.cell? ⟨w4.heap.size, 2, none⟩ = some (.slice D0_2 x0.1.2.2.length d0_2) := kx0_6.cell 2
  have gx0_6_3 : w6.cell? ⟨w4.heap.size, 3, none⟩ = some (.int .i64 x0.2.1.1) := kx0_6.cell 3
  have gx0_6_4 : w6.cell? ⟨w4.heap.size, 4, none⟩ = some (.int .i64 x0.2.1.2.1) := kx0_6.cell 4
  have gx0_6_5 : w6.cell? ⟨w4.heap.size, 5, none⟩ = some (.int .i64 x0.2.1.2.2.1) := kx0_6.cell 5
  have gx0_6_6 : w6.cell? ⟨w4.heap.size, 6, none⟩ = some (.slice D0_6 x0.2.1.2.2.2.length d0_6) := kx0_6.cell 6
  have gx0_6_7 : w6.cell? ⟨w4.heap.size, 7, none⟩ = some (.int .i64 x0.2.2.1.1) := kx0_6.cell 7
  have gx0_6_8 : w6.cell? ⟨w4.heap.size, 8, none⟩ = some (.int .i64 x0.2.2.1.2.1) := kx0_6.cell 8
  have gx0_6_9 : w6.cell? ⟨w4.heap.size, 9, none⟩ = some (.int .i64 x0.2.2.1.2.2.1) := kx0_6.cell 9
  have gx0_6_10 : w6.cell? ⟨w4.heap.size, 10, none⟩ = some (.slice D0_10 x0.2.2.1.2.2.2.length d0_10) := kx0_6.cell 10
  have gx0_6_11 : w6.cell? ⟨w4.heap.size, 11, none⟩ = some (.slice D0_11 x0.2.2.2.1.length d0_11) := kx0_6.cell 11
  have gx0_6_12 : w6.cell? ⟨w4.heap.size, 12, none⟩ = some (.slice D0_12 x0.2.2.2.2.length d0_12) := kx0_6.cell 12
  have zx0_6 := kx0_6.lt
  clear ga0_5_0 ga0_5_1 ga0_5_2 ga0_5_3 ga0_5_4 ga0_5_5 ga0_5_6 ga0_5_7 ga0_5_8 ga0_5_9 ga0_5_10 ga0_5_11 ga0_5_12 za0_5 gx0_5_0 gx0_5_1 gx0_5_2 gx0_5_3 gx0_5_4 gx0_5_5 gx0_5_6 gx0_5_7 gx0_5_8 gx0_5_9 gx0_5_10 gx0_5_11 gx0_5_12 zx0_5
  go_wp2_with fail
  go_ret
  exact ⟨rfl, uu6⟩
end Go.Proofs.Ytafabcabffeikaa
