/-
  The walk of FnExactReplicaOk: for every input it returns true.
-/
import Derived.Test.YtanjmolgpkffoaaGreatDoorM1Rk
import Derived.Deep.RegionHeld3
namespace Go.Proofs.YtanjmolgpkffoaaGreatDoor
open Go.RowKit
set_option linter.unusedVariables false
set_option linter.unusedSimpArgs false

set_option maxRecDepth 100000 in
set_option maxHeartbeats 8000000 in
theorem w0_FnExactReplicaOk (w : World) (v0 : Value) (x0 : TReplica) (h0 : AV shReplica w v0 x0) (htab : Tab w) :
    Calls Tryz.prog 6 #[v0] w fun e w' => e = .returned (.bool true) ∧ Up w w' := by
  have hv0 := h0
  obtain ⟨cs0, rfl, h0⟩ := h0
  obtain ⟨A0_0, c0_0, A0_2, c0_2, rfl, _⟩ := openReplica h0
  clear h0
  have ka0_0 : Bk (w.alloc (.cells #[.slice A0_0 x0.1.length c0_0, .int .i64 x0.2.1, .slice A0_2 x0.2.2.length c0_2] 56)) (w.heap.size) 56 #[.slice A0_0 x0.1.length c0_0, .int .i64 x0.2.1, .slice A0_2 x0.2.2.length c0_2] := by simpa using Bk.new w 56 #[.slice A0_0 x0.1.length c0_0, .int .i64 x0.2.1, .slice A0_2 x0.2.2.length c0_2]
  have uu0 : Up w (w.alloc (.cells #[.slice A0_0 x0.1.length c0_0, .int .i64 x0.2.1, .slice A0_2 x0.2.2.length c0_2] 56)) := (Up.refl w).alloc _
  go_enter Tryz.func6, Tryz.ntmps6
  go_wp2_with fail
  refine (c_szReplica _ x0 _ _ (hv0.up good_Replica uu0) (by omega) (by omega)).mono ?_
  rintro e w1 ⟨rfl, u1⟩
  have uu1 := uu0.trans u1
  have ka0_1 := ka0_0.up u1
  by_cases q0 : ¬ ((shReplica.sz x0 : Nat) : Int) ≤ 1048576
  · rw [szR_no (by omega)]
    go_wp2_with fail
    go_ret
    exact ⟨rfl, uu1⟩
  replace q0 := Decidable.of_not_not q0
  rw [szR_yes q0]
  have ga0_1_0 : w1.cell? ⟨w.heap.size, 0, none⟩ = some (.slice A0_0 x0.1.length c0_0) := ka0_1.cell 0
  have ga0_1_1 : w1.cell? ⟨w.heap.size, 1, none⟩ = some (.int .i64 x0.2.1) := ka0_1.cell 1
  have ga0_1_2 : w1.cell? ⟨w.heap.size, 2, none⟩ = some (.slice A0_2 x0.2.2.length c0_2) := ka0_1.cell 2
  have za0_1 := ka0_1.lt
  clear u1
  go_wp2_with fail
  have hn0 : shReplica.sz x0 ≤ 1048576 := by omega
  refine (c_toReplica _ x0 _ (hv0.up good_Replica uu1) hn0).mono ?_
  rintro e w2 ⟨csp0, blp0, rfl, op0, ndp0, u2⟩
  have uu2 := uu1.trans u2
  have ka0_2 := ka0_1.up u2
  have y0_2 := AV.of_own good_Replica op0
  have ga0_2_0 : w2.cell? ⟨w.heap.size, 0, none⟩ = some (.slice A0_0 x0.1.length c0_0) := ka0_2.cell 0
  have ga0_2_1 : w2.cell? ⟨w.heap.size, 1, none⟩ = some (.int .i64 x0.2.1) := ka0_2.cell 1
  have ga0_2_2 : w2.cell? ⟨w.heap.size, 2, none⟩ = some (.slice A0_2 x0.2.2.length c0_2) := ka0_2.cell 2
  have za0_2 := ka0_2.lt
  clear ga0_1_0 ga0_1_1 ga0_1_2 za0_1
  go_wp2_with fail
  refine (cs_ReplicaOk _ x0 _ y0_2 hn0).mono ?_
  rintro e w3 ⟨rfl, u3⟩
  have uu3 := uu2.trans u3
  have ka0_3 := ka0_2.up u3
  have ga0_3_0 : w3.cell? ⟨w.heap.size, 0, none⟩ = some (.slice A0_0 x0.1.length c0_0) := ka0_3.cell 0
  have ga0_3_1 : w3.cell? ⟨w.heap.size, 1, none⟩ = some (.int .i64 x0.2.1) := ka0_3.cell 1
  have ga0_3_2 : w3.cell? ⟨w.heap.size, 2, none⟩ = some (.slice A0_2 x0.2.2.length c0_2) := ka0_3.cell 2
  have za0_3 := ka0_3.lt
  clear ga0_2_0 ga0_2_1 ga0_2_2 za0_2
  go_wp2_with fail
  refine (c_toReplica _ x0 _ (hv0.up good_Replica uu3) hn0).mono ?_
  rintro e w4 ⟨csx0, blx0, rfl, ox0, ndx0, u4⟩
  have uu4 := uu3.trans u4
  have ka0_4 := ka0_3.up u4
  have y0_4 := AV.of_own good_Replica ox0
  obtain ⟨D0_0, d0_0, _, D0_2, d0_2, _, rfl, _, _⟩ := openOReplica ox0
  have ga0_4_0 : w4.cell? ⟨w.heap.size, 0, none⟩ = some (.slice A0_0 x0.1.length c0_0) := ka0_4.cell 0
  have ga0_4_1 : w4.cell? ⟨w.heap.size, 1, none⟩ = some (.int .i64 x0.2.1) := ka0_4.cell 1
  have ga0_4_2 : w4.cell? ⟨w.heap.size, 2, none⟩ = some (.slice A0_2 x0.2.2.length c0_2) := ka0_4.cell 2
  have za0_4 := ka0_4.lt
  clear ga0_3_0 ga0_3_1 ga0_3_2 za0_3
  have ka0_4b := ka0_4.alloc (.cells #[.slice D0_0 x0.1.length d0_0, .int .i64 x0.2.1, .slice D0_2 x0.2.2.length d0_2] 61)
  have kx0_4b : Bk (w4.alloc (.cells #[.slice D0_0 x0.1.length d0_0, .int .i64 x0.2.1, .slice D0_2 x0.2.2.length d0_2] 61)) w4.heap.size 61 #[.slice D0_0 x0.1.length d0_0, .int .i64 x0.2.1, .slice D0_2 x0.2.2.length d0_2] := Bk.new _ _ _
  have uu4b := uu4.alloc (.cells #[.slice D0_0 x0.1.length d0_0, .int .i64 x0.2.1, .slice D0_2 x0.2.2.length d0_2] 61)
  have y0_4b := y0_4.up good_Replica ((Up.refl _).alloc (.cells #[.slice D0_0 x0.1.length d0_0, .int .i64 x0.2.1, .slice D0_2 x0.2.2.length d0_2] 61))
  go_wp2_with fail
  refine (ci_ReplicaOk _ x0 _ y0_4b hn0 (tab_up htab uu4b)).mono ?_
  rintro e w5 ⟨rfl, u5⟩
  have uu5 := uu4b.trans u5
  have ka0_5 := ka0_4b.up u5
  have kx0_5 := kx0_4b.up u5
  have y0_5 := y0_4b.up good_Replica u5
  have ga0_5_0 : w5.cell? ⟨w.heap.size, 0, none⟩ = some (.slice A0_0 x0.1.length c0_0) := ka0_5.cell 0
  have ga0_5_1 : w5.cell? ⟨w.heap.size, 1, none⟩ = some (.int .i64 x0.2.1) := ka0_5.cell 1
  have ga0_5_2 : w5.cell? ⟨w.heap.size, 2, none⟩ = some (.slice A0_2 x0.2.2.length c0_2) := ka0_5.cell 2
  have za0_5 := ka0_5.lt
  have gx0_5_0 : w5.cell? ⟨w4.heap.size, 0, none⟩ = some (.slice D0_0 x0.1.length d0_0) := kx0_5.cell 0
  have gx0_5_1 : w5.cell? ⟨w4.heap.size, 1, none⟩ = some (.int .i64 x0.2.1) := kx0_5.cell 1
  have gx0_5_2 : w5.cell? ⟨w4.heap.size, 2, none⟩ = some (.slice D0_2 x0.2.2.length d0_2) := kx0_5.cell 2
  have zx0_5 := kx0_5.lt
  clear ga0_4_0 ga0_4_1 ga0_4_2 za0_4
  go_wp2_with fail
  go_region_held3 (fun W => W.cell? ⟨w.heap.size, 0, none⟩ = some (.slice A0_0 x0.1.length c0_0) ∧ W.cell? ⟨w.heap.size, 1, none⟩ = some (.int .i64 x0.2.1) ∧ W.cell? ⟨w.heap.size, 2, none⟩ = some (.slice A0_2 x0.2.2.length c0_2) ∧ W.cell? ⟨w4.heap.size, 0, none⟩ = some (.slice D0_0 x0.1.length d0_0) ∧ W.cell? ⟨w4.heap.size, 1, none⟩ = some (.int .i64 x0.2.1) ∧ W.cell? ⟨w4.heap.size, 2, none⟩ = some (.slice D0_2 x0.2.2.length d0_2)) (first | exact ⟨ka0_5.cell 0, ka0_5.cell 1, ka0_5.cell 2, kx0_5.cell 0, kx0_5.cell 1, kx0_5.cell 2⟩ | exact ⟨ka0_e0.cell 0, ka0_e0.cell 1, ka0_e0.cell 2, kx0_e0.cell 0, kx0_e0.cell 1, kx0_e0.cell 2⟩ | exact ⟨ka0_6.cell 0, ka0_6.cell 1, ka0_6.cell 2, kx0_6.cell 0, kx0_6.cell 1, kx0_6.cell 2⟩) (first | (go_at_call 31; (with_reducible refine (c_toReplica _ x0 _ (hv0.up good_Replica uu5.drew) hn0).mono ?_); rintro e we0 ⟨cse0, ble0, rfl, oe0, nde0, ue0⟩; have uue0 := uu5.drew.trans ue0; have ka0_e0 := ka0_5.drew.up ue0; have kx0_e0 := kx0_5.drew.up ue0; have y0_e0 := (y0_5.up good_Replica (Up.refl _).drew).up good_Replica ue0; have yc0 := AV.of_own good_Replica oe0) | (go_at_call 33; (with_reducible refine (c_eqReplica _ _ x0 x0 _ y0_e0 yc0).mono ?_); rintro e w6 ⟨be0, rfl, hbe0, u6⟩; have uu6 := uue0.trans u6; have ka0_6 := ka0_e0.up u6; have kx0_6 := kx0_e0.up u6))
  have y0_6 := y0_5.up good_Replica (((Up.refl w5).drew.trans ue0).trans u6)
  obtain rfl : be0 = true := by simpa using hbe0
  clear hbe0
  have ga0_6_0 : w6.cell? ⟨w.heap.size, 0, none⟩ = some (.slice A0_0 x0.1.length c0_0) := ka0_6.cell 0
  have ga0_6_1 : w6.cell? ⟨w.heap.size, 1, none⟩ = some (.int .i64 x0.2.1) := ka0_6.cell 1
  have ga0_6_2 : w6.cell? ⟨w.heap.size, 2, none⟩ = some (.slice A0_2 x0.2.2.length c0_2) := ka0_6.cell 2
  have za0_6 := ka0_6.lt
  have gx0_6_0 : w6.cell? ⟨w4.heap.size, 0, none⟩ = some (.slice D0_0 x0.1.length d0_0) := kx0_6.cell 0
  have gx0_6_1 : w6.cell? ⟨w4.heap.size, 1, none⟩ = some (.int .i64 x0.2.1) := kx0_6.cell 1
  have gx0_6_2 : w6.cell? ⟨w4.heap.size, 2, none⟩ = some (.slice D0_2 x0.2.2.length d0_2) := kx0_6.cell 2
  have zx0_6 := kx0_6.lt
  clear ga0_5_0 ga0_5_1 ga0_5_2 za0_5 gx0_5_0 gx0_5_1 gx0_5_2 zx0_5
  go_wp2_with fail
  go_ret
  exact ⟨rfl, uu6⟩
end Go.Proofs.YtanjmolgpkffoaaGreatDoor
