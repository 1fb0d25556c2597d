/-
  The walk of FnExactSameReplica: for every input it returns true.
-/
import Derived.Test.YtafabcabffeikaaSr
import Derived.Deep.RegionHeld3
namespace Go.Proofs.Ytafabcabffeikaa
open Go.RowKit
set_option linter.unusedVariables false
set_option linter.unusedSimpArgs false

set_option maxRecDepth 100000 in
set_option maxHeartbeats 8000000 in
theorem w0_FnExactSameReplica (w : World) (v0 : Value) (x0 : TReplica) (h0 : AV shReplica w v0 x0) (v1 : Value) (x1 : TReplica) (h1 : AV shReplica w v1 x1) :
    Calls Try.prog 12 #[v0, v1] w fun e w' => e = .returned (.bool true) ∧ Up w w' := by
  have hv0 := h0
  obtain ⟨cs0, rfl, h0⟩ := h0
  obtain ⟨A0_0, c0_0, A0_2, c0_2, rfl, _⟩ := openReplica h0
  clear h0
  have hv1 := h1
  obtain ⟨cs1, rfl, h1⟩ := h1
  obtain ⟨A1_0, c1_0, A1_2, c1_2, rfl, _⟩ := openReplica h1
  clear h1
  have ka0_0 : Bk ((w.alloc (.cells #[.slice A0_0 x0.1.length c0_0, .int .i64 x0.2.1, .slice A0_2 x0.2.2.length c0_2] 78)).alloc (.cells #[.slice A1_0 x1.1.length c1_0, .int .i64 x1.2.1, .slice A1_2 x1.2.2.length c1_2] 78)) (w.heap.size) 78 #[.slice A0_0 x0.1.length c0_0, .int .i64 x0.2.1, .slice A0_2 x0.2.2.length c0_2] := by simpa using (Bk.new w 78 #[.slice A0_0 x0.1.length c0_0, .int .i64 x0.2.1, .slice A0_2 x0.2.2.length c0_2]).alloc (.cells #[.slice A1_0 x1.1.length c1_0, .int .i64 x1.2.1, .slice A1_2 x1.2.2.length c1_2] 78)
  have ka1_0 : Bk ((w.alloc (.cells #[.slice A0_0 x0.1.length c0_0, .int .i64 x0.2.1, .slice A0_2 x0.2.2.length c0_2] 78)).alloc (.cells #[.slice A1_0 x1.1.length c1_0, .int .i64 x1.2.1, .slice A1_2 x1.2.2.length c1_2] 78)) (w.heap.size + 1) 78 #[.slice A1_0 x1.1.length c1_0, .int .i64 x1.2.1, .slice A1_2 x1.2.2.length c1_2] := by simpa using Bk.new (w.alloc (.cells #[.slice A0_0 x0.1.length c0_0, .int .i64 x0.2.1, .slice A0_2 x0.2.2.length c0_2] 78)) 78 #[.slice A1_0 x1.1.length c1_0, .int .i64 x1.2.1, .slice A1_2 x1.2.2.length c1_2]
  have uu0 : Up w ((w.alloc (.cells #[.slice A0_0 x0.1.length c0_0, .int .i64 x0.2.1, .slice A0_2 x0.2.2.length c0_2] 78)).alloc (.cells #[.slice A1_0 x1.1.length c1_0, .int .i64 x1.2.1, .slice A1_2 x1.2.2.length c1_2] 78)) := ((Up.refl w).alloc _).alloc _
  go_enter Try.func12, Try.ntmps12
  go_wp2_with fail
  refine (c_szReplica _ x0 _ _ (hv0.up good_Replica uu0) (by omega) (by omega)).mono ?_
  rintro e w1 ⟨rfl, u1⟩
  have uu1 := uu0.trans u1
  have ka0_1 := ka0_0.up u1
  have ka1_1 := ka1_0.up u1
  by_cases q0 : ¬ ((shReplica.sz x0 : Nat) : Int) ≤ 1048576
  · rw [szR_no (by omega)]
    go_wp2_with fail
    go_ret
    exact ⟨rfl, uu1⟩
  replace q0 := Decidable.of_not_not q0
  rw [szR_yes q0]
  have ga0_1_0 : w1.cell? ⟨w.heap.size, 0, none⟩ = some (.slice A0_0 x0.1.length c0_0) := ka0_1.cell 0
  have ga0_1_1 : w1.cell? ⟨w.heap.size, 1, none⟩ = some (.int .i64 x0.2.1) := ka0_1.cell 1
  have ga0_1_2 : w1.cell? ⟨w.heap.size, 2, none⟩ = some (.slice A0_2 x0.2.2.length c0_2) := ka0_1.cell 2
  have za0_1 := ka0_1.lt
  have ga1_1_0 : w1.cell? ⟨w.heap.size + 1, 0, none⟩ = some (.slice A1_0 x1.1.length c1_0) := ka1_1.cell 0
  have ga1_1_1 : w1.cell? ⟨w.heap.size + 1, 1, none⟩ = some (.int .i64 x1.2.1) := ka1_1.cell 1
  have ga1_1_2 : w1.cell? ⟨w.heap.size + 1, 2, none⟩ = some (.slice A1_2 x1.2.2.length c1_2) := ka1_1.cell 2
  have za1_1 := ka1_1.lt
  clear u1
  go_wp2_with fail
  refine (c_szReplica _ x1 _ _ (hv1.up good_Replica uu1) (by omega) (by omega)).mono ?_
  rintro e w2 ⟨rfl, u2⟩
  have uu2 := uu1.trans u2
  have ka0_2 := ka0_1.up u2
  have ka1_2 := ka1_1.up u2
  by_cases q1 : ¬ ((shReplica.sz x1 : Nat) : Int) ≤ 1048576 - (shReplica.sz x0 : Nat)
  · rw [szR_no (by omega)]
    go_wp2_with fail
    go_ret
    exact ⟨rfl, uu2⟩
  replace q1 := Decidable.of_not_not q1
  rw [szR_yes q1]
  have ga0_2_0 : w2.cell? ⟨w.heap.size, 0, none⟩ = some (.slice A0_0 x0.1.length c0_0) := ka0_2.cell 0
  have ga0_2_1 : w2.cell? ⟨w.heap.size, 1, none⟩ = some (.int .i64 x0.2.1) := ka0_2.cell 1
  have ga0_2_2 : w2.cell? ⟨w.heap.size, 2, none⟩ = some (.slice A0_2 x0.2.2.length c0_2) := ka0_2.cell 2
  have za0_2 := ka0_2.lt
  have ga1_2_0 : w2.cell? ⟨w.heap.size + 1, 0, none⟩ = some (.slice A1_0 x1.1.length c1_0) := ka1_2.cell 0
  have ga1_2_1 : w2.cell? ⟨w.heap.size + 1, 1, none⟩ = some (.int .i64 x1.2.1) := ka1_2.cell 1
  have ga1_2_2 : w2.cell? ⟨w.heap.size + 1, 2, none⟩ = some (.slice A1_2 x1.2.2.length c1_2) := ka1_2.cell 2
  have za1_2 := ka1_2.lt
  clear ga0_1_0 ga0_1_1 ga0_1_2 za0_1 ga1_1_0 ga1_1_1 ga1_1_2 za1_1
  clear u2
  go_wp2_with fail
  have hn0 : shReplica.sz x0 ≤ 1048576 := by omega
  have hn1 : shReplica.sz x1 ≤ 1048576 := by omega
  go_region_held3 (fun W => W.cell? ⟨w.heap.size, 0, none⟩ = some (.slice A0_0 x0.1.length c0_0) ∧ W.cell? ⟨w.heap.size, 1, none⟩ = some (.int .i64 x0.2.1) ∧ W.cell? ⟨w.heap.size, 2, none⟩ = some (.slice A0_2 x0.2.2.length c0_2) ∧ W.cell? ⟨w.heap.size + 1, 0, none⟩ = some (.slice A1_0 x1.1.length c1_0) ∧ W.cell? ⟨w.heap.size + 1, 1, none⟩ = some (.int .i64 x1.2.1) ∧ W.cell? ⟨w.heap.size + 1, 2, none⟩ = some (.slice A1_2 x1.2.2.length c1_2)) (first | exact ⟨ka0_2.cell 0, ka0_2.cell 1, ka0_2.cell 2, ka1_2.cell 0, ka1_2.cell 1, ka1_2.cell 2⟩ | exact ⟨ka0_p0.cell 0, ka0_p0.cell 1, ka0_p0.cell 2, ka1_p0.cell 0, ka1_p0.cell 1, ka1_p0.cell 2⟩ | exact ⟨ka0_p1.cell 0, ka0_p1.cell 1, ka0_p1.cell 2, ka1_p1.cell 0, ka1_p1.cell 1, ka1_p1.cell 2⟩ | exact ⟨ka0_3.cell 0, ka0_3.cell 1, ka0_3.cell 2, ka1_3.cell 0, ka1_3.cell 1, ka1_3.cell 2⟩) (first | (go_at_call 50; (with_reducible refine (c_toReplica _ x0 _ (hv0.up good_Replica uu2.drew) hn0).mono ?_); rintro e wp0 ⟨csp0, blp0, rfl, op0, ndp0, up0⟩; have uup0 := (uu2.drew).trans up0; have ka0_p0 := (ka0_2.drew).up up0; have ka1_p0 := (ka1_2.drew).up up0; have y0_p0 := AV.of_own good_Replica op0) | (go_at_call 50; (with_reducible refine (c_toReplica _ x1 _ (hv1.up good_Replica uup0) hn1).mono ?_); rintro e wp1 ⟨csp1, blp1, rfl, op1, ndp1, up1⟩; have uup1 := uup0.trans up1; have ka0_p1 := ka0_p0.up up1; have ka1_p1 := ka1_p0.up up1; have y0_p1 := y0_p0.up good_Replica up1; have y1_p1 := AV.of_own good_Replica op1) | (go_at_call 49; (with_reducible refine (cs_SameReplica _ x0 _ x1 _ y0_p1 hn0 y1_p1 hn1).mono ?_); rintro e w3 ⟨bs, rfl, hbs, u3⟩; have uu3 := uup1.trans u3; have ka0_3 := ka0_p1.up u3; have ka1_3 := ka1_p1.up u3))
  have ga0_3_0 : w3.cell? ⟨w.heap.size, 0, none⟩ = some (.slice A0_0 x0.1.length c0_0) := ka0_3.cell 0
  have ga0_3_1 : w3.cell? ⟨w.heap.size, 1, none⟩ = some (.int .i64 x0.2.1) := ka0_3.cell 1
  have ga0_3_2 : w3.cell? ⟨w.heap.size, 2, none⟩ = some (.slice A0_2 x0.2.2.length c0_2) := ka0_3.cell 2
  have za0_3 := ka0_3.lt
  have ga1_3_0 : w3.cell? ⟨w.heap.size + 1, 0, none⟩ = some (.slice A1_0 x1.1.length c1_0) := ka1_3.cell 0
  have ga1_3_1 : w3.cell? ⟨w.heap.size + 1, 1, none⟩ = some (.int .i64 x1.2.1) := ka1_3.cell 1
  have ga1_3_2 : w3.cell? ⟨w.heap.size + 1, 2, none⟩ = some (.slice A1_2 x1.2.2.length c1_2) := ka1_3.cell 2
  have za1_3 := ka1_3.lt
  clear ga0_2_0 ga0_2_1 ga0_2_2 za0_2 ga1_2_0 ga1_2_1 ga1_2_2 za1_2
  go_wp2_with fail
  refine (c_toReplica _ x0 _ (hv0.up good_Replica uu3) hn0).mono ?_
  rintro e w4 ⟨csx0, blx0, rfl, ox0, ndx0, u4⟩
  have uu4 := uu3.trans u4
  have ka0_4 := ka0_3.up u4
  have ka1_4 := ka1_3.up u4
  have y0_4 := AV.of_own good_Replica ox0
  obtain ⟨D0_0, d0_0, _, D0_2, d0_2, _, rfl, _, _⟩ := openOReplica ox0
  have ga0_4_0 : w4.cell? ⟨w.heap.size, 0, none⟩ = some (.slice A0_0 x0.1.length c0_0) := ka0_4.cell 0
  have ga0_4_1 : w4.cell? ⟨w.heap.size, 1, none⟩ = some (.int .i64 x0.2.1) := ka0_4.cell 1
  have ga0_4_2 : w4.cell? ⟨w.heap.size, 2, none⟩ = some (.slice A0_2 x0.2.2.length c0_2) := ka0_4.cell 2
  have za0_4 := ka0_4.lt
  have ga1_4_0 : w4.cell? ⟨w.heap.size + 1, 0, none⟩ = some (.slice A1_0 x1.1.length c1_0) := ka1_4.cell 0
  have ga1_4_1 : w4.cell? ⟨w.heap.size + 1, 1, none⟩ = some (.int .i64 x1.2.1) := ka1_4.cell 1
  have ga1_4_2 : w4.cell? ⟨w.heap.size + 1, 2, none⟩ = some (.slice A1_2 x1.2.2.length c1_2) := ka1_4.cell 2
  have za1_4 := ka1_4.lt
  clear ga0_3_0 ga0_3_1 ga0_3_2 za0_3 ga1_3_0 ga1_3_1 ga1_3_2 za1_3
  have ka0_4b := ka0_4.alloc (.cells #[.slice D0_0 x0.1.length d0_0, .int .i64 x0.2.1, .slice D0_2 x0.2.2.length d0_2] 86)
  have ka1_4b := ka1_4.alloc (.cells #[.slice D0_0 x0.1.length d0_0, .int .i64 x0.2.1, .slice D0_2 x0.2.2.length d0_2] 86)
  have kx0_4b : Bk (w4.alloc (.cells #[.slice D0_0 x0.1.length d0_0, .int .i64 x0.2.1, .slice D0_2 x0.2.2.length d0_2] 86)) w4.heap.size 86 #[.slice D0_0 x0.1.length d0_0, .int .i64 x0.2.1, .slice D0_2 x0.2.2.length d0_2] := Bk.new _ _ _
  have uu4b := uu4.alloc (.cells #[.slice D0_0 x0.1.length d0_0, .int .i64 x0.2.1, .slice D0_2 x0.2.2.length d0_2] 86)
  have y0_4b := y0_4.up good_Replica ((Up.refl _).alloc (.cells #[.slice D0_0 x0.1.length d0_0, .int .i64 x0.2.1, .slice D0_2 x0.2.2.length d0_2] 86))
  go_wp2_with fail
  refine (c_toReplica _ x1 _ (hv1.up good_Replica uu4b) hn1).mono ?_
  rintro e w5 ⟨csx1, blx1, rfl, ox1, ndx1, u5⟩
  have uu5 := uu4b.trans u5
  have ka0_5 := ka0_4b.up u5
  have ka1_5 := ka1_4b.up u5
  have kx0_5 := kx0_4b.up u5
  have y0_5 := y0_4b.up good_Replica u5
  have y1_5 := AV.of_own good_Replica ox1
  obtain ⟨D1_0, d1_0, _, D1_2, d1_2, _, rfl, _, _⟩ := openOReplica ox1
  have ga0_5_0 : w5.cell? ⟨w.heap.size, 0, none⟩ = some (.slice A0_0 x0.1.length c0_0) := ka0_5.cell 0
  have ga0_5_1 : w5.cell? ⟨w.heap.size, 1, none⟩ = some (.int .i64 x0.2.1) := ka0_5.cell 1
  have ga0_5_2 : w5.cell? ⟨w.heap.size, 2, none⟩ = some (.slice A0_2 x0.2.2.length c0_2) := ka0_5.cell 2
  have za0_5 := ka0_5.lt
  have ga1_5_0 : w5.cell? ⟨w.heap.size + 1, 0, none⟩ = some (.slice A1_0 x1.1.length c1_0) := ka1_5.cell 0
  have ga1_5_1 : w5.cell? ⟨w.heap.size + 1, 1, none⟩ = some (.int .i64 x1.2.1) := ka1_5.cell 1
  have ga1_5_2 : w5.cell? ⟨w.heap.size + 1, 2, none⟩ = some (.slice A1_2 x1.2.2.length c1_2) := ka1_5.cell 2
  have za1_5 := ka1_5.lt
  have gx0_5_0 : w5.cell? ⟨w4.heap.size, 0, none⟩ = some (.slice D0_0 x0.1.length d0_0) := kx0_5.cell 0
  have gx0_5_1 : w5.cell? ⟨w4.heap.size, 1, none⟩ = some (.int .i64 x0.2.1) := kx0_5.cell 1
  have gx0_5_2 : w5.cell? ⟨w4.heap.size, 2, none⟩ = some (.slice D0_2 x0.2.2.length d0_2) := kx0_5.cell 2
  have zx0_5 := kx0_5.lt
  clear ga0_4_0 ga0_4_1 ga0_4_2 za0_4 ga1_4_0 ga1_4_1 ga1_4_2 za1_4
  have ka0_5b := ka0_5.alloc (.cells #[.slice D1_0 x1.1.length d1_0, .int .i64 x1.2.1, .slice D1_2 x1.2.2.length d1_2] 86)
  have ka1_5b := ka1_5.alloc (.cells #[.slice D1_0 x1.1.length d1_0, .int .i64 x1.2.1, .slice D1_2 x1.2.2.length d1_2] 86)
  have kx0_5b := kx0_5.alloc (.cells #[.slice D1_0 x1.1.length d1_0, .int .i64 x1.2.1, .slice D1_2 x1.2.2.length d1_2] 86)
  have kx1_5b : Bk (w5.alloc (.cells #[.slice D1_0 x1.1.length d1_0, .int .i64 x1.2.1, .slice D1_2 x1.2.2.length d1_2] 86)) w5.heap.size 86 #[.slice D1_0 x1.1.length d1_0, .int .i64 x1.2.1, .slice D1_2 x1.2.2.length d1_2] := Bk.new _ _ _
  have uu5b := uu5.alloc (.cells #[.slice D1_0 x1.1.length d1_0, .int .i64 x1.2.1, .slice D1_2 x1.2.2.length d1_2] 86)
  have y0_5b := y0_5.up good_Replica ((Up.refl _).alloc (.cells #[.slice D1_0 x1.1.length d1_0, .int .i64 x1.2.1, .slice D1_2 x1.2.2.length d1_2] 86))
  have y1_5b := y1_5.up good_Replica ((Up.refl _).alloc (.cells #[.slice D1_0 x1.1.length d1_0, .int .i64 x1.2.1, .slice D1_2 x1.2.2.length d1_2] 86))
  go_wp2_with fail
  refine (ci_SameReplica _ x0 _ x1 _ y0_5b hn0 y1_5b hn1).mono ?_
  rintro e w6 ⟨bi, rfl, hbi, u6⟩
  have uu6 := uu5b.trans u6
  have ka0_6 := ka0_5b.up u6
  have ka1_6 := ka1_5b.up u6
  have kx0_6 := kx0_5b.up u6
  have kx1_6 := kx1_5b.up u6
  have y0_6 := y0_5b.up good_Replica u6
  have y1_6 := y1_5b.up good_Replica u6
  have ga0_6_0 : w6.cell? ⟨w.heap.size, 0, none⟩ = some (.slice A0_0 x0.1.length c0_0) := ka0_6.cell 0
  have ga0_6_1 : w6.cell? ⟨w.heap.size, 1, none⟩ = some (.int .i64 x0.2.1) := ka0_6.cell 1
  have ga0_6_2 : w6.cell? ⟨w.heap.size, 2, none⟩ = some (.slice A0_2 x0.2.2.length c0_2) := ka0_6.cell 2
  have za0_6 := ka0_6.lt
  have ga1_6_0 : w6.cell? ⟨w.heap.size + 1, 0, none⟩ = some (.slice A1_0 x1.1.length c1_0) := ka1_6.cell 0
  have ga1_6_1 : w6.cell? ⟨w.heap.size + 1, 1, none⟩ = some (.int .i64 x1.2.1) := ka1_6.cell 1
  have ga1_6_2 : w6.cell? ⟨w.heap.size + 1, 2, none⟩ = some (.slice A1_2 x1.2.2.length c1_2) := ka1_6.cell 2
  have za1_6 := ka1_6.lt
  have gx0_6_0 : w6.cell? ⟨w4.heap.size, 0, none⟩ = some (.slice D0_0 x0.1.length d0_0) := kx0_6.cell 0
  have gx0_6_1 : w6.cell? ⟨w4.heap.size, 1, none⟩ = some (.int .i64 x0.2.1) := kx0_6.cell 1
  have gx0_6_2 : w6.cell? ⟨w4.heap.size, 2, none⟩ = some (.slice D0_2 x0.2.2.length d0_2) := kx0_6.cell 2
  have zx0_6 := kx0_6.lt
  have gx1_6_0 : w6.cell? ⟨w5.heap.size, 0, none⟩ = some (.slice D1_0 x1.1.length d1_0) := kx1_6.cell 0
  have gx1_6_1 : w6.cell? ⟨w5.heap.size, 1, none⟩ = some (.int .i64 x1.2.1) := kx1_6.cell 1
  have gx1_6_2 : w6.cell? ⟨w5.heap.size, 2, none⟩ = some (.slice D1_2 x1.2.2.length d1_2) := kx1_6.cell 2
  have zx1_6 := kx1_6.lt
  clear ga0_5_0 ga0_5_1 ga0_5_2 za0_5 ga1_5_0 ga1_5_1 ga1_5_2 za1_5 gx0_5_0 gx0_5_1 gx0_5_2 zx0_5
  obtain rfl : bi = bs := by cases bi <;> cases bs <;> simp_all
  clear hbi hbs
  go_wp2_with fail
  go_region_held3 (fun W => W.cell? ⟨w.heap.size, 0, none⟩ = some (.slice A0_0 x0.1.length c0_0) ∧ W.cell? ⟨w.heap.size, 1, none⟩ = some (.int .i64 x0.2.1) ∧ W.cell? ⟨w.heap.size, 2, none⟩ = some (.slice A0_2 x0.2.2.length c0_2) ∧ W.cell? ⟨w4.heap.size, 0, none⟩ = some (.slice D0_0 x0.1.length d0_0) ∧ W.cell? ⟨w4.heap.size, 1, none⟩ = some (.int .i64 x0.2.1) ∧ W.cell? ⟨w4.heap.size, 2, none⟩ = some (.slice D0_2 x0.2.2.length d0_2)) (first | exact ⟨ka0_6.cell 0, ka0_6.cell 1, ka0_6.cell 2, kx0_6.cell 0, kx0_6.cell 1, kx0_6.cell 2⟩ | exact ⟨ka0_e0.cell 0, ka0_e0.cell 1, ka0_e0.cell 2, kx0_e0.cell 0, kx0_e0.cell 1, kx0_e0.cell 2⟩ | exact ⟨ka0_7.cell 0, ka0_7.cell 1, ka0_7.cell 2, kx0_7.cell 0, kx0_7.cell 1, kx0_7.cell 2⟩) (first | (go_at_call 50; (with_reducible refine (c_toReplica _ x0 _ (hv0.up good_Replica uu6.drew) hn0).mono ?_); rintro e we0 ⟨cse0, ble0, rfl, oe0, nde0, ue0⟩; have uue0 := uu6.drew.trans ue0; have ka0_e0 := ka0_6.drew.up ue0; have ka1_e0 := ka1_6.drew.up ue0; have kx0_e0 := kx0_6.drew.up ue0; have kx1_e0 := kx1_6.drew.up ue0; have y0_e0 := (y0_6.up good_Replica (Up.refl _).drew).up good_Replica ue0; have yc0 := AV.of_own good_Replica oe0) | (go_at_call 52; (with_reducible refine (c_eqReplica _ _ x0 x0 _ y0_e0 yc0).mono ?_); rintro e w7 ⟨be0, rfl, hbe0, u7⟩; have uu7 := uue0.trans u7; have ka0_7 := ka0_e0.up u7; have ka1_7 := ka1_e0.up u7; have kx0_7 := kx0_e0.up u7; have kx1_7 := kx1_e0.up u7))
  have y0_7 := y0_6.up good_Replica (((Up.refl w6).drew.trans ue0).trans u7)
  have y1_7 := y1_6.up good_Replica (((Up.refl w6).drew.trans ue0).trans u7)
  obtain rfl : be0 = true := by simpa using hbe0
  clear hbe0
  have ga0_7_0 : w7.cell? ⟨w.heap.size, 0, none⟩ = some (.slice A0_0 x0.1.length c0_0) := ka0_7.cell 0
  have ga0_7_1 : w7.cell? ⟨w.heap.size, 1, none⟩ = some (.int .i64 x0.2.1) := ka0_7.cell 1
  have ga0_7_2 : w7.cell? ⟨w.heap.size, 2, none⟩ = some (.slice A0_2 x0.2.2.length c0_2) := ka0_7.cell 2
  have za0_7 := ka0_7.lt
  have ga1_7_0 : w7.cell? ⟨w.heap.size + 1, 0, none⟩ = some (.slice A1_0 x1.1.length c1_0) := ka1_7.cell 0
  have ga1_7_1 : w7.cell? ⟨w.heap.size + 1, 1, none⟩ = some (.int .i64 x1.2.1) := ka1_7.cell 1
  have ga1_7_2 : w7.cell? ⟨w.heap.size + 1, 2, none⟩ = some (.slice A1_2 x1.2.2.length c1_2) := ka1_7.cell 2
  have za1_7 := ka1_7.lt
  have gx0_7_0 : w7.cell? ⟨w4.heap.size, 0, none⟩ = some (.slice D0_0 x0.1.length d0_0) := kx0_7.cell 0
  have gx0_7_1 : w7.cell? ⟨w4.heap.size, 1, none⟩ = some (.int .i64 x0.2.1) := kx0_7.cell 1
  have gx0_7_2 : w7.cell? ⟨w4.heap.size, 2, none⟩ = some (.slice D0_2 x0.2.2.length d0_2) := kx0_7.cell 2
  have zx0_7 := kx0_7.lt
  have gx1_7_0 : w7.cell? ⟨w5.heap.size, 0, none⟩ = some (.slice D1_0 x1.1.length d1_0) := kx1_7.cell 0
  have gx1_7_1 : w7.cell? ⟨w5.heap.size, 1, none⟩ = some (.int .i64 x1.2.1) := kx1_7.cell 1
  have gx1_7_2 : w7.cell? ⟨w5.heap.size, 2, none⟩ = some (.slice D1_2 x1.2.2.length d1_2) := kx1_7.cell 2
  have zx1_7 := kx1_7.lt
  clear ga0_6_0 ga0_6_1 ga0_6_2 za0_6 ga1_6_0 ga1_6_1 ga1_6_2 za1_6 gx0_6_0 gx0_6_1 gx0_6_2 zx0_6 gx1_6_0 gx1_6_1 gx1_6_2 zx1_6
  go_wp2_with fail
  go_region_held3 (fun W => W.cell? ⟨w.heap.size + 1, 0, none⟩ = some (.slice A1_0 x1.1.length c1_0) ∧ W.cell? ⟨w.heap.size + 1, 1, none⟩ = some (.int .i64 x1.2.1) ∧ W.cell? ⟨w.heap.size + 1, 2, none⟩ = some (.slice A1_2 x1.2.2.length c1_2) ∧ W.cell? ⟨w5.heap.size, 0, none⟩ = some (.slice D1_0 x1.1.length d1_0) ∧ W.cell? ⟨w5.heap.size, 1, none⟩ = some (.int .i64 x1.2.1) ∧ W.cell? ⟨w5.heap.size, 2, none⟩ = some (.slice D1_2 x1.2.2.length d1_2)) (first | exact ⟨ka1_7.cell 0, ka1_7.cell 1, ka1_7.cell 2, kx1_7.cell 0, kx1_7.cell 1, kx1_7.cell 2⟩ | exact ⟨ka1_e1.cell 0, ka1_e1.cell 1, ka1_e1.cell 2, kx1_e1.cell 0, kx1_e1.cell 1, kx1_e1.cell 2⟩ | exact ⟨ka1_8.cell 0, ka1_8.cell 1, ka1_8.cell 2, kx1_8.cell 0, kx1_8.cell 1, kx1_8.cell 2⟩) (first | (go_at_call 50; (with_reducible refine (c_toReplica _ x1 _ (hv1.up good_Replica uu7.drew) hn1).mono ?_); rintro e we1 ⟨cse1, ble1, rfl, oe1, nde1, ue1⟩; have uue1 := uu7.drew.trans ue1; have ka0_e1 := ka0_7.drew.up ue1; have ka1_e1 := ka1_7.drew.up ue1; have kx0_e1 := kx0_7.drew.up ue1; have kx1_e1 := kx1_7.drew.up ue1; have y1_e1 := (y1_7.up good_Replica (Up.refl _).drew).up good_Replica ue1; have yc1 := AV.of_own good_Replica oe1) | (go_at_call 52; (with_reducible refine (c_eqReplica _ _ x1 x1 _ y1_e1 yc1).mono ?_); rintro e w8 ⟨be1, rfl, hbe1, u8⟩; have uu8 := uue1.trans u8; have ka0_8 := ka0_e1.up u8; have ka1_8 := ka1_e1.up u8; have kx0_8 := kx0_e1.up u8; have kx1_8 := kx1_e1.up u8))
  have y0_8 := y0_7.up good_Replica (((Up.refl w7).drew.trans ue1).trans u8)
  have y1_8 := y1_7.up good_Replica (((Up.refl w7).drew.trans ue1).trans u8)
  obtain rfl : be1 = true := by simpa using hbe1
  clear hbe1
  have ga0_8_0 : w8.cell? ⟨w.heap.size, 0, none⟩ = some (.slice A0_0 x0.1.length c0_0) := ka0_8.cell 0
  have ga0_8_1 : w8.cell? ⟨w.heap.size, 1, none⟩ = some (.int .i64 x0.2.1) := ka0_8.cell 1
  have ga0_8_2 : w8.cell? ⟨w.heap.size, 2, none⟩ = some (.slice A0_2 x0.2.2.length c0_2) := ka0_8.cell 2
  have za0_8 := ka0_8.lt
  have ga1_8_0 : w8.cell? ⟨w.heap.size + 1, 0, none⟩ = some (.slice A1_0 x1.1.length c1_0) := ka1_8.cell 0
  have ga1_8_1 : w8.cell? ⟨w.heap.size + 1, 1, none⟩ = some (.int .i64 x1.2.1) := ka1_8.cell 1
  have ga1_8_2 : w8.cell? ⟨w.heap.size + 1, 2, none⟩ = some (.slice A1_2 x1.2.2.length c1_2) := ka1_8.cell 2
  have za1_8 := ka1_8.lt
  have gx0_8_0 : w8.cell? ⟨w4.heap.size, 0, none⟩ = some (.slice D0_0 x0.1.length d0_0) := kx0_8.cell 0
  have gx0_8_1 : w8.cell? ⟨w4.heap.size, 1, none⟩ = some (.int .i64 x0.2.1) := kx0_8.cell 1
  have gx0_8_2 : w8.cell? ⟨w4.heap.size, 2, none⟩ = some (.slice D0_2 x0.2.2.length d0_2) := kx0_8.cell 2
  have zx0_8 := kx0_8.lt
  have gx1_8_0 : w8.cell? ⟨w5.heap.size, 0, none⟩ = some (.slice D1_0 x1.1.length d1_0) := kx1_8.cell 0
  have gx1_8_1 : w8.cell? ⟨w5.heap.size, 1, none⟩ = some (.int .i64 x1.2.1) := kx1_8.cell 1
  have gx1_8_2 : w8.cell? ⟨w5.heap.size, 2, none⟩ = some (.slice D1_2 x1.2.2.length d1_2) := kx1_8.cell 2
  have zx1_8 := kx1_8.lt
  clear ga0_7_0 ga0_7_1 ga0_7_2 za0_7 ga1_7_0 ga1_7_1 ga1_7_2 za1_7 gx0_7_0 gx0_7_1 gx0_7_2 zx0_7 gx1_7_0 gx1_7_1 gx1_7_2 zx1_7
  go_wp2_with fail
  go_ret
  exact ⟨rfl, uu8⟩
end Go.Proofs.Ytafabcabffeikaa
