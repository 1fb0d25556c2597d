/-
  The walk of FnExactGetNode: for every input it returns true.
-/
import Derived.Test.YtanjmolgpkffoaaGreatDoorM1Gx
import Derived.Deep.RegionHeld3
namespace Go.Proofs.YtanjmolgpkffoaaGreatDoor
open Go.RowKit
set_option linter.unusedVariables false
set_option linter.unusedSimpArgs false

set_option maxRecDepth 100000 in
set_option maxHeartbeats 8000000 in
theorem w0_FnExactGetNode (w : World) (v0 : Value) (x0 : TTree) (h0 : AV shTree w v0 x0) (s1 : ByteArray) (h1 : s1.size ≤ maxLen) (A2 : Option Addr) (c2 : Nat) (x2 : List ByteArray) (h2 : SRW shS w A2 c2 x2) (htab : Tab w) :
    Calls Tryz.prog 3 #[v0, .string s1, .slice A2 x2.length c2] w fun e w' => e = .returned (.bool true) ∧ Up w w' := by
  have hv0 := h0
  obtain ⟨cs0, rfl, h0⟩ := h0
  obtain ⟨A0_0, c0_0, rfl, _⟩ := openTree h0
  clear h0
  have hm1 := h1; unfold maxLen at hm1
  have ka0_0 : Bk (w.alloc (.cells #[.slice A0_0 x0.length c0_0] 24)) (w.heap.size) 24 #[.slice A0_0 x0.length c0_0] := by simpa using Bk.new w 24 #[.slice A0_0 x0.length c0_0]
  have uu0 : Up w (w.alloc (.cells #[.slice A0_0 x0.length c0_0] 24)) := (Up.refl w).alloc _
  go_enter Tryz.func3, Tryz.ntmps3
  go_wp2_with fail
  · go_ret
    exact ⟨rfl, uu0⟩
  refine (c_szTree _ x0 _ _ (hv0.up good_Tree uu0) (by omega) (by omega)).mono ?_
  rintro e w1 ⟨rfl, u1⟩
  have uu1 := uu0.trans u1
  have ka0_1 := ka0_0.up u1
  by_cases q0 : ¬ ((shTree.sz x0 : Nat) : Int) ≤ 1048576
  · rw [szR_no (by omega)]
    go_wp2_with fail
    go_ret
    exact ⟨rfl, uu1⟩
  replace q0 := Decidable.of_not_not q0
  rw [szR_yes q0]
  have ga0_1_0 : w1.cell? ⟨w.heap.size, 0, none⟩ = some (.slice A0_0 x0.length c0_0) := ka0_1.cell 0
  have za0_1 := ka0_1.lt
  clear u1
  go_wp2_with fail
  refine (c_szStringS _ _ _ _ _ (h2.up good_S uu1) (by omega) (by omega)).mono ?_
  rintro e w2 ⟨rfl, u2⟩
  have uu2 := uu1.trans u2
  have ka0_2 := ka0_1.up u2
  by_cases q2 : ¬ (((shL shS).sz x2 : Nat) : Int) ≤ 1048576 - (shTree.sz x0 : Nat)
  · rw [szR_no (by omega)]
    go_wp2_with fail
    go_ret
    exact ⟨rfl, uu2⟩
  replace q2 := Decidable.of_not_not q2
  rw [szR_yes q2]
  have ga0_2_0 : w2.cell? ⟨w.heap.size, 0, none⟩ = some (.slice A0_0 x0.length c0_0) := ka0_2.cell 0
  have za0_2 := ka0_2.lt
  clear ga0_1_0 za0_1
  clear u2
  go_wp2_with fail
  have hn0 : shTree.sz x0 ≤ 1048576 := by omega
  have hn2 : (shL shS).sz x2 ≤ 1048576 := by omega
  have hn1 : s1.size ≤ 1048576 := by omega
  refine (c_toTree _ x0 _ (hv0.up good_Tree uu2) hn0).mono ?_
  rintro e w3 ⟨csp0, blp0, rfl, op0, ndp0, u3⟩
  have uu3 := uu2.trans u3
  have ka0_3 := ka0_2.up u3
  have y0_3 := AV.of_own good_Tree op0
  have ga0_3_0 : w3.cell? ⟨w.heap.size, 0, none⟩ = some (.slice A0_0 x0.length c0_0) := ka0_3.cell 0
  have za0_3 := ka0_3.lt
  clear ga0_2_0 za0_2
  go_wp2_with fail
  refine (c_toStringS _ _ _ _ (h2.up good_S uu3) hn2).mono ?_
  rintro e w4 ⟨Dp2, dp2, blp2, rfl, op2, ndp2, u4⟩
  have uu4 := uu3.trans u4
  have ka0_4 := ka0_3.up u4
  have y0_4 := y0_3.up good_Tree u4
  have y2_4 := SR.of_own good_S op2
  have ga0_4_0 : w4.cell? ⟨w.heap.size, 0, none⟩ = some (.slice A0_0 x0.length c0_0) := ka0_4.cell 0
  have za0_4 := ka0_4.lt
  clear ga0_3_0 za0_3
  go_wp2_with fail
  refine (csx_GetNode _ x0 s1 _ _ x2 _ y0_4 hn0 h1 hn1 y2_4 hn2).mono ?_
  rintro e w5 ⟨rfl, u5⟩
  have uu5 := uu4.trans u5
  have ka0_5 := ka0_4.up u5
  have ga0_5_0 : w5.cell? ⟨w.heap.size, 0, none⟩ = some (.slice A0_0 x0.length c0_0) := ka0_5.cell 0
  have za0_5 := ka0_5.lt
  clear ga0_4_0 za0_4
  go_wp2_with fail
  refine (c_toTree _ x0 _ (hv0.up good_Tree uu5) hn0).mono ?_
  rintro e w6 ⟨csx0, blx0, rfl, ox0, ndx0, u6⟩
  have uu6 := uu5.trans u6
  have ka0_6 := ka0_5.up u6
  have y0_6 := AV.of_own good_Tree ox0
  obtain ⟨D0_0, d0_0, _, rfl, _, _⟩ := openOTree ox0
  have ga0_6_0 : w6.cell? ⟨w.heap.size, 0, none⟩ = some (.slice A0_0 x0.length c0_0) := ka0_6.cell 0
  have za0_6 := ka0_6.lt
  clear ga0_5_0 za0_5
  have ka0_6b := ka0_6.alloc (.cells #[.slice D0_0 x0.length d0_0] 32)
  have kx0_6b : Bk (w6.alloc (.cells #[.slice D0_0 x0.length d0_0] 32)) w6.heap.size 32 #[.slice D0_0 x0.length d0_0] := Bk.new _ _ _
  have uu6b := uu6.alloc (.cells #[.slice D0_0 x0.length d0_0] 32)
  have y0_6b := y0_6.up good_Tree ((Up.refl _).alloc (.cells #[.slice D0_0 x0.length d0_0] 32))
  go_wp2_with fail
  refine (c_toStringS _ _ _ _ (h2.up good_S uu6b) hn2).mono ?_
  rintro e w7 ⟨Dx2, dx2, blx2, rfl, ox2, ndx2, u7⟩
  have uu7 := uu6b.trans u7
  have ka0_7 := ka0_6b.up u7
  have kx0_7 := kx0_6b.up u7
  have y0_7 := y0_6b.up good_Tree u7
  have y2_7 := SR.of_own good_S ox2
  have ga0_7_0 : w7.cell? ⟨w.heap.size, 0, none⟩ = some (.slice A0_0 x0.length c0_0) := ka0_7.cell 0
  have za0_7 := ka0_7.lt
  have gx0_7_0 : w7.cell? ⟨w6.heap.size, 0, none⟩ = some (.slice D0_0 x0.length d0_0) := kx0_7.cell 0
  have zx0_7 := kx0_7.lt
  clear ga0_6_0 za0_6
  go_wp2_with fail
  refine (cix_GetNode _ x0 s1 _ _ x2 _ y0_7 hn0 h1 hn1 y2_7 hn2 (tab_up htab uu7)).mono ?_
  rintro e w8 ⟨rfl, u8⟩
  have uu8 := uu7.trans u8
  have ka0_8 := ka0_7.up u8
  have kx0_8 := kx0_7.up u8
  have y0_8 := y0_7.up good_Tree u8
  have y2_8 := y2_7.up good_S u8
  have ga0_8_0 : w8.cell? ⟨w.heap.size, 0, none⟩ = some (.slice A0_0 x0.length c0_0) := ka0_8.cell 0
  have za0_8 := ka0_8.lt
  have gx0_8_0 : w8.cell? ⟨w6.heap.size, 0, none⟩ = some (.slice D0_0 x0.length d0_0) := kx0_8.cell 0
  have zx0_8 := kx0_8.lt
  clear ga0_7_0 za0_7 gx0_7_0 zx0_7
  go_wp2_with fail
  go_region_held3 (fun W => W.cell? ⟨w.heap.size, 0, none⟩ = some (.slice A0_0 x0.length c0_0) ∧ W.cell? ⟨w6.heap.size, 0, none⟩ = some (.slice D0_0 x0.length d0_0)) (first | exact ⟨ka0_8.cell 0, kx0_8.cell 0⟩ | exact ⟨ka0_e0.cell 0, kx0_e0.cell 0⟩ | exact ⟨ka0_9.cell 0, kx0_9.cell 0⟩) (first | (go_at_call 14; (with_reducible refine (c_toTree _ x0 _ (hv0.up good_Tree uu8.drew) hn0).mono ?_); rintro e we0 ⟨cse0, ble0, rfl, oe0, nde0, ue0⟩; have uue0 := uu8.drew.trans ue0; have ka0_e0 := ka0_8.drew.up ue0; have kx0_e0 := kx0_8.drew.up ue0; have y0_e0 := (y0_8.up good_Tree (Up.refl _).drew).up good_Tree ue0; have yc0 := AV.of_own good_Tree oe0) | (go_at_call 17; (with_reducible refine (c_eqTree _ _ x0 x0 _ y0_e0 yc0).mono ?_); rintro e w9 ⟨be0, rfl, hbe0, u9⟩; have uu9 := uue0.trans u9; have ka0_9 := ka0_e0.up u9; have kx0_9 := kx0_e0.up u9))
  have y0_9 := y0_8.up good_Tree (((Up.refl w8).drew.trans ue0).trans u9)
  have y2_9 := y2_8.up good_S (((Up.refl w8).drew.trans ue0).trans u9)
  obtain rfl : be0 = true := by simpa using hbe0
  clear hbe0
  have ga0_9_0 : w9.cell? ⟨w.heap.size, 0, none⟩ = some (.slice A0_0 x0.length c0_0) := ka0_9.cell 0
  have za0_9 := ka0_9.lt
  have gx0_9_0 : w9.cell? ⟨w6.heap.size, 0, none⟩ = some (.slice D0_0 x0.length d0_0) := kx0_9.cell 0
  have zx0_9 := kx0_9.lt
  clear ga0_8_0 za0_8 gx0_8_0 zx0_8
  go_wp2_with fail
  refine (c_toStringS _ _ _ _ (h2.up good_S uu9) hn2).mono ?_
  rintro e w10 ⟨De2, de2, ble2, rfl, oe2, nde2, u10⟩
  have uu10 := uu9.trans u10
  have ka0_10 := ka0_9.up u10
  have kx0_10 := kx0_9.up u10
  have y0_10 := y0_9.up good_Tree u10
  have y2_10 := y2_9.up good_S u10
  have yc2 := SR.of_own good_S oe2
  have ga0_10_0 : w10.cell? ⟨w.heap.size, 0, none⟩ = some (.slice A0_0 x0.length c0_0) := ka0_10.cell 0
  have za0_10 := ka0_10.lt
  have gx0_10_0 : w10.cell? ⟨w6.heap.size, 0, none⟩ = some (.slice D0_0 x0.length d0_0) := kx0_10.cell 0
  have zx0_10 := kx0_10.lt
  clear ga0_9_0 za0_9 gx0_9_0 zx0_9
  go_wp2_with fail
  refine (c_eqStringS _ _ _ _ _ _ _ y2_10 yc2).mono ?_
  rintro e w11 ⟨be2, rfl, hbe2, u11⟩
  have uu11 := uu10.trans u11
  have ka0_11 := ka0_10.up u11
  have kx0_11 := kx0_10.up u11
  have y0_11 := y0_10.up good_Tree u11
  have y2_11 := y2_10.up good_S u11
  obtain rfl : be2 = true := by simpa using hbe2
  clear hbe2
  have ga0_11_0 : w11.cell? ⟨w.heap.size, 0, none⟩ = some (.slice A0_0 x0.length c0_0) := ka0_11.cell 0
  have za0_11 := ka0_11.lt
  have gx0_11_0 : w11.cell? ⟨w6.heap.size, 0, none⟩ = some (.slice D0_0 x0.length d0_0) := kx0_11.cell 0
  have zx0_11 := kx0_11.lt
  clear ga0_10_0 za0_10 gx0_10_0 zx0_10
  go_wp2_with fail
  go_ret
  exact ⟨rfl, uu11⟩
end Go.Proofs.YtanjmolgpkffoaaGreatDoor
