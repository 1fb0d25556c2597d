/-
  The walk of FnExactParcelOk: for every input it returns true.
-/
import Derived.Test.YtanjmolgpkffoaaGreatDoorM1Pk
import Derived.Deep.RegionHeld3
namespace Go.Proofs.YtanjmolgpkffoaaGreatDoor
open Go.RowKit
set_option linter.unusedVariables false
set_option linter.unusedSimpArgs false

set_option maxRecDepth 100000 in
set_option maxHeartbeats 8000000 in
theorem w0_FnExactParcelOk (w : World) (v0 : Value) (x0 : TParcel) (h0 : AV shParcel w v0 x0) (htab : Tab w) :
    Calls Tryz.prog 5 #[v0] w fun e w' => e = .returned (.bool true) ∧ Up w w' := by
  have hv0 := h0
  obtain ⟨cs0, rfl, h0⟩ := h0
  obtain ⟨A0_1, c0_1, rfl, _⟩ := openParcel h0
  clear h0
  have ka0_0 : Bk (w.alloc (.cells #[.int .i64 x0.1, .slice A0_1 x0.2.length c0_1] 46)) (w.heap.size) 46 #[.int .i64 x0.1, .slice A0_1 x0.2.length c0_1] := by simpa using Bk.new w 46 #[.int .i64 x0.1, .slice A0_1 x0.2.length c0_1]
  have uu0 : Up w (w.alloc (.cells #[.int .i64 x0.1, .slice A0_1 x0.2.length c0_1] 46)) := (Up.refl w).alloc _
  go_enter Tryz.func5, Tryz.ntmps5
  go_wp2_with fail
  refine (c_szParcel _ x0 _ _ (hv0.up good_Parcel uu0) (by omega) (by omega)).mono ?_
  rintro e w1 ⟨rfl, u1⟩
  have uu1 := uu0.trans u1
  have ka0_1 := ka0_0.up u1
  by_cases q0 : ¬ ((shParcel.sz x0 : Nat) : Int) ≤ 1048576
  · rw [szR_no (by omega)]
    go_wp2_with fail
    go_ret
    exact ⟨rfl, uu1⟩
  replace q0 := Decidable.of_not_not q0
  rw [szR_yes q0]
  have ga0_1_0 : w1.cell? ⟨w.heap.size, 0, none⟩ = some (.int .i64 x0.1) := ka0_1.cell 0
  have ga0_1_1 : w1.cell? ⟨w.heap.size, 1, none⟩ = some (.slice A0_1 x0.2.length c0_1) := ka0_1.cell 1
  have za0_1 := ka0_1.lt
  clear u1
  go_wp2_with fail
  have hn0 : shParcel.sz x0 ≤ 1048576 := by omega
  refine (c_toParcel _ x0 _ (hv0.up good_Parcel uu1) hn0).mono ?_
  rintro e w2 ⟨csp0, blp0, rfl, op0, ndp0, u2⟩
  have uu2 := uu1.trans u2
  have ka0_2 := ka0_1.up u2
  have y0_2 := AV.of_own good_Parcel op0
  have ga0_2_0 : w2.cell? ⟨w.heap.size, 0, none⟩ = some (.int .i64 x0.1) := ka0_2.cell 0
  have ga0_2_1 : w2.cell? ⟨w.heap.size, 1, none⟩ = some (.slice A0_1 x0.2.length c0_1) := ka0_2.cell 1
  have za0_2 := ka0_2.lt
  clear ga0_1_0 ga0_1_1 za0_1
  go_wp2_with fail
  refine (cs_ParcelOk _ x0 _ y0_2 hn0).mono ?_
  rintro e w3 ⟨rfl, u3⟩
  have uu3 := uu2.trans u3
  have ka0_3 := ka0_2.up u3
  have ga0_3_0 : w3.cell? ⟨w.heap.size, 0, none⟩ = some (.int .i64 x0.1) := ka0_3.cell 0
  have ga0_3_1 : w3.cell? ⟨w.heap.size, 1, none⟩ = some (.slice A0_1 x0.2.length c0_1) := ka0_3.cell 1
  have za0_3 := ka0_3.lt
  clear ga0_2_0 ga0_2_1 za0_2
  go_wp2_with fail
  refine (c_toParcel _ x0 _ (hv0.up good_Parcel uu3) hn0).mono ?_
  rintro e w4 ⟨csx0, blx0, rfl, ox0, ndx0, u4⟩
  have uu4 := uu3.trans u4
  have ka0_4 := ka0_3.up u4
  have y0_4 := AV.of_own good_Parcel ox0
  obtain ⟨D0_1, d0_1, _, rfl, _, _⟩ := openOParcel ox0
  have ga0_4_0 : w4.cell? ⟨w.heap.size, 0, none⟩ = some (.int .i64 x0.1) := ka0_4.cell 0
  have ga0_4_1 : w4.cell? ⟨w.heap.size, 1, none⟩ = some (.slice A0_1 x0.2.length c0_1) := ka0_4.cell 1
  have za0_4 := ka0_4.lt
  clear ga0_3_0 ga0_3_1 za0_3
  have ka0_4b := ka0_4.alloc (.cells #[.int .i64 x0.1, .slice D0_1 x0.2.length d0_1] 50)
  have kx0_4b : Bk (w4.alloc (.cells #[.int .i64 x0.1, .slice D0_1 x0.2.length d0_1] 50)) w4.heap.size 50 #[.int .i64 x0.1, .slice D0_1 x0.2.length d0_1] := Bk.new _ _ _
  have uu4b := uu4.alloc (.cells #[.int .i64 x0.1, .slice D0_1 x0.2.length d0_1] 50)
  have y0_4b := y0_4.up good_Parcel ((Up.refl _).alloc (.cells #[.int .i64 x0.1, .slice D0_1 x0.2.length d0_1] 50))
  go_wp2_with fail
  refine (ci_ParcelOk _ x0 _ y0_4b hn0 (tab_up htab uu4b)).mono ?_
  rintro e w5 ⟨rfl, u5⟩
  have uu5 := uu4b.trans u5
  have ka0_5 := ka0_4b.up u5
  have kx0_5 := kx0_4b.up u5
  have y0_5 := y0_4b.up good_Parcel u5
  have ga0_5_0 : w5.cell? ⟨w.heap.size, 0, none⟩ = some (.int .i64 x0.1) := ka0_5.cell 0
  have ga0_5_1 : w5.cell? ⟨w.heap.size, 1, none⟩ = some (.slice A0_1 x0.2.length c0_1) := ka0_5.cell 1
  have za0_5 := ka0_5.lt
  have gx0_5_0 : w5.cell? ⟨w4.heap.size, 0, none⟩ = some (.int .i64 x0.1) := kx0_5.cell 0
  have gx0_5_1 : w5.cell? ⟨w4.heap.size, 1, none⟩ = some (.slice D0_1 x0.2.length d0_1) := kx0_5.cell 1
  have zx0_5 := kx0_5.lt
  clear ga0_4_0 ga0_4_1 za0_4
  go_wp2_with fail
  go_region_held3 (fun W => W.cell? ⟨w.heap.size, 0, none⟩ = some (.int .i64 x0.1) ∧ W.cell? ⟨w.heap.size, 1, none⟩ = some (.slice A0_1 x0.2.length c0_1) ∧ W.cell? ⟨w4.heap.size, 0, none⟩ = some (.int .i64 x0.1) ∧ W.cell? ⟨w4.heap.size, 1, none⟩ = some (.slice D0_1 x0.2.length d0_1)) (first | exact ⟨ka0_5.cell 0, ka0_5.cell 1, kx0_5.cell 0, kx0_5.cell 1⟩ | exact ⟨ka0_e0.cell 0, ka0_e0.cell 1, kx0_e0.cell 0, kx0_e0.cell 1⟩ | exact ⟨ka0_6.cell 0, ka0_6.cell 1, kx0_6.cell 0, kx0_6.cell 1⟩) (first | (go_at_call 26; (with_reducible refine (c_toParcel _ x0 _ (hv0.up good_Parcel uu5.drew) hn0).mono ?_); rintro e we0 ⟨cse0, ble0, rfl, oe0, nde0, ue0⟩; have uue0 := uu5.drew.trans ue0; have ka0_e0 := ka0_5.drew.up ue0; have kx0_e0 := kx0_5.drew.up ue0; have y0_e0 := (y0_5.up good_Parcel (Up.refl _).drew).up good_Parcel ue0; have yc0 := AV.of_own good_Parcel oe0) | (go_at_call 28; (with_reducible refine (c_eqParcel _ _ x0 x0 _ y0_e0 yc0).mono ?_); rintro e w6 ⟨be0, rfl, hbe0, u6⟩; have uu6 := uue0.trans u6; have ka0_6 := ka0_e0.up u6; have kx0_6 := kx0_e0.up u6))
  have y0_6 := y0_5.up good_Parcel (((Up.refl w5).drew.trans ue0).trans u6)
  obtain rfl : be0 = true := by simpa using hbe0
  clear hbe0
  have ga0_6_0 : w6.cell? ⟨w.heap.size, 0, none⟩ = some (.int .i64 x0.1) := ka0_6.cell 0
  have ga0_6_1 : w6.cell? ⟨w.heap.size, 1, none⟩ = some (.slice A0_1 x0.2.length c0_1) := ka0_6.cell 1
  have za0_6 := ka0_6.lt
  have gx0_6_0 : w6.cell? ⟨w4.heap.size, 0, none⟩ = some (.int .i64 x0.1) := kx0_6.cell 0
  have gx0_6_1 : w6.cell? ⟨w4.heap.size, 1, none⟩ = some (.slice D0_1 x0.2.length d0_1) := kx0_6.cell 1
  have zx0_6 := kx0_6.lt
  clear ga0_5_0 ga0_5_1 za0_5 gx0_5_0 gx0_5_1 zx0_5
  go_wp2_with fail
  go_ret
  exact ⟨rfl, uu6⟩
end Go.Proofs.YtanjmolgpkffoaaGreatDoor
