/-
  The walk of FnExactImagesOk: for every input it returns true.
-/
import Derived.Test.YtanjmolgpkffoaaGreatDoorM1Ix
import Derived.Deep.RegionHeld3
namespace Go.Proofs.YtanjmolgpkffoaaGreatDoor
open Go.RowKit
set_option linter.unusedVariables false
set_option linter.unusedSimpArgs false

set_option maxRecDepth 100000 in
set_option maxHeartbeats 8000000 in
theorem w0_FnExactImagesOk (w : World) (A0 : Option Addr) (c0 : Nat) (x0 : List TImage) (h0 : SRW shImage w A0 c0 x0) (htab : Tab w) :
    Calls Tryz.prog 4 #[.slice A0 x0.length c0] w fun e w' => e = .returned (.bool true) ∧ Up w w' := by
  have uu0 : Up w w := Up.refl w
  go_enter Tryz.func4, Tryz.ntmps4
  go_wp2_with fail
  refine (c_szImageS _ _ _ _ _ (h0.up good_Image uu0) (by omega) (by omega)).mono ?_
  rintro e w1 ⟨rfl, u1⟩
  have uu1 := uu0.trans u1
  by_cases q0 : ¬ (((shL shImage).sz x0 : Nat) : Int) ≤ 1048576
  · rw [szR_no (by omega)]
    go_wp2_with fail
    go_ret
    exact ⟨rfl, uu1⟩
  replace q0 := Decidable.of_not_not q0
  rw [szR_yes q0]
  clear u1
  go_wp2_with fail
  have hn0 : (shL shImage).sz x0 ≤ 1048576 := by omega
  refine (c_toImageS _ _ _ _ (h0.up good_Image uu1) hn0).mono ?_
  rintro e w2 ⟨Dp0, dp0, blp0, rfl, op0, ndp0, u2⟩
  have uu2 := uu1.trans u2
  have y0_2 := SR.of_own good_Image op0
  go_wp2_with fail
  refine (cs_ImagesOk _ _ x0 _ y0_2 hn0).mono ?_
  rintro e w3 ⟨rfl, u3⟩
  have uu3 := uu2.trans u3
  go_wp2_with fail
  refine (c_toImageS _ _ _ _ (h0.up good_Image uu3) hn0).mono ?_
  rintro e w4 ⟨Dx0, dx0, blx0, rfl, ox0, ndx0, u4⟩
  have uu4 := uu3.trans u4
  have y0_4 := SR.of_own good_Image ox0
  go_wp2_with fail
  refine (ci_ImagesOk _ _ x0 _ y0_4 hn0 (tab_up htab uu4)).mono ?_
  rintro e w5 ⟨rfl, u5⟩
  have uu5 := uu4.trans u5
  have y0_5 := y0_4.up good_Image u5
  go_wp2_with fail
  refine (c_toImageS _ _ _ _ (h0.up good_Image uu5) hn0).mono ?_
  rintro e w6 ⟨De0, de0, ble0, rfl, oe0, nde0, u6⟩
  have uu6 := uu5.trans u6
  have y0_6 := y0_5.up good_Image u6
  have yc0 := SR.of_own good_Image oe0
  go_wp2_with fail
  refine (c_eqImageS _ _ _ _ _ _ _ y0_6 yc0).mono ?_
  rintro e w7 ⟨be0, rfl, hbe0, u7⟩
  have uu7 := uu6.trans u7
  have y0_7 := y0_6.up good_Image u7
  obtain rfl : be0 = true := by simpa using hbe0
  clear hbe0
  go_wp2_with fail
  go_ret
  exact ⟨rfl, uu7⟩
end Go.Proofs.YtanjmolgpkffoaaGreatDoor
