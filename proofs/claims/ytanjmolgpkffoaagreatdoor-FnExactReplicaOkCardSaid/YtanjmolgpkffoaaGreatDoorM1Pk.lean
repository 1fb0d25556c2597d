/-
  ParcelOk: both sides' contracts.
-/
import Derived.Test.YtanjmolgpkffoaaGreatDoorM1Ix
namespace Go.Proofs.YtanjmolgpkffoaaGreatDoor
open Go.RowKit
set_option linter.unusedVariables false
set_option linter.unusedSimpArgs false

def parcelB (x : TParcel) : Bool := inB x.1 1 2000000000 && imagesB x.2
set_option maxRecDepth 100000 in
theorem ci_ParcelOk (v : Value) (x : TParcel) (w : World) (h : AV shParcel w v x) (hn : shParcel.sz x ≤ 1048576) (htab : Tab w) :
    Calls Tryz.prog 27 #[v] w (RetV (.bool (parcelB x)) w) := by
  obtain ⟨cs, rfl, h⟩ := h
  obtain ⟨A1, c1, rfl, b0, b1⟩ := openParcel h
  obtain ⟨x0, x1⟩ := x
  have hn1 : (shL shImage).sz x1 ≤ 1048576 := by
    have : shParcel.sz (x0, x1) = 0 + (shL shImage).sz x1 := rfl
    omega
  simp only at b0 b1
  clear h
  have hv : parcelB (x0, x1) = (inB x0 1 2000000000 && imagesB x1) := rfl
  have k0 := Bk.new w 50 #[.int .i64 x0, .slice A1 x1.length c1]
  have u0 : Up w (w.alloc (.cells #[.int .i64 x0, .slice A1 x1.length c1] 50)) := (Up.refl w).alloc _
  cases hp : inB x0 1 2000000000
  · have H := Lib.hid (show parcelB (x0, x1) = false by rw [hv, hp]; rfl)
    clear hv
    go_enter Tryz.func27, Tryz.ntmps27
    go_wp2_with fail
    refine (within_any _ _ _ _).mono ?_
    rintro e w' ⟨rfl, rfl⟩
    rw [hp]
    go_wp2_with fail
    go_ret
    exact ⟨by rw [H.out]; first | done | rfl, u0⟩
  · have H := Lib.hid (show parcelB (x0, x1) = imagesB x1 by rw [hv, hp]; rfl)
    clear hv
    have ci := fun W hW ht => ci_ImagesOk A1 c1 x1 W hW hn1 ht
    generalize imagesB x1 = bb at *
    have CI := Lib.hid ci
    clear ci
    go_enter Tryz.func27, Tryz.ntmps27
    go_wp2_with fail
    refine (within_any _ _ _ _).mono ?_
    rintro e w' ⟨rfl, rfl⟩
    rw [hp]
    go_wp2_with fail
    refine (CI.out _ (b1.up good_Image u0) (tab_up htab u0)).mono ?_
    rintro e w1 ⟨rfl, u1⟩
    go_wp2_with fail
    go_ret
    exact ⟨by rw [H.out]; first | done | rfl, u0.trans u1⟩
set_option maxRecDepth 100000 in
theorem cs_ParcelOk (v : Value) (x : TParcel) (w : World) (h : AV shParcel w v x) (hn : shParcel.sz x ≤ 1048576) :
    Calls Tryz.prog 25 #[v] w (RetV (.bool (parcelB x)) w) := by
  obtain ⟨cs, rfl, h⟩ := h
  obtain ⟨A1, c1, rfl, b0, b1⟩ := openParcel h
  obtain ⟨x0, x1⟩ := x
  simp only at b0 b1
  clear h
  have hv : parcelB (x0, x1) = (inB x0 1 2000000000 && imagesB x1) := rfl
  have k0 := Bk.new w 50 #[.int .i64 x0, .slice A1 x1.length c1]
  have u0 : Up w (w.alloc (.cells #[.int .i64 x0, .slice A1 x1.length c1] 50)) := (Up.refl w).alloc _
  cases hp : inB x0 1 2000000000
  · have H := Lib.hid (show parcelB (x0, x1) = false by rw [hv, hp]; rfl)
    clear hv
    go_enter Tryz.func25, Tryz.ntmps25
    go_wp2_with fail
    refine (in_any _ _ _ _).mono ?_
    rintro e w' ⟨rfl, rfl⟩
    rw [hp]
    go_wp2_with fail
    go_ret
    exact ⟨by rw [H.out]; first | done | rfl, u0⟩
  · have H := Lib.hid (show parcelB (x0, x1) = imagesB x1 by rw [hv, hp]; rfl)
    clear hv
    have ci := fun W hW => c_specImagesOk x1 A1 c1 W hW
    generalize imagesB x1 = bb at *
    have CI := Lib.hid ci
    clear ci
    go_enter Tryz.func25, Tryz.ntmps25
    go_wp2_with fail
    refine (in_any _ _ _ _).mono ?_
    rintro e w' ⟨rfl, rfl⟩
    rw [hp]
    go_wp2_with fail
    refine (CI.out _ (b1.up good_Image u0)).mono ?_
    rintro e w1 ⟨rfl, u1⟩
    go_wp2_with fail
    go_ret
    exact ⟨by rw [H.out]; first | done | rfl, u0.trans u1⟩
end Go.Proofs.YtanjmolgpkffoaaGreatDoor
