/-
  The program's KeyOf.
-/
import Derived.Test.YtghphlfihakadaaGreatDoorPq
namespace Go.Proofs.YtghphlfihakadaaGreatDoor
open Go.RowKit
set_option linter.unusedVariables false
set_option linter.unusedSimpArgs false

set_option maxRecDepth 100000 in
set_option maxHeartbeats 8000000 in
theorem c_KeyOf (s : ByteArray) (xs : List ByteArray) (A : Option Addr) (c : Nat) (w : World) (hs : s.size ≤ maxLen) (h : SRW shS w A c xs) (htab : Tab w) (hm : MaxL w) :
    Calls Tryz.prog 77 #[.string s, .slice A xs.length c] w (RetV (.string (bs (keyOfL s xs))) w) := by
  cases hb : placeB s xs
  · have HE : Hid (bs (keyOfL s xs) = ⟨#[]⟩) := by unfold Hid keyOfL; rw [if_neg (by rw [hb]; simp)]; rfl
    go_enter Tryz.func77, Tryz.ntmps77
    go_wp2_with fail
    refine (c_locationOk s xs A c _ hs h).mono ?_
    rintro e w1 ⟨rfl, u1⟩
    rw [hb]
    go_wp2_with fail
    go_ret
    exact ⟨by rw [HE.out]; first | done | rfl, u1⟩
  · have hn := nameB_size (by unfold placeB at hb; exact (Bool.and_eq_true _ _ ▸ hb).1)
    have hpl := putSubsL_len xs
    have h1 : (ByteArray.mk #[1]).size = 1 := rfl
    have hke : bs (keyOfL s xs) = (s ++ ⟨#[1]⟩) ++ bs (putSubsL xs) := by
      unfold keyOfL
      rw [if_pos hb]
      apply ba_ext
      rw [bs_toList]
      simp [ByteArray.data_append, bs]
    have HE := Lib.hid hke
    have g1 : ¬ 9223372036854775807 < s.size + (ByteArray.mk #[1]).size := by omega
    have g2 : ¬ 9223372036854775807 < (s ++ ⟨#[1]⟩ : ByteArray).size + (bs (putSubsL xs)).size := by rw [bs_size, ByteArray.size_append]; omega
    have cp := fun W (hW : Up w W) => c_PutSubs xs A c W (h.up good_S hW) (tab_up htab hW) (maxL_up hm hW)
    generalize bs (putSubsL xs) = K at *
    have CP := Lib.hid cp
    clear cp hke hpl h1
    go_enter Tryz.func77, Tryz.ntmps77
    go_wp2_with fail
    refine (c_locationOk s xs A c _ hs h).mono ?_
    rintro e w1 ⟨rfl, u1⟩
    rw [hb]
    go_wp2_with fail
    refine (CP.out _ u1).mono ?_
    rintro e w2 ⟨rfl, u2⟩
    go_wp2_with fail
    go_ret
    exact ⟨by rw [HE.out]; first | done | rfl, u1.trans u2⟩
end Go.Proofs.YtghphlfihakadaaGreatDoor
