/-
  The program's short.
-/
import Derived.Test.YtghphlfihakadaaGreatDoorKp
import Derived.Test.YtghphlfihakadaaGreatDoorPi
namespace Go.Proofs.YtghphlfihakadaaGreatDoor
open Go.RowKit
set_option linter.unusedVariables false
set_option linter.unusedSimpArgs false

theorem leS_one (n : Nat) : leS n 1 = bs [UInt8.ofNat n] := rfl
set_option maxHeartbeats 4000000 in
theorem c_short (s : ByteArray) (w : World) (hs : s.size ≤ 1048576) : Calls Tryz.prog 79 #[.string s] w (RetV (.string (bs (shortL s))) w) := by
  have hb : bs (shortL s) = bs [UInt8.ofNat s.size] ++ s := by
    have := bs_append [UInt8.ofNat s.size] s.data.toList
    rw [bs_eta] at this
    exact this
  have HB := Lib.hid hb
  have hg : ¬ 9223372036854775807 < (bs [UInt8.ofNat s.size]).size + s.size := by rw [bs_size]; simp; omega
  have ck := fun W => c_little s.size 1 W (by omega) (by omega) (by omega)
  rw [leS_one] at ck
  generalize bs [UInt8.ofNat s.size] = K at *
  have CK := Lib.hid ck
  clear ck hb
  go_enter Tryz.func79, Tryz.ntmps79
  go_wp2_with fail
  refine (CK.out _).mono ?_
  rintro e w1 ⟨rfl, u1⟩
  go_wp2_with fail
  go_ret
  exact ⟨by rw [HB.out]; first | done | rfl, u1⟩
end Go.Proofs.YtghphlfihakadaaGreatDoor
