/-
  The reference's bytes and short texts: l15Byte, l19Text.
-/
import Derived.Test.YtghphlfihakadaaGreatDoorKz
namespace Go.Proofs.YtghphlfihakadaaGreatDoor
open Go.RowKit
set_option linter.unusedVariables false
set_option linter.unusedSimpArgs false

set_option maxHeartbeats 4000000 in
theorem c_l15Byte (n : Nat) (w : World) (hn : n ≤ 255) : Calls Tryz.prog 60 #[.int .i64 (n : Int)] w (RetV (.string (bs [UInt8.ofNat n])) w) := by
  obtain ⟨c, hc⟩ : ∃ c, c = UInt8.ofNat n := ⟨_, rfl⟩
  have hcn : (n : Int) = (c.toNat : Int) := by rw [hc, UInt8.toNat_ofNat']; omega
  rw [← hc]
  have hw : (n : Int) % 256 = (n : Int) := by omega
  have hcv : (convert 85 9 (.slice (some ⟨w.heap.size, 0, none⟩) 1 1)).run Tryz.prog (w.alloc (.cells #[.int .u8 (n : Int)] 5)) = .ok (.string (bs [c])) (w.alloc (.cells #[.int .u8 (n : Int)] 5)) := conv_at _ _ hcn _ _ (Bk.new _ _ _)
  have HC := Lib.hid hcn
  clear hcn hc
  go_enter Tryz.func60, Tryz.ntmps60
  go_wp2_with fail
  go_ret
  exact ⟨rfl, (Up.refl w).alloc _⟩
def shortL (s : ByteArray) : List UInt8 := UInt8.ofNat s.size :: s.data.toList
set_option maxHeartbeats 4000000 in
theorem c_l19Text (s : ByteArray) (w : World) (hs : s.size ≤ 255) : Calls Tryz.prog 61 #[.string s] w (RetV (.string (bs (shortL s))) w) := by
  have hb : bs (shortL s) = bs [UInt8.ofNat s.size] ++ s := by
    have := bs_append [UInt8.ofNat s.size] s.data.toList
    rw [bs_eta] at this
    exact this
  have HB := Lib.hid hb
  have hg : ¬ 9223372036854775807 < (bs [UInt8.ofNat s.size]).size + s.size := by rw [bs_size]; simp; omega
  have ck := fun W => c_l15Byte s.size W hs
  generalize bs [UInt8.ofNat s.size] = K at *
  have CK := Lib.hid ck
  clear ck hb
  go_enter Tryz.func61, Tryz.ntmps61
  go_wp2_with fail
  refine (CK.out _).mono ?_
  rintro e w1 ⟨rfl, u1⟩
  go_wp2_with fail
  go_ret
  exact ⟨by rw [HB.out]; first | done | rfl, u1⟩
end Go.Proofs.YtghphlfihakadaaGreatDoor
