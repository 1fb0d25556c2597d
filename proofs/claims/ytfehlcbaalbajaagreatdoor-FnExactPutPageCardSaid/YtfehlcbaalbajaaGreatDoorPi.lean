/-
  The reference's bytes and short texts: l15Byte, l19Text.
-/
import Derived.Test.YtfehlcbaalbajaaGreatDoorKz
namespace Go.Proofs.YtfehlcbaalbajaaGreatDoor
open Go.RowKit
set_option linter.unusedVariables false
set_option linter.unusedSimpArgs false

set_option maxHeartbeats 4000000 in
theorem c_l15Byte (n : Nat) (w : World) (hn : n ≤ 255) : Calls Tryz.prog 93 #[.int .i64 (n : Int)] w (RetV (.string (bs [UInt8.ofNat n])) w) := by
  obtain ⟨c, hc⟩ : ∃ c, c = UInt8.ofNat n := ⟨_, rfl⟩
  have hcn : (n : Int) = (c.toNat : Int) := by rw [hc, UInt8.toNat_ofNat']; omega
  rw [← hc]
  have hw : (n : Int) % 256 = (n : Int) := by omega
  have hcv : (convert 132 9 (.slice (some ⟨w.heap.size, 0, none⟩) 1 1)).run Tryz.prog (w.alloc (.cells #[.int .u8 (n : Int)] 5)) = .ok (.string (bs [c])) (w.alloc (.cells #[.int .u8 (n : Int)] 5)) := conv_at _ _ hcn _ _ (Bk.new _ _ _)
  have HC := Lib.hid hcn
  clear hcn hc
  go_enter Tryz.func93, Tryz.ntmps93
  go_wp2_with fail
  go_ret
  exact ⟨rfl, (Up.refl w).alloc _⟩
def shortL (s : ByteArray) : List UInt8 := UInt8.ofNat s.size :: s.data.toList
end Go.Proofs.YtfehlcbaalbajaaGreatDoor
