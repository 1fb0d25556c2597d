/-
  SameDisk: the program's and the reference's say whether two disks are equal; the law returns true.
-/
import Derived.Test.YtgdcdfpnogiciaaSl
import Derived.Test.YtgdcdfpnogiciaaLz
import Derived.Test.YtgdcdfpnogiciaaLe
import Derived.Test.YtgdcdfpnogiciaaLt
namespace Go.Proofs.Ytgdcdfpnogiciaa
open Go.RowKit
set_option linter.unusedVariables false

theorem c_SameSubs (xs ys : List ByteArray) (A B : Option Addr) (c d : Nat) (w : World) (h : SRW shS w A c xs) (k : SRW shS w B d ys) :
    Calls Try.prog 61 #[.slice A xs.length c, .slice B ys.length d] w (EqP (xs = ys) w) := by
  go_enter Try.func61, Try.ntmps61
  go_wp2_with fail
  refine (c_l02Same _ _ _ _ _ _ _ h k).mono ?_
  rintro e w1 ⟨b, rfl, hb, u⟩
  go_wp2_with fail
  go_ret
  exact ⟨b, rfl, hb, u⟩

end Go.Proofs.Ytgdcdfpnogiciaa
