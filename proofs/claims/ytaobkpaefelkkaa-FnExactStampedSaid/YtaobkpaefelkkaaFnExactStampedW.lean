/-
  The walk of FnExactStamped: for every input it returns true.
-/
import Derived.Test.YtaobkpaefelkkaaStm
import Derived.Deep.RegionHeld3
namespace Go.Proofs.Ytaobkpaefelkkaa
open Go.RowKit
set_option linter.unusedVariables false
set_option linter.unusedSimpArgs false

set_option maxRecDepth 100000 in
set_option maxHeartbeats 8000000 in
theorem w0_FnExactStamped (w : World) (s0 : ByteArray) (h0 : s0.size ≤ maxLen) (s1 : ByteArray) (h1 : s1.size ≤ maxLen) (n2 : Int) (h2 : I64 n2) :
    Calls Try.prog 7 #[.string s0, .string s1, .int .i64 n2] w fun e w' => e = .returned (.bool true) ∧ Up w w' := by
  have hm0 := h0; unfold maxLen at hm0
  have hm1 := h1; unfold maxLen at hm1
  obtain ⟨hl2, hh2⟩ := id h2
  have uu0 : Up w w := Up.refl w
  go_enter Try.func7, Try.ntmps7
  go_wp2_with fail
  · go_ret
    exact ⟨rfl, uu0⟩
  · go_ret
    exact ⟨rfl, uu0⟩
  have hn0 : s0.size ≤ 1048576 := by omega
  have hn1 : s1.size ≤ 1048576 := by omega
  refine (cs_Stamped s0 s1 n2 _ h0 hn0 h1 hn1 h2).mono ?_
  rintro e w1 ⟨rfl, u1⟩
  have uu1 := uu0.trans u1
  go_wp2_with fail
  refine (ci_Stamped s0 s1 n2 _ h0 hn0 h1 hn1 h2).mono ?_
  rintro e w2 ⟨rfl, u2⟩
  have uu2 := uu1.trans u2
  go_wp2_with fail
  go_ret
  exact ⟨rfl, uu2⟩
end Go.Proofs.Ytaobkpaefelkkaa
