/-
  Contracts of slices.Clone at flat elements.
-/
import Derived.Test.YtfehlcbaalbajaaGreatDoorRows
import Derived.Test.YtfehlcbaalbajaaGreatDoorTy
import Derived.Test.YtfehlcbaalbajaaGreatDoorAp
import Derived.OwnWalk
namespace Go.Proofs.YtfehlcbaalbajaaGreatDoor
open Go.RowKit
set_option linter.unusedVariables false
set_option linter.unusedSimpArgs false
theorem flat_Put : Flat shPut := flat_P flat_I flat_S

theorem cinfo_StringS : (Tryz.prog.info? 9).map (fun i => (i.zero, i.size, i.bytes)) = some (some (.string ⟨#[]⟩), 1, 16) := by kernel_rfl
set_option maxRecDepth 100000 in
set_option maxHeartbeats 1000000 in
theorem c_CloneStringS (xs : List ByteArray) (A : Option Addr) (c : Nat) (w : World) (h : SRW shS w A c xs) (hn : xs.length ≤ 1048576) :
    Calls Tryz.prog 163 #[.slice A xs.length c] w (ToL shS xs w) := by
  obtain ⟨i0, hi0, hz0, hz1, hz2⟩ := info_parts cinfo_StringS
  cases A with
  | none =>
    obtain rfl : xs = [] := by
      rcases Nat.eq_zero_or_pos xs.length with h0 | hp
      · exact List.eq_nil_of_length_eq_zero h0
      · obtain ⟨g, off, hA, _⟩ := h.2.2 hp; cases hA
    have he : ∀ W : World, (binOp .eql 44 (.slice none 0 c) (.slice none 0 0)).run Tryz.prog W = .ok (.bool true) W := fun _ => rfl
    go_enter Tryz.func163, Tryz.ntmps163
    go_wp2_with fail

    go_ret
    exact ⟨none, 0, [], rfl, SO.nil _ _ _, by simp, Up.refl _⟩
  | some ad =>
    have he : ∀ W : World, (binOp .eql 44 (.slice (some ad) xs.length c) (.slice none 0 0)).run Tryz.prog W = .ok (.bool false) W := fun _ => rfl
    go_enter Tryz.func163, Tryz.ntmps163
    go_wp2_with (first
      | (at_builtin
         refine wpList_app_new good_S flat_S rfl _ _ _ 9 rfl i0 _ Tryz.underlying44 hi0 hz0 hz1 (by rfl) rfl rfl (h.up good_S ((Up.refl w).alloc _)) (by rw [hz2]; omega) ?_
         intro D d bl w1 hso hnd hu))
    go_ret
    exact ⟨D, d, bl, rfl, hso.wide good_S (by simp) (Nat.le_refl _), hnd, ((Up.refl w).alloc _).trans hu⟩

end Go.Proofs.YtfehlcbaalbajaaGreatDoor
