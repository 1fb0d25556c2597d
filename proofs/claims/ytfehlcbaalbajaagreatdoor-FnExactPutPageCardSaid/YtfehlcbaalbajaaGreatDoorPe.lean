/-
  strings.ReplaceAll of the byte 0 by 0, 255 is escL: plain.
-/
import Derived.Test.YtfehlcbaalbajaaGreatDoorKy
import Derived.Lib.ReplaceLaws
namespace Go.Proofs.YtfehlcbaalbajaaGreatDoor
open Go.RowKit
set_option linter.unusedVariables false
set_option linter.unusedSimpArgs false

theorem index_zero (l : List UInt8) : Lib.index (0 :: l) [0] = (0 : Nat) := by simp [Lib.index]
theorem index_cons_ne {b : UInt8} {l : List UInt8} {i : Nat} (hb : b ≠ 0) (h : Lib.index l [0] = i) : Lib.index (b :: l) [0] = ((i + 1 : Nat) : Int) := by
  have h1 : ((0 : UInt8) == b) = false := by simpa using fun e => hb e.symm
  have h2 : ((i : Int) == -1) = false := by simp
  simp only [Lib.index, List.isPrefixOf, h1, Bool.false_and, h, h2]
  simp
theorem replK_esc : ∀ l : List UInt8, Lib.replaceK [0] [0, 255] (Lib.count l [0]) l = escL l
  | [] => by
    have : Lib.count [] [0] = 0 := by decide
    rw [this]; rfl
  | b :: l => by
    by_cases hb : b = 0
    · subst hb
      rw [Lib.count_cons_eq, Nat.add_comm, Lib.replaceK_hit _ _ _ _ 0 (index_zero l)]
      have := replK_esc l
      simpa [escL, escB] using this
    · rw [Lib.count_cons_ne _ _ _ hb]
      have ih := replK_esc l
      have e : escL (b :: l) = b :: escL l := by simp [escL, escB, hb]
      rw [e, ← ih]
      by_cases h0 : Lib.count l [0] = 0
      · rw [h0]; rfl
      · obtain ⟨k, hk⟩ : ∃ k, Lib.count l [0] = k + 1 := ⟨Lib.count l [0] - 1, by omega⟩
        obtain ⟨i, hi⟩ := Lib.index_of_count (s := l) (old := [0]) (by omega)
        rw [hk, Lib.replaceK_hit _ _ _ _ _ (index_cons_ne hb hi), Lib.replaceK_hit _ _ _ _ _ hi]
        simp
theorem replaceAll_esc (l : List UInt8) : Lib.replaceAll l [0] [0, 255] = escL l := by
  have h : (([0] : List UInt8) == [0, 255]) = false := by decide
  have h2 : Lib.replaceNum l [0] (-1) = Lib.count l [0] := by simp [Lib.replaceNum]
  unfold Lib.replaceAll Lib.replace
  rw [h, h2, if_neg (by decide)]
  exact replK_esc l
end Go.Proofs.YtfehlcbaalbajaaGreatDoor
