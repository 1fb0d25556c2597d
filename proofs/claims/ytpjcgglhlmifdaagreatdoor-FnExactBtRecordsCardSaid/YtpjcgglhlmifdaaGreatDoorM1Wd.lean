/-
  The way down to a key: the reference's way, and its depth.
-/
import Derived.Test.YtpjcgglhlmifdaaGreatDoorM1Wc
import Derived.Test.YtpjcgglhlmifdaaGreatDoorM1Bg
namespace Go.Proofs.YtpjcgglhlmifdaaGreatDoor
open Go.RowKit
set_option linter.unusedVariables false
set_option linter.unusedSimpArgs false

theorem getD_inW {α : Type} {l : List α} {k : Nat} (h : k < l.length) (d : α) : l.getD k d = l[k] := by simp [List.getD, List.getElem?_eq_getElem h]
theorem kid_rng {p : TPage} (h : pageB p = true) (hl : p.1 = false) (k : Nat) (hk : k < p.2.2.2.length) : I64 p.2.2.2[k] := by
  have := (kid_of_pageD h hl).2.1 k hk
  exact ⟨by omega, by omega⟩
theorem keys_le6 {p : TPage} (h : pageB p = true) : p.2.1.length ≤ 6 := by
  cases hl : p.1
  · have := fork_lens h hl
    have := (kid_of_pageD h hl).1
    omega
  · unfold pageB at h
    simp only [Bool.and_eq_true] at h
    have h2 := h.2
    rw [if_pos hl] at h2
    simp only [leafB, Bool.and_eq_true, decide_eq_true_eq] at h2
    exact h2.1.1.1
end Go.Proofs.YtpjcgglhlmifdaaGreatDoor
