/-
  Shared: the length of the common beginning of two strings; both sides.
  The reference's bytes and short texts: l15Byte, l19Text.
  The format of a page, in plain words.
-/
import Derived.Test.YtpjcgglhlmifdaaGreatDoorM3C
import Derived.Test.YtpjcgglhlmifdaaGreatDoorM3B
import Derived.BigQuiet
import Derived.Deep.QuietTactic
import Derived.Test.YtpjcgglhlmifdaaGreatDoorM3Qa
namespace Go.Proofs.YtpjcgglhlmifdaaGreatDoor
open Go.RowKit
set_option linter.unusedVariables false
set_option linter.unusedSimpArgs false

end Go.Proofs.YtpjcgglhlmifdaaGreatDoor

namespace Go.Proofs.YtpjcgglhlmifdaaGreatDoor
open Go.RowKit
set_option linter.unusedVariables false
set_option linter.unusedSimpArgs false

end Go.Proofs.YtpjcgglhlmifdaaGreatDoor

namespace Go.Proofs.YtpjcgglhlmifdaaGreatDoor
open Go.RowKit
set_option linter.unusedVariables false
set_option linter.unusedSimpArgs false

theorem subKey_len {s : ByteArray} (h : subB s = true) : (subKeyL s).length ≤ 51 := by
  have h2 := subB_size h
  unfold subKeyL
  split
  · rw [List.length_cons, beT_len]; omega
  · have := escL_len s.data.toList
    rw [slen] at this
    simp; omega
theorem keys_len51 {l : List ByteArray} (h : ∀ x ∈ l, subB x = true) : (l.flatMap subKeyL).length ≤ 51 * l.length := by
  induction l with
  | nil => simp
  | cons x l ih =>
    have h1 := subKey_len (h x List.mem_cons_self)
    have h3 := ih (fun y hy => h y (List.mem_cons_of_mem _ hy))
    show (subKeyL x ++ l.flatMap subKeyL).length ≤ 51 * (l.length + 1)
    rw [List.length_append]; omega
theorem keyB_size {k : ByteArray} (h : keyB k = true) : k.size ≤ 213 := by
  have hl := slen k
  unfold keyB at h
  cases hp : placeOf k with
  | none => rw [hp] at h; cases h
  | some p =>
    unfold placeOf at hp
    split at hp
    · rename_i hc
      obtain ⟨h1, h2⟩ := hc
      rw [Option.map_eq_some_iff] at hp
      obtain ⟨l, h3, _⟩ := hp
      obtain ⟨h4, h5⟩ := getSubs_some h3
      have h6 := subsP_of h4
      have h7 := keys_len51 (subs_all h6)
      rw [h5, List.length_drop] at h7
      have h8 := nameB_size h2
      have h9 := bs_size (headL k.data.toList)
      have := h6.1
      omega
    · cases hp
theorem page_keys {x : TPage} (h : pageB x = true) : KeysP x.2.1 := by
  unfold pageB at h
  simp only [Bool.and_eq_true] at h
  exact of_decide_eq_true h.1
theorem page_vals {x : TPage} (h : pageB x = true) (hl : x.1 = true) : x.2.2.1.length = x.2.1.length ∧ (∀ k (hk : k < x.2.2.1.length), x.2.2.1[k].size ≤ 64) ∧ x.2.2.2.length = 0 := by
  unfold pageB at h
  simp only [Bool.and_eq_true, if_pos hl] at h
  have h2 := h.2
  simp only [leafB, Bool.and_eq_true, decide_eq_true_eq, Bool.not_eq_true'] at h2
  refine ⟨h2.1.1.2, fun k hk => ?_, h2.2⟩
  rcases Nat.lt_or_ge 64 x.2.2.1[k].size with h6 | h6
  · rw [long_t hk h6] at h2; exact absurd h2.1.2 (by simp)
  · exact h6
end Go.Proofs.YtpjcgglhlmifdaaGreatDoor
