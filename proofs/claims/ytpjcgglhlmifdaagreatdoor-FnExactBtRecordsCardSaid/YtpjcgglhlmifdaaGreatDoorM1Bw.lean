/-
  What a right tree holds below a page, and the way down to a key (plain).
-/
import Derived.Test.YtpjcgglhlmifdaaGreatDoorM1Bp
namespace Go.Proofs.YtpjcgglhlmifdaaGreatDoor
open Go.RowKit
set_option linter.unusedVariables false
set_option linter.unusedSimpArgs false

/-- Below a page there are pages only, n deep at most. -/
def Stands (x : TBtree) : Nat → Int → Prop
  | 0, _ => False
  | n + 1, id => ∃ p, pgAt x id = some p ∧ (p.1 = false → ∀ k, k < p.2.2.2.length → Stands x n (p.2.2.2.getD k 0))
theorem kidsTo_all {f : Nat → TWalk → Option TWalk} {s : TWalk} : ∀ {m : Nat} {t : TWalk}, kidsTo f m s = some t → ∀ k, k < m → ∃ a b, f k a = some b
  | 0, _, _, k, hk => absurd hk (by omega)
  | m + 1, t, h, k, hk => by
    unfold kidsTo at h
    cases e : kidsTo f m s with
    | none => rw [e] at h; cases h
    | some u =>
      rw [e] at h
      by_cases q : k = m
      · subst q; exact ⟨u, t, h⟩
      · exact kidsTo_all e k (by omega)
theorem stands_of_walk {x : TBtree} : ∀ {n : Nat} {id : Int} {far : Nat} {lo hi : ByteArray} {s t : TWalk}, walkB x n id far lo hi s = some t → Stands x n id
  | 0, _, _, _, _, _, _, h => by cases h
  | n + 1, id, far, lo, hi, s, t, h => by
    unfold walkB at h
    cases hp : pgAt x id with
    | none => rw [hp] at h; cases h
    | some p =>
      rw [hp] at h
      dsimp only at h
      refine ⟨p, hp, fun hl k hk => ?_⟩
      split at h
      · cases h
      · split at h
        · cases h
        · split at h
          · cases h
          · rw [if_neg (by rw [hl]; decide)] at h
            obtain ⟨a, b, hb⟩ := kidsTo_all h k hk
            exact stands_of_walk hb
theorem stands_root {x : TBtree} (h : btreeB x = true) : Stands x 64 x.1 := by
  unfold btreeB at h
  simp only [Bool.and_eq_true] at h
  have h2 := h.2
  unfold walkTop at h2
  cases e : walkB x 64 x.1 1 ⟨#[]⟩ ⟨#[]⟩ ([], none) with
  | none => rw [e] at h2; cases h2
  | some s => exact stands_of_walk e
theorem slots_of_btree {x : TBtree} (h : btreeB x = true) : SlotsP x.2 := by
  unfold btreeB at h
  simp only [Bool.and_eq_true] at h
  exact of_decide_eq_true h.1
end Go.Proofs.YtpjcgglhlmifdaaGreatDoor
