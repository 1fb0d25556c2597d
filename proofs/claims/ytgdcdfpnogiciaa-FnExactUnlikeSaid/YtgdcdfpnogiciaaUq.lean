/-
  Ids put to their places, once: plain words.
-/
import Derived.Test.YtgdcdfpnogiciaaRep2
namespace Go.Proofs.Ytgdcdfpnogiciaa
open Go.RowKit
set_option linter.unusedVariables false
set_option linter.unusedSimpArgs false

def putI (l : List Int) (n : Int) : List Int :=
  match l with
  | [] => [n]
  | a :: l => if a < n then a :: putI l n else if a = n then a :: l else n :: a :: l
def putsI (l ids : List Int) : List Int := ids.foldl putI l

theorem putI_below : ∀ (l : List Int) (n : Int), (∀ a ∈ l, a < n) → putI l n = l ++ [n]
  | [], _, _ => rfl
  | a :: l, n, h => by
    rw [putI, if_pos (h a (by simp)), putI_below l n (fun b hb => h b (by simp [hb]))]
    rfl
theorem putI_at : ∀ (l : List Int) (n a : Int) (r : List Int), (∀ b ∈ l, b < n) → ¬ a < n → putI (l ++ a :: r) n = l ++ (if n < a then [n] else []) ++ a :: r
  | [], n, a, r, _, h => by
    show putI (a :: r) n = _
    rw [putI, if_neg h]
    by_cases e : a = n
    · rw [if_pos e, if_neg (by omega)]; rfl
    · rw [if_neg e, if_pos (by omega)]; rfl
  | b :: l, n, a, r, hl, h => by
    show putI (b :: (l ++ a :: r)) n = _
    rw [putI, if_pos (hl b (by simp)), putI_at l n a r (fun c hc => hl c (by simp [hc])) h]
    rfl
theorem putI_len (l : List Int) (n : Int) : (putI l n).length ≤ l.length + 1 := by
  induction l with
  | nil => simp [putI]
  | cons a l ih =>
    rw [putI]
    split
    · simp only [List.length_cons]; omega
    · split <;> simp
theorem putsI_len : ∀ (ids l : List Int), (putsI l ids).length ≤ l.length + ids.length
  | [], l => by simp [putsI]
  | n :: ids, l => by
    have h1 := putsI_len ids (putI l n)
    have h2 := putI_len l n
    show (putsI (putI l n) ids).length ≤ _
    simp only [List.length_cons]
    omega
theorem putI_mem (l : List Int) (n x : Int) : x ∈ putI l n ↔ x ∈ l ∨ x = n := by
  induction l with
  | nil => simp [putI]
  | cons a l ih =>
    rw [putI]
    split
    · simp only [List.mem_cons, ih]
      constructor
      · rintro (h | h | h) <;> simp [h]
      · rintro ((h | h) | h) <;> simp [h]
    · split
      · rename_i h1 h2
        subst h2
        simp only [List.mem_cons]
        constructor
        · exact fun h => .inl h
        · rintro (h | h)
          · exact h
          · exact .inl h
      · simp only [List.mem_cons]
        constructor
        · rintro (h | h | h) <;> simp [h]
        · rintro ((h | h) | h) <;> simp [h]
theorem putI_sorted (l : List Int) (n : Int) (h : l.Pairwise (· < ·)) : (putI l n).Pairwise (· < ·) := by
  induction l with
  | nil => simp [putI]
  | cons a l ih =>
    obtain ⟨h1, h2⟩ := List.pairwise_cons.1 h
    rw [putI]
    split
    · rename_i ha
      refine List.pairwise_cons.2 ⟨fun b hb => ?_, ih h2⟩
      rcases (putI_mem l n b).1 hb with hb | rfl
      · exact h1 b hb
      · exact ha
    · split
      · exact h
      · refine List.pairwise_cons.2 ⟨fun b hb => ?_, h⟩
        rcases List.mem_cons.1 hb with rfl | hb
        · omega
        · have := h1 b hb
          omega
theorem putsI_mem : ∀ (ids l : List Int) (x : Int), x ∈ putsI l ids ↔ x ∈ l ∨ x ∈ ids
  | [], l, x => by simp [putsI]
  | n :: ids, l, x => by
    show x ∈ putsI (putI l n) ids ↔ _
    rw [putsI_mem ids, putI_mem]
    simp only [List.mem_cons]
    constructor
    · rintro ((h | h) | h) <;> simp [h]
    · rintro (h | h | h) <;> simp [h]
theorem putsI_sorted : ∀ (ids l : List Int), l.Pairwise (· < ·) → (putsI l ids).Pairwise (· < ·)
  | [], _, h => h
  | n :: ids, l, h => putsI_sorted ids (putI l n) (putI_sorted l n h)
theorem sorted_eq : ∀ (l m : List Int), l.Pairwise (· < ·) → m.Pairwise (· < ·) → (∀ x, x ∈ l ↔ x ∈ m) → l = m
  | [], [], _, _, _ => rfl
  | [], b :: m, _, _, h => by have := (h b).2 (by simp); simp at this
  | a :: l, [], _, _, h => by have := (h a).1 (by simp); simp at this
  | a :: l, b :: m, hl, hm, h => by
    obtain ⟨l1, l2⟩ := List.pairwise_cons.1 hl
    obtain ⟨m1, m2⟩ := List.pairwise_cons.1 hm
    have e : a = b := by
      rcases List.mem_cons.1 ((h a).1 (by simp)) with e | ha
      · exact e
      · rcases List.mem_cons.1 ((h b).2 (by simp)) with e | hb
        · exact e.symm
        · have := m1 a ha
          have := l1 b hb
          omega
    subst e
    rw [sorted_eq l m l2 m2 fun x => ?_]
    constructor
    · intro hx
      rcases List.mem_cons.1 ((h x).1 (by simp [hx])) with e | hx'
      · have := l1 x hx
        omega
      · exact hx'
    · intro hx
      rcases List.mem_cons.1 ((h x).2 (by simp [hx])) with e | hx'
      · have := m1 x hx
        omega
      · exact hx'
end Go.Proofs.Ytgdcdfpnogiciaa
