/-
  Two rows of slots: which ids they hold unlike. No program is named here.
-/
import Derived.Test.YtgdcdfpnogiciaaTy
import Derived.Test.YtgdcdfpnogiciaaUq
namespace Go.Proofs.Ytgdcdfpnogiciaa
open Go.RowKit
set_option linter.unusedVariables false
set_option linter.unusedSimpArgs false

/-- The first slot of an id. -/
def FirstAt (S : List TSlot) (id : Int) (i : Nat) : Prop := ∃ h : i < S.length, S[i].1 = id ∧ ∀ (j : Nat) (hj : j < S.length), j < i → S[j].1 ≠ id
def NoSlot (S : List TSlot) (id : Int) : Prop := ∀ (j : Nat) (hj : j < S.length), S[j].1 ≠ id
/-- The page of an id. -/
def pgF (S : List TSlot) (id : Int) : Option TPage := (S.find? (fun s => s.1 == id)).map (fun s => s.2)
theorem pgF_cons (s : TSlot) (S : List TSlot) (id : Int) : pgF (s :: S) id = if s.1 = id then some s.2 else pgF S id := by
  unfold pgF
  by_cases h : s.1 = id
  · rw [if_pos h, List.find?_cons_of_pos (by simpa using h)]; rfl
  · rw [if_neg h, List.find?_cons_of_neg (by simpa using h)]
theorem pgF_first : ∀ (S : List TSlot) (id : Int) (i : Nat), FirstAt S id i → ∃ h : i < S.length, pgF S id = some S[i].2
  | [], _, _, ⟨h, _⟩ => absurd h (by simp)
  | s :: S, id, 0, ⟨h, h1, _⟩ => ⟨h, by rw [pgF_cons, if_pos (by simpa using h1)]; rfl⟩
  | s :: S, id, i + 1, ⟨h, h1, h2⟩ => by
    have h0 : ¬ s.1 = id := fun e => h2 0 (by simp) (by omega) (by simpa using e)
    obtain ⟨h3, h4⟩ := pgF_first S id i ⟨by simpa using h, by simpa using h1, fun j hj hji => by
      have := h2 (j + 1) (by simpa using hj) (by omega)
      simpa using this⟩
    exact ⟨h, by rw [pgF_cons, if_neg h0, h4]; rfl⟩
theorem pgF_no : ∀ (S : List TSlot) (id : Int), NoSlot S id → pgF S id = none
  | [], _, _ => rfl
  | s :: S, id, h => by
    rw [pgF_cons, if_neg (show ¬ s.1 = id from h 0 (by simp)), pgF_no S id (fun j hj => by have := h (j + 1) (by simpa using hj); simpa using this)]
theorem first_cases : ∀ (S : List TSlot) (id : Int), NoSlot S id ∨ ∃ i, FirstAt S id i
  | [], _ => .inl fun j hj => absurd hj (by simp)
  | s :: S, id => by
    by_cases h : s.1 = id
    · exact .inr ⟨0, by simp, by simpa using h, fun j _ hj => absurd hj (by omega)⟩
    · rcases first_cases S id with h1 | ⟨i, h1, h2, h3⟩
      · refine .inl fun j hj => ?_
        cases j with
        | zero => simpa using h
        | succ j => simpa using h1 j (by simpa using hj)
      · refine .inr ⟨i + 1, by simpa using h1, by simpa using h2, fun j hj hji => ?_⟩
        cases j with
        | zero => simpa using h
        | succ j => simpa using h3 j (by simpa using hj) (by omega)
theorem first_uniq {S : List TSlot} {id : Int} {i j : Nat} (h : FirstAt S id i) (k : FirstAt S id j) : i = j := by
  obtain ⟨h1, h2, h3⟩ := h
  obtain ⟨k1, k2, k3⟩ := k
  rcases Nat.lt_trichotomy i j with e | e | e
  · exact absurd h2 (k3 i h1 e)
  · exact e
  · exact absurd k2 (h3 j k1 e)
theorem first_ex {S : List TSlot} {i : Nat} (h : i < S.length) : ∃ j, FirstAt S S[i].1 j := by
  rcases first_cases S S[i].1 with h1 | h1
  · exact absurd rfl (h1 i h)
  · exact h1
theorem pgF_some {S : List TSlot} {id : Int} {p : TPage} (h : pgF S id = some p) : ∃ i, FirstAt S id i := by
  rcases first_cases S id with h1 | h1
  · rw [pgF_no S id h1] at h; cases h
  · exact h1
/-- What is put for the slots before k. -/
def DiffTo (S T : List TSlot) (k : Nat) (x : Int) : Prop := ∃ i, i < k ∧ FirstAt S x i ∧ pgF S x ≠ pgF T x
theorem diffTo_zero (S T : List TSlot) (x : Int) : ¬ DiffTo S T 0 x := fun ⟨_, h, _⟩ => absurd h (by omega)
theorem diffTo_yes {S T : List TSlot} {k : Nat} (h : k < S.length) (hf : FirstAt S S[k].1 k) (hd : pgF S S[k].1 ≠ pgF T S[k].1) (x : Int) : DiffTo S T (k + 1) x ↔ (DiffTo S T k x ∨ x = S[k].1) := by
  constructor
  · rintro ⟨i, hi, a, b⟩
    rcases Nat.lt_or_ge i k with q | q
    · exact .inl ⟨i, q, a, b⟩
    · obtain rfl : i = k := by omega
      obtain ⟨_, a2, _⟩ := a
      exact .inr a2.symm
  · rintro (⟨i, hi, a, b⟩ | rfl)
    · exact ⟨i, by omega, a, b⟩
    · exact ⟨k, by omega, hf, hd⟩
theorem diffTo_no {S T : List TSlot} {k : Nat} (h : k < S.length) (hn : ¬ (FirstAt S S[k].1 k ∧ pgF S S[k].1 ≠ pgF T S[k].1)) (x : Int) : DiffTo S T (k + 1) x ↔ DiffTo S T k x := by
  constructor
  · rintro ⟨i, hi, a, b⟩
    rcases Nat.lt_or_ge i k with q | q
    · exact ⟨i, q, a, b⟩
    · obtain rfl : i = k := by omega
      obtain ⟨a1, a2, a3⟩ := a
      subst a2
      exact absurd ⟨⟨a1, rfl, a3⟩, b⟩ hn
  · rintro ⟨i, hi, a, b⟩
    exact ⟨i, by omega, a, b⟩
theorem diffTo_all {S T : List TSlot} {k : Nat} (hk : S.length ≤ k) (x : Int) : DiffTo S T k x ↔ ((∃ p, pgF S x = some p) ∧ pgF S x ≠ pgF T x) := by
  constructor
  · rintro ⟨i, _, a, b⟩
    obtain ⟨h, e⟩ := pgF_first S x i a
    exact ⟨⟨_, e⟩, b⟩
  · rintro ⟨⟨p, hp⟩, b⟩
    obtain ⟨i, hi⟩ := pgF_some hp
    have h1 := hi
    obtain ⟨h, _⟩ := h1
    exact ⟨i, by omega, hi, b⟩
open Classical in
/-- The ids that both rows hold unlike, in order. -/
noncomputable def unlikeL (S T : List TSlot) : List Int := putsI [] (((S ++ T).map (fun s => s.1)).filter (fun x => decide (pgF S x ≠ pgF T x)))
theorem unlike_sorted (S T : List TSlot) : (unlikeL S T).Pairwise (· < ·) := putsI_sorted _ _ List.Pairwise.nil
theorem unlike_mem (S T : List TSlot) (x : Int) : x ∈ unlikeL S T ↔ pgF S x ≠ pgF T x := by
  unfold unlikeL
  rw [putsI_mem, List.mem_filter]
  simp only [List.not_mem_nil, false_or, decide_eq_true_eq, List.mem_map, List.mem_append]
  constructor
  · exact fun h => h.2
  · intro h
    refine ⟨?_, h⟩
    cases hs : pgF S x with
    | some p =>
      obtain ⟨i, h1, h2, _⟩ := pgF_some hs
      exact ⟨S[i], .inl (List.getElem_mem h1), h2⟩
    | none =>
      cases ht : pgF T x with
      | none => rw [hs, ht] at h; exact absurd rfl h
      | some p =>
        obtain ⟨i, h1, h2, _⟩ := pgF_some ht
        exact ⟨T[i], .inr (List.getElem_mem h1), h2⟩
theorem unlike_eq {S T : List TSlot} {l : List Int} (h : l.Pairwise (· < ·)) (hm : ∀ x, x ∈ l ↔ pgF S x ≠ pgF T x) : l = unlikeL S T :=
  sorted_eq _ _ h (unlike_sorted S T) fun x => (hm x).trans (unlike_mem S T x).symm
theorem unlike_len (S T : List TSlot) : (unlikeL S T).length ≤ S.length + T.length := by
  unfold unlikeL
  have h1 := putsI_len (((S ++ T).map (fun s => s.1)).filter (fun x => decide (pgF S x ≠ pgF T x))) []
  have h2 := List.length_filter_le (fun x => decide (pgF S x ≠ pgF T x)) ((S ++ T).map (fun s => s.1))
  simp only [List.length_nil, Nat.zero_add, List.length_map, List.length_append] at h1 h2
  omega
/-- A row without twice the same, sorted. -/
theorem sort_lt {l : List Int} (h : l.Nodup) : (l.mergeSort fun x y => decide (x ≤ y)).Pairwise (· < ·) := by
  have h1 : (l.mergeSort fun x y => decide (x ≤ y)).Pairwise (· ≤ ·) := by
    have := List.pairwise_mergeSort (le := fun x y : Int => decide (x ≤ y)) (fun a b c hab hbc => by simp at *; omega) (fun a b => by simp; omega) l
    exact this.imp fun h => by simpa using h
  have h2 : (l.mergeSort fun x y => decide (x ≤ y)).Nodup := (List.mergeSort_perm _ _).nodup_iff.2 h
  exact (h1.and h2).imp fun ⟨a, b⟩ => by omega
theorem sort_mem {l : List Int} (x : Int) : x ∈ (l.mergeSort fun x y => decide (x ≤ y)) ↔ x ∈ l := (List.mergeSort_perm _ _).mem_iff
end Go.Proofs.Ytgdcdfpnogiciaa
