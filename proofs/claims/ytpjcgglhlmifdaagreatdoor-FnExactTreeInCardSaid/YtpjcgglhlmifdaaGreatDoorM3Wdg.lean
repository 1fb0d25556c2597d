/-
  The way down to a key: the reference's way, and its depth.
  BtDepth: the reference's and the program's.
  Shapes of the structs of the program, by a program of ours (gen.py).
  Records: their shape, and the records below a page (plain).
-/
import Derived.Test.YtpjcgglhlmifdaaGreatDoorM3Wag
import Derived.Test.YtpjcgglhlmifdaaGreatDoorM3Bg
import Derived.Test.YtpjcgglhlmifdaaGreatDoorM3A
namespace Go.Proofs.YtpjcgglhlmifdaaGreatDoor
open Go.RowKit
set_option linter.unusedVariables false
set_option linter.unusedSimpArgs false

theorem getD_inW {α : Type} {l : List α} {k : Nat} (h : k < l.length) (d : α) : l.getD k d = l[k] := by simp [List.getD, List.getElem?_eq_getElem h]
theorem kid_rng {p : TPage} (h : pageB p = true) (hl : p.1 = false) (k : Nat) (hk : k < p.2.2.2.length) : I64 p.2.2.2[k] := by
  have := (kid_of_pageD h hl).2.1 k hk
  exact ⟨by omega, by omega⟩
theorem keys_le6 {p : TPage} (h : pageB p = true) : p.2.1.length ≤ 6 := by
  cases hl : p.1
  · have := fork_lens h hl
    have := (kid_of_pageD h hl).1
    omega
  · unfold pageB at h
    simp only [Bool.and_eq_true] at h
    have h2 := h.2
    rw [if_pos hl] at h2
    simp only [leafB, Bool.and_eq_true, decide_eq_true_eq] at h2
    exact h2.1.1.1
end Go.Proofs.YtpjcgglhlmifdaaGreatDoor

namespace Go.Proofs.YtpjcgglhlmifdaaGreatDoor
open Go.RowKit
set_option linter.unusedVariables false
set_option linter.unusedSimpArgs false

end Go.Proofs.YtpjcgglhlmifdaaGreatDoor

namespace Go.Proofs.YtpjcgglhlmifdaaGreatDoor
open Go.RowKit
set_option linter.unusedSimpArgs false
abbrev TRecord : Type := ByteArray × ByteArray
def shRecord : Sh TRecord := (shP shS shS)
theorem good_Record : Good shRecord := (good_P good_S good_S)
theorem openRecord {w : World} {lo hi : Nat} {cs : List Value} {x : TRecord} (h : shRecord.rep w lo hi cs x) :
    cs = [.string x.1, .string x.2] ∧ x.1.size ≤ maxLen ∧ x.2.size ≤ maxLen := by
  obtain ⟨p1, q1, rfl, l1, r1⟩ := open_P h
  obtain ⟨rfl, b0⟩ := l1
  obtain ⟨rfl, b1⟩ := r1
  exact ⟨rfl, b0, b1⟩
theorem mkORecord {w : World} {lo hi : Nat} {x : TRecord} (b0 : x.1.size ≤ maxLen) (b1 : x.2.size ≤ maxLen) : shRecord.own w lo hi [.string x.1, .string x.2] x ([]) := by
  have h : shRecord.own w lo hi [.string x.1, .string x.2] x _ := (mkO_P good_S ⟨⟨rfl, b0⟩, rfl⟩ ⟨⟨rfl, b1⟩, rfl⟩)
  simpa using h
theorem atRecord {w : World} {lo hi : Nat} {A : Option Addr} {c : Nat} {xs : List TRecord} (h : SR shRecord w lo hi A c xs) {i : Nat} (hi' : i < xs.length) :
    ∃ (g off : Nat), A = some ⟨g, off, none⟩ ∧ lo ≤ g ∧ g < hi ∧ w.cell? ⟨g, off + i * 2, none⟩ = some (.string xs[i].1) ∧ w.cell? ⟨g, off + i * 2 + 1, none⟩ = some (.string xs[i].2) ∧ xs[i].1.size ≤ maxLen ∧ xs[i].2.size ≤ maxLen ∧ True := by
  obtain ⟨g, off, cs, hA, h1, h2, hc, hr⟩ := h.at_ hi'
  obtain ⟨rfl, b0, b1⟩ := openRecord hr
  exact ⟨g, off, hA, h1, h2, hc.2 0 (by decide), hc.2 1 (by decide), b0, b1, trivial⟩
end Go.Proofs.YtpjcgglhlmifdaaGreatDoor

namespace Go.Proofs.YtpjcgglhlmifdaaGreatDoor
open Go.RowKit
set_option linter.unusedVariables false
set_option linter.unusedSimpArgs false

/-- The first k records of a page. -/
def recsTo (p : TPage) (k : Nat) : List TRecord := (List.range k).map (fun j => (p.2.1.getD j ⟨#[]⟩, p.2.2.1.getD j ⟨#[]⟩))
def kidsG (f : Nat → List TRecord) (k : Nat) : List TRecord := (List.range k).flatMap f
/-- The records below a page, in order. -/
def gatherB (x : TBtree) : Nat → Int → List TRecord
  | 0, _ => []
  | n + 1, id => match pgAt x id with
    | none => []
    | some p => recsTo p p.2.2.1.length ++ kidsG (fun k => gatherB x n (p.2.2.2.getD k 0)) p.2.2.2.length
theorem recsTo_succ (p : TPage) (k : Nat) : recsTo p (k + 1) = recsTo p k ++ [(p.2.1.getD k ⟨#[]⟩, p.2.2.1.getD k ⟨#[]⟩)] := by
  unfold recsTo; rw [List.range_succ, List.map_append]; rfl
theorem kidsG_succ (f : Nat → List TRecord) (k : Nat) : kidsG f (k + 1) = kidsG f k ++ f k := by
  unfold kidsG; rw [List.range_succ, List.flatMap_append]; simp
theorem recsTo_len (p : TPage) (k : Nat) : (recsTo p k).length = k := by unfold recsTo; simp
theorem kidsG_mono (f : Nat → List TRecord) : ∀ {k m : Nat}, k ≤ m → (kidsG f k).length ≤ (kidsG f m).length
  | k, m, h => by
    induction m with
    | zero => obtain rfl : k = 0 := by omega
              exact Nat.le_refl _
    | succ m ih =>
      by_cases e : k = m + 1
      · subst e; exact Nat.le_refl _
      · rw [kidsG_succ, List.length_append]
        have := ih (by omega)
        omega
theorem kidsG_at (f : Nat → List TRecord) {k m : Nat} (h : k < m) : (f k).length ≤ (kidsG f m).length := by
  have h1 := kidsG_mono f (show k + 1 ≤ m by omega)
  rw [kidsG_succ, List.length_append] at h1
  omega
theorem kidsG_len {f : Nat → TWalk → Option TWalk} {g : Nat → List TRecord} {s : TWalk} : ∀ {m : Nat} {t : TWalk}, (∀ k, k < m → ∀ a b, f k a = some b → (g k).length + 6 * a.1.length ≤ 6 * b.1.length) → kidsTo f m s = some t → (kidsG g m).length + 6 * s.1.length ≤ 6 * t.1.length
  | 0, t, _, h => by
    cases h
    show 0 + _ ≤ _
    omega
  | m + 1, t, hf, h => by
    unfold kidsTo at h
    cases e : kidsTo f m s with
    | none => rw [e] at h; cases h
    | some u =>
      rw [e] at h
      have h1 := kidsG_len (fun k hk => hf k (by omega)) e
      have h2 := hf m (by omega) u t h
      rw [kidsG_succ, List.length_append]
      omega
theorem leaf_kids {p : TPage} (h : pageB p = true) (hl : p.1 = true) : p.2.2.2.length = 0 ∧ p.2.2.1.length = p.2.1.length ∧ p.2.1.length ≤ 6 := by
  unfold pageB at h
  simp only [Bool.and_eq_true] at h
  have h2 := h.2
  rw [if_pos hl] at h2
  simp only [leafB, Bool.and_eq_true, decide_eq_true_eq] at h2
  exact ⟨h2.2, h2.1.1.2, h2.1.1.1⟩
theorem fork_vals {p : TPage} (h : pageB p = true) (hl : p.1 = false) : p.2.2.1.length = 0 := by
  unfold pageB at h
  simp only [Bool.and_eq_true] at h
  have h2 := h.2
  rw [if_neg (by rw [hl]; decide)] at h2
  simp only [forkB, Bool.and_eq_true, decide_eq_true_eq] at h2
  exact h2.1.2
theorem gather_walk {x : TBtree} (hs : SlotsP x.2) : ∀ {n : Nat} {id : Int} {far : Nat} {lo hi : ByteArray} {s t : TWalk}, walkB x n id far lo hi s = some t → (gatherB x n id).length + 6 * s.1.length ≤ 6 * t.1.length
  | 0, _, _, _, _, _, _, h => by cases h
  | n + 1, id, far, lo, hi, s, t, h => by
    unfold walkB at h
    cases hp : pgAt x id with
    | none => rw [hp] at h; cases h
    | some p =>
      rw [hp] at h
      dsimp only at h
      have hpb := pgAt_ok hs hp
      have hg : gatherB x (n + 1) id = recsTo p p.2.2.1.length ++ kidsG (fun k => gatherB x n (p.2.2.2.getD k 0)) p.2.2.2.length := by rw [gatherB, hp]
      rw [hg, List.length_append, recsTo_len]
      split at h
      · cases h
      · split at h
        · cases h
        · split at h
          · cases h
          · cases hl : p.1
            · rw [if_neg (by rw [hl]; decide)] at h
              have := kidsG_len (g := fun k => gatherB x n (p.2.2.2.getD k 0)) (fun k hk a b hb => gather_walk hs hb) h
              have hv := fork_vals hpb hl
              rw [List.length_append] at this
              simp only [List.length_singleton] at this
              omega
            · rw [if_pos hl] at h
              obtain ⟨h1, h2, h3⟩ := leaf_kids hpb hl
              have hk : (kidsG (fun k => gatherB x n (p.2.2.2.getD k 0)) p.2.2.2.length).length = 0 := by rw [h1]; rfl
              rw [hk]
              have ht : t.1 = s.1 ++ [id] := by
                unfold leafW at h
                split at h
                · cases h; rfl
                · split at h
                  · cases h; rfl
                  · cases h
              rw [ht, List.length_append]
              simp only [List.length_singleton]
              omega
theorem gather_root {x : TBtree} (h : btreeB x = true) : (gatherB x 64 x.1).length ≤ 384 := by
  have hs := slots_of_btree h
  have hl := slots_len hs
  unfold btreeB at h
  simp only [Bool.and_eq_true] at h
  have h2 := h.2
  unfold walkTop at h2
  cases e : walkB x 64 x.1 1 ⟨#[]⟩ ⟨#[]⟩ ([], none) with
  | none => rw [e] at h2; cases h2
  | some s =>
    rw [e] at h2
    have h3 : s.1.length = x.2.length := by simpa using h2
    have h4 := gather_walk hs e
    simp at h4
    omega
end Go.Proofs.YtpjcgglhlmifdaaGreatDoor
