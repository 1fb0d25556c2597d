/-
  Salvaged records, step by step (plain; for Salvage).
-/
import Derived.Test.YtehhgogmbpdpbaaGreatDoorM1Sv
namespace Go.Proofs.YtehhgogmbpdpbaaGreatDoor
open Go.RowKit
set_option linter.unusedVariables false
set_option linter.unusedSimpArgs false

theorem putRec_below : ∀ (l1 l2 : List TRecord) (r : TRecord), (∀ a ∈ l1, bytesLt a.1 r.1 = true) → putRec (l1 ++ l2) r = l1 ++ putRec l2 r
  | [], _, _, _ => rfl
  | a :: l1, l2, r, h => by
    have h1 := h a (by simp)
    have ih := putRec_below l1 l2 r (fun b hb => h b (by simp [hb]))
    rw [List.cons_append, putRec, if_pos h1, ih, List.cons_append]
theorem putRec_end {l : List TRecord} {r : TRecord} (h : ∀ a ∈ l.take l.length, bytesLt a.1 r.1 = true) : putRec l r = l ++ [r] := by
  rw [List.take_length] at h
  have := putRec_below l [] r h
  rwa [List.append_nil] at this
theorem putRec_same {l : List TRecord} {r : TRecord} {k : Nat} (hk : k < l.length) (h : ∀ a ∈ l.take k, bytesLt a.1 r.1 = true) (e : l[k].1 = r.1) : putRec l r = l := by
  have h1 : l = l.take k ++ l[k] :: l.drop (k + 1) := by rw [← List.drop_eq_getElem_cons hk, List.take_append_drop]
  have h2 : ¬ bytesLt l[k].1 r.1 = true := by rw [e, lo_bytes.irr]; decide
  conv => lhs; rw [h1]
  rw [putRec_below _ _ _ h, putRec, if_neg h2, if_pos e, ← List.drop_eq_getElem_cons hk, List.take_append_drop]
theorem putRec_at {l : List TRecord} {r : TRecord} {k : Nat} (hk : k < l.length) (h : ∀ a ∈ l.take k, bytesLt a.1 r.1 = true) (h2 : bytesLt l[k].1 r.1 = false) (e : ¬ l[k].1 = r.1) : putRec l r = l.take k ++ [r] ++ l.drop k := by
  have h1 : l = l.take k ++ l[k] :: l.drop (k + 1) := by rw [← List.drop_eq_getElem_cons hk, List.take_append_drop]
  conv => lhs; rw [h1]
  rw [putRec_below _ _ _ h, putRec, if_neg (by rw [h2]; decide), if_neg e, ← List.drop_eq_getElem_cons hk]
  simp
theorem take_lt {l : List TRecord} {r : TRecord} {k : Nat} (hk : k < l.length) (h : ∀ a ∈ l.take k, bytesLt a.1 r.1 = true) (h2 : bytesLt l[k].1 r.1 = true) : ∀ a ∈ l.take (k + 1), bytesLt a.1 r.1 = true := by
  rw [List.take_succ_eq_append_getElem hk]
  intro a ha
  rcases List.mem_append.1 ha with ha | ha
  · exact h a ha
  · rw [List.mem_singleton.1 ha]; exact h2
def recAt (p : TPage) (k : Nat) : TRecord := (p.2.1.getD k ⟨#[]⟩, p.2.2.1.getD k ⟨#[]⟩)
theorem leafTo_zero (p : TPage) : leafTo p 0 = [] := by unfold leafTo; split <;> simp [recsTo]
theorem leafTo_succ {p : TPage} (h : p.1 = true ∧ pageB p = true) (k : Nat) : leafTo p (k + 1) = leafTo p k ++ [recAt p k] := by
  unfold leafTo
  rw [if_pos h, if_pos h, recsTo_succ]
  rfl
theorem leafTo_no {p : TPage} (h : ¬ (p.1 = true ∧ pageB p = true)) (k : Nat) : leafTo p k = [] := by unfold leafTo; rw [if_neg h]
/-- The records of the first i pages and of k records of the next one. -/
def rawAt (x : List TSlot) (i k : Nat) : List TRecord := rawTo x i ++ (if h : i < x.length then leafTo x[i].2 k else [])
theorem rawAt_zero (x : List TSlot) (i : Nat) : rawAt x i 0 = rawTo x i := by
  unfold rawAt
  split
  · rw [leafTo_zero, List.append_nil]
  · rw [List.append_nil]
theorem rawAt_succ {x : List TSlot} {i : Nat} (hi : i < x.length) (h : x[i].2.1 = true ∧ pageB x[i].2 = true) (k : Nat) : rawAt x i (k + 1) = rawAt x i k ++ [recAt x[i].2 k] := by
  unfold rawAt
  rw [dif_pos hi, dif_pos hi, leafTo_succ h, List.append_assoc]
theorem rawAt_all {x : List TSlot} {i : Nat} (hi : i < x.length) : rawAt x i x[i].2.2.1.length = rawTo x (i + 1) := by
  unfold rawAt
  rw [dif_pos hi, rawTo_succ hi]
  rfl
theorem rawAt_no {x : List TSlot} {i : Nat} (hi : i < x.length) (h : ¬ (x[i].2.1 = true ∧ pageB x[i].2 = true)) (k : Nat) : rawAt x i k = rawTo x (i + 1) := by
  unfold rawAt
  rw [dif_pos hi, rawTo_succ hi, leafTo_no h]
  unfold leafRecs
  rw [leafTo_no h]
theorem rawAt_len {x : List TSlot} {i k : Nat} (hi : i < x.length) (hk : k ≤ x[i].2.2.1.length) : (rawAt x i k).length ≤ 6 * i + 6 := by
  unfold rawAt
  rw [dif_pos hi, List.length_append]
  have h1 := rawTo_len x (i := i) (by omega)
  have h2 := leafTo_len x[i].2 hk
  omega
end Go.Proofs.YtehhgogmbpdpbaaGreatDoor
