/-
  What a right tree holds below a page, and the way down to a key (plain).
-/
import Derived.Test.YtlifhbfomgbiaaaGreatDoorMBp
namespace Go.Proofs.YtlifhbfomgbiaaaGreatDoor
open Go.RowKit
set_option linter.unusedVariables false
set_option linter.unusedSimpArgs false

/-- Below a page there are pages only, n deep at most. -/
def Stands (x : TBtree) : Nat → Int → Prop
  | 0, _ => False
  | n + 1, id => ∃ p, pgAt x id = some p ∧ (p.1 = false → ∀ k, k < p.2.2.2.length → Stands x n (p.2.2.2.getD k 0))
theorem kidsTo_all {f : Nat → TWalk → Option TWalk} {s : TWalk} : ∀ {m : Nat} {t : TWalk}, kidsTo f m s = some t → ∀ k, k < m → ∃ a b, f k a = some b
  | 0, _, _, k, hk => absurd hk (by omega)
  | m + 1, t, h, k, hk => by
    unfold kidsTo at h
    cases e : kidsTo f m s with
    | none => rw [e] at h; cases h
    | some u =>
      rw [e] at h
      by_cases q : k = m
      · subst q; exact ⟨u, t, h⟩
      · exact kidsTo_all e k (by omega)
theorem stands_of_walk {x : TBtree} : ∀ {n : Nat} {id : Int} {far : Nat} {lo hi : ByteArray} {s t : TWalk}, walkB x n id far lo hi s = some t → Stands x n id
  | 0, _, _, _, _, _, _, h => by cases h
  | n + 1, id, far, lo, hi, s, t, h => by
    unfold walkB at h
    cases hp : pgAt x id with
    | none => rw [hp] at h; cases h
    | some p =>
      rw [hp] at h
      dsimp only at h
      refine ⟨p, hp, fun hl k hk => ?_⟩
      split at h
      · cases h
      · split at h
        · cases h
        · split at h
          · cases h
          · rw [if_neg (by rw [hl]; decide)] at h
            obtain ⟨a, b, hb⟩ := kidsTo_all h k hk
            exact stands_of_walk hb
theorem stands_mono {x : TBtree} : ∀ {n m : Nat} {id : Int}, n ≤ m → Stands x n id → Stands x m id
  | 0, _, _, _, h => h.elim
  | n + 1, 0, _, hm, _ => absurd hm (by omega)
  | n + 1, m + 1, id, hm, ⟨p, hp, hk⟩ => ⟨p, hp, fun hl k hk' => stands_mono (by omega) (hk hl k hk')⟩
theorem stands_root {x : TBtree} (h : btreeB x = true) : Stands x 64 x.1 := by
  unfold btreeB at h
  simp only [Bool.and_eq_true] at h
  have h2 := h.2
  unfold walkTop at h2
  cases e : walkB x 64 x.1 1 ⟨#[]⟩ ⟨#[]⟩ ([], none) with
  | none => rw [e] at h2; cases h2
  | some s => exact stands_of_walk e
theorem slots_of_btree {x : TBtree} (h : btreeB x = true) : SlotsP x.2 := by
  unfold btreeB at h
  simp only [Bool.and_eq_true] at h
  exact of_decide_eq_true h.1
/-- The place of a key in a page, and whether the key stands there. -/
def keyIdx (l : List ByteArray) (key : ByteArray) : Nat := (l.takeWhile (fun k => bytesLt k key)).length
def keyHas (l : List ByteArray) (key : ByteArray) : Bool := decide (keyIdx l key < l.length) && decide (l.getD (keyIdx l key) ⟨#[]⟩ = key)
def findB (p : TPage) (key : ByteArray) : Nat × Bool := (if keyHas p.2.1 key = true ∧ p.1 = false then keyIdx p.2.1 key + 1 else keyIdx p.2.1 key, keyHas p.2.1 key)
/-- The way down to a key: pages and places, and whether the key is there. -/
def wayB (x : TBtree) (key : ByteArray) : Nat → Int → List (Int × Nat) × Bool
  | 0, _ => ([], false)
  | n + 1, id => match pgAt x id with
    | none => ([], false)
    | some p => if p.1 = true then ([(id, (findB p key).1)], (findB p key).2)
      else ((id, (findB p key).1) :: (wayB x key n (p.2.2.2.getD (findB p key).1 0)).1, (wayB x key n (p.2.2.2.getD (findB p key).1 0)).2)
theorem keyIdx_le (l : List ByteArray) (key : ByteArray) : keyIdx l key ≤ l.length := (List.takeWhile_prefix _).length_le
theorem findB_lt {p : TPage} (h : pageB p = true) (hl : p.1 = false) (key : ByteArray) : (findB p key).1 < p.2.2.2.length := by
  have h1 := fork_lens h hl
  have h2 := keyIdx_le p.2.1 key
  unfold findB
  dsimp only
  split
  · rename_i hh
    have := hh.1
    unfold keyHas at this
    simp only [Bool.and_eq_true, decide_eq_true_eq] at this
    omega
  · omega
/-- More fuel changes nothing where the tree stands. -/
theorem wayB_stands {x : TBtree} {key : ByteArray} (hs : SlotsP x.2) : ∀ {n m : Nat} {id : Int}, Stands x n id → n ≤ m → wayB x key m id = wayB x key n id
  | 0, _, _, h, _ => h.elim
  | n + 1, 0, _, _, hm => absurd hm (by omega)
  | n + 1, m + 1, id, ⟨p, hp, hk⟩, hm => by
    unfold wayB
    rw [hp]
    dsimp only
    cases hl : p.1
    · have hlt := findB_lt (pgAt_ok hs hp) hl key
      rw [wayB_stands hs (hk hl _ hlt) (by omega)]
    · rfl
theorem way_len {x : TBtree} {key : ByteArray} (hs : SlotsP x.2) : ∀ {n : Nat} {id : Int}, Stands x n id → 0 < (wayB x key n id).1.length ∧ (wayB x key n id).1.length ≤ n
  | 0, _, h => h.elim
  | n + 1, id, ⟨p, hp, hk⟩ => by
    unfold wayB
    rw [hp]
    dsimp only
    cases hl : p.1
    · have hlt := findB_lt (pgAt_ok hs hp) hl key
      have := way_len hs (key := key) (hk hl _ hlt)
      rw [if_neg (by decide)]
      simp only [List.length_cons]
      omega
    · rw [if_pos rfl]
      simp
/-- The last page of the way is a leaf. -/
theorem way_last {x : TBtree} {key : ByteArray} (hs : SlotsP x.2) : ∀ {n : Nat} {id : Int}, Stands x n id → ∃ l i p, (wayB x key n id).1 = l ++ [(i, keyIdx p.2.1 key)] ∧ pgAt x i = some p ∧ p.1 = true ∧ (wayB x key n id).2 = keyHas p.2.1 key
  | 0, _, h => h.elim
  | n + 1, id, ⟨p, hp, hk⟩ => by
    unfold wayB
    rw [hp]
    dsimp only
    cases hl : p.1
    · have hlt := findB_lt (pgAt_ok hs hp) hl key
      obtain ⟨l, i, q, h1, h2, h3, h4⟩ := way_last hs (key := key) (hk hl _ hlt)
      rw [if_neg (by decide)]
      exact ⟨(id, (findB p key).1) :: l, i, q, by rw [h1]; rfl, h2, h3, h4⟩
    · rw [if_pos rfl]
      refine ⟨[], id, p, ?_, hp, hl, rfl⟩
      show [(id, (findB p key).1)] = [(id, keyIdx p.2.1 key)]
      unfold findB
      rw [if_neg (by rw [hl]; simp)]
def depthB (x : TBtree) : Int := if btreeB x = true then ((wayB x ⟨#[]⟩ 64 x.1).1.length : Int) else 0
def getB (x : TBtree) (key : ByteArray) : ByteArray × Bool := if btreeB x = true then
    (match (wayB x key 64 x.1).1.getLast? with
      | none => (⟨#[]⟩, false)
      | some s => if (wayB x key 64 x.1).2 = true then (((pgAt x s.1).getD default).2.2.1.getD s.2 ⟨#[]⟩, true) else (⟨#[]⟩, false))
  else (⟨#[]⟩, false)
end Go.Proofs.YtlifhbfomgbiaaaGreatDoor
