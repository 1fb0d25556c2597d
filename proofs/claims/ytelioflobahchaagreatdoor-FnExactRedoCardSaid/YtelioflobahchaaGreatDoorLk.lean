/-
  Redo, plain: what a journal's images make of a tree.
-/
import Derived.Test.YtelioflobahchaaGreatDoorGo
import Derived.Test.YtelioflobahchaaGreatDoorIm
namespace Go.Proofs.YtelioflobahchaaGreatDoor
open Go.RowKit
set_option linter.unusedVariables false
set_option linter.unusedSimpArgs false

def imL (i : TImage) : TLoc := (i.1, i.2.1)
def valR (x : TTree) (l : TLoc) : ByteArray := if hasN x l = true then valN x l else ⟨#[]⟩
/-- The tree stands as the image says of the time before. -/
def matchB (x : TTree) (i : TImage) : Bool := decide (hasN x (imL i) = i.2.2.1) && decide (valR x (imL i) = i.2.2.2.1)
def missB (x : TTree) (l : List TImage) : Bool := l.any fun i => !matchB x i
def dropI (x : TTree) (i : TImage) : TTree := if i.2.2.2.2.1 = true then x else dropT x (imL i)
def dropAll (x : TTree) (l : List TImage) : TTree := l.foldl dropI x
def putAll : TTree → List TImage → TTree × Int
  | y, [] => (y, 0)
  | y, i :: l => if i.2.2.2.2.1 = true then (if putC y (imL i) = 0 then putAll (putT y (imL i) i.2.2.2.2.2) l else ([], putC y (imL i))) else putAll y l
def redo (x : TTree) (l : List TImage) : TTree × Int :=
  if treeB x = true ∧ imagesB l = true then (if missB x l = true then ([], 5) else putAll (dropAll x l) l) else ([], 1)
theorem dropI_P {x : TTree} {i : TImage} (h : TreeP x) : TreeP (dropI x i) := by
  unfold dropI
  split
  · exact h
  · exact dropT_P h
theorem dropAll_P : ∀ (l : List TImage) {x : TTree}, TreeP x → TreeP (dropAll x l)
  | [], _, h => h
  | i :: l, _, h => dropAll_P l (dropI_P h)
theorem dropAll_succ (x : TTree) (l : List TImage) {k : Nat} (h : k < l.length) : dropAll x (l.take (k + 1)) = dropI (dropAll x (l.take k)) l[k] := by
  rw [List.take_succ_eq_append_getElem h]
  unfold dropAll
  rw [List.foldl_append]
  rfl
theorem putAll_P : ∀ (l : List TImage) (y : TTree), TreeP y → (∀ i ∈ l, placeB i.1 i.2.1 = true ∧ i.2.2.2.2.2.size ≤ 64) → TreeP (putAll y l).1
  | [], y, h, _ => h
  | i :: l, y, h, hi => by
    have h1 := hi i (List.mem_cons_self ..)
    have h2 : ∀ j ∈ l, placeB j.1 j.2.1 = true ∧ j.2.2.2.2.2.size ≤ 64 := fun j hj => hi j (List.mem_cons_of_mem _ hj)
    unfold putAll
    by_cases ha : i.2.2.2.2.1 = true
    · rw [if_pos ha]
      by_cases hc : putC y (imL i) = 0
      · rw [if_pos hc]; exact putAll_P l _ (putT_P h h1.1 h1.2 (putC_ok hc)) h2
      · rw [if_neg hc]; exact treeP_nil
    · rw [if_neg ha]; exact putAll_P l y h h2
theorem img_place {i : TImage} (h : imgB i = true) : placeB i.1 i.2.1 = true ∧ i.2.2.2.2.2.size ≤ 64 := by
  simp only [imgB, Bool.and_eq_true, Bool.not_eq_true', Bool.or_eq_false_iff, decide_eq_false_iff_not] at h
  constructor
  · simp_all
  · omega
theorem redo_P (x : TTree) (l : List TImage) : TreeP (redo x l).1 := by
  unfold redo
  split
  · rename_i h
    split
    · exact treeP_nil
    · have hp : ImagesP l := of_decide_eq_true h.2
      exact putAll_P l _ (dropAll_P l (of_decide_eq_true h.1)) fun i hi => by
        obtain ⟨j, hj, rfl⟩ := List.getElem_of_mem hi
        exact img_place (hp.2 j hj).1
  · exact treeP_nil
theorem redo_miss {x : TTree} {l : List TImage} {k : Nat} (h : k < l.length) (hm : matchB x l[k] = false) (ht : treeB x = true) (hi : imagesB l = true) : redo x l = ([], 5) := by
  unfold redo
  rw [if_pos ⟨ht, hi⟩, if_pos]
  unfold missB
  rw [List.any_eq_true]
  exact ⟨l[k], List.getElem_mem h, by rw [hm]; rfl⟩
theorem redo_hit {x : TTree} {l : List TImage} (hm : ∀ k (h : k < l.length), matchB x l[k] = true) (ht : treeB x = true) (hi : imagesB l = true) : redo x l = putAll (dropAll x l) l := by
  unfold redo
  rw [if_pos ⟨ht, hi⟩, if_neg]
  unfold missB
  rw [List.any_eq_true]
  rintro ⟨i, hi, hb⟩
  obtain ⟨j, hj, rfl⟩ := List.getElem_of_mem hi
  rw [hm j hj] at hb
  simp at hb
theorem putAll_skip {y : TTree} {l : List TImage} {k : Nat} (h : k < l.length) (ha : l[k].2.2.2.2.1 = false) : putAll y (l.drop k) = putAll y (l.drop (k + 1)) := by
  rw [List.drop_eq_getElem_cons h]
  conv => lhs; unfold putAll
  rw [if_neg (by rw [ha]; simp)]
theorem putAll_step {y : TTree} {l : List TImage} {k : Nat} (h : k < l.length) (ha : l[k].2.2.2.2.1 = true) (hc : putC y (imL l[k]) = 0) : putAll y (l.drop k) = putAll (putT y (imL l[k]) l[k].2.2.2.2.2) (l.drop (k + 1)) := by
  rw [List.drop_eq_getElem_cons h]
  conv => lhs; unfold putAll
  rw [if_pos ha, if_pos hc]
theorem putAll_stop {y : TTree} {l : List TImage} {k : Nat} (h : k < l.length) (ha : l[k].2.2.2.2.1 = true) (hc : ¬ putC y (imL l[k]) = 0) : putAll y (l.drop k) = ([], putC y (imL l[k])) := by
  rw [List.drop_eq_getElem_cons h]
  unfold putAll
  rw [if_pos ha, if_neg hc]
end Go.Proofs.YtelioflobahchaaGreatDoor
