/-
  PutNode: both sides' contracts.
-/
import Derived.Test.YtanjmolgpkffoaaGreatDoorM2Pn
import Derived.Test.YtanjmolgpkffoaaGreatDoorM2Po
import Derived.Test.YtanjmolgpkffoaaGreatDoorM2Lm
namespace Go.Proofs.YtanjmolgpkffoaaGreatDoor
open Go.RowKit
set_option linter.unusedVariables false
set_option linter.unusedSimpArgs false

theorem subs_len {s : ByteArray} {xs : List ByteArray} (h : placeB s xs = true) : xs.length ≤ 4 := by
  simp only [placeB, Bool.and_eq_true] at h
  have hs : SubsP xs := of_decide_eq_true h.2
  exact hs.1
theorem nodeB_place {n : TNode} (h : nodeB n = true) : placeB n.1 n.2.1 = true := by
  simp only [nodeB, Bool.and_eq_true] at h
  exact h.1
theorem treeP_subs {x : TTree} (h : TreeP x) : ∀ i (hi : i < x.length), x[i].2.1.length ≤ 1048576 := fun i hi => by
  have := subs_len (nodeB_place (h.2 i hi).1)
  omega
theorem cnt_nodes (x : List TNode) : (mkL mmNode).cnt x ≤ 2 * (shL shNode).sz x := by
  show (x.map mmNode.cnt).sum ≤ 2 * (x.length + (x.map shNode.sz).sum)
  induction x with
  | nil => simp
  | cons n x ih =>
    have h1 : mmNode.cnt n = 1 + ((n.2.1.map mkS.cnt).sum + 1) := rfl
    have h2 : shNode.sz n = n.1.size + ((n.2.1.length + (n.2.1.map shS.sz).sum) + n.2.2.size) := rfl
    have h3 : (n.2.1.map mkS.cnt).sum = n.2.1.length := by
      generalize n.2.1 = l
      induction l with
      | nil => rfl
      | cons a l ih => simp only [List.map_cons, List.sum_cons, List.length_cons, ih]; show 1 + l.length = _; omega
    simp only [List.map_cons, List.sum_cons, List.length_cons]
    omega
theorem cnt_Tree (x : TTree) (hn : shTree.sz x ≤ 1048576) : mmTTree.cnt x ≤ 2097152 := by
  have h := cnt_nodes x
  have e : (shL shNode).sz x = shTree.sz x := rfl
  show (mkL mmNode).cnt x ≤ _
  omega
theorem cnt_StringS (x : List ByteArray) (hn : (shL shS).sz x ≤ 1048576) : (mkL mkS).cnt x ≤ 1048576 := by
  have h3 : (mkL mkS).cnt x = x.length := by
    show (x.map mkS.cnt).sum = _
    clear hn
    induction x with
    | nil => rfl
    | cons a l ih => simp only [List.map_cons, List.sum_cons, List.length_cons, ih]; show 1 + l.length = _; omega
  have h2 : (shL shS).sz x = x.length + (x.map shS.sz).sum := rfl
  omega
theorem cnt_right {x : TTree} (h : TreeP x) : mmTTree.cnt x ≤ 720 := by
  have h1 := (treeP_iff.1 h).2.1
  have h2 := h.1
  suffices hs : (x.map mmNode.cnt).sum ≤ 6 * x.length by
    show (x.map mmNode.cnt).sum ≤ _
    omega
  clear h h2
  induction x with
  | nil => simp
  | cons n x ih =>
    have h1' := subs_len (nodeB_place (h1 n (by simp)))
    have ih' := ih (fun m hm => h1 m (by simp [hm]))
    have e1 : mmNode.cnt n = 1 + ((n.2.1.map mkS.cnt).sum + 1) := rfl
    have e3 : (n.2.1.map mkS.cnt).sum = n.2.1.length := by
      generalize n.2.1 = l
      induction l with
      | nil => rfl
      | cons a l ih => simp only [List.map_cons, List.sum_cons, List.length_cons, ih]; show 1 + l.length = _; omega
    simp only [List.map_cons, List.sum_cons, List.length_cons]
    omega
end Go.Proofs.YtanjmolgpkffoaaGreatDoor
