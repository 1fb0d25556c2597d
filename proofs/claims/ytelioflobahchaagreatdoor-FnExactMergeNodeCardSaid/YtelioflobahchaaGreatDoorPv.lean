/-
  PutNode: both sides' contracts.
-/
import Derived.Test.YtelioflobahchaaGreatDoorPn
import Derived.Test.YtelioflobahchaaGreatDoorPo
import Derived.Test.YtelioflobahchaaGreatDoorLm
namespace Go.Proofs.YtelioflobahchaaGreatDoor
open Go.RowKit
set_option linter.unusedVariables false
set_option linter.unusedSimpArgs false

theorem subs_len {s : ByteArray} {xs : List ByteArray} (h : placeB s xs = true) : xs.length ≤ 4 := by
  simp only [placeB, Bool.and_eq_true] at h
  have hs : SubsP xs := of_decide_eq_true h.2
  exact hs.1
theorem nodeB_place {n : TNode} (h : nodeB n = true) : placeB n.1 n.2.1 = true := by
  simp only [nodeB, Bool.and_eq_true] at h
  exact h.1
theorem treeP_subs {x : TTree} (h : TreeP x) : ∀ i (hi : i < x.length), x[i].2.1.length ≤ 1048576 := fun i hi => by
  have := subs_len (nodeB_place (h.2 i hi).1)
  omega
def putNodeC (x : TTree) (s : ByteArray) (ys : List ByteArray) (val : ByteArray) : Int := if treeB x = true ∧ placeB s ys = true ∧ val.size ≤ 64 then putC x (s, ys) else 1
def putNode (x : TTree) (s : ByteArray) (ys : List ByteArray) (val : ByteArray) : TTree := if putNodeC x s ys val = 0 then putT x (s, ys) val else []
theorem putNode_no {x : TTree} {s : ByteArray} {ys : List ByteArray} {val : ByteArray} (h : ¬ (treeB x = true ∧ placeB s ys = true ∧ val.size ≤ 64)) : Hid (putNode x s ys val = []) ∧ Hid (putNodeC x s ys val = 1) := by
  have hc : putNodeC x s ys val = 1 := by unfold putNodeC; rw [if_neg h]
  exact ⟨by unfold Hid putNode; rw [hc]; rfl, hc⟩
theorem putNode_yes {x : TTree} {s : ByteArray} {ys : List ByteArray} {val : ByteArray} (h : treeB x = true ∧ placeB s ys = true ∧ val.size ≤ 64) : Hid (putNode x s ys val = putR x (s, ys) val) ∧ Hid (putNodeC x s ys val = putC x (s, ys)) := by
  have hc : putNodeC x s ys val = putC x (s, ys) := by unfold putNodeC; rw [if_pos h]
  exact ⟨by unfold Hid putNode putR; rw [hc], hc⟩
/-- The zero tree and a code, out of the result's block. -/
theorem putNode_P {x : TTree} {s : ByteArray} {ys : List ByteArray} {val : ByteArray} : TreeP (putNode x s ys val) := by
  unfold putNode
  split
  · rename_i h
    unfold putNodeC at h
    split at h
    · rename_i h2
      exact putT_P (treeP_of h2.1) h2.2.1 h2.2.2 (putC_ok h)
    · cases h
  · exact treeP_nil
theorem cnt_nodes (x : List TNode) : (mkL mmNode).cnt x ≤ 2 * (shL shNode).sz x := by
  show (x.map mmNode.cnt).sum ≤ 2 * (x.length + (x.map shNode.sz).sum)
  induction x with
  | nil => simp
  | cons n x ih =>
    have h1 : mmNode.cnt n = 1 + ((n.2.1.map mkS.cnt).sum + 1) := rfl
    have h2 : shNode.sz n = n.1.size + ((n.2.1.length + (n.2.1.map shS.sz).sum) + n.2.2.size) := rfl
    have h3 : (n.2.1.map mkS.cnt).sum = n.2.1.length := by
      generalize n.2.1 = l
      induction l with
      | nil => rfl
      | cons a l ih => simp only [List.map_cons, List.sum_cons, List.length_cons, ih]; show 1 + l.length = _; omega
    simp only [List.map_cons, List.sum_cons, List.length_cons]
    omega
theorem cnt_Tree (x : TTree) (hn : shTree.sz x ≤ 1048576) : mmTTree.cnt x ≤ 2097152 := by
  have h := cnt_nodes x
  have e : (shL shNode).sz x = shTree.sz x := rfl
  show (mkL mmNode).cnt x ≤ _
  omega
theorem cnt_StringS (x : List ByteArray) (hn : (shL shS).sz x ≤ 1048576) : (mkL mkS).cnt x ≤ 1048576 := by
  have h3 : (mkL mkS).cnt x = x.length := by
    show (x.map mkS.cnt).sum = _
    clear hn
    induction x with
    | nil => rfl
    | cons a l ih => simp only [List.map_cons, List.sum_cons, List.length_cons, ih]; show 1 + l.length = _; omega
  have h2 : (shL shS).sz x = x.length + (x.map shS.sz).sum := rfl
  omega
theorem cnt_right {x : TTree} (h : TreeP x) : mmTTree.cnt x ≤ 720 := by
  have h1 := (treeP_iff.1 h).2.1
  have h2 := h.1
  suffices hs : (x.map mmNode.cnt).sum ≤ 6 * x.length by
    show (x.map mmNode.cnt).sum ≤ _
    omega
  clear h h2
  induction x with
  | nil => simp
  | cons n x ih =>
    have h1' := subs_len (nodeB_place (h1 n (by simp)))
    have ih' := ih (fun m hm => h1 m (by simp [hm]))
    have e1 : mmNode.cnt n = 1 + ((n.2.1.map mkS.cnt).sum + 1) := rfl
    have e3 : (n.2.1.map mkS.cnt).sum = n.2.1.length := by
      generalize n.2.1 = l
      induction l with
      | nil => rfl
      | cons a l ih => simp only [List.map_cons, List.sum_cons, List.length_cons, ih]; show 1 + l.length = _; omega
    simp only [List.map_cons, List.sum_cons, List.length_cons]
    omega
theorem cbg_PutNode (x : TTree) (hn : shTree.sz x ≤ 1048576) (s : ByteArray) (hs : s.size ≤ 1048576) (ys : List ByteArray) (hy : (shL shS).sz ys ≤ 1048576) (val : ByteArray) (hv : val.size ≤ 1048576) : (1 : Int) + (mmTTree.cnt (putNode x s ys val) : Nat) ≤ 1000000000 := by
  have := cnt_right (putNode_P (x := x) (s := s) (ys := ys) (val := val))
  omega
theorem putC_cases (x : TTree) (l : TLoc) : putC x l = 0 ∨ putC x l = 4 := by unfold putC; split <;> simp
theorem OTp.res {lo : Nat} {w0 w w' : World} {g : Nat} {bl : List Nat} {x : TTree} (h : OTp lo w g bl x w') : ∃ A c bl', Bk w' g 30 #[.slice A x.length c] ∧ SO shNode w' lo w'.heap.size A c x bl' ∧ bl'.Nodup ∧ g ∉ bl' ∧ Only (g :: bl) w w' := by
  obtain ⟨bl', ⟨A, c, h1, h2, h3, h4⟩, _, h5⟩ := h
  exact ⟨A, c, bl', h1, h2, h3, h4, h5⟩
end Go.Proofs.YtelioflobahchaaGreatDoor
