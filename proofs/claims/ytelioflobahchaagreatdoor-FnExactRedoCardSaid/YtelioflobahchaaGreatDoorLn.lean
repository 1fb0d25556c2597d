/-
  Redo: the bounds of the marks, for the law's walk.
-/
import Derived.Test.YtelioflobahchaaGreatDoorLl
import Derived.Test.YtelioflobahchaaGreatDoorLm
namespace Go.Proofs.YtelioflobahchaaGreatDoor
open Go.RowKit
set_option linter.unusedVariables false
set_option linter.unusedSimpArgs false

theorem cbg_Redo (x : TTree) (hn : shTree.sz x ≤ 1048576) (l : List TImage) (hl : (shL shImage).sz l ≤ 1048576) : (1 : Int) + (mmTTree.cnt (redo x l).1 : Nat) ≤ 1000000000 := by
  have := cnt_right (redo_P x l)
  omega
theorem cnt_ImageS (x : List TImage) (hn : (shL shImage).sz x ≤ 1048576) : (mkL mmImage).cnt x ≤ 8388608 := by
  have h2 : (shL shImage).sz x = x.length + (x.map shImage.sz).sum := rfl
  suffices hs : (x.map mmImage.cnt).sum ≤ 8 * (x.length + (x.map shImage.sz).sum) by
    show (x.map mmImage.cnt).sum ≤ _
    omega
  clear hn h2
  induction x with
  | nil => simp
  | cons n x ih =>
    have e1 : mmImage.cnt n = 1 + ((n.2.1.map mkS.cnt).sum + (1 + (1 + (1 + 1)))) := rfl
    have e2 : shImage.sz n = n.1.size + ((n.2.1.length + (n.2.1.map shS.sz).sum) + (0 + (n.2.2.2.1.size + (0 + n.2.2.2.2.2.size)))) := rfl
    have e3 : (n.2.1.map mkS.cnt).sum = n.2.1.length := by
      generalize n.2.1 = l
      induction l with
      | nil => rfl
      | cons a l ih => simp only [List.map_cons, List.sum_cons, List.length_cons, ih]; show 1 + l.length = _; omega
    simp only [List.map_cons, List.sum_cons, List.length_cons]
    omega
end Go.Proofs.YtelioflobahchaaGreatDoor
