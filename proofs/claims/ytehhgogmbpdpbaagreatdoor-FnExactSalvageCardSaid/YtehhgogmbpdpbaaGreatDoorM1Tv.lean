/-
  Salvage: bounds of the marks.
-/
import Derived.Test.YtehhgogmbpdpbaaGreatDoorM1Ti
import Derived.Test.YtehhgogmbpdpbaaGreatDoorM1Re
namespace Go.Proofs.YtehhgogmbpdpbaaGreatDoor
open Go.RowKit
set_option linter.unusedVariables false
set_option linter.unusedSimpArgs false

theorem cnt_slots (x : List TSlot) : (mkL mmSlot).cnt x ≤ 3 * (shL shSlot).sz x := by
  show (x.map mmSlot.cnt).sum ≤ 3 * (x.length + (x.map shSlot.sz).sum)
  induction x with
  | nil => simp
  | cons n x ih =>
    have h1 : mmSlot.cnt n = 1 + (1 + ((n.2.2.1.map mkS.cnt).sum + ((n.2.2.2.1.map mkS.cnt).sum + (n.2.2.2.2.map mkI.cnt).sum))) := rfl
    have h2 : shSlot.sz n = 0 + (0 + ((n.2.2.1.length + (n.2.2.1.map shS.sz).sum) + ((n.2.2.2.1.length + (n.2.2.2.1.map shS.sz).sum) + (n.2.2.2.2.length + (n.2.2.2.2.map shI.sz).sum)))) := rfl
    have hS : ∀ l : List ByteArray, (l.map mkS.cnt).sum = l.length := fun l => by
      induction l with
      | nil => rfl
      | cons a l ih => simp only [List.map_cons, List.sum_cons, List.length_cons, ih]; show 1 + l.length = _; omega
    have hI : ∀ l : List Int, (l.map mkI.cnt).sum = l.length := fun l => by
      induction l with
      | nil => rfl
      | cons a l ih => simp only [List.map_cons, List.sum_cons, List.length_cons, ih]; show 1 + l.length = _; omega
    have e1 := hS n.2.2.1
    have e2 := hS n.2.2.2.1
    have e3 := hI n.2.2.2.2
    simp only [List.map_cons, List.sum_cons, List.length_cons]
    omega
theorem cnt_Btree (x : TBtree) (hn : shBtree.sz x ≤ 1048576) : mmTBtree.cnt x ≤ 4194304 := by
  have h := cnt_slots x.2
  have e : shBtree.sz x = 0 + (shL shSlot).sz x.2 := rfl
  have e2 : mmTBtree.cnt x = 0 + (mkL mmSlot).cnt x.2 := rfl
  omega
theorem cnt_recs (l : List TRecord) : (mkL mmRecord).cnt l = 2 * l.length := by
  show (l.map mmRecord.cnt).sum = _
  induction l with
  | nil => rfl
  | cons a l ih =>
    have : mmRecord.cnt a = 2 := rfl
    simp only [List.map_cons, List.sum_cons, List.length_cons, ih]
    omega
theorem cbg_Salvage (x : TBtree) (hn : shBtree.sz x ≤ 1048576) : (1 : Int) + ((mkL mmRecord).cnt (salvB x) : Nat) ≤ 1000000000 := by
  have h1 := salv_len x
  have h2 := cnt_recs (salvB x)
  omega
end Go.Proofs.YtehhgogmbpdpbaaGreatDoor
