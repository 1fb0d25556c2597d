/-
  BtRecords: both sides as the law wants them; bounds of the marks.
-/
import Derived.Test.YtpjcgglhlmifdaaGreatDoorM1Xb
import Derived.Test.YtpjcgglhlmifdaaGreatDoorM1Re
namespace Go.Proofs.YtpjcgglhlmifdaaGreatDoor
open Go.RowKit
set_option linter.unusedVariables false
set_option linter.unusedSimpArgs false

theorem cnt_slots (x : List TSlot) : (mkL mmSlot).cnt x ≤ 3 * (shL shSlot).sz x := by
  show (x.map mmSlot.cnt).sum ≤ 3 * (x.length + (x.map shSlot.sz).sum)
  induction x with
  | nil => simp
  | cons n x ih =>
    have h1 : mmSlot.cnt n = 1 + (1 + ((n.2.2.1.map mkS.cnt).sum + ((n.2.2.2.1.map mkS.cnt).sum + (n.2.2.2.2.map mkI.cnt).sum))) := rfl
    have h2 : shSlot.sz n = 0 + (0 + ((n.2.2.1.length + (n.2.2.1.map shS.sz).sum) + ((n.2.2.2.1.length + (n.2.2.2.1.map shS.sz).sum) + (n.2.2.2.2.length + (n.2.2.2.2.map shI.sz).sum)))) := rfl
    have hS : ∀ l : List ByteArray, (l.map mkS.cnt).sum = l.length := fun l => by
      induction l with
      | nil => rfl
      | cons a l ih => simp only [List.map_cons, List.sum_cons, List.length_cons, ih]; show 1 + l.length = _; omega
    have hI : ∀ l : List Int, (l.map mkI.cnt).sum = l.length := fun l => by
      induction l with
      | nil => rfl
      | cons a l ih => simp only [List.map_cons, List.sum_cons, List.length_cons, ih]; show 1 + l.length = _; omega
    have e1 := hS n.2.2.1
    have e2 := hS n.2.2.2.1
    have e3 := hI n.2.2.2.2
    simp only [List.map_cons, List.sum_cons, List.length_cons]
    omega
theorem cnt_Btree (x : TBtree) (hn : shBtree.sz x ≤ 1048576) : mmTBtree.cnt x ≤ 4194304 := by
  have h := cnt_slots x.2
  have e : shBtree.sz x = 0 + (shL shSlot).sz x.2 := rfl
  have e2 : mmTBtree.cnt x = 0 + (mkL mmSlot).cnt x.2 := rfl
  omega
theorem cnt_recs (l : List TRecord) : (mkL mmRecord).cnt l = 2 * l.length := by
  show (l.map mmRecord.cnt).sum = _
  induction l with
  | nil => rfl
  | cons a l ih =>
    have : mmRecord.cnt a = 2 := rfl
    simp only [List.map_cons, List.sum_cons, List.length_cons, ih]
    omega
theorem records_len (x : TBtree) : (recordsB x).length ≤ 384 := by
  unfold recordsB
  split
  · rename_i h; exact gather_root h
  · exact Nat.zero_le _
theorem cbg_BtRecords (x : TBtree) (hn : shBtree.sz x ≤ 1048576) : (1 : Int) + ((mkL mmRecord).cnt (recordsB x) : Nat) ≤ 1000000000 := by
  have h1 := records_len x
  have h2 := cnt_recs (recordsB x)
  omega
theorem cs_BtRecords (v : Value) (y : TBtree) (w : World) (h : AV shBtree w v y) (hn : shBtree.sz y ≤ 1048576) : Calls Tryz.prog 11 #[v] w (RpL shRecord (recordsB y) w) :=
  (cs0_BtRecords v y w h hn).mono fun _ _ hh => ToL.rp good_Record hh
end Go.Proofs.YtpjcgglhlmifdaaGreatDoor
