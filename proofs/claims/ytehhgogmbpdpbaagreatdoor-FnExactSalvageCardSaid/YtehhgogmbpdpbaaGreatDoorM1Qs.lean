/-
  SlotsOk: the program's.
-/
import Derived.Test.YtehhgogmbpdpbaaGreatDoorM1Qa
namespace Go.Proofs.YtehhgogmbpdpbaaGreatDoor
open Go.RowKit
set_option linter.unusedVariables false
set_option linter.unusedSimpArgs false

def SlotsP (l : List TSlot) : Prop := ∀ i (h : i < l.length), inB l[i].1 1 64 = true ∧ pageB l[i].2 = true ∧ (0 < i → (l[i - 1]'(by omega)).1 < l[i].1)
instance (l : List TSlot) : Decidable (SlotsP l) := by unfold SlotsP; infer_instance
theorem page_sz {x : TPage} (h : shPage.sz x ≤ 1048576) : ∀ s ∈ x.2.1, s.size ≤ 1048576 := fun s hs => by
  obtain ⟨i, hi, rfl⟩ := List.getElem_of_mem hs
  have e : shPage.sz x = 0 + ((shL shS).sz x.2.1 + ((shL shS).sz x.2.2.1 + (shL shI).sz x.2.2.2)) := rfl
  have h1 : (shL shS).sz x.2.1 ≤ 1048576 := by omega
  exact sz_le shS x.2.1 hi h1
theorem slot_sz {x : TSlot} (h : shSlot.sz x ≤ 1048576) : shPage.sz x.2 ≤ 1048576 := by
  have e : shSlot.sz x = 0 + shPage.sz x.2 := rfl
  omega
end Go.Proofs.YtehhgogmbpdpbaaGreatDoor
