/-
  copyDisk and l17Own: a disk in new memory.
  DiskOk: the program's and the reference's compute one function of a disk.
  The flush of a disk: each write put into its sector.
  Small contracts about a disk: l17Has; results that are zero.
  Stamped: the program's and the reference's compute one function; the law returns true.
  A set of numbers as a map[int64]bool that the call has made. No program is named here.
  Whole rows loaded out of, and stored into, known blocks: the world behind a store is a variable.
-/
import Derived.Test.YtehhgogmbpdpbaaGreatDoorM1G
import Derived.Test.YtehhgogmbpdpbaaGreatDoorM1J
import Derived.Deep.RegionHeld3
import Derived.Test.YtehhgogmbpdpbaaGreatDoorM1E
import Derived.Test.YtehhgogmbpdpbaaGreatDoorM1Le
import Derived.Shelf.Abstract
import Derived.Test.YtehhgogmbpdpbaaGreatDoorM1A
import Derived.Test.YtehhgogmbpdpbaaGreatDoorM1M
import Derived.Maps.Own
import Derived.Maps.OwnSet
import Derived.Deep.MidRow
namespace Go.Proofs.YtehhgogmbpdpbaaGreatDoor
open Go.RowKit
set_option linter.unusedVariables false
set_option linter.unusedSimpArgs false

theorem cells3 {W : World} {g : Nat} {t : TypeId} {a b c : Value} (h : Bk W g t #[a, b, c]) : W.cell? ⟨g, 0, none⟩ = some a ∧ W.cell? ⟨g, 1, none⟩ = some b ∧ W.cell? ⟨g, 2, none⟩ = some c := ⟨h.cell 0, h.cell 1, h.cell 2⟩
end Go.Proofs.YtehhgogmbpdpbaaGreatDoor

namespace Go.Proofs.YtehhgogmbpdpbaaGreatDoor
open Go.RowKit
set_option linter.unusedVariables false

end Go.Proofs.YtehhgogmbpdpbaaGreatDoor

namespace Go.Proofs.YtehhgogmbpdpbaaGreatDoor
open Go.RowKit
set_option linter.unusedVariables false
set_option linter.unusedSimpArgs false

theorem Bk.but {w w' : World} {g g' : Nat} {t : TypeId} {C : Array Value} (h : Bk w g t C) (k : But g' w w') (hg : g ≠ g') : Bk w' g t C := (k.block g hg).trans h
end Go.Proofs.YtehhgogmbpdpbaaGreatDoor

namespace Go.Proofs.YtehhgogmbpdpbaaGreatDoor
open Go.RowKit
set_option linter.unusedVariables false
set_option linter.unusedSimpArgs false
end Go.Proofs.YtehhgogmbpdpbaaGreatDoor

namespace Go.Proofs.YtehhgogmbpdpbaaGreatDoor
open Go.RowKit
set_option linter.unusedVariables false

end Go.Proofs.YtehhgogmbpdpbaaGreatDoor

namespace Go.Proofs.YtehhgogmbpdpbaaGreatDoor
open Go.RowKit Go.Maps
set_option linter.unusedVariables false

/-- Block b is a map of at most n entries; number i is in it just if f i. -/
def ISet (P : Program) (k e : TypeId) (w : World) (b n : Nat) (f : Int → Bool) : Prop :=
  ∃ D : DataW Unit, w.ownsMap P k (plainElem P e) b n D ∧ ∀ i : Int, I64 i → D.atKey (.int .i64 i) (.lit (.bool false)) = .lit (.bool (f i))
section
variable {P : Program} {k e : TypeId} {w w' : World} {b n : Nat} {f : Int → Bool}
theorem i64_wf {i : Int} (h : I64 i) : (Lit.int .i64 i).wf = true := by
  obtain ⟨h1, h2⟩ := h
  simp [Lit.wf, IntKind.min, IntKind.max, IntKind.signed, IntKind.bits]
  omega
theorem ISet.made (w : World) : ISet P k e (w.alloc (.map #[] 0)) w.heap.size 0 (fun _ => false) :=
  ⟨.map [], World.ownsMap_made w P k _, fun i _ => by simp [DataW.atKey]⟩
theorem ISet.lt (h : ISet P k e w b n f) : b < w.heap.size := by obtain ⟨D, h, _⟩ := h; exact h.lt
theorem ISet.same (h : ISet P k e w b n f) (hk : w'.heap[b]? = w.heap[b]?) : ISet P k e w' b n f := by
  obtain ⟨D, ⟨es, clock, hb, F, hs, hD⟩, h2⟩ := h
  exact ⟨D, ⟨es, clock, hk.trans hb, F, hs, hD⟩, h2⟩
theorem ISet.up (h : ISet P k e w b n f) (u : Up w w') : ISet P k e w' b n f := h.same (u.block b h.lt)
theorem ISet.drew (h : ISet P k e w b n f) : ISet P k e w.drew b n f := h
theorem ISet.drewN (h : ISet P k e w b n f) (m : Nat) : ISet P k e (w.drewN m) b n f := h
theorem plainElem_bool_inv {H : Type} (he : P.underlying e = some .bool) {v : Value} {z : DataW H × List MemPlace} (h : plainElem P e v = some z) : ∃ x, v = .bool x ∧ z = (.lit (.bool x), []) := by
  unfold plainElem at h
  rw [he] at h
  cases v <;> simp at h
  exact ⟨_, rfl, h.symm⟩
theorem ISet.look {t : TypeId} (h : ISet P k e w b n f) (hk : P.underlying k = some (.int .i64)) (ht : P.underlying t = some (.map k e)) (he : P.underlying e = some .bool) (hz : (zeroValue e).run P w = .ok (.bool false) w) {i : Int} (hi : I64 i) :
    (Instr.lookup t (.map (some b)) (.int .i64 i) false).run P w = .ok (.bool (f i)) w := by
  obtain ⟨D, ho, hf⟩ := h
  obtain ⟨v, ps, hrun, hv⟩ := ho.lookup (int_keyed hk) ht hz (plainElem_bool he false) (keyOf_int_mk hk (i64_wf hi))
  obtain ⟨x, rfl, hx⟩ := plainElem_bool_inv he hv
  rw [hf i hi] at hx
  simp at hx
  rw [hrun, hx.1]
theorem ISet.add {t : TypeId} (h : ISet P k e w b n f) (hk : P.underlying k = some (.int .i64)) (ht : P.underlying t = some (.map k e)) (he : P.underlying e = some .bool) (hn : n < maxLen) {i : Int} (hi : I64 i) (v : Bool) :
    ∃ w', (Instr.mapUpdate t (.map (some b)) (.int .i64 i) (.bool v)).run P w = .ok () w' ∧ ISet P k e w' b (n + 1) (fun j => if j = i then v else f j) ∧ w.grownBy w' (some b) := by
  obtain ⟨D, ho, hf⟩ := h
  have hm := ho.isMap
  obtain ⟨w', hrun, ho', hg⟩ := ho.update (int_keyed hk) ht hn (keyOf_int_mk hk (i64_wf hi)) (plainElem_bool he v)
  refine ⟨w', hrun, ⟨_, ho', fun j hj => ?_⟩, hg⟩
  by_cases e : j = i
  · subst e
    rw [atKey_put_same hm (by simp [WideAt.IsKeyLit])]
    simp
  · rw [atKey_put_other (by simpa using e), hf j hj]
    simp [e]
end
end Go.Proofs.YtehhgogmbpdpbaaGreatDoor

namespace Go.Proofs.YtehhgogmbpdpbaaGreatDoor
open Go.RowKit
set_option linter.unusedVariables false
set_option linter.unusedSimpArgs false

theorem Bk.range {w : World} {g : Nat} {t : TypeId} {C : Array Value} (k : Bk w g t C) (o : Nat) (cs : List Value) (h : (C.toList.drop o).take cs.length = cs) : w.rangeAt g o cs := fun j v hv => by
  rw [k.cell, ← hv, ← h]
  have hj : j < cs.length := (List.getElem?_eq_some_iff.1 hv).1
  rw [List.getElem?_take, if_pos hj, List.getElem?_drop, Array.getElem?_toList]
theorem Bk.there {w : World} {g : Nat} {t : TypeId} {C : Array Value} (k : Bk w g t C) (o n : Nat) (h : o + n ≤ C.size) : w.there g o n := fun j hj => by
  refine ⟨?_, k.frozen _⟩
  rw [k.cell, Array.getElem?_eq_getElem (by omega)]
  rfl
section
variable {P : Program} {ops : Array Oper} {rest : List Oper} {dst : Option Tmp} {ty ty' : TypeId} {x y : Operand} {pos : String} {after : Array Edge} {a : Act} {w : World} {Q : Exit → Act → World → Prop} {g o : Nat} {t : TypeId} {C : Array Value}
end
theorem Bk.butM {w w' : World} {g g' : Nat} {t : TypeId} {C : Array Value} (h : Bk w g t C) (k : But g' w w') (hg : g ≠ g') : Bk w' g t C := (k.block g hg).trans h
theorem SO.but {α : Type} {s : Sh α} (hg : Good s) {w w' : World} {lo g : Nat} {A : Option Addr} {c : Nat} {xs : List α} {bl : List Nat} (h : SO s w lo w.heap.size A c xs bl) (b : But g w w') (hlt : g < lo) : SO s w' lo w'.heap.size A c xs bl := by
  rw [b.size]
  exact h.keep hg (fun x hx => b.block x (by have := (h.in_ hg x hx).1; omega))
end Go.Proofs.YtehhgogmbpdpbaaGreatDoor
