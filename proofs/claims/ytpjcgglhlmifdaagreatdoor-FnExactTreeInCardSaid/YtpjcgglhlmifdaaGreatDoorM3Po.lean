/-
  The program's put, on a tree that may be changed.
-/
import Derived.Test.YtpjcgglhlmifdaaGreatDoorM3H
namespace Go.Proofs.YtpjcgglhlmifdaaGreatDoor
open Go.RowKit
set_option linter.unusedVariables false
set_option linter.unusedSimpArgs false

/-- Block g holds a tree that owns the blocks bl, all no older than lo. -/
def OT (lo : Nat) (w : World) (g : Nat) (x : TTree) (bl : List Nat) : Prop :=
  ∃ A c, Bk w g 39 #[.slice A x.length c] ∧ SO shNode w lo w.heap.size A c x bl ∧ bl.Nodup ∧ g ∉ bl
/-- What a change of that tree leaves. -/
def OTp (lo : Nat) (w : World) (g : Nat) (bl : List Nat) (x : TTree) (w' : World) : Prop :=
  ∃ bl', OT lo w' g x bl' ∧ (∀ y ∈ bl', y ∈ bl ∨ w.heap.size ≤ y) ∧ Only (g :: bl) w w'
theorem OT.up {lo : Nat} {w w' : World} {g : Nat} {x : TTree} {bl : List Nat} (h : OT lo w g x bl) (u : Up w w') : OT lo w' g x bl := by
  obtain ⟨A, c, h1, h2, h3, h4⟩ := h
  exact ⟨A, c, h1.up u, h2.up good_Node u, h3, h4⟩
theorem OT.lt {lo : Nat} {w : World} {g : Nat} {x : TTree} {bl : List Nat} (h : OT lo w g x bl) : g < w.heap.size := by
  obtain ⟨A, c, h1, _⟩ := h
  exact h1.lt
theorem OT.in_ {lo : Nat} {w : World} {g : Nat} {x : TTree} {bl : List Nat} (h : OT lo w g x bl) : ∀ y ∈ bl, lo ≤ y ∧ y < w.heap.size := by
  obtain ⟨A, c, h1, h2, _⟩ := h
  exact h2.in_ good_Node
theorem OTp.same {lo : Nat} {w w' : World} {g : Nat} {x : TTree} {bl : List Nat} (h : OT lo w g x bl) (u : Up w w') : OTp lo w g bl x w' := ⟨bl, h.up u, fun y hy => .inl hy, Only.of_up u⟩
/-- One change behind another one. -/
theorem OTp.trans {lo : Nat} {w w1 w2 : World} {g : Nat} {x y : TTree} {bl : List Nat} (h : OTp lo w g bl x w1) (k : ∀ bl1, OT lo w1 g x bl1 → OTp lo w1 g bl1 y w2) (hg : g < w.heap.size) (hb : ∀ y ∈ bl, y < w.heap.size) : OTp lo w g bl y w2 := by
  obtain ⟨bl1, h1, h2, h3⟩ := h
  obtain ⟨bl2, k1, k2, k3⟩ := k bl1 h1
  refine ⟨bl2, k1, fun y hy => ?_, ?_⟩
  · rcases k2 y hy with h | h
    · exact h2 y h
    · exact .inr (Nat.le_trans h3.size h)
  · refine ⟨k3.os.trans h3.os, k3.tape.trans h3.tape, k3.output.trans h3.output, Nat.le_trans h3.size k3.size, fun i hi hn => (k3.block i (Nat.lt_of_lt_of_le hi h3.size) (fun hm => ?_)).trans (h3.block i hi hn)⟩
    rcases List.mem_cons.1 hm with rfl | hm
    · exact hn (by simp)
    · rcases h2 i hm with h | h
      · exact hn (by simp [h])
      · omega
theorem OTp.up {lo : Nat} {w w1 w2 : World} {g : Nat} {x : TTree} {bl : List Nat} (h : OTp lo w g bl x w1) (u : Up w1 w2) : OTp lo w g bl x w2 := by
  obtain ⟨bl1, h1, h2, h3⟩ := h
  exact ⟨bl1, h1.up u, h2, h3.up u⟩
theorem OTp.before {lo : Nat} {w w1 w2 : World} {g : Nat} {x : TTree} {bl : List Nat} (u : Up w w1) (hg : g < w.heap.size) (hb : ∀ y ∈ bl, y < w.heap.size) (h : OTp lo w1 g bl x w2) : OTp lo w g bl x w2 := by
  obtain ⟨bl1, h1, h2, h3⟩ := h
  refine ⟨bl1, h1, fun y hy => (h2 y hy).imp id (fun h => Nat.le_trans u.size h), ⟨h3.os.trans u.os, h3.tape.trans u.tape, h3.output.trans u.output, Nat.le_trans u.size h3.size, fun i hi hn => (h3.block i (Nat.lt_of_lt_of_le hi u.size) hn).trans (u.block i hi)⟩⟩
end Go.Proofs.YtpjcgglhlmifdaaGreatDoor
