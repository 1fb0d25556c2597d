/-
  slices.Delete of one node.
-/
import Derived.Test.YtehhgogmbpdpbaaGreatDoorM1Kf
namespace Go.Proofs.YtehhgogmbpdpbaaGreatDoor
open Go.RowKit
set_option linter.unusedVariables false
set_option linter.unusedSimpArgs false

/-- What redo leaves: where the code is 0, the tree is the new one. -/
def RdP (lo : Nat) (w : World) (g : Nat) (bl : List Nat) (r : TTree × Int) (e : Ending) (w' : World) : Prop := ∃ y, e = .returned (.int .i64 r.2) ∧ OTp lo w g bl y w' ∧ (r.2 = 0 → y = r.1)
theorem RdP.mk {lo : Nat} {w w' : World} {g : Nat} {bl : List Nat} {r : TTree × Int} {y : TTree} {n : Int} (hn : r.2 = n) (h : OTp lo w g bl y w') (hy : r.2 = 0 → y = r.1) : RdP lo w g bl r (.returned (.int .i64 n)) w' := ⟨y, by rw [hn], h, hy⟩
theorem OTp.then {lo : Nat} {w w1 w2 : World} {g : Nat} {y : TTree} {bl bl1 : List Nat} (m : ∀ z ∈ bl1, z ∈ bl ∨ w.heap.size ≤ z) (o : Only (g :: bl) w w1) (k : OTp lo w1 g bl1 y w2) : OTp lo w g bl y w2 := by
  obtain ⟨bl2, k1, k2, k3⟩ := k
  refine ⟨bl2, k1, fun z hz => ?_, ?_⟩
  · rcases k2 z hz with h | h
    · exact m z h
    · exact .inr (Nat.le_trans o.size h)
  · refine ⟨k3.os.trans o.os, k3.tape.trans o.tape, k3.output.trans o.output, Nat.le_trans o.size k3.size, fun i hi hn => (k3.block i (Nat.lt_of_lt_of_le hi o.size) (fun hm => ?_)).trans (o.block i hi hn)⟩
    rcases List.mem_cons.1 hm with rfl | hm
    · exact hn (by simp)
    · rcases m i hm with h | h
      · exact hn (by simp [h])
      · omega
/-- A new row stored behind the pointer. -/
theorem OTp.store {lo : Nat} {w w1 : World} {g : Nat} {y : TTree} {bl : List Nat} {D D0 : Option Addr} {d n n0 c0 : Nat} {bl1 : List Nat} (hn : y.length = n) (hk : Bk w g 33 #[.slice D0 n0 c0]) (hg : g ∉ bl) (h : rowP shNode w lo y bl [] D d bl1 w1) : OTp lo w g bl y (w1.setCell ⟨g, 0, none⟩ (.slice D n d)) := by
  obtain ⟨so1, nd1, mem1, on1⟩ := h
  have hgl := hk.lt
  have hmem : ∀ z ∈ bl1, z ∈ bl ∨ w.heap.size ≤ z := fun z hz => by simpa using mem1 z hz
  have hg1 : g ∉ bl1 := fun hm => by
    rcases hmem g hm with h | h
    · exact hg h
    · omega
  have hbut := But.set w1 g 0 (.slice D n d)
  refine ⟨bl1, ⟨D, d, ?_, ?_, nd1, hg1⟩, hmem, (on1.mono (fun y hy => List.mem_cons_of_mem _ hy)).but hbut (by simp)⟩
  · rw [hn]
    simpa using (hk.only on1 hg).set 0 (.slice D n d)
  · rw [hbut.size]
    exact so1.keep good_Node (fun y hy => hbut.block y (fun e => hg1 (by rw [← e]; exact hy)))
end Go.Proofs.YtehhgogmbpdpbaaGreatDoor
