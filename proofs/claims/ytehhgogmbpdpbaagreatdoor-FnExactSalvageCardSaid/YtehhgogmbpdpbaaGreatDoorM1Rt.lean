/-
  Shapes of the structs of the program, by a program of ours (gen.py).
-/
import Derived.Test.YtehhgogmbpdpbaaGreatDoorM1A
namespace Go.Proofs.YtehhgogmbpdpbaaGreatDoor
open Go.RowKit
set_option linter.unusedSimpArgs false
abbrev TRecord : Type := ByteArray × ByteArray
def shRecord : Sh TRecord := (shP shS shS)
theorem good_Record : Good shRecord := (good_P good_S good_S)
theorem openRecord {w : World} {lo hi : Nat} {cs : List Value} {x : TRecord} (h : shRecord.rep w lo hi cs x) :
    cs = [.string x.1, .string x.2] ∧ x.1.size ≤ maxLen ∧ x.2.size ≤ maxLen := by
  obtain ⟨p1, q1, rfl, l1, r1⟩ := open_P h
  obtain ⟨rfl, b0⟩ := l1
  obtain ⟨rfl, b1⟩ := r1
  exact ⟨rfl, b0, b1⟩
theorem mkRecord {w : World} {lo hi : Nat} {x : TRecord} (b0 : x.1.size ≤ maxLen) (b1 : x.2.size ≤ maxLen) : shRecord.rep w lo hi [.string x.1, .string x.2] x :=
  (mk_P good_S ⟨rfl, b0⟩ ⟨rfl, b1⟩)
theorem openORecord {w : World} {lo hi : Nat} {cs : List Value} {x : TRecord} {bl : List Nat} (h : shRecord.own w lo hi cs x bl) :
    cs = [.string x.1, .string x.2] ∧ bl = [] ∧ x.1.size ≤ maxLen ∧ x.2.size ≤ maxLen := by
  obtain ⟨p1, q1, _, _, rfl, rfl, l1, r1⟩ := openO_P h
  obtain ⟨⟨rfl, b0⟩, rfl⟩ := l1
  obtain ⟨⟨rfl, b1⟩, rfl⟩ := r1
  exact ⟨rfl, by simp, b0, b1⟩
theorem mkORecord {w : World} {lo hi : Nat} {x : TRecord} (b0 : x.1.size ≤ maxLen) (b1 : x.2.size ≤ maxLen) : shRecord.own w lo hi [.string x.1, .string x.2] x ([]) := by
  have h : shRecord.own w lo hi [.string x.1, .string x.2] x _ := (mkO_P good_S ⟨⟨rfl, b0⟩, rfl⟩ ⟨⟨rfl, b1⟩, rfl⟩)
  simpa using h
theorem atRecord {w : World} {lo hi : Nat} {A : Option Addr} {c : Nat} {xs : List TRecord} (h : SR shRecord w lo hi A c xs) {i : Nat} (hi' : i < xs.length) :
    ∃ (g off : Nat), A = some ⟨g, off, none⟩ ∧ lo ≤ g ∧ g < hi ∧ w.cell? ⟨g, off + i * 2, none⟩ = some (.string xs[i].1) ∧ w.cell? ⟨g, off + i * 2 + 1, none⟩ = some (.string xs[i].2) ∧ xs[i].1.size ≤ maxLen ∧ xs[i].2.size ≤ maxLen ∧ True := by
  obtain ⟨g, off, cs, hA, h1, h2, hc, hr⟩ := h.at_ hi'
  obtain ⟨rfl, b0, b1⟩ := openRecord hr
  exact ⟨g, off, hA, h1, h2, hc.2 0 (by decide), hc.2 1 (by decide), b0, b1, trivial⟩
end Go.Proofs.YtehhgogmbpdpbaaGreatDoor
