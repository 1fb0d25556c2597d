/-
  The flush of a disk: each write put into its sector.
-/
import Derived.Test.YtfehlcbaalbajaaGreatCd
import Derived.Test.YtfehlcbaalbajaaGreatDk
import Derived.Test.YtfehlcbaalbajaaGreatRep3
namespace Go.Proofs.YtfehlcbaalbajaaGreat
open Go.RowKit
set_option linter.unusedVariables false
set_option linter.unusedSimpArgs false

theorem Bk.but {w w' : World} {g g' : Nat} {t : TypeId} {C : Array Value} (h : Bk w g t C) (k : But g' w w') (hg : g ≠ g') : Bk w' g t C := (k.block g hg).trans h
theorem cell_far {w : World} {p a : Addr} (u : Value) (h : a.block ≠ p.block) : (w.setCell p u).cell? a = w.cell? a := World.cell?_of_block (Below.heap_setCell _ _ _ _ h)
def flushS (l : List ByteArray) (ps : List TPut) : List ByteArray := ps.foldl (fun l p => l.set p.1.toNat p.2) l
theorem flushS_len (ps : List TPut) : ∀ l : List ByteArray, (flushS l ps).length = l.length := by
  induction ps with
  | nil => intro l; rfl
  | cons p ps ih => intro l; show (flushS (l.set p.1.toNat p.2) ps).length = _; rw [ih]; simp
theorem flushS_take (l : List ByteArray) (ps : List TPut) (k : Nat) (h : k < ps.length) : flushS l (ps.take (k + 1)) = (flushS l (ps.take k)).set ps[k].1.toNat ps[k].2 := by
  unfold flushS
  rw [List.take_succ_eq_append_getElem h, List.foldl_append]
  rfl

/-- A sector of an owned row set anew. -/
theorem SO.setS {w : World} {lo hi : Nat} {A : Option Addr} {c : Nat} {xs : List ByteArray} {bl : List Nat} (h : SO shS w lo hi A c xs bl) (nd : bl.Nodup) {m : Nat} (hm : m < xs.length) :
    ∃ (g off : Nat) (o : Value), A = some ⟨g, off, none⟩ ∧ g ∈ bl ∧ lo ≤ g ∧ g < hi ∧ g < w.heap.size ∧ w.cell? ⟨g, off + m, none⟩ = some o ∧ w.frozen? ⟨g, off + m, none⟩ = false ∧
      ∀ s : ByteArray, s.size ≤ maxLen → SO shS (w.setCell ⟨g, off + m, none⟩ (.string s)) lo hi A c (xs.set m s) bl := by
  obtain ⟨g, off, C, t, b, cs, hA, h1, h2, hbk, hl, hc, ho, hgb, hgn, _, _, hput⟩ := h.focus good_S nd (List.getElem?_eq_getElem hm)
  obtain ⟨⟨rfl, hsz⟩, rfl⟩ := ho
  have h0 : C[off + m]? = some (.string xs[m]) := by have := hc 0 (by decide); simpa [shS] using this
  refine ⟨g, off, .string xs[m], hA, hgb, h1, h2, hbk.lt, (hbk.cell _).trans h0, hbk.frozen _, fun s hs => ?_⟩
  refine hput _ (C.setIfInBounds (off + m) (.string s)) [.string s] s (hbk.set _ _) (fun j hj => ?_) (fun p hp => ?_) ⟨⟨rfl, hs⟩, rfl⟩ (fun y _ hy _ => Below.heap_setCell _ _ _ _ hy)
  · obtain rfl : j = 0 := by have : j < 1 := hj; omega
    exact set_same (by simp [shS]) h0
  · exact set_ne (by simp only [shS] at hp; omega)

theorem cells12 {W : World} {g h : Nat} {t t' : TypeId} {a b c p q : Value} (k : Bk W g t #[a, b, c]) (k' : Bk W h t' #[p, q]) : W.cell? ⟨g, 1, none⟩ = some b ∧ W.cell? ⟨h, 0, none⟩ = some p ∧ W.cell? ⟨h, 1, none⟩ = some q := ⟨k.cell 1, k'.cell 0, k'.cell 1⟩
theorem cells12G {W : World} {g h o : Nat} {t t' : TypeId} {C : Array Value} {b p q : Value} (hC : C[o + 1]? = some b) (k : Bk W g t C) (k' : Bk W h t' #[p, q]) : W.cell? ⟨g, o + 1, none⟩ = some b ∧ W.cell? ⟨h, 0, none⟩ = some p ∧ W.cell? ⟨h, 1, none⟩ = some q := ⟨(k.cell _).trans hC, k'.cell 0, k'.cell 1⟩

end Go.Proofs.YtfehlcbaalbajaaGreat
