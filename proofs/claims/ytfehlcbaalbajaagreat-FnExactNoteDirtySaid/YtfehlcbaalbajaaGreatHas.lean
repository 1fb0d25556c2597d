/-
  Small contracts about a disk: l17Has; results that are zero.
-/
import Derived.Test.YtfehlcbaalbajaaGreatFl
import Derived.Test.YtfehlcbaalbajaaGreatLd
import Derived.Test.YtfehlcbaalbajaaGreatLe
namespace Go.Proofs.YtfehlcbaalbajaaGreat
open Go.RowKit
set_option linter.unusedVariables false
set_option linter.unusedSimpArgs false
theorem puts_in {d : TDisk} (h : diskOk d = true) : ∀ p ∈ d.2.2, 0 ≤ p.1 ∧ p.1 < d.2.1.length := by
  intro p hp
  simp only [diskOk, Bool.and_eq_true, Bool.not_eq_true', List.any_eq_false] at h
  have := h.2 p hp
  simp [badPut, inB] at this
  omega
theorem own_zeroDisk (w : World) (lo hi : Nat) : shDisk.own w lo hi [.int .i64 0, .slice none 0 0, .slice none 0 0] (0, [], []) [] := asmDisk (x0 := 0) (x1 := []) (x2 := []) ⟨by decide, by decide⟩ (SO.nil _ _ _) (SO.nil _ _ _)

theorem sum_const {α : Type} (c : Nat) : ∀ xs : List α, (xs.map (fun _ => c)).sum = xs.length * c
  | [] => by simp
  | _ :: xs => by simp [sum_const c xs, Nat.succ_mul]; omega
theorem cntDisk_eq (x : TDisk) : mmTDisk.cnt x = x.2.1.length + x.2.2.length * 2 := by
  obtain ⟨x0, x1, x2⟩ := x
  show 0 + ((x1.map (fun _ => 1)).sum + (x2.map (fun _ => 2)).sum) = _
  rw [sum_const, sum_const]
  dsimp only
  omega
theorem cnt_Disk (x : TDisk) (hn : shDisk.sz x ≤ 1048576) : mmTDisk.cnt x ≤ 4000000 := by
  rw [cntDisk_eq]
  obtain ⟨x0, x1, x2⟩ := x
  have hs : shDisk.sz (x0, x1, x2) = 0 + ((x1.length + (x1.map shS.sz).sum) + (x2.length + (x2.map shPut.sz).sum)) := rfl
  dsimp only
  omega
theorem toR_of {α : Type} {s : Sh α} {x y : α} {n m : Int} {w w' : World} {e : Ending} (h1 : Hid (x = y)) (h2 : Hid (n = m)) (h : ToR s y m w e w') : ToR s x n w e w' := by rw [h1.out, h2.out]; exact h
theorem zeroR (w w' : World) (c : Int) (u : Up w w') : ToR shDisk (0, [], []) c w (.returned (.tuple #[.agg #[.int .i64 0, .slice none 0 0, .slice none 0 0], .int .i64 c])) w' :=
  ⟨[.int .i64 0, .slice none 0 0, .slice none 0 0], [], rfl, own_zeroDisk _ _ _, by simp, u⟩

end Go.Proofs.YtfehlcbaalbajaaGreat
