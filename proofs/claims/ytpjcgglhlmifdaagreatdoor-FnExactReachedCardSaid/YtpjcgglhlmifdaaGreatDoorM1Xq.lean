/-
  Bounds of the marks of faults and of reached pages.
-/
import Derived.Test.YtpjcgglhlmifdaaGreatDoorM1Xo
import Derived.Test.YtpjcgglhlmifdaaGreatDoorM1Rng
import Derived.Test.YtpjcgglhlmifdaaGreatDoorM1Fq
namespace Go.Proofs.YtpjcgglhlmifdaaGreatDoor
open Go.RowKit
set_option linter.unusedVariables false

theorem cnt_faults (l : List TFault) : (mkL mmFault).cnt l = 2 * l.length := by
  show (l.map mmFault.cnt).sum = _
  induction l with
  | nil => rfl
  | cons a l ih =>
    have : mmFault.cnt a = 2 := rfl
    simp only [List.map_cons, List.sum_cons, List.length_cons, ih]
    omega
theorem cbg_FaultsOf (x : TBtree) (hn : shBtree.sz x ≤ 1048576) : (1 : Int) + ((mkL mmFault).cnt (faultsB x) : Nat) ≤ 1000000000 := by
  have h1 := faults_len x
  have h2 := cnt_faults (faultsB x)
  omega
theorem cnt_ints (l : List Int) : (mkL mkI).cnt l = l.length := by
  show (l.map mkI.cnt).sum = _
  induction l with
  | nil => rfl
  | cons a l ih => simp only [List.map_cons, List.sum_cons, List.length_cons, ih]; show 1 + l.length = _; omega
theorem cbg_Reached (x : TBtree) (hn : shBtree.sz x ≤ 1048576) : (1 : Int) + ((mkL mkI).cnt (reachedB x) : Nat) ≤ 1000000000 := by
  have h1 := reached_len x
  have h2 := cnt_ints (reachedB x)
  omega
end Go.Proofs.YtpjcgglhlmifdaaGreatDoor
