/-
  ResetJournal: the program's and the reference's give one journal in new memory.
-/
import Derived.Test.YtlifhbfomgbiaaaGreatDoorMFj
namespace Go.Proofs.YtlifhbfomgbiaaaGreatDoor
open Go.RowKit
set_option linter.unusedVariables false
set_option linter.unusedSimpArgs false

def resetC (j : TJournal) : Int := if journalOk j = true then (if 0 < j.1.2.2.length then 5 else if j.2.2.2.1 = 2000000000 then 4 else 0) else 1
def journalReset (j : TJournal) : TJournal := if resetC j = 0 then (j.1, j.2.1, j.2.2.2.1 + 1, j.2.2.2.1, 0) else ((0, [], []), 0, 0, 0, 0)
theorem zeroRJ (w w' : World) (c : Int) (u : Up w w') : ToR shJournal ((0, [], []), 0, 0, 0, 0) c w (.returned (.tuple #[.agg #[.int .i64 0, .slice none 0 0, .slice none 0 0, .int .i64 0, .int .i64 0, .int .i64 0, .int .i64 0], .int .i64 c])) w' :=
  ⟨[.int .i64 0, .slice none 0 0, .slice none 0 0, .int .i64 0, .int .i64 0, .int .i64 0, .int .i64 0], [], rfl, own_zeroJ _ _ _, by simp, u⟩


theorem cbg_ResetJournal (x : TJournal) (hn : shJournal.sz x ≤ 1048576) : (1 : Int) + (mmTJournal.cnt (journalReset x) : Nat) ≤ 1000000000 := by
  have h := cnt_Journal x hn
  rw [cntJ_eq] at h ⊢
  unfold journalReset
  split
  · dsimp only
    omega
  · decide
end Go.Proofs.YtlifhbfomgbiaaaGreatDoor
