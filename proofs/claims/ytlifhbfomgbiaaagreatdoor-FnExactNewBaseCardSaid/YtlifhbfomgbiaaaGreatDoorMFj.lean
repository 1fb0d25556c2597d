/-
  FlushJournal and ResetJournal: the program's and the reference's give one journal in new memory.
-/
import Derived.Test.YtlifhbfomgbiaaaGreatDoorMK
import Derived.Test.YtlifhbfomgbiaaaGreatDoorMJo
namespace Go.Proofs.YtlifhbfomgbiaaaGreatDoor
open Go.RowKit
set_option linter.unusedVariables false
set_option linter.unusedSimpArgs false

def journalFlush (j : TJournal) : TJournal := if journalOk j = true then ((j.1.1, flushS j.1.2.1 j.1.2.2, []), j.2) else ((0, [], []), 0, 0, 0, 0)
theorem journal_disk {j : TJournal} (h : journalOk j = true) : diskOk j.1 = true := by
  simp only [journalOk, Bool.and_eq_true] at h
  exact h.1.1.1.1.1
theorem journal_last {j : TJournal} (h : journalOk j = true) : -1 ≤ j.2.2.2.1 ∧ j.2.2.2.1 ≤ 2000000000 := by
  simp only [journalOk, Bool.and_eq_true, inB_t] at h
  omega
theorem journal_sz {j : TJournal} (h : shJournal.sz j ≤ 1048576) : shDisk.sz j.1 ≤ 1048576 := by
  have : shJournal.sz j = shDisk.sz j.1 + (0 + (0 + (0 + 0))) := rfl
  omega
theorem ownJ {w : World} {lo hi : Nat} {cs : List Value} {d : TDisk} {bl : List Nat} (h : shDisk.own w lo hi cs d bl) {a b c e : Int} (ha : I64 a) (hb : I64 b) (hc : I64 c) (he : I64 e) :
    shJournal.own w lo hi (cs ++ [.int .i64 a, .int .i64 b, .int .i64 c, .int .i64 e]) (d, a, b, c, e) bl := by
  have h2 : shJournal.own w lo hi _ (d, a, b, c, e) _ := mkO_P (a := shDisk) (x := (d, a, b, c, e)) good_Disk h (mkO_P (a := shI) (x := (a, b, c, e)) good_I ⟨⟨rfl, ha⟩, rfl⟩ (mkO_P (a := shI) (x := (b, c, e)) good_I ⟨⟨rfl, hb⟩, rfl⟩ (mkO_P (a := shI) (x := (c, e)) good_I ⟨⟨rfl, hc⟩, rfl⟩ ⟨⟨rfl, he⟩, rfl⟩)))
  simpa using h2
theorem own_zeroJ (w : World) (lo hi : Nat) : shJournal.own w lo hi [.int .i64 0, .slice none 0 0, .slice none 0 0, .int .i64 0, .int .i64 0, .int .i64 0, .int .i64 0] ((0, [], []), 0, 0, 0, 0) [] :=
  ownJ (own_zeroDisk w lo hi) ⟨by decide, by decide⟩ ⟨by decide, by decide⟩ ⟨by decide, by decide⟩ ⟨by decide, by decide⟩




theorem cntJ_eq (x : TJournal) : mmTJournal.cnt x = mmTDisk.cnt x.1 := rfl
theorem cnt_Journal (x : TJournal) (hn : shJournal.sz x ≤ 1048576) : mmTJournal.cnt x ≤ 4000000 := cnt_Disk x.1 (journal_sz hn)
theorem cbg_FlushJournal (x : TJournal) (hn : shJournal.sz x ≤ 1048576) : (1 : Int) + (mmTJournal.cnt (journalFlush x) : Nat) ≤ 1000000000 := by
  have h := cnt_Journal x hn
  rw [cntJ_eq, cntDisk_eq] at h ⊢
  unfold journalFlush
  split
  · dsimp only
    rw [flushS_len]
    simp only [List.length_nil]
    omega
  · decide
end Go.Proofs.YtlifhbfomgbiaaaGreatDoor
