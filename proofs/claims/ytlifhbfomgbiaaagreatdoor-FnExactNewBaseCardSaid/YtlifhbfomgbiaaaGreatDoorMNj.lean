/-
  NewJournal: an empty journal on a new disk.
-/
import Derived.Test.YtlifhbfomgbiaaaGreatDoorML
import Derived.Test.YtlifhbfomgbiaaaGreatDoorMRj
namespace Go.Proofs.YtlifhbfomgbiaaaGreatDoor
open Go.RowKit
set_option linter.unusedVariables false
set_option linter.unusedSimpArgs false

def newJournalC (a : Int) : Int := if inB a 1 400 = true then 0 else 2
def newJournal (a : Int) : TJournal := if inB a 1 400 = true then ((newDisk a 128), 1, 1, 0, 0) else ((0, [], []), 0, 0, 0, 0)
theorem newDisk_yes {a : Int} (h : inB a 1 400 = true) : newDiskC a 128 = 0 ∧ newDisk a 128 = (128, List.replicate a.toNat (zs 128), []) := by
  have hc : newDiskC a 128 = 0 := by rw [newDiskC, if_pos ⟨h, by decide⟩]
  exact ⟨hc, by rw [newDisk, hc]; rfl⟩
theorem newDisk_no {a : Int} (h : inB a 1 400 = false) : newDiskC a 128 = 2 ∧ newDisk a 128 = (0, [], []) := by
  have hc : newDiskC a 128 = 2 := by rw [newDiskC, if_neg (by rw [h]; simp)]
  exact ⟨hc, by rw [newDisk, hc]; rfl⟩

set_option maxRecDepth 100000 in
set_option maxHeartbeats 4000000 in
theorem cs0_NewJournal (a : Int) (w : World) (ha : I64 a) : Calls Tryz.prog 60 #[.int .i64 a] w (ToR shJournal (newJournal a) (newJournalC a) w) := by
  have ua1 : Up w (w.alloc (.cells #[.int .i64 0, .slice none 0 0, .slice none 0 0, .int .i64 0, .int .i64 0, .int .i64 0, .int .i64 0] 41)) := (Up.refl _).alloc _
  have uu1 := (Up.refl w).trans ua1
  have kr_1 : Bk (w.alloc (.cells #[.int .i64 0, .slice none 0 0, .slice none 0 0, .int .i64 0, .int .i64 0, .int .i64 0, .int .i64 0] 41)) (w.heap.size) 41 #[.int .i64 0, .slice none 0 0, .slice none 0 0, .int .i64 0, .int .i64 0, .int .i64 0, .int .i64 0] := by simpa using Bk.new w 41 #[.int .i64 0, .slice none 0 0, .slice none 0 0, .int .i64 0, .int .i64 0, .int .i64 0, .int .i64 0]
  cases q1 : inB a 1 400
  · have hc : Hid (newJournalC a = 2) := by unfold Hid; simp [newJournalC, q1]
    have hd : Hid (newJournal a = ((0, [], []), 0, 0, 0, 0)) := by unfold Hid; simp [newJournal, q1]
    go_enter Tryz.func60, Tryz.ntmps60
    have gr1_0 : (w.alloc (.cells #[.int .i64 0, .slice none 0 0, .slice none 0 0, .int .i64 0, .int .i64 0, .int .i64 0, .int .i64 0] 41)).cell? ⟨w.heap.size, 0, none⟩ = some (.int .i64 0) := kr_1.cell 0
    have fr1_0 := kr_1.frozen 0
    have gr1_1 : (w.alloc (.cells #[.int .i64 0, .slice none 0 0, .slice none 0 0, .int .i64 0, .int .i64 0, .int .i64 0, .int .i64 0] 41)).cell? ⟨w.heap.size, 1, none⟩ = some (.slice none 0 0) := kr_1.cell 1
    have fr1_1 := kr_1.frozen 1
    have gr1_2 : (w.alloc (.cells #[.int .i64 0, .slice none 0 0, .slice none 0 0, .int .i64 0, .int .i64 0, .int .i64 0, .int .i64 0] 41)).cell? ⟨w.heap.size, 2, none⟩ = some (.slice none 0 0) := kr_1.cell 2
    have fr1_2 := kr_1.frozen 2
    have gr1_3 : (w.alloc (.cells #[.int .i64 0, .slice none 0 0, .slice none 0 0, .int .i64 0, .int .i64 0, .int .i64 0, .int .i64 0] 41)).cell? ⟨w.heap.size, 3, none⟩ = some (.int .i64 0) := kr_1.cell 3
    have fr1_3 := kr_1.frozen 3
    have gr1_4 : (w.alloc (.cells #[.int .i64 0, .slice none 0 0, .slice none 0 0, .int .i64 0, .int .i64 0, .int .i64 0, .int .i64 0] 41)).cell? ⟨w.heap.size, 4, none⟩ = some (.int .i64 0) := kr_1.cell 4
    have fr1_4 := kr_1.frozen 4
    have gr1_5 : (w.alloc (.cells #[.int .i64 0, .slice none 0 0, .slice none 0 0, .int .i64 0, .int .i64 0, .int .i64 0, .int .i64 0] 41)).cell? ⟨w.heap.size, 5, none⟩ = some (.int .i64 0) := kr_1.cell 5
    have fr1_5 := kr_1.frozen 5
    have gr1_6 : (w.alloc (.cells #[.int .i64 0, .slice none 0 0, .slice none 0 0, .int .i64 0, .int .i64 0, .int .i64 0, .int .i64 0] 41)).cell? ⟨w.heap.size, 6, none⟩ = some (.int .i64 0) := kr_1.cell 6
    have fr1_6 := kr_1.frozen 6
    go_wp2_with (go_at_call 39; refine (in_any _ _ _ _).mono ?_; rintro e w' ⟨rfl, rfl⟩)
    refine bodyPost_ret (v := .tuple #[.agg #[.int .i64 0, .slice none 0 0, .slice none 0 0, .int .i64 0, .int .i64 0, .int .i64 0, .int .i64 0], .int .i64 2]) (by simp [results, Tryz.results60, go_sem, gr1_0, gr1_1, gr1_2, gr1_3, gr1_4, gr1_5, gr1_6]) rfl ?_
    exact toR_of hd hc (zeroRJ _ _ _ uu1)
  have hc : Hid (newJournalC a = 0) := by unfold Hid; simp [newJournalC, q1]
  have hd : Hid (newJournal a = ((128, List.replicate a.toNat (zs 128), []), 1, 1, 0, 0)) := by unfold Hid; rw [newJournal, if_pos q1, (newDisk_yes q1).2]
  go_enter Tryz.func60, Tryz.ntmps60
  go_wp2_with (go_at_call 39; refine (in_any _ _ _ _).mono ?_; rintro e w' ⟨rfl, rfl⟩)
  refine (cs0_NewDisk a 128 _ ha ⟨by decide, by decide⟩).mono ?_
  rintro e w2 ⟨cs1, bl, rfl, o1, nd1, u2⟩
  have uu2 := uu1.trans u2
  have kr_2 := kr_1.up u2
  have zr_2 := kr_2.lt
  rw [(newDisk_yes q1).2] at o1
  rw [(newDisk_yes q1).1]
  obtain ⟨D1, d1, bl1, D2, d2, bl2, rfl, _, _, _, _⟩ := openODisk o1
  dsimp only [List.length_nil] at o1 ⊢
  have HL : Hid ((List.replicate a.toNat (zs 128)).length = a.toNat) := List.length_replicate
  rw [HL.out] at o1
  rw [HL.out]
  have o1w := good_Disk.own_wide o1 (lo' := w.heap.size + 1) (by simp) (Nat.le_refl _)
  have gr2_0 : w2.cell? ⟨w.heap.size, 0, none⟩ = some (.int .i64 0) := kr_2.cell 0
  have fr2_0 := kr_2.frozen 0
  have gr2_1 : w2.cell? ⟨w.heap.size, 1, none⟩ = some (.slice none 0 0) := kr_2.cell 1
  have fr2_1 := kr_2.frozen 1
  have gr2_2 : w2.cell? ⟨w.heap.size, 2, none⟩ = some (.slice none 0 0) := kr_2.cell 2
  have fr2_2 := kr_2.frozen 2
  have gr2_3 : w2.cell? ⟨w.heap.size, 3, none⟩ = some (.int .i64 0) := kr_2.cell 3
  have fr2_3 := kr_2.frozen 3
  have gr2_4 : w2.cell? ⟨w.heap.size, 4, none⟩ = some (.int .i64 0) := kr_2.cell 4
  have fr2_4 := kr_2.frozen 4
  have gr2_5 : w2.cell? ⟨w.heap.size, 5, none⟩ = some (.int .i64 0) := kr_2.cell 5
  have fr2_5 := kr_2.frozen 5
  have gr2_6 : w2.cell? ⟨w.heap.size, 6, none⟩ = some (.int .i64 0) := kr_2.cell 6
  have fr2_6 := kr_2.frozen 6
  go_wp2_with fail
  have bt3 : But (w.heap.size) w2 (((((((w2.setCell ⟨w.heap.size, 0, none⟩ (.int .i64 128)).setCell ⟨w.heap.size, 1, none⟩ (.slice D1 a.toNat d1)).setCell ⟨w.heap.size, 2, none⟩ (.slice D2 0 d2)).setCell ⟨w.heap.size, 3, none⟩ (.int .i64 1)).setCell ⟨w.heap.size, 4, none⟩ (.int .i64 1)).setCell ⟨w.heap.size, 5, none⟩ (.int .i64 0)).setCell ⟨w.heap.size, 6, none⟩ (.int .i64 0)) := But.sets (g := w.heap.size) [.int .i64 128, .slice D1 a.toNat d1, .slice D2 0 d2, .int .i64 1, .int .i64 1, .int .i64 0, .int .i64 0] w2 0
  have uu3 : Up w (((((((w2.setCell ⟨w.heap.size, 0, none⟩ (.int .i64 128)).setCell ⟨w.heap.size, 1, none⟩ (.slice D1 a.toNat d1)).setCell ⟨w.heap.size, 2, none⟩ (.slice D2 0 d2)).setCell ⟨w.heap.size, 3, none⟩ (.int .i64 1)).setCell ⟨w.heap.size, 4, none⟩ (.int .i64 1)).setCell ⟨w.heap.size, 5, none⟩ (.int .i64 0)).setCell ⟨w.heap.size, 6, none⟩ (.int .i64 0)) := uu2.but bt3 (by omega)
  have kr_3 : Bk (((((((w2.setCell ⟨w.heap.size, 0, none⟩ (.int .i64 128)).setCell ⟨w.heap.size, 1, none⟩ (.slice D1 a.toNat d1)).setCell ⟨w.heap.size, 2, none⟩ (.slice D2 0 d2)).setCell ⟨w.heap.size, 3, none⟩ (.int .i64 1)).setCell ⟨w.heap.size, 4, none⟩ (.int .i64 1)).setCell ⟨w.heap.size, 5, none⟩ (.int .i64 0)).setCell ⟨w.heap.size, 6, none⟩ (.int .i64 0)) (w.heap.size) 41 #[.int .i64 128, .slice D1 a.toNat d1, .slice D2 0 d2, .int .i64 1, .int .i64 1, .int .i64 0, .int .i64 0] := kr_2.sets [.int .i64 128, .slice D1 a.toNat d1, .slice D2 0 d2, .int .i64 1, .int .i64 1, .int .i64 0, .int .i64 0] 0
  have ua4 : Up (((((((w2.setCell ⟨w.heap.size, 0, none⟩ (.int .i64 128)).setCell ⟨w.heap.size, 1, none⟩ (.slice D1 a.toNat d1)).setCell ⟨w.heap.size, 2, none⟩ (.slice D2 0 d2)).setCell ⟨w.heap.size, 3, none⟩ (.int .i64 1)).setCell ⟨w.heap.size, 4, none⟩ (.int .i64 1)).setCell ⟨w.heap.size, 5, none⟩ (.int .i64 0)).setCell ⟨w.heap.size, 6, none⟩ (.int .i64 0)) ((((((((w2.setCell ⟨w.heap.size, 0, none⟩ (.int .i64 128)).setCell ⟨w.heap.size, 1, none⟩ (.slice D1 a.toNat d1)).setCell ⟨w.heap.size, 2, none⟩ (.slice D2 0 d2)).setCell ⟨w.heap.size, 3, none⟩ (.int .i64 1)).setCell ⟨w.heap.size, 4, none⟩ (.int .i64 1)).setCell ⟨w.heap.size, 5, none⟩ (.int .i64 0)).setCell ⟨w.heap.size, 6, none⟩ (.int .i64 0)).alloc (.cells #[.int .i64 128, .slice D1 a.toNat d1, .slice D2 0 d2] 25)) := (Up.refl _).alloc _
  have uu4 := uu3.trans ua4
  have kr_4 := kr_3.up ua4
  have ko_4 : Bk ((((((((w2.setCell ⟨w.heap.size, 0, none⟩ (.int .i64 128)).setCell ⟨w.heap.size, 1, none⟩ (.slice D1 a.toNat d1)).setCell ⟨w.heap.size, 2, none⟩ (.slice D2 0 d2)).setCell ⟨w.heap.size, 3, none⟩ (.int .i64 1)).setCell ⟨w.heap.size, 4, none⟩ (.int .i64 1)).setCell ⟨w.heap.size, 5, none⟩ (.int .i64 0)).setCell ⟨w.heap.size, 6, none⟩ (.int .i64 0)).alloc (.cells #[.int .i64 128, .slice D1 a.toNat d1, .slice D2 0 d2] 25)) (w2.heap.size) 25 #[.int .i64 128, .slice D1 a.toNat d1, .slice D2 0 d2] := by simpa using Bk.new (((((((w2.setCell ⟨w.heap.size, 0, none⟩ (.int .i64 128)).setCell ⟨w.heap.size, 1, none⟩ (.slice D1 a.toNat d1)).setCell ⟨w.heap.size, 2, none⟩ (.slice D2 0 d2)).setCell ⟨w.heap.size, 3, none⟩ (.int .i64 1)).setCell ⟨w.heap.size, 4, none⟩ (.int .i64 1)).setCell ⟨w.heap.size, 5, none⟩ (.int .i64 0)).setCell ⟨w.heap.size, 6, none⟩ (.int .i64 0)) 25 #[.int .i64 128, .slice D1 a.toNat d1, .slice D2 0 d2]
  clear gr2_0 fr2_0 gr2_1 fr2_1 gr2_2 fr2_2 gr2_3 fr2_3 gr2_4 fr2_4 gr2_5 fr2_5 gr2_6 fr2_6
  have gr4_0 : ((((((((w2.setCell ⟨w.heap.size, 0, none⟩ (.int .i64 128)).setCell ⟨w.heap.size, 1, none⟩ (.slice D1 a.toNat d1)).setCell ⟨w.heap.size, 2, none⟩ (.slice D2 0 d2)).setCell ⟨w.heap.size, 3, none⟩ (.int .i64 1)).setCell ⟨w.heap.size, 4, none⟩ (.int .i64 1)).setCell ⟨w.heap.size, 5, none⟩ (.int .i64 0)).setCell ⟨w.heap.size, 6, none⟩ (.int .i64 0)).alloc (.cells #[.int .i64 128, .slice D1 a.toNat d1, .slice D2 0 d2] 25)).cell? ⟨w.heap.size, 0, none⟩ = some (.int .i64 128) := kr_4.cell 0
  have gr4_1 : ((((((((w2.setCell ⟨w.heap.size, 0, none⟩ (.int .i64 128)).setCell ⟨w.heap.size, 1, none⟩ (.slice D1 a.toNat d1)).setCell ⟨w.heap.size, 2, none⟩ (.slice D2 0 d2)).setCell ⟨w.heap.size, 3, none⟩ (.int .i64 1)).setCell ⟨w.heap.size, 4, none⟩ (.int .i64 1)).setCell ⟨w.heap.size, 5, none⟩ (.int .i64 0)).setCell ⟨w.heap.size, 6, none⟩ (.int .i64 0)).alloc (.cells #[.int .i64 128, .slice D1 a.toNat d1, .slice D2 0 d2] 25)).cell? ⟨w.heap.size, 1, none⟩ = some (.slice D1 a.toNat d1) := kr_4.cell 1
  have gr4_2 : ((((((((w2.setCell ⟨w.heap.size, 0, none⟩ (.int .i64 128)).setCell ⟨w.heap.size, 1, none⟩ (.slice D1 a.toNat d1)).setCell ⟨w.heap.size, 2, none⟩ (.slice D2 0 d2)).setCell ⟨w.heap.size, 3, none⟩ (.int .i64 1)).setCell ⟨w.heap.size, 4, none⟩ (.int .i64 1)).setCell ⟨w.heap.size, 5, none⟩ (.int .i64 0)).setCell ⟨w.heap.size, 6, none⟩ (.int .i64 0)).alloc (.cells #[.int .i64 128, .slice D1 a.toNat d1, .slice D2 0 d2] 25)).cell? ⟨w.heap.size, 2, none⟩ = some (.slice D2 0 d2) := kr_4.cell 2
  have gr4_3 : ((((((((w2.setCell ⟨w.heap.size, 0, none⟩ (.int .i64 128)).setCell ⟨w.heap.size, 1, none⟩ (.slice D1 a.toNat d1)).setCell ⟨w.heap.size, 2, none⟩ (.slice D2 0 d2)).setCell ⟨w.heap.size, 3, none⟩ (.int .i64 1)).setCell ⟨w.heap.size, 4, none⟩ (.int .i64 1)).setCell ⟨w.heap.size, 5, none⟩ (.int .i64 0)).setCell ⟨w.heap.size, 6, none⟩ (.int .i64 0)).alloc (.cells #[.int .i64 128, .slice D1 a.toNat d1, .slice D2 0 d2] 25)).cell? ⟨w.heap.size, 3, none⟩ = some (.int .i64 1) := kr_4.cell 3
  have gr4_4 : ((((((((w2.setCell ⟨w.heap.size, 0, none⟩ (.int .i64 128)).setCell ⟨w.heap.size, 1, none⟩ (.slice D1 a.toNat d1)).setCell ⟨w.heap.size, 2, none⟩ (.slice D2 0 d2)).setCell ⟨w.heap.size, 3, none⟩ (.int .i64 1)).setCell ⟨w.heap.size, 4, none⟩ (.int .i64 1)).setCell ⟨w.heap.size, 5, none⟩ (.int .i64 0)).setCell ⟨w.heap.size, 6, none⟩ (.int .i64 0)).alloc (.cells #[.int .i64 128, .slice D1 a.toNat d1, .slice D2 0 d2] 25)).cell? ⟨w.heap.size, 4, none⟩ = some (.int .i64 1) := kr_4.cell 4
  have gr4_5 : ((((((((w2.setCell ⟨w.heap.size, 0, none⟩ (.int .i64 128)).setCell ⟨w.heap.size, 1, none⟩ (.slice D1 a.toNat d1)).setCell ⟨w.heap.size, 2, none⟩ (.slice D2 0 d2)).setCell ⟨w.heap.size, 3, none⟩ (.int .i64 1)).setCell ⟨w.heap.size, 4, none⟩ (.int .i64 1)).setCell ⟨w.heap.size, 5, none⟩ (.int .i64 0)).setCell ⟨w.heap.size, 6, none⟩ (.int .i64 0)).alloc (.cells #[.int .i64 128, .slice D1 a.toNat d1, .slice D2 0 d2] 25)).cell? ⟨w.heap.size, 5, none⟩ = some (.int .i64 0) := kr_4.cell 5
  have gr4_6 : ((((((((w2.setCell ⟨w.heap.size, 0, none⟩ (.int .i64 128)).setCell ⟨w.heap.size, 1, none⟩ (.slice D1 a.toNat d1)).setCell ⟨w.heap.size, 2, none⟩ (.slice D2 0 d2)).setCell ⟨w.heap.size, 3, none⟩ (.int .i64 1)).setCell ⟨w.heap.size, 4, none⟩ (.int .i64 1)).setCell ⟨w.heap.size, 5, none⟩ (.int .i64 0)).setCell ⟨w.heap.size, 6, none⟩ (.int .i64 0)).alloc (.cells #[.int .i64 128, .slice D1 a.toNat d1, .slice D2 0 d2] 25)).cell? ⟨w.heap.size, 6, none⟩ = some (.int .i64 0) := kr_4.cell 6
  refine bodyPost_ret (v := .tuple #[.agg #[.int .i64 128, .slice D1 a.toNat d1, .slice D2 0 d2, .int .i64 1, .int .i64 1, .int .i64 0, .int .i64 0], .int .i64 0]) (by simp [results, Tryz.results60, go_sem, gr4_0, gr4_1, gr4_2, gr4_3, gr4_4, gr4_5, gr4_6]) rfl ?_
  have oE := good_Disk.own_wide (own_up good_Disk (own_set good_Disk o1w w.heap.size 0 [.int .i64 128, .slice D1 a.toNat d1, .slice D2 0 d2, .int .i64 1, .int .i64 1, .int .i64 0, .int .i64 0] (by omega)) ua4) (lo' := w.heap.size) (by omega) (Nat.le_refl _)
  exact toR_of hd hc ⟨[.int .i64 128, .slice D1 a.toNat d1, .slice D2 0 d2, .int .i64 1, .int .i64 1, .int .i64 0, .int .i64 0], _, rfl, ownJ oE ⟨by decide, by decide⟩ ⟨by decide, by decide⟩ ⟨by decide, by decide⟩ ⟨by decide, by decide⟩, nd1, uu4⟩

set_option maxRecDepth 100000 in
set_option maxHeartbeats 4000000 in
theorem ci_NewJournal (a : Int) (w : World) (ha : I64 a) : Calls Tryz.prog 62 #[.int .i64 a] w (ToR shJournal (newJournal a) (newJournalC a) w) := by
  have ua1 : Up w (w.alloc (.cells #[.int .i64 0, .slice none 0 0, .slice none 0 0, .int .i64 0, .int .i64 0, .int .i64 0, .int .i64 0] 41)) := (Up.refl _).alloc _
  have uu1 := (Up.refl w).trans ua1
  have kr_1 : Bk (w.alloc (.cells #[.int .i64 0, .slice none 0 0, .slice none 0 0, .int .i64 0, .int .i64 0, .int .i64 0, .int .i64 0] 41)) (w.heap.size) 41 #[.int .i64 0, .slice none 0 0, .slice none 0 0, .int .i64 0, .int .i64 0, .int .i64 0, .int .i64 0] := by simpa using Bk.new w 41 #[.int .i64 0, .slice none 0 0, .slice none 0 0, .int .i64 0, .int .i64 0, .int .i64 0, .int .i64 0]
  cases q1 : inB a 1 400
  · have hc : Hid (newJournalC a = 2) := by unfold Hid; simp [newJournalC, q1]
    have hd : Hid (newJournal a = ((0, [], []), 0, 0, 0, 0)) := by unfold Hid; simp [newJournal, q1]
    go_enter Tryz.func62, Tryz.ntmps62
    go_wp2_with fail
    refine (ci_NewDisk a 128 _ ha ⟨by decide, by decide⟩).mono ?_
    rintro e w2 ⟨cs1, bl, rfl, o1, nd1, u2⟩
    have uu2 := uu1.trans u2
    have kr_2 := kr_1.up u2
    have zr_2 := kr_2.lt
    rw [(newDisk_no q1).2] at o1
    rw [(newDisk_no q1).1]
    obtain ⟨D1, d1, bl1, D2, d2, bl2, rfl, rfl, _, s1, s2⟩ := openODisk o1
    dsimp only [List.length_nil] at o1 ⊢
    have gr2_0 : w2.cell? ⟨w.heap.size, 0, none⟩ = some (.int .i64 0) := kr_2.cell 0
    have fr2_0 := kr_2.frozen 0
    have gr2_1 : w2.cell? ⟨w.heap.size, 1, none⟩ = some (.slice none 0 0) := kr_2.cell 1
    have fr2_1 := kr_2.frozen 1
    have gr2_2 : w2.cell? ⟨w.heap.size, 2, none⟩ = some (.slice none 0 0) := kr_2.cell 2
    have fr2_2 := kr_2.frozen 2
    have gr2_3 : w2.cell? ⟨w.heap.size, 3, none⟩ = some (.int .i64 0) := kr_2.cell 3
    have fr2_3 := kr_2.frozen 3
    have gr2_4 : w2.cell? ⟨w.heap.size, 4, none⟩ = some (.int .i64 0) := kr_2.cell 4
    have fr2_4 := kr_2.frozen 4
    have gr2_5 : w2.cell? ⟨w.heap.size, 5, none⟩ = some (.int .i64 0) := kr_2.cell 5
    have fr2_5 := kr_2.frozen 5
    have gr2_6 : w2.cell? ⟨w.heap.size, 6, none⟩ = some (.int .i64 0) := kr_2.cell 6
    have fr2_6 := kr_2.frozen 6
    go_wp2_with fail
    have bt3 : But (w.heap.size) w2 (((((((w2.setCell ⟨w.heap.size, 0, none⟩ (.int .i64 0)).setCell ⟨w.heap.size, 1, none⟩ (.slice none 0 0)).setCell ⟨w.heap.size, 2, none⟩ (.slice none 0 0)).setCell ⟨w.heap.size, 3, none⟩ (.int .i64 0)).setCell ⟨w.heap.size, 4, none⟩ (.int .i64 0)).setCell ⟨w.heap.size, 5, none⟩ (.int .i64 0)).setCell ⟨w.heap.size, 6, none⟩ (.int .i64 0)) := But.sets (g := w.heap.size) [.int .i64 0, .slice none 0 0, .slice none 0 0, .int .i64 0, .int .i64 0, .int .i64 0, .int .i64 0] w2 0
    have uu3 : Up w (((((((w2.setCell ⟨w.heap.size, 0, none⟩ (.int .i64 0)).setCell ⟨w.heap.size, 1, none⟩ (.slice none 0 0)).setCell ⟨w.heap.size, 2, none⟩ (.slice none 0 0)).setCell ⟨w.heap.size, 3, none⟩ (.int .i64 0)).setCell ⟨w.heap.size, 4, none⟩ (.int .i64 0)).setCell ⟨w.heap.size, 5, none⟩ (.int .i64 0)).setCell ⟨w.heap.size, 6, none⟩ (.int .i64 0)) := uu2.but bt3 (by omega)
    have kr_3 : Bk (((((((w2.setCell ⟨w.heap.size, 0, none⟩ (.int .i64 0)).setCell ⟨w.heap.size, 1, none⟩ (.slice none 0 0)).setCell ⟨w.heap.size, 2, none⟩ (.slice none 0 0)).setCell ⟨w.heap.size, 3, none⟩ (.int .i64 0)).setCell ⟨w.heap.size, 4, none⟩ (.int .i64 0)).setCell ⟨w.heap.size, 5, none⟩ (.int .i64 0)).setCell ⟨w.heap.size, 6, none⟩ (.int .i64 0)) (w.heap.size) 41 #[.int .i64 0, .slice none 0 0, .slice none 0 0, .int .i64 0, .int .i64 0, .int .i64 0, .int .i64 0] := kr_2.sets [.int .i64 0, .slice none 0 0, .slice none 0 0, .int .i64 0, .int .i64 0, .int .i64 0, .int .i64 0] 0
    have ua4 : Up (((((((w2.setCell ⟨w.heap.size, 0, none⟩ (.int .i64 0)).setCell ⟨w.heap.size, 1, none⟩ (.slice none 0 0)).setCell ⟨w.heap.size, 2, none⟩ (.slice none 0 0)).setCell ⟨w.heap.size, 3, none⟩ (.int .i64 0)).setCell ⟨w.heap.size, 4, none⟩ (.int .i64 0)).setCell ⟨w.heap.size, 5, none⟩ (.int .i64 0)).setCell ⟨w.heap.size, 6, none⟩ (.int .i64 0)) ((((((((w2.setCell ⟨w.heap.size, 0, none⟩ (.int .i64 0)).setCell ⟨w.heap.size, 1, none⟩ (.slice none 0 0)).setCell ⟨w.heap.size, 2, none⟩ (.slice none 0 0)).setCell ⟨w.heap.size, 3, none⟩ (.int .i64 0)).setCell ⟨w.heap.size, 4, none⟩ (.int .i64 0)).setCell ⟨w.heap.size, 5, none⟩ (.int .i64 0)).setCell ⟨w.heap.size, 6, none⟩ (.int .i64 0)).alloc (.cells #[.int .i64 0, .slice D1 0 d1, .slice D2 0 d2] 25)) := (Up.refl _).alloc _
    have uu4 := uu3.trans ua4
    have kr_4 := kr_3.up ua4
    have ko_4 : Bk ((((((((w2.setCell ⟨w.heap.size, 0, none⟩ (.int .i64 0)).setCell ⟨w.heap.size, 1, none⟩ (.slice none 0 0)).setCell ⟨w.heap.size, 2, none⟩ (.slice none 0 0)).setCell ⟨w.heap.size, 3, none⟩ (.int .i64 0)).setCell ⟨w.heap.size, 4, none⟩ (.int .i64 0)).setCell ⟨w.heap.size, 5, none⟩ (.int .i64 0)).setCell ⟨w.heap.size, 6, none⟩ (.int .i64 0)).alloc (.cells #[.int .i64 0, .slice D1 0 d1, .slice D2 0 d2] 25)) (w2.heap.size) 25 #[.int .i64 0, .slice D1 0 d1, .slice D2 0 d2] := by simpa using Bk.new (((((((w2.setCell ⟨w.heap.size, 0, none⟩ (.int .i64 0)).setCell ⟨w.heap.size, 1, none⟩ (.slice none 0 0)).setCell ⟨w.heap.size, 2, none⟩ (.slice none 0 0)).setCell ⟨w.heap.size, 3, none⟩ (.int .i64 0)).setCell ⟨w.heap.size, 4, none⟩ (.int .i64 0)).setCell ⟨w.heap.size, 5, none⟩ (.int .i64 0)).setCell ⟨w.heap.size, 6, none⟩ (.int .i64 0)) 25 #[.int .i64 0, .slice D1 0 d1, .slice D2 0 d2]
    clear gr2_0 fr2_0 gr2_1 fr2_1 gr2_2 fr2_2 gr2_3 fr2_3 gr2_4 fr2_4 gr2_5 fr2_5 gr2_6 fr2_6
    have gr4_0 : ((((((((w2.setCell ⟨w.heap.size, 0, none⟩ (.int .i64 0)).setCell ⟨w.heap.size, 1, none⟩ (.slice none 0 0)).setCell ⟨w.heap.size, 2, none⟩ (.slice none 0 0)).setCell ⟨w.heap.size, 3, none⟩ (.int .i64 0)).setCell ⟨w.heap.size, 4, none⟩ (.int .i64 0)).setCell ⟨w.heap.size, 5, none⟩ (.int .i64 0)).setCell ⟨w.heap.size, 6, none⟩ (.int .i64 0)).alloc (.cells #[.int .i64 0, .slice D1 0 d1, .slice D2 0 d2] 25)).cell? ⟨w.heap.size, 0, none⟩ = some (.int .i64 0) := kr_4.cell 0
    have gr4_1 : ((((((((w2.setCell ⟨w.heap.size, 0, none⟩ (.int .i64 0)).setCell ⟨w.heap.size, 1, none⟩ (.slice none 0 0)).setCell ⟨w.heap.size, 2, none⟩ (.slice none 0 0)).setCell ⟨w.heap.size, 3, none⟩ (.int .i64 0)).setCell ⟨w.heap.size, 4, none⟩ (.int .i64 0)).setCell ⟨w.heap.size, 5, none⟩ (.int .i64 0)).setCell ⟨w.heap.size, 6, none⟩ (.int .i64 0)).alloc (.cells #[.int .i64 0, .slice D1 0 d1, .slice D2 0 d2] 25)).cell? ⟨w.heap.size, 1, none⟩ = some (.slice none 0 0) := kr_4.cell 1
    have gr4_2 : ((((((((w2.setCell ⟨w.heap.size, 0, none⟩ (.int .i64 0)).setCell ⟨w.heap.size, 1, none⟩ (.slice none 0 0)).setCell ⟨w.heap.size, 2, none⟩ (.slice none 0 0)).setCell ⟨w.heap.size, 3, none⟩ (.int .i64 0)).setCell ⟨w.heap.size, 4, none⟩ (.int .i64 0)).setCell ⟨w.heap.size, 5, none⟩ (.int .i64 0)).setCell ⟨w.heap.size, 6, none⟩ (.int .i64 0)).alloc (.cells #[.int .i64 0, .slice D1 0 d1, .slice D2 0 d2] 25)).cell? ⟨w.heap.size, 2, none⟩ = some (.slice none 0 0) := kr_4.cell 2
    have gr4_3 : ((((((((w2.setCell ⟨w.heap.size, 0, none⟩ (.int .i64 0)).setCell ⟨w.heap.size, 1, none⟩ (.slice none 0 0)).setCell ⟨w.heap.size, 2, none⟩ (.slice none 0 0)).setCell ⟨w.heap.size, 3, none⟩ (.int .i64 0)).setCell ⟨w.heap.size, 4, none⟩ (.int .i64 0)).setCell ⟨w.heap.size, 5, none⟩ (.int .i64 0)).setCell ⟨w.heap.size, 6, none⟩ (.int .i64 0)).alloc (.cells #[.int .i64 0, .slice D1 0 d1, .slice D2 0 d2] 25)).cell? ⟨w.heap.size, 3, none⟩ = some (.int .i64 0) := kr_4.cell 3
    have gr4_4 : ((((((((w2.setCell ⟨w.heap.size, 0, none⟩ (.int .i64 0)).setCell ⟨w.heap.size, 1, none⟩ (.slice none 0 0)).setCell ⟨w.heap.size, 2, none⟩ (.slice none 0 0)).setCell ⟨w.heap.size, 3, none⟩ (.int .i64 0)).setCell ⟨w.heap.size, 4, none⟩ (.int .i64 0)).setCell ⟨w.heap.size, 5, none⟩ (.int .i64 0)).setCell ⟨w.heap.size, 6, none⟩ (.int .i64 0)).alloc (.cells #[.int .i64 0, .slice D1 0 d1, .slice D2 0 d2] 25)).cell? ⟨w.heap.size, 4, none⟩ = some (.int .i64 0) := kr_4.cell 4
    have gr4_5 : ((((((((w2.setCell ⟨w.heap.size, 0, none⟩ (.int .i64 0)).setCell ⟨w.heap.size, 1, none⟩ (.slice none 0 0)).setCell ⟨w.heap.size, 2, none⟩ (.slice none 0 0)).setCell ⟨w.heap.size, 3, none⟩ (.int .i64 0)).setCell ⟨w.heap.size, 4, none⟩ (.int .i64 0)).setCell ⟨w.heap.size, 5, none⟩ (.int .i64 0)).setCell ⟨w.heap.size, 6, none⟩ (.int .i64 0)).alloc (.cells #[.int .i64 0, .slice D1 0 d1, .slice D2 0 d2] 25)).cell? ⟨w.heap.size, 5, none⟩ = some (.int .i64 0) := kr_4.cell 5
    have gr4_6 : ((((((((w2.setCell ⟨w.heap.size, 0, none⟩ (.int .i64 0)).setCell ⟨w.heap.size, 1, none⟩ (.slice none 0 0)).setCell ⟨w.heap.size, 2, none⟩ (.slice none 0 0)).setCell ⟨w.heap.size, 3, none⟩ (.int .i64 0)).setCell ⟨w.heap.size, 4, none⟩ (.int .i64 0)).setCell ⟨w.heap.size, 5, none⟩ (.int .i64 0)).setCell ⟨w.heap.size, 6, none⟩ (.int .i64 0)).alloc (.cells #[.int .i64 0, .slice D1 0 d1, .slice D2 0 d2] 25)).cell? ⟨w.heap.size, 6, none⟩ = some (.int .i64 0) := kr_4.cell 6
    refine bodyPost_ret (v := .tuple #[.agg #[.int .i64 0, .slice none 0 0, .slice none 0 0, .int .i64 0, .int .i64 0, .int .i64 0, .int .i64 0], .int .i64 2]) (by simp [results, Tryz.results62, go_sem, gr4_0, gr4_1, gr4_2, gr4_3, gr4_4, gr4_5, gr4_6]) rfl ?_
    exact toR_of hd hc (zeroRJ _ _ _ uu4)
  have hc : Hid (newJournalC a = 0) := by unfold Hid; simp [newJournalC, q1]
  have hd : Hid (newJournal a = ((128, List.replicate a.toNat (zs 128), []), 1, 1, 0, 0)) := by unfold Hid; rw [newJournal, if_pos q1, (newDisk_yes q1).2]
  go_enter Tryz.func62, Tryz.ntmps62
  go_wp2_with fail
  refine (ci_NewDisk a 128 _ ha ⟨by decide, by decide⟩).mono ?_
  rintro e w2 ⟨cs1, bl, rfl, o1, nd1, u2⟩
  have uu2 := uu1.trans u2
  have kr_2 := kr_1.up u2
  have zr_2 := kr_2.lt
  rw [(newDisk_yes q1).2] at o1
  rw [(newDisk_yes q1).1]
  obtain ⟨D1, d1, bl1, D2, d2, bl2, rfl, _, _, _, _⟩ := openODisk o1
  dsimp only [List.length_nil] at o1 ⊢
  have HL : Hid ((List.replicate a.toNat (zs 128)).length = a.toNat) := List.length_replicate
  rw [HL.out] at o1
  rw [HL.out]
  have o1w := good_Disk.own_wide o1 (lo' := w.heap.size + 1) (by simp) (Nat.le_refl _)
  have gr2_0 : w2.cell? ⟨w.heap.size, 0, none⟩ = some (.int .i64 0) := kr_2.cell 0
  have fr2_0 := kr_2.frozen 0
  have gr2_1 : w2.cell? ⟨w.heap.size, 1, none⟩ = some (.slice none 0 0) := kr_2.cell 1
  have fr2_1 := kr_2.frozen 1
  have gr2_2 : w2.cell? ⟨w.heap.size, 2, none⟩ = some (.slice none 0 0) := kr_2.cell 2
  have fr2_2 := kr_2.frozen 2
  have gr2_3 : w2.cell? ⟨w.heap.size, 3, none⟩ = some (.int .i64 0) := kr_2.cell 3
  have fr2_3 := kr_2.frozen 3
  have gr2_4 : w2.cell? ⟨w.heap.size, 4, none⟩ = some (.int .i64 0) := kr_2.cell 4
  have fr2_4 := kr_2.frozen 4
  have gr2_5 : w2.cell? ⟨w.heap.size, 5, none⟩ = some (.int .i64 0) := kr_2.cell 5
  have fr2_5 := kr_2.frozen 5
  have gr2_6 : w2.cell? ⟨w.heap.size, 6, none⟩ = some (.int .i64 0) := kr_2.cell 6
  have fr2_6 := kr_2.frozen 6
  go_wp2_with fail
  have bt3 : But (w.heap.size) w2 (((((((w2.setCell ⟨w.heap.size, 0, none⟩ (.int .i64 128)).setCell ⟨w.heap.size, 1, none⟩ (.slice D1 a.toNat d1)).setCell ⟨w.heap.size, 2, none⟩ (.slice D2 0 d2)).setCell ⟨w.heap.size, 3, none⟩ (.int .i64 1)).setCell ⟨w.heap.size, 4, none⟩ (.int .i64 1)).setCell ⟨w.heap.size, 5, none⟩ (.int .i64 0)).setCell ⟨w.heap.size, 6, none⟩ (.int .i64 0)) := But.sets (g := w.heap.size) [.int .i64 128, .slice D1 a.toNat d1, .slice D2 0 d2, .int .i64 1, .int .i64 1, .int .i64 0, .int .i64 0] w2 0
  have uu3 : Up w (((((((w2.setCell ⟨w.heap.size, 0, none⟩ (.int .i64 128)).setCell ⟨w.heap.size, 1, none⟩ (.slice D1 a.toNat d1)).setCell ⟨w.heap.size, 2, none⟩ (.slice D2 0 d2)).setCell ⟨w.heap.size, 3, none⟩ (.int .i64 1)).setCell ⟨w.heap.size, 4, none⟩ (.int .i64 1)).setCell ⟨w.heap.size, 5, none⟩ (.int .i64 0)).setCell ⟨w.heap.size, 6, none⟩ (.int .i64 0)) := uu2.but bt3 (by omega)
  have kr_3 : Bk (((((((w2.setCell ⟨w.heap.size, 0, none⟩ (.int .i64 128)).setCell ⟨w.heap.size, 1, none⟩ (.slice D1 a.toNat d1)).setCell ⟨w.heap.size, 2, none⟩ (.slice D2 0 d2)).setCell ⟨w.heap.size, 3, none⟩ (.int .i64 1)).setCell ⟨w.heap.size, 4, none⟩ (.int .i64 1)).setCell ⟨w.heap.size, 5, none⟩ (.int .i64 0)).setCell ⟨w.heap.size, 6, none⟩ (.int .i64 0)) (w.heap.size) 41 #[.int .i64 128, .slice D1 a.toNat d1, .slice D2 0 d2, .int .i64 1, .int .i64 1, .int .i64 0, .int .i64 0] := kr_2.sets [.int .i64 128, .slice D1 a.toNat d1, .slice D2 0 d2, .int .i64 1, .int .i64 1, .int .i64 0, .int .i64 0] 0
  have ua4 : Up (((((((w2.setCell ⟨w.heap.size, 0, none⟩ (.int .i64 128)).setCell ⟨w.heap.size, 1, none⟩ (.slice D1 a.toNat d1)).setCell ⟨w.heap.size, 2, none⟩ (.slice D2 0 d2)).setCell ⟨w.heap.size, 3, none⟩ (.int .i64 1)).setCell ⟨w.heap.size, 4, none⟩ (.int .i64 1)).setCell ⟨w.heap.size, 5, none⟩ (.int .i64 0)).setCell ⟨w.heap.size, 6, none⟩ (.int .i64 0)) ((((((((w2.setCell ⟨w.heap.size, 0, none⟩ (.int .i64 128)).setCell ⟨w.heap.size, 1, none⟩ (.slice D1 a.toNat d1)).setCell ⟨w.heap.size, 2, none⟩ (.slice D2 0 d2)).setCell ⟨w.heap.size, 3, none⟩ (.int .i64 1)).setCell ⟨w.heap.size, 4, none⟩ (.int .i64 1)).setCell ⟨w.heap.size, 5, none⟩ (.int .i64 0)).setCell ⟨w.heap.size, 6, none⟩ (.int .i64 0)).alloc (.cells #[.int .i64 128, .slice D1 a.toNat d1, .slice D2 0 d2] 25)) := (Up.refl _).alloc _
  have uu4 := uu3.trans ua4
  have kr_4 := kr_3.up ua4
  have ko_4 : Bk ((((((((w2.setCell ⟨w.heap.size, 0, none⟩ (.int .i64 128)).setCell ⟨w.heap.size, 1, none⟩ (.slice D1 a.toNat d1)).setCell ⟨w.heap.size, 2, none⟩ (.slice D2 0 d2)).setCell ⟨w.heap.size, 3, none⟩ (.int .i64 1)).setCell ⟨w.heap.size, 4, none⟩ (.int .i64 1)).setCell ⟨w.heap.size, 5, none⟩ (.int .i64 0)).setCell ⟨w.heap.size, 6, none⟩ (.int .i64 0)).alloc (.cells #[.int .i64 128, .slice D1 a.toNat d1, .slice D2 0 d2] 25)) (w2.heap.size) 25 #[.int .i64 128, .slice D1 a.toNat d1, .slice D2 0 d2] := by simpa using Bk.new (((((((w2.setCell ⟨w.heap.size, 0, none⟩ (.int .i64 128)).setCell ⟨w.heap.size, 1, none⟩ (.slice D1 a.toNat d1)).setCell ⟨w.heap.size, 2, none⟩ (.slice D2 0 d2)).setCell ⟨w.heap.size, 3, none⟩ (.int .i64 1)).setCell ⟨w.heap.size, 4, none⟩ (.int .i64 1)).setCell ⟨w.heap.size, 5, none⟩ (.int .i64 0)).setCell ⟨w.heap.size, 6, none⟩ (.int .i64 0)) 25 #[.int .i64 128, .slice D1 a.toNat d1, .slice D2 0 d2]
  clear gr2_0 fr2_0 gr2_1 fr2_1 gr2_2 fr2_2 gr2_3 fr2_3 gr2_4 fr2_4 gr2_5 fr2_5 gr2_6 fr2_6
  have gr4_0 : ((((((((w2.setCell ⟨w.heap.size, 0, none⟩ (.int .i64 128)).setCell ⟨w.heap.size, 1, none⟩ (.slice D1 a.toNat d1)).setCell ⟨w.heap.size, 2, none⟩ (.slice D2 0 d2)).setCell ⟨w.heap.size, 3, none⟩ (.int .i64 1)).setCell ⟨w.heap.size, 4, none⟩ (.int .i64 1)).setCell ⟨w.heap.size, 5, none⟩ (.int .i64 0)).setCell ⟨w.heap.size, 6, none⟩ (.int .i64 0)).alloc (.cells #[.int .i64 128, .slice D1 a.toNat d1, .slice D2 0 d2] 25)).cell? ⟨w.heap.size, 0, none⟩ = some (.int .i64 128) := kr_4.cell 0
  have gr4_1 : ((((((((w2.setCell ⟨w.heap.size, 0, none⟩ (.int .i64 128)).setCell ⟨w.heap.size, 1, none⟩ (.slice D1 a.toNat d1)).setCell ⟨w.heap.size, 2, none⟩ (.slice D2 0 d2)).setCell ⟨w.heap.size, 3, none⟩ (.int .i64 1)).setCell ⟨w.heap.size, 4, none⟩ (.int .i64 1)).setCell ⟨w.heap.size, 5, none⟩ (.int .i64 0)).setCell ⟨w.heap.size, 6, none⟩ (.int .i64 0)).alloc (.cells #[.int .i64 128, .slice D1 a.toNat d1, .slice D2 0 d2] 25)).cell? ⟨w.heap.size, 1, none⟩ = some (.slice D1 a.toNat d1) := kr_4.cell 1
  have gr4_2 : ((((((((w2.setCell ⟨w.heap.size, 0, none⟩ (.int .i64 128)).setCell ⟨w.heap.size, 1, none⟩ (.slice D1 a.toNat d1)).setCell ⟨w.heap.size, 2, none⟩ (.slice D2 0 d2)).setCell ⟨w.heap.size, 3, none⟩ (.int .i64 1)).setCell ⟨w.heap.size, 4, none⟩ (.int .i64 1)).setCell ⟨w.heap.size, 5, none⟩ (.int .i64 0)).setCell ⟨w.heap.size, 6, none⟩ (.int .i64 0)).alloc (.cells #[.int .i64 128, .slice D1 a.toNat d1, .slice D2 0 d2] 25)).cell? ⟨w.heap.size, 2, none⟩ = some (.slice D2 0 d2) := kr_4.cell 2
  have gr4_3 : ((((((((w2.setCell ⟨w.heap.size, 0, none⟩ (.int .i64 128)).setCell ⟨w.heap.size, 1, none⟩ (.slice D1 a.toNat d1)).setCell ⟨w.heap.size, 2, none⟩ (.slice D2 0 d2)).setCell ⟨w.heap.size, 3, none⟩ (.int .i64 1)).setCell ⟨w.heap.size, 4, none⟩ (.int .i64 1)).setCell ⟨w.heap.size, 5, none⟩ (.int .i64 0)).setCell ⟨w.heap.size, 6, none⟩ (.int .i64 0)).alloc (.cells #[.int .i64 128, .slice D1 a.toNat d1, .slice D2 0 d2] 25)).cell? ⟨w.heap.size, 3, none⟩ = some (.int .i64 1) := kr_4.cell 3
  have gr4_4 : ((((((((w2.setCell ⟨w.heap.size, 0, none⟩ (.int .i64 128)).setCell ⟨w.heap.size, 1, none⟩ (.slice D1 a.toNat d1)).setCell ⟨w.heap.size, 2, none⟩ (.slice D2 0 d2)).setCell ⟨w.heap.size, 3, none⟩ (.int .i64 1)).setCell ⟨w.heap.size, 4, none⟩ (.int .i64 1)).setCell ⟨w.heap.size, 5, none⟩ (.int .i64 0)).setCell ⟨w.heap.size, 6, none⟩ (.int .i64 0)).alloc (.cells #[.int .i64 128, .slice D1 a.toNat d1, .slice D2 0 d2] 25)).cell? ⟨w.heap.size, 4, none⟩ = some (.int .i64 1) := kr_4.cell 4
  have gr4_5 : ((((((((w2.setCell ⟨w.heap.size, 0, none⟩ (.int .i64 128)).setCell ⟨w.heap.size, 1, none⟩ (.slice D1 a.toNat d1)).setCell ⟨w.heap.size, 2, none⟩ (.slice D2 0 d2)).setCell ⟨w.heap.size, 3, none⟩ (.int .i64 1)).setCell ⟨w.heap.size, 4, none⟩ (.int .i64 1)).setCell ⟨w.heap.size, 5, none⟩ (.int .i64 0)).setCell ⟨w.heap.size, 6, none⟩ (.int .i64 0)).alloc (.cells #[.int .i64 128, .slice D1 a.toNat d1, .slice D2 0 d2] 25)).cell? ⟨w.heap.size, 5, none⟩ = some (.int .i64 0) := kr_4.cell 5
  have gr4_6 : ((((((((w2.setCell ⟨w.heap.size, 0, none⟩ (.int .i64 128)).setCell ⟨w.heap.size, 1, none⟩ (.slice D1 a.toNat d1)).setCell ⟨w.heap.size, 2, none⟩ (.slice D2 0 d2)).setCell ⟨w.heap.size, 3, none⟩ (.int .i64 1)).setCell ⟨w.heap.size, 4, none⟩ (.int .i64 1)).setCell ⟨w.heap.size, 5, none⟩ (.int .i64 0)).setCell ⟨w.heap.size, 6, none⟩ (.int .i64 0)).alloc (.cells #[.int .i64 128, .slice D1 a.toNat d1, .slice D2 0 d2] 25)).cell? ⟨w.heap.size, 6, none⟩ = some (.int .i64 0) := kr_4.cell 6
  refine bodyPost_ret (v := .tuple #[.agg #[.int .i64 128, .slice D1 a.toNat d1, .slice D2 0 d2, .int .i64 1, .int .i64 1, .int .i64 0, .int .i64 0], .int .i64 0]) (by simp [results, Tryz.results62, go_sem, gr4_0, gr4_1, gr4_2, gr4_3, gr4_4, gr4_5, gr4_6]) rfl ?_
  have oE := good_Disk.own_wide (own_up good_Disk (own_set good_Disk o1w w.heap.size 0 [.int .i64 128, .slice D1 a.toNat d1, .slice D2 0 d2, .int .i64 1, .int .i64 1, .int .i64 0, .int .i64 0] (by omega)) ua4) (lo' := w.heap.size) (by omega) (Nat.le_refl _)
  exact toR_of hd hc ⟨[.int .i64 128, .slice D1 a.toNat d1, .slice D2 0 d2, .int .i64 1, .int .i64 1, .int .i64 0, .int .i64 0], _, rfl, ownJ oE ⟨by decide, by decide⟩ ⟨by decide, by decide⟩ ⟨by decide, by decide⟩ ⟨by decide, by decide⟩, nd1, uu4⟩

theorem cs_NewJournal (a : Int) (w : World) (ha : I64 a) : Calls Tryz.prog 60 #[.int .i64 a] w (RpR shJournal (newJournal a) (newJournalC a) w) := (cs0_NewJournal a w ha).mono fun _ _ h => h.rp good_Journal
theorem cbg_NewJournal (a : Int) : (1 : Int) + (mmTJournal.cnt (newJournal a) : Nat) ≤ 1000000000 := by
  rw [cntJ_eq]
  unfold newJournal
  split
  · exact cbg_NewDisk a 128
  · decide
end Go.Proofs.YtlifhbfomgbiaaaGreatDoor
