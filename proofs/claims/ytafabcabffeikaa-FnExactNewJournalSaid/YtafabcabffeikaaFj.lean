/-
  FlushJournal and ResetJournal: the program's and the reference's give one journal in new memory.
-/
import Derived.Test.YtafabcabffeikaaFl
import Derived.Test.YtafabcabffeikaaJo
import Derived.Test.YtafabcabffeikaaHas
namespace Go.Proofs.Ytafabcabffeikaa
open Go.RowKit
set_option linter.unusedVariables false
set_option linter.unusedSimpArgs false

def journalFlush (j : TJournal) : TJournal := if journalOk j = true then ((j.1.1, flushS j.1.2.1 j.1.2.2, []), j.2) else ((0, [], []), 0, 0, 0, 0)
theorem journal_disk {j : TJournal} (h : journalOk j = true) : diskOk j.1 = true := by
  simp only [journalOk, Bool.and_eq_true] at h
  exact h.1.1.1.1.1
theorem journal_last {j : TJournal} (h : journalOk j = true) : -1 ≤ j.2.2.2.1 ∧ j.2.2.2.1 ≤ 2000000000 := by
  simp only [journalOk, Bool.and_eq_true, inB_t] at h
  omega
theorem journal_sz {j : TJournal} (h : shJournal.sz j ≤ 1048576) : shDisk.sz j.1 ≤ 1048576 := by
  have : shJournal.sz j = shDisk.sz j.1 + (0 + (0 + (0 + 0))) := rfl
  omega
theorem ownJ {w : World} {lo hi : Nat} {cs : List Value} {d : TDisk} {bl : List Nat} (h : shDisk.own w lo hi cs d bl) {a b c e : Int} (ha : I64 a) (hb : I64 b) (hc : I64 c) (he : I64 e) :
    shJournal.own w lo hi (cs ++ [.int .i64 a, .int .i64 b, .int .i64 c, .int .i64 e]) (d, a, b, c, e) bl := by
  have h2 : shJournal.own w lo hi _ (d, a, b, c, e) _ := mkO_P (a := shDisk) (x := (d, a, b, c, e)) good_Disk h (mkO_P (a := shI) (x := (a, b, c, e)) good_I ⟨⟨rfl, ha⟩, rfl⟩ (mkO_P (a := shI) (x := (b, c, e)) good_I ⟨⟨rfl, hb⟩, rfl⟩ (mkO_P (a := shI) (x := (c, e)) good_I ⟨⟨rfl, hc⟩, rfl⟩ ⟨⟨rfl, he⟩, rfl⟩)))
  simpa using h2
theorem own_zeroJ (w : World) (lo hi : Nat) : shJournal.own w lo hi [.int .i64 0, .slice none 0 0, .slice none 0 0, .int .i64 0, .int .i64 0, .int .i64 0, .int .i64 0] ((0, [], []), 0, 0, 0, 0) [] :=
  ownJ (own_zeroDisk w lo hi) ⟨by decide, by decide⟩ ⟨by decide, by decide⟩ ⟨by decide, by decide⟩ ⟨by decide, by decide⟩

set_option maxRecDepth 100000 in
set_option maxHeartbeats 4000000 in
theorem c_l19Flush (v : Value) (x : TJournal) (w : World) (h : AV shJournal w v x) (hn : shJournal.sz x ≤ 1048576) (hp : ∀ p ∈ x.1.2.2, 0 ≤ p.1 ∧ p.1 < x.1.2.1.length) : Calls Try.prog 98 #[v] w (ToV shJournal ((x.1.1, flushS x.1.2.1 x.1.2.2, []), x.2) w) := by
  have hv := h
  obtain ⟨cs, rfl, h⟩ := h
  obtain ⟨A1, c1, A2, c2, rfl, b0, b1, b2, b3, b4, b5, b6⟩ := openJournal h
  clear h
  have hnd := journal_sz hn
  have ua1 : Up w (w.alloc (.cells #[.int .i64 x.1.1, .slice A1 x.1.2.1.length c1, .slice A2 x.1.2.2.length c2, .int .i64 x.2.1, .int .i64 x.2.2.1, .int .i64 x.2.2.2.1, .int .i64 x.2.2.2.2] 63)) := (Up.refl _).alloc _
  have uu1 := (Up.refl w).trans ua1
  have ka_1 : Bk (w.alloc (.cells #[.int .i64 x.1.1, .slice A1 x.1.2.1.length c1, .slice A2 x.1.2.2.length c2, .int .i64 x.2.1, .int .i64 x.2.2.1, .int .i64 x.2.2.2.1, .int .i64 x.2.2.2.2] 63)) (w.heap.size) 63 #[.int .i64 x.1.1, .slice A1 x.1.2.1.length c1, .slice A2 x.1.2.2.length c2, .int .i64 x.2.1, .int .i64 x.2.2.1, .int .i64 x.2.2.2.1, .int .i64 x.2.2.2.2] := by simpa using Bk.new w 63 #[.int .i64 x.1.1, .slice A1 x.1.2.1.length c1, .slice A2 x.1.2.2.length c2, .int .i64 x.2.1, .int .i64 x.2.2.1, .int .i64 x.2.2.2.1, .int .i64 x.2.2.2.2]
  have ua2 : Up (w.alloc (.cells #[.int .i64 x.1.1, .slice A1 x.1.2.1.length c1, .slice A2 x.1.2.2.length c2, .int .i64 x.2.1, .int .i64 x.2.2.1, .int .i64 x.2.2.2.1, .int .i64 x.2.2.2.2] 63)) ((w.alloc (.cells #[.int .i64 x.1.1, .slice A1 x.1.2.1.length c1, .slice A2 x.1.2.2.length c2, .int .i64 x.2.1, .int .i64 x.2.2.1, .int .i64 x.2.2.2.1, .int .i64 x.2.2.2.2] 63)).alloc (.cells #[.int .i64 0, .slice none 0 0, .slice none 0 0, .int .i64 0, .int .i64 0, .int .i64 0, .int .i64 0] 63)) := (Up.refl _).alloc _
  have uu2 := uu1.trans ua2
  have ka_2 := ka_1.up ua2
  have kr_2 : Bk ((w.alloc (.cells #[.int .i64 x.1.1, .slice A1 x.1.2.1.length c1, .slice A2 x.1.2.2.length c2, .int .i64 x.2.1, .int .i64 x.2.2.1, .int .i64 x.2.2.2.1, .int .i64 x.2.2.2.2] 63)).alloc (.cells #[.int .i64 0, .slice none 0 0, .slice none 0 0, .int .i64 0, .int .i64 0, .int .i64 0, .int .i64 0] 63)) (w.heap.size + 1) 63 #[.int .i64 0, .slice none 0 0, .slice none 0 0, .int .i64 0, .int .i64 0, .int .i64 0, .int .i64 0] := by simpa using Bk.new (w.alloc (.cells #[.int .i64 x.1.1, .slice A1 x.1.2.1.length c1, .slice A2 x.1.2.2.length c2, .int .i64 x.2.1, .int .i64 x.2.2.1, .int .i64 x.2.2.2.1, .int .i64 x.2.2.2.2] 63)) 63 #[.int .i64 0, .slice none 0 0, .slice none 0 0, .int .i64 0, .int .i64 0, .int .i64 0, .int .i64 0]
  have ua3 : Up ((w.alloc (.cells #[.int .i64 x.1.1, .slice A1 x.1.2.1.length c1, .slice A2 x.1.2.2.length c2, .int .i64 x.2.1, .int .i64 x.2.2.1, .int .i64 x.2.2.2.1, .int .i64 x.2.2.2.2] 63)).alloc (.cells #[.int .i64 0, .slice none 0 0, .slice none 0 0, .int .i64 0, .int .i64 0, .int .i64 0, .int .i64 0] 63)) (((w.alloc (.cells #[.int .i64 x.1.1, .slice A1 x.1.2.1.length c1, .slice A2 x.1.2.2.length c2, .int .i64 x.2.1, .int .i64 x.2.2.1, .int .i64 x.2.2.2.1, .int .i64 x.2.2.2.2] 63)).alloc (.cells #[.int .i64 0, .slice none 0 0, .slice none 0 0, .int .i64 0, .int .i64 0, .int .i64 0, .int .i64 0] 63)).alloc (.cells #[.int .i64 x.1.1, .slice A1 x.1.2.1.length c1, .slice A2 x.1.2.2.length c2, .int .i64 x.2.1, .int .i64 x.2.2.1, .int .i64 x.2.2.2.1, .int .i64 x.2.2.2.2] 63)) := (Up.refl _).alloc _
  have uu3 := uu2.trans ua3
  have ka_3 := ka_2.up ua3
  have kr_3 := kr_2.up ua3
  have ko_3 : Bk (((w.alloc (.cells #[.int .i64 x.1.1, .slice A1 x.1.2.1.length c1, .slice A2 x.1.2.2.length c2, .int .i64 x.2.1, .int .i64 x.2.2.1, .int .i64 x.2.2.2.1, .int .i64 x.2.2.2.2] 63)).alloc (.cells #[.int .i64 0, .slice none 0 0, .slice none 0 0, .int .i64 0, .int .i64 0, .int .i64 0, .int .i64 0] 63)).alloc (.cells #[.int .i64 x.1.1, .slice A1 x.1.2.1.length c1, .slice A2 x.1.2.2.length c2, .int .i64 x.2.1, .int .i64 x.2.2.1, .int .i64 x.2.2.2.1, .int .i64 x.2.2.2.2] 63)) (w.heap.size + 1 + 1) 63 #[.int .i64 x.1.1, .slice A1 x.1.2.1.length c1, .slice A2 x.1.2.2.length c2, .int .i64 x.2.1, .int .i64 x.2.2.1, .int .i64 x.2.2.2.1, .int .i64 x.2.2.2.2] := by simpa using Bk.new ((w.alloc (.cells #[.int .i64 x.1.1, .slice A1 x.1.2.1.length c1, .slice A2 x.1.2.2.length c2, .int .i64 x.2.1, .int .i64 x.2.2.1, .int .i64 x.2.2.2.1, .int .i64 x.2.2.2.2] 63)).alloc (.cells #[.int .i64 0, .slice none 0 0, .slice none 0 0, .int .i64 0, .int .i64 0, .int .i64 0, .int .i64 0] 63)) 63 #[.int .i64 x.1.1, .slice A1 x.1.2.1.length c1, .slice A2 x.1.2.2.length c2, .int .i64 x.2.1, .int .i64 x.2.2.1, .int .i64 x.2.2.2.1, .int .i64 x.2.2.2.2]
  go_enter Try.func98, Try.ntmps98
  go_wp2_with fail
  refine (c_l17Flush _ x.1 _ ⟨_, rfl, mkDisk (x := x.1) b0 (b1.up good_S uu3) (b2.up good_Put uu3)⟩ hnd hp).mono ?_
  rintro e w4 ⟨cs1, bl, rfl, o1, nd1, u4⟩
  have uu4 := uu3.trans u4
  have ka_4 := ka_3.up u4
  have za_4 := ka_4.lt
  have kr_4 := kr_3.up u4
  have zr_4 := kr_4.lt
  have ko_4 := ko_3.up u4
  have zo_4 := ko_4.lt
  obtain ⟨D1, d1, _, D2, d2, _, rfl, _, _⟩ := openODisk o1
  have hlen : (flushS x.1.2.1 x.1.2.2).length = x.1.2.1.length := flushS_len _ _
  dsimp only [List.length_nil] at o1 ⊢
  rw [hlen] at o1
  rw [hlen]
  have o1w := good_Disk.own_wide o1 (lo' := w.heap.size + 1 + 1 + 1) (by simp) (Nat.le_refl _)
  have go4_0 : w4.cell? ⟨w.heap.size + 1 + 1, 0, none⟩ = some (.int .i64 x.1.1) := ko_4.cell 0
  have fo4_0 := ko_4.frozen 0
  have go4_1 : w4.cell? ⟨w.heap.size + 1 + 1, 1, none⟩ = some (.slice A1 x.1.2.1.length c1) := ko_4.cell 1
  have fo4_1 := ko_4.frozen 1
  have go4_2 : w4.cell? ⟨w.heap.size + 1 + 1, 2, none⟩ = some (.slice A2 x.1.2.2.length c2) := ko_4.cell 2
  have fo4_2 := ko_4.frozen 2
  have go4_3 : w4.cell? ⟨w.heap.size + 1 + 1, 3, none⟩ = some (.int .i64 x.2.1) := ko_4.cell 3
  have fo4_3 := ko_4.frozen 3
  have go4_4 : w4.cell? ⟨w.heap.size + 1 + 1, 4, none⟩ = some (.int .i64 x.2.2.1) := ko_4.cell 4
  have fo4_4 := ko_4.frozen 4
  have go4_5 : w4.cell? ⟨w.heap.size + 1 + 1, 5, none⟩ = some (.int .i64 x.2.2.2.1) := ko_4.cell 5
  have fo4_5 := ko_4.frozen 5
  have go4_6 : w4.cell? ⟨w.heap.size + 1 + 1, 6, none⟩ = some (.int .i64 x.2.2.2.2) := ko_4.cell 6
  have fo4_6 := ko_4.frozen 6
  have gr4_0 : w4.cell? ⟨w.heap.size + 1, 0, none⟩ = some (.int .i64 0) := kr_4.cell 0
  have fr4_0 := kr_4.frozen 0
  have gr4_1 : w4.cell? ⟨w.heap.size + 1, 1, none⟩ = some (.slice none 0 0) := kr_4.cell 1
  have fr4_1 := kr_4.frozen 1
  have gr4_2 : w4.cell? ⟨w.heap.size + 1, 2, none⟩ = some (.slice none 0 0) := kr_4.cell 2
  have fr4_2 := kr_4.frozen 2
  have gr4_3 : w4.cell? ⟨w.heap.size + 1, 3, none⟩ = some (.int .i64 0) := kr_4.cell 3
  have fr4_3 := kr_4.frozen 3
  have gr4_4 : w4.cell? ⟨w.heap.size + 1, 4, none⟩ = some (.int .i64 0) := kr_4.cell 4
  have fr4_4 := kr_4.frozen 4
  have gr4_5 : w4.cell? ⟨w.heap.size + 1, 5, none⟩ = some (.int .i64 0) := kr_4.cell 5
  have fr4_5 := kr_4.frozen 5
  have gr4_6 : w4.cell? ⟨w.heap.size + 1, 6, none⟩ = some (.int .i64 0) := kr_4.cell 6
  have fr4_6 := kr_4.frozen 6
  have bt5 : But (w.heap.size + 1 + 1) w4 (((w4.setCell ⟨w.heap.size + 1 + 1, 0, none⟩ (.int .i64 x.1.1)).setCell ⟨w.heap.size + 1 + 1, 1, none⟩ (.slice D1 x.1.2.1.length d1)).setCell ⟨w.heap.size + 1 + 1, 2, none⟩ (.slice D2 0 d2)) := But.sets (g := w.heap.size + 1 + 1) [.int .i64 x.1.1, .slice D1 x.1.2.1.length d1, .slice D2 0 d2] w4 0
  have uu5 : Up w (((w4.setCell ⟨w.heap.size + 1 + 1, 0, none⟩ (.int .i64 x.1.1)).setCell ⟨w.heap.size + 1 + 1, 1, none⟩ (.slice D1 x.1.2.1.length d1)).setCell ⟨w.heap.size + 1 + 1, 2, none⟩ (.slice D2 0 d2)) := uu4.but bt5 (by omega)
  have ka_5 : Bk (((w4.setCell ⟨w.heap.size + 1 + 1, 0, none⟩ (.int .i64 x.1.1)).setCell ⟨w.heap.size + 1 + 1, 1, none⟩ (.slice D1 x.1.2.1.length d1)).setCell ⟨w.heap.size + 1 + 1, 2, none⟩ (.slice D2 0 d2)) (w.heap.size) 63 #[.int .i64 x.1.1, .slice A1 x.1.2.1.length c1, .slice A2 x.1.2.2.length c2, .int .i64 x.2.1, .int .i64 x.2.2.1, .int .i64 x.2.2.2.1, .int .i64 x.2.2.2.2] := ka_4.but bt5 (by omega)
  have kr_5 : Bk (((w4.setCell ⟨w.heap.size + 1 + 1, 0, none⟩ (.int .i64 x.1.1)).setCell ⟨w.heap.size + 1 + 1, 1, none⟩ (.slice D1 x.1.2.1.length d1)).setCell ⟨w.heap.size + 1 + 1, 2, none⟩ (.slice D2 0 d2)) (w.heap.size + 1) 63 #[.int .i64 0, .slice none 0 0, .slice none 0 0, .int .i64 0, .int .i64 0, .int .i64 0, .int .i64 0] := kr_4.but bt5 (by omega)
  have ko_5 : Bk (((w4.setCell ⟨w.heap.size + 1 + 1, 0, none⟩ (.int .i64 x.1.1)).setCell ⟨w.heap.size + 1 + 1, 1, none⟩ (.slice D1 x.1.2.1.length d1)).setCell ⟨w.heap.size + 1 + 1, 2, none⟩ (.slice D2 0 d2)) (w.heap.size + 1 + 1) 63 #[.int .i64 x.1.1, .slice D1 x.1.2.1.length d1, .slice D2 0 d2, .int .i64 x.2.1, .int .i64 x.2.2.1, .int .i64 x.2.2.2.1, .int .i64 x.2.2.2.2] := ko_4.sets [.int .i64 x.1.1, .slice D1 x.1.2.1.length d1, .slice D2 0 d2] 0
  have go5_0 : (((w4.setCell ⟨w.heap.size + 1 + 1, 0, none⟩ (.int .i64 x.1.1)).setCell ⟨w.heap.size + 1 + 1, 1, none⟩ (.slice D1 x.1.2.1.length d1)).setCell ⟨w.heap.size + 1 + 1, 2, none⟩ (.slice D2 0 d2)).cell? ⟨w.heap.size + 1 + 1, 0, none⟩ = some (.int .i64 x.1.1) := ko_5.cell 0
  have fo5_0 := ko_5.frozen 0
  have go5_1 : (((w4.setCell ⟨w.heap.size + 1 + 1, 0, none⟩ (.int .i64 x.1.1)).setCell ⟨w.heap.size + 1 + 1, 1, none⟩ (.slice D1 x.1.2.1.length d1)).setCell ⟨w.heap.size + 1 + 1, 2, none⟩ (.slice D2 0 d2)).cell? ⟨w.heap.size + 1 + 1, 1, none⟩ = some (.slice D1 x.1.2.1.length d1) := ko_5.cell 1
  have fo5_1 := ko_5.frozen 1
  have go5_2 : (((w4.setCell ⟨w.heap.size + 1 + 1, 0, none⟩ (.int .i64 x.1.1)).setCell ⟨w.heap.size + 1 + 1, 1, none⟩ (.slice D1 x.1.2.1.length d1)).setCell ⟨w.heap.size + 1 + 1, 2, none⟩ (.slice D2 0 d2)).cell? ⟨w.heap.size + 1 + 1, 2, none⟩ = some (.slice D2 0 d2) := ko_5.cell 2
  have fo5_2 := ko_5.frozen 2
  have go5_3 : (((w4.setCell ⟨w.heap.size + 1 + 1, 0, none⟩ (.int .i64 x.1.1)).setCell ⟨w.heap.size + 1 + 1, 1, none⟩ (.slice D1 x.1.2.1.length d1)).setCell ⟨w.heap.size + 1 + 1, 2, none⟩ (.slice D2 0 d2)).cell? ⟨w.heap.size + 1 + 1, 3, none⟩ = some (.int .i64 x.2.1) := ko_5.cell 3
  have fo5_3 := ko_5.frozen 3
  have go5_4 : (((w4.setCell ⟨w.heap.size + 1 + 1, 0, none⟩ (.int .i64 x.1.1)).setCell ⟨w.heap.size + 1 + 1, 1, none⟩ (.slice D1 x.1.2.1.length d1)).setCell ⟨w.heap.size + 1 + 1, 2, none⟩ (.slice D2 0 d2)).cell? ⟨w.heap.size + 1 + 1, 4, none⟩ = some (.int .i64 x.2.2.1) := ko_5.cell 4
  have fo5_4 := ko_5.frozen 4
  have go5_5 : (((w4.setCell ⟨w.heap.size + 1 + 1, 0, none⟩ (.int .i64 x.1.1)).setCell ⟨w.heap.size + 1 + 1, 1, none⟩ (.slice D1 x.1.2.1.length d1)).setCell ⟨w.heap.size + 1 + 1, 2, none⟩ (.slice D2 0 d2)).cell? ⟨w.heap.size + 1 + 1, 5, none⟩ = some (.int .i64 x.2.2.2.1) := ko_5.cell 5
  have fo5_5 := ko_5.frozen 5
  have go5_6 : (((w4.setCell ⟨w.heap.size + 1 + 1, 0, none⟩ (.int .i64 x.1.1)).setCell ⟨w.heap.size + 1 + 1, 1, none⟩ (.slice D1 x.1.2.1.length d1)).setCell ⟨w.heap.size + 1 + 1, 2, none⟩ (.slice D2 0 d2)).cell? ⟨w.heap.size + 1 + 1, 6, none⟩ = some (.int .i64 x.2.2.2.2) := ko_5.cell 6
  have fo5_6 := ko_5.frozen 6
  have gr5_0 : (((w4.setCell ⟨w.heap.size + 1 + 1, 0, none⟩ (.int .i64 x.1.1)).setCell ⟨w.heap.size + 1 + 1, 1, none⟩ (.slice D1 x.1.2.1.length d1)).setCell ⟨w.heap.size + 1 + 1, 2, none⟩ (.slice D2 0 d2)).cell? ⟨w.heap.size + 1, 0, none⟩ = some (.int .i64 0) := kr_5.cell 0
  have fr5_0 := kr_5.frozen 0
  have gr5_1 : (((w4.setCell ⟨w.heap.size + 1 + 1, 0, none⟩ (.int .i64 x.1.1)).setCell ⟨w.heap.size + 1 + 1, 1, none⟩ (.slice D1 x.1.2.1.length d1)).setCell ⟨w.heap.size + 1 + 1, 2, none⟩ (.slice D2 0 d2)).cell? ⟨w.heap.size + 1, 1, none⟩ = some (.slice none 0 0) := kr_5.cell 1
  have fr5_1 := kr_5.frozen 1
  have gr5_2 : (((w4.setCell ⟨w.heap.size + 1 + 1, 0, none⟩ (.int .i64 x.1.1)).setCell ⟨w.heap.size + 1 + 1, 1, none⟩ (.slice D1 x.1.2.1.length d1)).setCell ⟨w.heap.size + 1 + 1, 2, none⟩ (.slice D2 0 d2)).cell? ⟨w.heap.size + 1, 2, none⟩ = some (.slice none 0 0) := kr_5.cell 2
  have fr5_2 := kr_5.frozen 2
  have gr5_3 : (((w4.setCell ⟨w.heap.size + 1 + 1, 0, none⟩ (.int .i64 x.1.1)).setCell ⟨w.heap.size + 1 + 1, 1, none⟩ (.slice D1 x.1.2.1.length d1)).setCell ⟨w.heap.size + 1 + 1, 2, none⟩ (.slice D2 0 d2)).cell? ⟨w.heap.size + 1, 3, none⟩ = some (.int .i64 0) := kr_5.cell 3
  have fr5_3 := kr_5.frozen 3
  have gr5_4 : (((w4.setCell ⟨w.heap.size + 1 + 1, 0, none⟩ (.int .i64 x.1.1)).setCell ⟨w.heap.size + 1 + 1, 1, none⟩ (.slice D1 x.1.2.1.length d1)).setCell ⟨w.heap.size + 1 + 1, 2, none⟩ (.slice D2 0 d2)).cell? ⟨w.heap.size + 1, 4, none⟩ = some (.int .i64 0) := kr_5.cell 4
  have fr5_4 := kr_5.frozen 4
  have gr5_5 : (((w4.setCell ⟨w.heap.size + 1 + 1, 0, none⟩ (.int .i64 x.1.1)).setCell ⟨w.heap.size + 1 + 1, 1, none⟩ (.slice D1 x.1.2.1.length d1)).setCell ⟨w.heap.size + 1 + 1, 2, none⟩ (.slice D2 0 d2)).cell? ⟨w.heap.size + 1, 5, none⟩ = some (.int .i64 0) := kr_5.cell 5
  have fr5_5 := kr_5.frozen 5
  have gr5_6 : (((w4.setCell ⟨w.heap.size + 1 + 1, 0, none⟩ (.int .i64 x.1.1)).setCell ⟨w.heap.size + 1 + 1, 1, none⟩ (.slice D1 x.1.2.1.length d1)).setCell ⟨w.heap.size + 1 + 1, 2, none⟩ (.slice D2 0 d2)).cell? ⟨w.heap.size + 1, 6, none⟩ = some (.int .i64 0) := kr_5.cell 6
  have fr5_6 := kr_5.frozen 6
  go_wp2_with fail
  have q1 : shJournal.own (((w4.setCell ⟨w.heap.size + 1 + 1, 0, none⟩ (.int .i64 x.1.1)).setCell ⟨w.heap.size + 1 + 1, 1, none⟩ (.slice D1 x.1.2.1.length d1)).setCell ⟨w.heap.size + 1 + 1, 2, none⟩ (.slice D2 0 d2)) (w.heap.size + 1 + 1 + 1) (((w4.setCell ⟨w.heap.size + 1 + 1, 0, none⟩ (.int .i64 x.1.1)).setCell ⟨w.heap.size + 1 + 1, 1, none⟩ (.slice D1 x.1.2.1.length d1)).setCell ⟨w.heap.size + 1 + 1, 2, none⟩ (.slice D2 0 d2)).heap.size [.int .i64 x.1.1, .slice D1 x.1.2.1.length d1, .slice D2 0 d2, .int .i64 x.2.1, .int .i64 x.2.2.1, .int .i64 x.2.2.2.1, .int .i64 x.2.2.2.2] ((x.1.1, flushS x.1.2.1 x.1.2.2, []), x.2) bl := ownJ (own_set good_Disk o1w (w.heap.size + 1 + 1) 0 [.int .i64 x.1.1, .slice D1 x.1.2.1.length d1, .slice D2 0 d2] (by omega)) b3 b4 b5 b6
  refine bodyPost_ret (v := .agg #[.int .i64 x.1.1, .slice D1 x.1.2.1.length d1, .slice D2 0 d2, .int .i64 x.2.1, .int .i64 x.2.2.1, .int .i64 x.2.2.2.1, .int .i64 x.2.2.2.2]) (by simp [results, Try.results98, go_sem, gr5_0, gr5_1, gr5_2, gr5_3, gr5_4, gr5_5, gr5_6]) rfl ?_
  exact ⟨[.int .i64 x.1.1, .slice D1 x.1.2.1.length d1, .slice D2 0 d2, .int .i64 x.2.1, .int .i64 x.2.2.1, .int .i64 x.2.2.2.1, .int .i64 x.2.2.2.2], bl, rfl, good_Journal.own_wide (own_set good_Journal q1 (w.heap.size + 1) 0 [.int .i64 x.1.1, .slice D1 x.1.2.1.length d1, .slice D2 0 d2, .int .i64 x.2.1, .int .i64 x.2.2.1, .int .i64 x.2.2.2.1, .int .i64 x.2.2.2.2] (by omega)) (by omega) (Nat.le_refl _), nd1, uu5.sets (g := w.heap.size + 1) (by omega) 0 [.int .i64 x.1.1, .slice D1 x.1.2.1.length d1, .slice D2 0 d2, .int .i64 x.2.1, .int .i64 x.2.2.1, .int .i64 x.2.2.2.1, .int .i64 x.2.2.2.2]⟩

set_option maxRecDepth 100000 in
set_option maxHeartbeats 4000000 in
theorem c_l19Own (v : Value) (x : TJournal) (w : World) (h : AV shJournal w v x) (hn : shJournal.sz x ≤ 1048576) : Calls Try.prog 102 #[v] w (ToV shJournal (x.1, x.2) w) := by
  have hv := h
  obtain ⟨cs, rfl, h⟩ := h
  obtain ⟨A1, c1, A2, c2, rfl, b0, b1, b2, b3, b4, b5, b6⟩ := openJournal h
  clear h
  have hnd := journal_sz hn
  have ua1 : Up w (w.alloc (.cells #[.int .i64 x.1.1, .slice A1 x.1.2.1.length c1, .slice A2 x.1.2.2.length c2, .int .i64 x.2.1, .int .i64 x.2.2.1, .int .i64 x.2.2.2.1, .int .i64 x.2.2.2.2] 63)) := (Up.refl _).alloc _
  have uu1 := (Up.refl w).trans ua1
  have ka_1 : Bk (w.alloc (.cells #[.int .i64 x.1.1, .slice A1 x.1.2.1.length c1, .slice A2 x.1.2.2.length c2, .int .i64 x.2.1, .int .i64 x.2.2.1, .int .i64 x.2.2.2.1, .int .i64 x.2.2.2.2] 63)) (w.heap.size) 63 #[.int .i64 x.1.1, .slice A1 x.1.2.1.length c1, .slice A2 x.1.2.2.length c2, .int .i64 x.2.1, .int .i64 x.2.2.1, .int .i64 x.2.2.2.1, .int .i64 x.2.2.2.2] := by simpa using Bk.new w 63 #[.int .i64 x.1.1, .slice A1 x.1.2.1.length c1, .slice A2 x.1.2.2.length c2, .int .i64 x.2.1, .int .i64 x.2.2.1, .int .i64 x.2.2.2.1, .int .i64 x.2.2.2.2]
  have ua2 : Up (w.alloc (.cells #[.int .i64 x.1.1, .slice A1 x.1.2.1.length c1, .slice A2 x.1.2.2.length c2, .int .i64 x.2.1, .int .i64 x.2.2.1, .int .i64 x.2.2.2.1, .int .i64 x.2.2.2.2] 63)) ((w.alloc (.cells #[.int .i64 x.1.1, .slice A1 x.1.2.1.length c1, .slice A2 x.1.2.2.length c2, .int .i64 x.2.1, .int .i64 x.2.2.1, .int .i64 x.2.2.2.1, .int .i64 x.2.2.2.2] 63)).alloc (.cells #[.int .i64 0, .slice none 0 0, .slice none 0 0, .int .i64 0, .int .i64 0, .int .i64 0, .int .i64 0] 63)) := (Up.refl _).alloc _
  have uu2 := uu1.trans ua2
  have ka_2 := ka_1.up ua2
  have kr_2 : Bk ((w.alloc (.cells #[.int .i64 x.1.1, .slice A1 x.1.2.1.length c1, .slice A2 x.1.2.2.length c2, .int .i64 x.2.1, .int .i64 x.2.2.1, .int .i64 x.2.2.2.1, .int .i64 x.2.2.2.2] 63)).alloc (.cells #[.int .i64 0, .slice none 0 0, .slice none 0 0, .int .i64 0, .int .i64 0, .int .i64 0, .int .i64 0] 63)) (w.heap.size + 1) 63 #[.int .i64 0, .slice none 0 0, .slice none 0 0, .int .i64 0, .int .i64 0, .int .i64 0, .int .i64 0] := by simpa using Bk.new (w.alloc (.cells #[.int .i64 x.1.1, .slice A1 x.1.2.1.length c1, .slice A2 x.1.2.2.length c2, .int .i64 x.2.1, .int .i64 x.2.2.1, .int .i64 x.2.2.2.1, .int .i64 x.2.2.2.2] 63)) 63 #[.int .i64 0, .slice none 0 0, .slice none 0 0, .int .i64 0, .int .i64 0, .int .i64 0, .int .i64 0]
  have ua3 : Up ((w.alloc (.cells #[.int .i64 x.1.1, .slice A1 x.1.2.1.length c1, .slice A2 x.1.2.2.length c2, .int .i64 x.2.1, .int .i64 x.2.2.1, .int .i64 x.2.2.2.1, .int .i64 x.2.2.2.2] 63)).alloc (.cells #[.int .i64 0, .slice none 0 0, .slice none 0 0, .int .i64 0, .int .i64 0, .int .i64 0, .int .i64 0] 63)) (((w.alloc (.cells #[.int .i64 x.1.1, .slice A1 x.1.2.1.length c1, .slice A2 x.1.2.2.length c2, .int .i64 x.2.1, .int .i64 x.2.2.1, .int .i64 x.2.2.2.1, .int .i64 x.2.2.2.2] 63)).alloc (.cells #[.int .i64 0, .slice none 0 0, .slice none 0 0, .int .i64 0, .int .i64 0, .int .i64 0, .int .i64 0] 63)).alloc (.cells #[.int .i64 x.1.1, .slice A1 x.1.2.1.length c1, .slice A2 x.1.2.2.length c2, .int .i64 x.2.1, .int .i64 x.2.2.1, .int .i64 x.2.2.2.1, .int .i64 x.2.2.2.2] 63)) := (Up.refl _).alloc _
  have uu3 := uu2.trans ua3
  have ka_3 := ka_2.up ua3
  have kr_3 := kr_2.up ua3
  have ko_3 : Bk (((w.alloc (.cells #[.int .i64 x.1.1, .slice A1 x.1.2.1.length c1, .slice A2 x.1.2.2.length c2, .int .i64 x.2.1, .int .i64 x.2.2.1, .int .i64 x.2.2.2.1, .int .i64 x.2.2.2.2] 63)).alloc (.cells #[.int .i64 0, .slice none 0 0, .slice none 0 0, .int .i64 0, .int .i64 0, .int .i64 0, .int .i64 0] 63)).alloc (.cells #[.int .i64 x.1.1, .slice A1 x.1.2.1.length c1, .slice A2 x.1.2.2.length c2, .int .i64 x.2.1, .int .i64 x.2.2.1, .int .i64 x.2.2.2.1, .int .i64 x.2.2.2.2] 63)) (w.heap.size + 1 + 1) 63 #[.int .i64 x.1.1, .slice A1 x.1.2.1.length c1, .slice A2 x.1.2.2.length c2, .int .i64 x.2.1, .int .i64 x.2.2.1, .int .i64 x.2.2.2.1, .int .i64 x.2.2.2.2] := by simpa using Bk.new ((w.alloc (.cells #[.int .i64 x.1.1, .slice A1 x.1.2.1.length c1, .slice A2 x.1.2.2.length c2, .int .i64 x.2.1, .int .i64 x.2.2.1, .int .i64 x.2.2.2.1, .int .i64 x.2.2.2.2] 63)).alloc (.cells #[.int .i64 0, .slice none 0 0, .slice none 0 0, .int .i64 0, .int .i64 0, .int .i64 0, .int .i64 0] 63)) 63 #[.int .i64 x.1.1, .slice A1 x.1.2.1.length c1, .slice A2 x.1.2.2.length c2, .int .i64 x.2.1, .int .i64 x.2.2.1, .int .i64 x.2.2.2.1, .int .i64 x.2.2.2.2]
  go_enter Try.func102, Try.ntmps102
  go_wp2_with fail
  refine (c_l17Own _ x.1 _ ⟨_, rfl, mkDisk (x := x.1) b0 (b1.up good_S uu3) (b2.up good_Put uu3)⟩ hnd).mono ?_
  rintro e w4 ⟨cs1, bl, rfl, o1, nd1, u4⟩
  have uu4 := uu3.trans u4
  have ka_4 := ka_3.up u4
  have za_4 := ka_4.lt
  have kr_4 := kr_3.up u4
  have zr_4 := kr_4.lt
  have ko_4 := ko_3.up u4
  have zo_4 := ko_4.lt
  obtain ⟨D1, d1, _, D2, d2, _, rfl, _, _⟩ := openODisk o1
  have o1w := good_Disk.own_wide o1 (lo' := w.heap.size + 1 + 1 + 1) (by simp) (Nat.le_refl _)
  have go4_0 : w4.cell? ⟨w.heap.size + 1 + 1, 0, none⟩ = some (.int .i64 x.1.1) := ko_4.cell 0
  have fo4_0 := ko_4.frozen 0
  have go4_1 : w4.cell? ⟨w.heap.size + 1 + 1, 1, none⟩ = some (.slice A1 x.1.2.1.length c1) := ko_4.cell 1
  have fo4_1 := ko_4.frozen 1
  have go4_2 : w4.cell? ⟨w.heap.size + 1 + 1, 2, none⟩ = some (.slice A2 x.1.2.2.length c2) := ko_4.cell 2
  have fo4_2 := ko_4.frozen 2
  have go4_3 : w4.cell? ⟨w.heap.size + 1 + 1, 3, none⟩ = some (.int .i64 x.2.1) := ko_4.cell 3
  have fo4_3 := ko_4.frozen 3
  have go4_4 : w4.cell? ⟨w.heap.size + 1 + 1, 4, none⟩ = some (.int .i64 x.2.2.1) := ko_4.cell 4
  have fo4_4 := ko_4.frozen 4
  have go4_5 : w4.cell? ⟨w.heap.size + 1 + 1, 5, none⟩ = some (.int .i64 x.2.2.2.1) := ko_4.cell 5
  have fo4_5 := ko_4.frozen 5
  have go4_6 : w4.cell? ⟨w.heap.size + 1 + 1, 6, none⟩ = some (.int .i64 x.2.2.2.2) := ko_4.cell 6
  have fo4_6 := ko_4.frozen 6
  have gr4_0 : w4.cell? ⟨w.heap.size + 1, 0, none⟩ = some (.int .i64 0) := kr_4.cell 0
  have fr4_0 := kr_4.frozen 0
  have gr4_1 : w4.cell? ⟨w.heap.size + 1, 1, none⟩ = some (.slice none 0 0) := kr_4.cell 1
  have fr4_1 := kr_4.frozen 1
  have gr4_2 : w4.cell? ⟨w.heap.size + 1, 2, none⟩ = some (.slice none 0 0) := kr_4.cell 2
  have fr4_2 := kr_4.frozen 2
  have gr4_3 : w4.cell? ⟨w.heap.size + 1, 3, none⟩ = some (.int .i64 0) := kr_4.cell 3
  have fr4_3 := kr_4.frozen 3
  have gr4_4 : w4.cell? ⟨w.heap.size + 1, 4, none⟩ = some (.int .i64 0) := kr_4.cell 4
  have fr4_4 := kr_4.frozen 4
  have gr4_5 : w4.cell? ⟨w.heap.size + 1, 5, none⟩ = some (.int .i64 0) := kr_4.cell 5
  have fr4_5 := kr_4.frozen 5
  have gr4_6 : w4.cell? ⟨w.heap.size + 1, 6, none⟩ = some (.int .i64 0) := kr_4.cell 6
  have fr4_6 := kr_4.frozen 6
  have bt5 : But (w.heap.size + 1 + 1) w4 (((w4.setCell ⟨w.heap.size + 1 + 1, 0, none⟩ (.int .i64 x.1.1)).setCell ⟨w.heap.size + 1 + 1, 1, none⟩ (.slice D1 x.1.2.1.length d1)).setCell ⟨w.heap.size + 1 + 1, 2, none⟩ (.slice D2 x.1.2.2.length d2)) := But.sets (g := w.heap.size + 1 + 1) [.int .i64 x.1.1, .slice D1 x.1.2.1.length d1, .slice D2 x.1.2.2.length d2] w4 0
  have uu5 : Up w (((w4.setCell ⟨w.heap.size + 1 + 1, 0, none⟩ (.int .i64 x.1.1)).setCell ⟨w.heap.size + 1 + 1, 1, none⟩ (.slice D1 x.1.2.1.length d1)).setCell ⟨w.heap.size + 1 + 1, 2, none⟩ (.slice D2 x.1.2.2.length d2)) := uu4.but bt5 (by omega)
  have ka_5 : Bk (((w4.setCell ⟨w.heap.size + 1 + 1, 0, none⟩ (.int .i64 x.1.1)).setCell ⟨w.heap.size + 1 + 1, 1, none⟩ (.slice D1 x.1.2.1.length d1)).setCell ⟨w.heap.size + 1 + 1, 2, none⟩ (.slice D2 x.1.2.2.length d2)) (w.heap.size) 63 #[.int .i64 x.1.1, .slice A1 x.1.2.1.length c1, .slice A2 x.1.2.2.length c2, .int .i64 x.2.1, .int .i64 x.2.2.1, .int .i64 x.2.2.2.1, .int .i64 x.2.2.2.2] := ka_4.but bt5 (by omega)
  have kr_5 : Bk (((w4.setCell ⟨w.heap.size + 1 + 1, 0, none⟩ (.int .i64 x.1.1)).setCell ⟨w.heap.size + 1 + 1, 1, none⟩ (.slice D1 x.1.2.1.length d1)).setCell ⟨w.heap.size + 1 + 1, 2, none⟩ (.slice D2 x.1.2.2.length d2)) (w.heap.size + 1) 63 #[.int .i64 0, .slice none 0 0, .slice none 0 0, .int .i64 0, .int .i64 0, .int .i64 0, .int .i64 0] := kr_4.but bt5 (by omega)
  have ko_5 : Bk (((w4.setCell ⟨w.heap.size + 1 + 1, 0, none⟩ (.int .i64 x.1.1)).setCell ⟨w.heap.size + 1 + 1, 1, none⟩ (.slice D1 x.1.2.1.length d1)).setCell ⟨w.heap.size + 1 + 1, 2, none⟩ (.slice D2 x.1.2.2.length d2)) (w.heap.size + 1 + 1) 63 #[.int .i64 x.1.1, .slice D1 x.1.2.1.length d1, .slice D2 x.1.2.2.length d2, .int .i64 x.2.1, .int .i64 x.2.2.1, .int .i64 x.2.2.2.1, .int .i64 x.2.2.2.2] := ko_4.sets [.int .i64 x.1.1, .slice D1 x.1.2.1.length d1, .slice D2 x.1.2.2.length d2] 0
  have go5_0 : (((w4.setCell ⟨w.heap.size + 1 + 1, 0, none⟩ (.int .i64 x.1.1)).setCell ⟨w.heap.size + 1 + 1, 1, none⟩ (.slice D1 x.1.2.1.length d1)).setCell ⟨w.heap.size + 1 + 1, 2, none⟩ (.slice D2 x.1.2.2.length d2)).cell? ⟨w.heap.size + 1 + 1, 0, none⟩ = some (.int .i64 x.1.1) := ko_5.cell 0
  have fo5_0 := ko_5.frozen 0
  have go5_1 : (((w4.setCell ⟨w.heap.size + 1 + 1, 0, none⟩ (.int .i64 x.1.1)).setCell ⟨w.heap.size + 1 + 1, 1, none⟩ (.slice D1 x.1.2.1.length d1)).setCell ⟨w.heap.size + 1 + 1, 2, none⟩ (.slice D2 x.1.2.2.length d2)).cell? ⟨w.heap.size + 1 + 1, 1, none⟩ = some (.slice D1 x.1.2.1.length d1) := ko_5.cell 1
  have fo5_1 := ko_5.frozen 1
  have go5_2 : (((w4.setCell ⟨w.heap.size + 1 + 1, 0, none⟩ (.int .i64 x.1.1)).setCell ⟨w.heap.size + 1 + 1, 1, none⟩ (.slice D1 x.1.2.1.length d1)).setCell ⟨w.heap.size + 1 + 1, 2, none⟩ (.slice D2 x.1.2.2.length d2)).cell? ⟨w.heap.size + 1 + 1, 2, none⟩ = some (.slice D2 x.1.2.2.length d2) := ko_5.cell 2
  have fo5_2 := ko_5.frozen 2
  have go5_3 : (((w4.setCell ⟨w.heap.size + 1 + 1, 0, none⟩ (.int .i64 x.1.1)).setCell ⟨w.heap.size + 1 + 1, 1, none⟩ (.slice D1 x.1.2.1.length d1)).setCell ⟨w.heap.size + 1 + 1, 2, none⟩ (.slice D2 x.1.2.2.length d2)).cell? ⟨w.heap.size + 1 + 1, 3, none⟩ = some (.int .i64 x.2.1) := ko_5.cell 3
  have fo5_3 := ko_5.frozen 3
  have go5_4 : (((w4.setCell ⟨w.heap.size + 1 + 1, 0, none⟩ (.int .i64 x.1.1)).setCell ⟨w.heap.size + 1 + 1, 1, none⟩ (.slice D1 x.1.2.1.length d1)).setCell ⟨w.heap.size + 1 + 1, 2, none⟩ (.slice D2 x.1.2.2.length d2)).cell? ⟨w.heap.size + 1 + 1, 4, none⟩ = some (.int .i64 x.2.2.1) := ko_5.cell 4
  have fo5_4 := ko_5.frozen 4
  have go5_5 : (((w4.setCell ⟨w.heap.size + 1 + 1, 0, none⟩ (.int .i64 x.1.1)).setCell ⟨w.heap.size + 1 + 1, 1, none⟩ (.slice D1 x.1.2.1.length d1)).setCell ⟨w.heap.size + 1 + 1, 2, none⟩ (.slice D2 x.1.2.2.length d2)).cell? ⟨w.heap.size + 1 + 1, 5, none⟩ = some (.int .i64 x.2.2.2.1) := ko_5.cell 5
  have fo5_5 := ko_5.frozen 5
  have go5_6 : (((w4.setCell ⟨w.heap.size + 1 + 1, 0, none⟩ (.int .i64 x.1.1)).setCell ⟨w.heap.size + 1 + 1, 1, none⟩ (.slice D1 x.1.2.1.length d1)).setCell ⟨w.heap.size + 1 + 1, 2, none⟩ (.slice D2 x.1.2.2.length d2)).cell? ⟨w.heap.size + 1 + 1, 6, none⟩ = some (.int .i64 x.2.2.2.2) := ko_5.cell 6
  have fo5_6 := ko_5.frozen 6
  have gr5_0 : (((w4.setCell ⟨w.heap.size + 1 + 1, 0, none⟩ (.int .i64 x.1.1)).setCell ⟨w.heap.size + 1 + 1, 1, none⟩ (.slice D1 x.1.2.1.length d1)).setCell ⟨w.heap.size + 1 + 1, 2, none⟩ (.slice D2 x.1.2.2.length d2)).cell? ⟨w.heap.size + 1, 0, none⟩ = some (.int .i64 0) := kr_5.cell 0
  have fr5_0 := kr_5.frozen 0
  have gr5_1 : (((w4.setCell ⟨w.heap.size + 1 + 1, 0, none⟩ (.int .i64 x.1.1)).setCell ⟨w.heap.size + 1 + 1, 1, none⟩ (.slice D1 x.1.2.1.length d1)).setCell ⟨w.heap.size + 1 + 1, 2, none⟩ (.slice D2 x.1.2.2.length d2)).cell? ⟨w.heap.size + 1, 1, none⟩ = some (.slice none 0 0) := kr_5.cell 1
  have fr5_1 := kr_5.frozen 1
  have gr5_2 : (((w4.setCell ⟨w.heap.size + 1 + 1, 0, none⟩ (.int .i64 x.1.1)).setCell ⟨w.heap.size + 1 + 1, 1, none⟩ (.slice D1 x.1.2.1.length d1)).setCell ⟨w.heap.size + 1 + 1, 2, none⟩ (.slice D2 x.1.2.2.length d2)).cell? ⟨w.heap.size + 1, 2, none⟩ = some (.slice none 0 0) := kr_5.cell 2
  have fr5_2 := kr_5.frozen 2
  have gr5_3 : (((w4.setCell ⟨w.heap.size + 1 + 1, 0, none⟩ (.int .i64 x.1.1)).setCell ⟨w.heap.size + 1 + 1, 1, none⟩ (.slice D1 x.1.2.1.length d1)).setCell ⟨w.heap.size + 1 + 1, 2, none⟩ (.slice D2 x.1.2.2.length d2)).cell? ⟨w.heap.size + 1, 3, none⟩ = some (.int .i64 0) := kr_5.cell 3
  have fr5_3 := kr_5.frozen 3
  have gr5_4 : (((w4.setCell ⟨w.heap.size + 1 + 1, 0, none⟩ (.int .i64 x.1.1)).setCell ⟨w.heap.size + 1 + 1, 1, none⟩ (.slice D1 x.1.2.1.length d1)).setCell ⟨w.heap.size + 1 + 1, 2, none⟩ (.slice D2 x.1.2.2.length d2)).cell? ⟨w.heap.size + 1, 4, none⟩ = some (.int .i64 0) := kr_5.cell 4
  have fr5_4 := kr_5.frozen 4
  have gr5_5 : (((w4.setCell ⟨w.heap.size + 1 + 1, 0, none⟩ (.int .i64 x.1.1)).setCell ⟨w.heap.size + 1 + 1, 1, none⟩ (.slice D1 x.1.2.1.length d1)).setCell ⟨w.heap.size + 1 + 1, 2, none⟩ (.slice D2 x.1.2.2.length d2)).cell? ⟨w.heap.size + 1, 5, none⟩ = some (.int .i64 0) := kr_5.cell 5
  have fr5_5 := kr_5.frozen 5
  have gr5_6 : (((w4.setCell ⟨w.heap.size + 1 + 1, 0, none⟩ (.int .i64 x.1.1)).setCell ⟨w.heap.size + 1 + 1, 1, none⟩ (.slice D1 x.1.2.1.length d1)).setCell ⟨w.heap.size + 1 + 1, 2, none⟩ (.slice D2 x.1.2.2.length d2)).cell? ⟨w.heap.size + 1, 6, none⟩ = some (.int .i64 0) := kr_5.cell 6
  have fr5_6 := kr_5.frozen 6
  go_wp2_with fail
  have q1 : shJournal.own (((w4.setCell ⟨w.heap.size + 1 + 1, 0, none⟩ (.int .i64 x.1.1)).setCell ⟨w.heap.size + 1 + 1, 1, none⟩ (.slice D1 x.1.2.1.length d1)).setCell ⟨w.heap.size + 1 + 1, 2, none⟩ (.slice D2 x.1.2.2.length d2)) (w.heap.size + 1 + 1 + 1) (((w4.setCell ⟨w.heap.size + 1 + 1, 0, none⟩ (.int .i64 x.1.1)).setCell ⟨w.heap.size + 1 + 1, 1, none⟩ (.slice D1 x.1.2.1.length d1)).setCell ⟨w.heap.size + 1 + 1, 2, none⟩ (.slice D2 x.1.2.2.length d2)).heap.size [.int .i64 x.1.1, .slice D1 x.1.2.1.length d1, .slice D2 x.1.2.2.length d2, .int .i64 x.2.1, .int .i64 x.2.2.1, .int .i64 x.2.2.2.1, .int .i64 x.2.2.2.2] (x.1, x.2) bl := ownJ (own_set good_Disk o1w (w.heap.size + 1 + 1) 0 [.int .i64 x.1.1, .slice D1 x.1.2.1.length d1, .slice D2 x.1.2.2.length d2] (by omega)) b3 b4 b5 b6
  refine bodyPost_ret (v := .agg #[.int .i64 x.1.1, .slice D1 x.1.2.1.length d1, .slice D2 x.1.2.2.length d2, .int .i64 x.2.1, .int .i64 x.2.2.1, .int .i64 x.2.2.2.1, .int .i64 x.2.2.2.2]) (by simp [results, Try.results102, go_sem, gr5_0, gr5_1, gr5_2, gr5_3, gr5_4, gr5_5, gr5_6]) rfl ?_
  exact ⟨[.int .i64 x.1.1, .slice D1 x.1.2.1.length d1, .slice D2 x.1.2.2.length d2, .int .i64 x.2.1, .int .i64 x.2.2.1, .int .i64 x.2.2.2.1, .int .i64 x.2.2.2.2], bl, rfl, good_Journal.own_wide (own_set good_Journal q1 (w.heap.size + 1) 0 [.int .i64 x.1.1, .slice D1 x.1.2.1.length d1, .slice D2 x.1.2.2.length d2, .int .i64 x.2.1, .int .i64 x.2.2.1, .int .i64 x.2.2.2.1, .int .i64 x.2.2.2.2] (by omega)) (by omega) (Nat.le_refl _), nd1, uu5.sets (g := w.heap.size + 1) (by omega) 0 [.int .i64 x.1.1, .slice D1 x.1.2.1.length d1, .slice D2 x.1.2.2.length d2, .int .i64 x.2.1, .int .i64 x.2.2.1, .int .i64 x.2.2.2.1, .int .i64 x.2.2.2.2]⟩

set_option maxRecDepth 100000 in
set_option maxHeartbeats 4000000 in
theorem c_copyJournal (v : Value) (x : TJournal) (w : World) (h : AV shJournal w v x) (hn : shJournal.sz x ≤ 1048576) : Calls Try.prog 100 #[v] w fun e w' => e = .returned (.pointer (some ⟨w.heap.size, 0, none⟩)) ∧
    ∃ D1 d1 bl1 D2 d2 bl2, Bk w' w.heap.size 63 #[.int .i64 x.1.1, .slice D1 x.1.2.1.length d1, .slice D2 x.1.2.2.length d2, .int .i64 x.2.1, .int .i64 x.2.2.1, .int .i64 x.2.2.2.1, .int .i64 x.2.2.2.2] ∧ SO shS w' (w.heap.size + 1) w'.heap.size D1 d1 x.1.2.1 bl1 ∧ SO shPut w' (w.heap.size + 1) w'.heap.size D2 d2 x.1.2.2 bl2 ∧ (bl1 ++ bl2).Nodup ∧ Up w w' := by
  have hv := h
  obtain ⟨cs, rfl, h⟩ := h
  obtain ⟨A1, c1, A2, c2, rfl, b0, b1, b2, b3, b4, b5, b6⟩ := openJournal h
  clear h
  have hnd := journal_sz hn
  have ua1 : Up w (w.alloc (.cells #[.int .i64 x.1.1, .slice A1 x.1.2.1.length c1, .slice A2 x.1.2.2.length c2, .int .i64 x.2.1, .int .i64 x.2.2.1, .int .i64 x.2.2.2.1, .int .i64 x.2.2.2.2] 63)) := (Up.refl _).alloc _
  have uu1 := (Up.refl w).trans ua1
  have ka_1 : Bk (w.alloc (.cells #[.int .i64 x.1.1, .slice A1 x.1.2.1.length c1, .slice A2 x.1.2.2.length c2, .int .i64 x.2.1, .int .i64 x.2.2.1, .int .i64 x.2.2.2.1, .int .i64 x.2.2.2.2] 63)) (w.heap.size) 63 #[.int .i64 x.1.1, .slice A1 x.1.2.1.length c1, .slice A2 x.1.2.2.length c2, .int .i64 x.2.1, .int .i64 x.2.2.1, .int .i64 x.2.2.2.1, .int .i64 x.2.2.2.2] := by simpa using Bk.new w 63 #[.int .i64 x.1.1, .slice A1 x.1.2.1.length c1, .slice A2 x.1.2.2.length c2, .int .i64 x.2.1, .int .i64 x.2.2.1, .int .i64 x.2.2.2.1, .int .i64 x.2.2.2.2]
  go_enter Try.func100, Try.ntmps100
  go_wp2_with fail
  refine (c_copyDisk _ x.1 _ ⟨_, rfl, mkDisk (x := x.1) b0 (b1.up good_S uu1) (b2.up good_Put uu1)⟩ hnd).mono ?_
  rintro e w2 ⟨cs1, bl, rfl, o1, nd1, u2⟩
  have uu2 := uu1.trans u2
  have ka_2 := ka_1.up u2
  have za_2 := ka_2.lt
  obtain ⟨D1, d1, bl1, D2, d2, bl2, rfl, rfl, _, s1, s2⟩ := openODisk o1
  have ga2_0 : w2.cell? ⟨w.heap.size, 0, none⟩ = some (.int .i64 x.1.1) := ka_2.cell 0
  have fa2_0 := ka_2.frozen 0
  have ga2_1 : w2.cell? ⟨w.heap.size, 1, none⟩ = some (.slice A1 x.1.2.1.length c1) := ka_2.cell 1
  have fa2_1 := ka_2.frozen 1
  have ga2_2 : w2.cell? ⟨w.heap.size, 2, none⟩ = some (.slice A2 x.1.2.2.length c2) := ka_2.cell 2
  have fa2_2 := ka_2.frozen 2
  have ga2_3 : w2.cell? ⟨w.heap.size, 3, none⟩ = some (.int .i64 x.2.1) := ka_2.cell 3
  have fa2_3 := ka_2.frozen 3
  have ga2_4 : w2.cell? ⟨w.heap.size, 4, none⟩ = some (.int .i64 x.2.2.1) := ka_2.cell 4
  have fa2_4 := ka_2.frozen 4
  have ga2_5 : w2.cell? ⟨w.heap.size, 5, none⟩ = some (.int .i64 x.2.2.2.1) := ka_2.cell 5
  have fa2_5 := ka_2.frozen 5
  have ga2_6 : w2.cell? ⟨w.heap.size, 6, none⟩ = some (.int .i64 x.2.2.2.2) := ka_2.cell 6
  have fa2_6 := ka_2.frozen 6
  go_wp2_with fail
  have bt3 : But (w.heap.size) w2 (((w2.setCell ⟨w.heap.size, 0, none⟩ (.int .i64 x.1.1)).setCell ⟨w.heap.size, 1, none⟩ (.slice D1 x.1.2.1.length d1)).setCell ⟨w.heap.size, 2, none⟩ (.slice D2 x.1.2.2.length d2)) := But.sets (g := w.heap.size) [.int .i64 x.1.1, .slice D1 x.1.2.1.length d1, .slice D2 x.1.2.2.length d2] w2 0
  have uu3 : Up w (((w2.setCell ⟨w.heap.size, 0, none⟩ (.int .i64 x.1.1)).setCell ⟨w.heap.size, 1, none⟩ (.slice D1 x.1.2.1.length d1)).setCell ⟨w.heap.size, 2, none⟩ (.slice D2 x.1.2.2.length d2)) := uu2.but bt3 (by omega)
  have ka_3 : Bk (((w2.setCell ⟨w.heap.size, 0, none⟩ (.int .i64 x.1.1)).setCell ⟨w.heap.size, 1, none⟩ (.slice D1 x.1.2.1.length d1)).setCell ⟨w.heap.size, 2, none⟩ (.slice D2 x.1.2.2.length d2)) (w.heap.size) 63 #[.int .i64 x.1.1, .slice D1 x.1.2.1.length d1, .slice D2 x.1.2.2.length d2, .int .i64 x.2.1, .int .i64 x.2.2.1, .int .i64 x.2.2.2.1, .int .i64 x.2.2.2.2] := ka_2.sets [.int .i64 x.1.1, .slice D1 x.1.2.1.length d1, .slice D2 x.1.2.2.length d2] 0
  go_ret
  have s1w := s1.wide good_S (lo' := w.heap.size + 1) (by simp) (Nat.le_refl _)
  have s2w := s2.wide good_Put (lo' := w.heap.size + 1) (by simp) (Nat.le_refl _)
  exact ⟨rfl, D1, d1, bl1, D2, d2, bl2, ka_3, s1w.set good_S w.heap.size 0 [.int .i64 x.1.1, .slice D1 x.1.2.1.length d1, .slice D2 x.1.2.2.length d2] (by omega), s2w.set good_Put w.heap.size 0 [.int .i64 x.1.1, .slice D1 x.1.2.1.length d1, .slice D2 x.1.2.2.length d2] (by omega), nd1, uu3⟩

set_option maxRecDepth 100000 in
set_option maxHeartbeats 4000000 in
theorem cs0_FlushJournal (v : Value) (x : TJournal) (w : World) (h : AV shJournal w v x) (hn : shJournal.sz x ≤ 1048576) : Calls Try.prog 38 #[v] w (ToV shJournal (journalFlush x) w) := by
  have hv := h
  obtain ⟨cs, rfl, h⟩ := h
  obtain ⟨A1, c1, A2, c2, rfl, b0, b1, b2, b3, b4, b5, b6⟩ := openJournal h
  clear h
  have hnd := journal_sz hn
  have ua1 : Up w (w.alloc (.cells #[.int .i64 x.1.1, .slice A1 x.1.2.1.length c1, .slice A2 x.1.2.2.length c2, .int .i64 x.2.1, .int .i64 x.2.2.1, .int .i64 x.2.2.2.1, .int .i64 x.2.2.2.2] 63)) := (Up.refl _).alloc _
  have uu1 := (Up.refl w).trans ua1
  have ka_1 : Bk (w.alloc (.cells #[.int .i64 x.1.1, .slice A1 x.1.2.1.length c1, .slice A2 x.1.2.2.length c2, .int .i64 x.2.1, .int .i64 x.2.2.1, .int .i64 x.2.2.2.1, .int .i64 x.2.2.2.2] 63)) (w.heap.size) 63 #[.int .i64 x.1.1, .slice A1 x.1.2.1.length c1, .slice A2 x.1.2.2.length c2, .int .i64 x.2.1, .int .i64 x.2.2.1, .int .i64 x.2.2.2.1, .int .i64 x.2.2.2.2] := by simpa using Bk.new w 63 #[.int .i64 x.1.1, .slice A1 x.1.2.1.length c1, .slice A2 x.1.2.2.length c2, .int .i64 x.2.1, .int .i64 x.2.2.1, .int .i64 x.2.2.2.1, .int .i64 x.2.2.2.2]
  have ua2 : Up (w.alloc (.cells #[.int .i64 x.1.1, .slice A1 x.1.2.1.length c1, .slice A2 x.1.2.2.length c2, .int .i64 x.2.1, .int .i64 x.2.2.1, .int .i64 x.2.2.2.1, .int .i64 x.2.2.2.2] 63)) ((w.alloc (.cells #[.int .i64 x.1.1, .slice A1 x.1.2.1.length c1, .slice A2 x.1.2.2.length c2, .int .i64 x.2.1, .int .i64 x.2.2.1, .int .i64 x.2.2.2.1, .int .i64 x.2.2.2.2] 63)).alloc (.cells #[.int .i64 0, .slice none 0 0, .slice none 0 0, .int .i64 0, .int .i64 0, .int .i64 0, .int .i64 0] 63)) := (Up.refl _).alloc _
  have uu2 := uu1.trans ua2
  have ka_2 := ka_1.up ua2
  have kr_2 : Bk ((w.alloc (.cells #[.int .i64 x.1.1, .slice A1 x.1.2.1.length c1, .slice A2 x.1.2.2.length c2, .int .i64 x.2.1, .int .i64 x.2.2.1, .int .i64 x.2.2.2.1, .int .i64 x.2.2.2.2] 63)).alloc (.cells #[.int .i64 0, .slice none 0 0, .slice none 0 0, .int .i64 0, .int .i64 0, .int .i64 0, .int .i64 0] 63)) (w.heap.size + 1) 63 #[.int .i64 0, .slice none 0 0, .slice none 0 0, .int .i64 0, .int .i64 0, .int .i64 0, .int .i64 0] := by simpa using Bk.new (w.alloc (.cells #[.int .i64 x.1.1, .slice A1 x.1.2.1.length c1, .slice A2 x.1.2.2.length c2, .int .i64 x.2.1, .int .i64 x.2.2.1, .int .i64 x.2.2.2.1, .int .i64 x.2.2.2.2] 63)) 63 #[.int .i64 0, .slice none 0 0, .slice none 0 0, .int .i64 0, .int .i64 0, .int .i64 0, .int .i64 0]
  go_enter Try.func38, Try.ntmps38
  go_wp2_with fail
  refine (cs_JournalOk _ x _ (hv.up good_Journal uu2) hn).mono ?_
  rintro e w3 ⟨rfl, u3⟩
  have uu3 := uu2.trans u3
  have ka_3 := ka_2.up u3
  have za_3 := ka_3.lt
  have kr_3 := kr_2.up u3
  have zr_3 := kr_3.lt
  have ga3_0 : w3.cell? ⟨w.heap.size, 0, none⟩ = some (.int .i64 x.1.1) := ka_3.cell 0
  have ga3_1 : w3.cell? ⟨w.heap.size, 1, none⟩ = some (.slice A1 x.1.2.1.length c1) := ka_3.cell 1
  have ga3_2 : w3.cell? ⟨w.heap.size, 2, none⟩ = some (.slice A2 x.1.2.2.length c2) := ka_3.cell 2
  have ga3_3 : w3.cell? ⟨w.heap.size, 3, none⟩ = some (.int .i64 x.2.1) := ka_3.cell 3
  have ga3_4 : w3.cell? ⟨w.heap.size, 4, none⟩ = some (.int .i64 x.2.2.1) := ka_3.cell 4
  have ga3_5 : w3.cell? ⟨w.heap.size, 5, none⟩ = some (.int .i64 x.2.2.2.1) := ka_3.cell 5
  have ga3_6 : w3.cell? ⟨w.heap.size, 6, none⟩ = some (.int .i64 x.2.2.2.2) := ka_3.cell 6
  have gr3_0 : w3.cell? ⟨w.heap.size + 1, 0, none⟩ = some (.int .i64 0) := kr_3.cell 0
  have fr3_0 := kr_3.frozen 0
  have gr3_1 : w3.cell? ⟨w.heap.size + 1, 1, none⟩ = some (.slice none 0 0) := kr_3.cell 1
  have fr3_1 := kr_3.frozen 1
  have gr3_2 : w3.cell? ⟨w.heap.size + 1, 2, none⟩ = some (.slice none 0 0) := kr_3.cell 2
  have fr3_2 := kr_3.frozen 2
  have gr3_3 : w3.cell? ⟨w.heap.size + 1, 3, none⟩ = some (.int .i64 0) := kr_3.cell 3
  have fr3_3 := kr_3.frozen 3
  have gr3_4 : w3.cell? ⟨w.heap.size + 1, 4, none⟩ = some (.int .i64 0) := kr_3.cell 4
  have fr3_4 := kr_3.frozen 4
  have gr3_5 : w3.cell? ⟨w.heap.size + 1, 5, none⟩ = some (.int .i64 0) := kr_3.cell 5
  have fr3_5 := kr_3.frozen 5
  have gr3_6 : w3.cell? ⟨w.heap.size + 1, 6, none⟩ = some (.int .i64 0) := kr_3.cell 6
  have fr3_6 := kr_3.frozen 6
  cases hok : journalOk x with
  | false =>
    go_wp2_with fail
    have hd : journalFlush x = ((0, [], []), 0, 0, 0, 0) := by simp [journalFlush, hok]
    rw [hd]
    refine bodyPost_ret (v := .agg #[.int .i64 0, .slice none 0 0, .slice none 0 0, .int .i64 0, .int .i64 0, .int .i64 0, .int .i64 0]) (by simp [results, Try.results38, go_sem, gr3_0, gr3_1, gr3_2, gr3_3, gr3_4, gr3_5, gr3_6]) rfl ?_
    exact ⟨[.int .i64 0, .slice none 0 0, .slice none 0 0, .int .i64 0, .int .i64 0, .int .i64 0, .int .i64 0], [], rfl, own_zeroJ _ _ _, by simp, uu3.sets (g := w.heap.size + 1) (by omega) 0 [.int .i64 0, .slice none 0 0, .slice none 0 0, .int .i64 0, .int .i64 0, .int .i64 0, .int .i64 0]⟩
  | true =>
    have hd : journalFlush x = ((x.1.1, flushS x.1.2.1 x.1.2.2, []), x.2) := by simp [journalFlush, hok]
    rw [hd]
    have hp := puts_in (journal_disk hok)
    have hlen : (flushS x.1.2.1 x.1.2.2).length = x.1.2.1.length := flushS_len _ _
    go_wp2_with fail
    refine (c_l19Flush _ x _ (hv.up good_Journal uu3) hn hp).mono ?_
    rintro e w4 ⟨cs1, bl, rfl, o1, nd1, u4⟩
    have uu4 := uu3.trans u4
    have ka_4 := ka_3.up u4
    have za_4 := ka_4.lt
    have kr_4 := kr_3.up u4
    have zr_4 := kr_4.lt
    obtain ⟨D1, d1, _, D2, d2, _, rfl, _, _⟩ := openOJournal o1
    dsimp only [List.length_nil] at o1 ⊢
    rw [hlen] at o1
    rw [hlen]
    clear ga3_0 ga3_1 ga3_2 ga3_3 ga3_4 ga3_5 ga3_6 gr3_0 fr3_0 gr3_1 fr3_1 gr3_2 fr3_2 gr3_3 fr3_3 gr3_4 fr3_4 gr3_5 fr3_5 gr3_6 fr3_6
    have gr4_0 : w4.cell? ⟨w.heap.size + 1, 0, none⟩ = some (.int .i64 0) := kr_4.cell 0
    have fr4_0 := kr_4.frozen 0
    have gr4_1 : w4.cell? ⟨w.heap.size + 1, 1, none⟩ = some (.slice none 0 0) := kr_4.cell 1
    have fr4_1 := kr_4.frozen 1
    have gr4_2 : w4.cell? ⟨w.heap.size + 1, 2, none⟩ = some (.slice none 0 0) := kr_4.cell 2
    have fr4_2 := kr_4.frozen 2
    have gr4_3 : w4.cell? ⟨w.heap.size + 1, 3, none⟩ = some (.int .i64 0) := kr_4.cell 3
    have fr4_3 := kr_4.frozen 3
    have gr4_4 : w4.cell? ⟨w.heap.size + 1, 4, none⟩ = some (.int .i64 0) := kr_4.cell 4
    have fr4_4 := kr_4.frozen 4
    have gr4_5 : w4.cell? ⟨w.heap.size + 1, 5, none⟩ = some (.int .i64 0) := kr_4.cell 5
    have fr4_5 := kr_4.frozen 5
    have gr4_6 : w4.cell? ⟨w.heap.size + 1, 6, none⟩ = some (.int .i64 0) := kr_4.cell 6
    have fr4_6 := kr_4.frozen 6
    go_wp2_with fail
    refine bodyPost_ret (v := .agg #[.int .i64 x.1.1, .slice D1 x.1.2.1.length d1, .slice D2 0 d2, .int .i64 x.2.1, .int .i64 x.2.2.1, .int .i64 x.2.2.2.1, .int .i64 x.2.2.2.2]) (by simp [results, Try.results38, go_sem, gr4_0, gr4_1, gr4_2, gr4_3, gr4_4, gr4_5, gr4_6]) rfl ?_
    exact ⟨[.int .i64 x.1.1, .slice D1 x.1.2.1.length d1, .slice D2 0 d2, .int .i64 x.2.1, .int .i64 x.2.2.1, .int .i64 x.2.2.2.1, .int .i64 x.2.2.2.2], bl, rfl, good_Journal.own_wide (own_set good_Journal o1 (w.heap.size + 1) 0 [.int .i64 x.1.1, .slice D1 x.1.2.1.length d1, .slice D2 0 d2, .int .i64 x.2.1, .int .i64 x.2.2.1, .int .i64 x.2.2.2.1, .int .i64 x.2.2.2.2] (by omega)) (by omega) (Nat.le_refl _), nd1, uu4.sets (g := w.heap.size + 1) (by omega) 0 [.int .i64 x.1.1, .slice D1 x.1.2.1.length d1, .slice D2 0 d2, .int .i64 x.2.1, .int .i64 x.2.2.1, .int .i64 x.2.2.2.1, .int .i64 x.2.2.2.2]⟩

set_option maxRecDepth 100000 in
set_option maxHeartbeats 4000000 in
theorem ci_FlushJournal (v : Value) (x : TJournal) (w : World) (h : AV shJournal w v x) (hn : shJournal.sz x ≤ 1048576) : Calls Try.prog 40 #[v] w (ToV shJournal (journalFlush x) w) := by
  have hv := h
  obtain ⟨cs, rfl, h⟩ := h
  obtain ⟨A1, c1, A2, c2, rfl, b0, b1, b2, b3, b4, b5, b6⟩ := openJournal h
  clear h
  have hnd := journal_sz hn
  have ua1 : Up w (w.alloc (.cells #[.int .i64 x.1.1, .slice A1 x.1.2.1.length c1, .slice A2 x.1.2.2.length c2, .int .i64 x.2.1, .int .i64 x.2.2.1, .int .i64 x.2.2.2.1, .int .i64 x.2.2.2.2] 63)) := (Up.refl _).alloc _
  have uu1 := (Up.refl w).trans ua1
  have ka_1 : Bk (w.alloc (.cells #[.int .i64 x.1.1, .slice A1 x.1.2.1.length c1, .slice A2 x.1.2.2.length c2, .int .i64 x.2.1, .int .i64 x.2.2.1, .int .i64 x.2.2.2.1, .int .i64 x.2.2.2.2] 63)) (w.heap.size) 63 #[.int .i64 x.1.1, .slice A1 x.1.2.1.length c1, .slice A2 x.1.2.2.length c2, .int .i64 x.2.1, .int .i64 x.2.2.1, .int .i64 x.2.2.2.1, .int .i64 x.2.2.2.2] := by simpa using Bk.new w 63 #[.int .i64 x.1.1, .slice A1 x.1.2.1.length c1, .slice A2 x.1.2.2.length c2, .int .i64 x.2.1, .int .i64 x.2.2.1, .int .i64 x.2.2.2.1, .int .i64 x.2.2.2.2]
  have ua2 : Up (w.alloc (.cells #[.int .i64 x.1.1, .slice A1 x.1.2.1.length c1, .slice A2 x.1.2.2.length c2, .int .i64 x.2.1, .int .i64 x.2.2.1, .int .i64 x.2.2.2.1, .int .i64 x.2.2.2.2] 63)) ((w.alloc (.cells #[.int .i64 x.1.1, .slice A1 x.1.2.1.length c1, .slice A2 x.1.2.2.length c2, .int .i64 x.2.1, .int .i64 x.2.2.1, .int .i64 x.2.2.2.1, .int .i64 x.2.2.2.2] 63)).alloc (.cells #[.int .i64 0, .slice none 0 0, .slice none 0 0, .int .i64 0, .int .i64 0, .int .i64 0, .int .i64 0] 63)) := (Up.refl _).alloc _
  have uu2 := uu1.trans ua2
  have ka_2 := ka_1.up ua2
  have kr_2 : Bk ((w.alloc (.cells #[.int .i64 x.1.1, .slice A1 x.1.2.1.length c1, .slice A2 x.1.2.2.length c2, .int .i64 x.2.1, .int .i64 x.2.2.1, .int .i64 x.2.2.2.1, .int .i64 x.2.2.2.2] 63)).alloc (.cells #[.int .i64 0, .slice none 0 0, .slice none 0 0, .int .i64 0, .int .i64 0, .int .i64 0, .int .i64 0] 63)) (w.heap.size + 1) 63 #[.int .i64 0, .slice none 0 0, .slice none 0 0, .int .i64 0, .int .i64 0, .int .i64 0, .int .i64 0] := by simpa using Bk.new (w.alloc (.cells #[.int .i64 x.1.1, .slice A1 x.1.2.1.length c1, .slice A2 x.1.2.2.length c2, .int .i64 x.2.1, .int .i64 x.2.2.1, .int .i64 x.2.2.2.1, .int .i64 x.2.2.2.2] 63)) 63 #[.int .i64 0, .slice none 0 0, .slice none 0 0, .int .i64 0, .int .i64 0, .int .i64 0, .int .i64 0]
  go_enter Try.func40, Try.ntmps40
  go_wp2_with fail
  refine (ci_JournalOk _ x _ (hv.up good_Journal uu2) hn).mono ?_
  rintro e w3 ⟨rfl, u3⟩
  have uu3 := uu2.trans u3
  have ka_3 := ka_2.up u3
  have za_3 := ka_3.lt
  have kr_3 := kr_2.up u3
  have zr_3 := kr_3.lt
  have ga3_0 : w3.cell? ⟨w.heap.size, 0, none⟩ = some (.int .i64 x.1.1) := ka_3.cell 0
  have ga3_1 : w3.cell? ⟨w.heap.size, 1, none⟩ = some (.slice A1 x.1.2.1.length c1) := ka_3.cell 1
  have ga3_2 : w3.cell? ⟨w.heap.size, 2, none⟩ = some (.slice A2 x.1.2.2.length c2) := ka_3.cell 2
  have ga3_3 : w3.cell? ⟨w.heap.size, 3, none⟩ = some (.int .i64 x.2.1) := ka_3.cell 3
  have ga3_4 : w3.cell? ⟨w.heap.size, 4, none⟩ = some (.int .i64 x.2.2.1) := ka_3.cell 4
  have ga3_5 : w3.cell? ⟨w.heap.size, 5, none⟩ = some (.int .i64 x.2.2.2.1) := ka_3.cell 5
  have ga3_6 : w3.cell? ⟨w.heap.size, 6, none⟩ = some (.int .i64 x.2.2.2.2) := ka_3.cell 6
  have gr3_0 : w3.cell? ⟨w.heap.size + 1, 0, none⟩ = some (.int .i64 0) := kr_3.cell 0
  have fr3_0 := kr_3.frozen 0
  have gr3_1 : w3.cell? ⟨w.heap.size + 1, 1, none⟩ = some (.slice none 0 0) := kr_3.cell 1
  have fr3_1 := kr_3.frozen 1
  have gr3_2 : w3.cell? ⟨w.heap.size + 1, 2, none⟩ = some (.slice none 0 0) := kr_3.cell 2
  have fr3_2 := kr_3.frozen 2
  have gr3_3 : w3.cell? ⟨w.heap.size + 1, 3, none⟩ = some (.int .i64 0) := kr_3.cell 3
  have fr3_3 := kr_3.frozen 3
  have gr3_4 : w3.cell? ⟨w.heap.size + 1, 4, none⟩ = some (.int .i64 0) := kr_3.cell 4
  have fr3_4 := kr_3.frozen 4
  have gr3_5 : w3.cell? ⟨w.heap.size + 1, 5, none⟩ = some (.int .i64 0) := kr_3.cell 5
  have fr3_5 := kr_3.frozen 5
  have gr3_6 : w3.cell? ⟨w.heap.size + 1, 6, none⟩ = some (.int .i64 0) := kr_3.cell 6
  have fr3_6 := kr_3.frozen 6
  cases hok : journalOk x with
  | false =>
    go_wp2_with fail
    have hd : journalFlush x = ((0, [], []), 0, 0, 0, 0) := by simp [journalFlush, hok]
    rw [hd]
    refine bodyPost_ret (v := .agg #[.int .i64 0, .slice none 0 0, .slice none 0 0, .int .i64 0, .int .i64 0, .int .i64 0, .int .i64 0]) (by simp [results, Try.results40, go_sem, gr3_0, gr3_1, gr3_2, gr3_3, gr3_4, gr3_5, gr3_6]) rfl ?_
    exact ⟨[.int .i64 0, .slice none 0 0, .slice none 0 0, .int .i64 0, .int .i64 0, .int .i64 0, .int .i64 0], [], rfl, own_zeroJ _ _ _, by simp, uu3.sets (g := w.heap.size + 1) (by omega) 0 [.int .i64 0, .slice none 0 0, .slice none 0 0, .int .i64 0, .int .i64 0, .int .i64 0, .int .i64 0]⟩
  | true =>
    have hd : journalFlush x = ((x.1.1, flushS x.1.2.1 x.1.2.2, []), x.2) := by simp [journalFlush, hok]
    rw [hd]
    have hp := puts_in (journal_disk hok)
    have hlen : (flushS x.1.2.1 x.1.2.2).length = x.1.2.1.length := flushS_len _ _
    go_wp2_with fail
    refine (c_copyJournal _ x _ (hv.up good_Journal uu3) hn).mono ?_
    rintro e w4 ⟨rfl, D1, d1, bl1, D2, d2, bl2, kO, s1, s2, nd1, u4⟩
    have uu4 := uu3.trans u4
    have ka_4 := ka_3.up u4
    have za_4 := ka_4.lt
    have kr_4 := kr_3.up u4
    have zr_4 := kr_4.lt
    have zO := kO.lt
    have hO1 : w3.heap.size ∉ bl1 := fun h => by have := (s1.in_ good_S _ h).1; omega
    go_wp2_with fail
    refine (c_flush w3.heap.size 0 (w3.heap.size + 1) 63 _ x.1.2.1 x.1.2.2 D1 D2 d1 d2 bl1 bl2 _ kO rfl rfl s1 s2 nd1 hO1 hp).mono ?_
    rintro e w9 ⟨rfl, kO9, s9, on9⟩
    have hm : ∀ y ∈ w3.heap.size :: bl1, w3.heap.size ≤ y := fun y hy => by
      rcases List.mem_cons.1 hy with rfl | hy
      · exact Nat.le_refl _
      · have := (s1.in_ good_S y hy).1; omega
    have uu9 : Up w w9 := uu4.only on9 (fun y hy => by have := hm y hy; omega)
    have kr9 := kr_4.only on9 (fun hy => by have := hm _ hy; omega)
    have kO9' : Bk w9 w3.heap.size 63 #[.int .i64 x.1.1, .slice D1 x.1.2.1.length d1, .slice none 0 0, .int .i64 x.2.1, .int .i64 x.2.2.1, .int .i64 x.2.2.2.1, .int .i64 x.2.2.2.2] := kO9
    clear ga3_0 ga3_1 ga3_2 ga3_3 ga3_4 ga3_5 ga3_6 gr3_0 fr3_0 gr3_1 fr3_1 gr3_2 fr3_2 gr3_3 fr3_3 gr3_4 fr3_4 gr3_5 fr3_5 gr3_6 fr3_6
    have go9_0 : w9.cell? ⟨w3.heap.size, 0, none⟩ = some (.int .i64 x.1.1) := kO9'.cell 0
    have go9_1 : w9.cell? ⟨w3.heap.size, 1, none⟩ = some (.slice D1 x.1.2.1.length d1) := kO9'.cell 1
    have go9_2 : w9.cell? ⟨w3.heap.size, 2, none⟩ = some (.slice none 0 0) := kO9'.cell 2
    have go9_3 : w9.cell? ⟨w3.heap.size, 3, none⟩ = some (.int .i64 x.2.1) := kO9'.cell 3
    have go9_4 : w9.cell? ⟨w3.heap.size, 4, none⟩ = some (.int .i64 x.2.2.1) := kO9'.cell 4
    have go9_5 : w9.cell? ⟨w3.heap.size, 5, none⟩ = some (.int .i64 x.2.2.2.1) := kO9'.cell 5
    have go9_6 : w9.cell? ⟨w3.heap.size, 6, none⟩ = some (.int .i64 x.2.2.2.2) := kO9'.cell 6
    have gr9_0 : w9.cell? ⟨w.heap.size + 1, 0, none⟩ = some (.int .i64 0) := kr9.cell 0
    have fr9_0 := kr9.frozen 0
    have gr9_1 : w9.cell? ⟨w.heap.size + 1, 1, none⟩ = some (.slice none 0 0) := kr9.cell 1
    have fr9_1 := kr9.frozen 1
    have gr9_2 : w9.cell? ⟨w.heap.size + 1, 2, none⟩ = some (.slice none 0 0) := kr9.cell 2
    have fr9_2 := kr9.frozen 2
    have gr9_3 : w9.cell? ⟨w.heap.size + 1, 3, none⟩ = some (.int .i64 0) := kr9.cell 3
    have fr9_3 := kr9.frozen 3
    have gr9_4 : w9.cell? ⟨w.heap.size + 1, 4, none⟩ = some (.int .i64 0) := kr9.cell 4
    have fr9_4 := kr9.frozen 4
    have gr9_5 : w9.cell? ⟨w.heap.size + 1, 5, none⟩ = some (.int .i64 0) := kr9.cell 5
    have fr9_5 := kr9.frozen 5
    have gr9_6 : w9.cell? ⟨w.heap.size + 1, 6, none⟩ = some (.int .i64 0) := kr9.cell 6
    have fr9_6 := kr9.frozen 6
    clear on9 kO9
    go_wp2_with fail
    refine bodyPost_ret (v := .agg #[.int .i64 x.1.1, .slice D1 x.1.2.1.length d1, .slice none 0 0, .int .i64 x.2.1, .int .i64 x.2.2.1, .int .i64 x.2.2.2.1, .int .i64 x.2.2.2.2]) (by simp [results, Try.results40, go_sem, gr9_0, gr9_1, gr9_2, gr9_3, gr9_4, gr9_5, gr9_6]) rfl ?_
    have zz := (s9.set good_S (w.heap.size + 1) 0 [.int .i64 x.1.1, .slice D1 x.1.2.1.length d1, .slice none 0 0, .int .i64 x.2.1, .int .i64 x.2.2.1, .int .i64 x.2.2.2.1, .int .i64 x.2.2.2.2] (by omega)).wide good_S (lo' := w.heap.size) (by omega) (Nat.le_refl _)
    rw [hd]
    have asm := asmDisk (x0 := x.1.1) (x2 := []) b0 zz (SO.nil _ _ _)
    rw [hlen] at asm
    exact ⟨[.int .i64 x.1.1, .slice D1 x.1.2.1.length d1, .slice none 0 0, .int .i64 x.2.1, .int .i64 x.2.2.1, .int .i64 x.2.2.2.1, .int .i64 x.2.2.2.2], _, rfl, ownJ asm b3 b4 b5 b6, by simpa using (List.nodup_append.1 nd1).1, uu9.sets (g := w.heap.size + 1) (by omega) 0 [.int .i64 x.1.1, .slice D1 x.1.2.1.length d1, .slice none 0 0, .int .i64 x.2.1, .int .i64 x.2.2.1, .int .i64 x.2.2.2.1, .int .i64 x.2.2.2.2]⟩

theorem cs_FlushJournal (v : Value) (x : TJournal) (w : World) (h : AV shJournal w v x) (hn : shJournal.sz x ≤ 1048576) : Calls Try.prog 38 #[v] w (RpV shJournal (journalFlush x) w) := (cs0_FlushJournal v x w h hn).mono fun _ _ h => h.rp good_Journal
theorem cntJ_eq (x : TJournal) : mmTJournal.cnt x = mmTDisk.cnt x.1 := rfl
theorem cnt_Journal (x : TJournal) (hn : shJournal.sz x ≤ 1048576) : mmTJournal.cnt x ≤ 4000000 := cnt_Disk x.1 (journal_sz hn)
theorem cbg_FlushJournal (x : TJournal) (hn : shJournal.sz x ≤ 1048576) : (1 : Int) + (mmTJournal.cnt (journalFlush x) : Nat) ≤ 1000000000 := by
  have h := cnt_Journal x hn
  rw [cntJ_eq, cntDisk_eq] at h ⊢
  unfold journalFlush
  split
  · dsimp only
    rw [flushS_len]
    simp only [List.length_nil]
    omega
  · decide
end Go.Proofs.Ytafabcabffeikaa
