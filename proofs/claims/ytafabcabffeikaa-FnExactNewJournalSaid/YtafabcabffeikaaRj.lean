/-
  ResetJournal: the program's and the reference's give one journal in new memory.
-/
import Derived.Test.YtafabcabffeikaaFj
namespace Go.Proofs.Ytafabcabffeikaa
open Go.RowKit
set_option linter.unusedVariables false
set_option linter.unusedSimpArgs false

def resetC (j : TJournal) : Int := if journalOk j = true then (if 0 < j.1.2.2.length then 5 else if j.2.2.2.1 = 2000000000 then 4 else 0) else 1
def journalReset (j : TJournal) : TJournal := if resetC j = 0 then (j.1, j.2.1, j.2.2.2.1 + 1, j.2.2.2.1, 0) else ((0, [], []), 0, 0, 0, 0)
theorem zeroRJ (w w' : World) (c : Int) (u : Up w w') : ToR shJournal ((0, [], []), 0, 0, 0, 0) c w (.returned (.tuple #[.agg #[.int .i64 0, .slice none 0 0, .slice none 0 0, .int .i64 0, .int .i64 0, .int .i64 0, .int .i64 0], .int .i64 c])) w' :=
  ⟨[.int .i64 0, .slice none 0 0, .slice none 0 0, .int .i64 0, .int .i64 0, .int .i64 0, .int .i64 0], [], rfl, own_zeroJ _ _ _, by simp, u⟩

set_option maxHeartbeats 1000000 in
theorem c_reset5 (B n2 : Nat) (D2 : Option Addr) (d2 : Nat) (v0 v1 v3 v4 v5 v6 : Value) (w : World) (hB : Bk w B 63 #[v0, v1, .slice D2 n2 d2, v3, v4, v5, v6]) (h : 0 < n2) (hl : n2 ≤ 9223372036854775807) :
    Calls Try.prog 103 #[.pointer (some ⟨B, 0, none⟩)] w fun e w' => e = .returned (.int .i64 5) ∧ w = w' := by
  have g2 : w.cell? ⟨B, 2, none⟩ = some (.slice D2 n2 d2) := hB.cell 2
  have hq : (0 : Int) < n2 := by omega
  go_enter Try.func103, Try.ntmps103
  go_wp2_with fail
  go_ret
  exact ⟨rfl, rfl⟩
set_option maxHeartbeats 1000000 in
theorem c_reset4 (B : Nat) (D2 : Option Addr) (d2 : Nat) (v0 v1 v3 v4 v6 : Value) (w : World) (hB : Bk w B 63 #[v0, v1, .slice D2 0 d2, v3, v4, .int .i64 2000000000, v6]) :
    Calls Try.prog 103 #[.pointer (some ⟨B, 0, none⟩)] w fun e w' => e = .returned (.int .i64 4) ∧ w = w' := by
  have g2 : w.cell? ⟨B, 2, none⟩ = some (.slice D2 0 d2) := hB.cell 2
  have g5 : w.cell? ⟨B, 5, none⟩ = some (.int .i64 2000000000) := hB.cell 5
  go_enter Try.func103, Try.ntmps103
  go_wp2_with fail
  go_ret
  exact ⟨rfl, rfl⟩
set_option maxHeartbeats 1000000 in
theorem c_reset0 (B : Nat) (D2 : Option Addr) (d2 : Nat) (v0 v1 v3 v4 v6 : Value) (n : Int) (w : World) (hB : Bk w B 63 #[v0, v1, .slice D2 0 d2, v3, v4, .int .i64 n, v6]) (h1 : -1 ≤ n) (h2 : n < 2000000000) :
    Calls Try.prog 103 #[.pointer (some ⟨B, 0, none⟩)] w fun e w' => e = .returned (.int .i64 0) ∧ Bk w' B 63 #[v0, v1, .slice D2 0 d2, v3, .int .i64 (n + 1), .int .i64 n, .int .i64 0] ∧ But B w w' := by
  have g2 : w.cell? ⟨B, 2, none⟩ = some (.slice D2 0 d2) := hB.cell 2
  have g4 : w.cell? ⟨B, 4, none⟩ = some v4 := hB.cell 4
  have g5 : w.cell? ⟨B, 5, none⟩ = some (.int .i64 n) := hB.cell 5
  have g6 : w.cell? ⟨B, 6, none⟩ = some v6 := hB.cell 6
  have f4 := hB.frozen 4
  have f6 := hB.frozen 6
  have hq : (n == 2000000000) = false := by simp; omega
  have k1 := hB.set 4 (.int .i64 (n + 1))
  have g6' : (w.setCell ⟨B, 4, none⟩ (.int .i64 (n + 1))).cell? ⟨B, 6, none⟩ = some v6 := k1.cell 6
  have f6' := k1.frozen 6
  have k2 := k1.set 6 (.int .i64 0)
  have bt := (But.set w B 4 (.int .i64 (n + 1))).trans (But.set _ B 6 (.int .i64 0))
  go_enter Try.func103, Try.ntmps103
  go_wp2_with fail
  go_ret
  exact ⟨rfl, k2, bt⟩

set_option maxRecDepth 100000 in
set_option maxHeartbeats 4000000 in
theorem cs0_ResetJournal (v : Value) (x : TJournal) (w : World) (h : AV shJournal w v x) (hn : shJournal.sz x ≤ 1048576) : Calls Try.prog 44 #[v] w (ToR shJournal (journalReset x) (resetC x) w) := by
  have hv := h
  obtain ⟨cs, rfl, h⟩ := h
  obtain ⟨A1, c1, A2, c2, rfl, b0, b1, b2, b3, b4, b5, b6⟩ := openJournal h
  clear h
  have hnd := journal_sz hn
  have hl2 := b2.len_le
  have ua1 : Up w (w.alloc (.cells #[.int .i64 x.1.1, .slice A1 x.1.2.1.length c1, .slice A2 x.1.2.2.length c2, .int .i64 x.2.1, .int .i64 x.2.2.1, .int .i64 x.2.2.2.1, .int .i64 x.2.2.2.2] 63)) := (Up.refl _).alloc _
  have uu1 := (Up.refl w).trans ua1
  have ka_1 : Bk (w.alloc (.cells #[.int .i64 x.1.1, .slice A1 x.1.2.1.length c1, .slice A2 x.1.2.2.length c2, .int .i64 x.2.1, .int .i64 x.2.2.1, .int .i64 x.2.2.2.1, .int .i64 x.2.2.2.2] 63)) (w.heap.size) 63 #[.int .i64 x.1.1, .slice A1 x.1.2.1.length c1, .slice A2 x.1.2.2.length c2, .int .i64 x.2.1, .int .i64 x.2.2.1, .int .i64 x.2.2.2.1, .int .i64 x.2.2.2.2] := by simpa using Bk.new w 63 #[.int .i64 x.1.1, .slice A1 x.1.2.1.length c1, .slice A2 x.1.2.2.length c2, .int .i64 x.2.1, .int .i64 x.2.2.1, .int .i64 x.2.2.2.1, .int .i64 x.2.2.2.2]
  have ua2 : Up (w.alloc (.cells #[.int .i64 x.1.1, .slice A1 x.1.2.1.length c1, .slice A2 x.1.2.2.length c2, .int .i64 x.2.1, .int .i64 x.2.2.1, .int .i64 x.2.2.2.1, .int .i64 x.2.2.2.2] 63)) ((w.alloc (.cells #[.int .i64 x.1.1, .slice A1 x.1.2.1.length c1, .slice A2 x.1.2.2.length c2, .int .i64 x.2.1, .int .i64 x.2.2.1, .int .i64 x.2.2.2.1, .int .i64 x.2.2.2.2] 63)).alloc (.cells #[.int .i64 0, .slice none 0 0, .slice none 0 0, .int .i64 0, .int .i64 0, .int .i64 0, .int .i64 0] 63)) := (Up.refl _).alloc _
  have uu2 := uu1.trans ua2
  have ka_2 := ka_1.up ua2
  have kr_2 : Bk ((w.alloc (.cells #[.int .i64 x.1.1, .slice A1 x.1.2.1.length c1, .slice A2 x.1.2.2.length c2, .int .i64 x.2.1, .int .i64 x.2.2.1, .int .i64 x.2.2.2.1, .int .i64 x.2.2.2.2] 63)).alloc (.cells #[.int .i64 0, .slice none 0 0, .slice none 0 0, .int .i64 0, .int .i64 0, .int .i64 0, .int .i64 0] 63)) (w.heap.size + 1) 63 #[.int .i64 0, .slice none 0 0, .slice none 0 0, .int .i64 0, .int .i64 0, .int .i64 0, .int .i64 0] := by simpa using Bk.new (w.alloc (.cells #[.int .i64 x.1.1, .slice A1 x.1.2.1.length c1, .slice A2 x.1.2.2.length c2, .int .i64 x.2.1, .int .i64 x.2.2.1, .int .i64 x.2.2.2.1, .int .i64 x.2.2.2.2] 63)) 63 #[.int .i64 0, .slice none 0 0, .slice none 0 0, .int .i64 0, .int .i64 0, .int .i64 0, .int .i64 0]
  go_enter Try.func44, Try.ntmps44
  go_wp2_with fail
  refine (cs_JournalOk _ x _ (hv.up good_Journal uu2) hn).mono ?_
  rintro e w3 ⟨rfl, u3⟩
  have uu3 := uu2.trans u3
  have ka_3 := ka_2.up u3
  have za_3 := ka_3.lt
  have kr_3 := kr_2.up u3
  have zr_3 := kr_3.lt
  have ga3_0 : w3.cell? ⟨w.heap.size, 0, none⟩ = some (.int .i64 x.1.1) := ka_3.cell 0
  have ga3_1 : w3.cell? ⟨w.heap.size, 1, none⟩ = some (.slice A1 x.1.2.1.length c1) := ka_3.cell 1
  have ga3_2 : w3.cell? ⟨w.heap.size, 2, none⟩ = some (.slice A2 x.1.2.2.length c2) := ka_3.cell 2
  have ga3_3 : w3.cell? ⟨w.heap.size, 3, none⟩ = some (.int .i64 x.2.1) := ka_3.cell 3
  have ga3_4 : w3.cell? ⟨w.heap.size, 4, none⟩ = some (.int .i64 x.2.2.1) := ka_3.cell 4
  have ga3_5 : w3.cell? ⟨w.heap.size, 5, none⟩ = some (.int .i64 x.2.2.2.1) := ka_3.cell 5
  have ga3_6 : w3.cell? ⟨w.heap.size, 6, none⟩ = some (.int .i64 x.2.2.2.2) := ka_3.cell 6
  have gr3_0 : w3.cell? ⟨w.heap.size + 1, 0, none⟩ = some (.int .i64 0) := kr_3.cell 0
  have fr3_0 := kr_3.frozen 0
  have gr3_1 : w3.cell? ⟨w.heap.size + 1, 1, none⟩ = some (.slice none 0 0) := kr_3.cell 1
  have fr3_1 := kr_3.frozen 1
  have gr3_2 : w3.cell? ⟨w.heap.size + 1, 2, none⟩ = some (.slice none 0 0) := kr_3.cell 2
  have fr3_2 := kr_3.frozen 2
  have gr3_3 : w3.cell? ⟨w.heap.size + 1, 3, none⟩ = some (.int .i64 0) := kr_3.cell 3
  have fr3_3 := kr_3.frozen 3
  have gr3_4 : w3.cell? ⟨w.heap.size + 1, 4, none⟩ = some (.int .i64 0) := kr_3.cell 4
  have fr3_4 := kr_3.frozen 4
  have gr3_5 : w3.cell? ⟨w.heap.size + 1, 5, none⟩ = some (.int .i64 0) := kr_3.cell 5
  have fr3_5 := kr_3.frozen 5
  have gr3_6 : w3.cell? ⟨w.heap.size + 1, 6, none⟩ = some (.int .i64 0) := kr_3.cell 6
  have fr3_6 := kr_3.frozen 6
  cases hok : journalOk x with
  | false =>
    have hc : Hid (resetC x = 1) := by unfold Hid; simp [resetC, hok]
    have hd : Hid (journalReset x = ((0, [], []), 0, 0, 0, 0)) := by unfold Hid; rw [journalReset, hc.out]; rfl
    go_wp2_with fail
    refine bodyPost_ret (v := .tuple #[.agg #[.int .i64 0, .slice none 0 0, .slice none 0 0, .int .i64 0, .int .i64 0, .int .i64 0, .int .i64 0], .int .i64 1]) (by simp [results, Try.results44, go_sem, gr3_0, gr3_1, gr3_2, gr3_3, gr3_4, gr3_5, gr3_6]) rfl ?_
    exact toR_of hd hc (zeroRJ _ _ _ (uu3.sets (g := w.heap.size + 1) (by omega) 0 [.int .i64 0, .slice none 0 0, .slice none 0 0, .int .i64 0, .int .i64 0, .int .i64 0, .int .i64 0]))
  | true =>
  obtain ⟨q5a, q5b⟩ := journal_last hok
  by_cases q1 : 0 < x.1.2.2.length
  · have hc : Hid (resetC x = 5) := by unfold Hid; simp [resetC, hok, q1]
    have hd : Hid (journalReset x = ((0, [], []), 0, 0, 0, 0)) := by unfold Hid; rw [journalReset, hc.out]; rfl
    have q1i : (0 : Int) < (x.1.2.2.length : Int) := by omega
    go_wp2_with fail
    refine bodyPost_ret (v := .tuple #[.agg #[.int .i64 0, .slice none 0 0, .slice none 0 0, .int .i64 0, .int .i64 0, .int .i64 0, .int .i64 0], .int .i64 5]) (by simp [results, Try.results44, go_sem, gr3_0, gr3_1, gr3_2, gr3_3, gr3_4, gr3_5, gr3_6]) rfl ?_
    exact toR_of hd hc (zeroRJ _ _ _ (uu3.sets (g := w.heap.size + 1) (by omega) 0 [.int .i64 0, .slice none 0 0, .slice none 0 0, .int .i64 0, .int .i64 0, .int .i64 0, .int .i64 0]))
  have Q1 : Hid (x.1.2.2.length = 0) := by unfold Hid; omega
  have Q1n : Hid (¬ 0 < x.1.2.2.length) := q1
  clear q1
  have q1d : decide ((0 : Int) < (x.1.2.2.length : Int)) = false := decide_eq_false (by have := Q1.out; omega)
  by_cases q2 : x.2.2.2.1 = 2000000000
  · have hc : Hid (resetC x = 4) := by unfold Hid; simp [resetC, hok, Q1n.out, q2]
    have hd : Hid (journalReset x = ((0, [], []), 0, 0, 0, 0)) := by unfold Hid; rw [journalReset, hc.out]; rfl
    have q2i : (2000000000 : Int) ≤ x.2.2.2.1 := by omega
    clear q2
    go_wp2_with fail
    refine bodyPost_ret (v := .tuple #[.agg #[.int .i64 0, .slice none 0 0, .slice none 0 0, .int .i64 0, .int .i64 0, .int .i64 0, .int .i64 0], .int .i64 4]) (by simp [results, Try.results44, go_sem, gr3_0, gr3_1, gr3_2, gr3_3, gr3_4, gr3_5, gr3_6]) rfl ?_
    exact toR_of hd hc (zeroRJ _ _ _ (uu3.sets (g := w.heap.size + 1) (by omega) 0 [.int .i64 0, .slice none 0 0, .slice none 0 0, .int .i64 0, .int .i64 0, .int .i64 0, .int .i64 0]))
  have hc : Hid (resetC x = 0) := by unfold Hid; simp [resetC, hok, Q1n.out, q2]
  have hd : Hid (journalReset x = (x.1, x.2.1, x.2.2.2.1 + 1, x.2.2.2.1, 0)) := by unfold Hid; rw [journalReset, hc.out]; rfl
  have hb4 : I64 (x.2.2.2.1 + 1) := ⟨by omega, by omega⟩
  have hb6 : I64 0 := ⟨by omega, by omega⟩
  have q2i : x.2.2.2.1 < (2000000000 : Int) := by omega
  go_wp2_with fail
  refine (c_l19Own _ x _ (hv.up good_Journal uu3) hn).mono ?_
  rintro e w4 ⟨cs1, bl, rfl, o1, nd1, u4⟩
  have uu4 := uu3.trans u4
  have ka_4 := ka_3.up u4
  have za_4 := ka_4.lt
  have kr_4 := kr_3.up u4
  have zr_4 := kr_4.lt
  have zs1 := u4.size
  obtain ⟨D1, d1, bl1, D2, d2, bl2, rfl, rfl, _, s1, s2, _⟩ := openOJournal o1
  clear ga3_0 ga3_1 ga3_2 ga3_3 ga3_4 ga3_5 ga3_6 gr3_0 fr3_0 gr3_1 fr3_1 gr3_2 fr3_2 gr3_3 fr3_3 gr3_4 fr3_4 gr3_5 fr3_5 gr3_6 fr3_6
  have ga4_0 : w4.cell? ⟨w.heap.size, 0, none⟩ = some (.int .i64 x.1.1) := ka_4.cell 0
  have ga4_1 : w4.cell? ⟨w.heap.size, 1, none⟩ = some (.slice A1 x.1.2.1.length c1) := ka_4.cell 1
  have ga4_2 : w4.cell? ⟨w.heap.size, 2, none⟩ = some (.slice A2 x.1.2.2.length c2) := ka_4.cell 2
  have ga4_3 : w4.cell? ⟨w.heap.size, 3, none⟩ = some (.int .i64 x.2.1) := ka_4.cell 3
  have ga4_4 : w4.cell? ⟨w.heap.size, 4, none⟩ = some (.int .i64 x.2.2.1) := ka_4.cell 4
  have ga4_5 : w4.cell? ⟨w.heap.size, 5, none⟩ = some (.int .i64 x.2.2.2.1) := ka_4.cell 5
  have ga4_6 : w4.cell? ⟨w.heap.size, 6, none⟩ = some (.int .i64 x.2.2.2.2) := ka_4.cell 6
  have gr4_0 : w4.cell? ⟨w.heap.size + 1, 0, none⟩ = some (.int .i64 0) := kr_4.cell 0
  have fr4_0 := kr_4.frozen 0
  have gr4_1 : w4.cell? ⟨w.heap.size + 1, 1, none⟩ = some (.slice none 0 0) := kr_4.cell 1
  have fr4_1 := kr_4.frozen 1
  have gr4_2 : w4.cell? ⟨w.heap.size + 1, 2, none⟩ = some (.slice none 0 0) := kr_4.cell 2
  have fr4_2 := kr_4.frozen 2
  have gr4_3 : w4.cell? ⟨w.heap.size + 1, 3, none⟩ = some (.int .i64 0) := kr_4.cell 3
  have fr4_3 := kr_4.frozen 3
  have gr4_4 : w4.cell? ⟨w.heap.size + 1, 4, none⟩ = some (.int .i64 0) := kr_4.cell 4
  have fr4_4 := kr_4.frozen 4
  have gr4_5 : w4.cell? ⟨w.heap.size + 1, 5, none⟩ = some (.int .i64 0) := kr_4.cell 5
  have fr4_5 := kr_4.frozen 5
  have gr4_6 : w4.cell? ⟨w.heap.size + 1, 6, none⟩ = some (.int .i64 0) := kr_4.cell 6
  have fr4_6 := kr_4.frozen 6
  go_wp2_with fail
  have bt5 : But (w.heap.size + 1) w4 (((((((w4.setCell ⟨w.heap.size + 1, 0, none⟩ (.int .i64 x.1.1)).setCell ⟨w.heap.size + 1, 1, none⟩ (.slice D1 x.1.2.1.length d1)).setCell ⟨w.heap.size + 1, 2, none⟩ (.slice D2 x.1.2.2.length d2)).setCell ⟨w.heap.size + 1, 3, none⟩ (.int .i64 x.2.1)).setCell ⟨w.heap.size + 1, 4, none⟩ (.int .i64 (x.2.2.2.1 + 1))).setCell ⟨w.heap.size + 1, 5, none⟩ (.int .i64 x.2.2.2.1)).setCell ⟨w.heap.size + 1, 6, none⟩ (.int .i64 0)) := But.sets (g := w.heap.size + 1) [.int .i64 x.1.1, .slice D1 x.1.2.1.length d1, .slice D2 x.1.2.2.length d2, .int .i64 x.2.1, .int .i64 (x.2.2.2.1 + 1), .int .i64 x.2.2.2.1, .int .i64 0] w4 0
  have uu5 : Up w (((((((w4.setCell ⟨w.heap.size + 1, 0, none⟩ (.int .i64 x.1.1)).setCell ⟨w.heap.size + 1, 1, none⟩ (.slice D1 x.1.2.1.length d1)).setCell ⟨w.heap.size + 1, 2, none⟩ (.slice D2 x.1.2.2.length d2)).setCell ⟨w.heap.size + 1, 3, none⟩ (.int .i64 x.2.1)).setCell ⟨w.heap.size + 1, 4, none⟩ (.int .i64 (x.2.2.2.1 + 1))).setCell ⟨w.heap.size + 1, 5, none⟩ (.int .i64 x.2.2.2.1)).setCell ⟨w.heap.size + 1, 6, none⟩ (.int .i64 0)) := uu4.but bt5 (by omega)
  have ka_5 : Bk (((((((w4.setCell ⟨w.heap.size + 1, 0, none⟩ (.int .i64 x.1.1)).setCell ⟨w.heap.size + 1, 1, none⟩ (.slice D1 x.1.2.1.length d1)).setCell ⟨w.heap.size + 1, 2, none⟩ (.slice D2 x.1.2.2.length d2)).setCell ⟨w.heap.size + 1, 3, none⟩ (.int .i64 x.2.1)).setCell ⟨w.heap.size + 1, 4, none⟩ (.int .i64 (x.2.2.2.1 + 1))).setCell ⟨w.heap.size + 1, 5, none⟩ (.int .i64 x.2.2.2.1)).setCell ⟨w.heap.size + 1, 6, none⟩ (.int .i64 0)) (w.heap.size) 63 #[.int .i64 x.1.1, .slice A1 x.1.2.1.length c1, .slice A2 x.1.2.2.length c2, .int .i64 x.2.1, .int .i64 x.2.2.1, .int .i64 x.2.2.2.1, .int .i64 x.2.2.2.2] := ka_4.but bt5 (by omega)
  have kr_5 : Bk (((((((w4.setCell ⟨w.heap.size + 1, 0, none⟩ (.int .i64 x.1.1)).setCell ⟨w.heap.size + 1, 1, none⟩ (.slice D1 x.1.2.1.length d1)).setCell ⟨w.heap.size + 1, 2, none⟩ (.slice D2 x.1.2.2.length d2)).setCell ⟨w.heap.size + 1, 3, none⟩ (.int .i64 x.2.1)).setCell ⟨w.heap.size + 1, 4, none⟩ (.int .i64 (x.2.2.2.1 + 1))).setCell ⟨w.heap.size + 1, 5, none⟩ (.int .i64 x.2.2.2.1)).setCell ⟨w.heap.size + 1, 6, none⟩ (.int .i64 0)) (w.heap.size + 1) 63 #[.int .i64 x.1.1, .slice D1 x.1.2.1.length d1, .slice D2 x.1.2.2.length d2, .int .i64 x.2.1, .int .i64 (x.2.2.2.1 + 1), .int .i64 x.2.2.2.1, .int .i64 0] := kr_4.sets [.int .i64 x.1.1, .slice D1 x.1.2.1.length d1, .slice D2 x.1.2.2.length d2, .int .i64 x.2.1, .int .i64 (x.2.2.2.1 + 1), .int .i64 x.2.2.2.1, .int .i64 0] 0
  have ua6 : Up (((((((w4.setCell ⟨w.heap.size + 1, 0, none⟩ (.int .i64 x.1.1)).setCell ⟨w.heap.size + 1, 1, none⟩ (.slice D1 x.1.2.1.length d1)).setCell ⟨w.heap.size + 1, 2, none⟩ (.slice D2 x.1.2.2.length d2)).setCell ⟨w.heap.size + 1, 3, none⟩ (.int .i64 x.2.1)).setCell ⟨w.heap.size + 1, 4, none⟩ (.int .i64 (x.2.2.2.1 + 1))).setCell ⟨w.heap.size + 1, 5, none⟩ (.int .i64 x.2.2.2.1)).setCell ⟨w.heap.size + 1, 6, none⟩ (.int .i64 0)) ((((((((w4.setCell ⟨w.heap.size + 1, 0, none⟩ (.int .i64 x.1.1)).setCell ⟨w.heap.size + 1, 1, none⟩ (.slice D1 x.1.2.1.length d1)).setCell ⟨w.heap.size + 1, 2, none⟩ (.slice D2 x.1.2.2.length d2)).setCell ⟨w.heap.size + 1, 3, none⟩ (.int .i64 x.2.1)).setCell ⟨w.heap.size + 1, 4, none⟩ (.int .i64 (x.2.2.2.1 + 1))).setCell ⟨w.heap.size + 1, 5, none⟩ (.int .i64 x.2.2.2.1)).setCell ⟨w.heap.size + 1, 6, none⟩ (.int .i64 0)).alloc (.cells #[.int .i64 x.1.1, .slice D1 x.1.2.1.length d1, .slice D2 x.1.2.2.length d2, .int .i64 x.2.1, .int .i64 (x.2.2.2.1 + 1), .int .i64 x.2.2.2.1, .int .i64 0] 63)) := (Up.refl _).alloc _
  have uu6 := uu5.trans ua6
  have ka_6 := ka_5.up ua6
  have kr_6 := kr_5.up ua6
  have ko_6 : Bk ((((((((w4.setCell ⟨w.heap.size + 1, 0, none⟩ (.int .i64 x.1.1)).setCell ⟨w.heap.size + 1, 1, none⟩ (.slice D1 x.1.2.1.length d1)).setCell ⟨w.heap.size + 1, 2, none⟩ (.slice D2 x.1.2.2.length d2)).setCell ⟨w.heap.size + 1, 3, none⟩ (.int .i64 x.2.1)).setCell ⟨w.heap.size + 1, 4, none⟩ (.int .i64 (x.2.2.2.1 + 1))).setCell ⟨w.heap.size + 1, 5, none⟩ (.int .i64 x.2.2.2.1)).setCell ⟨w.heap.size + 1, 6, none⟩ (.int .i64 0)).alloc (.cells #[.int .i64 x.1.1, .slice D1 x.1.2.1.length d1, .slice D2 x.1.2.2.length d2, .int .i64 x.2.1, .int .i64 (x.2.2.2.1 + 1), .int .i64 x.2.2.2.1, .int .i64 0] 63)) (w4.heap.size) 63 #[.int .i64 x.1.1, .slice D1 x.1.2.1.length d1, .slice D2 x.1.2.2.length d2, .int .i64 x.2.1, .int .i64 (x.2.2.2.1 + 1), .int .i64 x.2.2.2.1, .int .i64 0] := by simpa using Bk.new (((((((w4.setCell ⟨w.heap.size + 1, 0, none⟩ (.int .i64 x.1.1)).setCell ⟨w.heap.size + 1, 1, none⟩ (.slice D1 x.1.2.1.length d1)).setCell ⟨w.heap.size + 1, 2, none⟩ (.slice D2 x.1.2.2.length d2)).setCell ⟨w.heap.size + 1, 3, none⟩ (.int .i64 x.2.1)).setCell ⟨w.heap.size + 1, 4, none⟩ (.int .i64 (x.2.2.2.1 + 1))).setCell ⟨w.heap.size + 1, 5, none⟩ (.int .i64 x.2.2.2.1)).setCell ⟨w.heap.size + 1, 6, none⟩ (.int .i64 0)) 63 #[.int .i64 x.1.1, .slice D1 x.1.2.1.length d1, .slice D2 x.1.2.2.length d2, .int .i64 x.2.1, .int .i64 (x.2.2.2.1 + 1), .int .i64 x.2.2.2.1, .int .i64 0]
  have s1E := ((s1.set good_S (w.heap.size + 1) 0 [.int .i64 x.1.1, .slice D1 x.1.2.1.length d1, .slice D2 x.1.2.2.length d2, .int .i64 x.2.1, .int .i64 (x.2.2.2.1 + 1), .int .i64 x.2.2.2.1, .int .i64 0] (by omega)).up good_S ua6).wide good_S (lo' := w.heap.size) (by omega) (Nat.le_refl _)
  have s2E := ((s2.set good_Put (w.heap.size + 1) 0 [.int .i64 x.1.1, .slice D1 x.1.2.1.length d1, .slice D2 x.1.2.2.length d2, .int .i64 x.2.1, .int .i64 (x.2.2.2.1 + 1), .int .i64 x.2.2.2.1, .int .i64 0] (by omega)).up good_Put ua6).wide good_Put (lo' := w.heap.size) (by omega) (Nat.le_refl _)
  clear ga4_0 ga4_1 ga4_2 ga4_3 ga4_4 ga4_5 ga4_6 gr4_0 fr4_0 gr4_1 fr4_1 gr4_2 fr4_2 gr4_3 fr4_3 gr4_4 fr4_4 gr4_5 fr4_5 gr4_6 fr4_6
  have gr6_0 : ((((((((w4.setCell ⟨w.heap.size + 1, 0, none⟩ (.int .i64 x.1.1)).setCell ⟨w.heap.size + 1, 1, none⟩ (.slice D1 x.1.2.1.length d1)).setCell ⟨w.heap.size + 1, 2, none⟩ (.slice D2 x.1.2.2.length d2)).setCell ⟨w.heap.size + 1, 3, none⟩ (.int .i64 x.2.1)).setCell ⟨w.heap.size + 1, 4, none⟩ (.int .i64 (x.2.2.2.1 + 1))).setCell ⟨w.heap.size + 1, 5, none⟩ (.int .i64 x.2.2.2.1)).setCell ⟨w.heap.size + 1, 6, none⟩ (.int .i64 0)).alloc (.cells #[.int .i64 x.1.1, .slice D1 x.1.2.1.length d1, .slice D2 x.1.2.2.length d2, .int .i64 x.2.1, .int .i64 (x.2.2.2.1 + 1), .int .i64 x.2.2.2.1, .int .i64 0] 63)).cell? ⟨w.heap.size + 1, 0, none⟩ = some (.int .i64 x.1.1) := kr_6.cell 0
  have gr6_1 : ((((((((w4.setCell ⟨w.heap.size + 1, 0, none⟩ (.int .i64 x.1.1)).setCell ⟨w.heap.size + 1, 1, none⟩ (.slice D1 x.1.2.1.length d1)).setCell ⟨w.heap.size + 1, 2, none⟩ (.slice D2 x.1.2.2.length d2)).setCell ⟨w.heap.size + 1, 3, none⟩ (.int .i64 x.2.1)).setCell ⟨w.heap.size + 1, 4, none⟩ (.int .i64 (x.2.2.2.1 + 1))).setCell ⟨w.heap.size + 1, 5, none⟩ (.int .i64 x.2.2.2.1)).setCell ⟨w.heap.size + 1, 6, none⟩ (.int .i64 0)).alloc (.cells #[.int .i64 x.1.1, .slice D1 x.1.2.1.length d1, .slice D2 x.1.2.2.length d2, .int .i64 x.2.1, .int .i64 (x.2.2.2.1 + 1), .int .i64 x.2.2.2.1, .int .i64 0] 63)).cell? ⟨w.heap.size + 1, 1, none⟩ = some (.slice D1 x.1.2.1.length d1) := kr_6.cell 1
  have gr6_2 : ((((((((w4.setCell ⟨w.heap.size + 1, 0, none⟩ (.int .i64 x.1.1)).setCell ⟨w.heap.size + 1, 1, none⟩ (.slice D1 x.1.2.1.length d1)).setCell ⟨w.heap.size + 1, 2, none⟩ (.slice D2 x.1.2.2.length d2)).setCell ⟨w.heap.size + 1, 3, none⟩ (.int .i64 x.2.1)).setCell ⟨w.heap.size + 1, 4, none⟩ (.int .i64 (x.2.2.2.1 + 1))).setCell ⟨w.heap.size + 1, 5, none⟩ (.int .i64 x.2.2.2.1)).setCell ⟨w.heap.size + 1, 6, none⟩ (.int .i64 0)).alloc (.cells #[.int .i64 x.1.1, .slice D1 x.1.2.1.length d1, .slice D2 x.1.2.2.length d2, .int .i64 x.2.1, .int .i64 (x.2.2.2.1 + 1), .int .i64 x.2.2.2.1, .int .i64 0] 63)).cell? ⟨w.heap.size + 1, 2, none⟩ = some (.slice D2 x.1.2.2.length d2) := kr_6.cell 2
  have gr6_3 : ((((((((w4.setCell ⟨w.heap.size + 1, 0, none⟩ (.int .i64 x.1.1)).setCell ⟨w.heap.size + 1, 1, none⟩ (.slice D1 x.1.2.1.length d1)).setCell ⟨w.heap.size + 1, 2, none⟩ (.slice D2 x.1.2.2.length d2)).setCell ⟨w.heap.size + 1, 3, none⟩ (.int .i64 x.2.1)).setCell ⟨w.heap.size + 1, 4, none⟩ (.int .i64 (x.2.2.2.1 + 1))).setCell ⟨w.heap.size + 1, 5, none⟩ (.int .i64 x.2.2.2.1)).setCell ⟨w.heap.size + 1, 6, none⟩ (.int .i64 0)).alloc (.cells #[.int .i64 x.1.1, .slice D1 x.1.2.1.length d1, .slice D2 x.1.2.2.length d2, .int .i64 x.2.1, .int .i64 (x.2.2.2.1 + 1), .int .i64 x.2.2.2.1, .int .i64 0] 63)).cell? ⟨w.heap.size + 1, 3, none⟩ = some (.int .i64 x.2.1) := kr_6.cell 3
  have gr6_4 : ((((((((w4.setCell ⟨w.heap.size + 1, 0, none⟩ (.int .i64 x.1.1)).setCell ⟨w.heap.size + 1, 1, none⟩ (.slice D1 x.1.2.1.length d1)).setCell ⟨w.heap.size + 1, 2, none⟩ (.slice D2 x.1.2.2.length d2)).setCell ⟨w.heap.size + 1, 3, none⟩ (.int .i64 x.2.1)).setCell ⟨w.heap.size + 1, 4, none⟩ (.int .i64 (x.2.2.2.1 + 1))).setCell ⟨w.heap.size + 1, 5, none⟩ (.int .i64 x.2.2.2.1)).setCell ⟨w.heap.size + 1, 6, none⟩ (.int .i64 0)).alloc (.cells #[.int .i64 x.1.1, .slice D1 x.1.2.1.length d1, .slice D2 x.1.2.2.length d2, .int .i64 x.2.1, .int .i64 (x.2.2.2.1 + 1), .int .i64 x.2.2.2.1, .int .i64 0] 63)).cell? ⟨w.heap.size + 1, 4, none⟩ = some (.int .i64 (x.2.2.2.1 + 1)) := kr_6.cell 4
  have gr6_5 : ((((((((w4.setCell ⟨w.heap.size + 1, 0, none⟩ (.int .i64 x.1.1)).setCell ⟨w.heap.size + 1, 1, none⟩ (.slice D1 x.1.2.1.length d1)).setCell ⟨w.heap.size + 1, 2, none⟩ (.slice D2 x.1.2.2.length d2)).setCell ⟨w.heap.size + 1, 3, none⟩ (.int .i64 x.2.1)).setCell ⟨w.heap.size + 1, 4, none⟩ (.int .i64 (x.2.2.2.1 + 1))).setCell ⟨w.heap.size + 1, 5, none⟩ (.int .i64 x.2.2.2.1)).setCell ⟨w.heap.size + 1, 6, none⟩ (.int .i64 0)).alloc (.cells #[.int .i64 x.1.1, .slice D1 x.1.2.1.length d1, .slice D2 x.1.2.2.length d2, .int .i64 x.2.1, .int .i64 (x.2.2.2.1 + 1), .int .i64 x.2.2.2.1, .int .i64 0] 63)).cell? ⟨w.heap.size + 1, 5, none⟩ = some (.int .i64 x.2.2.2.1) := kr_6.cell 5
  have gr6_6 : ((((((((w4.setCell ⟨w.heap.size + 1, 0, none⟩ (.int .i64 x.1.1)).setCell ⟨w.heap.size + 1, 1, none⟩ (.slice D1 x.1.2.1.length d1)).setCell ⟨w.heap.size + 1, 2, none⟩ (.slice D2 x.1.2.2.length d2)).setCell ⟨w.heap.size + 1, 3, none⟩ (.int .i64 x.2.1)).setCell ⟨w.heap.size + 1, 4, none⟩ (.int .i64 (x.2.2.2.1 + 1))).setCell ⟨w.heap.size + 1, 5, none⟩ (.int .i64 x.2.2.2.1)).setCell ⟨w.heap.size + 1, 6, none⟩ (.int .i64 0)).alloc (.cells #[.int .i64 x.1.1, .slice D1 x.1.2.1.length d1, .slice D2 x.1.2.2.length d2, .int .i64 x.2.1, .int .i64 (x.2.2.2.1 + 1), .int .i64 x.2.2.2.1, .int .i64 0] 63)).cell? ⟨w.heap.size + 1, 6, none⟩ = some (.int .i64 0) := kr_6.cell 6
  have ndF : (bl1 ++ bl2).Nodup := by simpa using nd1
  refine bodyPost_ret (v := .tuple #[.agg #[.int .i64 x.1.1, .slice D1 x.1.2.1.length d1, .slice D2 x.1.2.2.length d2, .int .i64 x.2.1, .int .i64 (x.2.2.2.1 + 1), .int .i64 x.2.2.2.1, .int .i64 0], .int .i64 0]) (by simp [results, Try.results44, go_sem, gr6_0, gr6_1, gr6_2, gr6_3, gr6_4, gr6_5, gr6_6]) rfl ?_
  exact toR_of hd hc ⟨[.int .i64 x.1.1, .slice D1 x.1.2.1.length d1, .slice D2 x.1.2.2.length d2, .int .i64 x.2.1, .int .i64 (x.2.2.2.1 + 1), .int .i64 x.2.2.2.1, .int .i64 0], _, rfl, ownJ (asmDisk (x0 := x.1.1) b0 s1E s2E) b3 hb4 b5 hb6, ndF, uu6⟩

set_option maxRecDepth 100000 in
set_option maxHeartbeats 4000000 in
theorem ci_ResetJournal (v : Value) (x : TJournal) (w : World) (h : AV shJournal w v x) (hn : shJournal.sz x ≤ 1048576) : Calls Try.prog 45 #[v] w (ToR shJournal (journalReset x) (resetC x) w) := by
  have hv := h
  obtain ⟨cs, rfl, h⟩ := h
  obtain ⟨A1, c1, A2, c2, rfl, b0, b1, b2, b3, b4, b5, b6⟩ := openJournal h
  clear h
  have hnd := journal_sz hn
  have hl2 := b2.len_le
  have ua1 : Up w (w.alloc (.cells #[.int .i64 x.1.1, .slice A1 x.1.2.1.length c1, .slice A2 x.1.2.2.length c2, .int .i64 x.2.1, .int .i64 x.2.2.1, .int .i64 x.2.2.2.1, .int .i64 x.2.2.2.2] 63)) := (Up.refl _).alloc _
  have uu1 := (Up.refl w).trans ua1
  have ka_1 : Bk (w.alloc (.cells #[.int .i64 x.1.1, .slice A1 x.1.2.1.length c1, .slice A2 x.1.2.2.length c2, .int .i64 x.2.1, .int .i64 x.2.2.1, .int .i64 x.2.2.2.1, .int .i64 x.2.2.2.2] 63)) (w.heap.size) 63 #[.int .i64 x.1.1, .slice A1 x.1.2.1.length c1, .slice A2 x.1.2.2.length c2, .int .i64 x.2.1, .int .i64 x.2.2.1, .int .i64 x.2.2.2.1, .int .i64 x.2.2.2.2] := by simpa using Bk.new w 63 #[.int .i64 x.1.1, .slice A1 x.1.2.1.length c1, .slice A2 x.1.2.2.length c2, .int .i64 x.2.1, .int .i64 x.2.2.1, .int .i64 x.2.2.2.1, .int .i64 x.2.2.2.2]
  have ua2 : Up (w.alloc (.cells #[.int .i64 x.1.1, .slice A1 x.1.2.1.length c1, .slice A2 x.1.2.2.length c2, .int .i64 x.2.1, .int .i64 x.2.2.1, .int .i64 x.2.2.2.1, .int .i64 x.2.2.2.2] 63)) ((w.alloc (.cells #[.int .i64 x.1.1, .slice A1 x.1.2.1.length c1, .slice A2 x.1.2.2.length c2, .int .i64 x.2.1, .int .i64 x.2.2.1, .int .i64 x.2.2.2.1, .int .i64 x.2.2.2.2] 63)).alloc (.cells #[.int .i64 0, .slice none 0 0, .slice none 0 0, .int .i64 0, .int .i64 0, .int .i64 0, .int .i64 0] 63)) := (Up.refl _).alloc _
  have uu2 := uu1.trans ua2
  have ka_2 := ka_1.up ua2
  have kr_2 : Bk ((w.alloc (.cells #[.int .i64 x.1.1, .slice A1 x.1.2.1.length c1, .slice A2 x.1.2.2.length c2, .int .i64 x.2.1, .int .i64 x.2.2.1, .int .i64 x.2.2.2.1, .int .i64 x.2.2.2.2] 63)).alloc (.cells #[.int .i64 0, .slice none 0 0, .slice none 0 0, .int .i64 0, .int .i64 0, .int .i64 0, .int .i64 0] 63)) (w.heap.size + 1) 63 #[.int .i64 0, .slice none 0 0, .slice none 0 0, .int .i64 0, .int .i64 0, .int .i64 0, .int .i64 0] := by simpa using Bk.new (w.alloc (.cells #[.int .i64 x.1.1, .slice A1 x.1.2.1.length c1, .slice A2 x.1.2.2.length c2, .int .i64 x.2.1, .int .i64 x.2.2.1, .int .i64 x.2.2.2.1, .int .i64 x.2.2.2.2] 63)) 63 #[.int .i64 0, .slice none 0 0, .slice none 0 0, .int .i64 0, .int .i64 0, .int .i64 0, .int .i64 0]
  go_enter Try.func45, Try.ntmps45
  go_wp2_with fail
  refine (ci_JournalOk _ x _ (hv.up good_Journal uu2) hn).mono ?_
  rintro e w3 ⟨rfl, u3⟩
  have uu3 := uu2.trans u3
  have ka_3 := ka_2.up u3
  have za_3 := ka_3.lt
  have kr_3 := kr_2.up u3
  have zr_3 := kr_3.lt
  have ga3_0 : w3.cell? ⟨w.heap.size, 0, none⟩ = some (.int .i64 x.1.1) := ka_3.cell 0
  have ga3_1 : w3.cell? ⟨w.heap.size, 1, none⟩ = some (.slice A1 x.1.2.1.length c1) := ka_3.cell 1
  have ga3_2 : w3.cell? ⟨w.heap.size, 2, none⟩ = some (.slice A2 x.1.2.2.length c2) := ka_3.cell 2
  have ga3_3 : w3.cell? ⟨w.heap.size, 3, none⟩ = some (.int .i64 x.2.1) := ka_3.cell 3
  have ga3_4 : w3.cell? ⟨w.heap.size, 4, none⟩ = some (.int .i64 x.2.2.1) := ka_3.cell 4
  have ga3_5 : w3.cell? ⟨w.heap.size, 5, none⟩ = some (.int .i64 x.2.2.2.1) := ka_3.cell 5
  have ga3_6 : w3.cell? ⟨w.heap.size, 6, none⟩ = some (.int .i64 x.2.2.2.2) := ka_3.cell 6
  have gr3_0 : w3.cell? ⟨w.heap.size + 1, 0, none⟩ = some (.int .i64 0) := kr_3.cell 0
  have fr3_0 := kr_3.frozen 0
  have gr3_1 : w3.cell? ⟨w.heap.size + 1, 1, none⟩ = some (.slice none 0 0) := kr_3.cell 1
  have fr3_1 := kr_3.frozen 1
  have gr3_2 : w3.cell? ⟨w.heap.size + 1, 2, none⟩ = some (.slice none 0 0) := kr_3.cell 2
  have fr3_2 := kr_3.frozen 2
  have gr3_3 : w3.cell? ⟨w.heap.size + 1, 3, none⟩ = some (.int .i64 0) := kr_3.cell 3
  have fr3_3 := kr_3.frozen 3
  have gr3_4 : w3.cell? ⟨w.heap.size + 1, 4, none⟩ = some (.int .i64 0) := kr_3.cell 4
  have fr3_4 := kr_3.frozen 4
  have gr3_5 : w3.cell? ⟨w.heap.size + 1, 5, none⟩ = some (.int .i64 0) := kr_3.cell 5
  have fr3_5 := kr_3.frozen 5
  have gr3_6 : w3.cell? ⟨w.heap.size + 1, 6, none⟩ = some (.int .i64 0) := kr_3.cell 6
  have fr3_6 := kr_3.frozen 6
  cases hok : journalOk x with
  | false =>
    have hc : Hid (resetC x = 1) := by unfold Hid; simp [resetC, hok]
    have hd : Hid (journalReset x = ((0, [], []), 0, 0, 0, 0)) := by unfold Hid; rw [journalReset, hc.out]; rfl
    go_wp2_with fail
    refine bodyPost_ret (v := .tuple #[.agg #[.int .i64 0, .slice none 0 0, .slice none 0 0, .int .i64 0, .int .i64 0, .int .i64 0, .int .i64 0], .int .i64 1]) (by simp [results, Try.results45, go_sem, gr3_0, gr3_1, gr3_2, gr3_3, gr3_4, gr3_5, gr3_6]) rfl ?_
    exact toR_of hd hc (zeroRJ _ _ _ (uu3.sets (g := w.heap.size + 1) (by omega) 0 [.int .i64 0, .slice none 0 0, .slice none 0 0, .int .i64 0, .int .i64 0, .int .i64 0, .int .i64 0]))
  | true =>
  obtain ⟨q5a, q5b⟩ := journal_last hok
  by_cases q1 : 0 < x.1.2.2.length
  · have hc : Hid (resetC x = 5) := by unfold Hid; simp [resetC, hok, q1]
    have hd : Hid (journalReset x = ((0, [], []), 0, 0, 0, 0)) := by unfold Hid; rw [journalReset, hc.out]; rfl
    have q1i : (0 : Int) < (x.1.2.2.length : Int) := by omega
    go_wp2_with fail
    refine (c_copyJournal _ x _ (hv.up good_Journal uu3) hn).mono ?_
    rintro e w4 ⟨rfl, D1, d1, bl1, D2, d2, bl2, kO, s1, s2, nd1, u4⟩
    have uu4 := uu3.trans u4
    have ka_4 := ka_3.up u4
    have za_4 := ka_4.lt
    have kr_4 := kr_3.up u4
    have zr_4 := kr_4.lt
    have zO := kO.lt
    clear ga3_0 ga3_1 ga3_2 ga3_3 ga3_4 ga3_5 ga3_6 gr3_0 fr3_0 gr3_1 fr3_1 gr3_2 fr3_2 gr3_3 fr3_3 gr3_4 fr3_4 gr3_5 fr3_5 gr3_6 fr3_6
    have gr4_0 : w4.cell? ⟨w.heap.size + 1, 0, none⟩ = some (.int .i64 0) := kr_4.cell 0
    have fr4_0 := kr_4.frozen 0
    have gr4_1 : w4.cell? ⟨w.heap.size + 1, 1, none⟩ = some (.slice none 0 0) := kr_4.cell 1
    have fr4_1 := kr_4.frozen 1
    have gr4_2 : w4.cell? ⟨w.heap.size + 1, 2, none⟩ = some (.slice none 0 0) := kr_4.cell 2
    have fr4_2 := kr_4.frozen 2
    have gr4_3 : w4.cell? ⟨w.heap.size + 1, 3, none⟩ = some (.int .i64 0) := kr_4.cell 3
    have fr4_3 := kr_4.frozen 3
    have gr4_4 : w4.cell? ⟨w.heap.size + 1, 4, none⟩ = some (.int .i64 0) := kr_4.cell 4
    have fr4_4 := kr_4.frozen 4
    have gr4_5 : w4.cell? ⟨w.heap.size + 1, 5, none⟩ = some (.int .i64 0) := kr_4.cell 5
    have fr4_5 := kr_4.frozen 5
    have gr4_6 : w4.cell? ⟨w.heap.size + 1, 6, none⟩ = some (.int .i64 0) := kr_4.cell 6
    have fr4_6 := kr_4.frozen 6
    go_wp2_with fail
    refine (c_reset5 w3.heap.size x.1.2.2.length D2 d2 _ _ _ _ _ _ _ kO q1 hl2).mono ?_
    rintro e w' ⟨rfl, rfl⟩
    go_wp2_with fail
    refine bodyPost_ret (v := .tuple #[.agg #[.int .i64 0, .slice none 0 0, .slice none 0 0, .int .i64 0, .int .i64 0, .int .i64 0, .int .i64 0], .int .i64 5]) (by simp [results, Try.results45, go_sem, gr4_0, gr4_1, gr4_2, gr4_3, gr4_4, gr4_5, gr4_6]) rfl ?_
    exact toR_of hd hc (zeroRJ _ _ _ (uu4.sets (g := w.heap.size + 1) (by omega) 0 [.int .i64 0, .slice none 0 0, .slice none 0 0, .int .i64 0, .int .i64 0, .int .i64 0, .int .i64 0]))
  have Q1 : Hid (x.1.2.2.length = 0) := by unfold Hid; omega
  have Q1n : Hid (¬ 0 < x.1.2.2.length) := q1
  clear q1
  have q1d : decide ((0 : Int) < (x.1.2.2.length : Int)) = false := decide_eq_false (by have := Q1.out; omega)
  by_cases q2 : x.2.2.2.1 = 2000000000
  · have hc : Hid (resetC x = 4) := by unfold Hid; simp [resetC, hok, Q1n.out, q2]
    have hd : Hid (journalReset x = ((0, [], []), 0, 0, 0, 0)) := by unfold Hid; rw [journalReset, hc.out]; rfl
    have Q2 := Lib.hid q2
    clear q2
    go_wp2_with fail
    refine (c_copyJournal _ x _ (hv.up good_Journal uu3) hn).mono ?_
    rintro e w4 ⟨rfl, D1, d1, bl1, D2, d2, bl2, kO, s1, s2, nd1, u4⟩
    have uu4 := uu3.trans u4
    have ka_4 := ka_3.up u4
    have za_4 := ka_4.lt
    have kr_4 := kr_3.up u4
    have zr_4 := kr_4.lt
    have zO := kO.lt
    clear ga3_0 ga3_1 ga3_2 ga3_3 ga3_4 ga3_5 ga3_6 gr3_0 fr3_0 gr3_1 fr3_1 gr3_2 fr3_2 gr3_3 fr3_3 gr3_4 fr3_4 gr3_5 fr3_5 gr3_6 fr3_6
    have gr4_0 : w4.cell? ⟨w.heap.size + 1, 0, none⟩ = some (.int .i64 0) := kr_4.cell 0
    have fr4_0 := kr_4.frozen 0
    have gr4_1 : w4.cell? ⟨w.heap.size + 1, 1, none⟩ = some (.slice none 0 0) := kr_4.cell 1
    have fr4_1 := kr_4.frozen 1
    have gr4_2 : w4.cell? ⟨w.heap.size + 1, 2, none⟩ = some (.slice none 0 0) := kr_4.cell 2
    have fr4_2 := kr_4.frozen 2
    have gr4_3 : w4.cell? ⟨w.heap.size + 1, 3, none⟩ = some (.int .i64 0) := kr_4.cell 3
    have fr4_3 := kr_4.frozen 3
    have gr4_4 : w4.cell? ⟨w.heap.size + 1, 4, none⟩ = some (.int .i64 0) := kr_4.cell 4
    have fr4_4 := kr_4.frozen 4
    have gr4_5 : w4.cell? ⟨w.heap.size + 1, 5, none⟩ = some (.int .i64 0) := kr_4.cell 5
    have fr4_5 := kr_4.frozen 5
    have gr4_6 : w4.cell? ⟨w.heap.size + 1, 6, none⟩ = some (.int .i64 0) := kr_4.cell 6
    have fr4_6 := kr_4.frozen 6
    rw [Q1.out, Q2.out] at kO
    go_wp2_with fail
    refine (c_reset4 w3.heap.size D2 d2 _ _ _ _ _ _ kO).mono ?_
    rintro e w' ⟨rfl, rfl⟩
    go_wp2_with fail
    refine bodyPost_ret (v := .tuple #[.agg #[.int .i64 0, .slice none 0 0, .slice none 0 0, .int .i64 0, .int .i64 0, .int .i64 0, .int .i64 0], .int .i64 4]) (by simp [results, Try.results45, go_sem, gr4_0, gr4_1, gr4_2, gr4_3, gr4_4, gr4_5, gr4_6]) rfl ?_
    exact toR_of hd hc (zeroRJ _ _ _ (uu4.sets (g := w.heap.size + 1) (by omega) 0 [.int .i64 0, .slice none 0 0, .slice none 0 0, .int .i64 0, .int .i64 0, .int .i64 0, .int .i64 0]))
  have hc : Hid (resetC x = 0) := by unfold Hid; simp [resetC, hok, Q1n.out, q2]
  have hd : Hid (journalReset x = (x.1, x.2.1, x.2.2.2.1 + 1, x.2.2.2.1, 0)) := by unfold Hid; rw [journalReset, hc.out]; rfl
  have hb4 : I64 (x.2.2.2.1 + 1) := ⟨by omega, by omega⟩
  have hb6 : I64 0 := ⟨by omega, by omega⟩
  have q2i : x.2.2.2.1 < (2000000000 : Int) := by omega
  go_wp2_with fail
  refine (c_copyJournal _ x _ (hv.up good_Journal uu3) hn).mono ?_
  rintro e w4 ⟨rfl, D1, d1, bl1, D2, d2, bl2, kO, s1, s2, nd1, u4⟩
  have uu4 := uu3.trans u4
  have ka_4 := ka_3.up u4
  have za_4 := ka_4.lt
  have kr_4 := kr_3.up u4
  have zr_4 := kr_4.lt
  have zO := kO.lt
  rw [Q1.out] at kO
  go_wp2_with fail
  refine (c_reset0 w3.heap.size D2 d2 _ _ _ _ _ x.2.2.2.1 _ kO q5a q2i).mono ?_
  rintro e w9 ⟨rfl, kO9, bt⟩
  have uu9 : Up w w9 := uu4.but bt (by omega)
  have kr9 := kr_4.but bt (by omega)
  have s1E : SO shS w9 (w3.heap.size + 1) w9.heap.size D1 d1 x.1.2.1 bl1 := by rw [bt.size]; exact s1.keep good_S (fun y hy => bt.block y (fun e => by have := s1.in_ good_S y hy; omega))
  have s2E : SO shPut w9 (w3.heap.size + 1) w9.heap.size D2 d2 x.1.2.2 bl2 := by rw [bt.size]; exact s2.keep good_Put (fun y hy => bt.block y (fun e => by have := s2.in_ good_Put y hy; omega))
  have ndF := nd1
  clear ga3_0 ga3_1 ga3_2 ga3_3 ga3_4 ga3_5 ga3_6 gr3_0 fr3_0 gr3_1 fr3_1 gr3_2 fr3_2 gr3_3 fr3_3 gr3_4 fr3_4 gr3_5 fr3_5 gr3_6 fr3_6
  have go9_0 : w9.cell? ⟨w3.heap.size, 0, none⟩ = some (.int .i64 x.1.1) := kO9.cell 0
  have go9_1 : w9.cell? ⟨w3.heap.size, 1, none⟩ = some (.slice D1 x.1.2.1.length d1) := kO9.cell 1
  have go9_2 : w9.cell? ⟨w3.heap.size, 2, none⟩ = some (.slice D2 0 d2) := kO9.cell 2
  have go9_3 : w9.cell? ⟨w3.heap.size, 3, none⟩ = some (.int .i64 x.2.1) := kO9.cell 3
  have go9_4 : w9.cell? ⟨w3.heap.size, 4, none⟩ = some (.int .i64 (x.2.2.2.1 + 1)) := kO9.cell 4
  have go9_5 : w9.cell? ⟨w3.heap.size, 5, none⟩ = some (.int .i64 x.2.2.2.1) := kO9.cell 5
  have go9_6 : w9.cell? ⟨w3.heap.size, 6, none⟩ = some (.int .i64 0) := kO9.cell 6
  have gr9_0 : w9.cell? ⟨w.heap.size + 1, 0, none⟩ = some (.int .i64 0) := kr9.cell 0
  have fr9_0 := kr9.frozen 0
  have gr9_1 : w9.cell? ⟨w.heap.size + 1, 1, none⟩ = some (.slice none 0 0) := kr9.cell 1
  have fr9_1 := kr9.frozen 1
  have gr9_2 : w9.cell? ⟨w.heap.size + 1, 2, none⟩ = some (.slice none 0 0) := kr9.cell 2
  have fr9_2 := kr9.frozen 2
  have gr9_3 : w9.cell? ⟨w.heap.size + 1, 3, none⟩ = some (.int .i64 0) := kr9.cell 3
  have fr9_3 := kr9.frozen 3
  have gr9_4 : w9.cell? ⟨w.heap.size + 1, 4, none⟩ = some (.int .i64 0) := kr9.cell 4
  have fr9_4 := kr9.frozen 4
  have gr9_5 : w9.cell? ⟨w.heap.size + 1, 5, none⟩ = some (.int .i64 0) := kr9.cell 5
  have fr9_5 := kr9.frozen 5
  have gr9_6 : w9.cell? ⟨w.heap.size + 1, 6, none⟩ = some (.int .i64 0) := kr9.cell 6
  have fr9_6 := kr9.frozen 6
  go_wp2_with fail
  refine bodyPost_ret (v := .tuple #[.agg #[.int .i64 x.1.1, .slice D1 x.1.2.1.length d1, .slice D2 0 d2, .int .i64 x.2.1, .int .i64 (x.2.2.2.1 + 1), .int .i64 x.2.2.2.1, .int .i64 0], .int .i64 0]) (by simp [results, Try.results45, go_sem, gr9_0, gr9_1, gr9_2, gr9_3, gr9_4, gr9_5, gr9_6]) rfl ?_
  have z1 := (s1E.set good_S (w.heap.size + 1) 0 [.int .i64 x.1.1, .slice D1 x.1.2.1.length d1, .slice D2 0 d2, .int .i64 x.2.1, .int .i64 (x.2.2.2.1 + 1), .int .i64 x.2.2.2.1, .int .i64 0] (by omega)).wide good_S (lo' := w.heap.size) (by omega) (Nat.le_refl _)
  have z2 := (s2E.set good_Put (w.heap.size + 1) 0 [.int .i64 x.1.1, .slice D1 x.1.2.1.length d1, .slice D2 0 d2, .int .i64 x.2.1, .int .i64 (x.2.2.2.1 + 1), .int .i64 x.2.2.2.1, .int .i64 0] (by omega)).wide good_Put (lo' := w.heap.size) (by omega) (Nat.le_refl _)
  have asm := ownJ (asmDisk (x0 := x.1.1) b0 z1 z2) b3 hb4 b5 hb6
  rw [Q1.out] at asm
  exact toR_of hd hc ⟨[.int .i64 x.1.1, .slice D1 x.1.2.1.length d1, .slice D2 0 d2, .int .i64 x.2.1, .int .i64 (x.2.2.2.1 + 1), .int .i64 x.2.2.2.1, .int .i64 0], _, rfl, asm, ndF, uu9.sets (g := w.heap.size + 1) (by omega) 0 [.int .i64 x.1.1, .slice D1 x.1.2.1.length d1, .slice D2 0 d2, .int .i64 x.2.1, .int .i64 (x.2.2.2.1 + 1), .int .i64 x.2.2.2.1, .int .i64 0]⟩

theorem cs_ResetJournal (v : Value) (x : TJournal) (w : World) (h : AV shJournal w v x) (hn : shJournal.sz x ≤ 1048576) : Calls Try.prog 44 #[v] w (RpR shJournal (journalReset x) (resetC x) w) := (cs0_ResetJournal v x w h hn).mono fun _ _ h => h.rp good_Journal
theorem cbg_ResetJournal (x : TJournal) (hn : shJournal.sz x ≤ 1048576) : (1 : Int) + (mmTJournal.cnt (journalReset x) : Nat) ≤ 1000000000 := by
  have h := cnt_Journal x hn
  rw [cntJ_eq] at h ⊢
  unfold journalReset
  split
  · dsimp only
    omega
  · decide
end Go.Proofs.Ytafabcabffeikaa
