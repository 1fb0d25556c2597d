/-
  ChangeOk; one change of a tree: both sides.
-/
import Derived.Test.YtehhgogmbpdpbaaGreatDoorM1Kh
namespace Go.Proofs.YtehhgogmbpdpbaaGreatDoor
open Go.RowKit
set_option linter.unusedVariables false
set_option linter.unusedSimpArgs false

def kindB (n : Int) (v : ByteArray) : Bool := if n = 1 then decide (v.size ≤ 64) else if n = 2 then decide (v = ⟨#[]⟩) else false
def changeB (c : TChange) : Bool := placeB c.2.1 c.2.2.1 && kindB c.1 c.2.2.2
set_option maxHeartbeats 8000000 in
theorem c_specChangeOk (c : TChange) (v : Value) (w : World) (h : AV shChange w v c) : Calls Tryz.prog 122 #[v] w (RetV (.bool (changeB c)) w) := by
  obtain ⟨cs, rfl, h⟩ := h
  obtain ⟨n, s, ys, val⟩ := c
  obtain ⟨A2, c2, rfl, b0, b1, b2, b3⟩ := openChange h
  dsimp only at b0 b1 b2 b3
  clear h
  have kb := Bk.new w 72 #[.int .i64 n, .string s, .slice A2 ys.length c2, .string val]
  have uu : Up w (w.alloc (.cells #[.int .i64 n, .string s, .slice A2 ys.length c2, .string val] 72)) := (Up.refl w).alloc _
  have cl := fun W (hW : Up w W) => c_l03Place s ys A2 c2 W b1 (b2.up good_S hW)
  have HA : Hid (changeB (n, s, ys, val) = (placeB s ys && kindB n val)) := rfl
  cases hp : placeB s ys
  · rw [hp] at cl
    have CL := Lib.hid cl
    have HQ : Hid (changeB (n, s, ys, val) = false) := by unfold Hid; rw [HA.out, hp]; rfl
    clear cl HA hp
    go_enter Tryz.func122, Tryz.ntmps122
    go_wp2_with fail
    refine (CL.out _ uu).mono ?_
    rintro e w1 ⟨rfl, u1⟩
    go_wp2_with fail
    go_ret
    exact ⟨by rw [HQ.out]; first | done | rfl, uu.trans u1⟩
  · rw [hp] at cl
    have CL := Lib.hid cl
    rw [hp, Bool.true_and] at HA
    clear cl hp
    unfold maxLen at b3
    by_cases h1 : n = 1
    · have HQ : Hid (changeB (n, s, ys, val) = decide ((val.size : Int) ≤ 64)) := by unfold Hid; rw [HA.out]; unfold kindB; rw [if_pos h1]; simp; omega
      subst h1
      clear HA
      go_enter Tryz.func122, Tryz.ntmps122
      go_wp2_with fail
      refine (CL.out _ uu).mono ?_
      rintro e w1 ⟨rfl, u1⟩
      have k1 := kb.up u1
      have g0 : w1.cell? ⟨w.heap.size, 0, none⟩ = some (.int .i64 1) := k1.cell 0
      have g3 : w1.cell? ⟨w.heap.size, 3, none⟩ = some (.string val) := k1.cell 3
      go_wp2_with fail
      all_goals
        go_ret
        refine ⟨?_, uu.trans u1⟩
        rw [HQ.out]
        first | done | rfl | (simp; omega)
    by_cases h2 : n = 2
    · have HQ : Hid (changeB (n, s, ys, val) = (val.toList == (ByteArray.mk #[]).toList)) := by
        unfold Hid; rw [HA.out]; unfold kindB; rw [if_neg h1, if_pos h2, str_beq]
      subst h2
      clear HA h1
      go_enter Tryz.func122, Tryz.ntmps122
      go_wp2_with fail
      refine (CL.out _ uu).mono ?_
      rintro e w1 ⟨rfl, u1⟩
      have k1 := kb.up u1
      have g0 : w1.cell? ⟨w.heap.size, 0, none⟩ = some (.int .i64 2) := k1.cell 0
      have g3 : w1.cell? ⟨w.heap.size, 3, none⟩ = some (.string val) := k1.cell 3
      go_wp2_with fail
      go_ret
      refine ⟨?_, uu.trans u1⟩
      rw [HQ.out]
      first | done | rfl | simp
    · have HQ : Hid (changeB (n, s, ys, val) = false) := by unfold Hid; rw [HA.out]; unfold kindB; rw [if_neg h1, if_neg h2]
      have e1 : (n == 1) = false := by simpa using h1
      have e2 : (n == 2) = false := by simpa using h2
      clear HA h1 h2
      go_enter Tryz.func122, Tryz.ntmps122
      go_wp2_with fail
      refine (CL.out _ uu).mono ?_
      rintro e w1 ⟨rfl, u1⟩
      have k1 := kb.up u1
      have g0 : w1.cell? ⟨w.heap.size, 0, none⟩ = some (.int .i64 n) := k1.cell 0
      have g3 : w1.cell? ⟨w.heap.size, 3, none⟩ = some (.string val) := k1.cell 3
      go_wp2_with fail
      go_ret
      refine ⟨?_, uu.trans u1⟩
      rw [HQ.out]
      first | done | rfl | simp
set_option maxHeartbeats 8000000 in
theorem c_implChangeOk (c : TChange) (v : Value) (w : World) (h : AV shChange w v c) : Calls Tryz.prog 79 #[v] w (RetV (.bool (changeB c)) w) := by
  obtain ⟨cs, rfl, h⟩ := h
  obtain ⟨n, s, ys, val⟩ := c
  obtain ⟨A2, c2, rfl, b0, b1, b2, b3⟩ := openChange h
  dsimp only at b0 b1 b2 b3
  clear h
  have kb := Bk.new w 72 #[.int .i64 n, .string s, .slice A2 ys.length c2, .string val]
  have uu : Up w (w.alloc (.cells #[.int .i64 n, .string s, .slice A2 ys.length c2, .string val] 72)) := (Up.refl w).alloc _
  have cl := fun W (hW : Up w W) => c_locationOk s ys A2 c2 W b1 (b2.up good_S hW)
  have HA : Hid (changeB (n, s, ys, val) = (placeB s ys && kindB n val)) := rfl
  cases hp : placeB s ys
  · rw [hp] at cl
    have CL := Lib.hid cl
    have HQ : Hid (changeB (n, s, ys, val) = false) := by unfold Hid; rw [HA.out, hp]; rfl
    clear cl HA hp
    go_enter Tryz.func79, Tryz.ntmps79
    go_wp2_with fail
    refine (CL.out _ uu).mono ?_
    rintro e w1 ⟨rfl, u1⟩
    go_wp2_with fail
    go_ret
    exact ⟨by rw [HQ.out]; first | done | rfl, uu.trans u1⟩
  · rw [hp] at cl
    have CL := Lib.hid cl
    rw [hp, Bool.true_and] at HA
    clear cl hp
    unfold maxLen at b3
    by_cases h1 : n = 1
    · have HQ : Hid (changeB (n, s, ys, val) = decide ((val.size : Int) ≤ 64)) := by unfold Hid; rw [HA.out]; unfold kindB; rw [if_pos h1]; simp; omega
      subst h1
      clear HA
      go_enter Tryz.func79, Tryz.ntmps79
      go_wp2_with fail
      refine (CL.out _ uu).mono ?_
      rintro e w1 ⟨rfl, u1⟩
      have k1 := kb.up u1
      have g0 : w1.cell? ⟨w.heap.size, 0, none⟩ = some (.int .i64 1) := k1.cell 0
      have g3 : w1.cell? ⟨w.heap.size, 3, none⟩ = some (.string val) := k1.cell 3
      go_wp2_with fail
      all_goals
        go_ret
        refine ⟨?_, uu.trans u1⟩
        rw [HQ.out]
        first | done | rfl | (simp; omega)
    by_cases h2 : n = 2
    · have HQ : Hid (changeB (n, s, ys, val) = (val.toList == (ByteArray.mk #[]).toList)) := by
        unfold Hid; rw [HA.out]; unfold kindB; rw [if_neg h1, if_pos h2, str_beq]
      subst h2
      clear HA h1
      go_enter Tryz.func79, Tryz.ntmps79
      go_wp2_with fail
      refine (CL.out _ uu).mono ?_
      rintro e w1 ⟨rfl, u1⟩
      have k1 := kb.up u1
      have g0 : w1.cell? ⟨w.heap.size, 0, none⟩ = some (.int .i64 2) := k1.cell 0
      have g3 : w1.cell? ⟨w.heap.size, 3, none⟩ = some (.string val) := k1.cell 3
      go_wp2_with fail
      go_ret
      refine ⟨?_, uu.trans u1⟩
      rw [HQ.out]
      first | done | rfl | simp
    · have HQ : Hid (changeB (n, s, ys, val) = false) := by unfold Hid; rw [HA.out]; unfold kindB; rw [if_neg h1, if_neg h2]
      have e1 : (n == 1) = false := by simpa using h1
      have e2 : (n == 2) = false := by simpa using h2
      clear HA h1 h2
      go_enter Tryz.func79, Tryz.ntmps79
      go_wp2_with fail
      refine (CL.out _ uu).mono ?_
      rintro e w1 ⟨rfl, u1⟩
      have k1 := kb.up u1
      have g0 : w1.cell? ⟨w.heap.size, 0, none⟩ = some (.int .i64 n) := k1.cell 0
      have g3 : w1.cell? ⟨w.heap.size, 3, none⟩ = some (.string val) := k1.cell 3
      go_wp2_with fail
      go_ret
      refine ⟨?_, uu.trans u1⟩
      rw [HQ.out]
      first | done | rfl | simp
end Go.Proofs.YtehhgogmbpdpbaaGreatDoor
