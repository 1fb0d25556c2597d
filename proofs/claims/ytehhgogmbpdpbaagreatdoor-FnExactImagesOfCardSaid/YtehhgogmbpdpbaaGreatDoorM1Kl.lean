/-
  DoChange: both sides' contracts.
-/
import Derived.Test.YtehhgogmbpdpbaaGreatDoorM1Kj
namespace Go.Proofs.YtehhgogmbpdpbaaGreatDoor
open Go.RowKit
set_option linter.unusedVariables false
set_option linter.unusedSimpArgs false

def doChangeC (x : TTree) (c : TChange) : Int := if treeB x = true ∧ changeB c = true then doC x c else 1
def doChange (x : TTree) (c : TChange) : TTree := if doChangeC x c = 0 then doK x c else []
theorem doChange_no {x : TTree} {c : TChange} (h : ¬ (treeB x = true ∧ changeB c = true)) : Hid (doChange x c = []) ∧ Hid (doChangeC x c = 1) := by
  have hc : doChangeC x c = 1 := by unfold doChangeC; rw [if_neg h]
  exact ⟨by unfold Hid doChange; rw [hc]; rfl, hc⟩
theorem doChange_yes {x : TTree} {c : TChange} (h : treeB x = true ∧ changeB c = true) : Hid (doChange x c = doR x c) ∧ Hid (doChangeC x c = doC x c) := by
  have hc : doChangeC x c = doC x c := by unfold doChangeC; rw [if_pos h]
  exact ⟨by unfold Hid doChange doR; rw [hc], hc⟩
theorem doChange_P {x : TTree} {c : TChange} : TreeP (doChange x c) := by
  by_cases h : treeB x = true ∧ changeB c = true
  · rw [(doChange_yes h).1.out]; exact doR_P (treeP_of h.1) h.2
  · rw [(doChange_no h).1.out]; exact treeP_nil
theorem changeB_len {c : TChange} (h : changeB c = true) : c.2.2.1.length ≤ 4 := subs_len (changeB_place h)
set_option maxRecDepth 100000 in
set_option maxHeartbeats 8000000 in
theorem c_specDoChange (v : Value) (x : TTree) (u : Value) (c : TChange) (w : World) (h : AV shTree w v x) (hn : shTree.sz x ≤ 1048576) (k : AV shChange w u c) :
    Calls Tryz.prog 72 #[v, u] w (ToR shTree (doChange x c) (doChangeC x c) w) := by
  have hvv := h
  have hkk := k
  obtain ⟨cs, rfl, h⟩ := h
  obtain ⟨A0, c0, rfl, b00⟩ := openTree h
  clear h
  obtain ⟨n, s, ys, val⟩ := c
  obtain ⟨ds, rfl, k⟩ := k
  obtain ⟨A2, c2, rfl, b0, b1, b2, b3⟩ := openChange k
  dsimp only at b0 b1 b2 b3
  clear k
  obtain ⟨W0, hW0⟩ : ∃ W0, W0 = (((w.alloc (.cells #[.slice A0 x.length c0] 33)).alloc (.cells #[.int .i64 n, .string s, .slice A2 ys.length c2, .string val] 72)).alloc (.cells #[.slice none 0 0] 33)) := ⟨_, rfl⟩
  have u0 : Up w W0 := by rw [hW0]; exact (((Up.refl w).alloc _).alloc _).alloc _
  have ka0 : Bk W0 w.heap.size 33 #[.slice A0 x.length c0] := by rw [hW0]; exact ((Bk.new _ _ _).alloc _).alloc _
  have kc0 : Bk W0 (w.heap.size + 1) 72 #[.int .i64 n, .string s, .slice A2 ys.length c2, .string val] := by
    rw [hW0]
    have := (Bk.new (w.alloc (.cells #[.slice A0 x.length c0] 33)) 72 #[.int .i64 n, .string s, .slice A2 ys.length c2, .string val]).alloc (.cells #[.slice none 0 0] 33)
    simpa using this
  have kr0 : Bk W0 (w.heap.size + 1 + 1) 33 #[.slice none 0 0] := by
    rw [hW0]
    have := Bk.new ((w.alloc (.cells #[.slice A0 x.length c0] 33)).alloc (.cells #[.int .i64 n, .string s, .slice A2 ys.length c2, .string val] 72)) 33 #[.slice none 0 0]
    simpa using this
  have hs0 : W0.heap.size = w.heap.size + 3 := by rw [hW0]; simp
  have ct := fun W (hW : Up w W) => c_specTreeOk _ x W (hvv.up good_Tree hW) hn
  have cc := fun W (hW : Up w W) => c_specChangeOk (n, s, ys, val) _ W (hkk.up good_Change hW)
  have CTC := Lib.hid ct
  have CCC := Lib.hid cc
  have ga := ka0.cell 0
  have gc0 := kc0.cell 0
  have gc1 := kc0.cell 1
  have gc2 := kc0.cell 2
  have gc3 := kc0.cell 3
  clear ct cc
  cases ht : treeB x
  · obtain ⟨HR, HC⟩ := doChange_no (x := x) (c := (n, s, ys, val)) (by simp [ht])
    have CT := CTC.out
    rw [ht] at CT
    replace CT := Lib.hid CT
    clear CTC CCC ht ga gc0 gc1 gc2 gc3
    go_enter Tryz.func72, Tryz.ntmps72
    go_wp2_with fail
    rw [← hW0]
    refine (CT.out _ u0).mono ?_
    rintro e w1 ⟨rfl, u1⟩
    have kr1 := kr0.up u1
    have gr1 := kr1.cell 0
    have fr1 := kr1.frozen 0
    clear hW0
    go_wp2_with fail
    refine bodyPost_ret (v := .tuple #[.agg #[.slice none 0 0], .int .i64 1]) (by simp [results, Tryz.results72, go_sem, gr1]) rfl ?_
    exact toR_eq HR HC (zeroTree _ _ _ ((u0.trans u1).setCell (by simp; omega) _))
  cases hc : changeB (n, s, ys, val)
  · obtain ⟨HR, HC⟩ := doChange_no (x := x) (c := (n, s, ys, val)) (by simp [hc])
    have CT := CTC.out
    rw [ht] at CT
    replace CT := Lib.hid CT
    have CC := CCC.out
    rw [hc] at CC
    replace CC := Lib.hid CC
    clear CTC CCC ht hc ga gc0 gc1 gc2 gc3
    go_enter Tryz.func72, Tryz.ntmps72
    go_wp2_with fail
    rw [← hW0]
    refine (CT.out _ u0).mono ?_
    rintro e w1 ⟨rfl, u1⟩
    have kc1 := kc0.up u1
    have ec0 : w1.cell? ⟨w.heap.size + 1, 0, none⟩ = some (.int .i64 n) := kc1.cell 0
    have ec1 : w1.cell? ⟨w.heap.size + 1, 1, none⟩ = some (.string s) := kc1.cell 1
    have ec2 : w1.cell? ⟨w.heap.size + 1, 2, none⟩ = some (.slice A2 ys.length c2) := kc1.cell 2
    have ec3 : w1.cell? ⟨w.heap.size + 1, 3, none⟩ = some (.string val) := kc1.cell 3
    clear hW0
    go_wp2_with fail
    refine (CC.out _ (u0.trans u1)).mono ?_
    rintro e w2 ⟨rfl, u2⟩
    have kr2 := (kr0.up u1).up u2
    have gr2 := kr2.cell 0
    have fr2 := kr2.frozen 0
    go_wp2_with fail
    refine bodyPost_ret (v := .tuple #[.agg #[.slice none 0 0], .int .i64 1]) (by simp [results, Tryz.results72, go_sem, gr2]) rfl ?_
    exact toR_eq HR HC (zeroTree _ _ _ (((u0.trans u1).trans u2).setCell (by simp; omega) _))
  · obtain ⟨HR, HC⟩ := doChange_yes (x := x) (c := (n, s, ys, val)) ⟨ht, hc⟩
    have CT := CTC.out
    rw [ht] at CT
    replace CT := Lib.hid CT
    have CC := CCC.out
    rw [hc] at CC
    replace CC := Lib.hid CC
    have hTP := treeP_of ht
    have cdo := fun W (hW : Up w W) => c_l03Do x _ (n, s, ys, val) _ W (hvv.up good_Tree hW) (hkk.up good_Change hW) (by have := hTP.1; omega) (treeP_subs hTP) (by have := changeB_len hc; omega)
    have CDO := Lib.hid cdo
    clear CTC CCC cdo hTP ht hc ga gc0 gc1 gc2 gc3
    generalize doR x (n, s, ys, val) = R at *
    generalize doC x (n, s, ys, val) = Q at *
    go_enter Tryz.func72, Tryz.ntmps72
    go_wp2_with fail
    rw [← hW0]
    refine (CT.out _ u0).mono ?_
    rintro e w1 ⟨rfl, u1⟩
    have kc1 := kc0.up u1
    have ec0 : w1.cell? ⟨w.heap.size + 1, 0, none⟩ = some (.int .i64 n) := kc1.cell 0
    have ec1 : w1.cell? ⟨w.heap.size + 1, 1, none⟩ = some (.string s) := kc1.cell 1
    have ec2 : w1.cell? ⟨w.heap.size + 1, 2, none⟩ = some (.slice A2 ys.length c2) := kc1.cell 2
    have ec3 : w1.cell? ⟨w.heap.size + 1, 3, none⟩ = some (.string val) := kc1.cell 3
    clear hW0
    go_wp2_with fail
    refine (CC.out _ (u0.trans u1)).mono ?_
    rintro e w2 ⟨rfl, u2⟩
    have kc2 := kc1.up u2
    have ga2 : w2.cell? ⟨w.heap.size, 0, none⟩ = some (.slice A0 x.length c0) := ((ka0.up u1).up u2).cell 0
    have dc0 : w2.cell? ⟨w.heap.size + 1, 0, none⟩ = some (.int .i64 n) := kc2.cell 0
    have dc1 : w2.cell? ⟨w.heap.size + 1, 1, none⟩ = some (.string s) := kc2.cell 1
    have dc2 : w2.cell? ⟨w.heap.size + 1, 2, none⟩ = some (.slice A2 ys.length c2) := kc2.cell 2
    have dc3 : w2.cell? ⟨w.heap.size + 1, 3, none⟩ = some (.string val) := kc2.cell 3
    have uu2 := (u0.trans u1).trans u2
    go_wp2_with fail
    refine (CDO.out _ uu2).mono ?_
    rintro e w3 ⟨cs3, bl3, rfl, o3, nd3, u3⟩
    obtain ⟨D3, d3, _, rfl, rfl, o4⟩ := openOTree o3
    have kr3 := ((kr0.up u1).up u2).up u3
    have gr3 : w3.cell? ⟨w.heap.size + 1 + 1, 0, none⟩ = some (.slice none 0 0) := kr3.cell 0
    have fr3 : w3.frozen? ⟨w.heap.size + 1 + 1, 0, none⟩ = false := kr3.frozen 0
    have hk2 := ((kr0.up u1).up u2).lt
    go_wp2_with fail
    have z4 := (o4.set good_Node (w.heap.size + 1 + 1) 0 [.slice D3 R.length d3] hk2).wide good_Node (lo' := w.heap.size) (by omega) (Nat.le_refl _)
    refine bodyPost_ret (v := .tuple #[.agg #[.slice D3 R.length d3], .int .i64 Q]) (by simp [results, Tryz.results72, go_sem, gr3]) rfl ?_
    exact toR_eq HR HC ⟨[.slice D3 R.length d3], _, rfl, mkOTree z4, nd3, (uu2.trans u3).setCell (by simp; omega) _⟩
end Go.Proofs.YtehhgogmbpdpbaaGreatDoor
