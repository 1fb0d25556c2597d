/-
  The walk of FnExactBtAfter: for every input it returns true.
-/
import Derived.Test.YtlifhbfomgbiaaaGreatDoorMRy
import Derived.Test.YtlifhbfomgbiaaaGreatDoorMJ
import Derived.Test.YtlifhbfomgbiaaaGreatDoorMLe
import Derived.Deep.RegionHeld3
namespace Go.Proofs.YtlifhbfomgbiaaaGreatDoor
open Go.RowKit
set_option linter.unusedVariables false
set_option linter.unusedSimpArgs false

theorem c_eqRecord (a b : ByteArray) (w : World) : Calls Tryz.prog 32 #[.agg #[.string a, .string b], .agg #[.string a, .string b]] w (fun e w' => e = .returned (.bool true) ∧ Up w w') := by
  have uu : Up w ((w.alloc (.cells #[.string a, .string b] 61)).alloc (.cells #[.string a, .string b] 61)) := ((Up.refl _).alloc _).alloc _
  go_enter Tryz.func32, Tryz.ntmps32
  go_wp2_with fail
  go_ret
  exact ⟨by simp, uu⟩
set_option maxRecDepth 100000 in
set_option maxHeartbeats 8000000 in
theorem w0_FnExactBtAfter (w : World) (v0 : Value) (x0 : TBtree) (h0 : AV shBtree w v0 x0) (s1 : ByteArray) (h1 : s1.size ≤ maxLen) (htab : Tab w) (hmx : MaxL w) :
    Calls Tryz.prog 8 #[v0, .string s1] w fun e w' => e = .returned (.bool true) ∧ Up w w' := by
  have hv0 := h0
  obtain ⟨cs0, rfl, h0⟩ := h0
  obtain ⟨A0_1, c0_1, rfl, _⟩ := openBtree h0
  clear h0
  have hm1 := h1; unfold maxLen at hm1
  have ka0_0 : Bk (w.alloc (.cells #[.int .i64 x0.1, .slice A0_1 x0.2.length c0_1] 50)) (w.heap.size) 50 #[.int .i64 x0.1, .slice A0_1 x0.2.length c0_1] := by simpa using Bk.new w 50 #[.int .i64 x0.1, .slice A0_1 x0.2.length c0_1]
  have uu0 : Up w (w.alloc (.cells #[.int .i64 x0.1, .slice A0_1 x0.2.length c0_1] 50)) := (Up.refl w).alloc _
  go_enter Tryz.func8, Tryz.ntmps8
  go_wp2_with fail
  · go_ret
    exact ⟨rfl, uu0⟩
  refine (c_szBtree _ x0 _ _ (hv0.up good_Btree uu0) (by omega) (by omega)).mono ?_
  rintro e w1 ⟨rfl, u1⟩
  have uu1 := uu0.trans u1
  have ka0_1 := ka0_0.up u1
  by_cases q0 : ¬ ((shBtree.sz x0 : Nat) : Int) ≤ 1048576
  · rw [szR_no (by omega)]
    go_wp2_with fail
    go_ret
    exact ⟨rfl, uu1⟩
  replace q0 := Decidable.of_not_not q0
  rw [szR_yes q0]
  have ga0_1_0 : w1.cell? ⟨w.heap.size, 0, none⟩ = some (.int .i64 x0.1) := ka0_1.cell 0
  have ga0_1_1 : w1.cell? ⟨w.heap.size, 1, none⟩ = some (.slice A0_1 x0.2.length c0_1) := ka0_1.cell 1
  have za0_1 := ka0_1.lt
  clear u1
  go_wp2_with fail
  have hn0 : shBtree.sz x0 ≤ 1048576 := by omega
  have hn1 : s1.size ≤ 1048576 := by omega
  refine (c_toBtree _ x0 _ (hv0.up good_Btree uu1) hn0).mono ?_
  rintro e w2 ⟨csp0, blp0, rfl, op0, ndp0, u2⟩
  have uu2 := uu1.trans u2
  have ka0_2 := ka0_1.up u2
  have y0_2 := AV.of_own good_Btree op0
  have ga0_2_0 : w2.cell? ⟨w.heap.size, 0, none⟩ = some (.int .i64 x0.1) := ka0_2.cell 0
  have ga0_2_1 : w2.cell? ⟨w.heap.size, 1, none⟩ = some (.slice A0_1 x0.2.length c0_1) := ka0_2.cell 1
  have za0_2 := ka0_2.lt
  clear ga0_1_0 ga0_1_1 za0_1
  go_wp2_with fail
  obtain ⟨ra, rb, rc, hr⟩ : ∃ (ra rb : ByteArray) (rc : Bool), afterV x0 s1 = .tuple #[.agg #[.string ra, .string rb], .bool rc] := ⟨_, _, _, rfl⟩
  have CS := Lib.hid (cs_BtAfter _ x0 s1 _ y0_2 hn0 h1 hn1)
  rw [hr] at CS
  have HRN := Lib.hid hr
  clear hr
  refine CS.out.mono ?_
  rintro e w3 ⟨rfl, u3⟩
  have uu3 := (uu2.trans u3).alloc (.cells #[.string ra, .string rb] 61)
  have ka0_3 := (ka0_2.up u3).alloc (.cells #[.string ra, .string rb] 61)
  have kR := Bk.new w3 61 #[.string ra, .string rb]
  have ga0_3_0 : World.cell? _ ⟨w.heap.size, 0, none⟩ = some (.int .i64 x0.1) := ka0_3.cell 0
  have ga0_3_1 : World.cell? _ ⟨w.heap.size, 1, none⟩ = some (.slice A0_1 x0.2.length c0_1) := ka0_3.cell 1
  have za0_3 := ka0_3.lt
  clear ga0_2_0 ga0_2_1 za0_2
  go_wp2_with fail
  refine (c_toBtree _ x0 _ (hv0.up good_Btree uu3) hn0).mono ?_
  rintro e w4 ⟨csx0, blx0, rfl, ox0, ndx0, u4⟩
  have uu4 := uu3.trans u4
  have ka0_4 := ka0_3.up u4
  have y0_4 := AV.of_own good_Btree ox0
  obtain ⟨D0_1, d0_1, _, rfl, _, _⟩ := openOBtree ox0
  have ga0_4_0 : w4.cell? ⟨w.heap.size, 0, none⟩ = some (.int .i64 x0.1) := ka0_4.cell 0
  have ga0_4_1 : w4.cell? ⟨w.heap.size, 1, none⟩ = some (.slice A0_1 x0.2.length c0_1) := ka0_4.cell 1
  have za0_4 := ka0_4.lt
  clear ga0_3_0 ga0_3_1 za0_3
  have ka0_4b := ka0_4.alloc (.cells #[.int .i64 x0.1, .slice D0_1 x0.2.length d0_1] 39)
  have kx0_4b : Bk (w4.alloc (.cells #[.int .i64 x0.1, .slice D0_1 x0.2.length d0_1] 39)) w4.heap.size 39 #[.int .i64 x0.1, .slice D0_1 x0.2.length d0_1] := Bk.new _ _ _
  have uu4b := uu4.alloc (.cells #[.int .i64 x0.1, .slice D0_1 x0.2.length d0_1] 39)
  have y0_4b := y0_4.up good_Btree ((Up.refl _).alloc (.cells #[.int .i64 x0.1, .slice D0_1 x0.2.length d0_1] 39))
  go_wp2_with fail
  have CI := Lib.hid (ci_BtAfter _ x0 s1 _ y0_4b hn0 h1 hn1 (tab_up htab uu4b) (maxL_up hmx uu4b))
  rw [HRN.out] at CI
  refine CI.out.mono ?_
  rintro e w5a ⟨rfl, u5a⟩
  have uu5a := (uu4b.trans u5a).alloc (.cells #[.string ra, .string rb] 61)
  have kR2 := Bk.new w5a 61 #[.string ra, .string rb]
  have kR1 := ((((kR.up u4).alloc (.cells #[.int .i64 x0.1, .slice D0_1 x0.2.length d0_1] 39)).up u5a).alloc (.cells #[.string ra, .string rb] 61))
  have ka0_5a := (ka0_4b.up u5a).alloc (.cells #[.string ra, .string rb] 61)
  have kx0_5a := (kx0_4b.up u5a).alloc (.cells #[.string ra, .string rb] 61)
  have y0_5a := (y0_4b.up good_Btree u5a).up good_Btree ((Up.refl _).alloc (.cells #[.string ra, .string rb] 61))
  have q0 : World.cell? _ ⟨w5a.heap.size, 0, none⟩ = some (.string ra) := kR2.cell 0
  have q1 : World.cell? _ ⟨w5a.heap.size, 1, none⟩ = some (.string rb) := kR2.cell 1
  have r0 : World.cell? _ ⟨w3.heap.size, 0, none⟩ = some (.string ra) := kR1.cell 0
  have r1 : World.cell? _ ⟨w3.heap.size, 1, none⟩ = some (.string rb) := kR1.cell 1
  clear CS CI
  go_wp2_with fail
  refine (c_eqRecord ra rb _).mono ?_
  rintro e w5 ⟨rfl, u5⟩
  have uu5 := uu5a.trans u5
  have ka0_5 := ka0_5a.up u5
  have kx0_5 := kx0_5a.up u5
  have y0_5 := y0_5a.up good_Btree u5
  clear q0 q1 r0 r1
  have ga0_5_0 : w5.cell? ⟨w.heap.size, 0, none⟩ = some (.int .i64 x0.1) := ka0_5.cell 0
  have ga0_5_1 : w5.cell? ⟨w.heap.size, 1, none⟩ = some (.slice A0_1 x0.2.length c0_1) := ka0_5.cell 1
  have za0_5 := ka0_5.lt
  have gx0_5_0 : w5.cell? ⟨w4.heap.size, 0, none⟩ = some (.int .i64 x0.1) := kx0_5.cell 0
  have gx0_5_1 : w5.cell? ⟨w4.heap.size, 1, none⟩ = some (.slice D0_1 x0.2.length d0_1) := kx0_5.cell 1
  have zx0_5 := kx0_5.lt
  clear ga0_4_0 ga0_4_1 za0_4
  go_wp2_with fail
  go_region_held3 (fun W => W.cell? ⟨w.heap.size, 0, none⟩ = some (.int .i64 x0.1) ∧ W.cell? ⟨w.heap.size, 1, none⟩ = some (.slice A0_1 x0.2.length c0_1) ∧ W.cell? ⟨w4.heap.size, 0, none⟩ = some (.int .i64 x0.1) ∧ W.cell? ⟨w4.heap.size, 1, none⟩ = some (.slice D0_1 x0.2.length d0_1)) (first | exact ⟨ka0_5.cell 0, ka0_5.cell 1, kx0_5.cell 0, kx0_5.cell 1⟩ | exact ⟨ka0_e0.cell 0, ka0_e0.cell 1, kx0_e0.cell 0, kx0_e0.cell 1⟩ | exact ⟨ka0_6.cell 0, ka0_6.cell 1, kx0_6.cell 0, kx0_6.cell 1⟩) (first | (go_at_call 23; (with_reducible refine (c_toBtree _ x0 _ (hv0.up good_Btree uu5.drew) hn0).mono ?_); rintro e we0 ⟨cse0, ble0, rfl, oe0, nde0, ue0⟩; have uue0 := uu5.drew.trans ue0; have ka0_e0 := ka0_5.drew.up ue0; have kx0_e0 := kx0_5.drew.up ue0; have y0_e0 := (y0_5.up good_Btree (Up.refl _).drew).up good_Btree ue0; have yc0 := AV.of_own good_Btree oe0) | (go_at_call 25; (with_reducible refine (c_eqBtree _ _ x0 x0 _ y0_e0 yc0).mono ?_); rintro e w6 ⟨be0, rfl, hbe0, u6⟩; have uu6 := uue0.trans u6; have ka0_6 := ka0_e0.up u6; have kx0_6 := kx0_e0.up u6))
  have y0_6 := y0_5.up good_Btree (((Up.refl w5).drew.trans ue0).trans u6)
  obtain rfl : be0 = true := by simpa using hbe0
  clear hbe0
  have ga0_6_0 : w6.cell? ⟨w.heap.size, 0, none⟩ = some (.int .i64 x0.1) := ka0_6.cell 0
  have ga0_6_1 : w6.cell? ⟨w.heap.size, 1, none⟩ = some (.slice A0_1 x0.2.length c0_1) := ka0_6.cell 1
  have za0_6 := ka0_6.lt
  have gx0_6_0 : w6.cell? ⟨w4.heap.size, 0, none⟩ = some (.int .i64 x0.1) := kx0_6.cell 0
  have gx0_6_1 : w6.cell? ⟨w4.heap.size, 1, none⟩ = some (.slice D0_1 x0.2.length d0_1) := kx0_6.cell 1
  have zx0_6 := kx0_6.lt
  clear ga0_5_0 ga0_5_1 za0_5 gx0_5_0 gx0_5_1 zx0_5
  go_wp2_with fail
  go_ret
  exact ⟨rfl, uu6⟩
end Go.Proofs.YtlifhbfomgbiaaaGreatDoor
