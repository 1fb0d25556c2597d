/-
  The walk of FnExactUnlike: for every input it returns true.
-/
import Derived.Test.YtgdcdfpnogiciaaUg
import Derived.Test.YtgdcdfpnogiciaaLz
import Derived.Test.YtgdcdfpnogiciaaLe
import Derived.Test.YtgdcdfpnogiciaaLt
import Derived.Test.YtgdcdfpnogiciaaLm
import Derived.Test.YtgdcdfpnogiciaaLd
import Derived.Deep.RegionHeld3
namespace Go.Proofs.Ytgdcdfpnogiciaa
open Go.RowKit
set_option linter.unusedVariables false
set_option linter.unusedSimpArgs false

set_option maxRecDepth 100000 in
set_option maxHeartbeats 16000000 in
theorem w0_FnExactUnlike (w : World) (v0 : Value) (x0 : TBtree) (h0 : AV shBtree w v0 x0) (v1 : Value) (x1 : TBtree) (h1 : AV shBtree w v1 x1) :
    Calls Try.prog 4 #[v0, v1] w fun e w' => e = .returned (.bool true) ∧ Up w w' := by
  have hv0 := h0
  obtain ⟨cs0, rfl, h0⟩ := h0
  obtain ⟨A0_1, c0_1, rfl, _⟩ := openBtree h0
  clear h0
  have hv1 := h1
  obtain ⟨cs1, rfl, h1⟩ := h1
  obtain ⟨A1_1, c1_1, rfl, _⟩ := openBtree h1
  clear h1
  have ka0_0 : Bk ((w.alloc (.cells #[.int .i64 x0.1, .slice A0_1 x0.2.length c0_1] 31)).alloc (.cells #[.int .i64 x1.1, .slice A1_1 x1.2.length c1_1] 31)) (w.heap.size) 31 #[.int .i64 x0.1, .slice A0_1 x0.2.length c0_1] := by simpa using (Bk.new w 31 #[.int .i64 x0.1, .slice A0_1 x0.2.length c0_1]).alloc (.cells #[.int .i64 x1.1, .slice A1_1 x1.2.length c1_1] 31)
  have ka1_0 : Bk ((w.alloc (.cells #[.int .i64 x0.1, .slice A0_1 x0.2.length c0_1] 31)).alloc (.cells #[.int .i64 x1.1, .slice A1_1 x1.2.length c1_1] 31)) (w.heap.size + 1) 31 #[.int .i64 x1.1, .slice A1_1 x1.2.length c1_1] := by simpa using Bk.new (w.alloc (.cells #[.int .i64 x0.1, .slice A0_1 x0.2.length c0_1] 31)) 31 #[.int .i64 x1.1, .slice A1_1 x1.2.length c1_1]
  have uu0 : Up w ((w.alloc (.cells #[.int .i64 x0.1, .slice A0_1 x0.2.length c0_1] 31)).alloc (.cells #[.int .i64 x1.1, .slice A1_1 x1.2.length c1_1] 31)) := ((Up.refl w).alloc _).alloc _
  have zs0 := uu0.size
  have zs0b : ((w.alloc (.cells #[.int .i64 x0.1, .slice A0_1 x0.2.length c0_1] 31)).alloc (.cells #[.int .i64 x1.1, .slice A1_1 x1.2.length c1_1] 31)).heap.size = w.heap.size + 1 + 1 := by simp
  go_enter Try.func4, Try.ntmps4
  go_wp2_with fail
  refine (c_szBtree _ x0 _ _ (hv0.up good_Btree uu0) (by omega) (by omega)).mono ?_
  rintro e w1 ⟨rfl, u1⟩
  have uu1 := uu0.trans u1
  have zs1 := u1.size
  have ka0_1 := ka0_0.up u1
  have ka1_1 := ka1_0.up u1
  by_cases q0 : ¬ ((shBtree.sz x0 : Nat) : Int) ≤ 1048576
  · rw [szR_no (by omega)]
    go_wp2_with fail
    go_ret
    exact ⟨rfl, uu1⟩
  replace q0 := Decidable.of_not_not q0
  rw [szR_yes q0]
  have ga0_1_0 : w1.cell? ⟨w.heap.size, 0, none⟩ = some (.int .i64 x0.1) := ka0_1.cell 0
  have ga0_1_1 : w1.cell? ⟨w.heap.size, 1, none⟩ = some (.slice A0_1 x0.2.length c0_1) := ka0_1.cell 1
  have zza0_1 := ka0_1.lt
  have ga1_1_0 : w1.cell? ⟨w.heap.size + 1, 0, none⟩ = some (.int .i64 x1.1) := ka1_1.cell 0
  have ga1_1_1 : w1.cell? ⟨w.heap.size + 1, 1, none⟩ = some (.slice A1_1 x1.2.length c1_1) := ka1_1.cell 1
  have zza1_1 := ka1_1.lt
  clear u1
  go_wp2_with fail
  refine (c_szBtree _ x1 _ _ (hv1.up good_Btree uu1) (by omega) (by omega)).mono ?_
  rintro e w2 ⟨rfl, u2⟩
  have uu2 := uu1.trans u2
  have zs2 := u2.size
  have ka0_2 := ka0_1.up u2
  have ka1_2 := ka1_1.up u2
  by_cases q1 : ¬ ((shBtree.sz x1 : Nat) : Int) ≤ 1048576 - (shBtree.sz x0 : Nat)
  · rw [szR_no (by omega)]
    go_wp2_with fail
    go_ret
    exact ⟨rfl, uu2⟩
  replace q1 := Decidable.of_not_not q1
  rw [szR_yes q1]
  clear ga0_1_0 ga0_1_1 zza0_1 ga1_1_0 ga1_1_1 zza1_1
  have ga0_2_0 : w2.cell? ⟨w.heap.size, 0, none⟩ = some (.int .i64 x0.1) := ka0_2.cell 0
  have ga0_2_1 : w2.cell? ⟨w.heap.size, 1, none⟩ = some (.slice A0_1 x0.2.length c0_1) := ka0_2.cell 1
  have zza0_2 := ka0_2.lt
  have ga1_2_0 : w2.cell? ⟨w.heap.size + 1, 0, none⟩ = some (.int .i64 x1.1) := ka1_2.cell 0
  have ga1_2_1 : w2.cell? ⟨w.heap.size + 1, 1, none⟩ = some (.slice A1_1 x1.2.length c1_1) := ka1_2.cell 1
  have zza1_2 := ka1_2.lt
  clear u2
  go_wp2_with fail
  have hn0 : shBtree.sz x0 ≤ 1048576 := by omega
  have hn1 : shBtree.sz x1 ≤ 1048576 := by omega
  have v2 := (Up.refl w2).drew
  have hc2 : ∀ W : World, Up w2 W → W.cell? ⟨w.heap.size, 0, none⟩ = some (.int .i64 x0.1) ∧ W.cell? ⟨w.heap.size, 1, none⟩ = some (.slice A0_1 x0.2.length c0_1) ∧ W.cell? ⟨w.heap.size + 1, 0, none⟩ = some (.int .i64 x1.1) ∧ W.cell? ⟨w.heap.size + 1, 1, none⟩ = some (.slice A1_1 x1.2.length c1_1) := fun W v => ⟨(ka0_2.up v).cell 0, (ka0_2.up v).cell 1, (ka1_2.up v).cell 0, (ka1_2.up v).cell 1⟩
  have HC2 := Lib.hid hc2
  clear hc2
  go_region_held3 (fun W => W.cell? ⟨w.heap.size, 0, none⟩ = some (.int .i64 x0.1) ∧ W.cell? ⟨w.heap.size, 1, none⟩ = some (.slice A0_1 x0.2.length c0_1) ∧ W.cell? ⟨w.heap.size + 1, 0, none⟩ = some (.int .i64 x1.1) ∧ W.cell? ⟨w.heap.size + 1, 1, none⟩ = some (.slice A1_1 x1.2.length c1_1))
    (first | with_reducible exact HC2.out _ v2 | with_reducible exact HC2.out _ v3 | with_reducible exact HC2.out _ v4 | with_reducible exact HC2.out _ v5)
    (first
      | (go_at_call 12; (with_reducible refine (c_toBtree _ x0 _ (hv0.up good_Btree (uu2.trans v2)) hn0).mono ?_); rintro e w3 ⟨csp0, blp0, rfl, op0, ndp0, u3⟩; obtain ⟨Dp0_1, dp0_1, _, rfl, _, _⟩ := openOBtree op0; have v3 := v2.trans u3; have yp0 := AV.of_own good_Btree op0)
      | (go_at_call 12; (with_reducible refine (c_toBtree _ x1 _ (hv1.up good_Btree (uu2.trans v3)) hn1).mono ?_); rintro e w4 ⟨csp1, blp1, rfl, op1, ndp1, u4⟩; obtain ⟨Dp1_1, dp1_1, _, rfl, _, _⟩ := openOBtree op1; have v4 := v3.trans u4; have yp1 := AV.of_own good_Btree op1; have yp0 := AV.up good_Btree yp0 u4)
      | (go_at_call 11; (with_reducible refine (cs_Unlike _ x0 _ x1 _ yp0 hn0 yp1 hn1).mono ?_); rintro e w5 ⟨Ds, ds, rfl, oos, u5⟩; have v5 := v4.trans u5))
  have os : (shL shI).rep w5 0 w5.heap.size [.slice Ds (unlikeL x0.2 x1.2).length ds] (unlikeL x0.2 x1.2) := ⟨_, _, rfl, oos⟩
  have uu5 := uu2.trans v5
  have zs5 : w2.heap.size ≤ w5.heap.size := v5.size
  have zt5 : w2.heap.size ≤ w4.heap.size := v4.size
  have ka0_5 := ka0_2.up v5
  have ka1_5 := ka1_2.up v5
  clear v2 v3 v4 v5 HC2
  clear ga0_2_0 ga0_2_1 zza0_2 ga1_2_0 ga1_2_1 zza1_2
  have ga0_5_0 : w5.cell? ⟨w.heap.size, 0, none⟩ = some (.int .i64 x0.1) := ka0_5.cell 0
  have ga0_5_1 : w5.cell? ⟨w.heap.size, 1, none⟩ = some (.slice A0_1 x0.2.length c0_1) := ka0_5.cell 1
  have zza0_5 := ka0_5.lt
  have ga1_5_0 : w5.cell? ⟨w.heap.size + 1, 0, none⟩ = some (.int .i64 x1.1) := ka1_5.cell 0
  have ga1_5_1 : w5.cell? ⟨w.heap.size + 1, 1, none⟩ = some (.slice A1_1 x1.2.length c1_1) := ka1_5.cell 1
  have zza1_5 := ka1_5.lt
  go_wp2_with fail
  refine (c_toBtree _ x0 _ (hv0.up good_Btree uu5) hn0).mono ?_
  rintro e w6 ⟨csx0, blx0, rfl, ox0, ndx0, u6⟩
  obtain ⟨Dx0_1, dx0_1, _, rfl, _, _⟩ := openOBtree ox0
  have uu6 := uu5.trans u6
  have zs6 := u6.size
  have ka0_6 := ka0_5.up u6
  have ka1_6 := ka1_5.up u6
  have os_6 := (good_L good_I).keep os (u6.keeps (by omega))
  clear ga0_5_0 ga0_5_1 zza0_5 ga1_5_0 ga1_5_1 zza1_5
  have ga0_6_0 : w6.cell? ⟨w.heap.size, 0, none⟩ = some (.int .i64 x0.1) := ka0_6.cell 0
  have ga0_6_1 : w6.cell? ⟨w.heap.size, 1, none⟩ = some (.slice A0_1 x0.2.length c0_1) := ka0_6.cell 1
  have zza0_6 := ka0_6.lt
  have ga1_6_0 : w6.cell? ⟨w.heap.size + 1, 0, none⟩ = some (.int .i64 x1.1) := ka1_6.cell 0
  have ga1_6_1 : w6.cell? ⟨w.heap.size + 1, 1, none⟩ = some (.slice A1_1 x1.2.length c1_1) := ka1_6.cell 1
  have zza1_6 := ka1_6.lt
  have ua6 : Up w6 (w6.alloc (.cells #[.int .i64 x0.1, .slice Dx0_1 x0.2.length dx0_1] 37)) := (Up.alloc (Up.refl w6) (.cells #[.int .i64 x0.1, .slice Dx0_1 x0.2.length dx0_1] 37))
  have za6 : (w6.alloc (.cells #[.int .i64 x0.1, .slice Dx0_1 x0.2.length dx0_1] 37)).heap.size = w6.heap.size + 1 := by simp
  have ub6 := uu6.trans ua6
  have ka0_6b := ka0_6.up ua6
  have ka1_6b := ka1_6.up ua6
  have os_6b := (good_L good_I).keep os_6 (ua6.keeps (by omega))
  clear os_6
  have ox0_6b := good_Btree.own_keep ox0 (fun y hy => ua6.block y (Nat.lt_of_lt_of_le (good_Btree.own_in ox0 y hy).2 (by omega)))
  have kx0_6b : Bk (w6.alloc (.cells #[.int .i64 x0.1, .slice Dx0_1 x0.2.length dx0_1] 37)) (w6.heap.size) 37 #[.int .i64 x0.1, .slice Dx0_1 x0.2.length dx0_1] := Bk.new _ _ _
  clear ga0_6_0 ga0_6_1 zza0_6 ga1_6_0 ga1_6_1 zza1_6
  have ga0_6_0 : (w6.alloc (.cells #[.int .i64 x0.1, .slice Dx0_1 x0.2.length dx0_1] 37)).cell? ⟨w.heap.size, 0, none⟩ = some (.int .i64 x0.1) := ka0_6b.cell 0
  have ga0_6_1 : (w6.alloc (.cells #[.int .i64 x0.1, .slice Dx0_1 x0.2.length dx0_1] 37)).cell? ⟨w.heap.size, 1, none⟩ = some (.slice A0_1 x0.2.length c0_1) := ka0_6b.cell 1
  have zza0_6 := ka0_6b.lt
  have ga1_6_0 : (w6.alloc (.cells #[.int .i64 x0.1, .slice Dx0_1 x0.2.length dx0_1] 37)).cell? ⟨w.heap.size + 1, 0, none⟩ = some (.int .i64 x1.1) := ka1_6b.cell 0
  have ga1_6_1 : (w6.alloc (.cells #[.int .i64 x0.1, .slice Dx0_1 x0.2.length dx0_1] 37)).cell? ⟨w.heap.size + 1, 1, none⟩ = some (.slice A1_1 x1.2.length c1_1) := ka1_6b.cell 1
  have zza1_6 := ka1_6b.lt
  have gx0_6_0 : (w6.alloc (.cells #[.int .i64 x0.1, .slice Dx0_1 x0.2.length dx0_1] 37)).cell? ⟨w6.heap.size, 0, none⟩ = some (.int .i64 x0.1) := kx0_6b.cell 0
  have gx0_6_1 : (w6.alloc (.cells #[.int .i64 x0.1, .slice Dx0_1 x0.2.length dx0_1] 37)).cell? ⟨w6.heap.size, 1, none⟩ = some (.slice Dx0_1 x0.2.length dx0_1) := kx0_6b.cell 1
  have zzx0_6 := kx0_6b.lt
  go_wp2_with fail
  refine (c_toBtree _ x1 _ (hv1.up good_Btree ub6) hn1).mono ?_
  rintro e w7 ⟨csx1, blx1, rfl, ox1, ndx1, u7⟩
  obtain ⟨Dx1_1, dx1_1, _, rfl, _, _⟩ := openOBtree ox1
  have uu7 := ub6.trans u7
  have zs7 := u7.size
  have ka0_7 := ka0_6b.up u7
  have ka1_7 := ka1_6b.up u7
  have kx0_7 := kx0_6b.up u7
  have os_7 := (good_L good_I).keep os_6b (u7.keeps (by omega))
  clear os_6b
  have ox0_7 := good_Btree.own_keep ox0_6b (fun y hy => u7.block y (Nat.lt_of_lt_of_le (good_Btree.own_in ox0_6b y hy).2 (by omega)))
  clear ox0_6b
  clear ga0_6_0 ga0_6_1 zza0_6 ga1_6_0 ga1_6_1 zza1_6 gx0_6_0 gx0_6_1 zzx0_6
  have ga0_7_0 : w7.cell? ⟨w.heap.size, 0, none⟩ = some (.int .i64 x0.1) := ka0_7.cell 0
  have ga0_7_1 : w7.cell? ⟨w.heap.size, 1, none⟩ = some (.slice A0_1 x0.2.length c0_1) := ka0_7.cell 1
  have zza0_7 := ka0_7.lt
  have ga1_7_0 : w7.cell? ⟨w.heap.size + 1, 0, none⟩ = some (.int .i64 x1.1) := ka1_7.cell 0
  have ga1_7_1 : w7.cell? ⟨w.heap.size + 1, 1, none⟩ = some (.slice A1_1 x1.2.length c1_1) := ka1_7.cell 1
  have zza1_7 := ka1_7.lt
  have gx0_7_0 : w7.cell? ⟨w6.heap.size, 0, none⟩ = some (.int .i64 x0.1) := kx0_7.cell 0
  have gx0_7_1 : w7.cell? ⟨w6.heap.size, 1, none⟩ = some (.slice Dx0_1 x0.2.length dx0_1) := kx0_7.cell 1
  have zzx0_7 := kx0_7.lt
  have ua7 : Up w7 (w7.alloc (.cells #[.int .i64 x1.1, .slice Dx1_1 x1.2.length dx1_1] 37)) := (Up.alloc (Up.refl w7) (.cells #[.int .i64 x1.1, .slice Dx1_1 x1.2.length dx1_1] 37))
  have za7 : (w7.alloc (.cells #[.int .i64 x1.1, .slice Dx1_1 x1.2.length dx1_1] 37)).heap.size = w7.heap.size + 1 := by simp
  have ub7 := uu7.trans ua7
  have ka0_7b := ka0_7.up ua7
  have ka1_7b := ka1_7.up ua7
  have kx0_7b := kx0_7.up ua7
  have os_7b := (good_L good_I).keep os_7 (ua7.keeps (by omega))
  clear os_7
  have ox0_7b := good_Btree.own_keep ox0_7 (fun y hy => ua7.block y (Nat.lt_of_lt_of_le (good_Btree.own_in ox0_7 y hy).2 (by omega)))
  clear ox0_7
  have ox1_7b := good_Btree.own_keep ox1 (fun y hy => ua7.block y (Nat.lt_of_lt_of_le (good_Btree.own_in ox1 y hy).2 (by omega)))
  have kx1_7b : Bk (w7.alloc (.cells #[.int .i64 x1.1, .slice Dx1_1 x1.2.length dx1_1] 37)) (w7.heap.size) 37 #[.int .i64 x1.1, .slice Dx1_1 x1.2.length dx1_1] := Bk.new _ _ _
  clear ga0_7_0 ga0_7_1 zza0_7 ga1_7_0 ga1_7_1 zza1_7 gx0_7_0 gx0_7_1 zzx0_7
  have ga0_7_0 : (w7.alloc (.cells #[.int .i64 x1.1, .slice Dx1_1 x1.2.length dx1_1] 37)).cell? ⟨w.heap.size, 0, none⟩ = some (.int .i64 x0.1) := ka0_7b.cell 0
  have ga0_7_1 : (w7.alloc (.cells #[.int .i64 x1.1, .slice Dx1_1 x1.2.length dx1_1] 37)).cell? ⟨w.heap.size, 1, none⟩ = some (.slice A0_1 x0.2.length c0_1) := ka0_7b.cell 1
  have zza0_7 := ka0_7b.lt
  have ga1_7_0 : (w7.alloc (.cells #[.int .i64 x1.1, .slice Dx1_1 x1.2.length dx1_1] 37)).cell? ⟨w.heap.size + 1, 0, none⟩ = some (.int .i64 x1.1) := ka1_7b.cell 0
  have ga1_7_1 : (w7.alloc (.cells #[.int .i64 x1.1, .slice Dx1_1 x1.2.length dx1_1] 37)).cell? ⟨w.heap.size + 1, 1, none⟩ = some (.slice A1_1 x1.2.length c1_1) := ka1_7b.cell 1
  have zza1_7 := ka1_7b.lt
  have gx0_7_0 : (w7.alloc (.cells #[.int .i64 x1.1, .slice Dx1_1 x1.2.length dx1_1] 37)).cell? ⟨w6.heap.size, 0, none⟩ = some (.int .i64 x0.1) := kx0_7b.cell 0
  have gx0_7_1 : (w7.alloc (.cells #[.int .i64 x1.1, .slice Dx1_1 x1.2.length dx1_1] 37)).cell? ⟨w6.heap.size, 1, none⟩ = some (.slice Dx0_1 x0.2.length dx0_1) := kx0_7b.cell 1
  have zzx0_7 := kx0_7b.lt
  have gx1_7_0 : (w7.alloc (.cells #[.int .i64 x1.1, .slice Dx1_1 x1.2.length dx1_1] 37)).cell? ⟨w7.heap.size, 0, none⟩ = some (.int .i64 x1.1) := kx1_7b.cell 0
  have gx1_7_1 : (w7.alloc (.cells #[.int .i64 x1.1, .slice Dx1_1 x1.2.length dx1_1] 37)).cell? ⟨w7.heap.size, 1, none⟩ = some (.slice Dx1_1 x1.2.length dx1_1) := kx1_7b.cell 1
  have zzx1_7 := kx1_7b.lt
  go_wp2_with fail
  refine (ci_Unlike _ x0 _ x1 _ ⟨_, rfl, good_Btree.wide (good_Btree.own_rep ox0_7b) (Nat.zero_le _) (by omega)⟩ hn0 ⟨_, rfl, good_Btree.wide (good_Btree.own_rep ox1_7b) (Nat.zero_le _) (by omega)⟩ hn1).mono ?_
  rintro e w8 ⟨Dg, dg, blg, rfl, oog, ndg, u8⟩
  have og : (shL shI).own w8 ((w7.alloc (.cells #[.int .i64 x1.1, .slice Dx1_1 x1.2.length dx1_1] 37)).heap.size) w8.heap.size [.slice Dg (unlikeL x0.2 x1.2).length dg] (unlikeL x0.2 x1.2) blg := ⟨_, _, rfl, oog⟩
  have uu8 := ub7.trans u8
  have zs8 := u8.size
  have ka0_8 := ka0_7b.up u8
  have ka1_8 := ka1_7b.up u8
  have kx0_8 := kx0_7b.up u8
  have kx1_8 := kx1_7b.up u8
  have os_8 := (good_L good_I).keep os_7b (u8.keeps (by omega))
  clear os_7b
  have ox0_8 := good_Btree.own_keep ox0_7b (fun y hy => u8.block y (Nat.lt_of_lt_of_le (good_Btree.own_in ox0_7b y hy).2 (by omega)))
  clear ox0_7b
  have ox1_8 := good_Btree.own_keep ox1_7b (fun y hy => u8.block y (Nat.lt_of_lt_of_le (good_Btree.own_in ox1_7b y hy).2 (by omega)))
  clear ox1_7b
  clear ga0_7_0 ga0_7_1 zza0_7 ga1_7_0 ga1_7_1 zza1_7 gx0_7_0 gx0_7_1 zzx0_7 gx1_7_0 gx1_7_1 zzx1_7
  have ga0_8_0 : w8.cell? ⟨w.heap.size, 0, none⟩ = some (.int .i64 x0.1) := ka0_8.cell 0
  have ga0_8_1 : w8.cell? ⟨w.heap.size, 1, none⟩ = some (.slice A0_1 x0.2.length c0_1) := ka0_8.cell 1
  have zza0_8 := ka0_8.lt
  have ga1_8_0 : w8.cell? ⟨w.heap.size + 1, 0, none⟩ = some (.int .i64 x1.1) := ka1_8.cell 0
  have ga1_8_1 : w8.cell? ⟨w.heap.size + 1, 1, none⟩ = some (.slice A1_1 x1.2.length c1_1) := ka1_8.cell 1
  have zza1_8 := ka1_8.lt
  have gx0_8_0 : w8.cell? ⟨w6.heap.size, 0, none⟩ = some (.int .i64 x0.1) := kx0_8.cell 0
  have gx0_8_1 : w8.cell? ⟨w6.heap.size, 1, none⟩ = some (.slice Dx0_1 x0.2.length dx0_1) := kx0_8.cell 1
  have zzx0_8 := kx0_8.lt
  have gx1_8_0 : w8.cell? ⟨w7.heap.size, 0, none⟩ = some (.int .i64 x1.1) := kx1_8.cell 0
  have gx1_8_1 : w8.cell? ⟨w7.heap.size, 1, none⟩ = some (.slice Dx1_1 x1.2.length dx1_1) := kx1_8.cell 1
  have zzx1_8 := kx1_8.lt
  go_wp2_with fail
  refine (c_eqInt64S _ _ _ _ _ _ _ (SR.of_rep good_I ((good_L good_I).wide ((good_L good_I).own_rep og) (Nat.zero_le _) (by omega))) (SR.of_rep good_I ((good_L good_I).wide os_8 (Nat.le_refl _) (by omega)))).mono ?_
  rintro e w9 ⟨be0, rfl, hbe0, u9⟩
  have uu9 := uu8.trans u9
  have zs9 := u9.size
  have ka0_9 := ka0_8.up u9
  have ka1_9 := ka1_8.up u9
  have kx0_9 := kx0_8.up u9
  have kx1_9 := kx1_8.up u9
  have os_9 := (good_L good_I).keep os_8 (u9.keeps (by omega))
  clear os_8
  have ox0_9 := good_Btree.own_keep ox0_8 (fun y hy => u9.block y (Nat.lt_of_lt_of_le (good_Btree.own_in ox0_8 y hy).2 (by omega)))
  clear ox0_8
  have ox1_9 := good_Btree.own_keep ox1_8 (fun y hy => u9.block y (Nat.lt_of_lt_of_le (good_Btree.own_in ox1_8 y hy).2 (by omega)))
  clear ox1_8
  have og_9 := (good_L good_I).own_keep og (fun y hy => u9.block y (Nat.lt_of_lt_of_le ((good_L good_I).own_in og y hy).2 (by omega)))
  obtain rfl : be0 = true := by simpa using hbe0
  clear hbe0 u9
  clear ga0_8_0 ga0_8_1 zza0_8 ga1_8_0 ga1_8_1 zza1_8 gx0_8_0 gx0_8_1 zzx0_8 gx1_8_0 gx1_8_1 zzx1_8
  have ga0_9_0 : w9.cell? ⟨w.heap.size, 0, none⟩ = some (.int .i64 x0.1) := ka0_9.cell 0
  have ga0_9_1 : w9.cell? ⟨w.heap.size, 1, none⟩ = some (.slice A0_1 x0.2.length c0_1) := ka0_9.cell 1
  have zza0_9 := ka0_9.lt
  have ga1_9_0 : w9.cell? ⟨w.heap.size + 1, 0, none⟩ = some (.int .i64 x1.1) := ka1_9.cell 0
  have ga1_9_1 : w9.cell? ⟨w.heap.size + 1, 1, none⟩ = some (.slice A1_1 x1.2.length c1_1) := ka1_9.cell 1
  have zza1_9 := ka1_9.lt
  have gx0_9_0 : w9.cell? ⟨w6.heap.size, 0, none⟩ = some (.int .i64 x0.1) := kx0_9.cell 0
  have gx0_9_1 : w9.cell? ⟨w6.heap.size, 1, none⟩ = some (.slice Dx0_1 x0.2.length dx0_1) := kx0_9.cell 1
  have zzx0_9 := kx0_9.lt
  have gx1_9_0 : w9.cell? ⟨w7.heap.size, 0, none⟩ = some (.int .i64 x1.1) := kx1_9.cell 0
  have gx1_9_1 : w9.cell? ⟨w7.heap.size, 1, none⟩ = some (.slice Dx1_1 x1.2.length dx1_1) := kx1_9.cell 1
  have zzx1_9 := kx1_9.lt
  go_wp2_with fail
  go_region_held3 (fun W => W.cell? ⟨w.heap.size, 0, none⟩ = some (.int .i64 x0.1) ∧ W.cell? ⟨w.heap.size, 1, none⟩ = some (.slice A0_1 x0.2.length c0_1) ∧ W.cell? ⟨w6.heap.size, 0, none⟩ = some (.int .i64 x0.1) ∧ W.cell? ⟨w6.heap.size, 1, none⟩ = some (.slice Dx0_1 x0.2.length dx0_1)) (first | exact ⟨ka0_9.cell 0, ka0_9.cell 1, kx0_9.cell 0, kx0_9.cell 1⟩ | exact ⟨ka0_10.cell 0, ka0_10.cell 1, kx0_10.cell 0, kx0_10.cell 1⟩ | exact ⟨ka0_11z.cell 0, ka0_11z.cell 1, kx0_11z.cell 0, kx0_11z.cell 1⟩) (first | (go_at_call 12; (with_reducible refine (c_toBtree _ x0 _ (hv0.up good_Btree uu9.drew) hn0).mono ?_); rintro e w10 ⟨cse0, ble0, rfl, oe0, nde0, u10⟩; have u10d := Up.trans (Up.drew (Up.refl w9)) u10; have ye0 : AV shBtree w10 (.agg #[.int .i64 x0.1, .slice Dx0_1 x0.2.length dx0_1]) x0 := ⟨_, rfl, good_Btree.wide (good_Btree.keep (good_Btree.own_rep ox0_9) (u10d.keeps (by omega))) (Nat.zero_le _) (by have := u10d.size; omega)⟩; have yce0 := AV.of_own good_Btree oe0; have ka0_10 := ka0_9.up u10d; have kx0_10 := kx0_9.up u10d) | (go_at_call 15; (with_reducible refine (c_eqBtree _ _ x0 x0 _ ye0 yce0).mono ?_); rintro e w11 ⟨be0, rfl, hbe0, u11⟩; have u11d := u10d.trans u11; have ka0_11z := ka0_9.up u11d; have kx0_11z := kx0_9.up u11d))
  have uu11 := uu9.trans u11d
  have zs11 := u11d.size
  have ka0_11 := ka0_9.up u11d
  have ka1_11 := ka1_9.up u11d
  have kx0_11 := kx0_9.up u11d
  have kx1_11 := kx1_9.up u11d
  have os_11 := (good_L good_I).keep os_9 (u11d.keeps (by omega))
  clear os_9
  have ox0_11 := good_Btree.own_keep ox0_9 (fun y hy => u11d.block y (Nat.lt_of_lt_of_le (good_Btree.own_in ox0_9 y hy).2 (by omega)))
  clear ox0_9
  have ox1_11 := good_Btree.own_keep ox1_9 (fun y hy => u11d.block y (Nat.lt_of_lt_of_le (good_Btree.own_in ox1_9 y hy).2 (by omega)))
  clear ox1_9
  have og_11 := (good_L good_I).own_keep og_9 (fun y hy => u11d.block y (Nat.lt_of_lt_of_le ((good_L good_I).own_in og_9 y hy).2 (by omega)))
  clear og_9
  obtain rfl : be0 = true := by simpa using hbe0
  clear hbe0 u10 u10d u11 u11d ye0 yce0 oe0
  clear ka0_10 ka0_11z kx0_10 kx0_11z
  clear ga0_9_0 ga0_9_1 zza0_9 ga1_9_0 ga1_9_1 zza1_9 gx0_9_0 gx0_9_1 zzx0_9 gx1_9_0 gx1_9_1 zzx1_9
  have ga0_11_0 : w11.cell? ⟨w.heap.size, 0, none⟩ = some (.int .i64 x0.1) := ka0_11.cell 0
  have ga0_11_1 : w11.cell? ⟨w.heap.size, 1, none⟩ = some (.slice A0_1 x0.2.length c0_1) := ka0_11.cell 1
  have zza0_11 := ka0_11.lt
  have ga1_11_0 : w11.cell? ⟨w.heap.size + 1, 0, none⟩ = some (.int .i64 x1.1) := ka1_11.cell 0
  have ga1_11_1 : w11.cell? ⟨w.heap.size + 1, 1, none⟩ = some (.slice A1_1 x1.2.length c1_1) := ka1_11.cell 1
  have zza1_11 := ka1_11.lt
  have gx0_11_0 : w11.cell? ⟨w6.heap.size, 0, none⟩ = some (.int .i64 x0.1) := kx0_11.cell 0
  have gx0_11_1 : w11.cell? ⟨w6.heap.size, 1, none⟩ = some (.slice Dx0_1 x0.2.length dx0_1) := kx0_11.cell 1
  have zzx0_11 := kx0_11.lt
  have gx1_11_0 : w11.cell? ⟨w7.heap.size, 0, none⟩ = some (.int .i64 x1.1) := kx1_11.cell 0
  have gx1_11_1 : w11.cell? ⟨w7.heap.size, 1, none⟩ = some (.slice Dx1_1 x1.2.length dx1_1) := kx1_11.cell 1
  have zzx1_11 := kx1_11.lt
  go_wp2_with fail
  go_region_held3 (fun W => W.cell? ⟨w.heap.size + 1, 0, none⟩ = some (.int .i64 x1.1) ∧ W.cell? ⟨w.heap.size + 1, 1, none⟩ = some (.slice A1_1 x1.2.length c1_1) ∧ W.cell? ⟨w7.heap.size, 0, none⟩ = some (.int .i64 x1.1) ∧ W.cell? ⟨w7.heap.size, 1, none⟩ = some (.slice Dx1_1 x1.2.length dx1_1)) (first | exact ⟨ka1_11.cell 0, ka1_11.cell 1, kx1_11.cell 0, kx1_11.cell 1⟩ | exact ⟨ka1_12.cell 0, ka1_12.cell 1, kx1_12.cell 0, kx1_12.cell 1⟩ | exact ⟨ka1_13z.cell 0, ka1_13z.cell 1, kx1_13z.cell 0, kx1_13z.cell 1⟩) (first | (go_at_call 12; (with_reducible refine (c_toBtree _ x1 _ (hv1.up good_Btree uu11.drew) hn1).mono ?_); rintro e w12 ⟨cse1, ble1, rfl, oe1, nde1, u12⟩; have u12d := Up.trans (Up.drew (Up.refl w11)) u12; have ye1 : AV shBtree w12 (.agg #[.int .i64 x1.1, .slice Dx1_1 x1.2.length dx1_1]) x1 := ⟨_, rfl, good_Btree.wide (good_Btree.keep (good_Btree.own_rep ox1_11) (u12d.keeps (by omega))) (Nat.zero_le _) (by have := u12d.size; omega)⟩; have yce1 := AV.of_own good_Btree oe1; have ka1_12 := ka1_11.up u12d; have kx1_12 := kx1_11.up u12d) | (go_at_call 15; (with_reducible refine (c_eqBtree _ _ x1 x1 _ ye1 yce1).mono ?_); rintro e w13 ⟨be1, rfl, hbe1, u13⟩; have u13d := u12d.trans u13; have ka1_13z := ka1_11.up u13d; have kx1_13z := kx1_11.up u13d))
  have uu13 := uu11.trans u13d
  have zs13 := u13d.size
  have ka0_13 := ka0_11.up u13d
  have ka1_13 := ka1_11.up u13d
  have kx0_13 := kx0_11.up u13d
  have kx1_13 := kx1_11.up u13d
  have os_13 := (good_L good_I).keep os_11 (u13d.keeps (by omega))
  clear os_11
  have ox0_13 := good_Btree.own_keep ox0_11 (fun y hy => u13d.block y (Nat.lt_of_lt_of_le (good_Btree.own_in ox0_11 y hy).2 (by omega)))
  clear ox0_11
  have ox1_13 := good_Btree.own_keep ox1_11 (fun y hy => u13d.block y (Nat.lt_of_lt_of_le (good_Btree.own_in ox1_11 y hy).2 (by omega)))
  clear ox1_11
  have og_13 := (good_L good_I).own_keep og_11 (fun y hy => u13d.block y (Nat.lt_of_lt_of_le ((good_L good_I).own_in og_11 y hy).2 (by omega)))
  clear og_11
  obtain rfl : be1 = true := by simpa using hbe1
  clear hbe1 u12 u12d u13 u13d ye1 yce1 oe1
  clear ka1_12 ka1_13z kx1_12 kx1_13z
  clear ga0_11_0 ga0_11_1 zza0_11 ga1_11_0 ga1_11_1 zza1_11 gx0_11_0 gx0_11_1 zzx0_11 gx1_11_0 gx1_11_1 zzx1_11
  have ga0_13_0 : w13.cell? ⟨w.heap.size, 0, none⟩ = some (.int .i64 x0.1) := ka0_13.cell 0
  have ga0_13_1 : w13.cell? ⟨w.heap.size, 1, none⟩ = some (.slice A0_1 x0.2.length c0_1) := ka0_13.cell 1
  have zza0_13 := ka0_13.lt
  have ga1_13_0 : w13.cell? ⟨w.heap.size + 1, 0, none⟩ = some (.int .i64 x1.1) := ka1_13.cell 0
  have ga1_13_1 : w13.cell? ⟨w.heap.size + 1, 1, none⟩ = some (.slice A1_1 x1.2.length c1_1) := ka1_13.cell 1
  have zza1_13 := ka1_13.lt
  have gx0_13_0 : w13.cell? ⟨w6.heap.size, 0, none⟩ = some (.int .i64 x0.1) := kx0_13.cell 0
  have gx0_13_1 : w13.cell? ⟨w6.heap.size, 1, none⟩ = some (.slice Dx0_1 x0.2.length dx0_1) := kx0_13.cell 1
  have zzx0_13 := kx0_13.lt
  have gx1_13_0 : w13.cell? ⟨w7.heap.size, 0, none⟩ = some (.int .i64 x1.1) := kx1_13.cell 0
  have gx1_13_1 : w13.cell? ⟨w7.heap.size, 1, none⟩ = some (.slice Dx1_1 x1.2.length dx1_1) := kx1_13.cell 1
  have zzx1_13 := kx1_13.lt
  go_wp2_with fail
  have cbx0 : (1 : Int) + (mmTBtree.cnt x0 : Nat) ≤ 1000000000 := by have := cnt_Btree x0 hn0; omega
  have cbx1 : (1 : Int) + (mmTBtree.cnt x1 : Nat) ≤ 1000000000 := by have := cnt_Btree x1 hn1; omega
  have cbg : (1 : Int) + ((mkL mkI).cnt (unlikeL x0.2 x1.2) : Nat) ≤ 1000000000 := cbg_Unlike x0 hn0 x1 hn1
  refine (c_markBtree _ (x0) _ (w5.heap.size) (w6.heap.size) blx0 _ ox0_13 (by omega) ndx0 (by omega) (by simpa using cbx0)).mono ?_
  rintro e w14 ⟨rfl, mox0, oox0⟩
  have hm1014 : ∀ y ∈ blx0, w5.heap.size ≤ y ∧ y < w6.heap.size := good_Btree.own_in ox0_13
  have uu14 := uu13.only oox0 (fun y hy => by have := (hm1014 y hy).1; omega)
  have zs14 := oox0.size
  have ka0_14 := ka0_13.only oox0 (fun hy => by have := hm1014 _ hy; omega)
  have ka1_14 := ka1_13.only oox0 (fun hy => by have := hm1014 _ hy; omega)
  have kx0_14 := kx0_13.only oox0 (fun hy => by have := hm1014 _ hy; omega)
  have kx1_14 := kx1_13.only oox0 (fun hy => by have := hm1014 _ hy; omega)
  have os_14 := (good_L good_I).keep os_13 (fun y _ hy => oox0.block y (by omega) (fun hm => by have h1 := hm1014 y hm; omega))
  clear os_13
  have ox1_14 := good_Btree.own_keep ox1_13 (fun y hy => oox0.block y (Nat.lt_of_lt_of_le (good_Btree.own_in ox1_13 y hy).2 (by omega)) (fun hm => by have h1 := hm1014 y hm; have h2 := good_Btree.own_in ox1_13 y hy; omega))
  clear ox1_13
  have og_14 := (good_L good_I).own_keep og_13 (fun y hy => oox0.block y (Nat.lt_of_lt_of_le ((good_L good_I).own_in og_13 y hy).2 (by omega)) (fun hm => by have h1 := hm1014 y hm; have h2 := (good_L good_I).own_in og_13 y hy; omega))
  clear og_13
  have mkx0 : shBtree.own w14 (w5.heap.size) (w6.heap.size) [.int .i64 x0.1, .slice Dx0_1 x0.2.length dx0_1] (mmTBtree.mark (x0) 1) blx0 := mox0
  clear mox0 oox0 ox0_13
  clear ga0_13_0 ga0_13_1 zza0_13 ga1_13_0 ga1_13_1 zza1_13 gx0_13_0 gx0_13_1 zzx0_13 gx1_13_0 gx1_13_1 zzx1_13
  have ga0_14_0 : w14.cell? ⟨w.heap.size, 0, none⟩ = some (.int .i64 x0.1) := ka0_14.cell 0
  have ga0_14_1 : w14.cell? ⟨w.heap.size, 1, none⟩ = some (.slice A0_1 x0.2.length c0_1) := ka0_14.cell 1
  have zza0_14 := ka0_14.lt
  have ga1_14_0 : w14.cell? ⟨w.heap.size + 1, 0, none⟩ = some (.int .i64 x1.1) := ka1_14.cell 0
  have ga1_14_1 : w14.cell? ⟨w.heap.size + 1, 1, none⟩ = some (.slice A1_1 x1.2.length c1_1) := ka1_14.cell 1
  have zza1_14 := ka1_14.lt
  have gx0_14_0 : w14.cell? ⟨w6.heap.size, 0, none⟩ = some (.int .i64 x0.1) := kx0_14.cell 0
  have gx0_14_1 : w14.cell? ⟨w6.heap.size, 1, none⟩ = some (.slice Dx0_1 x0.2.length dx0_1) := kx0_14.cell 1
  have zzx0_14 := kx0_14.lt
  have gx1_14_0 : w14.cell? ⟨w7.heap.size, 0, none⟩ = some (.int .i64 x1.1) := kx1_14.cell 0
  have gx1_14_1 : w14.cell? ⟨w7.heap.size, 1, none⟩ = some (.slice Dx1_1 x1.2.length dx1_1) := kx1_14.cell 1
  have zzx1_14 := kx1_14.lt
  go_wp2_with fail
  replace cbx1 : (1 + ((mmTBtree.cnt x0 : Nat) : Int)) + ((mmTBtree.cnt x1 : Nat) : Int) ≤ 1000000000 := by have := cnt_Btree x1 hn1; have := cnt_Btree x0 hn0; omega
  have kpos1 : ¬ ((1 + ((mmTBtree.cnt x0 : Nat) : Int)) + ((mmTBtree.cnt x1 : Nat) : Int)) < 0 := by omega
  refine (c_markBtree _ (x1) _ ((w6.alloc (.cells #[.int .i64 x0.1, .slice Dx0_1 x0.2.length dx0_1] 37)).heap.size) (w7.heap.size) blx1 _ ox1_14 (by omega) ndx1 (by omega) (by simpa using cbx1)).mono ?_
  rintro e w15 ⟨rfl, mox1, oox1⟩
  have hm1015 : ∀ y ∈ blx1, (w6.alloc (.cells #[.int .i64 x0.1, .slice Dx0_1 x0.2.length dx0_1] 37)).heap.size ≤ y ∧ y < w7.heap.size := good_Btree.own_in ox1_14
  have uu15 := uu14.only oox1 (fun y hy => by have := (hm1015 y hy).1; omega)
  have zs15 := oox1.size
  have ka0_15 := ka0_14.only oox1 (fun hy => by have := hm1015 _ hy; omega)
  have ka1_15 := ka1_14.only oox1 (fun hy => by have := hm1015 _ hy; omega)
  have kx0_15 := kx0_14.only oox1 (fun hy => by have := hm1015 _ hy; omega)
  have kx1_15 := kx1_14.only oox1 (fun hy => by have := hm1015 _ hy; omega)
  have os_15 := (good_L good_I).keep os_14 (fun y _ hy => oox1.block y (by omega) (fun hm => by have h1 := hm1015 y hm; omega))
  clear os_14
  have mkx0_15 := good_Btree.own_keep mkx0 (fun y hy => oox1.block y (Nat.lt_of_lt_of_le (good_Btree.own_in mkx0 y hy).2 (by omega)) (fun hm => by have h1 := hm1015 y hm; have h2 := good_Btree.own_in mkx0 y hy; omega))
  have og_15 := (good_L good_I).own_keep og_14 (fun y hy => oox1.block y (Nat.lt_of_lt_of_le ((good_L good_I).own_in og_14 y hy).2 (by omega)) (fun hm => by have h1 := hm1015 y hm; have h2 := (good_L good_I).own_in og_14 y hy; omega))
  clear og_14
  have mkx1 : shBtree.own w15 ((w6.alloc (.cells #[.int .i64 x0.1, .slice Dx0_1 x0.2.length dx0_1] 37)).heap.size) (w7.heap.size) [.int .i64 x1.1, .slice Dx1_1 x1.2.length dx1_1] (mmTBtree.mark (x1) (1 + ((mmTBtree.cnt x0 : Nat) : Int))) blx1 := mox1
  clear mox1 oox1 ox1_14
  clear ga0_14_0 ga0_14_1 zza0_14 ga1_14_0 ga1_14_1 zza1_14 gx0_14_0 gx0_14_1 zzx0_14 gx1_14_0 gx1_14_1 zzx1_14
  have ga0_15_0 : w15.cell? ⟨w.heap.size, 0, none⟩ = some (.int .i64 x0.1) := ka0_15.cell 0
  have ga0_15_1 : w15.cell? ⟨w.heap.size, 1, none⟩ = some (.slice A0_1 x0.2.length c0_1) := ka0_15.cell 1
  have zza0_15 := ka0_15.lt
  have ga1_15_0 : w15.cell? ⟨w.heap.size + 1, 0, none⟩ = some (.int .i64 x1.1) := ka1_15.cell 0
  have ga1_15_1 : w15.cell? ⟨w.heap.size + 1, 1, none⟩ = some (.slice A1_1 x1.2.length c1_1) := ka1_15.cell 1
  have zza1_15 := ka1_15.lt
  have gx0_15_0 : w15.cell? ⟨w6.heap.size, 0, none⟩ = some (.int .i64 x0.1) := kx0_15.cell 0
  have gx0_15_1 : w15.cell? ⟨w6.heap.size, 1, none⟩ = some (.slice Dx0_1 x0.2.length dx0_1) := kx0_15.cell 1
  have zzx0_15 := kx0_15.lt
  have gx1_15_0 : w15.cell? ⟨w7.heap.size, 0, none⟩ = some (.int .i64 x1.1) := kx1_15.cell 0
  have gx1_15_1 : w15.cell? ⟨w7.heap.size, 1, none⟩ = some (.slice Dx1_1 x1.2.length dx1_1) := kx1_15.cell 1
  have zzx1_15 := kx1_15.lt
  go_wp2_with fail
  refine (c_eqInt64S _ _ _ _ _ _ _ (SR.of_rep good_I ((good_L good_I).wide ((good_L good_I).own_rep og_15) (Nat.zero_le _) (by omega))) (SR.of_rep good_I ((good_L good_I).wide os_15 (Nat.le_refl _) (by omega)))).mono ?_
  rintro e w16 ⟨be1, rfl, hbe1, u16⟩
  have uu16 := uu15.trans u16
  have zs16 := u16.size
  have ka0_16 := ka0_15.up u16
  have ka1_16 := ka1_15.up u16
  have kx0_16 := kx0_15.up u16
  have kx1_16 := kx1_15.up u16
  have os_16 := (good_L good_I).keep os_15 (u16.keeps (by omega))
  clear os_15
  have mkx0_16 := good_Btree.own_keep mkx0_15 (fun y hy => u16.block y (Nat.lt_of_lt_of_le (good_Btree.own_in mkx0_15 y hy).2 (by omega)))
  clear mkx0_15
  have mkx1_16 := good_Btree.own_keep mkx1 (fun y hy => u16.block y (Nat.lt_of_lt_of_le (good_Btree.own_in mkx1 y hy).2 (by omega)))
  have og_16 := (good_L good_I).own_keep og_15 (fun y hy => u16.block y (Nat.lt_of_lt_of_le ((good_L good_I).own_in og_15 y hy).2 (by omega)))
  clear og_15
  obtain rfl : be1 = true := by simpa using hbe1
  clear hbe1 u16
  clear ga0_15_0 ga0_15_1 zza0_15 ga1_15_0 ga1_15_1 zza1_15 gx0_15_0 gx0_15_1 zzx0_15 gx1_15_0 gx1_15_1 zzx1_15
  have ga0_16_0 : w16.cell? ⟨w.heap.size, 0, none⟩ = some (.int .i64 x0.1) := ka0_16.cell 0
  have ga0_16_1 : w16.cell? ⟨w.heap.size, 1, none⟩ = some (.slice A0_1 x0.2.length c0_1) := ka0_16.cell 1
  have zza0_16 := ka0_16.lt
  have ga1_16_0 : w16.cell? ⟨w.heap.size + 1, 0, none⟩ = some (.int .i64 x1.1) := ka1_16.cell 0
  have ga1_16_1 : w16.cell? ⟨w.heap.size + 1, 1, none⟩ = some (.slice A1_1 x1.2.length c1_1) := ka1_16.cell 1
  have zza1_16 := ka1_16.lt
  have gx0_16_0 : w16.cell? ⟨w6.heap.size, 0, none⟩ = some (.int .i64 x0.1) := kx0_16.cell 0
  have gx0_16_1 : w16.cell? ⟨w6.heap.size, 1, none⟩ = some (.slice Dx0_1 x0.2.length dx0_1) := kx0_16.cell 1
  have zzx0_16 := kx0_16.lt
  have gx1_16_0 : w16.cell? ⟨w7.heap.size, 0, none⟩ = some (.int .i64 x1.1) := kx1_16.cell 0
  have gx1_16_1 : w16.cell? ⟨w7.heap.size, 1, none⟩ = some (.slice Dx1_1 x1.2.length dx1_1) := kx1_16.cell 1
  have zzx1_16 := kx1_16.lt
  go_wp2_with fail
  refine (c_markInt64S _ _ _ _ ((w7.alloc (.cells #[.int .i64 x1.1, .slice Dx1_1 x1.2.length dx1_1] 37)).heap.size) (w8.heap.size) blg _ (SO.of_own og_16) (by omega) ndg (by omega) (by simpa using cbg)).mono ?_
  rintro e w17 ⟨rfl, mog, oog⟩
  have hm1017 : ∀ y ∈ blg, (w7.alloc (.cells #[.int .i64 x1.1, .slice Dx1_1 x1.2.length dx1_1] 37)).heap.size ≤ y ∧ y < w8.heap.size := (good_L good_I).own_in og_16
  have uu17 := uu16.only oog (fun y hy => by have := (hm1017 y hy).1; omega)
  have zs17 := oog.size
  have ka0_17 := ka0_16.only oog (fun hy => by have := hm1017 _ hy; omega)
  have ka1_17 := ka1_16.only oog (fun hy => by have := hm1017 _ hy; omega)
  have kx0_17 := kx0_16.only oog (fun hy => by have := hm1017 _ hy; omega)
  have kx1_17 := kx1_16.only oog (fun hy => by have := hm1017 _ hy; omega)
  have os_17 := (good_L good_I).keep os_16 (fun y _ hy => oog.block y (by omega) (fun hm => by have h1 := hm1017 y hm; omega))
  clear os_16
  have mkx0_17 := good_Btree.own_keep mkx0_16 (fun y hy => oog.block y (Nat.lt_of_lt_of_le (good_Btree.own_in mkx0_16 y hy).2 (by omega)) (fun hm => by have h1 := hm1017 y hm; have h2 := good_Btree.own_in mkx0_16 y hy; omega))
  clear mkx0_16
  have mkx1_17 := good_Btree.own_keep mkx1_16 (fun y hy => oog.block y (Nat.lt_of_lt_of_le (good_Btree.own_in mkx1_16 y hy).2 (by omega)) (fun hm => by have h1 := hm1017 y hm; have h2 := good_Btree.own_in mkx1_16 y hy; omega))
  clear mkx1_16
  have mkg : (shL shI).own w17 ((w7.alloc (.cells #[.int .i64 x1.1, .slice Dx1_1 x1.2.length dx1_1] 37)).heap.size) (w8.heap.size) [.slice Dg (unlikeL x0.2 x1.2).length dg] ((mkL mkI).mark (unlikeL x0.2 x1.2) 1) blg := SO.to_own (markL_len _ _ _) mog
  clear mog oog og_16
  clear ga0_16_0 ga0_16_1 zza0_16 ga1_16_0 ga1_16_1 zza1_16 gx0_16_0 gx0_16_1 zzx0_16 gx1_16_0 gx1_16_1 zzx1_16
  have ga0_17_0 : w17.cell? ⟨w.heap.size, 0, none⟩ = some (.int .i64 x0.1) := ka0_17.cell 0
  have ga0_17_1 : w17.cell? ⟨w.heap.size, 1, none⟩ = some (.slice A0_1 x0.2.length c0_1) := ka0_17.cell 1
  have zza0_17 := ka0_17.lt
  have ga1_17_0 : w17.cell? ⟨w.heap.size + 1, 0, none⟩ = some (.int .i64 x1.1) := ka1_17.cell 0
  have ga1_17_1 : w17.cell? ⟨w.heap.size + 1, 1, none⟩ = some (.slice A1_1 x1.2.length c1_1) := ka1_17.cell 1
  have zza1_17 := ka1_17.lt
  have gx0_17_0 : w17.cell? ⟨w6.heap.size, 0, none⟩ = some (.int .i64 x0.1) := kx0_17.cell 0
  have gx0_17_1 : w17.cell? ⟨w6.heap.size, 1, none⟩ = some (.slice Dx0_1 x0.2.length dx0_1) := kx0_17.cell 1
  have zzx0_17 := kx0_17.lt
  have gx1_17_0 : w17.cell? ⟨w7.heap.size, 0, none⟩ = some (.int .i64 x1.1) := kx1_17.cell 0
  have gx1_17_1 : w17.cell? ⟨w7.heap.size, 1, none⟩ = some (.slice Dx1_1 x1.2.length dx1_1) := kx1_17.cell 1
  have zzx1_17 := kx1_17.lt
  go_wp2_with fail
  have hia := (gm_L gm_I).idem (unlikeL x0.2 x1.2) 1
  have hsa := (gm_L gm_I).same (unlikeL x0.2 x1.2) 1
  have hcba : (1 : Int) + ((mkL mkI).cnt ((mkL mkI).mark (unlikeL x0.2 x1.2) 1) : Nat) ≤ 1000000000 := by rw [hsa]; exact cbg
  have hmla : ((mkL mkI).mark (unlikeL x0.2 x1.2) 1).length = (unlikeL x0.2 x1.2).length := by obtain ⟨A, c, e, _⟩ := mkg; injection e with e1 _; injection e1 with _ e2 _; exact e2.symm
  have hcha := fun (W : World) A c k (h : SRW shI W A c ((mkL mkI).mark (unlikeL x0.2 x1.2) 1)) hm hk0 hk1 => c_heldInt64S ((mkL mkI).mark (unlikeL x0.2 x1.2) 1) A c k W h hm hk0 hk1
  rw [hmla] at hcha
  refine (hcha _ _ _ _ (SR.of_rep good_I ((good_L good_I).wide ((good_L good_I).own_rep mkg) (Nat.zero_le _) (by omega))) hia (by omega) hcba).mono ?_
  clear hcha hmla
  rintro e w18 ⟨rfl, u18⟩
  have uu18 := uu17.trans u18
  have zs18 := u18.size
  have ka0_18 := ka0_17.up u18
  have ka1_18 := ka1_17.up u18
  have kx0_18 := kx0_17.up u18
  have kx1_18 := kx1_17.up u18
  have os_18 := (good_L good_I).keep os_17 (u18.keeps (by omega))
  clear os_17
  have mkx0_18 := good_Btree.own_keep mkx0_17 (fun y hy => u18.block y (Nat.lt_of_lt_of_le (good_Btree.own_in mkx0_17 y hy).2 (by omega)))
  clear mkx0_17
  have mkx1_18 := good_Btree.own_keep mkx1_17 (fun y hy => u18.block y (Nat.lt_of_lt_of_le (good_Btree.own_in mkx1_17 y hy).2 (by omega)))
  clear mkx1_17
  have mkg_18 := (good_L good_I).own_keep mkg (fun y hy => u18.block y (Nat.lt_of_lt_of_le ((good_L good_I).own_in mkg y hy).2 (by omega)))
  rw [hsa]
  clear hia hsa hcba u18
  clear ga0_17_0 ga0_17_1 zza0_17 ga1_17_0 ga1_17_1 zza1_17 gx0_17_0 gx0_17_1 zzx0_17 gx1_17_0 gx1_17_1 zzx1_17
  have ga0_18_0 : w18.cell? ⟨w.heap.size, 0, none⟩ = some (.int .i64 x0.1) := ka0_18.cell 0
  have ga0_18_1 : w18.cell? ⟨w.heap.size, 1, none⟩ = some (.slice A0_1 x0.2.length c0_1) := ka0_18.cell 1
  have zza0_18 := ka0_18.lt
  have ga1_18_0 : w18.cell? ⟨w.heap.size + 1, 0, none⟩ = some (.int .i64 x1.1) := ka1_18.cell 0
  have ga1_18_1 : w18.cell? ⟨w.heap.size + 1, 1, none⟩ = some (.slice A1_1 x1.2.length c1_1) := ka1_18.cell 1
  have zza1_18 := ka1_18.lt
  have gx0_18_0 : w18.cell? ⟨w6.heap.size, 0, none⟩ = some (.int .i64 x0.1) := kx0_18.cell 0
  have gx0_18_1 : w18.cell? ⟨w6.heap.size, 1, none⟩ = some (.slice Dx0_1 x0.2.length dx0_1) := kx0_18.cell 1
  have zzx0_18 := kx0_18.lt
  have gx1_18_0 : w18.cell? ⟨w7.heap.size, 0, none⟩ = some (.int .i64 x1.1) := kx1_18.cell 0
  have gx1_18_1 : w18.cell? ⟨w7.heap.size, 1, none⟩ = some (.slice Dx1_1 x1.2.length dx1_1) := kx1_18.cell 1
  have zzx1_18 := kx1_18.lt
  go_wp2_with fail
  have v18 := (Up.refl w18).drew
  have hc18 : ∀ W : World, Up w18 W → W.cell? ⟨w.heap.size, 0, none⟩ = some (.int .i64 x0.1) ∧ W.cell? ⟨w.heap.size, 1, none⟩ = some (.slice A0_1 x0.2.length c0_1) ∧ W.cell? ⟨w.heap.size + 1, 0, none⟩ = some (.int .i64 x1.1) ∧ W.cell? ⟨w.heap.size + 1, 1, none⟩ = some (.slice A1_1 x1.2.length c1_1) := fun W v => ⟨(ka0_18.up v).cell 0, (ka0_18.up v).cell 1, (ka1_18.up v).cell 0, (ka1_18.up v).cell 1⟩
  have HC18 := Lib.hid hc18
  clear hc18
  go_region_held3 (fun W => W.cell? ⟨w.heap.size, 0, none⟩ = some (.int .i64 x0.1) ∧ W.cell? ⟨w.heap.size, 1, none⟩ = some (.slice A0_1 x0.2.length c0_1) ∧ W.cell? ⟨w.heap.size + 1, 0, none⟩ = some (.int .i64 x1.1) ∧ W.cell? ⟨w.heap.size + 1, 1, none⟩ = some (.slice A1_1 x1.2.length c1_1))
    (first | with_reducible exact HC18.out _ v18 | with_reducible exact HC18.out _ v19 | with_reducible exact HC18.out _ v20 | with_reducible exact HC18.out _ v21)
    (first
      | (go_at_call 12; (with_reducible refine (c_toBtree _ x0 _ (hv0.up good_Btree (uu18.trans v18)) hn0).mono ?_); rintro e w19 ⟨csz0, blz0, rfl, oz0, ndz0, u19⟩; obtain ⟨Dz0_1, dz0_1, _, rfl, _, _⟩ := openOBtree oz0; have v19 := v18.trans u19; have yz0 := AV.of_own good_Btree oz0)
      | (go_at_call 12; (with_reducible refine (c_toBtree _ x1 _ (hv1.up good_Btree (uu18.trans v19)) hn1).mono ?_); rintro e w20 ⟨csz1, blz1, rfl, oz1, ndz1, u20⟩; obtain ⟨Dz1_1, dz1_1, _, rfl, _, _⟩ := openOBtree oz1; have v20 := v19.trans u20; have yz1 := AV.of_own good_Btree oz1; have yz0 := AV.up good_Btree yz0 u20)
      | (go_at_call 13; (with_reducible refine (ci_Unlike _ x0 _ x1 _ yz0 hn0 yz1 hn1).mono ?_); rintro e w21 ⟨Dh, dh, blh, rfl, ooh, ndh, u21⟩; have v21 := v20.trans u21))
  have oh : (shL shI).own w21 (w20.heap.size) w21.heap.size [.slice Dh (unlikeL x0.2 x1.2).length dh] (unlikeL x0.2 x1.2) blh := ⟨_, _, rfl, ooh⟩
  have uu21 := uu18.trans v21
  have zs21 : w18.heap.size ≤ w21.heap.size := v21.size
  have zt21 : w18.heap.size ≤ w20.heap.size := v20.size
  have ka0_21 := ka0_18.up v21
  have ka1_21 := ka1_18.up v21
  have kx0_21 := kx0_18.up v21
  have kx1_21 := kx1_18.up v21
  have os_21 := (good_L good_I).keep os_18 (v21.keeps (by omega))
  clear os_18
  have mkg_21 := (good_L good_I).own_keep mkg_18 (fun y hy => v21.block y (Nat.lt_of_lt_of_le ((good_L good_I).own_in mkg_18 y hy).2 (by omega)))
  clear mkg_18
  clear v18 v19 v20 v21 HC18
  clear ga0_18_0 ga0_18_1 zza0_18 ga1_18_0 ga1_18_1 zza1_18 gx0_18_0 gx0_18_1 zzx0_18 gx1_18_0 gx1_18_1 zzx1_18
  have ga0_21_0 : w21.cell? ⟨w.heap.size, 0, none⟩ = some (.int .i64 x0.1) := ka0_21.cell 0
  have ga0_21_1 : w21.cell? ⟨w.heap.size, 1, none⟩ = some (.slice A0_1 x0.2.length c0_1) := ka0_21.cell 1
  have zza0_21 := ka0_21.lt
  have ga1_21_0 : w21.cell? ⟨w.heap.size + 1, 0, none⟩ = some (.int .i64 x1.1) := ka1_21.cell 0
  have ga1_21_1 : w21.cell? ⟨w.heap.size + 1, 1, none⟩ = some (.slice A1_1 x1.2.length c1_1) := ka1_21.cell 1
  have zza1_21 := ka1_21.lt
  have gx0_21_0 : w21.cell? ⟨w6.heap.size, 0, none⟩ = some (.int .i64 x0.1) := kx0_21.cell 0
  have gx0_21_1 : w21.cell? ⟨w6.heap.size, 1, none⟩ = some (.slice Dx0_1 x0.2.length dx0_1) := kx0_21.cell 1
  have zzx0_21 := kx0_21.lt
  have gx1_21_0 : w21.cell? ⟨w7.heap.size, 0, none⟩ = some (.int .i64 x1.1) := kx1_21.cell 0
  have gx1_21_1 : w21.cell? ⟨w7.heap.size, 1, none⟩ = some (.slice Dx1_1 x1.2.length dx1_1) := kx1_21.cell 1
  have zzx1_21 := kx1_21.lt
  go_wp2_with fail
  refine (c_eqInt64S _ _ _ _ _ _ _ (SR.of_rep good_I ((good_L good_I).wide ((good_L good_I).own_rep oh) (Nat.zero_le _) (by omega))) (SR.of_rep good_I ((good_L good_I).wide os_21 (Nat.le_refl _) (by omega)))).mono ?_
  rintro e w22 ⟨be2, rfl, hbe2, u22⟩
  have uu22 := uu21.trans u22
  have zs22 := u22.size
  have ka0_22 := ka0_21.up u22
  have ka1_22 := ka1_21.up u22
  have kx0_22 := kx0_21.up u22
  have kx1_22 := kx1_21.up u22
  have os_22 := (good_L good_I).keep os_21 (u22.keeps (by omega))
  clear os_21
  have mkg_22 := (good_L good_I).own_keep mkg_21 (fun y hy => u22.block y (Nat.lt_of_lt_of_le ((good_L good_I).own_in mkg_21 y hy).2 (by omega)))
  clear mkg_21
  have oh_22 := (good_L good_I).own_keep oh (fun y hy => u22.block y (Nat.lt_of_lt_of_le ((good_L good_I).own_in oh y hy).2 (by omega)))
  obtain rfl : be2 = true := by simpa using hbe2
  clear hbe2 u22
  clear ga0_21_0 ga0_21_1 zza0_21 ga1_21_0 ga1_21_1 zza1_21 gx0_21_0 gx0_21_1 zzx0_21 gx1_21_0 gx1_21_1 zzx1_21
  have ga0_22_0 : w22.cell? ⟨w.heap.size, 0, none⟩ = some (.int .i64 x0.1) := ka0_22.cell 0
  have ga0_22_1 : w22.cell? ⟨w.heap.size, 1, none⟩ = some (.slice A0_1 x0.2.length c0_1) := ka0_22.cell 1
  have zza0_22 := ka0_22.lt
  have ga1_22_0 : w22.cell? ⟨w.heap.size + 1, 0, none⟩ = some (.int .i64 x1.1) := ka1_22.cell 0
  have ga1_22_1 : w22.cell? ⟨w.heap.size + 1, 1, none⟩ = some (.slice A1_1 x1.2.length c1_1) := ka1_22.cell 1
  have zza1_22 := ka1_22.lt
  have gx0_22_0 : w22.cell? ⟨w6.heap.size, 0, none⟩ = some (.int .i64 x0.1) := kx0_22.cell 0
  have gx0_22_1 : w22.cell? ⟨w6.heap.size, 1, none⟩ = some (.slice Dx0_1 x0.2.length dx0_1) := kx0_22.cell 1
  have zzx0_22 := kx0_22.lt
  have gx1_22_0 : w22.cell? ⟨w7.heap.size, 0, none⟩ = some (.int .i64 x1.1) := kx1_22.cell 0
  have gx1_22_1 : w22.cell? ⟨w7.heap.size, 1, none⟩ = some (.slice Dx1_1 x1.2.length dx1_1) := kx1_22.cell 1
  have zzx1_22 := kx1_22.lt
  go_wp2_with fail
  have hib := (gm_L gm_I).idem (unlikeL x0.2 x1.2) 1
  have hsb := (gm_L gm_I).same (unlikeL x0.2 x1.2) 1
  have hcbb : (1 : Int) + ((mkL mkI).cnt ((mkL mkI).mark (unlikeL x0.2 x1.2) 1) : Nat) ≤ 1000000000 := by rw [hsb]; exact cbg
  have hmlb : ((mkL mkI).mark (unlikeL x0.2 x1.2) 1).length = (unlikeL x0.2 x1.2).length := by obtain ⟨A, c, e, _⟩ := mkg_22; injection e with e1 _; injection e1 with _ e2 _; exact e2.symm
  have hchb := fun (W : World) A c k (h : SRW shI W A c ((mkL mkI).mark (unlikeL x0.2 x1.2) 1)) hm hk0 hk1 => c_heldInt64S ((mkL mkI).mark (unlikeL x0.2 x1.2) 1) A c k W h hm hk0 hk1
  rw [hmlb] at hchb
  refine (hchb _ _ _ _ (SR.of_rep good_I ((good_L good_I).wide ((good_L good_I).own_rep mkg_22) (Nat.zero_le _) (by omega))) hib (by omega) hcbb).mono ?_
  clear hchb hmlb
  rintro e w23 ⟨rfl, u23⟩
  have uu23 := uu22.trans u23
  have zs23 := u23.size
  have ka0_23 := ka0_22.up u23
  have ka1_23 := ka1_22.up u23
  have kx0_23 := kx0_22.up u23
  have kx1_23 := kx1_22.up u23
  have os_23 := (good_L good_I).keep os_22 (u23.keeps (by omega))
  clear os_22
  have mkg_23 := (good_L good_I).own_keep mkg_22 (fun y hy => u23.block y (Nat.lt_of_lt_of_le ((good_L good_I).own_in mkg_22 y hy).2 (by omega)))
  clear mkg_22
  have oh_23 := (good_L good_I).own_keep oh_22 (fun y hy => u23.block y (Nat.lt_of_lt_of_le ((good_L good_I).own_in oh_22 y hy).2 (by omega)))
  clear oh_22
  rw [hsb]
  clear hib hsb hcbb u23
  clear ga0_22_0 ga0_22_1 zza0_22 ga1_22_0 ga1_22_1 zza1_22 gx0_22_0 gx0_22_1 zzx0_22 gx1_22_0 gx1_22_1 zzx1_22
  have ga0_23_0 : w23.cell? ⟨w.heap.size, 0, none⟩ = some (.int .i64 x0.1) := ka0_23.cell 0
  have ga0_23_1 : w23.cell? ⟨w.heap.size, 1, none⟩ = some (.slice A0_1 x0.2.length c0_1) := ka0_23.cell 1
  have zza0_23 := ka0_23.lt
  have ga1_23_0 : w23.cell? ⟨w.heap.size + 1, 0, none⟩ = some (.int .i64 x1.1) := ka1_23.cell 0
  have ga1_23_1 : w23.cell? ⟨w.heap.size + 1, 1, none⟩ = some (.slice A1_1 x1.2.length c1_1) := ka1_23.cell 1
  have zza1_23 := ka1_23.lt
  have gx0_23_0 : w23.cell? ⟨w6.heap.size, 0, none⟩ = some (.int .i64 x0.1) := kx0_23.cell 0
  have gx0_23_1 : w23.cell? ⟨w6.heap.size, 1, none⟩ = some (.slice Dx0_1 x0.2.length dx0_1) := kx0_23.cell 1
  have zzx0_23 := kx0_23.lt
  have gx1_23_0 : w23.cell? ⟨w7.heap.size, 0, none⟩ = some (.int .i64 x1.1) := kx1_23.cell 0
  have gx1_23_1 : w23.cell? ⟨w7.heap.size, 1, none⟩ = some (.slice Dx1_1 x1.2.length dx1_1) := kx1_23.cell 1
  have zzx1_23 := kx1_23.lt
  go_wp2_with fail
  go_ret
  exact ⟨rfl, uu23⟩
end Go.Proofs.Ytgdcdfpnogiciaa
