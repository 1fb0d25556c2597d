/-
  The walk of FnExactDoChange: for every input it returns true.
-/
import Derived.Test.YtghphlfihakadaaGreatDoorKo
import Derived.Test.YtghphlfihakadaaGreatDoorLz
import Derived.Test.YtghphlfihakadaaGreatDoorLe
import Derived.Test.YtghphlfihakadaaGreatDoorLt
import Derived.Test.YtghphlfihakadaaGreatDoorLm
import Derived.Test.YtghphlfihakadaaGreatDoorLd
import Derived.Deep.RegionHeld3
import Derived.Deep.DeepCutAuto
namespace Go.Proofs.YtghphlfihakadaaGreatDoor
open Go.RowKit
set_option linter.unusedVariables false
set_option linter.unusedSimpArgs false

set_option maxRecDepth 100000 in
set_option maxHeartbeats 16000000 in
theorem w0_FnExactDoChange (w : World) (v0 : Value) (x0 : TTree) (h0 : AV shTree w v0 x0) (v1 : Value) (x1 : TChange) (h1 : AV shChange w v1 x1) (htab : Tab w) :
    Calls Tryz.prog 8 #[v0, v1] w fun e w' => e = .returned (.bool true) ∧ Up w w' := by
  have hv0 := h0
  obtain ⟨cs0, rfl, h0⟩ := h0
  obtain ⟨A0_0, c0_0, rfl, _⟩ := openTree h0
  clear h0
  have hv1 := h1
  obtain ⟨cs1, rfl, h1⟩ := h1
  obtain ⟨A1_2, c1_2, rfl, _⟩ := openChange h1
  clear h1
  have ka0_0 : Bk ((w.alloc (.cells #[.slice A0_0 x0.length c0_0] 31)).alloc (.cells #[.int .i64 x1.1, .string x1.2.1, .slice A1_2 x1.2.2.1.length c1_2, .string x1.2.2.2] 60)) (w.heap.size) 31 #[.slice A0_0 x0.length c0_0] := by simpa using (Bk.new w 31 #[.slice A0_0 x0.length c0_0]).alloc (.cells #[.int .i64 x1.1, .string x1.2.1, .slice A1_2 x1.2.2.1.length c1_2, .string x1.2.2.2] 60)
  have ka1_0 : Bk ((w.alloc (.cells #[.slice A0_0 x0.length c0_0] 31)).alloc (.cells #[.int .i64 x1.1, .string x1.2.1, .slice A1_2 x1.2.2.1.length c1_2, .string x1.2.2.2] 60)) (w.heap.size + 1) 60 #[.int .i64 x1.1, .string x1.2.1, .slice A1_2 x1.2.2.1.length c1_2, .string x1.2.2.2] := by simpa using Bk.new (w.alloc (.cells #[.slice A0_0 x0.length c0_0] 31)) 60 #[.int .i64 x1.1, .string x1.2.1, .slice A1_2 x1.2.2.1.length c1_2, .string x1.2.2.2]
  have uu0 : Up w ((w.alloc (.cells #[.slice A0_0 x0.length c0_0] 31)).alloc (.cells #[.int .i64 x1.1, .string x1.2.1, .slice A1_2 x1.2.2.1.length c1_2, .string x1.2.2.2] 60)) := ((Up.refl w).alloc _).alloc _
  have zs0 := uu0.size
  have zs0b : ((w.alloc (.cells #[.slice A0_0 x0.length c0_0] 31)).alloc (.cells #[.int .i64 x1.1, .string x1.2.1, .slice A1_2 x1.2.2.1.length c1_2, .string x1.2.2.2] 60)).heap.size = w.heap.size + 1 + 1 := by simp
  go_enter Tryz.func8, Tryz.ntmps8
  go_wp2_with fail
  refine (c_szTree _ x0 _ _ (hv0.up good_Tree uu0) (by omega) (by omega)).mono ?_
  rintro e w1 ⟨rfl, u1⟩
  have uu1 := uu0.trans u1
  have zs1 := u1.size
  have ka0_1 := ka0_0.up u1
  have ka1_1 := ka1_0.up u1
  by_cases q0 : ¬ ((shTree.sz x0 : Nat) : Int) ≤ 1048576
  · rw [szR_no (by omega)]
    go_wp2_with fail
    go_ret
    exact ⟨rfl, uu1⟩
  replace q0 := Decidable.of_not_not q0
  rw [szR_yes q0]
  have ga0_1_0 : w1.cell? ⟨w.heap.size, 0, none⟩ = some (.slice A0_0 x0.length c0_0) := ka0_1.cell 0
  have zza0_1 := ka0_1.lt
  have ga1_1_0 : w1.cell? ⟨w.heap.size + 1, 0, none⟩ = some (.int .i64 x1.1) := ka1_1.cell 0
  have ga1_1_1 : w1.cell? ⟨w.heap.size + 1, 1, none⟩ = some (.string x1.2.1) := ka1_1.cell 1
  have ga1_1_2 : w1.cell? ⟨w.heap.size + 1, 2, none⟩ = some (.slice A1_2 x1.2.2.1.length c1_2) := ka1_1.cell 2
  have ga1_1_3 : w1.cell? ⟨w.heap.size + 1, 3, none⟩ = some (.string x1.2.2.2) := ka1_1.cell 3
  have zza1_1 := ka1_1.lt
  clear u1
  go_wp2_with fail
  refine (c_szChange _ x1 _ _ (hv1.up good_Change uu1) (by omega) (by omega)).mono ?_
  rintro e w2 ⟨rfl, u2⟩
  have uu2 := uu1.trans u2
  have zs2 := u2.size
  have ka0_2 := ka0_1.up u2
  have ka1_2 := ka1_1.up u2
  by_cases q1 : ¬ ((shChange.sz x1 : Nat) : Int) ≤ 1048576 - (shTree.sz x0 : Nat)
  · rw [szR_no (by omega)]
    go_wp2_with fail
    go_ret
    exact ⟨rfl, uu2⟩
  replace q1 := Decidable.of_not_not q1
  rw [szR_yes q1]
  clear ga0_1_0 zza0_1 ga1_1_0 ga1_1_1 ga1_1_2 ga1_1_3 zza1_1
  have ga0_2_0 : w2.cell? ⟨w.heap.size, 0, none⟩ = some (.slice A0_0 x0.length c0_0) := ka0_2.cell 0
  have zza0_2 := ka0_2.lt
  have ga1_2_0 : w2.cell? ⟨w.heap.size + 1, 0, none⟩ = some (.int .i64 x1.1) := ka1_2.cell 0
  have ga1_2_1 : w2.cell? ⟨w.heap.size + 1, 1, none⟩ = some (.string x1.2.1) := ka1_2.cell 1
  have ga1_2_2 : w2.cell? ⟨w.heap.size + 1, 2, none⟩ = some (.slice A1_2 x1.2.2.1.length c1_2) := ka1_2.cell 2
  have ga1_2_3 : w2.cell? ⟨w.heap.size + 1, 3, none⟩ = some (.string x1.2.2.2) := ka1_2.cell 3
  have zza1_2 := ka1_2.lt
  clear u2
  go_upto_region 8 with (fail)
  have hn0 : shTree.sz x0 ≤ 1048576 := by omega
  have hn1 : shChange.sz x1 ≤ 1048576 := by omega
  have HSs : Hid (w2.cell? ⟨w.heap.size, 0, none⟩ = some (.slice A0_0 x0.length c0_0) ∧ w2.cell? ⟨w.heap.size + 1, 0, none⟩ = some (.int .i64 x1.1) ∧ w2.cell? ⟨w.heap.size + 1, 1, none⟩ = some (.string x1.2.1) ∧ w2.cell? ⟨w.heap.size + 1, 2, none⟩ = some (.slice A1_2 x1.2.2.1.length c1_2) ∧ w2.cell? ⟨w.heap.size + 1, 3, none⟩ = some (.string x1.2.2.2)) := ⟨ka0_2.cell 0, ka1_2.cell 0, ka1_2.cell 1, ka1_2.cell 2, ka1_2.cell 3⟩
  go_cut [6,7] (fun s1 s2 wx => ∃ (g : Nat) (D : Option Addr) (d : Nat), s1 = .pointer (some ⟨g, 0, none⟩) ∧ s2 = .int .i64 (doChangeC x0 x1) ∧ Bk wx g 36 #[.slice D (doChange x0 x1).length d] ∧ shTree.rep wx 0 wx.heap.size [.slice D (doChange x0 x1).length d] (doChange x0 x1) ∧ Up w2 wx ∧ w2.heap.size ≤ g ∧ g < wx.heap.size)
  case first =>
    go_region_held3? (fun W => W.cell? ⟨w.heap.size, 0, none⟩ = some (.slice A0_0 x0.length c0_0) ∧ W.cell? ⟨w.heap.size + 1, 0, none⟩ = some (.int .i64 x1.1) ∧ W.cell? ⟨w.heap.size + 1, 1, none⟩ = some (.string x1.2.1) ∧ W.cell? ⟨w.heap.size + 1, 2, none⟩ = some (.slice A1_2 x1.2.2.1.length c1_2) ∧ W.cell? ⟨w.heap.size + 1, 3, none⟩ = some (.string x1.2.2.2))
      (exact up5 (by first | exact (Up.refl w2).drew | exact (Up.refl w2).drew.alloc _ | exact v3 | exact v3.alloc _ | exact v4 | exact v4.alloc _ | exact v5 | exact v5.alloc _ | exact v5.setCell (Nat.le_refl _) _ | exact v5.setCell v3.size _ | exact v5.setCell v4.size _) HSs.out)
      (first
        | (go_at_call 20
           refine (c_toTree _ x0 _ (hv0.up good_Tree (uu2.trans (by first | exact (Up.refl _).drew | exact (Up.refl _).drew.alloc _))) hn0).mono ?_
           rintro e w3x ⟨cs3, bl3, rfl, o3, nd3, u3⟩
           have v3 : Up w2 w3x := Up.trans (by first | exact (Up.refl _).drew | exact (Up.refl _).drew.alloc _) u3
           have y3 := AV.of_own good_Tree o3
           first
             | (have kx3 : Bk w3x w2.heap.size 36 #[.slice none 0 0] := Bk.up (Bk.new w2.drew 36 #[.slice none 0 0]) u3
                have gx3 : w3x.cell? ⟨w2.heap.size, 0, none⟩ = some (.slice none 0 0) := kx3.cell 0
                have fx3 : w3x.frozen? ⟨w2.heap.size, 0, none⟩ = false := kx3.frozen 0)
             | skip)
        | (go_at_call 40
           refine (c_toChange _ x1 _ (hv1.up good_Change (uu2.trans (by first | exact v3 | exact v3.alloc _))) hn1).mono ?_
           rintro e w4x ⟨cs4, bl4, rfl, o4, nd4, u4⟩
           have t4 : Up w3x w4x := Up.trans (by first | exact Up.refl _ | exact (Up.refl _).alloc _) u4
           have v4 : Up w2 w4x := v3.trans t4
           have y4 := AV.of_own good_Change o4
           first
             | (have kx4 : Bk w4x w2.heap.size 36 #[.slice none 0 0] := kx3.up t4
                have gx4 : w4x.cell? ⟨w2.heap.size, 0, none⟩ = some (.slice none 0 0) := kx4.cell 0
                have fx4 : w4x.frozen? ⟨w2.heap.size, 0, none⟩ = false := kx4.frozen 0
                clear gx3 fx3)
             | (have kx4 : Bk w4x w3x.heap.size 36 #[.slice none 0 0] := Bk.up (Bk.new w3x 36 #[.slice none 0 0]) u4
                have gx4 : w4x.cell? ⟨w3x.heap.size, 0, none⟩ = some (.slice none 0 0) := kx4.cell 0
                have fx4 : w4x.frozen? ⟨w3x.heap.size, 0, none⟩ = false := kx4.frozen 0)
             | skip)
        | (go_at_call 39
           refine (c_specDoChange _ x0 _ x1 _ (y3.up good_Tree (by first | exact t4 | exact t4.alloc _)) hn0 (y4.up good_Change (by first | exact Up.refl _ | exact (Up.refl _).alloc _))).mono ?_
           rintro e w5x ⟨cs5, bl5, rfl, o5, nd5, u5⟩
           obtain ⟨D5, d5, _, rfl, _, _⟩ := openOTree o5
           have t5 : Up w4x w5x := Up.trans (by first | exact Up.refl _ | exact (Up.refl _).alloc _) u5
           have v5 : Up w2 w5x := v4.trans t5
           first
             | (have kx5 : Bk w5x w2.heap.size 36 #[.slice none 0 0] := kx4.up t5
                have gx5 : w5x.cell? ⟨w2.heap.size, 0, none⟩ = some (.slice none 0 0) := kx5.cell 0
                have fx5 : w5x.frozen? ⟨w2.heap.size, 0, none⟩ = false := kx5.frozen 0
                clear gx4 fx4)
             | (have kx5 : Bk w5x w3x.heap.size 36 #[.slice none 0 0] := kx4.up t5
                have gx5 : w5x.cell? ⟨w3x.heap.size, 0, none⟩ = some (.slice none 0 0) := kx5.cell 0
                have fx5 : w5x.frozen? ⟨w3x.heap.size, 0, none⟩ = false := kx5.frozen 0
                clear gx4 fx4)
             | (have kx5 : Bk w5x w4x.heap.size 36 #[.slice none 0 0] := Bk.up (Bk.new w4x 36 #[.slice none 0 0]) u5
                have gx5 : w5x.cell? ⟨w4x.heap.size, 0, none⟩ = some (.slice none 0 0) := kx5.cell 0
                have fx5 : w5x.frozen? ⟨w4x.heap.size, 0, none⟩ = false := kx5.frozen 0)
             | skip))
    all_goals go_wp2_with fail
    all_goals go_meet
    all_goals first
      | exact ⟨w5x.heap.size, D5, d5, rfl, rfl, Bk.new _ _ _, good_Tree.wide (good_Tree.keep (good_Tree.own_rep o5) (((Up.refl w5x).alloc _).keeps (Nat.le_refl _))) (Nat.zero_le _) (by simp), v5.alloc _, v5.size, by simp⟩
      | exact ⟨w2.heap.size, D5, d5, rfl, rfl, by simpa using kx5.set 0 _, good_Tree.wide (good_Tree.keep (good_Tree.own_rep o5) (fun b hb1 _ => (But.set w5x (w2.heap.size) 0 _).block b (by have := kx4.lt; (try simp only [World.alloc, Array.size_push] at hb1); omega))) (Nat.zero_le _) (by simp [World.setCell]), v5.setCell (by first | exact Nat.le_refl _) _, Nat.le_refl _, by simpa [World.setCell] using kx5.lt⟩
      | exact ⟨w3x.heap.size, D5, d5, rfl, rfl, by simpa using kx5.set 0 _, good_Tree.wide (good_Tree.keep (good_Tree.own_rep o5) (fun b hb1 _ => (But.set w5x (w3x.heap.size) 0 _).block b (by have := kx4.lt; (try simp only [World.alloc, Array.size_push] at hb1); omega))) (Nat.zero_le _) (by simp [World.setCell]), v5.setCell (by first | exact v3.size) _, v3.size, by simpa [World.setCell] using kx5.lt⟩
      | exact ⟨w4x.heap.size, D5, d5, rfl, rfl, by simpa using kx5.set 0 _, good_Tree.wide (good_Tree.keep (good_Tree.own_rep o5) (fun b hb1 _ => (But.set w5x (w4x.heap.size) 0 _).block b (by (try simp only [World.alloc, Array.size_push] at hb1); omega))) (Nat.zero_le _) (by simp [World.setCell]), v5.setCell (by first | exact v4.size) _, v4.size, by simpa [World.setCell] using kx5.lt⟩
  obtain ⟨g3, Ds_0, ds_0, rfl, rfl, kr_3, os, u3, hga3, hgb3⟩ := hcut
  obtain ⟨w3, hwq⟩ : ∃ w3, w3 = wc := ⟨_, rfl⟩
  subst hwq
  have uu3 := uu2.trans u3
  have zs3 := u3.size
  have ka0_3 := ka0_2.up u3
  have ka1_3 := ka1_2.up u3
  clear ga0_2_0 zza0_2 ga1_2_0 ga1_2_1 ga1_2_2 ga1_2_3 zza1_2
  have ga0_3_0 : w3.cell? ⟨w.heap.size, 0, none⟩ = some (.slice A0_0 x0.length c0_0) := ka0_3.cell 0
  have zza0_3 := ka0_3.lt
  have ga1_3_0 : w3.cell? ⟨w.heap.size + 1, 0, none⟩ = some (.int .i64 x1.1) := ka1_3.cell 0
  have ga1_3_1 : w3.cell? ⟨w.heap.size + 1, 1, none⟩ = some (.string x1.2.1) := ka1_3.cell 1
  have ga1_3_2 : w3.cell? ⟨w.heap.size + 1, 2, none⟩ = some (.slice A1_2 x1.2.2.1.length c1_2) := ka1_3.cell 2
  have ga1_3_3 : w3.cell? ⟨w.heap.size + 1, 3, none⟩ = some (.string x1.2.2.2) := ka1_3.cell 3
  have zza1_3 := ka1_3.lt
  have gr_3_0 : w3.cell? ⟨g3, 0, none⟩ = some (.slice Ds_0 (doChange x0 x1).length ds_0) := kr_3.cell 0
  have zzr_3 := kr_3.lt
  go_wp2_with fail
  refine (c_toTree _ x0 _ (hv0.up good_Tree uu3) hn0).mono ?_
  rintro e w4 ⟨csx0, blx0, rfl, ox0, ndx0, u4⟩
  obtain ⟨Dx0_0, dx0_0, _, rfl, _, _⟩ := openOTree ox0
  have uu4 := uu3.trans u4
  have zs4 := u4.size
  have ka0_4 := ka0_3.up u4
  have ka1_4 := ka1_3.up u4
  have kr_4 := kr_3.up u4
  have os_4 := good_Tree.keep os (u4.keeps (by omega))
  clear ga0_3_0 zza0_3 ga1_3_0 ga1_3_1 ga1_3_2 ga1_3_3 zza1_3 gr_3_0 zzr_3
  have ga0_4_0 : w4.cell? ⟨w.heap.size, 0, none⟩ = some (.slice A0_0 x0.length c0_0) := ka0_4.cell 0
  have zza0_4 := ka0_4.lt
  have ga1_4_0 : w4.cell? ⟨w.heap.size + 1, 0, none⟩ = some (.int .i64 x1.1) := ka1_4.cell 0
  have ga1_4_1 : w4.cell? ⟨w.heap.size + 1, 1, none⟩ = some (.string x1.2.1) := ka1_4.cell 1
  have ga1_4_2 : w4.cell? ⟨w.heap.size + 1, 2, none⟩ = some (.slice A1_2 x1.2.2.1.length c1_2) := ka1_4.cell 2
  have ga1_4_3 : w4.cell? ⟨w.heap.size + 1, 3, none⟩ = some (.string x1.2.2.2) := ka1_4.cell 3
  have zza1_4 := ka1_4.lt
  have gr_4_0 : w4.cell? ⟨g3, 0, none⟩ = some (.slice Ds_0 (doChange x0 x1).length ds_0) := kr_4.cell 0
  have zzr_4 := kr_4.lt
  have ua4 : Up w4 (w4.alloc (.cells #[.slice Dx0_0 x0.length dx0_0] 36)) := (Up.alloc (Up.refl w4) (.cells #[.slice Dx0_0 x0.length dx0_0] 36))
  have za4 : (w4.alloc (.cells #[.slice Dx0_0 x0.length dx0_0] 36)).heap.size = w4.heap.size + 1 := by simp
  have ub4 := uu4.trans ua4
  have ka0_4b := ka0_4.up ua4
  have ka1_4b := ka1_4.up ua4
  have kr_4b := kr_4.up ua4
  have os_4b := good_Tree.keep os_4 (ua4.keeps (by omega))
  clear os_4
  have ox0_4b := good_Tree.own_keep ox0 (fun y hy => ua4.block y (Nat.lt_of_lt_of_le (good_Tree.own_in ox0 y hy).2 (by omega)))
  have kx0_4b : Bk (w4.alloc (.cells #[.slice Dx0_0 x0.length dx0_0] 36)) (w4.heap.size) 36 #[.slice Dx0_0 x0.length dx0_0] := Bk.new _ _ _
  clear ga0_4_0 zza0_4 ga1_4_0 ga1_4_1 ga1_4_2 ga1_4_3 zza1_4 gr_4_0 zzr_4
  have ga0_4_0 : (w4.alloc (.cells #[.slice Dx0_0 x0.length dx0_0] 36)).cell? ⟨w.heap.size, 0, none⟩ = some (.slice A0_0 x0.length c0_0) := ka0_4b.cell 0
  have zza0_4 := ka0_4b.lt
  have ga1_4_0 : (w4.alloc (.cells #[.slice Dx0_0 x0.length dx0_0] 36)).cell? ⟨w.heap.size + 1, 0, none⟩ = some (.int .i64 x1.1) := ka1_4b.cell 0
  have ga1_4_1 : (w4.alloc (.cells #[.slice Dx0_0 x0.length dx0_0] 36)).cell? ⟨w.heap.size + 1, 1, none⟩ = some (.string x1.2.1) := ka1_4b.cell 1
  have ga1_4_2 : (w4.alloc (.cells #[.slice Dx0_0 x0.length dx0_0] 36)).cell? ⟨w.heap.size + 1, 2, none⟩ = some (.slice A1_2 x1.2.2.1.length c1_2) := ka1_4b.cell 2
  have ga1_4_3 : (w4.alloc (.cells #[.slice Dx0_0 x0.length dx0_0] 36)).cell? ⟨w.heap.size + 1, 3, none⟩ = some (.string x1.2.2.2) := ka1_4b.cell 3
  have zza1_4 := ka1_4b.lt
  have gr_4_0 : (w4.alloc (.cells #[.slice Dx0_0 x0.length dx0_0] 36)).cell? ⟨g3, 0, none⟩ = some (.slice Ds_0 (doChange x0 x1).length ds_0) := kr_4b.cell 0
  have zzr_4 := kr_4b.lt
  have gx0_4_0 : (w4.alloc (.cells #[.slice Dx0_0 x0.length dx0_0] 36)).cell? ⟨w4.heap.size, 0, none⟩ = some (.slice Dx0_0 x0.length dx0_0) := kx0_4b.cell 0
  have zzx0_4 := kx0_4b.lt
  go_wp2_with fail
  refine (c_toChange _ x1 _ (hv1.up good_Change ub4) hn1).mono ?_
  rintro e w5 ⟨csx1, blx1, rfl, ox1, ndx1, u5⟩
  obtain ⟨Dx1_2, dx1_2, _, rfl, _, _⟩ := openOChange ox1
  have uu5 := ub4.trans u5
  have zs5 := u5.size
  have ka0_5 := ka0_4b.up u5
  have ka1_5 := ka1_4b.up u5
  have kr_5 := kr_4b.up u5
  have kx0_5 := kx0_4b.up u5
  have os_5 := good_Tree.keep os_4b (u5.keeps (by omega))
  clear os_4b
  have ox0_5 := good_Tree.own_keep ox0_4b (fun y hy => u5.block y (Nat.lt_of_lt_of_le (good_Tree.own_in ox0_4b y hy).2 (by omega)))
  clear ox0_4b
  clear ga0_4_0 zza0_4 ga1_4_0 ga1_4_1 ga1_4_2 ga1_4_3 zza1_4 gr_4_0 zzr_4 gx0_4_0 zzx0_4
  have ga0_5_0 : w5.cell? ⟨w.heap.size, 0, none⟩ = some (.slice A0_0 x0.length c0_0) := ka0_5.cell 0
  have zza0_5 := ka0_5.lt
  have ga1_5_0 : w5.cell? ⟨w.heap.size + 1, 0, none⟩ = some (.int .i64 x1.1) := ka1_5.cell 0
  have ga1_5_1 : w5.cell? ⟨w.heap.size + 1, 1, none⟩ = some (.string x1.2.1) := ka1_5.cell 1
  have ga1_5_2 : w5.cell? ⟨w.heap.size + 1, 2, none⟩ = some (.slice A1_2 x1.2.2.1.length c1_2) := ka1_5.cell 2
  have ga1_5_3 : w5.cell? ⟨w.heap.size + 1, 3, none⟩ = some (.string x1.2.2.2) := ka1_5.cell 3
  have zza1_5 := ka1_5.lt
  have gr_5_0 : w5.cell? ⟨g3, 0, none⟩ = some (.slice Ds_0 (doChange x0 x1).length ds_0) := kr_5.cell 0
  have zzr_5 := kr_5.lt
  have gx0_5_0 : w5.cell? ⟨w4.heap.size, 0, none⟩ = some (.slice Dx0_0 x0.length dx0_0) := kx0_5.cell 0
  have zzx0_5 := kx0_5.lt
  have ua5 : Up w5 (w5.alloc (.cells #[.int .i64 x1.1, .string x1.2.1, .slice Dx1_2 x1.2.2.1.length dx1_2, .string x1.2.2.2] 63)) := (Up.alloc (Up.refl w5) (.cells #[.int .i64 x1.1, .string x1.2.1, .slice Dx1_2 x1.2.2.1.length dx1_2, .string x1.2.2.2] 63))
  have za5 : (w5.alloc (.cells #[.int .i64 x1.1, .string x1.2.1, .slice Dx1_2 x1.2.2.1.length dx1_2, .string x1.2.2.2] 63)).heap.size = w5.heap.size + 1 := by simp
  have ub5 := uu5.trans ua5
  have ka0_5b := ka0_5.up ua5
  have ka1_5b := ka1_5.up ua5
  have kr_5b := kr_5.up ua5
  have kx0_5b := kx0_5.up ua5
  have os_5b := good_Tree.keep os_5 (ua5.keeps (by omega))
  clear os_5
  have ox0_5b := good_Tree.own_keep ox0_5 (fun y hy => ua5.block y (Nat.lt_of_lt_of_le (good_Tree.own_in ox0_5 y hy).2 (by omega)))
  clear ox0_5
  have ox1_5b := good_Change.own_keep ox1 (fun y hy => ua5.block y (Nat.lt_of_lt_of_le (good_Change.own_in ox1 y hy).2 (by omega)))
  have kx1_5b : Bk (w5.alloc (.cells #[.int .i64 x1.1, .string x1.2.1, .slice Dx1_2 x1.2.2.1.length dx1_2, .string x1.2.2.2] 63)) (w5.heap.size) 63 #[.int .i64 x1.1, .string x1.2.1, .slice Dx1_2 x1.2.2.1.length dx1_2, .string x1.2.2.2] := Bk.new _ _ _
  clear ga0_5_0 zza0_5 ga1_5_0 ga1_5_1 ga1_5_2 ga1_5_3 zza1_5 gr_5_0 zzr_5 gx0_5_0 zzx0_5
  have ga0_5_0 : (w5.alloc (.cells #[.int .i64 x1.1, .string x1.2.1, .slice Dx1_2 x1.2.2.1.length dx1_2, .string x1.2.2.2] 63)).cell? ⟨w.heap.size, 0, none⟩ = some (.slice A0_0 x0.length c0_0) := ka0_5b.cell 0
  have zza0_5 := ka0_5b.lt
  have ga1_5_0 : (w5.alloc (.cells #[.int .i64 x1.1, .string x1.2.1, .slice Dx1_2 x1.2.2.1.length dx1_2, .string x1.2.2.2] 63)).cell? ⟨w.heap.size + 1, 0, none⟩ = some (.int .i64 x1.1) := ka1_5b.cell 0
  have ga1_5_1 : (w5.alloc (.cells #[.int .i64 x1.1, .string x1.2.1, .slice Dx1_2 x1.2.2.1.length dx1_2, .string x1.2.2.2] 63)).cell? ⟨w.heap.size + 1, 1, none⟩ = some (.string x1.2.1) := ka1_5b.cell 1
  have ga1_5_2 : (w5.alloc (.cells #[.int .i64 x1.1, .string x1.2.1, .slice Dx1_2 x1.2.2.1.length dx1_2, .string x1.2.2.2] 63)).cell? ⟨w.heap.size + 1, 2, none⟩ = some (.slice A1_2 x1.2.2.1.length c1_2) := ka1_5b.cell 2
  have ga1_5_3 : (w5.alloc (.cells #[.int .i64 x1.1, .string x1.2.1, .slice Dx1_2 x1.2.2.1.length dx1_2, .string x1.2.2.2] 63)).cell? ⟨w.heap.size + 1, 3, none⟩ = some (.string x1.2.2.2) := ka1_5b.cell 3
  have zza1_5 := ka1_5b.lt
  have gr_5_0 : (w5.alloc (.cells #[.int .i64 x1.1, .string x1.2.1, .slice Dx1_2 x1.2.2.1.length dx1_2, .string x1.2.2.2] 63)).cell? ⟨g3, 0, none⟩ = some (.slice Ds_0 (doChange x0 x1).length ds_0) := kr_5b.cell 0
  have zzr_5 := kr_5b.lt
  have gx0_5_0 : (w5.alloc (.cells #[.int .i64 x1.1, .string x1.2.1, .slice Dx1_2 x1.2.2.1.length dx1_2, .string x1.2.2.2] 63)).cell? ⟨w4.heap.size, 0, none⟩ = some (.slice Dx0_0 x0.length dx0_0) := kx0_5b.cell 0
  have zzx0_5 := kx0_5b.lt
  have gx1_5_0 : (w5.alloc (.cells #[.int .i64 x1.1, .string x1.2.1, .slice Dx1_2 x1.2.2.1.length dx1_2, .string x1.2.2.2] 63)).cell? ⟨w5.heap.size, 0, none⟩ = some (.int .i64 x1.1) := kx1_5b.cell 0
  have gx1_5_1 : (w5.alloc (.cells #[.int .i64 x1.1, .string x1.2.1, .slice Dx1_2 x1.2.2.1.length dx1_2, .string x1.2.2.2] 63)).cell? ⟨w5.heap.size, 1, none⟩ = some (.string x1.2.1) := kx1_5b.cell 1
  have gx1_5_2 : (w5.alloc (.cells #[.int .i64 x1.1, .string x1.2.1, .slice Dx1_2 x1.2.2.1.length dx1_2, .string x1.2.2.2] 63)).cell? ⟨w5.heap.size, 2, none⟩ = some (.slice Dx1_2 x1.2.2.1.length dx1_2) := kx1_5b.cell 2
  have gx1_5_3 : (w5.alloc (.cells #[.int .i64 x1.1, .string x1.2.1, .slice Dx1_2 x1.2.2.1.length dx1_2, .string x1.2.2.2] 63)).cell? ⟨w5.heap.size, 3, none⟩ = some (.string x1.2.2.2) := kx1_5b.cell 3
  have zzx1_5 := kx1_5b.lt
  go_wp2_with fail
  refine (ci_DoChange _ x0 _ x1 _ ⟨_, rfl, good_Tree.wide (good_Tree.own_rep ox0_5b) (Nat.zero_le _) (by omega)⟩ hn0 ⟨_, rfl, good_Change.wide (good_Change.own_rep ox1_5b) (Nat.zero_le _) (by omega)⟩ hn1 (tab_up htab ub5)).mono ?_
  rintro e w6 ⟨csg, blg, rfl, og, ndg, u6⟩
  obtain ⟨Dg_0, dg_0, _, rfl, _, _⟩ := openOTree og
  have uu6 := ub5.trans u6
  have zs6 := u6.size
  have ka0_6 := ka0_5b.up u6
  have ka1_6 := ka1_5b.up u6
  have kr_6 := kr_5b.up u6
  have kx0_6 := kx0_5b.up u6
  have kx1_6 := kx1_5b.up u6
  have os_6 := good_Tree.keep os_5b (u6.keeps (by omega))
  clear os_5b
  have ox0_6 := good_Tree.own_keep ox0_5b (fun y hy => u6.block y (Nat.lt_of_lt_of_le (good_Tree.own_in ox0_5b y hy).2 (by omega)))
  clear ox0_5b
  have ox1_6 := good_Change.own_keep ox1_5b (fun y hy => u6.block y (Nat.lt_of_lt_of_le (good_Change.own_in ox1_5b y hy).2 (by omega)))
  clear ox1_5b
  have ua6 : Up w6 (w6.alloc (.cells #[.slice Dg_0 (doChange x0 x1).length dg_0] 36)) := (Up.alloc (Up.refl w6) (.cells #[.slice Dg_0 (doChange x0 x1).length dg_0] 36))
  have za6 : (w6.alloc (.cells #[.slice Dg_0 (doChange x0 x1).length dg_0] 36)).heap.size = w6.heap.size + 1 := by simp
  have ub6 := uu6.trans ua6
  have ka0_6b := ka0_6.up ua6
  have ka1_6b := ka1_6.up ua6
  have kr_6b := kr_6.up ua6
  have kx0_6b := kx0_6.up ua6
  have kx1_6b := kx1_6.up ua6
  have os_6b := good_Tree.keep os_6 (ua6.keeps (by omega))
  clear os_6
  have ox0_6b := good_Tree.own_keep ox0_6 (fun y hy => ua6.block y (Nat.lt_of_lt_of_le (good_Tree.own_in ox0_6 y hy).2 (by omega)))
  clear ox0_6
  have ox1_6b := good_Change.own_keep ox1_6 (fun y hy => ua6.block y (Nat.lt_of_lt_of_le (good_Change.own_in ox1_6 y hy).2 (by omega)))
  clear ox1_6
  have og_6b := good_Tree.own_keep og (fun y hy => ua6.block y (Nat.lt_of_lt_of_le (good_Tree.own_in og y hy).2 (by omega)))
  have kg_6b : Bk (w6.alloc (.cells #[.slice Dg_0 (doChange x0 x1).length dg_0] 36)) (w6.heap.size) 36 #[.slice Dg_0 (doChange x0 x1).length dg_0] := Bk.new _ _ _
  clear ga0_5_0 zza0_5 ga1_5_0 ga1_5_1 ga1_5_2 ga1_5_3 zza1_5 gr_5_0 zzr_5 gx0_5_0 zzx0_5 gx1_5_0 gx1_5_1 gx1_5_2 gx1_5_3 zzx1_5
  have ga0_6_0 : (w6.alloc (.cells #[.slice Dg_0 (doChange x0 x1).length dg_0] 36)).cell? ⟨w.heap.size, 0, none⟩ = some (.slice A0_0 x0.length c0_0) := ka0_6b.cell 0
  have zza0_6 := ka0_6b.lt
  have ga1_6_0 : (w6.alloc (.cells #[.slice Dg_0 (doChange x0 x1).length dg_0] 36)).cell? ⟨w.heap.size + 1, 0, none⟩ = some (.int .i64 x1.1) := ka1_6b.cell 0
  have ga1_6_1 : (w6.alloc (.cells #[.slice Dg_0 (doChange x0 x1).length dg_0] 36)).cell? ⟨w.heap.size + 1, 1, none⟩ = some (.string x1.2.1) := ka1_6b.cell 1
  have ga1_6_2 : (w6.alloc (.cells #[.slice Dg_0 (doChange x0 x1).length dg_0] 36)).cell? ⟨w.heap.size + 1, 2, none⟩ = some (.slice A1_2 x1.2.2.1.length c1_2) := ka1_6b.cell 2
  have ga1_6_3 : (w6.alloc (.cells #[.slice Dg_0 (doChange x0 x1).length dg_0] 36)).cell? ⟨w.heap.size + 1, 3, none⟩ = some (.string x1.2.2.2) := ka1_6b.cell 3
  have zza1_6 := ka1_6b.lt
  have gr_6_0 : (w6.alloc (.cells #[.slice Dg_0 (doChange x0 x1).length dg_0] 36)).cell? ⟨g3, 0, none⟩ = some (.slice Ds_0 (doChange x0 x1).length ds_0) := kr_6b.cell 0
  have zzr_6 := kr_6b.lt
  have gx0_6_0 : (w6.alloc (.cells #[.slice Dg_0 (doChange x0 x1).length dg_0] 36)).cell? ⟨w4.heap.size, 0, none⟩ = some (.slice Dx0_0 x0.length dx0_0) := kx0_6b.cell 0
  have zzx0_6 := kx0_6b.lt
  have gx1_6_0 : (w6.alloc (.cells #[.slice Dg_0 (doChange x0 x1).length dg_0] 36)).cell? ⟨w5.heap.size, 0, none⟩ = some (.int .i64 x1.1) := kx1_6b.cell 0
  have gx1_6_1 : (w6.alloc (.cells #[.slice Dg_0 (doChange x0 x1).length dg_0] 36)).cell? ⟨w5.heap.size, 1, none⟩ = some (.string x1.2.1) := kx1_6b.cell 1
  have gx1_6_2 : (w6.alloc (.cells #[.slice Dg_0 (doChange x0 x1).length dg_0] 36)).cell? ⟨w5.heap.size, 2, none⟩ = some (.slice Dx1_2 x1.2.2.1.length dx1_2) := kx1_6b.cell 2
  have gx1_6_3 : (w6.alloc (.cells #[.slice Dg_0 (doChange x0 x1).length dg_0] 36)).cell? ⟨w5.heap.size, 3, none⟩ = some (.string x1.2.2.2) := kx1_6b.cell 3
  have zzx1_6 := kx1_6b.lt
  have gg_6_0 : (w6.alloc (.cells #[.slice Dg_0 (doChange x0 x1).length dg_0] 36)).cell? ⟨w6.heap.size, 0, none⟩ = some (.slice Dg_0 (doChange x0 x1).length dg_0) := kg_6b.cell 0
  have zzg_6 := kg_6b.lt
  go_wp2_with fail
  refine (c_eqTree _ _ (doChange x0 x1) (doChange x0 x1) _ ⟨_, rfl, good_Tree.wide (good_Tree.own_rep og_6b) (Nat.zero_le _) (by omega)⟩ ⟨_, rfl, good_Tree.wide os_6b (Nat.le_refl _) (by omega)⟩).mono ?_
  rintro e w7 ⟨be0, rfl, hbe0, u7⟩
  have uu7 := ub6.trans u7
  have zs7 := u7.size
  have ka0_7 := ka0_6b.up u7
  have ka1_7 := ka1_6b.up u7
  have kr_7 := kr_6b.up u7
  have kx0_7 := kx0_6b.up u7
  have kx1_7 := kx1_6b.up u7
  have kg_7 := kg_6b.up u7
  have os_7 := good_Tree.keep os_6b (u7.keeps (by omega))
  clear os_6b
  have ox0_7 := good_Tree.own_keep ox0_6b (fun y hy => u7.block y (Nat.lt_of_lt_of_le (good_Tree.own_in ox0_6b y hy).2 (by omega)))
  clear ox0_6b
  have ox1_7 := good_Change.own_keep ox1_6b (fun y hy => u7.block y (Nat.lt_of_lt_of_le (good_Change.own_in ox1_6b y hy).2 (by omega)))
  clear ox1_6b
  have og_7 := good_Tree.own_keep og_6b (fun y hy => u7.block y (Nat.lt_of_lt_of_le (good_Tree.own_in og_6b y hy).2 (by omega)))
  clear og_6b
  obtain rfl : be0 = true := by simpa using hbe0
  clear hbe0 u7
  clear ga0_6_0 zza0_6 ga1_6_0 ga1_6_1 ga1_6_2 ga1_6_3 zza1_6 gr_6_0 zzr_6 gx0_6_0 zzx0_6 gx1_6_0 gx1_6_1 gx1_6_2 gx1_6_3 zzx1_6 gg_6_0 zzg_6
  have ga0_7_0 : w7.cell? ⟨w.heap.size, 0, none⟩ = some (.slice A0_0 x0.length c0_0) := ka0_7.cell 0
  have zza0_7 := ka0_7.lt
  have ga1_7_0 : w7.cell? ⟨w.heap.size + 1, 0, none⟩ = some (.int .i64 x1.1) := ka1_7.cell 0
  have ga1_7_1 : w7.cell? ⟨w.heap.size + 1, 1, none⟩ = some (.string x1.2.1) := ka1_7.cell 1
  have ga1_7_2 : w7.cell? ⟨w.heap.size + 1, 2, none⟩ = some (.slice A1_2 x1.2.2.1.length c1_2) := ka1_7.cell 2
  have ga1_7_3 : w7.cell? ⟨w.heap.size + 1, 3, none⟩ = some (.string x1.2.2.2) := ka1_7.cell 3
  have zza1_7 := ka1_7.lt
  have gr_7_0 : w7.cell? ⟨g3, 0, none⟩ = some (.slice Ds_0 (doChange x0 x1).length ds_0) := kr_7.cell 0
  have zzr_7 := kr_7.lt
  have gx0_7_0 : w7.cell? ⟨w4.heap.size, 0, none⟩ = some (.slice Dx0_0 x0.length dx0_0) := kx0_7.cell 0
  have zzx0_7 := kx0_7.lt
  have gx1_7_0 : w7.cell? ⟨w5.heap.size, 0, none⟩ = some (.int .i64 x1.1) := kx1_7.cell 0
  have gx1_7_1 : w7.cell? ⟨w5.heap.size, 1, none⟩ = some (.string x1.2.1) := kx1_7.cell 1
  have gx1_7_2 : w7.cell? ⟨w5.heap.size, 2, none⟩ = some (.slice Dx1_2 x1.2.2.1.length dx1_2) := kx1_7.cell 2
  have gx1_7_3 : w7.cell? ⟨w5.heap.size, 3, none⟩ = some (.string x1.2.2.2) := kx1_7.cell 3
  have zzx1_7 := kx1_7.lt
  have gg_7_0 : w7.cell? ⟨w6.heap.size, 0, none⟩ = some (.slice Dg_0 (doChange x0 x1).length dg_0) := kg_7.cell 0
  have zzg_7 := kg_7.lt
  go_wp2_with fail
  go_region_held3 (fun W => W.cell? ⟨w.heap.size, 0, none⟩ = some (.slice A0_0 x0.length c0_0) ∧ W.cell? ⟨w4.heap.size, 0, none⟩ = some (.slice Dx0_0 x0.length dx0_0)) (first | exact ⟨ka0_7.cell 0, kx0_7.cell 0⟩ | exact ⟨ka0_8.cell 0, kx0_8.cell 0⟩ | exact ⟨ka0_9z.cell 0, kx0_9z.cell 0⟩) (first | (go_at_call 20; (with_reducible refine (c_toTree _ x0 _ (hv0.up good_Tree uu7.drew) hn0).mono ?_); rintro e w8 ⟨cse0, ble0, rfl, oe0, nde0, u8⟩; have u8d := Up.trans (Up.drew (Up.refl w7)) u8; have ye0 : AV shTree w8 (.agg #[.slice Dx0_0 x0.length dx0_0]) x0 := ⟨_, rfl, good_Tree.wide (good_Tree.keep (good_Tree.own_rep ox0_7) (u8d.keeps (by omega))) (Nat.zero_le _) (by have := u8d.size; omega)⟩; have yce0 := AV.of_own good_Tree oe0; have ka0_8 := ka0_7.up u8d; have kx0_8 := kx0_7.up u8d) | (go_at_call 22; (with_reducible refine (c_eqTree _ _ x0 x0 _ ye0 yce0).mono ?_); rintro e w9 ⟨be0, rfl, hbe0, u9⟩; have u9d := u8d.trans u9; have ka0_9z := ka0_7.up u9d; have kx0_9z := kx0_7.up u9d))
  have uu9 := uu7.trans u9d
  have zs9 := u9d.size
  have ka0_9 := ka0_7.up u9d
  have ka1_9 := ka1_7.up u9d
  have kr_9 := kr_7.up u9d
  have kx0_9 := kx0_7.up u9d
  have kx1_9 := kx1_7.up u9d
  have kg_9 := kg_7.up u9d
  have os_9 := good_Tree.keep os_7 (u9d.keeps (by omega))
  clear os_7
  have ox0_9 := good_Tree.own_keep ox0_7 (fun y hy => u9d.block y (Nat.lt_of_lt_of_le (good_Tree.own_in ox0_7 y hy).2 (by omega)))
  clear ox0_7
  have ox1_9 := good_Change.own_keep ox1_7 (fun y hy => u9d.block y (Nat.lt_of_lt_of_le (good_Change.own_in ox1_7 y hy).2 (by omega)))
  clear ox1_7
  have og_9 := good_Tree.own_keep og_7 (fun y hy => u9d.block y (Nat.lt_of_lt_of_le (good_Tree.own_in og_7 y hy).2 (by omega)))
  clear og_7
  obtain rfl : be0 = true := by simpa using hbe0
  clear hbe0 u8 u8d u9 u9d ye0 yce0 oe0
  clear ka0_8 ka0_9z kx0_8 kx0_9z
  clear ga0_7_0 zza0_7 ga1_7_0 ga1_7_1 ga1_7_2 ga1_7_3 zza1_7 gr_7_0 zzr_7 gx0_7_0 zzx0_7 gx1_7_0 gx1_7_1 gx1_7_2 gx1_7_3 zzx1_7 gg_7_0 zzg_7
  have ga0_9_0 : w9.cell? ⟨w.heap.size, 0, none⟩ = some (.slice A0_0 x0.length c0_0) := ka0_9.cell 0
  have zza0_9 := ka0_9.lt
  have ga1_9_0 : w9.cell? ⟨w.heap.size + 1, 0, none⟩ = some (.int .i64 x1.1) := ka1_9.cell 0
  have ga1_9_1 : w9.cell? ⟨w.heap.size + 1, 1, none⟩ = some (.string x1.2.1) := ka1_9.cell 1
  have ga1_9_2 : w9.cell? ⟨w.heap.size + 1, 2, none⟩ = some (.slice A1_2 x1.2.2.1.length c1_2) := ka1_9.cell 2
  have ga1_9_3 : w9.cell? ⟨w.heap.size + 1, 3, none⟩ = some (.string x1.2.2.2) := ka1_9.cell 3
  have zza1_9 := ka1_9.lt
  have gr_9_0 : w9.cell? ⟨g3, 0, none⟩ = some (.slice Ds_0 (doChange x0 x1).length ds_0) := kr_9.cell 0
  have zzr_9 := kr_9.lt
  have gx0_9_0 : w9.cell? ⟨w4.heap.size, 0, none⟩ = some (.slice Dx0_0 x0.length dx0_0) := kx0_9.cell 0
  have zzx0_9 := kx0_9.lt
  have gx1_9_0 : w9.cell? ⟨w5.heap.size, 0, none⟩ = some (.int .i64 x1.1) := kx1_9.cell 0
  have gx1_9_1 : w9.cell? ⟨w5.heap.size, 1, none⟩ = some (.string x1.2.1) := kx1_9.cell 1
  have gx1_9_2 : w9.cell? ⟨w5.heap.size, 2, none⟩ = some (.slice Dx1_2 x1.2.2.1.length dx1_2) := kx1_9.cell 2
  have gx1_9_3 : w9.cell? ⟨w5.heap.size, 3, none⟩ = some (.string x1.2.2.2) := kx1_9.cell 3
  have zzx1_9 := kx1_9.lt
  have gg_9_0 : w9.cell? ⟨w6.heap.size, 0, none⟩ = some (.slice Dg_0 (doChange x0 x1).length dg_0) := kg_9.cell 0
  have zzg_9 := kg_9.lt
  go_wp2_with fail
  go_region_held3 (fun W => W.cell? ⟨w.heap.size + 1, 0, none⟩ = some (.int .i64 x1.1) ∧ W.cell? ⟨w.heap.size + 1, 1, none⟩ = some (.string x1.2.1) ∧ W.cell? ⟨w.heap.size + 1, 2, none⟩ = some (.slice A1_2 x1.2.2.1.length c1_2) ∧ W.cell? ⟨w.heap.size + 1, 3, none⟩ = some (.string x1.2.2.2) ∧ W.cell? ⟨w5.heap.size, 0, none⟩ = some (.int .i64 x1.1) ∧ W.cell? ⟨w5.heap.size, 1, none⟩ = some (.string x1.2.1) ∧ W.cell? ⟨w5.heap.size, 2, none⟩ = some (.slice Dx1_2 x1.2.2.1.length dx1_2) ∧ W.cell? ⟨w5.heap.size, 3, none⟩ = some (.string x1.2.2.2)) (first | exact ⟨ka1_9.cell 0, ka1_9.cell 1, ka1_9.cell 2, ka1_9.cell 3, kx1_9.cell 0, kx1_9.cell 1, kx1_9.cell 2, kx1_9.cell 3⟩ | exact ⟨ka1_10.cell 0, ka1_10.cell 1, ka1_10.cell 2, ka1_10.cell 3, kx1_10.cell 0, kx1_10.cell 1, kx1_10.cell 2, kx1_10.cell 3⟩ | exact ⟨ka1_11z.cell 0, ka1_11z.cell 1, ka1_11z.cell 2, ka1_11z.cell 3, kx1_11z.cell 0, kx1_11z.cell 1, kx1_11z.cell 2, kx1_11z.cell 3⟩) (first | (go_at_call 40; (with_reducible refine (c_toChange _ x1 _ (hv1.up good_Change uu9.drew) hn1).mono ?_); rintro e w10 ⟨cse1, ble1, rfl, oe1, nde1, u10⟩; have u10d := Up.trans (Up.drew (Up.refl w9)) u10; have ye1 : AV shChange w10 (.agg #[.int .i64 x1.1, .string x1.2.1, .slice Dx1_2 x1.2.2.1.length dx1_2, .string x1.2.2.2]) x1 := ⟨_, rfl, good_Change.wide (good_Change.keep (good_Change.own_rep ox1_9) (u10d.keeps (by omega))) (Nat.zero_le _) (by have := u10d.size; omega)⟩; have yce1 := AV.of_own good_Change oe1; have ka1_10 := ka1_9.up u10d; have kx1_10 := kx1_9.up u10d) | (go_at_call 42; (with_reducible refine (c_eqChange _ _ x1 x1 _ ye1 yce1).mono ?_); rintro e w11 ⟨be1, rfl, hbe1, u11⟩; have u11d := u10d.trans u11; have ka1_11z := ka1_9.up u11d; have kx1_11z := kx1_9.up u11d))
  have uu11 := uu9.trans u11d
  have zs11 := u11d.size
  have ka0_11 := ka0_9.up u11d
  have ka1_11 := ka1_9.up u11d
  have kr_11 := kr_9.up u11d
  have kx0_11 := kx0_9.up u11d
  have kx1_11 := kx1_9.up u11d
  have kg_11 := kg_9.up u11d
  have os_11 := good_Tree.keep os_9 (u11d.keeps (by omega))
  clear os_9
  have ox0_11 := good_Tree.own_keep ox0_9 (fun y hy => u11d.block y (Nat.lt_of_lt_of_le (good_Tree.own_in ox0_9 y hy).2 (by omega)))
  clear ox0_9
  have ox1_11 := good_Change.own_keep ox1_9 (fun y hy => u11d.block y (Nat.lt_of_lt_of_le (good_Change.own_in ox1_9 y hy).2 (by omega)))
  clear ox1_9
  have og_11 := good_Tree.own_keep og_9 (fun y hy => u11d.block y (Nat.lt_of_lt_of_le (good_Tree.own_in og_9 y hy).2 (by omega)))
  clear og_9
  obtain rfl : be1 = true := by simpa using hbe1
  clear hbe1 u10 u10d u11 u11d ye1 yce1 oe1
  clear ka1_10 ka1_11z kx1_10 kx1_11z
  clear ga0_9_0 zza0_9 ga1_9_0 ga1_9_1 ga1_9_2 ga1_9_3 zza1_9 gr_9_0 zzr_9 gx0_9_0 zzx0_9 gx1_9_0 gx1_9_1 gx1_9_2 gx1_9_3 zzx1_9 gg_9_0 zzg_9
  have ga0_11_0 : w11.cell? ⟨w.heap.size, 0, none⟩ = some (.slice A0_0 x0.length c0_0) := ka0_11.cell 0
  have zza0_11 := ka0_11.lt
  have ga1_11_0 : w11.cell? ⟨w.heap.size + 1, 0, none⟩ = some (.int .i64 x1.1) := ka1_11.cell 0
  have ga1_11_1 : w11.cell? ⟨w.heap.size + 1, 1, none⟩ = some (.string x1.2.1) := ka1_11.cell 1
  have ga1_11_2 : w11.cell? ⟨w.heap.size + 1, 2, none⟩ = some (.slice A1_2 x1.2.2.1.length c1_2) := ka1_11.cell 2
  have ga1_11_3 : w11.cell? ⟨w.heap.size + 1, 3, none⟩ = some (.string x1.2.2.2) := ka1_11.cell 3
  have zza1_11 := ka1_11.lt
  have gr_11_0 : w11.cell? ⟨g3, 0, none⟩ = some (.slice Ds_0 (doChange x0 x1).length ds_0) := kr_11.cell 0
  have zzr_11 := kr_11.lt
  have gx0_11_0 : w11.cell? ⟨w4.heap.size, 0, none⟩ = some (.slice Dx0_0 x0.length dx0_0) := kx0_11.cell 0
  have zzx0_11 := kx0_11.lt
  have gx1_11_0 : w11.cell? ⟨w5.heap.size, 0, none⟩ = some (.int .i64 x1.1) := kx1_11.cell 0
  have gx1_11_1 : w11.cell? ⟨w5.heap.size, 1, none⟩ = some (.string x1.2.1) := kx1_11.cell 1
  have gx1_11_2 : w11.cell? ⟨w5.heap.size, 2, none⟩ = some (.slice Dx1_2 x1.2.2.1.length dx1_2) := kx1_11.cell 2
  have gx1_11_3 : w11.cell? ⟨w5.heap.size, 3, none⟩ = some (.string x1.2.2.2) := kx1_11.cell 3
  have zzx1_11 := kx1_11.lt
  have gg_11_0 : w11.cell? ⟨w6.heap.size, 0, none⟩ = some (.slice Dg_0 (doChange x0 x1).length dg_0) := kg_11.cell 0
  have zzg_11 := kg_11.lt
  go_wp2_with fail
  have cbx0 : (1 : Int) + (mmTTree.cnt x0 : Nat) ≤ 1000000000 := by have := cnt_Tree x0 hn0; omega
  have cbx1 : (1 : Int) + (mmTChange.cnt x1 : Nat) ≤ 1000000000 := by have := cnt_Change x1 hn1; omega
  have cbg : (1 : Int) + (mmTTree.cnt (doChange x0 x1) : Nat) ≤ 1000000000 := cbg_DoChange x0 hn0 x1 hn1
  refine (c_markTree _ (x0) _ (w3.heap.size) (w4.heap.size) blx0 _ ox0_11 (by omega) ndx0 (by omega) (by simpa using cbx0)).mono ?_
  rintro e w12 ⟨rfl, mox0, oox0⟩
  have hm1012 : ∀ y ∈ blx0, w3.heap.size ≤ y ∧ y < w4.heap.size := good_Tree.own_in ox0_11
  have uu12 := uu11.only oox0 (fun y hy => by have := (hm1012 y hy).1; omega)
  have zs12 := oox0.size
  have ka0_12 := ka0_11.only oox0 (fun hy => by have := hm1012 _ hy; omega)
  have ka1_12 := ka1_11.only oox0 (fun hy => by have := hm1012 _ hy; omega)
  have kr_12 := kr_11.only oox0 (fun hy => by have := hm1012 _ hy; omega)
  have kx0_12 := kx0_11.only oox0 (fun hy => by have := hm1012 _ hy; omega)
  have kx1_12 := kx1_11.only oox0 (fun hy => by have := hm1012 _ hy; omega)
  have kg_12 := kg_11.only oox0 (fun hy => by have := hm1012 _ hy; omega)
  have os_12 := good_Tree.keep os_11 (fun y _ hy => oox0.block y (by omega) (fun hm => by have h1 := hm1012 y hm; omega))
  clear os_11
  have ox1_12 := good_Change.own_keep ox1_11 (fun y hy => oox0.block y (Nat.lt_of_lt_of_le (good_Change.own_in ox1_11 y hy).2 (by omega)) (fun hm => by have h1 := hm1012 y hm; have h2 := good_Change.own_in ox1_11 y hy; omega))
  clear ox1_11
  have og_12 := good_Tree.own_keep og_11 (fun y hy => oox0.block y (Nat.lt_of_lt_of_le (good_Tree.own_in og_11 y hy).2 (by omega)) (fun hm => by have h1 := hm1012 y hm; have h2 := good_Tree.own_in og_11 y hy; omega))
  clear og_11
  have mkx0 : shTree.own w12 (w3.heap.size) (w4.heap.size) [.slice Dx0_0 x0.length dx0_0] (mmTTree.mark (x0) 1) blx0 := mox0
  clear mox0 oox0 ox0_11
  clear ga0_11_0 zza0_11 ga1_11_0 ga1_11_1 ga1_11_2 ga1_11_3 zza1_11 gr_11_0 zzr_11 gx0_11_0 zzx0_11 gx1_11_0 gx1_11_1 gx1_11_2 gx1_11_3 zzx1_11 gg_11_0 zzg_11
  have ga0_12_0 : w12.cell? ⟨w.heap.size, 0, none⟩ = some (.slice A0_0 x0.length c0_0) := ka0_12.cell 0
  have zza0_12 := ka0_12.lt
  have ga1_12_0 : w12.cell? ⟨w.heap.size + 1, 0, none⟩ = some (.int .i64 x1.1) := ka1_12.cell 0
  have ga1_12_1 : w12.cell? ⟨w.heap.size + 1, 1, none⟩ = some (.string x1.2.1) := ka1_12.cell 1
  have ga1_12_2 : w12.cell? ⟨w.heap.size + 1, 2, none⟩ = some (.slice A1_2 x1.2.2.1.length c1_2) := ka1_12.cell 2
  have ga1_12_3 : w12.cell? ⟨w.heap.size + 1, 3, none⟩ = some (.string x1.2.2.2) := ka1_12.cell 3
  have zza1_12 := ka1_12.lt
  have gr_12_0 : w12.cell? ⟨g3, 0, none⟩ = some (.slice Ds_0 (doChange x0 x1).length ds_0) := kr_12.cell 0
  have zzr_12 := kr_12.lt
  have gx0_12_0 : w12.cell? ⟨w4.heap.size, 0, none⟩ = some (.slice Dx0_0 x0.length dx0_0) := kx0_12.cell 0
  have zzx0_12 := kx0_12.lt
  have gx1_12_0 : w12.cell? ⟨w5.heap.size, 0, none⟩ = some (.int .i64 x1.1) := kx1_12.cell 0
  have gx1_12_1 : w12.cell? ⟨w5.heap.size, 1, none⟩ = some (.string x1.2.1) := kx1_12.cell 1
  have gx1_12_2 : w12.cell? ⟨w5.heap.size, 2, none⟩ = some (.slice Dx1_2 x1.2.2.1.length dx1_2) := kx1_12.cell 2
  have gx1_12_3 : w12.cell? ⟨w5.heap.size, 3, none⟩ = some (.string x1.2.2.2) := kx1_12.cell 3
  have zzx1_12 := kx1_12.lt
  have gg_12_0 : w12.cell? ⟨w6.heap.size, 0, none⟩ = some (.slice Dg_0 (doChange x0 x1).length dg_0) := kg_12.cell 0
  have zzg_12 := kg_12.lt
  go_wp2_with fail
  replace cbx1 : (1 + ((mmTTree.cnt x0 : Nat) : Int)) + ((mmTChange.cnt x1 : Nat) : Int) ≤ 1000000000 := by have := cnt_Change x1 hn1; have := cnt_Tree x0 hn0; omega
  have kpos1 : ¬ ((1 + ((mmTTree.cnt x0 : Nat) : Int)) + ((mmTChange.cnt x1 : Nat) : Int)) < 0 := by omega
  refine (c_markChange _ (x1) _ ((w4.alloc (.cells #[.slice Dx0_0 x0.length dx0_0] 36)).heap.size) (w5.heap.size) blx1 _ ox1_12 (by omega) ndx1 (by omega) (by simpa using cbx1)).mono ?_
  rintro e w13 ⟨rfl, mox1, oox1⟩
  have hm1013 : ∀ y ∈ blx1, (w4.alloc (.cells #[.slice Dx0_0 x0.length dx0_0] 36)).heap.size ≤ y ∧ y < w5.heap.size := good_Change.own_in ox1_12
  have uu13 := uu12.only oox1 (fun y hy => by have := (hm1013 y hy).1; omega)
  have zs13 := oox1.size
  have ka0_13 := ka0_12.only oox1 (fun hy => by have := hm1013 _ hy; omega)
  have ka1_13 := ka1_12.only oox1 (fun hy => by have := hm1013 _ hy; omega)
  have kr_13 := kr_12.only oox1 (fun hy => by have := hm1013 _ hy; omega)
  have kx0_13 := kx0_12.only oox1 (fun hy => by have := hm1013 _ hy; omega)
  have kx1_13 := kx1_12.only oox1 (fun hy => by have := hm1013 _ hy; omega)
  have kg_13 := kg_12.only oox1 (fun hy => by have := hm1013 _ hy; omega)
  have os_13 := good_Tree.keep os_12 (fun y _ hy => oox1.block y (by omega) (fun hm => by have h1 := hm1013 y hm; omega))
  clear os_12
  have mkx0_13 := good_Tree.own_keep mkx0 (fun y hy => oox1.block y (Nat.lt_of_lt_of_le (good_Tree.own_in mkx0 y hy).2 (by omega)) (fun hm => by have h1 := hm1013 y hm; have h2 := good_Tree.own_in mkx0 y hy; omega))
  have og_13 := good_Tree.own_keep og_12 (fun y hy => oox1.block y (Nat.lt_of_lt_of_le (good_Tree.own_in og_12 y hy).2 (by omega)) (fun hm => by have h1 := hm1013 y hm; have h2 := good_Tree.own_in og_12 y hy; omega))
  clear og_12
  have mkx1 : shChange.own w13 ((w4.alloc (.cells #[.slice Dx0_0 x0.length dx0_0] 36)).heap.size) (w5.heap.size) [.int .i64 x1.1, .string x1.2.1, .slice Dx1_2 x1.2.2.1.length dx1_2, .string x1.2.2.2] (mmTChange.mark (x1) (1 + ((mmTTree.cnt x0 : Nat) : Int))) blx1 := mox1
  clear mox1 oox1 ox1_12
  clear ga0_12_0 zza0_12 ga1_12_0 ga1_12_1 ga1_12_2 ga1_12_3 zza1_12 gr_12_0 zzr_12 gx0_12_0 zzx0_12 gx1_12_0 gx1_12_1 gx1_12_2 gx1_12_3 zzx1_12 gg_12_0 zzg_12
  have ga0_13_0 : w13.cell? ⟨w.heap.size, 0, none⟩ = some (.slice A0_0 x0.length c0_0) := ka0_13.cell 0
  have zza0_13 := ka0_13.lt
  have ga1_13_0 : w13.cell? ⟨w.heap.size + 1, 0, none⟩ = some (.int .i64 x1.1) := ka1_13.cell 0
  have ga1_13_1 : w13.cell? ⟨w.heap.size + 1, 1, none⟩ = some (.string x1.2.1) := ka1_13.cell 1
  have ga1_13_2 : w13.cell? ⟨w.heap.size + 1, 2, none⟩ = some (.slice A1_2 x1.2.2.1.length c1_2) := ka1_13.cell 2
  have ga1_13_3 : w13.cell? ⟨w.heap.size + 1, 3, none⟩ = some (.string x1.2.2.2) := ka1_13.cell 3
  have zza1_13 := ka1_13.lt
  have gr_13_0 : w13.cell? ⟨g3, 0, none⟩ = some (.slice Ds_0 (doChange x0 x1).length ds_0) := kr_13.cell 0
  have zzr_13 := kr_13.lt
  have gx0_13_0 : w13.cell? ⟨w4.heap.size, 0, none⟩ = some (.slice Dx0_0 x0.length dx0_0) := kx0_13.cell 0
  have zzx0_13 := kx0_13.lt
  have gx1_13_0 : w13.cell? ⟨w5.heap.size, 0, none⟩ = some (.int .i64 x1.1) := kx1_13.cell 0
  have gx1_13_1 : w13.cell? ⟨w5.heap.size, 1, none⟩ = some (.string x1.2.1) := kx1_13.cell 1
  have gx1_13_2 : w13.cell? ⟨w5.heap.size, 2, none⟩ = some (.slice Dx1_2 x1.2.2.1.length dx1_2) := kx1_13.cell 2
  have gx1_13_3 : w13.cell? ⟨w5.heap.size, 3, none⟩ = some (.string x1.2.2.2) := kx1_13.cell 3
  have zzx1_13 := kx1_13.lt
  have gg_13_0 : w13.cell? ⟨w6.heap.size, 0, none⟩ = some (.slice Dg_0 (doChange x0 x1).length dg_0) := kg_13.cell 0
  have zzg_13 := kg_13.lt
  go_wp2_with fail
  refine (c_eqTree _ _ (doChange x0 x1) (doChange x0 x1) _ ⟨_, rfl, good_Tree.wide (good_Tree.own_rep og_13) (Nat.zero_le _) (by omega)⟩ ⟨_, rfl, good_Tree.wide os_13 (Nat.le_refl _) (by omega)⟩).mono ?_
  rintro e w14 ⟨be1, rfl, hbe1, u14⟩
  have uu14 := uu13.trans u14
  have zs14 := u14.size
  have ka0_14 := ka0_13.up u14
  have ka1_14 := ka1_13.up u14
  have kr_14 := kr_13.up u14
  have kx0_14 := kx0_13.up u14
  have kx1_14 := kx1_13.up u14
  have kg_14 := kg_13.up u14
  have os_14 := good_Tree.keep os_13 (u14.keeps (by omega))
  clear os_13
  have mkx0_14 := good_Tree.own_keep mkx0_13 (fun y hy => u14.block y (Nat.lt_of_lt_of_le (good_Tree.own_in mkx0_13 y hy).2 (by omega)))
  clear mkx0_13
  have mkx1_14 := good_Change.own_keep mkx1 (fun y hy => u14.block y (Nat.lt_of_lt_of_le (good_Change.own_in mkx1 y hy).2 (by omega)))
  have og_14 := good_Tree.own_keep og_13 (fun y hy => u14.block y (Nat.lt_of_lt_of_le (good_Tree.own_in og_13 y hy).2 (by omega)))
  clear og_13
  obtain rfl : be1 = true := by simpa using hbe1
  clear hbe1 u14
  clear ga0_13_0 zza0_13 ga1_13_0 ga1_13_1 ga1_13_2 ga1_13_3 zza1_13 gr_13_0 zzr_13 gx0_13_0 zzx0_13 gx1_13_0 gx1_13_1 gx1_13_2 gx1_13_3 zzx1_13 gg_13_0 zzg_13
  have ga0_14_0 : w14.cell? ⟨w.heap.size, 0, none⟩ = some (.slice A0_0 x0.length c0_0) := ka0_14.cell 0
  have zza0_14 := ka0_14.lt
  have ga1_14_0 : w14.cell? ⟨w.heap.size + 1, 0, none⟩ = some (.int .i64 x1.1) := ka1_14.cell 0
  have ga1_14_1 : w14.cell? ⟨w.heap.size + 1, 1, none⟩ = some (.string x1.2.1) := ka1_14.cell 1
  have ga1_14_2 : w14.cell? ⟨w.heap.size + 1, 2, none⟩ = some (.slice A1_2 x1.2.2.1.length c1_2) := ka1_14.cell 2
  have ga1_14_3 : w14.cell? ⟨w.heap.size + 1, 3, none⟩ = some (.string x1.2.2.2) := ka1_14.cell 3
  have zza1_14 := ka1_14.lt
  have gr_14_0 : w14.cell? ⟨g3, 0, none⟩ = some (.slice Ds_0 (doChange x0 x1).length ds_0) := kr_14.cell 0
  have zzr_14 := kr_14.lt
  have gx0_14_0 : w14.cell? ⟨w4.heap.size, 0, none⟩ = some (.slice Dx0_0 x0.length dx0_0) := kx0_14.cell 0
  have zzx0_14 := kx0_14.lt
  have gx1_14_0 : w14.cell? ⟨w5.heap.size, 0, none⟩ = some (.int .i64 x1.1) := kx1_14.cell 0
  have gx1_14_1 : w14.cell? ⟨w5.heap.size, 1, none⟩ = some (.string x1.2.1) := kx1_14.cell 1
  have gx1_14_2 : w14.cell? ⟨w5.heap.size, 2, none⟩ = some (.slice Dx1_2 x1.2.2.1.length dx1_2) := kx1_14.cell 2
  have gx1_14_3 : w14.cell? ⟨w5.heap.size, 3, none⟩ = some (.string x1.2.2.2) := kx1_14.cell 3
  have zzx1_14 := kx1_14.lt
  have gg_14_0 : w14.cell? ⟨w6.heap.size, 0, none⟩ = some (.slice Dg_0 (doChange x0 x1).length dg_0) := kg_14.cell 0
  have zzg_14 := kg_14.lt
  go_wp2_with fail
  refine (c_markTree _ (doChange x0 x1) _ ((w5.alloc (.cells #[.int .i64 x1.1, .string x1.2.1, .slice Dx1_2 x1.2.2.1.length dx1_2, .string x1.2.2.2] 63)).heap.size) (w6.heap.size) blg _ og_14 (by omega) ndg (by omega) (by simpa using cbg)).mono ?_
  rintro e w15 ⟨rfl, mog, oog⟩
  have hm1015 : ∀ y ∈ blg, (w5.alloc (.cells #[.int .i64 x1.1, .string x1.2.1, .slice Dx1_2 x1.2.2.1.length dx1_2, .string x1.2.2.2] 63)).heap.size ≤ y ∧ y < w6.heap.size := good_Tree.own_in og_14
  have uu15 := uu14.only oog (fun y hy => by have := (hm1015 y hy).1; omega)
  have zs15 := oog.size
  have ka0_15 := ka0_14.only oog (fun hy => by have := hm1015 _ hy; omega)
  have ka1_15 := ka1_14.only oog (fun hy => by have := hm1015 _ hy; omega)
  have kr_15 := kr_14.only oog (fun hy => by have := hm1015 _ hy; omega)
  have kx0_15 := kx0_14.only oog (fun hy => by have := hm1015 _ hy; omega)
  have kx1_15 := kx1_14.only oog (fun hy => by have := hm1015 _ hy; omega)
  have kg_15 := kg_14.only oog (fun hy => by have := hm1015 _ hy; omega)
  have os_15 := good_Tree.keep os_14 (fun y _ hy => oog.block y (by omega) (fun hm => by have h1 := hm1015 y hm; omega))
  clear os_14
  have mkx0_15 := good_Tree.own_keep mkx0_14 (fun y hy => oog.block y (Nat.lt_of_lt_of_le (good_Tree.own_in mkx0_14 y hy).2 (by omega)) (fun hm => by have h1 := hm1015 y hm; have h2 := good_Tree.own_in mkx0_14 y hy; omega))
  clear mkx0_14
  have mkx1_15 := good_Change.own_keep mkx1_14 (fun y hy => oog.block y (Nat.lt_of_lt_of_le (good_Change.own_in mkx1_14 y hy).2 (by omega)) (fun hm => by have h1 := hm1015 y hm; have h2 := good_Change.own_in mkx1_14 y hy; omega))
  clear mkx1_14
  have mkg : shTree.own w15 ((w5.alloc (.cells #[.int .i64 x1.1, .string x1.2.1, .slice Dx1_2 x1.2.2.1.length dx1_2, .string x1.2.2.2] 63)).heap.size) (w6.heap.size) [.slice Dg_0 (doChange x0 x1).length dg_0] (mmTTree.mark (doChange x0 x1) 1) blg := mog
  clear mog oog og_14
  clear ga0_14_0 zza0_14 ga1_14_0 ga1_14_1 ga1_14_2 ga1_14_3 zza1_14 gr_14_0 zzr_14 gx0_14_0 zzx0_14 gx1_14_0 gx1_14_1 gx1_14_2 gx1_14_3 zzx1_14 gg_14_0 zzg_14
  have ga0_15_0 : w15.cell? ⟨w.heap.size, 0, none⟩ = some (.slice A0_0 x0.length c0_0) := ka0_15.cell 0
  have zza0_15 := ka0_15.lt
  have ga1_15_0 : w15.cell? ⟨w.heap.size + 1, 0, none⟩ = some (.int .i64 x1.1) := ka1_15.cell 0
  have ga1_15_1 : w15.cell? ⟨w.heap.size + 1, 1, none⟩ = some (.string x1.2.1) := ka1_15.cell 1
  have ga1_15_2 : w15.cell? ⟨w.heap.size + 1, 2, none⟩ = some (.slice A1_2 x1.2.2.1.length c1_2) := ka1_15.cell 2
  have ga1_15_3 : w15.cell? ⟨w.heap.size + 1, 3, none⟩ = some (.string x1.2.2.2) := ka1_15.cell 3
  have zza1_15 := ka1_15.lt
  have gr_15_0 : w15.cell? ⟨g3, 0, none⟩ = some (.slice Ds_0 (doChange x0 x1).length ds_0) := kr_15.cell 0
  have zzr_15 := kr_15.lt
  have gx0_15_0 : w15.cell? ⟨w4.heap.size, 0, none⟩ = some (.slice Dx0_0 x0.length dx0_0) := kx0_15.cell 0
  have zzx0_15 := kx0_15.lt
  have gx1_15_0 : w15.cell? ⟨w5.heap.size, 0, none⟩ = some (.int .i64 x1.1) := kx1_15.cell 0
  have gx1_15_1 : w15.cell? ⟨w5.heap.size, 1, none⟩ = some (.string x1.2.1) := kx1_15.cell 1
  have gx1_15_2 : w15.cell? ⟨w5.heap.size, 2, none⟩ = some (.slice Dx1_2 x1.2.2.1.length dx1_2) := kx1_15.cell 2
  have gx1_15_3 : w15.cell? ⟨w5.heap.size, 3, none⟩ = some (.string x1.2.2.2) := kx1_15.cell 3
  have zzx1_15 := kx1_15.lt
  have gg_15_0 : w15.cell? ⟨w6.heap.size, 0, none⟩ = some (.slice Dg_0 (doChange x0 x1).length dg_0) := kg_15.cell 0
  have zzg_15 := kg_15.lt
  go_wp2_with fail
  have hia := gmT_Tree.idem (doChange x0 x1) 1
  have hsa := gmT_Tree.same (doChange x0 x1) 1
  have hcba : (1 : Int) + (mmTTree.cnt (mmTTree.mark (doChange x0 x1) 1) : Nat) ≤ 1000000000 := by rw [hsa]; exact cbg
  refine (c_heldTree _ (mmTTree.mark (doChange x0 x1) 1) _ _ ⟨_, rfl, good_Tree.wide (good_Tree.own_rep mkg) (Nat.zero_le _) (by omega)⟩ hia (by omega) hcba).mono ?_
  rintro e w16 ⟨rfl, u16⟩
  have uu16 := uu15.trans u16
  have zs16 := u16.size
  have ka0_16 := ka0_15.up u16
  have ka1_16 := ka1_15.up u16
  have kr_16 := kr_15.up u16
  have kx0_16 := kx0_15.up u16
  have kx1_16 := kx1_15.up u16
  have kg_16 := kg_15.up u16
  have os_16 := good_Tree.keep os_15 (u16.keeps (by omega))
  clear os_15
  have mkx0_16 := good_Tree.own_keep mkx0_15 (fun y hy => u16.block y (Nat.lt_of_lt_of_le (good_Tree.own_in mkx0_15 y hy).2 (by omega)))
  clear mkx0_15
  have mkx1_16 := good_Change.own_keep mkx1_15 (fun y hy => u16.block y (Nat.lt_of_lt_of_le (good_Change.own_in mkx1_15 y hy).2 (by omega)))
  clear mkx1_15
  have mkg_16 := good_Tree.own_keep mkg (fun y hy => u16.block y (Nat.lt_of_lt_of_le (good_Tree.own_in mkg y hy).2 (by omega)))
  rw [hsa]
  clear hia hsa hcba u16
  clear ga0_15_0 zza0_15 ga1_15_0 ga1_15_1 ga1_15_2 ga1_15_3 zza1_15 gr_15_0 zzr_15 gx0_15_0 zzx0_15 gx1_15_0 gx1_15_1 gx1_15_2 gx1_15_3 zzx1_15 gg_15_0 zzg_15
  have ga0_16_0 : w16.cell? ⟨w.heap.size, 0, none⟩ = some (.slice A0_0 x0.length c0_0) := ka0_16.cell 0
  have zza0_16 := ka0_16.lt
  have ga1_16_0 : w16.cell? ⟨w.heap.size + 1, 0, none⟩ = some (.int .i64 x1.1) := ka1_16.cell 0
  have ga1_16_1 : w16.cell? ⟨w.heap.size + 1, 1, none⟩ = some (.string x1.2.1) := ka1_16.cell 1
  have ga1_16_2 : w16.cell? ⟨w.heap.size + 1, 2, none⟩ = some (.slice A1_2 x1.2.2.1.length c1_2) := ka1_16.cell 2
  have ga1_16_3 : w16.cell? ⟨w.heap.size + 1, 3, none⟩ = some (.string x1.2.2.2) := ka1_16.cell 3
  have zza1_16 := ka1_16.lt
  have gr_16_0 : w16.cell? ⟨g3, 0, none⟩ = some (.slice Ds_0 (doChange x0 x1).length ds_0) := kr_16.cell 0
  have zzr_16 := kr_16.lt
  have gx0_16_0 : w16.cell? ⟨w4.heap.size, 0, none⟩ = some (.slice Dx0_0 x0.length dx0_0) := kx0_16.cell 0
  have zzx0_16 := kx0_16.lt
  have gx1_16_0 : w16.cell? ⟨w5.heap.size, 0, none⟩ = some (.int .i64 x1.1) := kx1_16.cell 0
  have gx1_16_1 : w16.cell? ⟨w5.heap.size, 1, none⟩ = some (.string x1.2.1) := kx1_16.cell 1
  have gx1_16_2 : w16.cell? ⟨w5.heap.size, 2, none⟩ = some (.slice Dx1_2 x1.2.2.1.length dx1_2) := kx1_16.cell 2
  have gx1_16_3 : w16.cell? ⟨w5.heap.size, 3, none⟩ = some (.string x1.2.2.2) := kx1_16.cell 3
  have zzx1_16 := kx1_16.lt
  have gg_16_0 : w16.cell? ⟨w6.heap.size, 0, none⟩ = some (.slice Dg_0 (doChange x0 x1).length dg_0) := kg_16.cell 0
  have zzg_16 := kg_16.lt
  go_upto_region 31 with (fail)
  have HSh : Hid (w16.cell? ⟨w.heap.size, 0, none⟩ = some (.slice A0_0 x0.length c0_0) ∧ w16.cell? ⟨w.heap.size + 1, 0, none⟩ = some (.int .i64 x1.1) ∧ w16.cell? ⟨w.heap.size + 1, 1, none⟩ = some (.string x1.2.1) ∧ w16.cell? ⟨w.heap.size + 1, 2, none⟩ = some (.slice A1_2 x1.2.2.1.length c1_2) ∧ w16.cell? ⟨w.heap.size + 1, 3, none⟩ = some (.string x1.2.2.2)) := ⟨ka0_16.cell 0, ka1_16.cell 0, ka1_16.cell 1, ka1_16.cell 2, ka1_16.cell 3⟩
  go_cut [15,16] (fun s1 s2 wx => ∃ (g : Nat) (D : Option Addr) (d : Nat), s1 = .pointer (some ⟨g, 0, none⟩) ∧ s2 = .int .i64 (doChangeC x0 x1) ∧ Bk wx g 36 #[.slice D (doChange x0 x1).length d] ∧ shTree.rep wx 0 wx.heap.size [.slice D (doChange x0 x1).length d] (doChange x0 x1) ∧ Up w16 wx ∧ w16.heap.size ≤ g ∧ g < wx.heap.size)
  case first =>
    go_region_held3? (fun W => W.cell? ⟨w.heap.size, 0, none⟩ = some (.slice A0_0 x0.length c0_0) ∧ W.cell? ⟨w.heap.size + 1, 0, none⟩ = some (.int .i64 x1.1) ∧ W.cell? ⟨w.heap.size + 1, 1, none⟩ = some (.string x1.2.1) ∧ W.cell? ⟨w.heap.size + 1, 2, none⟩ = some (.slice A1_2 x1.2.2.1.length c1_2) ∧ W.cell? ⟨w.heap.size + 1, 3, none⟩ = some (.string x1.2.2.2))
      (exact up5 (by first | exact (Up.refl w16).drew | exact (Up.refl w16).drew.alloc _ | exact v3 | exact v3.alloc _ | exact v4 | exact v4.alloc _ | exact v5 | exact v5.alloc _ | exact v5.setCell (Nat.le_refl _) _ | exact v5.setCell v3.size _ | exact v5.setCell v4.size _) HSh.out)
      (first
        | (go_at_call 20
           refine (c_toTree _ x0 _ (hv0.up good_Tree (uu16.trans (by first | exact (Up.refl _).drew | exact (Up.refl _).drew.alloc _))) hn0).mono ?_
           rintro e w3x ⟨cs3, bl3, rfl, o3, nd3, u3⟩
           have v3 : Up w16 w3x := Up.trans (by first | exact (Up.refl _).drew | exact (Up.refl _).drew.alloc _) u3
           have y3 := AV.of_own good_Tree o3
           first
             | (have kx3 : Bk w3x w16.heap.size 36 #[.slice none 0 0] := Bk.up (Bk.new w16.drew 36 #[.slice none 0 0]) u3
                have gx3 : w3x.cell? ⟨w16.heap.size, 0, none⟩ = some (.slice none 0 0) := kx3.cell 0
                have fx3 : w3x.frozen? ⟨w16.heap.size, 0, none⟩ = false := kx3.frozen 0)
             | skip)
        | (go_at_call 40
           refine (c_toChange _ x1 _ (hv1.up good_Change (uu16.trans (by first | exact v3 | exact v3.alloc _))) hn1).mono ?_
           rintro e w4x ⟨cs4, bl4, rfl, o4, nd4, u4⟩
           have t4 : Up w3x w4x := Up.trans (by first | exact Up.refl _ | exact (Up.refl _).alloc _) u4
           have v4 : Up w16 w4x := v3.trans t4
           have y4 := AV.of_own good_Change o4
           first
             | (have kx4 : Bk w4x w16.heap.size 36 #[.slice none 0 0] := kx3.up t4
                have gx4 : w4x.cell? ⟨w16.heap.size, 0, none⟩ = some (.slice none 0 0) := kx4.cell 0
                have fx4 : w4x.frozen? ⟨w16.heap.size, 0, none⟩ = false := kx4.frozen 0
                clear gx3 fx3)
             | (have kx4 : Bk w4x w3x.heap.size 36 #[.slice none 0 0] := Bk.up (Bk.new w3x 36 #[.slice none 0 0]) u4
                have gx4 : w4x.cell? ⟨w3x.heap.size, 0, none⟩ = some (.slice none 0 0) := kx4.cell 0
                have fx4 : w4x.frozen? ⟨w3x.heap.size, 0, none⟩ = false := kx4.frozen 0)
             | skip)
        | (go_at_call 41
           refine (ci_DoChange _ x0 _ x1 _ (y3.up good_Tree (by first | exact t4 | exact t4.alloc _)) hn0 (y4.up good_Change (by first | exact Up.refl _ | exact (Up.refl _).alloc _)) hn1 (tab_up htab (uu16.trans (by first | exact v4 | exact v4.alloc _)))).mono ?_
           rintro e w5x ⟨cs5, bl5, rfl, o5, nd5, u5⟩
           obtain ⟨D5, d5, _, rfl, _, _⟩ := openOTree o5
           have t5 : Up w4x w5x := Up.trans (by first | exact Up.refl _ | exact (Up.refl _).alloc _) u5
           have v5 : Up w16 w5x := v4.trans t5
           first
             | (have kx5 : Bk w5x w16.heap.size 36 #[.slice none 0 0] := kx4.up t5
                have gx5 : w5x.cell? ⟨w16.heap.size, 0, none⟩ = some (.slice none 0 0) := kx5.cell 0
                have fx5 : w5x.frozen? ⟨w16.heap.size, 0, none⟩ = false := kx5.frozen 0
                clear gx4 fx4)
             | (have kx5 : Bk w5x w3x.heap.size 36 #[.slice none 0 0] := kx4.up t5
                have gx5 : w5x.cell? ⟨w3x.heap.size, 0, none⟩ = some (.slice none 0 0) := kx5.cell 0
                have fx5 : w5x.frozen? ⟨w3x.heap.size, 0, none⟩ = false := kx5.frozen 0
                clear gx4 fx4)
             | (have kx5 : Bk w5x w4x.heap.size 36 #[.slice none 0 0] := Bk.up (Bk.new w4x 36 #[.slice none 0 0]) u5
                have gx5 : w5x.cell? ⟨w4x.heap.size, 0, none⟩ = some (.slice none 0 0) := kx5.cell 0
                have fx5 : w5x.frozen? ⟨w4x.heap.size, 0, none⟩ = false := kx5.frozen 0)
             | skip))
    all_goals go_wp2_with fail
    all_goals go_meet
    all_goals first
      | exact ⟨w5x.heap.size, D5, d5, rfl, rfl, Bk.new _ _ _, good_Tree.wide (good_Tree.keep (good_Tree.own_rep o5) (((Up.refl w5x).alloc _).keeps (Nat.le_refl _))) (Nat.zero_le _) (by simp), v5.alloc _, v5.size, by simp⟩
      | exact ⟨w16.heap.size, D5, d5, rfl, rfl, by simpa using kx5.set 0 _, good_Tree.wide (good_Tree.keep (good_Tree.own_rep o5) (fun b hb1 _ => (But.set w5x (w16.heap.size) 0 _).block b (by have := kx4.lt; (try simp only [World.alloc, Array.size_push] at hb1); omega))) (Nat.zero_le _) (by simp [World.setCell]), v5.setCell (by first | exact Nat.le_refl _) _, Nat.le_refl _, by simpa [World.setCell] using kx5.lt⟩
      | exact ⟨w3x.heap.size, D5, d5, rfl, rfl, by simpa using kx5.set 0 _, good_Tree.wide (good_Tree.keep (good_Tree.own_rep o5) (fun b hb1 _ => (But.set w5x (w3x.heap.size) 0 _).block b (by have := kx4.lt; (try simp only [World.alloc, Array.size_push] at hb1); omega))) (Nat.zero_le _) (by simp [World.setCell]), v5.setCell (by first | exact v3.size) _, v3.size, by simpa [World.setCell] using kx5.lt⟩
      | exact ⟨w4x.heap.size, D5, d5, rfl, rfl, by simpa using kx5.set 0 _, good_Tree.wide (good_Tree.keep (good_Tree.own_rep o5) (fun b hb1 _ => (But.set w5x (w4x.heap.size) 0 _).block b (by (try simp only [World.alloc, Array.size_push] at hb1); omega))) (Nat.zero_le _) (by simp [World.setCell]), v5.setCell (by first | exact v4.size) _, v4.size, by simpa [World.setCell] using kx5.lt⟩
  obtain ⟨g17, Dh_0, dh_0, rfl, rfl, kh_17, oh, u17, hga17, hgb17⟩ := hcut
  obtain ⟨w17, hwq⟩ : ∃ w17, w17 = wc := ⟨_, rfl⟩
  subst hwq
  have uu17 := uu16.trans u17
  have zs17 := u17.size
  have ka0_17 := ka0_16.up u17
  have ka1_17 := ka1_16.up u17
  have kr_17 := kr_16.up u17
  have kx0_17 := kx0_16.up u17
  have kx1_17 := kx1_16.up u17
  have kg_17 := kg_16.up u17
  have os_17 := good_Tree.keep os_16 (u17.keeps (by omega))
  clear os_16
  have mkg_17 := good_Tree.own_keep mkg_16 (fun y hy => u17.block y (Nat.lt_of_lt_of_le (good_Tree.own_in mkg_16 y hy).2 (by omega)))
  clear mkg_16
  clear ga0_16_0 zza0_16 ga1_16_0 ga1_16_1 ga1_16_2 ga1_16_3 zza1_16 gr_16_0 zzr_16 gx0_16_0 zzx0_16 gx1_16_0 gx1_16_1 gx1_16_2 gx1_16_3 zzx1_16 gg_16_0 zzg_16
  have ga0_17_0 : w17.cell? ⟨w.heap.size, 0, none⟩ = some (.slice A0_0 x0.length c0_0) := ka0_17.cell 0
  have zza0_17 := ka0_17.lt
  have ga1_17_0 : w17.cell? ⟨w.heap.size + 1, 0, none⟩ = some (.int .i64 x1.1) := ka1_17.cell 0
  have ga1_17_1 : w17.cell? ⟨w.heap.size + 1, 1, none⟩ = some (.string x1.2.1) := ka1_17.cell 1
  have ga1_17_2 : w17.cell? ⟨w.heap.size + 1, 2, none⟩ = some (.slice A1_2 x1.2.2.1.length c1_2) := ka1_17.cell 2
  have ga1_17_3 : w17.cell? ⟨w.heap.size + 1, 3, none⟩ = some (.string x1.2.2.2) := ka1_17.cell 3
  have zza1_17 := ka1_17.lt
  have gr_17_0 : w17.cell? ⟨g3, 0, none⟩ = some (.slice Ds_0 (doChange x0 x1).length ds_0) := kr_17.cell 0
  have zzr_17 := kr_17.lt
  have gx0_17_0 : w17.cell? ⟨w4.heap.size, 0, none⟩ = some (.slice Dx0_0 x0.length dx0_0) := kx0_17.cell 0
  have zzx0_17 := kx0_17.lt
  have gx1_17_0 : w17.cell? ⟨w5.heap.size, 0, none⟩ = some (.int .i64 x1.1) := kx1_17.cell 0
  have gx1_17_1 : w17.cell? ⟨w5.heap.size, 1, none⟩ = some (.string x1.2.1) := kx1_17.cell 1
  have gx1_17_2 : w17.cell? ⟨w5.heap.size, 2, none⟩ = some (.slice Dx1_2 x1.2.2.1.length dx1_2) := kx1_17.cell 2
  have gx1_17_3 : w17.cell? ⟨w5.heap.size, 3, none⟩ = some (.string x1.2.2.2) := kx1_17.cell 3
  have zzx1_17 := kx1_17.lt
  have gg_17_0 : w17.cell? ⟨w6.heap.size, 0, none⟩ = some (.slice Dg_0 (doChange x0 x1).length dg_0) := kg_17.cell 0
  have zzg_17 := kg_17.lt
  have gh_17_0 : w17.cell? ⟨g17, 0, none⟩ = some (.slice Dh_0 (doChange x0 x1).length dh_0) := kh_17.cell 0
  have zzh_17 := kh_17.lt
  go_wp2_with fail
  refine (c_eqTree _ _ (doChange x0 x1) (doChange x0 x1) _ ⟨_, rfl, good_Tree.wide oh (Nat.le_refl _) (by omega)⟩ ⟨_, rfl, good_Tree.wide os_17 (Nat.le_refl _) (by omega)⟩).mono ?_
  rintro e w18 ⟨be2, rfl, hbe2, u18⟩
  have uu18 := uu17.trans u18
  have zs18 := u18.size
  have ka0_18 := ka0_17.up u18
  have ka1_18 := ka1_17.up u18
  have kr_18 := kr_17.up u18
  have kx0_18 := kx0_17.up u18
  have kx1_18 := kx1_17.up u18
  have kg_18 := kg_17.up u18
  have kh_18 := kh_17.up u18
  have os_18 := good_Tree.keep os_17 (u18.keeps (by omega))
  clear os_17
  have mkg_18 := good_Tree.own_keep mkg_17 (fun y hy => u18.block y (Nat.lt_of_lt_of_le (good_Tree.own_in mkg_17 y hy).2 (by omega)))
  clear mkg_17
  have oh_18 := good_Tree.keep oh (u18.keeps (by omega))
  obtain rfl : be2 = true := by simpa using hbe2
  clear hbe2 u18
  clear ga0_17_0 zza0_17 ga1_17_0 ga1_17_1 ga1_17_2 ga1_17_3 zza1_17 gr_17_0 zzr_17 gx0_17_0 zzx0_17 gx1_17_0 gx1_17_1 gx1_17_2 gx1_17_3 zzx1_17 gg_17_0 zzg_17 gh_17_0 zzh_17
  have ga0_18_0 : w18.cell? ⟨w.heap.size, 0, none⟩ = some (.slice A0_0 x0.length c0_0) := ka0_18.cell 0
  have zza0_18 := ka0_18.lt
  have ga1_18_0 : w18.cell? ⟨w.heap.size + 1, 0, none⟩ = some (.int .i64 x1.1) := ka1_18.cell 0
  have ga1_18_1 : w18.cell? ⟨w.heap.size + 1, 1, none⟩ = some (.string x1.2.1) := ka1_18.cell 1
  have ga1_18_2 : w18.cell? ⟨w.heap.size + 1, 2, none⟩ = some (.slice A1_2 x1.2.2.1.length c1_2) := ka1_18.cell 2
  have ga1_18_3 : w18.cell? ⟨w.heap.size + 1, 3, none⟩ = some (.string x1.2.2.2) := ka1_18.cell 3
  have zza1_18 := ka1_18.lt
  have gr_18_0 : w18.cell? ⟨g3, 0, none⟩ = some (.slice Ds_0 (doChange x0 x1).length ds_0) := kr_18.cell 0
  have zzr_18 := kr_18.lt
  have gx0_18_0 : w18.cell? ⟨w4.heap.size, 0, none⟩ = some (.slice Dx0_0 x0.length dx0_0) := kx0_18.cell 0
  have zzx0_18 := kx0_18.lt
  have gx1_18_0 : w18.cell? ⟨w5.heap.size, 0, none⟩ = some (.int .i64 x1.1) := kx1_18.cell 0
  have gx1_18_1 : w18.cell? ⟨w5.heap.size, 1, none⟩ = some (.string x1.2.1) := kx1_18.cell 1
  have gx1_18_2 : w18.cell? ⟨w5.heap.size, 2, none⟩ = some (.slice Dx1_2 x1.2.2.1.length dx1_2) := kx1_18.cell 2
  have gx1_18_3 : w18.cell? ⟨w5.heap.size, 3, none⟩ = some (.string x1.2.2.2) := kx1_18.cell 3
  have zzx1_18 := kx1_18.lt
  have gg_18_0 : w18.cell? ⟨w6.heap.size, 0, none⟩ = some (.slice Dg_0 (doChange x0 x1).length dg_0) := kg_18.cell 0
  have zzg_18 := kg_18.lt
  have gh_18_0 : w18.cell? ⟨g17, 0, none⟩ = some (.slice Dh_0 (doChange x0 x1).length dh_0) := kh_18.cell 0
  have zzh_18 := kh_18.lt
  go_wp2_with fail
  have hib := gmT_Tree.idem (doChange x0 x1) 1
  have hsb := gmT_Tree.same (doChange x0 x1) 1
  have hcbb : (1 : Int) + (mmTTree.cnt (mmTTree.mark (doChange x0 x1) 1) : Nat) ≤ 1000000000 := by rw [hsb]; exact cbg
  refine (c_heldTree _ (mmTTree.mark (doChange x0 x1) 1) _ _ ⟨_, rfl, good_Tree.wide (good_Tree.own_rep mkg_18) (Nat.zero_le _) (by omega)⟩ hib (by omega) hcbb).mono ?_
  rintro e w19 ⟨rfl, u19⟩
  have uu19 := uu18.trans u19
  have zs19 := u19.size
  have ka0_19 := ka0_18.up u19
  have ka1_19 := ka1_18.up u19
  have kr_19 := kr_18.up u19
  have kx0_19 := kx0_18.up u19
  have kx1_19 := kx1_18.up u19
  have kg_19 := kg_18.up u19
  have kh_19 := kh_18.up u19
  have os_19 := good_Tree.keep os_18 (u19.keeps (by omega))
  clear os_18
  have mkg_19 := good_Tree.own_keep mkg_18 (fun y hy => u19.block y (Nat.lt_of_lt_of_le (good_Tree.own_in mkg_18 y hy).2 (by omega)))
  clear mkg_18
  have oh_19 := good_Tree.keep oh_18 (u19.keeps (by omega))
  clear oh_18
  rw [hsb]
  clear hib hsb hcbb u19
  clear ga0_18_0 zza0_18 ga1_18_0 ga1_18_1 ga1_18_2 ga1_18_3 zza1_18 gr_18_0 zzr_18 gx0_18_0 zzx0_18 gx1_18_0 gx1_18_1 gx1_18_2 gx1_18_3 zzx1_18 gg_18_0 zzg_18 gh_18_0 zzh_18
  have ga0_19_0 : w19.cell? ⟨w.heap.size, 0, none⟩ = some (.slice A0_0 x0.length c0_0) := ka0_19.cell 0
  have zza0_19 := ka0_19.lt
  have ga1_19_0 : w19.cell? ⟨w.heap.size + 1, 0, none⟩ = some (.int .i64 x1.1) := ka1_19.cell 0
  have ga1_19_1 : w19.cell? ⟨w.heap.size + 1, 1, none⟩ = some (.string x1.2.1) := ka1_19.cell 1
  have ga1_19_2 : w19.cell? ⟨w.heap.size + 1, 2, none⟩ = some (.slice A1_2 x1.2.2.1.length c1_2) := ka1_19.cell 2
  have ga1_19_3 : w19.cell? ⟨w.heap.size + 1, 3, none⟩ = some (.string x1.2.2.2) := ka1_19.cell 3
  have zza1_19 := ka1_19.lt
  have gr_19_0 : w19.cell? ⟨g3, 0, none⟩ = some (.slice Ds_0 (doChange x0 x1).length ds_0) := kr_19.cell 0
  have zzr_19 := kr_19.lt
  have gx0_19_0 : w19.cell? ⟨w4.heap.size, 0, none⟩ = some (.slice Dx0_0 x0.length dx0_0) := kx0_19.cell 0
  have zzx0_19 := kx0_19.lt
  have gx1_19_0 : w19.cell? ⟨w5.heap.size, 0, none⟩ = some (.int .i64 x1.1) := kx1_19.cell 0
  have gx1_19_1 : w19.cell? ⟨w5.heap.size, 1, none⟩ = some (.string x1.2.1) := kx1_19.cell 1
  have gx1_19_2 : w19.cell? ⟨w5.heap.size, 2, none⟩ = some (.slice Dx1_2 x1.2.2.1.length dx1_2) := kx1_19.cell 2
  have gx1_19_3 : w19.cell? ⟨w5.heap.size, 3, none⟩ = some (.string x1.2.2.2) := kx1_19.cell 3
  have zzx1_19 := kx1_19.lt
  have gg_19_0 : w19.cell? ⟨w6.heap.size, 0, none⟩ = some (.slice Dg_0 (doChange x0 x1).length dg_0) := kg_19.cell 0
  have zzg_19 := kg_19.lt
  have gh_19_0 : w19.cell? ⟨g17, 0, none⟩ = some (.slice Dh_0 (doChange x0 x1).length dh_0) := kh_19.cell 0
  have zzh_19 := kh_19.lt
  go_wp2_with fail
  go_ret
  exact ⟨rfl, uu19⟩
end Go.Proofs.YtghphlfihakadaaGreatDoor
