/-
  The walk of FnExactNewJournal: for every input it returns true.
-/
import Derived.Test.YtafabcabffeikaaNj
import Derived.Deep.RegionHeld3
namespace Go.Proofs.Ytafabcabffeikaa
open Go.RowKit
set_option linter.unusedVariables false
set_option linter.unusedSimpArgs false

set_option maxRecDepth 100000 in
set_option maxHeartbeats 16000000 in
theorem w0_FnExactNewJournal (w : World) (n0 : Int) (h0 : I64 n0) :
    Calls Try.prog 11 #[.int .i64 n0] w fun e w' => e = .returned (.bool true) ∧ Up w w' := by
  obtain ⟨hl0, hh0⟩ := id h0
  have uu0 : Up w w := Up.refl w
  have zs0 := uu0.size
  go_enter Try.func11, Try.ntmps11
  go_wp2_with fail
  refine (cs_NewJournal n0 _ h0).mono ?_
  rintro e w1 ⟨css, rfl, os, u1⟩
  obtain ⟨Ds_1, ds_1, Ds_2, ds_2, rfl, _⟩ := openJournal os
  have uu1 := uu0.trans u1
  have zs1 := u1.size
  have ua1 : Up w1 (w1.alloc (.cells #[.int .i64 (newJournal n0).1.1, .slice Ds_1 (newJournal n0).1.2.1.length ds_1, .slice Ds_2 (newJournal n0).1.2.2.length ds_2, .int .i64 (newJournal n0).2.1, .int .i64 (newJournal n0).2.2.1, .int .i64 (newJournal n0).2.2.2.1, .int .i64 (newJournal n0).2.2.2.2] 63)) := (Up.alloc (Up.refl w1) (.cells #[.int .i64 (newJournal n0).1.1, .slice Ds_1 (newJournal n0).1.2.1.length ds_1, .slice Ds_2 (newJournal n0).1.2.2.length ds_2, .int .i64 (newJournal n0).2.1, .int .i64 (newJournal n0).2.2.1, .int .i64 (newJournal n0).2.2.2.1, .int .i64 (newJournal n0).2.2.2.2] 63))
  have za1 : (w1.alloc (.cells #[.int .i64 (newJournal n0).1.1, .slice Ds_1 (newJournal n0).1.2.1.length ds_1, .slice Ds_2 (newJournal n0).1.2.2.length ds_2, .int .i64 (newJournal n0).2.1, .int .i64 (newJournal n0).2.2.1, .int .i64 (newJournal n0).2.2.2.1, .int .i64 (newJournal n0).2.2.2.2] 63)).heap.size = w1.heap.size + 1 := by simp
  have ub1 := uu1.trans ua1
  have os_1b := good_Journal.keep os (ua1.keeps (by omega))
  have kr_1b : Bk (w1.alloc (.cells #[.int .i64 (newJournal n0).1.1, .slice Ds_1 (newJournal n0).1.2.1.length ds_1, .slice Ds_2 (newJournal n0).1.2.2.length ds_2, .int .i64 (newJournal n0).2.1, .int .i64 (newJournal n0).2.2.1, .int .i64 (newJournal n0).2.2.2.1, .int .i64 (newJournal n0).2.2.2.2] 63)) (w1.heap.size) 63 #[.int .i64 (newJournal n0).1.1, .slice Ds_1 (newJournal n0).1.2.1.length ds_1, .slice Ds_2 (newJournal n0).1.2.2.length ds_2, .int .i64 (newJournal n0).2.1, .int .i64 (newJournal n0).2.2.1, .int .i64 (newJournal n0).2.2.2.1, .int .i64 (newJournal n0).2.2.2.2] := Bk.new _ _ _
  have gr_1_0 : (w1.alloc (.cells #[.int .i64 (newJournal n0).1.1, .slice Ds_1 (newJournal n0).1.2.1.length ds_1, .slice Ds_2 (newJournal n0).1.2.2.length ds_2, .int .i64 (newJournal n0).2.1, .int .i64 (newJournal n0).2.2.1, .int .i64 (newJournal n0).2.2.2.1, .int .i64 (newJournal n0).2.2.2.2] 63)).cell? ⟨w1.heap.size, 0, none⟩ = some (.int .i64 (newJournal n0).1.1) := kr_1b.cell 0
  have gr_1_1 : (w1.alloc (.cells #[.int .i64 (newJournal n0).1.1, .slice Ds_1 (newJournal n0).1.2.1.length ds_1, .slice Ds_2 (newJournal n0).1.2.2.length ds_2, .int .i64 (newJournal n0).2.1, .int .i64 (newJournal n0).2.2.1, .int .i64 (newJournal n0).2.2.2.1, .int .i64 (newJournal n0).2.2.2.2] 63)).cell? ⟨w1.heap.size, 1, none⟩ = some (.slice Ds_1 (newJournal n0).1.2.1.length ds_1) := kr_1b.cell 1
  have gr_1_2 : (w1.alloc (.cells #[.int .i64 (newJournal n0).1.1, .slice Ds_1 (newJournal n0).1.2.1.length ds_1, .slice Ds_2 (newJournal n0).1.2.2.length ds_2, .int .i64 (newJournal n0).2.1, .int .i64 (newJournal n0).2.2.1, .int .i64 (newJournal n0).2.2.2.1, .int .i64 (newJournal n0).2.2.2.2] 63)).cell? ⟨w1.heap.size, 2, none⟩ = some (.slice Ds_2 (newJournal n0).1.2.2.length ds_2) := kr_1b.cell 2
  have gr_1_3 : (w1.alloc (.cells #[.int .i64 (newJournal n0).1.1, .slice Ds_1 (newJournal n0).1.2.1.length ds_1, .slice Ds_2 (newJournal n0).1.2.2.length ds_2, .int .i64 (newJournal n0).2.1, .int .i64 (newJournal n0).2.2.1, .int .i64 (newJournal n0).2.2.2.1, .int .i64 (newJournal n0).2.2.2.2] 63)).cell? ⟨w1.heap.size, 3, none⟩ = some (.int .i64 (newJournal n0).2.1) := kr_1b.cell 3
  have gr_1_4 : (w1.alloc (.cells #[.int .i64 (newJournal n0).1.1, .slice Ds_1 (newJournal n0).1.2.1.length ds_1, .slice Ds_2 (newJournal n0).1.2.2.length ds_2, .int .i64 (newJournal n0).2.1, .int .i64 (newJournal n0).2.2.1, .int .i64 (newJournal n0).2.2.2.1, .int .i64 (newJournal n0).2.2.2.2] 63)).cell? ⟨w1.heap.size, 4, none⟩ = some (.int .i64 (newJournal n0).2.2.1) := kr_1b.cell 4
  have gr_1_5 : (w1.alloc (.cells #[.int .i64 (newJournal n0).1.1, .slice Ds_1 (newJournal n0).1.2.1.length ds_1, .slice Ds_2 (newJournal n0).1.2.2.length ds_2, .int .i64 (newJournal n0).2.1, .int .i64 (newJournal n0).2.2.1, .int .i64 (newJournal n0).2.2.2.1, .int .i64 (newJournal n0).2.2.2.2] 63)).cell? ⟨w1.heap.size, 5, none⟩ = some (.int .i64 (newJournal n0).2.2.2.1) := kr_1b.cell 5
  have gr_1_6 : (w1.alloc (.cells #[.int .i64 (newJournal n0).1.1, .slice Ds_1 (newJournal n0).1.2.1.length ds_1, .slice Ds_2 (newJournal n0).1.2.2.length ds_2, .int .i64 (newJournal n0).2.1, .int .i64 (newJournal n0).2.2.1, .int .i64 (newJournal n0).2.2.2.1, .int .i64 (newJournal n0).2.2.2.2] 63)).cell? ⟨w1.heap.size, 6, none⟩ = some (.int .i64 (newJournal n0).2.2.2.2) := kr_1b.cell 6
  have zzr_1 := kr_1b.lt
  go_wp2_with fail
  refine (ci_NewJournal n0 _ h0).mono ?_
  rintro e w2 ⟨csg, blg, rfl, og, ndg, u2⟩
  obtain ⟨Dg_1, dg_1, _, Dg_2, dg_2, _, rfl, _, _⟩ := openOJournal og
  have uu2 := ub1.trans u2
  have zs2 := u2.size
  have kr_2 := kr_1b.up u2
  have os_2 := good_Journal.keep os_1b (u2.keeps (by omega))
  clear os_1b
  have ua2 : Up w2 (w2.alloc (.cells #[.int .i64 (newJournal n0).1.1, .slice Dg_1 (newJournal n0).1.2.1.length dg_1, .slice Dg_2 (newJournal n0).1.2.2.length dg_2, .int .i64 (newJournal n0).2.1, .int .i64 (newJournal n0).2.2.1, .int .i64 (newJournal n0).2.2.2.1, .int .i64 (newJournal n0).2.2.2.2] 63)) := (Up.alloc (Up.refl w2) (.cells #[.int .i64 (newJournal n0).1.1, .slice Dg_1 (newJournal n0).1.2.1.length dg_1, .slice Dg_2 (newJournal n0).1.2.2.length dg_2, .int .i64 (newJournal n0).2.1, .int .i64 (newJournal n0).2.2.1, .int .i64 (newJournal n0).2.2.2.1, .int .i64 (newJournal n0).2.2.2.2] 63))
  have za2 : (w2.alloc (.cells #[.int .i64 (newJournal n0).1.1, .slice Dg_1 (newJournal n0).1.2.1.length dg_1, .slice Dg_2 (newJournal n0).1.2.2.length dg_2, .int .i64 (newJournal n0).2.1, .int .i64 (newJournal n0).2.2.1, .int .i64 (newJournal n0).2.2.2.1, .int .i64 (newJournal n0).2.2.2.2] 63)).heap.size = w2.heap.size + 1 := by simp
  have ub2 := uu2.trans ua2
  have kr_2b := kr_2.up ua2
  have os_2b := good_Journal.keep os_2 (ua2.keeps (by omega))
  clear os_2
  have og_2b := good_Journal.own_keep og (fun y hy => ua2.block y (Nat.lt_of_lt_of_le (good_Journal.own_in og y hy).2 (by omega)))
  have kg_2b : Bk (w2.alloc (.cells #[.int .i64 (newJournal n0).1.1, .slice Dg_1 (newJournal n0).1.2.1.length dg_1, .slice Dg_2 (newJournal n0).1.2.2.length dg_2, .int .i64 (newJournal n0).2.1, .int .i64 (newJournal n0).2.2.1, .int .i64 (newJournal n0).2.2.2.1, .int .i64 (newJournal n0).2.2.2.2] 63)) (w2.heap.size) 63 #[.int .i64 (newJournal n0).1.1, .slice Dg_1 (newJournal n0).1.2.1.length dg_1, .slice Dg_2 (newJournal n0).1.2.2.length dg_2, .int .i64 (newJournal n0).2.1, .int .i64 (newJournal n0).2.2.1, .int .i64 (newJournal n0).2.2.2.1, .int .i64 (newJournal n0).2.2.2.2] := Bk.new _ _ _
  clear gr_1_0 gr_1_1 gr_1_2 gr_1_3 gr_1_4 gr_1_5 gr_1_6 zzr_1
  have gr_2_0 : (w2.alloc (.cells #[.int .i64 (newJournal n0).1.1, .slice Dg_1 (newJournal n0).1.2.1.length dg_1, .slice Dg_2 (newJournal n0).1.2.2.length dg_2, .int .i64 (newJournal n0).2.1, .int .i64 (newJournal n0).2.2.1, .int .i64 (newJournal n0).2.2.2.1, .int .i64 (newJournal n0).2.2.2.2] 63)).cell? ⟨w1.heap.size, 0, none⟩ = some (.int .i64 (newJournal n0).1.1) := kr_2b.cell 0
  have gr_2_1 : (w2.alloc (.cells #[.int .i64 (newJournal n0).1.1, .slice Dg_1 (newJournal n0).1.2.1.length dg_1, .slice Dg_2 (newJournal n0).1.2.2.length dg_2, .int .i64 (newJournal n0).2.1, .int .i64 (newJournal n0).2.2.1, .int .i64 (newJournal n0).2.2.2.1, .int .i64 (newJournal n0).2.2.2.2] 63)).cell? ⟨w1.heap.size, 1, none⟩ = some (.slice Ds_1 (newJournal n0).1.2.1.length ds_1) := kr_2b.cell 1
  have gr_2_2 : (w2.alloc (.cells #[.int .i64 (newJournal n0).1.1, .slice Dg_1 (newJournal n0).1.2.1.length dg_1, .slice Dg_2 (newJournal n0).1.2.2.length dg_2, .int .i64 (newJournal n0).2.1, .int .i64 (newJournal n0).2.2.1, .int .i64 (newJournal n0).2.2.2.1, .int .i64 (newJournal n0).2.2.2.2] 63)).cell? ⟨w1.heap.size, 2, none⟩ = some (.slice Ds_2 (newJournal n0).1.2.2.length ds_2) := kr_2b.cell 2
  have gr_2_3 : (w2.alloc (.cells #[.int .i64 (newJournal n0).1.1, .slice Dg_1 (newJournal n0).1.2.1.length dg_1, .slice Dg_2 (newJournal n0).1.2.2.length dg_2, .int .i64 (newJournal n0).2.1, .int .i64 (newJournal n0).2.2.1, .int .i64 (newJournal n0).2.2.2.1, .int .i64 (newJournal n0).2.2.2.2] 63)).cell? ⟨w1.heap.size, 3, none⟩ = some (.int .i64 (newJournal n0).2.1) := kr_2b.cell 3
  have gr_2_4 : (w2.alloc (.cells #[.int .i64 (newJournal n0).1.1, .slice Dg_1 (newJournal n0).1.2.1.length dg_1, .slice Dg_2 (newJournal n0).1.2.2.length dg_2, .int .i64 (newJournal n0).2.1, .int .i64 (newJournal n0).2.2.1, .int .i64 (newJournal n0).2.2.2.1, .int .i64 (newJournal n0).2.2.2.2] 63)).cell? ⟨w1.heap.size, 4, none⟩ = some (.int .i64 (newJournal n0).2.2.1) := kr_2b.cell 4
  have gr_2_5 : (w2.alloc (.cells #[.int .i64 (newJournal n0).1.1, .slice Dg_1 (newJournal n0).1.2.1.length dg_1, .slice Dg_2 (newJournal n0).1.2.2.length dg_2, .int .i64 (newJournal n0).2.1, .int .i64 (newJournal n0).2.2.1, .int .i64 (newJournal n0).2.2.2.1, .int .i64 (newJournal n0).2.2.2.2] 63)).cell? ⟨w1.heap.size, 5, none⟩ = some (.int .i64 (newJournal n0).2.2.2.1) := kr_2b.cell 5
  have gr_2_6 : (w2.alloc (.cells #[.int .i64 (newJournal n0).1.1, .slice Dg_1 (newJournal n0).1.2.1.length dg_1, .slice Dg_2 (newJournal n0).1.2.2.length dg_2, .int .i64 (newJournal n0).2.1, .int .i64 (newJournal n0).2.2.1, .int .i64 (newJournal n0).2.2.2.1, .int .i64 (newJournal n0).2.2.2.2] 63)).cell? ⟨w1.heap.size, 6, none⟩ = some (.int .i64 (newJournal n0).2.2.2.2) := kr_2b.cell 6
  have zzr_2 := kr_2b.lt
  have gg_2_0 : (w2.alloc (.cells #[.int .i64 (newJournal n0).1.1, .slice Dg_1 (newJournal n0).1.2.1.length dg_1, .slice Dg_2 (newJournal n0).1.2.2.length dg_2, .int .i64 (newJournal n0).2.1, .int .i64 (newJournal n0).2.2.1, .int .i64 (newJournal n0).2.2.2.1, .int .i64 (newJournal n0).2.2.2.2] 63)).cell? ⟨w2.heap.size, 0, none⟩ = some (.int .i64 (newJournal n0).1.1) := kg_2b.cell 0
  have gg_2_1 : (w2.alloc (.cells #[.int .i64 (newJournal n0).1.1, .slice Dg_1 (newJournal n0).1.2.1.length dg_1, .slice Dg_2 (newJournal n0).1.2.2.length dg_2, .int .i64 (newJournal n0).2.1, .int .i64 (newJournal n0).2.2.1, .int .i64 (newJournal n0).2.2.2.1, .int .i64 (newJournal n0).2.2.2.2] 63)).cell? ⟨w2.heap.size, 1, none⟩ = some (.slice Dg_1 (newJournal n0).1.2.1.length dg_1) := kg_2b.cell 1
  have gg_2_2 : (w2.alloc (.cells #[.int .i64 (newJournal n0).1.1, .slice Dg_1 (newJournal n0).1.2.1.length dg_1, .slice Dg_2 (newJournal n0).1.2.2.length dg_2, .int .i64 (newJournal n0).2.1, .int .i64 (newJournal n0).2.2.1, .int .i64 (newJournal n0).2.2.2.1, .int .i64 (newJournal n0).2.2.2.2] 63)).cell? ⟨w2.heap.size, 2, none⟩ = some (.slice Dg_2 (newJournal n0).1.2.2.length dg_2) := kg_2b.cell 2
  have gg_2_3 : (w2.alloc (.cells #[.int .i64 (newJournal n0).1.1, .slice Dg_1 (newJournal n0).1.2.1.length dg_1, .slice Dg_2 (newJournal n0).1.2.2.length dg_2, .int .i64 (newJournal n0).2.1, .int .i64 (newJournal n0).2.2.1, .int .i64 (newJournal n0).2.2.2.1, .int .i64 (newJournal n0).2.2.2.2] 63)).cell? ⟨w2.heap.size, 3, none⟩ = some (.int .i64 (newJournal n0).2.1) := kg_2b.cell 3
  have gg_2_4 : (w2.alloc (.cells #[.int .i64 (newJournal n0).1.1, .slice Dg_1 (newJournal n0).1.2.1.length dg_1, .slice Dg_2 (newJournal n0).1.2.2.length dg_2, .int .i64 (newJournal n0).2.1, .int .i64 (newJournal n0).2.2.1, .int .i64 (newJournal n0).2.2.2.1, .int .i64 (newJournal n0).2.2.2.2] 63)).cell? ⟨w2.heap.size, 4, none⟩ = some (.int .i64 (newJournal n0).2.2.1) := kg_2b.cell 4
  have gg_2_5 : (w2.alloc (.cells #[.int .i64 (newJournal n0).1.1, .slice Dg_1 (newJournal n0).1.2.1.length dg_1, .slice Dg_2 (newJournal n0).1.2.2.length dg_2, .int .i64 (newJournal n0).2.1, .int .i64 (newJournal n0).2.2.1, .int .i64 (newJournal n0).2.2.2.1, .int .i64 (newJournal n0).2.2.2.2] 63)).cell? ⟨w2.heap.size, 5, none⟩ = some (.int .i64 (newJournal n0).2.2.2.1) := kg_2b.cell 5
  have gg_2_6 : (w2.alloc (.cells #[.int .i64 (newJournal n0).1.1, .slice Dg_1 (newJournal n0).1.2.1.length dg_1, .slice Dg_2 (newJournal n0).1.2.2.length dg_2, .int .i64 (newJournal n0).2.1, .int .i64 (newJournal n0).2.2.1, .int .i64 (newJournal n0).2.2.2.1, .int .i64 (newJournal n0).2.2.2.2] 63)).cell? ⟨w2.heap.size, 6, none⟩ = some (.int .i64 (newJournal n0).2.2.2.2) := kg_2b.cell 6
  have zzg_2 := kg_2b.lt
  go_wp2_with fail
  refine (c_eqJournal _ _ (newJournal n0) (newJournal n0) _ ⟨_, rfl, good_Journal.wide (good_Journal.own_rep og_2b) (Nat.zero_le _) (by omega)⟩ ⟨_, rfl, good_Journal.wide os_2b (Nat.le_refl _) (by omega)⟩).mono ?_
  rintro e w3 ⟨be0, rfl, hbe0, u3⟩
  have uu3 := ub2.trans u3
  have zs3 := u3.size
  have kr_3 := kr_2b.up u3
  have kg_3 := kg_2b.up u3
  have os_3 := good_Journal.keep os_2b (u3.keeps (by omega))
  clear os_2b
  have og_3 := good_Journal.own_keep og_2b (fun y hy => u3.block y (Nat.lt_of_lt_of_le (good_Journal.own_in og_2b y hy).2 (by omega)))
  clear og_2b
  obtain rfl : be0 = true := by simpa using hbe0
  clear hbe0 u3
  clear gr_2_0 gr_2_1 gr_2_2 gr_2_3 gr_2_4 gr_2_5 gr_2_6 zzr_2 gg_2_0 gg_2_1 gg_2_2 gg_2_3 gg_2_4 gg_2_5 gg_2_6 zzg_2
  have gr_3_0 : w3.cell? ⟨w1.heap.size, 0, none⟩ = some (.int .i64 (newJournal n0).1.1) := kr_3.cell 0
  have gr_3_1 : w3.cell? ⟨w1.heap.size, 1, none⟩ = some (.slice Ds_1 (newJournal n0).1.2.1.length ds_1) := kr_3.cell 1
  have gr_3_2 : w3.cell? ⟨w1.heap.size, 2, none⟩ = some (.slice Ds_2 (newJournal n0).1.2.2.length ds_2) := kr_3.cell 2
  have gr_3_3 : w3.cell? ⟨w1.heap.size, 3, none⟩ = some (.int .i64 (newJournal n0).2.1) := kr_3.cell 3
  have gr_3_4 : w3.cell? ⟨w1.heap.size, 4, none⟩ = some (.int .i64 (newJournal n0).2.2.1) := kr_3.cell 4
  have gr_3_5 : w3.cell? ⟨w1.heap.size, 5, none⟩ = some (.int .i64 (newJournal n0).2.2.2.1) := kr_3.cell 5
  have gr_3_6 : w3.cell? ⟨w1.heap.size, 6, none⟩ = some (.int .i64 (newJournal n0).2.2.2.2) := kr_3.cell 6
  have zzr_3 := kr_3.lt
  have gg_3_0 : w3.cell? ⟨w2.heap.size, 0, none⟩ = some (.int .i64 (newJournal n0).1.1) := kg_3.cell 0
  have gg_3_1 : w3.cell? ⟨w2.heap.size, 1, none⟩ = some (.slice Dg_1 (newJournal n0).1.2.1.length dg_1) := kg_3.cell 1
  have gg_3_2 : w3.cell? ⟨w2.heap.size, 2, none⟩ = some (.slice Dg_2 (newJournal n0).1.2.2.length dg_2) := kg_3.cell 2
  have gg_3_3 : w3.cell? ⟨w2.heap.size, 3, none⟩ = some (.int .i64 (newJournal n0).2.1) := kg_3.cell 3
  have gg_3_4 : w3.cell? ⟨w2.heap.size, 4, none⟩ = some (.int .i64 (newJournal n0).2.2.1) := kg_3.cell 4
  have gg_3_5 : w3.cell? ⟨w2.heap.size, 5, none⟩ = some (.int .i64 (newJournal n0).2.2.2.1) := kg_3.cell 5
  have gg_3_6 : w3.cell? ⟨w2.heap.size, 6, none⟩ = some (.int .i64 (newJournal n0).2.2.2.2) := kg_3.cell 6
  have zzg_3 := kg_3.lt
  go_wp2_with fail
  have cbg : (1 : Int) + (mmTJournal.cnt (newJournal n0) : Nat) ≤ 1000000000 := cbg_NewJournal n0
  refine (c_markJournal _ (newJournal n0) _ ((w1.alloc (.cells #[.int .i64 (newJournal n0).1.1, .slice Ds_1 (newJournal n0).1.2.1.length ds_1, .slice Ds_2 (newJournal n0).1.2.2.length ds_2, .int .i64 (newJournal n0).2.1, .int .i64 (newJournal n0).2.2.1, .int .i64 (newJournal n0).2.2.2.1, .int .i64 (newJournal n0).2.2.2.2] 63)).heap.size) (w2.heap.size) blg _ og_3 (by omega) ndg (by omega) (by simpa using cbg)).mono ?_
  rintro e w4 ⟨rfl, mog, oog⟩
  have hm1004 : ∀ y ∈ blg, (w1.alloc (.cells #[.int .i64 (newJournal n0).1.1, .slice Ds_1 (newJournal n0).1.2.1.length ds_1, .slice Ds_2 (newJournal n0).1.2.2.length ds_2, .int .i64 (newJournal n0).2.1, .int .i64 (newJournal n0).2.2.1, .int .i64 (newJournal n0).2.2.2.1, .int .i64 (newJournal n0).2.2.2.2] 63)).heap.size ≤ y ∧ y < w2.heap.size := good_Journal.own_in og_3
  have uu4 := uu3.only oog (fun y hy => by have := (hm1004 y hy).1; omega)
  have zs4 := oog.size
  have kr_4 := kr_3.only oog (fun hy => by have := hm1004 _ hy; omega)
  have kg_4 := kg_3.only oog (fun hy => by have := hm1004 _ hy; omega)
  have os_4 := good_Journal.keep os_3 (fun y _ hy => oog.block y (by omega) (fun hm => by have h1 := hm1004 y hm; omega))
  clear os_3
  have mkg : shJournal.own w4 ((w1.alloc (.cells #[.int .i64 (newJournal n0).1.1, .slice Ds_1 (newJournal n0).1.2.1.length ds_1, .slice Ds_2 (newJournal n0).1.2.2.length ds_2, .int .i64 (newJournal n0).2.1, .int .i64 (newJournal n0).2.2.1, .int .i64 (newJournal n0).2.2.2.1, .int .i64 (newJournal n0).2.2.2.2] 63)).heap.size) (w2.heap.size) [.int .i64 (newJournal n0).1.1, .slice Dg_1 (newJournal n0).1.2.1.length dg_1, .slice Dg_2 (newJournal n0).1.2.2.length dg_2, .int .i64 (newJournal n0).2.1, .int .i64 (newJournal n0).2.2.1, .int .i64 (newJournal n0).2.2.2.1, .int .i64 (newJournal n0).2.2.2.2] (mmTJournal.mark (newJournal n0) 1) blg := mog
  clear mog oog og_3
  clear gr_3_0 gr_3_1 gr_3_2 gr_3_3 gr_3_4 gr_3_5 gr_3_6 zzr_3 gg_3_0 gg_3_1 gg_3_2 gg_3_3 gg_3_4 gg_3_5 gg_3_6 zzg_3
  have gr_4_0 : w4.cell? ⟨w1.heap.size, 0, none⟩ = some (.int .i64 (newJournal n0).1.1) := kr_4.cell 0
  have gr_4_1 : w4.cell? ⟨w1.heap.size, 1, none⟩ = some (.slice Ds_1 (newJournal n0).1.2.1.length ds_1) := kr_4.cell 1
  have gr_4_2 : w4.cell? ⟨w1.heap.size, 2, none⟩ = some (.slice Ds_2 (newJournal n0).1.2.2.length ds_2) := kr_4.cell 2
  have gr_4_3 : w4.cell? ⟨w1.heap.size, 3, none⟩ = some (.int .i64 (newJournal n0).2.1) := kr_4.cell 3
  have gr_4_4 : w4.cell? ⟨w1.heap.size, 4, none⟩ = some (.int .i64 (newJournal n0).2.2.1) := kr_4.cell 4
  have gr_4_5 : w4.cell? ⟨w1.heap.size, 5, none⟩ = some (.int .i64 (newJournal n0).2.2.2.1) := kr_4.cell 5
  have gr_4_6 : w4.cell? ⟨w1.heap.size, 6, none⟩ = some (.int .i64 (newJournal n0).2.2.2.2) := kr_4.cell 6
  have zzr_4 := kr_4.lt
  have gg_4_0 : w4.cell? ⟨w2.heap.size, 0, none⟩ = some (.int .i64 (newJournal n0).1.1) := kg_4.cell 0
  have gg_4_1 : w4.cell? ⟨w2.heap.size, 1, none⟩ = some (.slice Dg_1 (newJournal n0).1.2.1.length dg_1) := kg_4.cell 1
  have gg_4_2 : w4.cell? ⟨w2.heap.size, 2, none⟩ = some (.slice Dg_2 (newJournal n0).1.2.2.length dg_2) := kg_4.cell 2
  have gg_4_3 : w4.cell? ⟨w2.heap.size, 3, none⟩ = some (.int .i64 (newJournal n0).2.1) := kg_4.cell 3
  have gg_4_4 : w4.cell? ⟨w2.heap.size, 4, none⟩ = some (.int .i64 (newJournal n0).2.2.1) := kg_4.cell 4
  have gg_4_5 : w4.cell? ⟨w2.heap.size, 5, none⟩ = some (.int .i64 (newJournal n0).2.2.2.1) := kg_4.cell 5
  have gg_4_6 : w4.cell? ⟨w2.heap.size, 6, none⟩ = some (.int .i64 (newJournal n0).2.2.2.2) := kg_4.cell 6
  have zzg_4 := kg_4.lt
  go_wp2_with fail
  have hia := gmT_Journal.idem (newJournal n0) 1
  have hsa := gmT_Journal.same (newJournal n0) 1
  have hcba : (1 : Int) + (mmTJournal.cnt (mmTJournal.mark (newJournal n0) 1) : Nat) ≤ 1000000000 := by rw [hsa]; exact cbg
  refine (c_heldJournal _ (mmTJournal.mark (newJournal n0) 1) _ _ ⟨_, rfl, good_Journal.wide (good_Journal.own_rep mkg) (Nat.zero_le _) (by omega)⟩ hia (by omega) hcba).mono ?_
  rintro e w5 ⟨rfl, u5⟩
  have uu5 := uu4.trans u5
  have zs5 := u5.size
  have kr_5 := kr_4.up u5
  have kg_5 := kg_4.up u5
  have os_5 := good_Journal.keep os_4 (u5.keeps (by omega))
  clear os_4
  have mkg_5 := good_Journal.own_keep mkg (fun y hy => u5.block y (Nat.lt_of_lt_of_le (good_Journal.own_in mkg y hy).2 (by omega)))
  rw [hsa]
  clear hia hsa hcba u5
  clear gr_4_0 gr_4_1 gr_4_2 gr_4_3 gr_4_4 gr_4_5 gr_4_6 zzr_4 gg_4_0 gg_4_1 gg_4_2 gg_4_3 gg_4_4 gg_4_5 gg_4_6 zzg_4
  have gr_5_0 : w5.cell? ⟨w1.heap.size, 0, none⟩ = some (.int .i64 (newJournal n0).1.1) := kr_5.cell 0
  have gr_5_1 : w5.cell? ⟨w1.heap.size, 1, none⟩ = some (.slice Ds_1 (newJournal n0).1.2.1.length ds_1) := kr_5.cell 1
  have gr_5_2 : w5.cell? ⟨w1.heap.size, 2, none⟩ = some (.slice Ds_2 (newJournal n0).1.2.2.length ds_2) := kr_5.cell 2
  have gr_5_3 : w5.cell? ⟨w1.heap.size, 3, none⟩ = some (.int .i64 (newJournal n0).2.1) := kr_5.cell 3
  have gr_5_4 : w5.cell? ⟨w1.heap.size, 4, none⟩ = some (.int .i64 (newJournal n0).2.2.1) := kr_5.cell 4
  have gr_5_5 : w5.cell? ⟨w1.heap.size, 5, none⟩ = some (.int .i64 (newJournal n0).2.2.2.1) := kr_5.cell 5
  have gr_5_6 : w5.cell? ⟨w1.heap.size, 6, none⟩ = some (.int .i64 (newJournal n0).2.2.2.2) := kr_5.cell 6
  have zzr_5 := kr_5.lt
  have gg_5_0 : w5.cell? ⟨w2.heap.size, 0, none⟩ = some (.int .i64 (newJournal n0).1.1) := kg_5.cell 0
  have gg_5_1 : w5.cell? ⟨w2.heap.size, 1, none⟩ = some (.slice Dg_1 (newJournal n0).1.2.1.length dg_1) := kg_5.cell 1
  have gg_5_2 : w5.cell? ⟨w2.heap.size, 2, none⟩ = some (.slice Dg_2 (newJournal n0).1.2.2.length dg_2) := kg_5.cell 2
  have gg_5_3 : w5.cell? ⟨w2.heap.size, 3, none⟩ = some (.int .i64 (newJournal n0).2.1) := kg_5.cell 3
  have gg_5_4 : w5.cell? ⟨w2.heap.size, 4, none⟩ = some (.int .i64 (newJournal n0).2.2.1) := kg_5.cell 4
  have gg_5_5 : w5.cell? ⟨w2.heap.size, 5, none⟩ = some (.int .i64 (newJournal n0).2.2.2.1) := kg_5.cell 5
  have gg_5_6 : w5.cell? ⟨w2.heap.size, 6, none⟩ = some (.int .i64 (newJournal n0).2.2.2.2) := kg_5.cell 6
  have zzg_5 := kg_5.lt
  go_wp2_with fail
  refine (ci_NewJournal n0 _ h0).mono ?_
  rintro e w6 ⟨csh, blh, rfl, oh, ndh, u6⟩
  obtain ⟨Dh_1, dh_1, _, Dh_2, dh_2, _, rfl, _, _⟩ := openOJournal oh
  have uu6 := uu5.trans u6
  have zs6 := u6.size
  have kr_6 := kr_5.up u6
  have kg_6 := kg_5.up u6
  have os_6 := good_Journal.keep os_5 (u6.keeps (by omega))
  clear os_5
  have mkg_6 := good_Journal.own_keep mkg_5 (fun y hy => u6.block y (Nat.lt_of_lt_of_le (good_Journal.own_in mkg_5 y hy).2 (by omega)))
  clear mkg_5
  have ua6 : Up w6 (w6.alloc (.cells #[.int .i64 (newJournal n0).1.1, .slice Dh_1 (newJournal n0).1.2.1.length dh_1, .slice Dh_2 (newJournal n0).1.2.2.length dh_2, .int .i64 (newJournal n0).2.1, .int .i64 (newJournal n0).2.2.1, .int .i64 (newJournal n0).2.2.2.1, .int .i64 (newJournal n0).2.2.2.2] 63)) := (Up.alloc (Up.refl w6) (.cells #[.int .i64 (newJournal n0).1.1, .slice Dh_1 (newJournal n0).1.2.1.length dh_1, .slice Dh_2 (newJournal n0).1.2.2.length dh_2, .int .i64 (newJournal n0).2.1, .int .i64 (newJournal n0).2.2.1, .int .i64 (newJournal n0).2.2.2.1, .int .i64 (newJournal n0).2.2.2.2] 63))
  have za6 : (w6.alloc (.cells #[.int .i64 (newJournal n0).1.1, .slice Dh_1 (newJournal n0).1.2.1.length dh_1, .slice Dh_2 (newJournal n0).1.2.2.length dh_2, .int .i64 (newJournal n0).2.1, .int .i64 (newJournal n0).2.2.1, .int .i64 (newJournal n0).2.2.2.1, .int .i64 (newJournal n0).2.2.2.2] 63)).heap.size = w6.heap.size + 1 := by simp
  have ub6 := uu6.trans ua6
  have kr_6b := kr_6.up ua6
  have kg_6b := kg_6.up ua6
  have os_6b := good_Journal.keep os_6 (ua6.keeps (by omega))
  clear os_6
  have mkg_6b := good_Journal.own_keep mkg_6 (fun y hy => ua6.block y (Nat.lt_of_lt_of_le (good_Journal.own_in mkg_6 y hy).2 (by omega)))
  clear mkg_6
  have oh_6b := good_Journal.own_keep oh (fun y hy => ua6.block y (Nat.lt_of_lt_of_le (good_Journal.own_in oh y hy).2 (by omega)))
  have kh_6b : Bk (w6.alloc (.cells #[.int .i64 (newJournal n0).1.1, .slice Dh_1 (newJournal n0).1.2.1.length dh_1, .slice Dh_2 (newJournal n0).1.2.2.length dh_2, .int .i64 (newJournal n0).2.1, .int .i64 (newJournal n0).2.2.1, .int .i64 (newJournal n0).2.2.2.1, .int .i64 (newJournal n0).2.2.2.2] 63)) (w6.heap.size) 63 #[.int .i64 (newJournal n0).1.1, .slice Dh_1 (newJournal n0).1.2.1.length dh_1, .slice Dh_2 (newJournal n0).1.2.2.length dh_2, .int .i64 (newJournal n0).2.1, .int .i64 (newJournal n0).2.2.1, .int .i64 (newJournal n0).2.2.2.1, .int .i64 (newJournal n0).2.2.2.2] := Bk.new _ _ _
  clear gr_5_0 gr_5_1 gr_5_2 gr_5_3 gr_5_4 gr_5_5 gr_5_6 zzr_5 gg_5_0 gg_5_1 gg_5_2 gg_5_3 gg_5_4 gg_5_5 gg_5_6 zzg_5
  have gr_6_0 : (w6.alloc (.cells #[.int .i64 (newJournal n0).1.1, .slice Dh_1 (newJournal n0).1.2.1.length dh_1, .slice Dh_2 (newJournal n0).1.2.2.length dh_2, .int .i64 (newJournal n0).2.1, .int .i64 (newJournal n0).2.2.1, .int .i64 (newJournal n0).2.2.2.1, .int .i64 (newJournal n0).2.2.2.2] 63)).cell? ⟨w1.heap.size, 0, none⟩ = some (.int .i64 (newJournal n0).1.1) := kr_6b.cell 0
  have gr_6_1 : (w6.alloc (.cells #[.int .i64 (newJournal n0).1.1, .slice Dh_1 (newJournal n0).1.2.1.length dh_1, .slice Dh_2 (newJournal n0).1.2.2.length dh_2, .int .i64 (newJournal n0).2.1, .int .i64 (newJournal n0).2.2.1, .int .i64 (newJournal n0).2.2.2.1, .int .i64 (newJournal n0).2.2.2.2] 63)).cell? ⟨w1.heap.size, 1, none⟩ = some (.slice Ds_1 (newJournal n0).1.2.1.length ds_1) := kr_6b.cell 1
  have gr_6_2 : (w6.alloc (.cells #[.int .i64 (newJournal n0).1.1, .slice Dh_1 (newJournal n0).1.2.1.length dh_1, .slice Dh_2 (newJournal n0).1.2.2.length dh_2, .int .i64 (newJournal n0).2.1, .int .i64 (newJournal n0).2.2.1, .int .i64 (newJournal n0).2.2.2.1, .int .i64 (newJournal n0).2.2.2.2] 63)).cell? ⟨w1.heap.size, 2, none⟩ = some (.slice Ds_2 (newJournal n0).1.2.2.length ds_2) := kr_6b.cell 2
  have gr_6_3 : (w6.alloc (.cells #[.int .i64 (newJournal n0).1.1, .slice Dh_1 (newJournal n0).1.2.1.length dh_1, .slice Dh_2 (newJournal n0).1.2.2.length dh_2, .int .i64 (newJournal n0).2.1, .int .i64 (newJournal n0).2.2.1, .int .i64 (newJournal n0).2.2.2.1, .int .i64 (newJournal n0).2.2.2.2] 63)).cell? ⟨w1.heap.size, 3, none⟩ = some (.int .i64 (newJournal n0).2.1) := kr_6b.cell 3
  have gr_6_4 : (w6.alloc (.cells #[.int .i64 (newJournal n0).1.1, .slice Dh_1 (newJournal n0).1.2.1.length dh_1, .slice Dh_2 (newJournal n0).1.2.2.length dh_2, .int .i64 (newJournal n0).2.1, .int .i64 (newJournal n0).2.2.1, .int .i64 (newJournal n0).2.2.2.1, .int .i64 (newJournal n0).2.2.2.2] 63)).cell? ⟨w1.heap.size, 4, none⟩ = some (.int .i64 (newJournal n0).2.2.1) := kr_6b.cell 4
  have gr_6_5 : (w6.alloc (.cells #[.int .i64 (newJournal n0).1.1, .slice Dh_1 (newJournal n0).1.2.1.length dh_1, .slice Dh_2 (newJournal n0).1.2.2.length dh_2, .int .i64 (newJournal n0).2.1, .int .i64 (newJournal n0).2.2.1, .int .i64 (newJournal n0).2.2.2.1, .int .i64 (newJournal n0).2.2.2.2] 63)).cell? ⟨w1.heap.size, 5, none⟩ = some (.int .i64 (newJournal n0).2.2.2.1) := kr_6b.cell 5
  have gr_6_6 : (w6.alloc (.cells #[.int .i64 (newJournal n0).1.1, .slice Dh_1 (newJournal n0).1.2.1.length dh_1, .slice Dh_2 (newJournal n0).1.2.2.length dh_2, .int .i64 (newJournal n0).2.1, .int .i64 (newJournal n0).2.2.1, .int .i64 (newJournal n0).2.2.2.1, .int .i64 (newJournal n0).2.2.2.2] 63)).cell? ⟨w1.heap.size, 6, none⟩ = some (.int .i64 (newJournal n0).2.2.2.2) := kr_6b.cell 6
  have zzr_6 := kr_6b.lt
  have gg_6_0 : (w6.alloc (.cells #[.int .i64 (newJournal n0).1.1, .slice Dh_1 (newJournal n0).1.2.1.length dh_1, .slice Dh_2 (newJournal n0).1.2.2.length dh_2, .int .i64 (newJournal n0).2.1, .int .i64 (newJournal n0).2.2.1, .int .i64 (newJournal n0).2.2.2.1, .int .i64 (newJournal n0).2.2.2.2] 63)).cell? ⟨w2.heap.size, 0, none⟩ = some (.int .i64 (newJournal n0).1.1) := kg_6b.cell 0
  have gg_6_1 : (w6.alloc (.cells #[.int .i64 (newJournal n0).1.1, .slice Dh_1 (newJournal n0).1.2.1.length dh_1, .slice Dh_2 (newJournal n0).1.2.2.length dh_2, .int .i64 (newJournal n0).2.1, .int .i64 (newJournal n0).2.2.1, .int .i64 (newJournal n0).2.2.2.1, .int .i64 (newJournal n0).2.2.2.2] 63)).cell? ⟨w2.heap.size, 1, none⟩ = some (.slice Dg_1 (newJournal n0).1.2.1.length dg_1) := kg_6b.cell 1
  have gg_6_2 : (w6.alloc (.cells #[.int .i64 (newJournal n0).1.1, .slice Dh_1 (newJournal n0).1.2.1.length dh_1, .slice Dh_2 (newJournal n0).1.2.2.length dh_2, .int .i64 (newJournal n0).2.1, .int .i64 (newJournal n0).2.2.1, .int .i64 (newJournal n0).2.2.2.1, .int .i64 (newJournal n0).2.2.2.2] 63)).cell? ⟨w2.heap.size, 2, none⟩ = some (.slice Dg_2 (newJournal n0).1.2.2.length dg_2) := kg_6b.cell 2
  have gg_6_3 : (w6.alloc (.cells #[.int .i64 (newJournal n0).1.1, .slice Dh_1 (newJournal n0).1.2.1.length dh_1, .slice Dh_2 (newJournal n0).1.2.2.length dh_2, .int .i64 (newJournal n0).2.1, .int .i64 (newJournal n0).2.2.1, .int .i64 (newJournal n0).2.2.2.1, .int .i64 (newJournal n0).2.2.2.2] 63)).cell? ⟨w2.heap.size, 3, none⟩ = some (.int .i64 (newJournal n0).2.1) := kg_6b.cell 3
  have gg_6_4 : (w6.alloc (.cells #[.int .i64 (newJournal n0).1.1, .slice Dh_1 (newJournal n0).1.2.1.length dh_1, .slice Dh_2 (newJournal n0).1.2.2.length dh_2, .int .i64 (newJournal n0).2.1, .int .i64 (newJournal n0).2.2.1, .int .i64 (newJournal n0).2.2.2.1, .int .i64 (newJournal n0).2.2.2.2] 63)).cell? ⟨w2.heap.size, 4, none⟩ = some (.int .i64 (newJournal n0).2.2.1) := kg_6b.cell 4
  have gg_6_5 : (w6.alloc (.cells #[.int .i64 (newJournal n0).1.1, .slice Dh_1 (newJournal n0).1.2.1.length dh_1, .slice Dh_2 (newJournal n0).1.2.2.length dh_2, .int .i64 (newJournal n0).2.1, .int .i64 (newJournal n0).2.2.1, .int .i64 (newJournal n0).2.2.2.1, .int .i64 (newJournal n0).2.2.2.2] 63)).cell? ⟨w2.heap.size, 5, none⟩ = some (.int .i64 (newJournal n0).2.2.2.1) := kg_6b.cell 5
  have gg_6_6 : (w6.alloc (.cells #[.int .i64 (newJournal n0).1.1, .slice Dh_1 (newJournal n0).1.2.1.length dh_1, .slice Dh_2 (newJournal n0).1.2.2.length dh_2, .int .i64 (newJournal n0).2.1, .int .i64 (newJournal n0).2.2.1, .int .i64 (newJournal n0).2.2.2.1, .int .i64 (newJournal n0).2.2.2.2] 63)).cell? ⟨w2.heap.size, 6, none⟩ = some (.int .i64 (newJournal n0).2.2.2.2) := kg_6b.cell 6
  have zzg_6 := kg_6b.lt
  have gh_6_0 : (w6.alloc (.cells #[.int .i64 (newJournal n0).1.1, .slice Dh_1 (newJournal n0).1.2.1.length dh_1, .slice Dh_2 (newJournal n0).1.2.2.length dh_2, .int .i64 (newJournal n0).2.1, .int .i64 (newJournal n0).2.2.1, .int .i64 (newJournal n0).2.2.2.1, .int .i64 (newJournal n0).2.2.2.2] 63)).cell? ⟨w6.heap.size, 0, none⟩ = some (.int .i64 (newJournal n0).1.1) := kh_6b.cell 0
  have gh_6_1 : (w6.alloc (.cells #[.int .i64 (newJournal n0).1.1, .slice Dh_1 (newJournal n0).1.2.1.length dh_1, .slice Dh_2 (newJournal n0).1.2.2.length dh_2, .int .i64 (newJournal n0).2.1, .int .i64 (newJournal n0).2.2.1, .int .i64 (newJournal n0).2.2.2.1, .int .i64 (newJournal n0).2.2.2.2] 63)).cell? ⟨w6.heap.size, 1, none⟩ = some (.slice Dh_1 (newJournal n0).1.2.1.length dh_1) := kh_6b.cell 1
  have gh_6_2 : (w6.alloc (.cells #[.int .i64 (newJournal n0).1.1, .slice Dh_1 (newJournal n0).1.2.1.length dh_1, .slice Dh_2 (newJournal n0).1.2.2.length dh_2, .int .i64 (newJournal n0).2.1, .int .i64 (newJournal n0).2.2.1, .int .i64 (newJournal n0).2.2.2.1, .int .i64 (newJournal n0).2.2.2.2] 63)).cell? ⟨w6.heap.size, 2, none⟩ = some (.slice Dh_2 (newJournal n0).1.2.2.length dh_2) := kh_6b.cell 2
  have gh_6_3 : (w6.alloc (.cells #[.int .i64 (newJournal n0).1.1, .slice Dh_1 (newJournal n0).1.2.1.length dh_1, .slice Dh_2 (newJournal n0).1.2.2.length dh_2, .int .i64 (newJournal n0).2.1, .int .i64 (newJournal n0).2.2.1, .int .i64 (newJournal n0).2.2.2.1, .int .i64 (newJournal n0).2.2.2.2] 63)).cell? ⟨w6.heap.size, 3, none⟩ = some (.int .i64 (newJournal n0).2.1) := kh_6b.cell 3
  have gh_6_4 : (w6.alloc (.cells #[.int .i64 (newJournal n0).1.1, .slice Dh_1 (newJournal n0).1.2.1.length dh_1, .slice Dh_2 (newJournal n0).1.2.2.length dh_2, .int .i64 (newJournal n0).2.1, .int .i64 (newJournal n0).2.2.1, .int .i64 (newJournal n0).2.2.2.1, .int .i64 (newJournal n0).2.2.2.2] 63)).cell? ⟨w6.heap.size, 4, none⟩ = some (.int .i64 (newJournal n0).2.2.1) := kh_6b.cell 4
  have gh_6_5 : (w6.alloc (.cells #[.int .i64 (newJournal n0).1.1, .slice Dh_1 (newJournal n0).1.2.1.length dh_1, .slice Dh_2 (newJournal n0).1.2.2.length dh_2, .int .i64 (newJournal n0).2.1, .int .i64 (newJournal n0).2.2.1, .int .i64 (newJournal n0).2.2.2.1, .int .i64 (newJournal n0).2.2.2.2] 63)).cell? ⟨w6.heap.size, 5, none⟩ = some (.int .i64 (newJournal n0).2.2.2.1) := kh_6b.cell 5
  have gh_6_6 : (w6.alloc (.cells #[.int .i64 (newJournal n0).1.1, .slice Dh_1 (newJournal n0).1.2.1.length dh_1, .slice Dh_2 (newJournal n0).1.2.2.length dh_2, .int .i64 (newJournal n0).2.1, .int .i64 (newJournal n0).2.2.1, .int .i64 (newJournal n0).2.2.2.1, .int .i64 (newJournal n0).2.2.2.2] 63)).cell? ⟨w6.heap.size, 6, none⟩ = some (.int .i64 (newJournal n0).2.2.2.2) := kh_6b.cell 6
  have zzh_6 := kh_6b.lt
  go_wp2_with fail
  refine (c_eqJournal _ _ (newJournal n0) (newJournal n0) _ ⟨_, rfl, good_Journal.wide (good_Journal.own_rep oh_6b) (Nat.zero_le _) (by omega)⟩ ⟨_, rfl, good_Journal.wide os_6b (Nat.le_refl _) (by omega)⟩).mono ?_
  rintro e w7 ⟨be2, rfl, hbe2, u7⟩
  have uu7 := ub6.trans u7
  have zs7 := u7.size
  have kr_7 := kr_6b.up u7
  have kg_7 := kg_6b.up u7
  have kh_7 := kh_6b.up u7
  have os_7 := good_Journal.keep os_6b (u7.keeps (by omega))
  clear os_6b
  have mkg_7 := good_Journal.own_keep mkg_6b (fun y hy => u7.block y (Nat.lt_of_lt_of_le (good_Journal.own_in mkg_6b y hy).2 (by omega)))
  clear mkg_6b
  have oh_7 := good_Journal.own_keep oh_6b (fun y hy => u7.block y (Nat.lt_of_lt_of_le (good_Journal.own_in oh_6b y hy).2 (by omega)))
  clear oh_6b
  obtain rfl : be2 = true := by simpa using hbe2
  clear hbe2 u7
  clear gr_6_0 gr_6_1 gr_6_2 gr_6_3 gr_6_4 gr_6_5 gr_6_6 zzr_6 gg_6_0 gg_6_1 gg_6_2 gg_6_3 gg_6_4 gg_6_5 gg_6_6 zzg_6 gh_6_0 gh_6_1 gh_6_2 gh_6_3 gh_6_4 gh_6_5 gh_6_6 zzh_6
  have gr_7_0 : w7.cell? ⟨w1.heap.size, 0, none⟩ = some (.int .i64 (newJournal n0).1.1) := kr_7.cell 0
  have gr_7_1 : w7.cell? ⟨w1.heap.size, 1, none⟩ = some (.slice Ds_1 (newJournal n0).1.2.1.length ds_1) := kr_7.cell 1
  have gr_7_2 : w7.cell? ⟨w1.heap.size, 2, none⟩ = some (.slice Ds_2 (newJournal n0).1.2.2.length ds_2) := kr_7.cell 2
  have gr_7_3 : w7.cell? ⟨w1.heap.size, 3, none⟩ = some (.int .i64 (newJournal n0).2.1) := kr_7.cell 3
  have gr_7_4 : w7.cell? ⟨w1.heap.size, 4, none⟩ = some (.int .i64 (newJournal n0).2.2.1) := kr_7.cell 4
  have gr_7_5 : w7.cell? ⟨w1.heap.size, 5, none⟩ = some (.int .i64 (newJournal n0).2.2.2.1) := kr_7.cell 5
  have gr_7_6 : w7.cell? ⟨w1.heap.size, 6, none⟩ = some (.int .i64 (newJournal n0).2.2.2.2) := kr_7.cell 6
  have zzr_7 := kr_7.lt
  have gg_7_0 : w7.cell? ⟨w2.heap.size, 0, none⟩ = some (.int .i64 (newJournal n0).1.1) := kg_7.cell 0
  have gg_7_1 : w7.cell? ⟨w2.heap.size, 1, none⟩ = some (.slice Dg_1 (newJournal n0).1.2.1.length dg_1) := kg_7.cell 1
  have gg_7_2 : w7.cell? ⟨w2.heap.size, 2, none⟩ = some (.slice Dg_2 (newJournal n0).1.2.2.length dg_2) := kg_7.cell 2
  have gg_7_3 : w7.cell? ⟨w2.heap.size, 3, none⟩ = some (.int .i64 (newJournal n0).2.1) := kg_7.cell 3
  have gg_7_4 : w7.cell? ⟨w2.heap.size, 4, none⟩ = some (.int .i64 (newJournal n0).2.2.1) := kg_7.cell 4
  have gg_7_5 : w7.cell? ⟨w2.heap.size, 5, none⟩ = some (.int .i64 (newJournal n0).2.2.2.1) := kg_7.cell 5
  have gg_7_6 : w7.cell? ⟨w2.heap.size, 6, none⟩ = some (.int .i64 (newJournal n0).2.2.2.2) := kg_7.cell 6
  have zzg_7 := kg_7.lt
  have gh_7_0 : w7.cell? ⟨w6.heap.size, 0, none⟩ = some (.int .i64 (newJournal n0).1.1) := kh_7.cell 0
  have gh_7_1 : w7.cell? ⟨w6.heap.size, 1, none⟩ = some (.slice Dh_1 (newJournal n0).1.2.1.length dh_1) := kh_7.cell 1
  have gh_7_2 : w7.cell? ⟨w6.heap.size, 2, none⟩ = some (.slice Dh_2 (newJournal n0).1.2.2.length dh_2) := kh_7.cell 2
  have gh_7_3 : w7.cell? ⟨w6.heap.size, 3, none⟩ = some (.int .i64 (newJournal n0).2.1) := kh_7.cell 3
  have gh_7_4 : w7.cell? ⟨w6.heap.size, 4, none⟩ = some (.int .i64 (newJournal n0).2.2.1) := kh_7.cell 4
  have gh_7_5 : w7.cell? ⟨w6.heap.size, 5, none⟩ = some (.int .i64 (newJournal n0).2.2.2.1) := kh_7.cell 5
  have gh_7_6 : w7.cell? ⟨w6.heap.size, 6, none⟩ = some (.int .i64 (newJournal n0).2.2.2.2) := kh_7.cell 6
  have zzh_7 := kh_7.lt
  go_wp2_with fail
  have hib := gmT_Journal.idem (newJournal n0) 1
  have hsb := gmT_Journal.same (newJournal n0) 1
  have hcbb : (1 : Int) + (mmTJournal.cnt (mmTJournal.mark (newJournal n0) 1) : Nat) ≤ 1000000000 := by rw [hsb]; exact cbg
  refine (c_heldJournal _ (mmTJournal.mark (newJournal n0) 1) _ _ ⟨_, rfl, good_Journal.wide (good_Journal.own_rep mkg_7) (Nat.zero_le _) (by omega)⟩ hib (by omega) hcbb).mono ?_
  rintro e w8 ⟨rfl, u8⟩
  have uu8 := uu7.trans u8
  have zs8 := u8.size
  have kr_8 := kr_7.up u8
  have kg_8 := kg_7.up u8
  have kh_8 := kh_7.up u8
  have os_8 := good_Journal.keep os_7 (u8.keeps (by omega))
  clear os_7
  have mkg_8 := good_Journal.own_keep mkg_7 (fun y hy => u8.block y (Nat.lt_of_lt_of_le (good_Journal.own_in mkg_7 y hy).2 (by omega)))
  clear mkg_7
  have oh_8 := good_Journal.own_keep oh_7 (fun y hy => u8.block y (Nat.lt_of_lt_of_le (good_Journal.own_in oh_7 y hy).2 (by omega)))
  clear oh_7
  rw [hsb]
  clear hib hsb hcbb u8
  clear gr_7_0 gr_7_1 gr_7_2 gr_7_3 gr_7_4 gr_7_5 gr_7_6 zzr_7 gg_7_0 gg_7_1 gg_7_2 gg_7_3 gg_7_4 gg_7_5 gg_7_6 zzg_7 gh_7_0 gh_7_1 gh_7_2 gh_7_3 gh_7_4 gh_7_5 gh_7_6 zzh_7
  have gr_8_0 : w8.cell? ⟨w1.heap.size, 0, none⟩ = some (.int .i64 (newJournal n0).1.1) := kr_8.cell 0
  have gr_8_1 : w8.cell? ⟨w1.heap.size, 1, none⟩ = some (.slice Ds_1 (newJournal n0).1.2.1.length ds_1) := kr_8.cell 1
  have gr_8_2 : w8.cell? ⟨w1.heap.size, 2, none⟩ = some (.slice Ds_2 (newJournal n0).1.2.2.length ds_2) := kr_8.cell 2
  have gr_8_3 : w8.cell? ⟨w1.heap.size, 3, none⟩ = some (.int .i64 (newJournal n0).2.1) := kr_8.cell 3
  have gr_8_4 : w8.cell? ⟨w1.heap.size, 4, none⟩ = some (.int .i64 (newJournal n0).2.2.1) := kr_8.cell 4
  have gr_8_5 : w8.cell? ⟨w1.heap.size, 5, none⟩ = some (.int .i64 (newJournal n0).2.2.2.1) := kr_8.cell 5
  have gr_8_6 : w8.cell? ⟨w1.heap.size, 6, none⟩ = some (.int .i64 (newJournal n0).2.2.2.2) := kr_8.cell 6
  have zzr_8 := kr_8.lt
  have gg_8_0 : w8.cell? ⟨w2.heap.size, 0, none⟩ = some (.int .i64 (newJournal n0).1.1) := kg_8.cell 0
  have gg_8_1 : w8.cell? ⟨w2.heap.size, 1, none⟩ = some (.slice Dg_1 (newJournal n0).1.2.1.length dg_1) := kg_8.cell 1
  have gg_8_2 : w8.cell? ⟨w2.heap.size, 2, none⟩ = some (.slice Dg_2 (newJournal n0).1.2.2.length dg_2) := kg_8.cell 2
  have gg_8_3 : w8.cell? ⟨w2.heap.size, 3, none⟩ = some (.int .i64 (newJournal n0).2.1) := kg_8.cell 3
  have gg_8_4 : w8.cell? ⟨w2.heap.size, 4, none⟩ = some (.int .i64 (newJournal n0).2.2.1) := kg_8.cell 4
  have gg_8_5 : w8.cell? ⟨w2.heap.size, 5, none⟩ = some (.int .i64 (newJournal n0).2.2.2.1) := kg_8.cell 5
  have gg_8_6 : w8.cell? ⟨w2.heap.size, 6, none⟩ = some (.int .i64 (newJournal n0).2.2.2.2) := kg_8.cell 6
  have zzg_8 := kg_8.lt
  have gh_8_0 : w8.cell? ⟨w6.heap.size, 0, none⟩ = some (.int .i64 (newJournal n0).1.1) := kh_8.cell 0
  have gh_8_1 : w8.cell? ⟨w6.heap.size, 1, none⟩ = some (.slice Dh_1 (newJournal n0).1.2.1.length dh_1) := kh_8.cell 1
  have gh_8_2 : w8.cell? ⟨w6.heap.size, 2, none⟩ = some (.slice Dh_2 (newJournal n0).1.2.2.length dh_2) := kh_8.cell 2
  have gh_8_3 : w8.cell? ⟨w6.heap.size, 3, none⟩ = some (.int .i64 (newJournal n0).2.1) := kh_8.cell 3
  have gh_8_4 : w8.cell? ⟨w6.heap.size, 4, none⟩ = some (.int .i64 (newJournal n0).2.2.1) := kh_8.cell 4
  have gh_8_5 : w8.cell? ⟨w6.heap.size, 5, none⟩ = some (.int .i64 (newJournal n0).2.2.2.1) := kh_8.cell 5
  have gh_8_6 : w8.cell? ⟨w6.heap.size, 6, none⟩ = some (.int .i64 (newJournal n0).2.2.2.2) := kh_8.cell 6
  have zzh_8 := kh_8.lt
  go_wp2_with fail
  go_ret
  exact ⟨rfl, uu8⟩
end Go.Proofs.Ytafabcabffeikaa
