/-
  The walk of FnExactTreeIn: for every input it returns true.
-/
import Derived.Test.YtpjcgglhlmifdaaGreatDoorM3Xt
import Derived.Test.YtpjcgglhlmifdaaGreatDoorM3Lb
import Derived.Test.YtpjcgglhlmifdaaGreatDoorM3J
import Derived.Test.YtpjcgglhlmifdaaGreatDoorM3Le
import Derived.Test.YtpjcgglhlmifdaaGreatDoorM3Lm
import Derived.Test.YtpjcgglhlmifdaaGreatDoorM3M
import Derived.Deep.RegionHeld3
namespace Go.Proofs.YtpjcgglhlmifdaaGreatDoor
open Go.RowKit
set_option linter.unusedVariables false
set_option linter.unusedSimpArgs false

theorem putL_allB : ∀ (l cs : List Value), l.length = cs.length → putL l 0 cs = cs
  | [], [], _ => rfl
  | [], _ :: _, h => by simp at h
  | _ :: _, [], h => by simp at h
  | x :: l, c :: cs, h => by rw [putL, putL_allB l cs (by simpa using h)]
set_option maxRecDepth 100000 in
set_option maxHeartbeats 16000000 in
theorem w0_FnExactTreeIn (w : World) (v0 : Value) (x0 : TBase) (h0 : AV shBase w v0 x0) (htab : Tab w) (hmx : MaxL w) :
    Calls Tryz.prog 7 #[v0] w fun e w' => e = .returned (.bool true) ∧ Up w w' := by
  have hv0 := h0
  obtain ⟨cs0, rfl, h0⟩ := h0
  have l0 : cs0.length = 24 := by obtain ⟨_, _, _, _, _, _, _, _, _, _, _, _, _, _, _, _, _, _, rfl, _⟩ := openBase h0; rfl
  clear h0
  have i0 : (Tryz.prog.info? 65).map (·.size) = some cs0.length := by rw [l0]; kernel_rfl
  have ka0_0 : Bk (w.alloc (.cells cs0.toArray 65)) (w.heap.size) 65 cs0.toArray := by simpa using Bk.new w 65 cs0.toArray
  have uu0 : Up w (w.alloc (.cells cs0.toArray 65)) := (Up.refl w).alloc _
  have zs0 := uu0.size
  have zs0b : (w.alloc (.cells cs0.toArray 65)).heap.size = w.heap.size + 1 := by simp
  go_enter Tryz.func7, Tryz.ntmps7
  go_wp2_with (refine wpList_load_bk cs0 ka0_0 rfl Tryz.underlying65 rfl i0 (by simp) ?_)
  refine (c_szBase _ x0 _ _ (hv0.up good_Base uu0) (by omega) (by omega)).mono ?_
  rintro e w1 ⟨rfl, u1⟩
  have uu1 := uu0.trans u1
  have zs1 := u1.size
  have ka0_1 := ka0_0.up u1
  by_cases q0 : ¬ ((shBase.sz x0 : Nat) : Int) ≤ 1048576
  · rw [szR_no (by omega)]
    go_wp2_with fail
    go_ret
    exact ⟨rfl, uu1⟩
  replace q0 := Decidable.of_not_not q0
  rw [szR_yes q0]
  have zza0_1 := ka0_1.lt
  clear u1
  go_wp2_with (refine wpList_load_bk cs0 ka0_1 rfl Tryz.underlying65 rfl i0 (by simp) ?_)
  have hn0 : shBase.sz x0 ≤ 1048576 := by omega
  refine (c_toBase _ x0 _ (hv0.up good_Base uu1) hn0).mono ?_
  rintro e w2 ⟨csp0, blp0, rfl, op0, ndp0, u2⟩
  have lp0 : csp0.length = 24 := good_Base.len (good_Base.own_rep op0)
  have onep0 := good_Base.one (good_Base.own_rep op0)
  have ip0 : (Tryz.prog.info? 79).map (·.size) = some csp0.length := by rw [lp0]; kernel_rfl
  have uu2 := uu1.trans u2
  have zs2 := u2.size
  have ka0_2 := ka0_1.up u2
  clear zza0_1
  have zza0_2 := ka0_2.lt
  go_wp2_with (first | (refine wpList_load_bk cs0 ka0_2 rfl Tryz.underlying65 rfl i0 (by simp) ?_))
  refine (cs_TreeIn _ x0 _ ⟨_, rfl, good_Base.wide (good_Base.own_rep op0) (Nat.zero_le _) (by omega)⟩ hn0).mono ?_
  rintro e w3 ⟨css, rfl, os, u3⟩
  obtain ⟨Ds_0, ds_0, rfl, _⟩ := openTree os
  have uu3 := uu2.trans u3
  have zs3 := u3.size
  have ka0_3 := ka0_2.up u3
  have op0_3 := good_Base.own_keep op0 (fun y hy => u3.block y (Nat.lt_of_lt_of_le (good_Base.own_in op0 y hy).2 (by omega)))
  have ua3 : Up w3 (w3.alloc (.cells #[.slice Ds_0 (treeIn x0).length ds_0] 39)) := (Up.alloc (Up.refl w3) (.cells #[.slice Ds_0 (treeIn x0).length ds_0] 39))
  have za3 : (w3.alloc (.cells #[.slice Ds_0 (treeIn x0).length ds_0] 39)).heap.size = w3.heap.size + 1 := by simp
  have ub3 := uu3.trans ua3
  have ka0_3b := ka0_3.up ua3
  have os_3b := good_Tree.keep os (ua3.keeps (by omega))
  have kr_3b : Bk (w3.alloc (.cells #[.slice Ds_0 (treeIn x0).length ds_0] 39)) (w3.heap.size) 39 #[.slice Ds_0 (treeIn x0).length ds_0] := Bk.new _ _ _
  clear zza0_2
  have zza0_3 := ka0_3b.lt
  have gr_3_0 : (w3.alloc (.cells #[.slice Ds_0 (treeIn x0).length ds_0] 39)).cell? ⟨w3.heap.size, 0, none⟩ = some (.slice Ds_0 (treeIn x0).length ds_0) := kr_3b.cell 0
  have zzr_3 := kr_3b.lt
  go_wp2_with (first | (refine wpList_load_bk cs0 ka0_3b rfl Tryz.underlying65 rfl i0 (by simp) ?_))
  refine (c_toBase _ x0 _ (hv0.up good_Base ub3) hn0).mono ?_
  rintro e w4 ⟨csx0, blx0, rfl, ox0, ndx0, u4⟩
  have lx0 : csx0.length = 24 := good_Base.len (good_Base.own_rep ox0)
  have onex0 := good_Base.one (good_Base.own_rep ox0)
  have ix0 : (Tryz.prog.info? 79).map (·.size) = some csx0.length := by rw [lx0]; kernel_rfl
  have uu4 := ub3.trans u4
  have zs4 := u4.size
  have ka0_4 := ka0_3b.up u4
  have kr_4 := kr_3b.up u4
  have os_4 := good_Tree.keep os_3b (u4.keeps (by omega))
  clear os_3b
  clear zza0_3 gr_3_0 zzr_3
  have zza0_4 := ka0_4.lt
  have gr_4_0 : w4.cell? ⟨w3.heap.size, 0, none⟩ = some (.slice Ds_0 (treeIn x0).length ds_0) := kr_4.cell 0
  have zzr_4 := kr_4.lt
  go_wp2_with (first | (refine wpList_store_bk csx0 (Bk.new _ _ _) rfl rfl ix0 (by rw [List.all_eq_true]; exact onex0) (by rw [lx0]; exact Nat.le_of_ble_eq_true rfl) ?_; intro Wx0 btx0 kkx0; rw [putL_allB _ csx0 (by rw [lx0]; rfl)] at kkx0; have ux0 : Up w4 Wx0 := ((Up.refl w4).alloc _).but btx0 (Nat.le_refl _); replace btx0 := btx0.size) | (refine wpList_load_bk csx0 kkx0 rfl Tryz.underlying79 rfl ix0 (by simp) ?_) | (refine wpList_load_bk cs0 ka0_4 rfl Tryz.underlying65 rfl i0 (by simp) ?_))
  have uu5 := uu4.trans ux0
  have zs5 := ux0.size
  have ka0_5 := ka0_4.up ux0
  have kr_5 := kr_4.up ux0
  have os_5 := good_Tree.keep os_4 (ux0.keeps (by omega))
  clear os_4
  have ox0_5 := good_Base.own_keep ox0 (fun y hy => ux0.block y (Nat.lt_of_lt_of_le (good_Base.own_in ox0 y hy).2 (by omega)))
  have zqx0 : Wx0.heap.size = w4.heap.size + 1 := by rw [btx0]; simp
  clear zza0_4 gr_4_0 zzr_4
  have zza0_5 := ka0_5.lt
  have gr_5_0 : Wx0.cell? ⟨w3.heap.size, 0, none⟩ = some (.slice Ds_0 (treeIn x0).length ds_0) := kr_5.cell 0
  have zzr_5 := kr_5.lt
  have zzx0_5 := kkx0.lt
  refine (ci_TreeIn _ x0 _ ⟨_, rfl, good_Base.wide (good_Base.own_rep ox0_5) (Nat.zero_le _) (by omega)⟩ hn0 (tab_up htab uu5) (maxL_up hmx uu5)).mono ?_
  rintro e w6 ⟨csg, blg, rfl, og, ndg, u6⟩
  obtain ⟨Dg_0, dg_0, _, rfl, _, _⟩ := openOTree og
  have uu6 := uu5.trans u6
  have zs6 := u6.size
  have ka0_6 := ka0_5.up u6
  have kr_6 := kr_5.up u6
  have kx0_6 := kkx0.up u6
  have os_6 := good_Tree.keep os_5 (u6.keeps (by omega))
  clear os_5
  have ox0_6 := good_Base.own_keep ox0_5 (fun y hy => u6.block y (Nat.lt_of_lt_of_le (good_Base.own_in ox0_5 y hy).2 (by omega)))
  clear ox0_5
  have ua6 : Up w6 (w6.alloc (.cells #[.slice Dg_0 (treeIn x0).length dg_0] 39)) := (Up.alloc (Up.refl w6) (.cells #[.slice Dg_0 (treeIn x0).length dg_0] 39))
  have za6 : (w6.alloc (.cells #[.slice Dg_0 (treeIn x0).length dg_0] 39)).heap.size = w6.heap.size + 1 := by simp
  have ub6 := uu6.trans ua6
  have ka0_6b := ka0_6.up ua6
  have kr_6b := kr_6.up ua6
  have kx0_6b := kx0_6.up ua6
  have os_6b := good_Tree.keep os_6 (ua6.keeps (by omega))
  clear os_6
  have ox0_6b := good_Base.own_keep ox0_6 (fun y hy => ua6.block y (Nat.lt_of_lt_of_le (good_Base.own_in ox0_6 y hy).2 (by omega)))
  clear ox0_6
  have og_6b := good_Tree.own_keep og (fun y hy => ua6.block y (Nat.lt_of_lt_of_le (good_Tree.own_in og y hy).2 (by omega)))
  have kg_6b : Bk (w6.alloc (.cells #[.slice Dg_0 (treeIn x0).length dg_0] 39)) (w6.heap.size) 39 #[.slice Dg_0 (treeIn x0).length dg_0] := Bk.new _ _ _
  clear zza0_5 gr_5_0 zzr_5 zzx0_5
  have zza0_6 := ka0_6b.lt
  have gr_6_0 : (w6.alloc (.cells #[.slice Dg_0 (treeIn x0).length dg_0] 39)).cell? ⟨w3.heap.size, 0, none⟩ = some (.slice Ds_0 (treeIn x0).length ds_0) := kr_6b.cell 0
  have zzr_6 := kr_6b.lt
  have zzx0_6 := kx0_6b.lt
  have gg_6_0 : (w6.alloc (.cells #[.slice Dg_0 (treeIn x0).length dg_0] 39)).cell? ⟨w6.heap.size, 0, none⟩ = some (.slice Dg_0 (treeIn x0).length dg_0) := kg_6b.cell 0
  have zzg_6 := kg_6b.lt
  go_wp2_with (first | (refine wpList_load_bk cs0 ka0_6b rfl Tryz.underlying65 rfl i0 (by simp) ?_) | (refine wpList_load_bk csx0 kx0_6b rfl Tryz.underlying79 rfl ix0 (by simp) ?_))
  refine (c_eqTree _ _ (treeIn x0) (treeIn x0) _ ⟨_, rfl, good_Tree.wide (good_Tree.own_rep og_6b) (Nat.zero_le _) (by omega)⟩ ⟨_, rfl, good_Tree.wide os_6b (Nat.le_refl _) (by omega)⟩).mono ?_
  rintro e w7 ⟨be0, rfl, hbe0, u7⟩
  have uu7 := ub6.trans u7
  have zs7 := u7.size
  have ka0_7 := ka0_6b.up u7
  have kr_7 := kr_6b.up u7
  have kx0_7 := kx0_6b.up u7
  have kg_7 := kg_6b.up u7
  have os_7 := good_Tree.keep os_6b (u7.keeps (by omega))
  clear os_6b
  have ox0_7 := good_Base.own_keep ox0_6b (fun y hy => u7.block y (Nat.lt_of_lt_of_le (good_Base.own_in ox0_6b y hy).2 (by omega)))
  clear ox0_6b
  have og_7 := good_Tree.own_keep og_6b (fun y hy => u7.block y (Nat.lt_of_lt_of_le (good_Tree.own_in og_6b y hy).2 (by omega)))
  clear og_6b
  obtain rfl : be0 = true := by simpa using hbe0
  clear hbe0 u7
  clear zza0_6 gr_6_0 zzr_6 zzx0_6 gg_6_0 zzg_6
  have zza0_7 := ka0_7.lt
  have gr_7_0 : w7.cell? ⟨w3.heap.size, 0, none⟩ = some (.slice Ds_0 (treeIn x0).length ds_0) := kr_7.cell 0
  have zzr_7 := kr_7.lt
  have zzx0_7 := kx0_7.lt
  have gg_7_0 : w7.cell? ⟨w6.heap.size, 0, none⟩ = some (.slice Dg_0 (treeIn x0).length dg_0) := kg_7.cell 0
  have zzg_7 := kg_7.lt
  go_wp2_with (first | (refine wpList_load_bk cs0 ka0_7 rfl Tryz.underlying65 rfl i0 (by simp) ?_) | (refine wpList_load_bk csx0 kx0_7 rfl Tryz.underlying79 rfl ix0 (by simp) ?_))
  have udr : Up w7 w7.drew := (Up.refl _).drew
  have uu8 := uu7.trans udr
  have zs8 := udr.size
  have ka0_8 := ka0_7.up udr
  have kr_8 := kr_7.up udr
  have kx0_8 := kx0_7.up udr
  have kg_8 := kg_7.up udr
  have os_8 := good_Tree.keep os_7 (udr.keeps (by omega))
  clear os_7
  have ox0_8 := good_Base.own_keep ox0_7 (fun y hy => udr.block y (Nat.lt_of_lt_of_le (good_Base.own_in ox0_7 y hy).2 (by omega)))
  clear ox0_7
  have og_8 := good_Tree.own_keep og_7 (fun y hy => udr.block y (Nat.lt_of_lt_of_le (good_Tree.own_in og_7 y hy).2 (by omega)))
  clear og_7
  refine wp_region_held_drew (S := fun W => Bk W (w.heap.size) 65 cs0.toArray ∧ Bk W (w4.heap.size) 79 csx0.toArray) (by kernel_rfl) ⟨ka0_8, kx0_8⟩ (fun hH => ?_)
  refine wpAnyH_take (i := 0) (v := .agg csx0.toArray) rfl (by kernel_rfl) (by kernel_rfl) (by kernel_rfl) (fun _ _ _ h => h) (yieldsIf_load_mid (by rfl) _ _ rfl _ _ rfl csx0 _ (fun W hW => Bk.range hW.2 0 csx0 (by simp)) Tryz.underlying79 rfl ix0) hH ?_
  try simp only [Act.put, List.setIfInBounds_toArray, List.set_cons_zero, List.set_cons_succ]
  refine wpAnyH_take (i := 1) (v := .agg cs0.toArray) rfl (by kernel_rfl) (by kernel_rfl) (by kernel_rfl) (fun _ _ _ h => h) (yieldsIf_load_mid (by rfl) _ _ rfl _ _ rfl cs0 _ (fun W hW => Bk.range hW.1 0 cs0 (by simp)) Tryz.underlying65 rfl i0) hH ?_
  try simp only [Act.put, List.setIfInBounds_toArray, List.set_cons_zero, List.set_cons_succ]
  refine wpAnyH_ready (rs := [2]) (by kernel_rfl) (by simp) ?_
  refine AllReadyH.cons rfl (fun K hK => ?_) AllReadyH.nil
  go_simp
  refine (c_toBase _ x0 _ (hv0.up good_Base uu8) hn0).mono ?_
  rintro e w9 ⟨cse0, ble0, rfl, oe0, nde0, u9⟩
  have uu9 := uu8.trans u9
  have zs9 := u9.size
  have ka0_9 := ka0_8.up u9
  have kr_9 := kr_8.up u9
  have kx0_9 := kx0_8.up u9
  have kg_9 := kg_8.up u9
  have os_9 := good_Tree.keep os_8 (u9.keeps (by omega))
  clear os_8
  have ox0_9 := good_Base.own_keep ox0_8 (fun y hy => u9.block y (Nat.lt_of_lt_of_le (good_Base.own_in ox0_8 y hy).2 (by omega)))
  clear ox0_8
  have og_9 := good_Tree.own_keep og_8 (fun y hy => u9.block y (Nat.lt_of_lt_of_le (good_Tree.own_in og_8 y hy).2 (by omega)))
  clear og_8
  have ye0 := AV.of_own good_Base oe0
  go_wp2_with fail
  refine hK.out _ _ ⟨ka0_9, kx0_9⟩ (fun hH => ?_)
  clear hK K
  try simp only [Act.put, List.setIfInBounds_toArray, List.set_cons_zero, List.set_cons_succ]
  refine wpAnyH_ready (rs := [3]) (by kernel_rfl) (by simp) ?_
  refine AllReadyH.cons rfl (fun K hK => ?_) AllReadyH.nil
  go_simp
  refine (c_eqBase _ _ x0 x0 _ ⟨_, rfl, good_Base.wide (good_Base.own_rep ox0_9) (Nat.zero_le _) (by omega)⟩ ye0).mono ?_
  rintro e w10 ⟨bex, rfl, hbex, u10⟩
  have uu10 := uu9.trans u10
  have zs10 := u10.size
  have ka0_10 := ka0_9.up u10
  have kr_10 := kr_9.up u10
  have kx0_10 := kx0_9.up u10
  have kg_10 := kg_9.up u10
  have os_10 := good_Tree.keep os_9 (u10.keeps (by omega))
  clear os_9
  have ox0_10 := good_Base.own_keep ox0_9 (fun y hy => u10.block y (Nat.lt_of_lt_of_le (good_Base.own_in ox0_9 y hy).2 (by omega)))
  clear ox0_9
  have og_10 := good_Tree.own_keep og_9 (fun y hy => u10.block y (Nat.lt_of_lt_of_le (good_Tree.own_in og_9 y hy).2 (by omega)))
  clear og_9
  obtain rfl : bex = true := by simpa using hbex
  clear hbex ye0 oe0 nde0
  go_wp2_with fail
  refine hK.out _ _ ⟨ka0_10, kx0_10⟩ (fun hH => ?_)
  clear hK K
  try simp only [Act.put, List.setIfInBounds_toArray, List.set_cons_zero, List.set_cons_succ]
  refine wpAnyH_ready (rs := [4]) (by kernel_rfl) (by simp) ?_
  refine AllReadyH.cons rfl (fun K hK => ?_) AllReadyH.nil
  go_simp
  refine hK.out _ _ ⟨ka0_10, kx0_10⟩ (fun hH => ?_)
  clear hK K
  try simp only [Act.put, List.setIfInBounds_toArray, List.set_cons_zero, List.set_cons_succ]
  refine wpAnyH_done (by kernel_rfl) ?_ _
  clear zza0_7 gr_7_0 zzr_7 zzx0_7 gg_7_0 zzg_7
  have zza0_10 := ka0_10.lt
  have gr_10_0 : w10.cell? ⟨w3.heap.size, 0, none⟩ = some (.slice Ds_0 (treeIn x0).length ds_0) := kr_10.cell 0
  have zzr_10 := kr_10.lt
  have zzx0_10 := kx0_10.lt
  have gg_10_0 : w10.cell? ⟨w6.heap.size, 0, none⟩ = some (.slice Dg_0 (treeIn x0).length dg_0) := kg_10.cell 0
  have zzg_10 := kg_10.lt
  go_wp2_with (first | (refine wpList_load_bk cs0 ka0_10 rfl Tryz.underlying65 rfl i0 (by simp) ?_) | (refine wpList_load_bk csx0 kx0_10 rfl Tryz.underlying79 rfl ix0 (by simp) ?_))
  have cbx0 : (1 : Int) + (mmTBase.cnt x0 : Nat) ≤ 1000000000 := by have := cnt_Base x0 hn0; omega
  have cbg : (1 : Int) + (mmTTree.cnt (treeIn x0) : Nat) ≤ 1000000000 := cbg_TreeIn x0 hn0
  refine (c_markBase _ (x0) _ ((w3.alloc (.cells #[.slice Ds_0 (treeIn x0).length ds_0] 39)).heap.size) (w4.heap.size) blx0 _ ox0_10 (by omega) ndx0 (by omega) (by simpa using cbx0)).mono ?_
  rintro e w11 ⟨rfl, mox0, oox0⟩
  have hm1011 : ∀ y ∈ blx0, (w3.alloc (.cells #[.slice Ds_0 (treeIn x0).length ds_0] 39)).heap.size ≤ y ∧ y < w4.heap.size := good_Base.own_in ox0_10
  have uu11 := uu10.only oox0 (fun y hy => by have := (hm1011 y hy).1; omega)
  have zs11 := oox0.size
  have ka0_11 := ka0_10.only oox0 (fun hy => by have := hm1011 _ hy; omega)
  have kr_11 := kr_10.only oox0 (fun hy => by have := hm1011 _ hy; omega)
  have kx0_11 := kx0_10.only oox0 (fun hy => by have := hm1011 _ hy; omega)
  have kg_11 := kg_10.only oox0 (fun hy => by have := hm1011 _ hy; omega)
  have os_11 := good_Tree.keep os_10 (fun y _ hy => oox0.block y (by omega) (fun hm => by have h1 := hm1011 y hm; omega))
  clear os_10
  have og_11 := good_Tree.own_keep og_10 (fun y hy => oox0.block y (Nat.lt_of_lt_of_le (good_Tree.own_in og_10 y hy).2 (by omega)) (fun hm => by have h1 := hm1011 y hm; have h2 := good_Tree.own_in og_10 y hy; omega))
  clear og_10
  have mkx0 : shBase.own w11 ((w3.alloc (.cells #[.slice Ds_0 (treeIn x0).length ds_0] 39)).heap.size) (w4.heap.size) csx0 (mmTBase.mark (x0) 1) blx0 := mox0
  clear mox0 oox0 ox0_10
  clear zza0_10 gr_10_0 zzr_10 zzx0_10 gg_10_0 zzg_10
  have zza0_11 := ka0_11.lt
  have gr_11_0 : w11.cell? ⟨w3.heap.size, 0, none⟩ = some (.slice Ds_0 (treeIn x0).length ds_0) := kr_11.cell 0
  have zzr_11 := kr_11.lt
  have zzx0_11 := kx0_11.lt
  have gg_11_0 : w11.cell? ⟨w6.heap.size, 0, none⟩ = some (.slice Dg_0 (treeIn x0).length dg_0) := kg_11.cell 0
  have zzg_11 := kg_11.lt
  go_wp2_with (first | (refine wpList_load_bk cs0 ka0_11 rfl Tryz.underlying65 rfl i0 (by simp) ?_) | (refine wpList_load_bk csx0 kx0_11 rfl Tryz.underlying79 rfl ix0 (by simp) ?_))
  refine (c_eqTree _ _ (treeIn x0) (treeIn x0) _ ⟨_, rfl, good_Tree.wide (good_Tree.own_rep og_11) (Nat.zero_le _) (by omega)⟩ ⟨_, rfl, good_Tree.wide os_11 (Nat.le_refl _) (by omega)⟩).mono ?_
  rintro e w12 ⟨be1, rfl, hbe1, u12⟩
  have uu12 := uu11.trans u12
  have zs12 := u12.size
  have ka0_12 := ka0_11.up u12
  have kr_12 := kr_11.up u12
  have kx0_12 := kx0_11.up u12
  have kg_12 := kg_11.up u12
  have os_12 := good_Tree.keep os_11 (u12.keeps (by omega))
  clear os_11
  have mkx0_12 := good_Base.own_keep mkx0 (fun y hy => u12.block y (Nat.lt_of_lt_of_le (good_Base.own_in mkx0 y hy).2 (by omega)))
  have og_12 := good_Tree.own_keep og_11 (fun y hy => u12.block y (Nat.lt_of_lt_of_le (good_Tree.own_in og_11 y hy).2 (by omega)))
  clear og_11
  obtain rfl : be1 = true := by simpa using hbe1
  clear hbe1 u12
  clear zza0_11 gr_11_0 zzr_11 zzx0_11 gg_11_0 zzg_11
  have zza0_12 := ka0_12.lt
  have gr_12_0 : w12.cell? ⟨w3.heap.size, 0, none⟩ = some (.slice Ds_0 (treeIn x0).length ds_0) := kr_12.cell 0
  have zzr_12 := kr_12.lt
  have zzx0_12 := kx0_12.lt
  have gg_12_0 : w12.cell? ⟨w6.heap.size, 0, none⟩ = some (.slice Dg_0 (treeIn x0).length dg_0) := kg_12.cell 0
  have zzg_12 := kg_12.lt
  go_wp2_with (first | (refine wpList_load_bk cs0 ka0_12 rfl Tryz.underlying65 rfl i0 (by simp) ?_) | (refine wpList_load_bk csx0 kx0_12 rfl Tryz.underlying79 rfl ix0 (by simp) ?_))
  refine (c_markTree _ (treeIn x0) _ (Wx0.heap.size) (w6.heap.size) blg _ og_12 (by omega) ndg (by omega) (by simpa using cbg)).mono ?_
  rintro e w13 ⟨rfl, mog, oog⟩
  have hm1013 : ∀ y ∈ blg, Wx0.heap.size ≤ y ∧ y < w6.heap.size := good_Tree.own_in og_12
  have uu13 := uu12.only oog (fun y hy => by have := (hm1013 y hy).1; omega)
  have zs13 := oog.size
  have ka0_13 := ka0_12.only oog (fun hy => by have := hm1013 _ hy; omega)
  have kr_13 := kr_12.only oog (fun hy => by have := hm1013 _ hy; omega)
  have kx0_13 := kx0_12.only oog (fun hy => by have := hm1013 _ hy; omega)
  have kg_13 := kg_12.only oog (fun hy => by have := hm1013 _ hy; omega)
  have os_13 := good_Tree.keep os_12 (fun y _ hy => oog.block y (by omega) (fun hm => by have h1 := hm1013 y hm; omega))
  clear os_12
  have mkx0_13 := good_Base.own_keep mkx0_12 (fun y hy => oog.block y (Nat.lt_of_lt_of_le (good_Base.own_in mkx0_12 y hy).2 (by omega)) (fun hm => by have h1 := hm1013 y hm; have h2 := good_Base.own_in mkx0_12 y hy; omega))
  clear mkx0_12
  have mkg : shTree.own w13 (Wx0.heap.size) (w6.heap.size) [.slice Dg_0 (treeIn x0).length dg_0] (mmTTree.mark (treeIn x0) 1) blg := mog
  clear mog oog og_12
  clear zza0_12 gr_12_0 zzr_12 zzx0_12 gg_12_0 zzg_12
  have zza0_13 := ka0_13.lt
  have gr_13_0 : w13.cell? ⟨w3.heap.size, 0, none⟩ = some (.slice Ds_0 (treeIn x0).length ds_0) := kr_13.cell 0
  have zzr_13 := kr_13.lt
  have zzx0_13 := kx0_13.lt
  have gg_13_0 : w13.cell? ⟨w6.heap.size, 0, none⟩ = some (.slice Dg_0 (treeIn x0).length dg_0) := kg_13.cell 0
  have zzg_13 := kg_13.lt
  go_wp2_with (first | (refine wpList_load_bk cs0 ka0_13 rfl Tryz.underlying65 rfl i0 (by simp) ?_) | (refine wpList_load_bk csx0 kx0_13 rfl Tryz.underlying79 rfl ix0 (by simp) ?_))
  have hia := gmT_Tree.idem (treeIn x0) 1
  have hsa := gmT_Tree.same (treeIn x0) 1
  have hcba : (1 : Int) + (mmTTree.cnt (mmTTree.mark (treeIn x0) 1) : Nat) ≤ 1000000000 := by rw [hsa]; exact cbg
  refine (c_heldTree _ (mmTTree.mark (treeIn x0) 1) _ _ ⟨_, rfl, good_Tree.wide (good_Tree.own_rep mkg) (Nat.zero_le _) (by omega)⟩ hia (by omega) hcba).mono ?_
  rintro e w14 ⟨rfl, u14⟩
  have uu14 := uu13.trans u14
  have zs14 := u14.size
  have ka0_14 := ka0_13.up u14
  have kr_14 := kr_13.up u14
  have kx0_14 := kx0_13.up u14
  have kg_14 := kg_13.up u14
  have os_14 := good_Tree.keep os_13 (u14.keeps (by omega))
  clear os_13
  have mkx0_14 := good_Base.own_keep mkx0_13 (fun y hy => u14.block y (Nat.lt_of_lt_of_le (good_Base.own_in mkx0_13 y hy).2 (by omega)))
  clear mkx0_13
  have mkg_14 := good_Tree.own_keep mkg (fun y hy => u14.block y (Nat.lt_of_lt_of_le (good_Tree.own_in mkg y hy).2 (by omega)))
  rw [hsa]
  clear hia hsa hcba u14
  clear zza0_13 gr_13_0 zzr_13 zzx0_13 gg_13_0 zzg_13
  have zza0_14 := ka0_14.lt
  have gr_14_0 : w14.cell? ⟨w3.heap.size, 0, none⟩ = some (.slice Ds_0 (treeIn x0).length ds_0) := kr_14.cell 0
  have zzr_14 := kr_14.lt
  have zzx0_14 := kx0_14.lt
  have gg_14_0 : w14.cell? ⟨w6.heap.size, 0, none⟩ = some (.slice Dg_0 (treeIn x0).length dg_0) := kg_14.cell 0
  have zzg_14 := kg_14.lt
  go_wp2_with (first | (refine wpList_load_bk cs0 ka0_14 rfl Tryz.underlying65 rfl i0 (by simp) ?_) | (refine wpList_load_bk csx0 kx0_14 rfl Tryz.underlying79 rfl ix0 (by simp) ?_))
  refine (c_toBase _ x0 _ (hv0.up good_Base uu14) hn0).mono ?_
  rintro e w15 ⟨csz0, blz0, rfl, oz0, ndz0, u15⟩
  have lz0 : csz0.length = 24 := good_Base.len (good_Base.own_rep oz0)
  have onez0 := good_Base.one (good_Base.own_rep oz0)
  have iz0 : (Tryz.prog.info? 79).map (·.size) = some csz0.length := by rw [lz0]; kernel_rfl
  have uu15 := uu14.trans u15
  have zs15 := u15.size
  have ka0_15 := ka0_14.up u15
  have kr_15 := kr_14.up u15
  have kx0_15 := kx0_14.up u15
  have kg_15 := kg_14.up u15
  have os_15 := good_Tree.keep os_14 (u15.keeps (by omega))
  clear os_14
  have mkg_15 := good_Tree.own_keep mkg_14 (fun y hy => u15.block y (Nat.lt_of_lt_of_le (good_Tree.own_in mkg_14 y hy).2 (by omega)))
  clear mkg_14
  clear zza0_14 gr_14_0 zzr_14 zzx0_14 gg_14_0 zzg_14
  have zza0_15 := ka0_15.lt
  have gr_15_0 : w15.cell? ⟨w3.heap.size, 0, none⟩ = some (.slice Ds_0 (treeIn x0).length ds_0) := kr_15.cell 0
  have zzr_15 := kr_15.lt
  have zzx0_15 := kx0_15.lt
  have gg_15_0 : w15.cell? ⟨w6.heap.size, 0, none⟩ = some (.slice Dg_0 (treeIn x0).length dg_0) := kg_15.cell 0
  have zzg_15 := kg_15.lt
  go_wp2_with (first | (refine wpList_load_bk cs0 ka0_15 rfl Tryz.underlying65 rfl i0 (by simp) ?_) | (refine wpList_load_bk csx0 kx0_15 rfl Tryz.underlying79 rfl ix0 (by simp) ?_))
  refine (ci_TreeIn _ x0 _ ⟨_, rfl, good_Base.wide (good_Base.own_rep oz0) (Nat.zero_le _) (by omega)⟩ hn0 (tab_up htab uu15) (maxL_up hmx uu15)).mono ?_
  rintro e w16 ⟨csh, blh, rfl, oh, ndh, u16⟩
  obtain ⟨Dh_0, dh_0, _, rfl, _, _⟩ := openOTree oh
  have uu16 := uu15.trans u16
  have zs16 := u16.size
  have ka0_16 := ka0_15.up u16
  have kr_16 := kr_15.up u16
  have kx0_16 := kx0_15.up u16
  have kg_16 := kg_15.up u16
  have os_16 := good_Tree.keep os_15 (u16.keeps (by omega))
  clear os_15
  have mkg_16 := good_Tree.own_keep mkg_15 (fun y hy => u16.block y (Nat.lt_of_lt_of_le (good_Tree.own_in mkg_15 y hy).2 (by omega)))
  clear mkg_15
  have oz0_16 := good_Base.own_keep oz0 (fun y hy => u16.block y (Nat.lt_of_lt_of_le (good_Base.own_in oz0 y hy).2 (by omega)))
  have ua16 : Up w16 (w16.alloc (.cells #[.slice Dh_0 (treeIn x0).length dh_0] 39)) := (Up.alloc (Up.refl w16) (.cells #[.slice Dh_0 (treeIn x0).length dh_0] 39))
  have za16 : (w16.alloc (.cells #[.slice Dh_0 (treeIn x0).length dh_0] 39)).heap.size = w16.heap.size + 1 := by simp
  have ub16 := uu16.trans ua16
  have ka0_16b := ka0_16.up ua16
  have kr_16b := kr_16.up ua16
  have kx0_16b := kx0_16.up ua16
  have kg_16b := kg_16.up ua16
  have os_16b := good_Tree.keep os_16 (ua16.keeps (by omega))
  clear os_16
  have mkg_16b := good_Tree.own_keep mkg_16 (fun y hy => ua16.block y (Nat.lt_of_lt_of_le (good_Tree.own_in mkg_16 y hy).2 (by omega)))
  clear mkg_16
  have oz0_16b := good_Base.own_keep oz0_16 (fun y hy => ua16.block y (Nat.lt_of_lt_of_le (good_Base.own_in oz0_16 y hy).2 (by omega)))
  clear oz0_16
  have oh_16b := good_Tree.own_keep oh (fun y hy => ua16.block y (Nat.lt_of_lt_of_le (good_Tree.own_in oh y hy).2 (by omega)))
  have kh_16b : Bk (w16.alloc (.cells #[.slice Dh_0 (treeIn x0).length dh_0] 39)) (w16.heap.size) 39 #[.slice Dh_0 (treeIn x0).length dh_0] := Bk.new _ _ _
  clear zza0_15 gr_15_0 zzr_15 zzx0_15 gg_15_0 zzg_15
  have zza0_16 := ka0_16b.lt
  have gr_16_0 : (w16.alloc (.cells #[.slice Dh_0 (treeIn x0).length dh_0] 39)).cell? ⟨w3.heap.size, 0, none⟩ = some (.slice Ds_0 (treeIn x0).length ds_0) := kr_16b.cell 0
  have zzr_16 := kr_16b.lt
  have zzx0_16 := kx0_16b.lt
  have gg_16_0 : (w16.alloc (.cells #[.slice Dh_0 (treeIn x0).length dh_0] 39)).cell? ⟨w6.heap.size, 0, none⟩ = some (.slice Dg_0 (treeIn x0).length dg_0) := kg_16b.cell 0
  have zzg_16 := kg_16b.lt
  have gh_16_0 : (w16.alloc (.cells #[.slice Dh_0 (treeIn x0).length dh_0] 39)).cell? ⟨w16.heap.size, 0, none⟩ = some (.slice Dh_0 (treeIn x0).length dh_0) := kh_16b.cell 0
  have zzh_16 := kh_16b.lt
  go_wp2_with (first | (refine wpList_load_bk cs0 ka0_16b rfl Tryz.underlying65 rfl i0 (by simp) ?_) | (refine wpList_load_bk csx0 kx0_16b rfl Tryz.underlying79 rfl ix0 (by simp) ?_))
  refine (c_eqTree _ _ (treeIn x0) (treeIn x0) _ ⟨_, rfl, good_Tree.wide (good_Tree.own_rep oh_16b) (Nat.zero_le _) (by omega)⟩ ⟨_, rfl, good_Tree.wide os_16b (Nat.le_refl _) (by omega)⟩).mono ?_
  rintro e w17 ⟨be2, rfl, hbe2, u17⟩
  have uu17 := ub16.trans u17
  have zs17 := u17.size
  have ka0_17 := ka0_16b.up u17
  have kr_17 := kr_16b.up u17
  have kx0_17 := kx0_16b.up u17
  have kg_17 := kg_16b.up u17
  have kh_17 := kh_16b.up u17
  have os_17 := good_Tree.keep os_16b (u17.keeps (by omega))
  clear os_16b
  have mkg_17 := good_Tree.own_keep mkg_16b (fun y hy => u17.block y (Nat.lt_of_lt_of_le (good_Tree.own_in mkg_16b y hy).2 (by omega)))
  clear mkg_16b
  have oz0_17 := good_Base.own_keep oz0_16b (fun y hy => u17.block y (Nat.lt_of_lt_of_le (good_Base.own_in oz0_16b y hy).2 (by omega)))
  clear oz0_16b
  have oh_17 := good_Tree.own_keep oh_16b (fun y hy => u17.block y (Nat.lt_of_lt_of_le (good_Tree.own_in oh_16b y hy).2 (by omega)))
  clear oh_16b
  obtain rfl : be2 = true := by simpa using hbe2
  clear hbe2 u17
  clear zza0_16 gr_16_0 zzr_16 zzx0_16 gg_16_0 zzg_16 gh_16_0 zzh_16
  have zza0_17 := ka0_17.lt
  have gr_17_0 : w17.cell? ⟨w3.heap.size, 0, none⟩ = some (.slice Ds_0 (treeIn x0).length ds_0) := kr_17.cell 0
  have zzr_17 := kr_17.lt
  have zzx0_17 := kx0_17.lt
  have gg_17_0 : w17.cell? ⟨w6.heap.size, 0, none⟩ = some (.slice Dg_0 (treeIn x0).length dg_0) := kg_17.cell 0
  have zzg_17 := kg_17.lt
  have gh_17_0 : w17.cell? ⟨w16.heap.size, 0, none⟩ = some (.slice Dh_0 (treeIn x0).length dh_0) := kh_17.cell 0
  have zzh_17 := kh_17.lt
  go_wp2_with (first | (refine wpList_load_bk cs0 ka0_17 rfl Tryz.underlying65 rfl i0 (by simp) ?_) | (refine wpList_load_bk csx0 kx0_17 rfl Tryz.underlying79 rfl ix0 (by simp) ?_))
  have hib := gmT_Tree.idem (treeIn x0) 1
  have hsb := gmT_Tree.same (treeIn x0) 1
  have hcbb : (1 : Int) + (mmTTree.cnt (mmTTree.mark (treeIn x0) 1) : Nat) ≤ 1000000000 := by rw [hsb]; exact cbg
  refine (c_heldTree _ (mmTTree.mark (treeIn x0) 1) _ _ ⟨_, rfl, good_Tree.wide (good_Tree.own_rep mkg_17) (Nat.zero_le _) (by omega)⟩ hib (by omega) hcbb).mono ?_
  rintro e w18 ⟨rfl, u18⟩
  have uu18 := uu17.trans u18
  have zs18 := u18.size
  have ka0_18 := ka0_17.up u18
  have kr_18 := kr_17.up u18
  have kx0_18 := kx0_17.up u18
  have kg_18 := kg_17.up u18
  have kh_18 := kh_17.up u18
  have os_18 := good_Tree.keep os_17 (u18.keeps (by omega))
  clear os_17
  have mkg_18 := good_Tree.own_keep mkg_17 (fun y hy => u18.block y (Nat.lt_of_lt_of_le (good_Tree.own_in mkg_17 y hy).2 (by omega)))
  clear mkg_17
  have oz0_18 := good_Base.own_keep oz0_17 (fun y hy => u18.block y (Nat.lt_of_lt_of_le (good_Base.own_in oz0_17 y hy).2 (by omega)))
  clear oz0_17
  have oh_18 := good_Tree.own_keep oh_17 (fun y hy => u18.block y (Nat.lt_of_lt_of_le (good_Tree.own_in oh_17 y hy).2 (by omega)))
  clear oh_17
  rw [hsb]
  clear hib hsb hcbb u18
  clear zza0_17 gr_17_0 zzr_17 zzx0_17 gg_17_0 zzg_17 gh_17_0 zzh_17
  have zza0_18 := ka0_18.lt
  have gr_18_0 : w18.cell? ⟨w3.heap.size, 0, none⟩ = some (.slice Ds_0 (treeIn x0).length ds_0) := kr_18.cell 0
  have zzr_18 := kr_18.lt
  have zzx0_18 := kx0_18.lt
  have gg_18_0 : w18.cell? ⟨w6.heap.size, 0, none⟩ = some (.slice Dg_0 (treeIn x0).length dg_0) := kg_18.cell 0
  have zzg_18 := kg_18.lt
  have gh_18_0 : w18.cell? ⟨w16.heap.size, 0, none⟩ = some (.slice Dh_0 (treeIn x0).length dh_0) := kh_18.cell 0
  have zzh_18 := kh_18.lt
  go_wp2_with (first | (refine wpList_load_bk cs0 ka0_18 rfl Tryz.underlying65 rfl i0 (by simp) ?_) | (refine wpList_load_bk csx0 kx0_18 rfl Tryz.underlying79 rfl ix0 (by simp) ?_))
  go_ret
  exact ⟨rfl, uu18⟩
end Go.Proofs.YtpjcgglhlmifdaaGreatDoor
