/-
  The walk of FnExactSameBase: for every input it returns true.
-/
import Derived.Test.YtidfeipilleafaaBs
import Derived.Test.YtidfeipilleafaaMid
import Derived.Deep.RegionHeld3
namespace Go.Proofs.Ytidfeipilleafaa
open Go.RowKit
set_option linter.unusedVariables false
set_option linter.unusedSimpArgs false

theorem load_all {P : Program} {W : World} {g : Nat} {t ty : TypeId} {cs : List Value} {d : TypeDesc} (k : Bk W g t cs.toArray) (hu : P.underlying ty = some d) (hd : d.isRow = true) (hi : (P.info? ty).map (·.size) = some cs.length) : (Instr.loadAt ty (.pointer (some ⟨g, 0, none⟩))).run P W = .ok (.agg cs.toArray) W := run_loadAt_mid W g 0 ty cs d (k.range 0 cs (by simp)) hu hd hi
theorem putL_all : ∀ (l cs : List Value), l.length = cs.length → putL l 0 cs = cs
  | [], [], _ => rfl
  | [], _ :: _, h => by simp at h
  | _ :: _, [], h => by simp at h
  | x :: l, c :: cs, h => by rw [putL, putL_all l cs (by simpa using h)]
set_option maxRecDepth 100000 in
set_option maxHeartbeats 8000000 in
theorem w0_FnExactSameBase (w : World) (v0 : Value) (x0 : TBase) (h0 : AV shBase w v0 x0) (v1 : Value) (x1 : TBase) (h1 : AV shBase w v1 x1) :
    Calls Try.prog 3 #[v0, v1] w fun e w' => e = .returned (.bool true) ∧ Up w w' := by
  have hv0 := h0
  obtain ⟨cs0, rfl, h0⟩ := h0
  have l0 : cs0.length = 24 := by obtain ⟨_, _, _, _, _, _, _, _, _, _, _, _, _, _, _, _, _, _, rfl, _⟩ := openBase h0; rfl
  clear h0
  have hv1 := h1
  obtain ⟨cs1, rfl, h1⟩ := h1
  have l1 : cs1.length = 24 := by obtain ⟨_, _, _, _, _, _, _, _, _, _, _, _, _, _, _, _, _, _, rfl, _⟩ := openBase h1; rfl
  clear h1
  have ka : Bk ((w.alloc (.cells cs0.toArray 38)).alloc (.cells cs1.toArray 38)) w.heap.size 38 cs0.toArray := (Bk.new _ _ _).alloc _
  have kb : Bk ((w.alloc (.cells cs0.toArray 38)).alloc (.cells cs1.toArray 38)) (w.heap.size + 1) 38 cs1.toArray := by simpa using Bk.new (w.alloc (.cells cs0.toArray 38)) 38 cs1.toArray
  have uu : Up w ((w.alloc (.cells cs0.toArray 38)).alloc (.cells cs1.toArray 38)) := ((Up.refl w).alloc _).alloc _
  have i0 : (Try.prog.info? 38).map (·.size) = some cs0.length := by rw [l0]; kernel_rfl
  have i1 : (Try.prog.info? 38).map (·.size) = some cs1.length := by rw [l1]; kernel_rfl
  go_enter Try.func3, Try.ntmps3
  go_wp2_with (refine wpList_load_bk cs0 ka rfl Try.underlying38 rfl i0 (by simp) ?_)
  refine (c_szBase _ x0 _ _ (hv0.up good_Base uu) (by omega) (by omega)).mono ?_
  rintro e w1 ⟨rfl, u⟩
  replace uu := uu.trans u
  replace ka := ka.up u
  replace kb := kb.up u
  clear u
  by_cases q0 : ¬ ((shBase.sz x0 : Nat) : Int) ≤ 1048576
  · rw [szR_no (by omega)]
    go_wp2_with fail
    go_ret
    exact ⟨rfl, uu⟩
  replace q0 := Decidable.of_not_not q0
  rw [szR_yes q0]
  go_wp2_with (refine wpList_load_bk cs1 kb rfl Try.underlying38 rfl i1 (by simp) ?_)
  refine (c_szBase _ x1 _ _ (hv1.up good_Base uu) (by omega) (by omega)).mono ?_
  rintro e w2 ⟨rfl, u⟩
  replace uu := uu.trans u
  replace ka := ka.up u
  replace kb := kb.up u
  clear u
  by_cases q1 : ¬ ((shBase.sz x1 : Nat) : Int) ≤ 1048576 - (shBase.sz x0 : Nat)
  · rw [szR_no (by omega)]
    go_wp2_with fail
    go_ret
    exact ⟨rfl, uu⟩
  replace q1 := Decidable.of_not_not q1
  rw [szR_yes q1]
  go_wp2_with fail
  have hn0 : shBase.sz x0 ≤ 1048576 := by omega
  have hn1 : shBase.sz x1 ≤ 1048576 := by omega
  replace uu := uu.drew
  replace ka := ka.drew
  replace kb := kb.drew
  refine wp_region_held_drew (S := fun W => Bk W w.heap.size 38 cs0.toArray ∧ Bk W (w.heap.size + 1) 38 cs1.toArray) (by kernel_rfl) ⟨ka, kb⟩ (fun hH => ?_)
  refine wpAnyH_take (i := 0) (v := .agg cs0.toArray) rfl (by kernel_rfl) (by kernel_rfl) (by kernel_rfl) (fun _ _ _ h => h) (yieldsIf_load_mid (by rfl) _ _ rfl _ _ rfl cs0 _ (fun W hW => Bk.range hW.1 0 cs0 (by simp)) Try.underlying38 rfl i0) hH ?_
  try simp only [Act.put, List.setIfInBounds_toArray, List.set_cons_zero, List.set_cons_succ]
  refine wpAnyH_take (i := 2) (v := .agg cs1.toArray) rfl (by kernel_rfl) (by kernel_rfl) (by kernel_rfl) (fun _ _ _ h => h) (yieldsIf_load_mid (by rfl) _ _ rfl _ _ rfl cs1 _ (fun W hW => Bk.range hW.2 0 cs1 (by simp)) Try.underlying38 rfl i1) hH ?_
  try simp only [Act.put, List.setIfInBounds_toArray, List.set_cons_zero, List.set_cons_succ]
  refine wpAnyH_ready (rs := [1]) (by kernel_rfl) (by simp) ?_
  refine AllReadyH.cons rfl (fun K hK => ?_) AllReadyH.nil
  go_simp
  refine (c_toBase _ x0 _ (hv0.up good_Base uu) hn0).mono ?_
  rintro e wp0 ⟨csp0, blp0, rfl, op0, ndp0, up0⟩
  replace uu := uu.trans up0
  replace ka := ka.up up0
  replace kb := kb.up up0
  have yp0 := AV.of_own good_Base op0
  clear op0 up0
  go_wp2_with fail
  refine hK.out _ _ ⟨ka, kb⟩ (fun hH => ?_)
  clear hK K
  try simp only [Act.put, List.setIfInBounds_toArray, List.set_cons_zero, List.set_cons_succ]
  refine wpAnyH_ready (rs := [3]) (by kernel_rfl) (by simp) ?_
  refine AllReadyH.cons rfl (fun K hK => ?_) AllReadyH.nil
  go_simp
  refine (c_toBase _ x1 _ (hv1.up good_Base uu) hn1).mono ?_
  rintro e wp1 ⟨csp1, blp1, rfl, op1, ndp1, up1⟩
  replace uu := uu.trans up1
  replace ka := ka.up up1
  replace kb := kb.up up1
  have yp1 := AV.of_own good_Base op1
  replace yp0 := yp0.up good_Base up1
  clear op1 up1
  go_wp2_with fail
  refine hK.out _ _ ⟨ka, kb⟩ (fun hH => ?_)
  clear hK K
  try simp only [Act.put, List.setIfInBounds_toArray, List.set_cons_zero, List.set_cons_succ]
  refine wpAnyH_ready (rs := [4]) (by kernel_rfl) (by simp) ?_
  refine AllReadyH.cons rfl (fun K hK => ?_) AllReadyH.nil
  go_simp
  refine (cs_SameBase _ x0 _ x1 _ yp0 hn0 yp1 hn1).mono ?_
  rintro e w3 ⟨bs, rfl, hbs, u3⟩
  replace uu := uu.trans u3
  replace ka := ka.up u3
  replace kb := kb.up u3
  clear yp0 yp1 u3
  go_wp2_with fail
  refine hK.out _ _ ⟨ka, kb⟩ (fun hH => ?_)
  clear hK K
  try simp only [Act.put, List.setIfInBounds_toArray, List.set_cons_zero, List.set_cons_succ]
  refine wpAnyH_ready (rs := [5]) (by kernel_rfl) (by simp) ?_
  refine AllReadyH.cons rfl (fun K hK => ?_) AllReadyH.nil
  go_simp
  refine hK.out _ _ ⟨ka, kb⟩ (fun hH => ?_)
  clear hK K
  try simp only [Act.put, List.setIfInBounds_toArray, List.set_cons_zero, List.set_cons_succ]
  refine wpAnyH_done (by kernel_rfl) ?_ _
  go_wp2_with (refine wpList_load_bk cs0 ka rfl Try.underlying38 rfl i0 (by simp) ?_)
  refine (c_toBase _ x0 _ (hv0.up good_Base uu) hn0).mono ?_
  rintro e w4 ⟨csx0, blx0, rfl, ox0, ndx0, u⟩
  replace uu := uu.trans u
  replace ka := ka.up u
  replace kb := kb.up u
  clear u
  have y0 := AV.of_own good_Base ox0
  have lx0 : csx0.length = 24 := by obtain ⟨_, _, _, _, _, _, _, _, _, _, _, _, _, _, _, _, _, _, _, _, _, _, _, _, _, _, _, rfl, _, _⟩ := openOBase ox0; rfl
  have ax0 : csx0.all (·.oneCell') = true := by obtain ⟨_, _, _, _, _, _, _, _, _, _, _, _, _, _, _, _, _, _, _, _, _, _, _, _, _, _, _, rfl, _, _⟩ := openOBase ox0; rfl
  have ix0 : (Try.prog.info? 55).map (·.size) = some csx0.length := by rw [lx0]; kernel_rfl
  clear ox0 ndx0
  go_wp2_with (first | (refine wpList_store_bk csx0 (Bk.new _ _ _) rfl rfl ix0 ax0 (by rw [lx0]; exact Nat.le_of_ble_eq_true rfl) ?_; intro W0 bt kx0; rw [putL_all _ csx0 (by rw [lx0]; rfl)] at kx0; have u : Up w4 W0 := ((Up.refl w4).alloc _).but bt (Nat.le_refl _); clear bt; replace uu := uu.trans u; replace ka := ka.up u; replace kb := kb.up u; replace y0 := y0.up good_Base u; clear u) | (refine wpList_load_bk cs1 kb rfl Try.underlying38 rfl i1 (by simp) ?_))
  refine (c_toBase _ x1 _ (hv1.up good_Base uu) hn1).mono ?_
  rintro e w5 ⟨csx1, blx1, rfl, ox1, ndx1, u⟩
  replace uu := uu.trans u
  replace ka := ka.up u
  replace kb := kb.up u
  replace kx0 := kx0.up u
  replace y0 := y0.up good_Base u
  clear u
  have y1 := AV.of_own good_Base ox1
  have lx1 : csx1.length = 24 := by obtain ⟨_, _, _, _, _, _, _, _, _, _, _, _, _, _, _, _, _, _, _, _, _, _, _, _, _, _, _, rfl, _, _⟩ := openOBase ox1; rfl
  have ax1 : csx1.all (·.oneCell') = true := by obtain ⟨_, _, _, _, _, _, _, _, _, _, _, _, _, _, _, _, _, _, _, _, _, _, _, _, _, _, _, rfl, _, _⟩ := openOBase ox1; rfl
  have ix1 : (Try.prog.info? 55).map (·.size) = some csx1.length := by rw [lx1]; kernel_rfl
  clear ox1 ndx1
  go_wp2_with (first | (refine wpList_store_bk csx1 (Bk.new _ _ _) rfl rfl ix1 ax1 (by rw [lx1]; exact Nat.le_of_ble_eq_true rfl) ?_; intro W1 bt kx1; rw [putL_all _ csx1 (by rw [lx1]; rfl)] at kx1; have u : Up w5 W1 := ((Up.refl w5).alloc _).but bt (Nat.le_refl _); clear bt; replace uu := uu.trans u; replace ka := ka.up u; replace kb := kb.up u; replace kx0 := kx0.up u; replace y0 := y0.up good_Base u; replace y1 := y1.up good_Base u; clear u) | (refine wpList_load_bk csx0 kx0 rfl Try.underlying55 rfl ix0 (by simp) ?_) | (refine wpList_load_bk csx1 kx1 rfl Try.underlying55 rfl ix1 (by simp) ?_))
  refine (ci_SameBase _ x0 _ x1 _ y0 hn0 y1 hn1).mono ?_
  rintro e w6 ⟨bi, rfl, hbi, u⟩
  replace uu := uu.trans u
  replace ka := ka.up u
  replace kb := kb.up u
  replace kx0 := kx0.up u
  replace kx1 := kx1.up u
  replace y0 := y0.up good_Base u
  replace y1 := y1.up good_Base u
  clear u
  obtain rfl : bi = bs := by cases bi <;> cases bs <;> simp_all
  clear hbi hbs
  go_wp2_with fail
  replace uu := uu.drew
  replace ka := ka.drew
  replace kb := kb.drew
  replace kx0 := kx0.drew
  replace kx1 := kx1.drew
  replace y0 := y0.up good_Base (Up.refl _).drew
  replace y1 := y1.up good_Base (Up.refl _).drew
  refine wp_region_held_drew (S := fun W => Bk W (w.heap.size) 38 cs0.toArray ∧ Bk W w4.heap.size 55 csx0.toArray) (by kernel_rfl) ⟨ka, kx0⟩ (fun hH => ?_)
  refine wpAnyH_take (i := 0) (v := .agg csx0.toArray) rfl (by kernel_rfl) (by kernel_rfl) (by kernel_rfl) (fun _ _ _ h => h) (yieldsIf_load_mid (by rfl) _ _ rfl _ _ rfl csx0 _ (fun W hW => Bk.range hW.2 0 csx0 (by simp)) Try.underlying55 rfl ix0) hH ?_
  try simp only [Act.put, List.setIfInBounds_toArray, List.set_cons_zero, List.set_cons_succ]
  refine wpAnyH_take (i := 1) (v := .agg cs0.toArray) rfl (by kernel_rfl) (by kernel_rfl) (by kernel_rfl) (fun _ _ _ h => h) (yieldsIf_load_mid (by rfl) _ _ rfl _ _ rfl cs0 _ (fun W hW => Bk.range hW.1 0 cs0 (by simp)) Try.underlying38 rfl i0) hH ?_
  try simp only [Act.put, List.setIfInBounds_toArray, List.set_cons_zero, List.set_cons_succ]
  refine wpAnyH_ready (rs := [2]) (by kernel_rfl) (by simp) ?_
  refine AllReadyH.cons rfl (fun K hK => ?_) AllReadyH.nil
  go_simp
  refine (c_toBase _ x0 _ (hv0.up good_Base uu) hn0).mono ?_
  rintro e we0 ⟨cse0, ble0, rfl, oe0, nde0, ue0⟩
  replace uu := uu.trans ue0
  replace ka := ka.up ue0
  replace kb := kb.up ue0
  replace kx0 := kx0.up ue0
  replace kx1 := kx1.up ue0
  have ye0 := AV.of_own good_Base oe0
  replace y0 := y0.up good_Base ue0
  replace y1 := y1.up good_Base ue0
  clear oe0 ue0
  go_wp2_with fail
  refine hK.out _ _ ⟨ka, kx0⟩ (fun hH => ?_)
  clear hK K
  try simp only [Act.put, List.setIfInBounds_toArray, List.set_cons_zero, List.set_cons_succ]
  refine wpAnyH_ready (rs := [3]) (by kernel_rfl) (by simp) ?_
  refine AllReadyH.cons rfl (fun K hK => ?_) AllReadyH.nil
  go_simp
  refine (c_eqBase _ _ x0 x0 _ y0 ye0).mono ?_
  rintro e w7 ⟨be0, rfl, hbe0, ux0⟩
  replace uu := uu.trans ux0
  replace ka := ka.up ux0
  replace kb := kb.up ux0
  replace kx0 := kx0.up ux0
  replace kx1 := kx1.up ux0
  replace y0 := y0.up good_Base ux0
  replace y1 := y1.up good_Base ux0
  clear ux0
  obtain rfl : be0 = true := by simpa using hbe0
  clear hbe0 ye0
  go_wp2_with fail
  refine hK.out _ _ ⟨ka, kx0⟩ (fun hH => ?_)
  clear hK K
  try simp only [Act.put, List.setIfInBounds_toArray, List.set_cons_zero, List.set_cons_succ]
  refine wpAnyH_ready (rs := [4]) (by kernel_rfl) (by simp) ?_
  refine AllReadyH.cons rfl (fun K hK => ?_) AllReadyH.nil
  go_simp
  refine hK.out _ _ ⟨ka, kx0⟩ (fun hH => ?_)
  clear hK K
  try simp only [Act.put, List.setIfInBounds_toArray, List.set_cons_zero, List.set_cons_succ]
  refine wpAnyH_done (by kernel_rfl) ?_ _
  go_wp2_with fail
  replace uu := uu.drew
  replace ka := ka.drew
  replace kb := kb.drew
  replace kx0 := kx0.drew
  replace kx1 := kx1.drew
  replace y0 := y0.up good_Base (Up.refl _).drew
  replace y1 := y1.up good_Base (Up.refl _).drew
  refine wp_region_held_drew (S := fun W => Bk W (w.heap.size + 1) 38 cs1.toArray ∧ Bk W w5.heap.size 55 csx1.toArray) (by kernel_rfl) ⟨kb, kx1⟩ (fun hH => ?_)
  refine wpAnyH_take (i := 0) (v := .agg csx1.toArray) rfl (by kernel_rfl) (by kernel_rfl) (by kernel_rfl) (fun _ _ _ h => h) (yieldsIf_load_mid (by rfl) _ _ rfl _ _ rfl csx1 _ (fun W hW => Bk.range hW.2 0 csx1 (by simp)) Try.underlying55 rfl ix1) hH ?_
  try simp only [Act.put, List.setIfInBounds_toArray, List.set_cons_zero, List.set_cons_succ]
  refine wpAnyH_take (i := 1) (v := .agg cs1.toArray) rfl (by kernel_rfl) (by kernel_rfl) (by kernel_rfl) (fun _ _ _ h => h) (yieldsIf_load_mid (by rfl) _ _ rfl _ _ rfl cs1 _ (fun W hW => Bk.range hW.1 0 cs1 (by simp)) Try.underlying38 rfl i1) hH ?_
  try simp only [Act.put, List.setIfInBounds_toArray, List.set_cons_zero, List.set_cons_succ]
  refine wpAnyH_ready (rs := [2]) (by kernel_rfl) (by simp) ?_
  refine AllReadyH.cons rfl (fun K hK => ?_) AllReadyH.nil
  go_simp
  refine (c_toBase _ x1 _ (hv1.up good_Base uu) hn1).mono ?_
  rintro e we1 ⟨cse1, ble1, rfl, oe1, nde1, ue1⟩
  replace uu := uu.trans ue1
  replace ka := ka.up ue1
  replace kb := kb.up ue1
  replace kx0 := kx0.up ue1
  replace kx1 := kx1.up ue1
  have ye1 := AV.of_own good_Base oe1
  replace y0 := y0.up good_Base ue1
  replace y1 := y1.up good_Base ue1
  clear oe1 ue1
  go_wp2_with fail
  refine hK.out _ _ ⟨kb, kx1⟩ (fun hH => ?_)
  clear hK K
  try simp only [Act.put, List.setIfInBounds_toArray, List.set_cons_zero, List.set_cons_succ]
  refine wpAnyH_ready (rs := [3]) (by kernel_rfl) (by simp) ?_
  refine AllReadyH.cons rfl (fun K hK => ?_) AllReadyH.nil
  go_simp
  refine (c_eqBase _ _ x1 x1 _ y1 ye1).mono ?_
  rintro e w8 ⟨be1, rfl, hbe1, ux1⟩
  replace uu := uu.trans ux1
  replace ka := ka.up ux1
  replace kb := kb.up ux1
  replace kx0 := kx0.up ux1
  replace kx1 := kx1.up ux1
  replace y0 := y0.up good_Base ux1
  replace y1 := y1.up good_Base ux1
  clear ux1
  obtain rfl : be1 = true := by simpa using hbe1
  clear hbe1 ye1
  go_wp2_with fail
  refine hK.out _ _ ⟨kb, kx1⟩ (fun hH => ?_)
  clear hK K
  try simp only [Act.put, List.setIfInBounds_toArray, List.set_cons_zero, List.set_cons_succ]
  refine wpAnyH_ready (rs := [4]) (by kernel_rfl) (by simp) ?_
  refine AllReadyH.cons rfl (fun K hK => ?_) AllReadyH.nil
  go_simp
  refine hK.out _ _ ⟨kb, kx1⟩ (fun hH => ?_)
  clear hK K
  try simp only [Act.put, List.setIfInBounds_toArray, List.set_cons_zero, List.set_cons_succ]
  refine wpAnyH_done (by kernel_rfl) ?_ _
  go_wp2_with fail
  go_ret
  exact ⟨rfl, uu⟩
end Go.Proofs.Ytidfeipilleafaa
