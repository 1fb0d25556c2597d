/-
  The walk of FnExactCountOf: for every input it returns true.
-/
import Derived.Test.YtlifhbfomgbiaaaGreatDoorMCt
import Derived.Test.YtlifhbfomgbiaaaGreatDoorMLb
import Derived.Test.YtlifhbfomgbiaaaGreatDoorMJ
import Derived.Test.YtlifhbfomgbiaaaGreatDoorMLe
import Derived.Test.YtlifhbfomgbiaaaGreatDoorMK
import Derived.Deep.RegionHeld3
namespace Go.Proofs.YtlifhbfomgbiaaaGreatDoor
open Go.RowKit
set_option linter.unusedVariables false
set_option linter.unusedSimpArgs false

theorem putL_all1 : ∀ (l cs : List Value), l.length = cs.length → putL l 0 cs = cs
  | [], [], _ => rfl
  | [], _ :: _, h => by simp at h
  | _ :: _, [], h => by simp at h
  | x :: l, c :: cs, h => by rw [putL, putL_all1 l cs (by simpa using h)]
set_option maxRecDepth 100000 in
set_option maxHeartbeats 8000000 in
theorem w0_FnExactCountOf (w : World) (v0 : Value) (x0 : TBase) (h0 : AV shBase w v0 x0) (htab : Tab w) (hmx : MaxL w) :
    Calls Tryz.prog 10 #[v0] w fun e w' => e = .returned (.bool true) ∧ Up w w' := by
  have hv0 := h0
  obtain ⟨cs0, rfl, h0⟩ := h0
  have l0 : cs0.length = 24 := by obtain ⟨_, _, _, _, _, _, _, _, _, _, _, _, _, _, _, _, _, _, rfl, _⟩ := openBase h0; rfl
  clear h0
  have ka : Bk (w.alloc (.cells cs0.toArray 76)) w.heap.size 76 cs0.toArray := Bk.new _ _ _
  have uu : Up w (w.alloc (.cells cs0.toArray 76)) := (Up.refl w).alloc _
  have i0 : (Tryz.prog.info? 76).map (·.size) = some cs0.length := by rw [l0]; kernel_rfl
  go_enter Tryz.func10, Tryz.ntmps10
  go_wp2_with (refine wpList_load_bk cs0 ka rfl Tryz.underlying76 rfl i0 (by simp) ?_)
  refine (c_szBase _ x0 _ _ (hv0.up good_Base uu) (by omega) (by omega)).mono ?_
  rintro e w1 ⟨rfl, u⟩
  replace uu := uu.trans u
  replace ka := ka.up u
  clear u
  by_cases q0 : ¬ ((shBase.sz x0 : Nat) : Int) ≤ 1048576
  · rw [szR_no (by omega)]
    go_wp2_with fail
    go_ret
    exact ⟨rfl, uu⟩
  replace q0 := Decidable.of_not_not q0
  rw [szR_yes q0]
  have hn0 : shBase.sz x0 ≤ 1048576 := by omega
  go_wp2_with (refine wpList_load_bk cs0 ka rfl Tryz.underlying76 rfl i0 (by simp) ?_)
  refine (c_toBase _ x0 _ (hv0.up good_Base uu) hn0).mono ?_
  rintro e wp0 ⟨csp0, blp0, rfl, op0, ndp0, up0⟩
  replace uu := uu.trans up0
  replace ka := ka.up up0
  have yp0 := AV.of_own good_Base op0
  clear op0 up0 ndp0
  have CS := Lib.hid (cs_CountOf _ x0 _ yp0 hn0)
  have CI := Lib.hid (fun v W h (u : Up w W) => ci_CountOf v x0 W h hn0 (tab_up htab u) (maxL_up hmx u))
  obtain ⟨r0, r1, hr⟩ : ∃ r0 r1 : Int, (countV x0) = .tuple #[.int .i64 r0, .int .i64 r1] := by unfold countV; split <;> exact ⟨_, _, rfl⟩
  rw [hr] at CS
  simp only [hr] at CI
  clear hr
  go_wp2_with fail
  refine CS.out.mono ?_
  rintro e w3 ⟨rfl, u⟩
  replace uu := uu.trans u
  replace ka := ka.up u
  clear u CS yp0
  go_wp2_with (refine wpList_load_bk cs0 ka rfl Tryz.underlying76 rfl i0 (by simp) ?_)
  refine (c_toBase _ x0 _ (hv0.up good_Base uu) hn0).mono ?_
  rintro e w4 ⟨csx0, blx0, rfl, ox0, ndx0, u⟩
  replace uu := uu.trans u
  replace ka := ka.up u
  clear u
  have y0 := AV.of_own good_Base ox0
  have lx0 : csx0.length = 24 := by obtain ⟨_, _, _, _, _, _, _, _, _, _, _, _, _, _, _, _, _, _, _, _, _, _, _, _, _, _, _, rfl, _, _⟩ := openOBase ox0; rfl
  have ax0 : csx0.all (·.oneCell') = true := by obtain ⟨_, _, _, _, _, _, _, _, _, _, _, _, _, _, _, _, _, _, _, _, _, _, _, _, _, _, _, rfl, _, _⟩ := openOBase ox0; rfl
  have ix0 : (Tryz.prog.info? 43).map (·.size) = some csx0.length := by rw [lx0]; kernel_rfl
  clear ox0 ndx0
  go_wp2_with (first | (refine wpList_store_bk csx0 (Bk.new _ _ _) rfl rfl ix0 ax0 (by rw [lx0]; exact Nat.le_of_ble_eq_true rfl) ?_; intro W0 bt kx0; rw [putL_all1 _ csx0 (by rw [lx0]; rfl)] at kx0; have u : Up w4 W0 := ((Up.refl w4).alloc _).but bt (Nat.le_refl _); clear bt; replace uu := uu.trans u; replace ka := ka.up u; replace y0 := y0.up good_Base u; clear u) | (refine wpList_load_bk csx0 kx0 rfl Tryz.underlying43 rfl ix0 (by simp) ?_))
  refine (CI.out _ _ y0 uu).mono ?_
  rintro e w6 ⟨rfl, u⟩
  replace uu := uu.trans u
  replace ka := ka.up u
  replace kx0 := kx0.up u
  replace y0 := y0.up good_Base u
  clear u CI
  go_wp2_with fail
  replace uu := uu.drew
  replace ka := ka.drew
  replace kx0 := kx0.drew
  replace y0 := y0.up good_Base (Up.refl _).drew
  refine wp_region_held_drew (S := fun W => Bk W (w.heap.size) 76 cs0.toArray ∧ Bk W w4.heap.size 43 csx0.toArray) (by kernel_rfl) ⟨ka, kx0⟩ (fun hH => ?_)
  refine wpAnyH_take (i := 0) (v := .agg csx0.toArray) rfl (by kernel_rfl) (by kernel_rfl) (by kernel_rfl) (fun _ _ _ h => h) (yieldsIf_load_mid (by rfl) _ _ rfl _ _ rfl csx0 _ (fun W hW => Bk.range hW.2 0 csx0 (by simp)) Tryz.underlying43 rfl ix0) hH ?_
  try simp only [Act.put, List.setIfInBounds_toArray, List.set_cons_zero, List.set_cons_succ]
  refine wpAnyH_take (i := 1) (v := .agg cs0.toArray) rfl (by kernel_rfl) (by kernel_rfl) (by kernel_rfl) (fun _ _ _ h => h) (yieldsIf_load_mid (by rfl) _ _ rfl _ _ rfl cs0 _ (fun W hW => Bk.range hW.1 0 cs0 (by simp)) Tryz.underlying76 rfl i0) hH ?_
  try simp only [Act.put, List.setIfInBounds_toArray, List.set_cons_zero, List.set_cons_succ]
  refine wpAnyH_ready (rs := [2]) (by kernel_rfl) (by simp) ?_
  refine AllReadyH.cons rfl (fun K hK => ?_) AllReadyH.nil
  go_simp
  refine (c_toBase _ x0 _ (hv0.up good_Base uu) hn0).mono ?_
  rintro e we0 ⟨cse0, ble0, rfl, oe0, nde0, ue0⟩
  replace uu := uu.trans ue0
  replace ka := ka.up ue0
  replace kx0 := kx0.up ue0
  have ye0 := AV.of_own good_Base oe0
  replace y0 := y0.up good_Base ue0
  clear oe0 ue0 nde0
  go_wp2_with fail
  refine hK.out _ _ ⟨ka, kx0⟩ (fun hH => ?_)
  clear hK K
  try simp only [Act.put, List.setIfInBounds_toArray, List.set_cons_zero, List.set_cons_succ]
  refine wpAnyH_ready (rs := [3]) (by kernel_rfl) (by simp) ?_
  refine AllReadyH.cons rfl (fun K hK => ?_) AllReadyH.nil
  go_simp
  refine (c_eqBase _ _ x0 x0 _ y0 ye0).mono ?_
  rintro e w7 ⟨be0, rfl, hbe0, ux0⟩
  replace uu := uu.trans ux0
  replace ka := ka.up ux0
  replace kx0 := kx0.up ux0
  clear ux0
  obtain rfl : be0 = true := by simpa using hbe0
  clear hbe0 ye0 y0
  go_wp2_with fail
  refine hK.out _ _ ⟨ka, kx0⟩ (fun hH => ?_)
  clear hK K
  try simp only [Act.put, List.setIfInBounds_toArray, List.set_cons_zero, List.set_cons_succ]
  refine wpAnyH_ready (rs := [4]) (by kernel_rfl) (by simp) ?_
  refine AllReadyH.cons rfl (fun K hK => ?_) AllReadyH.nil
  go_simp
  refine hK.out _ _ ⟨ka, kx0⟩ (fun hH => ?_)
  clear hK K
  try simp only [Act.put, List.setIfInBounds_toArray, List.set_cons_zero, List.set_cons_succ]
  refine wpAnyH_done (by kernel_rfl) ?_ _
  go_wp2_with fail
  go_ret
  exact ⟨rfl, uu⟩
end Go.Proofs.YtlifhbfomgbiaaaGreatDoor
