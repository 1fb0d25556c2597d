/-
  CountOf: the program's and the reference's.
-/
import Derived.Test.YtlifhbfomgbiaaaGreatDoorMBo
import Derived.Test.YtlifhbfomgbiaaaGreatDoorMK
namespace Go.Proofs.YtlifhbfomgbiaaaGreatDoor
open Go.RowKit
set_option linter.unusedVariables false
set_option linter.unusedSimpArgs false

def countV (x : TBase) : Value := if baseB x = true then .tuple #[.int .i64 x.2.2.1.2.2.2.1, .int .i64 x.2.2.2.1] else .tuple #[.int .i64 0, .int .i64 0]
set_option maxRecDepth 100000 in
set_option maxHeartbeats 8000000 in
theorem ci_CountOf (v : Value) (x : TBase) (w : World) (h : AV shBase w v x) (hn : shBase.sz x ≤ 1048576) (htab : Tab w) (hm : MaxL w) : Calls Tryz.prog 38 #[v] w (RetV (countV x) w) := by
  have hv := h
  obtain ⟨cs, rfl, h⟩ := h
  have hq : cs.length = 24 ∧ cs.toArray[20]? = some (.int .i64 x.2.2.1.2.2.2.1) ∧ cs.toArray[22]? = some (.int .i64 x.2.2.2.1) := by obtain ⟨_, _, _, _, _, _, _, _, _, _, _, _, _, _, _, _, _, _, rfl, _⟩ := openBase h; exact ⟨rfl, rfl, rfl⟩
  obtain ⟨l0, l20, l22⟩ := hq
  clear h
  have ka : Bk (w.alloc (.cells cs.toArray 43)) w.heap.size 43 cs.toArray := Bk.new _ _ _
  have uu : Up w (w.alloc (.cells cs.toArray 43)) := (Up.refl w).alloc _
  have i0 : (Tryz.prog.info? 43).map (·.size) = some cs.length := by rw [l0]; kernel_rfl
  have HC := Lib.hid (ci_BaseOk _ x _ (hv.up good_Base uu) hn (tab_up htab uu) (maxL_up hm uu))
  have HV : Hid (countV x = if baseB x = true then .tuple #[.int .i64 x.2.2.1.2.2.2.1, .int .i64 x.2.2.2.1] else .tuple #[.int .i64 0, .int .i64 0]) := Lib.hid rfl
  generalize countV x = V at HV ⊢
  generalize x.2.2.1.2.2.2.1 = n20 at HV l20
  generalize x.2.2.2.1 = n22 at HV l22
  go_enter Tryz.func38, Tryz.ntmps38
  go_wp2_with (refine wpList_load_bk cs ka rfl Tryz.underlying43 rfl i0 (by simp) ?_)
  refine HC.out.mono ?_
  rintro e w1 ⟨rfl, u⟩
  replace uu := uu.trans u
  replace ka := ka.up u
  cases hb : baseB x
  · have HE := Lib.hid (show V = .tuple #[.int .i64 0, .int .i64 0] by rw [HV.out, hb]; rfl)
    clear HV hb
    go_wp2_with fail
    refine bodyPost_ret (v := .tuple #[.int .i64 0, .int .i64 0]) (by simp [results, Tryz.results38, go_sem]) rfl ?_
    exact ⟨by rw [HE.out], uu⟩
  · have HE := Lib.hid (show V = .tuple #[.int .i64 n20, .int .i64 n22] by rw [HV.out, hb]; rfl)
    have g20 : w1.cell? ⟨w.heap.size, 20, none⟩ = some (.int .i64 n20) := (ka.cell 20).trans l20
    have g22 : w1.cell? ⟨w.heap.size, 22, none⟩ = some (.int .i64 n22) := (ka.cell 22).trans l22
    clear HV hb l20 l22 HC
    go_wp2_with fail
    go_quiet (fail)
    go_wp2_with fail
    refine bodyPost_ret (v := .tuple #[.int .i64 n20, .int .i64 n22]) (by simp [results, Tryz.results38, go_sem]) rfl ?_
    exact ⟨by rw [HE.out], uu.drewN nq⟩
set_option maxRecDepth 100000 in
set_option maxHeartbeats 8000000 in
theorem cs_CountOf (v : Value) (x : TBase) (w : World) (h : AV shBase w v x) (hn : shBase.sz x ≤ 1048576) : Calls Tryz.prog 37 #[v] w (RetV (countV x) w) := by
  have hv := h
  obtain ⟨cs, rfl, h⟩ := h
  have hq : cs.length = 24 ∧ cs.toArray[20]? = some (.int .i64 x.2.2.1.2.2.2.1) ∧ cs.toArray[22]? = some (.int .i64 x.2.2.2.1) := by obtain ⟨_, _, _, _, _, _, _, _, _, _, _, _, _, _, _, _, _, _, rfl, _⟩ := openBase h; exact ⟨rfl, rfl, rfl⟩
  obtain ⟨l0, l20, l22⟩ := hq
  clear h
  have ka : Bk (w.alloc (.cells cs.toArray 43)) w.heap.size 43 cs.toArray := Bk.new _ _ _
  have uu : Up w (w.alloc (.cells cs.toArray 43)) := (Up.refl w).alloc _
  have i0 : (Tryz.prog.info? 43).map (·.size) = some cs.length := by rw [l0]; kernel_rfl
  have HC := Lib.hid (cs_BaseOk _ x _ (hv.up good_Base uu) hn)
  have HV : Hid (countV x = if baseB x = true then .tuple #[.int .i64 x.2.2.1.2.2.2.1, .int .i64 x.2.2.2.1] else .tuple #[.int .i64 0, .int .i64 0]) := Lib.hid rfl
  generalize countV x = V at HV ⊢
  generalize x.2.2.1.2.2.2.1 = n20 at HV l20
  generalize x.2.2.2.1 = n22 at HV l22
  go_enter Tryz.func37, Tryz.ntmps37
  go_wp2_with (refine wpList_load_bk cs ka rfl Tryz.underlying43 rfl i0 (by simp) ?_)
  refine HC.out.mono ?_
  rintro e w1 ⟨rfl, u⟩
  replace uu := uu.trans u
  replace ka := ka.up u
  cases hb : baseB x
  · have HE := Lib.hid (show V = .tuple #[.int .i64 0, .int .i64 0] by rw [HV.out, hb]; rfl)
    clear HV hb
    go_wp2_with fail
    refine bodyPost_ret (v := .tuple #[.int .i64 0, .int .i64 0]) (by simp [results, Tryz.results37, go_sem]) rfl ?_
    exact ⟨by rw [HE.out], uu⟩
  · have HE := Lib.hid (show V = .tuple #[.int .i64 n20, .int .i64 n22] by rw [HV.out, hb]; rfl)
    have g20 : w1.cell? ⟨w.heap.size, 20, none⟩ = some (.int .i64 n20) := (ka.cell 20).trans l20
    have g22 : w1.cell? ⟨w.heap.size, 22, none⟩ = some (.int .i64 n22) := (ka.cell 22).trans l22
    clear HV hb l20 l22 HC
    go_wp2_with fail
    go_quiet (fail)
    go_wp2_with fail
    refine bodyPost_ret (v := .tuple #[.int .i64 n20, .int .i64 n22]) (by simp [results, Tryz.results37, go_sem]) rfl ?_
    exact ⟨by rw [HE.out], uu.drewN nq⟩
end Go.Proofs.YtlifhbfomgbiaaaGreatDoor
