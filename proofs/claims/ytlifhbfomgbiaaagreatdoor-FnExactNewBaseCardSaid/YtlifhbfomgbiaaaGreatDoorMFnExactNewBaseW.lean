/-
  The walk of FnExactNewBase: for every input it returns true.
-/
import Derived.Test.YtlifhbfomgbiaaaGreatDoorMNz
import Derived.Test.YtlifhbfomgbiaaaGreatDoorMJ
import Derived.Test.YtlifhbfomgbiaaaGreatDoorMLe
import Derived.Deep.RegionHeld3
namespace Go.Proofs.YtlifhbfomgbiaaaGreatDoor
open Go.RowKit
set_option linter.unusedVariables false
set_option linter.unusedSimpArgs false

theorem cs_NewBase (a : Int) (w : World) (ha : I64 a) : Calls Tryz.prog 16 #[.int .i64 a] w (RpR shBase (nBase a) (nCode a) w) := (cs0_NewBase a w ha).mono fun _ _ h => h.rp good_Base
theorem cnt_NC (a : Int) : mmTCache.cnt (nCache a) ≤ 1000000 := by
  have e : ∀ y : TCache, mmTCache.cnt y = mmTDisk.cnt y.1 + ((0 + (0 + (0 + (y.2.1.2.2.2.map (fun _ => 2)).sum))) + ((0 + (0 + (0 + (y.2.2.1.2.2.2.map (fun _ => 2)).sum))) + ((y.2.2.2.1.map (fun _ => 2)).sum + (y.2.2.2.2.map (fun _ => 1)).sum))) := fun _ => rfl
  rw [e, cntDisk_eq]
  unfold nCache
  split
  · rename_i h
    have hb := inB_t.1 h
    have hl : (nSect a.toNat).length ≤ 402 := by unfold nSect; rw [List.length_set, List.length_set, List.length_replicate]; omega
    generalize nSect a.toNat = l at hl
    simp [nTop]
    omega
  · decide
theorem cnt_NJ : mmTJournal.cnt (newJournal 400) ≤ 1000000 := by decide +kernel
theorem cbg_NewBase (a : Int) : (1 : Int) + (mmTBase.cnt (nBase a) : Nat) ≤ 1000000000 := by
  have e : ∀ y : TBase, mmTBase.cnt y = mmTBtree.cnt y.1 + (mmTCache.cnt y.2.1 + (mmTJournal.cnt y.2.2.1 + (0 + 0))) := fun _ => rfl
  rw [e]
  unfold nBase
  split
  · dsimp only
    have h1 := cnt_NC a
    have h2 := cnt_NJ
    have h3 : mmTBtree.cnt newBtree ≤ 1000 := by decide
    omega
  · decide
set_option maxRecDepth 100000 in
set_option maxHeartbeats 16000000 in
theorem w0_FnExactNewBase (w : World) (n0 : Int) (h0 : I64 n0) (htab : Tab w) (hmx : MaxL w) :
    Calls Tryz.prog 4 #[.int .i64 n0] w fun e w' => e = .returned (.bool true) ∧ Up w w' := by
  have CS := Lib.hid (cs_NewBase n0 w h0)
  have CI := Lib.hid (fun W (u : Up w W) => ci_NewBase n0 W h0 (tab_up htab u) (maxL_up hmx u))
  have cbg := cbg_NewBase n0
  generalize nBase n0 = X at CS CI cbg
  generalize nCode n0 = n at CS CI
  go_enter Tryz.func4, Tryz.ntmps4
  go_wp2_with fail
  refine CS.out.mono ?_
  rintro e w1 ⟨css, rfl, rs, u1⟩
  have ls : css.length = 24 := good_Base.len rs
  have ones := good_Base.one rs
  go_wp2_with (first | (refine wpList_store_bk css (Bk.new _ _ _) rfl rfl (by rw [ls]; kernel_rfl) (by rw [List.all_eq_true]; exact ones) (by rw [ls]; exact Nat.le_of_ble_eq_true rfl) ?_; intro WS btS kS; rw [putL_allN _ css (by rw [ls]; rfl)] at kS; have uS : Up w1 WS := ((Up.refl w1).alloc _).but btS (Nat.le_refl _); replace btS := btS.size))
  have zS : WS.heap.size = w1.heap.size + 1 := by rw [btS]; simp
  have rS := good_Base.keep rs (uS.keeps (Nat.le_refl _))
  have uuS := u1.trans uS
  refine (CI.out WS uuS).mono ?_
  rintro e w2 ⟨csi, bli, rfl, oi, ndi, u2⟩
  have li : csi.length = 24 := good_Base.len (good_Base.own_rep oi)
  have onei := good_Base.one (good_Base.own_rep oi)
  have hinI := good_Base.own_in oi
  have kS2 := kS.up u2
  have z2 := u2.size
  have is : (Tryz.prog.info? 43).map (·.size) = some css.length := by rw [ls]; kernel_rfl
  have ii : (Tryz.prog.info? 43).map (·.size) = some csi.length := by rw [li]; kernel_rfl
  go_upto_region 3 with (first | (refine wpList_store_bk csi (Bk.new _ _ _) rfl rfl ii (by rw [List.all_eq_true]; exact onei) (by rw [li]; exact Nat.le_of_ble_eq_true rfl) ?_; intro WI btI kI; rw [putL_allN _ csi (by rw [li]; rfl)] at kI; have uI : Up w2 WI := ((Up.refl w2).alloc _).but btI (Nat.le_refl _); replace btI := btI.size))
  have zI : WI.heap.size = w2.heap.size + 1 := by rw [btI]; simp
  have kS3 := kS2.up uI
  have rS3 := good_Base.keep rS ((u2.trans uI).keeps (by omega))
  have oI3 := good_Base.own_keep oi (fun y hy => uI.block y (hinI y hy).2)
  have uu3 := (uuS.trans u2).trans uI
  go_wp2_with (first | (refine wpList_load_bk csi kI rfl Tryz.underlying43 rfl ii (by simp) ?_) | (refine wpList_load_bk css kS3 rfl Tryz.underlying43 rfl is (by simp) ?_))
  refine (c_eqBase _ _ X X WI ⟨_, rfl, good_Base.wide (good_Base.own_rep oI3) (Nat.zero_le _) (by omega)⟩ ⟨_, rfl, good_Base.wide rS3 (Nat.le_refl _) (by omega)⟩).mono ?_
  rintro e w3 ⟨be, rfl, hbe, u3⟩
  obtain rfl : be = true := by simpa using hbe
  clear hbe
  have kI4 := kI.up u3
  have kS4 := kS3.up u3
  have oI4 := good_Base.own_keep oI3 (fun y hy => u3.block y (by have := (hinI y hy).2; omega))
  have rS4 := good_Base.keep rS3 (u3.keeps (by omega))
  have uu4 := uu3.trans u3
  have z3 := u3.size
  go_wp2_with (refine wpList_load_bk csi kI4 rfl Tryz.underlying43 rfl ii (by simp) ?_)
  refine (c_markBase csi X 1 WS.heap.size w2.heap.size bli w3 oI4 (by omega) ndi (by omega) cbg).mono ?_
  rintro e w4 ⟨rfl, om, on4⟩
  have z4 := on4.size
  have kI5 := kI4.only on4 (fun hm => by have := (hinI _ hm).2; omega)
  have kS5 := kS4.only on4 (fun hm => by have := (hinI _ hm).1; omega)
  have rS5 := good_Base.keep rS4 (fun y _ hy => on4.block y (by omega) (fun hm => by have := (hinI _ hm).1; omega))
  have uu5 := uu4.only on4 (fun y hy => by have := (hinI _ hy).1; have := uuS.size; omega)
  have hia := gmT_Base.idem X 1
  have hsa := gmT_Base.same X 1
  have hcba : (1 : Int) + (mmTBase.cnt (mmTBase.mark X 1) : Nat) ≤ 1000000000 := by rw [hsa]; exact cbg
  obtain ⟨M, hM⟩ : ∃ M : Int, M = 1 + (mmTBase.cnt X : Nat) := ⟨_, rfl⟩
  have hM0 : ¬ M < 0 := by omega
  have CH : Hid (∀ W, AV shBase W (.agg csi.toArray) (mmTBase.mark X 1) → Calls Tryz.prog 20 #[.agg csi.toArray, .int .i64 1] W (HeldP M W)) := Lib.hid (fun W h => by
    have := c_heldBase (.agg csi.toArray) (mmTBase.mark X 1) 1 W h hia (by omega) hcba
    rw [hsa, ← hM] at this
    exact this)
  rw [← hM]
  have HMN := Lib.hid hM
  clear hM hia hsa hcba cbg oI4 oI3 oi
  have hinM := good_Base.own_in om
  go_wp2_with (refine wpList_load_bk csi kI5 rfl Tryz.underlying43 rfl ii (by simp) ?_)
  refine (CH.out w4 ⟨_, rfl, good_Base.wide (good_Base.own_rep om) (Nat.zero_le _) (by omega)⟩).mono ?_
  rintro e w5 ⟨rfl, u5⟩
  have z5 := u5.size
  have kI6 := kI5.up u5
  have kS6 := kS5.up u5
  have rS6 := good_Base.keep rS5 (u5.keeps (by omega))
  have om6 := good_Base.own_keep om (fun y hy => u5.block y (by have := (hinM y hy).2; omega))
  have uu6 := uu5.trans u5
  clear om rS5 kI5 kS5
  go_wp2_with fail
  refine (CI.out w5 uu6).mono ?_
  rintro e w6 ⟨csh, blh, rfl, oh, ndh, u6⟩
  have lh : csh.length = 24 := good_Base.len (good_Base.own_rep oh)
  have oneh := good_Base.one (good_Base.own_rep oh)
  have hinH := good_Base.own_in oh
  have z6 := u6.size
  have ih : (Tryz.prog.info? 43).map (·.size) = some csh.length := by rw [lh]; kernel_rfl
  go_upto_region 14 with (first | (refine wpList_store_bk csh (Bk.new _ _ _) rfl rfl ih (by rw [List.all_eq_true]; exact oneh) (by rw [lh]; exact Nat.le_of_ble_eq_true rfl) ?_; intro WH btH kH; rw [putL_allN _ csh (by rw [lh]; rfl)] at kH; have uH : Up w6 WH := ((Up.refl w6).alloc _).but btH (Nat.le_refl _); replace btH := btH.size))
  have zH : WH.heap.size = w6.heap.size + 1 := by rw [btH]; simp
  have uB := u6.trans uH
  have kI7 := kI6.up uB
  have kS7 := kS6.up uB
  have rS7 := good_Base.keep rS6 (uB.keeps (by omega))
  have om7 := good_Base.own_keep om6 (fun y hy => uB.block y (by have := (hinM y hy).2; omega))
  have oH7 := good_Base.own_keep oh (fun y hy => uH.block y (hinH y hy).2)
  have uu7 := uu6.trans uB
  go_wp2_with (first | (refine wpList_load_bk csh kH rfl Tryz.underlying43 rfl ih (by simp) ?_) | (refine wpList_load_bk css kS7 rfl Tryz.underlying43 rfl is (by simp) ?_))
  refine (c_eqBase _ _ X X WH ⟨_, rfl, good_Base.wide (good_Base.own_rep oH7) (Nat.zero_le _) (by omega)⟩ ⟨_, rfl, good_Base.wide rS7 (Nat.le_refl _) (by omega)⟩).mono ?_
  rintro e w8 ⟨be2, rfl, hbe2, u8⟩
  obtain rfl : be2 = true := by simpa using hbe2
  clear hbe2
  have z8 := u8.size
  have kI8 := kI7.up u8
  have om8 := good_Base.own_keep om7 (fun y hy => u8.block y (by have := (hinM y hy).2; omega))
  have uu8 := uu7.trans u8
  go_wp2_with (refine wpList_load_bk csi kI8 rfl Tryz.underlying43 rfl ii (by simp) ?_)
  refine (CH.out w8 ⟨_, rfl, good_Base.wide (good_Base.own_rep om8) (Nat.zero_le _) (by omega)⟩).mono ?_
  rintro e w9 ⟨rfl, u9⟩
  go_wp2_with fail
  go_ret
  exact ⟨rfl, uu8.trans u9⟩
end Go.Proofs.YtlifhbfomgbiaaaGreatDoor
