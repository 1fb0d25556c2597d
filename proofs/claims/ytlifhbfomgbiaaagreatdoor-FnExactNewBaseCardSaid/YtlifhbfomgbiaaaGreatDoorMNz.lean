/-
  NewBase: the program's and the reference's.
-/
import Derived.Test.YtlifhbfomgbiaaaGreatDoorMSw
import Derived.Test.YtlifhbfomgbiaaaGreatDoorMNj
import Derived.Test.YtlifhbfomgbiaaaGreatDoorMLk
import Derived.Test.YtlifhbfomgbiaaaGreatDoorMK
import Derived.Deep.RegionHeld3
namespace Go.Proofs.YtlifhbfomgbiaaaGreatDoor
open Go.RowKit
set_option linter.unusedVariables false
set_option linter.unusedSimpArgs false

theorem len_2 {l : List Value} (h : l.length = 2) : ∃ a0 a1, l = [a0, a1] := by
  match l, h with
  | [a0, a1], _ => exact ⟨_, _, rfl⟩
theorem len_7 {l : List Value} (h : l.length = 7) : ∃ a0 a1 a2 a3 a4 a5 a6, l = [a0, a1, a2, a3, a4, a5, a6] := by
  match l, h with
  | [a0, a1, a2, a3, a4, a5, a6], _ => exact ⟨_, _, _, _, _, _, _, rfl⟩
theorem len_13 {l : List Value} (h : l.length = 13) : ∃ a0 a1 a2 a3 a4 a5 a6 a7 a8 a9 a10 a11 a12, l = [a0, a1, a2, a3, a4, a5, a6, a7, a8, a9, a10, a11, a12] := by
  match l, h with
  | [a0, a1, a2, a3, a4, a5, a6, a7, a8, a9, a10, a11, a12], _ => exact ⟨_, _, _, _, _, _, _, _, _, _, _, _, _, rfl⟩
theorem putL_allN : ∀ (l cs : List Value), l.length = cs.length → putL l 0 cs = cs
  | [], [], _ => rfl
  | [], _ :: _, h => by simp at h
  | _ :: _, [], h => by simp at h
  | x :: l, c :: cs, h => by rw [putL, putL_allN l cs (by simpa using h)]
def zeroBase : TBase := ((0, []), ((0, [], []), (0, 0, 0, []), (0, 0, 0, []), [], []), ((0, [], []), 0, 0, 0, 0), 0, 0)
def nBase (a : Int) : TBase := if nCode a = 0 then (newBtree, nCache a, newJournal 400, 0, 0) else zeroBase
theorem own_zeroBase (W : World) (lo hi : Nat) : shBase.own W lo hi [.int .i64 0, .slice none 0 0, .int .i64 0, .slice none 0 0, .slice none 0 0, .int .i64 0, .int .i64 0, .int .i64 0, .slice none 0 0, .int .i64 0, .int .i64 0, .int .i64 0, .slice none 0 0, .slice none 0 0, .slice none 0 0, .int .i64 0, .slice none 0 0, .slice none 0 0, .int .i64 0, .int .i64 0, .int .i64 0, .int .i64 0, .int .i64 0, .int .i64 0] zeroBase [] := by
  have h := mkOBase (w := W) (lo := lo) (hi := hi) (x := zeroBase) (A1 := none) (c1 := 0) (bl1 := []) (A3 := none) (c3 := 0) (bl3 := []) (A4 := none) (c4 := 0) (bl4 := []) (A8 := none) (c8 := 0) (bl8 := []) (A12 := none) (c12 := 0) (bl12 := []) (A13 := none) (c13 := 0) (bl13 := []) (A14 := none) (c14 := 0) (bl14 := []) (A16 := none) (c16 := 0) (bl16 := []) (A17 := none) (c17 := 0) (bl17 := []) ⟨by decide, by decide⟩ (SO.nil _ _ _) ⟨by decide, by decide⟩ (SO.nil _ _ _) (SO.nil _ _ _) ⟨by decide, by decide⟩ ⟨by decide, by decide⟩ ⟨by decide, by decide⟩ (SO.nil _ _ _) ⟨by decide, by decide⟩ ⟨by decide, by decide⟩ ⟨by decide, by decide⟩ (SO.nil _ _ _) (SO.nil _ _ _) (SO.nil _ _ _) ⟨by decide, by decide⟩ (SO.nil _ _ _) (SO.nil _ _ _) ⟨by decide, by decide⟩ ⟨by decide, by decide⟩ ⟨by decide, by decide⟩ ⟨by decide, by decide⟩ ⟨by decide, by decide⟩ ⟨by decide, by decide⟩
  simpa [zeroBase] using h
theorem nCode_two {a : Int} (h : ¬ nCode a = 0) : nCode a = 2 := by unfold nCode at h ⊢; split <;> simp_all
set_option maxRecDepth 100000 in
set_option maxHeartbeats 16000000 in
theorem ci_NewBase (a : Int) (w : World) (ha : I64 a) (htab : Tab w) (hm : MaxL w) : Calls Tryz.prog 17 #[.int .i64 a] w (ToR shBase (nBase a) (nCode a) w) := by
  have u0 : Up w (w.alloc (.cells #[.int .i64 0, .slice none 0 0, .int .i64 0, .slice none 0 0, .slice none 0 0, .int .i64 0, .int .i64 0, .int .i64 0, .slice none 0 0, .int .i64 0, .int .i64 0, .int .i64 0, .slice none 0 0, .slice none 0 0, .slice none 0 0, .int .i64 0, .slice none 0 0, .slice none 0 0, .int .i64 0, .int .i64 0, .int .i64 0, .int .i64 0, .int .i64 0, .int .i64 0] 43)) := (Up.refl _).alloc _
  have kB := Bk.new w 43 #[.int .i64 0, .slice none 0 0, .int .i64 0, .slice none 0 0, .slice none 0 0, .int .i64 0, .int .i64 0, .int .i64 0, .slice none 0 0, .int .i64 0, .int .i64 0, .int .i64 0, .slice none 0 0, .slice none 0 0, .slice none 0 0, .int .i64 0, .slice none 0 0, .slice none 0 0, .int .i64 0, .int .i64 0, .int .i64 0, .int .i64 0, .int .i64 0, .int .i64 0]
  have zz : (w.alloc (.cells #[.int .i64 0, .slice none 0 0, .int .i64 0, .slice none 0 0, .slice none 0 0, .int .i64 0, .int .i64 0, .int .i64 0, .slice none 0 0, .int .i64 0, .int .i64 0, .int .i64 0, .slice none 0 0, .slice none 0 0, .slice none 0 0, .int .i64 0, .slice none 0 0, .slice none 0 0, .int .i64 0, .int .i64 0, .int .i64 0, .int .i64 0, .int .i64 0, .int .i64 0] 43)).heap.size = w.heap.size + 1 := by simp
  have CN := Lib.hid (fun W (u : Up w W) => ci_NewCache a W ha (tab_up htab u) (maxL_up hm u))
  have HZ := Lib.hid (fun (h : ¬ nCode a = 0) => show nBase a = zeroBase by unfold nBase; rw [if_neg h])
  have HY := Lib.hid (fun (h : nCode a = 0) => show nBase a = (newBtree, nCache a, newJournal 400, 0, 0) by unfold nBase; rw [if_pos h])
  have H2 := Lib.hid (fun (h : ¬ nCode a = 0) => nCode_two h)
  generalize nBase a = R at HZ HY ⊢
  generalize nCode a = n at CN HZ HY H2 ⊢
  generalize nCache a = XC at CN HY
  go_enter Tryz.func17, Tryz.ntmps17
  go_wp2_with fail
  generalize (w.alloc (.cells #[.int .i64 0, .slice none 0 0, .int .i64 0, .slice none 0 0, .slice none 0 0, .int .i64 0, .int .i64 0, .int .i64 0, .slice none 0 0, .int .i64 0, .int .i64 0, .int .i64 0, .slice none 0 0, .slice none 0 0, .slice none 0 0, .int .i64 0, .slice none 0 0, .slice none 0 0, .int .i64 0, .int .i64 0, .int .i64 0, .int .i64 0, .int .i64 0, .int .i64 0] 43)) = W0 at u0 kB zz ⊢
  refine (CN.out _ u0).mono ?_
  rintro e w1 ⟨csc, blc, rfl, oc, ndc, u1⟩
  have lc : csc.length = 13 := good_Cache.len (good_Cache.own_rep oc)
  have oneC := good_Cache.one (good_Cache.own_rep oc)
  have kB1 := kB.up u1
  have U1 := u0.trans u1
  have hinC := good_Cache.own_in oc
  go_upto_region 2 with (first | (refine wpList_store_bk csc (Bk.new _ _ _) rfl rfl (by rw [lc]; kernel_rfl) (by rw [List.all_eq_true]; exact oneC) (by rw [lc]; exact Nat.le_of_ble_eq_true rfl) ?_; intro WC bt kC; rw [putL_allN _ csc (by rw [lc]; rfl)] at kC; have uC : Up w1 WC := ((Up.refl w1).alloc _).but bt (Nat.le_refl _); replace bt := bt.size))
  have zC : WC.heap.size = w1.heap.size + 1 := by rw [bt]; simp
  have ocC := own_up good_Cache oc uC
  have kBC := kB1.up uC
  have UC := U1.trans uC
  have z1 := u1.size
  clear oc kB1 kB u1
  by_cases hn : n = 0
  · subst hn
    have HE := Lib.hid (HY.out rfl)
    clear HZ HY H2
    have CJ := Lib.hid (ci_NewJournal 400 WC ⟨by decide, by decide⟩)
    generalize newJournal 400 = XJ at CJ HE
    generalize newJournalC 400 = nj at CJ
    go_wp2_with fail
    refine CJ.out.mono ?_
    rintro e w2 ⟨csj, blj, rfl, oj, ndj, u2⟩
    have lj : csj.length = 7 := good_Journal.len (good_Journal.own_rep oj)
    have oneJ := good_Journal.one (good_Journal.own_rep oj)
    have kB2 := kBC.up u2
    have kC2 := kC.up u2
    have oc2 := own_up good_Cache ocC u2
    have U2 := UC.trans u2
    have hinJ := good_Journal.own_in oj
    have z2 := u2.size
    go_wp2_with (first | (refine wpList_store_bk csj (Bk.new _ _ _) rfl rfl (by rw [lj]; kernel_rfl) (by rw [List.all_eq_true]; exact oneJ) (by rw [lj]; exact Nat.le_of_ble_eq_true rfl) ?_; intro WJ bt2 kJ; rw [putL_allN _ csj (by rw [lj]; rfl)] at kJ; have uJ : Up w2 WJ := ((Up.refl w2).alloc _).but bt2 (Nat.le_refl _); replace bt2 := bt2.size))
    have zJ : WJ.heap.size = w2.heap.size + 1 := by rw [bt2]; simp
    have kB3 := (kB2.up uJ).drew
    have kC3 := (kC2.up uJ).drew
    have kJ3 := kJ.drew
    have oc3 := own_up good_Cache oc2 (uJ.drew)
    have oj3 := own_up good_Journal oj (uJ.drew)
    have U3 := (U2.trans uJ).drew
    have CT := Lib.hid (ci_NewBtree WJ.drew)
    generalize newBtree = XT at CT HE
    clear ocC oc2 oj kBC kB2 kC2 kC kJ u2 uJ U2 UC U1
    generalize hgC : w1.heap.size = gC at *
    generalize hgJ : w2.heap.size = gJ at *
    obtain ⟨k0, k1, k2, k3, k4, k5, k6, k7, k8, k9, k10, k11, k12, rfl⟩ := len_13 lc
    obtain ⟨j0, j1, j2, j3, j4, j5, j6, rfl⟩ := len_7 lj
    refine wp_region_held_drew (S := fun W => Bk W gC 31 #[k0, k1, k2, k3, k4, k5, k6, k7, k8, k9, k10, k11, k12] ∧ Bk W gJ 41 #[j0, j1, j2, j3, j4, j5, j6]) (by kernel_rfl) ⟨kC3, kJ3⟩ (fun hH => ?_)
    refine wpAnyH_take (i := 1) (v := .agg [k0, k1, k2, k3, k4, k5, k6, k7, k8, k9, k10, k11, k12].toArray) rfl (by kernel_rfl) (by kernel_rfl) (by kernel_rfl) (fun _ _ _ h => h) (yieldsIf_load_mid (by rfl) _ _ rfl _ _ rfl [k0, k1, k2, k3, k4, k5, k6, k7, k8, k9, k10, k11, k12] _ (fun W hW => Bk.range hW.1 0 [k0, k1, k2, k3, k4, k5, k6, k7, k8, k9, k10, k11, k12] rfl) Tryz.underlying31 rfl (by kernel_rfl)) hH ?_
    try simp only [Act.put, List.getElem_toArray, List.getElem_cons_succ, List.getElem_cons_zero, List.setIfInBounds_toArray, List.set_cons_zero, List.set_cons_succ]
    refine wpAnyH_take (i := 2) (v := .agg [j0, j1, j2, j3, j4, j5, j6].toArray) rfl (by kernel_rfl) (by kernel_rfl) (by kernel_rfl) (fun _ _ _ h => h) (yieldsIf_load_mid (by rfl) _ _ rfl _ _ rfl [j0, j1, j2, j3, j4, j5, j6] _ (fun W hW => Bk.range hW.2 0 [j0, j1, j2, j3, j4, j5, j6] rfl) Tryz.underlying41 rfl (by kernel_rfl)) hH ?_
    try simp only [Act.put, List.getElem_toArray, List.getElem_cons_succ, List.getElem_cons_zero, List.setIfInBounds_toArray, List.set_cons_zero, List.set_cons_succ]
    refine wpAnyH_ready (rs := [0]) (by kernel_rfl) (by simp) ?_
    refine AllReadyH.cons rfl (fun K hK => ?_) AllReadyH.nil
    go_simp
    refine CT.out.mono ?_
    rintro e w4 ⟨cst, blt, rfl, ot, ndt, u4⟩
    obtain ⟨t0, t1, rfl⟩ := len_2 (good_Btree.len (good_Btree.own_rep ot))
    have oneT := good_Btree.one (good_Btree.own_rep ot)
    have kB4 := kB3.up u4
    have kC4 := kC3.up u4
    have kJ4 := kJ3.up u4
    have oc4 := own_up good_Cache oc3 u4
    have oj4 := own_up good_Journal oj3 u4
    have U4 := U3.trans u4
    have hinT := good_Btree.own_in ot
    go_wp2_with fail
    refine hK.out _ _ ⟨kC4, kJ4⟩ (fun hH => ?_)
    clear hK K
    try simp only [Act.put, List.getElem_toArray, List.getElem_cons_succ, List.getElem_cons_zero, List.setIfInBounds_toArray, List.set_cons_zero, List.set_cons_succ]
    refine wpAnyH_take (i := 3) (v := .agg #[t0, t1, k0, k1, k2, k3, k4, k5, k6, k7, k8, k9, k10, k11, k12, j0, j1, j2, j3, j4, j5, j6, .int .i64 0, .int .i64 0]) rfl (by kernel_rfl) (by kernel_rfl) (by kernel_rfl) (fun _ _ _ h => h) (Or.inl ⟨by rfl, fun W hW => by go_simp⟩) hH ?_
    try simp only [Act.put, List.getElem_toArray, List.getElem_cons_succ, List.getElem_cons_zero, List.setIfInBounds_toArray, List.set_cons_zero, List.set_cons_succ]
    refine wpAnyH_ready (rs := [4]) (by kernel_rfl) (by simp) ?_
    refine AllReadyH.cons rfl (fun K hK => ?_) AllReadyH.nil
    rw [if_pos (by rfl)]
    refine wp_store_mid _ _ _ rfl w.heap.size 0 #[t0, t1, k0, k1, k2, k3, k4, k5, k6, k7, k8, k9, k10, k11, k12, j0, j1, j2, j3, j4, j5, j6, .int .i64 0, .int .i64 0] rfl rfl (kB4.there 0 _ (Nat.le_of_ble_eq_true rfl)) (by kernel_rfl) ?_ ?_
    · refine all_oneCell_toArray (cs := [t0, t1] ++ [k0, k1, k2, k3, k4, k5, k6, k7, k8, k9, k10, k11, k12] ++ [j0, j1, j2, j3, j4, j5, j6] ++ [.int .i64 0, .int .i64 0]) (fun v hv => ?_)
      simp only [List.mem_append] at hv
      rcases hv with ((h | h) | h) | h
      · exact oneT v h
      · exact oneC v h
      · exact oneJ v h
      · simp at h
        rw [h]
        rfl
    rw [setCells_wld]
    have btE := But.sets (g := w.heap.size) [t0, t1, k0, k1, k2, k3, k4, k5, k6, k7, k8, k9, k10, k11, k12, j0, j1, j2, j3, j4, j5, j6, .int .i64 0, .int .i64 0] w4 0
    have kBE : Bk (setCells w4 w.heap.size 0 [t0, t1, k0, k1, k2, k3, k4, k5, k6, k7, k8, k9, k10, k11, k12, j0, j1, j2, j3, j4, j5, j6, .int .i64 0, .int .i64 0]) w.heap.size 43 #[t0, t1, k0, k1, k2, k3, k4, k5, k6, k7, k8, k9, k10, k11, k12, j0, j1, j2, j3, j4, j5, j6, .int .i64 0, .int .i64 0] := kB4.setsL [t0, t1, k0, k1, k2, k3, k4, k5, k6, k7, k8, k9, k10, k11, k12, j0, j1, j2, j3, j4, j5, j6, .int .i64 0, .int .i64 0] 0
    change K _ (setCells w4 w.heap.size 0 [t0, t1, k0, k1, k2, k3, k4, k5, k6, k7, k8, k9, k10, k11, k12, j0, j1, j2, j3, j4, j5, j6, .int .i64 0, .int .i64 0])
    generalize setCells w4 w.heap.size 0 [t0, t1, k0, k1, k2, k3, k4, k5, k6, k7, k8, k9, k10, k11, k12, j0, j1, j2, j3, j4, j5, j6, .int .i64 0, .int .i64 0] = W5 at btE kBE ⊢
    have z4 := u4.size
    have zd : WJ.drew.heap.size = WJ.heap.size := rfl
    have z0 := u0.size
    refine hK.out _ _ ⟨kC4.butM btE (by omega), kJ4.butM btE (by omega)⟩ (fun hH => ?_)
    clear hK K
    try simp only [Act.put, List.getElem_toArray, List.getElem_cons_succ, List.getElem_cons_zero, List.setIfInBounds_toArray, List.set_cons_zero, List.set_cons_succ]
    refine wpAnyH_take (i := 5) (v := .int .i64 0) rfl (by kernel_rfl) (by kernel_rfl) (by kernel_rfl) (fun _ _ _ h => h) (Or.inl ⟨by rfl, fun W hW => by go_simp⟩) hH ?_
    try simp only [Act.put, List.getElem_toArray, List.getElem_cons_succ, List.getElem_cons_zero, List.setIfInBounds_toArray, List.set_cons_zero, List.set_cons_succ]
    refine wpAnyH_done (by kernel_rfl) ?_ _
    go_wp2_with fail
    refine bodyPost_ret (results_bk2 kBE _ _ _ Tryz.results17 rfl rfl Tryz.underlying43 rfl (by kernel_rfl)) rfl ?_
    have hot := good_Btree.own_wide (own_but good_Btree ot btE (by omega)) (show w.heap.size ≤ _ by omega) (Nat.le_refl _)
    have hoc := good_Cache.own_wide (own_but good_Cache oc4 btE (by omega)) (show w.heap.size ≤ _ by omega) (Nat.le_refl _)
    have hoj := good_Journal.own_wide (own_but good_Journal oj4 btE (by omega)) (show w.heap.size ≤ _ by omega) (Nat.le_refl _)
    have hi0 : shI.own W5 w.heap.size W5.heap.size [.int .i64 0] (0 : Int) [] := ⟨⟨rfl, by decide, by decide⟩, rfl⟩
    have h1 := mkO_P (a := shI) (b := shI) good_I (x := ((0 : Int), (0 : Int))) hi0 hi0
    have h2 := mkO_P (a := shJournal) (b := shP shI shI) good_Journal (x := (XJ, (0 : Int), (0 : Int))) hoj h1
    have h3 := mkO_P (a := shCache) (b := shP shJournal (shP shI shI)) good_Cache (x := (XC, XJ, (0 : Int), (0 : Int))) hoc h2
    have h4 := mkO_P (a := shBtree) (b := shP shCache (shP shJournal (shP shI shI))) good_Btree (x := (XT, XC, XJ, (0 : Int), (0 : Int))) hot h3
    have hob : shBase.own W5 w.heap.size W5.heap.size [t0, t1, k0, k1, k2, k3, k4, k5, k6, k7, k8, k9, k10, k11, k12, j0, j1, j2, j3, j4, j5, j6, .int .i64 0, .int .i64 0] (XT, XC, XJ, 0, 0) (blt ++ (blc ++ (blj ++ ([] ++ [])))) := h4
    clear hi0 h1 h2 h3 h4
    have hE := HE.out
    subst hE
    refine ⟨[t0, t1, k0, k1, k2, k3, k4, k5, k6, k7, k8, k9, k10, k11, k12, j0, j1, j2, j3, j4, j5, j6, .int .i64 0, .int .i64 0], _, rfl, hob, ?_, U4.but btE (by omega)⟩
    simp only [List.append_nil]
    refine List.nodup_append.2 ⟨ndt, List.nodup_append.2 ⟨ndc, ndj, ?_⟩, ?_⟩
    · rintro b1 hb1 b2 hb2 rfl
      have := hinC b1 hb1
      have := hinJ b1 hb2
      omega
    · rintro b1 hb1 b2 hb2 rfl
      have := hinT b1 hb1
      rcases List.mem_append.1 hb2 with h | h
      · have := hinC b1 h
        omega
      · have := hinJ b1 h
        omega
  · have HE := Lib.hid (HZ.out hn)
    have hn2 := H2.out hn
    subst hn2
    clear HZ HY H2 hn
    go_wp2_with (first | (refine wpList_store_bk [.int .i64 0, .slice none 0 0, .int .i64 0, .slice none 0 0, .slice none 0 0, .int .i64 0, .int .i64 0, .int .i64 0, .slice none 0 0, .int .i64 0, .int .i64 0, .int .i64 0, .slice none 0 0, .slice none 0 0, .slice none 0 0, .int .i64 0, .slice none 0 0, .slice none 0 0, .int .i64 0, .int .i64 0, .int .i64 0, .int .i64 0, .int .i64 0, .int .i64 0] kBC rfl rfl (by kernel_rfl) rfl (Nat.le_of_ble_eq_true rfl) ?_; intro WE btE kBE; rw [putL_allN _ [.int .i64 0, .slice none 0 0, .int .i64 0, .slice none 0 0, .slice none 0 0, .int .i64 0, .int .i64 0, .int .i64 0, .slice none 0 0, .int .i64 0, .int .i64 0, .int .i64 0, .slice none 0 0, .slice none 0 0, .slice none 0 0, .int .i64 0, .slice none 0 0, .slice none 0 0, .int .i64 0, .int .i64 0, .int .i64 0, .int .i64 0, .int .i64 0, .int .i64 0] rfl] at kBE))
    refine bodyPost_ret (results_bk2 kBE _ _ _ Tryz.results17 rfl rfl Tryz.underlying43 rfl (by kernel_rfl)) rfl ?_
    have hE := HE.out
    subst hE
    exact ⟨[.int .i64 0, .slice none 0 0, .int .i64 0, .slice none 0 0, .slice none 0 0, .int .i64 0, .int .i64 0, .int .i64 0, .slice none 0 0, .int .i64 0, .int .i64 0, .int .i64 0, .slice none 0 0, .slice none 0 0, .slice none 0 0, .int .i64 0, .slice none 0 0, .slice none 0 0, .int .i64 0, .int .i64 0, .int .i64 0, .int .i64 0, .int .i64 0, .int .i64 0], [], rfl, own_zeroBase _ _ _, List.nodup_nil, UC.but btE (by omega)⟩
set_option maxRecDepth 100000 in
set_option maxHeartbeats 16000000 in
theorem cs0_NewBase (a : Int) (w : World) (ha : I64 a) : Calls Tryz.prog 16 #[.int .i64 a] w (ToR shBase (nBase a) (nCode a) w) := by
  have u0 : Up w (w.alloc (.cells #[.int .i64 0, .slice none 0 0, .int .i64 0, .slice none 0 0, .slice none 0 0, .int .i64 0, .int .i64 0, .int .i64 0, .slice none 0 0, .int .i64 0, .int .i64 0, .int .i64 0, .slice none 0 0, .slice none 0 0, .slice none 0 0, .int .i64 0, .slice none 0 0, .slice none 0 0, .int .i64 0, .int .i64 0, .int .i64 0, .int .i64 0, .int .i64 0, .int .i64 0] 43)) := (Up.refl _).alloc _
  have kB := Bk.new w 43 #[.int .i64 0, .slice none 0 0, .int .i64 0, .slice none 0 0, .slice none 0 0, .int .i64 0, .int .i64 0, .int .i64 0, .slice none 0 0, .int .i64 0, .int .i64 0, .int .i64 0, .slice none 0 0, .slice none 0 0, .slice none 0 0, .int .i64 0, .slice none 0 0, .slice none 0 0, .int .i64 0, .int .i64 0, .int .i64 0, .int .i64 0, .int .i64 0, .int .i64 0]
  have zz : (w.alloc (.cells #[.int .i64 0, .slice none 0 0, .int .i64 0, .slice none 0 0, .slice none 0 0, .int .i64 0, .int .i64 0, .int .i64 0, .slice none 0 0, .int .i64 0, .int .i64 0, .int .i64 0, .slice none 0 0, .slice none 0 0, .slice none 0 0, .int .i64 0, .slice none 0 0, .slice none 0 0, .int .i64 0, .int .i64 0, .int .i64 0, .int .i64 0, .int .i64 0, .int .i64 0] 43)).heap.size = w.heap.size + 1 := by simp
  have CN := Lib.hid (fun W (u : Up w W) => cs0_NewCache a W ha)
  have HZ := Lib.hid (fun (h : ¬ nCode a = 0) => show nBase a = zeroBase by unfold nBase; rw [if_neg h])
  have HY := Lib.hid (fun (h : nCode a = 0) => show nBase a = (newBtree, nCache a, newJournal 400, 0, 0) by unfold nBase; rw [if_pos h])
  have H2 := Lib.hid (fun (h : ¬ nCode a = 0) => nCode_two h)
  generalize nBase a = R at HZ HY ⊢
  generalize nCode a = n at CN HZ HY H2 ⊢
  generalize nCache a = XC at CN HY
  go_enter Tryz.func16, Tryz.ntmps16
  go_wp2_with fail
  generalize (w.alloc (.cells #[.int .i64 0, .slice none 0 0, .int .i64 0, .slice none 0 0, .slice none 0 0, .int .i64 0, .int .i64 0, .int .i64 0, .slice none 0 0, .int .i64 0, .int .i64 0, .int .i64 0, .slice none 0 0, .slice none 0 0, .slice none 0 0, .int .i64 0, .slice none 0 0, .slice none 0 0, .int .i64 0, .int .i64 0, .int .i64 0, .int .i64 0, .int .i64 0, .int .i64 0] 43)) = W0 at u0 kB zz ⊢
  refine (CN.out _ u0).mono ?_
  rintro e w1 ⟨csc, blc, rfl, oc, ndc, u1⟩
  have lc : csc.length = 13 := good_Cache.len (good_Cache.own_rep oc)
  have oneC := good_Cache.one (good_Cache.own_rep oc)
  have kB1 := kB.up u1
  have U1 := u0.trans u1
  have hinC := good_Cache.own_in oc
  go_upto_region 2 with (first | (refine wpList_store_bk csc (Bk.new _ _ _) rfl rfl (by rw [lc]; kernel_rfl) (by rw [List.all_eq_true]; exact oneC) (by rw [lc]; exact Nat.le_of_ble_eq_true rfl) ?_; intro WC bt kC; rw [putL_allN _ csc (by rw [lc]; rfl)] at kC; have uC : Up w1 WC := ((Up.refl w1).alloc _).but bt (Nat.le_refl _); replace bt := bt.size))
  have zC : WC.heap.size = w1.heap.size + 1 := by rw [bt]; simp
  have ocC := own_up good_Cache oc uC
  have kBC := kB1.up uC
  have UC := U1.trans uC
  have z1 := u1.size
  clear oc kB1 kB u1
  by_cases hn : n = 0
  · subst hn
    have HE := Lib.hid (HY.out rfl)
    clear HZ HY H2
    have CJ := Lib.hid (cs0_NewJournal 400 WC ⟨by decide, by decide⟩)
    generalize newJournal 400 = XJ at CJ HE
    generalize newJournalC 400 = nj at CJ
    go_wp2_with fail
    refine CJ.out.mono ?_
    rintro e w2 ⟨csj, blj, rfl, oj, ndj, u2⟩
    have lj : csj.length = 7 := good_Journal.len (good_Journal.own_rep oj)
    have oneJ := good_Journal.one (good_Journal.own_rep oj)
    have kB2 := kBC.up u2
    have kC2 := kC.up u2
    have oc2 := own_up good_Cache ocC u2
    have U2 := UC.trans u2
    have hinJ := good_Journal.own_in oj
    have z2 := u2.size
    go_wp2_with (first | (refine wpList_store_bk csj (Bk.new _ _ _) rfl rfl (by rw [lj]; kernel_rfl) (by rw [List.all_eq_true]; exact oneJ) (by rw [lj]; exact Nat.le_of_ble_eq_true rfl) ?_; intro WJ bt2 kJ; rw [putL_allN _ csj (by rw [lj]; rfl)] at kJ; have uJ : Up w2 WJ := ((Up.refl w2).alloc _).but bt2 (Nat.le_refl _); replace bt2 := bt2.size))
    have zJ : WJ.heap.size = w2.heap.size + 1 := by rw [bt2]; simp
    have kB3 := (kB2.up uJ).drew
    have kC3 := (kC2.up uJ).drew
    have kJ3 := kJ.drew
    have oc3 := own_up good_Cache oc2 (uJ.drew)
    have oj3 := own_up good_Journal oj (uJ.drew)
    have U3 := (U2.trans uJ).drew
    have CT := Lib.hid (cs0_NewBtree WJ.drew)
    generalize newBtree = XT at CT HE
    clear ocC oc2 oj kBC kB2 kC2 kC kJ u2 uJ U2 UC U1
    generalize hgC : w1.heap.size = gC at *
    generalize hgJ : w2.heap.size = gJ at *
    obtain ⟨k0, k1, k2, k3, k4, k5, k6, k7, k8, k9, k10, k11, k12, rfl⟩ := len_13 lc
    obtain ⟨j0, j1, j2, j3, j4, j5, j6, rfl⟩ := len_7 lj
    refine wp_region_held_drew (S := fun W => Bk W gC 31 #[k0, k1, k2, k3, k4, k5, k6, k7, k8, k9, k10, k11, k12] ∧ Bk W gJ 41 #[j0, j1, j2, j3, j4, j5, j6]) (by kernel_rfl) ⟨kC3, kJ3⟩ (fun hH => ?_)
    refine wpAnyH_take (i := 1) (v := .agg [k0, k1, k2, k3, k4, k5, k6, k7, k8, k9, k10, k11, k12].toArray) rfl (by kernel_rfl) (by kernel_rfl) (by kernel_rfl) (fun _ _ _ h => h) (yieldsIf_load_mid (by rfl) _ _ rfl _ _ rfl [k0, k1, k2, k3, k4, k5, k6, k7, k8, k9, k10, k11, k12] _ (fun W hW => Bk.range hW.1 0 [k0, k1, k2, k3, k4, k5, k6, k7, k8, k9, k10, k11, k12] rfl) Tryz.underlying31 rfl (by kernel_rfl)) hH ?_
    try simp only [Act.put, List.getElem_toArray, List.getElem_cons_succ, List.getElem_cons_zero, List.setIfInBounds_toArray, List.set_cons_zero, List.set_cons_succ]
    refine wpAnyH_take (i := 2) (v := .agg [j0, j1, j2, j3, j4, j5, j6].toArray) rfl (by kernel_rfl) (by kernel_rfl) (by kernel_rfl) (fun _ _ _ h => h) (yieldsIf_load_mid (by rfl) _ _ rfl _ _ rfl [j0, j1, j2, j3, j4, j5, j6] _ (fun W hW => Bk.range hW.2 0 [j0, j1, j2, j3, j4, j5, j6] rfl) Tryz.underlying41 rfl (by kernel_rfl)) hH ?_
    try simp only [Act.put, List.getElem_toArray, List.getElem_cons_succ, List.getElem_cons_zero, List.setIfInBounds_toArray, List.set_cons_zero, List.set_cons_succ]
    refine wpAnyH_ready (rs := [0]) (by kernel_rfl) (by simp) ?_
    refine AllReadyH.cons rfl (fun K hK => ?_) AllReadyH.nil
    go_simp
    refine CT.out.mono ?_
    rintro e w4 ⟨cst, blt, rfl, ot, ndt, u4⟩
    obtain ⟨t0, t1, rfl⟩ := len_2 (good_Btree.len (good_Btree.own_rep ot))
    have oneT := good_Btree.one (good_Btree.own_rep ot)
    have kB4 := kB3.up u4
    have kC4 := kC3.up u4
    have kJ4 := kJ3.up u4
    have oc4 := own_up good_Cache oc3 u4
    have oj4 := own_up good_Journal oj3 u4
    have U4 := U3.trans u4
    have hinT := good_Btree.own_in ot
    go_wp2_with fail
    refine hK.out _ _ ⟨kC4, kJ4⟩ (fun hH => ?_)
    clear hK K
    try simp only [Act.put, List.getElem_toArray, List.getElem_cons_succ, List.getElem_cons_zero, List.setIfInBounds_toArray, List.set_cons_zero, List.set_cons_succ]
    refine wpAnyH_take (i := 3) (v := .agg #[t0, t1, k0, k1, k2, k3, k4, k5, k6, k7, k8, k9, k10, k11, k12, j0, j1, j2, j3, j4, j5, j6, .int .i64 0, .int .i64 0]) rfl (by kernel_rfl) (by kernel_rfl) (by kernel_rfl) (fun _ _ _ h => h) (Or.inl ⟨by rfl, fun W hW => by go_simp⟩) hH ?_
    try simp only [Act.put, List.getElem_toArray, List.getElem_cons_succ, List.getElem_cons_zero, List.setIfInBounds_toArray, List.set_cons_zero, List.set_cons_succ]
    refine wpAnyH_ready (rs := [4]) (by kernel_rfl) (by simp) ?_
    refine AllReadyH.cons rfl (fun K hK => ?_) AllReadyH.nil
    rw [if_pos (by rfl)]
    refine wp_store_mid _ _ _ rfl w.heap.size 0 #[t0, t1, k0, k1, k2, k3, k4, k5, k6, k7, k8, k9, k10, k11, k12, j0, j1, j2, j3, j4, j5, j6, .int .i64 0, .int .i64 0] rfl rfl (kB4.there 0 _ (Nat.le_of_ble_eq_true rfl)) (by kernel_rfl) ?_ ?_
    · refine all_oneCell_toArray (cs := [t0, t1] ++ [k0, k1, k2, k3, k4, k5, k6, k7, k8, k9, k10, k11, k12] ++ [j0, j1, j2, j3, j4, j5, j6] ++ [.int .i64 0, .int .i64 0]) (fun v hv => ?_)
      simp only [List.mem_append] at hv
      rcases hv with ((h | h) | h) | h
      · exact oneT v h
      · exact oneC v h
      · exact oneJ v h
      · simp at h
        rw [h]
        rfl
    rw [setCells_wld]
    have btE := But.sets (g := w.heap.size) [t0, t1, k0, k1, k2, k3, k4, k5, k6, k7, k8, k9, k10, k11, k12, j0, j1, j2, j3, j4, j5, j6, .int .i64 0, .int .i64 0] w4 0
    have kBE : Bk (setCells w4 w.heap.size 0 [t0, t1, k0, k1, k2, k3, k4, k5, k6, k7, k8, k9, k10, k11, k12, j0, j1, j2, j3, j4, j5, j6, .int .i64 0, .int .i64 0]) w.heap.size 43 #[t0, t1, k0, k1, k2, k3, k4, k5, k6, k7, k8, k9, k10, k11, k12, j0, j1, j2, j3, j4, j5, j6, .int .i64 0, .int .i64 0] := kB4.setsL [t0, t1, k0, k1, k2, k3, k4, k5, k6, k7, k8, k9, k10, k11, k12, j0, j1, j2, j3, j4, j5, j6, .int .i64 0, .int .i64 0] 0
    change K _ (setCells w4 w.heap.size 0 [t0, t1, k0, k1, k2, k3, k4, k5, k6, k7, k8, k9, k10, k11, k12, j0, j1, j2, j3, j4, j5, j6, .int .i64 0, .int .i64 0])
    generalize setCells w4 w.heap.size 0 [t0, t1, k0, k1, k2, k3, k4, k5, k6, k7, k8, k9, k10, k11, k12, j0, j1, j2, j3, j4, j5, j6, .int .i64 0, .int .i64 0] = W5 at btE kBE ⊢
    have z4 := u4.size
    have zd : WJ.drew.heap.size = WJ.heap.size := rfl
    have z0 := u0.size
    refine hK.out _ _ ⟨kC4.butM btE (by omega), kJ4.butM btE (by omega)⟩ (fun hH => ?_)
    clear hK K
    try simp only [Act.put, List.getElem_toArray, List.getElem_cons_succ, List.getElem_cons_zero, List.setIfInBounds_toArray, List.set_cons_zero, List.set_cons_succ]
    refine wpAnyH_take (i := 5) (v := .int .i64 0) rfl (by kernel_rfl) (by kernel_rfl) (by kernel_rfl) (fun _ _ _ h => h) (Or.inl ⟨by rfl, fun W hW => by go_simp⟩) hH ?_
    try simp only [Act.put, List.getElem_toArray, List.getElem_cons_succ, List.getElem_cons_zero, List.setIfInBounds_toArray, List.set_cons_zero, List.set_cons_succ]
    refine wpAnyH_done (by kernel_rfl) ?_ _
    go_wp2_with fail
    refine bodyPost_ret (results_bk2 kBE _ _ _ Tryz.results16 rfl rfl Tryz.underlying43 rfl (by kernel_rfl)) rfl ?_
    have hot := good_Btree.own_wide (own_but good_Btree ot btE (by omega)) (show w.heap.size ≤ _ by omega) (Nat.le_refl _)
    have hoc := good_Cache.own_wide (own_but good_Cache oc4 btE (by omega)) (show w.heap.size ≤ _ by omega) (Nat.le_refl _)
    have hoj := good_Journal.own_wide (own_but good_Journal oj4 btE (by omega)) (show w.heap.size ≤ _ by omega) (Nat.le_refl _)
    have hi0 : shI.own W5 w.heap.size W5.heap.size [.int .i64 0] (0 : Int) [] := ⟨⟨rfl, by decide, by decide⟩, rfl⟩
    have h1 := mkO_P (a := shI) (b := shI) good_I (x := ((0 : Int), (0 : Int))) hi0 hi0
    have h2 := mkO_P (a := shJournal) (b := shP shI shI) good_Journal (x := (XJ, (0 : Int), (0 : Int))) hoj h1
    have h3 := mkO_P (a := shCache) (b := shP shJournal (shP shI shI)) good_Cache (x := (XC, XJ, (0 : Int), (0 : Int))) hoc h2
    have h4 := mkO_P (a := shBtree) (b := shP shCache (shP shJournal (shP shI shI))) good_Btree (x := (XT, XC, XJ, (0 : Int), (0 : Int))) hot h3
    have hob : shBase.own W5 w.heap.size W5.heap.size [t0, t1, k0, k1, k2, k3, k4, k5, k6, k7, k8, k9, k10, k11, k12, j0, j1, j2, j3, j4, j5, j6, .int .i64 0, .int .i64 0] (XT, XC, XJ, 0, 0) (blt ++ (blc ++ (blj ++ ([] ++ [])))) := h4
    clear hi0 h1 h2 h3 h4
    have hE := HE.out
    subst hE
    refine ⟨[t0, t1, k0, k1, k2, k3, k4, k5, k6, k7, k8, k9, k10, k11, k12, j0, j1, j2, j3, j4, j5, j6, .int .i64 0, .int .i64 0], _, rfl, hob, ?_, U4.but btE (by omega)⟩
    simp only [List.append_nil]
    refine List.nodup_append.2 ⟨ndt, List.nodup_append.2 ⟨ndc, ndj, ?_⟩, ?_⟩
    · rintro b1 hb1 b2 hb2 rfl
      have := hinC b1 hb1
      have := hinJ b1 hb2
      omega
    · rintro b1 hb1 b2 hb2 rfl
      have := hinT b1 hb1
      rcases List.mem_append.1 hb2 with h | h
      · have := hinC b1 h
        omega
      · have := hinJ b1 h
        omega
  · have HE := Lib.hid (HZ.out hn)
    have hn2 := H2.out hn
    subst hn2
    clear HZ HY H2 hn
    go_wp2_with (first | (refine wpList_store_bk [.int .i64 0, .slice none 0 0, .int .i64 0, .slice none 0 0, .slice none 0 0, .int .i64 0, .int .i64 0, .int .i64 0, .slice none 0 0, .int .i64 0, .int .i64 0, .int .i64 0, .slice none 0 0, .slice none 0 0, .slice none 0 0, .int .i64 0, .slice none 0 0, .slice none 0 0, .int .i64 0, .int .i64 0, .int .i64 0, .int .i64 0, .int .i64 0, .int .i64 0] kBC rfl rfl (by kernel_rfl) rfl (Nat.le_of_ble_eq_true rfl) ?_; intro WE btE kBE; rw [putL_allN _ [.int .i64 0, .slice none 0 0, .int .i64 0, .slice none 0 0, .slice none 0 0, .int .i64 0, .int .i64 0, .int .i64 0, .slice none 0 0, .int .i64 0, .int .i64 0, .int .i64 0, .slice none 0 0, .slice none 0 0, .slice none 0 0, .int .i64 0, .slice none 0 0, .slice none 0 0, .int .i64 0, .int .i64 0, .int .i64 0, .int .i64 0, .int .i64 0, .int .i64 0] rfl] at kBE))
    refine bodyPost_ret (results_bk2 kBE _ _ _ Tryz.results16 rfl rfl Tryz.underlying43 rfl (by kernel_rfl)) rfl ?_
    have hE := HE.out
    subst hE
    exact ⟨[.int .i64 0, .slice none 0 0, .int .i64 0, .slice none 0 0, .slice none 0 0, .int .i64 0, .int .i64 0, .int .i64 0, .slice none 0 0, .int .i64 0, .int .i64 0, .int .i64 0, .slice none 0 0, .slice none 0 0, .slice none 0 0, .int .i64 0, .slice none 0 0, .slice none 0 0, .int .i64 0, .int .i64 0, .int .i64 0, .int .i64 0, .int .i64 0, .int .i64 0], [], rfl, own_zeroBase _ _ _, List.nodup_nil, UC.but btE (by omega)⟩
end Go.Proofs.YtlifhbfomgbiaaaGreatDoor
