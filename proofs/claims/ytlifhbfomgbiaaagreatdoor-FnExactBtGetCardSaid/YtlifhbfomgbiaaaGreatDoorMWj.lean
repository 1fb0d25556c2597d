/-
  BtGet: the reference's.
-/
import Derived.Test.YtlifhbfomgbiaaaGreatDoorMWi
import Derived.Deep.RegionHeld3
namespace Go.Proofs.YtlifhbfomgbiaaaGreatDoor
open Go.RowKit
set_option linter.unusedVariables false
set_option linter.unusedSimpArgs false

theorem fieldPage2 (a b c d : Value) (W : World) : (Instr.field 91 (.agg #[a, b, c, d]) 2).run Tryz.prog W = .ok c W := by
  have h1 : (asAgg (Value.agg #[a, b, c, d])).run Tryz.prog W = .ok #[a, b, c, d] W := rfl
  simp [Instr.field, run_underlying Tryz.underlying91, h1]
  unfold part
  have h2 : (isAgg 22).run Tryz.prog W = .ok false W := by simp [isAgg, run_underlying Tryz.underlying22]
  simp [h2]
set_option maxRecDepth 100000 in
set_option maxHeartbeats 8000000 in
theorem cs_BtGet (v : Value) (y : TBtree) (key : ByteArray) (w : World) (h : AV shBtree w v y) (hn : shBtree.sz y ≤ 1048576) (hk : key.size ≤ 9223372036854775807) (hks : key.size ≤ 1048576) : Calls Tryz.prog 28 #[v, .string key] w (RetV (.tuple #[.string (getB y key).1, .bool (getB y key).2]) w) := by
  have hv := h
  obtain ⟨cs, rfl, h⟩ := h
  obtain ⟨r, x⟩ := y
  have ho := openBtree h
  dsimp only at ho
  obtain ⟨A0, c0, rfl, br, b00⟩ := ho
  clear h hk hks
  have kT := Bk.new w 39 #[.int .i64 r, .slice A0 x.length c0]
  have uu : Up w (w.alloc (.cells #[.int .i64 r, .slice A0 x.length c0] 39)) := (Up.refl w).alloc _
  have CB := Lib.hid (cs_BtreeOk _ (r, x) _ (hv.up good_Btree uu) hn)
  have g0 : World.cell? _ ⟨w.heap.size, 0, none⟩ = some (.int .i64 r) := kT.cell 0
  have g1 : World.cell? _ ⟨w.heap.size, 1, none⟩ = some (.slice A0 x.length c0) := kT.cell 1
  have HN := Lib.hid (fun hh => getB_no (x := (r, x)) (key := key) hh)
  have HG := Lib.hid (fun hb id i q b => getB_eq (x := (r, x)) (key := key) (id := id) (i := i) (q := q) (b := b) hb)
  generalize getB (r, x) key = R at HN HG ⊢
  go_enter Tryz.func28, Tryz.ntmps28
  go_wp2_with fail
  refine CB.out.mono ?_
  rintro e w1 ⟨rfl, u1⟩
  cases hb : btreeB (r, x)
  · have HE := Lib.hid (HN.out hb)
    clear HN HG hb CB g0 g1
    go_wp2_with fail
    refine bodyPost_ret (v := .tuple #[.string ⟨#[]⟩, .bool false]) (by simp [results, Tryz.results28, go_sem]) rfl ?_
    exact ⟨by rw [HE.out], uu.trans u1⟩
  · have hs := slots_of_btree hb
    have CW := Lib.hid (c_l16Way _ (r, x) key w1 (hv.up good_Btree (uu.trans u1)) hs (stands_root hb))
    obtain ⟨l, i, q, hw1, hpq, hql, hw2⟩ := way_last (key := key) hs (stands_root hb)
    have hwl : (wayB (r, x) key 64 r).1.getLast? = some (i, keyIdx q.2.1 key) := by
      have h := hw1
      dsimp only at h
      rw [h, List.getLast?_append]
      rfl
    have HR := Lib.hid (HG.out hb i (keyIdx q.2.1 key) q (keyHas q.2.1 key) hwl hw2 hpq)
    have HS := Lib.hid hs
    have HQ := Lib.hid hpq
    have hpb := pgAt_ok hs hpq
    have hvl := leaf_vals hpb hql
    have HLT := Lib.hid (fun h => hvl ▸ keyHas_lt (l := q.2.1) (key := key) h)
    have h6 := keys_le6 hpb
    have HKI := Lib.hid (Nat.le_trans (keyIdx_le q.2.1 key) h6)
    have HW := Lib.hid (show (wayB (r, x) key 64 r).1 = l ++ [(i, keyIdx q.2.1 key)] ∧ (wayB (r, x) key 64 r).2 = keyHas q.2.1 key from ⟨hw1, hw2⟩)
    have g0' : w1.cell? ⟨w.heap.size, 0, none⟩ = some (.int .i64 r) := (u1.cell (cell_lt g0)).trans g0
    have g1' : w1.cell? ⟨w.heap.size, 1, none⟩ = some (.slice A0 x.length c0) := (u1.cell (cell_lt g1)).trans g1
    clear hs hb HN HG CB g0 g1 hwl hw1 hw2 hpq hql hpb hvl h6
    go_wp2_with fail
    refine CW.out.mono ?_
    rintro e w2 ⟨D, d, bl, he, so, u2⟩
    have hw1 := HW.out.1
    have hw2 := HW.out.2
    dsimp only at he so
    rw [hw1] at he so
    rw [hw2] at he
    subst he
    clear hw1 hw2 HW CW
    have kT2 := (kT.up u1).up u2
    generalize keyIdx q.2.1 key = k at so HR HLT HKI
    generalize keyHas q.2.1 key = b at HR HLT ⊢
    cases b
    · have HE := Lib.hid (show R = (⟨#[]⟩, false) from HR.out)
      clear HR so
      go_wp2_with fail
      refine bodyPost_ret (v := .tuple #[.string ⟨#[]⟩, .bool false]) (by simp [results, Tryz.results28, go_sem]) rfl ?_
      exact ⟨by rw [HE.out], (uu.trans u1).trans u2⟩
    · have hkv := HLT.out rfl
      have HE := Lib.hid (show R = (q.2.2.1[k], true) from HR.out.trans (by rw [if_pos rfl, getD_inW hkv]))
      have sr := SR.of_own good_Seat so
      have hsl : (stepsOf (l ++ [(i, k)])).length = l.length + 1 := by simp [stepsOf]
      have hat : l.length < (stepsOf (l ++ [(i, k)])).length := by omega
      have hel : (stepsOf (l ++ [(i, k)]))[l.length] = (i, (k : Int)) := by simp [stepsOf]
      obtain ⟨gs, os, rfl, _, _, hc0, hc1, hI1, hI2, _⟩ := atSeat sr hat
      clear hI1 hI2
      rw [hel] at hc0 hc1
      have hll : (l ++ [(i, k)]).length = l.length + 1 := by simp
      rw [hll]
      have hT := sr.len_le
      rw [hsl] at hT
      have hwr : IntKind.i64.wrap ((l.length : Int)) = (l.length : Int) := IntWalk.i64_in _ (by omega)
      have hl0 : (0 : Int) ≤ (l.length : Int) := by omega
      have hl1 : (l.length : Int) < (l.length : Int) + 1 := by omega
      clear hsl hat hel hll so sr HR HLT
      go_wp2_with fail
      have kf := Bk.new w2 131 #[.int .i64 i, .int .i64 (k : Int)]
      have u3 : Up w2 (w2.alloc (.cells #[.int .i64 i, .int .i64 (k : Int)] 131)) := (Up.refl _).alloc _
      generalize (w2.alloc (.cells #[.int .i64 i, .int .i64 (k : Int)] 131)) = W3 at kf u3 ⊢
      have k3 := kT2.up u3
      have U3 := (((uu.trans u1).trans u2).trans u3).drew
      replace k3 := k3.drew
      replace kf := kf.drew
      have CPp := Lib.hid (c_l16Page [.int .i64 r, .slice A0 x.length c0] (r, x) i q W3.drew w.heap.size U3.size (mkBtree (x := (r, x)) br (SR.keep good_Slot b00 (U3.keeps (Nat.le_refl _)))) HS.out HQ.out)
      have hFP := fieldPage2
      clear hc0 hc1 g0' g1'
      refine wp_region_held_drew (S := fun W => W.cell? ⟨w.heap.size, 0, none⟩ = some (.int .i64 r) ∧ W.cell? ⟨w.heap.size, 1, none⟩ = some (.slice A0 x.length c0) ∧ W.cell? ⟨w2.heap.size, 0, none⟩ = some (.int .i64 i) ∧ W.cell? ⟨w2.heap.size, 1, none⟩ = some (.int .i64 (k : Int))) (by kernel_rfl) ⟨(k3.cell 0 : W3.drew.cell? ⟨w.heap.size, 0, none⟩ = some (.int .i64 r)), (k3.cell 1 : W3.drew.cell? ⟨w.heap.size, 1, none⟩ = some (.slice A0 x.length c0)), (kf.cell 0 : W3.drew.cell? ⟨w2.heap.size, 0, none⟩ = some (.int .i64 i)), (kf.cell 1 : W3.drew.cell? ⟨w2.heap.size, 1, none⟩ = some (.int .i64 (k : Int)))⟩ (fun hH => ?_)
      refine wpAnyH_take (i := 0) (v := .agg #[.int .i64 r, .slice A0 x.length c0]) rfl (by kernel_rfl) (by kernel_rfl) (by kernel_rfl) (fun _ _ _ h => h) (Or.inl ⟨by rfl, ?_⟩) (by assumption) ?_
      · intro W hSW
        try dsimp only at hSW
        go_simp
        try with_reducible rfl
      try simp only [Act.put, List.getElem_toArray, List.getElem_cons_succ, List.getElem_cons_zero, List.setIfInBounds_toArray, List.set_cons_zero, List.set_cons_succ]
      refine wpAnyH_take (i := 1) (v := .pointer (some ⟨w2.heap.size, 0, none⟩)) rfl (by kernel_rfl) (by kernel_rfl) (by kernel_rfl) (fun _ _ _ h => h) (Or.inl ⟨by rfl, ?_⟩) (by assumption) ?_
      · intro W hSW
        try dsimp only at hSW
        go_simp
        try with_reducible rfl
      try simp only [Act.put, List.getElem_toArray, List.getElem_cons_succ, List.getElem_cons_zero, List.setIfInBounds_toArray, List.set_cons_zero, List.set_cons_succ]
      refine wpAnyH_take (i := 2) (v := .int .i64 i) rfl (by kernel_rfl) (by kernel_rfl) (by kernel_rfl) (fun _ _ _ h => h) (Or.inl ⟨by rfl, ?_⟩) (by assumption) ?_
      · intro W hSW
        try dsimp only at hSW
        go_simp
        try with_reducible rfl
      try simp only [Act.put, List.getElem_toArray, List.getElem_cons_succ, List.getElem_cons_zero, List.setIfInBounds_toArray, List.set_cons_zero, List.set_cons_succ]
      refine wpAnyH_take (i := 5) (v := .pointer (some ⟨w2.heap.size, 1, none⟩)) rfl (by kernel_rfl) (by kernel_rfl) (by kernel_rfl) (fun _ _ _ h => h) (Or.inl ⟨by rfl, ?_⟩) (by assumption) ?_
      · intro W hSW
        try dsimp only at hSW
        go_simp
        try with_reducible rfl
      try simp only [Act.put, List.getElem_toArray, List.getElem_cons_succ, List.getElem_cons_zero, List.setIfInBounds_toArray, List.set_cons_zero, List.set_cons_succ]
      refine wpAnyH_take (i := 6) (v := .int .i64 (k : Int)) rfl (by kernel_rfl) (by kernel_rfl) (by kernel_rfl) (fun _ _ _ h => h) (Or.inl ⟨by rfl, ?_⟩) (by assumption) ?_
      · intro W hSW
        try dsimp only at hSW
        go_simp
        try with_reducible rfl
      try simp only [Act.put, List.getElem_toArray, List.getElem_cons_succ, List.getElem_cons_zero, List.setIfInBounds_toArray, List.set_cons_zero, List.set_cons_succ]
      refine wpAnyH_ready (rs := [3]) (by kernel_rfl) (by simp) ?_
      refine AllReadyH.cons rfl (fun K hK => ?_) AllReadyH.nil
      go_simp
      refine CPp.out.mono ?_
      rintro e w4 ⟨cs, rfl, hrep, u4⟩
      obtain ⟨A1, c1, A2, c2, A3, c3, rfl, b1, b2, b3⟩ := openPage hrep
      obtain ⟨gv, ov, rfl, _, _, hcv, _⟩ := b2.at_S hkv
      clear hrep b1 b2 b3
      replace k3 := k3.up u4
      replace kf := kf.up u4
      go_wp2_with fail
      refine hK.out _ _ ⟨(k3.cell 0 : w4.cell? ⟨w.heap.size, 0, none⟩ = some (.int .i64 r)), (k3.cell 1 : w4.cell? ⟨w.heap.size, 1, none⟩ = some (.slice A0 x.length c0)), (kf.cell 0 : w4.cell? ⟨w2.heap.size, 0, none⟩ = some (.int .i64 i)), (kf.cell 1 : w4.cell? ⟨w2.heap.size, 1, none⟩ = some (.int .i64 (k : Int)))⟩ (fun hH => ?_)
      clear hK K
      try simp only [Act.put, List.getElem_toArray, List.getElem_cons_succ, List.getElem_cons_zero, List.setIfInBounds_toArray, List.set_cons_zero, List.set_cons_succ]
      have hki : (k : Int) < (q.2.2.1.length : Int) := by omega
      have hk0 : (0 : Int) ≤ (k : Int) := by omega
      refine wpAnyH_take (i := 4) (v := .slice (some ⟨gv, ov, none⟩) q.2.2.1.length c2) rfl (by kernel_rfl) (by kernel_rfl) (by kernel_rfl) (fun _ _ _ h => h) (Or.inl ⟨by rfl, ?_⟩) (by assumption) ?_
      · intro W hSW
        try dsimp only at hSW
        go_simp
        try with_reducible rfl
      try simp only [Act.put, List.getElem_toArray, List.getElem_cons_succ, List.getElem_cons_zero, List.setIfInBounds_toArray, List.set_cons_zero, List.set_cons_succ]
      refine wpAnyH_take (i := 7) (v := .pointer (some ⟨gv, ov + k, none⟩)) rfl (by kernel_rfl) (by kernel_rfl) (by kernel_rfl) (fun _ _ _ h => h) (Or.inl ⟨by rfl, ?_⟩) (by assumption) ?_
      · intro W hSW
        try dsimp only at hSW
        go_simp
        try with_reducible rfl
      try simp only [Act.put, List.getElem_toArray, List.getElem_cons_succ, List.getElem_cons_zero, List.setIfInBounds_toArray, List.set_cons_zero, List.set_cons_succ]
      refine wpAnyH_ready (rs := [8]) (by kernel_rfl) (by simp) ?_
      refine AllReadyH.cons rfl (fun K hK => ?_) AllReadyH.nil
      go_simp
      refine hK.out _ _ ⟨(k3.cell 0 : w4.cell? ⟨w.heap.size, 0, none⟩ = some (.int .i64 r)), (k3.cell 1 : w4.cell? ⟨w.heap.size, 1, none⟩ = some (.slice A0 x.length c0)), (kf.cell 0 : w4.cell? ⟨w2.heap.size, 0, none⟩ = some (.int .i64 i)), (kf.cell 1 : w4.cell? ⟨w2.heap.size, 1, none⟩ = some (.int .i64 (k : Int)))⟩ (fun hH => ?_)
      clear hK K
      try simp only [Act.put, List.getElem_toArray, List.getElem_cons_succ, List.getElem_cons_zero, List.setIfInBounds_toArray, List.set_cons_zero, List.set_cons_succ]
      refine wpAnyH_take (i := 9) (v := .string q.2.2.1[k]) rfl (by kernel_rfl) (by kernel_rfl) (by kernel_rfl) (fun _ _ _ h => h) (Or.inl ⟨by rfl, ?_⟩) (by assumption) ?_
      · intro W hSW
        try dsimp only at hSW
        go_simp
        try with_reducible rfl
      try simp only [Act.put, List.getElem_toArray, List.getElem_cons_succ, List.getElem_cons_zero, List.setIfInBounds_toArray, List.set_cons_zero, List.set_cons_succ]
      refine wpAnyH_take (i := 10) (v := .bool true) rfl (by kernel_rfl) (by kernel_rfl) (by kernel_rfl) (fun _ _ _ h => h) (Or.inl ⟨by rfl, ?_⟩) (by assumption) ?_
      · intro W hSW
        try dsimp only at hSW
        go_simp
        try with_reducible rfl
      try simp only [Act.put, List.getElem_toArray, List.getElem_cons_succ, List.getElem_cons_zero, List.setIfInBounds_toArray, List.set_cons_zero, List.set_cons_succ]
      refine wpAnyH_done (by kernel_rfl) ?_ _
      go_wp2_with fail
      refine bodyPost_ret (v := .tuple #[.string q.2.2.1[k], .bool true]) (by simp [results, Tryz.results28, go_sem]) rfl ?_
      exact ⟨by rw [HE.out], U3.trans u4⟩
end Go.Proofs.YtlifhbfomgbiaaaGreatDoor
