/-
  BtGet: the program's.
-/
import Derived.Test.YtlifhbfomgbiaaaGreatDoorMWh
namespace Go.Proofs.YtlifhbfomgbiaaaGreatDoor
open Go.RowKit
set_option linter.unusedVariables false
set_option linter.unusedSimpArgs false

theorem getB_eq {x : TBtree} {key : ByteArray} {id : Int} {i : Nat} {q : TPage} {b : Bool} (h : btreeB x = true) (h1 : (wayB x key 64 x.1).1.getLast? = some (id, i)) (h2 : (wayB x key 64 x.1).2 = b) (hq : pgAt x id = some q) : getB x key = if b = true then (q.2.2.1.getD i ⟨#[]⟩, true) else (⟨#[]⟩, false) := by
  unfold getB
  rw [if_pos h, h1, h2]
  dsimp only
  rw [hq]
  rfl
theorem getB_no {x : TBtree} {key : ByteArray} (h : btreeB x = false) : getB x key = (⟨#[]⟩, false) := by
  unfold getB
  rw [if_neg (by rw [h]; decide)]
theorem leaf_vals {p : TPage} (h : pageB p = true) (hl : p.1 = true) : p.2.2.1.length = p.2.1.length := by
  unfold pageB at h
  simp only [Bool.and_eq_true] at h
  have h2 := h.2
  rw [if_pos hl] at h2
  simp only [leafB, Bool.and_eq_true, decide_eq_true_eq] at h2
  exact h2.1.1.2
theorem keyHas_lt {l : List ByteArray} {key : ByteArray} (h : keyHas l key = true) : keyIdx l key < l.length := by
  unfold keyHas at h
  simp only [Bool.and_eq_true, decide_eq_true_eq] at h
  exact h.1
set_option maxRecDepth 100000 in
set_option maxHeartbeats 8000000 in
theorem c_get1 {x : TBtree} (hb : btreeB x = true) (hr : I64 x.1) (key : ByteArray) {lo hi tb : Nat} {w : World} (PR : PagesR w lo hi tb x) (hhi : hi ≤ w.heap.size) :
    Calls Tryz.prog 78 #[.pointer (some ⟨tb, 0, none⟩), .string key] w (RetV (.tuple #[.string (getB x key).1, .bool (getB x key).2]) w) := by
  have hs := slots_of_btree hb
  have CL := Lib.hid (c_leaf hs (stands_root hb) hr key PR hhi)
  have HG := Lib.hid (fun id i q b => getB_eq (x := x) (key := key) (id := id) (i := i) (q := q) (b := b) hb)
  have HS := Lib.hid hs
  generalize getB x key = R at HG ⊢
  clear PR hb hs
  go_enter Tryz.func78, Tryz.ntmps78
  go_wp2_with fail
  refine CL.out.mono ?_
  rintro e w1 ⟨g, id, q, rfl, u1, hp, hl, h1, h2, cs, kg, hrep⟩
  have hpb := pgAt_ok HS.out hp
  obtain ⟨A1, c1, A2, c2, A3, c3, rfl, b1, b2, b3⟩ := openPage hrep
  have hz := u1.size
  have gp0 : w1.cell? ⟨g, 0, none⟩ = some (.bool q.1) := kg.cell 0
  have gp1 : w1.cell? ⟨g, 1, none⟩ = some (.slice A1 q.2.1.length c1) := kg.cell 1
  have gp2 : w1.cell? ⟨g, 2, none⟩ = some (.slice A2 q.2.2.1.length c2) := kg.cell 2
  have gp3 : w1.cell? ⟨g, 3, none⟩ = some (.slice A3 q.2.2.2.length c3) := kg.cell 3
  have CF := Lib.hid (c_find (.agg #[.bool q.1, .slice A1 q.2.1.length c1, .slice A2 q.2.2.1.length c2, .slice A3 q.2.2.2.length c3]) q key w1 ⟨_, rfl, good_Page.wide hrep (Nat.le_refl _) (by omega)⟩ hpb)
  have HR := Lib.hid (HG.out id (keyIdx q.2.1 key) q (keyHas q.2.1 key) h1 h2 hp)
  have hfb : findB q key = (keyIdx q.2.1 key, keyHas q.2.1 key) := by unfold findB; rw [if_neg (by rw [hl]; simp)]
  rw [hfb] at CF
  have hvl := leaf_vals hpb hl
  have HLT := Lib.hid (fun h => hvl ▸ keyHas_lt (l := q.2.1) (key := key) h)
  generalize keyIdx q.2.1 key = k at CF HR HLT
  generalize keyHas q.2.1 key = b at CF HR HLT
  have hpbN := Lib.hid hpb
  rw [hl] at CF gp0
  clear hrep CL HG h1 h2 hp hfb hvl hpb hl
  go_wp2_with fail
  refine CF.out.mono ?_
  rintro e w2 ⟨rfl, u2⟩
  have kg2 := kg.up u2
  have gp2' : w2.cell? ⟨g, 2, none⟩ = some (.slice A2 q.2.2.1.length c2) := kg2.cell 2
  clear gp0 gp1 gp2 gp3 CF
  cases b
  · have HE := Lib.hid (show R = (⟨#[]⟩, false) from HR.out)
    clear HR
    go_wp2_with fail
    refine bodyPost_ret (v := .tuple #[.string ⟨#[]⟩, .bool false]) (by simp [results, Tryz.results78, go_sem]) rfl ?_
    exact ⟨by rw [HE.out], u1.trans u2⟩
  · have hk := HLT.out rfl
    have HE := Lib.hid (show R = (q.2.2.1[k], true) from HR.out.trans (by rw [if_pos rfl, getD_inW hk]))
    obtain ⟨gk, ok, rfl, _, _, hck, _⟩ := (SR.keep good_S b2 (u2.keeps (by omega)) : SR shS w2 0 hi A2 c2 q.2.2.1).at_S hk
    have hki : (k : Int) < (q.2.2.1.length : Int) := by omega
    have hk0 : (0 : Int) ≤ (k : Int) := by omega
    clear HR HLT
    go_wp2_with fail
    refine bodyPost_ret (v := .tuple #[.string q.2.2.1[k], .bool true]) (by simp [results, Tryz.results78, go_sem]) rfl ?_
    exact ⟨by rw [HE.out], u1.trans u2⟩
set_option maxRecDepth 100000 in
set_option maxHeartbeats 8000000 in
theorem ci_BtGet (v : Value) (y : TBtree) (key : ByteArray) (w : World) (h : AV shBtree w v y) (hn : shBtree.sz y ≤ 1048576) (hk : key.size ≤ 9223372036854775807) (hks : key.size ≤ 1048576) (htab : Tab w) (hm : MaxL w) : Calls Tryz.prog 29 #[v, .string key] w (RetV (.tuple #[.string (getB y key).1, .bool (getB y key).2]) w) := by
  have hv := h
  obtain ⟨cs, rfl, h⟩ := h
  obtain ⟨r, x⟩ := y
  have ho := openBtree h
  dsimp only at ho
  obtain ⟨A0, c0, rfl, br, b00⟩ := ho
  clear h hk hks
  have kT := Bk.new w 39 #[.int .i64 r, .slice A0 x.length c0]
  have uu : Up w (w.alloc (.cells #[.int .i64 r, .slice A0 x.length c0] 39)) := (Up.refl w).alloc _
  have CB := Lib.hid (ci_BtreeOk _ (r, x) _ (hv.up good_Btree uu) hn (tab_up htab uu) (maxL_up hm uu))
  have g0 : World.cell? _ ⟨w.heap.size, 0, none⟩ = some (.int .i64 r) := kT.cell 0
  have g1 : World.cell? _ ⟨w.heap.size, 1, none⟩ = some (.slice A0 x.length c0) := kT.cell 1
  have HN := Lib.hid (fun hh => getB_no (x := (r, x)) (key := key) hh)
  have HGT := Lib.hid (fun hb lo hi tb W PR hhi => c_get1 (x := (r, x)) hb br key (lo := lo) (hi := hi) (tb := tb) (w := W) PR hhi)
  generalize getB (r, x) key = R at HN HGT ⊢
  go_enter Tryz.func29, Tryz.ntmps29
  go_wp2_with fail
  refine CB.out.mono ?_
  rintro e w1 ⟨rfl, u1⟩
  cases hb : btreeB (r, x)
  · have HE := Lib.hid (HN.out hb)
    clear HN HGT hb CB g0 g1
    go_wp2_with fail
    refine bodyPost_ret (v := .tuple #[.string ⟨#[]⟩, .bool false]) (by simp [results, Tryz.results29, go_sem]) rfl ?_
    exact ⟨by rw [HE.out], uu.trans u1⟩
  · have CPG := Lib.hid (c_pagesOf _ (r, x) w1 (hv.up good_Btree (uu.trans u1)) (slots_of_btree hb) hn)
    have g0' : w1.cell? ⟨w.heap.size, 0, none⟩ = some (.int .i64 r) := (u1.cell (cell_lt g0)).trans g0
    have g1' : w1.cell? ⟨w.heap.size, 1, none⟩ = some (.slice A0 x.length c0) := (u1.cell (cell_lt g1)).trans g1
    have HG2 := Lib.hid (HGT.out hb)
    clear HN HGT hb CB g0 g1
    go_wp2_with fail
    refine CPG.out.mono ?_
    rintro e w2 ⟨tb, rfl, PR, u2⟩
    have CG := Lib.hid (HG2.out _ _ _ _ PR (Nat.le_refl _))
    clear CPG PR HG2
    go_wp2_with fail
    refine CG.out.mono ?_
    rintro e w3 ⟨rfl, u3⟩
    go_wp2_with fail
    refine bodyPost_ret (v := .tuple #[.string R.1, .bool R.2]) (by simp [results, Tryz.results29, go_sem]) rfl ?_
    exact ⟨rfl, ((uu.trans u1).trans u2).trans u3⟩
end Go.Proofs.YtlifhbfomgbiaaaGreatDoor
