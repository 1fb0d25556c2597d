/-
  TreeIn: both sides; a bound of the marks of a base.
-/
import Derived.Test.YtpjcgglhlmifdaaGreatDoorM3Xh
import Derived.Test.YtpjcgglhlmifdaaGreatDoorM3Bo
import Derived.Test.YtpjcgglhlmifdaaGreatDoorM3Lk
import Derived.Test.YtpjcgglhlmifdaaGreatDoorM3Xbg
namespace Go.Proofs.YtpjcgglhlmifdaaGreatDoor
open Go.RowKit
set_option linter.unusedVariables false
set_option linter.unusedSimpArgs false

def treeIn (x : TBase) : TTree := if baseB x = true then btTree x.1 else []
def treeInC (x : TBase) : Int := if baseB x = true then btTreeC x.1 else 1
theorem base_btree {x : TBase} (h : baseB x = true) : btreeB x.1 = true := by
  unfold baseB at h
  simp only [Bool.and_eq_true] at h
  exact h.1.1.1.1.1.1
theorem base_sz {x : TBase} (h : shBase.sz x ≤ 1048576) : shBtree.sz x.1 ≤ 1048576 := by
  have e : shBase.sz x = shBtree.sz x.1 + _ := rfl
  omega
theorem treeIn_yes {x : TBase} (h : baseB x = true) : treeIn x = btTree x.1 := if_pos h
theorem treeIn_no {x : TBase} (h : baseB x = false) : treeIn x = [] := if_neg (by rw [h]; decide)
theorem treeInC_yes {x : TBase} (h : baseB x = true) : treeInC x = btTreeC x.1 := if_pos h
theorem treeInC_no {x : TBase} (h : baseB x = false) : treeInC x = 1 := if_neg (by rw [h]; decide)
theorem cbg_TreeIn (x : TBase) (hn : shBase.sz x ≤ 1048576) : (1 : Int) + (mmTTree.cnt (treeIn x) : Nat) ≤ 1000000000 := by
  cases hb : baseB x
  · rw [treeIn_no hb]; decide
  · rw [treeIn_yes hb]; exact cbg_BtTree x.1 (base_sz hn)
theorem cnt_leL {α : Type} (m : Mk α) (s : Sh α) (c : Nat) (h : ∀ a, m.cnt a ≤ c) (l : List α) : (mkL m).cnt l ≤ c * (shL s).sz l := by
  show (l.map m.cnt).sum ≤ c * (l.length + (l.map s.sz).sum)
  have h1 : (l.map m.cnt).sum ≤ c * l.length := by
    induction l with
    | nil => simp
    | cons a l ih =>
      simp only [List.map_cons, List.sum_cons, List.length_cons]
      have := h a
      rw [Nat.mul_add]
      omega
  exact Nat.le_trans h1 (Nat.mul_le_mul_left _ (Nat.le_add_right _ _))
theorem cnt_DiskL (x : TDisk) : mmTDisk.cnt x ≤ 2 * shDisk.sz x := by
  have e1 : mmTDisk.cnt x = 0 + ((mkL mkS).cnt x.2.1 + (mkL mmPut).cnt x.2.2) := rfl
  have e2 : shDisk.sz x = 0 + ((shL shS).sz x.2.1 + (shL shPut).sz x.2.2) := rfl
  have h1 := cnt_leL mkS shS 2 (fun a => by show 1 ≤ 2; omega) x.2.1
  have h2 := cnt_leL mmPut shPut 2 (fun a => by show 1 + 1 ≤ 2; omega) x.2.2
  omega
theorem cnt_TopL (x : TTop) : mmTTop.cnt x ≤ 2 * shTop.sz x := by
  have e1 : mmTTop.cnt x = 0 + (0 + (0 + (mkL mmSeat).cnt x.2.2.2)) := rfl
  have e2 : shTop.sz x = 0 + (0 + (0 + (shL shSeat).sz x.2.2.2)) := rfl
  have h1 := cnt_leL mmSeat shSeat 2 (fun a => by show 1 + 1 ≤ 2; omega) x.2.2.2
  omega
theorem cnt_Base (x : TBase) (hn : shBase.sz x ≤ 1048576) : mmTBase.cnt x ≤ 8388608 := by
  have e1 : mmTBase.cnt x = mmTBtree.cnt x.1 + ((mmTDisk.cnt x.2.1.1 + (mmTTop.cnt x.2.1.2.1 + (mmTTop.cnt x.2.1.2.2.1 + ((mkL mmSeat).cnt x.2.1.2.2.2.1 + (mkL mkI).cnt x.2.1.2.2.2.2)))) + ((mmTDisk.cnt x.2.2.1.1 + (0 + (0 + (0 + 0)))) + (0 + 0))) := rfl
  have e2 : shBase.sz x = shBtree.sz x.1 + ((shDisk.sz x.2.1.1 + (shTop.sz x.2.1.2.1 + (shTop.sz x.2.1.2.2.1 + ((shL shSeat).sz x.2.1.2.2.2.1 + (shL shI).sz x.2.1.2.2.2.2)))) + ((shDisk.sz x.2.2.1.1 + (0 + (0 + (0 + 0)))) + (0 + 0))) := rfl
  have h0 := cnt_Btree x.1 (base_sz hn)
  have h1 := cnt_DiskL x.2.1.1
  have h2 := cnt_TopL x.2.1.2.1
  have h3 := cnt_TopL x.2.1.2.2.1
  have h4 := cnt_leL mmSeat shSeat 2 (fun a => by show 1 + 1 ≤ 2; omega) x.2.1.2.2.2.1
  have h5 := cnt_leL mkI shI 2 (fun a => by show 1 ≤ 2; omega) x.2.1.2.2.2.2
  have h6 := cnt_DiskL x.2.2.1.1
  omega
set_option maxRecDepth 100000 in
set_option maxHeartbeats 8000000 in
theorem cs0_TreeIn (v : Value) (x : TBase) (w : World) (h : AV shBase w v x) (hn : shBase.sz x ≤ 1048576) : Calls Tryz.prog 35 #[v] w (ToR shTree (treeIn x) (treeInC x) w) := by
  have hv := h
  obtain ⟨cs, rfl, h⟩ := h
  have l0 : cs.length = 24 := good_Base.len h
  have hq : ∃ r A n c, cs.toArray[0]? = some (.int .i64 r) ∧ cs.toArray[1]? = some (.slice A n c) ∧ AV shBtree w (.agg #[.int .i64 r, .slice A n c]) x.1 := by
    obtain ⟨p1, q1, rfl, hT, hR⟩ := open_P h
    obtain ⟨A, c, e, br, b00⟩ := openBtree hT
    subst e
    exact ⟨_, _, _, _, rfl, rfl, _, rfl, hT⟩
  obtain ⟨r, A0, n0, c0, e0, e1, hT⟩ := hq
  clear h
  have ka0 : Bk (w.alloc (.cells cs.toArray 79)) w.heap.size 79 cs.toArray := Bk.new _ _ _
  have ka := ka0.alloc (.cells #[.slice none 0 0] 39)
  have kr : Bk ((w.alloc (.cells cs.toArray 79)).alloc (.cells #[.slice none 0 0] 39)) (w.heap.size + 1) 39 #[.slice none 0 0] := by
    simpa using Bk.new (w.alloc (.cells cs.toArray 79)) 39 #[.slice none 0 0]
  have uu : Up w ((w.alloc (.cells cs.toArray 79)).alloc (.cells #[.slice none 0 0] 39)) := ((Up.refl w).alloc _).alloc _
  have i0 : (Tryz.prog.info? 79).map (·.size) = some cs.length := by rw [l0]; kernel_rfl
  have HC := Lib.hid (cs_BaseOk _ x _ (hv.up good_Base uu) hn)
  go_enter Tryz.func35, Tryz.ntmps35
  go_wp2_with (refine wpList_load_bk cs ka rfl Tryz.underlying79 rfl i0 (by simp) ?_)
  refine HC.out.mono ?_
  rintro e w1 ⟨rfl, u1⟩
  have U1 := uu.trans u1
  have ka1 := ka.up u1
  have kr1 := kr.up u1
  have hk1 := kr1.lt
  cases hb : baseB x
  · have HR := Lib.hid (treeIn_no hb)
    have HQ := Lib.hid (treeInC_no hb)
    have g2 : w1.cell? ⟨w.heap.size + 1, 0, none⟩ = some (.slice none 0 0) := kr1.cell 0
    have f2 := kr1.frozen 0
    clear hb HC
    go_wp2_with fail
    refine bodyPost_ret (v := .tuple #[.agg #[.slice none 0 0], .int .i64 1]) (by simp [results, Tryz.results35, go_sem, g2]) rfl ?_
    exact toR_eq HR HQ (zeroTree _ _ _ (U1.setCell (by simp) _))
  · have HR := Lib.hid (treeIn_yes hb)
    have HQ := Lib.hid (treeInC_yes hb)
    have CT := Lib.hid (c_l16Tree _ x.1 w1 (hT.up good_Btree U1) (base_btree hb))
    rw [← HR.out, ← HQ.out] at CT
    have g0 : w1.cell? ⟨w.heap.size, 0, none⟩ = some (.int .i64 r) := (ka1.cell 0).trans e0
    have g1 : w1.cell? ⟨w.heap.size, 1, none⟩ = some (.slice A0 n0 c0) := (ka1.cell 1).trans e1
    clear hb HC e0 e1
    go_wp2_with fail
    refine CT.out.mono ?_
    rintro e w2 ⟨cs2, bl2, rfl, o2, nd2, u2⟩
    obtain ⟨D2, d2, bq, rfl, hbl, so2⟩ := openOTree o2
    have kr2 := kr1.up u2
    have g2 : w2.cell? ⟨w.heap.size + 1, 0, none⟩ = some (.slice none 0 0) := kr2.cell 0
    have f2 := kr2.frozen 0
    have bt := But.set w2 (w.heap.size + 1) 0 (.slice D2 (treeIn x).length d2)
    have o3 := good_Tree.own_keep o2 (fun b hb => bt.block b (by have := (good_Tree.own_in o2 b hb).1; omega))
    have z1 := U1.size
    clear g0 g1 so2
    go_wp2_with fail
    refine bodyPost_ret (v := .tuple #[.agg #[.slice D2 (treeIn x).length d2], .int .i64 (treeInC x)]) (by simp [results, Tryz.results35, go_sem, g2]) rfl ?_
    exact ⟨_, bl2, rfl, good_Tree.own_wide o3 z1 (by rw [bt.size]; exact Nat.le_refl _), nd2, (U1.trans u2).but bt (by omega)⟩
theorem cs_TreeIn (v : Value) (x : TBase) (w : World) (h : AV shBase w v x) (hn : shBase.sz x ≤ 1048576) : Calls Tryz.prog 35 #[v] w (RpR shTree (treeIn x) (treeInC x) w) :=
  (cs0_TreeIn v x w h hn).mono fun _ _ hh => hh.rp good_Tree
set_option maxRecDepth 100000 in
set_option maxHeartbeats 8000000 in
theorem ci_TreeIn (v : Value) (x : TBase) (w : World) (h : AV shBase w v x) (hn : shBase.sz x ≤ 1048576) (htab : Tab w) (hm : MaxL w) : Calls Tryz.prog 37 #[v] w (ToR shTree (treeIn x) (treeInC x) w) := by
  have hv := h
  obtain ⟨cs, rfl, h⟩ := h
  have l0 : cs.length = 24 := good_Base.len h
  have hq : ∃ r A n c, cs.toArray[0]? = some (.int .i64 r) ∧ cs.toArray[1]? = some (.slice A n c) ∧ AV shBtree w (.agg #[.int .i64 r, .slice A n c]) x.1 := by
    obtain ⟨p1, q1, rfl, hT, hR⟩ := open_P h
    obtain ⟨A, c, e, br, b00⟩ := openBtree hT
    subst e
    exact ⟨_, _, _, _, rfl, rfl, _, rfl, hT⟩
  obtain ⟨r, A0, n0, c0, e0, e1, hT⟩ := hq
  clear h
  have ka0 : Bk (w.alloc (.cells cs.toArray 79)) w.heap.size 79 cs.toArray := Bk.new _ _ _
  have ka := ka0.alloc (.cells #[.slice none 0 0] 39)
  have kr : Bk ((w.alloc (.cells cs.toArray 79)).alloc (.cells #[.slice none 0 0] 39)) (w.heap.size + 1) 39 #[.slice none 0 0] := by
    simpa using Bk.new (w.alloc (.cells cs.toArray 79)) 39 #[.slice none 0 0]
  have uu : Up w ((w.alloc (.cells cs.toArray 79)).alloc (.cells #[.slice none 0 0] 39)) := ((Up.refl w).alloc _).alloc _
  have i0 : (Tryz.prog.info? 79).map (·.size) = some cs.length := by rw [l0]; kernel_rfl
  have HC := Lib.hid (ci_BaseOk _ x _ (hv.up good_Base uu) hn (tab_up htab uu) (maxL_up hm uu))
  go_enter Tryz.func37, Tryz.ntmps37
  go_wp2_with (refine wpList_load_bk cs ka rfl Tryz.underlying79 rfl i0 (by simp) ?_)
  refine HC.out.mono ?_
  rintro e w1 ⟨rfl, u1⟩
  have U1 := uu.trans u1
  have ka1 := ka.up u1
  have kr1 := kr.up u1
  have hk1 := kr1.lt
  cases hb : baseB x
  · have HR := Lib.hid (treeIn_no hb)
    have HQ := Lib.hid (treeInC_no hb)
    have g2 : w1.cell? ⟨w.heap.size + 1, 0, none⟩ = some (.slice none 0 0) := kr1.cell 0
    have f2 := kr1.frozen 0
    clear hb HC
    go_wp2_with fail
    refine bodyPost_ret (v := .tuple #[.agg #[.slice none 0 0], .int .i64 1]) (by simp [results, Tryz.results37, go_sem, g2]) rfl ?_
    exact toR_eq HR HQ (zeroTree _ _ _ (U1.setCell (by simp) _))
  · have HR := Lib.hid (treeIn_yes hb)
    have HQ := Lib.hid (treeInC_yes hb)
    have CT := Lib.hid (ci_BtTree _ x.1 w1 (hT.up good_Btree U1) (base_sz hn) (tab_up htab U1) (maxL_up hm U1))
    rw [← HR.out, ← HQ.out] at CT
    have g0 : w1.cell? ⟨w.heap.size, 0, none⟩ = some (.int .i64 r) := (ka1.cell 0).trans e0
    have g1 : w1.cell? ⟨w.heap.size, 1, none⟩ = some (.slice A0 n0 c0) := (ka1.cell 1).trans e1
    clear hb HC e0 e1
    go_wp2_with fail
    refine CT.out.mono ?_
    rintro e w2 ⟨cs2, bl2, rfl, o2, nd2, u2⟩
    obtain ⟨D2, d2, bq, rfl, hbl, so2⟩ := openOTree o2
    have kr2 := kr1.up u2
    have g2 : w2.cell? ⟨w.heap.size + 1, 0, none⟩ = some (.slice none 0 0) := kr2.cell 0
    have f2 := kr2.frozen 0
    have bt := But.set w2 (w.heap.size + 1) 0 (.slice D2 (treeIn x).length d2)
    have o3 := good_Tree.own_keep o2 (fun b hb => bt.block b (by have := (good_Tree.own_in o2 b hb).1; omega))
    have z1 := U1.size
    clear g0 g1 so2
    go_wp2_with fail
    refine bodyPost_ret (v := .tuple #[.agg #[.slice D2 (treeIn x).length d2], .int .i64 (treeInC x)]) (by simp [results, Tryz.results37, go_sem, g2]) rfl ?_
    exact ⟨_, bl2, rfl, good_Tree.own_wide o3 z1 (by rw [bt.size]; exact Nat.le_refl _), nd2, (U1.trans u2).but bt (by omega)⟩
end Go.Proofs.YtpjcgglhlmifdaaGreatDoor
