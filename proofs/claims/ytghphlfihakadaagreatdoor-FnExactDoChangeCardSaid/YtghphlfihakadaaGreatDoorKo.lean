/-
  DoChange: the program's side, and both in the form of the law's walk.
-/
import Derived.Test.YtghphlfihakadaaGreatDoorKn
namespace Go.Proofs.YtghphlfihakadaaGreatDoor
open Go.RowKit
set_option linter.unusedVariables false
set_option linter.unusedSimpArgs false

theorem cs_DoChange (v : Value) (x : TTree) (u : Value) (c : TChange) (w : World) (h : AV shTree w v x) (hn : shTree.sz x ≤ 1048576) (k : AV shChange w u c) (hk : shChange.sz c ≤ 1048576) :
    Calls Tryz.prog 39 #[v, u] w (RpR shTree (doChange x c) (doChangeC x c) w) :=
  (c_specDoChange v x u c w h hn k).mono (fun _ _ hh => ToR.rp good_Tree hh)
theorem cbg_DoChange (x : TTree) (hn : shTree.sz x ≤ 1048576) (c : TChange) (hc : shChange.sz c ≤ 1048576) : (1 : Int) + (mmTTree.cnt (doChange x c) : Nat) ≤ 1000000000 := by
  have := cnt_right (doChange_P (x := x) (c := c))
  omega
theorem cnt_Change (c : TChange) (hn : shChange.sz c ≤ 1048576) : mmTChange.cnt c ≤ 1048576 := by
  have e1 : mmTChange.cnt c = 0 + (0 + ((c.2.2.1.map mkS.cnt).sum + 0)) := rfl
  have e2 : shChange.sz c = 0 + (c.2.1.size + ((c.2.2.1.length + (c.2.2.1.map shS.sz).sum) + c.2.2.2.size)) := rfl
  have e3 : (c.2.2.1.map mkS.cnt).sum = c.2.2.1.length := by
    generalize c.2.2.1 = l
    induction l with
    | nil => rfl
    | cons a l ih => simp only [List.map_cons, List.sum_cons, List.length_cons, ih]; show 1 + l.length = _; omega
  omega
set_option maxRecDepth 100000 in
set_option maxHeartbeats 8000000 in
theorem ci_DoChange (v : Value) (x : TTree) (u : Value) (c : TChange) (w : World) (h : AV shTree w v x) (hn : shTree.sz x ≤ 1048576) (k : AV shChange w u c) (hk2 : shChange.sz c ≤ 1048576) (htab : Tab w) :
    Calls Tryz.prog 41 #[v, u] w (ToR shTree (doChange x c) (doChangeC x c) w) := by
  have hvv := h
  have hkk := k
  obtain ⟨cs, rfl, h⟩ := h
  obtain ⟨A0, c0, rfl, b00⟩ := openTree h
  clear h
  obtain ⟨n, s, ys, val⟩ := c
  obtain ⟨ds, rfl, k⟩ := k
  obtain ⟨A2, c2, rfl, b0, b1, b2, b3⟩ := openChange k
  dsimp only at b0 b1 b2 b3
  clear k
  obtain ⟨W0, hW0⟩ : ∃ W0, W0 = (((w.alloc (.cells #[.slice A0 x.length c0] 36)).alloc (.cells #[.int .i64 n, .string s, .slice A2 ys.length c2, .string val] 63)).alloc (.cells #[.slice none 0 0] 36)) := ⟨_, rfl⟩
  have u0 : Up w W0 := by rw [hW0]; exact (((Up.refl w).alloc _).alloc _).alloc _
  have ka0 : Bk W0 w.heap.size 36 #[.slice A0 x.length c0] := by rw [hW0]; exact ((Bk.new _ _ _).alloc _).alloc _
  have kc0 : Bk W0 (w.heap.size + 1) 63 #[.int .i64 n, .string s, .slice A2 ys.length c2, .string val] := by
    rw [hW0]
    have := (Bk.new (w.alloc (.cells #[.slice A0 x.length c0] 36)) 63 #[.int .i64 n, .string s, .slice A2 ys.length c2, .string val]).alloc (.cells #[.slice none 0 0] 36)
    simpa using this
  have kr0 : Bk W0 (w.heap.size + 1 + 1) 36 #[.slice none 0 0] := by
    rw [hW0]
    have := Bk.new ((w.alloc (.cells #[.slice A0 x.length c0] 36)).alloc (.cells #[.int .i64 n, .string s, .slice A2 ys.length c2, .string val] 63)) 36 #[.slice none 0 0]
    simpa using this
  have hs0 : W0.heap.size = w.heap.size + 3 := by rw [hW0]; simp
  have ct := fun W (hW : Up w W) => c_implTreeOk _ x W (hvv.up good_Tree hW) hn (tab_up htab hW)
  have cc := fun W (hW : Up w W) => c_implChangeOk (n, s, ys, val) _ W (hkk.up good_Change hW)
  have CTC := Lib.hid ct
  have CCC := Lib.hid cc
  have ga := ka0.cell 0
  have gc0 := kc0.cell 0
  have gc1 := kc0.cell 1
  have gc2 := kc0.cell 2
  have gc3 := kc0.cell 3
  clear ct cc
  cases ht : treeB x
  · obtain ⟨HR, HC⟩ := doChange_no (x := x) (c := (n, s, ys, val)) (by simp [ht])
    have CT := CTC.out
    rw [ht] at CT
    replace CT := Lib.hid CT
    clear CTC CCC ht ga gc0 gc1 gc2 gc3
    go_enter Tryz.func41, Tryz.ntmps41
    go_wp2_with fail
    rw [← hW0]
    refine (CT.out _ u0).mono ?_
    rintro e w1 ⟨rfl, u1⟩
    have kr1 := kr0.up u1
    have gr1 := kr1.cell 0
    have fr1 := kr1.frozen 0
    clear hW0
    go_wp2_with fail
    refine bodyPost_ret (v := .tuple #[.agg #[.slice none 0 0], .int .i64 1]) (by simp [results, Tryz.results41, go_sem, gr1]) rfl ?_
    exact toR_eq HR HC (zeroTree _ _ _ ((u0.trans u1).setCell (by simp; omega) _))
  cases hc : changeB (n, s, ys, val)
  · obtain ⟨HR, HC⟩ := doChange_no (x := x) (c := (n, s, ys, val)) (by simp [hc])
    have CT := CTC.out
    rw [ht] at CT
    replace CT := Lib.hid CT
    have CC := CCC.out
    rw [hc] at CC
    replace CC := Lib.hid CC
    clear CTC CCC ht hc ga gc0 gc1 gc2 gc3
    go_enter Tryz.func41, Tryz.ntmps41
    go_wp2_with fail
    rw [← hW0]
    refine (CT.out _ u0).mono ?_
    rintro e w1 ⟨rfl, u1⟩
    have kc1 := kc0.up u1
    have ec0 : w1.cell? ⟨w.heap.size + 1, 0, none⟩ = some (.int .i64 n) := kc1.cell 0
    have ec1 : w1.cell? ⟨w.heap.size + 1, 1, none⟩ = some (.string s) := kc1.cell 1
    have ec2 : w1.cell? ⟨w.heap.size + 1, 2, none⟩ = some (.slice A2 ys.length c2) := kc1.cell 2
    have ec3 : w1.cell? ⟨w.heap.size + 1, 3, none⟩ = some (.string val) := kc1.cell 3
    clear hW0
    go_wp2_with fail
    refine (CC.out _ (u0.trans u1)).mono ?_
    rintro e w2 ⟨rfl, u2⟩
    have kr2 := (kr0.up u1).up u2
    have gr2 := kr2.cell 0
    have fr2 := kr2.frozen 0
    go_wp2_with fail
    refine bodyPost_ret (v := .tuple #[.agg #[.slice none 0 0], .int .i64 1]) (by simp [results, Tryz.results41, go_sem, gr2]) rfl ?_
    exact toR_eq HR HC (zeroTree _ _ _ (((u0.trans u1).trans u2).setCell (by simp; omega) _))
  · obtain ⟨HR, HC⟩ := doChange_yes (x := x) (c := (n, s, ys, val)) ⟨ht, hc⟩
    have CT := CTC.out
    rw [ht] at CT
    replace CT := Lib.hid CT
    have CC := CCC.out
    rw [hc] at CC
    replace CC := Lib.hid CC
    have hTP := treeP_of ht
    have ccp := fun W (hW : Up w W) => c_copyTree _ x W (hvv.up good_Tree hW) (by have := hTP.1; omega) (treeP_subs hTP)
    have CCP := Lib.hid ccp
    have HTP := Lib.hid hTP
    have HCB := Lib.hid hc
    have hcd := doC_cases x (n, s, ys, val)
    have hdr : doC x (n, s, ys, val) = 0 → doR x (n, s, ys, val) = doK x (n, s, ys, val) := fun e => by unfold doR; rw [if_pos e]
    have hdr4 : doC x (n, s, ys, val) = 4 → doR x (n, s, ys, val) = [] := fun e => by unfold doR; rw [if_neg (by rw [e]; decide)]
    have rc1 : ∀ W (lo : Nat), Up w W → w.heap.size ≤ lo → shChange.rep W 0 lo [.int .i64 n, .string s, .slice A2 ys.length c2, .string val] (n, s, ys, val) := fun W lo hW hlo =>
      good_Change.wide (good_Change.keep (mkChange (x := (n, s, ys, val)) b0 b1 b2 b3) (hW.keeps (Nat.le_refl _))) (Nat.le_refl _) hlo
    have cch := fun (g : Nat) (bl : List Nat) (lo : Nat) W (hW : Up w W) (hlo : w.heap.size ≤ lo) (hlw : lo ≤ W.heap.size) (hot : OT lo W g x bl) => c_change g x bl lo W hot hlw HTP.out (n, s, ys, val) _ HCB.out (rc1 W lo hW hlo) (tab_up htab hW)
    have CCH := Lib.hid cch
    clear CTC CCC ccp hTP ht hc ga gc0 gc1 gc2 gc3 rc1 cch
    generalize doR x (n, s, ys, val) = R at *
    generalize doC x (n, s, ys, val) = Q at *
    generalize doK x (n, s, ys, val) = Y at *
    rcases hcd with rfl | rfl
    · obtain rfl := hdr rfl
      clear hdr hdr4
      go_enter Tryz.func41, Tryz.ntmps41
      go_wp2_with fail
      rw [← hW0]
      refine (CT.out _ u0).mono ?_
      rintro e w1 ⟨rfl, u1⟩
      have kc1 := kc0.up u1
      have ec0 : w1.cell? ⟨w.heap.size + 1, 0, none⟩ = some (.int .i64 n) := kc1.cell 0
      have ec1 : w1.cell? ⟨w.heap.size + 1, 1, none⟩ = some (.string s) := kc1.cell 1
      have ec2 : w1.cell? ⟨w.heap.size + 1, 2, none⟩ = some (.slice A2 ys.length c2) := kc1.cell 2
      have ec3 : w1.cell? ⟨w.heap.size + 1, 3, none⟩ = some (.string val) := kc1.cell 3
      clear hW0
      go_wp2_with fail
      refine (CC.out _ (u0.trans u1)).mono ?_
      rintro e w2 ⟨rfl, u2⟩
      have kc2 := kc1.up u2
      have ga2 : w2.cell? ⟨w.heap.size, 0, none⟩ = some (.slice A0 x.length c0) := ((ka0.up u1).up u2).cell 0
      have uu2 := (u0.trans u1).trans u2
      have hk2' := ((kr0.up u1).up u2).lt
      go_wp2_with fail
      refine (CCP.out _ uu2).mono ?_
      rintro e w3 ⟨cs3, bl3, rfl, o3, nd3, u3⟩
      obtain ⟨D3, d3, _, rfl, rfl, o4⟩ := openOTree o3
      have u3a : Up w3 (w3.alloc (.cells #[.slice D3 x.length d3] 36)) := (Up.refl w3).alloc _
      have kr3 := (((kr0.up u1).up u2).up u3).up u3a
      have kc3 := (kc2.up u3).up u3a
      have dc0 : (w3.alloc (.cells #[.slice D3 x.length d3] 36)).cell? ⟨w.heap.size + 1, 0, none⟩ = some (.int .i64 n) := kc3.cell 0
      have dc1 : (w3.alloc (.cells #[.slice D3 x.length d3] 36)).cell? ⟨w.heap.size + 1, 1, none⟩ = some (.string s) := kc3.cell 1
      have dc2 : (w3.alloc (.cells #[.slice D3 x.length d3] 36)).cell? ⟨w.heap.size + 1, 2, none⟩ = some (.slice A2 ys.length c2) := kc3.cell 2
      have dc3 : (w3.alloc (.cells #[.slice D3 x.length d3] 36)).cell? ⟨w.heap.size + 1, 3, none⟩ = some (.string val) := kc3.cell 3
      have hin3 := o4.in_ good_Node
      have hot : OT w2.heap.size (w3.alloc (.cells #[.slice D3 x.length d3] 36)) w3.heap.size x bl3 := ⟨D3, d3, Bk.new _ _ _, o4.up good_Node u3a, nd3, fun hm => by have := (hin3 _ hm).2; omega⟩
      have uu3 := (uu2.trans u3).trans u3a
      have hw2 := uu2.size
      have hlow : ∀ y ∈ w3.heap.size :: bl3, w2.heap.size ≤ y := fun y hy => by
        rcases List.mem_cons.1 hy with rfl | hy
        · exact u3.size
        · exact (hin3 y hy).1
      go_wp2_with fail
      refine (CCH.out w3.heap.size bl3 w2.heap.size _ uu3 hw2 (Nat.le_trans u3.size u3a.size) hot).mono ?_
      rintro e w4 ⟨rfl, hop⟩
      obtain ⟨A4, c4, bl4, hbk4, so4, nd4, hg4, on4⟩ := hop.res (w0 := w)
      have uu4 : Up w w4 := Up.only uu3 on4 (fun y hy => by have := hlow y hy; omega)
      have kr4 := kr3.only on4 (fun hm => by have := hlow _ hm; omega)
      have gr4 : w4.cell? ⟨w.heap.size + 1 + 1, 0, none⟩ = some (.slice none 0 0) := kr4.cell 0
      have fr4 : w4.frozen? ⟨w.heap.size + 1 + 1, 0, none⟩ = false := kr4.frozen 0
      have gb4 := hbk4.cell 0
      go_wp2_with fail
      have z4 := (so4.set good_Node (w.heap.size + 1 + 1) 0 [.slice A4 R.length c4] hk2').wide good_Node (lo' := w.heap.size) hw2 (Nat.le_refl _)
      refine bodyPost_ret (v := .tuple #[.agg #[.slice A4 R.length c4], .int .i64 0]) (by simp [results, Tryz.results41, go_sem, gr4]) rfl ?_
      exact toR_eq HR HC ⟨[.slice A4 R.length c4], _, rfl, mkOTree z4, nd4, uu4.setCell (by simp; omega) _⟩
    · obtain rfl := hdr4 rfl
      clear hdr hdr4
      go_enter Tryz.func41, Tryz.ntmps41
      go_wp2_with fail
      rw [← hW0]
      refine (CT.out _ u0).mono ?_
      rintro e w1 ⟨rfl, u1⟩
      have kc1 := kc0.up u1
      have ec0 : w1.cell? ⟨w.heap.size + 1, 0, none⟩ = some (.int .i64 n) := kc1.cell 0
      have ec1 : w1.cell? ⟨w.heap.size + 1, 1, none⟩ = some (.string s) := kc1.cell 1
      have ec2 : w1.cell? ⟨w.heap.size + 1, 2, none⟩ = some (.slice A2 ys.length c2) := kc1.cell 2
      have ec3 : w1.cell? ⟨w.heap.size + 1, 3, none⟩ = some (.string val) := kc1.cell 3
      clear hW0
      go_wp2_with fail
      refine (CC.out _ (u0.trans u1)).mono ?_
      rintro e w2 ⟨rfl, u2⟩
      have kc2 := kc1.up u2
      have ga2 : w2.cell? ⟨w.heap.size, 0, none⟩ = some (.slice A0 x.length c0) := ((ka0.up u1).up u2).cell 0
      have uu2 := (u0.trans u1).trans u2
      have hk2' := ((kr0.up u1).up u2).lt
      go_wp2_with fail
      refine (CCP.out _ uu2).mono ?_
      rintro e w3 ⟨cs3, bl3, rfl, o3, nd3, u3⟩
      obtain ⟨D3, d3, _, rfl, rfl, o4⟩ := openOTree o3
      have u3a : Up w3 (w3.alloc (.cells #[.slice D3 x.length d3] 36)) := (Up.refl w3).alloc _
      have kr3 := (((kr0.up u1).up u2).up u3).up u3a
      have kc3 := (kc2.up u3).up u3a
      have dc0 : (w3.alloc (.cells #[.slice D3 x.length d3] 36)).cell? ⟨w.heap.size + 1, 0, none⟩ = some (.int .i64 n) := kc3.cell 0
      have dc1 : (w3.alloc (.cells #[.slice D3 x.length d3] 36)).cell? ⟨w.heap.size + 1, 1, none⟩ = some (.string s) := kc3.cell 1
      have dc2 : (w3.alloc (.cells #[.slice D3 x.length d3] 36)).cell? ⟨w.heap.size + 1, 2, none⟩ = some (.slice A2 ys.length c2) := kc3.cell 2
      have dc3 : (w3.alloc (.cells #[.slice D3 x.length d3] 36)).cell? ⟨w.heap.size + 1, 3, none⟩ = some (.string val) := kc3.cell 3
      have hin3 := o4.in_ good_Node
      have hot : OT w2.heap.size (w3.alloc (.cells #[.slice D3 x.length d3] 36)) w3.heap.size x bl3 := ⟨D3, d3, Bk.new _ _ _, o4.up good_Node u3a, nd3, fun hm => by have := (hin3 _ hm).2; omega⟩
      have uu3 := (uu2.trans u3).trans u3a
      have hw2 := uu2.size
      have hlow : ∀ y ∈ w3.heap.size :: bl3, w2.heap.size ≤ y := fun y hy => by
        rcases List.mem_cons.1 hy with rfl | hy
        · exact u3.size
        · exact (hin3 y hy).1
      go_wp2_with fail
      refine (CCH.out w3.heap.size bl3 w2.heap.size _ uu3 hw2 (Nat.le_trans u3.size u3a.size) hot).mono ?_
      rintro e w4 ⟨rfl, hop⟩
      obtain ⟨A4, c4, bl4, hbk4, so4, nd4, hg4, on4⟩ := hop.res (w0 := w)
      have uu4 : Up w w4 := Up.only uu3 on4 (fun y hy => by have := hlow y hy; omega)
      have kr4 := kr3.only on4 (fun hm => by have := hlow _ hm; omega)
      have gr4 : w4.cell? ⟨w.heap.size + 1 + 1, 0, none⟩ = some (.slice none 0 0) := kr4.cell 0
      have fr4 : w4.frozen? ⟨w.heap.size + 1 + 1, 0, none⟩ = false := kr4.frozen 0
      have gb4 := hbk4.cell 0
      go_wp2_with fail
      refine bodyPost_ret (v := .tuple #[.agg #[.slice none 0 0], .int .i64 4]) (by simp [results, Tryz.results41, go_sem, gr4]) rfl ?_
      exact toR_eq HR HC (zeroTree _ _ _ (uu4.setCell (by simp; omega) _))
end Go.Proofs.YtghphlfihakadaaGreatDoor
