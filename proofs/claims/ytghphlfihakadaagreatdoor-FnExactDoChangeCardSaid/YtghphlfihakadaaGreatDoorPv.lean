/-
  PutNode: both sides' contracts.
-/
import Derived.Test.YtghphlfihakadaaGreatDoorPn
import Derived.Test.YtghphlfihakadaaGreatDoorPo
import Derived.Test.YtghphlfihakadaaGreatDoorLm
namespace Go.Proofs.YtghphlfihakadaaGreatDoor
open Go.RowKit
set_option linter.unusedVariables false
set_option linter.unusedSimpArgs false

theorem subs_len {s : ByteArray} {xs : List ByteArray} (h : placeB s xs = true) : xs.length ≤ 4 := by
  simp only [placeB, Bool.and_eq_true] at h
  have hs : SubsP xs := of_decide_eq_true h.2
  exact hs.1
theorem nodeB_place {n : TNode} (h : nodeB n = true) : placeB n.1 n.2.1 = true := by
  simp only [nodeB, Bool.and_eq_true] at h
  exact h.1
theorem treeP_subs {x : TTree} (h : TreeP x) : ∀ i (hi : i < x.length), x[i].2.1.length ≤ 1048576 := fun i hi => by
  have := subs_len (nodeB_place (h.2 i hi).1)
  omega
def putNodeC (x : TTree) (s : ByteArray) (ys : List ByteArray) (val : ByteArray) : Int := if treeB x = true ∧ placeB s ys = true ∧ val.size ≤ 64 then putC x (s, ys) else 1
def putNode (x : TTree) (s : ByteArray) (ys : List ByteArray) (val : ByteArray) : TTree := if putNodeC x s ys val = 0 then putT x (s, ys) val else []
theorem putNode_no {x : TTree} {s : ByteArray} {ys : List ByteArray} {val : ByteArray} (h : ¬ (treeB x = true ∧ placeB s ys = true ∧ val.size ≤ 64)) : Hid (putNode x s ys val = []) ∧ Hid (putNodeC x s ys val = 1) := by
  have hc : putNodeC x s ys val = 1 := by unfold putNodeC; rw [if_neg h]
  exact ⟨by unfold Hid putNode; rw [hc]; rfl, hc⟩
theorem putNode_yes {x : TTree} {s : ByteArray} {ys : List ByteArray} {val : ByteArray} (h : treeB x = true ∧ placeB s ys = true ∧ val.size ≤ 64) : Hid (putNode x s ys val = putR x (s, ys) val) ∧ Hid (putNodeC x s ys val = putC x (s, ys)) := by
  have hc : putNodeC x s ys val = putC x (s, ys) := by unfold putNodeC; rw [if_pos h]
  exact ⟨by unfold Hid putNode putR; rw [hc], hc⟩
/-- The zero tree and a code, out of the result's block. -/
theorem putNode_P {x : TTree} {s : ByteArray} {ys : List ByteArray} {val : ByteArray} : TreeP (putNode x s ys val) := by
  unfold putNode
  split
  · rename_i h
    unfold putNodeC at h
    split at h
    · rename_i h2
      exact putT_P (treeP_of h2.1) h2.2.1 h2.2.2 (putC_ok h)
    · cases h
  · exact treeP_nil
theorem cnt_nodes (x : List TNode) : (mkL mmNode).cnt x ≤ 2 * (shL shNode).sz x := by
  show (x.map mmNode.cnt).sum ≤ 2 * (x.length + (x.map shNode.sz).sum)
  induction x with
  | nil => simp
  | cons n x ih =>
    have h1 : mmNode.cnt n = 1 + ((n.2.1.map mkS.cnt).sum + 1) := rfl
    have h2 : shNode.sz n = n.1.size + ((n.2.1.length + (n.2.1.map shS.sz).sum) + n.2.2.size) := rfl
    have h3 : (n.2.1.map mkS.cnt).sum = n.2.1.length := by
      generalize n.2.1 = l
      induction l with
      | nil => rfl
      | cons a l ih => simp only [List.map_cons, List.sum_cons, List.length_cons, ih]; show 1 + l.length = _; omega
    simp only [List.map_cons, List.sum_cons, List.length_cons]
    omega
theorem cnt_Tree (x : TTree) (hn : shTree.sz x ≤ 1048576) : mmTTree.cnt x ≤ 2097152 := by
  have h := cnt_nodes x
  have e : (shL shNode).sz x = shTree.sz x := rfl
  show (mkL mmNode).cnt x ≤ _
  omega
theorem cnt_StringS (x : List ByteArray) (hn : (shL shS).sz x ≤ 1048576) : (mkL mkS).cnt x ≤ 1048576 := by
  have h3 : (mkL mkS).cnt x = x.length := by
    show (x.map mkS.cnt).sum = _
    clear hn
    induction x with
    | nil => rfl
    | cons a l ih => simp only [List.map_cons, List.sum_cons, List.length_cons, ih]; show 1 + l.length = _; omega
  have h2 : (shL shS).sz x = x.length + (x.map shS.sz).sum := rfl
  omega
theorem cnt_right {x : TTree} (h : TreeP x) : mmTTree.cnt x ≤ 720 := by
  have h1 := (treeP_iff.1 h).2.1
  have h2 := h.1
  suffices hs : (x.map mmNode.cnt).sum ≤ 6 * x.length by
    show (x.map mmNode.cnt).sum ≤ _
    omega
  clear h h2
  induction x with
  | nil => simp
  | cons n x ih =>
    have h1' := subs_len (nodeB_place (h1 n (by simp)))
    have ih' := ih (fun m hm => h1 m (by simp [hm]))
    have e1 : mmNode.cnt n = 1 + ((n.2.1.map mkS.cnt).sum + 1) := rfl
    have e3 : (n.2.1.map mkS.cnt).sum = n.2.1.length := by
      generalize n.2.1 = l
      induction l with
      | nil => rfl
      | cons a l ih => simp only [List.map_cons, List.sum_cons, List.length_cons, ih]; show 1 + l.length = _; omega
    simp only [List.map_cons, List.sum_cons, List.length_cons]
    omega
theorem cbg_PutNode (x : TTree) (hn : shTree.sz x ≤ 1048576) (s : ByteArray) (hs : s.size ≤ 1048576) (ys : List ByteArray) (hy : (shL shS).sz ys ≤ 1048576) (val : ByteArray) (hv : val.size ≤ 1048576) : (1 : Int) + (mmTTree.cnt (putNode x s ys val) : Nat) ≤ 1000000000 := by
  have := cnt_right (putNode_P (x := x) (s := s) (ys := ys) (val := val))
  omega
set_option maxRecDepth 100000 in
set_option maxHeartbeats 8000000 in
theorem cs_PutNode (v : Value) (x : TTree) (s : ByteArray) (B : Option Addr) (d : Nat) (ys : List ByteArray) (val : ByteArray) (w : World) (h : AV shTree w v x) (hn : shTree.sz x ≤ 1048576) (hs : s.size ≤ maxLen) (hs2 : s.size ≤ 1048576) (k : SRW shS w B d ys) (hy : (shL shS).sz ys ≤ 1048576) (hv : val.size ≤ maxLen) (hv2 : val.size ≤ 1048576) :
    Calls Tryz.prog 29 #[v, .string s, .slice B ys.length d, .string val] w (RpR shTree (putNode x s ys val) (putNodeC x s ys val) w) := by
  refine Calls.mono ?_ (fun _ _ hh => ToR.rp good_Tree hh)
  have hvv := h
  obtain ⟨cs, rfl, h⟩ := h
  obtain ⟨A0, c0, rfl, b00⟩ := openTree h
  clear h
  have ka0 : Bk ((w.alloc (.cells #[.slice A0 x.length c0] 36)).alloc (.cells #[.slice none 0 0] 36)) w.heap.size 36 #[.slice A0 x.length c0] := (Bk.new _ _ _).alloc _
  have kr0 : Bk ((w.alloc (.cells #[.slice A0 x.length c0] 36)).alloc (.cells #[.slice none 0 0] 36)) (w.heap.size + 1) 36 #[.slice none 0 0] := by simpa using Bk.new (w.alloc (.cells #[.slice A0 x.length c0] 36)) 36 #[.slice none 0 0]
  have uu0 : Up w ((w.alloc (.cells #[.slice A0 x.length c0] 36)).alloc (.cells #[.slice none 0 0] 36)) := ((Up.refl w).alloc _).alloc _
  have ga0 := ka0.cell 0
  have gr0 := kr0.cell 0
  have fr0 := kr0.frozen 0
  have ct := fun W (hW : Up w W) => c_specTreeOk _ x W (hvv.up good_Tree hW) hn
  have cl := fun W (hW : Up w W) => c_l03Place s ys B d W hs (k.up good_S hW)
  have hvs : (val.size : Int) ≤ 1048576 := by omega
  cases ht : treeB x
  · obtain ⟨HR, HC⟩ := putNode_no (s := s) (ys := ys) (val := val) (x := x) (by simp [ht])
    rw [ht] at ct
    have CT := Lib.hid ct
    clear ct cl
    go_enter Tryz.func29, Tryz.ntmps29
    go_wp2_with fail
    refine (CT.out _ uu0).mono ?_
    rintro e w1 ⟨rfl, u1⟩
    have kr1 := kr0.up u1
    have gr1 := kr1.cell 0
    have fr1 := kr1.frozen 0
    go_wp2_with fail
    refine bodyPost_ret (v := .tuple #[.agg #[.slice none 0 0], .int .i64 1]) (by simp [results, Tryz.results29, go_sem, gr1]) rfl ?_
    exact toR_eq HR HC (zeroTree _ _ _ ((uu0.trans u1).setCell (by simp) _))
  cases hp : placeB s ys
  · obtain ⟨HR, HC⟩ := putNode_no (s := s) (ys := ys) (val := val) (x := x) (by simp [hp])
    rw [ht] at ct
    rw [hp] at cl
    have CT := Lib.hid ct
    have CL := Lib.hid cl
    clear ct cl
    go_enter Tryz.func29, Tryz.ntmps29
    go_wp2_with fail
    refine (CT.out _ uu0).mono ?_
    rintro e w1 ⟨rfl, u1⟩
    go_wp2_with fail
    refine (CL.out _ (uu0.trans u1)).mono ?_
    rintro e w2 ⟨rfl, u2⟩
    have kr2 := (kr0.up u1).up u2
    have gr2 := kr2.cell 0
    have fr2 := kr2.frozen 0
    go_wp2_with fail
    refine bodyPost_ret (v := .tuple #[.agg #[.slice none 0 0], .int .i64 1]) (by simp [results, Tryz.results29, go_sem, gr2]) rfl ?_
    exact toR_eq HR HC (zeroTree _ _ _ (((uu0.trans u1).trans u2).setCell (by simp) _))
  rw [ht] at ct
  rw [hp] at cl
  have CT := Lib.hid ct
  have CL := Lib.hid cl
  clear ct cl
  by_cases h64 : val.size ≤ 64
  · obtain ⟨HR, HC⟩ := putNode_yes (s := s) (ys := ys) (val := val) (x := x) ⟨ht, hp, h64⟩
    have hTP := treeP_of ht
    have cput := fun W (hW : Up w W) => c_l03Put x _ s ys B d val W (hvv.up good_Tree hW) (k.up good_S hW) hs hv (by have := hTP.1; omega) (treeP_subs hTP) (by have := subs_len hp; omega)
    have CPUT := Lib.hid cput
    clear cput ht hp hTP
    go_enter Tryz.func29, Tryz.ntmps29
    go_wp2_with fail
    refine (CT.out _ uu0).mono ?_
    rintro e w1 ⟨rfl, u1⟩
    go_wp2_with fail
    refine (CL.out _ (uu0.trans u1)).mono ?_
    rintro e w2 ⟨rfl, u2⟩
    have ga2 : w2.cell? ⟨w.heap.size, 0, none⟩ = some (.slice A0 x.length c0) := ((ka0.up u1).up u2).cell 0
    have uu2 := (uu0.trans u1).trans u2
    go_wp2_with fail
    refine (CPUT.out _ uu2).mono ?_
    rintro e w3 ⟨cs3, bl3, rfl, o3, nd3, u3⟩
    obtain ⟨D3, d3, _, rfl, rfl, o4⟩ := openOTree o3
    have kr3 := ((kr0.up u1).up u2).up u3
    have gr3 := kr3.cell 0
    have fr3 := kr3.frozen 0
    have hk2 := ((kr0.up u1).up u2).lt
    go_wp2_with fail
    have z4 := (o4.set good_Node (w.heap.size + 1) 0 [.slice D3 (putR x (s, ys) val).length d3] hk2).wide good_Node (lo' := w.heap.size) (by omega) (Nat.le_refl _)
    refine bodyPost_ret (v := .tuple #[.agg #[.slice D3 (putR x (s, ys) val).length d3], .int .i64 (putC x (s, ys))]) (by simp [results, Tryz.results29, go_sem, gr3]) rfl ?_
    exact toR_eq HR HC ⟨[.slice D3 (putR x (s, ys) val).length d3], _, rfl, mkOTree z4, nd3, (uu2.trans u3).setCell (by simp) _⟩
  · obtain ⟨HR, HC⟩ := putNode_no (s := s) (ys := ys) (val := val) (x := x) (by simp [h64])
    clear ht hp
    go_enter Tryz.func29, Tryz.ntmps29
    go_wp2_with fail
    refine (CT.out _ uu0).mono ?_
    rintro e w1 ⟨rfl, u1⟩
    go_wp2_with fail
    refine (CL.out _ (uu0.trans u1)).mono ?_
    rintro e w2 ⟨rfl, u2⟩
    have kr2 := (kr0.up u1).up u2
    have gr2 := kr2.cell 0
    have fr2 := kr2.frozen 0
    go_wp2_with fail
    refine bodyPost_ret (v := .tuple #[.agg #[.slice none 0 0], .int .i64 1]) (by simp [results, Tryz.results29, go_sem, gr2]) rfl ?_
    exact toR_eq HR HC (zeroTree _ _ _ (((uu0.trans u1).trans u2).setCell (by simp) _))
theorem putC_cases (x : TTree) (l : TLoc) : putC x l = 0 ∨ putC x l = 4 := by unfold putC; split <;> simp
theorem OTp.res {lo : Nat} {w0 w w' : World} {g : Nat} {bl : List Nat} {x : TTree} (h : OTp lo w g bl x w') : ∃ A c bl', Bk w' g 36 #[.slice A x.length c] ∧ SO shNode w' lo w'.heap.size A c x bl' ∧ bl'.Nodup ∧ g ∉ bl' ∧ Only (g :: bl) w w' := by
  obtain ⟨bl', ⟨A, c, h1, h2, h3, h4⟩, _, h5⟩ := h
  exact ⟨A, c, bl', h1, h2, h3, h4, h5⟩
set_option maxRecDepth 100000 in
set_option maxHeartbeats 8000000 in
theorem ci_PutNode (v : Value) (x : TTree) (s : ByteArray) (B : Option Addr) (d : Nat) (ys : List ByteArray) (val : ByteArray) (w : World) (h : AV shTree w v x) (hn : shTree.sz x ≤ 1048576) (hs : s.size ≤ maxLen) (hs2 : s.size ≤ 1048576) (k : SRW shS w B d ys) (hy : (shL shS).sz ys ≤ 1048576) (hv : val.size ≤ maxLen) (hv2 : val.size ≤ 1048576) (htab : Tab w) :
    Calls Tryz.prog 31 #[v, .string s, .slice B ys.length d, .string val] w (ToR shTree (putNode x s ys val) (putNodeC x s ys val) w) := by
  have hvv := h
  obtain ⟨cs, rfl, h⟩ := h
  obtain ⟨A0, c0, rfl, b00⟩ := openTree h
  clear h
  have ka0 : Bk ((w.alloc (.cells #[.slice A0 x.length c0] 36)).alloc (.cells #[.slice none 0 0] 36)) w.heap.size 36 #[.slice A0 x.length c0] := (Bk.new _ _ _).alloc _
  have kr0 : Bk ((w.alloc (.cells #[.slice A0 x.length c0] 36)).alloc (.cells #[.slice none 0 0] 36)) (w.heap.size + 1) 36 #[.slice none 0 0] := by simpa using Bk.new (w.alloc (.cells #[.slice A0 x.length c0] 36)) 36 #[.slice none 0 0]
  have uu0 : Up w ((w.alloc (.cells #[.slice A0 x.length c0] 36)).alloc (.cells #[.slice none 0 0] 36)) := ((Up.refl w).alloc _).alloc _
  have ga0 := ka0.cell 0
  have gr0 := kr0.cell 0
  have fr0 := kr0.frozen 0
  have ct := fun W (hW : Up w W) => c_implTreeOk _ x W (hvv.up good_Tree hW) hn (tab_up htab hW)
  have cl := fun W (hW : Up w W) => c_locationOk s ys B d W hs (k.up good_S hW)
  have hvs : (val.size : Int) ≤ 1048576 := by omega
  cases ht : treeB x
  · obtain ⟨HR, HC⟩ := putNode_no (s := s) (ys := ys) (val := val) (x := x) (by simp [ht])
    rw [ht] at ct
    have CT := Lib.hid ct
    clear ct cl
    go_enter Tryz.func31, Tryz.ntmps31
    go_wp2_with fail
    refine (CT.out _ uu0).mono ?_
    rintro e w1 ⟨rfl, u1⟩
    have kr1 := kr0.up u1
    have gr1 := kr1.cell 0
    have fr1 := kr1.frozen 0
    go_wp2_with fail
    refine bodyPost_ret (v := .tuple #[.agg #[.slice none 0 0], .int .i64 1]) (by simp [results, Tryz.results31, go_sem, gr1]) rfl ?_
    exact toR_eq HR HC (zeroTree _ _ _ ((uu0.trans u1).setCell (by simp) _))
  cases hp : placeB s ys
  · obtain ⟨HR, HC⟩ := putNode_no (s := s) (ys := ys) (val := val) (x := x) (by simp [hp])
    rw [ht] at ct
    rw [hp] at cl
    have CT := Lib.hid ct
    have CL := Lib.hid cl
    clear ct cl
    go_enter Tryz.func31, Tryz.ntmps31
    go_wp2_with fail
    refine (CT.out _ uu0).mono ?_
    rintro e w1 ⟨rfl, u1⟩
    go_wp2_with fail
    refine (CL.out _ (uu0.trans u1)).mono ?_
    rintro e w2 ⟨rfl, u2⟩
    have kr2 := (kr0.up u1).up u2
    have gr2 := kr2.cell 0
    have fr2 := kr2.frozen 0
    go_wp2_with fail
    refine bodyPost_ret (v := .tuple #[.agg #[.slice none 0 0], .int .i64 1]) (by simp [results, Tryz.results31, go_sem, gr2]) rfl ?_
    exact toR_eq HR HC (zeroTree _ _ _ (((uu0.trans u1).trans u2).setCell (by simp) _))
  rw [ht] at ct
  rw [hp] at cl
  have CT := Lib.hid ct
  have CL := Lib.hid cl
  clear ct cl
  by_cases h64 : val.size ≤ 64
  · obtain ⟨HR, HC⟩ := putNode_yes (s := s) (ys := ys) (val := val) (x := x) ⟨ht, hp, h64⟩
    have hTP := treeP_of ht
    have hps := placeB_small hp
    have hpl := subs_len hp
    have cc := fun W (hW : Up w W) => c_copyTree _ x W (hvv.up good_Tree hW) (by have := hTP.1; omega) (treeP_subs hTP)
    have CC := Lib.hid cc
    have HTP := Lib.hid hTP
    have HPS := Lib.hid hps
    clear cc ht hp hTP hps
    rcases putC_cases x (s, ys) with hc | hc
    · have HP0 := Lib.hid hc
      rw [hc] at HC
      go_enter Tryz.func31, Tryz.ntmps31
      go_wp2_with fail
      refine (CT.out _ uu0).mono ?_
      rintro e w1 ⟨rfl, u1⟩
      go_wp2_with fail
      refine (CL.out _ (uu0.trans u1)).mono ?_
      rintro e w2 ⟨rfl, u2⟩
      have ga2 : w2.cell? ⟨w.heap.size, 0, none⟩ = some (.slice A0 x.length c0) := ((ka0.up u1).up u2).cell 0
      have uu2 := (uu0.trans u1).trans u2
      go_wp2_with fail
      refine (CC.out _ uu2).mono ?_
      rintro e w3 ⟨cs3, bl3, rfl, o3, nd3, u3⟩
      obtain ⟨D3, d3, _, rfl, rfl, o4⟩ := openOTree o3
      have kr3 := ((kr0.up u1).up u2).up u3
      have hk2 := ((kr0.up u1).up u2).lt
      have u3a : Up w3 (w3.alloc (.cells #[.slice D3 x.length d3] 36)) := (Up.refl w3).alloc _
      have hin3 := o4.in_ good_Node
      have hot : OT w2.heap.size (w3.alloc (.cells #[.slice D3 x.length d3] 36)) w3.heap.size x bl3 := ⟨D3, d3, Bk.new _ _ _, o4.up good_Node u3a, nd3, fun hm => by have := (hin3 _ hm).2; omega⟩
      have uu3 := (uu2.trans u3).trans u3a
      go_wp2_with fail
      refine (c_put w3.heap.size x bl3 w2.heap.size _ hot (Nat.le_trans u3.size u3a.size) HTP.out s ys B d val (k.up good_S uu3) hs HPS.out (by omega) hv (tab_up htab uu3)).mono ?_
      rintro e w4 ⟨rfl, hop⟩
      rw [HP0.out]
      obtain ⟨A4, c4, bl4, hbk4, so4, nd4, hg4, on4⟩ := hop.res (w0 := w)
      have hlow : ∀ y ∈ w3.heap.size :: bl3, w2.heap.size ≤ y := fun y hy => by
        rcases List.mem_cons.1 hy with rfl | hy
        · exact u3.size
        · exact (hin3 y hy).1
      have uu4 : Up w w4 := Up.only uu3 on4 (fun y hy => by have := hlow y hy; have := uu2.size; omega)
      have kr4 := (kr3.up u3a).only on4 (fun hm => by have := hlow _ hm; omega)
      have gr4 := kr4.cell 0
      have fr4 := kr4.frozen 0
      have gb4 := hbk4.cell 0
      have hkk : putK x (s, ys) val = putR x (s, ys) val := by unfold putK putR; rw [HP0.out, if_pos rfl, if_pos rfl]
      rw [hkk] at hbk4 so4 gb4
      have hw2 := uu2.size
      go_wp2_with fail
      have z4 := (so4.set good_Node (w.heap.size + 1) 0 [.slice A4 (putR x (s, ys) val).length c4] hk2).wide good_Node (lo' := w.heap.size) (by omega) (Nat.le_refl _)
      refine bodyPost_ret (v := .tuple #[.agg #[.slice A4 (putR x (s, ys) val).length c4], .int .i64 0]) (by simp [results, Tryz.results31, go_sem, gr4]) rfl ?_
      exact toR_eq HR HC ⟨[.slice A4 (putR x (s, ys) val).length c4], _, rfl, mkOTree z4, nd4, uu4.setCell (by simp) _⟩
    · have HP0 := Lib.hid hc
      have hr0 : putR x (s, ys) val = [] := by unfold putR; rw [hc]; rfl
      rw [hc] at HC
      rw [hr0] at HR
      clear hc hr0
      go_enter Tryz.func31, Tryz.ntmps31
      go_wp2_with fail
      refine (CT.out _ uu0).mono ?_
      rintro e w1 ⟨rfl, u1⟩
      go_wp2_with fail
      refine (CL.out _ (uu0.trans u1)).mono ?_
      rintro e w2 ⟨rfl, u2⟩
      have ga2 : w2.cell? ⟨w.heap.size, 0, none⟩ = some (.slice A0 x.length c0) := ((ka0.up u1).up u2).cell 0
      have uu2 := (uu0.trans u1).trans u2
      go_wp2_with fail
      refine (CC.out _ uu2).mono ?_
      rintro e w3 ⟨cs3, bl3, rfl, o3, nd3, u3⟩
      obtain ⟨D3, d3, _, rfl, rfl, o4⟩ := openOTree o3
      have kr3 := ((kr0.up u1).up u2).up u3
      have hk2 := ((kr0.up u1).up u2).lt
      have u3a : Up w3 (w3.alloc (.cells #[.slice D3 x.length d3] 36)) := (Up.refl w3).alloc _
      have hin3 := o4.in_ good_Node
      have hot : OT w2.heap.size (w3.alloc (.cells #[.slice D3 x.length d3] 36)) w3.heap.size x bl3 := ⟨D3, d3, Bk.new _ _ _, o4.up good_Node u3a, nd3, fun hm => by have := (hin3 _ hm).2; omega⟩
      have uu3 := (uu2.trans u3).trans u3a
      go_wp2_with fail
      refine (c_put w3.heap.size x bl3 w2.heap.size _ hot (Nat.le_trans u3.size u3a.size) HTP.out s ys B d val (k.up good_S uu3) hs HPS.out (by omega) hv (tab_up htab uu3)).mono ?_
      rintro e w4 ⟨rfl, hop⟩
      rw [HP0.out]
      obtain ⟨A4, c4, bl4, hbk4, so4, nd4, hg4, on4⟩ := hop.res (w0 := w)
      have hlow : ∀ y ∈ w3.heap.size :: bl3, w2.heap.size ≤ y := fun y hy => by
        rcases List.mem_cons.1 hy with rfl | hy
        · exact u3.size
        · exact (hin3 y hy).1
      have uu4 : Up w w4 := Up.only uu3 on4 (fun y hy => by have := hlow y hy; have := uu2.size; omega)
      have kr4 := (kr3.up u3a).only on4 (fun hm => by have := hlow _ hm; omega)
      have gr4 := kr4.cell 0
      have fr4 := kr4.frozen 0
      go_wp2_with fail
      refine bodyPost_ret (v := .tuple #[.agg #[.slice none 0 0], .int .i64 4]) (by simp [results, Tryz.results31, go_sem, gr4]) rfl ?_
      exact toR_eq HR HC (zeroTree _ _ _ (uu4.setCell (by simp) _))
  · obtain ⟨HR, HC⟩ := putNode_no (s := s) (ys := ys) (val := val) (x := x) (by simp [h64])
    clear ht hp
    go_enter Tryz.func31, Tryz.ntmps31
    go_wp2_with fail
    refine (CT.out _ uu0).mono ?_
    rintro e w1 ⟨rfl, u1⟩
    go_wp2_with fail
    refine (CL.out _ (uu0.trans u1)).mono ?_
    rintro e w2 ⟨rfl, u2⟩
    have kr2 := (kr0.up u1).up u2
    have gr2 := kr2.cell 0
    have fr2 := kr2.frozen 0
    go_wp2_with fail
    refine bodyPost_ret (v := .tuple #[.agg #[.slice none 0 0], .int .i64 1]) (by simp [results, Tryz.results31, go_sem, gr2]) rfl ?_
    exact toR_eq HR HC (zeroTree _ _ _ (((uu0.trans u1).trans u2).setCell (by simp) _))
end Go.Proofs.YtghphlfihakadaaGreatDoor
