/-
  ImagesOf: both sides.
-/
import Derived.Test.YtehhgogmbpdpbaaGreatDoorM1Mjm
import Derived.Test.YtehhgogmbpdpbaaGreatDoorM1Lm
namespace Go.Proofs.YtehhgogmbpdpbaaGreatDoor
open Go.RowKit
set_option linter.unusedVariables false
set_option linter.unusedSimpArgs false

theorem doChanges_ok {x : TTree} {l : List TChange} (h : (doChanges x l).2 = 0) : treeB x = true := by
  unfold doChanges at h
  cases ht : treeB x
  · rw [if_pos ht] at h
    exact absurd h (by decide)
  · rfl
theorem images_no {x : TTree} {l : List TChange} (h : ¬ (doChanges x l).2 = 0) : imagesOf x l = [] := by unfold imagesOf; rw [if_neg h]
theorem images_yes {x : TTree} {l : List TChange} (h : (doChanges x l).2 = 0) : imagesOf x l = imgs x (doChanges x l).1 := by unfold imagesOf; rw [if_pos h]
set_option maxRecDepth 100000 in
set_option maxHeartbeats 8000000 in
theorem cs_ImagesOf (v : Value) (x : TTree) (B : Option Addr) (d : Nat) (l : List TChange) (w : World) (h : AV shTree w v x) (hn : shTree.sz x ≤ 1048576) (k : SRW shChange w B d l) (hl : (shL shChange).sz l ≤ 1048576) :
    Calls Tryz.prog 8 #[v, .slice B l.length d] w (RpLR shImage (imagesOf x l) (imagesC x l) w) := by
  have hvv := h
  obtain ⟨cs, rfl, h⟩ := h
  obtain ⟨A0, c0, rfl, b00⟩ := openTree h
  clear h
  have ka0 := Bk.new w 33 #[.slice A0 x.length c0]
  have u0 : Up w (w.alloc (.cells #[.slice A0 x.length c0] 33)) := (Up.refl w).alloc _
  have cd := fun W (hW : Up w W) => cs_DoChanges _ x B d l W (hvv.up good_Tree hW) hn (k.up good_Change hW) hl
  have CD := Lib.hid cd
  have HP := Lib.hid (doChanges_P x l)
  have hci : imagesC x l = (doChanges x l).2 := rfl
  clear cd
  by_cases hq : (doChanges x l).2 = 0
  · have HI := Lib.hid (images_yes hq)
    have HT := Lib.hid (treeP_of (doChanges_ok hq))
    rw [hq] at CD hci
    have HCI := Lib.hid hci
    clear hq hci
    generalize (doChanges x l).1 = y at *
    go_enter Tryz.func8, Tryz.ntmps8
    go_wp2_with fail
    refine (CD.out _ u0).mono ?_
    rintro e w1 ⟨cs1, rfl, r1, u1⟩
    obtain ⟨A1, c1, rfl, b01⟩ := openTree r1
    have kx := Bk.new w1 33 #[.slice A1 y.length c1]
    have u1a : Up w1 (w1.alloc (.cells #[.slice A1 y.length c1] 33)) := (Up.refl w1).alloc _
    have ga1 : (w1.alloc (.cells #[.slice A1 y.length c1] 33)).cell? ⟨w.heap.size, 0, none⟩ = some (.slice A0 x.length c0) := ((ka0.up u1).up u1a).cell 0
    have gx1 : (w1.alloc (.cells #[.slice A1 y.length c1] 33)).cell? ⟨w1.heap.size, 0, none⟩ = some (.slice A1 y.length c1) := kx.cell 0
    have uu := (u0.trans u1).trans u1a
    have ci := c_l19Images x y _ _ _ (hvv.up good_Tree uu) (AV.up good_Tree ⟨_, rfl, r1⟩ u1a) HT.out.1 HP.out.1 (treeP_subs HT.out) (treeP_subs HP.out)
    have CI := Lib.hid ci
    clear ci
    go_wp2_with fail
    refine CI.out.mono ?_
    rintro e w3 ⟨D, dd, bl, rfl, so, nd, u3⟩
    go_wp2_with fail
    go_ret2
    exact RpLR.mk HI.out HCI.out (SR.of_own good_Image so) (uu.trans u3)
  · have HI := Lib.hid (images_no hq)
    have HCI := Lib.hid hci
    obtain ⟨q, hqe⟩ : ∃ q, q = (doChanges x l).2 := ⟨_, rfl⟩
    have hq0 : (q != 0) = true := by rw [hqe]; simpa using hq
    have HQ := Lib.hid hqe
    rw [← hqe] at CD
    clear hq hqe hci
    generalize (doChanges x l).1 = y at *
    go_enter Tryz.func8, Tryz.ntmps8
    go_wp2_with fail
    refine (CD.out _ u0).mono ?_
    rintro e w1 ⟨cs1, rfl, r1, u1⟩
    obtain ⟨A1, c1, rfl, b01⟩ := openTree r1
    go_wp2_with fail
    go_ret2
    exact RpLR.mk (ys := []) HI.out (HCI.out.trans HQ.out.symm) (SR.nil _ _ _) ((u0.trans u1).alloc _)
set_option maxRecDepth 100000 in
set_option maxHeartbeats 8000000 in
theorem ci_ImagesOf (v : Value) (x : TTree) (B : Option Addr) (d : Nat) (l : List TChange) (w : World) (h : AV shTree w v x) (hn : shTree.sz x ≤ 1048576) (k : SRW shChange w B d l) (hl : (shL shChange).sz l ≤ 1048576) (htab : Tab w) :
    Calls Tryz.prog 11 #[v, .slice B l.length d] w (ToLR shImage (imagesOf x l) (imagesC x l) w) := by
  have hvv := h
  obtain ⟨cs, rfl, h⟩ := h
  obtain ⟨A0, c0, rfl, b00⟩ := openTree h
  clear h
  have ka0 := Bk.new w 33 #[.slice A0 x.length c0]
  have u0 : Up w (w.alloc (.cells #[.slice A0 x.length c0] 33)) := (Up.refl w).alloc _
  have cd := fun W (hW : Up w W) => ci_DoChanges _ x B d l W (hvv.up good_Tree hW) hn (k.up good_Change hW) hl (tab_up htab hW)
  have CD := Lib.hid cd
  have HP := Lib.hid (doChanges_P x l)
  have hci : imagesC x l = (doChanges x l).2 := rfl
  clear cd
  by_cases hq : (doChanges x l).2 = 0
  · have HI := Lib.hid (images_yes hq)
    have HT := Lib.hid (treeP_of (doChanges_ok hq))
    rw [hq] at CD hci
    have HCI := Lib.hid hci
    clear hq hci
    generalize (doChanges x l).1 = y at *
    go_enter Tryz.func11, Tryz.ntmps11
    go_wp2_with fail
    refine (CD.out _ u0).mono ?_
    rintro e w1 ⟨cs1, bl1, rfl, o1, nd1, u1⟩
    obtain ⟨A1, c1, _, rfl, rfl, b01⟩ := openOTree o1
    have kx := Bk.new w1 33 #[.slice A1 y.length c1]
    have u1a : Up w1 (w1.alloc (.cells #[.slice A1 y.length c1] 33)) := (Up.refl w1).alloc _
    have ga1 : (w1.alloc (.cells #[.slice A1 y.length c1] 33)).cell? ⟨w.heap.size, 0, none⟩ = some (.slice A0 x.length c0) := ((ka0.up u1).up u1a).cell 0
    have gx1 : (w1.alloc (.cells #[.slice A1 y.length c1] 33)).cell? ⟨w1.heap.size, 0, none⟩ = some (.slice A1 y.length c1) := kx.cell 0
    have uu := (u0.trans u1).trans u1a
    have ci := c_imagesOf x y _ _ _ (hvv.up good_Tree uu) (AV.up good_Tree ⟨_, rfl, mkTree (SR.of_own good_Node b01)⟩ u1a) HT.out HP.out (tab_up htab uu)
    have CI := Lib.hid ci
    clear ci
    go_wp2_with fail
    refine CI.out.mono ?_
    rintro e w3 ⟨D, dd, bl, rfl, so, nd, u3⟩
    go_wp2_with fail
    go_ret2
    exact ToLR.mk HI.out HCI.out (so.wide good_Image uu.size (Nat.le_refl _)) nd (uu.trans u3)
  · have HI := Lib.hid (images_no hq)
    have HCI := Lib.hid hci
    obtain ⟨q, hqe⟩ : ∃ q, q = (doChanges x l).2 := ⟨_, rfl⟩
    have hq0 : (q != 0) = true := by rw [hqe]; simpa using hq
    have HQ := Lib.hid hqe
    rw [← hqe] at CD
    clear hq hqe hci
    generalize (doChanges x l).1 = y at *
    go_enter Tryz.func11, Tryz.ntmps11
    go_wp2_with fail
    refine (CD.out _ u0).mono ?_
    rintro e w1 ⟨cs1, bl1, rfl, o1, nd1, u1⟩
    obtain ⟨A1, c1, _, rfl, rfl, b01⟩ := openOTree o1
    go_wp2_with fail
    go_ret2
    exact ToLR.mk (ys := []) HI.out (HCI.out.trans HQ.out.symm) (SO.nil _ _ _) (by simp) ((u0.trans u1).alloc _)
theorem img_cnt (i : TImage) (hn : shNode.sz (i.1, i.2.1, ⟨#[]⟩) ≤ 172) : mmImage.cnt i ≤ 1000 := by
  have e1 : mmImage.cnt i = 1 + ((i.2.1.map mkS.cnt).sum + (1 + (1 + (1 + 1)))) := rfl
  have e3 : (i.2.1.map mkS.cnt).sum = i.2.1.length := by
    generalize i.2.1 = l
    induction l with
    | nil => rfl
    | cons a l ih => simp only [List.map_cons, List.sum_cons, List.length_cons, ih]; show 1 + l.length = _; omega
  have e2 : shNode.sz (i.1, i.2.1, ⟨#[]⟩) = i.1.size + ((i.2.1.length + (i.2.1.map shS.sz).sum) + 0) := rfl
  omega
theorem imgs_mem : ∀ (a b : TTree), ∀ i ∈ imgs a b, ∃ n : TNode, (n ∈ a ∨ n ∈ b) ∧ i.1 = n.1 ∧ i.2.1 = n.2.1
  | [], [] => by rw [imgs]; simp
  | n :: a, [] => by
    have ih := imgs_mem a []
    rw [imgs]
    intro i hi
    rcases List.mem_cons.1 hi with rfl | hi
    · exact ⟨n, by simp, rfl, rfl⟩
    · obtain ⟨m, hm, h⟩ := ih i hi
      exact ⟨m, by rcases hm with h | h <;> simp [h], h⟩
  | [], m :: b => by
    have ih := imgs_mem [] b
    rw [imgs]
    intro i hi
    rcases List.mem_cons.1 hi with rfl | hi
    · exact ⟨m, by simp, rfl, rfl⟩
    · obtain ⟨q, hq, h⟩ := ih i hi
      exact ⟨q, by rcases hq with h | h <;> simp_all, h⟩
  | n :: a, m :: b => by
    have h1 := imgs_mem a (m :: b)
    have h2 := imgs_mem (n :: a) b
    have h3 := imgs_mem a b
    rw [imgs]
    intro i hi
    split at hi
    · rcases List.mem_cons.1 hi with rfl | hi
      · exact ⟨n, by simp, rfl, rfl⟩
      · obtain ⟨q, hq, h⟩ := h1 i hi
        exact ⟨q, by rcases hq with h | h <;> simp_all, h⟩
    · split at hi
      · rcases List.mem_cons.1 hi with rfl | hi
        · exact ⟨m, by simp, rfl, rfl⟩
        · obtain ⟨q, hq, h⟩ := h2 i hi
          exact ⟨q, by rcases hq with h | h <;> simp_all, h⟩
      · split at hi
        · obtain ⟨q, hq, h⟩ := h3 i hi
          exact ⟨q, by rcases hq with h | h <;> simp [h], h⟩
        · rcases List.mem_cons.1 hi with rfl | hi
          · exact ⟨n, by simp, rfl, rfl⟩
          · obtain ⟨q, hq, h⟩ := h3 i hi
            exact ⟨q, by rcases hq with h | h <;> simp [h], h⟩
termination_by a b => a.length + b.length
theorem sum_le_mul {α : Type} (f : α → Nat) (c : Nat) : ∀ (l : List α), (∀ a ∈ l, f a ≤ c) → (l.map f).sum ≤ c * l.length
  | [], _ => by simp
  | a :: l, h => by
    have h1 := h a (by simp)
    have h2 := sum_le_mul f c l (fun b hb => h b (by simp [hb]))
    simp only [List.map_cons, List.sum_cons, List.length_cons, Nat.mul_succ]
    omega
theorem node_sz_loc (n : TNode) : shNode.sz (n.1, n.2.1, ⟨#[]⟩) ≤ shNode.sz n := by
  have e1 : shNode.sz n = n.1.size + ((n.2.1.length + (n.2.1.map shS.sz).sum) + n.2.2.size) := rfl
  have e2 : shNode.sz (n.1, n.2.1, ⟨#[]⟩) = n.1.size + ((n.2.1.length + (n.2.1.map shS.sz).sum) + 0) := rfl
  omega
theorem cbg_ImagesOf (x : TTree) (hn : shTree.sz x ≤ 1048576) (l : List TChange) (hl : (shL shChange).sz l ≤ 1048576) : (1 : Int) + ((mkL mmImage).cnt (imagesOf x l) : Nat) ≤ 1000000000 := by
  by_cases hq : (doChanges x l).2 = 0
  · have hx := treeP_of (doChanges_ok hq)
    have hy := doChanges_P x l
    rw [images_yes hq]
    have hlen := imgs_len x (doChanges x l).1
    have hall : ∀ i ∈ imgs x (doChanges x l).1, mmImage.cnt i ≤ 1000 := fun i hi => by
      obtain ⟨n, hn, e1, e2⟩ := imgs_mem _ _ i hi
      refine img_cnt i ?_
      rw [e1, e2]
      refine Nat.le_trans (node_sz_loc n) (nodeB_sz ?_)
      rcases hn with hn | hn
      · exact (treeP_iff.1 hx).2.1 n hn
      · exact (treeP_iff.1 hy).2.1 n hn
    have hs : (mkL mmImage).cnt (imgs x (doChanges x l).1) ≤ 1000 * (imgs x (doChanges x l).1).length := sum_le_mul _ _ _ hall
    have h1 := hx.1
    have h2 := hy.1
    omega
  · rw [images_no hq]
    show (1 : Int) + ((0 : Nat) : Int) ≤ _
    omega
end Go.Proofs.YtehhgogmbpdpbaaGreatDoor
