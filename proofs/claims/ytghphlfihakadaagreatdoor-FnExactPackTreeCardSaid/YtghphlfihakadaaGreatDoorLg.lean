/-
  PackTree: the program's side.
-/
import Derived.Test.YtghphlfihakadaaGreatDoorLc
import Derived.Test.YtghphlfihakadaaGreatDoorKp
import Derived.Test.YtghphlfihakadaaGreatDoorKs
import Derived.Deep.RegionHeld3
namespace Go.Proofs.YtghphlfihakadaaGreatDoor
open Go.RowKit
set_option linter.unusedVariables false
set_option linter.unusedSimpArgs false

theorem c_countNode (xs : List TNode) (A : Option Addr) (c : Nat) (w : World) (h : xs.length ≤ 9223372036854775807) : Calls Tryz.prog 76 #[.slice A xs.length c] w fun e w' => e = .returned (.int .i64 xs.length) ∧ w = w' := by
  go_enter Tryz.func76, Tryz.ntmps76
  go_wp2_with fail
  go_ret
  exact ⟨rfl, rfl⟩
set_option maxRecDepth 100000 in
set_option maxHeartbeats 16000000 in
theorem ci_PackTree (v : Value) (x : TTree) (w : World) (h : AV shTree w v x) (hn : shTree.sz x ≤ 1048576) (htab : Tab w) (hm : MaxL w) :
    Calls Tryz.prog 21 #[v] w (RetV (.string (packT x)) w) := by
  have hvv := h
  obtain ⟨cs, rfl, h⟩ := h
  obtain ⟨A0, c0, rfl, b00⟩ := openTree h
  clear h
  have ka0 : Bk (w.alloc (.cells #[.slice A0 x.length c0] 36)) w.heap.size 36 #[.slice A0 x.length c0] := Bk.new _ _ _
  have u0 : Up w (w.alloc (.cells #[.slice A0 x.length c0] 36)) := (Up.refl w).alloc _
  have ct := fun W (hW : Up w W) => c_implTreeOk _ x W (hvv.up good_Tree hW) hn (tab_up htab hW)
  cases ht : treeB x
  · have HE : Hid (packT x = ⟨#[]⟩) := by unfold Hid packT; rw [if_neg (by rw [ht]; simp)]
    rw [ht] at ct
    have CT := Lib.hid ct
    clear ct ht
    go_enter Tryz.func21, Tryz.ntmps21
    go_wp2_with fail
    refine (CT.out _ u0).mono ?_
    rintro e w1 ⟨rfl, u1⟩
    go_wp2_with fail
    go_ret
    exact ⟨by rw [HE.out]; first | done | rfl, u0.trans u1⟩
  · have HE : Hid (packT x = bs (packB x x.length)) := by unfold Hid packT; rw [if_pos ht]
    have HP0 : TreeP x := of_decide_eq_true ht
    have HP : Hid (TreeP x) := HP0
    clear HP0
    have h120 := HP.out.1
    rw [ht] at ct
    have CT := Lib.hid ct
    clear ct ht
    go_enter Tryz.func21, Tryz.ntmps21
    go_wp2_with fail
    refine (CT.out _ u0).mono ?_
    rintro e w1 ⟨rfl, u1⟩
    have uu1 := u0.trans u1
    have ka1 := ka0.up u1
    have ka1b := ka1.alloc (.cells #[.pointer none, .slice none 0 0] 93)
    have ga1 : w1.cell? ⟨w.heap.size, 0, none⟩ = some (.slice A0 x.length c0) := ka1.cell 0
    have ga1b : (w1.alloc (.cells #[.pointer none, .slice none 0 0] 93)).cell? ⟨w.heap.size, 0, none⟩ = some (.slice A0 x.length c0) := ka1b.cell 0
    have za1 := ka1.lt
    have b0 : Bld8 w1.heap.size w1.heap.size [] (w1.alloc (.cells #[.pointer none, .slice none 0 0] 93)) := bld_new _ _ (Bk.new w1 93 #[.pointer none, .slice none 0 0])
    have ku0 : Up w1 (w1.alloc (.cells #[.pointer none, .slice none 0 0] 93)) := (Up.refl w1).alloc _
    have ks0 := (Bk.new w1 93 #[.pointer none, .slice none 0 0]).lt
    go_wp2_with (go_at_call 76; refine (c_countNode _ _ _ _ (by omega)).mono ?_; rintro e w' ⟨rfl, rfl⟩)
    refine (c_little x.length 1 _ (by omega) (by omega) (by omega)).mono ?_
    rintro e w2 ⟨rfl, u2⟩
    have b2 := bld_up b0 u2
    have ku2 := ku0.trans u2
    have hs2 := ku2.size
    have hs2b := u2.size
    have hz1 := leS_size x.length 1
    go_wp2_with fail
    refine (c_WriteString w1.heap.size w1.heap.size _ _ w2 b2 (by simp only [List.length_nil]; omega) hs2).mono ?_
    rintro e w3 ⟨rfl, b3, k3, o3⟩
    have kk3 : Below w1.heap.size w1 w3 := Below.trans ku2 k3
    have hs3 := k3.size
    have hg3 : w1.heap.size < w3.heap.size := by omega
    have b3' : Bld8 w1.heap.size w1.heap.size (packB x 0) w3 := b3
    have ga3 : w3.cell? ⟨w.heap.size, 0, none⟩ = some (.slice A0 x.length c0) := (ka1.below kk3 za1).cell 0
    clear b3 b2 b0 hz1 ga1 ga1b ks0 hs2 hs2b hs3
    go_wp2_with fail
    go_loopw [4, 20] (fun l i wr => ∃ k : Nat, k ≤ x.length ∧ i = .int .i64 k ∧ l = .string (lastK x k) ∧ Bld8 w1.heap.size w1.heap.size (packB x k) wr ∧ Below w1.heap.size w1 wr ∧ w1.heap.size < wr.heap.size) (fun _ i _ => x.length - (intOf i).toNat)
    case atStart => exact ⟨0, Nat.zero_le _, rfl, by rw [lastK_zero], b3', kk3, hg3⟩
    case round =>
      obtain ⟨k, hk, rfl, rfl, br, kr, hgt⟩ := hrel
      have hu : Up w wr := Up.below uu1 kr uu1.size
      have hsw := kr.size
      by_cases hlt : k < x.length
      · have hv64 := nodeB_val (HP.out.2 k hlt).1
        have hLl : (packB x k).length ≤ 100000 := by have := packB_len HP.out k hk; omega
        have HS : Hid (packB x (k + 1) = packB x k ++ (packStep (lastK x k) x[k]).data.toList) := packB_succ x hlt
        have HLK : Hid (lastK x (k + 1) = keyN x[k]) := lastK_succ x hlt
        obtain ⟨g, off, A2, c2', rfl, _, hgl, hc0, hc1, hc2, b0, b1, b2, _⟩ := atNode (b00.up good_Node hu) hlt
        have hky := keyN_size x[k]
        have hls := lastK_size x k
        have ck : ∀ W, Up wr W → Calls Tryz.prog 77 #[.string x[k].1, .slice A2 x[k].2.1.length c2'] W (RetV (.string (keyN x[k])) W) := fun W hW => c_KeyOf x[k].1 x[k].2.1 A2 c2' W b0 (b1.up good_S hW) (tab_up htab (hu.trans hW)) (maxL_up hm (hu.trans hW))
        have csh := fun W => c_implShared (lastK x k) (keyN x[k]) W (by omega) (by omega)
        have hmm := sharedN_le (lastK x k) (keyN x[k])
        have htl := tailS_size (keyN x[k]) (sharedN (lastK x k) (keyN x[k]))
        have cl1 : ∀ W, Calls Tryz.prog 66 #[.int .i64 (sharedN (lastK x k) (keyN x[k]) : Nat), .int .i64 1] W (RetV (.string (leS (sharedN (lastK x k) (keyN x[k])) 1)) W) := fun W => c_little (sharedN (lastK x k) (keyN x[k])) 1 W (by omega) (by omega) (by omega)
        have cl2 := fun W => c_short (tailS (keyN x[k]) (sharedN (lastK x k) (keyN x[k]))) W (by omega)
        have cl3 := fun W => c_short x[k].2.2 W (by omega)
        rw [leS_one] at cl1
        have z1 : (bs [UInt8.ofNat (sharedN (lastK x k) (keyN x[k]))]).size = 1 := by rw [bs_size]; rfl
        have z2 := shortS2 (tailS (keyN x[k]) (sharedN (lastK x k) (keyN x[k])))
        have z3 := shortS2 x[k].2.2
        have HPS : Hid (packStep (lastK x k) x[k] = bs [UInt8.ofNat (sharedN (lastK x k) (keyN x[k]))] ++ bs (shortL (tailS (keyN x[k]) (sharedN (lastK x k) (keyN x[k])))) ++ bs (shortL x[k].2.2)) := rfl
        generalize bs [UInt8.ofNat (sharedN (lastK x k) (keyN x[k]))] = F1 at *
        generalize bs (shortL (tailS (keyN x[k]) (sharedN (lastK x k) (keyN x[k])))) = F2 at *
        generalize bs (shortL x[k].2.2) = F3 at *
        have hTL : tailS (keyN x[k]) (sharedN (lastK x k) (keyN x[k])) = (keyN x[k]).extract (sharedN (lastK x k) (keyN x[k])) (keyN x[k]).size := rfl
        rw [hTL] at cl2 htl z2
        generalize hm' : sharedN (lastK x k) (keyN x[k]) = m at *
        generalize hKY : keyN x[k] = KY at *
        generalize hLA : lastK x k = LA at *
        generalize packStep LA x[k] = PS at *
        generalize packB x k = L at *
        clear hTL hm' hKY hLA
        have g12 : ¬ 9223372036854775807 < F1.size + F2.size := by omega
        have g123 : ¬ 9223372036854775807 < (F1 ++ F2).size + F3.size := by rw [ByteArray.size_append]; omega
        have g123b : ¬ 9223372036854775807 < F1.size + F2.size + F3.size := by omega
        have hall : L.length + (F1 ++ F2 ++ F3).size ≤ 140737488355328 := by rw [ByteArray.size_append, ByteArray.size_append]; omega
        have m0 : (0 : Int) ≤ (m : Int) := by omega
        have m1 : (m : Int) ≤ (KY.size : Int) := by omega
        have m2 : m ≤ KY.size := hmm.2
        have cw := fun W (hW : Up wr W) => c_WriteString w1.heap.size w1.heap.size _ (F1 ++ F2 ++ F3) W (bld_up br hW) hall (Nat.le_trans hsw hW.size)
        have CW := Lib.hid cw
        have CK := Lib.hid ck
        have CSH := Lib.hid csh
        have CL1 := Lib.hid cl1
        have CL2 := Lib.hid cl2
        have CL3 := Lib.hid cl3
        clear ck csh cl1 cl2 cl3 hmm htl z1 z2 z3 hls hky cw
        have kb0 := Bk.new wr 106 #[.string x[k].1, .slice A2 x[k].2.1.length c2', .string x[k].2.2]
        have uu0 : Up wr (wr.alloc (.cells #[.string x[k].1, .slice A2 x[k].2.1.length c2', .string x[k].2.2] 106)) := (Up.refl wr).alloc _
        have hne : wr.heap.size ≠ w1.heap.size := by omega
        go_wp2_with fail
        refine (CK.out _ uu0).mono ?_
        rintro e w4 ⟨rfl, u4⟩
        have kb4 := kb0.up u4
        have uu4 := uu0.trans u4
        go_wp2_with fail
        refine (CSH.out _).mono ?_
        rintro e w5 ⟨rfl, u5⟩
        have kb5 := kb4.up u5
        have uu5 := uu4.trans u5
        have gb5 : w5.cell? ⟨wr.heap.size, 2, none⟩ = some (.string x[k].2.2) := kb5.cell 2
        clear hc0 hc1 hc2
        go_wp2_with fail
        go_region_held3 (fun W => W.cell? ⟨wr.heap.size, 2, none⟩ = some (.string x[k].2.2))
          (first | exact kb5.drew.cell 2 | exact kb6.cell 2 | exact kb7.cell 2 | exact kb8.cell 2 | exact kb9.cell 2 | exact kb5.cell 2)
          (first
            | (go_at_call 66; (with_reducible refine (CL1.out _).mono ?_); rintro e w6 ⟨rfl, u6⟩; have kb6 := kb5.drew.up u6; have uu6 := uu5.drew.trans u6)
            | (go_at_call 79; (first | ((with_reducible refine (CL2.out _).mono ?_); rintro e w7 ⟨rfl, u7⟩; have kb7 := kb6.up u7; have uu7 := uu6.trans u7) | ((with_reducible refine (CL3.out _).mono ?_); rintro e w8 ⟨rfl, u8⟩; have kb8 := kb7.up u8; have uu8 := uu7.trans u8)))
            | (go_at_call 65; (with_reducible refine (CW.out _ uu8).mono ?_); rintro e w9 ⟨rfl, b9, k9, o9⟩; have kb9 := kb8.others o9 hne (by decide)))
        have kr9 : Below w1.heap.size w1 w9 := kr.trans ((Below.mono uu8 hsw).trans k9)
        have hg9 : w1.heap.size < w9.heap.size := by have := uu8.size; have := k9.size; omega
        go_wp2_with fail
        go_roundw
        case rel => exact ⟨k + 1, by omega, by go_num, by rw [HLK.out], by rw [HS.out, HPS.out]; exact b9, kr9, hg9⟩
        case measure => simp [intOf]; omega
      · have ht : k = x.length := by omega
        subst ht
        have cs := c_BString w1.heap.size w1.heap.size _ wr br hsw
        have CS := Lib.hid cs
        clear cs
        go_wp2_with fail
        refine CS.out.mono ?_
        rintro e w4 ⟨rfl, k4⟩
        go_wp2_with fail
        go_ret
        exact ⟨by rw [HE.out]; first | done | rfl, Up.below hu k4 (by have := uu1.size; omega)⟩
end Go.Proofs.YtghphlfihakadaaGreatDoor
