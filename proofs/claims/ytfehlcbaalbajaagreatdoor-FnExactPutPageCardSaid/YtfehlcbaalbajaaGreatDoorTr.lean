/-
  TreeOk: both sides' contracts.
-/
import Derived.Test.YtfehlcbaalbajaaGreatDoorIo
import Derived.BigQuiet
import Derived.Deep.QuietTactic
namespace Go.Proofs.YtfehlcbaalbajaaGreatDoor
open Go.RowKit
set_option linter.unusedVariables false
set_option linter.unusedSimpArgs false

def nodeB (x : TNode) : Bool := placeB x.1 x.2.1 && decide (x.2.2.size ≤ 64)
def TreeP (l : TTree) : Prop := l.length ≤ 120 ∧ ∀ i (h : i < l.length), nodeB l[i] = true ∧ (0 < i → locLt (l[i - 1].1, l[i - 1].2.1) (l[i].1, l[i].2.1) = true)
instance (l : TTree) : Decidable (TreeP l) := by unfold TreeP; infer_instance
def treeB (l : TTree) : Bool := decide (TreeP l)
theorem treeB_t {l : TTree} (h : TreeP l) : treeB l = true := decide_eq_true h
theorem treeB_f {l : TTree} (h : ¬ TreeP l) : treeB l = false := decide_eq_false h
theorem node_small {x : TNode} (h : shNode.sz x ≤ 1048576) : Small x.2.1 := fun i hi => by
  have h1 : (shL shS).sz x.2.1 ≤ shNode.sz x := by
    show (shL shS).sz x.2.1 ≤ shS.sz x.1 + ((shL shS).sz x.2.1 + _)
    omega
  exact sz_le shS x.2.1 hi (Nat.le_trans h1 h)
theorem c_nodeOk (x : TNode) (v : Value) (w : World) (h : AV shNode w v x) : Calls Tryz.prog 156 #[v] w (RetV (.bool (nodeB x)) w) := by
  obtain ⟨cs, rfl, h⟩ := h
  obtain ⟨A1, c1, rfl, b0, b1, b2⟩ := openNode h
  obtain ⟨x0, x1, x2⟩ := x
  simp only at b0 b1 b2
  clear h
  have hv : nodeB (x0, x1, x2) = (placeB x0 x1 && decide (x2.size ≤ 64)) := rfl
  have k0 := Bk.new w 155 #[.string x0, .slice A1 x1.length c1, .string x2]
  have u0 : Up w (w.alloc (.cells #[.string x0, .slice A1 x1.length c1, .string x2] 155)) := (Up.refl w).alloc _
  cases hp : placeB x0 x1
  all_goals
    rw [hp] at hv
    have H := Lib.hid hv
    clear hv
    go_enter Tryz.func156, Tryz.ntmps156
    go_wp2_with fail
    refine (c_locationOk x0 x1 A1 c1 _ b0 (b1.up good_S u0)).mono ?_
    rintro e w1 ⟨rfl, u1⟩
    rw [hp]
    have g2 : w1.cell? ⟨w.heap.size, 2, none⟩ = some (.string x2) := (k0.up u1).cell 2
    go_wp2_with fail
    go_ret
    exact ⟨by rw [H.out]; first | done | rfl | (simp; done) | (simp; omega), u0.trans u1⟩
theorem c_l03Node (x : TNode) (v : Value) (w : World) (h : AV shNode w v x) : Calls Tryz.prog 152 #[v] w (RetV (.bool (nodeB x)) w) := by
  obtain ⟨cs, rfl, h⟩ := h
  obtain ⟨A1, c1, rfl, b0, b1, b2⟩ := openNode h
  obtain ⟨x0, x1, x2⟩ := x
  simp only at b0 b1 b2
  clear h
  have hv : nodeB (x0, x1, x2) = (placeB x0 x1 && decide (x2.size ≤ 64)) := rfl
  have k0 := Bk.new w 155 #[.string x0, .slice A1 x1.length c1, .string x2]
  have u0 : Up w (w.alloc (.cells #[.string x0, .slice A1 x1.length c1, .string x2] 155)) := (Up.refl w).alloc _
  cases hp : placeB x0 x1
  all_goals
    rw [hp] at hv
    have H := Lib.hid hv
    clear hv
    go_enter Tryz.func152, Tryz.ntmps152
    go_wp2_with fail
    refine (c_l03Place x0 x1 A1 c1 _ b0 (b1.up good_S u0)).mono ?_
    rintro e w1 ⟨rfl, u1⟩
    rw [hp]
    have g2 : w1.cell? ⟨w.heap.size, 2, none⟩ = some (.string x2) := (k0.up u1).cell 2
    go_wp2_with fail
    go_ret
    exact ⟨by rw [H.out]; first | done | rfl | (simp; done) | (simp; omega), u0.trans u1⟩
set_option maxRecDepth 100000 in
set_option maxHeartbeats 8000000 in
theorem c_implTreeOk (v : Value) (x : TTree) (w : World) (h : AV shTree w v x) (hn : shTree.sz x ≤ 1048576) (htab : Tab w) :
    Calls Tryz.prog 110 #[v] w (RetV (.bool (treeB x)) w) := by
  obtain ⟨cs, rfl, h⟩ := h
  obtain ⟨A0, c0, rfl, b00⟩ := openTree h
  clear h
  have hlen := b00.len_le
  have HSZ := Lib.hid (fun (i : Nat) (hi : i < x.length) => sz_le shNode x hi hn)
  clear hn
  have kT0 := Bk.new w 33 #[.slice A0 x.length c0]
  have uu0 : Up w (w.alloc (.cells #[.slice A0 x.length c0] 33)) := (Up.refl w).alloc _
  by_cases h120 : x.length ≤ 120
  · go_enter Tryz.func110, Tryz.ntmps110
    go_wp2_with fail
    go_loopw [12] (fun i wr => ∃ k : Nat, k ≤ x.length ∧ i = .int .i64 k ∧ Hid (∀ i (h : i < x.length), i < k → nodeB x[i] = true ∧ (0 < i → locLt (x[i - 1].1, x[i - 1].2.1) (x[i].1, x[i].2.1) = true)) ∧ Up (w.alloc (.cells #[.slice A0 x.length c0] 33)) wr) (fun i _ => x.length - (intOf i).toNat)
    case atStart => exact ⟨0, Nat.zero_le _, rfl, fun i h hi => absurd hi (by omega), Up.refl _⟩
    case round =>
      obtain ⟨k, hk, rfl, HA, hu⟩ := hrel
      have kT := kT0.up hu
      have gT : wr.cell? ⟨w.heap.size, 0, none⟩ = some (.slice A0 x.length c0) := kT.cell 0
      by_cases hlt : k < x.length
      · have sm := node_small (HSZ.out k hlt)
        have HSM := Lib.hid sm
        clear sm
        obtain ⟨g, off, A2, c2, hA, _, hgl, hc0, hc1, hc2, b0, b1, b2, _⟩ := atNode (b00.up good_Node (uu0.trans hu)) hlt
        have av : ∀ W, Up wr W → AV shNode W (.agg #[.string x[k].1, .slice A2 x[k].2.1.length c2, .string x[k].2.2]) x[k] := fun W hW => AV.up good_Node ⟨_, rfl, mkNode (x := x[k]) b0 b1 b2⟩ hW
        have ci := fun W (hW : Up wr W) => c_nodeOk x[k] _ W (av W hW)
        have kb := Bk.new wr 155 #[.string x[k].1, .slice A2 x[k].2.1.length c2, .string x[k].2.2]
        have uA : Up wr (wr.alloc (.cells #[.string x[k].1, .slice A2 x[k].2.1.length c2, .string x[k].2.2] 155)) := (Up.refl wr).alloc _
        subst hA
        cases hi : nodeB x[k]
        · have HE := Lib.hid (treeB_f (l := x) fun hh => by have := (hh.2 k hlt).1; rw [hi] at this; cases this)
          rw [hi] at ci
          have CI := Lib.hid ci
          clear ci av hi
          go_wp2_with fail
          generalize hW : (wr.alloc (.cells #[.string x[k].1, .slice A2 x[k].2.1.length c2, .string x[k].2.2] 155)) = W0 at *
          have t0 := fun t : UpT W0 => cell_up t (kb.cell 0 : W0.cell? ⟨wr.heap.size, 0, none⟩ = some (.string x[k].1))
          have t1 := fun t : UpT W0 => cell_up t (kb.cell 1 : W0.cell? ⟨wr.heap.size, 1, none⟩ = some (.slice A2 x[k].2.1.length c2))
          have t2 := fun t : UpT W0 => cell_up t (kb.cell 2 : W0.cell? ⟨wr.heap.size, 2, none⟩ = some (.string x[k].2.2))
          have t5 := fun t : UpT W0 => cell_up t ((kT.up uA).cell 0 : W0.cell? ⟨w.heap.size, 0, none⟩ = some (.slice (some ⟨g, off, none⟩) x.length c0))
          clear hW
          refine wp_region_up (by kernel_rfl) (by kernel_rfl) ?_
          repeat (go_big_quiet_step ((go_at_call 156; exact up_call (CI.out _ (uA.trans (UpT.up _))) (UpT.up _))))
          refine wpQuiet_nil ?_
          rintro _ ⟨⟨w1, u1⟩, rfl⟩
          go_wp2_with fail
          go_ret
          exact ⟨by rw [HE.out]; first | done | rfl, ((uu0.trans hu).trans uA).trans u1⟩
        · rw [hi] at ci
          have CI := Lib.hid ci
          clear ci av
          by_cases hk0 : k = 0
          · have HN : Hid (∀ i (h : i < x.length), i < k + 1 → nodeB x[i] = true ∧ (0 < i → locLt (x[i - 1].1, x[i - 1].2.1) (x[i].1, x[i].2.1) = true)) := fun i h hi2 => by
              obtain rfl : i = k := (by omega)
              exact ⟨hi, fun h0 => absurd h0 (by omega)⟩
            clear hi
            subst hk0
            simp only [Nat.zero_mul, Nat.add_zero] at hc0 hc1 hc2
            go_wp2_with fail
            generalize hW : (wr.alloc (.cells #[.string x[0].1, .slice A2 x[0].2.1.length c2, .string x[0].2.2] 155)) = W0 at *
            have t0 := fun t : UpT W0 => cell_up t (kb.cell 0 : W0.cell? ⟨wr.heap.size, 0, none⟩ = some (.string x[0].1))
            have t1 := fun t : UpT W0 => cell_up t (kb.cell 1 : W0.cell? ⟨wr.heap.size, 1, none⟩ = some (.slice A2 x[0].2.1.length c2))
            have t2 := fun t : UpT W0 => cell_up t (kb.cell 2 : W0.cell? ⟨wr.heap.size, 2, none⟩ = some (.string x[0].2.2))
            have t5 := fun t : UpT W0 => cell_up t ((kT.up uA).cell 0 : W0.cell? ⟨w.heap.size, 0, none⟩ = some (.slice (some ⟨g, off, none⟩) x.length c0))
            clear hW
            refine wp_region_up (by kernel_rfl) (by kernel_rfl) ?_
            repeat (go_big_quiet_step ((go_at_call 156; exact up_call (CI.out _ (uA.trans (UpT.up _))) (UpT.up _))))
            refine wpQuiet_nil ?_
            rintro _ ⟨⟨w1, u1⟩, rfl⟩
            go_wp2_with fail
            go_roundw
            case rel => exact ⟨0 + 1, by omega, rfl, HN, (hu.trans uA).trans u1⟩
            case measure => simp [intOf]; omega
          · obtain ⟨p, rfl⟩ : ∃ p, k = p + 1 := ⟨k - 1, by omega⟩
            have hlp : p < x.length := by omega
            have sm := node_small (HSZ.out p hlp)
            have HSP := Lib.hid sm
            clear sm
            obtain ⟨g', off', A3, c3, hA', _, _, hp0, hp1, _, d0, d1, _, _⟩ := atNode (b00.up good_Node (uu0.trans hu)) hlp
            simp only [Option.some.injEq, Addr.mk.injEq, and_true] at hA'
            obtain ⟨rfl, rfl⟩ := hA'
            have cc := fun W (hW : Up wr W) => c_compareLocations x[p].1 x[p + 1].1 x[p].2.1 x[p + 1].2.1 A3 A2 c3 c2 W (SR.up good_S d1 hW) (SR.up good_S b1 hW) HSP.out HSM.out (tab_up htab ((uu0.trans hu).trans hW))
            have hsub : IntKind.i64.wrap ((p : Int) + 1 - 1) = (p : Int) := by rw [IntWalk.i64_in _ (by omega)]; omega
            cases hL : locLt (x[p].1, x[p].2.1) (x[p + 1].1, x[p + 1].2.1)
            · have HE := Lib.hid (treeB_f (l := x) fun hh => by have := (hh.2 (p + 1) hlt).2 (by omega); simp only [Nat.add_sub_cancel] at this; rw [hL] at this; cases this)
              have hz := (cmpBy_nonneg lo_loc _ _).2 hL
              generalize cmpBy locLt (x[p].1, x[p].2.1) (x[p + 1].1, x[p + 1].2.1) = z at cc hz
              have CC := Lib.hid cc
              clear cc hL hi
              go_wp2_with fail
              generalize hW : (wr.alloc (.cells #[.string x[p + 1].1, .slice A2 x[p + 1].2.1.length c2, .string x[p + 1].2.2] 155)) = W0 at *
              have t0 := fun t : UpT W0 => cell_up t (kb.cell 0 : W0.cell? ⟨wr.heap.size, 0, none⟩ = some (.string x[p + 1].1))
              have t1 := fun t : UpT W0 => cell_up t (kb.cell 1 : W0.cell? ⟨wr.heap.size, 1, none⟩ = some (.slice A2 x[p + 1].2.1.length c2))
              have t2 := fun t : UpT W0 => cell_up t (kb.cell 2 : W0.cell? ⟨wr.heap.size, 2, none⟩ = some (.string x[p + 1].2.2))
              have t5 := fun t : UpT W0 => cell_up t ((kT.up uA).cell 0 : W0.cell? ⟨w.heap.size, 0, none⟩ = some (.slice (some ⟨g, off, none⟩) x.length c0))
              clear hW
              have t8 := fun t : UpT W0 => cell_up t ((uA.cell (cell_lt hp0)).trans hp0)
              have t9 := fun t : UpT W0 => cell_up t ((uA.cell (cell_lt hp1)).trans hp1)
              refine wp_region_up (by kernel_rfl) (by kernel_rfl) ?_
              repeat (go_big_quiet_step ((first | (go_at_call 156; exact up_call (CI.out _ (uA.trans (UpT.up _))) (UpT.up _)) | (go_at_call 114; exact up_call (CC.out _ (uA.trans (UpT.up _))) (UpT.up _)))))
              refine wpQuiet_nil ?_
              rintro _ ⟨⟨w1, u1⟩, rfl⟩
              go_wp2_with fail
              go_ret
              exact ⟨by rw [HE.out]; first | done | rfl, ((uu0.trans hu).trans uA).trans u1⟩
            · have HN : Hid (∀ i (h : i < x.length), i < p + 1 + 1 → nodeB x[i] = true ∧ (0 < i → locLt (x[i - 1].1, x[i - 1].2.1) (x[i].1, x[i].2.1) = true)) := fun i h hi2 => by
                by_cases e : i = p + 1
                · subst e
                  exact ⟨hi, fun _ => by simpa only [Nat.add_sub_cancel] using hL⟩
                · exact HA.out i h (by omega)
              have hz : cmpBy locLt (x[p].1, x[p].2.1) (x[p + 1].1, x[p + 1].2.1) = -1 := cmpBy_lt hL
              rw [hz] at cc
              have CC := Lib.hid cc
              clear cc hL hi hz
              go_wp2_with fail
              generalize hW : (wr.alloc (.cells #[.string x[p + 1].1, .slice A2 x[p + 1].2.1.length c2, .string x[p + 1].2.2] 155)) = W0 at *
              have t0 := fun t : UpT W0 => cell_up t (kb.cell 0 : W0.cell? ⟨wr.heap.size, 0, none⟩ = some (.string x[p + 1].1))
              have t1 := fun t : UpT W0 => cell_up t (kb.cell 1 : W0.cell? ⟨wr.heap.size, 1, none⟩ = some (.slice A2 x[p + 1].2.1.length c2))
              have t2 := fun t : UpT W0 => cell_up t (kb.cell 2 : W0.cell? ⟨wr.heap.size, 2, none⟩ = some (.string x[p + 1].2.2))
              have t5 := fun t : UpT W0 => cell_up t ((kT.up uA).cell 0 : W0.cell? ⟨w.heap.size, 0, none⟩ = some (.slice (some ⟨g, off, none⟩) x.length c0))
              clear hW
              have t8 := fun t : UpT W0 => cell_up t ((uA.cell (cell_lt hp0)).trans hp0)
              have t9 := fun t : UpT W0 => cell_up t ((uA.cell (cell_lt hp1)).trans hp1)
              refine wp_region_up (by kernel_rfl) (by kernel_rfl) ?_
              repeat (go_big_quiet_step ((first | (go_at_call 156; exact up_call (CI.out _ (uA.trans (UpT.up _))) (UpT.up _)) | (go_at_call 114; exact up_call (CC.out _ (uA.trans (UpT.up _))) (UpT.up _)))))
              refine wpQuiet_nil ?_
              rintro _ ⟨⟨w1, u1⟩, rfl⟩
              go_wp2_with fail
              go_roundw
              case rel => exact ⟨p + 1 + 1, by omega, by go_num, HN, (hu.trans uA).trans u1⟩
              case measure => simp [intOf]; omega
      · have HE := Lib.hid (treeB_t (l := x) ⟨h120, fun i h => HA.out i h (by omega)⟩)
        go_wp2_with fail
        go_ret
        exact ⟨by rw [HE.out]; first | done | rfl, uu0.trans hu⟩
  · have HE := Lib.hid (treeB_f (l := x) fun hh => h120 hh.1)
    go_enter Tryz.func110, Tryz.ntmps110
    go_wp2_with fail
    go_ret
    exact ⟨by rw [HE.out]; first | done | rfl, uu0⟩
set_option maxRecDepth 100000 in
set_option maxHeartbeats 8000000 in
theorem c_specTreeOk (v : Value) (x : TTree) (w : World) (h : AV shTree w v x) (hn : shTree.sz x ≤ 1048576) :
    Calls Tryz.prog 104 #[v] w (RetV (.bool (treeB x)) w) := by
  obtain ⟨cs, rfl, h⟩ := h
  obtain ⟨A0, c0, rfl, b00⟩ := openTree h
  clear h
  have hlen := b00.len_le
  have HSZ := Lib.hid (fun (i : Nat) (hi : i < x.length) => sz_le shNode x hi hn)
  clear hn
  have kT0 := Bk.new w 33 #[.slice A0 x.length c0]
  have uu0 : Up w (w.alloc (.cells #[.slice A0 x.length c0] 33)) := (Up.refl w).alloc _
  by_cases h120 : x.length ≤ 120
  · go_enter Tryz.func104, Tryz.ntmps104
    go_wp2_with fail
    go_loopw [3] (fun i wr => ∃ k : Nat, k ≤ x.length ∧ i = .int .i64 k ∧ Hid (∀ i (h : i < x.length), i < k → nodeB x[i] = true ∧ (0 < i → locLt (x[i - 1].1, x[i - 1].2.1) (x[i].1, x[i].2.1) = true)) ∧ Up (w.alloc (.cells #[.slice A0 x.length c0] 33)) wr) (fun i _ => x.length - (intOf i).toNat)
    case atStart => exact ⟨0, Nat.zero_le _, rfl, fun i h hi => absurd hi (by omega), Up.refl _⟩
    case round =>
      obtain ⟨k, hk, rfl, HA, hu⟩ := hrel
      have kT := kT0.up hu
      have gT : wr.cell? ⟨w.heap.size, 0, none⟩ = some (.slice A0 x.length c0) := kT.cell 0
      by_cases hlt : k < x.length
      · have sm := node_small (HSZ.out k hlt)
        have HSM := Lib.hid sm
        clear sm
        obtain ⟨g, off, A2, c2, hA, _, hgl, hc0, hc1, hc2, b0, b1, b2, _⟩ := atNode (b00.up good_Node (uu0.trans hu)) hlt
        have av : ∀ W, Up wr W → AV shNode W (.agg #[.string x[k].1, .slice A2 x[k].2.1.length c2, .string x[k].2.2]) x[k] := fun W hW => AV.up good_Node ⟨_, rfl, mkNode (x := x[k]) b0 b1 b2⟩ hW
        have ci := fun W (hW : Up wr W) => c_l03Node x[k] _ W (av W hW)
        have kb := Bk.new wr 155 #[.string x[k].1, .slice A2 x[k].2.1.length c2, .string x[k].2.2]
        have uA : Up wr (wr.alloc (.cells #[.string x[k].1, .slice A2 x[k].2.1.length c2, .string x[k].2.2] 155)) := (Up.refl wr).alloc _
        subst hA
        cases hi : nodeB x[k]
        · have HE := Lib.hid (treeB_f (l := x) fun hh => by have := (hh.2 k hlt).1; rw [hi] at this; cases this)
          rw [hi] at ci
          have CI := Lib.hid ci
          clear ci av hi
          go_wp2_with fail
          generalize hW : (wr.alloc (.cells #[.string x[k].1, .slice A2 x[k].2.1.length c2, .string x[k].2.2] 155)) = W0 at *
          have t0 := fun t : UpT W0 => cell_up t (kb.cell 0 : W0.cell? ⟨wr.heap.size, 0, none⟩ = some (.string x[k].1))
          have t1 := fun t : UpT W0 => cell_up t (kb.cell 1 : W0.cell? ⟨wr.heap.size, 1, none⟩ = some (.slice A2 x[k].2.1.length c2))
          have t2 := fun t : UpT W0 => cell_up t (kb.cell 2 : W0.cell? ⟨wr.heap.size, 2, none⟩ = some (.string x[k].2.2))
          have t5 := fun t : UpT W0 => cell_up t ((kT.up uA).cell 0 : W0.cell? ⟨w.heap.size, 0, none⟩ = some (.slice (some ⟨g, off, none⟩) x.length c0))
          clear hW
          refine wp_region_up (by kernel_rfl) (by kernel_rfl) ?_
          repeat (go_big_quiet_step ((go_at_call 152; exact up_call (CI.out _ (uA.trans (UpT.up _))) (UpT.up _))))
          refine wpQuiet_nil ?_
          rintro _ ⟨⟨w1, u1⟩, rfl⟩
          go_wp2_with fail
          go_ret
          exact ⟨by rw [HE.out]; first | done | rfl, ((uu0.trans hu).trans uA).trans u1⟩
        · rw [hi] at ci
          have CI := Lib.hid ci
          clear ci av
          by_cases hk0 : k = 0
          · have HN : Hid (∀ i (h : i < x.length), i < k + 1 → nodeB x[i] = true ∧ (0 < i → locLt (x[i - 1].1, x[i - 1].2.1) (x[i].1, x[i].2.1) = true)) := fun i h hi2 => by
              obtain rfl : i = k := (by omega)
              exact ⟨hi, fun h0 => absurd h0 (by omega)⟩
            clear hi
            subst hk0
            simp only [Nat.zero_mul, Nat.add_zero] at hc0 hc1 hc2
            go_wp2_with fail
            generalize hW : (wr.alloc (.cells #[.string x[0].1, .slice A2 x[0].2.1.length c2, .string x[0].2.2] 155)) = W0 at *
            have t0 := fun t : UpT W0 => cell_up t (kb.cell 0 : W0.cell? ⟨wr.heap.size, 0, none⟩ = some (.string x[0].1))
            have t1 := fun t : UpT W0 => cell_up t (kb.cell 1 : W0.cell? ⟨wr.heap.size, 1, none⟩ = some (.slice A2 x[0].2.1.length c2))
            have t2 := fun t : UpT W0 => cell_up t (kb.cell 2 : W0.cell? ⟨wr.heap.size, 2, none⟩ = some (.string x[0].2.2))
            have t5 := fun t : UpT W0 => cell_up t ((kT.up uA).cell 0 : W0.cell? ⟨w.heap.size, 0, none⟩ = some (.slice (some ⟨g, off, none⟩) x.length c0))
            clear hW
            refine wp_region_up (by kernel_rfl) (by kernel_rfl) ?_
            repeat (go_big_quiet_step ((go_at_call 152; exact up_call (CI.out _ (uA.trans (UpT.up _))) (UpT.up _))))
            refine wpQuiet_nil ?_
            rintro _ ⟨⟨w1, u1⟩, rfl⟩
            go_wp2_with fail
            go_roundw
            case rel => exact ⟨0 + 1, by omega, rfl, HN, (hu.trans uA).trans u1⟩
            case measure => simp [intOf]; omega
          · obtain ⟨p, rfl⟩ : ∃ p, k = p + 1 := ⟨k - 1, by omega⟩
            have hlp : p < x.length := by omega
            have sm := node_small (HSZ.out p hlp)
            have HSP := Lib.hid sm
            clear sm
            obtain ⟨g', off', A3, c3, hA', _, _, hp0, hp1, _, d0, d1, _, _⟩ := atNode (b00.up good_Node (uu0.trans hu)) hlp
            simp only [Option.some.injEq, Addr.mk.injEq, and_true] at hA'
            obtain ⟨rfl, rfl⟩ := hA'
            have cc := fun W (hW : Up wr W) => c_l03Less x[p].1 x[p + 1].1 x[p].2.1 x[p + 1].2.1 A3 A2 c3 c2 W (SR.up good_S d1 hW) (SR.up good_S b1 hW)
            have hsub : IntKind.i64.wrap ((p : Int) + 1 - 1) = (p : Int) := by rw [IntWalk.i64_in _ (by omega)]; omega
            cases hL : locLt (x[p].1, x[p].2.1) (x[p + 1].1, x[p + 1].2.1)
            · have HE := Lib.hid (treeB_f (l := x) fun hh => by have := (hh.2 (p + 1) hlt).2 (by omega); simp only [Nat.add_sub_cancel] at this; rw [hL] at this; cases this)
              rw [hL] at cc
              have CC := Lib.hid cc
              clear cc hL hi
              go_wp2_with fail
              generalize hW : (wr.alloc (.cells #[.string x[p + 1].1, .slice A2 x[p + 1].2.1.length c2, .string x[p + 1].2.2] 155)) = W0 at *
              have t0 := fun t : UpT W0 => cell_up t (kb.cell 0 : W0.cell? ⟨wr.heap.size, 0, none⟩ = some (.string x[p + 1].1))
              have t1 := fun t : UpT W0 => cell_up t (kb.cell 1 : W0.cell? ⟨wr.heap.size, 1, none⟩ = some (.slice A2 x[p + 1].2.1.length c2))
              have t2 := fun t : UpT W0 => cell_up t (kb.cell 2 : W0.cell? ⟨wr.heap.size, 2, none⟩ = some (.string x[p + 1].2.2))
              have t5 := fun t : UpT W0 => cell_up t ((kT.up uA).cell 0 : W0.cell? ⟨w.heap.size, 0, none⟩ = some (.slice (some ⟨g, off, none⟩) x.length c0))
              clear hW
              have t8 := fun t : UpT W0 => cell_up t ((uA.cell (cell_lt hp0)).trans hp0)
              have t9 := fun t : UpT W0 => cell_up t ((uA.cell (cell_lt hp1)).trans hp1)
              refine wp_region_up (by kernel_rfl) (by kernel_rfl) ?_
              repeat (go_big_quiet_step ((first | (go_at_call 152; exact up_call (CI.out _ (uA.trans (UpT.up _))) (UpT.up _)) | (go_at_call 107; exact up_call (CC.out _ (uA.trans (UpT.up _))) (UpT.up _)))))
              refine wpQuiet_nil ?_
              rintro _ ⟨⟨w1, u1⟩, rfl⟩
              go_wp2_with fail
              go_ret
              exact ⟨by rw [HE.out]; first | done | rfl, ((uu0.trans hu).trans uA).trans u1⟩
            · have HN : Hid (∀ i (h : i < x.length), i < p + 1 + 1 → nodeB x[i] = true ∧ (0 < i → locLt (x[i - 1].1, x[i - 1].2.1) (x[i].1, x[i].2.1) = true)) := fun i h hi2 => by
                by_cases e : i = p + 1
                · subst e
                  exact ⟨hi, fun _ => by simpa only [Nat.add_sub_cancel] using hL⟩
                · exact HA.out i h (by omega)
              rw [hL] at cc
              have CC := Lib.hid cc
              clear cc hL hi
              go_wp2_with fail
              generalize hW : (wr.alloc (.cells #[.string x[p + 1].1, .slice A2 x[p + 1].2.1.length c2, .string x[p + 1].2.2] 155)) = W0 at *
              have t0 := fun t : UpT W0 => cell_up t (kb.cell 0 : W0.cell? ⟨wr.heap.size, 0, none⟩ = some (.string x[p + 1].1))
              have t1 := fun t : UpT W0 => cell_up t (kb.cell 1 : W0.cell? ⟨wr.heap.size, 1, none⟩ = some (.slice A2 x[p + 1].2.1.length c2))
              have t2 := fun t : UpT W0 => cell_up t (kb.cell 2 : W0.cell? ⟨wr.heap.size, 2, none⟩ = some (.string x[p + 1].2.2))
              have t5 := fun t : UpT W0 => cell_up t ((kT.up uA).cell 0 : W0.cell? ⟨w.heap.size, 0, none⟩ = some (.slice (some ⟨g, off, none⟩) x.length c0))
              clear hW
              have t8 := fun t : UpT W0 => cell_up t ((uA.cell (cell_lt hp0)).trans hp0)
              have t9 := fun t : UpT W0 => cell_up t ((uA.cell (cell_lt hp1)).trans hp1)
              refine wp_region_up (by kernel_rfl) (by kernel_rfl) ?_
              repeat (go_big_quiet_step ((first | (go_at_call 152; exact up_call (CI.out _ (uA.trans (UpT.up _))) (UpT.up _)) | (go_at_call 107; exact up_call (CC.out _ (uA.trans (UpT.up _))) (UpT.up _)))))
              refine wpQuiet_nil ?_
              rintro _ ⟨⟨w1, u1⟩, rfl⟩
              go_wp2_with fail
              go_roundw
              case rel => exact ⟨p + 1 + 1, by omega, by go_num, HN, (hu.trans uA).trans u1⟩
              case measure => simp [intOf]; omega
      · have HE := Lib.hid (treeB_t (l := x) ⟨h120, fun i h => HA.out i h (by omega)⟩)
        go_wp2_with fail
        go_ret
        exact ⟨by rw [HE.out]; first | done | rfl, uu0.trans hu⟩
  · have HE := Lib.hid (treeB_f (l := x) fun hh => h120 hh.1)
    go_enter Tryz.func104, Tryz.ntmps104
    go_wp2_with fail
    go_ret
    exact ⟨by rw [HE.out]; first | done | rfl, uu0⟩
end Go.Proofs.YtfehlcbaalbajaaGreatDoor
