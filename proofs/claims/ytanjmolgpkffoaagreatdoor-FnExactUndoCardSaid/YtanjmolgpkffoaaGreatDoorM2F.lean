/-
  The program's decoder of subscripts: getNumber, getString, GetSubs.
  TreeOk: both sides' contracts.
  GetNode: where a node stands; the program's side.
  The changes of a tree, in plain Lean: put, kill, drop; a right tree stays right.
-/
import Derived.Test.YtanjmolgpkffoaaGreatDoorM2C
import Derived.Test.YtanjmolgpkffoaaGreatDoorM2E
import Derived.BigQuiet
import Derived.Deep.QuietTactic
namespace Go.Proofs.YtanjmolgpkffoaaGreatDoor
open Go.RowKit
set_option linter.unusedVariables false
set_option linter.unusedSimpArgs false

end Go.Proofs.YtanjmolgpkffoaaGreatDoor

namespace Go.Proofs.YtanjmolgpkffoaaGreatDoor
open Go.RowKit
set_option linter.unusedVariables false
set_option linter.unusedSimpArgs false

def nodeB (x : TNode) : Bool := placeB x.1 x.2.1 && decide (x.2.2.size ≤ 64)
def TreeP (l : TTree) : Prop := l.length ≤ 120 ∧ ∀ i (h : i < l.length), nodeB l[i] = true ∧ (0 < i → locLt (l[i - 1].1, l[i - 1].2.1) (l[i].1, l[i].2.1) = true)
instance (l : TTree) : Decidable (TreeP l) := by unfold TreeP; infer_instance
def treeB (l : TTree) : Bool := decide (TreeP l)
theorem treeB_t {l : TTree} (h : TreeP l) : treeB l = true := decide_eq_true h
theorem treeB_f {l : TTree} (h : ¬ TreeP l) : treeB l = false := decide_eq_false h
theorem node_small {x : TNode} (h : shNode.sz x ≤ 1048576) : Small x.2.1 := fun i hi => by
  have h1 : (shL shS).sz x.2.1 ≤ shNode.sz x := by
    show (shL shS).sz x.2.1 ≤ shS.sz x.1 + ((shL shS).sz x.2.1 + _)
    omega
  exact sz_le shS x.2.1 hi (Nat.le_trans h1 h)
theorem c_nodeOk (x : TNode) (v : Value) (w : World) (h : AV shNode w v x) : Calls Tryz.prog 105 #[v] w (RetV (.bool (nodeB x)) w) := by
  obtain ⟨cs, rfl, h⟩ := h
  obtain ⟨A1, c1, rfl, b0, b1, b2⟩ := openNode h
  obtain ⟨x0, x1, x2⟩ := x
  simp only at b0 b1 b2
  clear h
  have hv : nodeB (x0, x1, x2) = (placeB x0 x1 && decide (x2.size ≤ 64)) := rfl
  have k0 := Bk.new w 91 #[.string x0, .slice A1 x1.length c1, .string x2]
  have u0 : Up w (w.alloc (.cells #[.string x0, .slice A1 x1.length c1, .string x2] 91)) := (Up.refl w).alloc _
  cases hp : placeB x0 x1
  all_goals
    rw [hp] at hv
    have H := Lib.hid hv
    clear hv
    go_enter Tryz.func105, Tryz.ntmps105
    go_wp2_with fail
    refine (c_locationOk x0 x1 A1 c1 _ b0 (b1.up good_S u0)).mono ?_
    rintro e w1 ⟨rfl, u1⟩
    rw [hp]
    have g2 : w1.cell? ⟨w.heap.size, 2, none⟩ = some (.string x2) := (k0.up u1).cell 2
    go_wp2_with fail
    go_ret
    exact ⟨by rw [H.out]; first | done | rfl | (simp; done) | (simp; omega), u0.trans u1⟩
theorem c_l03Node (x : TNode) (v : Value) (w : World) (h : AV shNode w v x) : Calls Tryz.prog 101 #[v] w (RetV (.bool (nodeB x)) w) := by
  obtain ⟨cs, rfl, h⟩ := h
  obtain ⟨A1, c1, rfl, b0, b1, b2⟩ := openNode h
  obtain ⟨x0, x1, x2⟩ := x
  simp only at b0 b1 b2
  clear h
  have hv : nodeB (x0, x1, x2) = (placeB x0 x1 && decide (x2.size ≤ 64)) := rfl
  have k0 := Bk.new w 91 #[.string x0, .slice A1 x1.length c1, .string x2]
  have u0 : Up w (w.alloc (.cells #[.string x0, .slice A1 x1.length c1, .string x2] 91)) := (Up.refl w).alloc _
  cases hp : placeB x0 x1
  all_goals
    rw [hp] at hv
    have H := Lib.hid hv
    clear hv
    go_enter Tryz.func101, Tryz.ntmps101
    go_wp2_with fail
    refine (c_l03Place x0 x1 A1 c1 _ b0 (b1.up good_S u0)).mono ?_
    rintro e w1 ⟨rfl, u1⟩
    rw [hp]
    have g2 : w1.cell? ⟨w.heap.size, 2, none⟩ = some (.string x2) := (k0.up u1).cell 2
    go_wp2_with fail
    go_ret
    exact ⟨by rw [H.out]; first | done | rfl | (simp; done) | (simp; omega), u0.trans u1⟩
set_option maxRecDepth 100000 in
set_option maxHeartbeats 8000000 in
theorem c_implTreeOk (v : Value) (x : TTree) (w : World) (h : AV shTree w v x) (hn : shTree.sz x ≤ 1048576) (htab : Tab w) :
    Calls Tryz.prog 56 #[v] w (RetV (.bool (treeB x)) w) := by
  obtain ⟨cs, rfl, h⟩ := h
  obtain ⟨A0, c0, rfl, b00⟩ := openTree h
  clear h
  have hlen := b00.len_le
  have HSZ := Lib.hid (fun (i : Nat) (hi : i < x.length) => sz_le shNode x hi hn)
  clear hn
  have kT0 := Bk.new w 32 #[.slice A0 x.length c0]
  have uu0 : Up w (w.alloc (.cells #[.slice A0 x.length c0] 32)) := (Up.refl w).alloc _
  by_cases h120 : x.length ≤ 120
  · go_enter Tryz.func56, Tryz.ntmps56
    go_wp2_with fail
    go_loopw [12] (fun i wr => ∃ k : Nat, k ≤ x.length ∧ i = .int .i64 k ∧ Hid (∀ i (h : i < x.length), i < k → nodeB x[i] = true ∧ (0 < i → locLt (x[i - 1].1, x[i - 1].2.1) (x[i].1, x[i].2.1) = true)) ∧ Up (w.alloc (.cells #[.slice A0 x.length c0] 32)) wr) (fun i _ => x.length - (intOf i).toNat)
    case atStart => exact ⟨0, Nat.zero_le _, rfl, fun i h hi => absurd hi (by omega), Up.refl _⟩
    case round =>
      obtain ⟨k, hk, rfl, HA, hu⟩ := hrel
      have kT := kT0.up hu
      have gT : wr.cell? ⟨w.heap.size, 0, none⟩ = some (.slice A0 x.length c0) := kT.cell 0
      by_cases hlt : k < x.length
      · have sm := node_small (HSZ.out k hlt)
        have HSM := Lib.hid sm
        clear sm
        obtain ⟨g, off, A2, c2, hA, _, hgl, hc0, hc1, hc2, b0, b1, b2, _⟩ := atNode (b00.up good_Node (uu0.trans hu)) hlt
        have av : ∀ W, Up wr W → AV shNode W (.agg #[.string x[k].1, .slice A2 x[k].2.1.length c2, .string x[k].2.2]) x[k] := fun W hW => AV.up good_Node ⟨_, rfl, mkNode (x := x[k]) b0 b1 b2⟩ hW
        have ci := fun W (hW : Up wr W) => c_nodeOk x[k] _ W (av W hW)
        have kb := Bk.new wr 91 #[.string x[k].1, .slice A2 x[k].2.1.length c2, .string x[k].2.2]
        have uA : Up wr (wr.alloc (.cells #[.string x[k].1, .slice A2 x[k].2.1.length c2, .string x[k].2.2] 91)) := (Up.refl wr).alloc _
        subst hA
        cases hi : nodeB x[k]
        · have HE := Lib.hid (treeB_f (l := x) fun hh => by have := (hh.2 k hlt).1; rw [hi] at this; cases this)
          rw [hi] at ci
          have CI := Lib.hid ci
          clear ci av hi
          go_wp2_with fail
          generalize hW : (wr.alloc (.cells #[.string x[k].1, .slice A2 x[k].2.1.length c2, .string x[k].2.2] 91)) = W0 at *
          have t0 := fun t : UpT W0 => cell_up t (kb.cell 0 : W0.cell? ⟨wr.heap.size, 0, none⟩ = some (.string x[k].1))
          have t1 := fun t : UpT W0 => cell_up t (kb.cell 1 : W0.cell? ⟨wr.heap.size, 1, none⟩ = some (.slice A2 x[k].2.1.length c2))
          have t2 := fun t : UpT W0 => cell_up t (kb.cell 2 : W0.cell? ⟨wr.heap.size, 2, none⟩ = some (.string x[k].2.2))
          have t5 := fun t : UpT W0 => cell_up t ((kT.up uA).cell 0 : W0.cell? ⟨w.heap.size, 0, none⟩ = some (.slice (some ⟨g, off, none⟩) x.length c0))
          clear hW
          refine wp_region_up (by kernel_rfl) (by kernel_rfl) ?_
          repeat (go_big_quiet_step ((go_at_call 105; exact up_call (CI.out _ (uA.trans (UpT.up _))) (UpT.up _))))
          refine wpQuiet_nil ?_
          rintro _ ⟨⟨w1, u1⟩, rfl⟩
          go_wp2_with fail
          go_ret
          exact ⟨by rw [HE.out]; first | done | rfl, ((uu0.trans hu).trans uA).trans u1⟩
        · rw [hi] at ci
          have CI := Lib.hid ci
          clear ci av
          by_cases hk0 : k = 0
          · have HN : Hid (∀ i (h : i < x.length), i < k + 1 → nodeB x[i] = true ∧ (0 < i → locLt (x[i - 1].1, x[i - 1].2.1) (x[i].1, x[i].2.1) = true)) := fun i h hi2 => by
              obtain rfl : i = k := (by omega)
              exact ⟨hi, fun h0 => absurd h0 (by omega)⟩
            clear hi
            subst hk0
            simp only [Nat.zero_mul, Nat.add_zero] at hc0 hc1 hc2
            go_wp2_with fail
            generalize hW : (wr.alloc (.cells #[.string x[0].1, .slice A2 x[0].2.1.length c2, .string x[0].2.2] 91)) = W0 at *
            have t0 := fun t : UpT W0 => cell_up t (kb.cell 0 : W0.cell? ⟨wr.heap.size, 0, none⟩ = some (.string x[0].1))
            have t1 := fun t : UpT W0 => cell_up t (kb.cell 1 : W0.cell? ⟨wr.heap.size, 1, none⟩ = some (.slice A2 x[0].2.1.length c2))
            have t2 := fun t : UpT W0 => cell_up t (kb.cell 2 : W0.cell? ⟨wr.heap.size, 2, none⟩ = some (.string x[0].2.2))
            have t5 := fun t : UpT W0 => cell_up t ((kT.up uA).cell 0 : W0.cell? ⟨w.heap.size, 0, none⟩ = some (.slice (some ⟨g, off, none⟩) x.length c0))
            clear hW
            refine wp_region_up (by kernel_rfl) (by kernel_rfl) ?_
            repeat (go_big_quiet_step ((go_at_call 105; exact up_call (CI.out _ (uA.trans (UpT.up _))) (UpT.up _))))
            refine wpQuiet_nil ?_
            rintro _ ⟨⟨w1, u1⟩, rfl⟩
            go_wp2_with fail
            go_roundw
            case rel => exact ⟨0 + 1, by omega, rfl, HN, (hu.trans uA).trans u1⟩
            case measure => simp [intOf]; omega
          · obtain ⟨p, rfl⟩ : ∃ p, k = p + 1 := ⟨k - 1, by omega⟩
            have hlp : p < x.length := by omega
            have sm := node_small (HSZ.out p hlp)
            have HSP := Lib.hid sm
            clear sm
            obtain ⟨g', off', A3, c3, hA', _, _, hp0, hp1, _, d0, d1, _, _⟩ := atNode (b00.up good_Node (uu0.trans hu)) hlp
            simp only [Option.some.injEq, Addr.mk.injEq, and_true] at hA'
            obtain ⟨rfl, rfl⟩ := hA'
            have cc := fun W (hW : Up wr W) => c_compareLocations x[p].1 x[p + 1].1 x[p].2.1 x[p + 1].2.1 A3 A2 c3 c2 W (SR.up good_S d1 hW) (SR.up good_S b1 hW) HSP.out HSM.out (tab_up htab ((uu0.trans hu).trans hW))
            have hsub : IntKind.i64.wrap ((p : Int) + 1 - 1) = (p : Int) := by rw [IntWalk.i64_in _ (by omega)]; omega
            cases hL : locLt (x[p].1, x[p].2.1) (x[p + 1].1, x[p + 1].2.1)
            · have HE := Lib.hid (treeB_f (l := x) fun hh => by have := (hh.2 (p + 1) hlt).2 (by omega); simp only [Nat.add_sub_cancel] at this; rw [hL] at this; cases this)
              have hz := (cmpBy_nonneg lo_loc _ _).2 hL
              generalize cmpBy locLt (x[p].1, x[p].2.1) (x[p + 1].1, x[p + 1].2.1) = z at cc hz
              have CC := Lib.hid cc
              clear cc hL hi
              go_wp2_with fail
              generalize hW : (wr.alloc (.cells #[.string x[p + 1].1, .slice A2 x[p + 1].2.1.length c2, .string x[p + 1].2.2] 91)) = W0 at *
              have t0 := fun t : UpT W0 => cell_up t (kb.cell 0 : W0.cell? ⟨wr.heap.size, 0, none⟩ = some (.string x[p + 1].1))
              have t1 := fun t : UpT W0 => cell_up t (kb.cell 1 : W0.cell? ⟨wr.heap.size, 1, none⟩ = some (.slice A2 x[p + 1].2.1.length c2))
              have t2 := fun t : UpT W0 => cell_up t (kb.cell 2 : W0.cell? ⟨wr.heap.size, 2, none⟩ = some (.string x[p + 1].2.2))
              have t5 := fun t : UpT W0 => cell_up t ((kT.up uA).cell 0 : W0.cell? ⟨w.heap.size, 0, none⟩ = some (.slice (some ⟨g, off, none⟩) x.length c0))
              clear hW
              have t8 := fun t : UpT W0 => cell_up t ((uA.cell (cell_lt hp0)).trans hp0)
              have t9 := fun t : UpT W0 => cell_up t ((uA.cell (cell_lt hp1)).trans hp1)
              refine wp_region_up (by kernel_rfl) (by kernel_rfl) ?_
              repeat (go_big_quiet_step ((first | (go_at_call 105; exact up_call (CI.out _ (uA.trans (UpT.up _))) (UpT.up _)) | (go_at_call 64; exact up_call (CC.out _ (uA.trans (UpT.up _))) (UpT.up _)))))
              refine wpQuiet_nil ?_
              rintro _ ⟨⟨w1, u1⟩, rfl⟩
              go_wp2_with fail
              go_ret
              exact ⟨by rw [HE.out]; first | done | rfl, ((uu0.trans hu).trans uA).trans u1⟩
            · have HN : Hid (∀ i (h : i < x.length), i < p + 1 + 1 → nodeB x[i] = true ∧ (0 < i → locLt (x[i - 1].1, x[i - 1].2.1) (x[i].1, x[i].2.1) = true)) := fun i h hi2 => by
                by_cases e : i = p + 1
                · subst e
                  exact ⟨hi, fun _ => by simpa only [Nat.add_sub_cancel] using hL⟩
                · exact HA.out i h (by omega)
              have hz : cmpBy locLt (x[p].1, x[p].2.1) (x[p + 1].1, x[p + 1].2.1) = -1 := cmpBy_lt hL
              rw [hz] at cc
              have CC := Lib.hid cc
              clear cc hL hi hz
              go_wp2_with fail
              generalize hW : (wr.alloc (.cells #[.string x[p + 1].1, .slice A2 x[p + 1].2.1.length c2, .string x[p + 1].2.2] 91)) = W0 at *
              have t0 := fun t : UpT W0 => cell_up t (kb.cell 0 : W0.cell? ⟨wr.heap.size, 0, none⟩ = some (.string x[p + 1].1))
              have t1 := fun t : UpT W0 => cell_up t (kb.cell 1 : W0.cell? ⟨wr.heap.size, 1, none⟩ = some (.slice A2 x[p + 1].2.1.length c2))
              have t2 := fun t : UpT W0 => cell_up t (kb.cell 2 : W0.cell? ⟨wr.heap.size, 2, none⟩ = some (.string x[p + 1].2.2))
              have t5 := fun t : UpT W0 => cell_up t ((kT.up uA).cell 0 : W0.cell? ⟨w.heap.size, 0, none⟩ = some (.slice (some ⟨g, off, none⟩) x.length c0))
              clear hW
              have t8 := fun t : UpT W0 => cell_up t ((uA.cell (cell_lt hp0)).trans hp0)
              have t9 := fun t : UpT W0 => cell_up t ((uA.cell (cell_lt hp1)).trans hp1)
              refine wp_region_up (by kernel_rfl) (by kernel_rfl) ?_
              repeat (go_big_quiet_step ((first | (go_at_call 105; exact up_call (CI.out _ (uA.trans (UpT.up _))) (UpT.up _)) | (go_at_call 64; exact up_call (CC.out _ (uA.trans (UpT.up _))) (UpT.up _)))))
              refine wpQuiet_nil ?_
              rintro _ ⟨⟨w1, u1⟩, rfl⟩
              go_wp2_with fail
              go_roundw
              case rel => exact ⟨p + 1 + 1, by omega, by go_num, HN, (hu.trans uA).trans u1⟩
              case measure => simp [intOf]; omega
      · have HE := Lib.hid (treeB_t (l := x) ⟨h120, fun i h => HA.out i h (by omega)⟩)
        go_wp2_with fail
        go_ret
        exact ⟨by rw [HE.out]; first | done | rfl, uu0.trans hu⟩
  · have HE := Lib.hid (treeB_f (l := x) fun hh => h120 hh.1)
    go_enter Tryz.func56, Tryz.ntmps56
    go_wp2_with fail
    go_ret
    exact ⟨by rw [HE.out]; first | done | rfl, uu0⟩
set_option maxRecDepth 100000 in
set_option maxHeartbeats 8000000 in
theorem c_specTreeOk (v : Value) (x : TTree) (w : World) (h : AV shTree w v x) (hn : shTree.sz x ≤ 1048576) :
    Calls Tryz.prog 52 #[v] w (RetV (.bool (treeB x)) w) := by
  obtain ⟨cs, rfl, h⟩ := h
  obtain ⟨A0, c0, rfl, b00⟩ := openTree h
  clear h
  have hlen := b00.len_le
  have HSZ := Lib.hid (fun (i : Nat) (hi : i < x.length) => sz_le shNode x hi hn)
  clear hn
  have kT0 := Bk.new w 32 #[.slice A0 x.length c0]
  have uu0 : Up w (w.alloc (.cells #[.slice A0 x.length c0] 32)) := (Up.refl w).alloc _
  by_cases h120 : x.length ≤ 120
  · go_enter Tryz.func52, Tryz.ntmps52
    go_wp2_with fail
    go_loopw [3] (fun i wr => ∃ k : Nat, k ≤ x.length ∧ i = .int .i64 k ∧ Hid (∀ i (h : i < x.length), i < k → nodeB x[i] = true ∧ (0 < i → locLt (x[i - 1].1, x[i - 1].2.1) (x[i].1, x[i].2.1) = true)) ∧ Up (w.alloc (.cells #[.slice A0 x.length c0] 32)) wr) (fun i _ => x.length - (intOf i).toNat)
    case atStart => exact ⟨0, Nat.zero_le _, rfl, fun i h hi => absurd hi (by omega), Up.refl _⟩
    case round =>
      obtain ⟨k, hk, rfl, HA, hu⟩ := hrel
      have kT := kT0.up hu
      have gT : wr.cell? ⟨w.heap.size, 0, none⟩ = some (.slice A0 x.length c0) := kT.cell 0
      by_cases hlt : k < x.length
      · have sm := node_small (HSZ.out k hlt)
        have HSM := Lib.hid sm
        clear sm
        obtain ⟨g, off, A2, c2, hA, _, hgl, hc0, hc1, hc2, b0, b1, b2, _⟩ := atNode (b00.up good_Node (uu0.trans hu)) hlt
        have av : ∀ W, Up wr W → AV shNode W (.agg #[.string x[k].1, .slice A2 x[k].2.1.length c2, .string x[k].2.2]) x[k] := fun W hW => AV.up good_Node ⟨_, rfl, mkNode (x := x[k]) b0 b1 b2⟩ hW
        have ci := fun W (hW : Up wr W) => c_l03Node x[k] _ W (av W hW)
        have kb := Bk.new wr 91 #[.string x[k].1, .slice A2 x[k].2.1.length c2, .string x[k].2.2]
        have uA : Up wr (wr.alloc (.cells #[.string x[k].1, .slice A2 x[k].2.1.length c2, .string x[k].2.2] 91)) := (Up.refl wr).alloc _
        subst hA
        cases hi : nodeB x[k]
        · have HE := Lib.hid (treeB_f (l := x) fun hh => by have := (hh.2 k hlt).1; rw [hi] at this; cases this)
          rw [hi] at ci
          have CI := Lib.hid ci
          clear ci av hi
          go_wp2_with fail
          generalize hW : (wr.alloc (.cells #[.string x[k].1, .slice A2 x[k].2.1.length c2, .string x[k].2.2] 91)) = W0 at *
          have t0 := fun t : UpT W0 => cell_up t (kb.cell 0 : W0.cell? ⟨wr.heap.size, 0, none⟩ = some (.string x[k].1))
          have t1 := fun t : UpT W0 => cell_up t (kb.cell 1 : W0.cell? ⟨wr.heap.size, 1, none⟩ = some (.slice A2 x[k].2.1.length c2))
          have t2 := fun t : UpT W0 => cell_up t (kb.cell 2 : W0.cell? ⟨wr.heap.size, 2, none⟩ = some (.string x[k].2.2))
          have t5 := fun t : UpT W0 => cell_up t ((kT.up uA).cell 0 : W0.cell? ⟨w.heap.size, 0, none⟩ = some (.slice (some ⟨g, off, none⟩) x.length c0))
          clear hW
          refine wp_region_up (by kernel_rfl) (by kernel_rfl) ?_
          repeat (go_big_quiet_step ((go_at_call 101; exact up_call (CI.out _ (uA.trans (UpT.up _))) (UpT.up _))))
          refine wpQuiet_nil ?_
          rintro _ ⟨⟨w1, u1⟩, rfl⟩
          go_wp2_with fail
          go_ret
          exact ⟨by rw [HE.out]; first | done | rfl, ((uu0.trans hu).trans uA).trans u1⟩
        · rw [hi] at ci
          have CI := Lib.hid ci
          clear ci av
          by_cases hk0 : k = 0
          · have HN : Hid (∀ i (h : i < x.length), i < k + 1 → nodeB x[i] = true ∧ (0 < i → locLt (x[i - 1].1, x[i - 1].2.1) (x[i].1, x[i].2.1) = true)) := fun i h hi2 => by
              obtain rfl : i = k := (by omega)
              exact ⟨hi, fun h0 => absurd h0 (by omega)⟩
            clear hi
            subst hk0
            simp only [Nat.zero_mul, Nat.add_zero] at hc0 hc1 hc2
            go_wp2_with fail
            generalize hW : (wr.alloc (.cells #[.string x[0].1, .slice A2 x[0].2.1.length c2, .string x[0].2.2] 91)) = W0 at *
            have t0 := fun t : UpT W0 => cell_up t (kb.cell 0 : W0.cell? ⟨wr.heap.size, 0, none⟩ = some (.string x[0].1))
            have t1 := fun t : UpT W0 => cell_up t (kb.cell 1 : W0.cell? ⟨wr.heap.size, 1, none⟩ = some (.slice A2 x[0].2.1.length c2))
            have t2 := fun t : UpT W0 => cell_up t (kb.cell 2 : W0.cell? ⟨wr.heap.size, 2, none⟩ = some (.string x[0].2.2))
            have t5 := fun t : UpT W0 => cell_up t ((kT.up uA).cell 0 : W0.cell? ⟨w.heap.size, 0, none⟩ = some (.slice (some ⟨g, off, none⟩) x.length c0))
            clear hW
            refine wp_region_up (by kernel_rfl) (by kernel_rfl) ?_
            repeat (go_big_quiet_step ((go_at_call 101; exact up_call (CI.out _ (uA.trans (UpT.up _))) (UpT.up _))))
            refine wpQuiet_nil ?_
            rintro _ ⟨⟨w1, u1⟩, rfl⟩
            go_wp2_with fail
            go_roundw
            case rel => exact ⟨0 + 1, by omega, rfl, HN, (hu.trans uA).trans u1⟩
            case measure => simp [intOf]; omega
          · obtain ⟨p, rfl⟩ : ∃ p, k = p + 1 := ⟨k - 1, by omega⟩
            have hlp : p < x.length := by omega
            have sm := node_small (HSZ.out p hlp)
            have HSP := Lib.hid sm
            clear sm
            obtain ⟨g', off', A3, c3, hA', _, _, hp0, hp1, _, d0, d1, _, _⟩ := atNode (b00.up good_Node (uu0.trans hu)) hlp
            simp only [Option.some.injEq, Addr.mk.injEq, and_true] at hA'
            obtain ⟨rfl, rfl⟩ := hA'
            have cc := fun W (hW : Up wr W) => c_l03Less x[p].1 x[p + 1].1 x[p].2.1 x[p + 1].2.1 A3 A2 c3 c2 W (SR.up good_S d1 hW) (SR.up good_S b1 hW)
            have hsub : IntKind.i64.wrap ((p : Int) + 1 - 1) = (p : Int) := by rw [IntWalk.i64_in _ (by omega)]; omega
            cases hL : locLt (x[p].1, x[p].2.1) (x[p + 1].1, x[p + 1].2.1)
            · have HE := Lib.hid (treeB_f (l := x) fun hh => by have := (hh.2 (p + 1) hlt).2 (by omega); simp only [Nat.add_sub_cancel] at this; rw [hL] at this; cases this)
              rw [hL] at cc
              have CC := Lib.hid cc
              clear cc hL hi
              go_wp2_with fail
              generalize hW : (wr.alloc (.cells #[.string x[p + 1].1, .slice A2 x[p + 1].2.1.length c2, .string x[p + 1].2.2] 91)) = W0 at *
              have t0 := fun t : UpT W0 => cell_up t (kb.cell 0 : W0.cell? ⟨wr.heap.size, 0, none⟩ = some (.string x[p + 1].1))
              have t1 := fun t : UpT W0 => cell_up t (kb.cell 1 : W0.cell? ⟨wr.heap.size, 1, none⟩ = some (.slice A2 x[p + 1].2.1.length c2))
              have t2 := fun t : UpT W0 => cell_up t (kb.cell 2 : W0.cell? ⟨wr.heap.size, 2, none⟩ = some (.string x[p + 1].2.2))
              have t5 := fun t : UpT W0 => cell_up t ((kT.up uA).cell 0 : W0.cell? ⟨w.heap.size, 0, none⟩ = some (.slice (some ⟨g, off, none⟩) x.length c0))
              clear hW
              have t8 := fun t : UpT W0 => cell_up t ((uA.cell (cell_lt hp0)).trans hp0)
              have t9 := fun t : UpT W0 => cell_up t ((uA.cell (cell_lt hp1)).trans hp1)
              refine wp_region_up (by kernel_rfl) (by kernel_rfl) ?_
              repeat (go_big_quiet_step ((first | (go_at_call 101; exact up_call (CI.out _ (uA.trans (UpT.up _))) (UpT.up _)) | (go_at_call 61; exact up_call (CC.out _ (uA.trans (UpT.up _))) (UpT.up _)))))
              refine wpQuiet_nil ?_
              rintro _ ⟨⟨w1, u1⟩, rfl⟩
              go_wp2_with fail
              go_ret
              exact ⟨by rw [HE.out]; first | done | rfl, ((uu0.trans hu).trans uA).trans u1⟩
            · have HN : Hid (∀ i (h : i < x.length), i < p + 1 + 1 → nodeB x[i] = true ∧ (0 < i → locLt (x[i - 1].1, x[i - 1].2.1) (x[i].1, x[i].2.1) = true)) := fun i h hi2 => by
                by_cases e : i = p + 1
                · subst e
                  exact ⟨hi, fun _ => by simpa only [Nat.add_sub_cancel] using hL⟩
                · exact HA.out i h (by omega)
              rw [hL] at cc
              have CC := Lib.hid cc
              clear cc hL hi
              go_wp2_with fail
              generalize hW : (wr.alloc (.cells #[.string x[p + 1].1, .slice A2 x[p + 1].2.1.length c2, .string x[p + 1].2.2] 91)) = W0 at *
              have t0 := fun t : UpT W0 => cell_up t (kb.cell 0 : W0.cell? ⟨wr.heap.size, 0, none⟩ = some (.string x[p + 1].1))
              have t1 := fun t : UpT W0 => cell_up t (kb.cell 1 : W0.cell? ⟨wr.heap.size, 1, none⟩ = some (.slice A2 x[p + 1].2.1.length c2))
              have t2 := fun t : UpT W0 => cell_up t (kb.cell 2 : W0.cell? ⟨wr.heap.size, 2, none⟩ = some (.string x[p + 1].2.2))
              have t5 := fun t : UpT W0 => cell_up t ((kT.up uA).cell 0 : W0.cell? ⟨w.heap.size, 0, none⟩ = some (.slice (some ⟨g, off, none⟩) x.length c0))
              clear hW
              have t8 := fun t : UpT W0 => cell_up t ((uA.cell (cell_lt hp0)).trans hp0)
              have t9 := fun t : UpT W0 => cell_up t ((uA.cell (cell_lt hp1)).trans hp1)
              refine wp_region_up (by kernel_rfl) (by kernel_rfl) ?_
              repeat (go_big_quiet_step ((first | (go_at_call 101; exact up_call (CI.out _ (uA.trans (UpT.up _))) (UpT.up _)) | (go_at_call 61; exact up_call (CC.out _ (uA.trans (UpT.up _))) (UpT.up _)))))
              refine wpQuiet_nil ?_
              rintro _ ⟨⟨w1, u1⟩, rfl⟩
              go_wp2_with fail
              go_roundw
              case rel => exact ⟨p + 1 + 1, by omega, by go_num, HN, (hu.trans uA).trans u1⟩
              case measure => simp [intOf]; omega
      · have HE := Lib.hid (treeB_t (l := x) ⟨h120, fun i h => HA.out i h (by omega)⟩)
        go_wp2_with fail
        go_ret
        exact ⟨by rw [HE.out]; first | done | rfl, uu0.trans hu⟩
  · have HE := Lib.hid (treeB_f (l := x) fun hh => h120 hh.1)
    go_enter Tryz.func52, Tryz.ntmps52
    go_wp2_with fail
    go_ret
    exact ⟨by rw [HE.out]; first | done | rfl, uu0⟩
end Go.Proofs.YtanjmolgpkffoaaGreatDoor

namespace Go.Proofs.YtanjmolgpkffoaaGreatDoor
open Go.RowKit
set_option linter.unusedVariables false
set_option linter.unusedSimpArgs false

abbrev locOf (x : TNode) : ByteArray × List ByteArray := (x.1, x.2.1)
def posN (x : TTree) (l : ByteArray × List ByteArray) : Nat := (x.takeWhile fun n => locLt (locOf n) l).length
def hasN (x : TTree) (l : ByteArray × List ByteArray) : Bool := if h : posN x l < x.length then decide (locOf x[posN x l] = l) else false
theorem posN_le (x : TTree) (l : ByteArray × List ByteArray) : posN x l ≤ x.length := tw_le _ _
theorem tw_len_eq {α : Type} (p : α → Bool) : ∀ (l : List α) (i : Nat), i ≤ l.length → (∀ a (h : a < l.length), a < i → p l[a] = true) → (∀ h : i < l.length, p l[i] = false) → (l.takeWhile p).length = i
  | [], i, hi, _, _ => by simp at hi; subst hi; rfl
  | x :: l, i, hi, h1, h2 => by
    cases i with
    | zero =>
      have := h2 (by simp)
      rw [List.takeWhile_cons_of_neg (by simpa using this)]; rfl
    | succ i =>
      have h0 := h1 0 (by simp) (by omega)
      rw [List.takeWhile_cons_of_pos (by simpa using h0)]
      have := tw_len_eq p l i (by simpa using hi) (fun a ha hai => by have := h1 (a + 1) (by simpa using ha) (by omega); simpa using this) (fun h => by have := h2 (by simpa using h); simpa using this)
      simp [this]
theorem sorted_pair {x : TTree} (h : TreeP x) : ∀ (d a : Nat) (hb : a + d + 1 < x.length), locLt (locOf (x[a]'(by omega))) (locOf x[a + d + 1]) = true
  | 0, a, hb => by
    have := (h.2 (a + 1) hb).2 (by omega)
    simpa only [Nat.add_sub_cancel] using this
  | d + 1, a, hb => by
    have h1 := sorted_pair h d a (by omega)
    have h2 := (h.2 (a + (d + 1) + 1) hb).2 (by omega)
    simp only [Nat.add_sub_cancel] at h2
    exact lo_loc.tr _ _ _ h1 h2
theorem sorted_lt {x : TTree} (h : TreeP x) {a b : Nat} (hab : a < b) (hb : b < x.length) : locLt (locOf (x[a]'(by omega))) (locOf x[b]) = true := by
  have := sorted_pair h (b - a - 1) a (by omega)
  have e : a + (b - a - 1) + 1 = b := by omega
  simp only [e] at this
  exact this
theorem posN_eq {x : TTree} {l : ByteArray × List ByteArray} {i : Nat} (hi : i ≤ x.length) (h1 : ∀ a (h : a < x.length), a < i → locLt (locOf x[a]) l = true) (h2 : ∀ h : i < x.length, locLt (locOf x[i]) l = false) : posN x l = i := tw_len_eq _ x i hi h1 h2
set_option maxHeartbeats 4000000 in
theorem c_place1 (a b : TNode) (v u : Value) (w : World) (ha : AV shNode w v a) (hb : AV shNode w u b) (sa : Small a.2.1) (sb : Small b.2.1) (htab : Tab w) :
    Calls Tryz.prog 158 #[v, u] w (RetV (.int .i64 (cmpBy locLt (locOf a) (locOf b))) w) := by
  obtain ⟨cs, rfl, ha⟩ := ha
  obtain ⟨A1, c1, rfl, a0, a1, a2⟩ := openNode ha
  obtain ⟨ds, rfl, hb⟩ := hb
  obtain ⟨B1, d1, rfl, b0, b1, b2⟩ := openNode hb
  obtain ⟨x0, x1, x2⟩ := a
  obtain ⟨y0, y1, y2⟩ := b
  simp only at a0 a1 a2 b0 b1 b2 sa sb
  clear ha hb
  have SA := Lib.hid sa
  have SB := Lib.hid sb
  clear sa sb
  have uu : Up w ((w.alloc (.cells #[.string x0, .slice A1 x1.length c1, .string x2] 91)).alloc (.cells #[.string y0, .slice B1 y1.length d1, .string y2] 91)) := ((Up.refl w).alloc _).alloc _
  have cc := fun W (hW : Up w W) => c_compareLocations x0 y0 x1 y1 A1 B1 c1 d1 W (SR.up good_S a1 hW) (SR.up good_S b1 hW) SA.out SB.out (tab_up htab hW)
  generalize cmpBy locLt (x0, x1) (y0, y1) = z at *
  have CC := Lib.hid cc
  clear cc
  go_enter Tryz.func158, Tryz.ntmps158
  go_wp2_with fail
  refine (CC.out _ uu).mono ?_
  rintro e w1 ⟨rfl, u1⟩
  go_wp2_with fail
  go_ret
  exact ⟨rfl, uu.trans u1⟩
set_option maxRecDepth 100000 in
set_option maxHeartbeats 8000000 in
theorem c_BinarySearch (x : TTree) (hx : TreeP x) (sx : ∀ i (h : i < x.length), Small x[i].2.1) (A : Option Addr) (c : Nat) (t : TNode) (B : Option Addr) (d : Nat) (w : World) (h : SRW shNode w A c x) (k : SRW shS w B d t.2.1) (t0 : t.1.size ≤ maxLen) (t2 : t.2.2.size ≤ maxLen) (st : Small t.2.1) (htab : Tab w) :
    Calls Tryz.prog 157 #[.slice A x.length c, .agg #[.string t.1, .slice B t.2.1.length d, .string t.2.2], .func (.func 158) #[] #[]] w (RetV (.tuple #[.int .i64 (posN x (locOf t)), .bool (hasN x (locOf t))]) w) := by
  have hlen := h.len_le
  have h120 := hx.1
  have HX := Lib.hid hx
  have SX := Lib.hid sx
  have ST := Lib.hid st
  clear hx sx st
  have kB0 := Bk.new w 91 #[.string t.1, .slice B t.2.1.length d, .string t.2.2]
  have uu0 : Up w (w.alloc (.cells #[.string t.1, .slice B t.2.1.length d, .string t.2.2] 91)) := (Up.refl w).alloc _
  go_enter Tryz.func157, Tryz.ntmps157
  go_wp2_with fail
  go_loopw [9, 10] (fun i j wr => ∃ lo hi : Nat, lo ≤ hi ∧ hi ≤ x.length ∧ i = .int .i64 lo ∧ j = .int .i64 hi ∧ Hid ((∀ a (h : a < x.length), a < lo → locLt (locOf x[a]) (locOf t) = true) ∧ (∀ a (h : a < x.length), hi ≤ a → locLt (locOf x[a]) (locOf t) = false)) ∧ Up (w.alloc (.cells #[.string t.1, .slice B t.2.1.length d, .string t.2.2] 91)) wr) (fun i j _ => (intOf j).toNat - (intOf i).toNat)
  case atStart => exact ⟨0, x.length, Nat.zero_le _, Nat.le_refl _, rfl, rfl, ⟨fun a h ha => absurd ha (by omega), fun a h ha => absurd h (by omega)⟩, Up.refl _⟩
  case round =>
    obtain ⟨lo, hi, hlh, hhl, rfl, rfl, HA, hu⟩ := hrel
    have kB := kB0.up hu
    have q0 := fun t' : UpT wr => cell_up t' (kB.cell 0 : wr.cell? ⟨w.heap.size, 0, none⟩ = some (.string t.1))
    have q1 := fun t' : UpT wr => cell_up t' (kB.cell 1 : wr.cell? ⟨w.heap.size, 1, none⟩ = some (.slice B t.2.1.length d))
    have q2 := fun t' : UpT wr => cell_up t' (kB.cell 2 : wr.cell? ⟨w.heap.size, 2, none⟩ = some (.string t.2.2))
    have bt : ∀ W, Up wr W → AV shNode W (.agg #[.string t.1, .slice B t.2.1.length d, .string t.2.2]) t := fun W hW => ⟨_, rfl, mkNode (x := t) t0 (SR.up good_S k ((uu0.trans hu).trans hW)) t2⟩
    by_cases hlt : lo < hi
    · obtain ⟨m, hm⟩ : ∃ m, m = (lo + hi) / 2 := ⟨_, rfl⟩
      have hm1 : lo ≤ m := by omega
      have hm2 : m < hi := by omega
      have hml : m < x.length := by omega
      have hmi : ((lo : Int) + (hi : Int)) / 2 = (m : Int) := by omega
      clear hm
      obtain ⟨g, off, A2, c2, rfl, _, hgl, hc0, hc1, hc2, b0, b1, b2, _⟩ := atNode (h.up good_Node (uu0.trans hu)) hml
      have p0 := fun t' : UpT wr => cell_up t' hc0
      have p1 := fun t' : UpT wr => cell_up t' hc1
      have p2 := fun t' : UpT wr => cell_up t' hc2
      have cc := fun W (hW : Up wr W) => c_place1 x[m] t _ _ W (AV.up good_Node ⟨_, rfl, mkNode (x := x[m]) b0 b1 b2⟩ hW) (bt W hW) (SX.out m hml) ST.out (tab_up htab ((uu0.trans hu).trans hW))
      cases hL : locLt (locOf x[m]) (locOf t)
      · have HN : Hid ((∀ a (h : a < x.length), a < lo → locLt (locOf x[a]) (locOf t) = true) ∧ (∀ a (h : a < x.length), m ≤ a → locLt (locOf x[a]) (locOf t) = false)) := ⟨HA.out.1, fun a h ha => by
          cases hq : locLt (locOf x[a]) (locOf t)
          · rfl
          · rcases Nat.eq_or_lt_of_le ha with e | e
            · subst e; rw [hL] at hq; cases hq
            · have := lo_loc.tr _ _ _ (sorted_lt HX.out e h) hq
              rw [hL] at this; cases this⟩
        have hz := (cmpBy_nonneg lo_loc _ _).2 hL
        generalize cmpBy locLt (locOf x[m]) (locOf t) = z at cc hz
        have CC := Lib.hid cc
        clear cc hL
        go_wp2_with fail
        refine wp_region_up (by kernel_rfl) (by kernel_rfl) ?_
        repeat (go_big_quiet_step ((go_at_call 158; exact up_call (CC.out _ (UpT.up _)) (UpT.up _))))
        refine wpQuiet_nil ?_
        rintro _ ⟨⟨w1, u1⟩, rfl⟩
        go_wp2_with fail
        go_roundw
        case rel => exact ⟨lo, m, by omega, by omega, rfl, rfl, HN, hu.trans u1⟩
        case measure => simp [intOf]; omega
      · have HN : Hid ((∀ a (h : a < x.length), a < m + 1 → locLt (locOf x[a]) (locOf t) = true) ∧ (∀ a (h : a < x.length), hi ≤ a → locLt (locOf x[a]) (locOf t) = false)) := ⟨fun a h ha => by
          rcases Nat.lt_or_ge a m with e | e
          · exact lo_loc.tr _ _ _ (sorted_lt HX.out e hml) hL
          · obtain rfl : a = m := (by omega)
            exact hL, HA.out.2⟩
        have hz : cmpBy locLt (locOf x[m]) (locOf t) = -1 := cmpBy_lt hL
        rw [hz] at cc
        have CC := Lib.hid cc
        clear cc hL hz
        go_wp2_with fail
        refine wp_region_up (by kernel_rfl) (by kernel_rfl) ?_
        repeat (go_big_quiet_step ((go_at_call 158; exact up_call (CC.out _ (UpT.up _)) (UpT.up _))))
        refine wpQuiet_nil ?_
        rintro _ ⟨⟨w1, u1⟩, rfl⟩
        go_wp2_with fail
        go_roundw
        case rel => exact ⟨m + 1, hi, by omega, by omega, by go_num, rfl, HN, hu.trans u1⟩
        case measure => simp [intOf]; omega
    · obtain rfl : lo = hi := by omega
      have hpos : posN x (locOf t) = lo := posN_eq hhl HA.out.1 (fun hq => HA.out.2 lo hq (Nat.le_refl _))
      have HP := Lib.hid hpos
      clear hlt
      by_cases hlx : lo < x.length
      · have hhas : hasN x (locOf t) = decide (locOf x[lo] = locOf t) := by
          unfold hasN
          rw [dif_pos (by rw [hpos]; exact hlx)]
          simp only [hpos]
        have HH := Lib.hid hhas
        clear hpos hhas
        obtain ⟨g, off, A2, c2, rfl, _, hgl, hc0, hc1, hc2, b0, b1, b2, _⟩ := atNode (h.up good_Node (uu0.trans hu)) hlx
        have p0 := fun t' : UpT wr => cell_up t' hc0
        have p1 := fun t' : UpT wr => cell_up t' hc1
        have p2 := fun t' : UpT wr => cell_up t' hc2
        have cc := fun W (hW : Up wr W) => c_place1 x[lo] t _ _ W (AV.up good_Node ⟨_, rfl, mkNode (x := x[lo]) b0 b1 b2⟩ hW) (bt W hW) (SX.out lo hlx) ST.out (tab_up htab ((uu0.trans hu).trans hW))
        by_cases he : locOf x[lo] = locOf t
        · have hz : cmpBy locLt (locOf x[lo]) (locOf t) = 0 := (cmpBy_zero lo_loc _ _).2 he
          rw [hz] at cc
          have CC := Lib.hid cc
          have HQ := Lib.hid (HH.out.trans (decide_eq_true he))
          clear cc hz he HH
          go_wp2_with fail
          refine wp_region_up (by kernel_rfl) (by kernel_rfl) ?_
          repeat (go_big_quiet_step ((go_at_call 158; exact up_call (CC.out _ (UpT.up _)) (UpT.up _))))
          refine wpQuiet_nil ?_
          rintro _ ⟨⟨w1, u1⟩, rfl⟩
          go_wp2_with fail
          go_ret2
          exact ⟨by rw [HP.out, HQ.out]; first | done | rfl, (uu0.trans hu).trans u1⟩
        · have hz : ¬ cmpBy locLt (locOf x[lo]) (locOf t) = 0 := fun e => he ((cmpBy_zero lo_loc _ _).1 e)
          have HQ := Lib.hid (HH.out.trans (decide_eq_false he))
          generalize cmpBy locLt (locOf x[lo]) (locOf t) = z at cc hz
          have hzb : (z == 0) = false := by simpa using hz
          have CC := Lib.hid cc
          clear cc hz he HH
          go_wp2_with fail
          refine wp_region_up (by kernel_rfl) (by kernel_rfl) ?_
          repeat (go_big_quiet_step ((go_at_call 158; exact up_call (CC.out _ (UpT.up _)) (UpT.up _))))
          refine wpQuiet_nil ?_
          rintro _ ⟨⟨w1, u1⟩, rfl⟩
          go_wp2_with fail
          go_ret2
          exact ⟨by rw [HP.out, HQ.out]; first | done | rfl, (uu0.trans hu).trans u1⟩
      · have hhas : hasN x (locOf t) = false := by
          unfold hasN
          rw [dif_neg (by rw [hpos]; exact hlx)]
        have HQ := Lib.hid hhas
        have hlb : decide ((lo : Int) < (x.length : Int)) = false := by simp; omega
        have CC : True := trivial
        clear hpos hhas
        go_wp2_with fail
        refine wp_region_up (by kernel_rfl) (by kernel_rfl) ?_
        repeat (go_big_quiet_step (fail))
        refine wpQuiet_nil ?_
        rintro _ ⟨⟨w1, u1⟩, rfl⟩
        go_wp2_with fail
        go_ret2
        exact ⟨by rw [HP.out, HQ.out]; first | done | rfl, (uu0.trans hu).trans u1⟩
end Go.Proofs.YtanjmolgpkffoaaGreatDoor

namespace Go.Proofs.YtanjmolgpkffoaaGreatDoor
open Go.RowKit
set_option linter.unusedVariables false
set_option linter.unusedSimpArgs false

abbrev TLoc : Type := ByteArray × List ByteArray
theorem treeP_iff {x : TTree} : TreeP x ↔ x.length ≤ 120 ∧ (∀ n ∈ x, nodeB n = true) ∧ x.Pairwise (fun a b => locLt (locOf a) (locOf b) = true) := by
  constructor
  · intro h
    refine ⟨h.1, fun n hn => ?_, List.pairwise_iff_getElem.2 fun i j hi hj hij => sorted_lt h hij hj⟩
    obtain ⟨i, hi, rfl⟩ := List.getElem_of_mem hn
    exact (h.2 i hi).1
  · rintro ⟨h1, h2, h3⟩
    exact ⟨h1, fun i hi => ⟨h2 _ (List.getElem_mem _), fun h0 => List.pairwise_iff_getElem.1 h3 (i - 1) i (by omega) hi (by omega)⟩⟩
theorem placeB_small {s : ByteArray} {xs : List ByteArray} (h : placeB s xs = true) : Small xs := fun i hi => by
  simp only [placeB, Bool.and_eq_true] at h
  have hs : SubsP xs := of_decide_eq_true h.2
  have := hs.2 i hi
  simp only [subB, Bool.and_eq_true, decide_eq_true_eq] at this
  omega
theorem nodeB_small {n : TNode} (h : nodeB n = true) : Small n.2.1 := by
  simp only [nodeB, Bool.and_eq_true] at h
  exact placeB_small h.1
theorem treeP_small {x : TTree} (h : TreeP x) : ∀ i (hi : i < x.length), Small x[i].2.1 := fun i hi => nodeB_small (h.2 i hi).1
theorem treeP_nil : TreeP [] := ⟨by simp, fun i h => absurd h (by simp)⟩

theorem lt_take (x : TTree) (l : TLoc) : ∀ n ∈ x.take (posN x l), locLt (locOf n) l = true := fun n hn => by
  unfold posN at hn
  rw [tw_take] at hn
  obtain ⟨i, hi, rfl⟩ := List.getElem_of_mem hn
  obtain ⟨h', hp⟩ := tw_all _ x i hi
  rw [tw_at _ x i hi h']
  exact hp
theorem ge_at (x : TTree) (l : TLoc) (h : posN x l < x.length) : locLt (locOf x[posN x l]) l = false := tw_stop _ x h
theorem has_at {x : TTree} {l : TLoc} (h : hasN x l = true) : ∃ hp : posN x l < x.length, locOf x[posN x l] = l := by
  unfold hasN at h
  by_cases hp : posN x l < x.length
  · rw [dif_pos hp] at h
    exact ⟨hp, of_decide_eq_true h⟩
  · rw [dif_neg hp] at h; cases h
theorem hasnt_at {x : TTree} {l : TLoc} (h : hasN x l = false) (hp : posN x l < x.length) : locOf x[posN x l] ≠ l := by
  unfold hasN at h
  rw [dif_pos hp] at h
  exact of_decide_eq_false h
/-- Where the elements behind a place begin. -/
def nextN (x : TTree) (l : TLoc) : Nat := if hasN x l = true then posN x l + 1 else posN x l
theorem gt_drop {x : TTree} (hx : TreeP x) (l : TLoc) : ∀ n ∈ x.drop (nextN x l), locLt l (locOf n) = true := fun n hn => by
  obtain ⟨j, hj, rfl⟩ := List.getElem_of_mem hn
  rw [List.getElem_drop]
  have hj' : nextN x l + j < x.length := by simp at hj; omega
  cases hh : hasN x l
  · have hnx : nextN x l = posN x l := by unfold nextN; rw [hh]; rfl
    have hp : posN x l < x.length := by omega
    have h1 := ge_at x l hp
    have h2 := hasnt_at hh hp
    have h3 : locLt l (locOf x[posN x l]) = true := by
      cases e : locLt l (locOf x[posN x l])
      · exact absurd (lo_loc.tri _ _ h1 e) h2
      · rfl
    rcases Nat.eq_zero_or_pos j with rfl | hjp
    · simpa only [hnx, Nat.add_zero] using h3
    · exact lo_loc.tr _ _ _ h3 (sorted_lt hx (by omega) hj')
  · obtain ⟨hp, he⟩ := has_at hh
    have hnx : nextN x l = posN x l + 1 := by unfold nextN; rw [hh]; rfl
    have := sorted_lt hx (a := posN x l) (b := nextN x l + j) (by omega) hj'
    rwa [he] at this

def putT (x : TTree) (l : TLoc) (v : ByteArray) : TTree := x.take (posN x l) ++ (l.1, l.2, v) :: x.drop (nextN x l)
theorem putT_len {x : TTree} {l : TLoc} {v : ByteArray} : (putT x l v).length = if hasN x l = true then x.length else x.length + 1 := by
  have := posN_le x l
  unfold putT nextN
  by_cases h : hasN x l = true
  · obtain ⟨hp, _⟩ := has_at h
    simp only [if_pos h, List.length_append, List.length_take, List.length_cons, List.length_drop]
    omega
  · simp only [if_neg h, List.length_append, List.length_take, List.length_cons, List.length_drop]
    omega
theorem putT_has {x : TTree} {l : TLoc} {v : ByteArray} (h : hasN x l = true) : ∃ hp : posN x l < x.length, putT x l v = x.set (posN x l) (x[posN x l].1, x[posN x l].2.1, v) := by
  obtain ⟨hp, he⟩ := has_at h
  refine ⟨hp, ?_⟩
  have e1 : x[posN x l].1 = l.1 := congrArg Prod.fst he
  have e2 : x[posN x l].2.1 = l.2 := congrArg Prod.snd he
  rw [e1, e2, List.set_eq_take_append_cons_drop, if_pos hp]
  unfold putT nextN
  rw [if_pos h]
theorem putT_hasnt {x : TTree} {l : TLoc} {v : ByteArray} (h : hasN x l = false) : putT x l v = x.take (posN x l) ++ (l.1, l.2, v) :: x.drop (posN x l) := by
  unfold putT nextN
  rw [h]
  rfl
theorem putT_P {x : TTree} {l : TLoc} {v : ByteArray} (hx : TreeP x) (hp : placeB l.1 l.2 = true) (hv : v.size ≤ 64) (hr : hasN x l = true ∨ x.length < 120) : TreeP (putT x l v) := by
  obtain ⟨h1, h2, h3⟩ := treeP_iff.1 hx
  refine treeP_iff.2 ⟨?_, fun n hn => ?_, ?_⟩
  · rw [putT_len]
    split
    · exact h1
    · rcases hr with h | h
      · contradiction
      · omega
  · rcases List.mem_append.1 hn with hn | hn
    · exact h2 n (List.mem_of_mem_take hn)
    · rcases List.mem_cons.1 hn with rfl | hn
      · simp only [nodeB, Bool.and_eq_true, decide_eq_true_eq]
        exact ⟨hp, hv⟩
      · exact h2 n (List.mem_of_mem_drop hn)
  · refine List.pairwise_append.2 ⟨h3.sublist (List.take_sublist _ _), List.pairwise_cons.2 ⟨fun n hn => gt_drop hx l n hn, h3.sublist (List.drop_sublist _ _)⟩, fun a ha b hb => ?_⟩
    have ha' := lt_take x l a ha
    rcases List.mem_cons.1 hb with rfl | hb
    · exact ha'
    · exact lo_loc.tr _ _ _ ha' (gt_drop hx l b hb)

/-- Whether subs begin with others. -/
def begB (xs ys : List ByteArray) : Bool := decide (ys.length ≤ xs.length ∧ xs.take ys.length = ys)
def atB (n : TNode) (l : TLoc) : Bool := decide (n.1 = l.1) && begB n.2.1 l.2
theorem sub_P {x y : TTree} (hx : TreeP x) (h : y.Sublist x) : TreeP y := by
  obtain ⟨h1, h2, h3⟩ := treeP_iff.1 hx
  exact treeP_iff.2 ⟨Nat.le_trans h.length_le h1, fun n hn => h2 n (h.mem hn), h3.sublist h⟩
def dropT (x : TTree) (l : TLoc) : TTree := if hasN x l = true then x.take (posN x l) ++ x.drop (posN x l + 1) else x
theorem dropT_P {x : TTree} {l : TLoc} (hx : TreeP x) : TreeP (dropT x l) := by
  unfold dropT
  split
  · rw [← List.eraseIdx_eq_take_drop_succ]
    exact sub_P hx (List.eraseIdx_sublist _ _)
  · exact hx
/-- PutNode of what is right: the code, and the tree. -/
def putC (x : TTree) (l : TLoc) : Int := if hasN x l = false ∧ 120 ≤ x.length then 4 else 0
theorem putC_ok {x : TTree} {l : TLoc} (h : putC x l = 0) : hasN x l = true ∨ x.length < 120 := by
  unfold putC at h
  by_cases h1 : hasN x l = false ∧ 120 ≤ x.length
  · rw [if_pos h1] at h; cases h
  · cases e : hasN x l
    · exact .inr (by rw [e] at h1; simp at h1; omega)
    · exact .inl rfl
def putR (x : TTree) (l : TLoc) (v : ByteArray) : TTree := if putC x l = 0 then putT x l v else []
end Go.Proofs.YtanjmolgpkffoaaGreatDoor
