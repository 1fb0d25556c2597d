/-
  Contracts of the held helpers.
  NewBtree: the program's and the reference's give one tree in new memory.
-/
import Derived.Test.YtanjmolgpkffoaaGreatDoorM2Lm
import Derived.Test.YtanjmolgpkffoaaGreatDoorM2Le
namespace Go.Proofs.YtanjmolgpkffoaaGreatDoor
open Go.RowKit
set_option linter.unusedVariables false
set_option linter.unusedSimpArgs false

set_option maxRecDepth 100000 in
set_option maxHeartbeats 4000000 in
theorem c_heldStringS (xs : List ByteArray) (A : Option Addr) (c : Nat) (k : Int) (w : World) (h : SRW shS w A c xs) (hm : markL mkS xs k = xs) (hk0 : 0 < k) (hk1 : k + ((mkL mkS).cnt xs : Nat) ≤ 1000000000) :
    Calls Tryz.prog 121 #[.slice A xs.length c, .int .i64 k] w (HeldP (k + ((mkL mkS).cnt xs : Nat)) w) := by
  have hlen := h.len_le
  have HM := Lib.hid hm; clear hm
  have hk2 : k + ((xs.map (mkS).cnt).sum : Nat) ≤ 1000000000 := hk1
  clear hk1
  go_enter Tryz.func121, Tryz.ntmps121
  go_wp2_with fail
  go_loopw [1, 5] (fun a b wr => ∃ (i : Nat) (K : Int), i ≤ xs.length ∧ a = .int .i64 K ∧ b = .int .i64 i ∧ Hid (K = k + psum (mkS).cnt xs i) ∧ 0 < K ∧ K ≤ 1000000000 ∧ Up w wr) (fun _ b _ => xs.length - (intOf b).toNat)
  case atStart => exact ⟨0, k, Nat.zero_le _, rfl, rfl, by unfold Hid; rw [psum_zero]; simp, hk0, by omega, Up.refl _⟩
  case round =>
    obtain ⟨i, K, hii, rfl, rfl, HK, hK0, hK1, hu⟩ := hrel
    by_cases hlt : i < xs.length
    · have hps := psum_le (mkS).cnt xs (i + 1)
      rw [psum_succ (mkS).cnt xs i hlt] at hps
      have hKb : K + ((mkS).cnt xs[i] : Nat) ≤ 1000000000 := by rw [HK.out]; omega
      have HK2 : Hid (K + ((mkS).cnt xs[i] : Nat) = k + psum (mkS).cnt xs (i + 1)) := by unfold Hid; rw [HK.out, psum_succ (mkS).cnt xs i hlt]; omega
      clear hps
      have hmi : (mkS).mark xs[i] K = xs[i] := by rw [HK.out]; exact marked_at HM.out hlt
      have hKc : K + ((1 : Nat) : Int) ≤ 1000000000 := hKb
      have v0 : (mtext (K)) = xs[i] := congrArg (fun q : ByteArray => q) hmi
      clear hmi
      obtain ⟨g, off, rfl, _, _, hc0, b0⟩ := (h.up good_S hu).at_S hlt
      rw [← v0] at hc0
      clear v0
      go_wp2_with fail
      have t0_0 := fun t : UpT wr => cell_up t hc0
      refine wp_region_up (by kernel_rfl) (by kernel_rfl) ?_
      repeat (go_big_quiet_step ((go_at_call 80; exact up_call (c_markText _ _ (by omega) (by omega)) (UpT.up _))))
      refine wpQuiet_nil ?_
      clear t0_0
      rintro w1 ⟨⟨_, u1⟩, rfl⟩
      try dsimp only
      have l1 := u1
      have c1_0 : w1.cell? ⟨g, off + i, none⟩ = some (.string (mtext (K))) := (l1.cell (cell_lt hc0)).trans hc0
      go_wp2_with fail
      have hcn : ((mkS).cnt xs[i] : Nat) = 1 := rfl
      have HK3 : Hid (K + 1 = k + psum (mkS).cnt xs (i + 1)) := by unfold Hid; rw [← HK2.out, hcn]; omega
      have hk5 : K + 1 ≤ 1000000000 := by rw [hcn] at hKb; omega
      clear hcn
      go_roundw
      case rel => exact ⟨i + 1, K + 1, by omega, rfl, by go_num, HK3, by omega, hk5, hu.trans l1⟩
      case measure => simp [intOf]; omega
    · have HE : Hid (K = k + ((mkL mkS).cnt xs : Nat)) := by unfold Hid; rw [HK.out]; show _ = k + (((xs.map (mkS).cnt).sum : Nat) : Int); rw [← psum_all (mkS).cnt xs, show i = xs.length by omega]
      go_wp2_with fail
      go_ret
      exact HeldP.mk HE hu

set_option maxRecDepth 100000 in
set_option maxHeartbeats 4000000 in
theorem c_heldNodeS (xs : List TNode) (A : Option Addr) (c : Nat) (k : Int) (w : World) (h : SRW shNode w A c xs) (hm : markL mmNode xs k = xs) (hk0 : 0 < k) (hk1 : k + ((mkL mmNode).cnt xs : Nat) ≤ 1000000000) :
    Calls Tryz.prog 81 #[.slice A xs.length c, .int .i64 k] w (HeldP (k + ((mkL mmNode).cnt xs : Nat)) w) := by
  have hlen := h.len_le
  have HM := Lib.hid hm; clear hm
  have hk2 : k + ((xs.map (mmNode).cnt).sum : Nat) ≤ 1000000000 := hk1
  clear hk1
  go_enter Tryz.func81, Tryz.ntmps81
  go_wp2_with fail
  go_loopw [1, 5] (fun a b wr => ∃ (i : Nat) (K : Int), i ≤ xs.length ∧ a = .int .i64 K ∧ b = .int .i64 i ∧ Hid (K = k + psum (mmNode).cnt xs i) ∧ 0 < K ∧ K ≤ 1000000000 ∧ Up w wr) (fun _ b _ => xs.length - (intOf b).toNat)
  case atStart => exact ⟨0, k, Nat.zero_le _, rfl, rfl, by unfold Hid; rw [psum_zero]; simp, hk0, by omega, Up.refl _⟩
  case round =>
    obtain ⟨i, K, hii, rfl, rfl, HK, hK0, hK1, hu⟩ := hrel
    by_cases hlt : i < xs.length
    · have hps := psum_le (mmNode).cnt xs (i + 1)
      rw [psum_succ (mmNode).cnt xs i hlt] at hps
      have hKb : K + ((mmNode).cnt xs[i] : Nat) ≤ 1000000000 := by rw [HK.out]; omega
      have HK2 : Hid (K + ((mmNode).cnt xs[i] : Nat) = k + psum (mmNode).cnt xs (i + 1)) := by unfold Hid; rw [HK.out, psum_succ (mmNode).cnt xs i hlt]; omega
      clear hps
      have hmi : (mmNode).mark xs[i] K = xs[i] := by rw [HK.out]; exact marked_at HM.out hlt
      have hKc : K + ((1 + ((mkL mkS).cnt xs[i].2.1 + (1)) : Nat) : Int) ≤ 1000000000 := hKb
      have v0 : (mtext (K)) = xs[i].1 := congrArg (fun q : TNode => q.1) hmi
      have v1 : (markL mkS xs[i].2.1 (K + 1)) = xs[i].2.1 := congrArg (fun q : TNode => q.2.1) hmi
      have v2 : (mtext (K + 1 + ((mkL mkS).cnt xs[i].2.1 : Nat))) = xs[i].2.2 := congrArg (fun q : TNode => q.2.2) hmi
      clear hmi
      obtain ⟨g, off, A1, c1, rfl, _, _, hc0, hc1, hc2, b0, b1, b2, _⟩ := atNode (h.up good_Node hu) hlt
      rw [← v0] at hc0
      clear v0
      have hv1 := Lib.hid v1; clear v1
      rw [← v2] at hc2
      clear v2
      go_wp2_with fail
      have t0_0 := fun t : UpT wr => cell_up t hc0
      have t0_1 := fun t : UpT wr => cell_up t hc1
      have t0_2 := fun t : UpT wr => cell_up t hc2
      refine wp_region_up (by kernel_rfl) (by kernel_rfl) ?_
      repeat (go_big_quiet_step ((go_at_call 80; exact up_call (c_markText _ _ (by omega) (by omega)) (UpT.up _))))
      refine wpQuiet_nil ?_
      clear t0_0 t0_1 t0_2
      rintro w1 ⟨⟨_, u1⟩, rfl⟩
      try dsimp only
      have l1 := u1
      have c1_0 : w1.cell? ⟨g, off + i * 3, none⟩ = some (.string (mtext (K))) := (l1.cell (cell_lt hc0)).trans hc0
      have c1_1 : w1.cell? ⟨g, off + i * 3 + 1, none⟩ = some (.slice A1 xs[i].2.1.length c1) := (l1.cell (cell_lt hc1)).trans hc1
      have c1_2 : w1.cell? ⟨g, off + i * 3 + 2, none⟩ = some (.string (mtext (K + 1 + ((mkL mkS).cnt xs[i].2.1 : Nat)))) := (l1.cell (cell_lt hc2)).trans hc2
      go_wp2_with fail
      refine (c_heldStringS _ _ _ _ _ (b1.up good_S l1) hv1.out (by omega) (by omega)).mono ?_
      rintro e w2 ⟨rfl, u2⟩
      have l2 := l1.trans u2
      have c2_0 : w2.cell? ⟨g, off + i * 3, none⟩ = some (.string (mtext (K))) := (l2.cell (cell_lt hc0)).trans hc0
      have c2_1 : w2.cell? ⟨g, off + i * 3 + 1, none⟩ = some (.slice A1 xs[i].2.1.length c1) := (l2.cell (cell_lt hc1)).trans hc1
      have c2_2 : w2.cell? ⟨g, off + i * 3 + 2, none⟩ = some (.string (mtext (K + 1 + ((mkL mkS).cnt xs[i].2.1 : Nat)))) := (l2.cell (cell_lt hc2)).trans hc2
      go_wp2_with fail
      have t2_0 := fun t : UpT w2 => cell_up t c2_0
      have t2_1 := fun t : UpT w2 => cell_up t c2_1
      have t2_2 := fun t : UpT w2 => cell_up t c2_2
      refine wp_region_up (by kernel_rfl) (by kernel_rfl) ?_
      repeat (go_big_quiet_step ((go_at_call 80; exact up_call (c_markText _ _ (by omega) (by omega)) (UpT.up _))))
      refine wpQuiet_nil ?_
      clear t2_0 t2_1 t2_2
      rintro w3 ⟨⟨_, u3⟩, rfl⟩
      try dsimp only
      have l3 := l2.trans u3
      have c3_0 : w3.cell? ⟨g, off + i * 3, none⟩ = some (.string (mtext (K))) := (l3.cell (cell_lt hc0)).trans hc0
      have c3_1 : w3.cell? ⟨g, off + i * 3 + 1, none⟩ = some (.slice A1 xs[i].2.1.length c1) := (l3.cell (cell_lt hc1)).trans hc1
      have c3_2 : w3.cell? ⟨g, off + i * 3 + 2, none⟩ = some (.string (mtext (K + 1 + ((mkL mkS).cnt xs[i].2.1 : Nat)))) := (l3.cell (cell_lt hc2)).trans hc2
      go_wp2_with fail
      have hcn : ((mmNode).cnt xs[i] : Nat) = 1 + ((mkL mkS).cnt xs[i].2.1 + (1)) := rfl
      have HK3 : Hid (K + 1 + ((mkL mkS).cnt xs[i].2.1 : Nat) + 1 = k + psum (mmNode).cnt xs (i + 1)) := by unfold Hid; rw [← HK2.out, hcn]; omega
      have hk5 : K + 1 + ((mkL mkS).cnt xs[i].2.1 : Nat) + 1 ≤ 1000000000 := by rw [hcn] at hKb; omega
      clear hcn
      go_roundw
      case rel => exact ⟨i + 1, K + 1 + ((mkL mkS).cnt xs[i].2.1 : Nat) + 1, by omega, rfl, by go_num, HK3, by omega, hk5, hu.trans l3⟩
      case measure => simp [intOf]; omega
    · have HE : Hid (K = k + ((mkL mmNode).cnt xs : Nat)) := by unfold Hid; rw [HK.out]; show _ = k + (((xs.map (mmNode).cnt).sum : Nat) : Int); rw [← psum_all (mmNode).cnt xs, show i = xs.length by omega]
      go_wp2_with fail
      go_ret
      exact HeldP.mk HE hu

set_option maxRecDepth 100000 in
set_option maxHeartbeats 4000000 in
theorem c_heldTree (v : Value) (x : TTree) (k : Int) (w : World) (h : AV shTree w v x) (hm : mmTTree.mark x k = x) (hk0 : 0 < k) (hk1 : k + (mmTTree.cnt x : Nat) ≤ 1000000000) :
    Calls Tryz.prog 38 #[v, .int .i64 k] w (HeldP (k + (mmTTree.cnt x : Nat)) w) := by
  obtain ⟨cs, rfl, h⟩ := h
  obtain ⟨x0, rfl⟩ : ∃ q, q = x := ⟨_, rfl⟩
  have ho := openTree h
  try dsimp only at ho
  obtain ⟨A0, c0, rfl, b0⟩ := ho
  have hcn : mmTTree.cnt x0 = (mkL mmNode).cnt x0 := rfl
  rw [hcn] at hk1
  have HC := Lib.hid hcn; clear hcn
  have hv0 : Hid (markL mmNode x0 (k) = x0) := by have := congrArg (fun q : TTree => q) hm; unfold Hid; exact Eq.trans (by first | rfl | simp [mmTTree, mkP, mk0, mkL]) this
  clear hm
  have kk0 : Bk (w.alloc (.cells #[.slice A0 x0.length c0] 32)) w.heap.size 32 #[.slice A0 x0.length c0] := Bk.new _ _ _
  have uu0 : Up w (w.alloc (.cells #[.slice A0 x0.length c0] 32)) := (Up.refl _).alloc _
  go_enter Tryz.func38, Tryz.ntmps38
  go_wp2_with fail
  refine (c_heldNodeS _ _ _ _ _ (b0.up good_Node uu0) hv0.out (by omega) (by omega)).mono ?_
  rintro e w1 ⟨rfl, u1⟩
  have uu1 := uu0.trans u1
  have kk1 := kk0.up u1
  clear u1
  go_wp2_with fail
  go_ret
  exact HeldP.mk (by unfold Hid; first | (rw [HC.out]; done) | (rw [HC.out]; omega)) uu1




end Go.Proofs.YtanjmolgpkffoaaGreatDoor

namespace Go.Proofs.YtanjmolgpkffoaaGreatDoor
open Go.RowKit
set_option linter.unusedVariables false

end Go.Proofs.YtanjmolgpkffoaaGreatDoor
