/-
  Contracts of the held helpers.
-/
import Derived.Test.YtafabcabffeikaaLm
namespace Go.Proofs.Ytafabcabffeikaa
open Go.RowKit
set_option linter.unusedVariables false
set_option linter.unusedSimpArgs false

set_option maxRecDepth 100000 in
set_option maxHeartbeats 4000000 in
theorem c_heldStringS (xs : List ByteArray) (A : Option Addr) (c : Nat) (k : Int) (w : World) (h : SRW shS w A c xs) (hm : markL mkS xs k = xs) (hk0 : 0 < k) (hk1 : k + ((mkL mkS).cnt xs : Nat) ≤ 1000000000) :
    Calls Try.prog 81 #[.slice A xs.length c, .int .i64 k] w (HeldP (k + ((mkL mkS).cnt xs : Nat)) w) := by
  have hlen := h.len_le
  have HM := Lib.hid hm; clear hm
  have hk2 : k + ((xs.map (mkS).cnt).sum : Nat) ≤ 1000000000 := hk1
  clear hk1
  go_enter Try.func81, Try.ntmps81
  go_wp2_with fail
  go_loopw [1, 5] (fun a b wr => ∃ (i : Nat) (K : Int), i ≤ xs.length ∧ a = .int .i64 K ∧ b = .int .i64 i ∧ Hid (K = k + psum (mkS).cnt xs i) ∧ 0 < K ∧ K ≤ 1000000000 ∧ Up w wr) (fun _ b _ => xs.length - (intOf b).toNat)
  case atStart => exact ⟨0, k, Nat.zero_le _, rfl, rfl, by unfold Hid; rw [psum_zero]; simp, hk0, by omega, Up.refl _⟩
  case round =>
    obtain ⟨i, K, hii, rfl, rfl, HK, hK0, hK1, hu⟩ := hrel
    by_cases hlt : i < xs.length
    · have hps := psum_le (mkS).cnt xs (i + 1)
      rw [psum_succ (mkS).cnt xs i hlt] at hps
      have hKb : K + ((mkS).cnt xs[i] : Nat) ≤ 1000000000 := by rw [HK.out]; omega
      have HK2 : Hid (K + ((mkS).cnt xs[i] : Nat) = k + psum (mkS).cnt xs (i + 1)) := by unfold Hid; rw [HK.out, psum_succ (mkS).cnt xs i hlt]; omega
      clear hps
      have hmi : (mkS).mark xs[i] K = xs[i] := by rw [HK.out]; exact marked_at HM.out hlt
      have hKc : K + ((1 : Nat) : Int) ≤ 1000000000 := hKb
      have v0 : (mtext (K)) = xs[i] := congrArg (fun q : ByteArray => q) hmi
      clear hmi
      obtain ⟨g, off, rfl, _, _, hc0, b0⟩ := (h.up good_S hu).at_S hlt
      rw [← v0] at hc0
      clear v0
      go_wp2_with fail
      have t0_0 := fun t : UpT wr => cell_up t hc0
      refine wp_region_up (by kernel_rfl) (by kernel_rfl) ?_
      repeat (go_big_quiet_step ((go_at_call 137; exact up_call (c_markText _ _ (by omega) (by omega)) (UpT.up _))))
      refine wpQuiet_nil ?_
      clear t0_0
      rintro w1 ⟨⟨_, u1⟩, rfl⟩
      try dsimp only
      have l1 := u1
      have c1_0 : w1.cell? ⟨g, off + i, none⟩ = some (.string (mtext (K))) := (l1.cell (cell_lt hc0)).trans hc0
      go_wp2_with fail
      have hcn : ((mkS).cnt xs[i] : Nat) = 1 := rfl
      have HK3 : Hid (K + 1 = k + psum (mkS).cnt xs (i + 1)) := by unfold Hid; rw [← HK2.out, hcn]; omega
      have hk5 : K + 1 ≤ 1000000000 := by rw [hcn] at hKb; omega
      clear hcn
      go_roundw
      case rel => exact ⟨i + 1, K + 1, by omega, rfl, by go_num, HK3, by omega, hk5, hu.trans l1⟩
      case measure => simp [intOf]; omega
    · have HE : Hid (K = k + ((mkL mkS).cnt xs : Nat)) := by unfold Hid; rw [HK.out]; show _ = k + (((xs.map (mkS).cnt).sum : Nat) : Int); rw [← psum_all (mkS).cnt xs, show i = xs.length by omega]
      go_wp2_with fail
      go_ret
      exact HeldP.mk HE hu



set_option maxRecDepth 100000 in
set_option maxHeartbeats 4000000 in
theorem c_heldPutS (xs : List TPut) (A : Option Addr) (c : Nat) (k : Int) (w : World) (h : SRW shPut w A c xs) (hm : markL mmPut xs k = xs) (hk0 : 0 < k) (hk1 : k + ((mkL mmPut).cnt xs : Nat) ≤ 1000000000) :
    Calls Try.prog 82 #[.slice A xs.length c, .int .i64 k] w (HeldP (k + ((mkL mmPut).cnt xs : Nat)) w) := by
  have hlen := h.len_le
  have HM := Lib.hid hm; clear hm
  have hk2 : k + ((xs.map (mmPut).cnt).sum : Nat) ≤ 1000000000 := hk1
  clear hk1
  go_enter Try.func82, Try.ntmps82
  go_wp2_with fail
  go_loopw [1, 5] (fun a b wr => ∃ (i : Nat) (K : Int), i ≤ xs.length ∧ a = .int .i64 K ∧ b = .int .i64 i ∧ Hid (K = k + psum (mmPut).cnt xs i) ∧ 0 < K ∧ K ≤ 1000000000 ∧ Up w wr) (fun _ b _ => xs.length - (intOf b).toNat)
  case atStart => exact ⟨0, k, Nat.zero_le _, rfl, rfl, by unfold Hid; rw [psum_zero]; simp, hk0, by omega, Up.refl _⟩
  case round =>
    obtain ⟨i, K, hii, rfl, rfl, HK, hK0, hK1, hu⟩ := hrel
    by_cases hlt : i < xs.length
    · have hps := psum_le (mmPut).cnt xs (i + 1)
      rw [psum_succ (mmPut).cnt xs i hlt] at hps
      have hKb : K + ((mmPut).cnt xs[i] : Nat) ≤ 1000000000 := by rw [HK.out]; omega
      have HK2 : Hid (K + ((mmPut).cnt xs[i] : Nat) = k + psum (mmPut).cnt xs (i + 1)) := by unfold Hid; rw [HK.out, psum_succ (mmPut).cnt xs i hlt]; omega
      clear hps
      have hmi : (mmPut).mark xs[i] K = xs[i] := by rw [HK.out]; exact marked_at HM.out hlt
      have hKc : K + ((1 + (1) : Nat) : Int) ≤ 1000000000 := hKb
      have v0 : (K) = xs[i].1 := congrArg (fun q : TPut => q.1) hmi
      have v1 : (mtext (K + 1)) = xs[i].2 := congrArg (fun q : TPut => q.2) hmi
      clear hmi
      obtain ⟨g, off, rfl, _, _, hc0, hc1, b0, b1, _⟩ := atPut (h.up good_Put hu) hlt
      rw [← v0] at hc0
      clear v0
      rw [← v1] at hc1
      clear v1
      go_wp2_with fail
      have t0_0 := fun t : UpT wr => cell_up t hc0
      have t0_1 := fun t : UpT wr => cell_up t hc1
      refine wp_region_up (by kernel_rfl) (by kernel_rfl) ?_
      repeat (go_big_quiet_step ((go_at_call 137; exact up_call (c_markText _ _ (by omega) (by omega)) (UpT.up _))))
      refine wpQuiet_nil ?_
      clear t0_0 t0_1
      rintro w1 ⟨⟨_, u1⟩, rfl⟩
      try dsimp only
      have l1 := u1
      have c1_0 : w1.cell? ⟨g, off + i * 2, none⟩ = some (.int .i64 (K)) := (l1.cell (cell_lt hc0)).trans hc0
      have c1_1 : w1.cell? ⟨g, off + i * 2 + 1, none⟩ = some (.string (mtext (K + 1))) := (l1.cell (cell_lt hc1)).trans hc1
      go_wp2_with fail
      have hcn : ((mmPut).cnt xs[i] : Nat) = 1 + (1) := rfl
      have HK3 : Hid (K + 1 + 1 = k + psum (mmPut).cnt xs (i + 1)) := by unfold Hid; rw [← HK2.out, hcn]; omega
      have hk5 : K + 1 + 1 ≤ 1000000000 := by rw [hcn] at hKb; omega
      clear hcn
      go_roundw
      case rel => exact ⟨i + 1, K + 1 + 1, by omega, rfl, by go_num, HK3, by omega, hk5, hu.trans l1⟩
      case measure => simp [intOf]; omega
    · have HE : Hid (K = k + ((mkL mmPut).cnt xs : Nat)) := by unfold Hid; rw [HK.out]; show _ = k + (((xs.map (mmPut).cnt).sum : Nat) : Int); rw [← psum_all (mmPut).cnt xs, show i = xs.length by omega]
      go_wp2_with fail
      go_ret
      exact HeldP.mk HE hu


set_option maxRecDepth 100000 in
set_option maxHeartbeats 4000000 in
theorem c_heldDisk (v : Value) (x : TDisk) (k : Int) (w : World) (h : AV shDisk w v x) (hm : mmTDisk.mark x k = x) (hk0 : 0 < k) (hk1 : k + (mmTDisk.cnt x : Nat) ≤ 1000000000) :
    Calls Try.prog 27 #[v, .int .i64 k] w (HeldP (k + (mmTDisk.cnt x : Nat)) w) := by
  obtain ⟨cs, rfl, h⟩ := h
  obtain ⟨x0, x1, x2⟩ := x
  have ho := openDisk h
  try dsimp only at ho
  obtain ⟨A1, c1, A2, c2, rfl, b0, b1, b2⟩ := ho
  have hcn : mmTDisk.cnt (x0, x1, x2) = 0 + ((mkL mkS).cnt x1 + ((mkL mmPut).cnt x2)) := rfl
  rw [hcn] at hk1
  have HC := Lib.hid hcn; clear hcn
  have hv1 : Hid (markL mkS x1 (k) = x1) := by have := congrArg (fun q : TDisk => q.2.1) hm; unfold Hid; exact Eq.trans (by first | rfl | simp [mmTDisk, mkP, mk0, mkL]) this
  have hv2 : Hid (markL mmPut x2 (k + ((mkL mkS).cnt x1 : Nat)) = x2) := by have := congrArg (fun q : TDisk => q.2.2) hm; unfold Hid; exact Eq.trans (by first | rfl | simp [mmTDisk, mkP, mk0, mkL]) this
  clear hm
  have kk0 : Bk (w.alloc (.cells #[.int .i64 x0, .slice A1 x1.length c1, .slice A2 x2.length c2] 42)) w.heap.size 42 #[.int .i64 x0, .slice A1 x1.length c1, .slice A2 x2.length c2] := Bk.new _ _ _
  have uu0 : Up w (w.alloc (.cells #[.int .i64 x0, .slice A1 x1.length c1, .slice A2 x2.length c2] 42)) := (Up.refl _).alloc _
  go_enter Try.func27, Try.ntmps27
  go_wp2_with fail
  refine (c_heldStringS _ _ _ _ _ (b1.up good_S uu0) hv1.out (by omega) (by omega)).mono ?_
  rintro e w1 ⟨rfl, u1⟩
  have uu1 := uu0.trans u1
  have kk1 := kk0.up u1
  have g1_2 : w1.cell? ⟨w.heap.size, 2, none⟩ = some (.slice A2 x2.length c2) := kk1.cell 2
  clear u1
  go_wp2_with fail
  refine (c_heldPutS _ _ _ _ _ (b2.up good_Put uu1) hv2.out (by omega) (by omega)).mono ?_
  rintro e w2 ⟨rfl, u2⟩
  have uu2 := uu1.trans u2
  have kk2 := kk1.up u2
  clear u2
  go_wp2_with fail
  go_ret
  exact HeldP.mk (by unfold Hid; rw [HC.out]; omega) uu2


set_option maxRecDepth 100000 in
set_option maxHeartbeats 4000000 in
theorem c_heldJournal (v : Value) (x : TJournal) (k : Int) (w : World) (h : AV shJournal w v x) (hm : mmTJournal.mark x k = x) (hk0 : 0 < k) (hk1 : k + (mmTJournal.cnt x : Nat) ≤ 1000000000) :
    Calls Try.prog 43 #[v, .int .i64 k] w (HeldP (k + (mmTJournal.cnt x : Nat)) w) := by
  obtain ⟨cs, rfl, h⟩ := h
  obtain ⟨⟨x0, x1, x2⟩, x3, x4, x5, x6⟩ := x
  have ho := openJournal h
  try dsimp only at ho
  obtain ⟨A1, c1, A2, c2, rfl, b0, b1, b2, b3, b4, b5, b6⟩ := ho
  have hcn : mmTJournal.cnt ((x0, x1, x2), x3, x4, x5, x6) = mmTDisk.cnt (x0, x1, x2) + (0 + (0 + (0 + (0)))) := rfl
  rw [hcn] at hk1
  have HC := Lib.hid hcn; clear hcn
  have hv0 : Hid (mmTDisk.mark (x0, x1, x2) (k) = (x0, x1, x2)) := by have := congrArg (fun q : TJournal => q.1) hm; unfold Hid; exact Eq.trans (by first | rfl | simp [mmTJournal, mkP, mk0, mkL]) this
  clear hm
  have kk0 : Bk (w.alloc (.cells #[.int .i64 x0, .slice A1 x1.length c1, .slice A2 x2.length c2, .int .i64 x3, .int .i64 x4, .int .i64 x5, .int .i64 x6] 63)) w.heap.size 63 #[.int .i64 x0, .slice A1 x1.length c1, .slice A2 x2.length c2, .int .i64 x3, .int .i64 x4, .int .i64 x5, .int .i64 x6] := Bk.new _ _ _
  have uu0 : Up w (w.alloc (.cells #[.int .i64 x0, .slice A1 x1.length c1, .slice A2 x2.length c2, .int .i64 x3, .int .i64 x4, .int .i64 x5, .int .i64 x6] 63)) := (Up.refl _).alloc _
  go_enter Try.func43, Try.ntmps43
  go_wp2_with fail
  refine (c_heldDisk _ (x0, x1, x2) _ _ ⟨_, rfl, mkDisk (x := (x0, x1, x2)) b0 (b1.up good_S uu0) (b2.up good_Put uu0)⟩ hv0.out (by omega) (by omega)).mono ?_
  rintro e w1 ⟨rfl, u1⟩
  have uu1 := uu0.trans u1
  have kk1 := kk0.up u1
  have g1_1 : w1.cell? ⟨w.heap.size, 1, none⟩ = some (.slice A1 x1.length c1) := kk1.cell 1
  have g1_2 : w1.cell? ⟨w.heap.size, 2, none⟩ = some (.slice A2 x2.length c2) := kk1.cell 2
  have g1_3 : w1.cell? ⟨w.heap.size, 3, none⟩ = some (.int .i64 x3) := kk1.cell 3
  have g1_4 : w1.cell? ⟨w.heap.size, 4, none⟩ = some (.int .i64 x4) := kk1.cell 4
  have g1_5 : w1.cell? ⟨w.heap.size, 5, none⟩ = some (.int .i64 x5) := kk1.cell 5
  have g1_6 : w1.cell? ⟨w.heap.size, 6, none⟩ = some (.int .i64 x6) := kk1.cell 6
  clear u1
  go_wp2_with fail
  go_ret
  exact HeldP.mk (by unfold Hid; rw [HC.out]; omega) uu1

end Go.Proofs.Ytafabcabffeikaa
