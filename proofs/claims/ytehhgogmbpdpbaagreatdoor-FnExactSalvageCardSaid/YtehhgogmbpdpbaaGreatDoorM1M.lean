/-
  Contracts of the held helpers.
  NewBtree: the program's and the reference's give one tree in new memory.
-/
import Derived.Test.YtehhgogmbpdpbaaGreatDoorM1Lm
import Derived.Test.YtehhgogmbpdpbaaGreatDoorM1Le
namespace Go.Proofs.YtehhgogmbpdpbaaGreatDoor
open Go.RowKit
set_option linter.unusedVariables false
set_option linter.unusedSimpArgs false

set_option maxRecDepth 100000 in
set_option maxHeartbeats 4000000 in
theorem c_heldStringS (xs : List ByteArray) (A : Option Addr) (c : Nat) (k : Int) (w : World) (h : SRW shS w A c xs) (hm : markL mkS xs k = xs) (hk0 : 0 < k) (hk1 : k + ((mkL mkS).cnt xs : Nat) ≤ 1000000000) :
    Calls Tryz.prog 45 #[.slice A xs.length c, .int .i64 k] w (HeldP (k + ((mkL mkS).cnt xs : Nat)) w) := by
  have hlen := h.len_le
  have HM := Lib.hid hm; clear hm
  have hk2 : k + ((xs.map (mkS).cnt).sum : Nat) ≤ 1000000000 := hk1
  clear hk1
  go_enter Tryz.func45, Tryz.ntmps45
  go_wp2_with fail
  go_loopw [1, 5] (fun a b wr => ∃ (i : Nat) (K : Int), i ≤ xs.length ∧ a = .int .i64 K ∧ b = .int .i64 i ∧ Hid (K = k + psum (mkS).cnt xs i) ∧ 0 < K ∧ K ≤ 1000000000 ∧ Up w wr) (fun _ b _ => xs.length - (intOf b).toNat)
  case atStart => exact ⟨0, k, Nat.zero_le _, rfl, rfl, by unfold Hid; rw [psum_zero]; simp, hk0, by omega, Up.refl _⟩
  case round =>
    obtain ⟨i, K, hii, rfl, rfl, HK, hK0, hK1, hu⟩ := hrel
    by_cases hlt : i < xs.length
    · have hps := psum_le (mkS).cnt xs (i + 1)
      rw [psum_succ (mkS).cnt xs i hlt] at hps
      have hKb : K + ((mkS).cnt xs[i] : Nat) ≤ 1000000000 := by rw [HK.out]; omega
      have HK2 : Hid (K + ((mkS).cnt xs[i] : Nat) = k + psum (mkS).cnt xs (i + 1)) := by unfold Hid; rw [HK.out, psum_succ (mkS).cnt xs i hlt]; omega
      clear hps
      have hmi : (mkS).mark xs[i] K = xs[i] := by rw [HK.out]; exact marked_at HM.out hlt
      have hKc : K + ((1 : Nat) : Int) ≤ 1000000000 := hKb
      have v0 : (mtext (K)) = xs[i] := congrArg (fun q : ByteArray => q) hmi
      clear hmi
      obtain ⟨g, off, rfl, _, _, hc0, b0⟩ := (h.up good_S hu).at_S hlt
      rw [← v0] at hc0
      clear v0
      go_wp2_with fail
      have t0_0 := fun t : UpT wr => cell_up t hc0
      refine wp_region_up (by kernel_rfl) (by kernel_rfl) ?_
      repeat (go_big_quiet_step ((go_at_call 43; exact up_call (c_markText _ _ (by omega) (by omega)) (UpT.up _))))
      refine wpQuiet_nil ?_
      clear t0_0
      rintro w1 ⟨⟨_, u1⟩, rfl⟩
      try dsimp only
      have l1 := u1
      have c1_0 : w1.cell? ⟨g, off + i, none⟩ = some (.string (mtext (K))) := (l1.cell (cell_lt hc0)).trans hc0
      go_wp2_with fail
      have hcn : ((mkS).cnt xs[i] : Nat) = 1 := rfl
      have HK3 : Hid (K + 1 = k + psum (mkS).cnt xs (i + 1)) := by unfold Hid; rw [← HK2.out, hcn]; omega
      have hk5 : K + 1 ≤ 1000000000 := by rw [hcn] at hKb; omega
      clear hcn
      go_roundw
      case rel => exact ⟨i + 1, K + 1, by omega, rfl, by go_num, HK3, by omega, hk5, hu.trans l1⟩
      case measure => simp [intOf]; omega
    · have HE : Hid (K = k + ((mkL mkS).cnt xs : Nat)) := by unfold Hid; rw [HK.out]; show _ = k + (((xs.map (mkS).cnt).sum : Nat) : Int); rw [← psum_all (mkS).cnt xs, show i = xs.length by omega]
      go_wp2_with fail
      go_ret
      exact HeldP.mk HE hu

set_option maxRecDepth 100000 in
set_option maxHeartbeats 4000000 in
theorem c_heldImageS (xs : List TImage) (A : Option Addr) (c : Nat) (k : Int) (w : World) (h : SRW shImage w A c xs) (hm : markL mmImage xs k = xs) (hk0 : 0 < k) (hk1 : k + ((mkL mmImage).cnt xs : Nat) ≤ 1000000000) :
    Calls Tryz.prog 18 #[.slice A xs.length c, .int .i64 k] w (HeldP (k + ((mkL mmImage).cnt xs : Nat)) w) := by
  have hlen := h.len_le
  have HM := Lib.hid hm; clear hm
  have hk2 : k + ((xs.map (mmImage).cnt).sum : Nat) ≤ 1000000000 := hk1
  clear hk1
  go_enter Tryz.func18, Tryz.ntmps18
  go_wp2_with fail
  go_loopw [1, 5] (fun a b wr => ∃ (i : Nat) (K : Int), i ≤ xs.length ∧ a = .int .i64 K ∧ b = .int .i64 i ∧ Hid (K = k + psum (mmImage).cnt xs i) ∧ 0 < K ∧ K ≤ 1000000000 ∧ Up w wr) (fun _ b _ => xs.length - (intOf b).toNat)
  case atStart => exact ⟨0, k, Nat.zero_le _, rfl, rfl, by unfold Hid; rw [psum_zero]; simp, hk0, by omega, Up.refl _⟩
  case round =>
    obtain ⟨i, K, hii, rfl, rfl, HK, hK0, hK1, hu⟩ := hrel
    by_cases hlt : i < xs.length
    · have hps := psum_le (mmImage).cnt xs (i + 1)
      rw [psum_succ (mmImage).cnt xs i hlt] at hps
      have hKb : K + ((mmImage).cnt xs[i] : Nat) ≤ 1000000000 := by rw [HK.out]; omega
      have HK2 : Hid (K + ((mmImage).cnt xs[i] : Nat) = k + psum (mmImage).cnt xs (i + 1)) := by unfold Hid; rw [HK.out, psum_succ (mmImage).cnt xs i hlt]; omega
      clear hps
      have hmi : (mmImage).mark xs[i] K = xs[i] := by rw [HK.out]; exact marked_at HM.out hlt
      have hKc : K + ((1 + ((mkL mkS).cnt xs[i].2.1 + (1 + (1 + (1 + (1))))) : Nat) : Int) ≤ 1000000000 := hKb
      have v0 : (mtext (K)) = xs[i].1 := congrArg (fun q : TImage => q.1) hmi
      have v1 : (markL mkS xs[i].2.1 (K + 1)) = xs[i].2.1 := congrArg (fun q : TImage => q.2.1) hmi
      have v2 : ((K + 1 + ((mkL mkS).cnt xs[i].2.1 : Nat)) % 3 == 0) = xs[i].2.2.1 := congrArg (fun q : TImage => q.2.2.1) hmi
      have v3 : (mtext (K + 1 + ((mkL mkS).cnt xs[i].2.1 : Nat) + 1)) = xs[i].2.2.2.1 := congrArg (fun q : TImage => q.2.2.2.1) hmi
      have v4 : ((K + 1 + ((mkL mkS).cnt xs[i].2.1 : Nat) + 1 + 1) % 3 == 0) = xs[i].2.2.2.2.1 := congrArg (fun q : TImage => q.2.2.2.2.1) hmi
      have v5 : (mtext (K + 1 + ((mkL mkS).cnt xs[i].2.1 : Nat) + 1 + 1 + 1)) = xs[i].2.2.2.2.2 := congrArg (fun q : TImage => q.2.2.2.2.2) hmi
      clear hmi
      obtain ⟨g, off, A1, c1, rfl, _, _, hc0, hc1, hc2, hc3, hc4, hc5, b0, b1, b3, b5, _⟩ := atImage (h.up good_Image hu) hlt
      rw [← v0] at hc0
      clear v0
      have hv1 := Lib.hid v1; clear v1
      rw [← v2] at hc2
      clear v2
      rw [← v3] at hc3
      clear v3
      rw [← v4] at hc4
      clear v4
      rw [← v5] at hc5
      clear v5
      go_wp2_with fail
      have t0_0 := fun t : UpT wr => cell_up t hc0
      have t0_1 := fun t : UpT wr => cell_up t hc1
      have t0_2 := fun t : UpT wr => cell_up t hc2
      have t0_3 := fun t : UpT wr => cell_up t hc3
      have t0_4 := fun t : UpT wr => cell_up t hc4
      have t0_5 := fun t : UpT wr => cell_up t hc5
      refine wp_region_up (by kernel_rfl) (by kernel_rfl) ?_
      repeat (go_big_quiet_step ((go_at_call 43; exact up_call (c_markText _ _ (by omega) (by omega)) (UpT.up _))))
      refine wpQuiet_nil ?_
      clear t0_0 t0_1 t0_2 t0_3 t0_4 t0_5
      rintro w1 ⟨⟨_, u1⟩, rfl⟩
      try dsimp only
      have l1 := u1
      have c1_0 : w1.cell? ⟨g, off + i * 6, none⟩ = some (.string (mtext (K))) := (l1.cell (cell_lt hc0)).trans hc0
      have c1_1 : w1.cell? ⟨g, off + i * 6 + 1, none⟩ = some (.slice A1 xs[i].2.1.length c1) := (l1.cell (cell_lt hc1)).trans hc1
      have c1_2 : w1.cell? ⟨g, off + i * 6 + 2, none⟩ = some (.bool ((K + 1 + ((mkL mkS).cnt xs[i].2.1 : Nat)) % 3 == 0)) := (l1.cell (cell_lt hc2)).trans hc2
      have c1_3 : w1.cell? ⟨g, off + i * 6 + 3, none⟩ = some (.string (mtext (K + 1 + ((mkL mkS).cnt xs[i].2.1 : Nat) + 1))) := (l1.cell (cell_lt hc3)).trans hc3
      have c1_4 : w1.cell? ⟨g, off + i * 6 + 4, none⟩ = some (.bool ((K + 1 + ((mkL mkS).cnt xs[i].2.1 : Nat) + 1 + 1) % 3 == 0)) := (l1.cell (cell_lt hc4)).trans hc4
      have c1_5 : w1.cell? ⟨g, off + i * 6 + 5, none⟩ = some (.string (mtext (K + 1 + ((mkL mkS).cnt xs[i].2.1 : Nat) + 1 + 1 + 1))) := (l1.cell (cell_lt hc5)).trans hc5
      go_wp2_with fail
      refine (c_heldStringS _ _ _ _ _ (b1.up good_S l1) hv1.out (by omega) (by omega)).mono ?_
      rintro e w2 ⟨rfl, u2⟩
      have l2 := l1.trans u2
      have c2_0 : w2.cell? ⟨g, off + i * 6, none⟩ = some (.string (mtext (K))) := (l2.cell (cell_lt hc0)).trans hc0
      have c2_1 : w2.cell? ⟨g, off + i * 6 + 1, none⟩ = some (.slice A1 xs[i].2.1.length c1) := (l2.cell (cell_lt hc1)).trans hc1
      have c2_2 : w2.cell? ⟨g, off + i * 6 + 2, none⟩ = some (.bool ((K + 1 + ((mkL mkS).cnt xs[i].2.1 : Nat)) % 3 == 0)) := (l2.cell (cell_lt hc2)).trans hc2
      have c2_3 : w2.cell? ⟨g, off + i * 6 + 3, none⟩ = some (.string (mtext (K + 1 + ((mkL mkS).cnt xs[i].2.1 : Nat) + 1))) := (l2.cell (cell_lt hc3)).trans hc3
      have c2_4 : w2.cell? ⟨g, off + i * 6 + 4, none⟩ = some (.bool ((K + 1 + ((mkL mkS).cnt xs[i].2.1 : Nat) + 1 + 1) % 3 == 0)) := (l2.cell (cell_lt hc4)).trans hc4
      have c2_5 : w2.cell? ⟨g, off + i * 6 + 5, none⟩ = some (.string (mtext (K + 1 + ((mkL mkS).cnt xs[i].2.1 : Nat) + 1 + 1 + 1))) := (l2.cell (cell_lt hc5)).trans hc5
      go_wp2_with fail
      have t2_0 := fun t : UpT w2 => cell_up t c2_0
      have t2_1 := fun t : UpT w2 => cell_up t c2_1
      have t2_2 := fun t : UpT w2 => cell_up t c2_2
      have t2_3 := fun t : UpT w2 => cell_up t c2_3
      have t2_4 := fun t : UpT w2 => cell_up t c2_4
      have t2_5 := fun t : UpT w2 => cell_up t c2_5
      refine wp_region_up (by kernel_rfl) (by kernel_rfl) ?_
      repeat (go_big_quiet_step ((go_at_call 43; exact up_call (c_markText _ _ (by omega) (by omega)) (UpT.up _))))
      refine wpQuiet_nil ?_
      clear t2_0 t2_1 t2_2 t2_3 t2_4 t2_5
      rintro w3 ⟨⟨_, u3⟩, rfl⟩
      try dsimp only
      have l3 := l2.trans u3
      have c3_0 : w3.cell? ⟨g, off + i * 6, none⟩ = some (.string (mtext (K))) := (l3.cell (cell_lt hc0)).trans hc0
      have c3_1 : w3.cell? ⟨g, off + i * 6 + 1, none⟩ = some (.slice A1 xs[i].2.1.length c1) := (l3.cell (cell_lt hc1)).trans hc1
      have c3_2 : w3.cell? ⟨g, off + i * 6 + 2, none⟩ = some (.bool ((K + 1 + ((mkL mkS).cnt xs[i].2.1 : Nat)) % 3 == 0)) := (l3.cell (cell_lt hc2)).trans hc2
      have c3_3 : w3.cell? ⟨g, off + i * 6 + 3, none⟩ = some (.string (mtext (K + 1 + ((mkL mkS).cnt xs[i].2.1 : Nat) + 1))) := (l3.cell (cell_lt hc3)).trans hc3
      have c3_4 : w3.cell? ⟨g, off + i * 6 + 4, none⟩ = some (.bool ((K + 1 + ((mkL mkS).cnt xs[i].2.1 : Nat) + 1 + 1) % 3 == 0)) := (l3.cell (cell_lt hc4)).trans hc4
      have c3_5 : w3.cell? ⟨g, off + i * 6 + 5, none⟩ = some (.string (mtext (K + 1 + ((mkL mkS).cnt xs[i].2.1 : Nat) + 1 + 1 + 1))) := (l3.cell (cell_lt hc5)).trans hc5
      go_wp2_with fail
      have t3_0 := fun t : UpT w3 => cell_up t c3_0
      have t3_1 := fun t : UpT w3 => cell_up t c3_1
      have t3_2 := fun t : UpT w3 => cell_up t c3_2
      have t3_3 := fun t : UpT w3 => cell_up t c3_3
      have t3_4 := fun t : UpT w3 => cell_up t c3_4
      have t3_5 := fun t : UpT w3 => cell_up t c3_5
      refine wp_region_up (by kernel_rfl) (by kernel_rfl) ?_
      repeat (go_big_quiet_step ((go_at_call 43; exact up_call (c_markText _ _ (by omega) (by omega)) (UpT.up _))))
      refine wpQuiet_nil ?_
      clear t3_0 t3_1 t3_2 t3_3 t3_4 t3_5
      rintro w4 ⟨⟨_, u4⟩, rfl⟩
      try dsimp only
      have l4 := l3.trans u4
      have c4_0 : w4.cell? ⟨g, off + i * 6, none⟩ = some (.string (mtext (K))) := (l4.cell (cell_lt hc0)).trans hc0
      have c4_1 : w4.cell? ⟨g, off + i * 6 + 1, none⟩ = some (.slice A1 xs[i].2.1.length c1) := (l4.cell (cell_lt hc1)).trans hc1
      have c4_2 : w4.cell? ⟨g, off + i * 6 + 2, none⟩ = some (.bool ((K + 1 + ((mkL mkS).cnt xs[i].2.1 : Nat)) % 3 == 0)) := (l4.cell (cell_lt hc2)).trans hc2
      have c4_3 : w4.cell? ⟨g, off + i * 6 + 3, none⟩ = some (.string (mtext (K + 1 + ((mkL mkS).cnt xs[i].2.1 : Nat) + 1))) := (l4.cell (cell_lt hc3)).trans hc3
      have c4_4 : w4.cell? ⟨g, off + i * 6 + 4, none⟩ = some (.bool ((K + 1 + ((mkL mkS).cnt xs[i].2.1 : Nat) + 1 + 1) % 3 == 0)) := (l4.cell (cell_lt hc4)).trans hc4
      have c4_5 : w4.cell? ⟨g, off + i * 6 + 5, none⟩ = some (.string (mtext (K + 1 + ((mkL mkS).cnt xs[i].2.1 : Nat) + 1 + 1 + 1))) := (l4.cell (cell_lt hc5)).trans hc5
      go_wp2_with fail
      have hcn : ((mmImage).cnt xs[i] : Nat) = 1 + ((mkL mkS).cnt xs[i].2.1 + (1 + (1 + (1 + (1))))) := rfl
      have HK3 : Hid (K + 1 + ((mkL mkS).cnt xs[i].2.1 : Nat) + 1 + 1 + 1 + 1 = k + psum (mmImage).cnt xs (i + 1)) := by unfold Hid; rw [← HK2.out, hcn]; omega
      have hk5 : K + 1 + ((mkL mkS).cnt xs[i].2.1 : Nat) + 1 + 1 + 1 + 1 ≤ 1000000000 := by rw [hcn] at hKb; omega
      clear hcn
      go_roundw
      case rel => exact ⟨i + 1, K + 1 + ((mkL mkS).cnt xs[i].2.1 : Nat) + 1 + 1 + 1 + 1, by omega, rfl, by go_num, HK3, by omega, hk5, hu.trans l4⟩
      case measure => simp [intOf]; omega
    · have HE : Hid (K = k + ((mkL mmImage).cnt xs : Nat)) := by unfold Hid; rw [HK.out]; show _ = k + (((xs.map (mmImage).cnt).sum : Nat) : Int); rw [← psum_all (mmImage).cnt xs, show i = xs.length by omega]
      go_wp2_with fail
      go_ret
      exact HeldP.mk HE hu

end Go.Proofs.YtehhgogmbpdpbaaGreatDoor

namespace Go.Proofs.YtehhgogmbpdpbaaGreatDoor
open Go.RowKit
set_option linter.unusedVariables false

end Go.Proofs.YtehhgogmbpdpbaaGreatDoor
