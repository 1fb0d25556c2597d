/-
  Contracts of the held helpers.
  NewBtree: the program's and the reference's give one tree in new memory.
-/
import Derived.Test.YtpjcgglhlmifdaaGreatDoorM1Lm
import Derived.Test.YtpjcgglhlmifdaaGreatDoorM1Le
namespace Go.Proofs.YtpjcgglhlmifdaaGreatDoor
open Go.RowKit
set_option linter.unusedVariables false
set_option linter.unusedSimpArgs false

set_option maxRecDepth 100000 in
set_option maxHeartbeats 4000000 in
theorem c_heldInt64S (xs : List Int) (A : Option Addr) (c : Nat) (k : Int) (w : World) (h : SRW shI w A c xs) (hm : markL mkI xs k = xs) (hk0 : 0 < k) (hk1 : k + ((mkL mkI).cnt xs : Nat) ≤ 1000000000) :
    Calls Tryz.prog 28 #[.slice A xs.length c, .int .i64 k] w (HeldP (k + ((mkL mkI).cnt xs : Nat)) w) := by
  have hlen := h.len_le
  have HM := Lib.hid hm; clear hm
  have hk2 : k + ((xs.map (mkI).cnt).sum : Nat) ≤ 1000000000 := hk1
  clear hk1
  go_enter Tryz.func28, Tryz.ntmps28
  go_wp2_with fail
  go_loopw [1, 5] (fun a b wr => ∃ (i : Nat) (K : Int), i ≤ xs.length ∧ a = .int .i64 K ∧ b = .int .i64 i ∧ Hid (K = k + psum (mkI).cnt xs i) ∧ 0 < K ∧ K ≤ 1000000000 ∧ Up w wr) (fun _ b _ => xs.length - (intOf b).toNat)
  case atStart => exact ⟨0, k, Nat.zero_le _, rfl, rfl, by unfold Hid; rw [psum_zero]; simp, hk0, by omega, Up.refl _⟩
  case round =>
    obtain ⟨i, K, hii, rfl, rfl, HK, hK0, hK1, hu⟩ := hrel
    by_cases hlt : i < xs.length
    · have hps := psum_le (mkI).cnt xs (i + 1)
      rw [psum_succ (mkI).cnt xs i hlt] at hps
      have hKb : K + ((mkI).cnt xs[i] : Nat) ≤ 1000000000 := by rw [HK.out]; omega
      have HK2 : Hid (K + ((mkI).cnt xs[i] : Nat) = k + psum (mkI).cnt xs (i + 1)) := by unfold Hid; rw [HK.out, psum_succ (mkI).cnt xs i hlt]; omega
      clear hps
      have hmi : (mkI).mark xs[i] K = xs[i] := by rw [HK.out]; exact marked_at HM.out hlt
      have hKc : K + ((1 : Nat) : Int) ≤ 1000000000 := hKb
      have v0 : (K) = xs[i] := congrArg (fun q : Int => q) hmi
      clear hmi
      obtain ⟨g, off, rfl, _, _, hc0, b0⟩ := (h.up good_I hu).at_I hlt
      rw [← v0] at hc0
      clear v0
      go_wp2_with fail
      have hcn : ((mkI).cnt xs[i] : Nat) = 1 := rfl
      have HK3 : Hid (K + 1 = k + psum (mkI).cnt xs (i + 1)) := by unfold Hid; rw [← HK2.out, hcn]; omega
      have hk5 : K + 1 ≤ 1000000000 := by rw [hcn] at hKb; omega
      clear hcn
      go_roundw
      case rel => exact ⟨i + 1, K + 1, by omega, rfl, by go_num, HK3, by omega, hk5, hu⟩
      case measure => simp [intOf]; omega
    · have HE : Hid (K = k + ((mkL mkI).cnt xs : Nat)) := by unfold Hid; rw [HK.out]; show _ = k + (((xs.map (mkI).cnt).sum : Nat) : Int); rw [← psum_all (mkI).cnt xs, show i = xs.length by omega]
      go_wp2_with fail
      go_ret
      exact HeldP.mk HE hu









end Go.Proofs.YtpjcgglhlmifdaaGreatDoor

namespace Go.Proofs.YtpjcgglhlmifdaaGreatDoor
open Go.RowKit
set_option linter.unusedVariables false

end Go.Proofs.YtpjcgglhlmifdaaGreatDoor
